/-
  Program's code interpreted over typed values; printed texts; plain laws. No conditions.
-/
import Derived.Test.YtnemiodjnhfejaaGreatLTd
import Derived.Test.YtnemiodjnhfejaaGreatLTe
import Derived.Test.YtnemiodjnhfejaaGreatLTf
set_option linter.unusedVariables false
set_option maxRecDepth 100000
namespace Go.PI.G
noncomputable section
open Go Go.PI Go.Proofs
open Go.Code (pl pr)
def j0w (r:List qV) (b:qW->Res):Res:=bif lim (0+(List.length r)) then b r else none
def j6y:Sig Unit:=sg [.borrow y3 true] [true] [(y3,none)] [] λd f k=>j0w d.1 (λb=>k [⟨y3,true,b,[.O]⟩] [] [])
theorem j4e:SO 115 j6y:=fK (np:=0) Zas [] oN false Tryz.func115 λ_ _ _ _=>by kernel_rfl
def j3W (c:qB×Int×Bool×Bool×Int×Int×qB) (d:Int×Int×qB) (b:Bool->Res):Res:=bif (d.1==0) then j1g d λr=>bif r then b (!c.2.2.1) else b false else j1g d λf=>bif f then b (d.1==c.2.1) else b false
def j7Z:Sig Unit:=sg [.look y7 true,.look y2 true] [false] [(y7,none),(y2,none)] [] λb f k=>j3W b.1 b.2.1 (λd=>k [wB d] [] [])
theorem jf6:SO 281 j7Z:=fK (np:=0) (Za6 j7g Zas) [] oN false Tryz.func281 λ_ _ _ _=>by delta j3W jad;refine gz j1g λ_ b=> ?_;rewrite [<-b];kernel_rfl
theorem jh4:FS [(227,j0Z),(281,j7Z)]:=(Za6 j3g (Za6 jf6 Zas))
def j4H (d:List qC) (f:Int) (r:List qV) (b:Int) (rec:Int->Res) (g:Unit->Res) (h:Unit->Res):Res:=bif decide (b<f) then bif inb b (List.length d) then bif inb b (List.length r) then j3W (nth (eS,0,false,false,0,0,eS) d b) (nth (0,0,eS) r b) λi=>bif !i then h () else rec (Z9K (b+1)) else none else none else g ()
def j76 (b:List qC) (d:Int) (r:List qV):Int->(Int->Res)->((Unit->Res)×(Unit->Res))->Res:=λv rec q=>j4H b d r v (λf=>rec (f)) q.1 q.2
def jc6 (b:List qC) (d:Int) (r:List qV) (n:Nat) (f:Int) (g:Unit->Res) (h:Unit->Res):Res:=Z1f (j76 b d r) n (f) (g,h)
def jbt:Z1d Unit:=NdL 36 36 [.t 3 (pB 3),.R 20 y8 .S,.I 21,.I 22] [(3,y3,[.S])] (λb d=>(b.2.2.1)) (λb v=>(b.1,b.2.1,v,())) (λd v=>((d.1.1,d.1.2),())) (λb d=>j76 b.1 b.2.1 d.1.2) λb d f=>((λ_=>f (.exit 0) [] []),(λ_=>f .ret [(4,vB false)] []))
theorem jll:CN 0 58 Tryz.f228 jbt:=lK jh4 [] oN ([],[]) [(0,[],[])] ([4],[]) λ_ _ _ _ _=>by kernel_rfl
def j2b (t:qB×qE×qL) (r:List qV) (b:Bool->Res):Res:=j0s t λd=>bif !d then b false else bif ((nI (List.length r)) != (nI (List.length t.2.1))) then b false else jc6 t.2.1 (nI (List.length t.2.1)) r Z1c 0 (λ_=>b true) (λ_=>b false)
def j7x:Sig Unit:=sg [.look y29 true,.look y3 true] [false] [(y29,none),(y3,none)] [] λb f k=>j2b b.1 b.2.1 (λd=>k [wB d] [] [])
theorem jcN:SO 228 j7x:=fK (np:=0) jh4 [jbt] (oI 58 0 @jll oN) false Tryz.func228 λ_ _ _ _=>by delta j2b j0Z jbt jc6;refine gz j0s λ_ b=>gz j76 λ_ d=> ?_;rewrite [<-b,<-d];kernel_rfl
def j3X (f:qL) (g:Int) (t:qB×qE×qL) (r:List qV) (d:List qV) (b:Int) (rec:qW->Int->Res) (i:qW->Res):Res:=bif decide (b<g) then bif inb b (List.length f) then j0F t (nth eS f b) λh=>bif inb h (List.length r) then bif lim ((List.length d)+1) then rec (d++[nth (0,0,eS) r h]) (Z9K (b+1)) else none else none else none else i d
def j9d (d:qL) (f:Int) (t:qB×qE×qL) (r:List qV):(qW×Int)->(qW×Int->Res)->((qW->Res))->Res:=λv rec q=>j3X d f t r v.1 v.2 (λb g=>rec (b,g)) q
def jfz (d:qL) (f:Int) (t:qB×qE×qL) (r:List qV) (n:Nat) (b:List qV) (g:Int) (h:qW->Res):Res:=Z1f (j9d d f t r) n (b,g) (h)
def jel:Z1d Unit:=NdL 28 28 [.t 2 (pB 2),.t 3 (pB 3),.R 5 y3 .O,.R 10 y0 .S,.I 11,.I 12] [(2,y29,[.S,.S]),(3,y3,[.S])] (λb d=>(b.1,b.2.2.2.1)) (λb v=>(v.1,b.2.1,b.2.2.1,v.2,())) (λd v=>((d.1.1,d.1.2),(d.2.1.1,d.2.1.2),())) (λb d=>j9d b.2.1 b.2.2.1 d.1.2 d.2.1.2) λb d g=>((λf=>g (.exit 0) [(5,v1 y3 f .O)] []))
theorem jkk:CN 0 58 Tryz.f173 jel:=lK (Za6 j5e Zas) [] oN ([],[]) [(0,[5],[])] ([],[]) λ_ _ _ _ _=>by kernel_rfl
def j0v (t:qB×qE×qL) (r:List qV) (d:qW->Res):Res:=jfz t.2.2 (nI (List.length t.2.2)) t r Z1c [] 0 λb=>d b
def j1f:Sig Unit:=sg [.borrow y29 true,.borrow y3 true] [false] [(y29,none),(y3,none)] [] λb f k=>j0v b.1 b.2.1 (λd=>k [w1 y3 d .O] [] [])
theorem j6t:SO 173 j1f:=fK (np:=0) (Za6 j5e Zas) [jel] (oI 58 0 @jkk oN) false Tryz.func173 λ_ _ _ _=>by kernel_rfl
def j2P (a:List qV) (b:List qV) (i:Int) (rec:Int->Res) (d:Unit->Res) (f:Bool->Res):Res:=bif decide (i<(nI (List.length a))) then bif decide (i<(nI (List.length b))) then bif inb i (List.length a) then bif inb i (List.length b) then bif !(((nth (0,0,eS) a i).1==(nth (0,0,eS) b i).1)&&(((nth (0,0,eS) a i).2.1==(nth (0,0,eS) b i).2.1)&&(sEq (nth (0,0,eS) a i).2.2 (nth (0,0,eS) b i).2.2))) then bif inb i (List.length a) then bif inb i (List.length b) then j7D (nth (0,0,eS) a i) (nth (0,0,eS) b i) λr=>f r else none else none else rec (Z9K (i+1)) else none else none else d () else d ()
def j8l (a:List qV) (b:List qV):Int->(Int->Res)->((Unit->Res)×(Bool->Res))->Res:=λv rec q=>j2P a b v (λi=>rec (i)) q.1 q.2
def je1 (a:List qV) (b:List qV) (n:Nat) (i:Int) (d:Unit->Res) (f:Bool->Res):Res:=Z1f (j8l a b) n (i) (d,f)
def jdr:Z1d Unit:=NdL 41 41 [.R 0 y3 .S,.R 1 y3 .S,.I 5] [] (λb d=>(b.2.2.1)) (λb v=>(b.1,b.2.1,v,())) (λd v=>()) (λb d=>j8l b.1 b.2.1) λb d f=>((λ_=>f (.exit 0) [(0,v1 y3 b.1 .S),(1,v1 y3 b.2.1 .S)] []),(λg=>f .ret [(4,vB g)] []))
theorem jja:CN 0 26 Tryz.f229 jdr:=lK (Za6 jf3 Zas) [] oN ([],[]) [(0,[0,1],[])] ([4],[]) λ_ _ _ _ _=>by kernel_rfl
def j3Q (a:List qV) (b:List qV) (d:Bool->Res):Res:=je1 a b Z1c 0 (λ_=>d (decide ((nI (List.length a))<(nI (List.length b))))) (λt=>d t)
def j5G:Sig Unit:=sg [.look y3 false,.look y3 false] [false] [(y3,none),(y3,none)] [] λb f k=>j3Q b.1 b.2.1 (λd=>k [wB d] [] [])
theorem jf2:SO 229 j5G:=fK (np:=0) (Za6 jf3 Zas) [jdr] (oI 26 0 @jja oN) false Tryz.func229 λ_ _ _ _=>by kernel_rfl
theorem jgh:FS [(173,j1f),(227,j0Z),(228,j7x),(229,j5G)]:=(Za6 j6t (Za6 j3g (Za6 jcN (Za6 jf2 Zas))))
def j25 (l:List qW) (d:List qW) (f:Int) (t:qB×qE×qL) (b:Int) (rec:Int->Res) (h:Unit->Res) (g:Unit->Res):Res:=bif decide (b<f) then bif inb b (List.length d) then j2b t (nth [] d b) λr=>bif !r then g () else bif decide (b>0) then bif inb (Z9K (b-1)) (List.length l) then j0v t (nth [] l (Z9K (b-1))) λi=>j0v t (nth [] d b) λj=>j3Q i j λk=>bif !k then g () else rec (Z9K (b+1)) else none else rec (Z9K (b+1)) else none else h ()
def j3R (l:List qW) (b:List qW) (d:Int) (t:qB×qE×qL):Int->(Int->Res)->((Unit->Res)×(Unit->Res))->Res:=λv rec q=>j25 l b d t v (λf=>rec (f)) q.1 q.2
def jbi (l:List qW) (b:List qW) (d:Int) (t:qB×qE×qL) (n:Nat) (f:Int) (g:Unit->Res) (h:Unit->Res):Res:=Z1f (j3R l b d t) n (f) (g,h)
def jaE:Z1d Unit:=NdL 45 45 [.R 1 y31 .S,.t 2 (pB 2),.R 15 y31 .S,.I 16,.I 17] [(2,y29,[.S,.S])] (λb d=>(b.2.2.2.1)) (λb v=>(b.1,b.2.1,b.2.2.1,v,())) (λd v=>((d.1.1,d.1.2),())) (λb d=>j3R b.1 b.2.1 b.2.2.1 d.1.2) λb d f=>((λ_=>f (.exit 0) [] []),(λ_=>f .ret [(4,vB false)] []))
theorem jke:CN 0 58 Tryz.f172 jaE:=lK jgh [] oN ([],[]) [(0,[],[])] ([4],[]) λ_ _ _ _ _=>by delta j3R j25 j7x j1f j5G;refine gz j2b λ_ b=>gz j0v λ_ d=>gz j3Q λ_ f=> ?_;rewrite [<-b,<-d,<-f];kernel_rfl
def j0u (t:qB×qE×qL) (l:List qW) (b:Bool->Res):Res:=j0s t λr=>bif !r then b false else bif decide ((nI (List.length l))>60) then b false else jbi l l (nI (List.length l)) t Z1c 0 (λ_=>b true) (λ_=>b false)
def j1d:Sig Unit:=sg [.look y29 true,.look y31 false] [false] [(y29,none),(y31,none)] [] λb f k=>j0u b.1 b.2.1 (λd=>k [wB d] [] [])
theorem j4d:SO 172 j1d:=fK (np:=0) jgh [jaE] (oI 58 0 @jke oN) false Tryz.func172 λ_ _ _ _=>by delta j0u j0Z jaE jbi;refine gz j0s λ_ b=>gz j3R λ_ d=> ?_;rewrite [<-b,<-d];kernel_rfl
def j2Z (f:List qW) (h:Int) (b:List qW) (d:Int) (rec:qR->Int->Res) (g:qR->Res):Res:=bif decide (d<h) then bif inb d (List.length f) then j0w (nth [] f d) λr=>bif lim ((List.length b)+1) then rec (b++[r]) (Z9K (d+1)) else none else none else g b
def j8p (d:List qW) (f:Int):(qR×Int)->(qR×Int->Res)->((qR->Res))->Res:=λv rec q=>j2Z d f v.1 v.2 (λb g=>rec (b,g)) q
def je5 (f:List qW) (g:Int) (n:Nat) (b:List qW) (h:Int) (d:qR->Res):Res:=Z1f (j8p f g) n (b,h) (d)
def jdv:Z1d Unit:=NdL 20 20 [.R 3 y31 .O,.R 7 y31 .S,.I 8,.I 9] [] (λb f=>(b.1,b.2.2.2.1)) (λb v=>(v.1,b.2.1,b.2.2.1,v.2,())) (λf v=>()) (λb f=>j8p b.2.1 b.2.2.1) λb f g=>((λd=>g (.exit 0) [(3,v1 y31 d .O)] []))
theorem jjo:CN 0 58 Tryz.f244 jdv:=lK (Za6 j4e Zas) [] oN ([],[]) [(0,[3],[])] ([],[]) λ_ _ _ _ _=>by kernel_rfl
def j5W (l:List qW) (d:qR->Res):Res:=je5 l (nI (List.length l)) Z1c [] 0 λb=>d b
def j7Y:Sig Unit:=sg [.borrow y31 false] [false] [(y31,none)] [] λd f k=>j5W d.1 (λb=>k [w1 y31 b .O] [] [])
theorem jf5:SO 244 j7Y:=fK (np:=0) (Za6 j4e Zas) [jdv] (oI 58 0 @jjo oN) false Tryz.func244 λ_ _ _ _=>by kernel_rfl
def j1r (a:List qV) (b:List qV) (f:Int) (d:Int) (rec:Int->Res) (g:Unit->Res) (h:Unit->Res):Res:=bif decide (d<f) then bif inb d (List.length a) then bif inb d (List.length b) then bif !(((nth (0,0,eS) a d).1==(nth (0,0,eS) b d).1)&&(((nth (0,0,eS) a d).2.1==(nth (0,0,eS) b d).2.1)&&(sEq (nth (0,0,eS) a d).2.2 (nth (0,0,eS) b d).2.2))) then h () else rec (Z9K (d+1)) else none else none else g ()
def j5Y (a:List qV) (b:List qV) (d:Int):Int->(Int->Res)->((Unit->Res)×(Unit->Res))->Res:=λv rec q=>j1r a b d v (λf=>rec (f)) q.1 q.2
def jaP (a:List qV) (b:List qV) (d:Int) (n:Nat) (f:Int) (g:Unit->Res) (h:Unit->Res):Res:=Z1f (j5Y a b d) n (f) (g,h)
def jaI:Z1d Unit:=NdL 26 26 [.R 0 y3 .S,.R 1 y3 .S,.I 12,.I 13] [] (λb d=>(b.2.2.2.1)) (λb v=>(b.1,b.2.1,b.2.2.1,v,())) (λd v=>()) (λb d=>j5Y b.1 b.2.1 b.2.2.1) λb d f=>((λ_=>f (.exit 0) [] []),(λ_=>f .ret [(4,vB false)] []))
theorem jg0:CN 0 58 Tryz.f126 jaI:=lK Zas [] oN ([],[]) [(0,[],[])] ([4],[]) λ_ _ _ _ _=>by kernel_rfl
def j3Z (a:List qV) (b:List qV) (d:Bool->Res):Res:=bif ((nI (List.length a)) != (nI (List.length b))) then d false else jaP a b (nI (List.length a)) Z1c 0 (λ_=>d true) (λ_=>d false)
def j7y:Sig Unit:=sg [.look y3 false,.look y3 false] [false] [(y3,none),(y3,none)] [] λb f k=>j3Z b.1 b.2.1 (λd=>k [wB d] [] [])
theorem jhj:SO 126 j7y:=fK (np:=0) Zas [jaI] (oI 58 0 @jg0 oN) false Tryz.func126 λ_ _ _ _=>by kernel_rfl
theorem jh3:FS [(126,j7y),(172,j1d),(173,j1f)]:=(Za6 jhj (Za6 j4d (Za6 j6t Zas)))
def j2t (f:List qV) (d:List qW) (g:Int) (t:qB×qE×qL) (b:Int) (rec:Int->Res) (h:Unit->Res) (i:Int->Res):Res:=bif decide (b<g) then bif inb b (List.length d) then j0v t (nth [] d b) λr=>j3Z r f λj=>bif j then i b else rec (Z9K (b+1)) else none else h ()
def j4G (b:List qV) (d:List qW) (f:Int) (t:qB×qE×qL):Int->(Int->Res)->((Unit->Res)×(Int->Res))->Res:=λv rec q=>j2t b d f t v (λg=>rec (g)) q.1 q.2
def jc5 (b:List qV) (d:List qW) (f:Int) (t:qB×qE×qL) (n:Nat) (g:Int) (h:Unit->Res) (i:Int->Res):Res:=Z1f (j4G b d f t) n (g) (h,i)
def jbs:Z1d Unit:=NdL 27 27 [.R 2 y3 .S,.t 3 (pB 3),.R 13 y31 .S,.I 14,.I 15] [(3,y29,[.S,.S])] (λb d=>(b.2.2.2.1)) (λb v=>(b.1,b.2.1,b.2.2.1,v,())) (λd v=>((d.1.1,d.1.2),())) (λb d=>j4G b.1 b.2.1 b.2.2.1 d.1.2) λb d f=>((λ_=>f (.exit 0) [] []),(λg=>f .ret [(6,vI g)] []))
theorem jlk:CN 0 58 Tryz.f114 jbs:=lK jh3 [] oN ([],[]) [(0,[],[])] ([6],[]) λ_ _ _ _ _=>by delta j4G j2t j1f j7y;refine gz j0v λ_ b=>gz j3Z λ_ d=> ?_;rewrite [<-b,<-d];kernel_rfl
def j1y (t:qB×qE×qL) (l:List qW) (d:List qV) (b:Int->Res):Res:=j0u t l λr=>bif !r then b (-1) else jc5 d l (nI (List.length l)) t Z1c 0 (λ_=>b (-1)) (λf=>b f)
def jac:Sig Unit:=sg [.look y29 true,.look y31 false,.look y3 false] [false] [(y29,none),(y31,none),(y3,none)] [] λb f k=>j1y b.1 b.2.1 b.2.2.1 (λd=>k [wI d] [] [])
theorem jcM:SO 114 jac:=fK (np:=0) jh3 [jbs] (oI 58 0 @jlk oN) false Tryz.func114 λ_ _ _ _=>by delta j1y j1d jbs jc5;refine gz j0u λ_ b=>gz j4G λ_ d=> ?_;rewrite [<-b,<-d];kernel_rfl
theorem jbN:FS [(115,j6y),(173,j1f),(229,j5G)]:=(Za6 j4e (Za6 j6t (Za6 jf2 Zas)))
def j5X (b:List qW) (done:Bool) (t:qB×qE×qL) (r:List qV) (x:List qV) (d:qR->Bool->Res):Res:=bif !done then j0v t r λf=>j0v t x λg=>j3Q f g λh=>bif h then j0w r λi=>bif lim ((List.length b)+1) then d (b++[i]) true else none else d b done else d b done
def j7d:Z1d Unit:=Nd 48 48 [.t 3 (pB 3),.t 5 (pB 5),.R 7 y31 .O,.B 8,.t 10 (pB 10),.R 12 y31 .S,.I 13,.I 14] [(3,y29,[.S,.S]),(5,y3,[.S]),(10,y3,[.S])] λg b h=>j5X g.1 g.2.1 b.1.2 b.2.1.2 b.2.2.1.2 (λf d=>h .normal [(3,pB 3),(5,pB 5),(7,v1 y31 f .O),(8,vB d),(10,pB 10),(12,v1 y31 g.2.2.1 .S),(13,vI g.2.2.2.1),(14,vI g.2.2.2.2.1)] [(3,⟨y29,b.1.1,b.1.2,[.S,.S]⟩),(5,⟨y3,b.2.1.1,b.2.1.2,[.S]⟩),(10,⟨y3,b.2.2.1.1,b.2.2.1.2,[.S]⟩)])
theorem jkm:CN 0 15666 Tryz.f312 j7d:=nK jbN [] oN ([3,5,7,8,10,12,13,14],[3,5,10]) [] ([],[]) λ_ _ _=>by delta j5X j1f j5G j6y;refine gz j0v λ_ b=>gz j3Q λ_ d=>gz j0w λ_ f=> ?_;rewrite [<-b,<-d,<-f];kernel_rfl
def j26 (g:List qW) (i:Int) (t:qB×qE×qL) (r:List qV) (h:List qW) (done:Bool) (b:Int) (rec:qR->Bool->Int->Res) (j:qR->Bool->Res):Res:=bif decide (b<i) then bif inb b (List.length g) then j5X h done t r (nth [] g b) λd f=>j0w (nth [] g b) λk=>bif lim ((List.length d)+1) then rec (d++[k]) f (Z9K (b+1)) else none else none else j h done
def j3Y (d:List qW) (f:Int) (t:qB×qE×qL) (r:List qV):(qR×Bool×Int)->(qR×Bool×Int->Res)->((qR->Bool->Res))->Res:=λv rec q=>j26 d f t r v.1 v.2.1 v.2.2 (λb done g=>rec (b,done,g)) q
def jbm (d:List qW) (f:Int) (t:qB×qE×qL) (r:List qV) (n:Nat) (b:List qW) (done:Bool) (g:Int) (h:qR->Bool->Res):Res:=Z1f (j3Y d f t r) n (b,done,g) (h)
def jaH:Z1d Unit:=NdL 48 48 [.t 3 (pB 3),.t 5 (pB 5),.R 7 y31 .O,.B 8,.R 12 y31 .S,.I 13,.I 14] [(3,y29,[.S,.S]),(5,y3,[.S])] (λd b=>(d.1,d.2.1,d.2.2.2.2.1)) (λd v=>(v.1,v.2.1,d.2.2.1,d.2.2.2.1,v.2.2,())) (λb v=>((b.1.1,b.1.2),(b.2.1.1,b.2.1.2),())) (λd b=>j3Y d.2.2.1 d.2.2.2.1 b.1.2 b.2.1.2) λd b h=>((λg f=>h (.exit 0) [(5,pB 5),(7,v1 y31 g .O),(8,vB f)] [(5,⟨y3,b.2.1.1,b.2.1.2,[.S]⟩)]))
theorem jkl:CN 0 122 Tryz.f312 jaH:=lK jbN [j7d] (oI 114 0 @jkm oN) ([],[]) [(0,[5,7,8],[5])] ([],[]) λ_ _ _ _ _=>by delta j3Y j26 j7d j6y;refine gz j5X λ_ b=>gz j0w λ_ d=> ?_;rewrite [<-b,<-d];kernel_rfl
def j3f (t:qB×qE×qL) (l:List qW) (r:List qV) (d:qR->Res):Res:=jbm l (nI (List.length l)) t r Z1c [] false 0 λb done=>bif !done then j0w r λf=>bif lim ((List.length b)+1) then d (b++[f]) else none else d b
def jc1:Sig Unit:=sg [.borrow y29 true,.borrow y31 false,.borrow y3 true] [false] [(y29,none),(y31,none),(y3,none)] [] λb f k=>j3f b.1 b.2.1 b.2.2.1 (λd=>k [w1 y31 d .O] [] [])
theorem jgw:SO 312 jc1:=fK (np:=0) jbN [j7d,jaH] (oI 122 1 @jkl oN) false Tryz.func312 λ_ _ _ _=>by delta j3f jaH j6y jbm;refine gz j3Y λ_ b=>gz j0w λ_ d=> ?_;rewrite [<-b,<-d];kernel_rfl
def j6N (t:qB×qE×qL) (l:List qW) (r:List qV) (b:qR->Int->Res):Res:=j0u t l λd=>bif !d then b [] 1 else j2b t r λf=>bif !f then b [] 2 else j0v t r λg=>j1y t l g λh=>bif decide (h>=0) then b [] 3 else bif ((nI (List.length l))==60) then b [] 4 else j3f t l r λi=>b i 0
def jgM:Sig Unit:=sg [.borrow y29 true,.borrow y31 false,.borrow y3 true] [false,false] [(y29,none),(y31,none),(y3,none)] [] λb g k=>j6N b.1 b.2.1 b.2.2.1 (λd f=>k [w1 y31 d .O,wI f] [] [])
theorem jmm:SO 288 jgM:=fK (np:=0) (Za6 jcM (Za6 j4d (Za6 j6t (Za6 jcN (Za6 jgw Zas))))) [] oN false Tryz.func288 λ_ _ _ _=>by delta j6N j1d j7x j1f jac jc1;refine gz j0u λ_ b=>gz j2b λ_ d=>gz j0v λ_ f=>gz j1y λ_ g=>gz j3f λ_ h=> ?_;rewrite [<-b,<-d,<-f,<-g,<-h];kernel_rfl
theorem jh1:FS [(227,j0Z),(230,j2h),(281,j7Z)]:=(Za6 j3g (Za6 j5e (Za6 jf6 Zas)))
def j2s (d:List qV) (f:qL) (g:Int) (t:qB×qE×qL) (b:Int) (rec:Int->Res) (h:Unit->Res) (i:Unit->Res):Res:=bif decide (b<g) then bif inb b (List.length f) then bif inb b (List.length d) then j0F t (nth eS f b) λr=>bif inb r (List.length t.2.1) then j3W (nth (eS,0,false,false,0,0,eS) t.2.1 r) (nth (0,0,eS) d b) λj=>bif !j then i () else rec (Z9K (b+1)) else none else none else none else h ()
def j4F (b:List qV) (d:qL) (f:Int) (t:qB×qE×qL):Int->(Int->Res)->((Unit->Res)×(Unit->Res))->Res:=λv rec q=>j2s b d f t v (λg=>rec (g)) q.1 q.2
def jc4 (b:List qV) (d:qL) (f:Int) (t:qB×qE×qL) (n:Nat) (g:Int) (h:Unit->Res) (i:Unit->Res):Res:=Z1f (j4F b d f t) n (g) (h,i)
def jbq:Z1d Unit:=NdL 40 40 [.R 1 y3 .S,.t 2 (pB 2),.R 19 y0 .S,.I 20,.I 21] [(2,y29,[.S,.S])] (λb d=>(b.2.2.2.1)) (λb v=>(b.1,b.2.1,b.2.2.1,v,())) (λd v=>((d.1.1,d.1.2),())) (λb d=>j4F b.1 b.2.1 b.2.2.1 d.1.2) λb d f=>((λ_=>f (.exit 0) [] []),(λ_=>f .ret [(4,vB false)] []))
theorem jli:CN 0 58 Tryz.f313 jbq:=lK jh1 [] oN ([],[]) [(0,[],[])] ([4],[]) λ_ _ _ _ _=>by delta j4F j2s j2h j7Z;refine gz j0F λ_ b=>gz j3W λ_ d=> ?_;rewrite [<-b,<-d];kernel_rfl
def j4E (t:qB×qE×qL) (b:List qV) (d:Bool->Res):Res:=j0s t λr=>bif !r then d false else bif ((nI (List.length b)) != (nI (List.length t.2.2))) then d false else jc4 b t.2.2 (nI (List.length t.2.2)) t Z1c 0 (λ_=>d true) (λ_=>d false)
def jdb:Sig Unit:=sg [.look y29 true,.look y3 false] [false] [(y29,none),(y3,none)] [] λb f k=>j4E b.1 b.2.1 (λd=>k [wB d] [] [])
theorem jhi:SO 313 jdb:=fK (np:=0) jh1 [jbq] (oI 58 0 @jli oN) false Tryz.func313 λ_ _ _ _=>by delta j4E j0Z jbq jc4;refine gz j0s λ_ b=>gz j4F λ_ d=> ?_;rewrite [<-b,<-d];kernel_rfl
def j1A (f:Int) (h:List qW) (g:Int) (d:List qW) (b:Int) (rec:qR->Int->Res) (i:qR->Res):Res:=bif decide (b<g) then bif inb b (List.length h) then bif (b != f) then j0w (nth [] h b) λr=>bif lim ((List.length d)+1) then rec (d++[r]) (Z9K (b+1)) else none else rec d (Z9K (b+1)) else none else i d
def j6g (b:Int) (h:List qW) (f:Int):(qR×Int)->(qR×Int->Res)->((qR->Res))->Res:=λv rec q=>j1A b h f v.1 v.2 (λd g=>rec (d,g)) q
def jbJ (b:Int) (i:List qW) (f:Int) (n:Nat) (d:List qW) (g:Int) (h:qR->Res):Res:=Z1f (j6g b i f) n (d,g) (h)
def jaQ:Z1d Unit:=NdL 26 26 [.I 1,.R 5 y31 .O,.R 9 y31 .S,.I 10,.I 11] [] (λb f=>(b.2.1,b.2.2.2.2.1)) (λb v=>(b.1,v.1,b.2.2.1,b.2.2.2.1,v.2,())) (λf v=>()) (λb f=>j6g b.1 b.2.2.1 b.2.2.2.1) λb f g=>((λd=>g (.exit 0) [(5,v1 y31 d .O)] []))
theorem jgX:CN 0 58 Tryz.f314 jaQ:=lK (Za6 j4e Zas) [] oN ([],[]) [(0,[5],[])] ([],[]) λ_ _ _ _ _=>by kernel_rfl
def j1z (l:List qW) (b:Int) (f:qR->Res):Res:=jbJ b l (nI (List.length l)) Z1c [] 0 λd=>f d
def j8j:Sig Unit:=sg [.borrow y31 false,.borrow tI false] [false] [(y31,none),(tI,none)] [] λb f k=>j1z b.1 b.2.1 (λd=>k [w1 y31 d .O] [] [])
theorem jcf:SO 314 j8j:=fK (np:=0) (Za6 j4e Zas) [jaQ] (oI 58 0 @jgX oN) false Tryz.func314 λ_ _ _ _=>by kernel_rfl
def j6O (t:qB×qE×qL) (l:List qW) (d:List qV) (r:List qV) (b:qR->Int->Res):Res:=j0u t l λh=>bif !h then b [] 1 else j2b t r λi=>bif !i then b [] 2 else j1y t l d λf=>j4E t d λj=>bif !j then b [] 5 else bif decide (f<0) then b [] 5 else j1z l f λg=>j0v t r λk=>j1y t g k λm=>bif decide (m>=0) then b [] 3 else j3f t g r λn=>b n 0
def jgN:Sig Unit:=sg [.borrow y29 true,.borrow y31 false,.borrow y3 false,.borrow y3 true] [false,false] [(y29,none),(y31,none),(y3,none),(y3,none)] [] λb g k=>j6O b.1 b.2.1 b.2.2.1 b.2.2.2.1 (λd f=>k [w1 y31 d .O,wI f] [] [])
theorem jmn:SO 289 jgN:=fK (np:=0) (Za6 jcM (Za6 j4d (Za6 j6t (Za6 jcN (Za6 jgw (Za6 jhi (Za6 jcf Zas))))))) [] oN false Tryz.func289 λ_ _ _ _=>by delta j6O j1d j7x jac jdb j8j j1f jc1;refine gz j0u λ_ b=>gz j2b λ_ d=>gz j1y λ_ f=>gz j4E λ_ g=>gz j1z λ_ h=>gz j0v λ_ i=>gz j3f λ_ j=> ?_;rewrite [<-b,<-d,<-f,<-g,<-h,<-i,<-j];kernel_rfl
def j6M (t:qB×qE×qL) (l:List qW) (b:List qV) (d:qR->Int->Res):Res:=j0u t l λr=>bif !r then d [] 1 else j1y t l b λf=>j4E t b λg=>bif !g then d [] 5 else bif decide (f<0) then d [] 5 else j1z l f λh=>d h 0
def jgL:Sig Unit:=sg [.borrow y29 true,.borrow y31 false,.borrow y3 false] [false,false] [(y29,none),(y31,none),(y3,none)] [] λb g k=>j6M b.1 b.2.1 b.2.2.1 (λd f=>k [w1 y31 d .O,wI f] [] [])
theorem jml:SO 290 jgL:=fK (np:=0) (Za6 jcM (Za6 j4d (Za6 jhi (Za6 jcf Zas)))) [] oN false Tryz.func290 λ_ _ _ _=>by delta j6M j1d jac jdb j8j;refine gz j0u λ_ b=>gz j1y λ_ d=>gz j4E λ_ f=>gz j1z λ_ g=> ?_;rewrite [<-b,<-d,<-f,<-g];kernel_rfl
theorem j5c:FS [(172,j1d),(210,j3N),(230,j2h),(287,j4z)]:=(Za6 j4d (Za6 jcL (Za6 j5e (Za6 jdF Zas))))
def j4I (l:List qW) (t:qB×qE×qL) (d:qG) (b:Bool->Res):Res:=j0u t l λr=>bif !r then b true else j2a d λf=>bif !f then b true else bif sNe d.2.1 t.1 then b true else b (d.1==1)
def j27:Z1d Unit:=Nd 106 106 [.R 1 y31 .S,.t 3 (pB 3),.t 5 (pB 5)] [(3,y29,[.S,.S]),(5,y13,[.S,.S])] λf b g=>j4I f.1 b.1.2 b.2.1.2 (λd=>g .normal [(1,v1 y31 f.1 .S),(3,pB 3),(5,pB 5),(37,vB d)] [(3,⟨y29,b.1.1,b.1.2,[.S,.S]⟩),(5,⟨y13,b.2.1.1,b.2.1.2,[.S,.S]⟩)])
theorem jje:CN 0 12 Tryz.f291 j27:=nK j5c [] oN ([1,3,5,37],[3,5]) [] ([],[]) λ_ _ _=>by delta j4I j1d j3N;refine gz j0u λ_ b=>gz j2a λ_ d=> ?_;rewrite [<-b,<-d];kernel_rfl
def j0z (g:Int) (f:List qV) (h:Int) (d:qG) (b:Int) (x:List qV) (rec:Int->qW->Res) (i:qW->Res):Res:=bif decide (b<h) then bif inb b (List.length f) then bif (d.1 != 4) then bif lim ((List.length x)+1) then rec (Z9K (b+1)) (x++[nth (0,0,eS) f b]) else none else bif (b != g) then bif lim ((List.length x)+1) then rec (Z9K (b+1)) (x++[nth (0,0,eS) f b]) else none else rec (Z9K (b+1)) x else none else i x
def j2R (b:Int) (f:List qV) (g:Int) (d:qG):(Int×qW)->(Int×qW->Res)->((qW->Res))->Res:=λv rec q=>j0z b f g d v.1 v.2 (λh x=>rec (h,x)) q
def j77 (b:Int) (f:List qV) (g:Int) (d:qG) (n:Nat) (h:Int) (x:List qV) (i:qW->Res):Res:=Z1f (j2R b f g d) n (h,x) (i)
def j44:Z1d Unit:=NdL 106 106 [.t 5 (pB 5),.R 10 y31 .O,.I 11,.t 14 (pB 14),.R 54 y31 .S,.I 55,.I 56,.R 62 y3 .S,.I 63,.I 64] [(5,y13,[.S,.S]),(14,y3,[.O])] (λb d=>(b.2.2.2.2.2.2.2.1,d.2.1.2)) (λb v=>(b.1,b.2.1,b.2.2.1,b.2.2.2.1,b.2.2.2.2.1,b.2.2.2.2.2.1,b.2.2.2.2.2.2.1,v.1,())) (λd v=>((d.1.1,d.1.2),(d.2.1.1,v.2),())) (λb d=>j2R b.2.1 b.2.2.2.2.2.1 b.2.2.2.2.2.2.1 d.1.2) λb d f=>((λg=>f (.exit 2) [(5,pB 5),(10,v1 y31 b.1 .O),(11,vI b.2.1),(14,pB 14),(54,v1 y31 b.2.2.1 .S),(55,vI b.2.2.2.1),(56,vI b.2.2.2.2.1)] [(5,⟨y13,d.1.1,d.1.2,[.S,.S]⟩),(14,⟨y3,d.2.1.1,g,[.O]⟩)]))
theorem jjc:CN 0 1042842 Tryz.f291 j44:=lK j5c [j27] oN ([],[]) [(2,[5,10,11,14,54,55,56],[5,14])] ([],[]) λ_ _ _ _ _=>by kernel_rfl
def j78 (b:Bool) (d:qG) (x:List qV) (f:qW->Res):Res:=bif b then bif inb 0 (List.length d.2.2.1) then bif lim ((List.length x)+1) then f (x++[(nth (eS,0,false,false,0,0,eS) d.2.2.1 0).2.2.2.2]) else none else none else f x
def j6n:Z1d Unit:=Nd 106 106 [.t 5 (pB 5),.R 10 y31 .O,.I 11,.t 14 (pB 14),.R 54 y31 .S,.I 55,.I 56,.B 86] [(5,y13,[.S,.S]),(14,y3,[.O])] λb d f=>j78 b.2.2.2.2.2.1 d.1.2 d.2.1.2 (λg=>f .normal [(5,pB 5),(10,v1 y31 b.1 .O),(11,vI b.2.1),(14,pB 14),(54,v1 y31 b.2.2.1 .S),(55,vI b.2.2.2.1),(56,vI b.2.2.2.2.1)] [(5,⟨y13,d.1.1,d.1.2,[.S,.S]⟩),(14,⟨y3,d.2.1.1,g,[.O]⟩)])
theorem jjf:CN 0 1042845 Tryz.f291 j6n:=nK j5c [j27,j44] oN ([5,10,11,14,54,55,56],[5,14]) [] ([],[]) λ_ _ _=>by kernel_rfl
def j1L (h:Int) (g:List qW) (i:Int) (d:qG) (f:List qW) (b:Int) (rec:qR->Int->Res) (j:qR->Res):Res:=bif decide (b<i) then bif inb b (List.length g) then j77 h (nth [] g b) (nI (List.length (nth [] g b))) d Z1c 0 [] λx=>j78 (d.1==3) d x λk=>bif (d.1 != 2) then bif lim ((List.length f)+1) then rec (f++[k]) (Z9K (b+1)) else none else rec f (Z9K (b+1)) else none else j f
def j2S (b:Int) (g:List qW) (h:Int) (d:qG):(qR×Int)->(qR×Int->Res)->((qR->Res))->Res:=λv rec q=>j1L b g h d v.1 v.2 (λf i=>rec (f,i)) q
def jao (b:Int) (g:List qW) (h:Int) (d:qG) (n:Nat) (f:List qW) (i:Int) (j:qR->Res):Res:=Z1f (j2S b g h d) n (f,i) (j)
def j9t:Z1d Unit:=NdL 106 106 [.t 5 (pB 5),.R 10 y31 .O,.I 11,.R 54 y31 .S,.I 55,.I 56] [(5,y13,[.S,.S])] (λb d=>(b.1,b.2.2.2.2.1)) (λb v=>(v.1,b.2.1,b.2.2.1,b.2.2.2.1,v.2,())) (λd v=>((d.1.1,d.1.2),())) (λb d=>j2S b.2.1 b.2.2.1 b.2.2.2.1 d.1.2) λb d g=>((λf=>g (.exit 0) [(10,v1 y31 f .O)] []))
theorem jjd:CN 0 1018 Tryz.f291 j9t:=lK j5c [j27,j44,j6n] (oI 922 1 @jjc (oI 925 2 @jjf oN)) ([],[]) [(0,[10],[])] ([],[]) λ_ _ _ _ _=>by delta j2S j1L j44 j6n j77;refine gz j2R λ_ b=>gz j78 λ_ d=> ?_;rewrite [<-b,<-d];kernel_rfl
def j5R (t:qB×qE×qL) (l:List qW) (d:qG) (b:qR->Int->Res):Res:=j4I l t d λi=>bif i then b [] 1 else j1Q [t] d λr g=>bif (g != 0) then b [] g else j0F t d.2.2.2.2.1 λh=>jao h l (nI (List.length l)) d Z1c [] 0 λf=>b f 0
def jft:Sig Unit:=sg [.borrow y29 true,.borrow y31 false,.borrow y13 true] [false,false] [(y29,none),(y31,none),(y13,none)] [] λb g k=>j5R b.1 b.2.1 b.2.2.1 (λd f=>k [w1 y31 d .O,wI f] [] [])
theorem jkQ:SO 291 jft:=fK (np:=0) j5c [j27,j44,j6n,j9t] (oI 12 0 @jje (oI 1018 3 @jjd oN)) false Tryz.func291 λ_ _ _ _=>by delta j5R j27 j4z j2h j9t jao;refine gz j4I λ_ b=>gz j1Q λ_ d=>gz j0F λ_ f=>gz j2S λ_ g=> ?_;rewrite [<-b,<-d,<-f,<-g];kernel_rfl
def j0S (l:List qV) (b:qW->Res):Res:=bif lim (0+(List.length l)) then b l else none
def j71:Sig Unit:=sg [.borrow y3 false] [false] [(y3,none)] [] λd f k=>j0S d.1 (λb=>k [w1 y3 b .O] [] [])
theorem j6T:SO 178 j71:=fK (np:=0) Zas [] oN false Tryz.func178 λ_ _ _ _=>by kernel_rfl
def jbx (c:qB×Int×Bool×Bool×Int×Int×qB) (d:Int×Int×qB) (b:Bool->Res):Res:=j0X d λr=>bif r then bif (d.1==c.2.1) then b true else bif (d.1==0) then b (!c.2.2.1) else b false else b false
def jmM:Sig Unit:=sg [.look y7 true,.look y2 true] [false] [(y7,none),(y2,none)] [] λb f k=>jbx b.1 b.2.1 (λd=>k [wB d] [] [])
theorem jgn:SO 315 jmM:=fK (np:=0) (Za6 j7e Zas) [] oN false Tryz.func315 λ_ _ _ _=>by kernel_rfl
def j4w (d:List qV) (f:Int) (t:qB×qE×qL) (b:Int) (rec:Int->Res) (g:Unit->Res) (h:Unit->Res):Res:=bif decide (b<f) then bif inb b (List.length d) then bif inb b (List.length t.2.1) then jbx (nth (eS,0,false,false,0,0,eS) t.2.1 b) (nth (0,0,eS) d b) λr=>bif !r then h () else rec (Z9K (b+1)) else none else none else g ()
def j9X (b:List qV) (d:Int) (t:qB×qE×qL):Int->(Int->Res)->((Unit->Res)×(Unit->Res))->Res:=λv rec q=>j4w b d t v (λf=>rec (f)) q.1 q.2
def jgB (b:List qV) (d:Int) (t:qB×qE×qL) (n:Nat) (f:Int) (g:Unit->Res) (h:Unit->Res):Res:=Z1f (j9X b d t) n (f) (g,h)
def jfG:Z1d Unit:=NdL 31 31 [.t 2 (pB 2),.R 15 y3 .S,.I 16,.I 17] [(2,y29,[.S,.S])] (λb d=>(b.2.2.1)) (λb v=>(b.1,b.2.1,v,())) (λd v=>((d.1.1,d.1.2),())) (λb d=>j9X b.1 b.2.1 d.1.2) λb d f=>((λ_=>f (.exit 0) [] []),(λ_=>f .ret [(4,vB false)] []))
theorem jld:CN 0 58 Tryz.f293 jfG:=lK (Za6 jgn Zas) [] oN ([],[]) [(0,[],[])] ([4],[]) λ_ _ _ _ _=>by kernel_rfl
def j36 (t:qB×qE×qL) (r:List qV) (b:Bool->Res):Res:=bif ((nI (List.length r)) != (nI (List.length t.2.1))) then b false else jgB r (nI (List.length r)) t Z1c 0 (λ_=>b true) (λ_=>b false)
def j5B:Sig Unit:=sg [.look y29 true,.look y3 true] [false] [(y29,none),(y3,none)] [] λb f k=>j36 b.1 b.2.1 (λd=>k [wB d] [] [])
theorem jcF:SO 293 j5B:=fK (np:=0) (Za6 jgn Zas) [jfG] (oI 58 0 @jld oN) false Tryz.func293 λ_ _ _ _=>by kernel_rfl
def j4v (f:qL) (g:Int) (t:qB×qE×qL) (r:List qV) (d:List qV) (b:Int) (rec:qW->Int->Res) (i:qW->Res):Res:=bif decide (b<g) then bif inb b (List.length f) then j0f t (nth eS f b) λh=>bif inb h (List.length r) then bif lim ((List.length d)+1) then rec (d++[nth (0,0,eS) r h]) (Z9K (b+1)) else none else none else none else i d
def j9W (d:qL) (f:Int) (t:qB×qE×qL) (r:List qV):(qW×Int)->(qW×Int->Res)->((qW->Res))->Res:=λv rec q=>j4v d f t r v.1 v.2 (λb g=>rec (b,g)) q
def jgA (d:qL) (f:Int) (t:qB×qE×qL) (r:List qV) (n:Nat) (b:List qV) (g:Int) (h:qW->Res):Res:=Z1f (j9W d f t r) n (b,g) (h)
def jfF:Z1d Unit:=NdL 28 28 [.t 2 (pB 2),.t 3 (pB 3),.R 5 y3 .O,.R 10 y0 .S,.I 11,.I 12] [(2,y29,[.S,.S]),(3,y3,[.S])] (λb d=>(b.1,b.2.2.2.1)) (λb v=>(v.1,b.2.1,b.2.2.1,v.2,())) (λd v=>((d.1.1,d.1.2),(d.2.1.1,d.2.1.2),())) (λb d=>j9W b.2.1 b.2.2.1 d.1.2 d.2.1.2) λb d g=>((λf=>g (.exit 0) [(5,v1 y3 f .O)] []))
theorem jlc:CN 0 58 Tryz.f238 jfF:=lK (Za6 j3q Zas) [] oN ([],[]) [(0,[5],[])] ([],[]) λ_ _ _ _ _=>by kernel_rfl
def j0E (t:qB×qE×qL) (r:List qV) (d:qW->Res):Res:=jgA t.2.2 (nI (List.length t.2.2)) t r Z1c [] 0 λb=>d b
def j1w:Sig Unit:=sg [.borrow y29 true,.borrow y3 true] [false] [(y29,none),(y3,none)] [] λb f k=>j0E b.1 b.2.1 (λd=>k [w1 y3 d .O] [] [])
theorem j7f:SO 238 j1w:=fK (np:=0) (Za6 j3q Zas) [jfF] (oI 58 0 @jlc oN) false Tryz.func238 λ_ _ _ _=>by kernel_rfl
def j2B (a:List qV) (b:List qV) (i:Int) (rec:Int->Res) (d:Unit->Res) (f:Bool->Res):Res:=bif decide (i<(nI (List.length a))) then bif decide (i<(nI (List.length b))) then bif inb i (List.length a) then bif inb i (List.length b) then bif !(((nth (0,0,eS) a i).1==(nth (0,0,eS) b i).1)&&(((nth (0,0,eS) a i).2.1==(nth (0,0,eS) b i).2.1)&&(sEq (nth (0,0,eS) a i).2.2 (nth (0,0,eS) b i).2.2))) then bif inb i (List.length a) then bif inb i (List.length b) then j7l (nth (0,0,eS) a i) (nth (0,0,eS) b i) λr=>f r else none else none else rec (Z9K (i+1)) else none else none else d () else d ()
def j8c (a:List qV) (b:List qV):Int->(Int->Res)->((Unit->Res)×(Bool->Res))->Res:=λv rec q=>j2B a b v (λi=>rec (i)) q.1 q.2
def jdN (a:List qV) (b:List qV) (n:Nat) (i:Int) (d:Unit->Res) (f:Bool->Res):Res:=Z1f (j8c a b) n (i) (d,f)
def jdk:Z1d Unit:=NdL 41 41 [.R 0 y3 .S,.R 1 y3 .S,.I 5] [] (λb d=>(b.2.2.1)) (λb v=>(b.1,b.2.1,v,())) (λd v=>()) (λb d=>j8c b.1 b.2.1) λb d f=>((λ_=>f (.exit 0) [(0,v1 y3 b.1 .S),(1,v1 y3 b.2.1 .S)] []),(λg=>f .ret [(4,vB g)] []))
theorem jiP:CN 0 26 Tryz.f294 jdk:=lK (Za6 jeT Zas) [] oN ([],[]) [(0,[0,1],[])] ([4],[]) λ_ _ _ _ _=>by kernel_rfl
def j3v (a:List qV) (b:List qV) (d:Bool->Res):Res:=jdN a b Z1c 0 (λ_=>d (decide ((nI (List.length a))<(nI (List.length b))))) (λt=>d t)
def j5x:Sig Unit:=sg [.look y3 false,.look y3 false] [false] [(y3,none),(y3,none)] [] λb f k=>j3v b.1 b.2.1 (λd=>k [wB d] [] [])
theorem jeS:SO 294 j5x:=fK (np:=0) (Za6 jeT Zas) [jdk] (oI 26 0 @jiP oN) false Tryz.func294 λ_ _ _ _=>by kernel_rfl
theorem jgd:FS [(238,j1w),(268,j3l),(293,j5B),(294,j5x)]:=(Za6 j7f (Za6 j5d (Za6 jcF (Za6 jeS Zas))))
def j22 (l:List qW) (d:List qW) (f:Int) (t:qB×qE×qL) (b:Int) (rec:Int->Res) (h:Unit->Res) (g:Unit->Res):Res:=bif decide (b<f) then bif inb b (List.length d) then j36 t (nth [] d b) λr=>bif !r then g () else bif decide (b>0) then bif inb (Z9K (b-1)) (List.length l) then j0E t (nth [] l (Z9K (b-1))) λi=>j0E t (nth [] d b) λj=>j3v i j λk=>bif !k then g () else rec (Z9K (b+1)) else none else rec (Z9K (b+1)) else none else h ()
def j3w (l:List qW) (b:List qW) (d:Int) (t:qB×qE×qL):Int->(Int->Res)->((Unit->Res)×(Unit->Res))->Res:=λv rec q=>j22 l b d t v (λf=>rec (f)) q.1 q.2
def jaY (l:List qW) (b:List qW) (d:Int) (t:qB×qE×qL) (n:Nat) (f:Int) (g:Unit->Res) (h:Unit->Res):Res:=Z1f (j3w l b d t) n (f) (g,h)
def jaw:Z1d Unit:=NdL 45 45 [.R 1 y31 .S,.t 2 (pB 2),.R 15 y31 .S,.I 16,.I 17] [(2,y29,[.S,.S])] (λb d=>(b.2.2.2.1)) (λb v=>(b.1,b.2.1,b.2.2.1,v,())) (λd v=>((d.1.1,d.1.2),())) (λb d=>j3w b.1 b.2.1 b.2.2.1 d.1.2) λb d f=>((λ_=>f (.exit 0) [] []),(λ_=>f .ret [(4,vB false)] []))
theorem jjZ:CN 0 58 Tryz.f251 jaw:=lK jgd [] oN ([],[]) [(0,[],[])] ([4],[]) λ_ _ _ _ _=>by delta j3w j22 j5B j1w j5x;refine gz j36 λ_ b=>gz j0E λ_ d=>gz j3v λ_ f=> ?_;rewrite [<-b,<-d,<-f];kernel_rfl
def j0I (t:qB×qE×qL) (l:List qW) (b:Bool->Res):Res:=j0G t λr=>bif !r then b false else bif decide ((nI (List.length l))>60) then b false else jaY l l (nI (List.length l)) t Z1c 0 (λ_=>b true) (λ_=>b false)
def j1P:Sig Unit:=sg [.look y29 true,.look y31 false] [false] [(y29,none),(y31,none)] [] λb f k=>j0I b.1 b.2.1 (λd=>k [wB d] [] [])
theorem j6q:SO 251 j1P:=fK (np:=0) jgd [jaw] (oI 58 0 @jjZ oN) false Tryz.func251 λ_ _ _ _=>by delta j0I j3l jaw jaY;refine gz j0G λ_ b=>gz j3w λ_ d=> ?_;rewrite [<-b,<-d];kernel_rfl
def j2f (f:List qW) (h:Int) (b:List qW) (d:Int) (rec:qR->Int->Res) (g:qR->Res):Res:=bif decide (d<h) then bif inb d (List.length f) then j0S (nth [] f d) λr=>bif lim ((List.length b)+1) then rec (b++[r]) (Z9K (d+1)) else none else none else g b
def j7m (d:List qW) (f:Int):(qR×Int)->(qR×Int->Res)->((qR->Res))->Res:=λv rec q=>j2f d f v.1 v.2 (λb g=>rec (b,g)) q
def jcT (f:List qW) (g:Int) (n:Nat) (b:List qW) (h:Int) (d:qR->Res):Res:=Z1f (j7m f g) n (b,h) (d)
def jcj:Z1d Unit:=NdL 21 21 [.R 3 y31 .O,.R 6 y31 .S,.I 7,.I 8] [] (λb f=>(b.1,b.2.2.2.1)) (λb v=>(v.1,b.2.1,b.2.2.1,v.2,())) (λf v=>()) (λb f=>j7m b.2.1 b.2.2.1) λb f g=>((λd=>g (.exit 0) [(3,v1 y31 d .O)] []))
theorem ji7:CN 0 58 Tryz.f232 jcj:=lK (Za6 j6T Zas) [] oN ([],[]) [(0,[3],[])] ([],[]) λ_ _ _ _ _=>by kernel_rfl
def j0q (l:List qW) (d:qR->Res):Res:=jcT l (nI (List.length l)) Z1c [] 0 λb=>d b
def j0N:Sig Unit:=sg [.borrow y31 false] [false] [(y31,none)] [] λd f k=>j0q d.1 (λb=>k [w1 y31 b .O] [] [])
theorem j4j:SO 232 j0N:=fK (np:=0) (Za6 j6T Zas) [jcj] (oI 58 0 @ji7 oN) false Tryz.func232 λ_ _ _ _=>by kernel_rfl
theorem j7K:FS [(211,j3L),(232,j0N),(251,j1P),(284,j0H),(317,j5z),(324,jaM)]:=(Za6 jcC (Za6 j4j (Za6 j6q (Za6 j3q (Za6 jeV (Za6 jgV Zas))))))
def j4s (l:List qW) (t:qB×qE×qL) (d:qG) (b:Bool->Res):Res:=j0I t l λr=>bif !r then b true else j28 d λf=>bif !f then b true else bif sNe d.2.1 t.1 then b true else b (d.1==1)
def j42:Z1d Unit:=Nd 98 98 [.R 1 y31 .S,.t 3 (pB 3),.t 5 (pB 5)] [(3,y29,[.S,.S]),(5,y13,[.S,.S])] λf b g=>j4s f.1 b.1.2 b.2.1.2 (λd=>g .normal [(1,v1 y31 f.1 .S),(3,pB 3),(5,pB 5),(33,vB d)] [(3,⟨y29,b.1.1,b.1.2,[.S,.S]⟩),(5,⟨y13,b.2.1.1,b.2.1.2,[.S,.S]⟩)])
theorem jiU:CN 0 12 Tryz.f298 j42:=nK j7K [] oN ([1,3,5,33],[3,5]) [] ([],[]) λ_ _ _=>by delta j4s j1P j3L;refine gz j0I λ_ b=>gz j28 λ_ d=> ?_;rewrite [<-b,<-d];kernel_rfl
def j2D (g:Int) (d:qG) (f:List qW) (b:Int) (rec:qR->Int->Res) (h:qR->Res):Res:=bif decide (b<g) then bif inb b (List.length f) then bif inb 0 (List.length d.2.2.1) then bif lim ((List.length (nth [] f b))+1) then bif inb b (List.length (upd f b ((nth [] f b)++[(nth (eS,0,false,false,0,0,eS) d.2.2.1 0).2.2.2.2]))) then bif (Z9o (Int.toNat b) (Int.toNat b)&&true) then rec (upd f b ((nth [] f b)++[(nth (eS,0,false,false,0,0,eS) d.2.2.1 0).2.2.2.2])) (Z9K (b+1)) else none else none else none else none else none else h f
def j4S (f:Int) (d:qG):(qR×Int)->(qR×Int->Res)->((qR->Res))->Res:=λv rec q=>j2D f d v.1 v.2 (λb g=>rec (b,g)) q
def j6V (f:Int) (d:qG) (n:Nat) (b:List qW) (g:Int) (h:qR->Res):Res:=Z1f (j4S f d) n (b,g) (h)
def j6k:Z1d Unit:=NdL 98 98 [.t 5 (pB 5),.R 9 y31 .O,.I 51,.I 52] [(5,y13,[.S,.S])] (λb d=>(b.1,b.2.2.1)) (λb v=>(v.1,b.2.1,v.2,())) (λd v=>((d.1.1,d.1.2),())) (λb d=>j4S b.2.1 d.1.2) λb d g=>((λf=>g (.exit 1) [(9,v1 y31 f .O)] []))
theorem jiS:CN 0 16058 Tryz.f298 j6k:=lK j7K [j42] oN ([],[]) [(1,[9],[])] ([],[]) λ_ _ _ _ _=>by kernel_rfl
def j2E (f:Int) (g:Int) (d:List qW) (b:Int) (rec:qR->Int->Res) (h:qR->Res):Res:=bif decide (b<g) then bif inb b (List.length d) then j8k (nth [] d b) f (Z9K (f+1)) λr=>bif inb b (List.length (upd d b r)) then bif (Z9o (Int.toNat b) (Int.toNat b)&&true) then rec (upd d b r) (Z9K (b+1)) else none else none else none else h d
def j4T (b:Int) (f:Int):(qR×Int)->(qR×Int->Res)->((qR->Res))->Res:=λv rec q=>j2E b f v.1 v.2 (λd g=>rec (d,g)) q
def j6W (b:Int) (f:Int) (n:Nat) (d:List qW) (g:Int) (h:qR->Res):Res:=Z1f (j4T b f) n (d,g) (h)
def j9l:Z1d Unit:=NdL 98 98 [.R 9 y31 .O,.I 11,.I 79,.I 80] [] (λb f=>(b.1,b.2.2.2.1)) (λb v=>(v.1,b.2.1,b.2.2.1,v.2,())) (λf v=>()) (λb f=>j4T b.2.1 b.2.2.1) λb f g=>((λd=>g (.exit 3) [(9,v1 y31 d .O)] []))
theorem jiT:CN 0 128502 Tryz.f298 j9l:=lK j7K [j42,j6k] oN ([],[]) [(3,[9],[])] ([],[]) λ_ _ _ _ _=>by kernel_rfl
def j5k (t:qB×qE×qL) (l:List qW) (d:qG) (b:qR->Int->Res):Res:=j4s l t d λj=>bif j then b [] 1 else j2g [t] d λr=>bif (r != 0) then b [] r else j0q l λg=>bif (d.1==2) then b [] 0 else bif (d.1==3) then j6V (nI (List.length g)) d Z1c g 0 λh=>b h 0 else bif (d.1==4) then j0f t d.2.2.2.2.1 λi=>j6W i (nI (List.length g)) Z1c g 0 λf=>b f 0 else b g 0
def jb9:Sig Unit:=sg [.borrow y29 true,.borrow y31 false,.borrow y13 true] [false,false] [(y29,none),(y31,none),(y13,none)] [] λb g k=>j5k b.1 b.2.1 b.2.2.1 (λd f=>k [w1 y31 d .O,wI f] [] [])
theorem jkD:SO 298 jb9:=fK (np:=0) j7K [j42,j6k,j9l] (oI 12 0 @jiU (oI 16058 1 @jiS (oI 128502 2 @jiT oN))) false Tryz.func298 λ_ _ _ _=>by delta j5k j42 j5z j0N j6k j0H j9l j6V j6W;refine gz j4s λ_ b=>gz j2g λ_ d=>gz j0q λ_ f=>gz j4S λ_ g=>gz j0f λ_ h=>gz j4T λ_ i=> ?_;rewrite [<-b,<-d,<-f,<-g,<-h,<-i];kernel_rfl
def jbw (r:List qV) (g:qB×qE×qL) (h:List qV) (b:Bool->Res):Res:=j0E g r λd=>j1k d h λf=>b f
def jmL:Sig Unit:=sg [.look y3 true,.rptr y29,.rptr y3] [false] [(y3,none),(y29,none),(y3,none)] [] λb f k=>jbw b.1 b.2.1 b.2.2.1 (λd=>k [wB d] [] [])
theorem jgm:SO 237 jmL:=fK (np:=0) (Za6 jbD (Za6 j7f Zas)) [] oN false Tryz.func237 λ_ _ _ _=>by delta jbw j1w j4y;refine gz j0E λ_ b=>gz j1k λ_ d=> ?_;rewrite [<-b,<-d];kernel_rfl
def j0P (s:List qW) (f:qT×List qV) (h:Int) (b:Int) (rec:Int->Res) (d:Unit->Res) (g:Int->Res):Res:=bif decide (b<h) then bif inb b (List.length s) then jbw (nth [] s b) f.1 f.2 λr=>bif r then g b else rec (Z9K (b+1)) else none else d ()
def j38 (s:List qW) (f:qT×List qV) (b:Int):Int->(Int->Res)->((Unit->Res)×(Int->Res))->Res:=λv rec q=>j0P s f b v (λd=>rec (d)) q.1 q.2
def j87 (s:List qW) (f:qT×List qV) (g:Int) (n:Nat) (h:Int) (b:Unit->Res) (d:Int->Res):Res:=Z1f (j38 s f g) n (h) (b,d)
def j7G:Z1d Unit:=NdL 19 19 [.R 0 y31 .S,.c 1 237 [y29,y3] y36 [.S,.S,.S],.I 7,.I 8] [] (λb d=>(b.2.2.2.1)) (λb v=>(b.1,b.2.1,b.2.2.1,v,())) (λd v=>()) (λb d=>j38 b.1 b.2.1 b.2.2.1) λb d f=>((λ_=>f (.exit 0) [] []),(λg=>f .ret [(4,vI g)] []))
theorem jd3:CN 0 26 Tryz.f236 j7G:=lK (Za6 jgm Zas) [] oN ([],[]) [(0,[],[])] ([4],[]) λ_ _ _ _ _=>by kernel_rfl
def j6b (s:List qW) (f:qT×List qV) (b:Int->Res):Res:=j87 s f (nI (List.length s)) Z1c 0 (λ_=>b (-1)) (λt=>b t)
def jeC:Sig Unit:=sg [.look y31 false,.rclos 237 [y29,y3]] [false] [(y31,none),(y36,none)] [] λb f k=>j6b b.1 b.2.1 (λd=>k [wI d] [] [])
theorem jer:SO 236 jeC:=fK (np:=0) (Za6 jgm Zas) [j7G] (oI 26 0 @jd3 oN) false Tryz.func236 λ_ _ _ _=>by kernel_rfl
def j0Y (t:qB×qE×qL) (l:List qW) (b:List qV) (d:Int->Res):Res:=j6b l (t,b) λr=>d r
def j5A:Sig Unit:=sg [.look y29 true,.look y31 false,.look y3 false] [false] [(y29,none),(y31,none),(y3,none)] [] λb f k=>j0Y b.1 b.2.1 b.2.2.1 (λd=>k [wI d] [] [])
theorem jcE:SO 177 j5A:=fK (np:=0) (Za6 jer Zas) [] oN false Tryz.func177 λ_ _ _ _=>by kernel_rfl
theorem jgg:FS [(178,j71),(232,j0N),(238,j1w),(294,j5x),(325,j6R)]:=(Za6 j6T (Za6 j4j (Za6 j7f (Za6 jeS (Za6 jgW Zas)))))
def j23 (l:List qW) (t:qB×qE×qL) (r:List qV) (b:Int) (rec:Int->Res) (d:Int->Res):Res:=bif decide (b<(nI (List.length l))) then bif inb b (List.length l) then j0E t (nth [] l b) λf=>j0E t r λg=>j3v f g λh=>bif h then rec (Z9K (b+1)) else d b else none else d b
def j3A (l:List qW) (t:qB×qE×qL) (r:List qV):Int->(Int->Res)->((Int->Res))->Res:=λv rec q=>j23 l t r v (λb=>rec (b)) q
def jb1 (l:List qW) (t:qB×qE×qL) (r:List qV) (n:Nat) (b:Int) (d:Int->Res):Res:=Z1f (j3A l t r) n (b) (d)
def jaA:Z1d Unit:=NdL 35 35 [.R 1 y31 .S,.t 3 (pB 3),.t 5 (pB 5),.I 7] [(3,y29,[.S,.S]),(5,y3,[.S])] (λd b=>(d.2.1)) (λd v=>(d.1,v,())) (λb v=>((b.1.1,b.1.2),(b.2.1.1,b.2.1.2),())) (λd b=>j3A d.1 b.1.2 b.2.1.2) λd b g=>((λf=>g (.exit 0) [(1,v1 y31 d.1 .S),(5,pB 5),(7,vI f)] [(5,⟨y3,b.2.1.1,b.2.1.2,[.S]⟩)]))
theorem jk3:CN 0 28 Tryz.f299 jaA:=lK jgg [] oN ([],[]) [(0,[1,5,7],[5])] ([],[]) λ_ _ _ _ _=>by delta j3A j23 j1w j5x;refine gz j0E λ_ b=>gz j3v λ_ d=> ?_;rewrite [<-b,<-d];kernel_rfl
def j29 (t:qB×qE×qL) (l:List qW) (r:List qV) (d:qR->Res):Res:=jb1 l t r Z1c 0 λb=>j0q l λf=>j0S r λg=>j4X f b [g] λh=>d h
def j8Q:Sig Unit:=sg [.borrow y29 true,.borrow y31 false,.borrow y3 true] [false] [(y29,none),(y31,none),(y3,none)] [] λb f k=>j29 b.1 b.2.1 b.2.2.1 (λd=>k [w1 y31 d .O] [] [])
theorem jgl:SO 299 j8Q:=fK (np:=0) jgg [jaA] (oI 28 0 @jk3 oN) false Tryz.func299 λ_ _ _ _=>by delta j29 jaA j0N j71 j6R jb1;refine gz j3A λ_ b=>gz j0q λ_ d=>gz j0S λ_ f=>gz j4X λ_ g=> ?_;rewrite [<-b,<-d,<-f,<-g];kernel_rfl
def j6F (t:qB×qE×qL) (l:List qW) (r:List qV) (b:qR->Int->Res):Res:=j0I t l λd=>bif !d then b [] 1 else j36 t r λf=>bif !f then b [] 2 else j0E t r λg=>j0Y t l g λh=>bif decide (h>=0) then b [] 3 else bif ((nI (List.length l))==60) then b [] 4 else j29 t l r λi=>b i 0
def jbX:Sig Unit:=sg [.borrow y29 true,.borrow y31 false,.borrow y3 true] [false,false] [(y29,none),(y31,none),(y3,none)] [] λb g k=>j6F b.1 b.2.1 b.2.2.1 (λd f=>k [w1 y31 d .O,wI f] [] [])
theorem jm9:SO 253 jbX:=fK (np:=0) (Za6 jcE (Za6 j7f (Za6 j6q (Za6 jcF (Za6 jgl Zas))))) [] oN false Tryz.func253 λ_ _ _ _=>by delta j6F j1P j5B j1w j5A j8Q;refine gz j0I λ_ b=>gz j36 λ_ d=>gz j0E λ_ f=>gz j0Y λ_ g=>gz j29 λ_ h=> ?_;rewrite [<-b,<-d,<-f,<-g,<-h];kernel_rfl
theorem jgZ:FS [(268,j3l),(273,j7t),(284,j0H)]:=(Za6 j5d (Za6 j7e (Za6 j3q Zas)))
def j2n (d:List qV) (f:qL) (g:Int) (t:qB×qE×qL) (b:Int) (rec:Int->Res) (j:Unit->Res) (h:Unit->Res):Res:=bif decide (b<g) then bif inb b (List.length f) then bif inb b (List.length d) then j0X (nth (0,0,eS) d b) λr=>bif !r then h () else bif inb b (List.length d) then j0f t (nth eS f b) λi=>bif inb i (List.length t.2.1) then bif ((nth (0,0,eS) d b).1 != (nth (eS,0,false,false,0,0,eS) t.2.1 i).2.1) then h () else rec (Z9K (b+1)) else none else none else none else none else j ()
def j4r (b:List qV) (d:qL) (f:Int) (t:qB×qE×qL):Int->(Int->Res)->((Unit->Res)×(Unit->Res))->Res:=λv rec q=>j2n b d f t v (λg=>rec (g)) q.1 q.2
def jbQ (b:List qV) (d:qL) (f:Int) (t:qB×qE×qL) (n:Nat) (g:Int) (h:Unit->Res) (i:Unit->Res):Res:=Z1f (j4r b d f t) n (g) (h,i)
def jbo:Z1d Unit:=NdL 49 49 [.R 1 y3 .S,.t 2 (pB 2),.R 19 y0 .S,.I 20,.I 21] [(2,y29,[.S,.S])] (λb d=>(b.2.2.2.1)) (λb v=>(b.1,b.2.1,b.2.2.1,v,())) (λd v=>((d.1.1,d.1.2),())) (λb d=>j4r b.1 b.2.1 b.2.2.1 d.1.2) λb d f=>((λ_=>f (.exit 0) [] []),(λ_=>f .ret [(4,vB false)] []))
theorem jlb:CN 0 58 Tryz.f300 jbo:=lK jgZ [] oN ([],[]) [(0,[],[])] ([4],[]) λ_ _ _ _ _=>by delta j4r j2n j7t j0H;refine gz j0X λ_ b=>gz j0f λ_ d=> ?_;rewrite [<-b,<-d];kernel_rfl
def j4q (t:qB×qE×qL) (b:List qV) (d:Bool->Res):Res:=j0G t λr=>bif !r then d false else bif ((nI (List.length b)) != (nI (List.length t.2.2))) then d false else jbQ b t.2.2 (nI (List.length t.2.2)) t Z1c 0 (λ_=>d true) (λ_=>d false)
def jab:Sig Unit:=sg [.look y29 true,.look y3 false] [false] [(y29,none),(y3,none)] [] λb f k=>j4q b.1 b.2.1 (λd=>k [wB d] [] [])
theorem jh7:SO 300 jab:=fK (np:=0) jgZ [jbo] (oI 58 0 @jlb oN) false Tryz.func300 λ_ _ _ _=>by delta j4q j3l jbo jbQ;refine gz j0G λ_ b=>gz j4r λ_ d=> ?_;rewrite [<-b,<-d];kernel_rfl
theorem jgc:FS [(128,j4y),(177,j5A),(232,j0N),(238,j1w),(251,j1P),(293,j5B),(299,j8Q),(300,jab),(301,j47)]:=(Za6 jbD (Za6 jcE (Za6 j4j (Za6 j7f (Za6 j6q (Za6 jcF (Za6 jgl (Za6 jh7 (Za6 jaJ Zas)))))))))
def j5j (l:List qW) (b:List qV) (now:List qV) (t:qB×qE×qL) (d:Unit->Res) (f:Unit->Res):Res:=j1k now b λg=>bif !g then j0Y t l now λh=>bif decide (h>=0) then f () else d () else d ()
def jav:Z1d Unit:=Nd 61 61 [.R 1 y31 .S,.R 2 y3 .S,.t 4 (pB 4),.t 7 (pB 7),.R 10 y3 .O] [(4,y29,[.S,.S]),(7,y3,[.S])] λb d f=>j5j b.1 b.2.1 b.2.2.1 d.1.2 (λ_=>f .normal [(1,v1 y31 b.1 .S),(2,v1 y3 b.2.1 .S),(4,pB 4),(7,pB 7)] [(4,⟨y29,d.1.1,d.1.2,[.S,.S]⟩),(7,⟨y3,d.2.1.1,d.2.1.2,[.S]⟩)]) (λ_=>f .ret [(8,v1 y31 [] .O),(9,vI 3)] [])
theorem jjY:CN 0 30 Tryz.f254 jav:=nK jgc [] oN ([1,2,4,7],[4,7]) [] ([8,9],[]) λ_ _ _=>by delta j5j j4y j5A;refine gz j1k λ_ b=>gz j0Y λ_ d=> ?_;rewrite [<-b,<-d];kernel_rfl
def j6G (t:qB×qE×qL) (l:List qW) (b:List qV) (r:List qV) (d:qR->Int->Res):Res:=j0I t l λg=>bif !g then d [] 1 else j36 t r λh=>bif !h then d [] 2 else j4q t b λi=>bif !i then d [] 5 else j0Y t l b λj=>bif decide (j<0) then d [] 5 else j0E t r λk=>j5j l b k t (λ_=>j0Y t l b λf=>j0q l λm=>j0L m f (Z9K (f+1)) λn=>j29 t n r λp=>d p 0) (λ_=>d [] 3)
def jbY:Sig Unit:=sg [.borrow y29 true,.borrow y31 false,.borrow y3 false,.borrow y3 true] [false,false] [(y29,none),(y31,none),(y3,none),(y3,none)] [] λb g k=>j6G b.1 b.2.1 b.2.2.1 b.2.2.2.1 (λd f=>k [w1 y31 d .O,wI f] [] [])
theorem jma:SO 254 jbY:=fK (np:=0) jgc [jav] (oI 30 0 @jjY oN) false Tryz.func254 λ_ _ _ _=>by delta j6G j1P j5B jab j5A j1w jav j0N j47 j8Q;refine gz j0I λ_ b=>gz j36 λ_ d=>gz j4q λ_ f=>gz j0Y λ_ g=>gz j0E λ_ h=>gz j5j λ_ i=>gz j0q λ_ j=>gz j0L λ_ k=>gz j29 λ_ l=> ?_;rewrite [<-b,<-d,<-f,<-g,<-h,<-i,<-j,<-k,<-l];kernel_rfl
def j6E (t:qB×qE×qL) (l:List qW) (b:List qV) (d:qR->Int->Res):Res:=j0I t l λr=>bif !r then d [] 1 else j4q t b λg=>bif !g then d [] 5 else j0Y t l b λh=>bif decide (h<0) then d [] 5 else j0Y t l b λf=>j0q l λi=>j0L i f (Z9K (f+1)) λj=>d j 0
def jbW:Sig Unit:=sg [.borrow y29 true,.borrow y31 false,.borrow y3 false] [false,false] [(y29,none),(y31,none),(y3,none)] [] λb g k=>j6E b.1 b.2.1 b.2.2.1 (λd f=>k [w1 y31 d .O,wI f] [] [])
theorem jm8:SO 255 jbW:=fK (np:=0) (Za6 jcE (Za6 j4j (Za6 j6q (Za6 jh7 (Za6 jaJ Zas))))) [] oN false Tryz.func255 λ_ _ _ _=>by delta j6E j1P jab j5A j0N j47;refine gz j0I λ_ b=>gz j4q λ_ d=>gz j0Y λ_ f=>gz j0q λ_ g=>gz j0L λ_ h=> ?_;rewrite [<-b,<-d,<-f,<-g,<-h];kernel_rfl
end
end Go.PI.G
