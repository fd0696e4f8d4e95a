/-
  Program's code interpreted over typed values; printed texts; plain laws. No conditions.
-/
import Derived.Test.YtnemiodjnhfejaaGreatPTd
import Derived.Test.YtnemiodjnhfejaaGreatPTe
set_option linter.unusedVariables false
set_option maxRecDepth 100000
namespace Go.PI.G
noncomputable section
open Go Go.PI Go.Proofs
open Go.Code (pl pr)
def j0b (r:List qV) (b:qW->Res):Res:=bif lim (0+(List.length r)) then b r else none
def j27:Sig Unit:=sg [.borrow y3 true] [true] [(y3,none)] [] λd f k=>j0b d.1 (λb=>k [⟨y3,true,b,[.O]⟩] [] [])
theorem j24:SO 115 j27:=fK (np:=0) Zas [] oN false Tryz.func115 λ_ _ _ _=>by kernel_rfl
def j4B (c:qB×Int×Bool×Bool×Int×Int×qB) (d:Int×Int×qB) (b:Bool->Res):Res:=bif (d.1==0) then j1u d λr=>bif r then b (!c.2.2.1) else b false else j1u d λf=>bif f then b (d.1==c.2.1) else b false
def j91:Sig Unit:=sg [.look y7 true,.look y2 true] [false] [(y7,none),(y2,none)] [] λb f k=>j4B b.1 b.2.1 (λd=>k [wB d] [] [])
theorem jgA:SO 281 j91:=fK (np:=0) (Za6 j8f Zas) [] oN false Tryz.func281 λ_ _ _ _=>by delta j4B jbn;refine gz j1u λ_ b=> ?_;rewrite [<-b];kernel_rfl
theorem jip:FS [(227,j1e),(281,j91)]:=(Za6 j3K (Za6 jgA Zas))
def j5w (d:List qC) (f:Int) (r:List qV) (b:Int) (rec:Int->Res) (g:Unit->Res) (h:Unit->Res):Res:=bif decide (b<f) then bif inb b (List.length d) then bif inb b (List.length r) then j4B (nth (eS,0,false,false,0,0,eS) d b) (nth (0,0,eS) r b) λi=>bif !i then h () else rec (Z9K (b+1)) else none else none else g ()
def j86 (b:List qC) (d:Int) (r:List qV):Int->(Int->Res)->((Unit->Res)×(Unit->Res))->Res:=λv rec q=>j5w b d r v (λf=>rec (f)) q.1 q.2
def jdo (b:List qC) (d:Int) (r:List qV) (n:Nat) (f:Int) (g:Unit->Res) (h:Unit->Res):Res:=Z1f (j86 b d r) n (f) (g,h)
def jcC:Z1d Unit:=NdL 36 36 [.t 3 (pB 3),.R 20 y8 .S,.I 21,.I 22] [(3,y3,[.S])] (λb d=>(b.2.2.1)) (λb v=>(b.1,b.2.1,v,())) (λd v=>((d.1.1,d.1.2),())) (λb d=>j86 b.1 b.2.1 d.1.2) λb d f=>((λ_=>f (.exit 0) [] []),(λ_=>f .ret [(4,vB false)] []))
theorem jmY:CN 0 58 Tryz.f228 jcC:=lK jip [] oN ([],[]) [(0,[],[])] ([4],[]) λ_ _ _ _ _=>by kernel_rfl
def j2A (t:qB×qE×qL) (r:List qV) (b:Bool->Res):Res:=j0B t λd=>bif !d then b false else bif ((nI (List.length r)) != (nI (List.length t.2.1))) then b false else jdo t.2.1 (nI (List.length t.2.1)) r Z1c 0 (λ_=>b true) (λ_=>b false)
def j8w:Sig Unit:=sg [.look y29 true,.look y3 true] [false] [(y29,none),(y3,none)] [] λb f k=>j2A b.1 b.2.1 (λd=>k [wB d] [] [])
theorem jef:SO 228 j8w:=fK (np:=0) jip [jcC] (oI 58 0 @jmY oN) false Tryz.func228 λ_ _ _ _=>by delta j2A j1e jcC jdo;refine gz j0B λ_ b=>gz j86 λ_ d=> ?_;rewrite [<-b,<-d];kernel_rfl
def j4C (f:qL) (g:Int) (t:qB×qE×qL) (r:List qV) (d:List qV) (b:Int) (rec:qW->Int->Res) (i:qW->Res):Res:=bif decide (b<g) then bif inb b (List.length f) then j0Q t (nth eS f b) λh=>bif inb h (List.length r) then bif lim ((List.length d)+1) then rec (d++[nth (0,0,eS) r h]) (Z9K (b+1)) else none else none else none else i d
def jao (d:qL) (f:Int) (t:qB×qE×qL) (r:List qV):(qW×Int)->(qW×Int->Res)->((qW->Res))->Res:=λv rec q=>j4C d f t r v.1 v.2 (λb g=>rec (b,g)) q
def jgZ (d:qL) (f:Int) (t:qB×qE×qL) (r:List qV) (n:Nat) (b:List qV) (g:Int) (h:qW->Res):Res:=Z1f (jao d f t r) n (b,g) (h)
def jfR:Z1d Unit:=NdL 28 28 [.t 2 (pB 2),.t 3 (pB 3),.R 5 y3 .O,.R 10 y0 .S,.I 11,.I 12] [(2,y29,[.S,.S]),(3,y3,[.S])] (λb d=>(b.1,b.2.2.2.1)) (λb v=>(v.1,b.2.1,b.2.2.1,v.2,())) (λd v=>((d.1.1,d.1.2),(d.2.1.1,d.2.1.2),())) (λb d=>jao b.2.1 b.2.2.1 d.1.2 d.2.1.2) λb d g=>((λf=>g (.exit 0) [(5,v1 y3 f .O)] []))
theorem jm3:CN 0 58 Tryz.f173 jfR:=lK (Za6 j68 Zas) [] oN ([],[]) [(0,[5],[])] ([],[]) λ_ _ _ _ _=>by kernel_rfl
def j0F (t:qB×qE×qL) (r:List qV) (d:qW->Res):Res:=jgZ t.2.2 (nI (List.length t.2.2)) t r Z1c [] 0 λb=>d b
def j1t:Sig Unit:=sg [.borrow y29 true,.borrow y3 true] [false] [(y29,none),(y3,none)] [] λb f k=>j0F b.1 b.2.1 (λd=>k [w1 y3 d .O] [] [])
theorem j7s:SO 173 j1t:=fK (np:=0) (Za6 j68 Zas) [jfR] (oI 58 0 @jm3 oN) false Tryz.func173 λ_ _ _ _=>by kernel_rfl
def j3n (a:List qV) (b:List qV) (i:Int) (rec:Int->Res) (d:Unit->Res) (f:Bool->Res):Res:=bif decide (i<(nI (List.length a))) then bif decide (i<(nI (List.length b))) then bif inb i (List.length a) then bif inb i (List.length b) then bif !(((nth (0,0,eS) a i).1==(nth (0,0,eS) b i).1)&&(((nth (0,0,eS) a i).2.1==(nth (0,0,eS) b i).2.1)&&(sEq (nth (0,0,eS) a i).2.2 (nth (0,0,eS) b i).2.2))) then bif inb i (List.length a) then bif inb i (List.length b) then j8D (nth (0,0,eS) a i) (nth (0,0,eS) b i) λr=>f r else none else none else rec (Z9K (i+1)) else none else none else d () else d ()
def j9l (a:List qV) (b:List qV):Int->(Int->Res)->((Unit->Res)×(Bool->Res))->Res:=λv rec q=>j3n a b v (λi=>rec (i)) q.1 q.2
def jfu (a:List qV) (b:List qV) (n:Nat) (i:Int) (d:Unit->Res) (f:Bool->Res):Res:=Z1f (j9l a b) n (i) (d,f)
def jeW:Z1d Unit:=NdL 41 41 [.R 0 y3 .S,.R 1 y3 .S,.I 5] [] (λb d=>(b.2.2.1)) (λb v=>(b.1,b.2.1,v,())) (λd v=>()) (λb d=>j9l b.1 b.2.1) λb d f=>((λ_=>f (.exit 0) [(0,v1 y3 b.1 .S),(1,v1 y3 b.2.1 .S)] []),(λg=>f .ret [(4,vB g)] []))
theorem jkL:CN 0 26 Tryz.f229 jeW:=lK (Za6 jgx Zas) [] oN ([],[]) [(0,[0,1],[])] ([4],[]) λ_ _ _ _ _=>by kernel_rfl
def j4v (a:List qV) (b:List qV) (d:Bool->Res):Res:=jfu a b Z1c 0 (λ_=>d (decide ((nI (List.length a))<(nI (List.length b))))) (λt=>d t)
def j6B:Sig Unit:=sg [.look y3 false,.look y3 false] [false] [(y3,none),(y3,none)] [] λb f k=>j4v b.1 b.2.1 (λd=>k [wB d] [] [])
theorem jgw:SO 229 j6B:=fK (np:=0) (Za6 jgx Zas) [jeW] (oI 26 0 @jkL oN) false Tryz.func229 λ_ _ _ _=>by kernel_rfl
theorem jhN:FS [(173,j1t),(227,j1e),(228,j8w),(229,j6B)]:=(Za6 j7s (Za6 j3K (Za6 jef (Za6 jgw Zas))))
def j2r (l:List qW) (d:List qW) (f:Int) (t:qB×qE×qL) (b:Int) (rec:Int->Res) (h:Unit->Res) (g:Unit->Res):Res:=bif decide (b<f) then bif inb b (List.length d) then j2A t (nth [] d b) λr=>bif !r then g () else bif decide (b>0) then bif inb (Z9K (b-1)) (List.length l) then j0F t (nth [] l (Z9K (b-1))) λi=>j0F t (nth [] d b) λj=>j4v i j λk=>bif !k then g () else rec (Z9K (b+1)) else none else rec (Z9K (b+1)) else none else h ()
def j4w (l:List qW) (b:List qW) (d:Int) (t:qB×qE×qL):Int->(Int->Res)->((Unit->Res)×(Unit->Res))->Res:=λv rec q=>j2r l b d t v (λf=>rec (f)) q.1 q.2
def jcq (l:List qW) (b:List qW) (d:Int) (t:qB×qE×qL) (n:Nat) (f:Int) (g:Unit->Res) (h:Unit->Res):Res:=Z1f (j4w l b d t) n (f) (g,h)
def jbL:Z1d Unit:=NdL 45 45 [.R 1 y31 .S,.t 2 (pB 2),.R 15 y31 .S,.I 16,.I 17] [(2,y29,[.S,.S])] (λb d=>(b.2.2.2.1)) (λb v=>(b.1,b.2.1,b.2.2.1,v,())) (λd v=>((d.1.1,d.1.2),())) (λb d=>j4w b.1 b.2.1 b.2.2.1 d.1.2) λb d f=>((λ_=>f (.exit 0) [] []),(λ_=>f .ret [(4,vB false)] []))
theorem jlX:CN 0 58 Tryz.f172 jbL:=lK jhN [] oN ([],[]) [(0,[],[])] ([4],[]) λ_ _ _ _ _=>by delta j4w j2r j8w j1t j6B;refine gz j2A λ_ b=>gz j0F λ_ d=>gz j4v λ_ f=> ?_;rewrite [<-b,<-d,<-f];kernel_rfl
def j0E (t:qB×qE×qL) (l:List qW) (b:Bool->Res):Res:=j0B t λr=>bif !r then b false else bif decide ((nI (List.length l))>60) then b false else jcq l l (nI (List.length l)) t Z1c 0 (λ_=>b true) (λ_=>b false)
def j1s:Sig Unit:=sg [.look y29 true,.look y31 false] [false] [(y29,none),(y31,none)] [] λb f k=>j0E b.1 b.2.1 (λd=>k [wB d] [] [])
theorem j4R:SO 172 j1s:=fK (np:=0) jhN [jbL] (oI 58 0 @jlX oN) false Tryz.func172 λ_ _ _ _=>by delta j0E j1e jbL jcq;refine gz j0B λ_ b=>gz j4w λ_ d=> ?_;rewrite [<-b,<-d];kernel_rfl
def j3u (f:List qW) (h:Int) (b:List qW) (d:Int) (rec:qR->Int->Res) (g:qR->Res):Res:=bif decide (d<h) then bif inb d (List.length f) then j0b (nth [] f d) λr=>bif lim ((List.length b)+1) then rec (b++[r]) (Z9K (d+1)) else none else none else g b
def j9o (d:List qW) (f:Int):(qR×Int)->(qR×Int->Res)->((qR->Res))->Res:=λv rec q=>j3u d f v.1 v.2 (λb g=>rec (b,g)) q
def jfx (f:List qW) (g:Int) (n:Nat) (b:List qW) (h:Int) (d:qR->Res):Res:=Z1f (j9o f g) n (b,h) (d)
def jeZ:Z1d Unit:=NdL 20 20 [.R 3 y31 .O,.R 7 y31 .S,.I 8,.I 9] [] (λb f=>(b.1,b.2.2.2.1)) (λb v=>(v.1,b.2.1,b.2.2.1,v.2,())) (λf v=>()) (λb f=>j9o b.2.1 b.2.2.1) λb f g=>((λd=>g (.exit 0) [(3,v1 y31 d .O)] []))
theorem jkV:CN 0 58 Tryz.f244 jeZ:=lK (Za6 j24 Zas) [] oN ([],[]) [(0,[3],[])] ([],[]) λ_ _ _ _ _=>by kernel_rfl
def j6R (l:List qW) (d:qR->Res):Res:=jfx l (nI (List.length l)) Z1c [] 0 λb=>d b
def j90:Sig Unit:=sg [.borrow y31 false] [false] [(y31,none)] [] λd f k=>j6R d.1 (λb=>k [w1 y31 b .O] [] [])
theorem jgz:SO 244 j90:=fK (np:=0) (Za6 j24 Zas) [jeZ] (oI 58 0 @jkV oN) false Tryz.func244 λ_ _ _ _=>by kernel_rfl
def j1K (a:List qV) (b:List qV) (f:Int) (d:Int) (rec:Int->Res) (g:Unit->Res) (h:Unit->Res):Res:=bif decide (d<f) then bif inb d (List.length a) then bif inb d (List.length b) then bif !(((nth (0,0,eS) a d).1==(nth (0,0,eS) b d).1)&&(((nth (0,0,eS) a d).2.1==(nth (0,0,eS) b d).2.1)&&(sEq (nth (0,0,eS) a d).2.2 (nth (0,0,eS) b d).2.2))) then h () else rec (Z9K (d+1)) else none else none else g ()
def j6T (a:List qV) (b:List qV) (d:Int):Int->(Int->Res)->((Unit->Res)×(Unit->Res))->Res:=λv rec q=>j1K a b d v (λf=>rec (f)) q.1 q.2
def jbX (a:List qV) (b:List qV) (d:Int) (n:Nat) (f:Int) (g:Unit->Res) (h:Unit->Res):Res:=Z1f (j6T a b d) n (f) (g,h)
def jbP:Z1d Unit:=NdL 26 26 [.R 0 y3 .S,.R 1 y3 .S,.I 12,.I 13] [] (λb d=>(b.2.2.2.1)) (λb v=>(b.1,b.2.1,b.2.2.1,v,())) (λd v=>()) (λb d=>j6T b.1 b.2.1 b.2.2.1) λb d f=>((λ_=>f (.exit 0) [] []),(λ_=>f .ret [(4,vB false)] []))
theorem jhy:CN 0 58 Tryz.f126 jbP:=lK Zas [] oN ([],[]) [(0,[],[])] ([4],[]) λ_ _ _ _ _=>by kernel_rfl
def j2t (a:List qV) (b:List qV) (d:Bool->Res):Res:=bif ((nI (List.length a)) != (nI (List.length b))) then d false else jbX a b (nI (List.length a)) Z1c 0 (λ_=>d true) (λ_=>d false)
def j5o:Sig Unit:=sg [.look y3 false,.look y3 false] [false] [(y3,none),(y3,none)] [] λb f k=>j2t b.1 b.2.1 (λd=>k [wB d] [] [])
theorem jcP:SO 126 j5o:=fK (np:=0) Zas [jbP] (oI 58 0 @jhy oN) false Tryz.func126 λ_ _ _ _=>by kernel_rfl
theorem jio:FS [(126,j5o),(172,j1s),(173,j1t)]:=(Za6 jcP (Za6 j4R (Za6 j7s Zas)))
def j2Y (f:List qV) (d:List qW) (g:Int) (t:qB×qE×qL) (b:Int) (rec:Int->Res) (h:Unit->Res) (i:Int->Res):Res:=bif decide (b<g) then bif inb b (List.length d) then j0F t (nth [] d b) λr=>j2t r f λj=>bif j then i b else rec (Z9K (b+1)) else none else h ()
def j5v (b:List qV) (d:List qW) (f:Int) (t:qB×qE×qL):Int->(Int->Res)->((Unit->Res)×(Int->Res))->Res:=λv rec q=>j2Y b d f t v (λg=>rec (g)) q.1 q.2
def jdn (b:List qV) (d:List qW) (f:Int) (t:qB×qE×qL) (n:Nat) (g:Int) (h:Unit->Res) (i:Int->Res):Res:=Z1f (j5v b d f t) n (g) (h,i)
def jcB:Z1d Unit:=NdL 27 27 [.R 2 y3 .S,.t 3 (pB 3),.R 13 y31 .S,.I 14,.I 15] [(3,y29,[.S,.S])] (λb d=>(b.2.2.2.1)) (λb v=>(b.1,b.2.1,b.2.2.1,v,())) (λd v=>((d.1.1,d.1.2),())) (λb d=>j5v b.1 b.2.1 b.2.2.1 d.1.2) λb d f=>((λ_=>f (.exit 0) [] []),(λg=>f .ret [(6,vI g)] []))
theorem jmX:CN 0 58 Tryz.f114 jcB:=lK jio [] oN ([],[]) [(0,[],[])] ([6],[]) λ_ _ _ _ _=>by delta j5v j2Y j1t j5o;refine gz j0F λ_ b=>gz j2t λ_ d=> ?_;rewrite [<-b,<-d];kernel_rfl
def j1f (t:qB×qE×qL) (l:List qW) (d:List qV) (b:Int->Res):Res:=j0E t l λr=>bif !r then b (-1) else jdn d l (nI (List.length l)) t Z1c 0 (λ_=>b (-1)) (λf=>b f)
def j8v:Sig Unit:=sg [.look y29 true,.look y31 false,.look y3 false] [false] [(y29,none),(y31,none),(y3,none)] [] λb f k=>j1f b.1 b.2.1 b.2.2.1 (λd=>k [wI d] [] [])
theorem jaS:SO 114 j8v:=fK (np:=0) jio [jcB] (oI 58 0 @jmX oN) false Tryz.func114 λ_ _ _ _=>by delta j1f j1s jcB jdn;refine gz j0E λ_ b=>gz j5v λ_ d=> ?_;rewrite [<-b,<-d];kernel_rfl
theorem jd2:FS [(115,j27),(173,j1t),(229,j6B)]:=(Za6 j24 (Za6 j7s (Za6 jgw Zas)))
def j6S (b:List qW) (done:Bool) (t:qB×qE×qL) (r:List qV) (x:List qV) (d:qR->Bool->Res):Res:=bif !done then j0F t r λf=>j0F t x λg=>j4v f g λh=>bif h then j0b r λi=>bif lim ((List.length b)+1) then d (b++[i]) true else none else d b done else d b done
def j8b:Z1d Unit:=Nd 48 48 [.t 3 (pB 3),.t 5 (pB 5),.R 7 y31 .O,.B 8,.t 10 (pB 10),.R 12 y31 .S,.I 13,.I 14] [(3,y29,[.S,.S]),(5,y3,[.S]),(10,y3,[.S])] λg b h=>j6S g.1 g.2.1 b.1.2 b.2.1.2 b.2.2.1.2 (λf d=>h .normal [(3,pB 3),(5,pB 5),(7,v1 y31 f .O),(8,vB d),(10,pB 10),(12,v1 y31 g.2.2.1 .S),(13,vI g.2.2.2.1),(14,vI g.2.2.2.2.1)] [(3,⟨y29,b.1.1,b.1.2,[.S,.S]⟩),(5,⟨y3,b.2.1.1,b.2.1.2,[.S]⟩),(10,⟨y3,b.2.2.1.1,b.2.2.1.2,[.S]⟩)])
theorem jm5:CN 0 15666 Tryz.f312 j8b:=nK jd2 [] oN ([3,5,7,8,10,12,13,14],[3,5,10]) [] ([],[]) λ_ _ _=>by delta j6S j1t j6B j27;refine gz j0F λ_ b=>gz j4v λ_ d=>gz j0b λ_ f=> ?_;rewrite [<-b,<-d,<-f];kernel_rfl
def j2s (g:List qW) (i:Int) (t:qB×qE×qL) (r:List qV) (h:List qW) (done:Bool) (b:Int) (rec:qR->Bool->Int->Res) (j:qR->Bool->Res):Res:=bif decide (b<i) then bif inb b (List.length g) then j6S h done t r (nth [] g b) λd f=>j0b (nth [] g b) λk=>bif lim ((List.length d)+1) then rec (d++[k]) f (Z9K (b+1)) else none else none else j h done
def j4D (d:List qW) (f:Int) (t:qB×qE×qL) (r:List qV):(qR×Bool×Int)->(qR×Bool×Int->Res)->((qR->Bool->Res))->Res:=λv rec q=>j2s d f t r v.1 v.2.1 v.2.2 (λb done g=>rec (b,done,g)) q
def jcu (d:List qW) (f:Int) (t:qB×qE×qL) (r:List qV) (n:Nat) (b:List qW) (done:Bool) (g:Int) (h:qR->Bool->Res):Res:=Z1f (j4D d f t r) n (b,done,g) (h)
def jbO:Z1d Unit:=NdL 48 48 [.t 3 (pB 3),.t 5 (pB 5),.R 7 y31 .O,.B 8,.R 12 y31 .S,.I 13,.I 14] [(3,y29,[.S,.S]),(5,y3,[.S])] (λd b=>(d.1,d.2.1,d.2.2.2.2.1)) (λd v=>(v.1,v.2.1,d.2.2.1,d.2.2.2.1,v.2.2,())) (λb v=>((b.1.1,b.1.2),(b.2.1.1,b.2.1.2),())) (λd b=>j4D d.2.2.1 d.2.2.2.1 b.1.2 b.2.1.2) λd b h=>((λg f=>h (.exit 0) [(5,pB 5),(7,v1 y31 g .O),(8,vB f)] [(5,⟨y3,b.2.1.1,b.2.1.2,[.S]⟩)]))
theorem jm4:CN 0 122 Tryz.f312 jbO:=lK jd2 [j8b] (oI 114 0 @jm5 oN) ([],[]) [(0,[5,7,8],[5])] ([],[]) λ_ _ _ _ _=>by delta j4D j2s j8b j27;refine gz j6S λ_ b=>gz j0b λ_ d=> ?_;rewrite [<-b,<-d];kernel_rfl
def j3J (t:qB×qE×qL) (l:List qW) (r:List qV) (d:qR->Res):Res:=jcu l (nI (List.length l)) t r Z1c [] false 0 λb done=>bif !done then j0b r λf=>bif lim ((List.length b)+1) then d (b++[f]) else none else d b
def jdj:Sig Unit:=sg [.borrow y29 true,.borrow y31 false,.borrow y3 true] [false] [(y29,none),(y31,none),(y3,none)] [] λb f k=>j3J b.1 b.2.1 b.2.2.1 (λd=>k [w1 y31 d .O] [] [])
theorem jhX:SO 312 jdj:=fK (np:=0) jd2 [j8b,jbO] (oI 122 1 @jm4 oN) false Tryz.func312 λ_ _ _ _=>by delta j3J jbO j27 jcu;refine gz j4D λ_ b=>gz j0b λ_ d=> ?_;rewrite [<-b,<-d];kernel_rfl
def j7L (t:qB×qE×qL) (l:List qW) (r:List qV) (b:qR->Int->Res):Res:=j0E t l λd=>bif !d then b [] 1 else j2A t r λf=>bif !f then b [] 2 else j0F t r λg=>j1f t l g λh=>bif decide (h>=0) then b [] 3 else bif ((nI (List.length l))==60) then b [] 4 else j3J t l r λi=>b i 0
def ji8:Sig Unit:=sg [.borrow y29 true,.borrow y31 false,.borrow y3 true] [false,false] [(y29,none),(y31,none),(y3,none)] [] λb g k=>j7L b.1 b.2.1 b.2.2.1 (λd f=>k [w1 y31 d .O,wI f] [] [])
theorem jnX:SO 288 ji8:=fK (np:=0) (Za6 jaS (Za6 j4R (Za6 j7s (Za6 jef (Za6 jhX Zas))))) [] oN false Tryz.func288 λ_ _ _ _=>by delta j7L j1s j8w j1t j8v jdj;refine gz j0E λ_ b=>gz j2A λ_ d=>gz j0F λ_ f=>gz j1f λ_ g=>gz j3J λ_ h=> ?_;rewrite [<-b,<-d,<-f,<-g,<-h];kernel_rfl
theorem jim:FS [(227,j1e),(230,j2L),(281,j91)]:=(Za6 j3K (Za6 j68 (Za6 jgA Zas)))
def j2X (d:List qV) (f:qL) (g:Int) (t:qB×qE×qL) (b:Int) (rec:Int->Res) (h:Unit->Res) (i:Unit->Res):Res:=bif decide (b<g) then bif inb b (List.length f) then bif inb b (List.length d) then j0Q t (nth eS f b) λr=>bif inb r (List.length t.2.1) then j4B (nth (eS,0,false,false,0,0,eS) t.2.1 r) (nth (0,0,eS) d b) λj=>bif !j then i () else rec (Z9K (b+1)) else none else none else none else h ()
def j5u (b:List qV) (d:qL) (f:Int) (t:qB×qE×qL):Int->(Int->Res)->((Unit->Res)×(Unit->Res))->Res:=λv rec q=>j2X b d f t v (λg=>rec (g)) q.1 q.2
def jdm (b:List qV) (d:qL) (f:Int) (t:qB×qE×qL) (n:Nat) (g:Int) (h:Unit->Res) (i:Unit->Res):Res:=Z1f (j5u b d f t) n (g) (h,i)
def jcz:Z1d Unit:=NdL 40 40 [.R 1 y3 .S,.t 2 (pB 2),.R 19 y0 .S,.I 20,.I 21] [(2,y29,[.S,.S])] (λb d=>(b.2.2.2.1)) (λb v=>(b.1,b.2.1,b.2.2.1,v,())) (λd v=>((d.1.1,d.1.2),())) (λb d=>j5u b.1 b.2.1 b.2.2.1 d.1.2) λb d f=>((λ_=>f (.exit 0) [] []),(λ_=>f .ret [(4,vB false)] []))
theorem jmV:CN 0 58 Tryz.f313 jcz:=lK jim [] oN ([],[]) [(0,[],[])] ([4],[]) λ_ _ _ _ _=>by delta j5u j2X j2L j91;refine gz j0Q λ_ b=>gz j4B λ_ d=> ?_;rewrite [<-b,<-d];kernel_rfl
def j5t (t:qB×qE×qL) (b:List qV) (d:Bool->Res):Res:=j0B t λr=>bif !r then d false else bif ((nI (List.length b)) != (nI (List.length t.2.2))) then d false else jdm b t.2.2 (nI (List.length t.2.2)) t Z1c 0 (λ_=>d true) (λ_=>d false)
def jeL:Sig Unit:=sg [.look y29 true,.look y3 false] [false] [(y29,none),(y3,none)] [] λb f k=>j5t b.1 b.2.1 (λd=>k [wB d] [] [])
theorem jiH:SO 313 jeL:=fK (np:=0) jim [jcz] (oI 58 0 @jmV oN) false Tryz.func313 λ_ _ _ _=>by delta j5t j1e jcz jdm;refine gz j0B λ_ b=>gz j5u λ_ d=> ?_;rewrite [<-b,<-d];kernel_rfl
def j1T (f:Int) (h:List qW) (g:Int) (d:List qW) (b:Int) (rec:qR->Int->Res) (i:qR->Res):Res:=bif decide (b<g) then bif inb b (List.length h) then bif (b != f) then j0b (nth [] h b) λr=>bif lim ((List.length d)+1) then rec (d++[r]) (Z9K (b+1)) else none else rec d (Z9K (b+1)) else none else i d
def j7g (b:Int) (h:List qW) (f:Int):(qR×Int)->(qR×Int->Res)->((qR->Res))->Res:=λv rec q=>j1T b h f v.1 v.2 (λd g=>rec (d,g)) q
def jcW (b:Int) (i:List qW) (f:Int) (n:Nat) (d:List qW) (g:Int) (h:qR->Res):Res:=Z1f (j7g b i f) n (d,g) (h)
def jbY:Z1d Unit:=NdL 26 26 [.I 1,.R 5 y31 .O,.R 9 y31 .S,.I 10,.I 11] [] (λb f=>(b.2.1,b.2.2.2.2.1)) (λb v=>(b.1,v.1,b.2.2.1,b.2.2.2.1,v.2,())) (λf v=>()) (λb f=>j7g b.1 b.2.2.1 b.2.2.2.1) λb f g=>((λd=>g (.exit 0) [(5,v1 y31 d .O)] []))
theorem jii:CN 0 58 Tryz.f314 jbY:=lK (Za6 j24 Zas) [] oN ([],[]) [(0,[5],[])] ([],[]) λ_ _ _ _ _=>by kernel_rfl
def j1S (l:List qW) (b:Int) (f:qR->Res):Res:=jcW b l (nI (List.length l)) Z1c [] 0 λd=>f d
def j9j:Sig Unit:=sg [.borrow y31 false,.borrow tI false] [false] [(y31,none),(tI,none)] [] λb f k=>j1S b.1 b.2.1 (λd=>k [w1 y31 d .O] [] [])
theorem jdB:SO 314 j9j:=fK (np:=0) (Za6 j24 Zas) [jbY] (oI 58 0 @jii oN) false Tryz.func314 λ_ _ _ _=>by kernel_rfl
def j7M (t:qB×qE×qL) (l:List qW) (d:List qV) (r:List qV) (b:qR->Int->Res):Res:=j0E t l λh=>bif !h then b [] 1 else j2A t r λi=>bif !i then b [] 2 else j1f t l d λf=>j5t t d λj=>bif !j then b [] 5 else bif decide (f<0) then b [] 5 else j1S l f λg=>j0F t r λk=>j1f t g k λm=>bif decide (m>=0) then b [] 3 else j3J t g r λn=>b n 0
def ji9:Sig Unit:=sg [.borrow y29 true,.borrow y31 false,.borrow y3 false,.borrow y3 true] [false,false] [(y29,none),(y31,none),(y3,none),(y3,none)] [] λb g k=>j7M b.1 b.2.1 b.2.2.1 b.2.2.2.1 (λd f=>k [w1 y31 d .O,wI f] [] [])
theorem jnY:SO 289 ji9:=fK (np:=0) (Za6 jaS (Za6 j4R (Za6 j7s (Za6 jef (Za6 jhX (Za6 jiH (Za6 jdB Zas))))))) [] oN false Tryz.func289 λ_ _ _ _=>by delta j7M j1s j8w j8v jeL j9j j1t jdj;refine gz j0E λ_ b=>gz j2A λ_ d=>gz j1f λ_ f=>gz j5t λ_ g=>gz j1S λ_ h=>gz j0F λ_ i=>gz j3J λ_ j=> ?_;rewrite [<-b,<-d,<-f,<-g,<-h,<-i,<-j];kernel_rfl
def j7K (t:qB×qE×qL) (l:List qW) (b:List qV) (d:qR->Int->Res):Res:=j0E t l λr=>bif !r then d [] 1 else j1f t l b λf=>j5t t b λg=>bif !g then d [] 5 else bif decide (f<0) then d [] 5 else j1S l f λh=>d h 0
def ji7:Sig Unit:=sg [.borrow y29 true,.borrow y31 false,.borrow y3 false] [false,false] [(y29,none),(y31,none),(y3,none)] [] λb g k=>j7K b.1 b.2.1 b.2.2.1 (λd f=>k [w1 y31 d .O,wI f] [] [])
theorem jnW:SO 290 ji7:=fK (np:=0) (Za6 jaS (Za6 j4R (Za6 jiH (Za6 jdB Zas)))) [] oN false Tryz.func290 λ_ _ _ _=>by delta j7K j1s j8v jeL j9j;refine gz j0E λ_ b=>gz j1f λ_ d=>gz j5t λ_ f=>gz j1S λ_ g=> ?_;rewrite [<-b,<-d,<-f,<-g];kernel_rfl
theorem j66:FS [(172,j1s),(210,j4t),(230,j2L),(287,j5n)]:=(Za6 j4R (Za6 jed (Za6 j68 (Za6 jf9 Zas))))
def j5x (l:List qW) (t:qB×qE×qL) (d:qG) (b:Bool->Res):Res:=j0E t l λr=>bif !r then b true else j2z d λf=>bif !f then b true else bif sNe d.2.1 t.1 then b true else b (d.1==1)
def j2v:Z1d Unit:=Nd 106 106 [.R 1 y31 .S,.t 3 (pB 3),.t 5 (pB 5)] [(3,y29,[.S,.S]),(5,y13,[.S,.S])] λf b g=>j5x f.1 b.1.2 b.2.1.2 (λd=>g .normal [(1,v1 y31 f.1 .S),(3,pB 3),(5,pB 5),(37,vB d)] [(3,⟨y29,b.1.1,b.1.2,[.S,.S]⟩),(5,⟨y13,b.2.1.1,b.2.1.2,[.S,.S]⟩)])
theorem jkO:CN 0 12 Tryz.f291 j2v:=nK j66 [] oN ([1,3,5,37],[3,5]) [] ([],[]) λ_ _ _=>by delta j5x j1s j4t;refine gz j0E λ_ b=>gz j2z λ_ d=> ?_;rewrite [<-b,<-d];kernel_rfl
def j0H (g:Int) (f:List qV) (h:Int) (d:qG) (b:Int) (x:List qV) (rec:Int->qW->Res) (i:qW->Res):Res:=bif decide (b<h) then bif inb b (List.length f) then bif (d.1 != 4) then bif lim ((List.length x)+1) then rec (Z9K (b+1)) (x++[nth (0,0,eS) f b]) else none else bif (b != g) then bif lim ((List.length x)+1) then rec (Z9K (b+1)) (x++[nth (0,0,eS) f b]) else none else rec (Z9K (b+1)) x else none else i x
def j3o (b:Int) (f:List qV) (g:Int) (d:qG):(Int×qW)->(Int×qW->Res)->((qW->Res))->Res:=λv rec q=>j0H b f g d v.1 v.2 (λh x=>rec (h,x)) q
def j87 (b:Int) (f:List qV) (g:Int) (d:qG) (n:Nat) (h:Int) (x:List qV) (i:qW->Res):Res:=Z1f (j3o b f g d) n (h,x) (i)
def j4I:Z1d Unit:=NdL 106 106 [.t 5 (pB 5),.R 10 y31 .O,.I 11,.t 14 (pB 14),.R 54 y31 .S,.I 55,.I 56,.R 62 y3 .S,.I 63,.I 64] [(5,y13,[.S,.S]),(14,y3,[.O])] (λb d=>(b.2.2.2.2.2.2.2.1,d.2.1.2)) (λb v=>(b.1,b.2.1,b.2.2.1,b.2.2.2.1,b.2.2.2.2.1,b.2.2.2.2.2.1,b.2.2.2.2.2.2.1,v.1,())) (λd v=>((d.1.1,d.1.2),(d.2.1.1,v.2),())) (λb d=>j3o b.2.1 b.2.2.2.2.2.1 b.2.2.2.2.2.2.1 d.1.2) λb d f=>((λg=>f (.exit 2) [(5,pB 5),(10,v1 y31 b.1 .O),(11,vI b.2.1),(14,pB 14),(54,v1 y31 b.2.2.1 .S),(55,vI b.2.2.2.1),(56,vI b.2.2.2.2.1)] [(5,⟨y13,d.1.1,d.1.2,[.S,.S]⟩),(14,⟨y3,d.2.1.1,g,[.O]⟩)]))
theorem jkM:CN 0 1042842 Tryz.f291 j4I:=lK j66 [j2v] oN ([],[]) [(2,[5,10,11,14,54,55,56],[5,14])] ([],[]) λ_ _ _ _ _=>by kernel_rfl
def j88 (b:Bool) (d:qG) (x:List qV) (f:qW->Res):Res:=bif b then bif inb 0 (List.length d.2.2.1) then bif lim ((List.length x)+1) then f (x++[(nth (eS,0,false,false,0,0,eS) d.2.2.1 0).2.2.2.2]) else none else none else f x
def j7m:Z1d Unit:=Nd 106 106 [.t 5 (pB 5),.R 10 y31 .O,.I 11,.t 14 (pB 14),.R 54 y31 .S,.I 55,.I 56,.B 86] [(5,y13,[.S,.S]),(14,y3,[.O])] λb d f=>j88 b.2.2.2.2.2.1 d.1.2 d.2.1.2 (λg=>f .normal [(5,pB 5),(10,v1 y31 b.1 .O),(11,vI b.2.1),(14,pB 14),(54,v1 y31 b.2.2.1 .S),(55,vI b.2.2.2.1),(56,vI b.2.2.2.2.1)] [(5,⟨y13,d.1.1,d.1.2,[.S,.S]⟩),(14,⟨y3,d.2.1.1,g,[.O]⟩)])
theorem jkP:CN 0 1042845 Tryz.f291 j7m:=nK j66 [j2v,j4I] oN ([5,10,11,14,54,55,56],[5,14]) [] ([],[]) λ_ _ _=>by kernel_rfl
def j1Y (h:Int) (g:List qW) (i:Int) (d:qG) (f:List qW) (b:Int) (rec:qR->Int->Res) (j:qR->Res):Res:=bif decide (b<i) then bif inb b (List.length g) then j87 h (nth [] g b) (nI (List.length (nth [] g b))) d Z1c 0 [] λx=>j88 (d.1==3) d x λk=>bif (d.1 != 2) then bif lim ((List.length f)+1) then rec (f++[k]) (Z9K (b+1)) else none else rec f (Z9K (b+1)) else none else j f
def j3p (b:Int) (g:List qW) (h:Int) (d:qG):(qR×Int)->(qR×Int->Res)->((qR->Res))->Res:=λv rec q=>j1Y b g h d v.1 v.2 (λf i=>rec (f,i)) q
def jbv (b:Int) (g:List qW) (h:Int) (d:qG) (n:Nat) (f:List qW) (i:Int) (j:qR->Res):Res:=Z1f (j3p b g h d) n (f,i) (j)
def jaA:Z1d Unit:=NdL 106 106 [.t 5 (pB 5),.R 10 y31 .O,.I 11,.R 54 y31 .S,.I 55,.I 56] [(5,y13,[.S,.S])] (λb d=>(b.1,b.2.2.2.2.1)) (λb v=>(v.1,b.2.1,b.2.2.1,b.2.2.2.1,v.2,())) (λd v=>((d.1.1,d.1.2),())) (λb d=>j3p b.2.1 b.2.2.1 b.2.2.2.1 d.1.2) λb d g=>((λf=>g (.exit 0) [(10,v1 y31 f .O)] []))
theorem jkN:CN 0 1018 Tryz.f291 jaA:=lK j66 [j2v,j4I,j7m] (oI 922 1 @jkM (oI 925 2 @jkP oN)) ([],[]) [(0,[10],[])] ([],[]) λ_ _ _ _ _=>by delta j3p j1Y j4I j7m j87;refine gz j3o λ_ b=>gz j88 λ_ d=> ?_;rewrite [<-b,<-d];kernel_rfl
def j6N (t:qB×qE×qL) (l:List qW) (d:qG) (b:qR->Int->Res):Res:=j5x l t d λi=>bif i then b [] 1 else j28 [t] d λr g=>bif (g != 0) then b [] g else j0Q t d.2.2.2.2.1 λh=>jbv h l (nI (List.length l)) d Z1c [] 0 λf=>b f 0
def jgU:Sig Unit:=sg [.borrow y29 true,.borrow y31 false,.borrow y13 true] [false,false] [(y29,none),(y31,none),(y13,none)] [] λb g k=>j6N b.1 b.2.1 b.2.2.1 (λd f=>k [w1 y31 d .O,wI f] [] [])
theorem jmy:SO 291 jgU:=fK (np:=0) j66 [j2v,j4I,j7m,jaA] (oI 12 0 @jkO (oI 1018 3 @jkN oN)) false Tryz.func291 λ_ _ _ _=>by delta j6N j2v j5n j2L jaA jbv;refine gz j5x λ_ b=>gz j28 λ_ d=>gz j0Q λ_ f=>gz j3p λ_ g=> ?_;rewrite [<-b,<-d,<-f,<-g];kernel_rfl
def j0y (l:List qV) (b:qW->Res):Res:=bif lim (0+(List.length l)) then b l else none
def j5l:Sig Unit:=sg [.borrow y3 false] [false] [(y3,none)] [] λd f k=>j0y d.1 (λb=>k [w1 y3 b .O] [] [])
theorem j51:SO 178 j5l:=fK (np:=0) Zas [] oN false Tryz.func178 λ_ _ _ _=>by kernel_rfl
def jcI (c:qB×Int×Bool×Bool×Int×Int×qB) (d:Int×Int×qB) (b:Bool->Res):Res:=j1d d λr=>bif r then bif (d.1==c.2.1) then b true else bif (d.1==0) then b (!c.2.2.1) else b false else b false
def jou:Sig Unit:=sg [.look y7 true,.look y2 true] [false] [(y7,none),(y2,none)] [] λb f k=>jcI b.1 b.2.1 (λd=>k [wB d] [] [])
theorem jhT:SO 315 jou:=fK (np:=0) (Za6 j8c Zas) [] oN false Tryz.func315 λ_ _ _ _=>by kernel_rfl
def j5f (d:List qV) (f:Int) (t:qB×qE×qL) (b:Int) (rec:Int->Res) (g:Unit->Res) (h:Unit->Res):Res:=bif decide (b<f) then bif inb b (List.length d) then bif inb b (List.length t.2.1) then jcI (nth (eS,0,false,false,0,0,eS) t.2.1 b) (nth (0,0,eS) d b) λr=>bif !r then h () else rec (Z9K (b+1)) else none else none else g ()
def jb5 (b:List qV) (d:Int) (t:qB×qE×qL):Int->(Int->Res)->((Unit->Res)×(Unit->Res))->Res:=λv rec q=>j5f b d t v (λf=>rec (f)) q.1 q.2
def ji2 (b:List qV) (d:Int) (t:qB×qE×qL) (n:Nat) (f:Int) (g:Unit->Res) (h:Unit->Res):Res:=Z1f (jb5 b d t) n (f) (g,h)
def jha:Z1d Unit:=NdL 31 31 [.t 2 (pB 2),.R 15 y3 .S,.I 16,.I 17] [(2,y29,[.S,.S])] (λb d=>(b.2.2.1)) (λb v=>(b.1,b.2.1,v,())) (λd v=>((d.1.1,d.1.2),())) (λb d=>jb5 b.1 b.2.1 d.1.2) λb d f=>((λ_=>f (.exit 0) [] []),(λ_=>f .ret [(4,vB false)] []))
theorem jmR:CN 0 58 Tryz.f293 jha:=lK (Za6 jhT Zas) [] oN ([],[]) [(0,[],[])] ([4],[]) λ_ _ _ _ _=>by kernel_rfl
def j3B (t:qB×qE×qL) (r:List qV) (b:Bool->Res):Res:=bif ((nI (List.length r)) != (nI (List.length t.2.1))) then b false else ji2 r (nI (List.length r)) t Z1c 0 (λ_=>b true) (λ_=>b false)
def j6x:Sig Unit:=sg [.look y29 true,.look y3 true] [false] [(y29,none),(y3,none)] [] λb f k=>j3B b.1 b.2.1 (λd=>k [wB d] [] [])
theorem je7:SO 293 j6x:=fK (np:=0) (Za6 jhT Zas) [jha] (oI 58 0 @jmR oN) false Tryz.func293 λ_ _ _ _=>by kernel_rfl
def j5e (f:qL) (g:Int) (t:qB×qE×qL) (r:List qV) (d:List qV) (b:Int) (rec:qW->Int->Res) (i:qW->Res):Res:=bif decide (b<g) then bif inb b (List.length f) then j0h t (nth eS f b) λh=>bif inb h (List.length r) then bif lim ((List.length d)+1) then rec (d++[nth (0,0,eS) r h]) (Z9K (b+1)) else none else none else none else i d
def jb4 (d:qL) (f:Int) (t:qB×qE×qL) (r:List qV):(qW×Int)->(qW×Int->Res)->((qW->Res))->Res:=λv rec q=>j5e d f t r v.1 v.2 (λb g=>rec (b,g)) q
def ji1 (d:qL) (f:Int) (t:qB×qE×qL) (r:List qV) (n:Nat) (b:List qV) (g:Int) (h:qW->Res):Res:=Z1f (jb4 d f t r) n (b,g) (h)
def jh9:Z1d Unit:=NdL 28 28 [.t 2 (pB 2),.t 3 (pB 3),.R 5 y3 .O,.R 10 y0 .S,.I 11,.I 12] [(2,y29,[.S,.S]),(3,y3,[.S])] (λb d=>(b.1,b.2.2.2.1)) (λb v=>(v.1,b.2.1,b.2.2.1,v.2,())) (λd v=>((d.1.1,d.1.2),(d.2.1.1,d.2.1.2),())) (λb d=>jb4 b.2.1 b.2.2.1 d.1.2 d.2.1.2) λb d g=>((λf=>g (.exit 0) [(5,v1 y3 f .O)] []))
theorem jmQ:CN 0 58 Tryz.f238 jh9:=lK (Za6 j3Y Zas) [] oN ([],[]) [(0,[5],[])] ([],[]) λ_ _ _ _ _=>by kernel_rfl
def j0N (t:qB×qE×qL) (r:List qV) (d:qW->Res):Res:=ji1 t.2.2 (nI (List.length t.2.2)) t r Z1c [] 0 λb=>d b
def j1Q:Sig Unit:=sg [.borrow y29 true,.borrow y3 true] [false] [(y29,none),(y3,none)] [] λb f k=>j0N b.1 b.2.1 (λd=>k [w1 y3 d .O] [] [])
theorem j8d:SO 238 j1Q:=fK (np:=0) (Za6 j3Y Zas) [jh9] (oI 58 0 @jmQ oN) false Tryz.func238 λ_ _ _ _=>by kernel_rfl
def j3d (a:List qV) (b:List qV) (i:Int) (rec:Int->Res) (d:Unit->Res) (f:Bool->Res):Res:=bif decide (i<(nI (List.length a))) then bif decide (i<(nI (List.length b))) then bif inb i (List.length a) then bif inb i (List.length b) then bif !(((nth (0,0,eS) a i).1==(nth (0,0,eS) b i).1)&&(((nth (0,0,eS) a i).2.1==(nth (0,0,eS) b i).2.1)&&(sEq (nth (0,0,eS) a i).2.2 (nth (0,0,eS) b i).2.2))) then bif inb i (List.length a) then bif inb i (List.length b) then j8j (nth (0,0,eS) a i) (nth (0,0,eS) b i) λr=>f r else none else none else rec (Z9K (i+1)) else none else none else d () else d ()
def j9e (a:List qV) (b:List qV):Int->(Int->Res)->((Unit->Res)×(Bool->Res))->Res:=λv rec q=>j3d a b v (λi=>rec (i)) q.1 q.2
def jfg (a:List qV) (b:List qV) (n:Nat) (i:Int) (d:Unit->Res) (f:Bool->Res):Res:=Z1f (j9e a b) n (i) (d,f)
def jeS:Z1d Unit:=NdL 41 41 [.R 0 y3 .S,.R 1 y3 .S,.I 5] [] (λb d=>(b.2.2.1)) (λb v=>(b.1,b.2.1,v,())) (λd v=>()) (λb d=>j9e b.1 b.2.1) λb d f=>((λ_=>f (.exit 0) [(0,v1 y3 b.1 .S),(1,v1 y3 b.2.1 .S)] []),(λg=>f .ret [(4,vB g)] []))
theorem jkw:CN 0 26 Tryz.f294 jeS:=lK (Za6 jgq Zas) [] oN ([],[]) [(0,[0,1],[])] ([4],[]) λ_ _ _ _ _=>by kernel_rfl
def j40 (a:List qV) (b:List qV) (d:Bool->Res):Res:=jfg a b Z1c 0 (λ_=>d (decide ((nI (List.length a))<(nI (List.length b))))) (λt=>d t)
def j6t:Sig Unit:=sg [.look y3 false,.look y3 false] [false] [(y3,none),(y3,none)] [] λb f k=>j40 b.1 b.2.1 (λd=>k [wB d] [] [])
theorem jgo:SO 294 j6t:=fK (np:=0) (Za6 jgq Zas) [jeS] (oI 26 0 @jkw oN) false Tryz.func294 λ_ _ _ _=>by kernel_rfl
theorem jhJ:FS [(238,j1Q),(268,j3S),(293,j6x),(294,j6t)]:=(Za6 j8d (Za6 j67 (Za6 je7 (Za6 jgo Zas))))
def j2n (l:List qW) (d:List qW) (f:Int) (t:qB×qE×qL) (b:Int) (rec:Int->Res) (h:Unit->Res) (g:Unit->Res):Res:=bif decide (b<f) then bif inb b (List.length d) then j3B t (nth [] d b) λr=>bif !r then g () else bif decide (b>0) then bif inb (Z9K (b-1)) (List.length l) then j0N t (nth [] l (Z9K (b-1))) λi=>j0N t (nth [] d b) λj=>j40 i j λk=>bif !k then g () else rec (Z9K (b+1)) else none else rec (Z9K (b+1)) else none else h ()
def j41 (l:List qW) (b:List qW) (d:Int) (t:qB×qE×qL):Int->(Int->Res)->((Unit->Res)×(Unit->Res))->Res:=λv rec q=>j2n l b d t v (λf=>rec (f)) q.1 q.2
def jc5 (l:List qW) (b:List qW) (d:Int) (t:qB×qE×qL) (n:Nat) (f:Int) (g:Unit->Res) (h:Unit->Res):Res:=Z1f (j41 l b d t) n (f) (g,h)
def jbB:Z1d Unit:=NdL 45 45 [.R 1 y31 .S,.t 2 (pB 2),.R 15 y31 .S,.I 16,.I 17] [(2,y29,[.S,.S])] (λb d=>(b.2.2.2.1)) (λb v=>(b.1,b.2.1,b.2.2.1,v,())) (λd v=>((d.1.1,d.1.2),())) (λb d=>j41 b.1 b.2.1 b.2.2.1 d.1.2) λb d f=>((λ_=>f (.exit 0) [] []),(λ_=>f .ret [(4,vB false)] []))
theorem jlD:CN 0 58 Tryz.f251 jbB:=lK jhJ [] oN ([],[]) [(0,[],[])] ([4],[]) λ_ _ _ _ _=>by delta j41 j2n j6x j1Q j6t;refine gz j3B λ_ b=>gz j0N λ_ d=>gz j40 λ_ f=> ?_;rewrite [<-b,<-d,<-f];kernel_rfl
def j0V (t:qB×qE×qL) (l:List qW) (b:Bool->Res):Res:=j0S t λr=>bif !r then b false else bif decide ((nI (List.length l))>60) then b false else jc5 l l (nI (List.length l)) t Z1c 0 (λ_=>b true) (λ_=>b false)
def j25:Sig Unit:=sg [.look y29 true,.look y31 false] [false] [(y29,none),(y31,none)] [] λb f k=>j0V b.1 b.2.1 (λd=>k [wB d] [] [])
theorem j7r:SO 251 j25:=fK (np:=0) jhJ [jbB] (oI 58 0 @jlD oN) false Tryz.func251 λ_ _ _ _=>by delta j0V j3S jbB jc5;refine gz j0S λ_ b=>gz j41 λ_ d=> ?_;rewrite [<-b,<-d];kernel_rfl
def j2D (f:List qW) (h:Int) (b:List qW) (d:Int) (rec:qR->Int->Res) (g:qR->Res):Res:=bif decide (d<h) then bif inb d (List.length f) then j0y (nth [] f d) λr=>bif lim ((List.length b)+1) then rec (b++[r]) (Z9K (d+1)) else none else none else g b
def j8k (d:List qW) (f:Int):(qR×Int)->(qR×Int->Res)->((qR->Res))->Res:=λv rec q=>j2D d f v.1 v.2 (λb g=>rec (b,g)) q
def jeo (f:List qW) (g:Int) (n:Nat) (b:List qW) (h:Int) (d:qR->Res):Res:=Z1f (j8k f g) n (b,h) (d)
def jdG:Z1d Unit:=NdL 21 21 [.R 3 y31 .O,.R 6 y31 .S,.I 7,.I 8] [] (λb f=>(b.1,b.2.2.2.1)) (λb v=>(v.1,b.2.1,b.2.2.1,v.2,())) (λf v=>()) (λb f=>j8k b.2.1 b.2.2.1) λb f g=>((λd=>g (.exit 0) [(3,v1 y31 d .O)] []))
theorem jjw:CN 0 58 Tryz.f232 jdG:=lK (Za6 j51 Zas) [] oN ([],[]) [(0,[3],[])] ([],[]) λ_ _ _ _ _=>by kernel_rfl
def j0x (l:List qW) (d:qR->Res):Res:=jeo l (nI (List.length l)) Z1c [] 0 λb=>d b
def j11:Sig Unit:=sg [.borrow y31 false] [false] [(y31,none)] [] λd f k=>j0x d.1 (λb=>k [w1 y31 b .O] [] [])
theorem j50:SO 232 j11:=fK (np:=0) (Za6 j51 Zas) [jdG] (oI 58 0 @jjw oN) false Tryz.func232 λ_ _ _ _=>by kernel_rfl
theorem j8K:FS [(211,j4q),(232,j11),(251,j25),(284,j0U),(317,j6w),(324,jbU)]:=(Za6 je4 (Za6 j50 (Za6 j7r (Za6 j3Y (Za6 jgs (Za6 jig Zas))))))
def j5b (l:List qW) (t:qB×qE×qL) (d:qG) (b:Bool->Res):Res:=j0V t l λr=>bif !r then b true else j2w d λf=>bif !f then b true else bif sNe d.2.1 t.1 then b true else b (d.1==1)
def j4G:Z1d Unit:=Nd 98 98 [.R 1 y31 .S,.t 3 (pB 3),.t 5 (pB 5)] [(3,y29,[.S,.S]),(5,y13,[.S,.S])] λf b g=>j5b f.1 b.1.2 b.2.1.2 (λd=>g .normal [(1,v1 y31 f.1 .S),(3,pB 3),(5,pB 5),(33,vB d)] [(3,⟨y29,b.1.1,b.1.2,[.S,.S]⟩),(5,⟨y13,b.2.1.1,b.2.1.2,[.S,.S]⟩)])
theorem jkz:CN 0 12 Tryz.f298 j4G:=nK j8K [] oN ([1,3,5,33],[3,5]) [] ([],[]) λ_ _ _=>by delta j5b j25 j4q;refine gz j0V λ_ b=>gz j2w λ_ d=> ?_;rewrite [<-b,<-d];kernel_rfl
def j3e (g:Int) (d:qG) (f:List qW) (b:Int) (rec:qR->Int->Res) (h:qR->Res):Res:=bif decide (b<g) then bif inb b (List.length f) then bif inb 0 (List.length d.2.2.1) then bif lim ((List.length (nth [] f b))+1) then bif inb b (List.length (upd f b ((nth [] f b)++[(nth (eS,0,false,false,0,0,eS) d.2.2.1 0).2.2.2.2]))) then bif (Z9o (Int.toNat b) (Int.toNat b)&&true) then rec (upd f b ((nth [] f b)++[(nth (eS,0,false,false,0,0,eS) d.2.2.1 0).2.2.2.2])) (Z9K (b+1)) else none else none else none else none else none else h f
def j5L (f:Int) (d:qG):(qR×Int)->(qR×Int->Res)->((qR->Res))->Res:=λv rec q=>j3e f d v.1 v.2 (λb g=>rec (b,g)) q
def j7V (f:Int) (d:qG) (n:Nat) (b:List qW) (g:Int) (h:qR->Res):Res:=Z1f (j5L f d) n (b,g) (h)
def j7i:Z1d Unit:=NdL 98 98 [.t 5 (pB 5),.R 9 y31 .O,.I 51,.I 52] [(5,y13,[.S,.S])] (λb d=>(b.1,b.2.2.1)) (λb v=>(v.1,b.2.1,v.2,())) (λd v=>((d.1.1,d.1.2),())) (λb d=>j5L b.2.1 d.1.2) λb d g=>((λf=>g (.exit 1) [(9,v1 y31 f .O)] []))
theorem jkx:CN 0 16058 Tryz.f298 j7i:=lK j8K [j4G] oN ([],[]) [(1,[9],[])] ([],[]) λ_ _ _ _ _=>by kernel_rfl
def j3f (f:Int) (g:Int) (d:List qW) (b:Int) (rec:qR->Int->Res) (h:qR->Res):Res:=bif decide (b<g) then bif inb b (List.length d) then j9k (nth [] d b) f (Z9K (f+1)) λr=>bif inb b (List.length (upd d b r)) then bif (Z9o (Int.toNat b) (Int.toNat b)&&true) then rec (upd d b r) (Z9K (b+1)) else none else none else none else h d
def j5M (b:Int) (f:Int):(qR×Int)->(qR×Int->Res)->((qR->Res))->Res:=λv rec q=>j3f b f v.1 v.2 (λd g=>rec (d,g)) q
def j7W (b:Int) (f:Int) (n:Nat) (d:List qW) (g:Int) (h:qR->Res):Res:=Z1f (j5M b f) n (d,g) (h)
def jau:Z1d Unit:=NdL 98 98 [.R 9 y31 .O,.I 11,.I 79,.I 80] [] (λb f=>(b.1,b.2.2.2.1)) (λb v=>(v.1,b.2.1,b.2.2.1,v.2,())) (λf v=>()) (λb f=>j5M b.2.1 b.2.2.1) λb f g=>((λd=>g (.exit 3) [(9,v1 y31 d .O)] []))
theorem jky:CN 0 128502 Tryz.f298 jau:=lK j8K [j4G,j7i] oN ([],[]) [(3,[9],[])] ([],[]) λ_ _ _ _ _=>by kernel_rfl
def j6e (t:qB×qE×qL) (l:List qW) (d:qG) (b:qR->Int->Res):Res:=j5b l t d λj=>bif j then b [] 1 else j2E [t] d λr=>bif (r != 0) then b [] r else j0x l λg=>bif (d.1==2) then b [] 0 else bif (d.1==3) then j7V (nI (List.length g)) d Z1c g 0 λh=>b h 0 else bif (d.1==4) then j0h t d.2.2.2.2.1 λi=>j7W i (nI (List.length g)) Z1c g 0 λf=>b f 0 else b g 0
def jcg:Sig Unit:=sg [.borrow y29 true,.borrow y31 false,.borrow y13 true] [false,false] [(y29,none),(y31,none),(y13,none)] [] λb g k=>j6e b.1 b.2.1 b.2.2.1 (λd f=>k [w1 y31 d .O,wI f] [] [])
theorem jmp:SO 298 jcg:=fK (np:=0) j8K [j4G,j7i,jau] (oI 12 0 @jkz (oI 16058 1 @jkx (oI 128502 2 @jky oN))) false Tryz.func298 λ_ _ _ _=>by delta j6e j4G j6w j11 j7i j0U jau j7V j7W;refine gz j5b λ_ b=>gz j2E λ_ d=>gz j0x λ_ f=>gz j5L λ_ g=>gz j0h λ_ h=>gz j5M λ_ i=> ?_;rewrite [<-b,<-d,<-f,<-g,<-h,<-i];kernel_rfl
def jcH (r:List qV) (g:qB×qE×qL) (h:List qV) (b:Bool->Res):Res:=j0N g r λd=>j16 d h λf=>b f
def jot:Sig Unit:=sg [.look y3 true,.rptr y29,.rptr y3] [false] [(y3,none),(y29,none),(y3,none)] [] λb f k=>jcH b.1 b.2.1 b.2.2.1 (λd=>k [wB d] [] [])
theorem jhS:SO 237 jot:=fK (np:=0) (Za6 j8e (Za6 j8d Zas)) [] oN false Tryz.func237 λ_ _ _ _=>by delta jcH j1Q j2K;refine gz j0N λ_ b=>gz j16 λ_ d=> ?_;rewrite [<-b,<-d];kernel_rfl
def j13 (s:List qW) (f:qT×List qV) (h:Int) (b:Int) (rec:Int->Res) (d:Unit->Res) (g:Int->Res):Res:=bif decide (b<h) then bif inb b (List.length s) then jcH (nth [] s b) f.1 f.2 λr=>bif r then g b else rec (Z9K (b+1)) else none else d ()
def j3D (s:List qW) (f:qT×List qV) (b:Int):Int->(Int->Res)->((Unit->Res)×(Int->Res))->Res:=λv rec q=>j13 s f b v (λd=>rec (d)) q.1 q.2
def j9a (s:List qW) (f:qT×List qV) (g:Int) (n:Nat) (h:Int) (b:Unit->Res) (d:Int->Res):Res:=Z1f (j3D s f g) n (h) (b,d)
def j8G:Z1d Unit:=NdL 19 19 [.R 0 y31 .S,.c 1 237 [y29,y3] y36 [.S,.S,.S],.I 7,.I 8] [] (λb d=>(b.2.2.2.1)) (λb v=>(b.1,b.2.1,b.2.2.1,v,())) (λd v=>()) (λb d=>j3D b.1 b.2.1 b.2.2.1) λb d f=>((λ_=>f (.exit 0) [] []),(λg=>f .ret [(4,vI g)] []))
theorem jeD:CN 0 26 Tryz.f236 j8G:=lK (Za6 jhS Zas) [] oN ([],[]) [(0,[],[])] ([4],[]) λ_ _ _ _ _=>by kernel_rfl
def j7b (s:List qW) (f:qT×List qV) (b:Int->Res):Res:=j9a s f (nI (List.length s)) Z1c 0 (λ_=>b (-1)) (λt=>b t)
def jga:Sig Unit:=sg [.look y31 false,.rclos 237 [y29,y3]] [false] [(y31,none),(y36,none)] [] λb f k=>j7b b.1 b.2.1 (λd=>k [wI d] [] [])
theorem jfY:SO 236 jga:=fK (np:=0) (Za6 jhS Zas) [j8G] (oI 26 0 @jeD oN) false Tryz.func236 λ_ _ _ _=>by kernel_rfl
def j0O (t:qB×qE×qL) (l:List qW) (b:List qV) (d:Int->Res):Res:=j7b l (t,b) λr=>d r
def j4r:Sig Unit:=sg [.look y29 true,.look y31 false,.look y3 false] [false] [(y29,none),(y31,none),(y3,none)] [] λb f k=>j0O b.1 b.2.1 b.2.2.1 (λd=>k [wI d] [] [])
theorem jaR:SO 177 j4r:=fK (np:=0) (Za6 jfY Zas) [] oN false Tryz.func177 λ_ _ _ _=>by kernel_rfl
theorem jhM:FS [(178,j5l),(232,j11),(238,j1Q),(294,j6t),(325,j7R)]:=(Za6 j51 (Za6 j50 (Za6 j8d (Za6 jgo (Za6 jih Zas)))))
def j2o (l:List qW) (t:qB×qE×qL) (r:List qV) (b:Int) (rec:Int->Res) (d:Int->Res):Res:=bif decide (b<(nI (List.length l))) then bif inb b (List.length l) then j0N t (nth [] l b) λf=>j0N t r λg=>j40 f g λh=>bif h then rec (Z9K (b+1)) else d b else none else d b
def j45 (l:List qW) (t:qB×qE×qL) (r:List qV):Int->(Int->Res)->((Int->Res))->Res:=λv rec q=>j2o l t r v (λb=>rec (b)) q
def jc8 (l:List qW) (t:qB×qE×qL) (r:List qV) (n:Nat) (b:Int) (d:Int->Res):Res:=Z1f (j45 l t r) n (b) (d)
def jbF:Z1d Unit:=NdL 35 35 [.R 1 y31 .S,.t 3 (pB 3),.t 5 (pB 5),.I 7] [(3,y29,[.S,.S]),(5,y3,[.S])] (λd b=>(d.2.1)) (λd v=>(d.1,v,())) (λb v=>((b.1.1,b.1.2),(b.2.1.1,b.2.1.2),())) (λd b=>j45 d.1 b.1.2 b.2.1.2) λd b g=>((λf=>g (.exit 0) [(1,v1 y31 d.1 .S),(5,pB 5),(7,vI f)] [(5,⟨y3,b.2.1.1,b.2.1.2,[.S]⟩)]))
theorem jlH:CN 0 28 Tryz.f299 jbF:=lK jhM [] oN ([],[]) [(0,[1,5,7],[5])] ([],[]) λ_ _ _ _ _=>by delta j45 j2o j1Q j6t;refine gz j0N λ_ b=>gz j40 λ_ d=> ?_;rewrite [<-b,<-d];kernel_rfl
def j2x (t:qB×qE×qL) (l:List qW) (r:List qV) (d:qR->Res):Res:=jc8 l t r Z1c 0 λb=>j0x l λf=>j0y r λg=>j5Q f b [g] λh=>d h
def j9T:Sig Unit:=sg [.borrow y29 true,.borrow y31 false,.borrow y3 true] [false] [(y29,none),(y31,none),(y3,none)] [] λb f k=>j2x b.1 b.2.1 b.2.2.1 (λd=>k [w1 y31 d .O] [] [])
theorem jhR:SO 299 j9T:=fK (np:=0) jhM [jbF] (oI 28 0 @jlH oN) false Tryz.func299 λ_ _ _ _=>by delta j2x jbF j11 j5l j7R jc8;refine gz j45 λ_ b=>gz j0x λ_ d=>gz j0y λ_ f=>gz j5Q λ_ g=> ?_;rewrite [<-b,<-d,<-f,<-g];kernel_rfl
def j7G (t:qB×qE×qL) (l:List qW) (r:List qV) (b:qR->Int->Res):Res:=j0V t l λd=>bif !d then b [] 1 else j3B t r λf=>bif !f then b [] 2 else j0N t r λg=>j0O t l g λh=>bif decide (h>=0) then b [] 3 else bif ((nI (List.length l))==60) then b [] 4 else j2x t l r λi=>b i 0
def jdd:Sig Unit:=sg [.borrow y29 true,.borrow y31 false,.borrow y3 true] [false,false] [(y29,none),(y31,none),(y3,none)] [] λb g k=>j7G b.1 b.2.1 b.2.2.1 (λd f=>k [w1 y31 d .O,wI f] [] [])
theorem jnK:SO 253 jdd:=fK (np:=0) (Za6 jaR (Za6 j8d (Za6 j7r (Za6 je7 (Za6 jhR Zas))))) [] oN false Tryz.func253 λ_ _ _ _=>by delta j7G j25 j6x j1Q j4r j9T;refine gz j0V λ_ b=>gz j3B λ_ d=>gz j0N λ_ f=>gz j0O λ_ g=>gz j2x λ_ h=> ?_;rewrite [<-b,<-d,<-f,<-g,<-h];kernel_rfl
theorem jik:FS [(268,j3S),(273,j8s),(284,j0U)]:=(Za6 j67 (Za6 j8c (Za6 j3Y Zas)))
def j2S (d:List qV) (f:qL) (g:Int) (t:qB×qE×qL) (b:Int) (rec:Int->Res) (j:Unit->Res) (h:Unit->Res):Res:=bif decide (b<g) then bif inb b (List.length f) then bif inb b (List.length d) then j1d (nth (0,0,eS) d b) λr=>bif !r then h () else bif inb b (List.length d) then j0h t (nth eS f b) λi=>bif inb i (List.length t.2.1) then bif ((nth (0,0,eS) d b).1 != (nth (eS,0,false,false,0,0,eS) t.2.1 i).2.1) then h () else rec (Z9K (b+1)) else none else none else none else none else j ()
def j59 (b:List qV) (d:qL) (f:Int) (t:qB×qE×qL):Int->(Int->Res)->((Unit->Res)×(Unit->Res))->Res:=λv rec q=>j2S b d f t v (λg=>rec (g)) q.1 q.2
def jd8 (b:List qV) (d:qL) (f:Int) (t:qB×qE×qL) (n:Nat) (g:Int) (h:Unit->Res) (i:Unit->Res):Res:=Z1f (j59 b d f t) n (g) (h,i)
def jcx:Z1d Unit:=NdL 49 49 [.R 1 y3 .S,.t 2 (pB 2),.R 19 y0 .S,.I 20,.I 21] [(2,y29,[.S,.S])] (λb d=>(b.2.2.2.1)) (λb v=>(b.1,b.2.1,b.2.2.1,v,())) (λd v=>((d.1.1,d.1.2),())) (λb d=>j59 b.1 b.2.1 b.2.2.1 d.1.2) λb d f=>((λ_=>f (.exit 0) [] []),(λ_=>f .ret [(4,vB false)] []))
theorem jmP:CN 0 58 Tryz.f300 jcx:=lK jik [] oN ([],[]) [(0,[],[])] ([4],[]) λ_ _ _ _ _=>by delta j59 j2S j8s j0U;refine gz j1d λ_ b=>gz j0h λ_ d=> ?_;rewrite [<-b,<-d];kernel_rfl
def j58 (t:qB×qE×qL) (b:List qV) (d:Bool->Res):Res:=j0S t λr=>bif !r then d false else bif ((nI (List.length b)) != (nI (List.length t.2.2))) then d false else jd8 b t.2.2 (nI (List.length t.2.2)) t Z1c 0 (λ_=>d true) (λ_=>d false)
def jbk:Sig Unit:=sg [.look y29 true,.look y3 false] [false] [(y29,none),(y3,none)] [] λb f k=>j58 b.1 b.2.1 (λd=>k [wB d] [] [])
theorem jis:SO 300 jbk:=fK (np:=0) jik [jcx] (oI 58 0 @jmP oN) false Tryz.func300 λ_ _ _ _=>by delta j58 j3S jcx jd8;refine gz j0S λ_ b=>gz j59 λ_ d=> ?_;rewrite [<-b,<-d];kernel_rfl
theorem jhI:FS [(128,j2K),(177,j4r),(232,j11),(238,j1Q),(251,j25),(293,j6x),(299,j9T),(300,jbk),(301,j4L)]:=(Za6 j8e (Za6 jaR (Za6 j50 (Za6 j8d (Za6 j7r (Za6 je7 (Za6 jhR (Za6 jis (Za6 jbQ Zas)))))))))
def j6d (l:List qW) (b:List qV) (now:List qV) (t:qB×qE×qL) (d:Unit->Res) (f:Unit->Res):Res:=j16 now b λg=>bif !g then j0O t l now λh=>bif decide (h>=0) then f () else d () else d ()
def jbA:Z1d Unit:=Nd 61 61 [.R 1 y31 .S,.R 2 y3 .S,.t 4 (pB 4),.t 7 (pB 7),.R 10 y3 .O] [(4,y29,[.S,.S]),(7,y3,[.S])] λb d f=>j6d b.1 b.2.1 b.2.2.1 d.1.2 (λ_=>f .normal [(1,v1 y31 b.1 .S),(2,v1 y3 b.2.1 .S),(4,pB 4),(7,pB 7)] [(4,⟨y29,d.1.1,d.1.2,[.S,.S]⟩),(7,⟨y3,d.2.1.1,d.2.1.2,[.S]⟩)]) (λ_=>f .ret [(8,v1 y31 [] .O),(9,vI 3)] [])
theorem jlC:CN 0 30 Tryz.f254 jbA:=nK jhI [] oN ([1,2,4,7],[4,7]) [] ([8,9],[]) λ_ _ _=>by delta j6d j2K j4r;refine gz j16 λ_ b=>gz j0O λ_ d=> ?_;rewrite [<-b,<-d];kernel_rfl
def j7H (t:qB×qE×qL) (l:List qW) (b:List qV) (r:List qV) (d:qR->Int->Res):Res:=j0V t l λg=>bif !g then d [] 1 else j3B t r λh=>bif !h then d [] 2 else j58 t b λi=>bif !i then d [] 5 else j0O t l b λj=>bif decide (j<0) then d [] 5 else j0N t r λk=>j6d l b k t (λ_=>j0O t l b λf=>j0x l λm=>j0X m f (Z9K (f+1)) λn=>j2x t n r λp=>d p 0) (λ_=>d [] 3)
def jde:Sig Unit:=sg [.borrow y29 true,.borrow y31 false,.borrow y3 false,.borrow y3 true] [false,false] [(y29,none),(y31,none),(y3,none),(y3,none)] [] λb g k=>j7H b.1 b.2.1 b.2.2.1 b.2.2.2.1 (λd f=>k [w1 y31 d .O,wI f] [] [])
theorem jnL:SO 254 jde:=fK (np:=0) jhI [jbA] (oI 30 0 @jlC oN) false Tryz.func254 λ_ _ _ _=>by delta j7H j25 j6x jbk j4r j1Q jbA j11 j4L j9T;refine gz j0V λ_ b=>gz j3B λ_ d=>gz j58 λ_ f=>gz j0O λ_ g=>gz j0N λ_ h=>gz j6d λ_ i=>gz j0x λ_ j=>gz j0X λ_ k=>gz j2x λ_ l=> ?_;rewrite [<-b,<-d,<-f,<-g,<-h,<-i,<-j,<-k,<-l];kernel_rfl
def j7F (t:qB×qE×qL) (l:List qW) (b:List qV) (d:qR->Int->Res):Res:=j0V t l λr=>bif !r then d [] 1 else j58 t b λg=>bif !g then d [] 5 else j0O t l b λh=>bif decide (h<0) then d [] 5 else j0O t l b λf=>j0x l λi=>j0X i f (Z9K (f+1)) λj=>d j 0
def jdc:Sig Unit:=sg [.borrow y29 true,.borrow y31 false,.borrow y3 false] [false,false] [(y29,none),(y31,none),(y3,none)] [] λb g k=>j7F b.1 b.2.1 b.2.2.1 (λd f=>k [w1 y31 d .O,wI f] [] [])
theorem jnJ:SO 255 jdc:=fK (np:=0) (Za6 jaR (Za6 j50 (Za6 j7r (Za6 jis (Za6 jbQ Zas))))) [] oN false Tryz.func255 λ_ _ _ _=>by delta j7F j25 jbk j4r j11 j4L;refine gz j0V λ_ b=>gz j58 λ_ d=>gz j0O λ_ f=>gz j0x λ_ g=>gz j0X λ_ h=> ?_;rewrite [<-b,<-d,<-f,<-g,<-h];kernel_rfl
end
end Go.PI.G
