/-
  Program's code interpreted over typed values; printed texts; plain laws. No conditions.
-/
import Derived.Test.YtnemiodjnhfejaaGreatNEd
import Derived.Test.YtnemiodjnhfejaaGreatNEe
import Derived.Test.YtnemiodjnhfejaaGreatNEf
set_option linter.unusedVariables false
set_option maxRecDepth 100000
namespace Go.PI.G
noncomputable section
open Go Go.PI Go.Proofs
open Go.Code (pl pr)
def j0t (r:List qV) (b:qW->Res):Res:=bif lim (0+(List.length r)) then b r else none
def j68:Sig Unit:=sg [.borrow y3 true] [true] [(y3,none)] [] λd f k=>j0t d.1 (λb=>k [⟨y3,true,b,[.O]⟩] [] [])
theorem j3U:SO 115 j68:=fK (np:=0) Zas [] oN false Tryz.func115 λ_ _ _ _=>by kernel_rfl
def j3C (c:qB×Int×Bool×Bool×Int×Int×qB) (d:Int×Int×qB) (b:Bool->Res):Res:=bif (d.1==0) then j18 d λr=>bif r then b (!c.2.2.1) else b false else j18 d λf=>bif f then b (d.1==c.2.1) else b false
def j7r:Sig Unit:=sg [.look y7 true,.look y2 true] [false] [(y7,none),(y2,none)] [] λb f k=>j3C b.1 b.2.1 (λd=>k [wB d] [] [])
theorem jdP:SO 281 j7r:=fK (np:=0) (Za6 j6M Zas) [] oN false Tryz.func281 λ_ _ _ _=>by delta j3C j9t;refine gz j18 λ_ b=> ?_;rewrite [<-b];kernel_rfl
theorem jfD:FS [(227,j0V),(281,j7r)]:=(Za6 j2X (Za6 jdP Zas))
def j4n (d:List qC) (f:Int) (r:List qV) (b:Int) (rec:Int->Res) (g:Unit->Res) (h:Unit->Res):Res:=bif decide (b<f) then bif inb b (List.length d) then bif inb b (List.length r) then j3C (nth (eS,0,false,false,0,0,eS) d b) (nth (0,0,eS) r b) λi=>bif !i then h () else rec (Z9K (b+1)) else none else none else g ()
def j6D (b:List qC) (d:Int) (r:List qV):Int->(Int->Res)->((Unit->Res)×(Unit->Res))->Res:=λv rec q=>j4n b d r v (λf=>rec (f)) q.1 q.2
def jbb (b:List qC) (d:Int) (r:List qV) (n:Nat) (f:Int) (g:Unit->Res) (h:Unit->Res):Res:=Z1f (j6D b d r) n (f) (g,h)
def jaD:Z1d Unit:=NdL 36 36 [.t 3 (pB 3),.R 20 y8 .S,.I 21,.I 22] [(3,y3,[.S])] (λb d=>(b.2.2.1)) (λb v=>(b.1,b.2.1,v,())) (λd v=>((d.1.1,d.1.2),())) (λb d=>j6D b.1 b.2.1 d.1.2) λb d f=>((λ_=>f (.exit 0) [] []),(λ_=>f .ret [(4,vB false)] []))
theorem jjy:CN 0 58 Tryz.f228 jaD:=lK jfD [] oN ([],[]) [(0,[],[])] ([4],[]) λ_ _ _ _ _=>by kernel_rfl
def j1X (t:qB×qE×qL) (r:List qV) (b:Bool->Res):Res:=j0o t λd=>bif !d then b false else bif ((nI (List.length r)) != (nI (List.length t.2.1))) then b false else jbb t.2.1 (nI (List.length t.2.1)) r Z1c 0 (λ_=>b true) (λ_=>b false)
def j6Z:Sig Unit:=sg [.look y29 true,.look y3 true] [false] [(y29,none),(y3,none)] [] λb f k=>j1X b.1 b.2.1 (λd=>k [wB d] [] [])
theorem jbQ:SO 228 j6Z:=fK (np:=0) jfD [jaD] (oI 58 0 @jjy oN) false Tryz.func228 λ_ _ _ _=>by delta j1X j0V jaD jbb;refine gz j0o λ_ b=>gz j6D λ_ d=> ?_;rewrite [<-b,<-d];kernel_rfl
def j3D (f:qL) (g:Int) (t:qB×qE×qL) (r:List qV) (d:List qV) (b:Int) (rec:qW->Int->Res) (i:qW->Res):Res:=bif decide (b<g) then bif inb b (List.length f) then j0B t (nth eS f b) λh=>bif inb h (List.length r) then bif lim ((List.length d)+1) then rec (d++[nth (0,0,eS) r h]) (Z9K (b+1)) else none else none else none else i d
def j8C (d:qL) (f:Int) (t:qB×qE×qL) (r:List qV):(qW×Int)->(qW×Int->Res)->((qW->Res))->Res:=λv rec q=>j3D d f t r v.1 v.2 (λb g=>rec (b,g)) q
def jeb (d:qL) (f:Int) (t:qB×qE×qL) (r:List qV) (n:Nat) (b:List qV) (g:Int) (h:qW->Res):Res:=Z1f (j8C d f t r) n (b,g) (h)
def jda:Z1d Unit:=NdL 28 28 [.t 2 (pB 2),.t 3 (pB 3),.R 5 y3 .O,.R 10 y0 .S,.I 11,.I 12] [(2,y29,[.S,.S]),(3,y3,[.S])] (λb d=>(b.1,b.2.2.2.1)) (λb v=>(v.1,b.2.1,b.2.2.1,v.2,())) (λd v=>((d.1.1,d.1.2),(d.2.1.1,d.2.1.2),())) (λb d=>j8C b.2.1 b.2.2.1 d.1.2 d.2.1.2) λb d g=>((λf=>g (.exit 0) [(5,v1 y3 f .O)] []))
theorem jiH:CN 0 58 Tryz.f173 jda:=lK (Za6 j4V Zas) [] oN ([],[]) [(0,[5],[])] ([],[]) λ_ _ _ _ _=>by kernel_rfl
def j0s (t:qB×qE×qL) (r:List qV) (d:qW->Res):Res:=jeb t.2.2 (nI (List.length t.2.2)) t r Z1c [] 0 λb=>d b
def j17:Sig Unit:=sg [.borrow y29 true,.borrow y3 true] [false] [(y29,none),(y3,none)] [] λb f k=>j0s b.1 b.2.1 (λd=>k [w1 y3 d .O] [] [])
theorem j63:SO 173 j17:=fK (np:=0) (Za6 j4V Zas) [jda] (oI 58 0 @jiH oN) false Tryz.func173 λ_ _ _ _=>by kernel_rfl
def j2C (a:List qV) (b:List qV) (i:Int) (rec:Int->Res) (d:Unit->Res) (f:Bool->Res):Res:=bif decide (i<(nI (List.length a))) then bif decide (i<(nI (List.length b))) then bif inb i (List.length a) then bif inb i (List.length b) then bif !(((nth (0,0,eS) a i).1==(nth (0,0,eS) b i).1)&&(((nth (0,0,eS) a i).2.1==(nth (0,0,eS) b i).2.1)&&(sEq (nth (0,0,eS) a i).2.2 (nth (0,0,eS) b i).2.2))) then bif inb i (List.length a) then bif inb i (List.length b) then j74 (nth (0,0,eS) a i) (nth (0,0,eS) b i) λr=>f r else none else none else rec (Z9K (i+1)) else none else none else d () else d ()
def j7J (a:List qV) (b:List qV):Int->(Int->Res)->((Unit->Res)×(Bool->Res))->Res:=λv rec q=>j2C a b v (λi=>rec (i)) q.1 q.2
def jcR (a:List qV) (b:List qV) (n:Nat) (i:Int) (d:Unit->Res) (f:Bool->Res):Res:=Z1f (j7J a b) n (i) (d,f)
def jcm:Z1d Unit:=NdL 41 41 [.R 0 y3 .S,.R 1 y3 .S,.I 5] [] (λb d=>(b.2.2.1)) (λb v=>(b.1,b.2.1,v,())) (λd v=>()) (λb d=>j7J b.1 b.2.1) λb d f=>((λ_=>f (.exit 0) [(0,v1 y3 b.1 .S),(1,v1 y3 b.2.1 .S)] []),(λg=>f .ret [(4,vB g)] []))
theorem jhE:CN 0 26 Tryz.f229 jcm:=lK (Za6 jdM Zas) [] oN ([],[]) [(0,[0,1],[])] ([4],[]) λ_ _ _ _ _=>by kernel_rfl
def j3w (a:List qV) (b:List qV) (d:Bool->Res):Res:=jcR a b Z1c 0 (λ_=>d (decide ((nI (List.length a))<(nI (List.length b))))) (λt=>d t)
def j5k:Sig Unit:=sg [.look y3 false,.look y3 false] [false] [(y3,none),(y3,none)] [] λb f k=>j3w b.1 b.2.1 (λd=>k [wB d] [] [])
theorem jdL:SO 229 j5k:=fK (np:=0) (Za6 jdM Zas) [jcm] (oI 26 0 @jhE oN) false Tryz.func229 λ_ _ _ _=>by kernel_rfl
theorem jeT:FS [(173,j17),(227,j0V),(228,j6Z),(229,j5k)]:=(Za6 j63 (Za6 j2X (Za6 jbQ (Za6 jdL Zas))))
def j1R (l:List qW) (d:List qW) (f:Int) (t:qB×qE×qL) (b:Int) (rec:Int->Res) (h:Unit->Res) (g:Unit->Res):Res:=bif decide (b<f) then bif inb b (List.length d) then j1X t (nth [] d b) λr=>bif !r then g () else bif decide (b>0) then bif inb (Z9K (b-1)) (List.length l) then j0s t (nth [] l (Z9K (b-1))) λi=>j0s t (nth [] d b) λj=>j3w i j λk=>bif !k then g () else rec (Z9K (b+1)) else none else rec (Z9K (b+1)) else none else h ()
def j3x (l:List qW) (b:List qW) (d:Int) (t:qB×qE×qL):Int->(Int->Res)->((Unit->Res)×(Unit->Res))->Res:=λv rec q=>j1R l b d t v (λf=>rec (f)) q.1 q.2
def jas (l:List qW) (b:List qW) (d:Int) (t:qB×qE×qL) (n:Nat) (f:Int) (g:Unit->Res) (h:Unit->Res):Res:=Z1f (j3x l b d t) n (f) (g,h)
def j9T:Z1d Unit:=NdL 45 45 [.R 1 y31 .S,.t 2 (pB 2),.R 15 y31 .S,.I 16,.I 17] [(2,y29,[.S,.S])] (λb d=>(b.2.2.2.1)) (λb v=>(b.1,b.2.1,b.2.2.1,v,())) (λd v=>((d.1.1,d.1.2),())) (λb d=>j3x b.1 b.2.1 b.2.2.1 d.1.2) λb d f=>((λ_=>f (.exit 0) [] []),(λ_=>f .ret [(4,vB false)] []))
theorem jiB:CN 0 58 Tryz.f172 j9T:=lK jeT [] oN ([],[]) [(0,[],[])] ([4],[]) λ_ _ _ _ _=>by delta j3x j1R j6Z j17 j5k;refine gz j1X λ_ b=>gz j0s λ_ d=>gz j3w λ_ f=> ?_;rewrite [<-b,<-d,<-f];kernel_rfl
def j0r (t:qB×qE×qL) (l:List qW) (b:Bool->Res):Res:=j0o t λr=>bif !r then b false else bif decide ((nI (List.length l))>60) then b false else jas l l (nI (List.length l)) t Z1c 0 (λ_=>b true) (λ_=>b false)
def j16:Sig Unit:=sg [.look y29 true,.look y31 false] [false] [(y29,none),(y31,none)] [] λb f k=>j0r b.1 b.2.1 (λd=>k [wB d] [] [])
theorem j3T:SO 172 j16:=fK (np:=0) jeT [j9T] (oI 58 0 @jiB oN) false Tryz.func172 λ_ _ _ _=>by delta j0r j0V j9T jas;refine gz j0o λ_ b=>gz j3x λ_ d=> ?_;rewrite [<-b,<-d];kernel_rfl
def j2K (f:List qW) (h:Int) (b:List qW) (d:Int) (rec:qR->Int->Res) (g:qR->Res):Res:=bif decide (d<h) then bif inb d (List.length f) then j0t (nth [] f d) λr=>bif lim ((List.length b)+1) then rec (b++[r]) (Z9K (d+1)) else none else none else g b
def j7M (d:List qW) (f:Int):(qR×Int)->(qR×Int->Res)->((qR->Res))->Res:=λv rec q=>j2K d f v.1 v.2 (λb g=>rec (b,g)) q
def jcU (f:List qW) (g:Int) (n:Nat) (b:List qW) (h:Int) (d:qR->Res):Res:=Z1f (j7M f g) n (b,h) (d)
def jcp:Z1d Unit:=NdL 20 20 [.R 3 y31 .O,.R 7 y31 .S,.I 8,.I 9] [] (λb f=>(b.1,b.2.2.2.1)) (λb v=>(v.1,b.2.1,b.2.2.1,v.2,())) (λf v=>()) (λb f=>j7M b.2.1 b.2.2.1) λb f g=>((λd=>g (.exit 0) [(3,v1 y31 d .O)] []))
theorem jhP:CN 0 58 Tryz.f244 jcp:=lK (Za6 j3U Zas) [] oN ([],[]) [(0,[3],[])] ([],[]) λ_ _ _ _ _=>by kernel_rfl
def j5x (l:List qW) (d:qR->Res):Res:=jcU l (nI (List.length l)) Z1c [] 0 λb=>d b
def j7q:Sig Unit:=sg [.borrow y31 false] [false] [(y31,none)] [] λd f k=>j5x d.1 (λb=>k [w1 y31 b .O] [] [])
theorem jdO:SO 244 j7q:=fK (np:=0) (Za6 j3U Zas) [jcp] (oI 58 0 @jhP oN) false Tryz.func244 λ_ _ _ _=>by kernel_rfl
def j1i (a:List qV) (b:List qV) (f:Int) (d:Int) (rec:Int->Res) (g:Unit->Res) (h:Unit->Res):Res:=bif decide (d<f) then bif inb d (List.length a) then bif inb d (List.length b) then bif !(((nth (0,0,eS) a d).1==(nth (0,0,eS) b d).1)&&(((nth (0,0,eS) a d).2.1==(nth (0,0,eS) b d).2.1)&&(sEq (nth (0,0,eS) a d).2.2 (nth (0,0,eS) b d).2.2))) then h () else rec (Z9K (d+1)) else none else none else g ()
def j5z (a:List qV) (b:List qV) (d:Int):Int->(Int->Res)->((Unit->Res)×(Unit->Res))->Res:=λv rec q=>j1i a b d v (λf=>rec (f)) q.1 q.2
def ja4 (a:List qV) (b:List qV) (d:Int) (n:Nat) (f:Int) (g:Unit->Res) (h:Unit->Res):Res:=Z1f (j5z a b d) n (f) (g,h)
def j9X:Z1d Unit:=NdL 26 26 [.R 0 y3 .S,.R 1 y3 .S,.I 12,.I 13] [] (λb d=>(b.2.2.2.1)) (λb v=>(b.1,b.2.1,b.2.2.1,v,())) (λd v=>()) (λb d=>j5z b.1 b.2.1 b.2.2.1) λb d f=>((λ_=>f (.exit 0) [] []),(λ_=>f .ret [(4,vB false)] []))
theorem jeD:CN 0 58 Tryz.f126 j9X:=lK Zas [] oN ([],[]) [(0,[],[])] ([4],[]) λ_ _ _ _ _=>by kernel_rfl
def j3F (a:List qV) (b:List qV) (d:Bool->Res):Res:=bif ((nI (List.length a)) != (nI (List.length b))) then d false else ja4 a b (nI (List.length a)) Z1c 0 (λ_=>d true) (λ_=>d false)
def j70:Sig Unit:=sg [.look y3 false,.look y3 false] [false] [(y3,none),(y3,none)] [] λb f k=>j3F b.1 b.2.1 (λd=>k [wB d] [] [])
theorem jfU:SO 126 j70:=fK (np:=0) Zas [j9X] (oI 58 0 @jeD oN) false Tryz.func126 λ_ _ _ _=>by kernel_rfl
theorem jfC:FS [(126,j70),(172,j16),(173,j17)]:=(Za6 jfU (Za6 j3T (Za6 j63 Zas)))
def j2g (f:List qV) (d:List qW) (g:Int) (t:qB×qE×qL) (b:Int) (rec:Int->Res) (h:Unit->Res) (i:Int->Res):Res:=bif decide (b<g) then bif inb b (List.length d) then j0s t (nth [] d b) λr=>j3F r f λj=>bif j then i b else rec (Z9K (b+1)) else none else h ()
def j4m (b:List qV) (d:List qW) (f:Int) (t:qB×qE×qL):Int->(Int->Res)->((Unit->Res)×(Int->Res))->Res:=λv rec q=>j2g b d f t v (λg=>rec (g)) q.1 q.2
def jba (b:List qV) (d:List qW) (f:Int) (t:qB×qE×qL) (n:Nat) (g:Int) (h:Unit->Res) (i:Int->Res):Res:=Z1f (j4m b d f t) n (g) (h,i)
def jaC:Z1d Unit:=NdL 27 27 [.R 2 y3 .S,.t 3 (pB 3),.R 13 y31 .S,.I 14,.I 15] [(3,y29,[.S,.S])] (λb d=>(b.2.2.2.1)) (λb v=>(b.1,b.2.1,b.2.2.1,v,())) (λd v=>((d.1.1,d.1.2),())) (λb d=>j4m b.1 b.2.1 b.2.2.1 d.1.2) λb d f=>((λ_=>f (.exit 0) [] []),(λg=>f .ret [(6,vI g)] []))
theorem jjx:CN 0 58 Tryz.f114 jaC:=lK jfC [] oN ([],[]) [(0,[],[])] ([6],[]) λ_ _ _ _ _=>by delta j4m j2g j17 j70;refine gz j0s λ_ b=>gz j3F λ_ d=> ?_;rewrite [<-b,<-d];kernel_rfl
def j1q (t:qB×qE×qL) (l:List qW) (d:List qV) (b:Int->Res):Res:=j0r t l λr=>bif !r then b (-1) else jba d l (nI (List.length l)) t Z1c 0 (λ_=>b (-1)) (λf=>b f)
def j9s:Sig Unit:=sg [.look y29 true,.look y31 false,.look y3 false] [false] [(y29,none),(y31,none),(y3,none)] [] λb f k=>j1q b.1 b.2.1 b.2.2.1 (λd=>k [wI d] [] [])
theorem jbP:SO 114 j9s:=fK (np:=0) jfC [jaC] (oI 58 0 @jjx oN) false Tryz.func114 λ_ _ _ _=>by delta j1q j16 jaC jba;refine gz j0r λ_ b=>gz j4m λ_ d=> ?_;rewrite [<-b,<-d];kernel_rfl
theorem jaU:FS [(115,j68),(173,j17),(229,j5k)]:=(Za6 j3U (Za6 j63 (Za6 jdL Zas)))
def j5y (b:List qW) (done:Bool) (t:qB×qE×qL) (r:List qV) (x:List qV) (d:qR->Bool->Res):Res:=bif !done then j0s t r λf=>j0s t x λg=>j3w f g λh=>bif h then j0t r λi=>bif lim ((List.length b)+1) then d (b++[i]) true else none else d b done else d b done
def j6J:Z1d Unit:=Nd 48 48 [.t 3 (pB 3),.t 5 (pB 5),.R 7 y31 .O,.B 8,.t 10 (pB 10),.R 12 y31 .S,.I 13,.I 14] [(3,y29,[.S,.S]),(5,y3,[.S]),(10,y3,[.S])] λg b h=>j5y g.1 g.2.1 b.1.2 b.2.1.2 b.2.2.1.2 (λf d=>h .normal [(3,pB 3),(5,pB 5),(7,v1 y31 f .O),(8,vB d),(10,pB 10),(12,v1 y31 g.2.2.1 .S),(13,vI g.2.2.2.1),(14,vI g.2.2.2.2.1)] [(3,⟨y29,b.1.1,b.1.2,[.S,.S]⟩),(5,⟨y3,b.2.1.1,b.2.1.2,[.S]⟩),(10,⟨y3,b.2.2.1.1,b.2.2.1.2,[.S]⟩)])
theorem jiJ:CN 0 15666 Tryz.f312 j6J:=nK jaU [] oN ([3,5,7,8,10,12,13,14],[3,5,10]) [] ([],[]) λ_ _ _=>by delta j5y j17 j5k j68;refine gz j0s λ_ b=>gz j3w λ_ d=>gz j0t λ_ f=> ?_;rewrite [<-b,<-d,<-f];kernel_rfl
def j1S (g:List qW) (i:Int) (t:qB×qE×qL) (r:List qV) (h:List qW) (done:Bool) (b:Int) (rec:qR->Bool->Int->Res) (j:qR->Bool->Res):Res:=bif decide (b<i) then bif inb b (List.length g) then j5y h done t r (nth [] g b) λd f=>j0t (nth [] g b) λk=>bif lim ((List.length d)+1) then rec (d++[k]) f (Z9K (b+1)) else none else none else j h done
def j3E (d:List qW) (f:Int) (t:qB×qE×qL) (r:List qV):(qR×Bool×Int)->(qR×Bool×Int->Res)->((qR->Bool->Res))->Res:=λv rec q=>j1S d f t r v.1 v.2.1 v.2.2 (λb done g=>rec (b,done,g)) q
def jaw (d:List qW) (f:Int) (t:qB×qE×qL) (r:List qV) (n:Nat) (b:List qW) (done:Bool) (g:Int) (h:qR->Bool->Res):Res:=Z1f (j3E d f t r) n (b,done,g) (h)
def j9W:Z1d Unit:=NdL 48 48 [.t 3 (pB 3),.t 5 (pB 5),.R 7 y31 .O,.B 8,.R 12 y31 .S,.I 13,.I 14] [(3,y29,[.S,.S]),(5,y3,[.S])] (λd b=>(d.1,d.2.1,d.2.2.2.2.1)) (λd v=>(v.1,v.2.1,d.2.2.1,d.2.2.2.1,v.2.2,())) (λb v=>((b.1.1,b.1.2),(b.2.1.1,b.2.1.2),())) (λd b=>j3E d.2.2.1 d.2.2.2.1 b.1.2 b.2.1.2) λd b h=>((λg f=>h (.exit 0) [(5,pB 5),(7,v1 y31 g .O),(8,vB f)] [(5,⟨y3,b.2.1.1,b.2.1.2,[.S]⟩)]))
theorem jiI:CN 0 122 Tryz.f312 j9W:=lK jaU [j6J] (oI 114 0 @jiJ oN) ([],[]) [(0,[5,7,8],[5])] ([],[]) λ_ _ _ _ _=>by delta j3E j1S j6J j68;refine gz j5y λ_ b=>gz j0t λ_ d=> ?_;rewrite [<-b,<-d];kernel_rfl
def j2W (t:qB×qE×qL) (l:List qW) (r:List qV) (d:qR->Res):Res:=jaw l (nI (List.length l)) t r Z1c [] false 0 λb done=>bif !done then j0t r λf=>bif lim ((List.length b)+1) then d (b++[f]) else none else d b
def jb6:Sig Unit:=sg [.borrow y29 true,.borrow y31 false,.borrow y3 true] [false] [(y29,none),(y31,none),(y3,none)] [] λb f k=>j2W b.1 b.2.1 b.2.2.1 (λd=>k [w1 y31 d .O] [] [])
theorem jf4:SO 312 jb6:=fK (np:=0) jaU [j6J,j9W] (oI 122 1 @jiI oN) false Tryz.func312 λ_ _ _ _=>by delta j2W j9W j68 jaw;refine gz j3E λ_ b=>gz j0t λ_ d=> ?_;rewrite [<-b,<-d];kernel_rfl
def j6l (t:qB×qE×qL) (l:List qW) (r:List qV) (b:qR->Int->Res):Res:=j0r t l λd=>bif !d then b [] 1 else j1X t r λf=>bif !f then b [] 2 else j0s t r λg=>j1q t l g λh=>bif decide (h>=0) then b [] 3 else bif ((nI (List.length l))==60) then b [] 4 else j2W t l r λi=>b i 0
def jfm:Sig Unit:=sg [.borrow y29 true,.borrow y31 false,.borrow y3 true] [false,false] [(y29,none),(y31,none),(y3,none)] [] λb g k=>j6l b.1 b.2.1 b.2.2.1 (λd f=>k [w1 y31 d .O,wI f] [] [])
theorem jkx:SO 288 jfm:=fK (np:=0) (Za6 jbP (Za6 j3T (Za6 j63 (Za6 jbQ (Za6 jf4 Zas))))) [] oN false Tryz.func288 λ_ _ _ _=>by delta j6l j16 j6Z j17 j9s jb6;refine gz j0r λ_ b=>gz j1X λ_ d=>gz j0s λ_ f=>gz j1q λ_ g=>gz j2W λ_ h=> ?_;rewrite [<-b,<-d,<-f,<-g,<-h];kernel_rfl
theorem jfA:FS [(227,j0V),(230,j24),(281,j7r)]:=(Za6 j2X (Za6 j4V (Za6 jdP Zas)))
def j2f (d:List qV) (f:qL) (g:Int) (t:qB×qE×qL) (b:Int) (rec:Int->Res) (h:Unit->Res) (i:Unit->Res):Res:=bif decide (b<g) then bif inb b (List.length f) then bif inb b (List.length d) then j0B t (nth eS f b) λr=>bif inb r (List.length t.2.1) then j3C (nth (eS,0,false,false,0,0,eS) t.2.1 r) (nth (0,0,eS) d b) λj=>bif !j then i () else rec (Z9K (b+1)) else none else none else none else h ()
def j4l (b:List qV) (d:qL) (f:Int) (t:qB×qE×qL):Int->(Int->Res)->((Unit->Res)×(Unit->Res))->Res:=λv rec q=>j2f b d f t v (λg=>rec (g)) q.1 q.2
def jb9 (b:List qV) (d:qL) (f:Int) (t:qB×qE×qL) (n:Nat) (g:Int) (h:Unit->Res) (i:Unit->Res):Res:=Z1f (j4l b d f t) n (g) (h,i)
def jaA:Z1d Unit:=NdL 40 40 [.R 1 y3 .S,.t 2 (pB 2),.R 19 y0 .S,.I 20,.I 21] [(2,y29,[.S,.S])] (λb d=>(b.2.2.2.1)) (λb v=>(b.1,b.2.1,b.2.2.1,v,())) (λd v=>((d.1.1,d.1.2),())) (λb d=>j4l b.1 b.2.1 b.2.2.1 d.1.2) λb d f=>((λ_=>f (.exit 0) [] []),(λ_=>f .ret [(4,vB false)] []))
theorem jjv:CN 0 58 Tryz.f313 jaA:=lK jfA [] oN ([],[]) [(0,[],[])] ([4],[]) λ_ _ _ _ _=>by delta j4l j2f j24 j7r;refine gz j0B λ_ b=>gz j3C λ_ d=> ?_;rewrite [<-b,<-d];kernel_rfl
def j4k (t:qB×qE×qL) (b:List qV) (d:Bool->Res):Res:=j0o t λr=>bif !r then d false else bif ((nI (List.length b)) != (nI (List.length t.2.2))) then d false else jb9 b t.2.2 (nI (List.length t.2.2)) t Z1c 0 (λ_=>d true) (λ_=>d false)
def jcd:Sig Unit:=sg [.look y29 true,.look y3 false] [false] [(y29,none),(y3,none)] [] λb f k=>j4k b.1 b.2.1 (λd=>k [wB d] [] [])
theorem jfS:SO 313 jcd:=fK (np:=0) jfA [jaA] (oI 58 0 @jjv oN) false Tryz.func313 λ_ _ _ _=>by delta j4k j0V jaA jb9;refine gz j0o λ_ b=>gz j4l λ_ d=> ?_;rewrite [<-b,<-d];kernel_rfl
def j1s (f:Int) (h:List qW) (g:Int) (d:List qW) (b:Int) (rec:qR->Int->Res) (i:qR->Res):Res:=bif decide (b<g) then bif inb b (List.length h) then bif (b != f) then j0t (nth [] h b) λr=>bif lim ((List.length d)+1) then rec (d++[r]) (Z9K (b+1)) else none else rec d (Z9K (b+1)) else none else i d
def j5S (b:Int) (h:List qW) (f:Int):(qR×Int)->(qR×Int->Res)->((qR->Res))->Res:=λv rec q=>j1s b h f v.1 v.2 (λd g=>rec (d,g)) q
def jaQ (b:Int) (i:List qW) (f:Int) (n:Nat) (d:List qW) (g:Int) (h:qR->Res):Res:=Z1f (j5S b i f) n (d,g) (h)
def ja5:Z1d Unit:=NdL 26 26 [.I 1,.R 5 y31 .O,.R 9 y31 .S,.I 10,.I 11] [] (λb f=>(b.2.1,b.2.2.2.2.1)) (λb v=>(b.1,v.1,b.2.2.1,b.2.2.2.1,v.2,())) (λf v=>()) (λb f=>j5S b.1 b.2.2.1 b.2.2.2.1) λb f g=>((λd=>g (.exit 0) [(5,v1 y31 d .O)] []))
theorem jfw:CN 0 58 Tryz.f314 ja5:=lK (Za6 j3U Zas) [] oN ([],[]) [(0,[5],[])] ([],[]) λ_ _ _ _ _=>by kernel_rfl
def j1r (l:List qW) (b:Int) (f:qR->Res):Res:=jaQ b l (nI (List.length l)) Z1c [] 0 λd=>f d
def j7H:Sig Unit:=sg [.borrow y31 false,.borrow tI false] [false] [(y31,none),(tI,none)] [] λb f k=>j1r b.1 b.2.1 (λd=>k [w1 y31 d .O] [] [])
theorem jbk:SO 314 j7H:=fK (np:=0) (Za6 j3U Zas) [ja5] (oI 58 0 @jfw oN) false Tryz.func314 λ_ _ _ _=>by kernel_rfl
def j6m (t:qB×qE×qL) (l:List qW) (d:List qV) (r:List qV) (b:qR->Int->Res):Res:=j0r t l λh=>bif !h then b [] 1 else j1X t r λi=>bif !i then b [] 2 else j1q t l d λf=>j4k t d λj=>bif !j then b [] 5 else bif decide (f<0) then b [] 5 else j1r l f λg=>j0s t r λk=>j1q t g k λm=>bif decide (m>=0) then b [] 3 else j2W t g r λn=>b n 0
def jfn:Sig Unit:=sg [.borrow y29 true,.borrow y31 false,.borrow y3 false,.borrow y3 true] [false,false] [(y29,none),(y31,none),(y3,none),(y3,none)] [] λb g k=>j6m b.1 b.2.1 b.2.2.1 b.2.2.2.1 (λd f=>k [w1 y31 d .O,wI f] [] [])
theorem jky:SO 289 jfn:=fK (np:=0) (Za6 jbP (Za6 j3T (Za6 j63 (Za6 jbQ (Za6 jf4 (Za6 jfS (Za6 jbk Zas))))))) [] oN false Tryz.func289 λ_ _ _ _=>by delta j6m j16 j6Z j9s jcd j7H j17 jb6;refine gz j0r λ_ b=>gz j1X λ_ d=>gz j1q λ_ f=>gz j4k λ_ g=>gz j1r λ_ h=>gz j0s λ_ i=>gz j2W λ_ j=> ?_;rewrite [<-b,<-d,<-f,<-g,<-h,<-i,<-j];kernel_rfl
def j6k (t:qB×qE×qL) (l:List qW) (b:List qV) (d:qR->Int->Res):Res:=j0r t l λr=>bif !r then d [] 1 else j1q t l b λf=>j4k t b λg=>bif !g then d [] 5 else bif decide (f<0) then d [] 5 else j1r l f λh=>d h 0
def jfl:Sig Unit:=sg [.borrow y29 true,.borrow y31 false,.borrow y3 false] [false,false] [(y29,none),(y31,none),(y3,none)] [] λb g k=>j6k b.1 b.2.1 b.2.2.1 (λd f=>k [w1 y31 d .O,wI f] [] [])
theorem jkw:SO 290 jfl:=fK (np:=0) (Za6 jbP (Za6 j3T (Za6 jfS (Za6 jbk Zas)))) [] oN false Tryz.func290 λ_ _ _ _=>by delta j6k j16 j9s jcd j7H;refine gz j0r λ_ b=>gz j1q λ_ d=>gz j4k λ_ f=>gz j1r λ_ g=> ?_;rewrite [<-b,<-d,<-f,<-g];kernel_rfl
theorem j4T:FS [(172,j16),(210,j3t),(230,j24),(287,j4f)]:=(Za6 j3T (Za6 jbO (Za6 j4V (Za6 jcz Zas))))
def j4o (l:List qW) (t:qB×qE×qL) (d:qG) (b:Bool->Res):Res:=j0r t l λr=>bif !r then b true else j1W d λf=>bif !f then b true else bif sNe d.2.1 t.1 then b true else b (d.1==1)
def j1T:Z1d Unit:=Nd 106 106 [.R 1 y31 .S,.t 3 (pB 3),.t 5 (pB 5)] [(3,y29,[.S,.S]),(5,y13,[.S,.S])] λf b g=>j4o f.1 b.1.2 b.2.1.2 (λd=>g .normal [(1,v1 y31 f.1 .S),(3,pB 3),(5,pB 5),(37,vB d)] [(3,⟨y29,b.1.1,b.1.2,[.S,.S]⟩),(5,⟨y13,b.2.1.1,b.2.1.2,[.S,.S]⟩)])
theorem jhH:CN 0 12 Tryz.f291 j1T:=nK j4T [] oN ([1,3,5,37],[3,5]) [] ([],[]) λ_ _ _=>by delta j4o j16 j3t;refine gz j0r λ_ b=>gz j1W λ_ d=> ?_;rewrite [<-b,<-d];kernel_rfl
def j0w (g:Int) (f:List qV) (h:Int) (d:qG) (b:Int) (x:List qV) (rec:Int->qW->Res) (i:qW->Res):Res:=bif decide (b<h) then bif inb b (List.length f) then bif (d.1 != 4) then bif lim ((List.length x)+1) then rec (Z9K (b+1)) (x++[nth (0,0,eS) f b]) else none else bif (b != g) then bif lim ((List.length x)+1) then rec (Z9K (b+1)) (x++[nth (0,0,eS) f b]) else none else rec (Z9K (b+1)) x else none else i x
def j2D (b:Int) (f:List qV) (g:Int) (d:qG):(Int×qW)->(Int×qW->Res)->((qW->Res))->Res:=λv rec q=>j0w b f g d v.1 v.2 (λh x=>rec (h,x)) q
def j6E (b:Int) (f:List qV) (g:Int) (d:qG) (n:Nat) (h:Int) (x:List qV) (i:qW->Res):Res:=Z1f (j2D b f g d) n (h,x) (i)
def j3K:Z1d Unit:=NdL 106 106 [.t 5 (pB 5),.R 10 y31 .O,.I 11,.t 14 (pB 14),.R 54 y31 .S,.I 55,.I 56,.R 62 y3 .S,.I 63,.I 64] [(5,y13,[.S,.S]),(14,y3,[.O])] (λb d=>(b.2.2.2.2.2.2.2.1,d.2.1.2)) (λb v=>(b.1,b.2.1,b.2.2.1,b.2.2.2.1,b.2.2.2.2.1,b.2.2.2.2.2.1,b.2.2.2.2.2.2.1,v.1,())) (λd v=>((d.1.1,d.1.2),(d.2.1.1,v.2),())) (λb d=>j2D b.2.1 b.2.2.2.2.2.1 b.2.2.2.2.2.2.1 d.1.2) λb d f=>((λg=>f (.exit 2) [(5,pB 5),(10,v1 y31 b.1 .O),(11,vI b.2.1),(14,pB 14),(54,v1 y31 b.2.2.1 .S),(55,vI b.2.2.2.1),(56,vI b.2.2.2.2.1)] [(5,⟨y13,d.1.1,d.1.2,[.S,.S]⟩),(14,⟨y3,d.2.1.1,g,[.O]⟩)]))
theorem jhF:CN 0 1042842 Tryz.f291 j3K:=lK j4T [j1T] oN ([],[]) [(2,[5,10,11,14,54,55,56],[5,14])] ([],[]) λ_ _ _ _ _=>by kernel_rfl
def j6F (b:Bool) (d:qG) (x:List qV) (f:qW->Res):Res:=bif b then bif inb 0 (List.length d.2.2.1) then bif lim ((List.length x)+1) then f (x++[(nth (eS,0,false,false,0,0,eS) d.2.2.1 0).2.2.2.2]) else none else none else f x
def j5Z:Z1d Unit:=Nd 106 106 [.t 5 (pB 5),.R 10 y31 .O,.I 11,.t 14 (pB 14),.R 54 y31 .S,.I 55,.I 56,.B 86] [(5,y13,[.S,.S]),(14,y3,[.O])] λb d f=>j6F b.2.2.2.2.2.1 d.1.2 d.2.1.2 (λg=>f .normal [(5,pB 5),(10,v1 y31 b.1 .O),(11,vI b.2.1),(14,pB 14),(54,v1 y31 b.2.2.1 .S),(55,vI b.2.2.2.1),(56,vI b.2.2.2.2.1)] [(5,⟨y13,d.1.1,d.1.2,[.S,.S]⟩),(14,⟨y3,d.2.1.1,g,[.O]⟩)])
theorem jhI:CN 0 1042845 Tryz.f291 j5Z:=nK j4T [j1T,j3K] oN ([5,10,11,14,54,55,56],[5,14]) [] ([],[]) λ_ _ _=>by kernel_rfl
def j1y (h:Int) (g:List qW) (i:Int) (d:qG) (f:List qW) (b:Int) (rec:qR->Int->Res) (j:qR->Res):Res:=bif decide (b<i) then bif inb b (List.length g) then j6E h (nth [] g b) (nI (List.length (nth [] g b))) d Z1c 0 [] λx=>j6F (d.1==3) d x λk=>bif (d.1 != 2) then bif lim ((List.length f)+1) then rec (f++[k]) (Z9K (b+1)) else none else rec f (Z9K (b+1)) else none else j f
def j2E (b:Int) (g:List qW) (h:Int) (d:qG):(qR×Int)->(qR×Int->Res)->((qR->Res))->Res:=λv rec q=>j1y b g h d v.1 v.2 (λf i=>rec (f,i)) q
def j9D (b:Int) (g:List qW) (h:Int) (d:qG) (n:Nat) (f:List qW) (i:Int) (j:qR->Res):Res:=Z1f (j2E b g h d) n (f,i) (j)
def j8P:Z1d Unit:=NdL 106 106 [.t 5 (pB 5),.R 10 y31 .O,.I 11,.R 54 y31 .S,.I 55,.I 56] [(5,y13,[.S,.S])] (λb d=>(b.1,b.2.2.2.2.1)) (λb v=>(v.1,b.2.1,b.2.2.1,b.2.2.2.1,v.2,())) (λd v=>((d.1.1,d.1.2),())) (λb d=>j2E b.2.1 b.2.2.1 b.2.2.2.1 d.1.2) λb d g=>((λf=>g (.exit 0) [(10,v1 y31 f .O)] []))
theorem jhG:CN 0 1018 Tryz.f291 j8P:=lK j4T [j1T,j3K,j5Z] (oI 922 1 @jhF (oI 925 2 @jhI oN)) ([],[]) [(0,[10],[])] ([],[]) λ_ _ _ _ _=>by delta j2E j1y j3K j5Z j6E;refine gz j2D λ_ b=>gz j6F λ_ d=> ?_;rewrite [<-b,<-d];kernel_rfl
def j5t (t:qB×qE×qL) (l:List qW) (d:qG) (b:qR->Int->Res):Res:=j4o l t d λi=>bif i then b [] 1 else j1E [t] d λr g=>bif (g != 0) then b [] g else j0B t d.2.2.2.2.1 λh=>j9D h l (nI (List.length l)) d Z1c [] 0 λf=>b f 0
def je6:Sig Unit:=sg [.borrow y29 true,.borrow y31 false,.borrow y13 true] [false,false] [(y29,none),(y31,none),(y13,none)] [] λb g k=>j5t b.1 b.2.1 b.2.2.1 (λd f=>k [w1 y31 d .O,wI f] [] [])
theorem jj6:SO 291 je6:=fK (np:=0) j4T [j1T,j3K,j5Z,j8P] (oI 12 0 @jhH (oI 1018 3 @jhG oN)) false Tryz.func291 λ_ _ _ _=>by delta j5t j1T j4f j24 j8P j9D;refine gz j4o λ_ b=>gz j1E λ_ d=>gz j0B λ_ f=>gz j2E λ_ g=> ?_;rewrite [<-b,<-d,<-f,<-g];kernel_rfl
def j0O (l:List qV) (b:qW->Res):Res:=bif lim (0+(List.length l)) then b l else none
def j6y:Sig Unit:=sg [.borrow y3 false] [false] [(y3,none)] [] λd f k=>j0O d.1 (λb=>k [w1 y3 b .O] [] [])
theorem j6r:SO 178 j6y:=fK (np:=0) Zas [] oN false Tryz.func178 λ_ _ _ _=>by kernel_rfl
def jaH (c:qB×Int×Bool×Bool×Int×Int×qB) (d:Int×Int×qB) (b:Bool->Res):Res:=j0T d λr=>bif r then bif (d.1==c.2.1) then b true else bif (d.1==0) then b (!c.2.2.1) else b false else b false
def jkX:Sig Unit:=sg [.look y7 true,.look y2 true] [false] [(y7,none),(y2,none)] [] λb f k=>jaH b.1 b.2.1 (λd=>k [wB d] [] [])
theorem jeZ:SO 315 jkX:=fK (np:=0) (Za6 j6K Zas) [] oN false Tryz.func315 λ_ _ _ _=>by kernel_rfl
def j4c (d:List qV) (f:Int) (t:qB×qE×qL) (b:Int) (rec:Int->Res) (g:Unit->Res) (h:Unit->Res):Res:=bif decide (b<f) then bif inb b (List.length d) then bif inb b (List.length t.2.1) then jaH (nth (eS,0,false,false,0,0,eS) t.2.1 b) (nth (0,0,eS) d b) λr=>bif !r then h () else rec (Z9K (b+1)) else none else none else g ()
def j9f (b:List qV) (d:Int) (t:qB×qE×qL):Int->(Int->Res)->((Unit->Res)×(Unit->Res))->Res:=λv rec q=>j4c b d t v (λf=>rec (f)) q.1 q.2
def jf9 (b:List qV) (d:Int) (t:qB×qE×qL) (n:Nat) (f:Int) (g:Unit->Res) (h:Unit->Res):Res:=Z1f (j9f b d t) n (f) (g,h)
def jej:Z1d Unit:=NdL 31 31 [.t 2 (pB 2),.R 15 y3 .S,.I 16,.I 17] [(2,y29,[.S,.S])] (λb d=>(b.2.2.1)) (λb v=>(b.1,b.2.1,v,())) (λd v=>((d.1.1,d.1.2),())) (λb d=>j9f b.1 b.2.1 d.1.2) λb d f=>((λ_=>f (.exit 0) [] []),(λ_=>f .ret [(4,vB false)] []))
theorem jjr:CN 0 58 Tryz.f293 jej:=lK (Za6 jeZ Zas) [] oN ([],[]) [(0,[],[])] ([4],[]) λ_ _ _ _ _=>by kernel_rfl
def j2Q (t:qB×qE×qL) (r:List qV) (b:Bool->Res):Res:=bif ((nI (List.length r)) != (nI (List.length t.2.1))) then b false else jf9 r (nI (List.length r)) t Z1c 0 (λ_=>b true) (λ_=>b false)
def j5f:Sig Unit:=sg [.look y29 true,.look y3 true] [false] [(y29,none),(y3,none)] [] λb f k=>j2Q b.1 b.2.1 (λd=>k [wB d] [] [])
theorem jbI:SO 293 j5f:=fK (np:=0) (Za6 jeZ Zas) [jej] (oI 58 0 @jjr oN) false Tryz.func293 λ_ _ _ _=>by kernel_rfl
def j4b (f:qL) (g:Int) (t:qB×qE×qL) (r:List qV) (d:List qV) (b:Int) (rec:qW->Int->Res) (i:qW->Res):Res:=bif decide (b<g) then bif inb b (List.length f) then j0e t (nth eS f b) λh=>bif inb h (List.length r) then bif lim ((List.length d)+1) then rec (d++[nth (0,0,eS) r h]) (Z9K (b+1)) else none else none else none else i d
def j9e (d:qL) (f:Int) (t:qB×qE×qL) (r:List qV):(qW×Int)->(qW×Int->Res)->((qW->Res))->Res:=λv rec q=>j4b d f t r v.1 v.2 (λb g=>rec (b,g)) q
def jf8 (d:qL) (f:Int) (t:qB×qE×qL) (r:List qV) (n:Nat) (b:List qV) (g:Int) (h:qW->Res):Res:=Z1f (j9e d f t r) n (b,g) (h)
def jei:Z1d Unit:=NdL 28 28 [.t 2 (pB 2),.t 3 (pB 3),.R 5 y3 .O,.R 10 y0 .S,.I 11,.I 12] [(2,y29,[.S,.S]),(3,y3,[.S])] (λb d=>(b.1,b.2.2.2.1)) (λb v=>(v.1,b.2.1,b.2.2.1,v.2,())) (λd v=>((d.1.1,d.1.2),(d.2.1.1,d.2.1.2),())) (λb d=>j9e b.2.1 b.2.2.1 d.1.2 d.2.1.2) λb d g=>((λf=>g (.exit 0) [(5,v1 y3 f .O)] []))
theorem jjq:CN 0 58 Tryz.f238 jei:=lK (Za6 j37 Zas) [] oN ([],[]) [(0,[5],[])] ([],[]) λ_ _ _ _ _=>by kernel_rfl
def j0A (t:qB×qE×qL) (r:List qV) (d:qW->Res):Res:=jf8 t.2.2 (nI (List.length t.2.2)) t r Z1c [] 0 λb=>d b
def j1n:Sig Unit:=sg [.borrow y29 true,.borrow y3 true] [false] [(y29,none),(y3,none)] [] λb f k=>j0A b.1 b.2.1 (λd=>k [w1 y3 d .O] [] [])
theorem j6L:SO 238 j1n:=fK (np:=0) (Za6 j37 Zas) [jei] (oI 58 0 @jjq oN) false Tryz.func238 λ_ _ _ _=>by kernel_rfl
def j2s (a:List qV) (b:List qV) (i:Int) (rec:Int->Res) (d:Unit->Res) (f:Bool->Res):Res:=bif decide (i<(nI (List.length a))) then bif decide (i<(nI (List.length b))) then bif inb i (List.length a) then bif inb i (List.length b) then bif !(((nth (0,0,eS) a i).1==(nth (0,0,eS) b i).1)&&(((nth (0,0,eS) a i).2.1==(nth (0,0,eS) b i).2.1)&&(sEq (nth (0,0,eS) a i).2.2 (nth (0,0,eS) b i).2.2))) then bif inb i (List.length a) then bif inb i (List.length b) then j6Q (nth (0,0,eS) a i) (nth (0,0,eS) b i) λr=>f r else none else none else rec (Z9K (i+1)) else none else none else d () else d ()
def j7C (a:List qV) (b:List qV):Int->(Int->Res)->((Unit->Res)×(Bool->Res))->Res:=λv rec q=>j2s a b v (λi=>rec (i)) q.1 q.2
def jcH (a:List qV) (b:List qV) (n:Nat) (i:Int) (d:Unit->Res) (f:Bool->Res):Res:=Z1f (j7C a b) n (i) (d,f)
def jcj:Z1d Unit:=NdL 41 41 [.R 0 y3 .S,.R 1 y3 .S,.I 5] [] (λb d=>(b.2.2.1)) (λb v=>(b.1,b.2.1,v,())) (λd v=>()) (λb d=>j7C b.1 b.2.1) λb d f=>((λ_=>f (.exit 0) [(0,v1 y3 b.1 .S),(1,v1 y3 b.2.1 .S)] []),(λg=>f .ret [(4,vB g)] []))
theorem jhp:CN 0 26 Tryz.f294 jcj:=lK (Za6 jdD Zas) [] oN ([],[]) [(0,[0,1],[])] ([4],[]) λ_ _ _ _ _=>by kernel_rfl
def j3c (a:List qV) (b:List qV) (d:Bool->Res):Res:=jcH a b Z1c 0 (λ_=>d (decide ((nI (List.length a))<(nI (List.length b))))) (λt=>d t)
def j5b:Sig Unit:=sg [.look y3 false,.look y3 false] [false] [(y3,none),(y3,none)] [] λb f k=>j3c b.1 b.2.1 (λd=>k [wB d] [] [])
theorem jdC:SO 294 j5b:=fK (np:=0) (Za6 jdD Zas) [jcj] (oI 26 0 @jhp oN) false Tryz.func294 λ_ _ _ _=>by kernel_rfl
theorem jeP:FS [(238,j1n),(268,j32),(293,j5f),(294,j5b)]:=(Za6 j6L (Za6 j4U (Za6 jbI (Za6 jdC Zas))))
def j1O (l:List qW) (d:List qW) (f:Int) (t:qB×qE×qL) (b:Int) (rec:Int->Res) (h:Unit->Res) (g:Unit->Res):Res:=bif decide (b<f) then bif inb b (List.length d) then j2Q t (nth [] d b) λr=>bif !r then g () else bif decide (b>0) then bif inb (Z9K (b-1)) (List.length l) then j0A t (nth [] l (Z9K (b-1))) λi=>j0A t (nth [] d b) λj=>j3c i j λk=>bif !k then g () else rec (Z9K (b+1)) else none else rec (Z9K (b+1)) else none else h ()
def j3d (l:List qW) (b:List qW) (d:Int) (t:qB×qE×qL):Int->(Int->Res)->((Unit->Res)×(Unit->Res))->Res:=λv rec q=>j1O l b d t v (λf=>rec (f)) q.1 q.2
def jab (l:List qW) (b:List qW) (d:Int) (t:qB×qE×qL) (n:Nat) (f:Int) (g:Unit->Res) (h:Unit->Res):Res:=Z1f (j3d l b d t) n (f) (g,h)
def j9L:Z1d Unit:=NdL 45 45 [.R 1 y31 .S,.t 2 (pB 2),.R 15 y31 .S,.I 16,.I 17] [(2,y29,[.S,.S])] (λb d=>(b.2.2.2.1)) (λb v=>(b.1,b.2.1,b.2.2.1,v,())) (λd v=>((d.1.1,d.1.2),())) (λb d=>j3d b.1 b.2.1 b.2.2.1 d.1.2) λb d f=>((λ_=>f (.exit 0) [] []),(λ_=>f .ret [(4,vB false)] []))
theorem jim:CN 0 58 Tryz.f251 j9L:=lK jeP [] oN ([],[]) [(0,[],[])] ([4],[]) λ_ _ _ _ _=>by delta j3d j1O j5f j1n j5b;refine gz j2Q λ_ b=>gz j0A λ_ d=>gz j3c λ_ f=> ?_;rewrite [<-b,<-d,<-f];kernel_rfl
def j0E (t:qB×qE×qL) (l:List qW) (b:Bool->Res):Res:=j0C t λr=>bif !r then b false else bif decide ((nI (List.length l))>60) then b false else jab l l (nI (List.length l)) t Z1c 0 (λ_=>b true) (λ_=>b false)
def j1C:Sig Unit:=sg [.look y29 true,.look y31 false] [false] [(y29,none),(y31,none)] [] λb f k=>j0E b.1 b.2.1 (λd=>k [wB d] [] [])
theorem j62:SO 251 j1C:=fK (np:=0) jeP [j9L] (oI 58 0 @jim oN) false Tryz.func251 λ_ _ _ _=>by delta j0E j32 j9L jab;refine gz j0C λ_ b=>gz j3d λ_ d=> ?_;rewrite [<-b,<-d];kernel_rfl
def j21 (f:List qW) (h:Int) (b:List qW) (d:Int) (rec:qR->Int->Res) (g:qR->Res):Res:=bif decide (d<h) then bif inb d (List.length f) then j0O (nth [] f d) λr=>bif lim ((List.length b)+1) then rec (b++[r]) (Z9K (d+1)) else none else none else g b
def j6S (d:List qW) (f:Int):(qR×Int)->(qR×Int->Res)->((qR->Res))->Res:=λv rec q=>j21 d f v.1 v.2 (λb g=>rec (b,g)) q
def jbW (f:List qW) (g:Int) (n:Nat) (b:List qW) (h:Int) (d:qR->Res):Res:=Z1f (j6S f g) n (b,h) (d)
def jbm:Z1d Unit:=NdL 21 21 [.R 3 y31 .O,.R 6 y31 .S,.I 7,.I 8] [] (λb f=>(b.1,b.2.2.2.1)) (λb v=>(v.1,b.2.1,b.2.2.1,v.2,())) (λf v=>()) (λb f=>j6S b.2.1 b.2.2.1) λb f g=>((λd=>g (.exit 0) [(3,v1 y31 d .O)] []))
theorem jgI:CN 0 58 Tryz.f232 jbm:=lK (Za6 j6r Zas) [] oN ([],[]) [(0,[3],[])] ([],[]) λ_ _ _ _ _=>by kernel_rfl
def j0m (l:List qW) (d:qR->Res):Res:=jbW l (nI (List.length l)) Z1c [] 0 λb=>d b
def j0I:Sig Unit:=sg [.borrow y31 false] [false] [(y31,none)] [] λd f k=>j0m d.1 (λb=>k [w1 y31 b .O] [] [])
theorem j3Z:SO 232 j0I:=fK (np:=0) (Za6 j6r Zas) [jbm] (oI 58 0 @jgI oN) false Tryz.func232 λ_ _ _ _=>by kernel_rfl
theorem j7d:FS [(211,j3r),(232,j0I),(251,j1C),(284,j0D),(317,j5d),(324,ja1)]:=(Za6 jbF (Za6 j3Z (Za6 j62 (Za6 j37 (Za6 jdF (Za6 jfu Zas))))))
def j48 (l:List qW) (t:qB×qE×qL) (d:qG) (b:Bool->Res):Res:=j0E t l λr=>bif !r then b true else j1U d λf=>bif !f then b true else bif sNe d.2.1 t.1 then b true else b (d.1==1)
def j3I:Z1d Unit:=Nd 98 98 [.R 1 y31 .S,.t 3 (pB 3),.t 5 (pB 5)] [(3,y29,[.S,.S]),(5,y13,[.S,.S])] λf b g=>j48 f.1 b.1.2 b.2.1.2 (λd=>g .normal [(1,v1 y31 f.1 .S),(3,pB 3),(5,pB 5),(33,vB d)] [(3,⟨y29,b.1.1,b.1.2,[.S,.S]⟩),(5,⟨y13,b.2.1.1,b.2.1.2,[.S,.S]⟩)])
theorem jhs:CN 0 12 Tryz.f298 j3I:=nK j7d [] oN ([1,3,5,33],[3,5]) [] ([],[]) λ_ _ _=>by delta j48 j1C j3r;refine gz j0E λ_ b=>gz j1U λ_ d=> ?_;rewrite [<-b,<-d];kernel_rfl
def j2t (g:Int) (d:qG) (f:List qW) (b:Int) (rec:qR->Int->Res) (h:qR->Res):Res:=bif decide (b<g) then bif inb b (List.length f) then bif inb 0 (List.length d.2.2.1) then bif lim ((List.length (nth [] f b))+1) then bif inb b (List.length (upd f b ((nth [] f b)++[(nth (eS,0,false,false,0,0,eS) d.2.2.1 0).2.2.2.2]))) then bif (Z9o (Int.toNat b) (Int.toNat b)&&true) then rec (upd f b ((nth [] f b)++[(nth (eS,0,false,false,0,0,eS) d.2.2.1 0).2.2.2.2])) (Z9K (b+1)) else none else none else none else none else none else h f
def j4A (f:Int) (d:qG):(qR×Int)->(qR×Int->Res)->((qR->Res))->Res:=λv rec q=>j2t f d v.1 v.2 (λb g=>rec (b,g)) q
def j6s (f:Int) (d:qG) (n:Nat) (b:List qW) (g:Int) (h:qR->Res):Res:=Z1f (j4A f d) n (b,g) (h)
def j5W:Z1d Unit:=NdL 98 98 [.t 5 (pB 5),.R 9 y31 .O,.I 51,.I 52] [(5,y13,[.S,.S])] (λb d=>(b.1,b.2.2.1)) (λb v=>(v.1,b.2.1,v.2,())) (λd v=>((d.1.1,d.1.2),())) (λb d=>j4A b.2.1 d.1.2) λb d g=>((λf=>g (.exit 1) [(9,v1 y31 f .O)] []))
theorem jhq:CN 0 16058 Tryz.f298 j5W:=lK j7d [j3I] oN ([],[]) [(1,[9],[])] ([],[]) λ_ _ _ _ _=>by kernel_rfl
def j2u (f:Int) (g:Int) (d:List qW) (b:Int) (rec:qR->Int->Res) (h:qR->Res):Res:=bif decide (b<g) then bif inb b (List.length d) then j7I (nth [] d b) f (Z9K (f+1)) λr=>bif inb b (List.length (upd d b r)) then bif (Z9o (Int.toNat b) (Int.toNat b)&&true) then rec (upd d b r) (Z9K (b+1)) else none else none else none else h d
def j4B (b:Int) (f:Int):(qR×Int)->(qR×Int->Res)->((qR->Res))->Res:=λv rec q=>j2u b f v.1 v.2 (λd g=>rec (d,g)) q
def j6t (b:Int) (f:Int) (n:Nat) (d:List qW) (g:Int) (h:qR->Res):Res:=Z1f (j4B b f) n (d,g) (h)
def j8I:Z1d Unit:=NdL 98 98 [.R 9 y31 .O,.I 11,.I 79,.I 80] [] (λb f=>(b.1,b.2.2.2.1)) (λb v=>(v.1,b.2.1,b.2.2.1,v.2,())) (λf v=>()) (λb f=>j4B b.2.1 b.2.2.1) λb f g=>((λd=>g (.exit 3) [(9,v1 y31 d .O)] []))
theorem jhr:CN 0 128502 Tryz.f298 j8I:=lK j7d [j3I,j5W] oN ([],[]) [(3,[9],[])] ([],[]) λ_ _ _ _ _=>by kernel_rfl
def j4Z (t:qB×qE×qL) (l:List qW) (d:qG) (b:qR->Int->Res):Res:=j48 l t d λj=>bif j then b [] 1 else j22 [t] d λr=>bif (r != 0) then b [] r else j0m l λg=>bif (d.1==2) then b [] 0 else bif (d.1==3) then j6s (nI (List.length g)) d Z1c g 0 λh=>b h 0 else bif (d.1==4) then j0e t d.2.2.2.2.1 λi=>j6t i (nI (List.length g)) Z1c g 0 λf=>b f 0 else b g 0
def jal:Sig Unit:=sg [.borrow y29 true,.borrow y31 false,.borrow y13 true] [false,false] [(y29,none),(y31,none),(y13,none)] [] λb g k=>j4Z b.1 b.2.1 b.2.2.1 (λd f=>k [w1 y31 d .O,wI f] [] [])
theorem jiZ:SO 298 jal:=fK (np:=0) j7d [j3I,j5W,j8I] (oI 12 0 @jhs (oI 16058 1 @jhq (oI 128502 2 @jhr oN))) false Tryz.func298 λ_ _ _ _=>by delta j4Z j3I j5d j0I j5W j0D j8I j6s j6t;refine gz j48 λ_ b=>gz j22 λ_ d=>gz j0m λ_ f=>gz j4A λ_ g=>gz j0e λ_ h=>gz j4B λ_ i=> ?_;rewrite [<-b,<-d,<-f,<-g,<-h,<-i];kernel_rfl
def jaG (r:List qV) (g:qB×qE×qL) (h:List qV) (b:Bool->Res):Res:=j0A g r λd=>j1c d h λf=>b f
def jkW:Sig Unit:=sg [.look y3 true,.rptr y29,.rptr y3] [false] [(y3,none),(y29,none),(y3,none)] [] λb f k=>jaG b.1 b.2.1 b.2.2.1 (λd=>k [wB d] [] [])
theorem jeY:SO 237 jkW:=fK (np:=0) (Za6 jaK (Za6 j6L Zas)) [] oN false Tryz.func237 λ_ _ _ _=>by delta jaG j1n j4e;refine gz j0A λ_ b=>gz j1c λ_ d=> ?_;rewrite [<-b,<-d];kernel_rfl
def j0K (s:List qW) (f:qT×List qV) (h:Int) (b:Int) (rec:Int->Res) (d:Unit->Res) (g:Int->Res):Res:=bif decide (b<h) then bif inb b (List.length s) then jaG (nth [] s b) f.1 f.2 λr=>bif r then g b else rec (Z9K (b+1)) else none else d ()
def j2S (s:List qW) (f:qT×List qV) (b:Int):Int->(Int->Res)->((Unit->Res)×(Int->Res))->Res:=λv rec q=>j0K s f b v (λd=>rec (d)) q.1 q.2
def j7y (s:List qW) (f:qT×List qV) (g:Int) (n:Nat) (h:Int) (b:Unit->Res) (d:Int->Res):Res:=Z1f (j2S s f g) n (h) (b,d)
def j79:Z1d Unit:=NdL 19 19 [.R 0 y31 .S,.c 1 237 [y29,y3] y36 [.S,.S,.S],.I 7,.I 8] [] (λb d=>(b.2.2.2.1)) (λb v=>(b.1,b.2.1,b.2.2.1,v,())) (λd v=>()) (λb d=>j2S b.1 b.2.1 b.2.2.1) λb d f=>((λ_=>f (.exit 0) [] []),(λg=>f .ret [(4,vI g)] []))
theorem jc5:CN 0 26 Tryz.f236 j79:=lK (Za6 jeY Zas) [] oN ([],[]) [(0,[],[])] ([4],[]) λ_ _ _ _ _=>by kernel_rfl
def j5N (s:List qW) (f:qT×List qV) (b:Int->Res):Res:=j7y s f (nI (List.length s)) Z1c 0 (λ_=>b (-1)) (λt=>b t)
def jdq:Sig Unit:=sg [.look y31 false,.rclos 237 [y29,y3]] [false] [(y31,none),(y36,none)] [] λb f k=>j5N b.1 b.2.1 (λd=>k [wI d] [] [])
theorem jdf:SO 236 jdq:=fK (np:=0) (Za6 jeY Zas) [j79] (oI 26 0 @jc5 oN) false Tryz.func236 λ_ _ _ _=>by kernel_rfl
def j0U (t:qB×qE×qL) (l:List qW) (b:List qV) (d:Int->Res):Res:=j5N l (t,b) λr=>d r
def j5e:Sig Unit:=sg [.look y29 true,.look y31 false,.look y3 false] [false] [(y29,none),(y31,none),(y3,none)] [] λb f k=>j0U b.1 b.2.1 b.2.2.1 (λd=>k [wI d] [] [])
theorem jbH:SO 177 j5e:=fK (np:=0) (Za6 jdf Zas) [] oN false Tryz.func177 λ_ _ _ _=>by kernel_rfl
theorem jeS:FS [(178,j6y),(232,j0I),(238,j1n),(294,j5b),(325,j6p)]:=(Za6 j6r (Za6 j3Z (Za6 j6L (Za6 jdC (Za6 jfv Zas)))))
def j1P (l:List qW) (t:qB×qE×qL) (r:List qV) (b:Int) (rec:Int->Res) (d:Int->Res):Res:=bif decide (b<(nI (List.length l))) then bif inb b (List.length l) then j0A t (nth [] l b) λf=>j0A t r λg=>j3c f g λh=>bif h then rec (Z9K (b+1)) else d b else none else d b
def j3h (l:List qW) (t:qB×qE×qL) (r:List qV):Int->(Int->Res)->((Int->Res))->Res:=λv rec q=>j1P l t r v (λb=>rec (b)) q
def jae (l:List qW) (t:qB×qE×qL) (r:List qV) (n:Nat) (b:Int) (d:Int->Res):Res:=Z1f (j3h l t r) n (b) (d)
def j9P:Z1d Unit:=NdL 35 35 [.R 1 y31 .S,.t 3 (pB 3),.t 5 (pB 5),.I 7] [(3,y29,[.S,.S]),(5,y3,[.S])] (λd b=>(d.2.1)) (λd v=>(d.1,v,())) (λb v=>((b.1.1,b.1.2),(b.2.1.1,b.2.1.2),())) (λd b=>j3h d.1 b.1.2 b.2.1.2) λd b g=>((λf=>g (.exit 0) [(1,v1 y31 d.1 .S),(5,pB 5),(7,vI f)] [(5,⟨y3,b.2.1.1,b.2.1.2,[.S]⟩)]))
theorem jiq:CN 0 28 Tryz.f299 j9P:=lK jeS [] oN ([],[]) [(0,[1,5,7],[5])] ([],[]) λ_ _ _ _ _=>by delta j3h j1P j1n j5b;refine gz j0A λ_ b=>gz j3c λ_ d=> ?_;rewrite [<-b,<-d];kernel_rfl
def j1V (t:qB×qE×qL) (l:List qW) (r:List qV) (d:qR->Res):Res:=jae l t r Z1c 0 λb=>j0m l λf=>j0O r λg=>j4E f b [g] λh=>d h
def j8f:Sig Unit:=sg [.borrow y29 true,.borrow y31 false,.borrow y3 true] [false] [(y29,none),(y31,none),(y3,none)] [] λb f k=>j1V b.1 b.2.1 b.2.2.1 (λd=>k [w1 y31 d .O] [] [])
theorem jeX:SO 299 j8f:=fK (np:=0) jeS [j9P] (oI 28 0 @jiq oN) false Tryz.func299 λ_ _ _ _=>by delta j1V j9P j0I j6y j6p jae;refine gz j3h λ_ b=>gz j0m λ_ d=>gz j0O λ_ f=>gz j4E λ_ g=> ?_;rewrite [<-b,<-d,<-f,<-g];kernel_rfl
def j6e (t:qB×qE×qL) (l:List qW) (r:List qV) (b:qR->Int->Res):Res:=j0E t l λd=>bif !d then b [] 1 else j2Q t r λf=>bif !f then b [] 2 else j0A t r λg=>j0U t l g λh=>bif decide (h>=0) then b [] 3 else bif ((nI (List.length l))==60) then b [] 4 else j1V t l r λi=>b i 0
def jb3:Sig Unit:=sg [.borrow y29 true,.borrow y31 false,.borrow y3 true] [false,false] [(y29,none),(y31,none),(y3,none)] [] λb g k=>j6e b.1 b.2.1 b.2.2.1 (λd f=>k [w1 y31 d .O,wI f] [] [])
theorem jkk:SO 253 jb3:=fK (np:=0) (Za6 jbH (Za6 j6L (Za6 j62 (Za6 jbI (Za6 jeX Zas))))) [] oN false Tryz.func253 λ_ _ _ _=>by delta j6e j1C j5f j1n j5e j8f;refine gz j0E λ_ b=>gz j2Q λ_ d=>gz j0A λ_ f=>gz j0U λ_ g=>gz j1V λ_ h=> ?_;rewrite [<-b,<-d,<-f,<-g,<-h];kernel_rfl
theorem jfy:FS [(268,j32),(273,j6W),(284,j0D)]:=(Za6 j4U (Za6 j6K (Za6 j37 Zas)))
def j2a (d:List qV) (f:qL) (g:Int) (t:qB×qE×qL) (b:Int) (rec:Int->Res) (j:Unit->Res) (h:Unit->Res):Res:=bif decide (b<g) then bif inb b (List.length f) then bif inb b (List.length d) then j0T (nth (0,0,eS) d b) λr=>bif !r then h () else bif inb b (List.length d) then j0e t (nth eS f b) λi=>bif inb i (List.length t.2.1) then bif ((nth (0,0,eS) d b).1 != (nth (eS,0,false,false,0,0,eS) t.2.1 i).2.1) then h () else rec (Z9K (b+1)) else none else none else none else none else j ()
def j47 (b:List qV) (d:qL) (f:Int) (t:qB×qE×qL):Int->(Int->Res)->((Unit->Res)×(Unit->Res))->Res:=λv rec q=>j2a b d f t v (λg=>rec (g)) q.1 q.2
def jaX (b:List qV) (d:qL) (f:Int) (t:qB×qE×qL) (n:Nat) (g:Int) (h:Unit->Res) (i:Unit->Res):Res:=Z1f (j47 b d f t) n (g) (h,i)
def jay:Z1d Unit:=NdL 49 49 [.R 1 y3 .S,.t 2 (pB 2),.R 19 y0 .S,.I 20,.I 21] [(2,y29,[.S,.S])] (λb d=>(b.2.2.2.1)) (λb v=>(b.1,b.2.1,b.2.2.1,v,())) (λd v=>((d.1.1,d.1.2),())) (λb d=>j47 b.1 b.2.1 b.2.2.1 d.1.2) λb d f=>((λ_=>f (.exit 0) [] []),(λ_=>f .ret [(4,vB false)] []))
theorem jjp:CN 0 58 Tryz.f300 jay:=lK jfy [] oN ([],[]) [(0,[],[])] ([4],[]) λ_ _ _ _ _=>by delta j47 j2a j6W j0D;refine gz j0T λ_ b=>gz j0e λ_ d=> ?_;rewrite [<-b,<-d];kernel_rfl
def j46 (t:qB×qE×qL) (b:List qV) (d:Bool->Res):Res:=j0C t λr=>bif !r then d false else bif ((nI (List.length b)) != (nI (List.length t.2.2))) then d false else jaX b t.2.2 (nI (List.length t.2.2)) t Z1c 0 (λ_=>d true) (λ_=>d false)
def j9r:Sig Unit:=sg [.look y29 true,.look y3 false] [false] [(y29,none),(y3,none)] [] λb f k=>j46 b.1 b.2.1 (λd=>k [wB d] [] [])
theorem jfG:SO 300 j9r:=fK (np:=0) jfy [jay] (oI 58 0 @jjp oN) false Tryz.func300 λ_ _ _ _=>by delta j46 j32 jay jaX;refine gz j0C λ_ b=>gz j47 λ_ d=> ?_;rewrite [<-b,<-d];kernel_rfl
theorem jeO:FS [(128,j4e),(177,j5e),(232,j0I),(238,j1n),(251,j1C),(293,j5f),(299,j8f),(300,j9r),(301,j3N)]:=(Za6 jaK (Za6 jbH (Za6 j3Z (Za6 j6L (Za6 j62 (Za6 jbI (Za6 jeX (Za6 jfG (Za6 j9Y Zas)))))))))
def j4Y (l:List qW) (b:List qV) (now:List qV) (t:qB×qE×qL) (d:Unit->Res) (f:Unit->Res):Res:=j1c now b λg=>bif !g then j0U t l now λh=>bif decide (h>=0) then f () else d () else d ()
def j9K:Z1d Unit:=Nd 61 61 [.R 1 y31 .S,.R 2 y3 .S,.t 4 (pB 4),.t 7 (pB 7),.R 10 y3 .O] [(4,y29,[.S,.S]),(7,y3,[.S])] λb d f=>j4Y b.1 b.2.1 b.2.2.1 d.1.2 (λ_=>f .normal [(1,v1 y31 b.1 .S),(2,v1 y3 b.2.1 .S),(4,pB 4),(7,pB 7)] [(4,⟨y29,d.1.1,d.1.2,[.S,.S]⟩),(7,⟨y3,d.2.1.1,d.2.1.2,[.S]⟩)]) (λ_=>f .ret [(8,v1 y31 [] .O),(9,vI 3)] [])
theorem jil:CN 0 30 Tryz.f254 j9K:=nK jeO [] oN ([1,2,4,7],[4,7]) [] ([8,9],[]) λ_ _ _=>by delta j4Y j4e j5e;refine gz j1c λ_ b=>gz j0U λ_ d=> ?_;rewrite [<-b,<-d];kernel_rfl
def j6f (t:qB×qE×qL) (l:List qW) (b:List qV) (r:List qV) (d:qR->Int->Res):Res:=j0E t l λg=>bif !g then d [] 1 else j2Q t r λh=>bif !h then d [] 2 else j46 t b λi=>bif !i then d [] 5 else j0U t l b λj=>bif decide (j<0) then d [] 5 else j0A t r λk=>j4Y l b k t (λ_=>j0U t l b λf=>j0m l λm=>j0G m f (Z9K (f+1)) λn=>j1V t n r λp=>d p 0) (λ_=>d [] 3)
def jb4:Sig Unit:=sg [.borrow y29 true,.borrow y31 false,.borrow y3 false,.borrow y3 true] [false,false] [(y29,none),(y31,none),(y3,none),(y3,none)] [] λb g k=>j6f b.1 b.2.1 b.2.2.1 b.2.2.2.1 (λd f=>k [w1 y31 d .O,wI f] [] [])
theorem jkl:SO 254 jb4:=fK (np:=0) jeO [j9K] (oI 30 0 @jil oN) false Tryz.func254 λ_ _ _ _=>by delta j6f j1C j5f j9r j5e j1n j9K j0I j3N j8f;refine gz j0E λ_ b=>gz j2Q λ_ d=>gz j46 λ_ f=>gz j0U λ_ g=>gz j0A λ_ h=>gz j4Y λ_ i=>gz j0m λ_ j=>gz j0G λ_ k=>gz j1V λ_ l=> ?_;rewrite [<-b,<-d,<-f,<-g,<-h,<-i,<-j,<-k,<-l];kernel_rfl
def j6d (t:qB×qE×qL) (l:List qW) (b:List qV) (d:qR->Int->Res):Res:=j0E t l λr=>bif !r then d [] 1 else j46 t b λg=>bif !g then d [] 5 else j0U t l b λh=>bif decide (h<0) then d [] 5 else j0U t l b λf=>j0m l λi=>j0G i f (Z9K (f+1)) λj=>d j 0
def jb2:Sig Unit:=sg [.borrow y29 true,.borrow y31 false,.borrow y3 false] [false,false] [(y29,none),(y31,none),(y3,none)] [] λb g k=>j6d b.1 b.2.1 b.2.2.1 (λd f=>k [w1 y31 d .O,wI f] [] [])
theorem jkj:SO 255 jb2:=fK (np:=0) (Za6 jbH (Za6 j3Z (Za6 j62 (Za6 jfG (Za6 j9Y Zas))))) [] oN false Tryz.func255 λ_ _ _ _=>by delta j6d j1C j9r j5e j0I j3N;refine gz j0E λ_ b=>gz j46 λ_ d=>gz j0U λ_ f=>gz j0m λ_ g=>gz j0G λ_ h=> ?_;rewrite [<-b,<-d,<-f,<-g,<-h];kernel_rfl
end
end Go.PI.G
