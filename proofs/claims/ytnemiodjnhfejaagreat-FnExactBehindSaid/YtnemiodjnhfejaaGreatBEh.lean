/-
  Program's code interpreted over typed values; printed texts; plain laws. No conditions.
-/
import Derived.Test.YtnemiodjnhfejaaGreatBEd
import Derived.Test.YtnemiodjnhfejaaGreatBEe
import Derived.Test.YtnemiodjnhfejaaGreatBEf
import Derived.Test.YtnemiodjnhfejaaGreatBEg
set_option linter.unusedVariables false
set_option maxRecDepth 100000
namespace Go.PI.G
noncomputable section
open Go Go.PI Go.Proofs
open Go.Code (pl pr)
def j2N (d:List qV) (h:Int) (b:Int) (rec:Int->Res) (f:Unit->Res) (g:Unit->Res):Res:=bif decide (b<h) then bif inb b (List.length d) then j18 (nth (0,0,eS) d b) λr=>bif !r then g () else rec (Z9K (b+1)) else none else f ()
def j7Q (b:List qV) (d:Int):Int->(Int->Res)->((Unit->Res)×(Unit->Res))->Res:=λv rec q=>j2N b d v (λf=>rec (f)) q.1 q.2
def jd0 (f:List qV) (g:Int) (n:Nat) (h:Int) (b:Unit->Res) (d:Unit->Res):Res:=Z1f (j7Q f g) n (h) (b,d)
def jcv:Z1d Unit:=NdL 23 23 [.R 0 y3 .S,.R 5 y3 .S,.I 6,.I 7] [] (λb d=>(b.2.2.2.1)) (λb v=>(b.1,b.2.1,b.2.2.1,v,())) (λd v=>()) (λb d=>j7Q b.2.1 b.2.2.1) λb d f=>((λ_=>f (.exit 0) [(0,v1 y3 b.1 .S)] []),(λ_=>f .ret [(2,vB false)] []))
theorem jhT:CN 0 26 Tryz.f208 jcv:=lK (Za6 j6S Zas) [] oN ([],[]) [(0,[0],[])] ([2],[]) λ_ _ _ _ _=>by kernel_rfl
def j27 (l:List qV) (b:Bool->Res):Res:=jd0 l (nI (List.length l)) Z1c 0 (λ_=>bif decide ((nI (List.length l))>=1) then b (decide ((nI (List.length l))<=8)) else b false) (λ_=>b false)
def jaq:Sig Unit:=sg [.look y3 false] [false] [(y3,none)] [] λd f k=>j27 d.1 (λb=>k [wB b] [] [])
theorem jjd:SO 208 jaq:=fK (np:=0) (Za6 j6S Zas) [jcv] (oI 26 0 @jhT oN) false Tryz.func208 λ_ _ _ _=>by kernel_rfl
def j19 (d:qG) (b:Bool->Res):Res:=bif (d.1==0) then bif sEq d.2.1 eS then bif ((nI (List.length d.2.2.1))==0) then bif ((nI (List.length d.2.2.2.1))==0) then bif sEq d.2.2.2.2.1 eS then b (sEq d.2.2.2.2.2 eS) else b false else b false else b false else b false else b false
def j9w:Sig Unit:=sg [.look y13 true] [false] [(y13,none)] [] λd f k=>j19 d.1 (λb=>k [wB b] [] [])
theorem jcF:SO 209 j9w:=fK (np:=0) Zas [] oN false Tryz.func209 λ_ _ _ _=>by kernel_rfl
theorem jf1:FS [(154,j2p),(208,jaq),(209,j9w),(210,j3t)]:=(Za6 j8c (Za6 jjd (Za6 jcF (Za6 jbO Zas))))
def j5v (d:Bool) (f:Bool) (s:qS) (b:Bool->Res):Res:=bif (s.1==1) then bif d then j27 s.2.2.2.1 λr=>bif r then j19 s.2.2.2.2 λg=>b g else b false else b false else bif (s.1==2) then j27 s.2.2.1 λh=>bif h then j27 s.2.2.2.1 λi=>bif i then j19 s.2.2.2.2 λj=>b j else b false else b false else bif (s.1==3) then j27 s.2.2.1 λk=>bif k then bif f then j19 s.2.2.2.2 λl=>b l else b false else b false else bif (s.1==4) then bif d then bif f then j19 s.2.2.2.2 λm=>b m else b false else b false else bif (s.1==5) then bif d then bif f then j1W s.2.2.2.2 λn=>bif n then b (sEq s.2.2.2.2.2.1 s.2.1) else b false else b false else b false else b false
def j9T:Z1d Unit:=Nd 93 93 [.t 1 (pB 1),.B 3,.B 4] [(1,y17,[.S,.S,.S,.S])] λb g d=>j5v b.1 b.2.1 g.1.2 (λf=>d .ret [(2,vB f)] [])
theorem jiF:CN 0 31 Tryz.f155 j9T:=nK jf1 [] oN ([],[]) [] ([2],[]) λ_ _ _=>by delta j5v jaq j9w j3t;refine gz j27 λ_ b=>gz j19 λ_ d=>gz j1W λ_ f=> ?_;rewrite [<-b,<-d,<-f];kernel_rfl
def j2V (s:qS) (b:Bool->Res):Res:=j0y s.2.1 λr=>bif !r then b false else j5v ((nI (List.length s.2.2.1))==0) ((nI (List.length s.2.2.2.1))==0) s λt=>b t
def j6b:Sig Unit:=sg [.look y17 true] [false] [(y17,none)] [] λd f k=>j2V d.1 (λb=>k [wB b] [] [])
theorem jfa:SO 155 j6b:=fK (np:=0) jf1 [j9T] (oI 31 0 @jiF oN) false Tryz.func155 λ_ _ _ _=>by delta j2V j2p j9T;refine gz j0y λ_ b=>gz j5v λ_ d=> ?_;rewrite [<-b,<-d];kernel_rfl
theorem jgO:FS [(172,j16),(242,j72)]:=(Za6 j3T (Za6 jfW Zas))
def j5t (f:List qT) (g:Int) (d:qF×List qR) (b:Int) (rec:Int->Res) (h:Unit->Res) (i:Unit->Res):Res:=bif decide (b<g) then bif inb b (List.length f) then bif inb b (List.length d.2) then j0r (nth (eS,[],[]) f b) (nth [] d.2 b) λr=>bif !r then i () else rec (Z9K (b+1)) else none else none else h ()
def j7w (b:List qT) (f:Int) (d:qF×List qR):Int->(Int->Res)->((Unit->Res)×(Unit->Res))->Res:=λv rec q=>j5t b f d v (λg=>rec (g)) q.1 q.2
def jcl (b:List qT) (f:Int) (d:qF×List qR) (n:Nat) (g:Int) (h:Unit->Res) (i:Unit->Res):Res:=Z1f (j7w b f d) n (g) (h,i)
def jbg:Z1d Unit:=NdL 38 38 [.t 1 (pB 1),.R 21 y30 .S,.I 22,.I 23] [(1,y33,[.S,.S])] (λb d=>(b.2.2.1)) (λb v=>(b.1,b.2.1,v,())) (λd v=>((d.1.1,d.1.2),())) (λb d=>j7w b.1 b.2.1 d.1.2) λb d f=>((λ_=>f (.exit 0) [] []),(λ_=>f .ret [(2,vB false)] []))
theorem jkT:CN 0 58 Tryz.f186 jbg:=lK jgO [] oN ([],[]) [(0,[],[])] ([2],[]) λ_ _ _ _ _=>by kernel_rfl
def j5G (d:qF×List qR) (b:Bool->Res):Res:=j5T d.1 λr=>bif !r then b false else bif ((nI (List.length d.2)) != (nI (List.length d.1))) then b false else jcl d.1 (nI (List.length d.1)) d Z1c 0 (λ_=>b true) (λ_=>b false)
def j86:Sig Unit:=sg [.look y33 true] [false] [(y33,none)] [] λd f k=>j5G d.1 (λb=>k [wB b] [] [])
theorem jgQ:SO 186 j86:=fK (np:=0) jgO [jbg] (oI 58 0 @jkT oN) false Tryz.func186 λ_ _ _ _=>by delta j5G j72 jbg jcl;refine gz j5T λ_ b=>gz j7w λ_ d=> ?_;rewrite [<-b,<-d];kernel_rfl
theorem jdE:FS [(243,j5m),(244,j7t)]:=(Za6 jdS (Za6 jdT Zas))
def j2M (f:List qR) (g:Int) (d:Int) (b:qF×List qR) (rec:Int->qD->Res) (h:qD->Res):Res:=bif decide (d<g) then bif inb d (List.length f) then j5z (nth [] f d) λr=>bif lim ((List.length b.2)+1) then rec (Z9K (d+1)) (b.1,(b.2++[r])) else none else none else h b
def j4P (d:List qR) (f:Int):(Int×qD)->(Int×qD->Res)->((qD->Res))->Res:=λv rec q=>j2M d f v.1 v.2 (λg b=>rec (g,b)) q
def j9F (d:List qR) (f:Int) (n:Nat) (g:Int) (b:qF×List qR) (h:qD->Res):Res:=Z1f (j4P d f) n (g,b) (h)
def j8T:Z1d Unit:=NdL 28 28 [.t 2 (pB 2),.t 3 (pB 3),.R 11 y32 .S,.I 12,.I 13] [(2,y33,[.O,.O]),(3,y33,[.O,.O])] (λd b=>(d.2.2.1,b.2.1.2)) (λd v=>(d.1,d.2.1,v.1,())) (λb v=>((b.1.1,b.1.2),(b.2.1.1,v.2),())) (λd b=>j4P d.1 d.2.1) λd b g=>((λf=>g (.exit 0) [(2,pB 2),(3,pB 3)] [(2,⟨y33,b.1.1,b.1.2,[.O,.O]⟩),(3,⟨y33,b.2.1.1,f,[.O,.O]⟩)]))
theorem jhS:CN 0 58 Tryz.f187 j8T:=lK jdE [] oN ([],[]) [(0,[2,3],[2,3])] ([],[]) λ_ _ _ _ _=>by kernel_rfl
def j1t (d:qF×List qR) (f:qD->Res):Res:=j3z d.1 λr=>j9F d.2 (nI (List.length d.2)) Z1c 0 (r,[]) λb=>f b
def j5n:Sig Unit:=sg [.borrow y33 true] [true] [(y33,none)] [] λd f k=>j1t d.1 (λb=>k [⟨y33,true,b,[.O,.O]⟩] [] [])
theorem jdV:SO 187 j5n:=fK (np:=0) jdE [j8T] (oI 58 0 @jhS oN) false Tryz.func187 λ_ _ _ _=>by delta j1t j5m j8T j9F;refine gz j3z λ_ b=>gz j4P λ_ d=> ?_;rewrite [<-b,<-d];kernel_rfl
def j14 (t:qB×qE×qL) (l:List qW) (s:qS) (b:qR->Int->Res):Res:=bif (s.1==1) then j6r t l s.2.2.2.1 λr d=>b r d else bif (s.1==2) then j6s t l s.2.2.1 s.2.2.2.1 λf g=>b f g else bif (s.1==3) then j6q t l s.2.2.1 λh i=>b h i else bif (s.1==5) then j5u t l s.2.2.2.2 λj k=>b j k else b [] 0
def j5o:Sig Unit:=sg [.borrow y29 true,.borrow y31 false,.borrow y17 true] [false,false] [(y29,none),(y31,none),(y17,none)] [] λb g k=>j14 b.1 b.2.1 b.2.2.1 (λd f=>k [w1 y31 d .O,wI f] [] [])
theorem jdW:SO 246 j5o:=fK (np:=0) (Za6 jkz (Za6 jkA (Za6 jky (Za6 jja Zas)))) [] oN false Tryz.func246 λ_ _ _ _=>by delta j14 jft jfu jfs jec;refine gz j6r λ_ b=>gz j6s λ_ d=>gz j6q λ_ f=>gz j5u λ_ g=> ?_;rewrite [<-b,<-d,<-f,<-g];kernel_rfl
theorem j5I:FS [(113,j3u),(244,j7t),(246,j5o),(287,j4f)]:=(Za6 jbS (Za6 jdT (Za6 jdW (Za6 jcE Zas))))
def j2L (b:Int) (s:qS) (t:qB×qE×qL) (d:Bool->Res):Res:=bif decide (b>=0) then d (sEq t.1 s.2.1) else d false
def j29:Z1d Unit:=Nd 86 86 [.t 2 (pB 2),.t 3 (pB 3),.t 4 (pB 4),.t 8 (pB 8),.t 10 (pB 10),.t 11 (pB 11),.I 12,.R 29 y30 .S,.I 30,.I 31] [(2,y33,[.S,.S]),(3,y17,[.S,.S,.S,.S]),(4,y33,[.O,.O]),(8,y33,[.S,.O]),(10,y29,[.S,.S]),(11,y31,[.O])] λd b g=>j2L d.1 b.2.1.2 b.2.2.2.2.1.2 (λf=>g .normal [(2,pB 2),(3,pB 3),(4,pB 4),(8,pB 8),(11,pB 11),(12,vI d.1),(29,v1 y30 d.2.1 .S),(30,vI d.2.2.1),(31,vI d.2.2.2.1),(49,vB f)] [(2,⟨y33,b.1.1,b.1.2,[.S,.S]⟩),(3,⟨y17,b.2.1.1,b.2.1.2,[.S,.S,.S,.S]⟩),(4,⟨y33,b.2.2.1.1,b.2.2.1.2,[.O,.O]⟩),(8,⟨y33,b.2.2.2.1.1,b.2.2.2.1.2,[.S,.O]⟩),(11,⟨y31,b.2.2.2.2.2.1.1,b.2.2.2.2.2.1.2,[.O]⟩)])
theorem jgh:CN 0 256412 Tryz.f245 j29:=nK j5I [] oN ([2,3,4,8,11,12,29,30,31,49],[2,3,4,8,11]) [] ([],[]) λ_ _ _=>by kernel_rfl
def j1A (b:Int) (g:Bool) (d:qF×List qR) (s:qS) (x:List qW) (f:qR->Res):Res:=bif g then bif inb b (List.length d.1) then bif inb b (List.length d.2) then j14 (nth (eS,[],[]) d.1 b) (nth [] d.2 b) s λr i=>Z87 (f r) (f r) else none else none else bif decide (b>=0) then bif inb b (List.length d.2) then j5z (nth [] d.2 b) λh=>f h else none else f x
def j4s:Z1d Unit:=Nd 86 86 [.t 2 (pB 2),.t 3 (pB 3),.t 4 (pB 4),.t 8 (pB 8),.t 11 (pB 11),.I 12,.R 29 y30 .S,.I 30,.I 31,.B 49] [(2,y33,[.S,.S]),(3,y17,[.S,.S,.S,.S]),(4,y33,[.O,.O]),(8,y33,[.S,.O]),(11,y31,[.O])] λd b f=>j1A d.1 d.2.2.2.2.1 b.1.2 b.2.1.2 b.2.2.2.2.1.2 (λg=>f .normal [(2,pB 2),(3,pB 3),(4,pB 4),(8,pB 8),(11,pB 11),(29,v1 y30 d.2.1 .S),(30,vI d.2.2.1),(31,vI d.2.2.2.1)] [(2,⟨y33,b.1.1,b.1.2,[.S,.S]⟩),(3,⟨y17,b.2.1.1,b.2.1.2,[.S,.S,.S,.S]⟩),(4,⟨y33,b.2.2.1.1,b.2.2.1.2,[.O,.O]⟩),(8,⟨y33,b.2.2.2.1.1,b.2.2.2.1.2,[.S,.O]⟩),(11,⟨y31,b.2.2.2.2.1.1,g,[.O]⟩)])
theorem jgi:CN 0 256413 Tryz.f245 j4s:=nK j5I [j29] oN ([2,3,4,8,11,29,30,31],[2,3,4,8,11]) [] ([],[]) λ_ _ _=>by delta j1A j5o j7t;refine gz j14 λ_ b=>gz j5z λ_ d=> ?_;rewrite [<-b,<-d];kernel_rfl
def j0Y (g:List qT) (h:Int) (d:qF×List qR) (s:qS) (b:Int) (f:qF×List qR) (rec:Int->qD->Res) (i:qD->Res):Res:=bif decide (b<h) then bif inb b (List.length g) then j1Y d.1 (nth (eS,[],[]) g b).1 λr=>j2L r s (nth (eS,[],[]) g b) λt=>j1A r t d s [] λx=>bif lim ((List.length f.2)+1) then rec (Z9K (b+1)) (f.1,(f.2++[x])) else none else none else i f
def j1M (f:List qT) (g:Int) (d:qF×List qR) (s:qS):(Int×qD)->(Int×qD->Res)->((qD->Res))->Res:=λv rec q=>j0Y f g d s v.1 v.2 (λh b=>rec (h,b)) q
def j4O (f:List qT) (g:Int) (d:qF×List qR) (s:qS) (n:Nat) (h:Int) (b:qF×List qR) (i:qD->Res):Res:=Z1f (j1M f g d s) n (h,b) (i)
def j7f:Z1d Unit:=NdL 86 86 [.t 2 (pB 2),.t 3 (pB 3),.t 4 (pB 4),.t 8 (pB 8),.R 29 y30 .S,.I 30,.I 31] [(2,y33,[.S,.S]),(3,y17,[.S,.S,.S,.S]),(4,y33,[.O,.O]),(8,y33,[.S,.O])] (λd b=>(d.2.2.1,b.2.2.2.1.2)) (λd v=>(d.1,d.2.1,v.1,())) (λb v=>((b.1.1,b.1.2),(b.2.1.1,b.2.1.2),(b.2.2.1.1,b.2.2.1.2),(b.2.2.2.1.1,v.2),())) (λd b=>j1M d.1 d.2.1 b.1.2 b.2.1.2) λd b g=>((λf=>g (.exit 0) [(4,pB 4),(8,pB 8)] [(4,⟨y33,b.2.2.1.1,b.2.2.1.2,[.O,.O]⟩),(8,⟨y33,b.2.2.2.1.1,f,[.S,.O]⟩)]))
theorem jgg:CN 0 250 Tryz.f245 j7f:=lK j5I [j29,j4s] (oI 924 0 @jgh (oI 925 1 @jgi oN)) ([],[]) [(0,[4,8],[4,8])] ([],[]) λ_ _ _ _ _=>by delta j1M j0Y j3u j29 j4s;refine gz j1Y λ_ b=>gz j2L λ_ d=>gz j1A λ_ f=> ?_;rewrite [<-b,<-d,<-f];kernel_rfl
def j35 (d:qF×List qR) (s:qS) (f:qD->Int->Res):Res:=j1E d.1 s.2.2.2.2 λr g=>bif (g != 0) then f ([],[]) (Z9K (10+g)) else j4O r (nI (List.length r)) d s Z1c 0 (r,[]) λb=>f b 0
def j8x:Sig Unit:=sg [.borrow y33 true,.borrow y17 true] [true,false] [(y33,none),(y17,none)] [] λb g k=>j35 b.1 b.2.1 (λd f=>k [⟨y33,true,d,[.S,.S]⟩,wI f] [] [])
theorem jhe:SO 245 j8x:=fK (np:=0) j5I [j29,j4s,j7f] (oI 250 2 @jgg oN) true Tryz.func245 λ_ _ _ _=>by delta j35 j4f j7f j4O;refine gz j1E λ_ b=>gz j1M λ_ d=> ?_;rewrite [<-b,<-d];kernel_rfl
theorem jgP:FS [(113,j3u),(155,j6b),(186,j86),(187,j5n),(245,j8x),(246,j5o)]:=(Za6 jbS (Za6 jfa (Za6 jgQ (Za6 jdV (Za6 jhe (Za6 jdW Zas))))))
def j78 (b:Int) (s:qS) (d:Unit->Res) (f:Unit->Res):Res:=bif decide (b<0) then bif (s.1 != 5) then f () else bif (s.2.2.2.2.1 != 1) then f () else d () else d ()
def jbh:Z1d Unit:=Nd 77 77 [.t 2 (pB 2),.t 3 (pB 3),.t 4 (pB 4),.I 6] [(2,y33,[.S,.S]),(3,y17,[.S,.S,.S,.S]),(4,y33,[.O,.O])] λf b d=>j78 f.1 b.2.1.2 (λ_=>d .normal [(2,pB 2),(3,pB 3),(4,pB 4),(6,vI f.1)] [(2,⟨y33,b.1.1,b.1.2,[.S,.S]⟩),(3,⟨y17,b.2.1.1,b.2.1.2,[.S,.S,.S,.S]⟩),(4,⟨y33,b.2.2.1.1,b.2.2.1.2,[.O,.O]⟩)]) (λ_=>d .ret [(4,pB 4),(5,vI 4)] [(4,⟨y33,b.2.2.1.1,([],[]),[.O,.O]⟩)])
theorem jkU:CN 0 30 Tryz.f188 jbh:=nK jgP [] oN ([2,3,4,6],[2,3,4]) [] ([4,5],[4]) λ_ _ _=>by kernel_rfl
def j77 (d:qF×List qR) (s:qS) (f:qD->Int->Res):Res:=j5G d λr=>bif !r then f ([],[]) 1 else j2V s λi=>bif !i then f ([],[]) 1 else j1Y d.1 s.2.1 λb=>j78 b s (λ_=>bif (s.1==5) then j35 d s λj k=>f j k else bif inb b (List.length d.1) then bif inb b (List.length d.2) then j14 (nth (eS,[],[]) d.1 b) (nth [] d.2 b) s λl h=>bif (h != 0) then f ([],[]) (Z9K (10+h)) else j1t d λg=>bif inb b (List.length g.2) then f (g.1,upd g.2 b l) 0 else none else none else none) (λ_=>f ([],[]) 4)
def jh0:Sig Unit:=sg [.borrow y33 true,.borrow y17 true] [true,false] [(y33,none),(y17,none)] [] λb g k=>j77 b.1 b.2.1 (λd f=>k [⟨y33,true,d,[.S,.S]⟩,wI f] [] [])
theorem jmt:SO 188 jh0:=fK (np:=0) jgP [jbh] (oI 30 0 @jkU oN) true Tryz.func188 λ_ _ _ _=>by delta j77 j86 j6b j3u jbh j8x j5o j5n;refine gz j5G λ_ b=>gz j2V λ_ d=>gz j1Y λ_ f=>gz j78 λ_ g=>gz j35 λ_ h=>gz j14 λ_ i=>gz j1t λ_ j=> ?_;rewrite [<-b,<-d,<-f,<-g,<-h,<-i,<-j];kernel_rfl
theorem jdD:FS [(186,j86),(187,j5n),(188,jh0)]:=(Za6 jgQ (Za6 jdV (Za6 jmt Zas)))
def j2B (d:List qS) (f:Int) (b:Int) (now:qF×List qR) (rec:Int->qD->Res) (h:qD->Res) (i:Int->Int->Res):Res:=bif decide (b<f) then bif inb b (List.length d) then j77 now (nth (0,eS,[],[],0,eS,[],[],eS,eS) d b) λr g=>bif (g != 0) then i g b else rec (Z9K (b+1)) r else none else h now
def j4G (b:List qS) (d:Int):(Int×qD)->(Int×qD->Res)->((qD->Res)×(Int->Int->Res))->Res:=λv rec q=>j2B b d v.1 v.2 (λf now=>rec (f,now)) q.1 q.2
def j6I (b:List qS) (d:Int) (n:Nat) (f:Int) (now:qF×List qR) (g:qD->Res) (h:Int->Int->Res):Res:=Z1f (j4G b d) n (f,now) (g,h)
def j8G:Z1d Unit:=λσ k=>rdN σ 39<|rdT σ 4 (pB 4)<|rdT σ 7 (pB 7)<|rd1 σ 18 y27 .S λd=>rdI σ 19 λf=>rdI σ 20 λg=>rdB σ 4 y33 [.O,.O] λa i=>rdB σ 7 y33 [.S,.S] λh now=>j6I d f Z1c g now (λb=>k (.exit 0) (mkS 39 39 [(4,pB 4),(7,pB 7)] [(4,⟨y33,a,i,[.O,.O]⟩),(7,⟨y33,h,b,[.S,.S]⟩)])) (λj l=>k .ret (mkS 39 39 [(4,pB 4),(5,vI j),(6,vI l)] [(4,⟨y33,a,([],[]),[.O,.O]⟩)]))
def j8P:Z1d Unit:=λσ k=>j8G (σ.wk [] [(7,[.S,.S])]) k
theorem jhF:CN 0 122 Tryz.f133 j8P:=λp=>ZaJ [] [(7,[.S,.S])] (jle follows j2j jdD p [] oN [4,7,18,19,20] [4,7] ([],[]) [(0,[4,7],[4,7])] ([4,5,6],[4]) (y:=j8G) λσ k _ h=>rN h λB h=>rT h λz h=>rT h λA h=>rV h λd g h=>rV h λf i h=>rV h λq j h=>rB h λa w l h=>rB h λr now n h=>⟨_,ZaM (m:=39) B (sC z (sC A (sC g (sC i (sC j sN))))) (bC l (bC n bN)),.trans (Z9u (λv:Int×qD=>(mkS 39 39 [(4,pB 4),(7,pB 7),(18,v1 y27 d .S),(19,vI f),(20,vI v.1)] [(4,⟨y33,a,w,[.O,.O]⟩),(7,⟨y33,r,v.2,[.S,.S]⟩)])) (j4G d f) (λ(k:Z83 Unit)=>(((λb=>k (.exit 0) (mkS 39 39 [(4,pB 4),(7,pB 7)] [(4,⟨y33,a,w,[.O,.O]⟩),(7,⟨y33,r,b,[.S,.S]⟩)])),(λC D=>k .ret (mkS 39 39 [(4,pB 4),(5,vI C),(6,vI D)] [(4,⟨y33,a,([],[]),[.O,.O]⟩)]))):(qD->Res)×(Int->Int->Res))) (λv rec k=>by kernel_rfl) Z1c (q,now) k) h⟩)
def j26 (d:qF×List qR) (l:List qS) (b:qD->Int->Int->Res):Res:=j5G d λr=>bif !r then b ([],[]) 1 0 else j1t d λf=>j6I l (nI (List.length l)) Z1c 0 f (λnow=>b now 0 0) (λt g=>b ([],[]) t g)
def jao:Sig Unit:=sg [.borrow y33 true,.borrow y27 false] [true,false,false] [(y33,none),(y27,none)] [] λb h k=>j26 b.1 b.2.1 (λd f g=>k [⟨y33,true,d,[.S,.S]⟩,wI f,wI g] [] [])
theorem jj9:SO 133 jao:=fK (np:=0) jdD [j8P] (oI 122 0 @jhF oN) true Tryz.func133 λ_ _ _ _=>by delta j26 j86 j5n j8P;delta j8G j6I;refine gz j5G λ_ b=>gz j1t λ_ d=>gz j4G λ_ f=> ?_;rewrite [<-b,<-d,<-f];kernel_rfl
def jaX (d:Int×Int×qB) (b:Bool->Res):Res:=j0T d λr=>b (!r)
def jiQ:Sig Unit:=sg [.look y2 true] [false] [(y2,none)] [] λd f k=>jaX d.1 (λb=>k [wB b] [] [])
theorem jcC:SO 272 jiQ:=fK (np:=0) (Za6 j6Q Zas) [] oN false Tryz.func272 λ_ _ _ _=>by kernel_rfl
def j0L (s:List qV) (g:Int) (b:Int) (rec:Int->Res) (d:Unit->Res) (f:Int->Res):Res:=bif decide (b<g) then bif inb b (List.length s) then jaX (nth (0,0,eS) s b) λr=>bif r then f b else rec (Z9K (b+1)) else none else d ()
def j2T (s:List qV) (b:Int):Int->(Int->Res)->((Unit->Res)×(Int->Res))->Res:=λv rec q=>j0L s b v (λd=>rec (d)) q.1 q.2
def j7C (s:List qV) (f:Int) (n:Nat) (g:Int) (b:Unit->Res) (d:Int->Res):Res:=Z1f (j2T s f) n (g) (b,d)
def j7d:Z1d Unit:=NdL 19 19 [.R 0 y3 .S,.c 1 272 [] .unit [],.I 7,.I 8] [] (λb d=>(b.2.2.2.1)) (λb v=>(b.1,b.2.1,b.2.2.1,v,())) (λd v=>()) (λb d=>j2T b.1 b.2.2.1) λb d f=>((λ_=>f (.exit 0) [] []),(λg=>f .ret [(4,vI g)] []))
theorem jc8:CN 0 26 Tryz.f306 j7d:=lK (Za6 jcC Zas) [] oN ([],[]) [(0,[],[])] ([4],[]) λ_ _ _ _ _=>by kernel_rfl
def j5R (s:List qV) (f:Unit) (b:Int->Res):Res:=j7C s (nI (List.length s)) Z1c 0 (λ_=>b (-1)) (λt=>b t)
def jdw:Sig Unit:=sg [.look y3 false,.rclos 272 []] [false] [(y3,none),(.unit,none)] [] λb f k=>j5R b.1 b.2.1 (λd=>k [wI d] [] [])
theorem jdl:SO 306 jdw:=fK (np:=0) (Za6 jcC Zas) [j7d] (oI 26 0 @jc8 oN) false Tryz.func306 λ_ _ _ _=>by kernel_rfl
def j1G (s:List qV) (f:Unit) (b:Bool->Res):Res:=j5R s f λr=>b (decide (r>=0))
def j6G:Sig Unit:=sg [.look y3 false,.rclos 272 []] [false] [(y3,none),(.unit,none)] [] λb f k=>j1G b.1 b.2.1 (λd=>k [wB d] [] [])
theorem jbm:SO 271 j6G:=fK (np:=0) (Za6 jdl Zas) [] oN false Tryz.func271 λ_ _ _ _=>by kernel_rfl
def j1l (l:List qV) (b:Bool->Res):Res:=j0f (nI (List.length l)) 1 8 λr=>bif r then j1G l () λd=>b (!d) else b false
def jam:Sig Unit:=sg [.look y3 false] [false] [(y3,none)] [] λd f k=>j1l d.1 (λb=>k [wB b] [] [])
theorem jj6:SO 213 jam:=fK (np:=0) (Za6 j2l (Za6 jbm Zas)) [] oN false Tryz.func213 λ_ _ _ _=>by delta j1l j1D j6G;refine gz j0f λ_ b=>gz j1G λ_ d=> ?_;rewrite [<-b,<-d];kernel_rfl
theorem jeX:FS [(160,j2n),(211,j3r),(212,j6F),(213,jam)]:=(Za6 j8b (Za6 jbE (Za6 j94 (Za6 jj6 Zas))))
def j50 (s:qS) (b:Bool->Res):Res:=bif (s.1==1) then bif ((nI (List.length s.2.2.1))==0) then j1l s.2.2.2.1 λr=>b r else b false else bif (s.1==2) then j1l s.2.2.1 λd=>bif d then j1l s.2.2.2.1 λf=>b f else b false else bif (s.1==3) then j1l s.2.2.1 λg=>bif g then b ((nI (List.length s.2.2.2.1))==0) else b false else bif (s.1==4) then bif ((nI (List.length s.2.2.1))==0) then b ((nI (List.length s.2.2.2.1))==0) else b false else b false
def j9L:Z1d Unit:=Nd 91 91 [.t 1 (pB 1)] [(1,y17,[.S,.S,.S,.S])] λg f b=>j50 f.1.2 (λd=>b .ret [(2,vB d)] [])
theorem jiq:CN 0 15 Tryz.f161 j9L:=nK jeX [] oN ([],[]) [] ([2],[]) λ_ _ _=>by delta j50 jam;refine gz j1l λ_ b=> ?_;rewrite [<-b];kernel_rfl
def j2U (s:qS) (b:Bool->Res):Res:=bif (s.1==5) then j1U s.2.2.2.2 λr=>bif r then bif sEq s.2.1 s.2.2.2.2.2.1 then bif ((nI (List.length s.2.2.1))==0) then b ((nI (List.length s.2.2.2.1))==0) else b false else b false else b false else j0p s.2.1 λd=>bif !d then b false else j0d s.2.2.2.2 (0,eS,[],[],eS,eS) λf=>bif !f then b false else j50 s λt=>b t
def j8f:Sig Unit:=sg [.look y17 true] [false] [(y17,none)] [] λd f k=>j2U d.1 (λb=>k [wB b] [] [])
theorem jf3:SO 161 j8f:=fK (np:=0) jeX [j9L] (oI 15 0 @jiq oN) false Tryz.func161 λ_ _ _ _=>by delta j2U j3r j2n j6F j9L;refine gz j1U λ_ b=>gz j0p λ_ d=>gz j0d λ_ f=>gz j50 λ_ g=> ?_;rewrite [<-b,<-d,<-f,<-g];kernel_rfl
def j68 (s:qS) (b:qS->Res):Res:=j0O s.2.2.1 λr=>j0O s.2.2.2.1 λd=>j9c s.2.2.2.2 λf=>b (s.1,s.2.1,r,d,f)
def jiR:Sig Unit:=sg [.borrow y17 true] [true] [(y17,none)] [] λd f k=>j68 d.1 (λb=>k [⟨y17,true,b,[.O,.O,.O,.O]⟩] [] [])
theorem jcD:SO 216 jiR:=fK (np:=0) (Za6 j6x (Za6 jj8 Zas)) [] oN false Tryz.func216 λ_ _ _ _=>by delta j68 j6E jea;refine gz j0O λ_ b=>gz j9c λ_ d=> ?_;rewrite [<-b,<-d];kernel_rfl
theorem jgN:FS [(250,j70),(251,j1C)]:=(Za6 jfL (Za6 j66 Zas))
def j4X (f:List qT) (g:Int) (d:qF×List qR) (b:Int) (rec:Int->Res) (h:Unit->Res) (i:Unit->Res):Res:=bif decide (b<g) then bif inb b (List.length f) then bif inb b (List.length d.2) then j0E (nth (eS,[],[]) f b) (nth [] d.2 b) λr=>bif !r then i () else rec (Z9K (b+1)) else none else none else h ()
def j7m (b:List qT) (f:Int) (d:qF×List qR):Int->(Int->Res)->((Unit->Res)×(Unit->Res))->Res:=λv rec q=>j4X b f d v (λg=>rec (g)) q.1 q.2
def jbW (b:List qT) (f:Int) (d:qF×List qR) (n:Nat) (g:Int) (h:Unit->Res) (i:Unit->Res):Res:=Z1f (j7m b f d) n (g) (h,i)
def jbd:Z1d Unit:=NdL 38 38 [.t 1 (pB 1),.R 21 y30 .S,.I 22,.I 23] [(1,y33,[.S,.S])] (λb d=>(b.2.2.1)) (λb v=>(b.1,b.2.1,v,())) (λd v=>((d.1.1,d.1.2),())) (λb d=>j7m b.1 b.2.1 d.1.2) λb d f=>((λ_=>f (.exit 0) [] []),(λ_=>f .ret [(2,vB false)] []))
theorem jkL:CN 0 58 Tryz.f195 jbd:=lK jgN [] oN ([],[]) [(0,[],[])] ([2],[]) λ_ _ _ _ _=>by kernel_rfl
def j8V (d:qF×List qR) (b:Bool->Res):Res:=j5J d.1 λr=>bif !r then b false else bif ((nI (List.length d.2)) != (nI (List.length d.1))) then b false else jbW d.1 (nI (List.length d.1)) d Z1c 0 (λ_=>b true) (λ_=>b false)
def jds:Sig Unit:=sg [.look y33 true] [false] [(y33,none)] [] λd f k=>j8V d.1 (λb=>k [wB b] [] [])
theorem jmq:SO 195 jds:=fK (np:=0) jgN [jbd] (oI 58 0 @jkL oN) false Tryz.func195 λ_ _ _ _=>by delta j8V j70 jbd jbW;refine gz j5J λ_ b=>gz j7m λ_ d=> ?_;rewrite [<-b,<-d];kernel_rfl
theorem jeY:FS [(231,j5d),(232,j0I)]:=(Za6 jdJ (Za6 j3Z Zas))
def j3g (f:List qR) (g:Int) (d:Int) (b:qF×List qR) (rec:Int->qD->Res) (h:qD->Res):Res:=bif decide (d<g) then bif inb d (List.length f) then j0m (nth [] f d) λr=>bif lim ((List.length b.2)+1) then rec (Z9K (d+1)) (b.1,(b.2++[r])) else none else none else h b
def j5M (d:List qR) (f:Int):(Int×qD)->(Int×qD->Res)->((qD->Res))->Res:=λv rec q=>j3g d f v.1 v.2 (λg b=>rec (g,b)) q
def jac (d:List qR) (f:Int) (n:Nat) (g:Int) (b:qF×List qR) (h:qD->Res):Res:=Z1f (j5M d f) n (g,b) (h)
def j9N:Z1d Unit:=NdL 28 28 [.t 2 (pB 2),.t 3 (pB 3),.R 11 y32 .S,.I 12,.I 13] [(2,y33,[.O,.O]),(3,y33,[.O,.O])] (λd b=>(d.2.2.1,b.2.1.2)) (λd v=>(d.1,d.2.1,v.1,())) (λb v=>((b.1.1,b.1.2),(b.2.1.1,v.2),())) (λd b=>j5M d.1 d.2.1) λd b g=>((λf=>g (.exit 0) [(2,pB 2),(3,pB 3)] [(2,⟨y33,b.1.1,b.1.2,[.O,.O]⟩),(3,⟨y33,b.2.1.1,f,[.O,.O]⟩)]))
theorem jis:CN 0 58 Tryz.f174 j9N:=lK jeY [] oN ([],[]) [(0,[2,3],[2,3])] ([],[]) λ_ _ _ _ _=>by kernel_rfl
def j10 (d:qF×List qR) (f:qD->Res):Res:=j3f d.1 λr=>jac d.2 (nI (List.length d.2)) Z1c 0 (r,[]) λb=>f b
def j2o:Sig Unit:=sg [.borrow y33 true] [true] [(y33,none)] [] λd f k=>j10 d.1 (λb=>k [⟨y33,true,b,[.O,.O]⟩] [] [])
theorem jaU:SO 174 j2o:=fK (np:=0) jeY [j9N] (oI 58 0 @jis oN) false Tryz.func174 λ_ _ _ _=>by delta j10 j5d j9N jac;refine gz j3f λ_ b=>gz j5M λ_ d=> ?_;rewrite [<-b,<-d];kernel_rfl
theorem jdC:FS [(174,j2o),(176,j0P),(295,j9q),(296,j5O),(297,j5N),(298,jak)]:=(Za6 jaU (Za6 j8a (Za6 ji3 (Za6 jew (Za6 jev (Za6 jj3 Zas))))))
def j2b (f:Int) (h:Int) (d:qF×List qR) (x:qG) (c:List qT) (b:qF×List qR) (g:qD->Res):Res:=bif (h==1) then Z87 (j0i c x.2.1 λr=>j1h b.2 r [[]] λi=>g (b.1,i)) (Z87 (j0i c x.2.1 λj=>j1h b.2 j [[]] λk=>g (b.1,k)) (j0i c x.2.1 λl=>j1h b.2 l [[]] λm=>g (b.1,m))) else bif (h==2) then j4g b.2 f (Z9K (f+1)) λn=>g (b.1,n) else bif inb f (List.length d.1) then bif inb f (List.length d.2) then j4Z (nth (eS,[],[]) d.1 f) (nth [] d.2 f) x λp q=>bif inb f (List.length b.2) then g (b.1,upd b.2 f p) else none else none else none
def j8M:Z1d Unit:=Nd 79 79 [.t 2 (pB 2),.t 3 (pB 3),.t 4 (pB 4),.t 6 (pB 6),.t 8 (pB 8),.I 9,.I 31] [(2,y33,[.S,.S]),(3,y13,[.S,.S]),(4,y33,[.O,.O]),(6,y30,[.O]),(8,y33,[.O,.O])] λf b g=>j2b f.1 f.2.1 b.1.2 b.2.1.2 b.2.2.2.1.2 b.2.2.2.2.1.2 (λd=>g .normal [(4,pB 4),(6,pB 6),(8,pB 8)] [(4,⟨y33,b.2.2.1.1,b.2.2.1.2,[.O,.O]⟩),(6,⟨y30,b.2.2.2.1.1,b.2.2.2.1.2,[.O]⟩),(8,⟨y33,b.2.2.2.2.1.1,d,[.O,.O]⟩)])
theorem jhz:CN 0 253 Tryz.f252 j8M:=nK jdC [] oN ([4,6,8],[4,6,8]) [] ([],[]) λ_ _ _=>by delta j2b j0P j5O j5N jak;refine gz j0i λ_ b=>gz j1h λ_ d=>gz j4g λ_ f=>gz j4Z λ_ g=> ?_;rewrite [<-b,<-d,<-f,<-g];kernel_rfl
def j53 (d:qF×List qR) (x:qG) (f:qD->Int->Res):Res:=j3V d.1 x λr g=>bif (g != 0) then f ([],[]) g else j10 d λh=>j0i d.1 x.2.1 λi=>j2b i x.1 d x r h λb=>f (r,b.2) 0
def jan:Sig Unit:=sg [.borrow y33 true,.borrow y13 true] [true,false] [(y33,none),(y13,none)] [] λb g k=>j53 b.1 b.2.1 (λd f=>k [⟨y33,true,d,[.O,.O]⟩,wI f] [] [])
theorem jj7:SO 252 jan:=fK (np:=0) jdC [j8M] (oI 253 0 @jhz oN) false Tryz.func252 λ_ _ _ _=>by delta j53 j9q j2o j0P j8M;refine gz j3V λ_ b=>gz j10 λ_ d=>gz j0i λ_ f=>gz j2b λ_ g=> ?_;rewrite [<-b,<-d,<-f,<-g];kernel_rfl
theorem jaD:FS [(174,j2o),(176,j0P),(252,jan),(253,jb2),(254,jb3),(255,jb1)]:=(Za6 jaU (Za6 j8a (Za6 jj7 (Za6 jkm (Za6 jkn (Za6 jkl Zas))))))
def j6Y (f:Int) (s:qS) (b:Unit->Res) (d:Unit->Res):Res:=bif decide (f<0) then bif (s.1 != 5) then d () else bif (s.2.2.2.2.1 != 1) then d () else b () else b ()
def j6e:Z1d Unit:=Nd 108 108 [.t 2 (pB 2),.t 3 (pB 3),.t 4 (pB 4),.I 6] [(2,y33,[.S,.S]),(3,y17,[.S,.S,.S,.S]),(4,y33,[.O,.O])] λf b d=>j6Y f.1 b.2.1.2 (λ_=>d .normal [(2,pB 2),(3,pB 3),(4,pB 4),(6,vI f.1)] [(2,⟨y33,b.1.1,b.1.2,[.S,.S]⟩),(3,⟨y17,b.2.1.1,b.2.1.2,[.S,.S,.S,.S]⟩),(4,⟨y33,b.2.2.1.1,b.2.2.1.2,[.O,.O]⟩)]) (λ_=>d .ret [(4,pB 4),(5,vI 4)] [(4,⟨y33,b.2.2.1.1,([],[]),[.O,.O]⟩)])
theorem jkM:CN 0 14 Tryz.f196 j6e:=nK jaD [] oN ([2,3,4,6],[2,3,4]) [] ([4,5],[4]) λ_ _ _=>by kernel_rfl
def j9d (f:Int) (d:qF×List qR) (b:Unit->Res):Res:=bif inb f (List.length d.1) then Z87 (Z87 (Z87 (Z87 (bif inb f (List.length d.2) then Z87 (Z87 (b ()) (Z87 (b ()) (b ()))) (Z87 (Z87 (b ()) (b ())) (b ())) else none) (Z87 (bif inb f (List.length d.2) then Z87 (Z87 (b ()) (b ())) (b ()) else none) (bif inb f (List.length d.2) then b () else none))) (Z87 (Z87 (bif inb f (List.length d.2) then Z87 (Z87 (b ()) (b ())) (b ()) else none) (bif inb f (List.length d.2) then b () else none)) (bif inb f (List.length d.2) then b () else none))) (Z87 (Z87 (Z87 (bif inb f (List.length d.2) then Z87 (Z87 (b ()) (Z87 (b ()) (b ()))) (Z87 (Z87 (b ()) (b ())) (b ())) else none) (Z87 (bif inb f (List.length d.2) then Z87 (Z87 (b ()) (b ())) (b ()) else none) (bif inb f (List.length d.2) then b () else none))) (Z87 (Z87 (bif inb f (List.length d.2) then Z87 (Z87 (b ()) (b ())) (b ()) else none) (bif inb f (List.length d.2) then b () else none)) (bif inb f (List.length d.2) then b () else none))) (Z87 (Z87 (Z87 (bif inb f (List.length d.2) then Z87 (Z87 (b ()) (b ())) (b ()) else none) (bif inb f (List.length d.2) then b () else none)) (bif inb f (List.length d.2) then b () else none)) (Z87 (Z87 (Z87 (bif inb f (List.length d.2) then Z87 (Z87 (b ()) (b ())) (b ()) else none) (bif inb f (List.length d.2) then b () else none)) (bif inb f (List.length d.2) then b () else none)) (bif inb f (List.length d.2) then b () else none))))) (Z87 (Z87 (Z87 (Z87 (bif inb f (List.length d.2) then Z87 (Z87 (b ()) (Z87 (b ()) (b ()))) (Z87 (Z87 (b ()) (b ())) (b ())) else none) (Z87 (bif inb f (List.length d.2) then Z87 (Z87 (b ()) (b ())) (b ()) else none) (bif inb f (List.length d.2) then b () else none))) (Z87 (Z87 (bif inb f (List.length d.2) then Z87 (Z87 (b ()) (b ())) (b ()) else none) (bif inb f (List.length d.2) then b () else none)) (bif inb f (List.length d.2) then b () else none))) (Z87 (Z87 (Z87 (bif inb f (List.length d.2) then Z87 (Z87 (b ()) (b ())) (b ()) else none) (bif inb f (List.length d.2) then b () else none)) (bif inb f (List.length d.2) then b () else none)) (bif inb f (List.length d.2) then b () else none))) (Z87 (Z87 (Z87 (Z87 (bif inb f (List.length d.2) then Z87 (Z87 (b ()) (b ())) (b ()) else none) (bif inb f (List.length d.2) then b () else none)) (bif inb f (List.length d.2) then b () else none)) (Z87 (Z87 (Z87 (bif inb f (List.length d.2) then Z87 (Z87 (b ()) (b ())) (b ()) else none) (bif inb f (List.length d.2) then b () else none)) (bif inb f (List.length d.2) then b () else none)) (bif inb f (List.length d.2) then b () else none))) (Z87 (Z87 (Z87 (Z87 (bif inb f (List.length d.2) then Z87 (Z87 (b ()) (b ())) (b ()) else none) (bif inb f (List.length d.2) then b () else none)) (bif inb f (List.length d.2) then b () else none)) (bif inb f (List.length d.2) then b () else none)) (bif inb f (List.length d.2) then b () else none)))) else none
def j8j:Z1d Unit:=Nd 108 108 [.t 2 (pB 2),.t 3 (pB 3),.t 4 (pB 4),.I 6] [(2,y33,[.S,.S]),(3,y17,[.S,.S,.S,.S]),(4,y33,[.O,.O])] λd b f=>j9d d.1 b.1.2 (λ_=>f .normal [(2,pB 2),(3,pB 3),(4,pB 4),(6,vI d.1),(9,pB 9),(10,v1 y31 (nth [] b.1.2.2 d.1) .S)] [(2,⟨y33,b.1.1,b.1.2,[.S,.S]⟩),(3,⟨y17,b.2.1.1,b.2.1.2,[.S,.S,.S,.S]⟩),(4,⟨y33,b.2.2.1.1,b.2.2.1.2,[.O,.O]⟩),(9,⟨y29,false,nth (eS,[],[]) b.1.2.1 d.1,[.S,.S]⟩)])
theorem jkN:CN 0 62 Tryz.f196 j8j:=nK jaD [j6e] oN ([2,3,4,6,9,10],[2,3,4,9]) [] ([],[]) λ_ _ _=>by kernel_rfl
def j54 (l:List qW) (code:Int) (b:Int) (s:qS) (t:qB×qE×qL) (d:qR->Int->Res):Res:=bif (b==1) then j6j t l s.2.2.2.1 λr f=>d r f else bif (b==2) then j6k t l s.2.2.1 s.2.2.2.1 λg h=>d g h else bif (b==3) then j6i t l s.2.2.1 λi j=>d i j else d [] code
def jbe:Z1d Unit:=Nd 108 108 [.t 2 (pB 2),.t 3 (pB 3),.t 4 (pB 4),.I 6,.t 9 (pB 9),.R 10 y31 .S,.I 11,.I 61] [(2,y33,[.S,.S]),(3,y17,[.S,.S,.S,.S]),(4,y33,[.O,.O]),(9,y29,[.S,.S])] λf d g=>j54 f.2.1 f.2.2.1 f.2.2.2.1 d.2.1.2 d.2.2.2.1.2 (λh b=>g .normal [(2,pB 2),(4,pB 4),(6,vI f.1),(10,v1 y31 h .O),(11,vI b)] [(2,⟨y33,d.1.1,d.1.2,[.S,.S]⟩),(4,⟨y33,d.2.2.1.1,d.2.2.1.2,[.O,.O]⟩)])
theorem jkO:CN 0 509 Tryz.f196 jbe:=nK jaD [j6e,j8j] oN ([2,4,6,10,11],[2,4]) [] ([],[]) λ_ _ _=>by delta j54 jb2 jb3 jb1;refine gz j6j λ_ b=>gz j6k λ_ d=>gz j6i λ_ f=> ?_;rewrite [<-b,<-d,<-f];kernel_rfl
def j8W (d:qF×List qR) (s:qS) (b:qD->Int->Res):Res:=j0i d.1 s.2.1 λr=>j6Y r s (λ_=>bif (s.1==5) then j53 d s.2.2.2.2 λh g=>bif (g != 0) then b ([],[]) (Z9K (10+g)) else b h 0 else j9d r d λ_=>j54 (nth [] d.2 r) 0 s.1 s (nth (eS,[],[]) d.1 r) λl code=>bif (code != 0) then b ([],[]) (Z9K (10+code)) else j10 d λf=>bif inb r (List.length f.2) then b (f.1,upd f.2 r l) 0 else none) (λ_=>b ([],[]) 4)
def jdt:Sig Unit:=sg [.borrow y33 true,.borrow y17 true] [true,false] [(y33,none),(y17,none)] [] λb g k=>j8W b.1 b.2.1 (λd f=>k [⟨y33,true,d,[.O,.O]⟩,wI f] [] [])
theorem jmr:SO 196 jdt:=fK (np:=0) jaD [j6e,j8j,jbe] (oI 14 0 @jkM (oI 62 1 @jkN (oI 509 2 @jkO oN))) false Tryz.func196 λ_ _ _ _=>by delta j8W j0P j6e jan j8j jbe j2o;refine gz j0i λ_ b=>gz j6Y λ_ d=>gz j53 λ_ f=>gz j9d λ_ g=>gz j54 λ_ h=>gz j10 λ_ i=> ?_;rewrite [<-b,<-d,<-f,<-g,<-h,<-i];kernel_rfl
theorem jdB:FS [(161,j8f),(174,j2o),(195,jds),(196,jdt)]:=(Za6 jf3 (Za6 jaU (Za6 jmq (Za6 jmr Zas))))
def j1w (d:List qS) (g:Int) (b:Int) (f:qF×List qR) (rec:Int->qD->Res) (j:qD->Res) (h:Int->Int->Res):Res:=bif decide (b<g) then bif inb b (List.length d) then j2U (nth (0,eS,[],[],0,eS,[],[],eS,eS) d b) λr=>bif !r then h 1 b else j8W f (nth (0,eS,[],[],0,eS,[],[],eS,eS) d b) λk i=>bif (i != 0) then h i b else rec (Z9K (b+1)) k else none else j f
def j2r (d:List qS) (f:Int):(Int×qD)->(Int×qD->Res)->((qD->Res)×(Int->Int->Res))->Res:=λv rec q=>j1w d f v.1 v.2 (λg b=>rec (g,b)) q.1 q.2
def j9a (d:List qS) (f:Int) (n:Nat) (g:Int) (b:qF×List qR) (h:qD->Res) (i:Int->Int->Res):Res:=Z1f (j2r d f) n (g,b) (h,i)
def j8I:Z1d Unit:=NdL 44 44 [.t 4 (pB 4),.t 7 (pB 7),.R 18 y27 .S,.I 19,.I 20] [(4,y33,[.O,.O]),(7,y33,[.O,.O])] (λd b=>(d.2.2.1,b.2.1.2)) (λd v=>(d.1,d.2.1,v.1,())) (λb v=>((b.1.1,b.1.2),(b.2.1.1,v.2),())) (λd b=>j2r d.1 d.2.1) λd b g=>((λf=>g (.exit 0) [(4,pB 4),(7,pB 7)] [(4,⟨y33,b.1.1,b.1.2,[.O,.O]⟩),(7,⟨y33,b.2.1.1,f,[.O,.O]⟩)]),(λh i=>g .ret [(4,pB 4),(5,vI h),(6,vI i)] [(4,⟨y33,b.1.1,([],[]),[.O,.O]⟩)]))
theorem jhq:CN 0 122 Tryz.f138 j8I:=lK jdB [] oN ([],[]) [(0,[4,7],[4,7])] ([4,5,6],[4]) λ_ _ _ _ _=>by delta j2r j1w j8f jdt;refine gz j2U λ_ b=>gz j8W λ_ d=> ?_;rewrite [<-b,<-d];kernel_rfl
def j20 (d:qF×List qR) (l:List qS) (b:qD->Int->Int->Res):Res:=j8V d λr=>bif !r then b ([],[]) 1 0 else j10 d λg=>j9a l (nI (List.length l)) Z1c 0 g (λf=>b f 0 0) (λt h=>b ([],[]) t h)
def jaj:Sig Unit:=sg [.borrow y33 true,.borrow y27 false] [true,false,false] [(y33,none),(y27,none)] [] λb h k=>j20 b.1 b.2.1 (λd f g=>k [⟨y33,true,d,[.O,.O]⟩,wI f,wI g] [] [])
theorem jj2:SO 138 jaj:=fK (np:=0) jdB [j8I] (oI 122 0 @jhq oN) false Tryz.func138 λ_ _ _ _=>by delta j20 jds j2o j8I j9a;refine gz j8V λ_ b=>gz j10 λ_ d=>gz j2r λ_ f=> ?_;rewrite [<-b,<-d,<-f];kernel_rfl
end
end Go.PI.G
namespace Go.PI.G
noncomputable section
open Go Go.PI Go.Proofs
open Go.Code (pl pr)
def j5C (s:qS) (b:Bool->Res):Res:=bif (s.1==0) then bif sEq s.2.1 eS then bif ((nI (List.length s.2.2.1))==0) then bif ((nI (List.length s.2.2.2.1))==0) then j19 s.2.2.2.2 λr=>b r else b false else b false else b false else b false
def j8y:Sig Unit:=sg [.look y17 true] [false] [(y17,none)] [] λd f k=>j5C d.1 (λb=>k [wB b] [] [])
theorem jhf:SO 276 j8y:=fK (np:=0) (Za6 jcF Zas) [] oN false Tryz.func276 λ_ _ _ _=>by kernel_rfl
theorem jfI:FS [(155,j6b),(276,j8y)]:=(Za6 jfa (Za6 jhf Zas))
def j8i (r:Int×Int×qS) (b:Bool->Res):Res:=bif decide (r.1<1) then b true else bif decide (r.1>4) then b true else bif decide (r.2.1<1) then b true else b (decide (r.2.1>1000000))
def jaA:Z1d Unit:=Nd 30 30 [.t 1 (pB 1)] [(1,y19,[.S,.S,.S,.S])] λg d f=>j8i d.1.2 (λb=>f .normal [(1,pB 1),(20,vB b)] [(1,⟨y19,d.1.1,d.1.2,[.S,.S,.S,.S]⟩)])
theorem jjA:CN 0 12 Tryz.f218 jaA:=nK jfI [] oN ([1,20],[1]) [] ([],[]) λ_ _ _=>by kernel_rfl
def j7y (r:Int×Int×qS) (b:Bool->Res):Res:=j8i r λt=>bif t then b false else bif (r.1==2) then j2V r.2.2 λd=>b d else j5C r.2.2 λf=>b f
def jci:Sig Unit:=sg [.look y19 true] [false] [(y19,none)] [] λd f k=>j7y d.1 (λb=>k [wB b] [] [])
theorem jlo:SO 218 jci:=fK (np:=0) jfI [jaA] (oI 12 0 @jjA oN) false Tryz.func218 λ_ _ _ _=>by delta j7y jaA j6b j8y;refine gz j8i λ_ b=>gz j2V λ_ d=>gz j5C λ_ f=> ?_;rewrite [<-b,<-d,<-f];kernel_rfl
def j5x (f:Int) (d:List qP) (i:Int) (b:Int) (rec:Int->Res) (g:Unit->Res) (h:Unit->Res):Res:=bif decide (b<i) then bif inb b (List.length d) then bif ((nth (0,0,0,eS,[],[],0,eS,[],[],eS,eS) d b).1==1) then bif ((nth (0,0,0,eS,[],[],0,eS,[],[],eS,eS) d b).2.1==f) then h () else rec (Z9K (b+1)) else rec (Z9K (b+1)) else none else g ()
def jas (b:Int) (d:List qP) (f:Int):Int->(Int->Res)->((Unit->Res)×(Unit->Res))->Res:=λv rec q=>j5x b d f v (λg=>rec (g)) q.1 q.2
def jgy (b:Int) (g:List qP) (h:Int) (n:Nat) (i:Int) (d:Unit->Res) (f:Unit->Res):Res:=Z1f (jas b g h) n (i) (d,f)
def jfA:Z1d Unit:=NdL 23 23 [.I 1,.R 7 y20 .S,.I 8,.I 9] [] (λb d=>(b.2.2.2.1)) (λb v=>(b.1,b.2.1,b.2.2.1,v,())) (λd v=>()) (λb d=>jas b.1 b.2.1 b.2.2.1) λb d f=>((λ_=>f (.exit 0) [] []),(λ_=>f .ret [(4,vB true)] []))
theorem jkX:CN 0 26 Tryz.f219 jfA:=lK Zas [] oN ([],[]) [(0,[],[])] ([4],[]) λ_ _ _ _ _=>by kernel_rfl
def jaO (l:List qP) (b:Int) (d:Bool->Res):Res:=jgy b l (nI (List.length l)) Z1c 0 (λ_=>d false) (λ_=>d true)
def jdy:Sig Unit:=sg [.look y20 false,.look tI false] [false] [(y20,none),(tI,none)] [] λb f k=>jaO b.1 b.2.1 (λd=>k [wB d] [] [])
theorem jmv:SO 219 jdy:=fK (np:=0) Zas [jfA] (oI 26 0 @jkX oN) false Tryz.func219 λ_ _ _ _=>by kernel_rfl
def j3H (h:Int) (d:List Int) (i:Int) (b:Int) (rec:Int->Res) (f:Unit->Res) (g:Unit->Res):Res:=bif decide (b<i) then bif inb b (List.length d) then bif ((nth 0 d b)==h) then g () else rec (Z9K (b+1)) else none else f ()
def j8F (b:Int) (d:List Int) (f:Int):Int->(Int->Res)->((Unit->Res)×(Unit->Res))->Res:=λv rec q=>j3H b d f v (λg=>rec (g)) q.1 q.2
def jek (f:Int) (g:List Int) (h:Int) (n:Nat) (i:Int) (b:Unit->Res) (d:Unit->Res):Res:=Z1f (j8F f g h) n (i) (b,d)
def jdh:Z1d Unit:=NdL 17 17 [.I 1,.R 7 y21 .S,.I 8,.I 9] [] (λb d=>(b.2.2.2.1)) (λb v=>(b.1,b.2.1,b.2.2.1,v,())) (λd v=>()) (λb d=>j8F b.1 b.2.1 b.2.2.1) λb d f=>((λ_=>f (.exit 0) [] []),(λ_=>f .ret [(4,vB true)] []))
theorem jiO:CN 0 26 Tryz.f168 jdh:=lK Zas [] oN ([],[]) [(0,[],[])] ([4],[]) λ_ _ _ _ _=>by kernel_rfl
def j4y (l:List Int) (d:Int) (b:Bool->Res):Res:=jek d l (nI (List.length l)) Z1c 0 (λ_=>b false) (λ_=>b true)
def j8h:Sig Unit:=sg [.look y21 false,.look tI false] [false] [(y21,none),(tI,none)] [] λb f k=>j4y b.1 b.2.1 (λd=>k [wB d] [] [])
theorem jfc:SO 168 j8h:=fK (np:=0) Zas [jdh] (oI 26 0 @jiO oN) false Tryz.func168 λ_ _ _ _=>by kernel_rfl
def j3G (i:Int) (g:List Int) (f:Int) (d:List Int) (b:Int) (rec:(List Int)->Int->Res) (h:(List Int)->Res):Res:=bif decide (b<f) then bif inb b (List.length g) then bif ((nth 0 g b) != i) then bif lim ((List.length d)+1) then rec (d++[nth 0 g b]) (Z9K (b+1)) else none else rec d (Z9K (b+1)) else none else h d
def j8E (g:Int) (h:List Int) (d:Int):((List Int)×Int)->((List Int)×Int->Res)->(((List Int)->Res))->Res:=λv rec q=>j3G g h d v.1 v.2 (λb f=>rec (b,f)) q
def jej (h:Int) (i:List Int) (d:Int) (n:Nat) (b:List Int) (f:Int) (g:(List Int)->Res):Res:=Z1f (j8E h i d) n (b,f) (g)
def jdg:Z1d Unit:=NdL 24 24 [.I 1,.R 5 y21 .O,.R 9 y21 .S,.I 10,.I 11] [] (λb f=>(b.2.1,b.2.2.2.2.1)) (λb v=>(b.1,v.1,b.2.2.1,b.2.2.2.1,v.2,())) (λf v=>()) (λb f=>j8E b.1 b.2.2.1 b.2.2.2.1) λb f g=>((λd=>g (.exit 0) [(5,v1 y21 d .O)] []))
theorem jiN:CN 0 58 Tryz.f277 jdg:=lK Zas [] oN ([],[]) [(0,[5],[])] ([],[]) λ_ _ _ _ _=>by kernel_rfl
def j6t (l:List Int) (f:Int) (d:(List Int)->Res):Res:=jej f l (nI (List.length l)) Z1c [] 0 λb=>d b
def jb6:Sig Unit:=sg [.borrow y21 false,.borrow tI false] [false] [(y21,none),(tI,none)] [] λb f k=>j6t b.1 b.2.1 (λd=>k [w1 y21 d .O] [] [])
theorem jkE:SO 277 jb6:=fK (np:=0) Zas [jdg] (oI 58 0 @jiN oN) false Tryz.func277 λ_ _ _ _=>by kernel_rfl
theorem jdi:FS [(168,j8h),(277,jb6)]:=(Za6 jfc (Za6 jkE Zas))
def j9B (b:List Int) (r:Int×Int×qS) (d:(List Int)->Res):Res:=bif (r.1==1) then j4y b r.2.1 λf=>bif !f then bif lim ((List.length b)+1) then d (b++[r.2.1]) else none else d b else d b
def j8k:Z1d Unit:=Nd 42 42 [.R 3 y21 .O,.t 5 (pB 5),.R 7 y20 .S,.I 8,.I 9] [(5,y19,[.S,.S,.S,.S])] λd f g=>j9B d.1 f.1.2 (λb=>g .normal [(3,v1 y21 b .O),(5,pB 5),(7,v1 y20 d.2.1 .S),(8,vI d.2.2.1),(9,vI d.2.2.2.1)] [(5,⟨y19,f.1.1,f.1.2,[.S,.S,.S,.S]⟩)])
theorem jkW:CN 0 7474 Tryz.f220 j8k:=nK jdi [] oN ([3,5,7,8,9],[5]) [] ([],[]) λ_ _ _=>by kernel_rfl
def j33 (f:List qP) (j:Int) (g:List Int) (d:Int) (rec:(List Int)->Int->Res) (h:(List Int)->Res):Res:=bif decide (d<j) then bif inb d (List.length f) then j9B g (nth (0,0,0,eS,[],[],0,eS,[],[],eS,eS) f d) λb=>bif ((nth (0,0,0,eS,[],[],0,eS,[],[],eS,eS) f d).1==3) then j6t b (nth (0,0,0,eS,[],[],0,eS,[],[],eS,eS) f d).2.1 λr=>rec r (Z9K (d+1)) else bif ((nth (0,0,0,eS,[],[],0,eS,[],[],eS,eS) f d).1==4) then j6t b (nth (0,0,0,eS,[],[],0,eS,[],[],eS,eS) f d).2.1 λi=>rec i (Z9K (d+1)) else rec b (Z9K (d+1)) else none else h g
def j7x (d:List qP) (f:Int):((List Int)×Int)->((List Int)×Int->Res)->(((List Int)->Res))->Res:=λv rec q=>j33 d f v.1 v.2 (λb g=>rec (b,g)) q
def jgx (f:List qP) (g:Int) (n:Nat) (b:List Int) (h:Int) (d:(List Int)->Res):Res:=Z1f (j7x f g) n (b,h) (d)
def jfz:Z1d Unit:=NdL 42 42 [.R 3 y21 .O,.R 7 y20 .S,.I 8,.I 9] [] (λb f=>(b.1,b.2.2.2.1)) (λb v=>(v.1,b.2.1,b.2.2.1,v.2,())) (λf v=>()) (λb f=>j7x b.2.1 b.2.2.1) λb f g=>((λd=>g (.exit 0) [(3,v1 y21 d .O)] []))
theorem jkV:CN 0 58 Tryz.f220 jfz:=lK jdi [j8k] (oI 114 0 @jkW oN) ([],[]) [(0,[3],[])] ([],[]) λ_ _ _ _ _=>by delta j7x j33 j8k jb6;refine gz j9B λ_ b=>gz j6t λ_ d=> ?_;rewrite [<-b,<-d];kernel_rfl
def j91 (l:List qP) (d:(List Int)->Res):Res:=jgx l (nI (List.length l)) Z1c [] 0 λb=>d b
def jdx:Sig Unit:=sg [.borrow y20 false] [false] [(y20,none)] [] λd f k=>j91 d.1 (λb=>k [w1 y21 b .O] [] [])
theorem jmu:SO 220 jdx:=fK (np:=0) jdi [j8k,jfz] (oI 58 1 @jkV oN) false Tryz.func220 λ_ _ _ _=>by kernel_rfl
def j9I (s:qS) (b:qS->Res):Res:=bif lim (0+(List.length s.2.2.1)) then j0t s.2.2.2.1 λr=>bif lim (0+(List.length s.2.2.2.2.2.2.1)) then bif lim (0+(List.length s.2.2.2.2.2.2.2.1)) then b (s.1,s.2.1,s.2.2.1,r,s.2.2.2.2.1,s.2.2.2.2.2.1,s.2.2.2.2.2.2.1,s.2.2.2.2.2.2.2.1,s.2.2.2.2.2.2.2.2) else none else none else none
def jjM:Sig Unit:=sg [.borrow y17 true] [true] [(y17,none)] [] λd f k=>j9I d.1 (λb=>k [⟨y17,true,b,[.O,.O,.O,.O]⟩] [] [])
theorem jdX:SO 158 jjM:=fK (np:=0) (Za6 j3U Zas) [] oN false Tryz.func158 λ_ _ _ _=>by kernel_rfl
def j2F (h:Int) (f:List qP) (g:Int) (d:List qS) (b:Int) (rec:qU->Int->Res) (i:qU->Res):Res:=bif decide (b<g) then bif inb b (List.length f) then bif ((nth (0,0,0,eS,[],[],0,eS,[],[],eS,eS) f b).1==2) then bif ((nth (0,0,0,eS,[],[],0,eS,[],[],eS,eS) f b).2.1==h) then j9I (nth (0,0,0,eS,[],[],0,eS,[],[],eS,eS) f b).2.2 λr=>bif lim ((List.length d)+1) then rec (d++[r]) (Z9K (b+1)) else none else rec d (Z9K (b+1)) else rec d (Z9K (b+1)) else none else i d
def j7N (g:Int) (h:List qP) (d:Int):(qU×Int)->(qU×Int->Res)->((qU->Res))->Res:=λv rec q=>j2F g h d v.1 v.2 (λb f=>rec (b,f)) q
def jcX (g:Int) (i:List qP) (d:Int) (n:Nat) (b:List qS) (f:Int) (h:qU->Res):Res:=Z1f (j7N g i d) n (b,f) (h)
def jcs:Z1d Unit:=NdL 32 32 [.I 1,.R 5 y27 .O,.R 9 y20 .S,.I 10,.I 11] [] (λb f=>(b.2.1,b.2.2.2.2.1)) (λb v=>(b.1,v.1,b.2.2.1,b.2.2.2.1,v.2,())) (λf v=>()) (λb f=>j7N b.1 b.2.2.1 b.2.2.2.1) λb f g=>((λd=>g (.exit 0) [(5,v1 y27 d .O)] []))
theorem jhL:CN 0 58 Tryz.f221 jcs:=lK (Za6 jdX Zas) [] oN ([],[]) [(0,[5],[])] ([],[]) λ_ _ _ _ _=>by kernel_rfl
def j5w (l:List qP) (d:Int) (f:qU->Res):Res:=jcX d l (nI (List.length l)) Z1c [] 0 λb=>f b
def jap:Sig Unit:=sg [.borrow y20 false,.borrow tI false] [false] [(y20,none),(tI,none)] [] λb f k=>j5w b.1 b.2.1 (λd=>k [w1 y27 d .O] [] [])
theorem jjb:SO 221 jap:=fK (np:=0) (Za6 jdX Zas) [jcs] (oI 58 0 @jhL oN) false Tryz.func221 λ_ _ _ _=>by kernel_rfl
theorem j7j:FS [(133,jao),(168,j8h),(218,jci),(219,jdy),(220,jdx),(221,jap)]:=(Za6 jj9 (Za6 jfc (Za6 jlo (Za6 jmv (Za6 jmu (Za6 jjb Zas))))))
def j2h (l:List qP) (i:Int) (r:Int×Int×qS) (b:Bool->Res):Res:=j7y r λd=>bif !d then b true else bif (r.1==1) then bif Z8e 0 i (List.length l) then jaO (sub l 0 i) r.2.1 λf=>bif f then b true else bif (r.1 != 1) then bif Z8e 0 i (List.length l) then j91 (sub l 0 i) λg=>j4y g r.2.1 λh=>b (!h) else none else b false else none else bif (r.1 != 1) then bif Z8e 0 i (List.length l) then j91 (sub l 0 i) λj=>j4y j r.2.1 λk=>b (!k) else none else b false
def j3M:Z1d Unit:=Nd 74 74 [.R 0 y20 .S,.t 2 (pB 2),.t 4 (pB 4),.I 5,.t 6 (pB 6),.R 11 y20 .S,.I 12,.I 13] [(2,y33,[.O,.O]),(4,y33,[.N,.N]),(6,y19,[.S,.S,.S,.S])] λb d g=>j2h b.1 b.2.1 d.2.2.1.2 (λf=>g .normal [(0,v1 y20 b.1 .S),(2,pB 2),(4,pB 4),(5,vI b.2.1),(6,pB 6),(11,v1 y20 b.2.2.1 .S),(12,vI b.2.2.2.1),(13,vI b.2.2.2.2.1),(48,vB f)] [(2,⟨y33,d.1.1,d.1.2,[.O,.O]⟩),(4,⟨y33,d.2.1.1,d.2.1.2,[.N,.N]⟩),(6,⟨y19,d.2.2.1.1,d.2.2.1.2,[.S,.S,.S,.S]⟩)])
theorem jhV:CN 0 14948 Tryz.f169 j3M:=nK j7j [] oN ([0,2,4,5,6,11,12,13,48],[2,4,6]) [] ([],[]) λ_ _ _=>by delta j2h jci jdy jdx j8h;refine gz j7y λ_ b=>gz jaO λ_ d=>gz j91 λ_ f=>gz j4y λ_ g=> ?_;rewrite [<-b,<-d,<-f,<-g];kernel_rfl
def j2i (l:List qP) (i:Int) (d:qF×List qR) (r:Int×Int×qS) (b:Int->qD->Res):Res:=bif Z8e 0 i (List.length l) then Z87 (j5w (sub l 0 i) r.2.1 λn=>Z87 (j26 d n λg h w=>Z87 (Z87 (b h g) (Z87 (b h g) (b h g))) (Z87 (Z87 (b h g) (Z87 (b h g) (b h g))) (Z87 (Z87 (b h g) (b h g)) (Z87 (Z87 (b h g) (b h g)) (b h g))))) (j26 d n λj k y=>Z87 (Z87 (b k j) (b k j)) (Z87 (Z87 (b k j) (b k j)) (b k j)))) (j5w (sub l 0 i) r.2.1 λq=>j26 d q λm f p=>Z87 (Z87 (b f m) (b f m)) (Z87 (Z87 (b f m) (b f m)) (b f m))) else none
def j65:Z1d Unit:=Nd 74 74 [.R 0 y20 .S,.t 2 (pB 2),.t 4 (pB 4),.I 5,.t 6 (pB 6),.R 11 y20 .S,.I 12,.I 13] [(2,y33,[.O,.O]),(4,y33,[.N,.N]),(6,y19,[.S,.S,.S,.S])] λb d f=>j2i b.1 b.2.1 d.2.1.2 d.2.2.1.2 (λcode next=>f .normal [(0,v1 y20 b.1 .S),(2,pB 2),(4,pB 4),(7,pB 7),(8,vI code),(11,v1 y20 b.2.2.1 .S),(12,vI b.2.2.2.1),(13,vI b.2.2.2.2.1)] [(2,⟨y33,d.1.1,d.1.2,[.O,.O]⟩),(4,⟨y33,d.2.1.1,d.2.1.2,[.N,.N]⟩),(7,⟨y33,false,next,[.N,.N]⟩)])
theorem jhW:CN 0 59804 Tryz.f169 j65:=nK j7j [j3M] oN ([0,2,4,7,8,11,12,13],[2,4,7]) [] ([],[]) λ_ _ _=>by delta j2i jap jao;refine gz j5w λ_ b=>gz j26 λ_ d=> ?_;rewrite [<-b,<-d];kernel_rfl
def j1B (l:List qP) (f:List qP) (g:Int) (b:Int) (d:qF×List qR) (rec:Int->qD->Res) (i:qD->Res) (h:Unit->Res):Res:=bif decide (b<g) then bif inb b (List.length f) then j2h l b (nth (0,0,0,eS,[],[],0,eS,[],[],eS,eS) f b) λt=>bif t then h () else bif ((nth (0,0,0,eS,[],[],0,eS,[],[],eS,eS) f b).1==3) then j2i l b d (nth (0,0,0,eS,[],[],0,eS,[],[],eS,eS) f b) λcode next=>bif (code != 0) then h () else rec (Z9K (b+1)) next else rec (Z9K (b+1)) d else none else i d
def j4Q (l:List qP) (b:List qP) (f:Int):(Int×qD)->(Int×qD->Res)->((qD->Res)×(Unit->Res))->Res:=λv rec q=>j1B l b f v.1 v.2 (λg d=>rec (g,d)) q.1 q.2
def j9H (l:List qP) (b:List qP) (f:Int) (n:Nat) (g:Int) (d:qF×List qR) (h:qD->Res) (i:Unit->Res):Res:=Z1f (j4Q l b f) n (g,d) (h,i)
def jcn:Z1d Unit:=λσ k=>rdN σ 74<|rd1 σ 0 y20 .S λl=>rdT σ 2 (pB 2)<|rdT σ 4 (pB 4)<|rd1 σ 11 y20 .S λb=>rdI σ 12 λf=>rdI σ 13 λg=>rdB σ 2 y33 [.O,.O] λa j=>rdB σ 4 y33 [.N,.N] λh d=>j9H l b f Z1c g d (λi=>k (.exit 0) (mkS 74 74 [(0,v1 y20 l .S),(2,pB 2),(4,pB 4)] [(2,⟨y33,a,j,[.O,.O]⟩),(4,⟨y33,h,i,[.N,.N]⟩)])) (λ_=>k .ret (mkS 74 74 [(2,pB 2),(3,vB false)] [(2,⟨y33,a,([],[]),[.O,.O]⟩)]))
def jcw:Z1d Unit:=λσ k=>jcn (σ.wk [] [(4,[.N,.N])]) k
theorem jhU:CN 0 58 Tryz.f169 jcw:=λq=>ZaJ [] [(4,[.N,.N])] (jle follows j2j j7j q [j3M,j65] (oI 228 0 @jhV (oI 924 1 @jhW oN)) [0,2,4,11,12,13] [2,4] ([],[]) [(0,[0,2,4],[2,4])] ([2,3],[2]) (y:=jcn) λσ k _ h=>rN h λG h=>rV h λl D h=>rT h λE h=>rT h λF h=>rV h λb g h=>rV h λf i h=>rV h λr j h=>rB h λa z n h=>rB h λw d p h=>⟨_,ZaM (m:=74) G (sC D (sC E (sC F (sC g (sC i (sC j sN)))))) (bC n (bC p bN)),.trans (Z9u (λv:Int×qD=>(mkS 74 74 [(0,v1 y20 l .S),(2,pB 2),(4,pB 4),(11,v1 y20 b .S),(12,vI f),(13,vI v.1)] [(2,⟨y33,a,z,[.O,.O]⟩),(4,⟨y33,w,v.2,[.N,.N]⟩)])) (j4Q l b f) (λ(k:Z83 Unit)=>(((λA=>k (.exit 0) (mkS 74 74 [(0,v1 y20 l .S),(2,pB 2),(4,pB 4)] [(2,⟨y33,a,z,[.O,.O]⟩),(4,⟨y33,w,A,[.N,.N]⟩)])),(λ_=>k .ret (mkS 74 74 [(2,pB 2),(3,vB false)] [(2,⟨y33,a,([],[]),[.O,.O]⟩)]))):(qD->Res)×(Unit->Res))) (λv rec k=>by delta j4Q j1B j3M j65;refine gz j2h λ_ B=>gz j2i λ_ C=> ?_;rewrite [<-B,<-C];kernel_rfl) Z1c (r,d) k) h⟩)
def j9G (l:List qP) (b:qD->Bool->Res):Res:=j9H l l (nI (List.length l)) Z1c 0 ([],[]) (λd=>b d (decide ((nI (List.length l))<=400))) (λ_=>b ([],[]) false)
def jjL:Sig Unit:=sg [.borrow y20 false] [true,false] [(y20,none)] [] λf g k=>j9G f.1 (λb d=>k [⟨y33,true,b,[.S,.S]⟩,wB d] [] [])
theorem jje:SO 169 jjL:=fK (np:=0) j7j [j3M,j65,jcw] (oI 58 2 @jhU oN) true Tryz.func169 λ_ _ _ _=>by kernel_rfl
def j5V (l:List qP) (b:Bool->Res):Res:=bif decide ((nI (List.length l))>400) then b false else j9G l λr d=>b d
def jch:Sig Unit:=sg [.look y20 false] [false] [(y20,none)] [] λd f k=>j5V d.1 (λb=>k [wB b] [] [])
theorem jbP:SO 103 jch:=fK (np:=0) (Za6 jje Zas) [] oN false Tryz.func103 λ_ _ _ _=>by kernel_rfl
def j69 (s:qS) (b:Bool->Res):Res:=bif (s.1==0) then bif sEq s.2.1 eS then bif ((nI (List.length s.2.2.1))==0) then bif ((nI (List.length s.2.2.2.1))==0) then j0d s.2.2.2.2 (0,eS,[],[],eS,eS) λr=>b r else b false else b false else b false else b false
def jcV:Sig Unit:=sg [.look y17 true] [false] [(y17,none)] [] λd f k=>j69 d.1 (λb=>k [wB b] [] [])
theorem ji4:SO 278 jcV:=fK (np:=0) (Za6 j94 Zas) [] oN false Tryz.func278 λ_ _ _ _=>by kernel_rfl
def j7n (r:Int×Int×qS) (b:Bool->Res):Res:=j0f r.1 1 4 λd=>bif !d then b false else j0f r.2.1 1 1000000 λf=>bif !f then b false else bif (r.1==2) then j2U r.2.2 λg=>b g else j69 r.2.2 λh=>b h
def jcb:Sig Unit:=sg [.look y19 true] [false] [(y19,none)] [] λd f k=>j7n d.1 (λb=>k [wB b] [] [])
theorem jlg:SO 222 jcb:=fK (np:=0) (Za6 jf3 (Za6 j2l (Za6 ji4 Zas))) [] oN false Tryz.func222 λ_ _ _ _=>by delta j7n j1D j8f jcV;refine gz j0f λ_ b=>gz j2U λ_ d=>gz j69 λ_ f=> ?_;rewrite [<-b,<-d,<-f];kernel_rfl
def j2v (h:Int) (f:List qP) (g:Int) (d:List qS) (b:Int) (rec:qU->Int->Res) (i:qU->Res):Res:=bif decide (b<g) then bif inb b (List.length f) then bif ((nth (0,0,0,eS,[],[],0,eS,[],[],eS,eS) f b).1==2) then bif ((nth (0,0,0,eS,[],[],0,eS,[],[],eS,eS) f b).2.1==h) then j68 (nth (0,0,0,eS,[],[],0,eS,[],[],eS,eS) f b).2.2 λr=>bif lim ((List.length d)+1) then rec (d++[r]) (Z9K (b+1)) else none else rec d (Z9K (b+1)) else rec d (Z9K (b+1)) else none else i d
def j7G (g:Int) (h:List qP) (d:Int):(qU×Int)->(qU×Int->Res)->((qU->Res))->Res:=λv rec q=>j2v g h d v.1 v.2 (λb f=>rec (b,f)) q
def jcN (g:Int) (i:List qP) (d:Int) (n:Nat) (b:List qS) (f:Int) (h:qU->Res):Res:=Z1f (j7G g i d) n (b,f) (h)
def jcp:Z1d Unit:=NdL 32 32 [.I 1,.R 5 y27 .O,.R 9 y20 .S,.I 10,.I 11] [] (λb f=>(b.2.1,b.2.2.2.2.1)) (λb v=>(b.1,v.1,b.2.2.1,b.2.2.2.1,v.2,())) (λf v=>()) (λb f=>j7G b.1 b.2.2.1 b.2.2.2.1) λb f g=>((λd=>g (.exit 0) [(5,v1 y27 d .O)] []))
theorem jhv:CN 0 58 Tryz.f224 jcp:=lK (Za6 jcD Zas) [] oN ([],[]) [(0,[5],[])] ([],[]) λ_ _ _ _ _=>by kernel_rfl
def j51 (l:List qP) (d:Int) (f:qU->Res):Res:=jcN d l (nI (List.length l)) Z1c [] 0 λb=>f b
def jal:Sig Unit:=sg [.borrow y20 false,.borrow tI false] [false] [(y20,none),(tI,none)] [] λb f k=>j51 b.1 b.2.1 (λd=>k [w1 y27 d .O] [] [])
theorem jj4:SO 224 jal:=fK (np:=0) (Za6 jcD Zas) [jcp] (oI 58 0 @jhv oN) false Tryz.func224 λ_ _ _ _=>by kernel_rfl
def jdq (place:Int) (b:qF×List qR) (d:Unit->Res):Res:=d ()
def jb0:Sig Unit:=sg [.look tI false,.look y33 true] [] [(tI,none),(y33,none)] [] λb d k=>jdq b.1 b.2.1 (λ_=>k [] [] [])
theorem jkk:SO 171 jb0:=fK (np:=0) Zas [] oN false Tryz.func171 λ_ _ _ _=>by kernel_rfl
def jeD (x:Int) (d:Int×Int×qS) (b:Bool->Res):Res:=b (x==d.2.1)
def jm0:Sig Unit:=sg [.look tI false,.rptr y19] [false] [(tI,none),(y19,none)] [] λb f k=>jeD b.1 b.2.1 (λd=>k [wB d] [] [])
theorem jlh:SO 226 jm0:=fK (np:=0) Zas [] oN false Tryz.func226 λ_ _ _ _=>by kernel_rfl
def j1d (s:List Int) (b:Int×Int×qS) (d:(List Int)->qP->Res):Res:=bif lim (List.length s) then dgE (λe k=>jeD e b k) s [] (λr=>d r b) else none
def j3S:Sig Unit:=⟨[.eat y21 false,.clos 226 [y19]],[false],λvals ext k=>ao vals y21 [.O] λs vals=>nl vals<|ab ext y19 [.S,.S,.S,.S] λa0 f ext=>nl ext<|j1d s f (λd b=>k [w1 y21 d .O] [] [⟨y19,a0,b,[.S,.S,.S,.S]⟩])⟩
theorem jcy:Z17 Tryz.prog 225 j3S:=gS (jpN (U:=0) (T:=220) (e:=tI) (ag:=false) (τ:=y19) (tg:=[.S,.S,.S,.S]) (fl:=[]) (S:=56) (E:=3) (I:=3) (B:=4) follows j2j (by kernel_rfl) Tryz.underlying56 (by kernel_rfl) (by kernel_rfl) (by kernel_rfl) (by kernel_rfl) Tryz.isAgg220 Tryz.sizeOf220 (by kernel_rfl) (by kernel_rfl) (by kernel_rfl) Tryz.func280 (by kernel_rfl) (by kernel_rfl) (by kernel_rfl) (by kernel_rfl) jlh (by kernel_rfl) Tryz.func225 (by kernel_rfl) (by kernel_rfl) (by kernel_rfl) (by kernel_rfl)) (by kernel_rfl)
theorem j7V:FS [(138,jaj),(171,jb0),(222,jcb),(223,j5h),(224,jal),(225,j3S)]:=(Za6 jj2 (Za6 jkk (Za6 jlg (Za6 jdL (Za6 jj4 (Za6 jcy Zas))))))
def j55 (l:List qP) (i:Int) (d:qF×List qR) (r:Int×Int×qS) (b:Int->qD->Res):Res:=bif Z8e 0 i (List.length l) then Z87 (j51 (sub l 0 i) r.2.1 λn=>Z87 (j20 d n λg h w=>Z87 (Z87 (b h g) (Z87 (b h g) (b h g))) (Z87 (Z87 (b h g) (Z87 (b h g) (b h g))) (Z87 (Z87 (b h g) (b h g)) (Z87 (Z87 (b h g) (b h g)) (b h g))))) (j20 d n λj k y=>Z87 (Z87 (b k j) (b k j)) (Z87 (Z87 (b k j) (b k j)) (b k j)))) (j51 (sub l 0 i) r.2.1 λq=>j20 d q λm f p=>Z87 (Z87 (b f m) (b f m)) (Z87 (Z87 (b f m) (b f m)) (b f m))) else none
def j3Y:Z1d Unit:=Nd 84 84 [.R 1 y20 .S,.t 2 (.clos 171 []),.t 3 (pB 3),.t 6 (pB 6),.R 8 y21 .O,.R 9 y21 .O,.I 10,.t 11 (pB 11),.R 17 y20 .S,.I 18,.I 19] [(3,y33,[.S,.S]),(6,y33,[.O,.O]),(11,y19,[.S,.S,.S,.S])] λb d f=>j55 b.1 b.2.2.2.1 d.1.2 d.2.2.1.2 (λcode next=>f .normal [(1,v1 y20 b.1 .S),(2,.clos 171 []),(3,pB 3),(6,pB 6),(8,v1 y21 b.2.1 .O),(9,v1 y21 b.2.2.1 .O),(10,vI b.2.2.2.1),(11,pB 11),(12,pB 12),(13,vI code),(17,v1 y20 b.2.2.2.2.1 .S),(18,vI b.2.2.2.2.2.1),(19,vI b.2.2.2.2.2.2.1)] [(3,⟨y33,d.1.1,d.1.2,[.S,.S]⟩),(6,⟨y33,d.2.1.1,d.2.1.2,[.O,.O]⟩),(11,⟨y19,d.2.2.1.1,d.2.2.1.2,[.S,.S,.S,.S]⟩),(12,⟨y33,false,next,[.O,.O]⟩)])
theorem jkQ:CN 0 478452 Tryz.f170 j3Y:=nK j7V [] oN ([1,2,3,6,8,9,10,11,12,13,17,18,19],[3,6,11,12]) [] ([],[]) λ_ _ _=>by delta j55 jal jaj;refine gz j51 λ_ b=>gz j20 λ_ d=> ?_;rewrite [<-b,<-d];kernel_rfl
def j6Z (l:List qP) (i:Int) (b:Bool) (d:qF×List qR) (r:Int×Int×qS) (f:qD->Res) (g:Unit->Res):Res:=bif b then j55 l i d r λcode next=>bif (code != 0) then g () else jdq (Z9K (i+1)) d λ_=>f next else f d
def j6f:Z1d Unit:=λσ k=>rdN σ 84<|rd1 σ 1 y20 .S λl=>rdT σ 2 (.clos 171 [])<|rdT σ 3 (pB 3)<|rdT σ 6 (pB 6)<|rd1 σ 8 y21 .O λb=>rd1 σ 9 y21 .O λf=>rdI σ 10 λi=>rdT σ 11 (pB 11)<|rd1 σ 17 y20 .S λg=>rdI σ 18 λh=>rdI σ 19 λj=>rdO σ 54 λm=>rdB σ 3 y33 [.S,.S] λa d=>rdB σ 6 y33 [.O,.O] λn w=>rdB σ 11 y19 [.S,.S,.S,.S] λp r=>j6Z l i m d r (λq=>k .normal (mkS 84 84 [(1,v1 y20 l .S),(2,.clos 171 []),(3,pB 3),(6,pB 6),(8,v1 y21 b .O),(9,v1 y21 f .O),(11,pB 11),(17,v1 y20 g .S),(18,vI h),(19,vI j)] [(3,⟨y33,a,q,[.S,.S]⟩),(6,⟨y33,n,w,[.O,.O]⟩),(11,⟨y19,p,r,[.S,.S,.S,.S]⟩)])) (λ_=>k .ret (mkS 84 84 [(6,pB 6),(7,vB false)] [(6,⟨y33,n,([],[]),[.O,.O]⟩)]))
theorem jkR:CN 0 119613 Tryz.f170 j6f:=λz=>jo4 follows j2j j7V z [j3Y] (oI 4 0 @jkQ oN) ([1,2,3,6,8,9,11,17,18,19],[3,6,11]) [] ([6,7],[6]) [(0,[],[(3,[.S,.S])])] λσ k _ h=>rN h λK h=>rV h λl E h=>rT h λF h=>rT h λG h=>rT h λH h=>rV h λA I h=>rV h λB J h=>rV h λi f h=>rT h λg h=>rV h λL j h=>rV h λM n h=>rV h λP p h=>rV h λQ q h=>rB h λa d w h=>rB h λR U y h=>rB h λT r b h=>⟨_,ZaM (m:=84) K (sC E (sC F (sC G (sC H (sC I (sC J (sC f (sC g (sC j (sC n (sC p (sC q sN)))))))))))) (bC w (bC y (bC b bN))),.trans (by delta j6Z j3Y jb0;refine gz j55 λ_ C=>gz jdq λ_ D=> ?_;rewrite [<-C,<-D];kernel_rfl) h⟩
def j30 (l:List qP) (g:List qP) (j:Int) (f:List Int) (h:List Int) (b:Int) (d:qF×List qR) (rec:(List Int)->(List Int)->Int->qD->Res) (m:qD->Res) (i:Unit->Res):Res:=bif decide (b<j) then bif inb b (List.length g) then j7n (nth (0,0,0,eS,[],[],0,eS,[],[],eS,eS) g b) λr=>bif !r then i () else bif ((nth (0,0,0,eS,[],[],0,eS,[],[],eS,eS) g b).1==1) then j0W h (nth (0,0,0,eS,[],[],0,eS,[],[],eS,eS) g b).2.1 λn=>bif n then i () else bif lim ((List.length h)+1) then bif lim ((List.length f)+1) then rec (f++[(nth (0,0,0,eS,[],[],0,eS,[],[],eS,eS) g b).2.1]) (h++[(nth (0,0,0,eS,[],[],0,eS,[],[],eS,eS) g b).2.1]) (Z9K (b+1)) d else none else none else j0W f (nth (0,0,0,eS,[],[],0,eS,[],[],eS,eS) g b).2.1 λp=>bif !p then i () else j6Z l b ((nth (0,0,0,eS,[],[],0,eS,[],[],eS,eS) g b).1==3) d (nth (0,0,0,eS,[],[],0,eS,[],[],eS,eS) g b) (λk=>bif ((nth (0,0,0,eS,[],[],0,eS,[],[],eS,eS) g b).1 != 2) then j1d f (nth (0,0,0,eS,[],[],0,eS,[],[],eS,eS) g b) λq w=>rec q h (Z9K (b+1)) k else rec f h (Z9K (b+1)) k) (λ_=>i ()) else none else m d
def j7o (l:List qP) (g:List qP) (h:Int):((List Int)×(List Int)×Int×qD)->((List Int)×(List Int)×Int×qD->Res)->((qD->Res)×(Unit->Res))->Res:=λv rec q=>j30 l g h v.1 v.2.1 v.2.2.1 v.2.2.2 (λb f i d=>rec (b,f,i,d)) q.1 q.2
def jg5 (l:List qP) (g:List qP) (h:Int) (n:Nat) (b:List Int) (f:List Int) (i:Int) (d:qF×List qR) (j:qD->Res) (k:Unit->Res):Res:=Z1f (j7o l g h) n (b,f,i,d) (j,k)
def jbf:Z1d Unit:=NdL 84 84 [.R 1 y20 .S,.t 2 (.clos 171 []),.t 3 (pB 3),.t 6 (pB 6),.R 8 y21 .O,.R 9 y21 .O,.R 17 y20 .S,.I 18,.I 19] [(3,y33,[.S,.S]),(6,y33,[.O,.O])] (λb d=>(b.2.1,b.2.2.1,b.2.2.2.2.2.1,d.1.2)) (λb v=>(b.1,v.1,v.2.1,b.2.2.2.1,b.2.2.2.2.1,v.2.2.1,())) (λd v=>((d.1.1,v.2.2.2),(d.2.1.1,d.2.1.2),())) (λb d=>j7o b.1 b.2.2.2.1 b.2.2.2.2.1) λb d f=>((λg=>f (.exit 0) [(3,pB 3),(6,pB 6)] [(3,⟨y33,d.1.1,g,[.S,.S]⟩),(6,⟨y33,d.2.1.1,d.2.1.2,[.O,.O]⟩)]),(λ_=>f .ret [(6,pB 6),(7,vB false)] [(6,⟨y33,d.2.1.1,([],[]),[.O,.O]⟩)]))
theorem jkP:CN 0 58 Tryz.f170 jbf:=lK j7V [j3Y,j6f] (oI 1853 1 @jkR oN) ([],[]) [(0,[3,6],[3,6])] ([6,7],[6]) λ_ _ _ _ _=>by delta j7o j30 jcb j5h j6f j3S;refine gz j7n λ_ b=>gz j0W λ_ d=>gz j6Z λ_ f=>gz j1d λ_ g=> ?_;rewrite [<-b,<-d,<-f,<-g];kernel_rfl
def jbY (l:List qP) (d:qF×List qR) (b:Bool->qD->Res):Res:=jg5 l l (nI (List.length l)) Z1c [] [] 0 d (λf=>b true f) (λ_=>b false ([],[]))
def jfy:Z1d Unit:=λσ k=>rdN σ 84<|rd1 σ 1 y20 .S λl=>rdT σ 2 (.clos 171 [])<|rdT σ 3 (pB 3)<|rdT σ 6 (pB 6)<|rdB σ 3 y33 [.S,.S] λa d=>rdB σ 6 y33 [.O,.O] λf h=>jbY l d (λg b=>k .ret (mkS 84 84 [(6,pB 6),(7,vB g)] [(6,⟨y33,f,b,[.S,.S]⟩)]))
theorem jkS:CN 0 3 Tryz.f170 jfy:=λg=>jo4 follows j2j j7V g [j3Y,j6f,jbf] (oI 26 2 @jkP oN) ([],[]) [] ([6,7],[6]) [(1,[],[(6,[.S,.S])])] λσ k _ h=>rN h λq h=>rV h λl i h=>rT h λj h=>rT h λn h=>rT h λp h=>rB h λa d b h=>rB h λr w f h=>⟨_,ZaM (m:=84) q (sC i (sC j (sC n (sC p sN)))) (bC b (bC f bN)),.trans (by kernel_rfl) h⟩
def jcP (d:qF×List qR) (l:List qP) (b:qD->Bool->Res):Res:=jbY l d λt f=>b f t
def jmH:Sig Unit:=sg [.borrow y33 true,.borrow y20 false,.clos 171 []] [true,false] [(y33,none),(y20,none)] [] λb g k=>jcP b.1 b.2.1 (λd f=>k [⟨y33,true,d,[.S,.S]⟩,wB f] [] [])
theorem jms:SO 170 jmH:=fK (np:=0) j7V [j3Y,j6f,jbf,jfy] (oI 3 3 @jkS oN) false Tryz.func170 λ_ _ _ _=>by kernel_rfl
def j5K (l:List qP) (b:Bool->Res):Res:=bif decide ((nI (List.length l))>400) then b false else jcP ([],[]) l λr d=>b d
def jca:Sig Unit:=sg [.look y20 false] [false] [(y20,none)] [] λd f k=>j5K d.1 (λb=>k [wB b] [] [])
theorem jbF:SO 104 jca:=fK (np:=0) (Za6 jms Zas) [] oN false Tryz.func104 λ_ _ _ _=>by kernel_rfl
end
end Go.PI.G
namespace Go.PI.G
noncomputable section
open Go Go.PI Go.Proofs
open Go.Code (pl pr)
def j2A (f:List qP) (g:Int) (d:List Int) (b:Int) (rec:(List Int)->Int->Res) (h:(List Int)->Res):Res:=bif decide (b<g) then bif inb b (List.length f) then bif ((nth (0,0,0,eS,[],[],0,eS,[],[],eS,eS) f b).1==3) then bif lim ((List.length d)+1) then rec (d++[Z9K (b+1)]) (Z9K (b+1)) else none else rec d (Z9K (b+1)) else none else h d
def j4F (d:List qP) (f:Int):((List Int)×Int)->((List Int)×Int->Res)->(((List Int)->Res))->Res:=λv rec q=>j2A d f v.1 v.2 (λb g=>rec (b,g)) q
def j9A (d:List qP) (f:Int) (n:Nat) (b:List Int) (g:Int) (h:(List Int)->Res):Res:=Z1f (j4F d f) n (b,g) (h)
def j8O:Z1d Unit:=NdL 28 28 [.R 3 y21 .O,.R 11 y20 .S,.I 12,.I 13] [] (λb f=>(b.1,b.2.2.2.1)) (λb v=>(v.1,b.2.1,b.2.2.1,v.2,())) (λf v=>()) (λb f=>j4F b.2.1 b.2.2.1) λb f g=>((λd=>g (.exit 0) [(3,v1 y21 d .O)] []))
theorem jhE:CN 0 122 Tryz.f108 j8O:=lK (Za6 jbP Zas) [] oN ([],[]) [(0,[3],[])] ([],[]) λ_ _ _ _ _=>by kernel_rfl
def j5s (l:List qP) (d:(List Int)->Res):Res:=j5V l λr=>bif !r then d [] else j9A l (nI (List.length l)) Z1c [] 0 λb=>d b
def jeb:Sig Unit:=sg [.borrow y20 false] [false] [(y20,none)] [] λd f k=>j5s d.1 (λb=>k [w1 y21 b .O] [] [])
theorem jdP:SO 108 jeb:=fK (np:=0) (Za6 jbP Zas) [j8O] (oI 122 0 @jhE oN) false Tryz.func108 λ_ _ _ _=>by delta j5s jch j8O j9A;refine gz j5V λ_ b=>gz j4F λ_ d=> ?_;rewrite [<-b,<-d];kernel_rfl
def j2q (f:List qP) (g:Int) (d:List Int) (b:Int) (rec:(List Int)->Int->Res) (h:(List Int)->Res):Res:=bif decide (b<g) then bif inb b (List.length f) then bif ((nth (0,0,0,eS,[],[],0,eS,[],[],eS,eS) f b).1==3) then bif lim ((List.length d)+1) then rec (d++[Z9K (b+1)]) (Z9K (b+1)) else none else rec d (Z9K (b+1)) else none else h d
def j4z (d:List qP) (f:Int):((List Int)×Int)->((List Int)×Int->Res)->(((List Int)->Res))->Res:=λv rec q=>j2q d f v.1 v.2 (λb g=>rec (b,g)) q
def j99 (d:List qP) (f:Int) (n:Nat) (b:List Int) (g:Int) (h:(List Int)->Res):Res:=Z1f (j4z d f) n (b,g) (h)
def j8H:Z1d Unit:=NdL 28 28 [.R 3 y21 .O,.R 11 y20 .S,.I 12,.I 13] [] (λb f=>(b.1,b.2.2.2.1)) (λb v=>(v.1,b.2.1,b.2.2.1,v.2,())) (λf v=>()) (λb f=>j4z b.2.1 b.2.2.1) λb f g=>((λd=>g (.exit 0) [(3,v1 y21 d .O)] []))
theorem jhp:CN 0 122 Tryz.f109 j8H:=lK (Za6 jbF Zas) [] oN ([],[]) [(0,[3],[])] ([],[]) λ_ _ _ _ _=>by kernel_rfl
def j4W (l:List qP) (d:(List Int)->Res):Res:=j5K l λr=>bif !r then d [] else j99 l (nI (List.length l)) Z1c [] 0 λb=>d b
def je8:Sig Unit:=sg [.borrow y20 false] [false] [(y20,none)] [] λd f k=>j4W d.1 (λb=>k [w1 y21 b .O] [] [])
theorem jdG:SO 109 je8:=fK (np:=0) (Za6 jbF Zas) [j8H] (oI 122 0 @jhp oN) false Tryz.func109 λ_ _ _ _=>by delta j4W jca j8H j99;refine gz j5K λ_ b=>gz j4z λ_ d=> ?_;rewrite [<-b,<-d];kernel_rfl
end
end Go.PI.G
