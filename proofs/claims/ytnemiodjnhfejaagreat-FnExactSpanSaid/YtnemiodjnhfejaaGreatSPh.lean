/-
  Program's code interpreted over typed values; printed texts; plain laws. No conditions.
-/
import Derived.Test.YtnemiodjnhfejaaGreatSPd
import Derived.Test.YtnemiodjnhfejaaGreatSPe
import Derived.Test.YtnemiodjnhfejaaGreatSPf
import Derived.Test.YtnemiodjnhfejaaGreatSPg
set_option linter.unusedVariables false
set_option maxRecDepth 100000
namespace Go.PI.G
noncomputable section
open Go Go.PI Go.Proofs
open Go.Code (pl pr)
def j2M (d:List qV) (h:Int) (b:Int) (rec:Int->Res) (f:Unit->Res) (g:Unit->Res):Res:=bif decide (b<h) then bif inb b (List.length d) then j18 (nth (0,0,eS) d b) λr=>bif !r then g () else rec (Z9x (b+1)) else none else f ()
def j7M (b:List qV) (d:Int):Int->(Int->Res)->((Unit->Res)×(Unit->Res))->Res:=λv rec q=>j2M b d v (λf=>rec (f)) q.1 q.2
def jcX (f:List qV) (g:Int) (n:Nat) (h:Int) (b:Unit->Res) (d:Unit->Res):Res:=Z1N (j7M f g) n (h) (b,d)
def jcs:Z1q Unit:=NdL 23 23 [.R 0 y3 .S,.R 5 y3 .S,.I 6,.I 7] [] (λb d=>(b.2.2.2.1)) (λb v=>(b.1,b.2.1,b.2.2.1,v,())) (λd v=>()) (λb d=>j7M b.2.1 b.2.2.1) λb d f=>((λ_=>f (.exit 0) [(0,v1 y3 b.1 .S)] []),(λ_=>f .ret [(2,vB false)] []))
theorem jhG:CN 0 26 Tryz.f208 jcs:=lK (Z9H j6L Za2) [] oN ([],[]) [(0,[0],[])] ([2],[]) λ_ _ _ _ _=>by kernel_rfl
def j29 (l:List qV) (b:Bool->Res):Res:=jcX l (nI (List.length l)) Z1Y 0 (λ_=>bif decide ((nI (List.length l))>=1) then b (decide ((nI (List.length l))<=8)) else b false) (λ_=>b false)
def jal:Sig Unit:=sg [.look y3 false] [false] [(y3,none)] [] λd f k=>j29 d.1 (λb=>k [wB b] [] [])
theorem jiZ:SO 208 jal:=fK (np:=0) (Z9H j6L Za2) [jcs] (oI 26 0 @jhG oN) false Tryz.func208 λ_ _ _ _=>by kernel_rfl
def j19 (d:qG) (b:Bool->Res):Res:=bif (d.1==0) then bif sEq d.2.1 eS then bif ((nI (List.length d.2.2.1))==0) then bif ((nI (List.length d.2.2.2.1))==0) then bif sEq d.2.2.2.2.1 eS then b (sEq d.2.2.2.2.2 eS) else b false else b false else b false else b false else b false
def j9n:Sig Unit:=sg [.look y13 true] [false] [(y13,none)] [] λd f k=>j19 d.1 (λb=>k [wB b] [] [])
theorem jcC:SO 209 j9n:=fK (np:=0) Za2 [] oN false Tryz.func209 λ_ _ _ _=>by kernel_rfl
theorem jeR:FS [(154,j2r),(208,jal),(209,j9n),(210,j3s)]:=(Z9H j88 (Z9H jiZ (Z9H jcC (Z9H jbN Za2))))
def j5u (d:Bool) (f:Bool) (s:qS) (b:Bool->Res):Res:=bif (s.1==1) then bif d then j29 s.2.2.2.1 λr=>bif r then j19 s.2.2.2.2 λg=>b g else b false else b false else bif (s.1==2) then j29 s.2.2.1 λh=>bif h then j29 s.2.2.2.1 λi=>bif i then j19 s.2.2.2.2 λj=>b j else b false else b false else bif (s.1==3) then j29 s.2.2.1 λk=>bif k then bif f then j19 s.2.2.2.2 λl=>b l else b false else b false else bif (s.1==4) then bif d then bif f then j19 s.2.2.2.2 λm=>b m else b false else b false else bif (s.1==5) then bif d then bif f then j1X s.2.2.2.2 λn=>bif n then b (sEq s.2.2.2.2.2.1 s.2.1) else b false else b false else b false else b false
def j9L:Z1q Unit:=Nd 93 93 [.t 1 (pB 1),.B 3,.B 4] [(1,y17,[.S,.S,.S,.S])] λb g d=>j5u b.1 b.2.1 g.1.2 (λf=>d .ret [(2,vB f)] [])
theorem jit:CN 0 31 Tryz.f155 j9L:=nK jeR [] oN ([],[]) [] ([2],[]) λ_ _ _=>by delta j5u jal j9n j3s;refine gz j29 λ_ b=>gz j19 λ_ d=>gz j1X λ_ f=> ?_;rewrite [<-b,<-d,<-f];kernel_rfl
def j2V (s:qS) (b:Bool->Res):Res:=j0y s.2.1 λr=>bif !r then b false else j5u ((nI (List.length s.2.2.1))==0) ((nI (List.length s.2.2.2.1))==0) s λt=>b t
def j66:Sig Unit:=sg [.look y17 true] [false] [(y17,none)] [] λd f k=>j2V d.1 (λb=>k [wB b] [] [])
theorem jf0:SO 155 j66:=fK (np:=0) jeR [j9L] (oI 31 0 @jit oN) false Tryz.func155 λ_ _ _ _=>by delta j2V j2r j9L;refine gz j0y λ_ b=>gz j5u λ_ d=> ?_;rewrite [<-b,<-d];kernel_rfl
theorem jgE:FS [(172,j16),(242,j6W)]:=(Z9H j3S (Z9H jfK Za2))
def j5s (f:List qT) (g:Int) (d:qF×List qR) (b:Int) (rec:Int->Res) (h:Unit->Res) (i:Unit->Res):Res:=bif decide (b<g) then bif inb b (List.length f) then bif inb b (List.length d.2) then j0r (nth (eS,[],[]) f b) (nth [] d.2 b) λr=>bif !r then i () else rec (Z9x (b+1)) else none else none else h ()
def j7s (b:List qT) (f:Int) (d:qF×List qR):Int->(Int->Res)->((Unit->Res)×(Unit->Res))->Res:=λv rec q=>j5s b f d v (λg=>rec (g)) q.1 q.2
def jcj (b:List qT) (f:Int) (d:qF×List qR) (n:Nat) (g:Int) (h:Unit->Res) (i:Unit->Res):Res:=Z1N (j7s b f d) n (g) (h,i)
def jbf:Z1q Unit:=NdL 38 38 [.t 1 (pB 1),.R 21 y25 .S,.I 22,.I 23] [(1,y28,[.S,.S])] (λb d=>(b.2.2.1)) (λb v=>(b.1,b.2.1,v,())) (λd v=>((d.1.1,d.1.2),())) (λb d=>j7s b.1 b.2.1 d.1.2) λb d f=>((λ_=>f (.exit 0) [] []),(λ_=>f .ret [(2,vB false)] []))
theorem jkI:CN 0 58 Tryz.f186 jbf:=lK jgE [] oN ([],[]) [(0,[],[])] ([2],[]) λ_ _ _ _ _=>by kernel_rfl
def j5E (d:qF×List qR) (b:Bool->Res):Res:=j5Q d.1 λr=>bif !r then b false else bif ((nI (List.length d.2)) != (nI (List.length d.1))) then b false else jcj d.1 (nI (List.length d.1)) d Z1Y 0 (λ_=>b true) (λ_=>b false)
def j82:Sig Unit:=sg [.look y28 true] [false] [(y28,none)] [] λd f k=>j5E d.1 (λb=>k [wB b] [] [])
theorem jgG:SO 186 j82:=fK (np:=0) jgE [jbf] (oI 58 0 @jkI oN) false Tryz.func186 λ_ _ _ _=>by delta j5E j6W jbf jcj;refine gz j5Q λ_ b=>gz j7s λ_ d=> ?_;rewrite [<-b,<-d];kernel_rfl
theorem jdD:FS [(243,j5l),(244,j7p)]:=(Z9H jdQ (Z9H jdR Za2))
def j2L (f:List qR) (g:Int) (d:Int) (b:qF×List qR) (rec:Int->qD->Res) (h:qD->Res):Res:=bif decide (d<g) then bif inb d (List.length f) then j5x (nth [] f d) λr=>bif lim ((List.length b.2)+1) then rec (Z9x (d+1)) (b.1,(b.2++[r])) else none else none else h b
def j4N (d:List qR) (f:Int):(Int×qD)->(Int×qD->Res)->((qD->Res))->Res:=λv rec q=>j2L d f v.1 v.2 (λg b=>rec (g,b)) q
def j9w (d:List qR) (f:Int) (n:Nat) (g:Int) (b:qF×List qR) (h:qD->Res):Res:=Z1N (j4N d f) n (g,b) (h)
def j8L:Z1q Unit:=NdL 28 28 [.t 2 (pB 2),.t 3 (pB 3),.R 11 y27 .S,.I 12,.I 13] [(2,y28,[.O,.O]),(3,y28,[.O,.O])] (λd b=>(d.2.2.1,b.2.1.2)) (λd v=>(d.1,d.2.1,v.1,())) (λb v=>((b.1.1,b.1.2),(b.2.1.1,v.2),())) (λd b=>j4N d.1 d.2.1) λd b g=>((λf=>g (.exit 0) [(2,pB 2),(3,pB 3)] [(2,⟨y28,b.1.1,b.1.2,[.O,.O]⟩),(3,⟨y28,b.2.1.1,f,[.O,.O]⟩)]))
theorem jhF:CN 0 58 Tryz.f187 j8L:=lK jdD [] oN ([],[]) [(0,[2,3],[2,3])] ([],[]) λ_ _ _ _ _=>by kernel_rfl
def j1t (d:qF×List qR) (f:qD->Res):Res:=j3y d.1 λr=>j9w d.2 (nI (List.length d.2)) Z1Y 0 (r,[]) λb=>f b
def j5m:Sig Unit:=sg [.borrow y28 true] [true] [(y28,none)] [] λd f k=>j1t d.1 (λb=>k [⟨y28,true,b,[.O,.O]⟩] [] [])
theorem jdT:SO 187 j5m:=fK (np:=0) jdD [j8L] (oI 58 0 @jhF oN) false Tryz.func187 λ_ _ _ _=>by delta j1t j5l j8L j9w;refine gz j3y λ_ b=>gz j4N λ_ d=> ?_;rewrite [<-b,<-d];kernel_rfl
def j15 (t:qB×qE×qL) (l:List qW) (s:qS) (b:qR->Int->Res):Res:=bif (s.1==1) then j6k t l s.2.2.2.1 λr d=>b r d else bif (s.1==2) then j6l t l s.2.2.1 s.2.2.2.1 λf g=>b f g else bif (s.1==3) then j6j t l s.2.2.1 λh i=>b h i else bif (s.1==5) then j5t t l s.2.2.2.2 λj k=>b j k else b [] 0
def j5n:Sig Unit:=sg [.borrow y24 true,.borrow y26 false,.borrow y17 true] [false,false] [(y24,none),(y26,none),(y17,none)] [] λb g k=>j15 b.1 b.2.1 b.2.2.1 (λd f=>k [w1 y26 d .O,wI f] [] [])
theorem jdU:SO 246 j5n:=fK (np:=0) (Z9H jko (Z9H jkp (Z9H jkn (Z9H jiX Za2)))) [] oN false Tryz.func246 λ_ _ _ _=>by delta j15 jfg jfh jff je7;refine gz j6k λ_ b=>gz j6l λ_ d=>gz j6j λ_ f=>gz j5t λ_ g=> ?_;rewrite [<-b,<-d,<-f,<-g];kernel_rfl
theorem j5F:FS [(113,j3t),(244,j7p),(246,j5n),(287,j4f)]:=(Z9H jbQ (Z9H jdR (Z9H jdU (Z9H jcB Za2))))
def j2K (b:Int) (s:qS) (t:qB×qE×qL) (d:Bool->Res):Res:=bif decide (b>=0) then d (sEq t.1 s.2.1) else d false
def j2b:Z1q Unit:=Nd 86 86 [.t 2 (pB 2),.t 3 (pB 3),.t 4 (pB 4),.t 8 (pB 8),.t 10 (pB 10),.t 11 (pB 11),.I 12,.R 29 y25 .S,.I 30,.I 31] [(2,y28,[.S,.S]),(3,y17,[.S,.S,.S,.S]),(4,y28,[.O,.O]),(8,y28,[.S,.O]),(10,y24,[.S,.S]),(11,y26,[.O])] λd b g=>j2K d.1 b.2.1.2 b.2.2.2.2.1.2 (λf=>g .normal [(2,pB 2),(3,pB 3),(4,pB 4),(8,pB 8),(11,pB 11),(12,vI d.1),(29,v1 y25 d.2.1 .S),(30,vI d.2.2.1),(31,vI d.2.2.2.1),(49,vB f)] [(2,⟨y28,b.1.1,b.1.2,[.S,.S]⟩),(3,⟨y17,b.2.1.1,b.2.1.2,[.S,.S,.S,.S]⟩),(4,⟨y28,b.2.2.1.1,b.2.2.1.2,[.O,.O]⟩),(8,⟨y28,b.2.2.2.1.1,b.2.2.2.1.2,[.S,.O]⟩),(11,⟨y26,b.2.2.2.2.2.1.1,b.2.2.2.2.2.1.2,[.O]⟩)])
theorem jg6:CN 0 256412 Tryz.f245 j2b:=nK j5F [] oN ([2,3,4,8,11,12,29,30,31,49],[2,3,4,8,11]) [] ([],[]) λ_ _ _=>by kernel_rfl
def j1A (b:Int) (g:Bool) (d:qF×List qR) (s:qS) (x:List qW) (f:qR->Res):Res:=bif g then bif inb b (List.length d.1) then bif inb b (List.length d.2) then j15 (nth (eS,[],[]) d.1 b) (nth [] d.2 b) s λr i=>Z80 (f r) (f r) else none else none else bif decide (b>=0) then bif inb b (List.length d.2) then j5x (nth [] d.2 b) λh=>f h else none else f x
def j4t:Z1q Unit:=Nd 86 86 [.t 2 (pB 2),.t 3 (pB 3),.t 4 (pB 4),.t 8 (pB 8),.t 11 (pB 11),.I 12,.R 29 y25 .S,.I 30,.I 31,.B 49] [(2,y28,[.S,.S]),(3,y17,[.S,.S,.S,.S]),(4,y28,[.O,.O]),(8,y28,[.S,.O]),(11,y26,[.O])] λd b f=>j1A d.1 d.2.2.2.2.1 b.1.2 b.2.1.2 b.2.2.2.2.1.2 (λg=>f .normal [(2,pB 2),(3,pB 3),(4,pB 4),(8,pB 8),(11,pB 11),(29,v1 y25 d.2.1 .S),(30,vI d.2.2.1),(31,vI d.2.2.2.1)] [(2,⟨y28,b.1.1,b.1.2,[.S,.S]⟩),(3,⟨y17,b.2.1.1,b.2.1.2,[.S,.S,.S,.S]⟩),(4,⟨y28,b.2.2.1.1,b.2.2.1.2,[.O,.O]⟩),(8,⟨y28,b.2.2.2.1.1,b.2.2.2.1.2,[.S,.O]⟩),(11,⟨y26,b.2.2.2.2.1.1,g,[.O]⟩)])
theorem jg7:CN 0 256413 Tryz.f245 j4t:=nK j5F [j2b] oN ([2,3,4,8,11,29,30,31],[2,3,4,8,11]) [] ([],[]) λ_ _ _=>by delta j1A j5n j7p;refine gz j15 λ_ b=>gz j5x λ_ d=> ?_;rewrite [<-b,<-d];kernel_rfl
def j0Z (g:List qT) (h:Int) (d:qF×List qR) (s:qS) (b:Int) (f:qF×List qR) (rec:Int->qD->Res) (i:qD->Res):Res:=bif decide (b<h) then bif inb b (List.length g) then j1Z d.1 (nth (eS,[],[]) g b).1 λr=>j2K r s (nth (eS,[],[]) g b) λt=>j1A r t d s [] λx=>bif lim ((List.length f.2)+1) then rec (Z9x (b+1)) (f.1,(f.2++[x])) else none else none else i f
def j1M (f:List qT) (g:Int) (d:qF×List qR) (s:qS):(Int×qD)->(Int×qD->Res)->((qD->Res))->Res:=λv rec q=>j0Z f g d s v.1 v.2 (λh b=>rec (h,b)) q
def j4M (f:List qT) (g:Int) (d:qF×List qR) (s:qS) (n:Nat) (h:Int) (b:qF×List qR) (i:qD->Res):Res:=Z1N (j1M f g d s) n (h,b) (i)
def j7a:Z1q Unit:=NdL 86 86 [.t 2 (pB 2),.t 3 (pB 3),.t 4 (pB 4),.t 8 (pB 8),.R 29 y25 .S,.I 30,.I 31] [(2,y28,[.S,.S]),(3,y17,[.S,.S,.S,.S]),(4,y28,[.O,.O]),(8,y28,[.S,.O])] (λd b=>(d.2.2.1,b.2.2.2.1.2)) (λd v=>(d.1,d.2.1,v.1,())) (λb v=>((b.1.1,b.1.2),(b.2.1.1,b.2.1.2),(b.2.2.1.1,b.2.2.1.2),(b.2.2.2.1.1,v.2),())) (λd b=>j1M d.1 d.2.1 b.1.2 b.2.1.2) λd b g=>((λf=>g (.exit 0) [(4,pB 4),(8,pB 8)] [(4,⟨y28,b.2.2.1.1,b.2.2.1.2,[.O,.O]⟩),(8,⟨y28,b.2.2.2.1.1,f,[.S,.O]⟩)]))
theorem jg5:CN 0 250 Tryz.f245 j7a:=lK j5F [j2b,j4t] (oI 924 0 @jg6 (oI 925 1 @jg7 oN)) ([],[]) [(0,[4,8],[4,8])] ([],[]) λ_ _ _ _ _=>by delta j1M j0Z j3t j2b j4t;refine gz j1Z λ_ b=>gz j2K λ_ d=>gz j1A λ_ f=> ?_;rewrite [<-b,<-d,<-f];kernel_rfl
def j35 (d:qF×List qR) (s:qS) (f:qD->Int->Res):Res:=j1E d.1 s.2.2.2.2 λr g=>bif (g != 0) then f ([],[]) (Z9x (10+g)) else j4M r (nI (List.length r)) d s Z1Y 0 (r,[]) λb=>f b 0
def j8s:Sig Unit:=sg [.borrow y28 true,.borrow y17 true] [true,false] [(y28,none),(y17,none)] [] λb g k=>j35 b.1 b.2.1 (λd f=>k [⟨y28,true,d,[.S,.S]⟩,wI f] [] [])
theorem jh6:SO 245 j8s:=fK (np:=0) j5F [j2b,j4t,j7a] (oI 250 2 @jg5 oN) true Tryz.func245 λ_ _ _ _=>by delta j35 j4f j7a j4M;refine gz j1E λ_ b=>gz j1M λ_ d=> ?_;rewrite [<-b,<-d];kernel_rfl
theorem jgF:FS [(113,j3t),(155,j66),(186,j82),(187,j5m),(245,j8s),(246,j5n)]:=(Z9H jbQ (Z9H jf0 (Z9H jgG (Z9H jdT (Z9H jh6 (Z9H jdU Za2))))))
def j72 (b:Int) (s:qS) (d:Unit->Res) (f:Unit->Res):Res:=bif decide (b<0) then bif (s.1 != 5) then f () else bif (s.2.2.2.2.1 != 1) then f () else d () else d ()
def jbg:Z1q Unit:=Nd 77 77 [.t 2 (pB 2),.t 3 (pB 3),.t 4 (pB 4),.I 6] [(2,y28,[.S,.S]),(3,y17,[.S,.S,.S,.S]),(4,y28,[.O,.O])] λf b d=>j72 f.1 b.2.1.2 (λ_=>d .normal [(2,pB 2),(3,pB 3),(4,pB 4),(6,vI f.1)] [(2,⟨y28,b.1.1,b.1.2,[.S,.S]⟩),(3,⟨y17,b.2.1.1,b.2.1.2,[.S,.S,.S,.S]⟩),(4,⟨y28,b.2.2.1.1,b.2.2.1.2,[.O,.O]⟩)]) (λ_=>d .ret [(4,pB 4),(5,vI 4)] [(4,⟨y28,b.2.2.1.1,([],[]),[.O,.O]⟩)])
theorem jkJ:CN 0 30 Tryz.f188 jbg:=nK jgF [] oN ([2,3,4,6],[2,3,4]) [] ([4,5],[4]) λ_ _ _=>by kernel_rfl
def j71 (d:qF×List qR) (s:qS) (f:qD->Int->Res):Res:=j5E d λr=>bif !r then f ([],[]) 1 else j2V s λi=>bif !i then f ([],[]) 1 else j1Z d.1 s.2.1 λb=>j72 b s (λ_=>bif (s.1==5) then j35 d s λj k=>f j k else bif inb b (List.length d.1) then bif inb b (List.length d.2) then j15 (nth (eS,[],[]) d.1 b) (nth [] d.2 b) s λl h=>bif (h != 0) then f ([],[]) (Z9x (10+h)) else j1t d λg=>bif inb b (List.length g.2) then f (g.1,upd g.2 b l) 0 else none else none else none) (λ_=>f ([],[]) 4)
def jgR:Sig Unit:=sg [.borrow y28 true,.borrow y17 true] [true,false] [(y28,none),(y17,none)] [] λb g k=>j71 b.1 b.2.1 (λd f=>k [⟨y28,true,d,[.S,.S]⟩,wI f] [] [])
theorem jmq:SO 188 jgR:=fK (np:=0) jgF [jbg] (oI 30 0 @jkJ oN) true Tryz.func188 λ_ _ _ _=>by delta j71 j82 j66 j3t jbg j8s j5n j5m;refine gz j5E λ_ b=>gz j2V λ_ d=>gz j1Z λ_ f=>gz j72 λ_ g=>gz j35 λ_ h=>gz j15 λ_ i=>gz j1t λ_ j=> ?_;rewrite [<-b,<-d,<-f,<-g,<-h,<-i,<-j];kernel_rfl
theorem jdC:FS [(186,j82),(187,j5m),(188,jgR)]:=(Z9H jgG (Z9H jdT (Z9H jmq Za2)))
def j2B (d:List qS) (f:Int) (b:Int) (now:qF×List qR) (rec:Int->qD->Res) (h:qD->Res) (i:Int->Int->Res):Res:=bif decide (b<f) then bif inb b (List.length d) then j71 now (nth (0,eS,[],[],0,eS,[],[],eS,eS) d b) λr g=>bif (g != 0) then i g b else rec (Z9x (b+1)) r else none else h now
def j4F (b:List qS) (d:Int):(Int×qD)->(Int×qD->Res)->((qD->Res)×(Int->Int->Res))->Res:=λv rec q=>j2B b d v.1 v.2 (λf now=>rec (f,now)) q.1 q.2
def j6B (b:List qS) (d:Int) (n:Nat) (f:Int) (now:qF×List qR) (g:qD->Res) (h:Int->Int->Res):Res:=Z1N (j4F b d) n (f,now) (g,h)
def j8B:Z1q Unit:=λσ k=>rdN σ 39<|rdT σ 4 (pB 4)<|rdT σ 7 (pB 7)<|rd1 σ 18 y22 .S λd=>rdI σ 19 λf=>rdI σ 20 λg=>rdB σ 4 y28 [.O,.O] λa i=>rdB σ 7 y28 [.S,.S] λh now=>j6B d f Z1Y g now (λb=>k (.exit 0) (mkS 39 39 [(4,pB 4),(7,pB 7)] [(4,⟨y28,a,i,[.O,.O]⟩),(7,⟨y28,h,b,[.S,.S]⟩)])) (λj l=>k .ret (mkS 39 39 [(4,pB 4),(5,vI j),(6,vI l)] [(4,⟨y28,a,([],[]),[.O,.O]⟩)]))
def j8I:Z1q Unit:=λσ k=>j8B (σ.wk [] [(7,[.S,.S])]) k
theorem jht:CN 0 122 Tryz.f133 j8I:=λp=>Zag [] [(7,[.S,.S])] (jl2 follows j2m jdC p [] oN [4,7,18,19,20] [4,7] ([],[]) [(0,[4,7],[4,7])] ([4,5,6],[4]) (y:=j8B) λσ k _ h=>rN h λB h=>rT h λz h=>rT h λA h=>rV h λd g h=>rV h λf i h=>rV h λq j h=>rB h λa w l h=>rB h λr now n h=>⟨_,Zaj (m:=39) B (sC z (sC A (sC g (sC i (sC j sN))))) (bC l (bC n bN)),.trans (Z9j (λv:Int×qD=>(mkS 39 39 [(4,pB 4),(7,pB 7),(18,v1 y22 d .S),(19,vI f),(20,vI v.1)] [(4,⟨y28,a,w,[.O,.O]⟩),(7,⟨y28,r,v.2,[.S,.S]⟩)])) (j4F d f) (λ(k:Z7W Unit)=>(((λb=>k (.exit 0) (mkS 39 39 [(4,pB 4),(7,pB 7)] [(4,⟨y28,a,w,[.O,.O]⟩),(7,⟨y28,r,b,[.S,.S]⟩)])),(λC D=>k .ret (mkS 39 39 [(4,pB 4),(5,vI C),(6,vI D)] [(4,⟨y28,a,([],[]),[.O,.O]⟩)]))):(qD->Res)×(Int->Int->Res))) (λv rec k=>by kernel_rfl) Z1Y (q,now) k) h⟩)
def j28 (d:qF×List qR) (l:List qS) (b:qD->Int->Int->Res):Res:=j5E d λr=>bif !r then b ([],[]) 1 0 else j1t d λf=>j6B l (nI (List.length l)) Z1Y 0 f (λnow=>b now 0 0) (λt g=>b ([],[]) t g)
def jaj:Sig Unit:=sg [.borrow y28 true,.borrow y22 false] [true,false,false] [(y28,none),(y22,none)] [] λb h k=>j28 b.1 b.2.1 (λd f g=>k [⟨y28,true,d,[.S,.S]⟩,wI f,wI g] [] [])
theorem jiW:SO 133 jaj:=fK (np:=0) jdC [j8I] (oI 122 0 @jht oN) true Tryz.func133 λ_ _ _ _=>by delta j28 j82 j5m j8I;delta j8B j6B;refine gz j5E λ_ b=>gz j1t λ_ d=>gz j4F λ_ f=> ?_;rewrite [<-b,<-d,<-f];kernel_rfl
def jaW (d:Int×Int×qB) (b:Bool->Res):Res:=j0U d λr=>b (!r)
def jiE:Sig Unit:=sg [.look y2 true] [false] [(y2,none)] [] λd f k=>jaW d.1 (λb=>k [wB b] [] [])
theorem jcz:SO 272 jiE:=fK (np:=0) (Z9H j6J Za2) [] oN false Tryz.func272 λ_ _ _ _=>by kernel_rfl
def j0L (s:List qV) (g:Int) (b:Int) (rec:Int->Res) (d:Unit->Res) (f:Int->Res):Res:=bif decide (b<g) then bif inb b (List.length s) then jaW (nth (0,0,eS) s b) λr=>bif r then f b else rec (Z9x (b+1)) else none else d ()
def j2T (s:List qV) (b:Int):Int->(Int->Res)->((Unit->Res)×(Int->Res))->Res:=λv rec q=>j0L s b v (λd=>rec (d)) q.1 q.2
def j7y (s:List qV) (f:Int) (n:Nat) (g:Int) (b:Unit->Res) (d:Int->Res):Res:=Z1N (j2T s f) n (g) (b,d)
def j78:Z1q Unit:=NdL 19 19 [.R 0 y3 .S,.c 1 272 [] .unit [],.I 7,.I 8] [] (λb d=>(b.2.2.2.1)) (λb v=>(b.1,b.2.1,b.2.2.1,v,())) (λd v=>()) (λb d=>j2T b.1 b.2.2.1) λb d f=>((λ_=>f (.exit 0) [] []),(λg=>f .ret [(4,vI g)] []))
theorem jc7:CN 0 26 Tryz.f306 j78:=lK (Z9H jcz Za2) [] oN ([],[]) [(0,[],[])] ([4],[]) λ_ _ _ _ _=>by kernel_rfl
def j5O (s:List qV) (f:Unit) (b:Int->Res):Res:=j7y s (nI (List.length s)) Z1Y 0 (λ_=>b (-1)) (λt=>b t)
def jdu:Sig Unit:=sg [.look y3 false,.rclos 272 []] [false] [(y3,none),(.unit,none)] [] λb f k=>j5O b.1 b.2.1 (λd=>k [wI d] [] [])
theorem jdi:SO 306 jdu:=fK (np:=0) (Z9H jcz Za2) [j78] (oI 26 0 @jc7 oN) false Tryz.func306 λ_ _ _ _=>by kernel_rfl
def j1G (s:List qV) (f:Unit) (b:Bool->Res):Res:=j5O s f λr=>b (decide (r>=0))
def j6z:Sig Unit:=sg [.look y3 false,.rclos 272 []] [false] [(y3,none),(.unit,none)] [] λb f k=>j1G b.1 b.2.1 (λd=>k [wB d] [] [])
theorem jbl:SO 271 j6z:=fK (np:=0) (Z9H jdi Za2) [] oN false Tryz.func271 λ_ _ _ _=>by kernel_rfl
def j1n (l:List qV) (b:Bool->Res):Res:=j0a (nI (List.length l)) 1 8 λr=>bif r then j1G l () λd=>b (!d) else b false
def jag:Sig Unit:=sg [.look y3 false] [false] [(y3,none)] [] λd f k=>j1n d.1 (λb=>k [wB b] [] [])
theorem jiS:SO 213 jag:=fK (np:=0) (Z9H j1C (Z9H jbl Za2)) [] oN false Tryz.func213 λ_ _ _ _=>by delta j1n j0Q j6z;refine gz j0a λ_ b=>gz j1G λ_ d=> ?_;rewrite [<-b,<-d];kernel_rfl
theorem jeN:FS [(160,j2p),(211,j3q),(212,j6y),(213,jag)]:=(Z9H j87 (Z9H jbE (Z9H j8X (Z9H jiS Za2))))
def j4Z (s:qS) (b:Bool->Res):Res:=bif (s.1==1) then bif ((nI (List.length s.2.2.1))==0) then j1n s.2.2.2.1 λr=>b r else b false else bif (s.1==2) then j1n s.2.2.1 λd=>bif d then j1n s.2.2.2.1 λf=>b f else b false else bif (s.1==3) then j1n s.2.2.1 λg=>bif g then b ((nI (List.length s.2.2.2.1))==0) else b false else bif (s.1==4) then bif ((nI (List.length s.2.2.1))==0) then b ((nI (List.length s.2.2.2.1))==0) else b false else b false
def j9D:Z1q Unit:=Nd 91 91 [.t 1 (pB 1)] [(1,y17,[.S,.S,.S,.S])] λg f b=>j4Z f.1.2 (λd=>b .ret [(2,vB d)] [])
theorem jie:CN 0 15 Tryz.f161 j9D:=nK jeN [] oN ([],[]) [] ([2],[]) λ_ _ _=>by delta j4Z jag;refine gz j1n λ_ b=> ?_;rewrite [<-b];kernel_rfl
def j2U (s:qS) (b:Bool->Res):Res:=bif (s.1==5) then j1V s.2.2.2.2 λr=>bif r then bif sEq s.2.1 s.2.2.2.2.2.1 then bif ((nI (List.length s.2.2.1))==0) then b ((nI (List.length s.2.2.2.1))==0) else b false else b false else b false else j0p s.2.1 λd=>bif !d then b false else j0e s.2.2.2.2 (0,eS,[],[],eS,eS) λf=>bif !f then b false else j4Z s λt=>b t
def j8b:Sig Unit:=sg [.look y17 true] [false] [(y17,none)] [] λd f k=>j2U d.1 (λb=>k [wB b] [] [])
theorem jeT:SO 161 j8b:=fK (np:=0) jeN [j9D] (oI 15 0 @jie oN) false Tryz.func161 λ_ _ _ _=>by delta j2U j3q j2p j6y j9D;refine gz j1V λ_ b=>gz j0p λ_ d=>gz j0e λ_ f=>gz j4Z λ_ g=> ?_;rewrite [<-b,<-d,<-f,<-g];kernel_rfl
def j63 (s:qS) (b:qS->Res):Res:=j0O s.2.2.1 λr=>j0O s.2.2.2.1 λd=>j93 s.2.2.2.2 λf=>b (s.1,s.2.1,r,d,f)
def jiF:Sig Unit:=sg [.borrow y17 true] [true] [(y17,none)] [] λd f k=>j63 d.1 (λb=>k [⟨y17,true,b,[.O,.O,.O,.O]⟩] [] [])
theorem jcA:SO 216 jiF:=fK (np:=0) (Z9H j6q (Z9H jiU Za2)) [] oN false Tryz.func216 λ_ _ _ _=>by delta j63 j6x je6;refine gz j0O λ_ b=>gz j93 λ_ d=> ?_;rewrite [<-b,<-d];kernel_rfl
theorem jgC:FS [(250,j6U),(251,j1D)]:=(Z9H jfy (Z9H j61 Za2))
def j4W (f:List qT) (g:Int) (d:qF×List qR) (b:Int) (rec:Int->Res) (h:Unit->Res) (i:Unit->Res):Res:=bif decide (b<g) then bif inb b (List.length f) then bif inb b (List.length d.2) then j0E (nth (eS,[],[]) f b) (nth [] d.2 b) λr=>bif !r then i () else rec (Z9x (b+1)) else none else none else h ()
def j7h (b:List qT) (f:Int) (d:qF×List qR):Int->(Int->Res)->((Unit->Res)×(Unit->Res))->Res:=λv rec q=>j4W b f d v (λg=>rec (g)) q.1 q.2
def jbV (b:List qT) (f:Int) (d:qF×List qR) (n:Nat) (g:Int) (h:Unit->Res) (i:Unit->Res):Res:=Z1N (j7h b f d) n (g) (h,i)
def jbb:Z1q Unit:=NdL 38 38 [.t 1 (pB 1),.R 21 y25 .S,.I 22,.I 23] [(1,y28,[.S,.S])] (λb d=>(b.2.2.1)) (λb v=>(b.1,b.2.1,v,())) (λd v=>((d.1.1,d.1.2),())) (λb d=>j7h b.1 b.2.1 d.1.2) λb d f=>((λ_=>f (.exit 0) [] []),(λ_=>f .ret [(2,vB false)] []))
theorem jkz:CN 0 58 Tryz.f195 jbb:=lK jgC [] oN ([],[]) [(0,[],[])] ([2],[]) λ_ _ _ _ _=>by kernel_rfl
def j8O (d:qF×List qR) (b:Bool->Res):Res:=j5H d.1 λr=>bif !r then b false else bif ((nI (List.length d.2)) != (nI (List.length d.1))) then b false else jbV d.1 (nI (List.length d.1)) d Z1Y 0 (λ_=>b true) (λ_=>b false)
def jdq:Sig Unit:=sg [.look y28 true] [false] [(y28,none)] [] λd f k=>j8O d.1 (λb=>k [wB b] [] [])
theorem jml:SO 195 jdq:=fK (np:=0) jgC [jbb] (oI 58 0 @jkz oN) false Tryz.func195 λ_ _ _ _=>by delta j8O j6U jbb jbV;refine gz j5H λ_ b=>gz j7h λ_ d=> ?_;rewrite [<-b,<-d];kernel_rfl
theorem jeO:FS [(231,j5c),(232,j0I)]:=(Z9H jdI (Z9H j3Z Za2))
def j3e (f:List qR) (g:Int) (d:Int) (b:qF×List qR) (rec:Int->qD->Res) (h:qD->Res):Res:=bif decide (d<g) then bif inb d (List.length f) then j0m (nth [] f d) λr=>bif lim ((List.length b.2)+1) then rec (Z9x (d+1)) (b.1,(b.2++[r])) else none else none else h b
def j5J (d:List qR) (f:Int):(Int×qD)->(Int×qD->Res)->((qD->Res))->Res:=λv rec q=>j3e d f v.1 v.2 (λg b=>rec (g,b)) q
def ja5 (d:List qR) (f:Int) (n:Nat) (g:Int) (b:qF×List qR) (h:qD->Res):Res:=Z1N (j5J d f) n (g,b) (h)
def j9F:Z1q Unit:=NdL 28 28 [.t 2 (pB 2),.t 3 (pB 3),.R 11 y27 .S,.I 12,.I 13] [(2,y28,[.O,.O]),(3,y28,[.O,.O])] (λd b=>(d.2.2.1,b.2.1.2)) (λd v=>(d.1,d.2.1,v.1,())) (λb v=>((b.1.1,b.1.2),(b.2.1.1,v.2),())) (λd b=>j5J d.1 d.2.1) λd b g=>((λf=>g (.exit 0) [(2,pB 2),(3,pB 3)] [(2,⟨y28,b.1.1,b.1.2,[.O,.O]⟩),(3,⟨y28,b.2.1.1,f,[.O,.O]⟩)]))
theorem jig:CN 0 58 Tryz.f174 j9F:=lK jeO [] oN ([],[]) [(0,[2,3],[2,3])] ([],[]) λ_ _ _ _ _=>by kernel_rfl
def j11 (d:qF×List qR) (f:qD->Res):Res:=j3d d.1 λr=>ja5 d.2 (nI (List.length d.2)) Z1Y 0 (r,[]) λb=>f b
def j2q:Sig Unit:=sg [.borrow y28 true] [true] [(y28,none)] [] λd f k=>j11 d.1 (λb=>k [⟨y28,true,b,[.O,.O]⟩] [] [])
theorem jaS:SO 174 j2q:=fK (np:=0) jeO [j9F] (oI 58 0 @jig oN) false Tryz.func174 λ_ _ _ _=>by delta j11 j5c j9F ja5;refine gz j3d λ_ b=>gz j5J λ_ d=> ?_;rewrite [<-b,<-d];kernel_rfl
theorem jdB:FS [(174,j2q),(176,j0P),(295,j9h),(296,j5L),(297,j5K),(298,jae)]:=(Z9H jaS (Z9H j86 (Z9H jhS (Z9H jep (Z9H jeo (Z9H jiQ Za2))))))
def j2d (f:Int) (h:Int) (d:qF×List qR) (x:qG) (c:List qT) (b:qF×List qR) (g:qD->Res):Res:=bif (h==1) then Z80 (j0i c x.2.1 λr=>j1i b.2 r [[]] λi=>g (b.1,i)) (Z80 (j0i c x.2.1 λj=>j1i b.2 j [[]] λk=>g (b.1,k)) (j0i c x.2.1 λl=>j1i b.2 l [[]] λm=>g (b.1,m))) else bif (h==2) then j4g b.2 f (Z9x (f+1)) λn=>g (b.1,n) else bif inb f (List.length d.1) then bif inb f (List.length d.2) then j4Y (nth (eS,[],[]) d.1 f) (nth [] d.2 f) x λp q=>bif inb f (List.length b.2) then g (b.1,upd b.2 f p) else none else none else none
def j8F:Z1q Unit:=Nd 79 79 [.t 2 (pB 2),.t 3 (pB 3),.t 4 (pB 4),.t 6 (pB 6),.t 8 (pB 8),.I 9,.I 31] [(2,y28,[.S,.S]),(3,y13,[.S,.S]),(4,y28,[.O,.O]),(6,y25,[.O]),(8,y28,[.O,.O])] λf b g=>j2d f.1 f.2.1 b.1.2 b.2.1.2 b.2.2.2.1.2 b.2.2.2.2.1.2 (λd=>g .normal [(4,pB 4),(6,pB 6),(8,pB 8)] [(4,⟨y28,b.2.2.1.1,b.2.2.1.2,[.O,.O]⟩),(6,⟨y25,b.2.2.2.1.1,b.2.2.2.1.2,[.O]⟩),(8,⟨y28,b.2.2.2.2.1.1,d,[.O,.O]⟩)])
theorem jhn:CN 0 253 Tryz.f252 j8F:=nK jdB [] oN ([4,6,8],[4,6,8]) [] ([],[]) λ_ _ _=>by delta j2d j0P j5L j5K jae;refine gz j0i λ_ b=>gz j1i λ_ d=>gz j4g λ_ f=>gz j4Y λ_ g=> ?_;rewrite [<-b,<-d,<-f,<-g];kernel_rfl
def j51 (d:qF×List qR) (x:qG) (f:qD->Int->Res):Res:=j3U d.1 x λr g=>bif (g != 0) then f ([],[]) g else j11 d λh=>j0i d.1 x.2.1 λi=>j2d i x.1 d x r h λb=>f (r,b.2) 0
def jah:Sig Unit:=sg [.borrow y28 true,.borrow y13 true] [true,false] [(y28,none),(y13,none)] [] λb g k=>j51 b.1 b.2.1 (λd f=>k [⟨y28,true,d,[.O,.O]⟩,wI f] [] [])
theorem jiT:SO 252 jah:=fK (np:=0) jdB [j8F] (oI 253 0 @jhn oN) false Tryz.func252 λ_ _ _ _=>by delta j51 j9h j2q j0P j8F;refine gz j3U λ_ b=>gz j11 λ_ d=>gz j0i λ_ f=>gz j2d λ_ g=> ?_;rewrite [<-b,<-d,<-f,<-g];kernel_rfl
theorem jay:FS [(174,j2q),(176,j0P),(252,jah),(253,jb0),(254,jb1),(255,jaZ)]:=(Z9H jaS (Z9H j86 (Z9H jiT (Z9H jkc (Z9H jkd (Z9H jkb Za2))))))
def j6S (f:Int) (s:qS) (b:Unit->Res) (d:Unit->Res):Res:=bif decide (f<0) then bif (s.1 != 5) then d () else bif (s.2.2.2.2.1 != 1) then d () else b () else b ()
def j69:Z1q Unit:=Nd 108 108 [.t 2 (pB 2),.t 3 (pB 3),.t 4 (pB 4),.I 6] [(2,y28,[.S,.S]),(3,y17,[.S,.S,.S,.S]),(4,y28,[.O,.O])] λf b d=>j6S f.1 b.2.1.2 (λ_=>d .normal [(2,pB 2),(3,pB 3),(4,pB 4),(6,vI f.1)] [(2,⟨y28,b.1.1,b.1.2,[.S,.S]⟩),(3,⟨y17,b.2.1.1,b.2.1.2,[.S,.S,.S,.S]⟩),(4,⟨y28,b.2.2.1.1,b.2.2.1.2,[.O,.O]⟩)]) (λ_=>d .ret [(4,pB 4),(5,vI 4)] [(4,⟨y28,b.2.2.1.1,([],[]),[.O,.O]⟩)])
theorem jkA:CN 0 14 Tryz.f196 j69:=nK jay [] oN ([2,3,4,6],[2,3,4]) [] ([4,5],[4]) λ_ _ _=>by kernel_rfl
def j94 (f:Int) (d:qF×List qR) (b:Unit->Res):Res:=bif inb f (List.length d.1) then Z80 (Z80 (Z80 (Z80 (bif inb f (List.length d.2) then Z80 (Z80 (b ()) (Z80 (b ()) (b ()))) (Z80 (Z80 (b ()) (b ())) (b ())) else none) (Z80 (bif inb f (List.length d.2) then Z80 (Z80 (b ()) (b ())) (b ()) else none) (bif inb f (List.length d.2) then b () else none))) (Z80 (Z80 (bif inb f (List.length d.2) then Z80 (Z80 (b ()) (b ())) (b ()) else none) (bif inb f (List.length d.2) then b () else none)) (bif inb f (List.length d.2) then b () else none))) (Z80 (Z80 (Z80 (bif inb f (List.length d.2) then Z80 (Z80 (b ()) (Z80 (b ()) (b ()))) (Z80 (Z80 (b ()) (b ())) (b ())) else none) (Z80 (bif inb f (List.length d.2) then Z80 (Z80 (b ()) (b ())) (b ()) else none) (bif inb f (List.length d.2) then b () else none))) (Z80 (Z80 (bif inb f (List.length d.2) then Z80 (Z80 (b ()) (b ())) (b ()) else none) (bif inb f (List.length d.2) then b () else none)) (bif inb f (List.length d.2) then b () else none))) (Z80 (Z80 (Z80 (bif inb f (List.length d.2) then Z80 (Z80 (b ()) (b ())) (b ()) else none) (bif inb f (List.length d.2) then b () else none)) (bif inb f (List.length d.2) then b () else none)) (Z80 (Z80 (Z80 (bif inb f (List.length d.2) then Z80 (Z80 (b ()) (b ())) (b ()) else none) (bif inb f (List.length d.2) then b () else none)) (bif inb f (List.length d.2) then b () else none)) (bif inb f (List.length d.2) then b () else none))))) (Z80 (Z80 (Z80 (Z80 (bif inb f (List.length d.2) then Z80 (Z80 (b ()) (Z80 (b ()) (b ()))) (Z80 (Z80 (b ()) (b ())) (b ())) else none) (Z80 (bif inb f (List.length d.2) then Z80 (Z80 (b ()) (b ())) (b ()) else none) (bif inb f (List.length d.2) then b () else none))) (Z80 (Z80 (bif inb f (List.length d.2) then Z80 (Z80 (b ()) (b ())) (b ()) else none) (bif inb f (List.length d.2) then b () else none)) (bif inb f (List.length d.2) then b () else none))) (Z80 (Z80 (Z80 (bif inb f (List.length d.2) then Z80 (Z80 (b ()) (b ())) (b ()) else none) (bif inb f (List.length d.2) then b () else none)) (bif inb f (List.length d.2) then b () else none)) (bif inb f (List.length d.2) then b () else none))) (Z80 (Z80 (Z80 (Z80 (bif inb f (List.length d.2) then Z80 (Z80 (b ()) (b ())) (b ()) else none) (bif inb f (List.length d.2) then b () else none)) (bif inb f (List.length d.2) then b () else none)) (Z80 (Z80 (Z80 (bif inb f (List.length d.2) then Z80 (Z80 (b ()) (b ())) (b ()) else none) (bif inb f (List.length d.2) then b () else none)) (bif inb f (List.length d.2) then b () else none)) (bif inb f (List.length d.2) then b () else none))) (Z80 (Z80 (Z80 (Z80 (bif inb f (List.length d.2) then Z80 (Z80 (b ()) (b ())) (b ()) else none) (bif inb f (List.length d.2) then b () else none)) (bif inb f (List.length d.2) then b () else none)) (bif inb f (List.length d.2) then b () else none)) (bif inb f (List.length d.2) then b () else none)))) else none
def j8e:Z1q Unit:=Nd 108 108 [.t 2 (pB 2),.t 3 (pB 3),.t 4 (pB 4),.I 6] [(2,y28,[.S,.S]),(3,y17,[.S,.S,.S,.S]),(4,y28,[.O,.O])] λd b f=>j94 d.1 b.1.2 (λ_=>f .normal [(2,pB 2),(3,pB 3),(4,pB 4),(6,vI d.1),(9,pB 9),(10,v1 y26 (nth [] b.1.2.2 d.1) .S)] [(2,⟨y28,b.1.1,b.1.2,[.S,.S]⟩),(3,⟨y17,b.2.1.1,b.2.1.2,[.S,.S,.S,.S]⟩),(4,⟨y28,b.2.2.1.1,b.2.2.1.2,[.O,.O]⟩),(9,⟨y24,false,nth (eS,[],[]) b.1.2.1 d.1,[.S,.S]⟩)])
theorem jkB:CN 0 62 Tryz.f196 j8e:=nK jay [j69] oN ([2,3,4,6,9,10],[2,3,4,9]) [] ([],[]) λ_ _ _=>by kernel_rfl
def j52 (l:List qW) (code:Int) (b:Int) (s:qS) (t:qB×qE×qL) (d:qR->Int->Res):Res:=bif (b==1) then j6d t l s.2.2.2.1 λr f=>d r f else bif (b==2) then j6e t l s.2.2.1 s.2.2.2.1 λg h=>d g h else bif (b==3) then j6c t l s.2.2.1 λi j=>d i j else d [] code
def jbc:Z1q Unit:=Nd 108 108 [.t 2 (pB 2),.t 3 (pB 3),.t 4 (pB 4),.I 6,.t 9 (pB 9),.R 10 y26 .S,.I 11,.I 61] [(2,y28,[.S,.S]),(3,y17,[.S,.S,.S,.S]),(4,y28,[.O,.O]),(9,y24,[.S,.S])] λf d g=>j52 f.2.1 f.2.2.1 f.2.2.2.1 d.2.1.2 d.2.2.2.1.2 (λh b=>g .normal [(2,pB 2),(4,pB 4),(6,vI f.1),(10,v1 y26 h .O),(11,vI b)] [(2,⟨y28,d.1.1,d.1.2,[.S,.S]⟩),(4,⟨y28,d.2.2.1.1,d.2.2.1.2,[.O,.O]⟩)])
theorem jkC:CN 0 509 Tryz.f196 jbc:=nK jay [j69,j8e] oN ([2,4,6,10,11],[2,4]) [] ([],[]) λ_ _ _=>by delta j52 jb0 jb1 jaZ;refine gz j6d λ_ b=>gz j6e λ_ d=>gz j6c λ_ f=> ?_;rewrite [<-b,<-d,<-f];kernel_rfl
def j8P (d:qF×List qR) (s:qS) (b:qD->Int->Res):Res:=j0i d.1 s.2.1 λr=>j6S r s (λ_=>bif (s.1==5) then j51 d s.2.2.2.2 λh g=>bif (g != 0) then b ([],[]) (Z9x (10+g)) else b h 0 else j94 r d λ_=>j52 (nth [] d.2 r) 0 s.1 s (nth (eS,[],[]) d.1 r) λl code=>bif (code != 0) then b ([],[]) (Z9x (10+code)) else j11 d λf=>bif inb r (List.length f.2) then b (f.1,upd f.2 r l) 0 else none) (λ_=>b ([],[]) 4)
def jdr:Sig Unit:=sg [.borrow y28 true,.borrow y17 true] [true,false] [(y28,none),(y17,none)] [] λb g k=>j8P b.1 b.2.1 (λd f=>k [⟨y28,true,d,[.O,.O]⟩,wI f] [] [])
theorem jmn:SO 196 jdr:=fK (np:=0) jay [j69,j8e,jbc] (oI 14 0 @jkA (oI 62 1 @jkB (oI 509 2 @jkC oN))) false Tryz.func196 λ_ _ _ _=>by delta j8P j0P j69 jah j8e jbc j2q;refine gz j0i λ_ b=>gz j6S λ_ d=>gz j51 λ_ f=>gz j94 λ_ g=>gz j52 λ_ h=>gz j11 λ_ i=> ?_;rewrite [<-b,<-d,<-f,<-g,<-h,<-i];kernel_rfl
theorem jdA:FS [(161,j8b),(174,j2q),(195,jdq),(196,jdr)]:=(Z9H jeT (Z9H jaS (Z9H jml (Z9H jmn Za2))))
def j1w (d:List qS) (g:Int) (b:Int) (f:qF×List qR) (rec:Int->qD->Res) (j:qD->Res) (h:Int->Int->Res):Res:=bif decide (b<g) then bif inb b (List.length d) then j2U (nth (0,eS,[],[],0,eS,[],[],eS,eS) d b) λr=>bif !r then h 1 b else j8P f (nth (0,eS,[],[],0,eS,[],[],eS,eS) d b) λk i=>bif (i != 0) then h i b else rec (Z9x (b+1)) k else none else j f
def j2s (d:List qS) (f:Int):(Int×qD)->(Int×qD->Res)->((qD->Res)×(Int->Int->Res))->Res:=λv rec q=>j1w d f v.1 v.2 (λg b=>rec (g,b)) q.1 q.2
def j91 (d:List qS) (f:Int) (n:Nat) (g:Int) (b:qF×List qR) (h:qD->Res) (i:Int->Int->Res):Res:=Z1N (j2s d f) n (g,b) (h,i)
def j8C:Z1q Unit:=NdL 44 44 [.t 4 (pB 4),.t 7 (pB 7),.R 18 y22 .S,.I 19,.I 20] [(4,y28,[.O,.O]),(7,y28,[.O,.O])] (λd b=>(d.2.2.1,b.2.1.2)) (λd v=>(d.1,d.2.1,v.1,())) (λb v=>((b.1.1,b.1.2),(b.2.1.1,v.2),())) (λd b=>j2s d.1 d.2.1) λd b g=>((λf=>g (.exit 0) [(4,pB 4),(7,pB 7)] [(4,⟨y28,b.1.1,b.1.2,[.O,.O]⟩),(7,⟨y28,b.2.1.1,f,[.O,.O]⟩)]),(λh i=>g .ret [(4,pB 4),(5,vI h),(6,vI i)] [(4,⟨y28,b.1.1,([],[]),[.O,.O]⟩)]))
theorem jhf:CN 0 122 Tryz.f138 j8C:=lK jdA [] oN ([],[]) [(0,[4,7],[4,7])] ([4,5,6],[4]) λ_ _ _ _ _=>by delta j2s j1w j8b jdr;refine gz j2U λ_ b=>gz j8P λ_ d=> ?_;rewrite [<-b,<-d];kernel_rfl
def j22 (d:qF×List qR) (l:List qS) (b:qD->Int->Int->Res):Res:=j8O d λr=>bif !r then b ([],[]) 1 0 else j11 d λg=>j91 l (nI (List.length l)) Z1Y 0 g (λf=>b f 0 0) (λt h=>b ([],[]) t h)
def jad:Sig Unit:=sg [.borrow y28 true,.borrow y22 false] [true,false,false] [(y28,none),(y22,none)] [] λb h k=>j22 b.1 b.2.1 (λd f g=>k [⟨y28,true,d,[.O,.O]⟩,wI f,wI g] [] [])
theorem jiP:SO 138 jad:=fK (np:=0) jdA [j8C] (oI 122 0 @jhf oN) false Tryz.func138 λ_ _ _ _=>by delta j22 jdq j2q j8C j91;refine gz j8O λ_ b=>gz j11 λ_ d=>gz j2s λ_ f=> ?_;rewrite [<-b,<-d,<-f];kernel_rfl
end
end Go.PI.G
namespace Go.PI.G
noncomputable section
open Go Go.PI Go.Proofs
open Go.Code (pl pr)
def j5A (s:qS) (b:Bool->Res):Res:=bif (s.1==0) then bif sEq s.2.1 eS then bif ((nI (List.length s.2.2.1))==0) then bif ((nI (List.length s.2.2.2.1))==0) then j19 s.2.2.2.2 λr=>b r else b false else b false else b false else b false
def j8t:Sig Unit:=sg [.look y17 true] [false] [(y17,none)] [] λd f k=>j5A d.1 (λb=>k [wB b] [] [])
theorem jh7:SO 276 j8t:=fK (np:=0) (Z9H jcC Za2) [] oN false Tryz.func276 λ_ _ _ _=>by kernel_rfl
theorem jfv:FS [(155,j66),(276,j8t)]:=(Z9H jf0 (Z9H jh7 Za2))
def j8d (r:Int×Int×qS) (b:Bool->Res):Res:=bif decide (r.1<1) then b true else bif decide (r.1>4) then b true else bif decide (r.2.1<1) then b true else b (decide (r.2.1>1000000))
def jav:Z1q Unit:=Nd 30 30 [.t 1 (pB 1)] [(1,y19,[.S,.S,.S,.S])] λg d f=>j8d d.1.2 (λb=>f .normal [(1,pB 1),(20,vB b)] [(1,⟨y19,d.1.1,d.1.2,[.S,.S,.S,.S]⟩)])
theorem jjn:CN 0 12 Tryz.f218 jav:=nK jfv [] oN ([1,20],[1]) [] ([],[]) λ_ _ _=>by kernel_rfl
def j7u (r:Int×Int×qS) (b:Bool->Res):Res:=j8d r λt=>bif t then b false else bif (r.1==2) then j2V r.2.2 λd=>b d else j5A r.2.2 λf=>b f
def jcg:Sig Unit:=sg [.look y19 true] [false] [(y19,none)] [] λd f k=>j7u d.1 (λb=>k [wB b] [] [])
theorem jle:SO 218 jcg:=fK (np:=0) jfv [jav] (oI 12 0 @jjn oN) false Tryz.func218 λ_ _ _ _=>by delta j7u jav j66 j8t;refine gz j8d λ_ b=>gz j2V λ_ d=>gz j5A λ_ f=> ?_;rewrite [<-b,<-d,<-f];kernel_rfl
def j5w (f:Int) (d:List qP) (i:Int) (b:Int) (rec:Int->Res) (g:Unit->Res) (h:Unit->Res):Res:=bif decide (b<i) then bif inb b (List.length d) then bif ((nth (0,0,0,eS,[],[],0,eS,[],[],eS,eS) d b).1==1) then bif ((nth (0,0,0,eS,[],[],0,eS,[],[],eS,eS) d b).2.1==f) then h () else rec (Z9x (b+1)) else rec (Z9x (b+1)) else none else g ()
def jan (b:Int) (d:List qP) (f:Int):Int->(Int->Res)->((Unit->Res)×(Unit->Res))->Res:=λv rec q=>j5w b d f v (λg=>rec (g)) q.1 q.2
def jgo (b:Int) (g:List qP) (h:Int) (n:Nat) (i:Int) (d:Unit->Res) (f:Unit->Res):Res:=Z1N (jan b g h) n (i) (d,f)
def jfn:Z1q Unit:=NdL 23 23 [.I 1,.R 7 y20 .S,.I 8,.I 9] [] (λb d=>(b.2.2.2.1)) (λb v=>(b.1,b.2.1,b.2.2.1,v,())) (λd v=>()) (λb d=>jan b.1 b.2.1 b.2.2.1) λb d f=>((λ_=>f (.exit 0) [] []),(λ_=>f .ret [(4,vB true)] []))
theorem jkM:CN 0 26 Tryz.f219 jfn:=lK Za2 [] oN ([],[]) [(0,[],[])] ([4],[]) λ_ _ _ _ _=>by kernel_rfl
def jaM (l:List qP) (b:Int) (d:Bool->Res):Res:=jgo b l (nI (List.length l)) Z1Y 0 (λ_=>d false) (λ_=>d true)
def jdw:Sig Unit:=sg [.look y20 false,.look tI false] [false] [(y20,none),(tI,none)] [] λb f k=>jaM b.1 b.2.1 (λd=>k [wB d] [] [])
theorem jmt:SO 219 jdw:=fK (np:=0) Za2 [jfn] (oI 26 0 @jkM oN) false Tryz.func219 λ_ _ _ _=>by kernel_rfl
def j3G (h:Int) (d:List Int) (i:Int) (b:Int) (rec:Int->Res) (f:Unit->Res) (g:Unit->Res):Res:=bif decide (b<i) then bif inb b (List.length d) then bif ((nth 0 d b)==h) then g () else rec (Z9x (b+1)) else none else f ()
def j8A (b:Int) (d:List Int) (f:Int):Int->(Int->Res)->((Unit->Res)×(Unit->Res))->Res:=λv rec q=>j3G b d f v (λg=>rec (g)) q.1 q.2
def jee (f:Int) (g:List Int) (h:Int) (n:Nat) (i:Int) (b:Unit->Res) (d:Unit->Res):Res:=Z1N (j8A f g h) n (i) (b,d)
def jde:Z1q Unit:=NdL 17 17 [.I 1,.R 7 y21 .S,.I 8,.I 9] [] (λb d=>(b.2.2.2.1)) (λb v=>(b.1,b.2.1,b.2.2.1,v,())) (λd v=>()) (λb d=>j8A b.1 b.2.1 b.2.2.1) λb d f=>((λ_=>f (.exit 0) [] []),(λ_=>f .ret [(4,vB true)] []))
theorem jiC:CN 0 26 Tryz.f168 jde:=lK Za2 [] oN ([],[]) [(0,[],[])] ([4],[]) λ_ _ _ _ _=>by kernel_rfl
def j20 (l:List Int) (d:Int) (b:Bool->Res):Res:=jee d l (nI (List.length l)) Z1Y 0 (λ_=>b false) (λ_=>b true)
def j3V:Sig Unit:=sg [.look y21 false,.look tI false] [false] [(y21,none),(tI,none)] [] λb f k=>j20 b.1 b.2.1 (λd=>k [wB d] [] [])
theorem jaT:SO 168 j3V:=fK (np:=0) Za2 [jde] (oI 26 0 @jiC oN) false Tryz.func168 λ_ _ _ _=>by kernel_rfl
def j3F (i:Int) (g:List Int) (f:Int) (d:List Int) (b:Int) (rec:(List Int)->Int->Res) (h:(List Int)->Res):Res:=bif decide (b<f) then bif inb b (List.length g) then bif ((nth 0 g b) != i) then bif lim ((List.length d)+1) then rec (d++[nth 0 g b]) (Z9x (b+1)) else none else rec d (Z9x (b+1)) else none else h d
def j8z (g:Int) (h:List Int) (d:Int):((List Int)×Int)->((List Int)×Int->Res)->(((List Int)->Res))->Res:=λv rec q=>j3F g h d v.1 v.2 (λb f=>rec (b,f)) q
def jed (h:Int) (i:List Int) (d:Int) (n:Nat) (b:List Int) (f:Int) (g:(List Int)->Res):Res:=Z1N (j8z h i d) n (b,f) (g)
def jdd:Z1q Unit:=NdL 24 24 [.I 1,.R 5 y21 .O,.R 9 y21 .S,.I 10,.I 11] [] (λb f=>(b.2.1,b.2.2.2.2.1)) (λb v=>(b.1,v.1,b.2.2.1,b.2.2.2.1,v.2,())) (λf v=>()) (λb f=>j8z b.1 b.2.2.1 b.2.2.2.1) λb f g=>((λd=>g (.exit 0) [(5,v1 y21 d .O)] []))
theorem jiB:CN 0 58 Tryz.f277 jdd:=lK Za2 [] oN ([],[]) [(0,[5],[])] ([],[]) λ_ _ _ _ _=>by kernel_rfl
def j6m (l:List Int) (f:Int) (d:(List Int)->Res):Res:=jed f l (nI (List.length l)) Z1Y [] 0 λb=>d b
def jb4:Sig Unit:=sg [.borrow y21 false,.borrow tI false] [false] [(y21,none),(tI,none)] [] λb f k=>j6m b.1 b.2.1 (λd=>k [w1 y21 d .O] [] [])
theorem jkt:SO 277 jb4:=fK (np:=0) Za2 [jdd] (oI 58 0 @jiB oN) false Tryz.func277 λ_ _ _ _=>by kernel_rfl
theorem jdf:FS [(168,j3V),(277,jb4)]:=(Z9H jaT (Z9H jkt Za2))
def j9t (b:List Int) (r:Int×Int×qS) (d:(List Int)->Res):Res:=bif (r.1==1) then j20 b r.2.1 λf=>bif !f then bif lim ((List.length b)+1) then d (b++[r.2.1]) else none else d b else d b
def j8f:Z1q Unit:=Nd 42 42 [.R 3 y21 .O,.t 5 (pB 5),.R 7 y20 .S,.I 8,.I 9] [(5,y19,[.S,.S,.S,.S])] λd f g=>j9t d.1 f.1.2 (λb=>g .normal [(3,v1 y21 b .O),(5,pB 5),(7,v1 y20 d.2.1 .S),(8,vI d.2.2.1),(9,vI d.2.2.2.1)] [(5,⟨y19,f.1.1,f.1.2,[.S,.S,.S,.S]⟩)])
theorem jkL:CN 0 7474 Tryz.f220 j8f:=nK jdf [] oN ([3,5,7,8,9],[5]) [] ([],[]) λ_ _ _=>by kernel_rfl
def j33 (f:List qP) (j:Int) (g:List Int) (d:Int) (rec:(List Int)->Int->Res) (h:(List Int)->Res):Res:=bif decide (d<j) then bif inb d (List.length f) then j9t g (nth (0,0,0,eS,[],[],0,eS,[],[],eS,eS) f d) λb=>bif ((nth (0,0,0,eS,[],[],0,eS,[],[],eS,eS) f d).1==3) then j6m b (nth (0,0,0,eS,[],[],0,eS,[],[],eS,eS) f d).2.1 λr=>rec r (Z9x (d+1)) else bif ((nth (0,0,0,eS,[],[],0,eS,[],[],eS,eS) f d).1==4) then j6m b (nth (0,0,0,eS,[],[],0,eS,[],[],eS,eS) f d).2.1 λi=>rec i (Z9x (d+1)) else rec b (Z9x (d+1)) else none else h g
def j7t (d:List qP) (f:Int):((List Int)×Int)->((List Int)×Int->Res)->(((List Int)->Res))->Res:=λv rec q=>j33 d f v.1 v.2 (λb g=>rec (b,g)) q
def jgn (f:List qP) (g:Int) (n:Nat) (b:List Int) (h:Int) (d:(List Int)->Res):Res:=Z1N (j7t f g) n (b,h) (d)
def jfm:Z1q Unit:=NdL 42 42 [.R 3 y21 .O,.R 7 y20 .S,.I 8,.I 9] [] (λb f=>(b.1,b.2.2.2.1)) (λb v=>(v.1,b.2.1,b.2.2.1,v.2,())) (λf v=>()) (λb f=>j7t b.2.1 b.2.2.1) λb f g=>((λd=>g (.exit 0) [(3,v1 y21 d .O)] []))
theorem jkK:CN 0 58 Tryz.f220 jfm:=lK jdf [j8f] (oI 114 0 @jkL oN) ([],[]) [(0,[3],[])] ([],[]) λ_ _ _ _ _=>by delta j7t j33 j8f jb4;refine gz j9t λ_ b=>gz j6m λ_ d=> ?_;rewrite [<-b,<-d];kernel_rfl
def j8U (l:List qP) (d:(List Int)->Res):Res:=jgn l (nI (List.length l)) Z1Y [] 0 λb=>d b
def jdv:Sig Unit:=sg [.borrow y20 false] [false] [(y20,none)] [] λd f k=>j8U d.1 (λb=>k [w1 y21 b .O] [] [])
theorem jmr:SO 220 jdv:=fK (np:=0) jdf [j8f,jfm] (oI 58 1 @jkK oN) false Tryz.func220 λ_ _ _ _=>by kernel_rfl
def j9z (s:qS) (b:qS->Res):Res:=bif lim (0+(List.length s.2.2.1)) then j0t s.2.2.2.1 λr=>bif lim (0+(List.length s.2.2.2.2.2.2.1)) then bif lim (0+(List.length s.2.2.2.2.2.2.2.1)) then b (s.1,s.2.1,s.2.2.1,r,s.2.2.2.2.1,s.2.2.2.2.2.1,s.2.2.2.2.2.2.1,s.2.2.2.2.2.2.2.1,s.2.2.2.2.2.2.2.2) else none else none else none
def jjz:Sig Unit:=sg [.borrow y17 true] [true] [(y17,none)] [] λd f k=>j9z d.1 (λb=>k [⟨y17,true,b,[.O,.O,.O,.O]⟩] [] [])
theorem jdV:SO 158 jjz:=fK (np:=0) (Z9H j3T Za2) [] oN false Tryz.func158 λ_ _ _ _=>by kernel_rfl
def j2F (h:Int) (f:List qP) (g:Int) (d:List qS) (b:Int) (rec:qU->Int->Res) (i:qU->Res):Res:=bif decide (b<g) then bif inb b (List.length f) then bif ((nth (0,0,0,eS,[],[],0,eS,[],[],eS,eS) f b).1==2) then bif ((nth (0,0,0,eS,[],[],0,eS,[],[],eS,eS) f b).2.1==h) then j9z (nth (0,0,0,eS,[],[],0,eS,[],[],eS,eS) f b).2.2 λr=>bif lim ((List.length d)+1) then rec (d++[r]) (Z9x (b+1)) else none else rec d (Z9x (b+1)) else rec d (Z9x (b+1)) else none else i d
def j7J (g:Int) (h:List qP) (d:Int):(qU×Int)->(qU×Int->Res)->((qU->Res))->Res:=λv rec q=>j2F g h d v.1 v.2 (λb f=>rec (b,f)) q
def jcU (g:Int) (i:List qP) (d:Int) (n:Nat) (b:List qS) (f:Int) (h:qU->Res):Res:=Z1N (j7J g i d) n (b,f) (h)
def jcp:Z1q Unit:=NdL 32 32 [.I 1,.R 5 y22 .O,.R 9 y20 .S,.I 10,.I 11] [] (λb f=>(b.2.1,b.2.2.2.2.1)) (λb v=>(b.1,v.1,b.2.2.1,b.2.2.2.1,v.2,())) (λf v=>()) (λb f=>j7J b.1 b.2.2.1 b.2.2.2.1) λb f g=>((λd=>g (.exit 0) [(5,v1 y22 d .O)] []))
theorem jhz:CN 0 58 Tryz.f221 jcp:=lK (Z9H jdV Za2) [] oN ([],[]) [(0,[5],[])] ([],[]) λ_ _ _ _ _=>by kernel_rfl
def j5v (l:List qP) (d:Int) (f:qU->Res):Res:=jcU d l (nI (List.length l)) Z1Y [] 0 λb=>f b
def jak:Sig Unit:=sg [.borrow y20 false,.borrow tI false] [false] [(y20,none),(tI,none)] [] λb f k=>j5v b.1 b.2.1 (λd=>k [w1 y22 d .O] [] [])
theorem jiY:SO 221 jak:=fK (np:=0) (Z9H jdV Za2) [jcp] (oI 58 0 @jhz oN) false Tryz.func221 λ_ _ _ _=>by kernel_rfl
theorem j7e:FS [(133,jaj),(168,j3V),(218,jcg),(219,jdw),(220,jdv),(221,jak)]:=(Z9H jiW (Z9H jaT (Z9H jle (Z9H jmt (Z9H jmr (Z9H jiY Za2))))))
def j2k (l:List qP) (i:Int) (r:Int×Int×qS) (b:Bool->Res):Res:=j7u r λd=>bif !d then b true else bif (r.1==1) then bif Z87 0 i (List.length l) then jaM (sub l 0 i) r.2.1 λf=>bif f then b true else bif (r.1 != 1) then bif Z87 0 i (List.length l) then j8U (sub l 0 i) λg=>j20 g r.2.1 λh=>b (!h) else none else b false else none else bif (r.1 != 1) then bif Z87 0 i (List.length l) then j8U (sub l 0 i) λj=>j20 j r.2.1 λk=>b (!k) else none else b false
def j3L:Z1q Unit:=Nd 74 74 [.R 0 y20 .S,.t 2 (pB 2),.t 4 (pB 4),.I 5,.t 6 (pB 6),.R 11 y20 .S,.I 12,.I 13] [(2,y28,[.O,.O]),(4,y28,[.N,.N]),(6,y19,[.S,.S,.S,.S])] λb d g=>j2k b.1 b.2.1 d.2.2.1.2 (λf=>g .normal [(0,v1 y20 b.1 .S),(2,pB 2),(4,pB 4),(5,vI b.2.1),(6,pB 6),(11,v1 y20 b.2.2.1 .S),(12,vI b.2.2.2.1),(13,vI b.2.2.2.2.1),(48,vB f)] [(2,⟨y28,d.1.1,d.1.2,[.O,.O]⟩),(4,⟨y28,d.2.1.1,d.2.1.2,[.N,.N]⟩),(6,⟨y19,d.2.2.1.1,d.2.2.1.2,[.S,.S,.S,.S]⟩)])
theorem jhI:CN 0 14948 Tryz.f169 j3L:=nK j7e [] oN ([0,2,4,5,6,11,12,13,48],[2,4,6]) [] ([],[]) λ_ _ _=>by delta j2k jcg jdw jdv j3V;refine gz j7u λ_ b=>gz jaM λ_ d=>gz j8U λ_ f=>gz j20 λ_ g=> ?_;rewrite [<-b,<-d,<-f,<-g];kernel_rfl
def j2l (l:List qP) (i:Int) (d:qF×List qR) (r:Int×Int×qS) (b:Int->qD->Res):Res:=bif Z87 0 i (List.length l) then Z80 (j5v (sub l 0 i) r.2.1 λn=>Z80 (j28 d n λg h w=>Z80 (Z80 (b h g) (Z80 (b h g) (b h g))) (Z80 (Z80 (b h g) (Z80 (b h g) (b h g))) (Z80 (Z80 (b h g) (b h g)) (Z80 (Z80 (b h g) (b h g)) (b h g))))) (j28 d n λj k y=>Z80 (Z80 (b k j) (b k j)) (Z80 (Z80 (b k j) (b k j)) (b k j)))) (j5v (sub l 0 i) r.2.1 λq=>j28 d q λm f p=>Z80 (Z80 (b f m) (b f m)) (Z80 (Z80 (b f m) (b f m)) (b f m))) else none
def j60:Z1q Unit:=Nd 74 74 [.R 0 y20 .S,.t 2 (pB 2),.t 4 (pB 4),.I 5,.t 6 (pB 6),.R 11 y20 .S,.I 12,.I 13] [(2,y28,[.O,.O]),(4,y28,[.N,.N]),(6,y19,[.S,.S,.S,.S])] λb d f=>j2l b.1 b.2.1 d.2.1.2 d.2.2.1.2 (λcode next=>f .normal [(0,v1 y20 b.1 .S),(2,pB 2),(4,pB 4),(7,pB 7),(8,vI code),(11,v1 y20 b.2.2.1 .S),(12,vI b.2.2.2.1),(13,vI b.2.2.2.2.1)] [(2,⟨y28,d.1.1,d.1.2,[.O,.O]⟩),(4,⟨y28,d.2.1.1,d.2.1.2,[.N,.N]⟩),(7,⟨y28,false,next,[.N,.N]⟩)])
theorem jhJ:CN 0 59804 Tryz.f169 j60:=nK j7e [j3L] oN ([0,2,4,7,8,11,12,13],[2,4,7]) [] ([],[]) λ_ _ _=>by delta j2l jak jaj;refine gz j5v λ_ b=>gz j28 λ_ d=> ?_;rewrite [<-b,<-d];kernel_rfl
def j1B (l:List qP) (f:List qP) (g:Int) (b:Int) (d:qF×List qR) (rec:Int->qD->Res) (i:qD->Res) (h:Unit->Res):Res:=bif decide (b<g) then bif inb b (List.length f) then j2k l b (nth (0,0,0,eS,[],[],0,eS,[],[],eS,eS) f b) λt=>bif t then h () else bif ((nth (0,0,0,eS,[],[],0,eS,[],[],eS,eS) f b).1==3) then j2l l b d (nth (0,0,0,eS,[],[],0,eS,[],[],eS,eS) f b) λcode next=>bif (code != 0) then h () else rec (Z9x (b+1)) next else rec (Z9x (b+1)) d else none else i d
def j4O (l:List qP) (b:List qP) (f:Int):(Int×qD)->(Int×qD->Res)->((qD->Res)×(Unit->Res))->Res:=λv rec q=>j1B l b f v.1 v.2 (λg d=>rec (g,d)) q.1 q.2
def j9y (l:List qP) (b:List qP) (f:Int) (n:Nat) (g:Int) (d:qF×List qR) (h:qD->Res) (i:Unit->Res):Res:=Z1N (j4O l b f) n (g,d) (h,i)
def jck:Z1q Unit:=λσ k=>rdN σ 74<|rd1 σ 0 y20 .S λl=>rdT σ 2 (pB 2)<|rdT σ 4 (pB 4)<|rd1 σ 11 y20 .S λb=>rdI σ 12 λf=>rdI σ 13 λg=>rdB σ 2 y28 [.O,.O] λa j=>rdB σ 4 y28 [.N,.N] λh d=>j9y l b f Z1Y g d (λi=>k (.exit 0) (mkS 74 74 [(0,v1 y20 l .S),(2,pB 2),(4,pB 4)] [(2,⟨y28,a,j,[.O,.O]⟩),(4,⟨y28,h,i,[.N,.N]⟩)])) (λ_=>k .ret (mkS 74 74 [(2,pB 2),(3,vB false)] [(2,⟨y28,a,([],[]),[.O,.O]⟩)]))
def jct:Z1q Unit:=λσ k=>jck (σ.wk [] [(4,[.N,.N])]) k
theorem jhH:CN 0 58 Tryz.f169 jct:=λq=>Zag [] [(4,[.N,.N])] (jl2 follows j2m j7e q [j3L,j60] (oI 228 0 @jhI (oI 924 1 @jhJ oN)) [0,2,4,11,12,13] [2,4] ([],[]) [(0,[0,2,4],[2,4])] ([2,3],[2]) (y:=jck) λσ k _ h=>rN h λG h=>rV h λl D h=>rT h λE h=>rT h λF h=>rV h λb g h=>rV h λf i h=>rV h λr j h=>rB h λa z n h=>rB h λw d p h=>⟨_,Zaj (m:=74) G (sC D (sC E (sC F (sC g (sC i (sC j sN)))))) (bC n (bC p bN)),.trans (Z9j (λv:Int×qD=>(mkS 74 74 [(0,v1 y20 l .S),(2,pB 2),(4,pB 4),(11,v1 y20 b .S),(12,vI f),(13,vI v.1)] [(2,⟨y28,a,z,[.O,.O]⟩),(4,⟨y28,w,v.2,[.N,.N]⟩)])) (j4O l b f) (λ(k:Z7W Unit)=>(((λA=>k (.exit 0) (mkS 74 74 [(0,v1 y20 l .S),(2,pB 2),(4,pB 4)] [(2,⟨y28,a,z,[.O,.O]⟩),(4,⟨y28,w,A,[.N,.N]⟩)])),(λ_=>k .ret (mkS 74 74 [(2,pB 2),(3,vB false)] [(2,⟨y28,a,([],[]),[.O,.O]⟩)]))):(qD->Res)×(Unit->Res))) (λv rec k=>by delta j4O j1B j3L j60;refine gz j2k λ_ B=>gz j2l λ_ C=> ?_;rewrite [<-B,<-C];kernel_rfl) Z1Y (r,d) k) h⟩)
def j9x (l:List qP) (b:qD->Bool->Res):Res:=j9y l l (nI (List.length l)) Z1Y 0 ([],[]) (λd=>b d (decide ((nI (List.length l))<=400))) (λ_=>b ([],[]) false)
def jjy:Sig Unit:=sg [.borrow y20 false] [true,false] [(y20,none)] [] λf g k=>j9x f.1 (λb d=>k [⟨y28,true,b,[.S,.S]⟩,wB d] [] [])
theorem jj0:SO 169 jjy:=fK (np:=0) j7e [j3L,j60,jct] (oI 58 2 @jhH oN) true Tryz.func169 λ_ _ _ _=>by kernel_rfl
def j9s (l:List qP) (b:Bool->Res):Res:=bif decide ((nI (List.length l))>400) then b false else j9x l λr d=>b d
def jgi:Sig Unit:=sg [.look y20 false] [false] [(y20,none)] [] λd f k=>j9s d.1 (λb=>k [wB b] [] [])
theorem jfN:SO 103 jgi:=fK (np:=0) (Z9H jj0 Za2) [] oN false Tryz.func103 λ_ _ _ _=>by kernel_rfl
def j64 (s:qS) (b:Bool->Res):Res:=bif (s.1==0) then bif sEq s.2.1 eS then bif ((nI (List.length s.2.2.1))==0) then bif ((nI (List.length s.2.2.2.1))==0) then j0e s.2.2.2.2 (0,eS,[],[],eS,eS) λr=>b r else b false else b false else b false else b false
def jcS:Sig Unit:=sg [.look y17 true] [false] [(y17,none)] [] λd f k=>j64 d.1 (λb=>k [wB b] [] [])
theorem jhT:SO 278 jcS:=fK (np:=0) (Z9H j8X Za2) [] oN false Tryz.func278 λ_ _ _ _=>by kernel_rfl
def j7i (r:Int×Int×qS) (b:Bool->Res):Res:=j0a r.1 1 4 λd=>bif !d then b false else j0a r.2.1 1 1000000 λf=>bif !f then b false else bif (r.1==2) then j2U r.2.2 λg=>b g else j64 r.2.2 λh=>b h
def jca:Sig Unit:=sg [.look y19 true] [false] [(y19,none)] [] λd f k=>j7i d.1 (λb=>k [wB b] [] [])
theorem jl6:SO 222 jca:=fK (np:=0) (Z9H jeT (Z9H j1C (Z9H jhT Za2))) [] oN false Tryz.func222 λ_ _ _ _=>by delta j7i j0Q j8b jcS;refine gz j0a λ_ b=>gz j2U λ_ d=>gz j64 λ_ f=> ?_;rewrite [<-b,<-d,<-f];kernel_rfl
def j2w (h:Int) (f:List qP) (g:Int) (d:List qS) (b:Int) (rec:qU->Int->Res) (i:qU->Res):Res:=bif decide (b<g) then bif inb b (List.length f) then bif ((nth (0,0,0,eS,[],[],0,eS,[],[],eS,eS) f b).1==2) then bif ((nth (0,0,0,eS,[],[],0,eS,[],[],eS,eS) f b).2.1==h) then j63 (nth (0,0,0,eS,[],[],0,eS,[],[],eS,eS) f b).2.2 λr=>bif lim ((List.length d)+1) then rec (d++[r]) (Z9x (b+1)) else none else rec d (Z9x (b+1)) else rec d (Z9x (b+1)) else none else i d
def j7C (g:Int) (h:List qP) (d:Int):(qU×Int)->(qU×Int->Res)->((qU->Res))->Res:=λv rec q=>j2w g h d v.1 v.2 (λb f=>rec (b,f)) q
def jcK (g:Int) (i:List qP) (d:Int) (n:Nat) (b:List qS) (f:Int) (h:qU->Res):Res:=Z1N (j7C g i d) n (b,f) (h)
def jcm:Z1q Unit:=NdL 32 32 [.I 1,.R 5 y22 .O,.R 9 y20 .S,.I 10,.I 11] [] (λb f=>(b.2.1,b.2.2.2.2.1)) (λb v=>(b.1,v.1,b.2.2.1,b.2.2.2.1,v.2,())) (λf v=>()) (λb f=>j7C b.1 b.2.2.1 b.2.2.2.1) λb f g=>((λd=>g (.exit 0) [(5,v1 y22 d .O)] []))
theorem jhk:CN 0 58 Tryz.f224 jcm:=lK (Z9H jcA Za2) [] oN ([],[]) [(0,[5],[])] ([],[]) λ_ _ _ _ _=>by kernel_rfl
def j50 (l:List qP) (d:Int) (f:qU->Res):Res:=jcK d l (nI (List.length l)) Z1Y [] 0 λb=>f b
def jaf:Sig Unit:=sg [.borrow y20 false,.borrow tI false] [false] [(y20,none),(tI,none)] [] λb f k=>j50 b.1 b.2.1 (λd=>k [w1 y22 d .O] [] [])
theorem jiR:SO 224 jaf:=fK (np:=0) (Z9H jcA Za2) [jcm] (oI 58 0 @jhk oN) false Tryz.func224 λ_ _ _ _=>by kernel_rfl
def jdo (place:Int) (b:qF×List qR) (d:Unit->Res):Res:=d ()
def jaY:Sig Unit:=sg [.look tI false,.look y28 true] [] [(tI,none),(y28,none)] [] λb d k=>jdo b.1 b.2.1 (λ_=>k [] [] [])
theorem jka:SO 171 jaY:=fK (np:=0) Za2 [] oN false Tryz.func171 λ_ _ _ _=>by kernel_rfl
def jev (x:Int) (d:Int×Int×qS) (b:Bool->Res):Res:=b (x==d.2.1)
def jlV:Sig Unit:=sg [.look tI false,.rptr y19] [false] [(tI,none),(y19,none)] [] λb f k=>jev b.1 b.2.1 (λd=>k [wB d] [] [])
theorem jl7:SO 226 jlV:=fK (np:=0) Za2 [] oN false Tryz.func226 λ_ _ _ _=>by kernel_rfl
def j1e (s:List Int) (b:Int×Int×qS) (d:(List Int)->qP->Res):Res:=bif lim (List.length s) then dgE (λe k=>jev e b k) s [] (λr=>d r b) else none
def j3R:Sig Unit:=⟨[.eat y21 false,.clos 226 [y19]],[false],λvals ext k=>ao vals y21 [.O] λs vals=>nl vals<|ab ext y19 [.S,.S,.S,.S] λa0 f ext=>nl ext<|j1e s f (λd b=>k [w1 y21 d .O] [] [⟨y19,a0,b,[.S,.S,.S,.S]⟩])⟩
theorem jcv:Z1d Tryz.prog 225 j3R:=gS (jpX (U:=0) (T:=220) (e:=tI) (ag:=false) (τ:=y19) (tg:=[.S,.S,.S,.S]) (fl:=[]) (S:=56) (E:=3) (I:=3) (B:=4) follows j2m (by kernel_rfl) Tryz.underlying56 (by kernel_rfl) (by kernel_rfl) (by kernel_rfl) (by kernel_rfl) Tryz.isAgg220 Tryz.sizeOf220 (by kernel_rfl) (by kernel_rfl) (by kernel_rfl) Tryz.func280 (by kernel_rfl) (by kernel_rfl) (by kernel_rfl) (by kernel_rfl) jl7 (by kernel_rfl) Tryz.func225 (by kernel_rfl) (by kernel_rfl) (by kernel_rfl) (by kernel_rfl)) (by kernel_rfl)
theorem j7R:FS [(138,jad),(171,jaY),(222,jca),(223,j5g),(224,jaf),(225,j3R)]:=(Z9H jiP (Z9H jka (Z9H jl6 (Z9H jdK (Z9H jiR (Z9H jcv Za2))))))
def j54 (l:List qP) (i:Int) (d:qF×List qR) (r:Int×Int×qS) (b:Int->qD->Res):Res:=bif Z87 0 i (List.length l) then Z80 (j50 (sub l 0 i) r.2.1 λn=>Z80 (j22 d n λg h w=>Z80 (Z80 (b h g) (Z80 (b h g) (b h g))) (Z80 (Z80 (b h g) (Z80 (b h g) (b h g))) (Z80 (Z80 (b h g) (b h g)) (Z80 (Z80 (b h g) (b h g)) (b h g))))) (j22 d n λj k y=>Z80 (Z80 (b k j) (b k j)) (Z80 (Z80 (b k j) (b k j)) (b k j)))) (j50 (sub l 0 i) r.2.1 λq=>j22 d q λm f p=>Z80 (Z80 (b f m) (b f m)) (Z80 (Z80 (b f m) (b f m)) (b f m))) else none
def j3Y:Z1q Unit:=Nd 84 84 [.R 1 y20 .S,.t 2 (.clos 171 []),.t 3 (pB 3),.t 6 (pB 6),.R 8 y21 .O,.R 9 y21 .O,.I 10,.t 11 (pB 11),.R 17 y20 .S,.I 18,.I 19] [(3,y28,[.S,.S]),(6,y28,[.O,.O]),(11,y19,[.S,.S,.S,.S])] λb d f=>j54 b.1 b.2.2.2.1 d.1.2 d.2.2.1.2 (λcode next=>f .normal [(1,v1 y20 b.1 .S),(2,.clos 171 []),(3,pB 3),(6,pB 6),(8,v1 y21 b.2.1 .O),(9,v1 y21 b.2.2.1 .O),(10,vI b.2.2.2.1),(11,pB 11),(12,pB 12),(13,vI code),(17,v1 y20 b.2.2.2.2.1 .S),(18,vI b.2.2.2.2.2.1),(19,vI b.2.2.2.2.2.2.1)] [(3,⟨y28,d.1.1,d.1.2,[.S,.S]⟩),(6,⟨y28,d.2.1.1,d.2.1.2,[.O,.O]⟩),(11,⟨y19,d.2.2.1.1,d.2.2.1.2,[.S,.S,.S,.S]⟩),(12,⟨y28,false,next,[.O,.O]⟩)])
theorem jkF:CN 0 478452 Tryz.f170 j3Y:=nK j7R [] oN ([1,2,3,6,8,9,10,11,12,13,17,18,19],[3,6,11,12]) [] ([],[]) λ_ _ _=>by delta j54 jaf jad;refine gz j50 λ_ b=>gz j22 λ_ d=> ?_;rewrite [<-b,<-d];kernel_rfl
def j6T (l:List qP) (i:Int) (b:Bool) (d:qF×List qR) (r:Int×Int×qS) (f:qD->Res) (g:Unit->Res):Res:=bif b then j54 l i d r λcode next=>bif (code != 0) then g () else jdo (Z9x (i+1)) d λ_=>f next else f d
def j6a:Z1q Unit:=λσ k=>rdN σ 84<|rd1 σ 1 y20 .S λl=>rdT σ 2 (.clos 171 [])<|rdT σ 3 (pB 3)<|rdT σ 6 (pB 6)<|rd1 σ 8 y21 .O λb=>rd1 σ 9 y21 .O λf=>rdI σ 10 λi=>rdT σ 11 (pB 11)<|rd1 σ 17 y20 .S λg=>rdI σ 18 λh=>rdI σ 19 λj=>rdO σ 54 λm=>rdB σ 3 y28 [.S,.S] λa d=>rdB σ 6 y28 [.O,.O] λn w=>rdB σ 11 y19 [.S,.S,.S,.S] λp r=>j6T l i m d r (λq=>k .normal (mkS 84 84 [(1,v1 y20 l .S),(2,.clos 171 []),(3,pB 3),(6,pB 6),(8,v1 y21 b .O),(9,v1 y21 f .O),(11,pB 11),(17,v1 y20 g .S),(18,vI h),(19,vI j)] [(3,⟨y28,a,q,[.S,.S]⟩),(6,⟨y28,n,w,[.O,.O]⟩),(11,⟨y19,p,r,[.S,.S,.S,.S]⟩)])) (λ_=>k .ret (mkS 84 84 [(6,pB 6),(7,vB false)] [(6,⟨y28,n,([],[]),[.O,.O]⟩)]))
theorem jkG:CN 0 119613 Tryz.f170 j6a:=λz=>jo8 follows j2m j7R z [j3Y] (oI 4 0 @jkF oN) ([1,2,3,6,8,9,11,17,18,19],[3,6,11]) [] ([6,7],[6]) [(0,[],[(3,[.S,.S])])] λσ k _ h=>rN h λK h=>rV h λl E h=>rT h λF h=>rT h λG h=>rT h λH h=>rV h λA I h=>rV h λB J h=>rV h λi f h=>rT h λg h=>rV h λL j h=>rV h λM n h=>rV h λP p h=>rV h λQ q h=>rB h λa d w h=>rB h λR U y h=>rB h λT r b h=>⟨_,Zaj (m:=84) K (sC E (sC F (sC G (sC H (sC I (sC J (sC f (sC g (sC j (sC n (sC p (sC q sN)))))))))))) (bC w (bC y (bC b bN))),.trans (by delta j6T j3Y jaY;refine gz j54 λ_ C=>gz jdo λ_ D=> ?_;rewrite [<-C,<-D];kernel_rfl) h⟩
def j30 (l:List qP) (g:List qP) (j:Int) (f:List Int) (h:List Int) (b:Int) (d:qF×List qR) (rec:(List Int)->(List Int)->Int->qD->Res) (m:qD->Res) (i:Unit->Res):Res:=bif decide (b<j) then bif inb b (List.length g) then j7i (nth (0,0,0,eS,[],[],0,eS,[],[],eS,eS) g b) λr=>bif !r then i () else bif ((nth (0,0,0,eS,[],[],0,eS,[],[],eS,eS) g b).1==1) then j0X h (nth (0,0,0,eS,[],[],0,eS,[],[],eS,eS) g b).2.1 λn=>bif n then i () else bif lim ((List.length h)+1) then bif lim ((List.length f)+1) then rec (f++[(nth (0,0,0,eS,[],[],0,eS,[],[],eS,eS) g b).2.1]) (h++[(nth (0,0,0,eS,[],[],0,eS,[],[],eS,eS) g b).2.1]) (Z9x (b+1)) d else none else none else j0X f (nth (0,0,0,eS,[],[],0,eS,[],[],eS,eS) g b).2.1 λp=>bif !p then i () else j6T l b ((nth (0,0,0,eS,[],[],0,eS,[],[],eS,eS) g b).1==3) d (nth (0,0,0,eS,[],[],0,eS,[],[],eS,eS) g b) (λk=>bif ((nth (0,0,0,eS,[],[],0,eS,[],[],eS,eS) g b).1 != 2) then j1e f (nth (0,0,0,eS,[],[],0,eS,[],[],eS,eS) g b) λq w=>rec q h (Z9x (b+1)) k else rec f h (Z9x (b+1)) k) (λ_=>i ()) else none else m d
def j7k (l:List qP) (g:List qP) (h:Int):((List Int)×(List Int)×Int×qD)->((List Int)×(List Int)×Int×qD->Res)->((qD->Res)×(Unit->Res))->Res:=λv rec q=>j30 l g h v.1 v.2.1 v.2.2.1 v.2.2.2 (λb f i d=>rec (b,f,i,d)) q.1 q.2
def jfU (l:List qP) (g:List qP) (h:Int) (n:Nat) (b:List Int) (f:List Int) (i:Int) (d:qF×List qR) (j:qD->Res) (k:Unit->Res):Res:=Z1N (j7k l g h) n (b,f,i,d) (j,k)
def jbe:Z1q Unit:=NdL 84 84 [.R 1 y20 .S,.t 2 (.clos 171 []),.t 3 (pB 3),.t 6 (pB 6),.R 8 y21 .O,.R 9 y21 .O,.R 17 y20 .S,.I 18,.I 19] [(3,y28,[.S,.S]),(6,y28,[.O,.O])] (λb d=>(b.2.1,b.2.2.1,b.2.2.2.2.2.1,d.1.2)) (λb v=>(b.1,v.1,v.2.1,b.2.2.2.1,b.2.2.2.2.1,v.2.2.1,())) (λd v=>((d.1.1,v.2.2.2),(d.2.1.1,d.2.1.2),())) (λb d=>j7k b.1 b.2.2.2.1 b.2.2.2.2.1) λb d f=>((λg=>f (.exit 0) [(3,pB 3),(6,pB 6)] [(3,⟨y28,d.1.1,g,[.S,.S]⟩),(6,⟨y28,d.2.1.1,d.2.1.2,[.O,.O]⟩)]),(λ_=>f .ret [(6,pB 6),(7,vB false)] [(6,⟨y28,d.2.1.1,([],[]),[.O,.O]⟩)]))
theorem jkE:CN 0 58 Tryz.f170 jbe:=lK j7R [j3Y,j6a] (oI 1853 1 @jkG oN) ([],[]) [(0,[3,6],[3,6])] ([6,7],[6]) λ_ _ _ _ _=>by delta j7k j30 jca j5g j6a j3R;refine gz j7i λ_ b=>gz j0X λ_ d=>gz j6T λ_ f=>gz j1e λ_ g=> ?_;rewrite [<-b,<-d,<-f,<-g];kernel_rfl
def jbY (l:List qP) (d:qF×List qR) (b:Bool->qD->Res):Res:=jfU l l (nI (List.length l)) Z1Y [] [] 0 d (λf=>b true f) (λ_=>b false ([],[]))
def jfl:Z1q Unit:=λσ k=>rdN σ 84<|rd1 σ 1 y20 .S λl=>rdT σ 2 (.clos 171 [])<|rdT σ 3 (pB 3)<|rdT σ 6 (pB 6)<|rdB σ 3 y28 [.S,.S] λa d=>rdB σ 6 y28 [.O,.O] λf h=>jbY l d (λg b=>k .ret (mkS 84 84 [(6,pB 6),(7,vB g)] [(6,⟨y28,f,b,[.S,.S]⟩)]))
theorem jkH:CN 0 3 Tryz.f170 jfl:=λg=>jo8 follows j2m j7R g [j3Y,j6a,jbe] (oI 26 2 @jkE oN) ([],[]) [] ([6,7],[6]) [(1,[],[(6,[.S,.S])])] λσ k _ h=>rN h λq h=>rV h λl i h=>rT h λj h=>rT h λn h=>rT h λp h=>rB h λa d b h=>rB h λr w f h=>⟨_,Zaj (m:=84) q (sC i (sC j (sC n (sC p sN)))) (bC b (bC f bN)),.trans (by kernel_rfl) h⟩
def jcM (d:qF×List qR) (l:List qP) (b:qD->Bool->Res):Res:=jbY l d λt f=>b f t
def jmG:Sig Unit:=sg [.borrow y28 true,.borrow y20 false,.clos 171 []] [true,false] [(y28,none),(y20,none)] [] λb g k=>jcM b.1 b.2.1 (λd f=>k [⟨y28,true,d,[.S,.S]⟩,wB f] [] [])
theorem jmp:SO 170 jmG:=fK (np:=0) j7R [j3Y,j6a,jbe,jfl] (oI 3 3 @jkH oN) false Tryz.func170 λ_ _ _ _=>by kernel_rfl
def j92 (l:List qP) (b:Bool->Res):Res:=bif decide ((nI (List.length l))>400) then b false else jcM ([],[]) l λr d=>b d
def jc9:Sig Unit:=sg [.look y20 false] [false] [(y20,none)] [] λd f k=>j92 d.1 (λb=>k [wB b] [] [])
theorem jl5:SO 104 jc9:=fK (np:=0) (Z9H jmp Za2) [] oN false Tryz.func104 λ_ _ _ _=>by kernel_rfl
end
end Go.PI.G
namespace Go.PI.G
noncomputable section
open Go Go.PI Go.Proofs
open Go.Code (pl pr)
def j2A (f:List qP) (g:Int) (d:List Int) (b:Int) (rec:(List Int)->Int->Res) (h:(List Int)->Res):Res:=bif decide (b<g) then bif inb b (List.length f) then bif ((nth (0,0,0,eS,[],[],0,eS,[],[],eS,eS) f b).1==3) then bif lim ((List.length d)+1) then rec (d++[Z9x (b+1)]) (Z9x (b+1)) else none else rec d (Z9x (b+1)) else none else h d
def j4E (d:List qP) (f:Int):((List Int)×Int)->((List Int)×Int->Res)->(((List Int)->Res))->Res:=λv rec q=>j2A d f v.1 v.2 (λb g=>rec (b,g)) q
def j9r (d:List qP) (f:Int) (n:Nat) (b:List Int) (g:Int) (h:(List Int)->Res):Res:=Z1N (j4E d f) n (b,g) (h)
def j8H:Z1q Unit:=NdL 28 28 [.R 3 y21 .O,.R 11 y20 .S,.I 12,.I 13] [] (λb f=>(b.1,b.2.2.2.1)) (λb v=>(v.1,b.2.1,b.2.2.1,v.2,())) (λf v=>()) (λb f=>j4E b.2.1 b.2.2.1) λb f g=>((λd=>g (.exit 0) [(3,v1 y21 d .O)] []))
theorem jhs:CN 0 122 Tryz.f108 j8H:=lK (Z9H jfN Za2) [] oN ([],[]) [(0,[3],[])] ([],[]) λ_ _ _ _ _=>by kernel_rfl
def j5r (l:List qP) (d:(List Int)->Res):Res:=j9s l λr=>bif !r then d [] else j9r l (nI (List.length l)) Z1Y [] 0 λb=>d b
def jai:Sig Unit:=sg [.borrow y20 false] [false] [(y20,none)] [] λd f k=>j5r d.1 (λb=>k [w1 y21 b .O] [] [])
theorem jiV:SO 108 jai:=fK (np:=0) (Z9H jfN Za2) [j8H] (oI 122 0 @jhs oN) false Tryz.func108 λ_ _ _ _=>by delta j5r jgi j8H j9r;refine gz j9s λ_ b=>gz j4E λ_ d=> ?_;rewrite [<-b,<-d];kernel_rfl
end
end Go.PI.G
