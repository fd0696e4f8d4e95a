/-
  Program's code interpreted over typed values; printed texts; plain laws. No conditions.
-/
import Derived.Test.YtnemiodjnhfejaaGreatNEd
import Derived.Test.YtnemiodjnhfejaaGreatNEe
import Derived.Test.YtnemiodjnhfejaaGreatNEf
import Derived.Test.YtnemiodjnhfejaaGreatNEg
set_option linter.unusedVariables false
set_option maxRecDepth 100000
namespace Go.PI.G
noncomputable section
open Go Go.PI Go.Proofs
open Go.Code (pl pr)
def j2N (d:List qV) (h:Int) (b:Int) (rec:Int->Res) (f:Unit->Res) (g:Unit->Res):Res:=bif decide (b<h) then bif inb b (List.length d) then j18 (nth (0,0,eS) d b) λr=>bif !r then g () else rec (Z9K (b+1)) else none else f ()
def j7N (b:List qV) (d:Int):Int->(Int->Res)->((Unit->Res)×(Unit->Res))->Res:=λv rec q=>j2N b d v (λf=>rec (f)) q.1 q.2
def jcV (f:List qV) (g:Int) (n:Nat) (h:Int) (b:Unit->Res) (d:Unit->Res):Res:=Z1f (j7N f g) n (h) (b,d)
def jcq:Z1d Unit:=NdL 23 23 [.R 0 y3 .S,.R 5 y3 .S,.I 6,.I 7] [] (λb d=>(b.2.2.2.1)) (λb v=>(b.1,b.2.1,b.2.2.1,v,())) (λd v=>()) (λb d=>j7N b.2.1 b.2.2.1) λb d f=>((λ_=>f (.exit 0) [(0,v1 y3 b.1 .S)] []),(λ_=>f .ret [(2,vB false)] []))
theorem jhR:CN 0 26 Tryz.f208 jcq:=lK (Za6 j6M Zas) [] oN ([],[]) [(0,[0],[])] ([2],[]) λ_ _ _ _ _=>by kernel_rfl
def j27 (l:List qV) (b:Bool->Res):Res:=jcV l (nI (List.length l)) Z1c 0 (λ_=>bif decide ((nI (List.length l))>=1) then b (decide ((nI (List.length l))<=8)) else b false) (λ_=>b false)
def jar:Sig Unit:=sg [.look y3 false] [false] [(y3,none)] [] λd f k=>j27 d.1 (λb=>k [wB b] [] [])
theorem jj9:SO 208 jar:=fK (np:=0) (Za6 j6M Zas) [jcq] (oI 26 0 @jhR oN) false Tryz.func208 λ_ _ _ _=>by kernel_rfl
def j19 (d:qG) (b:Bool->Res):Res:=bif (d.1==0) then bif sEq d.2.1 eS then bif ((nI (List.length d.2.2.1))==0) then bif ((nI (List.length d.2.2.2.1))==0) then bif sEq d.2.2.2.2.1 eS then b (sEq d.2.2.2.2.2 eS) else b false else b false else b false else b false else b false
def j9w:Sig Unit:=sg [.look y13 true] [false] [(y13,none)] [] λd f k=>j19 d.1 (λb=>k [wB b] [] [])
theorem jcA:SO 209 j9w:=fK (np:=0) Zas [] oN false Tryz.func209 λ_ _ _ _=>by kernel_rfl
theorem jeU:FS [(154,j2p),(208,jar),(209,j9w),(210,j3t)]:=(Za6 j8b (Za6 jj9 (Za6 jcA (Za6 jbO Zas))))
def j5u (d:Bool) (f:Bool) (s:qS) (b:Bool->Res):Res:=bif (s.1==1) then bif d then j27 s.2.2.2.1 λr=>bif r then j19 s.2.2.2.2 λg=>b g else b false else b false else bif (s.1==2) then j27 s.2.2.1 λh=>bif h then j27 s.2.2.2.1 λi=>bif i then j19 s.2.2.2.2 λj=>b j else b false else b false else bif (s.1==3) then j27 s.2.2.1 λk=>bif k then bif f then j19 s.2.2.2.2 λl=>b l else b false else b false else bif (s.1==4) then bif d then bif f then j19 s.2.2.2.2 λm=>b m else b false else b false else bif (s.1==5) then bif d then bif f then j1W s.2.2.2.2 λn=>bif n then b (sEq s.2.2.2.2.2.1 s.2.1) else b false else b false else b false else b false
def j9U:Z1d Unit:=Nd 93 93 [.t 1 (pB 1),.B 3,.B 4] [(1,y17,[.S,.S,.S,.S])] λb g d=>j5u b.1 b.2.1 g.1.2 (λf=>d .ret [(2,vB f)] [])
theorem jiC:CN 0 31 Tryz.f155 j9U:=nK jeU [] oN ([],[]) [] ([2],[]) λ_ _ _=>by delta j5u jar j9w j3t;refine gz j27 λ_ b=>gz j19 λ_ d=>gz j1W λ_ f=> ?_;rewrite [<-b,<-d,<-f];kernel_rfl
def j2V (s:qS) (b:Bool->Res):Res:=j0y s.2.1 λr=>bif !r then b false else j5u ((nI (List.length s.2.2.1))==0) ((nI (List.length s.2.2.2.1))==0) s λt=>b t
def j67:Sig Unit:=sg [.look y17 true] [false] [(y17,none)] [] λd f k=>j2V d.1 (λb=>k [wB b] [] [])
theorem jf3:SO 155 j67:=fK (np:=0) jeU [j9U] (oI 31 0 @jiC oN) false Tryz.func155 λ_ _ _ _=>by delta j2V j2p j9U;refine gz j0y λ_ b=>gz j5u λ_ d=> ?_;rewrite [<-b,<-d];kernel_rfl
theorem jgM:FS [(172,j16),(242,j6X)]:=(Za6 j3T (Za6 jfQ Zas))
def j5s (f:List qT) (g:Int) (d:qF×List qR) (b:Int) (rec:Int->Res) (h:Unit->Res) (i:Unit->Res):Res:=bif decide (b<g) then bif inb b (List.length f) then bif inb b (List.length d.2) then j0r (nth (eS,[],[]) f b) (nth [] d.2 b) λr=>bif !r then i () else rec (Z9K (b+1)) else none else none else h ()
def j7t (b:List qT) (f:Int) (d:qF×List qR):Int->(Int->Res)->((Unit->Res)×(Unit->Res))->Res:=λv rec q=>j5s b f d v (λg=>rec (g)) q.1 q.2
def jch (b:List qT) (f:Int) (d:qF×List qR) (n:Nat) (g:Int) (h:Unit->Res) (i:Unit->Res):Res:=Z1f (j7t b f d) n (g) (h,i)
def jbh:Z1d Unit:=NdL 38 38 [.t 1 (pB 1),.R 21 y30 .S,.I 22,.I 23] [(1,y33,[.S,.S])] (λb d=>(b.2.2.1)) (λb v=>(b.1,b.2.1,v,())) (λd v=>((d.1.1,d.1.2),())) (λb d=>j7t b.1 b.2.1 d.1.2) λb d f=>((λ_=>f (.exit 0) [] []),(λ_=>f .ret [(2,vB false)] []))
theorem jkQ:CN 0 58 Tryz.f186 jbh:=lK jgM [] oN ([],[]) [(0,[],[])] ([2],[]) λ_ _ _ _ _=>by kernel_rfl
def j5E (d:qF×List qR) (b:Bool->Res):Res:=j5Q d.1 λr=>bif !r then b false else bif ((nI (List.length d.2)) != (nI (List.length d.1))) then b false else jch d.1 (nI (List.length d.1)) d Z1c 0 (λ_=>b true) (λ_=>b false)
def j84:Sig Unit:=sg [.look y33 true] [false] [(y33,none)] [] λd f k=>j5E d.1 (λb=>k [wB b] [] [])
theorem jgO:SO 186 j84:=fK (np:=0) jgM [jbh] (oI 58 0 @jkQ oN) false Tryz.func186 λ_ _ _ _=>by delta j5E j6X jbh jch;refine gz j5Q λ_ b=>gz j7t λ_ d=> ?_;rewrite [<-b,<-d];kernel_rfl
theorem jdz:FS [(243,j5l),(244,j7q)]:=(Za6 jdN (Za6 jdO Zas))
def j2M (f:List qR) (g:Int) (d:Int) (b:qF×List qR) (rec:Int->qD->Res) (h:qD->Res):Res:=bif decide (d<g) then bif inb d (List.length f) then j5x (nth [] f d) λr=>bif lim ((List.length b.2)+1) then rec (Z9K (d+1)) (b.1,(b.2++[r])) else none else none else h b
def j4P (d:List qR) (f:Int):(Int×qD)->(Int×qD->Res)->((qD->Res))->Res:=λv rec q=>j2M d f v.1 v.2 (λg b=>rec (g,b)) q
def j9G (d:List qR) (f:Int) (n:Nat) (g:Int) (b:qF×List qR) (h:qD->Res):Res:=Z1f (j4P d f) n (g,b) (h)
def j8S:Z1d Unit:=NdL 28 28 [.t 2 (pB 2),.t 3 (pB 3),.R 11 y32 .S,.I 12,.I 13] [(2,y33,[.O,.O]),(3,y33,[.O,.O])] (λd b=>(d.2.2.1,b.2.1.2)) (λd v=>(d.1,d.2.1,v.1,())) (λb v=>((b.1.1,b.1.2),(b.2.1.1,v.2),())) (λd b=>j4P d.1 d.2.1) λd b g=>((λf=>g (.exit 0) [(2,pB 2),(3,pB 3)] [(2,⟨y33,b.1.1,b.1.2,[.O,.O]⟩),(3,⟨y33,b.2.1.1,f,[.O,.O]⟩)]))
theorem jhQ:CN 0 58 Tryz.f187 j8S:=lK jdz [] oN ([],[]) [(0,[2,3],[2,3])] ([],[]) λ_ _ _ _ _=>by kernel_rfl
def j1t (d:qF×List qR) (f:qD->Res):Res:=j3z d.1 λr=>j9G d.2 (nI (List.length d.2)) Z1c 0 (r,[]) λb=>f b
def j5m:Sig Unit:=sg [.borrow y33 true] [true] [(y33,none)] [] λd f k=>j1t d.1 (λb=>k [⟨y33,true,b,[.O,.O]⟩] [] [])
theorem jdQ:SO 187 j5m:=fK (np:=0) jdz [j8S] (oI 58 0 @jhQ oN) false Tryz.func187 λ_ _ _ _=>by delta j1t j5l j8S j9G;refine gz j3z λ_ b=>gz j4P λ_ d=> ?_;rewrite [<-b,<-d];kernel_rfl
def j14 (t:qB×qE×qL) (l:List qW) (s:qS) (b:qR->Int->Res):Res:=bif (s.1==1) then j6l t l s.2.2.2.1 λr d=>b r d else bif (s.1==2) then j6m t l s.2.2.1 s.2.2.2.1 λf g=>b f g else bif (s.1==3) then j6k t l s.2.2.1 λh i=>b h i else bif (s.1==5) then j5t t l s.2.2.2.2 λj k=>b j k else b [] 0
def j5n:Sig Unit:=sg [.borrow y29 true,.borrow y31 false,.borrow y17 true] [false,false] [(y29,none),(y31,none),(y17,none)] [] λb g k=>j14 b.1 b.2.1 b.2.2.1 (λd f=>k [w1 y31 d .O,wI f] [] [])
theorem jdR:SO 246 j5n:=fK (np:=0) (Za6 jkx (Za6 jky (Za6 jkw (Za6 jj6 Zas)))) [] oN false Tryz.func246 λ_ _ _ _=>by delta j14 jfm jfn jfl je6;refine gz j6l λ_ b=>gz j6m λ_ d=>gz j6k λ_ f=>gz j5t λ_ g=> ?_;rewrite [<-b,<-d,<-f,<-g];kernel_rfl
theorem j5G:FS [(113,j3u),(244,j7q),(246,j5n),(287,j4f)]:=(Za6 jbR (Za6 jdO (Za6 jdR (Za6 jcz Zas))))
def j2L (b:Int) (s:qS) (t:qB×qE×qL) (d:Bool->Res):Res:=bif decide (b>=0) then d (sEq t.1 s.2.1) else d false
def j29:Z1d Unit:=Nd 86 86 [.t 2 (pB 2),.t 3 (pB 3),.t 4 (pB 4),.t 8 (pB 8),.t 10 (pB 10),.t 11 (pB 11),.I 12,.R 29 y30 .S,.I 30,.I 31] [(2,y33,[.S,.S]),(3,y17,[.S,.S,.S,.S]),(4,y33,[.O,.O]),(8,y33,[.S,.O]),(10,y29,[.S,.S]),(11,y31,[.O])] λd b g=>j2L d.1 b.2.1.2 b.2.2.2.2.1.2 (λf=>g .normal [(2,pB 2),(3,pB 3),(4,pB 4),(8,pB 8),(11,pB 11),(12,vI d.1),(29,v1 y30 d.2.1 .S),(30,vI d.2.2.1),(31,vI d.2.2.2.1),(49,vB f)] [(2,⟨y33,b.1.1,b.1.2,[.S,.S]⟩),(3,⟨y17,b.2.1.1,b.2.1.2,[.S,.S,.S,.S]⟩),(4,⟨y33,b.2.2.1.1,b.2.2.1.2,[.O,.O]⟩),(8,⟨y33,b.2.2.2.1.1,b.2.2.2.1.2,[.S,.O]⟩),(11,⟨y31,b.2.2.2.2.2.1.1,b.2.2.2.2.2.1.2,[.O]⟩)])
theorem jgd:CN 0 256412 Tryz.f245 j29:=nK j5G [] oN ([2,3,4,8,11,12,29,30,31,49],[2,3,4,8,11]) [] ([],[]) λ_ _ _=>by kernel_rfl
def j1A (b:Int) (g:Bool) (d:qF×List qR) (s:qS) (x:List qW) (f:qR->Res):Res:=bif g then bif inb b (List.length d.1) then bif inb b (List.length d.2) then j14 (nth (eS,[],[]) d.1 b) (nth [] d.2 b) s λr i=>Z87 (f r) (f r) else none else none else bif decide (b>=0) then bif inb b (List.length d.2) then j5x (nth [] d.2 b) λh=>f h else none else f x
def j4s:Z1d Unit:=Nd 86 86 [.t 2 (pB 2),.t 3 (pB 3),.t 4 (pB 4),.t 8 (pB 8),.t 11 (pB 11),.I 12,.R 29 y30 .S,.I 30,.I 31,.B 49] [(2,y33,[.S,.S]),(3,y17,[.S,.S,.S,.S]),(4,y33,[.O,.O]),(8,y33,[.S,.O]),(11,y31,[.O])] λd b f=>j1A d.1 d.2.2.2.2.1 b.1.2 b.2.1.2 b.2.2.2.2.1.2 (λg=>f .normal [(2,pB 2),(3,pB 3),(4,pB 4),(8,pB 8),(11,pB 11),(29,v1 y30 d.2.1 .S),(30,vI d.2.2.1),(31,vI d.2.2.2.1)] [(2,⟨y33,b.1.1,b.1.2,[.S,.S]⟩),(3,⟨y17,b.2.1.1,b.2.1.2,[.S,.S,.S,.S]⟩),(4,⟨y33,b.2.2.1.1,b.2.2.1.2,[.O,.O]⟩),(8,⟨y33,b.2.2.2.1.1,b.2.2.2.1.2,[.S,.O]⟩),(11,⟨y31,b.2.2.2.2.1.1,g,[.O]⟩)])
theorem jge:CN 0 256413 Tryz.f245 j4s:=nK j5G [j29] oN ([2,3,4,8,11,29,30,31],[2,3,4,8,11]) [] ([],[]) λ_ _ _=>by delta j1A j5n j7q;refine gz j14 λ_ b=>gz j5x λ_ d=> ?_;rewrite [<-b,<-d];kernel_rfl
def j0Y (g:List qT) (h:Int) (d:qF×List qR) (s:qS) (b:Int) (f:qF×List qR) (rec:Int->qD->Res) (i:qD->Res):Res:=bif decide (b<h) then bif inb b (List.length g) then j1Y d.1 (nth (eS,[],[]) g b).1 λr=>j2L r s (nth (eS,[],[]) g b) λt=>j1A r t d s [] λx=>bif lim ((List.length f.2)+1) then rec (Z9K (b+1)) (f.1,(f.2++[x])) else none else none else i f
def j1M (f:List qT) (g:Int) (d:qF×List qR) (s:qS):(Int×qD)->(Int×qD->Res)->((qD->Res))->Res:=λv rec q=>j0Y f g d s v.1 v.2 (λh b=>rec (h,b)) q
def j4O (f:List qT) (g:Int) (d:qF×List qR) (s:qS) (n:Nat) (h:Int) (b:qF×List qR) (i:qD->Res):Res:=Z1f (j1M f g d s) n (h,b) (i)
def j7c:Z1d Unit:=NdL 86 86 [.t 2 (pB 2),.t 3 (pB 3),.t 4 (pB 4),.t 8 (pB 8),.R 29 y30 .S,.I 30,.I 31] [(2,y33,[.S,.S]),(3,y17,[.S,.S,.S,.S]),(4,y33,[.O,.O]),(8,y33,[.S,.O])] (λd b=>(d.2.2.1,b.2.2.2.1.2)) (λd v=>(d.1,d.2.1,v.1,())) (λb v=>((b.1.1,b.1.2),(b.2.1.1,b.2.1.2),(b.2.2.1.1,b.2.2.1.2),(b.2.2.2.1.1,v.2),())) (λd b=>j1M d.1 d.2.1 b.1.2 b.2.1.2) λd b g=>((λf=>g (.exit 0) [(4,pB 4),(8,pB 8)] [(4,⟨y33,b.2.2.1.1,b.2.2.1.2,[.O,.O]⟩),(8,⟨y33,b.2.2.2.1.1,f,[.S,.O]⟩)]))
theorem jgc:CN 0 250 Tryz.f245 j7c:=lK j5G [j29,j4s] (oI 924 0 @jgd (oI 925 1 @jge oN)) ([],[]) [(0,[4,8],[4,8])] ([],[]) λ_ _ _ _ _=>by delta j1M j0Y j3u j29 j4s;refine gz j1Y λ_ b=>gz j2L λ_ d=>gz j1A λ_ f=> ?_;rewrite [<-b,<-d,<-f];kernel_rfl
def j35 (d:qF×List qR) (s:qS) (f:qD->Int->Res):Res:=j1E d.1 s.2.2.2.2 λr g=>bif (g != 0) then f ([],[]) (Z9K (10+g)) else j4O r (nI (List.length r)) d s Z1c 0 (r,[]) λb=>f b 0
def j8w:Sig Unit:=sg [.borrow y33 true,.borrow y17 true] [true,false] [(y33,none),(y17,none)] [] λb g k=>j35 b.1 b.2.1 (λd f=>k [⟨y33,true,d,[.S,.S]⟩,wI f] [] [])
theorem jhc:SO 245 j8w:=fK (np:=0) j5G [j29,j4s,j7c] (oI 250 2 @jgc oN) true Tryz.func245 λ_ _ _ _=>by delta j35 j4f j7c j4O;refine gz j1E λ_ b=>gz j1M λ_ d=> ?_;rewrite [<-b,<-d];kernel_rfl
theorem jgN:FS [(113,j3u),(155,j67),(186,j84),(187,j5m),(245,j8w),(246,j5n)]:=(Za6 jbR (Za6 jf3 (Za6 jgO (Za6 jdQ (Za6 jhc (Za6 jdR Zas))))))
def j73 (b:Int) (s:qS) (d:Unit->Res) (f:Unit->Res):Res:=bif decide (b<0) then bif (s.1 != 5) then f () else bif (s.2.2.2.2.1 != 1) then f () else d () else d ()
def jbi:Z1d Unit:=Nd 77 77 [.t 2 (pB 2),.t 3 (pB 3),.t 4 (pB 4),.I 6] [(2,y33,[.S,.S]),(3,y17,[.S,.S,.S,.S]),(4,y33,[.O,.O])] λf b d=>j73 f.1 b.2.1.2 (λ_=>d .normal [(2,pB 2),(3,pB 3),(4,pB 4),(6,vI f.1)] [(2,⟨y33,b.1.1,b.1.2,[.S,.S]⟩),(3,⟨y17,b.2.1.1,b.2.1.2,[.S,.S,.S,.S]⟩),(4,⟨y33,b.2.2.1.1,b.2.2.1.2,[.O,.O]⟩)]) (λ_=>d .ret [(4,pB 4),(5,vI 4)] [(4,⟨y33,b.2.2.1.1,([],[]),[.O,.O]⟩)])
theorem jkR:CN 0 30 Tryz.f188 jbi:=nK jgN [] oN ([2,3,4,6],[2,3,4]) [] ([4,5],[4]) λ_ _ _=>by kernel_rfl
def j72 (d:qF×List qR) (s:qS) (f:qD->Int->Res):Res:=j5E d λr=>bif !r then f ([],[]) 1 else j2V s λi=>bif !i then f ([],[]) 1 else j1Y d.1 s.2.1 λb=>j73 b s (λ_=>bif (s.1==5) then j35 d s λj k=>f j k else bif inb b (List.length d.1) then bif inb b (List.length d.2) then j14 (nth (eS,[],[]) d.1 b) (nth [] d.2 b) s λl h=>bif (h != 0) then f ([],[]) (Z9K (10+h)) else j1t d λg=>bif inb b (List.length g.2) then f (g.1,upd g.2 b l) 0 else none else none else none) (λ_=>f ([],[]) 4)
def jgY:Sig Unit:=sg [.borrow y33 true,.borrow y17 true] [true,false] [(y33,none),(y17,none)] [] λb g k=>j72 b.1 b.2.1 (λd f=>k [⟨y33,true,d,[.S,.S]⟩,wI f] [] [])
theorem jmp:SO 188 jgY:=fK (np:=0) jgN [jbi] (oI 30 0 @jkR oN) true Tryz.func188 λ_ _ _ _=>by delta j72 j84 j67 j3u jbi j8w j5n j5m;refine gz j5E λ_ b=>gz j2V λ_ d=>gz j1Y λ_ f=>gz j73 λ_ g=>gz j35 λ_ h=>gz j14 λ_ i=>gz j1t λ_ j=> ?_;rewrite [<-b,<-d,<-f,<-g,<-h,<-i,<-j];kernel_rfl
theorem jdy:FS [(186,j84),(187,j5m),(188,jgY)]:=(Za6 jgO (Za6 jdQ (Za6 jmp Zas)))
def j2B (d:List qS) (f:Int) (b:Int) (now:qF×List qR) (rec:Int->qD->Res) (h:qD->Res) (i:Int->Int->Res):Res:=bif decide (b<f) then bif inb b (List.length d) then j72 now (nth (0,eS,[],[],0,eS,[],[],eS,eS) d b) λr g=>bif (g != 0) then i g b else rec (Z9K (b+1)) r else none else h now
def j4G (b:List qS) (d:Int):(Int×qD)->(Int×qD->Res)->((qD->Res)×(Int->Int->Res))->Res:=λv rec q=>j2B b d v.1 v.2 (λf now=>rec (f,now)) q.1 q.2
def j6C (b:List qS) (d:Int) (n:Nat) (f:Int) (now:qF×List qR) (g:qD->Res) (h:Int->Int->Res):Res:=Z1f (j4G b d) n (f,now) (g,h)
def j8F:Z1d Unit:=λσ k=>rdN σ 39<|rdT σ 4 (pB 4)<|rdT σ 7 (pB 7)<|rd1 σ 18 y27 .S λd=>rdI σ 19 λf=>rdI σ 20 λg=>rdB σ 4 y33 [.O,.O] λa i=>rdB σ 7 y33 [.S,.S] λh now=>j6C d f Z1c g now (λb=>k (.exit 0) (mkS 39 39 [(4,pB 4),(7,pB 7)] [(4,⟨y33,a,i,[.O,.O]⟩),(7,⟨y33,h,b,[.S,.S]⟩)])) (λj l=>k .ret (mkS 39 39 [(4,pB 4),(5,vI j),(6,vI l)] [(4,⟨y33,a,([],[]),[.O,.O]⟩)]))
def j8O:Z1d Unit:=λσ k=>j8F (σ.wk [] [(7,[.S,.S])]) k
theorem jhD:CN 0 122 Tryz.f133 j8O:=λp=>ZaJ [] [(7,[.S,.S])] (jla follows j2j jdy p [] oN [4,7,18,19,20] [4,7] ([],[]) [(0,[4,7],[4,7])] ([4,5,6],[4]) (y:=j8F) λσ k _ h=>rN h λB h=>rT h λz h=>rT h λA h=>rV h λd g h=>rV h λf i h=>rV h λq j h=>rB h λa w l h=>rB h λr now n h=>⟨_,ZaM (m:=39) B (sC z (sC A (sC g (sC i (sC j sN))))) (bC l (bC n bN)),.trans (Z9u (λv:Int×qD=>(mkS 39 39 [(4,pB 4),(7,pB 7),(18,v1 y27 d .S),(19,vI f),(20,vI v.1)] [(4,⟨y33,a,w,[.O,.O]⟩),(7,⟨y33,r,v.2,[.S,.S]⟩)])) (j4G d f) (λ(k:Z83 Unit)=>(((λb=>k (.exit 0) (mkS 39 39 [(4,pB 4),(7,pB 7)] [(4,⟨y33,a,w,[.O,.O]⟩),(7,⟨y33,r,b,[.S,.S]⟩)])),(λC D=>k .ret (mkS 39 39 [(4,pB 4),(5,vI C),(6,vI D)] [(4,⟨y33,a,([],[]),[.O,.O]⟩)]))):(qD->Res)×(Int->Int->Res))) (λv rec k=>by kernel_rfl) Z1c (q,now) k) h⟩)
def j26 (d:qF×List qR) (l:List qS) (b:qD->Int->Int->Res):Res:=j5E d λr=>bif !r then b ([],[]) 1 0 else j1t d λf=>j6C l (nI (List.length l)) Z1c 0 f (λnow=>b now 0 0) (λt g=>b ([],[]) t g)
def jap:Sig Unit:=sg [.borrow y33 true,.borrow y27 false] [true,false,false] [(y33,none),(y27,none)] [] λb h k=>j26 b.1 b.2.1 (λd f g=>k [⟨y33,true,d,[.S,.S]⟩,wI f,wI g] [] [])
theorem jj5:SO 133 jap:=fK (np:=0) jdy [j8O] (oI 122 0 @jhD oN) true Tryz.func133 λ_ _ _ _=>by delta j26 j84 j5m j8O;delta j8F j6C;refine gz j5E λ_ b=>gz j1t λ_ d=>gz j4G λ_ f=> ?_;rewrite [<-b,<-d,<-f];kernel_rfl
def jaY (d:Int×Int×qB) (b:Bool->Res):Res:=j0T d λr=>b (!r)
def jiN:Sig Unit:=sg [.look y2 true] [false] [(y2,none)] [] λd f k=>jaY d.1 (λb=>k [wB b] [] [])
theorem jcx:SO 272 jiN:=fK (np:=0) (Za6 j6K Zas) [] oN false Tryz.func272 λ_ _ _ _=>by kernel_rfl
def j0L (s:List qV) (g:Int) (b:Int) (rec:Int->Res) (d:Unit->Res) (f:Int->Res):Res:=bif decide (b<g) then bif inb b (List.length s) then jaY (nth (0,0,eS) s b) λr=>bif r then f b else rec (Z9K (b+1)) else none else d ()
def j2T (s:List qV) (b:Int):Int->(Int->Res)->((Unit->Res)×(Int->Res))->Res:=λv rec q=>j0L s b v (λd=>rec (d)) q.1 q.2
def j7z (s:List qV) (f:Int) (n:Nat) (g:Int) (b:Unit->Res) (d:Int->Res):Res:=Z1f (j2T s f) n (g) (b,d)
def j7a:Z1d Unit:=NdL 19 19 [.R 0 y3 .S,.c 1 272 [] .unit [],.I 7,.I 8] [] (λb d=>(b.2.2.2.1)) (λb v=>(b.1,b.2.1,b.2.2.1,v,())) (λd v=>()) (λb d=>j2T b.1 b.2.2.1) λb d f=>((λ_=>f (.exit 0) [] []),(λg=>f .ret [(4,vI g)] []))
theorem jc6:CN 0 26 Tryz.f306 j7a:=lK (Za6 jcx Zas) [] oN ([],[]) [(0,[],[])] ([4],[]) λ_ _ _ _ _=>by kernel_rfl
def j5O (s:List qV) (f:Unit) (b:Int->Res):Res:=j7z s (nI (List.length s)) Z1c 0 (λ_=>b (-1)) (λt=>b t)
def jdr:Sig Unit:=sg [.look y3 false,.rclos 272 []] [false] [(y3,none),(.unit,none)] [] λb f k=>j5O b.1 b.2.1 (λd=>k [wI d] [] [])
theorem jdg:SO 306 jdr:=fK (np:=0) (Za6 jcx Zas) [j7a] (oI 26 0 @jc6 oN) false Tryz.func306 λ_ _ _ _=>by kernel_rfl
def j1G (s:List qV) (f:Unit) (b:Bool->Res):Res:=j5O s f λr=>b (decide (r>=0))
def j6A:Sig Unit:=sg [.look y3 false,.rclos 272 []] [false] [(y3,none),(.unit,none)] [] λb f k=>j1G b.1 b.2.1 (λd=>k [wB d] [] [])
theorem jbn:SO 271 j6A:=fK (np:=0) (Za6 jdg Zas) [] oN false Tryz.func271 λ_ _ _ _=>by kernel_rfl
def j1l (l:List qV) (b:Bool->Res):Res:=j0f (nI (List.length l)) 1 8 λr=>bif r then j1G l () λd=>b (!d) else b false
def jan:Sig Unit:=sg [.look y3 false] [false] [(y3,none)] [] λd f k=>j1l d.1 (λb=>k [wB b] [] [])
theorem jj2:SO 213 jan:=fK (np:=0) (Za6 j2l (Za6 jbn Zas)) [] oN false Tryz.func213 λ_ _ _ _=>by delta j1l j1D j6A;refine gz j0f λ_ b=>gz j1G λ_ d=> ?_;rewrite [<-b,<-d];kernel_rfl
theorem jeQ:FS [(160,j2n),(211,j3r),(212,j6z),(213,jan)]:=(Za6 j8a (Za6 jbF (Za6 j93 (Za6 jj2 Zas))))
def j50 (s:qS) (b:Bool->Res):Res:=bif (s.1==1) then bif ((nI (List.length s.2.2.1))==0) then j1l s.2.2.2.1 λr=>b r else b false else bif (s.1==2) then j1l s.2.2.1 λd=>bif d then j1l s.2.2.2.1 λf=>b f else b false else bif (s.1==3) then j1l s.2.2.1 λg=>bif g then b ((nI (List.length s.2.2.2.1))==0) else b false else bif (s.1==4) then bif ((nI (List.length s.2.2.1))==0) then b ((nI (List.length s.2.2.2.1))==0) else b false else b false
def j9M:Z1d Unit:=Nd 91 91 [.t 1 (pB 1)] [(1,y17,[.S,.S,.S,.S])] λg f b=>j50 f.1.2 (λd=>b .ret [(2,vB d)] [])
theorem jin:CN 0 15 Tryz.f161 j9M:=nK jeQ [] oN ([],[]) [] ([2],[]) λ_ _ _=>by delta j50 jan;refine gz j1l λ_ b=> ?_;rewrite [<-b];kernel_rfl
def j2U (s:qS) (b:Bool->Res):Res:=bif (s.1==5) then j1U s.2.2.2.2 λr=>bif r then bif sEq s.2.1 s.2.2.2.2.2.1 then bif ((nI (List.length s.2.2.1))==0) then b ((nI (List.length s.2.2.2.1))==0) else b false else b false else b false else j0p s.2.1 λd=>bif !d then b false else j0d s.2.2.2.2 (0,eS,[],[],eS,eS) λf=>bif !f then b false else j50 s λt=>b t
def j8e:Sig Unit:=sg [.look y17 true] [false] [(y17,none)] [] λd f k=>j2U d.1 (λb=>k [wB b] [] [])
theorem jeW:SO 161 j8e:=fK (np:=0) jeQ [j9M] (oI 15 0 @jin oN) false Tryz.func161 λ_ _ _ _=>by delta j2U j3r j2n j6z j9M;refine gz j1U λ_ b=>gz j0p λ_ d=>gz j0d λ_ f=>gz j50 λ_ g=> ?_;rewrite [<-b,<-d,<-f,<-g];kernel_rfl
def j64 (s:qS) (b:qS->Res):Res:=j0O s.2.2.1 λr=>j0O s.2.2.2.1 λd=>j9c s.2.2.2.2 λf=>b (s.1,s.2.1,r,d,f)
def jiO:Sig Unit:=sg [.borrow y17 true] [true] [(y17,none)] [] λd f k=>j64 d.1 (λb=>k [⟨y17,true,b,[.O,.O,.O,.O]⟩] [] [])
theorem jcy:SO 216 jiO:=fK (np:=0) (Za6 j6r (Za6 jj4 Zas)) [] oN false Tryz.func216 λ_ _ _ _=>by delta j64 j6y je4;refine gz j0O λ_ b=>gz j9c λ_ d=> ?_;rewrite [<-b,<-d];kernel_rfl
theorem jgL:FS [(250,j6V),(251,j1C)]:=(Za6 jfE (Za6 j62 Zas))
def j4X (f:List qT) (g:Int) (d:qF×List qR) (b:Int) (rec:Int->Res) (h:Unit->Res) (i:Unit->Res):Res:=bif decide (b<g) then bif inb b (List.length f) then bif inb b (List.length d.2) then j0E (nth (eS,[],[]) f b) (nth [] d.2 b) λr=>bif !r then i () else rec (Z9K (b+1)) else none else none else h ()
def j7j (b:List qT) (f:Int) (d:qF×List qR):Int->(Int->Res)->((Unit->Res)×(Unit->Res))->Res:=λv rec q=>j4X b f d v (λg=>rec (g)) q.1 q.2
def jbV (b:List qT) (f:Int) (d:qF×List qR) (n:Nat) (g:Int) (h:Unit->Res) (i:Unit->Res):Res:=Z1f (j7j b f d) n (g) (h,i)
def jbe:Z1d Unit:=NdL 38 38 [.t 1 (pB 1),.R 21 y30 .S,.I 22,.I 23] [(1,y33,[.S,.S])] (λb d=>(b.2.2.1)) (λb v=>(b.1,b.2.1,v,())) (λd v=>((d.1.1,d.1.2),())) (λb d=>j7j b.1 b.2.1 d.1.2) λb d f=>((λ_=>f (.exit 0) [] []),(λ_=>f .ret [(2,vB false)] []))
theorem jkI:CN 0 58 Tryz.f195 jbe:=lK jgL [] oN ([],[]) [(0,[],[])] ([2],[]) λ_ _ _ _ _=>by kernel_rfl
def j8U (d:qF×List qR) (b:Bool->Res):Res:=j5H d.1 λr=>bif !r then b false else bif ((nI (List.length d.2)) != (nI (List.length d.1))) then b false else jbV d.1 (nI (List.length d.1)) d Z1c 0 (λ_=>b true) (λ_=>b false)
def jdn:Sig Unit:=sg [.look y33 true] [false] [(y33,none)] [] λd f k=>j8U d.1 (λb=>k [wB b] [] [])
theorem jmm:SO 195 jdn:=fK (np:=0) jgL [jbe] (oI 58 0 @jkI oN) false Tryz.func195 λ_ _ _ _=>by delta j8U j6V jbe jbV;refine gz j5H λ_ b=>gz j7j λ_ d=> ?_;rewrite [<-b,<-d];kernel_rfl
theorem jeR:FS [(231,j5c),(232,j0I)]:=(Za6 jdE (Za6 j3Z Zas))
def j3g (f:List qR) (g:Int) (d:Int) (b:qF×List qR) (rec:Int->qD->Res) (h:qD->Res):Res:=bif decide (d<g) then bif inb d (List.length f) then j0m (nth [] f d) λr=>bif lim ((List.length b.2)+1) then rec (Z9K (d+1)) (b.1,(b.2++[r])) else none else none else h b
def j5J (d:List qR) (f:Int):(Int×qD)->(Int×qD->Res)->((qD->Res))->Res:=λv rec q=>j3g d f v.1 v.2 (λg b=>rec (g,b)) q
def jad (d:List qR) (f:Int) (n:Nat) (g:Int) (b:qF×List qR) (h:qD->Res):Res:=Z1f (j5J d f) n (g,b) (h)
def j9O:Z1d Unit:=NdL 28 28 [.t 2 (pB 2),.t 3 (pB 3),.R 11 y32 .S,.I 12,.I 13] [(2,y33,[.O,.O]),(3,y33,[.O,.O])] (λd b=>(d.2.2.1,b.2.1.2)) (λd v=>(d.1,d.2.1,v.1,())) (λb v=>((b.1.1,b.1.2),(b.2.1.1,v.2),())) (λd b=>j5J d.1 d.2.1) λd b g=>((λf=>g (.exit 0) [(2,pB 2),(3,pB 3)] [(2,⟨y33,b.1.1,b.1.2,[.O,.O]⟩),(3,⟨y33,b.2.1.1,f,[.O,.O]⟩)]))
theorem jip:CN 0 58 Tryz.f174 j9O:=lK jeR [] oN ([],[]) [(0,[2,3],[2,3])] ([],[]) λ_ _ _ _ _=>by kernel_rfl
def j10 (d:qF×List qR) (f:qD->Res):Res:=j3f d.1 λr=>jad d.2 (nI (List.length d.2)) Z1c 0 (r,[]) λb=>f b
def j2o:Sig Unit:=sg [.borrow y33 true] [true] [(y33,none)] [] λd f k=>j10 d.1 (λb=>k [⟨y33,true,b,[.O,.O]⟩] [] [])
theorem jaV:SO 174 j2o:=fK (np:=0) jeR [j9O] (oI 58 0 @jip oN) false Tryz.func174 λ_ _ _ _=>by delta j10 j5c j9O jad;refine gz j3f λ_ b=>gz j5J λ_ d=> ?_;rewrite [<-b,<-d];kernel_rfl
theorem jdx:FS [(174,j2o),(176,j0P),(295,j9q),(296,j5L),(297,j5K),(298,jal)]:=(Za6 jaV (Za6 j89 (Za6 ji1 (Za6 jep (Za6 jeo (Za6 jiZ Zas))))))
def j2b (f:Int) (h:Int) (d:qF×List qR) (x:qG) (c:List qT) (b:qF×List qR) (g:qD->Res):Res:=bif (h==1) then Z87 (j0i c x.2.1 λr=>j1h b.2 r [[]] λi=>g (b.1,i)) (Z87 (j0i c x.2.1 λj=>j1h b.2 j [[]] λk=>g (b.1,k)) (j0i c x.2.1 λl=>j1h b.2 l [[]] λm=>g (b.1,m))) else bif (h==2) then j4g b.2 f (Z9K (f+1)) λn=>g (b.1,n) else bif inb f (List.length d.1) then bif inb f (List.length d.2) then j4Z (nth (eS,[],[]) d.1 f) (nth [] d.2 f) x λp q=>bif inb f (List.length b.2) then g (b.1,upd b.2 f p) else none else none else none
def j8L:Z1d Unit:=Nd 79 79 [.t 2 (pB 2),.t 3 (pB 3),.t 4 (pB 4),.t 6 (pB 6),.t 8 (pB 8),.I 9,.I 31] [(2,y33,[.S,.S]),(3,y13,[.S,.S]),(4,y33,[.O,.O]),(6,y30,[.O]),(8,y33,[.O,.O])] λf b g=>j2b f.1 f.2.1 b.1.2 b.2.1.2 b.2.2.2.1.2 b.2.2.2.2.1.2 (λd=>g .normal [(4,pB 4),(6,pB 6),(8,pB 8)] [(4,⟨y33,b.2.2.1.1,b.2.2.1.2,[.O,.O]⟩),(6,⟨y30,b.2.2.2.1.1,b.2.2.2.1.2,[.O]⟩),(8,⟨y33,b.2.2.2.2.1.1,d,[.O,.O]⟩)])
theorem jhx:CN 0 253 Tryz.f252 j8L:=nK jdx [] oN ([4,6,8],[4,6,8]) [] ([],[]) λ_ _ _=>by delta j2b j0P j5L j5K jal;refine gz j0i λ_ b=>gz j1h λ_ d=>gz j4g λ_ f=>gz j4Z λ_ g=> ?_;rewrite [<-b,<-d,<-f,<-g];kernel_rfl
def j52 (d:qF×List qR) (x:qG) (f:qD->Int->Res):Res:=j3V d.1 x λr g=>bif (g != 0) then f ([],[]) g else j10 d λh=>j0i d.1 x.2.1 λi=>j2b i x.1 d x r h λb=>f (r,b.2) 0
def jao:Sig Unit:=sg [.borrow y33 true,.borrow y13 true] [true,false] [(y33,none),(y13,none)] [] λb g k=>j52 b.1 b.2.1 (λd f=>k [⟨y33,true,d,[.O,.O]⟩,wI f] [] [])
theorem jj3:SO 252 jao:=fK (np:=0) jdx [j8L] (oI 253 0 @jhx oN) false Tryz.func252 λ_ _ _ _=>by delta j52 j9q j2o j0P j8L;refine gz j3V λ_ b=>gz j10 λ_ d=>gz j0i λ_ f=>gz j2b λ_ g=> ?_;rewrite [<-b,<-d,<-f,<-g];kernel_rfl
theorem jaE:FS [(174,j2o),(176,j0P),(252,jao),(253,jb3),(254,jb4),(255,jb2)]:=(Za6 jaV (Za6 j89 (Za6 jj3 (Za6 jkk (Za6 jkl (Za6 jkj Zas))))))
def j6T (f:Int) (s:qS) (b:Unit->Res) (d:Unit->Res):Res:=bif decide (f<0) then bif (s.1 != 5) then d () else bif (s.2.2.2.2.1 != 1) then d () else b () else b ()
def j6a:Z1d Unit:=Nd 108 108 [.t 2 (pB 2),.t 3 (pB 3),.t 4 (pB 4),.I 6] [(2,y33,[.S,.S]),(3,y17,[.S,.S,.S,.S]),(4,y33,[.O,.O])] λf b d=>j6T f.1 b.2.1.2 (λ_=>d .normal [(2,pB 2),(3,pB 3),(4,pB 4),(6,vI f.1)] [(2,⟨y33,b.1.1,b.1.2,[.S,.S]⟩),(3,⟨y17,b.2.1.1,b.2.1.2,[.S,.S,.S,.S]⟩),(4,⟨y33,b.2.2.1.1,b.2.2.1.2,[.O,.O]⟩)]) (λ_=>d .ret [(4,pB 4),(5,vI 4)] [(4,⟨y33,b.2.2.1.1,([],[]),[.O,.O]⟩)])
theorem jkJ:CN 0 14 Tryz.f196 j6a:=nK jaE [] oN ([2,3,4,6],[2,3,4]) [] ([4,5],[4]) λ_ _ _=>by kernel_rfl
def j9d (f:Int) (d:qF×List qR) (b:Unit->Res):Res:=bif inb f (List.length d.1) then Z87 (Z87 (Z87 (Z87 (bif inb f (List.length d.2) then Z87 (Z87 (b ()) (Z87 (b ()) (b ()))) (Z87 (Z87 (b ()) (b ())) (b ())) else none) (Z87 (bif inb f (List.length d.2) then Z87 (Z87 (b ()) (b ())) (b ()) else none) (bif inb f (List.length d.2) then b () else none))) (Z87 (Z87 (bif inb f (List.length d.2) then Z87 (Z87 (b ()) (b ())) (b ()) else none) (bif inb f (List.length d.2) then b () else none)) (bif inb f (List.length d.2) then b () else none))) (Z87 (Z87 (Z87 (bif inb f (List.length d.2) then Z87 (Z87 (b ()) (Z87 (b ()) (b ()))) (Z87 (Z87 (b ()) (b ())) (b ())) else none) (Z87 (bif inb f (List.length d.2) then Z87 (Z87 (b ()) (b ())) (b ()) else none) (bif inb f (List.length d.2) then b () else none))) (Z87 (Z87 (bif inb f (List.length d.2) then Z87 (Z87 (b ()) (b ())) (b ()) else none) (bif inb f (List.length d.2) then b () else none)) (bif inb f (List.length d.2) then b () else none))) (Z87 (Z87 (Z87 (bif inb f (List.length d.2) then Z87 (Z87 (b ()) (b ())) (b ()) else none) (bif inb f (List.length d.2) then b () else none)) (bif inb f (List.length d.2) then b () else none)) (Z87 (Z87 (Z87 (bif inb f (List.length d.2) then Z87 (Z87 (b ()) (b ())) (b ()) else none) (bif inb f (List.length d.2) then b () else none)) (bif inb f (List.length d.2) then b () else none)) (bif inb f (List.length d.2) then b () else none))))) (Z87 (Z87 (Z87 (Z87 (bif inb f (List.length d.2) then Z87 (Z87 (b ()) (Z87 (b ()) (b ()))) (Z87 (Z87 (b ()) (b ())) (b ())) else none) (Z87 (bif inb f (List.length d.2) then Z87 (Z87 (b ()) (b ())) (b ()) else none) (bif inb f (List.length d.2) then b () else none))) (Z87 (Z87 (bif inb f (List.length d.2) then Z87 (Z87 (b ()) (b ())) (b ()) else none) (bif inb f (List.length d.2) then b () else none)) (bif inb f (List.length d.2) then b () else none))) (Z87 (Z87 (Z87 (bif inb f (List.length d.2) then Z87 (Z87 (b ()) (b ())) (b ()) else none) (bif inb f (List.length d.2) then b () else none)) (bif inb f (List.length d.2) then b () else none)) (bif inb f (List.length d.2) then b () else none))) (Z87 (Z87 (Z87 (Z87 (bif inb f (List.length d.2) then Z87 (Z87 (b ()) (b ())) (b ()) else none) (bif inb f (List.length d.2) then b () else none)) (bif inb f (List.length d.2) then b () else none)) (Z87 (Z87 (Z87 (bif inb f (List.length d.2) then Z87 (Z87 (b ()) (b ())) (b ()) else none) (bif inb f (List.length d.2) then b () else none)) (bif inb f (List.length d.2) then b () else none)) (bif inb f (List.length d.2) then b () else none))) (Z87 (Z87 (Z87 (Z87 (bif inb f (List.length d.2) then Z87 (Z87 (b ()) (b ())) (b ()) else none) (bif inb f (List.length d.2) then b () else none)) (bif inb f (List.length d.2) then b () else none)) (bif inb f (List.length d.2) then b () else none)) (bif inb f (List.length d.2) then b () else none)))) else none
def j8i:Z1d Unit:=Nd 108 108 [.t 2 (pB 2),.t 3 (pB 3),.t 4 (pB 4),.I 6] [(2,y33,[.S,.S]),(3,y17,[.S,.S,.S,.S]),(4,y33,[.O,.O])] λd b f=>j9d d.1 b.1.2 (λ_=>f .normal [(2,pB 2),(3,pB 3),(4,pB 4),(6,vI d.1),(9,pB 9),(10,v1 y31 (nth [] b.1.2.2 d.1) .S)] [(2,⟨y33,b.1.1,b.1.2,[.S,.S]⟩),(3,⟨y17,b.2.1.1,b.2.1.2,[.S,.S,.S,.S]⟩),(4,⟨y33,b.2.2.1.1,b.2.2.1.2,[.O,.O]⟩),(9,⟨y29,false,nth (eS,[],[]) b.1.2.1 d.1,[.S,.S]⟩)])
theorem jkK:CN 0 62 Tryz.f196 j8i:=nK jaE [j6a] oN ([2,3,4,6,9,10],[2,3,4,9]) [] ([],[]) λ_ _ _=>by kernel_rfl
def j53 (l:List qW) (code:Int) (b:Int) (s:qS) (t:qB×qE×qL) (d:qR->Int->Res):Res:=bif (b==1) then j6e t l s.2.2.2.1 λr f=>d r f else bif (b==2) then j6f t l s.2.2.1 s.2.2.2.1 λg h=>d g h else bif (b==3) then j6d t l s.2.2.1 λi j=>d i j else d [] code
def jbf:Z1d Unit:=Nd 108 108 [.t 2 (pB 2),.t 3 (pB 3),.t 4 (pB 4),.I 6,.t 9 (pB 9),.R 10 y31 .S,.I 11,.I 61] [(2,y33,[.S,.S]),(3,y17,[.S,.S,.S,.S]),(4,y33,[.O,.O]),(9,y29,[.S,.S])] λf d g=>j53 f.2.1 f.2.2.1 f.2.2.2.1 d.2.1.2 d.2.2.2.1.2 (λh b=>g .normal [(2,pB 2),(4,pB 4),(6,vI f.1),(10,v1 y31 h .O),(11,vI b)] [(2,⟨y33,d.1.1,d.1.2,[.S,.S]⟩),(4,⟨y33,d.2.2.1.1,d.2.2.1.2,[.O,.O]⟩)])
theorem jkL:CN 0 509 Tryz.f196 jbf:=nK jaE [j6a,j8i] oN ([2,4,6,10,11],[2,4]) [] ([],[]) λ_ _ _=>by delta j53 jb3 jb4 jb2;refine gz j6e λ_ b=>gz j6f λ_ d=>gz j6d λ_ f=> ?_;rewrite [<-b,<-d,<-f];kernel_rfl
def j8V (d:qF×List qR) (s:qS) (b:qD->Int->Res):Res:=j0i d.1 s.2.1 λr=>j6T r s (λ_=>bif (s.1==5) then j52 d s.2.2.2.2 λh g=>bif (g != 0) then b ([],[]) (Z9K (10+g)) else b h 0 else j9d r d λ_=>j53 (nth [] d.2 r) 0 s.1 s (nth (eS,[],[]) d.1 r) λl code=>bif (code != 0) then b ([],[]) (Z9K (10+code)) else j10 d λf=>bif inb r (List.length f.2) then b (f.1,upd f.2 r l) 0 else none) (λ_=>b ([],[]) 4)
def jdo:Sig Unit:=sg [.borrow y33 true,.borrow y17 true] [true,false] [(y33,none),(y17,none)] [] λb g k=>j8V b.1 b.2.1 (λd f=>k [⟨y33,true,d,[.O,.O]⟩,wI f] [] [])
theorem jmn:SO 196 jdo:=fK (np:=0) jaE [j6a,j8i,jbf] (oI 14 0 @jkJ (oI 62 1 @jkK (oI 509 2 @jkL oN))) false Tryz.func196 λ_ _ _ _=>by delta j8V j0P j6a jao j8i jbf j2o;refine gz j0i λ_ b=>gz j6T λ_ d=>gz j52 λ_ f=>gz j9d λ_ g=>gz j53 λ_ h=>gz j10 λ_ i=> ?_;rewrite [<-b,<-d,<-f,<-g,<-h,<-i];kernel_rfl
theorem jdw:FS [(161,j8e),(174,j2o),(195,jdn),(196,jdo)]:=(Za6 jeW (Za6 jaV (Za6 jmm (Za6 jmn Zas))))
def j1w (d:List qS) (g:Int) (b:Int) (f:qF×List qR) (rec:Int->qD->Res) (j:qD->Res) (h:Int->Int->Res):Res:=bif decide (b<g) then bif inb b (List.length d) then j2U (nth (0,eS,[],[],0,eS,[],[],eS,eS) d b) λr=>bif !r then h 1 b else j8V f (nth (0,eS,[],[],0,eS,[],[],eS,eS) d b) λk i=>bif (i != 0) then h i b else rec (Z9K (b+1)) k else none else j f
def j2r (d:List qS) (f:Int):(Int×qD)->(Int×qD->Res)->((qD->Res)×(Int->Int->Res))->Res:=λv rec q=>j1w d f v.1 v.2 (λg b=>rec (g,b)) q.1 q.2
def j99 (d:List qS) (f:Int) (n:Nat) (g:Int) (b:qF×List qR) (h:qD->Res) (i:Int->Int->Res):Res:=Z1f (j2r d f) n (g,b) (h,i)
def j8H:Z1d Unit:=NdL 44 44 [.t 4 (pB 4),.t 7 (pB 7),.R 18 y27 .S,.I 19,.I 20] [(4,y33,[.O,.O]),(7,y33,[.O,.O])] (λd b=>(d.2.2.1,b.2.1.2)) (λd v=>(d.1,d.2.1,v.1,())) (λb v=>((b.1.1,b.1.2),(b.2.1.1,v.2),())) (λd b=>j2r d.1 d.2.1) λd b g=>((λf=>g (.exit 0) [(4,pB 4),(7,pB 7)] [(4,⟨y33,b.1.1,b.1.2,[.O,.O]⟩),(7,⟨y33,b.2.1.1,f,[.O,.O]⟩)]),(λh i=>g .ret [(4,pB 4),(5,vI h),(6,vI i)] [(4,⟨y33,b.1.1,([],[]),[.O,.O]⟩)]))
theorem jho:CN 0 122 Tryz.f138 j8H:=lK jdw [] oN ([],[]) [(0,[4,7],[4,7])] ([4,5,6],[4]) λ_ _ _ _ _=>by delta j2r j1w j8e jdo;refine gz j2U λ_ b=>gz j8V λ_ d=> ?_;rewrite [<-b,<-d];kernel_rfl
def j20 (d:qF×List qR) (l:List qS) (b:qD->Int->Int->Res):Res:=j8U d λr=>bif !r then b ([],[]) 1 0 else j10 d λg=>j99 l (nI (List.length l)) Z1c 0 g (λf=>b f 0 0) (λt h=>b ([],[]) t h)
def jak:Sig Unit:=sg [.borrow y33 true,.borrow y27 false] [true,false,false] [(y33,none),(y27,none)] [] λb h k=>j20 b.1 b.2.1 (λd f g=>k [⟨y33,true,d,[.O,.O]⟩,wI f,wI g] [] [])
theorem jiY:SO 138 jak:=fK (np:=0) jdw [j8H] (oI 122 0 @jho oN) false Tryz.func138 λ_ _ _ _=>by delta j20 jdn j2o j8H j99;refine gz j8U λ_ b=>gz j10 λ_ d=>gz j2r λ_ f=> ?_;rewrite [<-b,<-d,<-f];kernel_rfl
end
end Go.PI.G
namespace Go.PI.G
noncomputable section
open Go Go.PI Go.Proofs
open Go.Code (pl pr)
def j5A (s:qS) (b:Bool->Res):Res:=bif (s.1==0) then bif sEq s.2.1 eS then bif ((nI (List.length s.2.2.1))==0) then bif ((nI (List.length s.2.2.2.1))==0) then j19 s.2.2.2.2 λr=>b r else b false else b false else b false else b false
def j8x:Sig Unit:=sg [.look y17 true] [false] [(y17,none)] [] λd f k=>j5A d.1 (λb=>k [wB b] [] [])
theorem jhd:SO 276 j8x:=fK (np:=0) (Za6 jcA Zas) [] oN false Tryz.func276 λ_ _ _ _=>by kernel_rfl
theorem jfB:FS [(155,j67),(276,j8x)]:=(Za6 jf3 (Za6 jhd Zas))
def j8h (r:Int×Int×qS) (b:Bool->Res):Res:=bif decide (r.1<1) then b true else bif decide (r.1>4) then b true else bif decide (r.2.1<1) then b true else b (decide (r.2.1>1000000))
def jaB:Z1d Unit:=Nd 30 30 [.t 1 (pB 1)] [(1,y19,[.S,.S,.S,.S])] λg d f=>j8h d.1.2 (λb=>f .normal [(1,pB 1),(20,vB b)] [(1,⟨y19,d.1.1,d.1.2,[.S,.S,.S,.S]⟩)])
theorem jjw:CN 0 12 Tryz.f218 jaB:=nK jfB [] oN ([1,20],[1]) [] ([],[]) λ_ _ _=>by kernel_rfl
def j7v (r:Int×Int×qS) (b:Bool->Res):Res:=j8h r λt=>bif t then b false else bif (r.1==2) then j2V r.2.2 λd=>b d else j5A r.2.2 λf=>b f
def jce:Sig Unit:=sg [.look y19 true] [false] [(y19,none)] [] λd f k=>j7v d.1 (λb=>k [wB b] [] [])
theorem jlk:SO 218 jce:=fK (np:=0) jfB [jaB] (oI 12 0 @jjw oN) false Tryz.func218 λ_ _ _ _=>by delta j7v jaB j67 j8x;refine gz j8h λ_ b=>gz j2V λ_ d=>gz j5A λ_ f=> ?_;rewrite [<-b,<-d,<-f];kernel_rfl
def j5w (f:Int) (d:List qP) (i:Int) (b:Int) (rec:Int->Res) (g:Unit->Res) (h:Unit->Res):Res:=bif decide (b<i) then bif inb b (List.length d) then bif ((nth (0,0,0,eS,[],[],0,eS,[],[],eS,eS) d b).1==1) then bif ((nth (0,0,0,eS,[],[],0,eS,[],[],eS,eS) d b).2.1==f) then h () else rec (Z9K (b+1)) else rec (Z9K (b+1)) else none else g ()
def jat (b:Int) (d:List qP) (f:Int):Int->(Int->Res)->((Unit->Res)×(Unit->Res))->Res:=λv rec q=>j5w b d f v (λg=>rec (g)) q.1 q.2
def jgw (b:Int) (g:List qP) (h:Int) (n:Nat) (i:Int) (d:Unit->Res) (f:Unit->Res):Res:=Z1f (jat b g h) n (i) (d,f)
def jft:Z1d Unit:=NdL 23 23 [.I 1,.R 7 y20 .S,.I 8,.I 9] [] (λb d=>(b.2.2.2.1)) (λb v=>(b.1,b.2.1,b.2.2.1,v,())) (λd v=>()) (λb d=>jat b.1 b.2.1 b.2.2.1) λb d f=>((λ_=>f (.exit 0) [] []),(λ_=>f .ret [(4,vB true)] []))
theorem jkU:CN 0 26 Tryz.f219 jft:=lK Zas [] oN ([],[]) [(0,[],[])] ([4],[]) λ_ _ _ _ _=>by kernel_rfl
def jaP (l:List qP) (b:Int) (d:Bool->Res):Res:=jgw b l (nI (List.length l)) Z1c 0 (λ_=>d false) (λ_=>d true)
def jdt:Sig Unit:=sg [.look y20 false,.look tI false] [false] [(y20,none),(tI,none)] [] λb f k=>jaP b.1 b.2.1 (λd=>k [wB d] [] [])
theorem jmr:SO 219 jdt:=fK (np:=0) Zas [jft] (oI 26 0 @jkU oN) false Tryz.func219 λ_ _ _ _=>by kernel_rfl
def j3H (h:Int) (d:List Int) (i:Int) (b:Int) (rec:Int->Res) (f:Unit->Res) (g:Unit->Res):Res:=bif decide (b<i) then bif inb b (List.length d) then bif ((nth 0 d b)==h) then g () else rec (Z9K (b+1)) else none else f ()
def j8E (b:Int) (d:List Int) (f:Int):Int->(Int->Res)->((Unit->Res)×(Unit->Res))->Res:=λv rec q=>j3H b d f v (λg=>rec (g)) q.1 q.2
def jed (f:Int) (g:List Int) (h:Int) (n:Nat) (i:Int) (b:Unit->Res) (d:Unit->Res):Res:=Z1f (j8E f g h) n (i) (b,d)
def jdc:Z1d Unit:=NdL 17 17 [.I 1,.R 7 y21 .S,.I 8,.I 9] [] (λb d=>(b.2.2.2.1)) (λb v=>(b.1,b.2.1,b.2.2.1,v,())) (λd v=>()) (λb d=>j8E b.1 b.2.1 b.2.2.1) λb d f=>((λ_=>f (.exit 0) [] []),(λ_=>f .ret [(4,vB true)] []))
theorem jiL:CN 0 26 Tryz.f168 jdc:=lK Zas [] oN ([],[]) [(0,[],[])] ([4],[]) λ_ _ _ _ _=>by kernel_rfl
def j4y (l:List Int) (d:Int) (b:Bool->Res):Res:=jed d l (nI (List.length l)) Z1c 0 (λ_=>b false) (λ_=>b true)
def j8g:Sig Unit:=sg [.look y21 false,.look tI false] [false] [(y21,none),(tI,none)] [] λb f k=>j4y b.1 b.2.1 (λd=>k [wB d] [] [])
theorem jf5:SO 168 j8g:=fK (np:=0) Zas [jdc] (oI 26 0 @jiL oN) false Tryz.func168 λ_ _ _ _=>by kernel_rfl
def j3G (i:Int) (g:List Int) (f:Int) (d:List Int) (b:Int) (rec:(List Int)->Int->Res) (h:(List Int)->Res):Res:=bif decide (b<f) then bif inb b (List.length g) then bif ((nth 0 g b) != i) then bif lim ((List.length d)+1) then rec (d++[nth 0 g b]) (Z9K (b+1)) else none else rec d (Z9K (b+1)) else none else h d
def j8D (g:Int) (h:List Int) (d:Int):((List Int)×Int)->((List Int)×Int->Res)->(((List Int)->Res))->Res:=λv rec q=>j3G g h d v.1 v.2 (λb f=>rec (b,f)) q
def jec (h:Int) (i:List Int) (d:Int) (n:Nat) (b:List Int) (f:Int) (g:(List Int)->Res):Res:=Z1f (j8D h i d) n (b,f) (g)
def jdb:Z1d Unit:=NdL 24 24 [.I 1,.R 5 y21 .O,.R 9 y21 .S,.I 10,.I 11] [] (λb f=>(b.2.1,b.2.2.2.2.1)) (λb v=>(b.1,v.1,b.2.2.1,b.2.2.2.1,v.2,())) (λf v=>()) (λb f=>j8D b.1 b.2.2.1 b.2.2.2.1) λb f g=>((λd=>g (.exit 0) [(5,v1 y21 d .O)] []))
theorem jiK:CN 0 58 Tryz.f277 jdb:=lK Zas [] oN ([],[]) [(0,[5],[])] ([],[]) λ_ _ _ _ _=>by kernel_rfl
def j6n (l:List Int) (f:Int) (d:(List Int)->Res):Res:=jec f l (nI (List.length l)) Z1c [] 0 λb=>d b
def jb7:Sig Unit:=sg [.borrow y21 false,.borrow tI false] [false] [(y21,none),(tI,none)] [] λb f k=>j6n b.1 b.2.1 (λd=>k [w1 y21 d .O] [] [])
theorem jkC:SO 277 jb7:=fK (np:=0) Zas [jdb] (oI 58 0 @jiK oN) false Tryz.func277 λ_ _ _ _=>by kernel_rfl
theorem jdd:FS [(168,j8g),(277,jb7)]:=(Za6 jf5 (Za6 jkC Zas))
def j9C (b:List Int) (r:Int×Int×qS) (d:(List Int)->Res):Res:=bif (r.1==1) then j4y b r.2.1 λf=>bif !f then bif lim ((List.length b)+1) then d (b++[r.2.1]) else none else d b else d b
def j8j:Z1d Unit:=Nd 42 42 [.R 3 y21 .O,.t 5 (pB 5),.R 7 y20 .S,.I 8,.I 9] [(5,y19,[.S,.S,.S,.S])] λd f g=>j9C d.1 f.1.2 (λb=>g .normal [(3,v1 y21 b .O),(5,pB 5),(7,v1 y20 d.2.1 .S),(8,vI d.2.2.1),(9,vI d.2.2.2.1)] [(5,⟨y19,f.1.1,f.1.2,[.S,.S,.S,.S]⟩)])
theorem jkT:CN 0 7474 Tryz.f220 j8j:=nK jdd [] oN ([3,5,7,8,9],[5]) [] ([],[]) λ_ _ _=>by kernel_rfl
def j33 (f:List qP) (j:Int) (g:List Int) (d:Int) (rec:(List Int)->Int->Res) (h:(List Int)->Res):Res:=bif decide (d<j) then bif inb d (List.length f) then j9C g (nth (0,0,0,eS,[],[],0,eS,[],[],eS,eS) f d) λb=>bif ((nth (0,0,0,eS,[],[],0,eS,[],[],eS,eS) f d).1==3) then j6n b (nth (0,0,0,eS,[],[],0,eS,[],[],eS,eS) f d).2.1 λr=>rec r (Z9K (d+1)) else bif ((nth (0,0,0,eS,[],[],0,eS,[],[],eS,eS) f d).1==4) then j6n b (nth (0,0,0,eS,[],[],0,eS,[],[],eS,eS) f d).2.1 λi=>rec i (Z9K (d+1)) else rec b (Z9K (d+1)) else none else h g
def j7u (d:List qP) (f:Int):((List Int)×Int)->((List Int)×Int->Res)->(((List Int)->Res))->Res:=λv rec q=>j33 d f v.1 v.2 (λb g=>rec (b,g)) q
def jgv (f:List qP) (g:Int) (n:Nat) (b:List Int) (h:Int) (d:(List Int)->Res):Res:=Z1f (j7u f g) n (b,h) (d)
def jfs:Z1d Unit:=NdL 42 42 [.R 3 y21 .O,.R 7 y20 .S,.I 8,.I 9] [] (λb f=>(b.1,b.2.2.2.1)) (λb v=>(v.1,b.2.1,b.2.2.1,v.2,())) (λf v=>()) (λb f=>j7u b.2.1 b.2.2.1) λb f g=>((λd=>g (.exit 0) [(3,v1 y21 d .O)] []))
theorem jkS:CN 0 58 Tryz.f220 jfs:=lK jdd [j8j] (oI 114 0 @jkT oN) ([],[]) [(0,[3],[])] ([],[]) λ_ _ _ _ _=>by delta j7u j33 j8j jb7;refine gz j9C λ_ b=>gz j6n λ_ d=> ?_;rewrite [<-b,<-d];kernel_rfl
def j90 (l:List qP) (d:(List Int)->Res):Res:=jgv l (nI (List.length l)) Z1c [] 0 λb=>d b
def jds:Sig Unit:=sg [.borrow y20 false] [false] [(y20,none)] [] λd f k=>j90 d.1 (λb=>k [w1 y21 b .O] [] [])
theorem jmq:SO 220 jds:=fK (np:=0) jdd [j8j,jfs] (oI 58 1 @jkS oN) false Tryz.func220 λ_ _ _ _=>by kernel_rfl
def j9J (s:qS) (b:qS->Res):Res:=bif lim (0+(List.length s.2.2.1)) then j0t s.2.2.2.1 λr=>bif lim (0+(List.length s.2.2.2.2.2.2.1)) then bif lim (0+(List.length s.2.2.2.2.2.2.2.1)) then b (s.1,s.2.1,s.2.2.1,r,s.2.2.2.2.1,s.2.2.2.2.2.1,s.2.2.2.2.2.2.1,s.2.2.2.2.2.2.2.1,s.2.2.2.2.2.2.2.2) else none else none else none
def jjK:Sig Unit:=sg [.borrow y17 true] [true] [(y17,none)] [] λd f k=>j9J d.1 (λb=>k [⟨y17,true,b,[.O,.O,.O,.O]⟩] [] [])
theorem jdS:SO 158 jjK:=fK (np:=0) (Za6 j3U Zas) [] oN false Tryz.func158 λ_ _ _ _=>by kernel_rfl
def j2F (h:Int) (f:List qP) (g:Int) (d:List qS) (b:Int) (rec:qU->Int->Res) (i:qU->Res):Res:=bif decide (b<g) then bif inb b (List.length f) then bif ((nth (0,0,0,eS,[],[],0,eS,[],[],eS,eS) f b).1==2) then bif ((nth (0,0,0,eS,[],[],0,eS,[],[],eS,eS) f b).2.1==h) then j9J (nth (0,0,0,eS,[],[],0,eS,[],[],eS,eS) f b).2.2 λr=>bif lim ((List.length d)+1) then rec (d++[r]) (Z9K (b+1)) else none else rec d (Z9K (b+1)) else rec d (Z9K (b+1)) else none else i d
def j7K (g:Int) (h:List qP) (d:Int):(qU×Int)->(qU×Int->Res)->((qU->Res))->Res:=λv rec q=>j2F g h d v.1 v.2 (λb f=>rec (b,f)) q
def jcS (g:Int) (i:List qP) (d:Int) (n:Nat) (b:List qS) (f:Int) (h:qU->Res):Res:=Z1f (j7K g i d) n (b,f) (h)
def jcn:Z1d Unit:=NdL 32 32 [.I 1,.R 5 y27 .O,.R 9 y20 .S,.I 10,.I 11] [] (λb f=>(b.2.1,b.2.2.2.2.1)) (λb v=>(b.1,v.1,b.2.2.1,b.2.2.2.1,v.2,())) (λf v=>()) (λb f=>j7K b.1 b.2.2.1 b.2.2.2.1) λb f g=>((λd=>g (.exit 0) [(5,v1 y27 d .O)] []))
theorem jhJ:CN 0 58 Tryz.f221 jcn:=lK (Za6 jdS Zas) [] oN ([],[]) [(0,[5],[])] ([],[]) λ_ _ _ _ _=>by kernel_rfl
def j5v (l:List qP) (d:Int) (f:qU->Res):Res:=jcS d l (nI (List.length l)) Z1c [] 0 λb=>f b
def jaq:Sig Unit:=sg [.borrow y20 false,.borrow tI false] [false] [(y20,none),(tI,none)] [] λb f k=>j5v b.1 b.2.1 (λd=>k [w1 y27 d .O] [] [])
theorem jj7:SO 221 jaq:=fK (np:=0) (Za6 jdS Zas) [jcn] (oI 58 0 @jhJ oN) false Tryz.func221 λ_ _ _ _=>by kernel_rfl
theorem j7g:FS [(133,jap),(168,j8g),(218,jce),(219,jdt),(220,jds),(221,jaq)]:=(Za6 jj5 (Za6 jf5 (Za6 jlk (Za6 jmr (Za6 jmq (Za6 jj7 Zas))))))
def j2h (l:List qP) (i:Int) (r:Int×Int×qS) (b:Bool->Res):Res:=j7v r λd=>bif !d then b true else bif (r.1==1) then bif Z8e 0 i (List.length l) then jaP (sub l 0 i) r.2.1 λf=>bif f then b true else bif (r.1 != 1) then bif Z8e 0 i (List.length l) then j90 (sub l 0 i) λg=>j4y g r.2.1 λh=>b (!h) else none else b false else none else bif (r.1 != 1) then bif Z8e 0 i (List.length l) then j90 (sub l 0 i) λj=>j4y j r.2.1 λk=>b (!k) else none else b false
def j3M:Z1d Unit:=Nd 74 74 [.R 0 y20 .S,.t 2 (pB 2),.t 4 (pB 4),.I 5,.t 6 (pB 6),.R 11 y20 .S,.I 12,.I 13] [(2,y33,[.O,.O]),(4,y33,[.N,.N]),(6,y19,[.S,.S,.S,.S])] λb d g=>j2h b.1 b.2.1 d.2.2.1.2 (λf=>g .normal [(0,v1 y20 b.1 .S),(2,pB 2),(4,pB 4),(5,vI b.2.1),(6,pB 6),(11,v1 y20 b.2.2.1 .S),(12,vI b.2.2.2.1),(13,vI b.2.2.2.2.1),(48,vB f)] [(2,⟨y33,d.1.1,d.1.2,[.O,.O]⟩),(4,⟨y33,d.2.1.1,d.2.1.2,[.N,.N]⟩),(6,⟨y19,d.2.2.1.1,d.2.2.1.2,[.S,.S,.S,.S]⟩)])
theorem jhT:CN 0 14948 Tryz.f169 j3M:=nK j7g [] oN ([0,2,4,5,6,11,12,13,48],[2,4,6]) [] ([],[]) λ_ _ _=>by delta j2h jce jdt jds j8g;refine gz j7v λ_ b=>gz jaP λ_ d=>gz j90 λ_ f=>gz j4y λ_ g=> ?_;rewrite [<-b,<-d,<-f,<-g];kernel_rfl
def j2i (l:List qP) (i:Int) (d:qF×List qR) (r:Int×Int×qS) (b:Int->qD->Res):Res:=bif Z8e 0 i (List.length l) then Z87 (j5v (sub l 0 i) r.2.1 λn=>Z87 (j26 d n λg h w=>Z87 (Z87 (b h g) (Z87 (b h g) (b h g))) (Z87 (Z87 (b h g) (Z87 (b h g) (b h g))) (Z87 (Z87 (b h g) (b h g)) (Z87 (Z87 (b h g) (b h g)) (b h g))))) (j26 d n λj k y=>Z87 (Z87 (b k j) (b k j)) (Z87 (Z87 (b k j) (b k j)) (b k j)))) (j5v (sub l 0 i) r.2.1 λq=>j26 d q λm f p=>Z87 (Z87 (b f m) (b f m)) (Z87 (Z87 (b f m) (b f m)) (b f m))) else none
def j61:Z1d Unit:=Nd 74 74 [.R 0 y20 .S,.t 2 (pB 2),.t 4 (pB 4),.I 5,.t 6 (pB 6),.R 11 y20 .S,.I 12,.I 13] [(2,y33,[.O,.O]),(4,y33,[.N,.N]),(6,y19,[.S,.S,.S,.S])] λb d f=>j2i b.1 b.2.1 d.2.1.2 d.2.2.1.2 (λcode next=>f .normal [(0,v1 y20 b.1 .S),(2,pB 2),(4,pB 4),(7,pB 7),(8,vI code),(11,v1 y20 b.2.2.1 .S),(12,vI b.2.2.2.1),(13,vI b.2.2.2.2.1)] [(2,⟨y33,d.1.1,d.1.2,[.O,.O]⟩),(4,⟨y33,d.2.1.1,d.2.1.2,[.N,.N]⟩),(7,⟨y33,false,next,[.N,.N]⟩)])
theorem jhU:CN 0 59804 Tryz.f169 j61:=nK j7g [j3M] oN ([0,2,4,7,8,11,12,13],[2,4,7]) [] ([],[]) λ_ _ _=>by delta j2i jaq jap;refine gz j5v λ_ b=>gz j26 λ_ d=> ?_;rewrite [<-b,<-d];kernel_rfl
def j1B (l:List qP) (f:List qP) (g:Int) (b:Int) (d:qF×List qR) (rec:Int->qD->Res) (i:qD->Res) (h:Unit->Res):Res:=bif decide (b<g) then bif inb b (List.length f) then j2h l b (nth (0,0,0,eS,[],[],0,eS,[],[],eS,eS) f b) λt=>bif t then h () else bif ((nth (0,0,0,eS,[],[],0,eS,[],[],eS,eS) f b).1==3) then j2i l b d (nth (0,0,0,eS,[],[],0,eS,[],[],eS,eS) f b) λcode next=>bif (code != 0) then h () else rec (Z9K (b+1)) next else rec (Z9K (b+1)) d else none else i d
def j4Q (l:List qP) (b:List qP) (f:Int):(Int×qD)->(Int×qD->Res)->((qD->Res)×(Unit->Res))->Res:=λv rec q=>j1B l b f v.1 v.2 (λg d=>rec (g,d)) q.1 q.2
def j9I (l:List qP) (b:List qP) (f:Int) (n:Nat) (g:Int) (d:qF×List qR) (h:qD->Res) (i:Unit->Res):Res:=Z1f (j4Q l b f) n (g,d) (h,i)
def jci:Z1d Unit:=λσ k=>rdN σ 74<|rd1 σ 0 y20 .S λl=>rdT σ 2 (pB 2)<|rdT σ 4 (pB 4)<|rd1 σ 11 y20 .S λb=>rdI σ 12 λf=>rdI σ 13 λg=>rdB σ 2 y33 [.O,.O] λa j=>rdB σ 4 y33 [.N,.N] λh d=>j9I l b f Z1c g d (λi=>k (.exit 0) (mkS 74 74 [(0,v1 y20 l .S),(2,pB 2),(4,pB 4)] [(2,⟨y33,a,j,[.O,.O]⟩),(4,⟨y33,h,i,[.N,.N]⟩)])) (λ_=>k .ret (mkS 74 74 [(2,pB 2),(3,vB false)] [(2,⟨y33,a,([],[]),[.O,.O]⟩)]))
def jcr:Z1d Unit:=λσ k=>jci (σ.wk [] [(4,[.N,.N])]) k
theorem jhS:CN 0 58 Tryz.f169 jcr:=λq=>ZaJ [] [(4,[.N,.N])] (jla follows j2j j7g q [j3M,j61] (oI 228 0 @jhT (oI 924 1 @jhU oN)) [0,2,4,11,12,13] [2,4] ([],[]) [(0,[0,2,4],[2,4])] ([2,3],[2]) (y:=jci) λσ k _ h=>rN h λG h=>rV h λl D h=>rT h λE h=>rT h λF h=>rV h λb g h=>rV h λf i h=>rV h λr j h=>rB h λa z n h=>rB h λw d p h=>⟨_,ZaM (m:=74) G (sC D (sC E (sC F (sC g (sC i (sC j sN)))))) (bC n (bC p bN)),.trans (Z9u (λv:Int×qD=>(mkS 74 74 [(0,v1 y20 l .S),(2,pB 2),(4,pB 4),(11,v1 y20 b .S),(12,vI f),(13,vI v.1)] [(2,⟨y33,a,z,[.O,.O]⟩),(4,⟨y33,w,v.2,[.N,.N]⟩)])) (j4Q l b f) (λ(k:Z83 Unit)=>(((λA=>k (.exit 0) (mkS 74 74 [(0,v1 y20 l .S),(2,pB 2),(4,pB 4)] [(2,⟨y33,a,z,[.O,.O]⟩),(4,⟨y33,w,A,[.N,.N]⟩)])),(λ_=>k .ret (mkS 74 74 [(2,pB 2),(3,vB false)] [(2,⟨y33,a,([],[]),[.O,.O]⟩)]))):(qD->Res)×(Unit->Res))) (λv rec k=>by delta j4Q j1B j3M j61;refine gz j2h λ_ B=>gz j2i λ_ C=> ?_;rewrite [<-B,<-C];kernel_rfl) Z1c (r,d) k) h⟩)
def j9H (l:List qP) (b:qD->Bool->Res):Res:=j9I l l (nI (List.length l)) Z1c 0 ([],[]) (λd=>b d (decide ((nI (List.length l))<=400))) (λ_=>b ([],[]) false)
def jjJ:Sig Unit:=sg [.borrow y20 false] [true,false] [(y20,none)] [] λf g k=>j9H f.1 (λb d=>k [⟨y33,true,b,[.S,.S]⟩,wB d] [] [])
theorem jja:SO 169 jjJ:=fK (np:=0) j7g [j3M,j61,jcr] (oI 58 2 @jhS oN) true Tryz.func169 λ_ _ _ _=>by kernel_rfl
def j9B (l:List qP) (b:Bool->Res):Res:=bif decide ((nI (List.length l))>400) then b false else j9H l λr d=>b d
def jgq:Sig Unit:=sg [.look y20 false] [false] [(y20,none)] [] λd f k=>j9B d.1 (λb=>k [wB b] [] [])
theorem jfT:SO 103 jgq:=fK (np:=0) (Za6 jja Zas) [] oN false Tryz.func103 λ_ _ _ _=>by kernel_rfl
def j65 (s:qS) (b:Bool->Res):Res:=bif (s.1==0) then bif sEq s.2.1 eS then bif ((nI (List.length s.2.2.1))==0) then bif ((nI (List.length s.2.2.2.1))==0) then j0d s.2.2.2.2 (0,eS,[],[],eS,eS) λr=>b r else b false else b false else b false else b false
def jcQ:Sig Unit:=sg [.look y17 true] [false] [(y17,none)] [] λd f k=>j65 d.1 (λb=>k [wB b] [] [])
theorem ji2:SO 278 jcQ:=fK (np:=0) (Za6 j93 Zas) [] oN false Tryz.func278 λ_ _ _ _=>by kernel_rfl
def j7k (r:Int×Int×qS) (b:Bool->Res):Res:=j0f r.1 1 4 λd=>bif !d then b false else j0f r.2.1 1 1000000 λf=>bif !f then b false else bif (r.1==2) then j2U r.2.2 λg=>b g else j65 r.2.2 λh=>b h
def jc8:Sig Unit:=sg [.look y19 true] [false] [(y19,none)] [] λd f k=>j7k d.1 (λb=>k [wB b] [] [])
theorem jlc:SO 222 jc8:=fK (np:=0) (Za6 jeW (Za6 j2l (Za6 ji2 Zas))) [] oN false Tryz.func222 λ_ _ _ _=>by delta j7k j1D j8e jcQ;refine gz j0f λ_ b=>gz j2U λ_ d=>gz j65 λ_ f=> ?_;rewrite [<-b,<-d,<-f];kernel_rfl
def j2v (h:Int) (f:List qP) (g:Int) (d:List qS) (b:Int) (rec:qU->Int->Res) (i:qU->Res):Res:=bif decide (b<g) then bif inb b (List.length f) then bif ((nth (0,0,0,eS,[],[],0,eS,[],[],eS,eS) f b).1==2) then bif ((nth (0,0,0,eS,[],[],0,eS,[],[],eS,eS) f b).2.1==h) then j64 (nth (0,0,0,eS,[],[],0,eS,[],[],eS,eS) f b).2.2 λr=>bif lim ((List.length d)+1) then rec (d++[r]) (Z9K (b+1)) else none else rec d (Z9K (b+1)) else rec d (Z9K (b+1)) else none else i d
def j7D (g:Int) (h:List qP) (d:Int):(qU×Int)->(qU×Int->Res)->((qU->Res))->Res:=λv rec q=>j2v g h d v.1 v.2 (λb f=>rec (b,f)) q
def jcI (g:Int) (i:List qP) (d:Int) (n:Nat) (b:List qS) (f:Int) (h:qU->Res):Res:=Z1f (j7D g i d) n (b,f) (h)
def jck:Z1d Unit:=NdL 32 32 [.I 1,.R 5 y27 .O,.R 9 y20 .S,.I 10,.I 11] [] (λb f=>(b.2.1,b.2.2.2.2.1)) (λb v=>(b.1,v.1,b.2.2.1,b.2.2.2.1,v.2,())) (λf v=>()) (λb f=>j7D b.1 b.2.2.1 b.2.2.2.1) λb f g=>((λd=>g (.exit 0) [(5,v1 y27 d .O)] []))
theorem jht:CN 0 58 Tryz.f224 jck:=lK (Za6 jcy Zas) [] oN ([],[]) [(0,[5],[])] ([],[]) λ_ _ _ _ _=>by kernel_rfl
def j51 (l:List qP) (d:Int) (f:qU->Res):Res:=jcI d l (nI (List.length l)) Z1c [] 0 λb=>f b
def jam:Sig Unit:=sg [.borrow y20 false,.borrow tI false] [false] [(y20,none),(tI,none)] [] λb f k=>j51 b.1 b.2.1 (λd=>k [w1 y27 d .O] [] [])
theorem jj0:SO 224 jam:=fK (np:=0) (Za6 jcy Zas) [jck] (oI 58 0 @jht oN) false Tryz.func224 λ_ _ _ _=>by kernel_rfl
def jdl (place:Int) (b:qF×List qR) (d:Unit->Res):Res:=d ()
def jb1:Sig Unit:=sg [.look tI false,.look y33 true] [] [(tI,none),(y33,none)] [] λb d k=>jdl b.1 b.2.1 (λ_=>k [] [] [])
theorem jkh:SO 171 jb1:=fK (np:=0) Zas [] oN false Tryz.func171 λ_ _ _ _=>by kernel_rfl
def jew (x:Int) (d:Int×Int×qS) (b:Bool->Res):Res:=b (x==d.2.1)
def jlW:Sig Unit:=sg [.look tI false,.rptr y19] [false] [(tI,none),(y19,none)] [] λb f k=>jew b.1 b.2.1 (λd=>k [wB d] [] [])
theorem jld:SO 226 jlW:=fK (np:=0) Zas [] oN false Tryz.func226 λ_ _ _ _=>by kernel_rfl
def j1d (s:List Int) (b:Int×Int×qS) (d:(List Int)->qP->Res):Res:=bif lim (List.length s) then dgE (λe k=>jew e b k) s [] (λr=>d r b) else none
def j3S:Sig Unit:=⟨[.eat y21 false,.clos 226 [y19]],[false],λvals ext k=>ao vals y21 [.O] λs vals=>nl vals<|ab ext y19 [.S,.S,.S,.S] λa0 f ext=>nl ext<|j1d s f (λd b=>k [w1 y21 d .O] [] [⟨y19,a0,b,[.S,.S,.S,.S]⟩])⟩
theorem jct:Z17 Tryz.prog 225 j3S:=gS (jpO (U:=0) (T:=220) (e:=tI) (ag:=false) (τ:=y19) (tg:=[.S,.S,.S,.S]) (fl:=[]) (S:=56) (E:=3) (I:=3) (B:=4) follows j2j (by kernel_rfl) Tryz.underlying56 (by kernel_rfl) (by kernel_rfl) (by kernel_rfl) (by kernel_rfl) Tryz.isAgg220 Tryz.sizeOf220 (by kernel_rfl) (by kernel_rfl) (by kernel_rfl) Tryz.func280 (by kernel_rfl) (by kernel_rfl) (by kernel_rfl) (by kernel_rfl) jld (by kernel_rfl) Tryz.func225 (by kernel_rfl) (by kernel_rfl) (by kernel_rfl) (by kernel_rfl)) (by kernel_rfl)
theorem j7S:FS [(138,jak),(171,jb1),(222,jc8),(223,j5g),(224,jam),(225,j3S)]:=(Za6 jiY (Za6 jkh (Za6 jlc (Za6 jdG (Za6 jj0 (Za6 jct Zas))))))
def j54 (l:List qP) (i:Int) (d:qF×List qR) (r:Int×Int×qS) (b:Int->qD->Res):Res:=bif Z8e 0 i (List.length l) then Z87 (j51 (sub l 0 i) r.2.1 λn=>Z87 (j20 d n λg h w=>Z87 (Z87 (b h g) (Z87 (b h g) (b h g))) (Z87 (Z87 (b h g) (Z87 (b h g) (b h g))) (Z87 (Z87 (b h g) (b h g)) (Z87 (Z87 (b h g) (b h g)) (b h g))))) (j20 d n λj k y=>Z87 (Z87 (b k j) (b k j)) (Z87 (Z87 (b k j) (b k j)) (b k j)))) (j51 (sub l 0 i) r.2.1 λq=>j20 d q λm f p=>Z87 (Z87 (b f m) (b f m)) (Z87 (Z87 (b f m) (b f m)) (b f m))) else none
def j3Y:Z1d Unit:=Nd 84 84 [.R 1 y20 .S,.t 2 (.clos 171 []),.t 3 (pB 3),.t 6 (pB 6),.R 8 y21 .O,.R 9 y21 .O,.I 10,.t 11 (pB 11),.R 17 y20 .S,.I 18,.I 19] [(3,y33,[.S,.S]),(6,y33,[.O,.O]),(11,y19,[.S,.S,.S,.S])] λb d f=>j54 b.1 b.2.2.2.1 d.1.2 d.2.2.1.2 (λcode next=>f .normal [(1,v1 y20 b.1 .S),(2,.clos 171 []),(3,pB 3),(6,pB 6),(8,v1 y21 b.2.1 .O),(9,v1 y21 b.2.2.1 .O),(10,vI b.2.2.2.1),(11,pB 11),(12,pB 12),(13,vI code),(17,v1 y20 b.2.2.2.2.1 .S),(18,vI b.2.2.2.2.2.1),(19,vI b.2.2.2.2.2.2.1)] [(3,⟨y33,d.1.1,d.1.2,[.S,.S]⟩),(6,⟨y33,d.2.1.1,d.2.1.2,[.O,.O]⟩),(11,⟨y19,d.2.2.1.1,d.2.2.1.2,[.S,.S,.S,.S]⟩),(12,⟨y33,false,next,[.O,.O]⟩)])
theorem jkN:CN 0 478452 Tryz.f170 j3Y:=nK j7S [] oN ([1,2,3,6,8,9,10,11,12,13,17,18,19],[3,6,11,12]) [] ([],[]) λ_ _ _=>by delta j54 jam jak;refine gz j51 λ_ b=>gz j20 λ_ d=> ?_;rewrite [<-b,<-d];kernel_rfl
def j6U (l:List qP) (i:Int) (b:Bool) (d:qF×List qR) (r:Int×Int×qS) (f:qD->Res) (g:Unit->Res):Res:=bif b then j54 l i d r λcode next=>bif (code != 0) then g () else jdl (Z9K (i+1)) d λ_=>f next else f d
def j6b:Z1d Unit:=λσ k=>rdN σ 84<|rd1 σ 1 y20 .S λl=>rdT σ 2 (.clos 171 [])<|rdT σ 3 (pB 3)<|rdT σ 6 (pB 6)<|rd1 σ 8 y21 .O λb=>rd1 σ 9 y21 .O λf=>rdI σ 10 λi=>rdT σ 11 (pB 11)<|rd1 σ 17 y20 .S λg=>rdI σ 18 λh=>rdI σ 19 λj=>rdO σ 54 λm=>rdB σ 3 y33 [.S,.S] λa d=>rdB σ 6 y33 [.O,.O] λn w=>rdB σ 11 y19 [.S,.S,.S,.S] λp r=>j6U l i m d r (λq=>k .normal (mkS 84 84 [(1,v1 y20 l .S),(2,.clos 171 []),(3,pB 3),(6,pB 6),(8,v1 y21 b .O),(9,v1 y21 f .O),(11,pB 11),(17,v1 y20 g .S),(18,vI h),(19,vI j)] [(3,⟨y33,a,q,[.S,.S]⟩),(6,⟨y33,n,w,[.O,.O]⟩),(11,⟨y19,p,r,[.S,.S,.S,.S]⟩)])) (λ_=>k .ret (mkS 84 84 [(6,pB 6),(7,vB false)] [(6,⟨y33,n,([],[]),[.O,.O]⟩)]))
theorem jkO:CN 0 119613 Tryz.f170 j6b:=λz=>jo4 follows j2j j7S z [j3Y] (oI 4 0 @jkN oN) ([1,2,3,6,8,9,11,17,18,19],[3,6,11]) [] ([6,7],[6]) [(0,[],[(3,[.S,.S])])] λσ k _ h=>rN h λK h=>rV h λl E h=>rT h λF h=>rT h λG h=>rT h λH h=>rV h λA I h=>rV h λB J h=>rV h λi f h=>rT h λg h=>rV h λL j h=>rV h λM n h=>rV h λP p h=>rV h λQ q h=>rB h λa d w h=>rB h λR U y h=>rB h λT r b h=>⟨_,ZaM (m:=84) K (sC E (sC F (sC G (sC H (sC I (sC J (sC f (sC g (sC j (sC n (sC p (sC q sN)))))))))))) (bC w (bC y (bC b bN))),.trans (by delta j6U j3Y jb1;refine gz j54 λ_ C=>gz jdl λ_ D=> ?_;rewrite [<-C,<-D];kernel_rfl) h⟩
def j30 (l:List qP) (g:List qP) (j:Int) (f:List Int) (h:List Int) (b:Int) (d:qF×List qR) (rec:(List Int)->(List Int)->Int->qD->Res) (m:qD->Res) (i:Unit->Res):Res:=bif decide (b<j) then bif inb b (List.length g) then j7k (nth (0,0,0,eS,[],[],0,eS,[],[],eS,eS) g b) λr=>bif !r then i () else bif ((nth (0,0,0,eS,[],[],0,eS,[],[],eS,eS) g b).1==1) then j0W h (nth (0,0,0,eS,[],[],0,eS,[],[],eS,eS) g b).2.1 λn=>bif n then i () else bif lim ((List.length h)+1) then bif lim ((List.length f)+1) then rec (f++[(nth (0,0,0,eS,[],[],0,eS,[],[],eS,eS) g b).2.1]) (h++[(nth (0,0,0,eS,[],[],0,eS,[],[],eS,eS) g b).2.1]) (Z9K (b+1)) d else none else none else j0W f (nth (0,0,0,eS,[],[],0,eS,[],[],eS,eS) g b).2.1 λp=>bif !p then i () else j6U l b ((nth (0,0,0,eS,[],[],0,eS,[],[],eS,eS) g b).1==3) d (nth (0,0,0,eS,[],[],0,eS,[],[],eS,eS) g b) (λk=>bif ((nth (0,0,0,eS,[],[],0,eS,[],[],eS,eS) g b).1 != 2) then j1d f (nth (0,0,0,eS,[],[],0,eS,[],[],eS,eS) g b) λq w=>rec q h (Z9K (b+1)) k else rec f h (Z9K (b+1)) k) (λ_=>i ()) else none else m d
def j7l (l:List qP) (g:List qP) (h:Int):((List Int)×(List Int)×Int×qD)->((List Int)×(List Int)×Int×qD->Res)->((qD->Res)×(Unit->Res))->Res:=λv rec q=>j30 l g h v.1 v.2.1 v.2.2.1 v.2.2.2 (λb f i d=>rec (b,f,i,d)) q.1 q.2
def jg0 (l:List qP) (g:List qP) (h:Int) (n:Nat) (b:List Int) (f:List Int) (i:Int) (d:qF×List qR) (j:qD->Res) (k:Unit->Res):Res:=Z1f (j7l l g h) n (b,f,i,d) (j,k)
def jbg:Z1d Unit:=NdL 84 84 [.R 1 y20 .S,.t 2 (.clos 171 []),.t 3 (pB 3),.t 6 (pB 6),.R 8 y21 .O,.R 9 y21 .O,.R 17 y20 .S,.I 18,.I 19] [(3,y33,[.S,.S]),(6,y33,[.O,.O])] (λb d=>(b.2.1,b.2.2.1,b.2.2.2.2.2.1,d.1.2)) (λb v=>(b.1,v.1,v.2.1,b.2.2.2.1,b.2.2.2.2.1,v.2.2.1,())) (λd v=>((d.1.1,v.2.2.2),(d.2.1.1,d.2.1.2),())) (λb d=>j7l b.1 b.2.2.2.1 b.2.2.2.2.1) λb d f=>((λg=>f (.exit 0) [(3,pB 3),(6,pB 6)] [(3,⟨y33,d.1.1,g,[.S,.S]⟩),(6,⟨y33,d.2.1.1,d.2.1.2,[.O,.O]⟩)]),(λ_=>f .ret [(6,pB 6),(7,vB false)] [(6,⟨y33,d.2.1.1,([],[]),[.O,.O]⟩)]))
theorem jkM:CN 0 58 Tryz.f170 jbg:=lK j7S [j3Y,j6b] (oI 1853 1 @jkO oN) ([],[]) [(0,[3,6],[3,6])] ([6,7],[6]) λ_ _ _ _ _=>by delta j7l j30 jc8 j5g j6b j3S;refine gz j7k λ_ b=>gz j0W λ_ d=>gz j6U λ_ f=>gz j1d λ_ g=> ?_;rewrite [<-b,<-d,<-f,<-g];kernel_rfl
def jbX (l:List qP) (d:qF×List qR) (b:Bool->qD->Res):Res:=jg0 l l (nI (List.length l)) Z1c [] [] 0 d (λf=>b true f) (λ_=>b false ([],[]))
def jfr:Z1d Unit:=λσ k=>rdN σ 84<|rd1 σ 1 y20 .S λl=>rdT σ 2 (.clos 171 [])<|rdT σ 3 (pB 3)<|rdT σ 6 (pB 6)<|rdB σ 3 y33 [.S,.S] λa d=>rdB σ 6 y33 [.O,.O] λf h=>jbX l d (λg b=>k .ret (mkS 84 84 [(6,pB 6),(7,vB g)] [(6,⟨y33,f,b,[.S,.S]⟩)]))
theorem jkP:CN 0 3 Tryz.f170 jfr:=λg=>jo4 follows j2j j7S g [j3Y,j6b,jbg] (oI 26 2 @jkM oN) ([],[]) [] ([6,7],[6]) [(1,[],[(6,[.S,.S])])] λσ k _ h=>rN h λq h=>rV h λl i h=>rT h λj h=>rT h λn h=>rT h λp h=>rB h λa d b h=>rB h λr w f h=>⟨_,ZaM (m:=84) q (sC i (sC j (sC n (sC p sN)))) (bC b (bC f bN)),.trans (by kernel_rfl) h⟩
def jcK (d:qF×List qR) (l:List qP) (b:qD->Bool->Res):Res:=jbX l d λt f=>b f t
def jmE:Sig Unit:=sg [.borrow y33 true,.borrow y20 false,.clos 171 []] [true,false] [(y33,none),(y20,none)] [] λb g k=>jcK b.1 b.2.1 (λd f=>k [⟨y33,true,d,[.S,.S]⟩,wB f] [] [])
theorem jmo:SO 170 jmE:=fK (np:=0) j7S [j3Y,j6b,jbg,jfr] (oI 3 3 @jkP oN) false Tryz.func170 λ_ _ _ _=>by kernel_rfl
def j9a (l:List qP) (b:Bool->Res):Res:=bif decide ((nI (List.length l))>400) then b false else jcK ([],[]) l λr d=>b d
def jgi:Sig Unit:=sg [.look y20 false] [false] [(y20,none)] [] λd f k=>j9a d.1 (λb=>k [wB b] [] [])
theorem jfH:SO 104 jgi:=fK (np:=0) (Za6 jmo Zas) [] oN false Tryz.func104 λ_ _ _ _=>by kernel_rfl
end
end Go.PI.G
namespace Go.PI.G
noncomputable section
open Go Go.PI Go.Proofs
open Go.Code (pl pr)
def j2A (f:List qP) (g:Int) (d:List Int) (b:Int) (rec:(List Int)->Int->Res) (h:(List Int)->Res):Res:=bif decide (b<g) then bif inb b (List.length f) then bif ((nth (0,0,0,eS,[],[],0,eS,[],[],eS,eS) f b).1==3) then bif lim ((List.length d)+1) then rec (d++[Z9K (b+1)]) (Z9K (b+1)) else none else rec d (Z9K (b+1)) else none else h d
def j4F (d:List qP) (f:Int):((List Int)×Int)->((List Int)×Int->Res)->(((List Int)->Res))->Res:=λv rec q=>j2A d f v.1 v.2 (λb g=>rec (b,g)) q
def j9A (d:List qP) (f:Int) (n:Nat) (b:List Int) (g:Int) (h:(List Int)->Res):Res:=Z1f (j4F d f) n (b,g) (h)
def j8N:Z1d Unit:=NdL 28 28 [.R 3 y21 .O,.R 11 y20 .S,.I 12,.I 13] [] (λb f=>(b.1,b.2.2.2.1)) (λb v=>(v.1,b.2.1,b.2.2.1,v.2,())) (λf v=>()) (λb f=>j4F b.2.1 b.2.2.1) λb f g=>((λd=>g (.exit 0) [(3,v1 y21 d .O)] []))
theorem jhC:CN 0 122 Tryz.f108 j8N:=lK (Za6 jfT Zas) [] oN ([],[]) [(0,[3],[])] ([],[]) λ_ _ _ _ _=>by kernel_rfl
def j5r (l:List qP) (d:(List Int)->Res):Res:=j9B l λr=>bif !r then d [] else j9A l (nI (List.length l)) Z1c [] 0 λb=>d b
def je5:Sig Unit:=sg [.borrow y20 false] [false] [(y20,none)] [] λd f k=>j5r d.1 (λb=>k [w1 y21 b .O] [] [])
theorem jdK:SO 108 je5:=fK (np:=0) (Za6 jfT Zas) [j8N] (oI 122 0 @jhC oN) false Tryz.func108 λ_ _ _ _=>by delta j5r jgq j8N j9A;refine gz j9B λ_ b=>gz j4F λ_ d=> ?_;rewrite [<-b,<-d];kernel_rfl
def j2q (f:List qP) (g:Int) (d:List Int) (b:Int) (rec:(List Int)->Int->Res) (h:(List Int)->Res):Res:=bif decide (b<g) then bif inb b (List.length f) then bif ((nth (0,0,0,eS,[],[],0,eS,[],[],eS,eS) f b).1==3) then bif lim ((List.length d)+1) then rec (d++[Z9K (b+1)]) (Z9K (b+1)) else none else rec d (Z9K (b+1)) else none else h d
def j4z (d:List qP) (f:Int):((List Int)×Int)->((List Int)×Int->Res)->(((List Int)->Res))->Res:=λv rec q=>j2q d f v.1 v.2 (λb g=>rec (b,g)) q
def j98 (d:List qP) (f:Int) (n:Nat) (b:List Int) (g:Int) (h:(List Int)->Res):Res:=Z1f (j4z d f) n (b,g) (h)
def j8G:Z1d Unit:=NdL 28 28 [.R 3 y21 .O,.R 11 y20 .S,.I 12,.I 13] [] (λb f=>(b.1,b.2.2.2.1)) (λb v=>(v.1,b.2.1,b.2.2.1,v.2,())) (λf v=>()) (λb f=>j4z b.2.1 b.2.2.1) λb f g=>((λd=>g (.exit 0) [(3,v1 y21 d .O)] []))
theorem jhn:CN 0 122 Tryz.f109 j8G:=lK (Za6 jfH Zas) [] oN ([],[]) [(0,[3],[])] ([],[]) λ_ _ _ _ _=>by kernel_rfl
def j4W (l:List qP) (d:(List Int)->Res):Res:=j9a l λr=>bif !r then d [] else j98 l (nI (List.length l)) Z1c [] 0 λb=>d b
def je3:Sig Unit:=sg [.borrow y20 false] [false] [(y20,none)] [] λd f k=>j4W d.1 (λb=>k [w1 y21 b .O] [] [])
theorem jdB:SO 109 je3:=fK (np:=0) (Za6 jfH Zas) [j8G] (oI 122 0 @jhn oN) false Tryz.func109 λ_ _ _ _=>by delta j4W jgi j8G j98;refine gz j9a λ_ b=>gz j4z λ_ d=> ?_;rewrite [<-b,<-d];kernel_rfl
end
end Go.PI.G
