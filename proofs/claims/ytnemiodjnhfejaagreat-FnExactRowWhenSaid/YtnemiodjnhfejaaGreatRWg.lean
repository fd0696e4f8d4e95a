/-
  Program's code interpreted over typed values; printed texts; plain laws. No conditions.
-/
import Derived.Test.YtnemiodjnhfejaaGreatRWd
import Derived.Test.YtnemiodjnhfejaaGreatRWe
import Derived.Test.YtnemiodjnhfejaaGreatRWf
set_option linter.unusedVariables false
set_option maxRecDepth 100000
namespace Go.PI.G
noncomputable section
open Go Go.PI Go.Proofs
open Go.Code (pl pr)
def j3k (d:List qV) (h:Int) (b:Int) (rec:Int->Res) (f:Unit->Res) (g:Unit->Res):Res:=bif decide (b<h) then bif inb b (List.length d) then j1s (nth (0,0,eS) d b) λr=>bif !r then g () else rec (Z9K (b+1)) else none else f ()
def j92 (b:List qV) (d:Int):Int->(Int->Res)->((Unit->Res)×(Unit->Res))->Res:=λv rec q=>j3k b d v (λf=>rec (f)) q.1 q.2
def jeN (f:List qV) (g:Int) (n:Nat) (h:Int) (b:Unit->Res) (d:Unit->Res):Res:=Z1f (j92 f g) n (h) (b,d)
def jee:Z1d Unit:=NdL 23 23 [.R 0 y3 .S,.R 5 y3 .S,.I 6,.I 7] [] (λb d=>(b.2.2.2.1)) (λb v=>(b.1,b.2.1,b.2.2.1,v,())) (λd v=>()) (λb d=>j92 b.2.1 b.2.2.1) λb d f=>((λ_=>f (.exit 0) [(0,v1 y3 b.1 .S)] []),(λ_=>f .ret [(2,vB false)] []))
theorem jk2:CN 0 26 Tryz.f208 jee:=lK (Za6 j7P Zas) [] oN ([],[]) [(0,[0],[])] ([2],[]) λ_ _ _ _ _=>by kernel_rfl
def j2I (l:List qV) (b:Bool->Res):Res:=jeN l (nI (List.length l)) Z1c 0 (λ_=>bif decide ((nI (List.length l))>=1) then b (decide ((nI (List.length l))<=8)) else b false) (λ_=>b false)
def jbU:Sig Unit:=sg [.look y3 false] [false] [(y3,none)] [] λd f k=>j2I d.1 (λb=>k [wB b] [] [])
theorem jly:SO 208 jbU:=fK (np:=0) (Za6 j7P Zas) [jee] (oI 26 0 @jk2 oN) false Tryz.func208 λ_ _ _ _=>by kernel_rfl
def j1u (d:qG) (b:Bool->Res):Res:=bif (d.1==0) then bif sEq d.2.1 eS then bif ((nI (List.length d.2.2.1))==0) then bif ((nI (List.length d.2.2.2.1))==0) then bif sEq d.2.2.2.2.1 eS then b (sEq d.2.2.2.2.2 eS) else b false else b false else b false else b false else b false
def jaW:Sig Unit:=sg [.look y13 true] [false] [(y13,none)] [] λd f k=>j1u d.1 (λb=>k [wB b] [] [])
theorem jeq:SO 209 jaW:=fK (np:=0) Zas [] oN false Tryz.func209 λ_ _ _ _=>by kernel_rfl
theorem jgW:FS [(154,j30),(208,jbU),(209,jaW),(210,j4e)]:=(Za6 j9q (Za6 jly (Za6 jeq (Za6 jdz Zas))))
def j6t (d:Bool) (f:Bool) (s:qS) (b:Bool->Res):Res:=bif (s.1==1) then bif d then j2I s.2.2.2.1 λr=>bif r then j1u s.2.2.2.2 λg=>b g else b false else b false else bif (s.1==2) then j2I s.2.2.1 λh=>bif h then j2I s.2.2.2.1 λi=>bif i then j1u s.2.2.2.2 λj=>b j else b false else b false else bif (s.1==3) then j2I s.2.2.1 λk=>bif k then bif f then j1u s.2.2.2.2 λl=>b l else b false else b false else bif (s.1==4) then bif d then bif f then j1u s.2.2.2.2 λm=>b m else b false else b false else bif (s.1==5) then bif d then bif f then j2v s.2.2.2.2 λn=>bif n then b (sEq s.2.2.2.2.2.1 s.2.1) else b false else b false else b false else b false
def jbh:Z1d Unit:=Nd 93 93 [.t 1 (pB 1),.B 3,.B 4] [(1,y17,[.S,.S,.S,.S])] λb g d=>j6t b.1 b.2.1 g.1.2 (λf=>d .ret [(2,vB f)] [])
theorem jkX:CN 0 31 Tryz.f155 jbh:=nK jgW [] oN ([],[]) [] ([2],[]) λ_ _ _=>by delta j6t jbU jaW j4e;refine gz j2I λ_ b=>gz j1u λ_ d=>gz j2v λ_ f=> ?_;rewrite [<-b,<-d,<-f];kernel_rfl
def j3w (s:qS) (b:Bool->Res):Res:=j0G s.2.1 λr=>bif !r then b false else j6t ((nI (List.length s.2.2.1))==0) ((nI (List.length s.2.2.2.1))==0) s λt=>b t
def j7f:Sig Unit:=sg [.look y17 true] [false] [(y17,none)] [] λd f k=>j3w d.1 (λb=>k [wB b] [] [])
theorem jh2:SO 155 j7f:=fK (np:=0) jgW [jbh] (oI 31 0 @jkX oN) false Tryz.func155 λ_ _ _ _=>by delta j3w j30 jbh;refine gz j0G λ_ b=>gz j6t λ_ d=> ?_;rewrite [<-b,<-d];kernel_rfl
theorem jiY:FS [(172,j1q),(242,j82)]:=(Za6 j4E (Za6 jhK Zas))
def j6q (f:List qT) (g:Int) (d:qF×List qR) (b:Int) (rec:Int->Res) (h:Unit->Res) (i:Unit->Res):Res:=bif decide (b<g) then bif inb b (List.length f) then bif inb b (List.length d.2) then j0A (nth (eS,[],[]) f b) (nth [] d.2 b) λr=>bif !r then i () else rec (Z9K (b+1)) else none else none else h ()
def j8F (b:List qT) (f:Int) (d:qF×List qR):Int->(Int->Res)->((Unit->Res)×(Unit->Res))->Res:=λv rec q=>j6q b f d v (λg=>rec (g)) q.1 q.2
def je5 (b:List qT) (f:Int) (d:qF×List qR) (n:Nat) (g:Int) (h:Unit->Res) (i:Unit->Res):Res:=Z1f (j8F b f d) n (g) (h,i)
def jcU:Z1d Unit:=NdL 38 38 [.t 1 (pB 1),.R 21 y30 .S,.I 22,.I 23] [(1,y33,[.S,.S])] (λb d=>(b.2.2.1)) (λb v=>(b.1,b.2.1,v,())) (λd v=>((d.1.1,d.1.2),())) (λb d=>j8F b.1 b.2.1 d.1.2) λb d f=>((λ_=>f (.exit 0) [] []),(λ_=>f .ret [(2,vB false)] []))
theorem jnc:CN 0 58 Tryz.f186 jcU:=lK jiY [] oN ([],[]) [(0,[],[])] ([2],[]) λ_ _ _ _ _=>by kernel_rfl
def j6E (d:qF×List qR) (b:Bool->Res):Res:=j6T d.1 λr=>bif !r then b false else bif ((nI (List.length d.2)) != (nI (List.length d.1))) then b false else je5 d.1 (nI (List.length d.1)) d Z1c 0 (λ_=>b true) (λ_=>b false)
def j9k:Sig Unit:=sg [.look y33 true] [false] [(y33,none)] [] λd f k=>j6E d.1 (λb=>k [wB b] [] [])
theorem jj0:SO 186 j9k:=fK (np:=0) jiY [jcU] (oI 58 0 @jnc oN) false Tryz.func186 λ_ _ _ _=>by delta j6E j82 jcU je5;refine gz j6T λ_ b=>gz j8F λ_ d=> ?_;rewrite [<-b,<-d];kernel_rfl
theorem jfx:FS [(243,j6j),(244,j8C)]:=(Za6 jfL (Za6 jfM Zas))
def j3j (f:List qR) (g:Int) (d:Int) (b:qF×List qR) (rec:Int->qD->Res) (h:qD->Res):Res:=bif decide (d<g) then bif inb d (List.length f) then j6w (nth [] f d) λr=>bif lim ((List.length b.2)+1) then rec (Z9K (d+1)) (b.1,(b.2++[r])) else none else none else h b
def j5I (d:List qR) (f:Int):(Int×qD)->(Int×qD->Res)->((qD->Res))->Res:=λv rec q=>j3j d f v.1 v.2 (λg b=>rec (g,b)) q
def jb2 (d:List qR) (f:Int) (n:Nat) (g:Int) (b:qF×List qR) (h:qD->Res):Res:=Z1f (j5I d f) n (g,b) (h)
def ja8:Z1d Unit:=NdL 28 28 [.t 2 (pB 2),.t 3 (pB 3),.R 11 y32 .S,.I 12,.I 13] [(2,y33,[.O,.O]),(3,y33,[.O,.O])] (λd b=>(d.2.2.1,b.2.1.2)) (λd v=>(d.1,d.2.1,v.1,())) (λb v=>((b.1.1,b.1.2),(b.2.1.1,v.2),())) (λd b=>j5I d.1 d.2.1) λd b g=>((λf=>g (.exit 0) [(2,pB 2),(3,pB 3)] [(2,⟨y33,b.1.1,b.1.2,[.O,.O]⟩),(3,⟨y33,b.2.1.1,f,[.O,.O]⟩)]))
theorem jk1:CN 0 58 Tryz.f187 ja8:=lK jfx [] oN ([],[]) [(0,[2,3],[2,3])] ([],[]) λ_ _ _ _ _=>by kernel_rfl
def j1X (d:qF×List qR) (f:qD->Res):Res:=j4j d.1 λr=>jb2 d.2 (nI (List.length d.2)) Z1c 0 (r,[]) λb=>f b
def j6k:Sig Unit:=sg [.borrow y33 true] [true] [(y33,none)] [] λd f k=>j1X d.1 (λb=>k [⟨y33,true,b,[.O,.O]⟩] [] [])
theorem jfO:SO 187 j6k:=fK (np:=0) jfx [ja8] (oI 58 0 @jk1 oN) false Tryz.func187 λ_ _ _ _=>by delta j1X j6j ja8 jb2;refine gz j4j λ_ b=>gz j5I λ_ d=> ?_;rewrite [<-b,<-d];kernel_rfl
def j1n (t:qB×qE×qL) (l:List qW) (s:qS) (b:qR->Int->Res):Res:=bif (s.1==1) then j7p t l s.2.2.2.1 λr d=>b r d else bif (s.1==2) then j7q t l s.2.2.1 s.2.2.2.1 λf g=>b f g else bif (s.1==3) then j7o t l s.2.2.1 λh i=>b h i else bif (s.1==5) then j6s t l s.2.2.2.2 λj k=>b j k else b [] 0
def j6l:Sig Unit:=sg [.borrow y29 true,.borrow y31 false,.borrow y17 true] [false,false] [(y29,none),(y31,none),(y17,none)] [] λb g k=>j1n b.1 b.2.1 b.2.2.1 (λd f=>k [w1 y31 d .O,wI f] [] [])
theorem jfP:SO 246 j6l:=fK (np:=0) (Za6 jmR (Za6 jmS (Za6 jmQ (Za6 jlw Zas)))) [] oN false Tryz.func246 λ_ _ _ _=>by delta j1n jhe jhf jhd jg7;refine gz j7p λ_ b=>gz j7q λ_ d=>gz j7o λ_ f=>gz j6s λ_ g=> ?_;rewrite [<-b,<-d,<-f,<-g];kernel_rfl
theorem j6F:FS [(113,j2F),(244,j8C),(246,j6l),(287,j5a)]:=(Za6 jas (Za6 jfM (Za6 jfP (Za6 jep Zas))))
def j3i (b:Int) (s:qS) (t:qB×qE×qL) (d:Bool->Res):Res:=bif decide (b>=0) then d (sEq t.1 s.2.1) else d false
def j2K:Z1d Unit:=Nd 86 86 [.t 2 (pB 2),.t 3 (pB 3),.t 4 (pB 4),.t 8 (pB 8),.t 10 (pB 10),.t 11 (pB 11),.I 12,.R 29 y30 .S,.I 30,.I 31] [(2,y33,[.S,.S]),(3,y17,[.S,.S,.S,.S]),(4,y33,[.O,.O]),(8,y33,[.S,.O]),(10,y29,[.S,.S]),(11,y31,[.O])] λd b g=>j3i d.1 b.2.1.2 b.2.2.2.2.1.2 (λf=>g .normal [(2,pB 2),(3,pB 3),(4,pB 4),(8,pB 8),(11,pB 11),(12,vI d.1),(29,v1 y30 d.2.1 .S),(30,vI d.2.2.1),(31,vI d.2.2.2.1),(49,vB f)] [(2,⟨y33,b.1.1,b.1.2,[.S,.S]⟩),(3,⟨y17,b.2.1.1,b.2.1.2,[.S,.S,.S,.S]⟩),(4,⟨y33,b.2.2.1.1,b.2.2.1.2,[.O,.O]⟩),(8,⟨y33,b.2.2.2.1.1,b.2.2.2.1.2,[.S,.O]⟩),(11,⟨y31,b.2.2.2.2.2.1.1,b.2.2.2.2.2.1.2,[.O]⟩)])
theorem ji5:CN 0 256412 Tryz.f245 j2K:=nK j6F [] oN ([2,3,4,8,11,12,29,30,31,49],[2,3,4,8,11]) [] ([],[]) λ_ _ _=>by kernel_rfl
def j24 (b:Int) (g:Bool) (d:qF×List qR) (s:qS) (x:List qW) (f:qR->Res):Res:=bif g then bif inb b (List.length d.1) then bif inb b (List.length d.2) then j1n (nth (eS,[],[]) d.1 b) (nth [] d.2 b) s λr i=>Z87 (f r) (f r) else none else none else bif decide (b>=0) then bif inb b (List.length d.2) then j6w (nth [] d.2 b) λh=>f h else none else f x
def j5q:Z1d Unit:=Nd 86 86 [.t 2 (pB 2),.t 3 (pB 3),.t 4 (pB 4),.t 8 (pB 8),.t 11 (pB 11),.I 12,.R 29 y30 .S,.I 30,.I 31,.B 49] [(2,y33,[.S,.S]),(3,y17,[.S,.S,.S,.S]),(4,y33,[.O,.O]),(8,y33,[.S,.O]),(11,y31,[.O])] λd b f=>j24 d.1 d.2.2.2.2.1 b.1.2 b.2.1.2 b.2.2.2.2.1.2 (λg=>f .normal [(2,pB 2),(3,pB 3),(4,pB 4),(8,pB 8),(11,pB 11),(29,v1 y30 d.2.1 .S),(30,vI d.2.2.1),(31,vI d.2.2.2.1)] [(2,⟨y33,b.1.1,b.1.2,[.S,.S]⟩),(3,⟨y17,b.2.1.1,b.2.1.2,[.S,.S,.S,.S]⟩),(4,⟨y33,b.2.2.1.1,b.2.2.1.2,[.O,.O]⟩),(8,⟨y33,b.2.2.2.1.1,b.2.2.2.1.2,[.S,.O]⟩),(11,⟨y31,b.2.2.2.2.1.1,g,[.O]⟩)])
theorem ji6:CN 0 256413 Tryz.f245 j5q:=nK j6F [j2K] oN ([2,3,4,8,11,29,30,31],[2,3,4,8,11]) [] ([],[]) λ_ _ _=>by delta j24 j6l j8C;refine gz j1n λ_ b=>gz j6w λ_ d=> ?_;rewrite [<-b,<-d];kernel_rfl
def j1f (g:List qT) (h:Int) (d:qF×List qR) (s:qS) (b:Int) (f:qF×List qR) (rec:Int->qD->Res) (i:qD->Res):Res:=bif decide (b<h) then bif inb b (List.length g) then j1t d.1 (nth (eS,[],[]) g b).1 λr=>j3i r s (nth (eS,[],[]) g b) λt=>j24 r t d s [] λx=>bif lim ((List.length f.2)+1) then rec (Z9K (b+1)) (f.1,(f.2++[x])) else none else none else i f
def j2l (f:List qT) (g:Int) (d:qF×List qR) (s:qS):(Int×qD)->(Int×qD->Res)->((qD->Res))->Res:=λv rec q=>j1f f g d s v.1 v.2 (λh b=>rec (h,b)) q
def j5H (f:List qT) (g:Int) (d:qF×List qR) (s:qS) (n:Nat) (h:Int) (b:qF×List qR) (i:qD->Res):Res:=Z1f (j2l f g d s) n (h,b) (i)
def j8j:Z1d Unit:=NdL 86 86 [.t 2 (pB 2),.t 3 (pB 3),.t 4 (pB 4),.t 8 (pB 8),.R 29 y30 .S,.I 30,.I 31] [(2,y33,[.S,.S]),(3,y17,[.S,.S,.S,.S]),(4,y33,[.O,.O]),(8,y33,[.S,.O])] (λd b=>(d.2.2.1,b.2.2.2.1.2)) (λd v=>(d.1,d.2.1,v.1,())) (λb v=>((b.1.1,b.1.2),(b.2.1.1,b.2.1.2),(b.2.2.1.1,b.2.2.1.2),(b.2.2.2.1.1,v.2),())) (λd b=>j2l d.1 d.2.1 b.1.2 b.2.1.2) λd b g=>((λf=>g (.exit 0) [(4,pB 4),(8,pB 8)] [(4,⟨y33,b.2.2.1.1,b.2.2.1.2,[.O,.O]⟩),(8,⟨y33,b.2.2.2.1.1,f,[.S,.O]⟩)]))
theorem ji4:CN 0 250 Tryz.f245 j8j:=lK j6F [j2K,j5q] (oI 924 0 @ji5 (oI 925 1 @ji6 oN)) ([],[]) [(0,[4,8],[4,8])] ([],[]) λ_ _ _ _ _=>by delta j2l j1f j2F j2K j5q;refine gz j1t λ_ b=>gz j3i λ_ d=>gz j24 λ_ f=> ?_;rewrite [<-b,<-d,<-f];kernel_rfl
def j3H (d:qF×List qR) (s:qS) (f:qD->Int->Res):Res:=j2b d.1 s.2.2.2.2 λr g=>bif (g != 0) then f ([],[]) (Z9K (10+g)) else j5H r (nI (List.length r)) d s Z1c 0 (r,[]) λb=>f b 0
def j9O:Sig Unit:=sg [.borrow y33 true,.borrow y17 true] [true,false] [(y33,none),(y17,none)] [] λb g k=>j3H b.1 b.2.1 (λd f=>k [⟨y33,true,d,[.S,.S]⟩,wI f] [] [])
theorem jju:SO 245 j9O:=fK (np:=0) j6F [j2K,j5q,j8j] (oI 250 2 @ji4 oN) true Tryz.func245 λ_ _ _ _=>by delta j3H j5a j8j j5H;refine gz j2b λ_ b=>gz j2l λ_ d=> ?_;rewrite [<-b,<-d];kernel_rfl
theorem jiZ:FS [(113,j2F),(155,j7f),(186,j9k),(187,j6k),(245,j9O),(246,j6l)]:=(Za6 jas (Za6 jh2 (Za6 jj0 (Za6 jfO (Za6 jju (Za6 jfP Zas))))))
def j8b (b:Int) (s:qS) (d:Unit->Res) (f:Unit->Res):Res:=bif decide (b<0) then bif (s.1 != 5) then f () else bif (s.2.2.2.2.1 != 1) then f () else d () else d ()
def jcV:Z1d Unit:=Nd 77 77 [.t 2 (pB 2),.t 3 (pB 3),.t 4 (pB 4),.I 6] [(2,y33,[.S,.S]),(3,y17,[.S,.S,.S,.S]),(4,y33,[.O,.O])] λf b d=>j8b f.1 b.2.1.2 (λ_=>d .normal [(2,pB 2),(3,pB 3),(4,pB 4),(6,vI f.1)] [(2,⟨y33,b.1.1,b.1.2,[.S,.S]⟩),(3,⟨y17,b.2.1.1,b.2.1.2,[.S,.S,.S,.S]⟩),(4,⟨y33,b.2.2.1.1,b.2.2.1.2,[.O,.O]⟩)]) (λ_=>d .ret [(4,pB 4),(5,vI 4)] [(4,⟨y33,b.2.2.1.1,([],[]),[.O,.O]⟩)])
theorem jnd:CN 0 30 Tryz.f188 jcV:=nK jiZ [] oN ([2,3,4,6],[2,3,4]) [] ([4,5],[4]) λ_ _ _=>by kernel_rfl
def j8a (d:qF×List qR) (s:qS) (f:qD->Int->Res):Res:=j6E d λr=>bif !r then f ([],[]) 1 else j3w s λi=>bif !i then f ([],[]) 1 else j1t d.1 s.2.1 λb=>j8b b s (λ_=>bif (s.1==5) then j3H d s λj k=>f j k else bif inb b (List.length d.1) then bif inb b (List.length d.2) then j1n (nth (eS,[],[]) d.1 b) (nth [] d.2 b) s λl h=>bif (h != 0) then f ([],[]) (Z9K (10+h)) else j1X d λg=>bif inb b (List.length g.2) then f (g.1,upd g.2 b l) 0 else none else none else none) (λ_=>f ([],[]) 4)
def jjd:Sig Unit:=sg [.borrow y33 true,.borrow y17 true] [true,false] [(y33,none),(y17,none)] [] λb g k=>j8a b.1 b.2.1 (λd f=>k [⟨y33,true,d,[.S,.S]⟩,wI f] [] [])
theorem joW:SO 188 jjd:=fK (np:=0) jiZ [jcV] (oI 30 0 @jnd oN) true Tryz.func188 λ_ _ _ _=>by delta j8a j9k j7f j2F jcV j9O j6l j6k;refine gz j6E λ_ b=>gz j3w λ_ d=>gz j1t λ_ f=>gz j8b λ_ g=>gz j3H λ_ h=>gz j1n λ_ i=>gz j1X λ_ j=> ?_;rewrite [<-b,<-d,<-f,<-g,<-h,<-i,<-j];kernel_rfl
theorem jfw:FS [(186,j9k),(187,j6k),(188,jjd)]:=(Za6 jj0 (Za6 jfO (Za6 joW Zas)))
def j39 (d:List qS) (f:Int) (b:Int) (now:qF×List qR) (rec:Int->qD->Res) (h:qD->Res) (i:Int->Int->Res):Res:=bif decide (b<f) then bif inb b (List.length d) then j8a now (nth (0,eS,[],[],0,eS,[],[],eS,eS) d b) λr g=>bif (g != 0) then i g b else rec (Z9K (b+1)) r else none else h now
def j5A (b:List qS) (d:Int):(Int×qD)->(Int×qD->Res)->((qD->Res)×(Int->Int->Res))->Res:=λv rec q=>j39 b d v.1 v.2 (λf now=>rec (f,now)) q.1 q.2
def j7G (b:List qS) (d:Int) (n:Nat) (f:Int) (now:qF×List qR) (g:qD->Res) (h:Int->Int->Res):Res:=Z1f (j5A b d) n (f,now) (g,h)
def j9Z:Z1d Unit:=λσ k=>rdN σ 39<|rdT σ 4 (pB 4)<|rdT σ 7 (pB 7)<|rd1 σ 18 y27 .S λd=>rdI σ 19 λf=>rdI σ 20 λg=>rdB σ 4 y33 [.O,.O] λa i=>rdB σ 7 y33 [.S,.S] λh now=>j7G d f Z1c g now (λb=>k (.exit 0) (mkS 39 39 [(4,pB 4),(7,pB 7)] [(4,⟨y33,a,i,[.O,.O]⟩),(7,⟨y33,h,b,[.S,.S]⟩)])) (λj l=>k .ret (mkS 39 39 [(4,pB 4),(5,vI j),(6,vI l)] [(4,⟨y33,a,([],[]),[.O,.O]⟩)]))
def ja5:Z1d Unit:=λσ k=>j9Z (σ.wk [] [(7,[.S,.S])]) k
theorem jjP:CN 0 122 Tryz.f133 ja5:=λp=>ZaJ [] [(7,[.S,.S])] (jnx follows j1v jfw p [] oN [4,7,18,19,20] [4,7] ([],[]) [(0,[4,7],[4,7])] ([4,5,6],[4]) (y:=j9Z) λσ k _ h=>rN h λB h=>rT h λz h=>rT h λA h=>rV h λd g h=>rV h λf i h=>rV h λq j h=>rB h λa w l h=>rB h λr now n h=>⟨_,ZaM (m:=39) B (sC z (sC A (sC g (sC i (sC j sN))))) (bC l (bC n bN)),.trans (Z9u (λv:Int×qD=>(mkS 39 39 [(4,pB 4),(7,pB 7),(18,v1 y27 d .S),(19,vI f),(20,vI v.1)] [(4,⟨y33,a,w,[.O,.O]⟩),(7,⟨y33,r,v.2,[.S,.S]⟩)])) (j5A d f) (λ(k:Z83 Unit)=>(((λb=>k (.exit 0) (mkS 39 39 [(4,pB 4),(7,pB 7)] [(4,⟨y33,a,w,[.O,.O]⟩),(7,⟨y33,r,b,[.S,.S]⟩)])),(λC D=>k .ret (mkS 39 39 [(4,pB 4),(5,vI C),(6,vI D)] [(4,⟨y33,a,([],[]),[.O,.O]⟩)]))):(qD->Res)×(Int->Int->Res))) (λv rec k=>by kernel_rfl) Z1c (q,now) k) h⟩)
def j2H (d:qF×List qR) (l:List qS) (b:qD->Int->Int->Res):Res:=j6E d λr=>bif !r then b ([],[]) 1 0 else j1X d λf=>j7G l (nI (List.length l)) Z1c 0 f (λnow=>b now 0 0) (λt g=>b ([],[]) t g)
def jbR:Sig Unit:=sg [.borrow y33 true,.borrow y27 false] [true,false,false] [(y33,none),(y27,none)] [] λb h k=>j2H b.1 b.2.1 (λd f g=>k [⟨y33,true,d,[.S,.S]⟩,wI f,wI g] [] [])
theorem jlu:SO 133 jbR:=fK (np:=0) jfw [ja5] (oI 122 0 @jjP oN) true Tryz.func133 λ_ _ _ _=>by delta j2H j9k j6k ja5;delta j9Z j7G;refine gz j6E λ_ b=>gz j1X λ_ d=>gz j5A λ_ f=> ?_;rewrite [<-b,<-d,<-f];kernel_rfl
def jcz (d:Int×Int×qB) (b:Bool->Res):Res:=j16 d λr=>b (!r)
def jl9:Sig Unit:=sg [.look y2 true] [false] [(y2,none)] [] λd f k=>jcz d.1 (λb=>k [wB b] [] [])
theorem jen:SO 272 jl9:=fK (np:=0) (Za6 j7N Zas) [] oN false Tryz.func272 λ_ _ _ _=>by kernel_rfl
def j11 (s:List qV) (g:Int) (b:Int) (rec:Int->Res) (d:Unit->Res) (f:Int->Res):Res:=bif decide (b<g) then bif inb b (List.length s) then jcz (nth (0,0,eS) s b) λr=>bif r then f b else rec (Z9K (b+1)) else none else d ()
def j3s (s:List qV) (b:Int):Int->(Int->Res)->((Unit->Res)×(Int->Res))->Res:=λv rec q=>j11 s b v (λd=>rec (d)) q.1 q.2
def j8O (s:List qV) (f:Int) (n:Nat) (g:Int) (b:Unit->Res) (d:Int->Res):Res:=Z1f (j3s s f) n (g) (b,d)
def j8h:Z1d Unit:=NdL 19 19 [.R 0 y3 .S,.c 1 272 [] .unit [],.I 7,.I 8] [] (λb d=>(b.2.2.2.1)) (λb v=>(b.1,b.2.1,b.2.2.1,v,())) (λd v=>()) (λb d=>j3s b.1 b.2.2.1) λb d f=>((λ_=>f (.exit 0) [] []),(λg=>f .ret [(4,vI g)] []))
theorem jdV:CN 0 26 Tryz.f306 j8h:=lK (Za6 jen Zas) [] oN ([],[]) [(0,[],[])] ([4],[]) λ_ _ _ _ _=>by kernel_rfl
def j6R (s:List qV) (f:Unit) (b:Int->Res):Res:=j8O s (nI (List.length s)) Z1c 0 (λ_=>b (-1)) (λt=>b t)
def jfo:Sig Unit:=sg [.look y3 false,.rclos 272 []] [false] [(y3,none),(.unit,none)] [] λb f k=>j6R b.1 b.2.1 (λd=>k [wI d] [] [])
theorem jfb:SO 306 jfo:=fK (np:=0) (Za6 jen Zas) [j8h] (oI 26 0 @jdV oN) false Tryz.func306 λ_ _ _ _=>by kernel_rfl
def j2d (s:List qV) (f:Unit) (b:Bool->Res):Res:=j6R s f λr=>b (decide (r>=0))
def j7E:Sig Unit:=sg [.look y3 false,.rclos 272 []] [false] [(y3,none),(.unit,none)] [] λb f k=>j2d b.1 b.2.1 (λd=>k [wB d] [] [])
theorem jd5:SO 271 j7E:=fK (np:=0) (Za6 jfb Zas) [] oN false Tryz.func271 λ_ _ _ _=>by kernel_rfl
def j1R (l:List qV) (b:Bool->Res):Res:=j0a (nI (List.length l)) 1 8 λr=>bif r then j2d l () λd=>b (!d) else b false
def jbO:Sig Unit:=sg [.look y3 false] [false] [(y3,none)] [] λd f k=>j1R d.1 (λb=>k [wB b] [] [])
theorem jlp:SO 213 jbO:=fK (np:=0) (Za6 j28 (Za6 jd5 Zas)) [] oN false Tryz.func213 λ_ _ _ _=>by delta j1R j1p j7E;refine gz j0a λ_ b=>gz j2d λ_ d=> ?_;rewrite [<-b,<-d];kernel_rfl
theorem jgS:FS [(160,j2Z),(211,j4b),(212,j7C),(213,jbO)]:=(Za6 j9o (Za6 jdr (Za6 jao (Za6 jlp Zas))))
def j5W (s:qS) (b:Bool->Res):Res:=bif (s.1==1) then bif ((nI (List.length s.2.2.1))==0) then j1R s.2.2.2.1 λr=>b r else b false else bif (s.1==2) then j1R s.2.2.1 λd=>bif d then j1R s.2.2.2.1 λf=>b f else b false else bif (s.1==3) then j1R s.2.2.1 λg=>bif g then b ((nI (List.length s.2.2.2.1))==0) else b false else bif (s.1==4) then bif ((nI (List.length s.2.2.1))==0) then b ((nI (List.length s.2.2.2.1))==0) else b false else b false
def jb7:Z1d Unit:=Nd 91 91 [.t 1 (pB 1)] [(1,y17,[.S,.S,.S,.S])] λg f b=>j5W f.1.2 (λd=>b .ret [(2,vB d)] [])
theorem jkD:CN 0 15 Tryz.f161 jb7:=nK jgS [] oN ([],[]) [] ([2],[]) λ_ _ _=>by delta j5W jbO;refine gz j1R λ_ b=> ?_;rewrite [<-b];kernel_rfl
def j3t (s:qS) (b:Bool->Res):Res:=bif (s.1==5) then j2t s.2.2.2.2 λr=>bif r then bif sEq s.2.1 s.2.2.2.2.2.1 then bif ((nI (List.length s.2.2.1))==0) then b ((nI (List.length s.2.2.2.1))==0) else b false else b false else b false else j0y s.2.1 λd=>bif !d then b false else j0e s.2.2.2.2 (0,eS,[],[],eS,eS) λf=>bif !f then b false else j5W s λt=>b t
def j9u:Sig Unit:=sg [.look y17 true] [false] [(y17,none)] [] λd f k=>j3t d.1 (λb=>k [wB b] [] [])
theorem jgY:SO 161 j9u:=fK (np:=0) jgS [jb7] (oI 15 0 @jkD oN) false Tryz.func161 λ_ _ _ _=>by delta j3t j4b j2Z j7C jb7;refine gz j2t λ_ b=>gz j0y λ_ d=>gz j0e λ_ f=>gz j5W λ_ g=> ?_;rewrite [<-b,<-d,<-f,<-g];kernel_rfl
def j7a (s:qS) (b:qS->Res):Res:=j0u s.2.2.1 λr=>j0u s.2.2.2.1 λd=>jaA s.2.2.2.2 λf=>b (s.1,s.2.1,r,d,f)
def jla:Sig Unit:=sg [.borrow y17 true] [true] [(y17,none)] [] λd f k=>j7a d.1 (λb=>k [⟨y17,true,b,[.O,.O,.O,.O]⟩] [] [])
theorem jeo:SO 216 jla:=fK (np:=0) (Za6 j4N (Za6 jlr Zas)) [] oN false Tryz.func216 λ_ _ _ _=>by delta j7a j57 jg6;refine gz j0u λ_ b=>gz jaA λ_ d=> ?_;rewrite [<-b,<-d];kernel_rfl
theorem jiW:FS [(250,j7Z),(251,j29)]:=(Za6 jhw (Za6 j78 Zas))
def j5T (f:List qT) (g:Int) (d:qF×List qR) (b:Int) (rec:Int->Res) (h:Unit->Res) (i:Unit->Res):Res:=bif decide (b<g) then bif inb b (List.length f) then bif inb b (List.length d.2) then j0P (nth (eS,[],[]) f b) (nth [] d.2 b) λr=>bif !r then i () else rec (Z9K (b+1)) else none else none else h ()
def j8r (b:List qT) (f:Int) (d:qF×List qR):Int->(Int->Res)->((Unit->Res)×(Unit->Res))->Res:=λv rec q=>j5T b f d v (λg=>rec (g)) q.1 q.2
def jdF (b:List qT) (f:Int) (d:qF×List qR) (n:Nat) (g:Int) (h:Unit->Res) (i:Unit->Res):Res:=Z1f (j8r b f d) n (g) (h,i)
def jcQ:Z1d Unit:=NdL 38 38 [.t 1 (pB 1),.R 21 y30 .S,.I 22,.I 23] [(1,y33,[.S,.S])] (λb d=>(b.2.2.1)) (λb v=>(b.1,b.2.1,v,())) (λd v=>((d.1.1,d.1.2),())) (λb d=>j8r b.1 b.2.1 d.1.2) λb d f=>((λ_=>f (.exit 0) [] []),(λ_=>f .ret [(2,vB false)] []))
theorem jn3:CN 0 58 Tryz.f195 jcQ:=lK jiW [] oN ([],[]) [(0,[],[])] ([2],[]) λ_ _ _ _ _=>by kernel_rfl
def jac (d:qF×List qR) (b:Bool->Res):Res:=j6G d.1 λr=>bif !r then b false else bif ((nI (List.length d.2)) != (nI (List.length d.1))) then b false else jdF d.1 (nI (List.length d.1)) d Z1c 0 (λ_=>b true) (λ_=>b false)
def jfk:Sig Unit:=sg [.look y33 true] [false] [(y33,none)] [] λd f k=>jac d.1 (λb=>k [wB b] [] [])
theorem joR:SO 195 jfk:=fK (np:=0) jiW [jcQ] (oI 58 0 @jn3 oN) false Tryz.func195 λ_ _ _ _=>by delta jac j7Z jcQ jdF;refine gz j6G λ_ b=>gz j8r λ_ d=> ?_;rewrite [<-b,<-d];kernel_rfl
theorem jgT:FS [(231,j6b),(232,j0Y)]:=(Za6 jfD (Za6 j4M Zas))
def j3P (f:List qR) (g:Int) (d:Int) (b:qF×List qR) (rec:Int->qD->Res) (h:qD->Res):Res:=bif decide (d<g) then bif inb d (List.length f) then j0t (nth [] f d) λr=>bif lim ((List.length b.2)+1) then rec (Z9K (d+1)) (b.1,(b.2++[r])) else none else none else h b
def j6I (d:List qR) (f:Int):(Int×qD)->(Int×qD->Res)->((qD->Res))->Res:=λv rec q=>j3P d f v.1 v.2 (λg b=>rec (g,b)) q
def jbE (d:List qR) (f:Int) (n:Nat) (g:Int) (b:qF×List qR) (h:qD->Res):Res:=Z1f (j6I d f) n (g,b) (h)
def jb9:Z1d Unit:=NdL 28 28 [.t 2 (pB 2),.t 3 (pB 3),.R 11 y32 .S,.I 12,.I 13] [(2,y33,[.O,.O]),(3,y33,[.O,.O])] (λd b=>(d.2.2.1,b.2.1.2)) (λd v=>(d.1,d.2.1,v.1,())) (λb v=>((b.1.1,b.1.2),(b.2.1.1,v.2),())) (λd b=>j6I d.1 d.2.1) λd b g=>((λf=>g (.exit 0) [(2,pB 2),(3,pB 3)] [(2,⟨y33,b.1.1,b.1.2,[.O,.O]⟩),(3,⟨y33,b.2.1.1,f,[.O,.O]⟩)]))
theorem jkF:CN 0 58 Tryz.f174 jb9:=lK jgT [] oN ([],[]) [(0,[2,3],[2,3])] ([],[]) λ_ _ _ _ _=>by kernel_rfl
def j0Q (d:qF×List qR) (f:qD->Res):Res:=j3O d.1 λr=>jbE d.2 (nI (List.length d.2)) Z1c 0 (r,[]) λb=>f b
def j2a:Sig Unit:=sg [.borrow y33 true] [true] [(y33,none)] [] λd f k=>j0Q d.1 (λb=>k [⟨y33,true,b,[.O,.O]⟩] [] [])
theorem j9p:SO 174 j2a:=fK (np:=0) jgT [jb9] (oI 58 0 @jkF oN) false Tryz.func174 λ_ _ _ _=>by delta j0Q j6b jb9 jbE;refine gz j3O λ_ b=>gz j6I λ_ d=> ?_;rewrite [<-b,<-d];kernel_rfl
theorem jfv:FS [(174,j2a),(176,j0N),(295,jaQ),(296,j6O),(297,j6N),(298,jbN)]:=(Za6 j9p (Za6 j77 (Za6 jkc (Za6 jgp (Za6 jgo (Za6 jlo Zas))))))
def j2N (f:Int) (h:Int) (d:qF×List qR) (x:qG) (c:List qT) (b:qF×List qR) (g:qD->Res):Res:=bif (h==1) then Z87 (j0g c x.2.1 λr=>j1J b.2 r [[]] λi=>g (b.1,i)) (Z87 (j0g c x.2.1 λj=>j1J b.2 j [[]] λk=>g (b.1,k)) (j0g c x.2.1 λl=>j1J b.2 l [[]] λm=>g (b.1,m))) else bif (h==2) then j5b b.2 f (Z9K (f+1)) λn=>g (b.1,n) else bif inb f (List.length d.1) then bif inb f (List.length d.2) then j5V (nth (eS,[],[]) d.1 f) (nth [] d.2 f) x λp q=>bif inb f (List.length b.2) then g (b.1,upd b.2 f p) else none else none else none
def ja3:Z1d Unit:=Nd 79 79 [.t 2 (pB 2),.t 3 (pB 3),.t 4 (pB 4),.t 6 (pB 6),.t 8 (pB 8),.I 9,.I 31] [(2,y33,[.S,.S]),(3,y13,[.S,.S]),(4,y33,[.O,.O]),(6,y30,[.O]),(8,y33,[.O,.O])] λf b g=>j2N f.1 f.2.1 b.1.2 b.2.1.2 b.2.2.2.1.2 b.2.2.2.2.1.2 (λd=>g .normal [(4,pB 4),(6,pB 6),(8,pB 8)] [(4,⟨y33,b.2.2.1.1,b.2.2.1.2,[.O,.O]⟩),(6,⟨y30,b.2.2.2.1.1,b.2.2.2.1.2,[.O]⟩),(8,⟨y33,b.2.2.2.2.1.1,d,[.O,.O]⟩)])
theorem jjK:CN 0 253 Tryz.f252 ja3:=nK jfv [] oN ([4,6,8],[4,6,8]) [] ([],[]) λ_ _ _=>by delta j2N j0N j6O j6N jbN;refine gz j0g λ_ b=>gz j1J λ_ d=>gz j5b λ_ f=>gz j5V λ_ g=> ?_;rewrite [<-b,<-d,<-f,<-g];kernel_rfl
def j5X (d:qF×List qR) (x:qG) (f:qD->Int->Res):Res:=j4F d.1 x λr g=>bif (g != 0) then f ([],[]) g else j0Q d λh=>j0g d.1 x.2.1 λi=>j2N i x.1 d x r h λb=>f (r,b.2) 0
def jbP:Sig Unit:=sg [.borrow y33 true,.borrow y13 true] [true,false] [(y33,none),(y13,none)] [] λb g k=>j5X b.1 b.2.1 (λd f=>k [⟨y33,true,d,[.O,.O]⟩,wI f] [] [])
theorem jlq:SO 252 jbP:=fK (np:=0) jfv [ja3] (oI 253 0 @jjK oN) false Tryz.func252 λ_ _ _ _=>by delta j5X jaQ j2a j0N ja3;refine gz j4F λ_ b=>gz j0Q λ_ d=>gz j0g λ_ f=>gz j2N λ_ g=> ?_;rewrite [<-b,<-d,<-f,<-g];kernel_rfl
theorem jc8:FS [(174,j2a),(176,j0N),(252,jbP),(253,jcD),(254,jcE),(255,jcC)]:=(Za6 j9p (Za6 j77 (Za6 jlq (Za6 jmE (Za6 jmF (Za6 jmD Zas))))))
def j7U (f:Int) (s:qS) (b:Unit->Res) (d:Unit->Res):Res:=bif decide (f<0) then bif (s.1 != 5) then d () else bif (s.2.2.2.2.1 != 1) then d () else b () else b ()
def j7h:Z1d Unit:=Nd 108 108 [.t 2 (pB 2),.t 3 (pB 3),.t 4 (pB 4),.I 6] [(2,y33,[.S,.S]),(3,y17,[.S,.S,.S,.S]),(4,y33,[.O,.O])] λf b d=>j7U f.1 b.2.1.2 (λ_=>d .normal [(2,pB 2),(3,pB 3),(4,pB 4),(6,vI f.1)] [(2,⟨y33,b.1.1,b.1.2,[.S,.S]⟩),(3,⟨y17,b.2.1.1,b.2.1.2,[.S,.S,.S,.S]⟩),(4,⟨y33,b.2.2.1.1,b.2.2.1.2,[.O,.O]⟩)]) (λ_=>d .ret [(4,pB 4),(5,vI 4)] [(4,⟨y33,b.2.2.1.1,([],[]),[.O,.O]⟩)])
theorem jn4:CN 0 14 Tryz.f196 j7h:=nK jc8 [] oN ([2,3,4,6],[2,3,4]) [] ([4,5],[4]) λ_ _ _=>by kernel_rfl
def jaB (f:Int) (d:qF×List qR) (b:Unit->Res):Res:=bif inb f (List.length d.1) then Z87 (Z87 (Z87 (Z87 (bif inb f (List.length d.2) then Z87 (Z87 (b ()) (Z87 (b ()) (b ()))) (Z87 (Z87 (b ()) (b ())) (b ())) else none) (Z87 (bif inb f (List.length d.2) then Z87 (Z87 (b ()) (b ())) (b ()) else none) (bif inb f (List.length d.2) then b () else none))) (Z87 (Z87 (bif inb f (List.length d.2) then Z87 (Z87 (b ()) (b ())) (b ()) else none) (bif inb f (List.length d.2) then b () else none)) (bif inb f (List.length d.2) then b () else none))) (Z87 (Z87 (Z87 (bif inb f (List.length d.2) then Z87 (Z87 (b ()) (Z87 (b ()) (b ()))) (Z87 (Z87 (b ()) (b ())) (b ())) else none) (Z87 (bif inb f (List.length d.2) then Z87 (Z87 (b ()) (b ())) (b ()) else none) (bif inb f (List.length d.2) then b () else none))) (Z87 (Z87 (bif inb f (List.length d.2) then Z87 (Z87 (b ()) (b ())) (b ()) else none) (bif inb f (List.length d.2) then b () else none)) (bif inb f (List.length d.2) then b () else none))) (Z87 (Z87 (Z87 (bif inb f (List.length d.2) then Z87 (Z87 (b ()) (b ())) (b ()) else none) (bif inb f (List.length d.2) then b () else none)) (bif inb f (List.length d.2) then b () else none)) (Z87 (Z87 (Z87 (bif inb f (List.length d.2) then Z87 (Z87 (b ()) (b ())) (b ()) else none) (bif inb f (List.length d.2) then b () else none)) (bif inb f (List.length d.2) then b () else none)) (bif inb f (List.length d.2) then b () else none))))) (Z87 (Z87 (Z87 (Z87 (bif inb f (List.length d.2) then Z87 (Z87 (b ()) (Z87 (b ()) (b ()))) (Z87 (Z87 (b ()) (b ())) (b ())) else none) (Z87 (bif inb f (List.length d.2) then Z87 (Z87 (b ()) (b ())) (b ()) else none) (bif inb f (List.length d.2) then b () else none))) (Z87 (Z87 (bif inb f (List.length d.2) then Z87 (Z87 (b ()) (b ())) (b ()) else none) (bif inb f (List.length d.2) then b () else none)) (bif inb f (List.length d.2) then b () else none))) (Z87 (Z87 (Z87 (bif inb f (List.length d.2) then Z87 (Z87 (b ()) (b ())) (b ()) else none) (bif inb f (List.length d.2) then b () else none)) (bif inb f (List.length d.2) then b () else none)) (bif inb f (List.length d.2) then b () else none))) (Z87 (Z87 (Z87 (Z87 (bif inb f (List.length d.2) then Z87 (Z87 (b ()) (b ())) (b ()) else none) (bif inb f (List.length d.2) then b () else none)) (bif inb f (List.length d.2) then b () else none)) (Z87 (Z87 (Z87 (bif inb f (List.length d.2) then Z87 (Z87 (b ()) (b ())) (b ()) else none) (bif inb f (List.length d.2) then b () else none)) (bif inb f (List.length d.2) then b () else none)) (bif inb f (List.length d.2) then b () else none))) (Z87 (Z87 (Z87 (Z87 (bif inb f (List.length d.2) then Z87 (Z87 (b ()) (b ())) (b ()) else none) (bif inb f (List.length d.2) then b () else none)) (bif inb f (List.length d.2) then b () else none)) (bif inb f (List.length d.2) then b () else none)) (bif inb f (List.length d.2) then b () else none)))) else none
def j9A:Z1d Unit:=Nd 108 108 [.t 2 (pB 2),.t 3 (pB 3),.t 4 (pB 4),.I 6] [(2,y33,[.S,.S]),(3,y17,[.S,.S,.S,.S]),(4,y33,[.O,.O])] λd b f=>jaB d.1 b.1.2 (λ_=>f .normal [(2,pB 2),(3,pB 3),(4,pB 4),(6,vI d.1),(9,pB 9),(10,v1 y31 (nth [] b.1.2.2 d.1) .S)] [(2,⟨y33,b.1.1,b.1.2,[.S,.S]⟩),(3,⟨y17,b.2.1.1,b.2.1.2,[.S,.S,.S,.S]⟩),(4,⟨y33,b.2.2.1.1,b.2.2.1.2,[.O,.O]⟩),(9,⟨y29,false,nth (eS,[],[]) b.1.2.1 d.1,[.S,.S]⟩)])
theorem jn5:CN 0 62 Tryz.f196 j9A:=nK jc8 [j7h] oN ([2,3,4,6,9,10],[2,3,4,9]) [] ([],[]) λ_ _ _=>by kernel_rfl
def j5Y (l:List qW) (code:Int) (b:Int) (s:qS) (t:qB×qE×qL) (d:qR->Int->Res):Res:=bif (b==1) then j7l t l s.2.2.2.1 λr f=>d r f else bif (b==2) then j7m t l s.2.2.1 s.2.2.2.1 λg h=>d g h else bif (b==3) then j7k t l s.2.2.1 λi j=>d i j else d [] code
def jcR:Z1d Unit:=Nd 108 108 [.t 2 (pB 2),.t 3 (pB 3),.t 4 (pB 4),.I 6,.t 9 (pB 9),.R 10 y31 .S,.I 11,.I 61] [(2,y33,[.S,.S]),(3,y17,[.S,.S,.S,.S]),(4,y33,[.O,.O]),(9,y29,[.S,.S])] λf d g=>j5Y f.2.1 f.2.2.1 f.2.2.2.1 d.2.1.2 d.2.2.2.1.2 (λh b=>g .normal [(2,pB 2),(4,pB 4),(6,vI f.1),(10,v1 y31 h .O),(11,vI b)] [(2,⟨y33,d.1.1,d.1.2,[.S,.S]⟩),(4,⟨y33,d.2.2.1.1,d.2.2.1.2,[.O,.O]⟩)])
theorem jn6:CN 0 509 Tryz.f196 jcR:=nK jc8 [j7h,j9A] oN ([2,4,6,10,11],[2,4]) [] ([],[]) λ_ _ _=>by delta j5Y jcD jcE jcC;refine gz j7l λ_ b=>gz j7m λ_ d=>gz j7k λ_ f=> ?_;rewrite [<-b,<-d,<-f];kernel_rfl
def jad (d:qF×List qR) (s:qS) (b:qD->Int->Res):Res:=j0g d.1 s.2.1 λr=>j7U r s (λ_=>bif (s.1==5) then j5X d s.2.2.2.2 λh g=>bif (g != 0) then b ([],[]) (Z9K (10+g)) else b h 0 else jaB r d λ_=>j5Y (nth [] d.2 r) 0 s.1 s (nth (eS,[],[]) d.1 r) λl code=>bif (code != 0) then b ([],[]) (Z9K (10+code)) else j0Q d λf=>bif inb r (List.length f.2) then b (f.1,upd f.2 r l) 0 else none) (λ_=>b ([],[]) 4)
def jfl:Sig Unit:=sg [.borrow y33 true,.borrow y17 true] [true,false] [(y33,none),(y17,none)] [] λb g k=>jad b.1 b.2.1 (λd f=>k [⟨y33,true,d,[.O,.O]⟩,wI f] [] [])
theorem joT:SO 196 jfl:=fK (np:=0) jc8 [j7h,j9A,jcR] (oI 14 0 @jn4 (oI 62 1 @jn5 (oI 509 2 @jn6 oN))) false Tryz.func196 λ_ _ _ _=>by delta jad j0N j7h jbP j9A jcR j2a;refine gz j0g λ_ b=>gz j7U λ_ d=>gz j5X λ_ f=>gz jaB λ_ g=>gz j5Y λ_ h=>gz j0Q λ_ i=> ?_;rewrite [<-b,<-d,<-f,<-g,<-h,<-i];kernel_rfl
theorem jfu:FS [(161,j9u),(174,j2a),(195,jfk),(196,jfl)]:=(Za6 jgY (Za6 j9p (Za6 joR (Za6 joT Zas))))
def j20 (d:List qS) (g:Int) (b:Int) (f:qF×List qR) (rec:Int->qD->Res) (j:qD->Res) (h:Int->Int->Res):Res:=bif decide (b<g) then bif inb b (List.length d) then j3t (nth (0,eS,[],[],0,eS,[],[],eS,eS) d b) λr=>bif !r then h 1 b else jad f (nth (0,eS,[],[],0,eS,[],[],eS,eS) d b) λk i=>bif (i != 0) then h i b else rec (Z9K (b+1)) k else none else j f
def j31 (d:List qS) (f:Int):(Int×qD)->(Int×qD->Res)->((qD->Res)×(Int->Int->Res))->Res:=λv rec q=>j20 d f v.1 v.2 (λg b=>rec (g,b)) q.1 q.2
def jay (d:List qS) (f:Int) (n:Nat) (g:Int) (b:qF×List qR) (h:qD->Res) (i:Int->Int->Res):Res:=Z1f (j31 d f) n (g,b) (h,i)
def ja0:Z1d Unit:=NdL 44 44 [.t 4 (pB 4),.t 7 (pB 7),.R 18 y27 .S,.I 19,.I 20] [(4,y33,[.O,.O]),(7,y33,[.O,.O])] (λd b=>(d.2.2.1,b.2.1.2)) (λd v=>(d.1,d.2.1,v.1,())) (λb v=>((b.1.1,b.1.2),(b.2.1.1,v.2),())) (λd b=>j31 d.1 d.2.1) λd b g=>((λf=>g (.exit 0) [(4,pB 4),(7,pB 7)] [(4,⟨y33,b.1.1,b.1.2,[.O,.O]⟩),(7,⟨y33,b.2.1.1,f,[.O,.O]⟩)]),(λh i=>g .ret [(4,pB 4),(5,vI h),(6,vI i)] [(4,⟨y33,b.1.1,([],[]),[.O,.O]⟩)]))
theorem jjC:CN 0 122 Tryz.f138 ja0:=lK jfu [] oN ([],[]) [(0,[4,7],[4,7])] ([4,5,6],[4]) λ_ _ _ _ _=>by delta j31 j20 j9u jfl;refine gz j3t λ_ b=>gz jad λ_ d=> ?_;rewrite [<-b,<-d];kernel_rfl
def j0L (d:qF×List qR) (l:List qS) (b:qD->Int->Int->Res):Res:=jac d λr=>bif !r then b ([],[]) 1 0 else j0Q d λg=>jay l (nI (List.length l)) Z1c 0 g (λf=>b f 0 0) (λt h=>b ([],[]) t h)
def j68:Sig Unit:=sg [.borrow y33 true,.borrow y27 false] [true,false,false] [(y33,none),(y27,none)] [] λb h k=>j0L b.1 b.2.1 (λd f g=>k [⟨y33,true,d,[.O,.O]⟩,wI f,wI g] [] [])
theorem jfz:SO 138 j68:=fK (np:=0) jfu [ja0] (oI 122 0 @jjC oN) false Tryz.func138 λ_ _ _ _=>by delta j0L jfk j2a ja0 jay;refine gz jac λ_ b=>gz j0Q λ_ d=>gz j31 λ_ f=> ?_;rewrite [<-b,<-d,<-f];kernel_rfl
end
end Go.PI.G
