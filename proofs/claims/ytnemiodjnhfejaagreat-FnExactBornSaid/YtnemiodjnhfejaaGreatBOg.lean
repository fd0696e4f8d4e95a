/-
  Program's code interpreted over typed values; printed texts; plain laws. No conditions.
-/
import Derived.Test.YtnemiodjnhfejaaGreatBOd
import Derived.Test.YtnemiodjnhfejaaGreatBOe
import Derived.Test.YtnemiodjnhfejaaGreatBOf
set_option linter.unusedVariables false
set_option maxRecDepth 100000
namespace Go.PI.G
noncomputable section
open Go Go.PI Go.Proofs
open Go.Code (pl pr)
def j37 (d:List qV) (h:Int) (b:Int) (rec:Int->Res) (f:Unit->Res) (g:Unit->Res):Res:=bif decide (b<h) then bif inb b (List.length d) then j1k (nth (0,0,eS) d b) λr=>bif !r then g () else rec (Z9K (b+1)) else none else f ()
def j8h (b:List qV) (d:Int):Int->(Int->Res)->((Unit->Res)×(Unit->Res))->Res:=λv rec q=>j37 b d v (λf=>rec (f)) q.1 q.2
def jdY (f:List qV) (g:Int) (n:Nat) (h:Int) (b:Unit->Res) (d:Unit->Res):Res:=Z1f (j8h f g) n (h) (b,d)
def jds:Z1d Unit:=NdL 23 23 [.R 0 y3 .S,.R 5 y3 .S,.I 6,.I 7] [] (λb d=>(b.2.2.2.1)) (λb v=>(b.1,b.2.1,b.2.2.1,v,())) (λd v=>()) (λb d=>j8h b.2.1 b.2.2.1) λb d f=>((λ_=>f (.exit 0) [(0,v1 y3 b.1 .S)] []),(λ_=>f .ret [(2,vB false)] []))
theorem jiT:CN 0 26 Tryz.f208 jds:=lK (Za6 j7d Zas) [] oN ([],[]) [(0,[0],[])] ([2],[]) λ_ _ _ _ _=>by kernel_rfl
def j2t (l:List qV) (b:Bool->Res):Res:=jdY l (nI (List.length l)) Z1c 0 (λ_=>bif decide ((nI (List.length l))>=1) then b (decide ((nI (List.length l))<=8)) else b false) (λ_=>b false)
def jb5:Sig Unit:=sg [.look y3 false] [false] [(y3,none)] [] λd f k=>j2t d.1 (λb=>k [wB b] [] [])
theorem jko:SO 208 jb5:=fK (np:=0) (Za6 j7d Zas) [jds] (oI 26 0 @jiT oN) false Tryz.func208 λ_ _ _ _=>by kernel_rfl
def j1m (d:qG) (b:Bool->Res):Res:=bif (d.1==0) then bif sEq d.2.1 eS then bif ((nI (List.length d.2.2.1))==0) then bif ((nI (List.length d.2.2.2.1))==0) then bif sEq d.2.2.2.2.1 eS then b (sEq d.2.2.2.2.2 eS) else b false else b false else b false else b false else b false
def ja9:Sig Unit:=sg [.look y13 true] [false] [(y13,none)] [] λd f k=>j1m d.1 (λb=>k [wB b] [] [])
theorem jdB:SO 209 ja9:=fK (np:=0) Zas [] oN false Tryz.func209 λ_ _ _ _=>by kernel_rfl
theorem jg5:FS [(154,j2L),(208,jb5),(209,ja9),(210,j3Q)]:=(Za6 j8D (Za6 jko (Za6 jdB (Za6 jcM Zas))))
def j5X (d:Bool) (f:Bool) (s:qS) (b:Bool->Res):Res:=bif (s.1==1) then bif d then j2t s.2.2.2.1 λr=>bif r then j1m s.2.2.2.2 λg=>b g else b false else b false else bif (s.1==2) then j2t s.2.2.1 λh=>bif h then j2t s.2.2.2.1 λi=>bif i then j1m s.2.2.2.2 λj=>b j else b false else b false else bif (s.1==3) then j2t s.2.2.1 λk=>bif k then bif f then j1m s.2.2.2.2 λl=>b l else b false else b false else bif (s.1==4) then bif d then bif f then j1m s.2.2.2.2 λm=>b m else b false else b false else bif (s.1==5) then bif d then bif f then j2h s.2.2.2.2 λn=>bif n then b (sEq s.2.2.2.2.2.1 s.2.1) else b false else b false else b false else b false
def jau:Z1d Unit:=Nd 93 93 [.t 1 (pB 1),.B 3,.B 4] [(1,y17,[.S,.S,.S,.S])] λb g d=>j5X b.1 b.2.1 g.1.2 (λf=>d .ret [(2,vB f)] [])
theorem jjQ:CN 0 31 Tryz.f155 jau:=nK jg5 [] oN ([],[]) [] ([2],[]) λ_ _ _=>by delta j5X jb5 ja9 j3Q;refine gz j2t λ_ b=>gz j1m λ_ d=>gz j2h λ_ f=> ?_;rewrite [<-b,<-d,<-f];kernel_rfl
def j3g (s:qS) (b:Bool->Res):Res:=j0F s.2.1 λr=>bif !r then b false else j5X ((nI (List.length s.2.2.1))==0) ((nI (List.length s.2.2.2.1))==0) s λt=>b t
def j6D:Sig Unit:=sg [.look y17 true] [false] [(y17,none)] [] λd f k=>j3g d.1 (λb=>k [wB b] [] [])
theorem jgc:SO 155 j6D:=fK (np:=0) jg5 [jau] (oI 31 0 @jjQ oN) false Tryz.func155 λ_ _ _ _=>by delta j3g j2L jau;refine gz j0F λ_ b=>gz j5X λ_ d=> ?_;rewrite [<-b,<-d];kernel_rfl
theorem jhP:FS [(172,j1i),(242,j7o)]:=(Za6 j4d (Za6 jgV Zas))
def j5T (f:List qT) (g:Int) (d:qF×List qR) (b:Int) (rec:Int->Res) (h:Unit->Res) (i:Unit->Res):Res:=bif decide (b<g) then bif inb b (List.length f) then bif inb b (List.length d.2) then j0y (nth (eS,[],[]) f b) (nth [] d.2 b) λr=>bif !r then i () else rec (Z9K (b+1)) else none else none else h ()
def j7V (b:List qT) (f:Int) (d:qF×List qR):Int->(Int->Res)->((Unit->Res)×(Unit->Res))->Res:=λv rec q=>j5T b f d v (λg=>rec (g)) q.1 q.2
def jdi (b:List qT) (f:Int) (d:qF×List qR) (n:Nat) (g:Int) (h:Unit->Res) (i:Unit->Res):Res:=Z1f (j7V b f d) n (g) (h,i)
def jcd:Z1d Unit:=NdL 38 38 [.t 1 (pB 1),.R 21 y30 .S,.I 22,.I 23] [(1,y33,[.S,.S])] (λb d=>(b.2.2.1)) (λb v=>(b.1,b.2.1,v,())) (λd v=>((d.1.1,d.1.2),())) (λb d=>j7V b.1 b.2.1 d.1.2) λb d f=>((λ_=>f (.exit 0) [] []),(λ_=>f .ret [(2,vB false)] []))
theorem jm4:CN 0 58 Tryz.f186 jcd:=lK jhP [] oN ([],[]) [(0,[],[])] ([2],[]) λ_ _ _ _ _=>by kernel_rfl
def j68 (d:qF×List qR) (b:Bool->Res):Res:=j6m d.1 λr=>bif !r then b false else bif ((nI (List.length d.2)) != (nI (List.length d.1))) then b false else jdi d.1 (nI (List.length d.1)) d Z1c 0 (λ_=>b true) (λ_=>b false)
def j8y:Sig Unit:=sg [.look y33 true] [false] [(y33,none)] [] λd f k=>j68 d.1 (λb=>k [wB b] [] [])
theorem jhR:SO 186 j8y:=fK (np:=0) jhP [jcd] (oI 58 0 @jm4 oN) false Tryz.func186 λ_ _ _ _=>by delta j68 j7o jcd jdi;refine gz j6m λ_ b=>gz j7V λ_ d=> ?_;rewrite [<-b,<-d];kernel_rfl
theorem jeJ:FS [(243,j5L),(244,j7S)]:=(Za6 jeW (Za6 jeX Zas))
def j36 (f:List qR) (g:Int) (d:Int) (b:qF×List qR) (rec:Int->qD->Res) (h:qD->Res):Res:=bif decide (d<g) then bif inb d (List.length f) then j60 (nth [] f d) λr=>bif lim ((List.length b.2)+1) then rec (Z9K (d+1)) (b.1,(b.2++[r])) else none else none else h b
def j5d (d:List qR) (f:Int):(Int×qD)->(Int×qD->Res)->((qD->Res))->Res:=λv rec q=>j36 d f v.1 v.2 (λg b=>rec (g,b)) q
def jag (d:List qR) (f:Int) (n:Nat) (g:Int) (b:qF×List qR) (h:qD->Res):Res:=Z1f (j5d d f) n (g,b) (h)
def j9k:Z1d Unit:=NdL 28 28 [.t 2 (pB 2),.t 3 (pB 3),.R 11 y32 .S,.I 12,.I 13] [(2,y33,[.O,.O]),(3,y33,[.O,.O])] (λd b=>(d.2.2.1,b.2.1.2)) (λd v=>(d.1,d.2.1,v.1,())) (λb v=>((b.1.1,b.1.2),(b.2.1.1,v.2),())) (λd b=>j5d d.1 d.2.1) λd b g=>((λf=>g (.exit 0) [(2,pB 2),(3,pB 3)] [(2,⟨y33,b.1.1,b.1.2,[.O,.O]⟩),(3,⟨y33,b.2.1.1,f,[.O,.O]⟩)]))
theorem jiS:CN 0 58 Tryz.f187 j9k:=lK jeJ [] oN ([],[]) [(0,[2,3],[2,3])] ([],[]) λ_ _ _ _ _=>by kernel_rfl
def j1H (d:qF×List qR) (f:qD->Res):Res:=j3V d.1 λr=>jag d.2 (nI (List.length d.2)) Z1c 0 (r,[]) λb=>f b
def j5M:Sig Unit:=sg [.borrow y33 true] [true] [(y33,none)] [] λd f k=>j1H d.1 (λb=>k [⟨y33,true,b,[.O,.O]⟩] [] [])
theorem jeZ:SO 187 j5M:=fK (np:=0) jeJ [j9k] (oI 58 0 @jiS oN) false Tryz.func187 λ_ _ _ _=>by delta j1H j5L j9k jag;refine gz j3V λ_ b=>gz j5d λ_ d=> ?_;rewrite [<-b,<-d];kernel_rfl
def j1g (t:qB×qE×qL) (l:List qW) (s:qS) (b:qR->Int->Res):Res:=bif (s.1==1) then j6N t l s.2.2.2.1 λr d=>b r d else bif (s.1==2) then j6O t l s.2.2.1 s.2.2.2.1 λf g=>b f g else bif (s.1==3) then j6M t l s.2.2.1 λh i=>b h i else bif (s.1==5) then j5W t l s.2.2.2.2 λj k=>b j k else b [] 0
def j5N:Sig Unit:=sg [.borrow y29 true,.borrow y31 false,.borrow y17 true] [false,false] [(y29,none),(y31,none),(y17,none)] [] λb g k=>j1g b.1 b.2.1 b.2.2.1 (λd f=>k [w1 y31 d .O,wI f] [] [])
theorem jf0:SO 246 j5N:=fK (np:=0) (Za6 jlG (Za6 jlH (Za6 jlF (Za6 jkm Zas)))) [] oN false Tryz.func246 λ_ _ _ _=>by delta j1g jgq jgr jgp jfh;refine gz j6N λ_ b=>gz j6O λ_ d=>gz j6M λ_ f=>gz j5W λ_ g=> ?_;rewrite [<-b,<-d,<-f,<-g];kernel_rfl
theorem j6a:FS [(113,j2q),(244,j7S),(246,j5N),(287,j4A)]:=(Za6 j9C (Za6 jeX (Za6 jf0 (Za6 jdA Zas))))
def j35 (b:Int) (s:qS) (t:qB×qE×qL) (d:Bool->Res):Res:=bif decide (b>=0) then d (sEq t.1 s.2.1) else d false
def j2v:Z1d Unit:=Nd 86 86 [.t 2 (pB 2),.t 3 (pB 3),.t 4 (pB 4),.t 8 (pB 8),.t 10 (pB 10),.t 11 (pB 11),.I 12,.R 29 y30 .S,.I 30,.I 31] [(2,y33,[.S,.S]),(3,y17,[.S,.S,.S,.S]),(4,y33,[.O,.O]),(8,y33,[.S,.O]),(10,y29,[.S,.S]),(11,y31,[.O])] λd b g=>j35 d.1 b.2.1.2 b.2.2.2.2.1.2 (λf=>g .normal [(2,pB 2),(3,pB 3),(4,pB 4),(8,pB 8),(11,pB 11),(12,vI d.1),(29,v1 y30 d.2.1 .S),(30,vI d.2.2.1),(31,vI d.2.2.2.1),(49,vB f)] [(2,⟨y33,b.1.1,b.1.2,[.S,.S]⟩),(3,⟨y17,b.2.1.1,b.2.1.2,[.S,.S,.S,.S]⟩),(4,⟨y33,b.2.2.1.1,b.2.2.1.2,[.O,.O]⟩),(8,⟨y33,b.2.2.2.1.1,b.2.2.2.1.2,[.S,.O]⟩),(11,⟨y31,b.2.2.2.2.2.1.1,b.2.2.2.2.2.1.2,[.O]⟩)])
theorem jhh:CN 0 256412 Tryz.f245 j2v:=nK j6a [] oN ([2,3,4,8,11,12,29,30,31,49],[2,3,4,8,11]) [] ([],[]) λ_ _ _=>by kernel_rfl
def j1O (b:Int) (g:Bool) (d:qF×List qR) (s:qS) (x:List qW) (f:qR->Res):Res:=bif g then bif inb b (List.length d.1) then bif inb b (List.length d.2) then j1g (nth (eS,[],[]) d.1 b) (nth [] d.2 b) s λr i=>Z87 (f r) (f r) else none else none else bif decide (b>=0) then bif inb b (List.length d.2) then j60 (nth [] d.2 b) λh=>f h else none else f x
def j4Q:Z1d Unit:=Nd 86 86 [.t 2 (pB 2),.t 3 (pB 3),.t 4 (pB 4),.t 8 (pB 8),.t 11 (pB 11),.I 12,.R 29 y30 .S,.I 30,.I 31,.B 49] [(2,y33,[.S,.S]),(3,y17,[.S,.S,.S,.S]),(4,y33,[.O,.O]),(8,y33,[.S,.O]),(11,y31,[.O])] λd b f=>j1O d.1 d.2.2.2.2.1 b.1.2 b.2.1.2 b.2.2.2.2.1.2 (λg=>f .normal [(2,pB 2),(3,pB 3),(4,pB 4),(8,pB 8),(11,pB 11),(29,v1 y30 d.2.1 .S),(30,vI d.2.2.1),(31,vI d.2.2.2.1)] [(2,⟨y33,b.1.1,b.1.2,[.S,.S]⟩),(3,⟨y17,b.2.1.1,b.2.1.2,[.S,.S,.S,.S]⟩),(4,⟨y33,b.2.2.1.1,b.2.2.1.2,[.O,.O]⟩),(8,⟨y33,b.2.2.2.1.1,b.2.2.2.1.2,[.S,.O]⟩),(11,⟨y31,b.2.2.2.2.1.1,g,[.O]⟩)])
theorem jhi:CN 0 256413 Tryz.f245 j4Q:=nK j6a [j2v] oN ([2,3,4,8,11,29,30,31],[2,3,4,8,11]) [] ([],[]) λ_ _ _=>by delta j1O j5N j7S;refine gz j1g λ_ b=>gz j60 λ_ d=> ?_;rewrite [<-b,<-d];kernel_rfl
def j1a (g:List qT) (h:Int) (d:qF×List qR) (s:qS) (b:Int) (f:qF×List qR) (rec:Int->qD->Res) (i:qD->Res):Res:=bif decide (b<h) then bif inb b (List.length g) then j1l d.1 (nth (eS,[],[]) g b).1 λr=>j35 r s (nth (eS,[],[]) g b) λt=>j1O r t d s [] λx=>bif lim ((List.length f.2)+1) then rec (Z9K (b+1)) (f.1,(f.2++[x])) else none else none else i f
def j23 (f:List qT) (g:Int) (d:qF×List qR) (s:qS):(Int×qD)->(Int×qD->Res)->((qD->Res))->Res:=λv rec q=>j1a f g d s v.1 v.2 (λh b=>rec (h,b)) q
def j5c (f:List qT) (g:Int) (d:qF×List qR) (s:qS) (n:Nat) (h:Int) (b:qF×List qR) (i:qD->Res):Res:=Z1f (j23 f g d s) n (h,b) (i)
def j7E:Z1d Unit:=NdL 86 86 [.t 2 (pB 2),.t 3 (pB 3),.t 4 (pB 4),.t 8 (pB 8),.R 29 y30 .S,.I 30,.I 31] [(2,y33,[.S,.S]),(3,y17,[.S,.S,.S,.S]),(4,y33,[.O,.O]),(8,y33,[.S,.O])] (λd b=>(d.2.2.1,b.2.2.2.1.2)) (λd v=>(d.1,d.2.1,v.1,())) (λb v=>((b.1.1,b.1.2),(b.2.1.1,b.2.1.2),(b.2.2.1.1,b.2.2.1.2),(b.2.2.2.1.1,v.2),())) (λd b=>j23 d.1 d.2.1 b.1.2 b.2.1.2) λd b g=>((λf=>g (.exit 0) [(4,pB 4),(8,pB 8)] [(4,⟨y33,b.2.2.1.1,b.2.2.1.2,[.O,.O]⟩),(8,⟨y33,b.2.2.2.1.1,f,[.S,.O]⟩)]))
theorem jhg:CN 0 250 Tryz.f245 j7E:=lK j6a [j2v,j4Q] (oI 924 0 @jhh (oI 925 1 @jhi oN)) ([],[]) [(0,[4,8],[4,8])] ([],[]) λ_ _ _ _ _=>by delta j23 j1a j2q j2v j4Q;refine gz j1l λ_ b=>gz j35 λ_ d=>gz j1O λ_ f=> ?_;rewrite [<-b,<-d,<-f];kernel_rfl
def j3t (d:qF×List qR) (s:qS) (f:qD->Int->Res):Res:=j1U d.1 s.2.2.2.2 λr g=>bif (g != 0) then f ([],[]) (Z9K (10+g)) else j5c r (nI (List.length r)) d s Z1c 0 (r,[]) λb=>f b 0
def j90:Sig Unit:=sg [.borrow y33 true,.borrow y17 true] [true,false] [(y33,none),(y17,none)] [] λb g k=>j3t b.1 b.2.1 (λd f=>k [⟨y33,true,d,[.S,.S]⟩,wI f] [] [])
theorem jik:SO 245 j90:=fK (np:=0) j6a [j2v,j4Q,j7E] (oI 250 2 @jhg oN) true Tryz.func245 λ_ _ _ _=>by delta j3t j4A j7E j5c;refine gz j1U λ_ b=>gz j23 λ_ d=> ?_;rewrite [<-b,<-d];kernel_rfl
theorem jhQ:FS [(113,j2q),(155,j6D),(186,j8y),(187,j5M),(245,j90),(246,j5N)]:=(Za6 j9C (Za6 jgc (Za6 jhR (Za6 jeZ (Za6 jik (Za6 jf0 Zas))))))
def j7w (b:Int) (s:qS) (d:Unit->Res) (f:Unit->Res):Res:=bif decide (b<0) then bif (s.1 != 5) then f () else bif (s.2.2.2.2.1 != 1) then f () else d () else d ()
def jce:Z1d Unit:=Nd 77 77 [.t 2 (pB 2),.t 3 (pB 3),.t 4 (pB 4),.I 6] [(2,y33,[.S,.S]),(3,y17,[.S,.S,.S,.S]),(4,y33,[.O,.O])] λf b d=>j7w f.1 b.2.1.2 (λ_=>d .normal [(2,pB 2),(3,pB 3),(4,pB 4),(6,vI f.1)] [(2,⟨y33,b.1.1,b.1.2,[.S,.S]⟩),(3,⟨y17,b.2.1.1,b.2.1.2,[.S,.S,.S,.S]⟩),(4,⟨y33,b.2.2.1.1,b.2.2.1.2,[.O,.O]⟩)]) (λ_=>d .ret [(4,pB 4),(5,vI 4)] [(4,⟨y33,b.2.2.1.1,([],[]),[.O,.O]⟩)])
theorem jm5:CN 0 30 Tryz.f188 jce:=nK jhQ [] oN ([2,3,4,6],[2,3,4]) [] ([4,5],[4]) λ_ _ _=>by kernel_rfl
def j7v (d:qF×List qR) (s:qS) (f:qD->Int->Res):Res:=j68 d λr=>bif !r then f ([],[]) 1 else j3g s λi=>bif !i then f ([],[]) 1 else j1l d.1 s.2.1 λb=>j7w b s (λ_=>bif (s.1==5) then j3t d s λj k=>f j k else bif inb b (List.length d.1) then bif inb b (List.length d.2) then j1g (nth (eS,[],[]) d.1 b) (nth [] d.2 b) s λl h=>bif (h != 0) then f ([],[]) (Z9K (10+h)) else j1H d λg=>bif inb b (List.length g.2) then f (g.1,upd g.2 b l) 0 else none else none else none) (λ_=>f ([],[]) 4)
def ji3:Sig Unit:=sg [.borrow y33 true,.borrow y17 true] [true,false] [(y33,none),(y17,none)] [] λb g k=>j7v b.1 b.2.1 (λd f=>k [⟨y33,true,d,[.S,.S]⟩,wI f] [] [])
theorem jnT:SO 188 ji3:=fK (np:=0) jhQ [jce] (oI 30 0 @jm5 oN) true Tryz.func188 λ_ _ _ _=>by delta j7v j8y j6D j2q jce j90 j5N j5M;refine gz j68 λ_ b=>gz j3g λ_ d=>gz j1l λ_ f=>gz j7w λ_ g=>gz j3t λ_ h=>gz j1g λ_ i=>gz j1H λ_ j=> ?_;rewrite [<-b,<-d,<-f,<-g,<-h,<-i,<-j];kernel_rfl
theorem jeI:FS [(186,j8y),(187,j5M),(188,ji3)]:=(Za6 jhR (Za6 jeZ (Za6 jnT Zas)))
def j2W (d:List qS) (f:Int) (b:Int) (now:qF×List qR) (rec:Int->qD->Res) (h:qD->Res) (i:Int->Int->Res):Res:=bif decide (b<f) then bif inb b (List.length d) then j7v now (nth (0,eS,[],[],0,eS,[],[],eS,eS) d b) λr g=>bif (g != 0) then i g b else rec (Z9K (b+1)) r else none else h now
def j55 (b:List qS) (d:Int):(Int×qD)->(Int×qD->Res)->((qD->Res)×(Int->Int->Res))->Res:=λv rec q=>j2W b d v.1 v.2 (λf now=>rec (f,now)) q.1 q.2
def j73 (b:List qS) (d:Int) (n:Nat) (f:Int) (now:qF×List qR) (g:qD->Res) (h:Int->Int->Res):Res:=Z1f (j55 b d) n (f,now) (g,h)
def j99:Z1d Unit:=λσ k=>rdN σ 39<|rdT σ 4 (pB 4)<|rdT σ 7 (pB 7)<|rd1 σ 18 y27 .S λd=>rdI σ 19 λf=>rdI σ 20 λg=>rdB σ 4 y33 [.O,.O] λa i=>rdB σ 7 y33 [.S,.S] λh now=>j73 d f Z1c g now (λb=>k (.exit 0) (mkS 39 39 [(4,pB 4),(7,pB 7)] [(4,⟨y33,a,i,[.O,.O]⟩),(7,⟨y33,h,b,[.S,.S]⟩)])) (λj l=>k .ret (mkS 39 39 [(4,pB 4),(5,vI j),(6,vI l)] [(4,⟨y33,a,([],[]),[.O,.O]⟩)]))
def j9h:Z1d Unit:=λσ k=>j99 (σ.wk [] [(7,[.S,.S])]) k
theorem jiG:CN 0 122 Tryz.f133 j9h:=λp=>ZaJ [] [(7,[.S,.S])] (jjr follows j1x jeI p [] oN [4,7,18,19,20] [4,7] ([],[]) [(0,[4,7],[4,7])] ([4,5,6],[4]) (y:=j99) λσ k _ h=>rN h λB h=>rT h λz h=>rT h λA h=>rV h λd g h=>rV h λf i h=>rV h λq j h=>rB h λa w l h=>rB h λr now n h=>⟨_,ZaM (m:=39) B (sC z (sC A (sC g (sC i (sC j sN))))) (bC l (bC n bN)),.trans (Z9u (λv:Int×qD=>(mkS 39 39 [(4,pB 4),(7,pB 7),(18,v1 y27 d .S),(19,vI f),(20,vI v.1)] [(4,⟨y33,a,w,[.O,.O]⟩),(7,⟨y33,r,v.2,[.S,.S]⟩)])) (j55 d f) (λ(k:Z83 Unit)=>(((λb=>k (.exit 0) (mkS 39 39 [(4,pB 4),(7,pB 7)] [(4,⟨y33,a,w,[.O,.O]⟩),(7,⟨y33,r,b,[.S,.S]⟩)])),(λC D=>k .ret (mkS 39 39 [(4,pB 4),(5,vI C),(6,vI D)] [(4,⟨y33,a,([],[]),[.O,.O]⟩)]))):(qD->Res)×(Int->Int->Res))) (λv rec k=>by kernel_rfl) Z1c (q,now) k) h⟩)
def j2s (d:qF×List qR) (l:List qS) (b:qD->Int->Int->Res):Res:=j68 d λr=>bif !r then b ([],[]) 1 0 else j1H d λf=>j73 l (nI (List.length l)) Z1c 0 f (λnow=>b now 0 0) (λt g=>b ([],[]) t g)
def jb2:Sig Unit:=sg [.borrow y33 true,.borrow y27 false] [true,false,false] [(y33,none),(y27,none)] [] λb h k=>j2s b.1 b.2.1 (λd f g=>k [⟨y33,true,d,[.S,.S]⟩,wI f,wI g] [] [])
theorem jkk:SO 133 jb2:=fK (np:=0) jeI [j9h] (oI 122 0 @jiG oN) true Tryz.func133 λ_ _ _ _=>by delta j2s j8y j5M j9h;delta j99 j73;refine gz j68 λ_ b=>gz j1H λ_ d=>gz j55 λ_ f=> ?_;rewrite [<-b,<-d,<-f];kernel_rfl
def jbO (d:Int×Int×qB) (b:Bool->Res):Res:=j15 d λr=>b (!r)
def jk2:Sig Unit:=sg [.look y2 true] [false] [(y2,none)] [] λd f k=>jbO d.1 (λb=>k [wB b] [] [])
theorem jdy:SO 272 jk2:=fK (np:=0) (Za6 j7a Zas) [] oN false Tryz.func272 λ_ _ _ _=>by kernel_rfl
def j0X (s:List qV) (g:Int) (b:Int) (rec:Int->Res) (d:Unit->Res) (f:Int->Res):Res:=bif decide (b<g) then bif inb b (List.length s) then jbO (nth (0,0,eS) s b) λr=>bif r then f b else rec (Z9K (b+1)) else none else d ()
def j3c (s:List qV) (b:Int):Int->(Int->Res)->((Unit->Res)×(Int->Res))->Res:=λv rec q=>j0X s b v (λd=>rec (d)) q.1 q.2
def j83 (s:List qV) (f:Int) (n:Nat) (g:Int) (b:Unit->Res) (d:Int->Res):Res:=Z1f (j3c s f) n (g) (b,d)
def j7C:Z1d Unit:=NdL 19 19 [.R 0 y3 .S,.c 1 272 [] .unit [],.I 7,.I 8] [] (λb d=>(b.2.2.2.1)) (λb v=>(b.1,b.2.1,b.2.2.1,v,())) (λd v=>()) (λb d=>j3c b.1 b.2.2.1) λb d f=>((λ_=>f (.exit 0) [] []),(λg=>f .ret [(4,vI g)] []))
theorem jd6:CN 0 26 Tryz.f306 j7C:=lK (Za6 jdy Zas) [] oN ([],[]) [(0,[],[])] ([4],[]) λ_ _ _ _ _=>by kernel_rfl
def j6k (s:List qV) (f:Unit) (b:Int->Res):Res:=j83 s (nI (List.length s)) Z1c 0 (λ_=>b (-1)) (λt=>b t)
def jeA:Sig Unit:=sg [.look y3 false,.rclos 272 []] [false] [(y3,none),(.unit,none)] [] λb f k=>j6k b.1 b.2.1 (λd=>k [wI d] [] [])
theorem jeo:SO 306 jeA:=fK (np:=0) (Za6 jdy Zas) [j7C] (oI 26 0 @jd6 oN) false Tryz.func306 λ_ _ _ _=>by kernel_rfl
def j1X (s:List qV) (f:Unit) (b:Bool->Res):Res:=j6k s f λr=>b (decide (r>=0))
def j71:Sig Unit:=sg [.look y3 false,.rclos 272 []] [false] [(y3,none),(.unit,none)] [] λb f k=>j1X b.1 b.2.1 (λd=>k [wB d] [] [])
theorem jck:SO 271 j71:=fK (np:=0) (Za6 jeo Zas) [] oN false Tryz.func271 λ_ _ _ _=>by kernel_rfl
def j1B (l:List qV) (b:Bool->Res):Res:=j0i (nI (List.length l)) 1 8 λr=>bif r then j1X l () λd=>b (!d) else b false
def jaY:Sig Unit:=sg [.look y3 false] [false] [(y3,none)] [] λd f k=>j1B d.1 (λb=>k [wB b] [] [])
theorem jkf:SO 213 jaY:=fK (np:=0) (Za6 j2H (Za6 jck Zas)) [] oN false Tryz.func213 λ_ _ _ _=>by delta j1B j1S j71;refine gz j0i λ_ b=>gz j1X λ_ d=> ?_;rewrite [<-b,<-d];kernel_rfl
theorem jg1:FS [(160,j2J),(211,j3N),(212,j70),(213,jaY)]:=(Za6 j8C (Za6 jcD (Za6 j9z (Za6 jkf Zas))))
def j5q (s:qS) (b:Bool->Res):Res:=bif (s.1==1) then bif ((nI (List.length s.2.2.1))==0) then j1B s.2.2.2.1 λr=>b r else b false else bif (s.1==2) then j1B s.2.2.1 λd=>bif d then j1B s.2.2.2.1 λf=>b f else b false else bif (s.1==3) then j1B s.2.2.1 λg=>bif g then b ((nI (List.length s.2.2.2.1))==0) else b false else bif (s.1==4) then bif ((nI (List.length s.2.2.1))==0) then b ((nI (List.length s.2.2.2.1))==0) else b false else b false
def jal:Z1d Unit:=Nd 91 91 [.t 1 (pB 1)] [(1,y17,[.S,.S,.S,.S])] λg f b=>j5q f.1.2 (λd=>b .ret [(2,vB d)] [])
theorem jjw:CN 0 15 Tryz.f161 jal:=nK jg1 [] oN ([],[]) [] ([2],[]) λ_ _ _=>by delta j5q jaY;refine gz j1B λ_ b=> ?_;rewrite [<-b];kernel_rfl
def j3d (s:qS) (b:Bool->Res):Res:=bif (s.1==5) then j2f s.2.2.2.2 λr=>bif r then bif sEq s.2.1 s.2.2.2.2.2.1 then bif ((nI (List.length s.2.2.1))==0) then b ((nI (List.length s.2.2.2.1))==0) else b false else b false else b false else j0w s.2.1 λd=>bif !d then b false else j0g s.2.2.2.2 (0,eS,[],[],eS,eS) λf=>bif !f then b false else j5q s λt=>b t
def j8F:Sig Unit:=sg [.look y17 true] [false] [(y17,none)] [] λd f k=>j3d d.1 (λb=>k [wB b] [] [])
theorem jg7:SO 161 j8F:=fK (np:=0) jg1 [jal] (oI 15 0 @jjw oN) false Tryz.func161 λ_ _ _ _=>by delta j3d j3N j2J j70 jal;refine gz j2f λ_ b=>gz j0w λ_ d=>gz j0g λ_ f=>gz j5q λ_ g=> ?_;rewrite [<-b,<-d,<-f,<-g];kernel_rfl
def j6A (s:qS) (b:qS->Res):Res:=j0t s.2.2.1 λr=>j0t s.2.2.2.1 λd=>j9L s.2.2.2.2 λf=>b (s.1,s.2.1,r,d,f)
def jk3:Sig Unit:=sg [.borrow y17 true] [true] [(y17,none)] [] λd f k=>j6A d.1 (λb=>k [⟨y17,true,b,[.O,.O,.O,.O]⟩] [] [])
theorem jdz:SO 216 jk3:=fK (np:=0) (Za6 j4j (Za6 jkh Zas)) [] oN false Tryz.func216 λ_ _ _ _=>by delta j6A j4z jfg;refine gz j0t λ_ b=>gz j9L λ_ d=> ?_;rewrite [<-b,<-d];kernel_rfl
theorem jhN:FS [(250,j7l),(251,j1R)]:=(Za6 jgI (Za6 j6y Zas))
def j5m (f:List qT) (g:Int) (d:qF×List qR) (b:Int) (rec:Int->Res) (h:Unit->Res) (i:Unit->Res):Res:=bif decide (b<g) then bif inb b (List.length f) then bif inb b (List.length d.2) then j0Q (nth (eS,[],[]) f b) (nth [] d.2 b) λr=>bif !r then i () else rec (Z9K (b+1)) else none else none else h ()
def j7L (b:List qT) (f:Int) (d:qF×List qR):Int->(Int->Res)->((Unit->Res)×(Unit->Res))->Res:=λv rec q=>j5m b f d v (λg=>rec (g)) q.1 q.2
def jcU (b:List qT) (f:Int) (d:qF×List qR) (n:Nat) (g:Int) (h:Unit->Res) (i:Unit->Res):Res:=Z1f (j7L b f d) n (g) (h,i)
def jc8:Z1d Unit:=NdL 38 38 [.t 1 (pB 1),.R 21 y30 .S,.I 22,.I 23] [(1,y33,[.S,.S])] (λb d=>(b.2.2.1)) (λb v=>(b.1,b.2.1,v,())) (λd v=>((d.1.1,d.1.2),())) (λb d=>j7L b.1 b.2.1 d.1.2) λb d f=>((λ_=>f (.exit 0) [] []),(λ_=>f .ret [(2,vB false)] []))
theorem jlT:CN 0 58 Tryz.f195 jc8:=lK jhN [] oN ([],[]) [(0,[],[])] ([2],[]) λ_ _ _ _ _=>by kernel_rfl
def j9o (d:qF×List qR) (b:Bool->Res):Res:=j6b d.1 λr=>bif !r then b false else bif ((nI (List.length d.2)) != (nI (List.length d.1))) then b false else jcU d.1 (nI (List.length d.1)) d Z1c 0 (λ_=>b true) (λ_=>b false)
def jew:Sig Unit:=sg [.look y33 true] [false] [(y33,none)] [] λd f k=>j9o d.1 (λb=>k [wB b] [] [])
theorem jnN:SO 195 jew:=fK (np:=0) jhN [jc8] (oI 58 0 @jlT oN) false Tryz.func195 λ_ _ _ _=>by delta j9o j7l jc8 jcU;refine gz j6b λ_ b=>gz j7L λ_ d=> ?_;rewrite [<-b,<-d];kernel_rfl
theorem jg2:FS [(231,j5E),(232,j0U)]:=(Za6 jeP (Za6 j4i Zas))
def j3B (f:List qR) (g:Int) (d:Int) (b:qF×List qR) (rec:Int->qD->Res) (h:qD->Res):Res:=bif decide (d<g) then bif inb d (List.length f) then j0s (nth [] f d) λr=>bif lim ((List.length b.2)+1) then rec (Z9K (d+1)) (b.1,(b.2++[r])) else none else none else h b
def j6e (d:List qR) (f:Int):(Int×qD)->(Int×qD->Res)->((qD->Res))->Res:=λv rec q=>j3B d f v.1 v.2 (λg b=>rec (g,b)) q
def jaO (d:List qR) (f:Int) (n:Nat) (g:Int) (b:qF×List qR) (h:qD->Res):Res:=Z1f (j6e d f) n (g,b) (h)
def jan:Z1d Unit:=NdL 28 28 [.t 2 (pB 2),.t 3 (pB 3),.R 11 y32 .S,.I 12,.I 13] [(2,y33,[.O,.O]),(3,y33,[.O,.O])] (λd b=>(d.2.2.1,b.2.1.2)) (λd v=>(d.1,d.2.1,v.1,())) (λb v=>((b.1.1,b.1.2),(b.2.1.1,v.2),())) (λd b=>j6e d.1 d.2.1) λd b g=>((λf=>g (.exit 0) [(2,pB 2),(3,pB 3)] [(2,⟨y33,b.1.1,b.1.2,[.O,.O]⟩),(3,⟨y33,b.2.1.1,f,[.O,.O]⟩)]))
theorem jjy:CN 0 58 Tryz.f174 jan:=lK jg2 [] oN ([],[]) [(0,[2,3],[2,3])] ([],[]) λ_ _ _ _ _=>by kernel_rfl
def j1c (d:qF×List qR) (f:qD->Res):Res:=j3A d.1 λr=>jaO d.2 (nI (List.length d.2)) Z1c 0 (r,[]) λb=>f b
def j2K:Sig Unit:=sg [.borrow y33 true] [true] [(y33,none)] [] λd f k=>j1c d.1 (λb=>k [⟨y33,true,b,[.O,.O]⟩] [] [])
theorem jbI:SO 174 j2K:=fK (np:=0) jg2 [jan] (oI 58 0 @jjy oN) false Tryz.func174 λ_ _ _ _=>by delta j1c j5E jan jaO;refine gz j3A λ_ b=>gz j6e λ_ d=> ?_;rewrite [<-b,<-d];kernel_rfl
theorem jeH:FS [(174,j2K),(176,j0N),(295,ja3),(296,j6h),(297,j6g),(298,jaX)]:=(Za6 jbI (Za6 j6x (Za6 jj4 (Za6 jfA (Za6 jfz (Za6 jke Zas))))))
def j2x (f:Int) (h:Int) (d:qF×List qR) (x:qG) (c:List qT) (b:qF×List qR) (g:qD->Res):Res:=bif (h==1) then Z87 (j0j c x.2.1 λr=>j1u b.2 r [[]] λi=>g (b.1,i)) (Z87 (j0j c x.2.1 λj=>j1u b.2 j [[]] λk=>g (b.1,k)) (j0j c x.2.1 λl=>j1u b.2 l [[]] λm=>g (b.1,m))) else bif (h==2) then j4C b.2 f (Z9K (f+1)) λn=>g (b.1,n) else bif inb f (List.length d.1) then bif inb f (List.length d.2) then j5p (nth (eS,[],[]) d.1 f) (nth [] d.2 f) x λp q=>bif inb f (List.length b.2) then g (b.1,upd b.2 f p) else none else none else none
def j9e:Z1d Unit:=Nd 79 79 [.t 2 (pB 2),.t 3 (pB 3),.t 4 (pB 4),.t 6 (pB 6),.t 8 (pB 8),.I 9,.I 31] [(2,y33,[.S,.S]),(3,y13,[.S,.S]),(4,y33,[.O,.O]),(6,y30,[.O]),(8,y33,[.O,.O])] λf b g=>j2x f.1 f.2.1 b.1.2 b.2.1.2 b.2.2.2.1.2 b.2.2.2.2.1.2 (λd=>g .normal [(4,pB 4),(6,pB 6),(8,pB 8)] [(4,⟨y33,b.2.2.1.1,b.2.2.1.2,[.O,.O]⟩),(6,⟨y30,b.2.2.2.1.1,b.2.2.2.1.2,[.O]⟩),(8,⟨y33,b.2.2.2.2.1.1,d,[.O,.O]⟩)])
theorem jiA:CN 0 253 Tryz.f252 j9e:=nK jeH [] oN ([4,6,8],[4,6,8]) [] ([],[]) λ_ _ _=>by delta j2x j0N j6h j6g jaX;refine gz j0j λ_ b=>gz j1u λ_ d=>gz j4C λ_ f=>gz j5p λ_ g=> ?_;rewrite [<-b,<-d,<-f,<-g];kernel_rfl
def j5r (d:qF×List qR) (x:qG) (f:qD->Int->Res):Res:=j4e d.1 x λr g=>bif (g != 0) then f ([],[]) g else j1c d λh=>j0j d.1 x.2.1 λi=>j2x i x.1 d x r h λb=>f (r,b.2) 0
def jaZ:Sig Unit:=sg [.borrow y33 true,.borrow y13 true] [true,false] [(y33,none),(y13,none)] [] λb g k=>j5r b.1 b.2.1 (λd f=>k [⟨y33,true,d,[.O,.O]⟩,wI f] [] [])
theorem jkg:SO 252 jaZ:=fK (np:=0) jeH [j9e] (oI 253 0 @jiA oN) false Tryz.func252 λ_ _ _ _=>by delta j5r ja3 j2K j0N j9e;refine gz j4e λ_ b=>gz j1c λ_ d=>gz j0j λ_ f=>gz j2x λ_ g=> ?_;rewrite [<-b,<-d,<-f,<-g];kernel_rfl
theorem jbk:FS [(174,j2K),(176,j0N),(252,jaZ),(253,jbS),(254,jbT),(255,jbR)]:=(Za6 jbI (Za6 j6x (Za6 jkg (Za6 jlt (Za6 jlu (Za6 jls Zas))))))
def j7j (f:Int) (s:qS) (b:Unit->Res) (d:Unit->Res):Res:=bif decide (f<0) then bif (s.1 != 5) then d () else bif (s.2.2.2.2.1 != 1) then d () else b () else b ()
def j6F:Z1d Unit:=Nd 108 108 [.t 2 (pB 2),.t 3 (pB 3),.t 4 (pB 4),.I 6] [(2,y33,[.S,.S]),(3,y17,[.S,.S,.S,.S]),(4,y33,[.O,.O])] λf b d=>j7j f.1 b.2.1.2 (λ_=>d .normal [(2,pB 2),(3,pB 3),(4,pB 4),(6,vI f.1)] [(2,⟨y33,b.1.1,b.1.2,[.S,.S]⟩),(3,⟨y17,b.2.1.1,b.2.1.2,[.S,.S,.S,.S]⟩),(4,⟨y33,b.2.2.1.1,b.2.2.1.2,[.O,.O]⟩)]) (λ_=>d .ret [(4,pB 4),(5,vI 4)] [(4,⟨y33,b.2.2.1.1,([],[]),[.O,.O]⟩)])
theorem jlW:CN 0 14 Tryz.f196 j6F:=nK jbk [] oN ([2,3,4,6],[2,3,4]) [] ([4,5],[4]) λ_ _ _=>by kernel_rfl
def j9M (f:Int) (d:qF×List qR) (b:Unit->Res):Res:=bif inb f (List.length d.1) then Z87 (Z87 (Z87 (Z87 (bif inb f (List.length d.2) then Z87 (Z87 (b ()) (Z87 (b ()) (b ()))) (Z87 (Z87 (b ()) (b ())) (b ())) else none) (Z87 (bif inb f (List.length d.2) then Z87 (Z87 (b ()) (b ())) (b ()) else none) (bif inb f (List.length d.2) then b () else none))) (Z87 (Z87 (bif inb f (List.length d.2) then Z87 (Z87 (b ()) (b ())) (b ()) else none) (bif inb f (List.length d.2) then b () else none)) (bif inb f (List.length d.2) then b () else none))) (Z87 (Z87 (Z87 (bif inb f (List.length d.2) then Z87 (Z87 (b ()) (Z87 (b ()) (b ()))) (Z87 (Z87 (b ()) (b ())) (b ())) else none) (Z87 (bif inb f (List.length d.2) then Z87 (Z87 (b ()) (b ())) (b ()) else none) (bif inb f (List.length d.2) then b () else none))) (Z87 (Z87 (bif inb f (List.length d.2) then Z87 (Z87 (b ()) (b ())) (b ()) else none) (bif inb f (List.length d.2) then b () else none)) (bif inb f (List.length d.2) then b () else none))) (Z87 (Z87 (Z87 (bif inb f (List.length d.2) then Z87 (Z87 (b ()) (b ())) (b ()) else none) (bif inb f (List.length d.2) then b () else none)) (bif inb f (List.length d.2) then b () else none)) (Z87 (Z87 (Z87 (bif inb f (List.length d.2) then Z87 (Z87 (b ()) (b ())) (b ()) else none) (bif inb f (List.length d.2) then b () else none)) (bif inb f (List.length d.2) then b () else none)) (bif inb f (List.length d.2) then b () else none))))) (Z87 (Z87 (Z87 (Z87 (bif inb f (List.length d.2) then Z87 (Z87 (b ()) (Z87 (b ()) (b ()))) (Z87 (Z87 (b ()) (b ())) (b ())) else none) (Z87 (bif inb f (List.length d.2) then Z87 (Z87 (b ()) (b ())) (b ()) else none) (bif inb f (List.length d.2) then b () else none))) (Z87 (Z87 (bif inb f (List.length d.2) then Z87 (Z87 (b ()) (b ())) (b ()) else none) (bif inb f (List.length d.2) then b () else none)) (bif inb f (List.length d.2) then b () else none))) (Z87 (Z87 (Z87 (bif inb f (List.length d.2) then Z87 (Z87 (b ()) (b ())) (b ()) else none) (bif inb f (List.length d.2) then b () else none)) (bif inb f (List.length d.2) then b () else none)) (bif inb f (List.length d.2) then b () else none))) (Z87 (Z87 (Z87 (Z87 (bif inb f (List.length d.2) then Z87 (Z87 (b ()) (b ())) (b ()) else none) (bif inb f (List.length d.2) then b () else none)) (bif inb f (List.length d.2) then b () else none)) (Z87 (Z87 (Z87 (bif inb f (List.length d.2) then Z87 (Z87 (b ()) (b ())) (b ()) else none) (bif inb f (List.length d.2) then b () else none)) (bif inb f (List.length d.2) then b () else none)) (bif inb f (List.length d.2) then b () else none))) (Z87 (Z87 (Z87 (Z87 (bif inb f (List.length d.2) then Z87 (Z87 (b ()) (b ())) (b ()) else none) (bif inb f (List.length d.2) then b () else none)) (bif inb f (List.length d.2) then b () else none)) (bif inb f (List.length d.2) then b () else none)) (bif inb f (List.length d.2) then b () else none)))) else none
def j8K:Z1d Unit:=Nd 108 108 [.t 2 (pB 2),.t 3 (pB 3),.t 4 (pB 4),.I 6] [(2,y33,[.S,.S]),(3,y17,[.S,.S,.S,.S]),(4,y33,[.O,.O])] λd b f=>j9M d.1 b.1.2 (λ_=>f .normal [(2,pB 2),(3,pB 3),(4,pB 4),(6,vI d.1),(9,pB 9),(10,v1 y31 (nth [] b.1.2.2 d.1) .S)] [(2,⟨y33,b.1.1,b.1.2,[.S,.S]⟩),(3,⟨y17,b.2.1.1,b.2.1.2,[.S,.S,.S,.S]⟩),(4,⟨y33,b.2.2.1.1,b.2.2.1.2,[.O,.O]⟩),(9,⟨y29,false,nth (eS,[],[]) b.1.2.1 d.1,[.S,.S]⟩)])
theorem jlX:CN 0 62 Tryz.f196 j8K:=nK jbk [j6F] oN ([2,3,4,6,9,10],[2,3,4,9]) [] ([],[]) λ_ _ _=>by kernel_rfl
def j5s (l:List qW) (code:Int) (b:Int) (s:qS) (t:qB×qE×qL) (d:qR->Int->Res):Res:=bif (b==1) then j6J t l s.2.2.2.1 λr f=>d r f else bif (b==2) then j6K t l s.2.2.1 s.2.2.2.1 λg h=>d g h else bif (b==3) then j6I t l s.2.2.1 λi j=>d i j else d [] code
def jca:Z1d Unit:=Nd 108 108 [.t 2 (pB 2),.t 3 (pB 3),.t 4 (pB 4),.I 6,.t 9 (pB 9),.R 10 y31 .S,.I 11,.I 61] [(2,y33,[.S,.S]),(3,y17,[.S,.S,.S,.S]),(4,y33,[.O,.O]),(9,y29,[.S,.S])] λf d g=>j5s f.2.1 f.2.2.1 f.2.2.2.1 d.2.1.2 d.2.2.2.1.2 (λh b=>g .normal [(2,pB 2),(4,pB 4),(6,vI f.1),(10,v1 y31 h .O),(11,vI b)] [(2,⟨y33,d.1.1,d.1.2,[.S,.S]⟩),(4,⟨y33,d.2.2.1.1,d.2.2.1.2,[.O,.O]⟩)])
theorem jlY:CN 0 509 Tryz.f196 jca:=nK jbk [j6F,j8K] oN ([2,4,6,10,11],[2,4]) [] ([],[]) λ_ _ _=>by delta j5s jbS jbT jbR;refine gz j6J λ_ b=>gz j6K λ_ d=>gz j6I λ_ f=> ?_;rewrite [<-b,<-d,<-f];kernel_rfl
def j9p (d:qF×List qR) (s:qS) (b:qD->Int->Res):Res:=j0j d.1 s.2.1 λr=>j7j r s (λ_=>bif (s.1==5) then j5r d s.2.2.2.2 λh g=>bif (g != 0) then b ([],[]) (Z9K (10+g)) else b h 0 else j9M r d λ_=>j5s (nth [] d.2 r) 0 s.1 s (nth (eS,[],[]) d.1 r) λl code=>bif (code != 0) then b ([],[]) (Z9K (10+code)) else j1c d λf=>bif inb r (List.length f.2) then b (f.1,upd f.2 r l) 0 else none) (λ_=>b ([],[]) 4)
def jex:Sig Unit:=sg [.borrow y33 true,.borrow y17 true] [true,false] [(y33,none),(y17,none)] [] λb g k=>j9p b.1 b.2.1 (λd f=>k [⟨y33,true,d,[.O,.O]⟩,wI f] [] [])
theorem jnP:SO 196 jex:=fK (np:=0) jbk [j6F,j8K,jca] (oI 14 0 @jlW (oI 62 1 @jlX (oI 509 2 @jlY oN))) false Tryz.func196 λ_ _ _ _=>by delta j9p j0N j6F jaZ j8K jca j2K;refine gz j0j λ_ b=>gz j7j λ_ d=>gz j5r λ_ f=>gz j9M λ_ g=>gz j5s λ_ h=>gz j1c λ_ i=> ?_;rewrite [<-b,<-d,<-f,<-g,<-h,<-i];kernel_rfl
theorem jeG:FS [(161,j8F),(174,j2K),(195,jew),(196,jex)]:=(Za6 jg7 (Za6 jbI (Za6 jnN (Za6 jnP Zas))))
def j1K (d:List qS) (g:Int) (b:Int) (f:qF×List qR) (rec:Int->qD->Res) (j:qD->Res) (h:Int->Int->Res):Res:=bif decide (b<g) then bif inb b (List.length d) then j3d (nth (0,eS,[],[],0,eS,[],[],eS,eS) d b) λr=>bif !r then h 1 b else j9p f (nth (0,eS,[],[],0,eS,[],[],eS,eS) d b) λk i=>bif (i != 0) then h i b else rec (Z9K (b+1)) k else none else j f
def j2N (d:List qS) (f:Int):(Int×qD)->(Int×qD->Res)->((qD->Res)×(Int->Int->Res))->Res:=λv rec q=>j1K d f v.1 v.2 (λg b=>rec (g,b)) q.1 q.2
def j9J (d:List qS) (f:Int) (n:Nat) (g:Int) (b:qF×List qR) (h:qD->Res) (i:Int->Int->Res):Res:=Z1f (j2N d f) n (g,b) (h,i)
def j9b:Z1d Unit:=NdL 44 44 [.t 4 (pB 4),.t 7 (pB 7),.R 18 y27 .S,.I 19,.I 20] [(4,y33,[.O,.O]),(7,y33,[.O,.O])] (λd b=>(d.2.2.1,b.2.1.2)) (λd v=>(d.1,d.2.1,v.1,())) (λb v=>((b.1.1,b.1.2),(b.2.1.1,v.2),())) (λd b=>j2N d.1 d.2.1) λd b g=>((λf=>g (.exit 0) [(4,pB 4),(7,pB 7)] [(4,⟨y33,b.1.1,b.1.2,[.O,.O]⟩),(7,⟨y33,b.2.1.1,f,[.O,.O]⟩)]),(λh i=>g .ret [(4,pB 4),(5,vI h),(6,vI i)] [(4,⟨y33,b.1.1,([],[]),[.O,.O]⟩)]))
theorem jis:CN 0 122 Tryz.f138 j9b:=lK jeG [] oN ([],[]) [(0,[4,7],[4,7])] ([4,5,6],[4]) λ_ _ _ _ _=>by delta j2N j1K j8F jex;refine gz j3d λ_ b=>gz j9p λ_ d=> ?_;rewrite [<-b,<-d];kernel_rfl
def j0L (d:qF×List qR) (l:List qS) (b:qD->Int->Int->Res):Res:=j9o d λr=>bif !r then b ([],[]) 1 0 else j1c d λg=>j9J l (nI (List.length l)) Z1c 0 g (λf=>b f 0 0) (λt h=>b ([],[]) t h)
def j5B:Sig Unit:=sg [.borrow y33 true,.borrow y27 false] [true,false,false] [(y33,none),(y27,none)] [] λb h k=>j0L b.1 b.2.1 (λd f g=>k [⟨y33,true,d,[.O,.O]⟩,wI f,wI g] [] [])
theorem jeL:SO 138 j5B:=fK (np:=0) jeG [j9b] (oI 122 0 @jis oN) false Tryz.func138 λ_ _ _ _=>by delta j0L jew j2K j9b j9J;refine gz j9o λ_ b=>gz j1c λ_ d=>gz j2N λ_ f=> ?_;rewrite [<-b,<-d,<-f];kernel_rfl
end
end Go.PI.G
namespace Go.PI.G
noncomputable section
open Go Go.PI Go.Proofs
open Go.Code (pl pr)
def j63 (s:qS) (b:Bool->Res):Res:=bif (s.1==0) then bif sEq s.2.1 eS then bif ((nI (List.length s.2.2.1))==0) then bif ((nI (List.length s.2.2.2.1))==0) then j1m s.2.2.2.2 λr=>b r else b false else b false else b false else b false
def j91:Sig Unit:=sg [.look y17 true] [false] [(y17,none)] [] λd f k=>j63 d.1 (λb=>k [wB b] [] [])
theorem jil:SO 276 j91:=fK (np:=0) (Za6 jdB Zas) [] oN false Tryz.func276 λ_ _ _ _=>by kernel_rfl
theorem jgF:FS [(155,j6D),(276,j91)]:=(Za6 jgc (Za6 jil Zas))
def j8I (r:Int×Int×qS) (b:Bool->Res):Res:=bif decide (r.1<1) then b true else bif decide (r.1>4) then b true else bif decide (r.2.1<1) then b true else b (decide (r.2.1>1000000))
def jbh:Z1d Unit:=Nd 30 30 [.t 1 (pB 1)] [(1,y19,[.S,.S,.S,.S])] λg d f=>j8I d.1.2 (λb=>f .normal [(1,pB 1),(20,vB b)] [(1,⟨y19,d.1.1,d.1.2,[.S,.S,.S,.S]⟩)])
theorem jkI:CN 0 12 Tryz.f218 jbh:=nK jgF [] oN ([1,20],[1]) [] ([],[]) λ_ _ _=>by kernel_rfl
def j7Y (r:Int×Int×qS) (b:Bool->Res):Res:=j8I r λt=>bif t then b false else bif (r.1==2) then j3g r.2.2 λd=>b d else j63 r.2.2 λf=>b f
def jdg:Sig Unit:=sg [.look y19 true] [false] [(y19,none)] [] λd f k=>j7Y d.1 (λb=>k [wB b] [] [])
theorem jmC:SO 218 jdg:=fK (np:=0) jgF [jbh] (oI 12 0 @jkI oN) false Tryz.func218 λ_ _ _ _=>by delta j7Y jbh j6D j91;refine gz j8I λ_ b=>gz j3g λ_ d=>gz j63 λ_ f=> ?_;rewrite [<-b,<-d,<-f];kernel_rfl
def j5Z (f:Int) (d:List qP) (i:Int) (b:Int) (rec:Int->Res) (g:Unit->Res) (h:Unit->Res):Res:=bif decide (b<i) then bif inb b (List.length d) then bif ((nth (0,0,0,eS,[],[],0,eS,[],[],eS,eS) d b).1==1) then bif ((nth (0,0,0,eS,[],[],0,eS,[],[],eS,eS) d b).2.1==f) then h () else rec (Z9K (b+1)) else rec (Z9K (b+1)) else none else g ()
def jb8 (b:Int) (d:List qP) (f:Int):Int->(Int->Res)->((Unit->Res)×(Unit->Res))->Res:=λv rec q=>j5Z b d f v (λg=>rec (g)) q.1 q.2
def jhy (b:Int) (g:List qP) (h:Int) (n:Nat) (i:Int) (d:Unit->Res) (f:Unit->Res):Res:=Z1f (jb8 b g h) n (i) (d,f)
def jgx:Z1d Unit:=NdL 23 23 [.I 1,.R 7 y20 .S,.I 8,.I 9] [] (λb d=>(b.2.2.2.1)) (λb v=>(b.1,b.2.1,b.2.2.1,v,())) (λd v=>()) (λb d=>jb8 b.1 b.2.1 b.2.2.1) λb d f=>((λ_=>f (.exit 0) [] []),(λ_=>f .ret [(4,vB true)] []))
theorem jma:CN 0 26 Tryz.f219 jgx:=lK Zas [] oN ([],[]) [(0,[],[])] ([4],[]) λ_ _ _ _ _=>by kernel_rfl
def jbB (l:List qP) (b:Int) (d:Bool->Res):Res:=jhy b l (nI (List.length l)) Z1c 0 (λ_=>d false) (λ_=>d true)
def jeC:Sig Unit:=sg [.look y20 false,.look tI false] [false] [(y20,none),(tI,none)] [] λb f k=>jbB b.1 b.2.1 (λd=>k [wB d] [] [])
theorem jnW:SO 219 jeC:=fK (np:=0) Zas [jgx] (oI 26 0 @jma oN) false Tryz.func219 λ_ _ _ _=>by kernel_rfl
def j42 (h:Int) (d:List Int) (i:Int) (b:Int) (rec:Int->Res) (f:Unit->Res) (g:Unit->Res):Res:=bif decide (b<i) then bif inb b (List.length d) then bif ((nth 0 d b)==h) then g () else rec (Z9K (b+1)) else none else f ()
def j98 (b:Int) (d:List Int) (f:Int):Int->(Int->Res)->((Unit->Res)×(Unit->Res))->Res:=λv rec q=>j42 b d f v (λg=>rec (g)) q.1 q.2
def jfo (f:Int) (g:List Int) (h:Int) (n:Nat) (i:Int) (b:Unit->Res) (d:Unit->Res):Res:=Z1f (j98 f g h) n (i) (b,d)
def jei:Z1d Unit:=NdL 17 17 [.I 1,.R 7 y21 .S,.I 8,.I 9] [] (λb d=>(b.2.2.2.1)) (λb v=>(b.1,b.2.1,b.2.2.1,v,())) (λd v=>()) (λb d=>j98 b.1 b.2.1 b.2.2.1) λb d f=>((λ_=>f (.exit 0) [] []),(λ_=>f .ret [(4,vB true)] []))
theorem jjZ:CN 0 26 Tryz.f168 jei:=lK Zas [] oN ([],[]) [(0,[],[])] ([4],[]) λ_ _ _ _ _=>by kernel_rfl
def j4W (l:List Int) (d:Int) (b:Bool->Res):Res:=jfo d l (nI (List.length l)) Z1c 0 (λ_=>b false) (λ_=>b true)
def j8H:Sig Unit:=sg [.look y21 false,.look tI false] [false] [(y21,none),(tI,none)] [] λb f k=>j4W b.1 b.2.1 (λd=>k [wB d] [] [])
theorem jge:SO 168 j8H:=fK (np:=0) Zas [jei] (oI 26 0 @jjZ oN) false Tryz.func168 λ_ _ _ _=>by kernel_rfl
def j41 (i:Int) (g:List Int) (f:Int) (d:List Int) (b:Int) (rec:(List Int)->Int->Res) (h:(List Int)->Res):Res:=bif decide (b<f) then bif inb b (List.length g) then bif ((nth 0 g b) != i) then bif lim ((List.length d)+1) then rec (d++[nth 0 g b]) (Z9K (b+1)) else none else rec d (Z9K (b+1)) else none else h d
def j97 (g:Int) (h:List Int) (d:Int):((List Int)×Int)->((List Int)×Int->Res)->(((List Int)->Res))->Res:=λv rec q=>j41 g h d v.1 v.2 (λb f=>rec (b,f)) q
def jfn (h:Int) (i:List Int) (d:Int) (n:Nat) (b:List Int) (f:Int) (g:(List Int)->Res):Res:=Z1f (j97 h i d) n (b,f) (g)
def jeh:Z1d Unit:=NdL 24 24 [.I 1,.R 5 y21 .O,.R 9 y21 .S,.I 10,.I 11] [] (λb f=>(b.2.1,b.2.2.2.2.1)) (λb v=>(b.1,v.1,b.2.2.1,b.2.2.2.1,v.2,())) (λf v=>()) (λb f=>j97 b.1 b.2.2.1 b.2.2.2.1) λb f g=>((λd=>g (.exit 0) [(5,v1 y21 d .O)] []))
theorem jjY:CN 0 58 Tryz.f277 jeh:=lK Zas [] oN ([],[]) [(0,[5],[])] ([],[]) λ_ _ _ _ _=>by kernel_rfl
def j6P (l:List Int) (f:Int) (d:(List Int)->Res):Res:=jfn f l (nI (List.length l)) Z1c [] 0 λb=>d b
def jc0:Sig Unit:=sg [.borrow y21 false,.borrow tI false] [false] [(y21,none),(tI,none)] [] λb f k=>j6P b.1 b.2.1 (λd=>k [w1 y21 d .O] [] [])
theorem jlL:SO 277 jc0:=fK (np:=0) Zas [jeh] (oI 58 0 @jjY oN) false Tryz.func277 λ_ _ _ _=>by kernel_rfl
theorem jek:FS [(168,j8H),(277,jc0)]:=(Za6 jge (Za6 jlL Zas))
def jad (b:List Int) (r:Int×Int×qS) (d:(List Int)->Res):Res:=bif (r.1==1) then j4W b r.2.1 λf=>bif !f then bif lim ((List.length b)+1) then d (b++[r.2.1]) else none else d b else d b
def j8L:Z1d Unit:=Nd 42 42 [.R 3 y21 .O,.t 5 (pB 5),.R 7 y20 .S,.I 8,.I 9] [(5,y19,[.S,.S,.S,.S])] λd f g=>jad d.1 f.1.2 (λb=>g .normal [(3,v1 y21 b .O),(5,pB 5),(7,v1 y20 d.2.1 .S),(8,vI d.2.2.1),(9,vI d.2.2.2.1)] [(5,⟨y19,f.1.1,f.1.2,[.S,.S,.S,.S]⟩)])
theorem jm7:CN 0 7474 Tryz.f220 j8L:=nK jek [] oN ([3,5,7,8,9],[5]) [] ([],[]) λ_ _ _=>by kernel_rfl
def j3q (f:List qP) (j:Int) (g:List Int) (d:Int) (rec:(List Int)->Int->Res) (h:(List Int)->Res):Res:=bif decide (d<j) then bif inb d (List.length f) then jad g (nth (0,0,0,eS,[],[],0,eS,[],[],eS,eS) f d) λb=>bif ((nth (0,0,0,eS,[],[],0,eS,[],[],eS,eS) f d).1==3) then j6P b (nth (0,0,0,eS,[],[],0,eS,[],[],eS,eS) f d).2.1 λr=>rec r (Z9K (d+1)) else bif ((nth (0,0,0,eS,[],[],0,eS,[],[],eS,eS) f d).1==4) then j6P b (nth (0,0,0,eS,[],[],0,eS,[],[],eS,eS) f d).2.1 λi=>rec i (Z9K (d+1)) else rec b (Z9K (d+1)) else none else h g
def j7X (d:List qP) (f:Int):((List Int)×Int)->((List Int)×Int->Res)->(((List Int)->Res))->Res:=λv rec q=>j3q d f v.1 v.2 (λb g=>rec (b,g)) q
def jhx (f:List qP) (g:Int) (n:Nat) (b:List Int) (h:Int) (d:(List Int)->Res):Res:=Z1f (j7X f g) n (b,h) (d)
def jgw:Z1d Unit:=NdL 42 42 [.R 3 y21 .O,.R 7 y20 .S,.I 8,.I 9] [] (λb f=>(b.1,b.2.2.2.1)) (λb v=>(v.1,b.2.1,b.2.2.1,v.2,())) (λf v=>()) (λb f=>j7X b.2.1 b.2.2.1) λb f g=>((λd=>g (.exit 0) [(3,v1 y21 d .O)] []))
theorem jm6:CN 0 58 Tryz.f220 jgw:=lK jek [j8L] (oI 114 0 @jm7 oN) ([],[]) [(0,[3],[])] ([],[]) λ_ _ _ _ _=>by delta j7X j3q j8L jc0;refine gz jad λ_ b=>gz j6P λ_ d=> ?_;rewrite [<-b,<-d];kernel_rfl
def j9w (l:List qP) (d:(List Int)->Res):Res:=jhx l (nI (List.length l)) Z1c [] 0 λb=>d b
def jeB:Sig Unit:=sg [.borrow y20 false] [false] [(y20,none)] [] λd f k=>j9w d.1 (λb=>k [w1 y21 b .O] [] [])
theorem jnU:SO 220 jeB:=fK (np:=0) jek [j8L,jgw] (oI 58 1 @jm6 oN) false Tryz.func220 λ_ _ _ _=>by kernel_rfl
def jai (s:qS) (b:qS->Res):Res:=bif lim (0+(List.length s.2.2.1)) then j0a s.2.2.2.1 λr=>bif lim (0+(List.length s.2.2.2.2.2.2.1)) then bif lim (0+(List.length s.2.2.2.2.2.2.2.1)) then b (s.1,s.2.1,s.2.2.1,r,s.2.2.2.2.1,s.2.2.2.2.2.1,s.2.2.2.2.2.2.1,s.2.2.2.2.2.2.2.1,s.2.2.2.2.2.2.2.2) else none else none else none
def jkU:Sig Unit:=sg [.borrow y17 true] [true] [(y17,none)] [] λd f k=>jai d.1 (λb=>k [⟨y17,true,b,[.O,.O,.O,.O]⟩] [] [])
theorem jf2:SO 158 jkU:=fK (np:=0) (Za6 j1Q Zas) [] oN false Tryz.func158 λ_ _ _ _=>by kernel_rfl
def j30 (h:Int) (f:List qP) (g:Int) (d:List qS) (b:Int) (rec:qU->Int->Res) (i:qU->Res):Res:=bif decide (b<g) then bif inb b (List.length f) then bif ((nth (0,0,0,eS,[],[],0,eS,[],[],eS,eS) f b).1==2) then bif ((nth (0,0,0,eS,[],[],0,eS,[],[],eS,eS) f b).2.1==h) then jai (nth (0,0,0,eS,[],[],0,eS,[],[],eS,eS) f b).2.2 λr=>bif lim ((List.length d)+1) then rec (d++[r]) (Z9K (b+1)) else none else rec d (Z9K (b+1)) else rec d (Z9K (b+1)) else none else i d
def j8e (g:Int) (h:List qP) (d:Int):(qU×Int)->(qU×Int->Res)->((qU->Res))->Res:=λv rec q=>j30 g h d v.1 v.2 (λb f=>rec (b,f)) q
def jdV (g:Int) (i:List qP) (d:Int) (n:Nat) (b:List qS) (f:Int) (h:qU->Res):Res:=Z1f (j8e g i d) n (b,f) (h)
def jdp:Z1d Unit:=NdL 32 32 [.I 1,.R 5 y27 .O,.R 9 y20 .S,.I 10,.I 11] [] (λb f=>(b.2.1,b.2.2.2.2.1)) (λb v=>(b.1,v.1,b.2.2.1,b.2.2.2.1,v.2,())) (λf v=>()) (λb f=>j8e b.1 b.2.2.1 b.2.2.2.1) λb f g=>((λd=>g (.exit 0) [(5,v1 y27 d .O)] []))
theorem jiM:CN 0 58 Tryz.f221 jdp:=lK (Za6 jf2 Zas) [] oN ([],[]) [(0,[5],[])] ([],[]) λ_ _ _ _ _=>by kernel_rfl
def j5Y (l:List qP) (d:Int) (f:qU->Res):Res:=jdV d l (nI (List.length l)) Z1c [] 0 λb=>f b
def jb4:Sig Unit:=sg [.borrow y20 false,.borrow tI false] [false] [(y20,none),(tI,none)] [] λb f k=>j5Y b.1 b.2.1 (λd=>k [w1 y27 d .O] [] [])
theorem jkn:SO 221 jb4:=fK (np:=0) (Za6 jf2 Zas) [jdp] (oI 58 0 @jiM oN) false Tryz.func221 λ_ _ _ _=>by kernel_rfl
theorem j7I:FS [(133,jb2),(168,j8H),(218,jdg),(219,jeC),(220,jeB),(221,jb4)]:=(Za6 jkk (Za6 jge (Za6 jmC (Za6 jnW (Za6 jnU (Za6 jkn Zas))))))
def j2D (l:List qP) (i:Int) (r:Int×Int×qS) (b:Bool->Res):Res:=j7Y r λd=>bif !d then b true else bif (r.1==1) then bif Z8e 0 i (List.length l) then jbB (sub l 0 i) r.2.1 λf=>bif f then b true else bif (r.1 != 1) then bif Z8e 0 i (List.length l) then j9w (sub l 0 i) λg=>j4W g r.2.1 λh=>b (!h) else none else b false else none else bif (r.1 != 1) then bif Z8e 0 i (List.length l) then j9w (sub l 0 i) λj=>j4W j r.2.1 λk=>b (!k) else none else b false
def j47:Z1d Unit:=Nd 74 74 [.R 0 y20 .S,.t 2 (pB 2),.t 4 (pB 4),.I 5,.t 6 (pB 6),.R 11 y20 .S,.I 12,.I 13] [(2,y33,[.O,.O]),(4,y33,[.N,.N]),(6,y19,[.S,.S,.S,.S])] λb d g=>j2D b.1 b.2.1 d.2.2.1.2 (λf=>g .normal [(0,v1 y20 b.1 .S),(2,pB 2),(4,pB 4),(5,vI b.2.1),(6,pB 6),(11,v1 y20 b.2.2.1 .S),(12,vI b.2.2.2.1),(13,vI b.2.2.2.2.1),(48,vB f)] [(2,⟨y33,d.1.1,d.1.2,[.O,.O]⟩),(4,⟨y33,d.2.1.1,d.2.1.2,[.N,.N]⟩),(6,⟨y19,d.2.2.1.1,d.2.2.1.2,[.S,.S,.S,.S]⟩)])
theorem jiV:CN 0 14948 Tryz.f169 j47:=nK j7I [] oN ([0,2,4,5,6,11,12,13,48],[2,4,6]) [] ([],[]) λ_ _ _=>by delta j2D jdg jeC jeB j8H;refine gz j7Y λ_ b=>gz jbB λ_ d=>gz j9w λ_ f=>gz j4W λ_ g=> ?_;rewrite [<-b,<-d,<-f,<-g];kernel_rfl
def j2E (l:List qP) (i:Int) (d:qF×List qR) (r:Int×Int×qS) (b:Int->qD->Res):Res:=bif Z8e 0 i (List.length l) then Z87 (j5Y (sub l 0 i) r.2.1 λn=>Z87 (j2s d n λg h w=>Z87 (Z87 (b h g) (Z87 (b h g) (b h g))) (Z87 (Z87 (b h g) (Z87 (b h g) (b h g))) (Z87 (Z87 (b h g) (b h g)) (Z87 (Z87 (b h g) (b h g)) (b h g))))) (j2s d n λj k y=>Z87 (Z87 (b k j) (b k j)) (Z87 (Z87 (b k j) (b k j)) (b k j)))) (j5Y (sub l 0 i) r.2.1 λq=>j2s d q λm f p=>Z87 (Z87 (b f m) (b f m)) (Z87 (Z87 (b f m) (b f m)) (b f m))) else none
def j6v:Z1d Unit:=Nd 74 74 [.R 0 y20 .S,.t 2 (pB 2),.t 4 (pB 4),.I 5,.t 6 (pB 6),.R 11 y20 .S,.I 12,.I 13] [(2,y33,[.O,.O]),(4,y33,[.N,.N]),(6,y19,[.S,.S,.S,.S])] λb d f=>j2E b.1 b.2.1 d.2.1.2 d.2.2.1.2 (λcode next=>f .normal [(0,v1 y20 b.1 .S),(2,pB 2),(4,pB 4),(7,pB 7),(8,vI code),(11,v1 y20 b.2.2.1 .S),(12,vI b.2.2.2.1),(13,vI b.2.2.2.2.1)] [(2,⟨y33,d.1.1,d.1.2,[.O,.O]⟩),(4,⟨y33,d.2.1.1,d.2.1.2,[.N,.N]⟩),(7,⟨y33,false,next,[.N,.N]⟩)])
theorem jiW:CN 0 59804 Tryz.f169 j6v:=nK j7I [j47] oN ([0,2,4,7,8,11,12,13],[2,4,7]) [] ([],[]) λ_ _ _=>by delta j2E jb4 jb2;refine gz j5Y λ_ b=>gz j2s λ_ d=> ?_;rewrite [<-b,<-d];kernel_rfl
def j1P (l:List qP) (f:List qP) (g:Int) (b:Int) (d:qF×List qR) (rec:Int->qD->Res) (i:qD->Res) (h:Unit->Res):Res:=bif decide (b<g) then bif inb b (List.length f) then j2D l b (nth (0,0,0,eS,[],[],0,eS,[],[],eS,eS) f b) λt=>bif t then h () else bif ((nth (0,0,0,eS,[],[],0,eS,[],[],eS,eS) f b).1==3) then j2E l b d (nth (0,0,0,eS,[],[],0,eS,[],[],eS,eS) f b) λcode next=>bif (code != 0) then h () else rec (Z9K (b+1)) next else rec (Z9K (b+1)) d else none else i d
def j5e (l:List qP) (b:List qP) (f:Int):(Int×qD)->(Int×qD->Res)->((qD->Res)×(Unit->Res))->Res:=λv rec q=>j1P l b f v.1 v.2 (λg d=>rec (g,d)) q.1 q.2
def jah (l:List qP) (b:List qP) (f:Int) (n:Nat) (g:Int) (d:qF×List qR) (h:qD->Res) (i:Unit->Res):Res:=Z1f (j5e l b f) n (g,d) (h,i)
def jdk:Z1d Unit:=λσ k=>rdN σ 74<|rd1 σ 0 y20 .S λl=>rdT σ 2 (pB 2)<|rdT σ 4 (pB 4)<|rd1 σ 11 y20 .S λb=>rdI σ 12 λf=>rdI σ 13 λg=>rdB σ 2 y33 [.O,.O] λa j=>rdB σ 4 y33 [.N,.N] λh d=>jah l b f Z1c g d (λi=>k (.exit 0) (mkS 74 74 [(0,v1 y20 l .S),(2,pB 2),(4,pB 4)] [(2,⟨y33,a,j,[.O,.O]⟩),(4,⟨y33,h,i,[.N,.N]⟩)])) (λ_=>k .ret (mkS 74 74 [(2,pB 2),(3,vB false)] [(2,⟨y33,a,([],[]),[.O,.O]⟩)]))
def jdt:Z1d Unit:=λσ k=>jdk (σ.wk [] [(4,[.N,.N])]) k
theorem jiU:CN 0 58 Tryz.f169 jdt:=λq=>ZaJ [] [(4,[.N,.N])] (jjr follows j1x j7I q [j47,j6v] (oI 228 0 @jiV (oI 924 1 @jiW oN)) [0,2,4,11,12,13] [2,4] ([],[]) [(0,[0,2,4],[2,4])] ([2,3],[2]) (y:=jdk) λσ k _ h=>rN h λG h=>rV h λl D h=>rT h λE h=>rT h λF h=>rV h λb g h=>rV h λf i h=>rV h λr j h=>rB h λa z n h=>rB h λw d p h=>⟨_,ZaM (m:=74) G (sC D (sC E (sC F (sC g (sC i (sC j sN)))))) (bC n (bC p bN)),.trans (Z9u (λv:Int×qD=>(mkS 74 74 [(0,v1 y20 l .S),(2,pB 2),(4,pB 4),(11,v1 y20 b .S),(12,vI f),(13,vI v.1)] [(2,⟨y33,a,z,[.O,.O]⟩),(4,⟨y33,w,v.2,[.N,.N]⟩)])) (j5e l b f) (λ(k:Z83 Unit)=>(((λA=>k (.exit 0) (mkS 74 74 [(0,v1 y20 l .S),(2,pB 2),(4,pB 4)] [(2,⟨y33,a,z,[.O,.O]⟩),(4,⟨y33,w,A,[.N,.N]⟩)])),(λ_=>k .ret (mkS 74 74 [(2,pB 2),(3,vB false)] [(2,⟨y33,a,([],[]),[.O,.O]⟩)]))):(qD->Res)×(Unit->Res))) (λv rec k=>by delta j5e j1P j47 j6v;refine gz j2D λ_ B=>gz j2E λ_ C=> ?_;rewrite [<-B,<-C];kernel_rfl) Z1c (r,d) k) h⟩)
def j64 (l:List qP) (b:qD->Bool->Res):Res:=jah l l (nI (List.length l)) Z1c 0 ([],[]) (λd=>b d (decide ((nI (List.length l))<=400))) (λ_=>b ([],[]) false)
def jb6:Sig Unit:=sg [.borrow y20 false] [true,false] [(y20,none)] [] λf g k=>j64 f.1 (λb d=>k [⟨y33,true,b,[.S,.S]⟩,wB d] [] [])
theorem jf1:SO 169 jb6:=fK (np:=0) j7I [j47,j6v,jdt] (oI 58 2 @jiU oN) true Tryz.func169 λ_ _ _ _=>by kernel_rfl
def j7W (l:List qP) (b:Bool->Res):Res:=bif decide ((nI (List.length l))>400) then b false else j64 l λr d=>b d
def jdf:Sig Unit:=sg [.look y20 false] [false] [(y20,none)] [] λd f k=>j7W d.1 (λb=>k [wB b] [] [])
theorem jcN:SO 103 jdf:=fK (np:=0) (Za6 jf1 Zas) [] oN false Tryz.func103 λ_ _ _ _=>by kernel_rfl
def j6B (s:qS) (b:Bool->Res):Res:=bif (s.1==0) then bif sEq s.2.1 eS then bif ((nI (List.length s.2.2.1))==0) then bif ((nI (List.length s.2.2.2.1))==0) then j0g s.2.2.2.2 (0,eS,[],[],eS,eS) λr=>b r else b false else b false else b false else b false
def jdQ:Sig Unit:=sg [.look y17 true] [false] [(y17,none)] [] λd f k=>j6B d.1 (λb=>k [wB b] [] [])
theorem jj5:SO 278 jdQ:=fK (np:=0) (Za6 j9z Zas) [] oN false Tryz.func278 λ_ _ _ _=>by kernel_rfl
def j4s (r:Int×Int×qS) (b:Bool->Res):Res:=j0i r.1 1 4 λd=>bif !d then b false else j0i r.2.1 1 1000000 λf=>bif !f then b false else bif (r.1==2) then j3d r.2.2 λg=>b g else j6B r.2.2 λh=>b h
def j7m:Sig Unit:=sg [.look y19 true] [false] [(y19,none)] [] λd f k=>j4s d.1 (λb=>k [wB b] [] [])
theorem jgL:SO 222 j7m:=fK (np:=0) (Za6 jg7 (Za6 j2H (Za6 jj5 Zas))) [] oN false Tryz.func222 λ_ _ _ _=>by delta j4s j1S j8F jdQ;refine gz j0i λ_ b=>gz j3d λ_ d=>gz j6B λ_ f=> ?_;rewrite [<-b,<-d,<-f];kernel_rfl
def j2R (h:Int) (f:List qP) (g:Int) (d:List qS) (b:Int) (rec:qU->Int->Res) (i:qU->Res):Res:=bif decide (b<g) then bif inb b (List.length f) then bif ((nth (0,0,0,eS,[],[],0,eS,[],[],eS,eS) f b).1==2) then bif ((nth (0,0,0,eS,[],[],0,eS,[],[],eS,eS) f b).2.1==h) then j6A (nth (0,0,0,eS,[],[],0,eS,[],[],eS,eS) f b).2.2 λr=>bif lim ((List.length d)+1) then rec (d++[r]) (Z9K (b+1)) else none else rec d (Z9K (b+1)) else rec d (Z9K (b+1)) else none else i d
def j87 (g:Int) (h:List qP) (d:Int):(qU×Int)->(qU×Int->Res)->((qU->Res))->Res:=λv rec q=>j2R g h d v.1 v.2 (λb f=>rec (b,f)) q
def jdI (g:Int) (i:List qP) (d:Int) (n:Nat) (b:List qS) (f:Int) (h:qU->Res):Res:=Z1f (j87 g i d) n (b,f) (h)
def jdm:Z1d Unit:=NdL 32 32 [.I 1,.R 5 y27 .O,.R 9 y20 .S,.I 10,.I 11] [] (λb f=>(b.2.1,b.2.2.2.2.1)) (λb v=>(b.1,v.1,b.2.2.1,b.2.2.2.1,v.2,())) (λf v=>()) (λb f=>j87 b.1 b.2.2.1 b.2.2.2.1) λb f g=>((λd=>g (.exit 0) [(5,v1 y27 d .O)] []))
theorem jix:CN 0 58 Tryz.f224 jdm:=lK (Za6 jdz Zas) [] oN ([],[]) [(0,[5],[])] ([],[]) λ_ _ _ _ _=>by kernel_rfl
def j1A (l:List qP) (d:Int) (f:qU->Res):Res:=jdI d l (nI (List.length l)) Z1c [] 0 λb=>f b
def j5D:Sig Unit:=sg [.borrow y20 false,.borrow tI false] [false] [(y20,none),(tI,none)] [] λb f k=>j1A b.1 b.2.1 (λd=>k [w1 y27 d .O] [] [])
theorem jeN:SO 224 j5D:=fK (np:=0) (Za6 jdz Zas) [jdm] (oI 58 0 @jix oN) false Tryz.func224 λ_ _ _ _=>by kernel_rfl
def jeu (place:Int) (b:qF×List qR) (d:Unit->Res):Res:=d ()
def jbQ:Sig Unit:=sg [.look tI false,.look y33 true] [] [(tI,none),(y33,none)] [] λb d k=>jeu b.1 b.2.1 (λ_=>k [] [] [])
theorem jlr:SO 171 jbQ:=fK (np:=0) Zas [] oN false Tryz.func171 λ_ _ _ _=>by kernel_rfl
def jfH (x:Int) (d:Int×Int×qS) (b:Bool->Res):Res:=b (x==d.2.1)
def jni:Sig Unit:=sg [.look tI false,.rptr y19] [false] [(tI,none),(y19,none)] [] λb f k=>jfH b.1 b.2.1 (λd=>k [wB d] [] [])
theorem jmv:SO 226 jni:=fK (np:=0) Zas [] oN false Tryz.func226 λ_ _ _ _=>by kernel_rfl
def j0E (s:List Int) (b:Int×Int×qS) (d:(List Int)->qP->Res):Res:=bif lim (List.length s) then dgE (λe k=>jfH e b k) s [] (λr=>d r b) else none
def j18:Sig Unit:=⟨[.eat y21 false,.clos 226 [y19]],[false],λvals ext k=>ao vals y21 [.O] λs vals=>nl vals<|ab ext y19 [.S,.S,.S,.S] λa0 f ext=>nl ext<|j0E s f (λd b=>k [w1 y21 d .O] [] [⟨y19,a0,b,[.S,.S,.S,.S]⟩])⟩
theorem j80:Z17 Tryz.prog 225 j18:=gS (jrv (U:=0) (T:=220) (e:=tI) (ag:=false) (τ:=y19) (tg:=[.S,.S,.S,.S]) (fl:=[]) (S:=56) (E:=3) (I:=3) (B:=4) follows j1x (by kernel_rfl) Tryz.underlying56 (by kernel_rfl) (by kernel_rfl) (by kernel_rfl) (by kernel_rfl) Tryz.isAgg220 Tryz.sizeOf220 (by kernel_rfl) (by kernel_rfl) (by kernel_rfl) Tryz.func280 (by kernel_rfl) (by kernel_rfl) (by kernel_rfl) (by kernel_rfl) jmv (by kernel_rfl) Tryz.func225 (by kernel_rfl) (by kernel_rfl) (by kernel_rfl) (by kernel_rfl)) (by kernel_rfl)
theorem j8m:FS [(138,j5B),(171,jbQ),(222,j7m),(223,j1q),(224,j5D),(225,j18)]:=(Za6 jeL (Za6 jlr (Za6 jgL (Za6 j9l (Za6 jeN (Za6 j80 Zas))))))
def j5u (l:List qP) (i:Int) (d:qF×List qR) (r:Int×Int×qS) (b:Int->qD->Res):Res:=bif Z8e 0 i (List.length l) then Z87 (j1A (sub l 0 i) r.2.1 λn=>Z87 (j0L d n λg h w=>Z87 (Z87 (b h g) (Z87 (b h g) (b h g))) (Z87 (Z87 (b h g) (Z87 (b h g) (b h g))) (Z87 (Z87 (b h g) (b h g)) (Z87 (Z87 (b h g) (b h g)) (b h g))))) (j0L d n λj k y=>Z87 (Z87 (b k j) (b k j)) (Z87 (Z87 (b k j) (b k j)) (b k j)))) (j1A (sub l 0 i) r.2.1 λq=>j0L d q λm f p=>Z87 (Z87 (b f m) (b f m)) (Z87 (Z87 (b f m) (b f m)) (b f m))) else none
def j4h:Z1d Unit:=Nd 84 84 [.R 1 y20 .S,.t 2 (.clos 171 []),.t 3 (pB 3),.t 6 (pB 6),.R 8 y21 .O,.R 9 y21 .O,.I 10,.t 11 (pB 11),.R 17 y20 .S,.I 18,.I 19] [(3,y33,[.S,.S]),(6,y33,[.O,.O]),(11,y19,[.S,.S,.S,.S])] λb d f=>j5u b.1 b.2.2.2.1 d.1.2 d.2.2.1.2 (λcode next=>f .normal [(1,v1 y20 b.1 .S),(2,.clos 171 []),(3,pB 3),(6,pB 6),(8,v1 y21 b.2.1 .O),(9,v1 y21 b.2.2.1 .O),(10,vI b.2.2.2.1),(11,pB 11),(12,pB 12),(13,vI code),(17,v1 y20 b.2.2.2.2.1 .S),(18,vI b.2.2.2.2.2.1),(19,vI b.2.2.2.2.2.2.1)] [(3,⟨y33,d.1.1,d.1.2,[.S,.S]⟩),(6,⟨y33,d.2.1.1,d.2.1.2,[.O,.O]⟩),(11,⟨y19,d.2.2.1.1,d.2.2.1.2,[.S,.S,.S,.S]⟩),(12,⟨y33,false,next,[.O,.O]⟩)])
theorem jm0:CN 0 478452 Tryz.f170 j4h:=nK j8m [] oN ([1,2,3,6,8,9,10,11,12,13,17,18,19],[3,6,11,12]) [] ([],[]) λ_ _ _=>by delta j5u j5D j5B;refine gz j1A λ_ b=>gz j0L λ_ d=> ?_;rewrite [<-b,<-d];kernel_rfl
def j7k (l:List qP) (i:Int) (b:Bool) (d:qF×List qR) (r:Int×Int×qS) (f:qD->Res) (g:Unit->Res):Res:=bif b then j5u l i d r λcode next=>bif (code != 0) then g () else jeu (Z9K (i+1)) d λ_=>f next else f d
def j6G:Z1d Unit:=λσ k=>rdN σ 84<|rd1 σ 1 y20 .S λl=>rdT σ 2 (.clos 171 [])<|rdT σ 3 (pB 3)<|rdT σ 6 (pB 6)<|rd1 σ 8 y21 .O λb=>rd1 σ 9 y21 .O λf=>rdI σ 10 λi=>rdT σ 11 (pB 11)<|rd1 σ 17 y20 .S λg=>rdI σ 18 λh=>rdI σ 19 λj=>rdO σ 54 λm=>rdB σ 3 y33 [.S,.S] λa d=>rdB σ 6 y33 [.O,.O] λn w=>rdB σ 11 y19 [.S,.S,.S,.S] λp r=>j7k l i m d r (λq=>k .normal (mkS 84 84 [(1,v1 y20 l .S),(2,.clos 171 []),(3,pB 3),(6,pB 6),(8,v1 y21 b .O),(9,v1 y21 f .O),(11,pB 11),(17,v1 y20 g .S),(18,vI h),(19,vI j)] [(3,⟨y33,a,q,[.S,.S]⟩),(6,⟨y33,n,w,[.O,.O]⟩),(11,⟨y19,p,r,[.S,.S,.S,.S]⟩)])) (λ_=>k .ret (mkS 84 84 [(6,pB 6),(7,vB false)] [(6,⟨y33,n,([],[]),[.O,.O]⟩)]))
theorem jm1:CN 0 119613 Tryz.f170 j6G:=λz=>jjs follows j1x j8m z [j4h] (oI 4 0 @jm0 oN) ([1,2,3,6,8,9,11,17,18,19],[3,6,11]) [] ([6,7],[6]) [(0,[],[(3,[.S,.S])])] λσ k _ h=>rN h λK h=>rV h λl E h=>rT h λF h=>rT h λG h=>rT h λH h=>rV h λA I h=>rV h λB J h=>rV h λi f h=>rT h λg h=>rV h λL j h=>rV h λM n h=>rV h λP p h=>rV h λQ q h=>rB h λa d w h=>rB h λR U y h=>rB h λT r b h=>⟨_,ZaM (m:=84) K (sC E (sC F (sC G (sC H (sC I (sC J (sC f (sC g (sC j (sC n (sC p (sC q sN)))))))))))) (bC w (bC y (bC b bN))),.trans (by delta j7k j4h jbQ;refine gz j5u λ_ C=>gz jeu λ_ D=> ?_;rewrite [<-C,<-D];kernel_rfl) h⟩
def j3n (l:List qP) (g:List qP) (j:Int) (f:List Int) (h:List Int) (b:Int) (d:qF×List qR) (rec:(List Int)->(List Int)->Int->qD->Res) (m:qD->Res) (i:Unit->Res):Res:=bif decide (b<j) then bif inb b (List.length g) then j4s (nth (0,0,0,eS,[],[],0,eS,[],[],eS,eS) g b) λr=>bif !r then i () else bif ((nth (0,0,0,eS,[],[],0,eS,[],[],eS,eS) g b).1==1) then j0m h (nth (0,0,0,eS,[],[],0,eS,[],[],eS,eS) g b).2.1 λn=>bif n then i () else bif lim ((List.length h)+1) then bif lim ((List.length f)+1) then rec (f++[(nth (0,0,0,eS,[],[],0,eS,[],[],eS,eS) g b).2.1]) (h++[(nth (0,0,0,eS,[],[],0,eS,[],[],eS,eS) g b).2.1]) (Z9K (b+1)) d else none else none else j0m f (nth (0,0,0,eS,[],[],0,eS,[],[],eS,eS) g b).2.1 λp=>bif !p then i () else j7k l b ((nth (0,0,0,eS,[],[],0,eS,[],[],eS,eS) g b).1==3) d (nth (0,0,0,eS,[],[],0,eS,[],[],eS,eS) g b) (λk=>bif ((nth (0,0,0,eS,[],[],0,eS,[],[],eS,eS) g b).1 != 2) then j0E f (nth (0,0,0,eS,[],[],0,eS,[],[],eS,eS) g b) λq w=>rec q h (Z9K (b+1)) k else rec f h (Z9K (b+1)) k) (λ_=>i ()) else none else m d
def j7N (l:List qP) (g:List qP) (h:Int):((List Int)×(List Int)×Int×qD)->((List Int)×(List Int)×Int×qD->Res)->((qD->Res)×(Unit->Res))->Res:=λv rec q=>j3n l g h v.1 v.2.1 v.2.2.1 v.2.2.2 (λb f i d=>rec (b,f,i,d)) q.1 q.2
def jh5 (l:List qP) (g:List qP) (h:Int) (n:Nat) (b:List Int) (f:List Int) (i:Int) (d:qF×List qR) (j:qD->Res) (k:Unit->Res):Res:=Z1f (j7N l g h) n (b,f,i,d) (j,k)
def jcb:Z1d Unit:=NdL 84 84 [.R 1 y20 .S,.t 2 (.clos 171 []),.t 3 (pB 3),.t 6 (pB 6),.R 8 y21 .O,.R 9 y21 .O,.R 17 y20 .S,.I 18,.I 19] [(3,y33,[.S,.S]),(6,y33,[.O,.O])] (λb d=>(b.2.1,b.2.2.1,b.2.2.2.2.2.1,d.1.2)) (λb v=>(b.1,v.1,v.2.1,b.2.2.2.1,b.2.2.2.2.1,v.2.2.1,())) (λd v=>((d.1.1,v.2.2.2),(d.2.1.1,d.2.1.2),())) (λb d=>j7N b.1 b.2.2.2.1 b.2.2.2.2.1) λb d f=>((λg=>f (.exit 0) [(3,pB 3),(6,pB 6)] [(3,⟨y33,d.1.1,g,[.S,.S]⟩),(6,⟨y33,d.2.1.1,d.2.1.2,[.O,.O]⟩)]),(λ_=>f .ret [(6,pB 6),(7,vB false)] [(6,⟨y33,d.2.1.1,([],[]),[.O,.O]⟩)]))
theorem jlZ:CN 0 58 Tryz.f170 jcb:=lK j8m [j4h,j6G] (oI 1853 1 @jm1 oN) ([],[]) [(0,[3,6],[3,6])] ([6,7],[6]) λ_ _ _ _ _=>by delta j7N j3n j7m j1q j6G j18;refine gz j4s λ_ b=>gz j0m λ_ d=>gz j7k λ_ f=>gz j0E λ_ g=> ?_;rewrite [<-b,<-d,<-f,<-g];kernel_rfl
def jcW (l:List qP) (d:qF×List qR) (b:Bool->qD->Res):Res:=jh5 l l (nI (List.length l)) Z1c [] [] 0 d (λf=>b true f) (λ_=>b false ([],[]))
def jgv:Z1d Unit:=λσ k=>rdN σ 84<|rd1 σ 1 y20 .S λl=>rdT σ 2 (.clos 171 [])<|rdT σ 3 (pB 3)<|rdT σ 6 (pB 6)<|rdB σ 3 y33 [.S,.S] λa d=>rdB σ 6 y33 [.O,.O] λf h=>jcW l d (λg b=>k .ret (mkS 84 84 [(6,pB 6),(7,vB g)] [(6,⟨y33,f,b,[.S,.S]⟩)]))
theorem jm2:CN 0 3 Tryz.f170 jgv:=λg=>jjs follows j1x j8m g [j4h,j6G,jcb] (oI 26 2 @jlZ oN) ([],[]) [] ([6,7],[6]) [(1,[],[(6,[.S,.S])])] λσ k _ h=>rN h λq h=>rV h λl i h=>rT h λj h=>rT h λn h=>rT h λp h=>rB h λa d b h=>rB h λr w f h=>⟨_,ZaM (m:=84) q (sC i (sC j (sC n (sC p sN)))) (bC b (bC f bN)),.trans (by kernel_rfl) h⟩
def jdK (d:qF×List qR) (l:List qP) (b:qD->Bool->Res):Res:=jcW l d λt f=>b f t
def joc:Sig Unit:=sg [.borrow y33 true,.borrow y20 false,.clos 171 []] [true,false] [(y33,none),(y20,none)] [] λb g k=>jdK b.1 b.2.1 (λd f=>k [⟨y33,true,d,[.S,.S]⟩,wB f] [] [])
theorem jnQ:SO 170 joc:=fK (np:=0) j8m [j4h,j6G,jcb,jgv] (oI 3 3 @jm2 oN) false Tryz.func170 λ_ _ _ _=>by kernel_rfl
def j6c (l:List qP) (b:Bool->Res):Res:=bif decide ((nI (List.length l))>400) then b false else jdK ([],[]) l λr d=>b d
def ja5:Sig Unit:=sg [.look y20 false] [false] [(y20,none)] [] λd f k=>j6c d.1 (λb=>k [wB b] [] [])
theorem jcE:SO 104 ja5:=fK (np:=0) (Za6 jnQ Zas) [] oN false Tryz.func104 λ_ _ _ _=>by kernel_rfl
theorem jhO:FS [(103,jdf),(169,jb6)]:=(Za6 jcN (Za6 jf1 Zas))
def j7u (l:List qP) (d:Int) (b:Bool->Res):Res:=j7W l λr=>bif !r then b true else bif decide (d<0) then b true else b (decide (d>(nI (List.length l))))
def jcc:Z1d Unit:=Nd 26 26 [.R 0 y20 .S,.I 1,.t 4 (pB 4)] [(4,y33,[.O,.O])] λb f g=>j7u b.1 b.2.1 (λd=>g .normal [(0,v1 y20 b.1 .S),(1,vI b.2.1),(4,pB 4),(18,vB d)] [(4,⟨y33,f.1.1,f.1.2,[.O,.O]⟩)])
theorem jm3:CN 0 12 Tryz.f112 jcc:=nK jhO [] oN ([0,1,4,18],[4]) [] ([],[]) λ_ _ _=>by kernel_rfl
def j9v (l:List qP) (b:Int) (d:qD->Bool->Res):Res:=j7u l b λt=>bif t then d ([],[]) false else bif Z8e 0 b (List.length l) then j64 (sub l 0 b) λr f=>d r f else none
def ji2:Sig Unit:=sg [.borrow y20 false,.borrow tI false] [true,false] [(y20,none),(tI,none)] [] λb g k=>j9v b.1 b.2.1 (λd f=>k [⟨y33,true,d,[.S,.S]⟩,wB f] [] [])
theorem jnS:SO 112 ji2:=fK (np:=0) jhO [jcc] (oI 12 0 @jm3 oN) true Tryz.func112 λ_ _ _ _=>by delta j9v jcc jb6;refine gz j7u λ_ b=>gz j64 λ_ d=> ?_;rewrite [<-b,<-d];kernel_rfl
end
end Go.PI.G
