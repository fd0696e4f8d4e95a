/-
  Program's code interpreted over typed values; printed texts; plain laws. No conditions.
-/
import Derived.Test.YtiaipepkkjlccaaGreatWOd
import Derived.Test.YtiaipepkkjlccaaGreatWOe
import Derived.Test.YtiaipepkkjlccaaGreatWOf
set_option linter.unusedVariables false
set_option maxRecDepth 100000
namespace Go.PI.G
noncomputable section
open Go Go.PI Go.Proofs
open Go.Code (pl pr)
def j30 (d:List qV)(h:Int)(b:Int)(rec:Int->Res)(f:Unit->Res)(g:Unit->Res):Res:=bif decide (b<h) then bif inb b d.length then j1a (nth (0,0,eS) d b) λr=>bif !r then g () else rec (Z9J (b+1)) else none else f ()
def j8l (b:List qV)(d:Int):Int->(Int->Res)->((Unit->Res)×(Unit->Res))->Res:=λv rec q=>j30 b d v (λf=>rec (f)) q.1 q.2
def jey (f:List qV)(g:Int)(n:Nat)(h:Int)(b:Unit->Res)(d:Unit->Res):Res:=Z1e (j8l f g) n (h) (b,d)
def jdY:Z1c Unit:=NdL 23 23 [.R 0 y2 .S,.R 5 y2 .S,.I 6,.I 7] [] (λb d=>(b.2.2.2.1)) (λb v=>(b.1,b.2.1,b.2.2.1,v,())) (λd v=>()) (λb d=>j8l b.2.1 b.2.2.1) λb d f=>((λ_=>f (.exit 0) [(0,v1 y2 b.1 .S)] []),(λ_=>f .ret [(2,vB false)] []))
theorem jk8:CN 0 26 Tryz.f167 jdY:=lK (Za5 j76 Zar) [] oN ([],[]) [(0,[0],[])] ([2],[]) λ_ _ _ _ _=>by kernel_rfl
def j2g (l:List qV)(b:Bool->Res):Res:=jey l (nI l.length) Z1b 0 (λ_=>bif decide ((nI l.length)>=1) then b (decide ((nI l.length)<=8)) else b false) (λ_=>b false)
def jbi:Sig Unit:=sg [.look y2 false] [false] [(y2,none)] [] λd f k=>j2g d.1 (λb=>k [wB b] [] [])
theorem jlT:SO 167 jbi:=fK (np:=0) (Za5 j76 Zar) [jdY] (oI 26 0 @jk8 oN) false Tryz.func167 λ_ _ _ _=>by kernel_rfl
def j1b (d:qG)(b:Bool->Res):Res:=bif (d.1==0) then bif sEq d.2.1 eS then bif ((nI d.2.2.1.length)==0) then bif ((nI d.2.2.2.1.length)==0) then bif sEq d.2.2.2.2.1 eS then b (sEq d.2.2.2.2.2 eS) else b false else b false else b false else b false else b false
def jam:Sig Unit:=sg [.look y13 true] [false] [(y13,none)] [] λd f k=>j1b d.1 (λb=>k [wB b] [] [])
theorem je8:SO 168 jam:=fK (np:=0) Zar [] oN false Tryz.func168 λ_ _ _ _=>by kernel_rfl
theorem jgN:FS [(60,j2y),(167,jbi),(168,jam),(169,j3M)]:=(Za5 j4e (Za5 jlT (Za5 je8 (Za5 jda Zar))))
def j5N (d:Bool)(f:Bool)(s:qS)(b:Bool->Res):Res:=bif (s.1==1) then bif d then j2g s.2.2.2.1 λr=>bif r then j1b s.2.2.2.2 λg=>b g else b false else b false else bif (s.1==2) then j2g s.2.2.1 λh=>bif h then j2g s.2.2.2.1 λi=>bif i then j1b s.2.2.2.2 λj=>b j else b false else b false else bif (s.1==3) then j2g s.2.2.1 λk=>bif k then bif f then j1b s.2.2.2.2 λl=>b l else b false else b false else bif (s.1==4) then bif d then bif f then j1b s.2.2.2.2 λm=>b m else b false else b false else bif (s.1==5) then bif d then bif f then j22 s.2.2.2.2 λn=>bif n then b (sEq s.2.2.2.2.2.1 s.2.1) else b false else b false else b false else b false
def jaK:Z1c Unit:=Nd 93 93 [.t 1 (pB 1),.B 3,.B 4] [(1,y17,[.S,.S,.S,.S])] λb g d=>j5N b.1 b.2.1 g.1.2 (λf=>d .ret [(2,vB f)] [])
theorem jl6:CN 0 31 Tryz.f119 jaK:=nK jgN [] oN ([],[]) [] ([2],[]) λ_ _ _=>by delta j5N jbi jam j3M;refine gz j2g λ_ b=>gz j1b λ_ d=>gz j22 λ_ f=> ?_;rewrite[<-b,<-d,<-f];kernel_rfl
def j3a (s:qS)(b:Bool->Res):Res:=j0t s.2.1 λr=>bif !r then b false else j5N ((nI s.2.2.1.length)==0) ((nI s.2.2.2.1.length)==0) s λt=>b t
def j6r:Sig Unit:=sg [.look y17 true] [false] [(y17,none)] [] λd f k=>j3a d.1 (λb=>k [wB b] [] [])
theorem jh5:SO 119 j6r:=fK (np:=0) jgN [jaK] (oI 31 0 @jl6 oN) false Tryz.func119 λ_ _ _ _=>by delta j3a j2y jaK;refine gz j0t λ_ b=>gz j5N λ_ d=> ?_;rewrite[<-b,<-d];kernel_rfl
theorem jj2:FS [(98,j7n),(99,j18)]:=(Za5 jhR (Za5 j4d Zar))
def j5L (f:List qT)(g:Int)(d:qF×List qR)(b:Int)(rec:Int->Res)(h:Unit->Res)(i:Unit->Res):Res:=bif decide (b<g) then bif inb b f.length then bif inb b d.2.length then j0s (nth (eS,[],[]) f b) (nth [] d.2 b) λr=>bif !r then i () else rec (Z9J (b+1)) else none else none else h ()
def j7X (b:List qT)(f:Int)(d:qF×List qR):Int->(Int->Res)->((Unit->Res)×(Unit->Res))->Res:=λv rec q=>j5L b f d v (λg=>rec (g)) q.1 q.2
def jdF (b:List qT)(f:Int)(d:qF×List qR)(n:Nat)(g:Int)(h:Unit->Res)(i:Unit->Res):Res:=Z1e (j7X b f d) n (g) (h,i)
def jcq:Z1c Unit:=NdL 38 38 [.t 1 (pB 1),.R 21 y23 .S,.I 22,.I 23] [(1,y26,[.S,.S])] (λb d=>(b.2.2.1)) (λb v=>(b.1,b.2.1,v,())) (λd v=>((d.1.1,d.1.2),())) (λb d=>j7X b.1 b.2.1 d.1.2) λb d f=>((λ_=>f (.exit 0) [] []),(λ_=>f .ret [(2,vB false)] []))
theorem jnO:CN 0 58 Tryz.f61 jcq:=lK jj2 [] oN ([],[]) [(0,[],[])] ([2],[]) λ_ _ _ _ _=>by kernel_rfl
def j4G (d:qF×List qR)(b:Bool->Res):Res:=j6a d.1 λr=>bif !r then b false else bif ((nI d.2.length) != (nI d.1.length)) then b false else jdF d.1 (nI d.1.length) d Z1b 0 (λ_=>b true) (λ_=>b false)
def j8C:Sig Unit:=sg [.look y26 true] [false] [(y26,none)] [] λd f k=>j4G d.1 (λb=>k [wB b] [] [])
theorem jeZ:SO 61 j8C:=fK (np:=0) jj2 [jcq] (oI 58 0 @jnO oN) false Tryz.func61 λ_ _ _ _=>by delta j4G j7n jcq jdF;refine gz j6a λ_ b=>gz j7X λ_ d=> ?_;rewrite[<-b,<-d];kernel_rfl
theorem jfi:FS [(184,j5F),(185,j7U)]:=(Za5 jfy (Za5 jfz Zar))
def j2Z (f:List qR)(g:Int)(d:Int)(b:qF×List qR)(rec:Int->qD->Res)(h:qD->Res):Res:=bif decide (d<g) then bif inb d f.length then j5R (nth [] f d) λr=>bif lim (b.2.length+1) then rec (Z9J (d+1)) (b.1,(b.2++[r])) else none else none else h b
def j5a (d:List qR)(f:Int):(Int×qD)->(Int×qD->Res)->((qD->Res))->Res:=λv rec q=>j2Z d f v.1 v.2 (λg b=>rec (g,b)) q
def jaw (d:List qR)(f:Int)(n:Nat)(g:Int)(b:qF×List qR)(h:qD->Res):Res:=Z1e (j5a d f) n (g,b) (h)
def j9w:Z1c Unit:=NdL 28 28 [.t 2 (pB 2),.t 3 (pB 3),.R 11 y25 .S,.I 12,.I 13] [(2,y26,[.O,.O]),(3,y26,[.O,.O])] (λd b=>(d.2.2.1,b.2.1.2)) (λd v=>(d.1,d.2.1,v.1,())) (λb v=>((b.1.1,b.1.2),(b.2.1.1,v.2),())) (λd b=>j5a d.1 d.2.1) λd b g=>((λf=>g (.exit 0) [(2,pB 2),(3,pB 3)] [(2,⟨y26,b.1.1,b.1.2,[.O,.O]⟩),(3,⟨y26,b.2.1.1,f,[.O,.O]⟩)]))
theorem jk7:CN 0 58 Tryz.f142 j9w:=lK jfi [] oN ([],[]) [(0,[2,3],[2,3])] ([],[]) λ_ _ _ _ _=>by kernel_rfl
def j1y (d:qF×List qR)(f:qD->Res):Res:=j3S d.1 λr=>jaw d.2 (nI d.2.length) Z1b 0 (r,[]) λb=>f b
def j5G:Sig Unit:=sg [.borrow y26 true] [true] [(y26,none)] [] λd f k=>j1y d.1 (λb=>k [⟨y26,true,b,[.O,.O]⟩] [] [])
theorem jfB:SO 142 j5G:=fK (np:=0) jfi [j9w] (oI 58 0 @jk7 oN) false Tryz.func142 λ_ _ _ _=>by delta j1y j5F j9w jaw;refine gz j3S λ_ b=>gz j5a λ_ d=> ?_;rewrite[<-b,<-d];kernel_rfl
def j16 (t:qB×qE×qL)(l:List qW)(s:qS)(b:qR->Int->Res):Res:=bif (s.1==1) then j6F t l s.2.2.2.1 λr d=>b r d else bif (s.1==2) then j6G t l s.2.2.1 s.2.2.2.1 λf g=>b f g else bif (s.1==3) then j6E t l s.2.2.1 λh i=>b h i else bif (s.1==5) then j5M t l s.2.2.2.2 λj k=>b j k else b [] 0
def j5H:Sig Unit:=sg [.borrow y22 true,.borrow y24 false,.borrow y17 true] [false,false] [(y22,none),(y24,none),(y17,none)] [] λb g k=>j16 b.1 b.2.1 b.2.2.1 (λd f=>k [w1 y24 d .O,wI f] [] [])
theorem jfC:SO 188 j5H:=fK (np:=0) (Za5 jnv (Za5 jnw (Za5 jnu (Za5 jlQ Zar)))) [] oN false Tryz.func188 λ_ _ _ _=>by delta j16 jhn jho jhm jfY;refine gz j6F λ_ b=>gz j6G λ_ d=>gz j6E λ_ f=>gz j5M λ_ g=> ?_;rewrite[<-b,<-d,<-f,<-g];kernel_rfl
theorem j5Z:FS [(185,j7U),(186,j3N),(188,j5H),(224,j4B)]:=(Za5 jfz (Za5 jdd (Za5 jfC (Za5 je7 Zar))))
def j2Y (b:Int)(s:qS)(t:qB×qE×qL)(d:Bool->Res):Res:=bif decide (b>=0) then d (sEq t.1 s.2.1) else d false
def j2j:Z1c Unit:=Nd 86 86 [.t 2 (pB 2),.t 3 (pB 3),.t 4 (pB 4),.t 8 (pB 8),.t 10 (pB 10),.t 11 (pB 11),.I 12,.R 29 y23 .S,.I 30,.I 31] [(2,y26,[.S,.S]),(3,y17,[.S,.S,.S,.S]),(4,y26,[.O,.O]),(8,y26,[.S,.O]),(10,y22,[.S,.S]),(11,y24,[.O])] λd b g=>j2Y d.1 b.2.1.2 b.2.2.2.2.1.2 (λf=>g .normal [(2,pB 2),(3,pB 3),(4,pB 4),(8,pB 8),(11,pB 11),(12,vI d.1),(29,v1 y23 d.2.1 .S),(30,vI d.2.2.1),(31,vI d.2.2.2.1),(49,vB f)] [(2,⟨y26,b.1.1,b.1.2,[.S,.S]⟩),(3,⟨y17,b.2.1.1,b.2.1.2,[.S,.S,.S,.S]⟩),(4,⟨y26,b.2.2.1.1,b.2.2.1.2,[.O,.O]⟩),(8,⟨y26,b.2.2.2.1.1,b.2.2.2.1.2,[.S,.O]⟩),(11,⟨y24,b.2.2.2.2.2.1.1,b.2.2.2.2.2.1.2,[.O]⟩)])
theorem jib:CN 0 256412 Tryz.f187 j2j:=nK j5Z [] oN ([2,3,4,8,11,12,29,30,31,49],[2,3,4,8,11]) [] ([],[]) λ_ _ _=>by kernel_rfl
def j1F (b:Int)(g:Bool)(d:qF×List qR)(s:qS)(x:List qW)(f:qR->Res):Res:=bif g then bif inb b d.1.length then bif inb b d.2.length then j16 (nth (eS,[],[]) d.1 b) (nth [] d.2 b) s λr i=>Z86 (f r) (f r) else none else none else bif decide (b>=0) then bif inb b d.2.length then j5R (nth [] d.2 b) λh=>f h else none else f x
def j4R:Z1c Unit:=Nd 86 86 [.t 2 (pB 2),.t 3 (pB 3),.t 4 (pB 4),.t 8 (pB 8),.t 11 (pB 11),.I 12,.R 29 y23 .S,.I 30,.I 31,.B 49] [(2,y26,[.S,.S]),(3,y17,[.S,.S,.S,.S]),(4,y26,[.O,.O]),(8,y26,[.S,.O]),(11,y24,[.O])] λd b f=>j1F d.1 d.2.2.2.2.1 b.1.2 b.2.1.2 b.2.2.2.2.1.2 (λg=>f .normal [(2,pB 2),(3,pB 3),(4,pB 4),(8,pB 8),(11,pB 11),(29,v1 y23 d.2.1 .S),(30,vI d.2.2.1),(31,vI d.2.2.2.1)] [(2,⟨y26,b.1.1,b.1.2,[.S,.S]⟩),(3,⟨y17,b.2.1.1,b.2.1.2,[.S,.S,.S,.S]⟩),(4,⟨y26,b.2.2.1.1,b.2.2.1.2,[.O,.O]⟩),(8,⟨y26,b.2.2.2.1.1,b.2.2.2.1.2,[.S,.O]⟩),(11,⟨y24,b.2.2.2.2.1.1,g,[.O]⟩)])
theorem jic:CN 0 256413 Tryz.f187 j4R:=nK j5Z [j2j] oN ([2,3,4,8,11,29,30,31],[2,3,4,8,11]) [] ([],[]) λ_ _ _=>by delta j1F j5H j7U;refine gz j16 λ_ b=>gz j5R λ_ d=> ?_;rewrite[<-b,<-d];kernel_rfl
def j10 (g:List qT)(h:Int)(d:qF×List qR)(s:qS)(b:Int)(f:qF×List qR)(rec:Int->qD->Res)(i:qD->Res):Res:=bif decide (b<h) then bif inb b g.length then j24 d.1 (nth (eS,[],[]) g b).1 λr=>j2Y r s (nth (eS,[],[]) g b) λt=>j1F r t d s [] λx=>bif lim (f.2.length+1) then rec (Z9J (b+1)) (f.1,(f.2++[x])) else none else none else i f
def j1S (f:List qT)(g:Int)(d:qF×List qR)(s:qS):(Int×qD)->(Int×qD->Res)->((qD->Res))->Res:=λv rec q=>j10 f g d s v.1 v.2 (λh b=>rec (h,b)) q
def j59 (f:List qT)(g:Int)(d:qF×List qR)(s:qS)(n:Nat)(h:Int)(b:qF×List qR)(i:qD->Res):Res:=Z1e (j1S f g d s) n (h,b) (i)
def j7A:Z1c Unit:=NdL 86 86 [.t 2 (pB 2),.t 3 (pB 3),.t 4 (pB 4),.t 8 (pB 8),.R 29 y23 .S,.I 30,.I 31] [(2,y26,[.S,.S]),(3,y17,[.S,.S,.S,.S]),(4,y26,[.O,.O]),(8,y26,[.S,.O])] (λd b=>(d.2.2.1,b.2.2.2.1.2)) (λd v=>(d.1,d.2.1,v.1,())) (λb v=>((b.1.1,b.1.2),(b.2.1.1,b.2.1.2),(b.2.2.1.1,b.2.2.1.2),(b.2.2.2.1.1,v.2),())) (λd b=>j1S d.1 d.2.1 b.1.2 b.2.1.2) λd b g=>((λf=>g (.exit 0) [(4,pB 4),(8,pB 8)] [(4,⟨y26,b.2.2.1.1,b.2.2.1.2,[.O,.O]⟩),(8,⟨y26,b.2.2.2.1.1,f,[.S,.O]⟩)]))
theorem jia:CN 0 250 Tryz.f187 j7A:=lK j5Z [j2j,j4R] (oI 924 0 @jib (oI 925 1 @jic oN)) ([],[]) [(0,[4,8],[4,8])] ([],[]) λ_ _ _ _ _=>by delta j1S j10 j3N j2j j4R;refine gz j24 λ_ b=>gz j2Y λ_ d=>gz j1F λ_ f=> ?_;rewrite[<-b,<-d,<-f];kernel_rfl
def j3k (d:qF×List qR)(s:qS)(f:qD->Int->Res):Res:=j1J d.1 s.2.2.2.2 λr g=>bif (g != 0) then f ([],[]) (Z9J (10+g)) else j59 r (nI r.length) d s Z1b 0 (r,[]) λb=>f b 0
def j9e:Sig Unit:=sg [.borrow y26 true,.borrow y17 true] [true,false] [(y26,none),(y17,none)] [] λb g k=>j3k b.1 b.2.1 (λd f=>k [⟨y26,true,d,[.S,.S]⟩,wI f] [] [])
theorem jjp:SO 187 j9e:=fK (np:=0) j5Z [j2j,j4R,j7A] (oI 250 2 @jia oN) true Tryz.func187 λ_ _ _ _=>by delta j3k j4B j7A j59;refine gz j1J λ_ b=>gz j1S λ_ d=> ?_;rewrite[<-b,<-d];kernel_rfl
theorem jj3:FS [(61,j8C),(119,j6r),(142,j5G),(186,j3N),(187,j9e),(188,j5H)]:=(Za5 jeZ (Za5 jh5 (Za5 jfB (Za5 jdd (Za5 jjp (Za5 jfC Zar))))))
def j7t (b:Int)(s:qS)(d:Unit->Res)(f:Unit->Res):Res:=bif decide (b<0) then bif (s.1 != 5) then f () else bif (s.2.2.2.2.1 != 1) then f () else d () else d ()
def jcr:Z1c Unit:=Nd 77 77 [.t 2 (pB 2),.t 3 (pB 3),.t 4 (pB 4),.I 6] [(2,y26,[.S,.S]),(3,y17,[.S,.S,.S,.S]),(4,y26,[.O,.O])] λf b d=>j7t f.1 b.2.1.2 (λ_=>d .normal [(2,pB 2),(3,pB 3),(4,pB 4),(6,vI f.1)] [(2,⟨y26,b.1.1,b.1.2,[.S,.S]⟩),(3,⟨y17,b.2.1.1,b.2.1.2,[.S,.S,.S,.S]⟩),(4,⟨y26,b.2.2.1.1,b.2.2.1.2,[.O,.O]⟩)]) (λ_=>d .ret [(4,pB 4),(5,vI 4)] [(4,⟨y26,b.2.2.1.1,([],[]),[.O,.O]⟩)])
theorem jnP:CN 0 30 Tryz.f143 jcr:=nK jj3 [] oN ([2,3,4,6],[2,3,4]) [] ([4,5],[4]) λ_ _ _=>by kernel_rfl
def j7s (d:qF×List qR)(s:qS)(f:qD->Int->Res):Res:=j4G d λr=>bif !r then f ([],[]) 1 else j3a s λi=>bif !i then f ([],[]) 1 else j24 d.1 s.2.1 λb=>j7t b s (λ_=>bif (s.1==5) then j3k d s λj k=>f j k else bif inb b d.1.length then bif inb b d.2.length then j16 (nth (eS,[],[]) d.1 b) (nth [] d.2 b) s λl h=>bif (h != 0) then f ([],[]) (Z9J (10+h)) else j1y d λg=>bif inb b g.2.length then f (g.1,upd g.2 b l) 0 else none else none else none) (λ_=>f ([],[]) 4)
def jje:Sig Unit:=sg [.borrow y26 true,.borrow y17 true] [true,false] [(y26,none),(y17,none)] [] λb g k=>j7s b.1 b.2.1 (λd f=>k [⟨y26,true,d,[.S,.S]⟩,wI f] [] [])
theorem jpV:SO 143 jje:=fK (np:=0) jj3 [jcr] (oI 30 0 @jnP oN) true Tryz.func143 λ_ _ _ _=>by delta j7s j8C j6r j3N jcr j9e j5H j5G;refine gz j4G λ_ b=>gz j3a λ_ d=>gz j24 λ_ f=>gz j7t λ_ g=>gz j3k λ_ h=>gz j16 λ_ i=>gz j1y λ_ j=> ?_;rewrite[<-b,<-d,<-f,<-g,<-h,<-i,<-j];kernel_rfl
theorem jfh:FS [(61,j8C),(142,j5G),(143,jje)]:=(Za5 jeZ (Za5 jfB (Za5 jpV Zar)))
def j2P (d:List qS)(f:Int)(b:Int)(now:qF×List qR)(rec:Int->qD->Res)(h:qD->Res)(i:Int->Int->Res):Res:=bif decide (b<f) then bif inb b d.length then j7s now (nth (0,eS,[],[],0,eS,[],[],eS,eS) d b) λr g=>bif (g != 0) then i g b else rec (Z9J (b+1)) r else none else h now
def j52 (b:List qS)(d:Int):(Int×qD)->(Int×qD->Res)->((qD->Res)×(Int->Int->Res))->Res:=λv rec q=>j2P b d v.1 v.2 (λf now=>rec (f,now)) q.1 q.2
def j6W (b:List qS)(d:Int)(n:Nat)(f:Int)(now:qF×List qR)(g:qD->Res)(h:Int->Int->Res):Res:=Z1e (j52 b d) n (f,now) (g,h)
def j9n:Z1c Unit:=λσ k=>rdN σ 39<|rdT σ 4 (pB 4)<|rdT σ 7 (pB 7)<|rd1 σ 18 y43 .S λd=>rdI σ 19 λf=>rdI σ 20 λg=>rdB σ 4 y26 [.O,.O] λa i=>rdB σ 7 y26 [.S,.S] λh now=>j6W d f Z1b g now (λb=>k (.exit 0) (mkS 39 39 [(4,pB 4),(7,pB 7)] [(4,⟨y26,a,i,[.O,.O]⟩),(7,⟨y26,h,b,[.S,.S]⟩)])) (λj l=>k .ret (mkS 39 39 [(4,pB 4),(5,vI j),(6,vI l)] [(4,⟨y26,a,([],[]),[.O,.O]⟩)]))
def j9t:Z1c Unit:=λσ k=>j9n (σ.wk [] [(7,[.S,.S])]) k
theorem jjV:CN 0 122 Tryz.f96 j9t:=λp=>ZaI [] [(7,[.S,.S])] (joh follows j2t jfh p [] oN [4,7,18,19,20] [4,7] ([],[]) [(0,[4,7],[4,7])] ([4,5,6],[4]) (y:=j9n) λσ k _ h=>rN h λB h=>rT h λz h=>rT h λA h=>rV h λd g h=>rV h λf i h=>rV h λq j h=>rB h λa w l h=>rB h λr now n h=>⟨_,ZaL (m:=39) B (sC z (sC A (sC g (sC i (sC j sN))))) (bC l (bC n bN)),.trans (Z9t (λv:Int×qD=>(mkS 39 39 [(4,pB 4),(7,pB 7),(18,v1 y43 d .S),(19,vI f),(20,vI v.1)] [(4,⟨y26,a,w,[.O,.O]⟩),(7,⟨y26,r,v.2,[.S,.S]⟩)])) (j52 d f) (λ(k:Z82 Unit)=>(((λb=>k (.exit 0) (mkS 39 39 [(4,pB 4),(7,pB 7)] [(4,⟨y26,a,w,[.O,.O]⟩),(7,⟨y26,r,b,[.S,.S]⟩)])),(λC D=>k .ret (mkS 39 39 [(4,pB 4),(5,vI C),(6,vI D)] [(4,⟨y26,a,([],[]),[.O,.O]⟩)]))):(qD->Res)×(Int->Int->Res))) (λv rec k=>by kernel_rfl) Z1b (q,now) k) h⟩)
def j2f (d:qF×List qR)(l:List qS)(b:qD->Int->Int->Res):Res:=j4G d λr=>bif !r then b ([],[]) 1 0 else j1y d λf=>j6W l (nI l.length) Z1b 0 f (λnow=>b now 0 0) (λt g=>b ([],[]) t g)
def jbg:Sig Unit:=sg [.borrow y26 true,.borrow y43 false] [true,false,false] [(y26,none),(y43,none)] [] λb h k=>j2f b.1 b.2.1 (λd f g=>k [⟨y26,true,d,[.S,.S]⟩,wI f,wI g] [] [])
theorem jlP:SO 96 jbg:=fK (np:=0) jfh [j9t] (oI 122 0 @jjV oN) true Tryz.func96 λ_ _ _ _=>by delta j2f j8C j5G j9t;delta j9n j6W;refine gz j4G λ_ b=>gz j1y λ_ d=>gz j52 λ_ f=> ?_;rewrite[<-b,<-d,<-f];kernel_rfl
def jc4 (d:Int×Int×qB)(b:Bool->Res):Res:=j0V d λr=>b (!r)
def jlh:Sig Unit:=sg [.look y1 true] [false] [(y1,none)] [] λd f k=>jc4 d.1 (λb=>k [wB b] [] [])
theorem je5:SO 219 jlh:=fK (np:=0) (Za5 j74 Zar) [] oN false Tryz.func219 λ_ _ _ _=>by kernel_rfl
def j0O (s:List qV)(g:Int)(b:Int)(rec:Int->Res)(d:Unit->Res)(f:Int->Res):Res:=bif decide (b<g) then bif inb b s.length then jc4 (nth (0,0,eS) s b) λr=>bif r then f b else rec (Z9J (b+1)) else none else d ()
def j36 (s:List qV)(b:Int):Int->(Int->Res)->((Unit->Res)×(Int->Res))->Res:=λv rec q=>j0O s b v (λd=>rec (d)) q.1 q.2
def j84 (s:List qV)(f:Int)(n:Nat)(g:Int)(b:Unit->Res)(d:Int->Res):Res:=Z1e (j36 s f) n (g) (b,d)
def j7y:Z1c Unit:=NdL 19 19 [.R 0 y2 .S,.c 1 219 [] .unit [],.I 7,.I 8] [] (λb d=>(b.2.2.2.1)) (λb v=>(b.1,b.2.1,b.2.2.1,v,())) (λd v=>()) (λb d=>j36 b.1 b.2.2.1) λb d f=>((λ_=>f (.exit 0) [] []),(λg=>f .ret [(4,vI g)] []))
theorem jdx:CN 0 26 Tryz.f244 j7y:=lK (Za5 je5 Zar) [] oN ([],[]) [(0,[],[])] ([4],[]) λ_ _ _ _ _=>by kernel_rfl
def j68 (s:List qV)(f:Unit)(b:Int->Res):Res:=j84 s (nI s.length) Z1b 0 (λ_=>b (-1)) (λt=>b t)
def jfa:Sig Unit:=sg [.look y2 false,.rclos 219 []] [false] [(y2,none),(.unit,none)] [] λb f k=>j68 b.1 b.2.1 (λd=>k [wI d] [] [])
theorem jeY:SO 244 jfa:=fK (np:=0) (Za5 je5 Zar) [j7y] (oI 26 0 @jdx oN) false Tryz.func244 λ_ _ _ _=>by kernel_rfl
def j1L (s:List qV)(f:Unit)(b:Bool->Res):Res:=j68 s f λr=>b (decide (r>=0))
def j6U:Sig Unit:=sg [.look y2 false,.rclos 219 []] [false] [(y2,none),(.unit,none)] [] λb f k=>j1L b.1 b.2.1 (λd=>k [wB d] [] [])
theorem jcE:SO 218 j6U:=fK (np:=0) (Za5 jeY Zar) [] oN false Tryz.func218 λ_ _ _ _=>by kernel_rfl
def j1r (l:List qV)(b:Bool->Res):Res:=j0a (nI l.length) 1 8 λr=>bif r then j1L l () λd=>b (!d) else b false
def jbe:Sig Unit:=sg [.look y2 false] [false] [(y2,none)] [] λd f k=>j1r d.1 (λb=>k [wB b] [] [])
theorem jlA:SO 176 jbe:=fK (np:=0) (Za5 j1H (Za5 jcE Zar)) [] oN false Tryz.func176 λ_ _ _ _=>by delta j1r j17 j6U;refine gz j0a λ_ b=>gz j1L λ_ d=> ?_;rewrite[<-b,<-d];kernel_rfl
theorem jgJ:FS [(66,j2w),(174,j3K),(175,j6T),(176,jbe)]:=(Za5 j4c (Za5 jcY (Za5 j9F (Za5 jlA Zar))))
def j5k (s:qS)(b:Bool->Res):Res:=bif (s.1==1) then bif ((nI s.2.2.1.length)==0) then j1r s.2.2.2.1 λr=>b r else b false else bif (s.1==2) then j1r s.2.2.1 λd=>bif d then j1r s.2.2.2.1 λf=>b f else b false else bif (s.1==3) then j1r s.2.2.1 λg=>bif g then b ((nI s.2.2.2.1.length)==0) else b false else bif (s.1==4) then bif ((nI s.2.2.1.length)==0) then b ((nI s.2.2.2.1.length)==0) else b false else b false
def jaC:Z1c Unit:=Nd 91 91 [.t 1 (pB 1)] [(1,y17,[.S,.S,.S,.S])] λg f b=>j5k f.1.2 (λd=>b .ret [(2,vB d)] [])
theorem jkM:CN 0 15 Tryz.f128 jaC:=nK jgJ [] oN ([],[]) [] ([2],[]) λ_ _ _=>by delta j5k jbe;refine gz j1r λ_ b=> ?_;rewrite[<-b];kernel_rfl
def j38 (s:qS)(b:Bool->Res):Res:=bif (s.1==5) then j20 s.2.2.2.2 λr=>bif r then bif sEq s.2.1 s.2.2.2.2.2.1 then bif ((nI s.2.2.1.length)==0) then b ((nI s.2.2.2.1.length)==0) else b false else b false else b false else j0l s.2.1 λd=>bif !d then b false else j0f s.2.2.2.2 (0,eS,[],[],eS,eS) λf=>bif !f then b false else j5k s λt=>b t
def j8N:Sig Unit:=sg [.look y17 true] [false] [(y17,none)] [] λd f k=>j38 d.1 (λb=>k [wB b] [] [])
theorem jgP:SO 128 j8N:=fK (np:=0) jgJ [jaC] (oI 15 0 @jkM oN) false Tryz.func128 λ_ _ _ _=>by delta j38 j3K j2w j6T jaC;refine gz j20 λ_ b=>gz j0l λ_ d=>gz j0f λ_ f=>gz j5k λ_ g=> ?_;rewrite[<-b,<-d,<-f,<-g];kernel_rfl
def j6o (s:qS)(b:qS->Res):Res:=j0Q s.2.2.1 λr=>j0Q s.2.2.2.1 λd=>j9O s.2.2.2.2 λf=>b (s.1,s.2.1,r,d,f)
def jli:Sig Unit:=sg [.borrow y17 true] [true] [(y17,none)] [] λd f k=>j6o d.1 (λb=>k [⟨y17,true,b,[.O,.O,.O,.O]⟩] [] [])
theorem je6:SO 155 jli:=fK (np:=0) (Za5 j6L (Za5 jlC Zar)) [] oN false Tryz.func155 λ_ _ _ _=>by delta j6o j6S jfR;refine gz j0Q λ_ b=>gz j9O λ_ d=> ?_;rewrite[<-b,<-d];kernel_rfl
theorem jj1:FS [(109,j7l),(110,j1I)]:=(Za5 jhG (Za5 j6m Zar))
def j5h (f:List qT)(g:Int)(d:qF×List qR)(b:Int)(rec:Int->Res)(h:Unit->Res)(i:Unit->Res):Res:=bif decide (b<g) then bif inb b f.length then bif inb b d.2.length then j0H (nth (eS,[],[]) f b) (nth [] d.2 b) λr=>bif !r then i () else rec (Z9J (b+1)) else none else none else h ()
def j7H (b:List qT)(f:Int)(d:qF×List qR):Int->(Int->Res)->((Unit->Res)×(Unit->Res))->Res:=λv rec q=>j5h b f d v (λg=>rec (g)) q.1 q.2
def jdi (b:List qT)(f:Int)(d:qF×List qR)(n:Nat)(g:Int)(h:Unit->Res)(i:Unit->Res):Res:=Z1e (j7H b f d) n (g) (h,i)
def jcn:Z1c Unit:=NdL 38 38 [.t 1 (pB 1),.R 21 y23 .S,.I 22,.I 23] [(1,y26,[.S,.S])] (λb d=>(b.2.2.1)) (λb v=>(b.1,b.2.1,v,())) (λd v=>((d.1.1,d.1.2),())) (λb d=>j7H b.1 b.2.1 d.1.2) λb d f=>((λ_=>f (.exit 0) [] []),(λ_=>f .ret [(2,vB false)] []))
theorem jnG:CN 0 58 Tryz.f67 jcn:=lK jj1 [] oN ([],[]) [(0,[],[])] ([2],[]) λ_ _ _ _ _=>by kernel_rfl
def j5W (d:qF×List qR)(b:Bool->Res):Res:=j60 d.1 λr=>bif !r then b false else bif ((nI d.2.length) != (nI d.1.length)) then b false else jdi d.1 (nI d.1.length) d Z1b 0 (λ_=>b true) (λ_=>b false)
def jbJ:Sig Unit:=sg [.look y26 true] [false] [(y26,none)] [] λd f k=>j5W d.1 (λb=>k [wB b] [] [])
theorem jj4:SO 67 jbJ:=fK (np:=0) jj1 [jcn] (oI 58 0 @jnG oN) false Tryz.func67 λ_ _ _ _=>by delta j5W j7l jcn jdi;refine gz j60 λ_ b=>gz j7H λ_ d=> ?_;rewrite[<-b,<-d];kernel_rfl
theorem jgK:FS [(195,j5w),(196,j0L)]:=(Za5 jfm (Za5 j4k Zar))
def j3u (f:List qR)(g:Int)(d:Int)(b:qF×List qR)(rec:Int->qD->Res)(h:qD->Res):Res:=bif decide (d<g) then bif inb d f.length then j0o (nth [] f d) λr=>bif lim (b.2.length+1) then rec (Z9J (d+1)) (b.1,(b.2++[r])) else none else none else h b
def j63 (d:List qR)(f:Int):(Int×qD)->(Int×qD->Res)->((qD->Res))->Res:=λv rec q=>j3u d f v.1 v.2 (λg b=>rec (g,b)) q
def jb3 (d:List qR)(f:Int)(n:Nat)(g:Int)(b:qF×List qR)(h:qD->Res):Res:=Z1e (j63 d f) n (g,b) (h)
def jaE:Z1c Unit:=NdL 28 28 [.t 2 (pB 2),.t 3 (pB 3),.R 11 y25 .S,.I 12,.I 13] [(2,y26,[.O,.O]),(3,y26,[.O,.O])] (λd b=>(d.2.2.1,b.2.1.2)) (λd v=>(d.1,d.2.1,v.1,())) (λb v=>((b.1.1,b.1.2),(b.2.1.1,v.2),())) (λd b=>j63 d.1 d.2.1) λd b g=>((λf=>g (.exit 0) [(2,pB 2),(3,pB 3)] [(2,⟨y26,b.1.1,b.1.2,[.O,.O]⟩),(3,⟨y26,b.2.1.1,f,[.O,.O]⟩)]))
theorem jkO:CN 0 58 Tryz.f153 jaE:=lK jgK [] oN ([],[]) [(0,[2,3],[2,3])] ([],[]) λ_ _ _ _ _=>by kernel_rfl
def j12 (d:qF×List qR)(f:qD->Res):Res:=j3t d.1 λr=>jb3 d.2 (nI d.2.length) Z1b 0 (r,[]) λb=>f b
def j2x:Sig Unit:=sg [.borrow y26 true] [true] [(y26,none)] [] λd f k=>j12 d.1 (λb=>k [⟨y26,true,b,[.O,.O]⟩] [] [])
theorem jc1:SO 153 j2x:=fK (np:=0) jgK [jaE] (oI 58 0 @jkO oN) false Tryz.func153 λ_ _ _ _=>by delta j12 j5w jaE jb3;refine gz j3t λ_ b=>gz j63 λ_ d=> ?_;rewrite[<-b,<-d];kernel_rfl
theorem jfg:FS [(153,j2x),(197,j0R),(232,jag),(233,j65),(234,j64),(235,jbc)]:=(Za5 jc1 (Za5 j8H (Za5 jkj (Za5 jgi (Za5 jgh (Za5 jlx Zar))))))
def j2l (f:Int)(h:Int)(d:qF×List qR)(x:qG)(c:List qT)(b:qF×List qR)(g:qD->Res):Res:=bif (h==1) then Z86 (j0k c x.2.1 λr=>j1n b.2 r [[]] λi=>g (b.1,i)) (Z86 (j0k c x.2.1 λj=>j1n b.2 j [[]] λk=>g (b.1,k)) (j0k c x.2.1 λl=>j1n b.2 l [[]] λm=>g (b.1,m))) else bif (h==2) then j4C b.2 f (Z9J (f+1)) λn=>g (b.1,n) else bif inb f d.1.length then bif inb f d.2.length then j5j (nth (eS,[],[]) d.1 f) (nth [] d.2 f) x λp q=>bif inb f b.2.length then g (b.1,upd b.2 f p) else none else none else none
def j9r:Z1c Unit:=Nd 79 79 [.t 2 (pB 2),.t 3 (pB 3),.t 4 (pB 4),.t 6 (pB 6),.t 8 (pB 8),.I 9,.I 31] [(2,y26,[.S,.S]),(3,y13,[.S,.S]),(4,y26,[.O,.O]),(6,y23,[.O]),(8,y26,[.O,.O])] λf b g=>j2l f.1 f.2.1 b.1.2 b.2.1.2 b.2.2.2.1.2 b.2.2.2.2.1.2 (λd=>g .normal [(4,pB 4),(6,pB 6),(8,pB 8)] [(4,⟨y26,b.2.2.1.1,b.2.2.1.2,[.O,.O]⟩),(6,⟨y23,b.2.2.2.1.1,b.2.2.2.1.2,[.O]⟩),(8,⟨y26,b.2.2.2.2.1.1,d,[.O,.O]⟩)])
theorem jjI:CN 0 253 Tryz.f198 j9r:=nK jfg [] oN ([4,6,8],[4,6,8]) [] ([],[]) λ_ _ _=>by delta j2l j0R j65 j64 jbc;refine gz j0k λ_ b=>gz j1n λ_ d=>gz j4C λ_ f=>gz j5j λ_ g=> ?_;rewrite[<-b,<-d,<-f,<-g];kernel_rfl
def j5n (d:qF×List qR)(x:qG)(f:qD->Int->Res):Res:=j4g d.1 x λr g=>bif (g != 0) then f ([],[]) g else j12 d λh=>j0k d.1 x.2.1 λi=>j2l i x.1 d x r h λb=>f (r,b.2) 0
def jbf:Sig Unit:=sg [.borrow y26 true,.borrow y13 true] [true,false] [(y26,none),(y13,none)] [] λb g k=>j5n b.1 b.2.1 (λd f=>k [⟨y26,true,d,[.O,.O]⟩,wI f] [] [])
theorem jlB:SO 198 jbf:=fK (np:=0) jfg [j9r] (oI 253 0 @jjI oN) false Tryz.func198 λ_ _ _ _=>by delta j5n jag j2x j0R j9r;refine gz j4g λ_ b=>gz j12 λ_ d=>gz j0k λ_ f=>gz j2l λ_ g=> ?_;rewrite[<-b,<-d,<-f,<-g];kernel_rfl
theorem jbv:FS [(153,j2x),(197,j0R),(198,jbf),(199,jc9),(200,jca),(201,jc8)]:=(Za5 jc1 (Za5 j8H (Za5 jlB (Za5 jng (Za5 jnh (Za5 jnf Zar))))))
def j7c (f:Int)(s:qS)(b:Unit->Res)(d:Unit->Res):Res:=bif decide (f<0) then bif (s.1 != 5) then d () else bif (s.2.2.2.2.1 != 1) then d () else b () else b ()
def j6u:Z1c Unit:=Nd 108 108 [.t 2 (pB 2),.t 3 (pB 3),.t 4 (pB 4),.I 6] [(2,y26,[.S,.S]),(3,y17,[.S,.S,.S,.S]),(4,y26,[.O,.O])] λf b d=>j7c f.1 b.2.1.2 (λ_=>d .normal [(2,pB 2),(3,pB 3),(4,pB 4),(6,vI f.1)] [(2,⟨y26,b.1.1,b.1.2,[.S,.S]⟩),(3,⟨y17,b.2.1.1,b.2.1.2,[.S,.S,.S,.S]⟩),(4,⟨y26,b.2.2.1.1,b.2.2.1.2,[.O,.O]⟩)]) (λ_=>d .ret [(4,pB 4),(5,vI 4)] [(4,⟨y26,b.2.2.1.1,([],[]),[.O,.O]⟩)])
theorem jnH:CN 0 14 Tryz.f154 j6u:=nK jbv [] oN ([2,3,4,6],[2,3,4]) [] ([4,5],[4]) λ_ _ _=>by kernel_rfl
def j9P (f:Int)(d:qF×List qR)(b:Unit->Res):Res:=bif inb f d.1.length then Z86 (Z86 (Z86 (Z86 (bif inb f d.2.length then Z86 (Z86 (b ()) (Z86 (b ()) (b ()))) (Z86 (Z86 (b ()) (b ())) (b ())) else none) (Z86 (bif inb f d.2.length then Z86 (Z86 (b ()) (b ())) (b ()) else none) (bif inb f d.2.length then b () else none))) (Z86 (Z86 (bif inb f d.2.length then Z86 (Z86 (b ()) (b ())) (b ()) else none) (bif inb f d.2.length then b () else none)) (bif inb f d.2.length then b () else none))) (Z86 (Z86 (Z86 (bif inb f d.2.length then Z86 (Z86 (b ()) (Z86 (b ()) (b ()))) (Z86 (Z86 (b ()) (b ())) (b ())) else none) (Z86 (bif inb f d.2.length then Z86 (Z86 (b ()) (b ())) (b ()) else none) (bif inb f d.2.length then b () else none))) (Z86 (Z86 (bif inb f d.2.length then Z86 (Z86 (b ()) (b ())) (b ()) else none) (bif inb f d.2.length then b () else none)) (bif inb f d.2.length then b () else none))) (Z86 (Z86 (Z86 (bif inb f d.2.length then Z86 (Z86 (b ()) (b ())) (b ()) else none) (bif inb f d.2.length then b () else none)) (bif inb f d.2.length then b () else none)) (Z86 (Z86 (Z86 (bif inb f d.2.length then Z86 (Z86 (b ()) (b ())) (b ()) else none) (bif inb f d.2.length then b () else none)) (bif inb f d.2.length then b () else none)) (bif inb f d.2.length then b () else none))))) (Z86 (Z86 (Z86 (Z86 (bif inb f d.2.length then Z86 (Z86 (b ()) (Z86 (b ()) (b ()))) (Z86 (Z86 (b ()) (b ())) (b ())) else none) (Z86 (bif inb f d.2.length then Z86 (Z86 (b ()) (b ())) (b ()) else none) (bif inb f d.2.length then b () else none))) (Z86 (Z86 (bif inb f d.2.length then Z86 (Z86 (b ()) (b ())) (b ()) else none) (bif inb f d.2.length then b () else none)) (bif inb f d.2.length then b () else none))) (Z86 (Z86 (Z86 (bif inb f d.2.length then Z86 (Z86 (b ()) (b ())) (b ()) else none) (bif inb f d.2.length then b () else none)) (bif inb f d.2.length then b () else none)) (bif inb f d.2.length then b () else none))) (Z86 (Z86 (Z86 (Z86 (bif inb f d.2.length then Z86 (Z86 (b ()) (b ())) (b ()) else none) (bif inb f d.2.length then b () else none)) (bif inb f d.2.length then b () else none)) (Z86 (Z86 (Z86 (bif inb f d.2.length then Z86 (Z86 (b ()) (b ())) (b ()) else none) (bif inb f d.2.length then b () else none)) (bif inb f d.2.length then b () else none)) (bif inb f d.2.length then b () else none))) (Z86 (Z86 (Z86 (Z86 (bif inb f d.2.length then Z86 (Z86 (b ()) (b ())) (b ()) else none) (bif inb f d.2.length then b () else none)) (bif inb f d.2.length then b () else none)) (bif inb f d.2.length then b () else none)) (bif inb f d.2.length then b () else none)))) else none
def j8R:Z1c Unit:=Nd 108 108 [.t 2 (pB 2),.t 3 (pB 3),.t 4 (pB 4),.I 6] [(2,y26,[.S,.S]),(3,y17,[.S,.S,.S,.S]),(4,y26,[.O,.O])] λd b f=>j9P d.1 b.1.2 (λ_=>f .normal [(2,pB 2),(3,pB 3),(4,pB 4),(6,vI d.1),(9,pB 9),(10,v1 y24 (nth [] b.1.2.2 d.1) .S)] [(2,⟨y26,b.1.1,b.1.2,[.S,.S]⟩),(3,⟨y17,b.2.1.1,b.2.1.2,[.S,.S,.S,.S]⟩),(4,⟨y26,b.2.2.1.1,b.2.2.1.2,[.O,.O]⟩),(9,⟨y22,false,nth (eS,[],[]) b.1.2.1 d.1,[.S,.S]⟩)])
theorem jnI:CN 0 62 Tryz.f154 j8R:=nK jbv [j6u] oN ([2,3,4,6,9,10],[2,3,4,9]) [] ([],[]) λ_ _ _=>by kernel_rfl
def j5o (l:List qW)(code:Int)(b:Int)(s:qS)(t:qB×qE×qL)(d:qR->Int->Res):Res:=bif (b==1) then j6y t l s.2.2.2.1 λr f=>d r f else bif (b==2) then j6z t l s.2.2.1 s.2.2.2.1 λg h=>d g h else bif (b==3) then j6x t l s.2.2.1 λi j=>d i j else d [] code
def jco:Z1c Unit:=Nd 108 108 [.t 2 (pB 2),.t 3 (pB 3),.t 4 (pB 4),.I 6,.t 9 (pB 9),.R 10 y24 .S,.I 11,.I 61] [(2,y26,[.S,.S]),(3,y17,[.S,.S,.S,.S]),(4,y26,[.O,.O]),(9,y22,[.S,.S])] λf d g=>j5o f.2.1 f.2.2.1 f.2.2.2.1 d.2.1.2 d.2.2.2.1.2 (λh b=>g .normal [(2,pB 2),(4,pB 4),(6,vI f.1),(10,v1 y24 h .O),(11,vI b)] [(2,⟨y26,d.1.1,d.1.2,[.S,.S]⟩),(4,⟨y26,d.2.2.1.1,d.2.2.1.2,[.O,.O]⟩)])
theorem jnJ:CN 0 509 Tryz.f154 jco:=nK jbv [j6u,j8R] oN ([2,4,6,10,11],[2,4]) [] ([],[]) λ_ _ _=>by delta j5o jc9 jca jc8;refine gz j6y λ_ b=>gz j6z λ_ d=>gz j6x λ_ f=> ?_;rewrite[<-b,<-d,<-f];kernel_rfl
def j9y (d:qF×List qR)(s:qS)(b:qD->Int->Res):Res:=j0k d.1 s.2.1 λr=>j7c r s (λ_=>bif (s.1==5) then j5n d s.2.2.2.2 λh g=>bif (g != 0) then b ([],[]) (Z9J (10+g)) else b h 0 else j9P r d λ_=>j5o (nth [] d.2 r) 0 s.1 s (nth (eS,[],[]) d.1 r) λl code=>bif (code != 0) then b ([],[]) (Z9J (10+code)) else j12 d λf=>bif inb r f.2.length then b (f.1,upd f.2 r l) 0 else none) (λ_=>b ([],[]) 4)
def jf7:Sig Unit:=sg [.borrow y26 true,.borrow y17 true] [true,false] [(y26,none),(y17,none)] [] λb g k=>j9y b.1 b.2.1 (λd f=>k [⟨y26,true,d,[.O,.O]⟩,wI f] [] [])
theorem jpQ:SO 154 jf7:=fK (np:=0) jbv [j6u,j8R,jco] (oI 14 0 @jnH (oI 62 1 @jnI (oI 509 2 @jnJ oN))) false Tryz.func154 λ_ _ _ _=>by delta j9y j0R j6u jbf j8R jco j2x;refine gz j0k λ_ b=>gz j7c λ_ d=>gz j5n λ_ f=>gz j9P λ_ g=>gz j5o λ_ h=>gz j12 λ_ i=> ?_;rewrite[<-b,<-d,<-f,<-g,<-h,<-i];kernel_rfl
theorem jff:FS [(67,jbJ),(128,j8N),(153,j2x),(154,jf7)]:=(Za5 jj4 (Za5 jgP (Za5 jc1 (Za5 jpQ Zar))))
def j1B (d:List qS)(g:Int)(b:Int)(f:qF×List qR)(rec:Int->qD->Res)(j:qD->Res)(h:Int->Int->Res):Res:=bif decide (b<g) then bif inb b d.length then j38 (nth (0,eS,[],[],0,eS,[],[],eS,eS) d b) λr=>bif !r then h 1 b else j9y f (nth (0,eS,[],[],0,eS,[],[],eS,eS) d b) λk i=>bif (i != 0) then h i b else rec (Z9J (b+1)) k else none else j f
def j2z (d:List qS)(f:Int):(Int×qD)->(Int×qD->Res)->((qD->Res)×(Int->Int->Res))->Res:=λv rec q=>j1B d f v.1 v.2 (λg b=>rec (g,b)) q.1 q.2
def j9K (d:List qS)(f:Int)(n:Nat)(g:Int)(b:qF×List qR)(h:qD->Res)(i:Int->Int->Res):Res:=Z1e (j2z d f) n (g,b) (h,i)
def j9o:Z1c Unit:=NdL 44 44 [.t 4 (pB 4),.t 7 (pB 7),.R 18 y43 .S,.I 19,.I 20] [(4,y26,[.O,.O]),(7,y26,[.O,.O])] (λd b=>(d.2.2.1,b.2.1.2)) (λd v=>(d.1,d.2.1,v.1,())) (λb v=>((b.1.1,b.1.2),(b.2.1.1,v.2),())) (λd b=>j2z d.1 d.2.1) λd b g=>((λf=>g (.exit 0) [(4,pB 4),(7,pB 7)] [(4,⟨y26,b.1.1,b.1.2,[.O,.O]⟩),(7,⟨y26,b.2.1.1,f,[.O,.O]⟩)]),(λh i=>g .ret [(4,pB 4),(5,vI h),(6,vI i)] [(4,⟨y26,b.1.1,([],[]),[.O,.O]⟩)]))
theorem jjA:CN 0 122 Tryz.f105 j9o:=lK jff [] oN ([],[]) [(0,[4,7],[4,7])] ([4,5,6],[4]) λ_ _ _ _ _=>by delta j2z j1B j8N jf7;refine gz j38 λ_ b=>gz j9y λ_ d=> ?_;rewrite[<-b,<-d];kernel_rfl
def j26 (d:qF×List qR)(l:List qS)(b:qD->Int->Int->Res):Res:=j5W d λr=>bif !r then b ([],[]) 1 0 else j12 d λg=>j9K l (nI l.length) Z1b 0 g (λf=>b f 0 0) (λt h=>b ([],[]) t h)
def jbb:Sig Unit:=sg [.borrow y26 true,.borrow y43 false] [true,false,false] [(y26,none),(y43,none)] [] λb h k=>j26 b.1 b.2.1 (λd f g=>k [⟨y26,true,d,[.O,.O]⟩,wI f,wI g] [] [])
theorem jlw:SO 105 jbb:=fK (np:=0) jff [j9o] (oI 122 0 @jjA oN) false Tryz.func105 λ_ _ _ _=>by delta j26 jbJ j2x j9o j9K;refine gz j5W λ_ b=>gz j12 λ_ d=>gz j2z λ_ f=> ?_;rewrite[<-b,<-d,<-f];kernel_rfl
end
end Go.PI.G
namespace Go.PI.G
noncomputable section
open Go Go.PI Go.Proofs
open Go.Code (pl pr)
def j5U (s:qS)(b:Bool->Res):Res:=bif (s.1==0) then bif sEq s.2.1 eS then bif ((nI s.2.2.1.length)==0) then bif ((nI s.2.2.2.1.length)==0) then j1b s.2.2.2.2 λr=>b r else b false else b false else b false else b false
def j9f:Sig Unit:=sg [.look y17 true] [false] [(y17,none)] [] λd f k=>j5U d.1 (λb=>k [wB b] [] [])
theorem jjq:SO 140 j9f:=fK (np:=0) (Za5 je8 Zar) [] oN false Tryz.func140 λ_ _ _ _=>by kernel_rfl
theorem jhD:FS [(119,j6r),(140,j9f)]:=(Za5 jh5 (Za5 jjq Zar))
def j8Q (r:Int×Int×qS)(b:Bool->Res):Res:=bif decide (r.1<1) then b true else bif decide (r.1>4) then b true else bif decide (r.2.1<1) then b true else b (decide (r.2.1>1000000))
def jbs:Z1c Unit:=Nd 30 30 [.t 1 (pB 1)] [(1,y19,[.S,.S,.S,.S])] λg d f=>j8Q d.1.2 (λb=>f .normal [(1,pB 1),(20,vB b)] [(1,⟨y19,d.1.1,d.1.2,[.S,.S,.S,.S]⟩)])
theorem jmk:CN 0 12 Tryz.f92 jbs:=nK jhD [] oN ([1,20],[1]) [] ([],[]) λ_ _ _=>by kernel_rfl
def j80 (r:Int×Int×qS)(b:Bool->Res):Res:=j8Q r λt=>bif t then b false else bif (r.1==2) then j3a r.2.2 λd=>b d else j5U r.2.2 λf=>b f
def jdC:Sig Unit:=sg [.look y19 true] [false] [(y19,none)] [] λd f k=>j80 d.1 (λb=>k [wB b] [] [])
theorem joI:SO 92 jdC:=fK (np:=0) jhD [jbs] (oI 12 0 @jmk oN) false Tryz.func92 λ_ _ _ _=>by delta j80 jbs j6r j9f;refine gz j8Q λ_ b=>gz j3a λ_ d=>gz j5U λ_ f=> ?_;rewrite[<-b,<-d,<-f];kernel_rfl
def j5P (f:Int)(d:List qP)(i:Int)(b:Int)(rec:Int->Res)(g:Unit->Res)(h:Unit->Res):Res:=bif decide (b<i) then bif inb b d.length then bif ((nth (0,0,0,eS,[],[],0,eS,[],[],eS,eS) d b).1==1) then bif ((nth (0,0,0,eS,[],[],0,eS,[],[],eS,eS) d b).2.1==f) then h () else rec (Z9J (b+1)) else rec (Z9J (b+1)) else none else g ()
def jbk (b:Int)(d:List qP)(f:Int):Int->(Int->Res)->((Unit->Res)×(Unit->Res))->Res:=λv rec q=>j5P b d f v (λg=>rec (g)) q.1 q.2
def jiL (b:Int)(g:List qP)(h:Int)(n:Nat)(i:Int)(d:Unit->Res)(f:Unit->Res):Res:=Z1e (jbk b g h) n (i) (d,f)
def jhv:Z1c Unit:=NdL 23 23 [.I 1,.R 7 y20 .S,.I 8,.I 9] [] (λb d=>(b.2.2.2.1)) (λb v=>(b.1,b.2.1,b.2.2.1,v,())) (λd v=>()) (λb d=>jbk b.1 b.2.1 b.2.2.1) λb d f=>((λ_=>f (.exit 0) [] []),(λ_=>f .ret [(4,vB true)] []))
theorem jnS:CN 0 26 Tryz.f93 jhv:=lK Zar [] oN ([],[]) [(0,[],[])] ([4],[]) λ_ _ _ _ _=>by kernel_rfl
def jbV (l:List qP)(b:Int)(d:Bool->Res):Res:=jiL b l (nI l.length) Z1b 0 (λ_=>d false) (λ_=>d true)
def jfc:Sig Unit:=sg [.look y20 false,.look tI false] [false] [(y20,none),(tI,none)] [] λb f k=>jbV b.1 b.2.1 (λd=>k [wB d] [] [])
theorem jpX:SO 93 jfc:=fK (np:=0) Zar [jhv] (oI 26 0 @jnS oN) false Tryz.func93 λ_ _ _ _=>by kernel_rfl
def j40 (h:Int)(d:List Int)(i:Int)(b:Int)(rec:Int->Res)(f:Unit->Res)(g:Unit->Res):Res:=bif decide (b<i) then bif inb b d.length then bif ((nth 0 d b)==h) then g () else rec (Z9J (b+1)) else none else f ()
def j9m (b:Int)(d:List Int)(f:Int):Int->(Int->Res)->((Unit->Res)×(Unit->Res))->Res:=λv rec q=>j40 b d f v (λg=>rec (g)) q.1 q.2
def jg6 (f:Int)(g:List Int)(h:Int)(n:Nat)(i:Int)(b:Unit->Res)(d:Unit->Res):Res:=Z1e (j9m f g h) n (i) (b,d)
def jeU:Z1c Unit:=NdL 17 17 [.I 1,.R 7 y31 .S,.I 8,.I 9] [] (λb d=>(b.2.2.2.1)) (λb v=>(b.1,b.2.1,b.2.2.1,v,())) (λd v=>()) (λb d=>j9m b.1 b.2.1 b.2.2.1) λb d f=>((λ_=>f (.exit 0) [] []),(λ_=>f .ret [(4,vB true)] []))
theorem jlf:CN 0 26 Tryz.f94 jeU:=lK Zar [] oN ([],[]) [(0,[],[])] ([4],[]) λ_ _ _ _ _=>by kernel_rfl
def j4X (l:List Int)(d:Int)(b:Bool->Res):Res:=jg6 d l (nI l.length) Z1b 0 (λ_=>b false) (λ_=>b true)
def j8P:Sig Unit:=sg [.look y31 false,.look tI false] [false] [(y31,none),(tI,none)] [] λb f k=>j4X b.1 b.2.1 (λd=>k [wB d] [] [])
theorem jh7:SO 94 j8P:=fK (np:=0) Zar [jeU] (oI 26 0 @jlf oN) false Tryz.func94 λ_ _ _ _=>by kernel_rfl
def j3Z (i:Int)(g:List Int)(f:Int)(d:List Int)(b:Int)(rec:(List Int)->Int->Res)(h:(List Int)->Res):Res:=bif decide (b<f) then bif inb b g.length then bif ((nth 0 g b) != i) then bif lim (d.length+1) then rec (d++[nth 0 g b]) (Z9J (b+1)) else none else rec d (Z9J (b+1)) else none else h d
def j9l (g:Int)(h:List Int)(d:Int):((List Int)×Int)->((List Int)×Int->Res)->(((List Int)->Res))->Res:=λv rec q=>j3Z g h d v.1 v.2 (λb f=>rec (b,f)) q
def jg5 (h:Int)(i:List Int)(d:Int)(n:Nat)(b:List Int)(f:Int)(g:(List Int)->Res):Res:=Z1e (j9l h i d) n (b,f) (g)
def jeT:Z1c Unit:=NdL 24 24 [.I 1,.R 5 y31 .O,.R 9 y31 .S,.I 10,.I 11] [] (λb f=>(b.2.1,b.2.2.2.2.1)) (λb v=>(b.1,v.1,b.2.2.1,b.2.2.2.1,v.2,())) (λf v=>()) (λb f=>j9l b.1 b.2.2.1 b.2.2.2.1) λb f g=>((λd=>g (.exit 0) [(5,v1 y31 d .O)] []))
theorem jle:CN 0 58 Tryz.f141 jeT:=lK Zar [] oN ([],[]) [(0,[5],[])] ([],[]) λ_ _ _ _ _=>by kernel_rfl
def j6H (l:List Int)(f:Int)(d:(List Int)->Res):Res:=jg5 f l (nI l.length) Z1b [] 0 λb=>d b
def jcg:Sig Unit:=sg [.borrow y31 false,.borrow tI false] [false] [(y31,none),(tI,none)] [] λb f k=>j6H b.1 b.2.1 (λd=>k [w1 y31 d .O] [] [])
theorem jnA:SO 141 jcg:=fK (np:=0) Zar [jeT] (oI 58 0 @jle oN) false Tryz.func141 λ_ _ _ _=>by kernel_rfl
theorem jeV:FS [(94,j8P),(141,jcg)]:=(Za5 jh7 (Za5 jnA Zar))
def jar (b:List Int)(r:Int×Int×qS)(d:(List Int)->Res):Res:=bif (r.1==1) then j4X b r.2.1 λf=>bif !f then bif lim (b.length+1) then d (b++[r.2.1]) else none else d b else d b
def j8S:Z1c Unit:=Nd 42 42 [.R 3 y31 .O,.t 5 (pB 5),.R 7 y20 .S,.I 8,.I 9] [(5,y19,[.S,.S,.S,.S])] λd f g=>jar d.1 f.1.2 (λb=>g .normal [(3,v1 y31 b .O),(5,pB 5),(7,v1 y20 d.2.1 .S),(8,vI d.2.2.1),(9,vI d.2.2.2.1)] [(5,⟨y19,f.1.1,f.1.2,[.S,.S,.S,.S]⟩)])
theorem jnR:CN 0 7474 Tryz.f95 j8S:=nK jeV [] oN ([3,5,7,8,9],[5]) [] ([],[]) λ_ _ _=>by kernel_rfl
def j3i (f:List qP)(j:Int)(g:List Int)(d:Int)(rec:(List Int)->Int->Res)(h:(List Int)->Res):Res:=bif decide (d<j) then bif inb d f.length then jar g (nth (0,0,0,eS,[],[],0,eS,[],[],eS,eS) f d) λb=>bif ((nth (0,0,0,eS,[],[],0,eS,[],[],eS,eS) f d).1==3) then j6H b (nth (0,0,0,eS,[],[],0,eS,[],[],eS,eS) f d).2.1 λr=>rec r (Z9J (d+1)) else bif ((nth (0,0,0,eS,[],[],0,eS,[],[],eS,eS) f d).1==4) then j6H b (nth (0,0,0,eS,[],[],0,eS,[],[],eS,eS) f d).2.1 λi=>rec i (Z9J (d+1)) else rec b (Z9J (d+1)) else none else h g
def j7Z (d:List qP)(f:Int):((List Int)×Int)->((List Int)×Int->Res)->(((List Int)->Res))->Res:=λv rec q=>j3i d f v.1 v.2 (λb g=>rec (b,g)) q
def jiK (f:List qP)(g:Int)(n:Nat)(b:List Int)(h:Int)(d:(List Int)->Res):Res:=Z1e (j7Z f g) n (b,h) (d)
def jhu:Z1c Unit:=NdL 42 42 [.R 3 y31 .O,.R 7 y20 .S,.I 8,.I 9] [] (λb f=>(b.1,b.2.2.2.1)) (λb v=>(v.1,b.2.1,b.2.2.1,v.2,())) (λf v=>()) (λb f=>j7Z b.2.1 b.2.2.1) λb f g=>((λd=>g (.exit 0) [(3,v1 y31 d .O)] []))
theorem jnQ:CN 0 58 Tryz.f95 jhu:=lK jeV [j8S] (oI 114 0 @jnR oN) ([],[]) [(0,[3],[])] ([],[]) λ_ _ _ _ _=>by delta j7Z j3i j8S jcg;refine gz jar λ_ b=>gz j6H λ_ d=> ?_;rewrite[<-b,<-d];kernel_rfl
def j9C (l:List qP)(d:(List Int)->Res):Res:=jiK l (nI l.length) Z1b [] 0 λb=>d b
def jfb:Sig Unit:=sg [.borrow y20 false] [false] [(y20,none)] [] λd f k=>j9C d.1 (λb=>k [w1 y31 b .O] [] [])
theorem jpW:SO 95 jfb:=fK (np:=0) jeV [j8S,jhu] (oI 58 1 @jnQ oN) false Tryz.func95 λ_ _ _ _=>by kernel_rfl
def jaz (s:qS)(b:qS->Res):Res:=bif lim (0+s.2.2.1.length) then j0v s.2.2.2.1 λr=>bif lim (0+s.2.2.2.2.2.2.1.length) then bif lim (0+s.2.2.2.2.2.2.2.1.length) then b (s.1,s.2.1,s.2.2.1,r,s.2.2.2.2.1,s.2.2.2.2.2.1,s.2.2.2.2.2.2.1,s.2.2.2.2.2.2.2.1,s.2.2.2.2.2.2.2.2) else none else none else none
def jmF:Sig Unit:=sg [.borrow y17 true] [true] [(y17,none)] [] λd f k=>jaz d.1 (λb=>k [⟨y17,true,b,[.O,.O,.O,.O]⟩] [] [])
theorem jfD:SO 122 jmF:=fK (np:=0) (Za5 j4f Zar) [] oN false Tryz.func122 λ_ _ _ _=>by kernel_rfl
def j2T (h:Int)(f:List qP)(g:Int)(d:List qS)(b:Int)(rec:qU->Int->Res)(i:qU->Res):Res:=bif decide (b<g) then bif inb b f.length then bif ((nth (0,0,0,eS,[],[],0,eS,[],[],eS,eS) f b).1==2) then bif ((nth (0,0,0,eS,[],[],0,eS,[],[],eS,eS) f b).2.1==h) then jaz (nth (0,0,0,eS,[],[],0,eS,[],[],eS,eS) f b).2.2 λr=>bif lim (d.length+1) then rec (d++[r]) (Z9J (b+1)) else none else rec d (Z9J (b+1)) else rec d (Z9J (b+1)) else none else i d
def j8i (g:Int)(h:List qP)(d:Int):(qU×Int)->(qU×Int->Res)->((qU->Res))->Res:=λv rec q=>j2T g h d v.1 v.2 (λb f=>rec (b,f)) q
def jev (g:Int)(i:List qP)(d:Int)(n:Nat)(b:List qS)(f:Int)(h:qU->Res):Res:=Z1e (j8i g i d) n (b,f) (h)
def jdV:Z1c Unit:=NdL 32 32 [.I 1,.R 5 y43 .O,.R 9 y20 .S,.I 10,.I 11] [] (λb f=>(b.2.1,b.2.2.2.2.1)) (λb v=>(b.1,v.1,b.2.2.1,b.2.2.2.1,v.2,())) (λf v=>()) (λb f=>j8i b.1 b.2.2.1 b.2.2.2.1) λb f g=>((λd=>g (.exit 0) [(5,v1 y43 d .O)] []))
theorem jk1:CN 0 58 Tryz.f97 jdV:=lK (Za5 jfD Zar) [] oN ([],[]) [(0,[5],[])] ([],[]) λ_ _ _ _ _=>by kernel_rfl
def j5O (l:List qP)(d:Int)(f:qU->Res):Res:=jev d l (nI l.length) Z1b [] 0 λb=>f b
def jbh:Sig Unit:=sg [.borrow y20 false,.borrow tI false] [false] [(y20,none),(tI,none)] [] λb f k=>j5O b.1 b.2.1 (λd=>k [w1 y43 d .O] [] [])
theorem jlR:SO 97 jbh:=fK (np:=0) (Za5 jfD Zar) [jdV] (oI 58 0 @jk1 oN) false Tryz.func97 λ_ _ _ _=>by kernel_rfl
theorem j7E:FS [(92,jdC),(93,jfc),(94,j8P),(95,jfb),(96,jbg),(97,jbh)]:=(Za5 joI (Za5 jpX (Za5 jh7 (Za5 jpW (Za5 jlP (Za5 jlR Zar))))))
def j2r (l:List qP)(i:Int)(r:Int×Int×qS)(b:Bool->Res):Res:=j80 r λd=>bif !d then b true else bif (r.1==1) then bif Z8d 0 i l.length then jbV (sub l 0 i) r.2.1 λf=>bif f then b true else bif (r.1 != 1) then bif Z8d 0 i l.length then j9C (sub l 0 i) λg=>j4X g r.2.1 λh=>b (!h) else none else b false else none else bif (r.1 != 1) then bif Z8d 0 i l.length then j9C (sub l 0 i) λj=>j4X j r.2.1 λk=>b (!k) else none else b false
def j45:Z1c Unit:=Nd 74 74 [.R 0 y20 .S,.t 2 (pB 2),.t 4 (pB 4),.I 5,.t 6 (pB 6),.R 11 y20 .S,.I 12,.I 13] [(2,y26,[.O,.O]),(4,y26,[.N,.N]),(6,y19,[.S,.S,.S,.S])] λb d g=>j2r b.1 b.2.1 d.2.2.1.2 (λf=>g .normal [(0,v1 y20 b.1 .S),(2,pB 2),(4,pB 4),(5,vI b.2.1),(6,pB 6),(11,v1 y20 b.2.2.1 .S),(12,vI b.2.2.2.1),(13,vI b.2.2.2.2.1),(48,vB f)] [(2,⟨y26,d.1.1,d.1.2,[.O,.O]⟩),(4,⟨y26,d.2.1.1,d.2.1.2,[.N,.N]⟩),(6,⟨y19,d.2.2.1.1,d.2.2.1.2,[.S,.S,.S,.S]⟩)])
theorem jka:CN 0 14948 Tryz.f59 j45:=nK j7E [] oN ([0,2,4,5,6,11,12,13,48],[2,4,6]) [] ([],[]) λ_ _ _=>by delta j2r jdC jfc jfb j8P;refine gz j80 λ_ b=>gz jbV λ_ d=>gz j9C λ_ f=>gz j4X λ_ g=> ?_;rewrite[<-b,<-d,<-f,<-g];kernel_rfl
def j2s (l:List qP)(i:Int)(d:qF×List qR)(r:Int×Int×qS)(b:Int->qD->Res):Res:=bif Z8d 0 i l.length then Z86 (j5O (sub l 0 i) r.2.1 λn=>Z86 (j2f d n λg h w=>Z86 (Z86 (b h g) (Z86 (b h g) (b h g))) (Z86 (Z86 (b h g) (Z86 (b h g) (b h g))) (Z86 (Z86 (b h g) (b h g)) (Z86 (Z86 (b h g) (b h g)) (b h g))))) (j2f d n λj k y=>Z86 (Z86 (b k j) (b k j)) (Z86 (Z86 (b k j) (b k j)) (b k j)))) (j5O (sub l 0 i) r.2.1 λq=>j2f d q λm f p=>Z86 (Z86 (b f m) (b f m)) (Z86 (Z86 (b f m) (b f m)) (b f m))) else none
def j6l:Z1c Unit:=Nd 74 74 [.R 0 y20 .S,.t 2 (pB 2),.t 4 (pB 4),.I 5,.t 6 (pB 6),.R 11 y20 .S,.I 12,.I 13] [(2,y26,[.O,.O]),(4,y26,[.N,.N]),(6,y19,[.S,.S,.S,.S])] λb d f=>j2s b.1 b.2.1 d.2.1.2 d.2.2.1.2 (λcode next=>f .normal [(0,v1 y20 b.1 .S),(2,pB 2),(4,pB 4),(7,pB 7),(8,vI code),(11,v1 y20 b.2.2.1 .S),(12,vI b.2.2.2.1),(13,vI b.2.2.2.2.1)] [(2,⟨y26,d.1.1,d.1.2,[.O,.O]⟩),(4,⟨y26,d.2.1.1,d.2.1.2,[.N,.N]⟩),(7,⟨y26,false,next,[.N,.N]⟩)])
theorem jkb:CN 0 59804 Tryz.f59 j6l:=nK j7E [j45] oN ([0,2,4,7,8,11,12,13],[2,4,7]) [] ([],[]) λ_ _ _=>by delta j2s jbh jbg;refine gz j5O λ_ b=>gz j2f λ_ d=> ?_;rewrite[<-b,<-d];kernel_rfl
def j1G (l:List qP)(f:List qP)(g:Int)(b:Int)(d:qF×List qR)(rec:Int->qD->Res)(i:qD->Res)(h:Unit->Res):Res:=bif decide (b<g) then bif inb b f.length then j2r l b (nth (0,0,0,eS,[],[],0,eS,[],[],eS,eS) f b) λt=>bif t then h () else bif ((nth (0,0,0,eS,[],[],0,eS,[],[],eS,eS) f b).1==3) then j2s l b d (nth (0,0,0,eS,[],[],0,eS,[],[],eS,eS) f b) λcode next=>bif (code != 0) then h () else rec (Z9J (b+1)) next else rec (Z9J (b+1)) d else none else i d
def j5b (l:List qP)(b:List qP)(f:Int):(Int×qD)->(Int×qD->Res)->((qD->Res)×(Unit->Res))->Res:=λv rec q=>j1G l b f v.1 v.2 (λg d=>rec (g,d)) q.1 q.2
def jay (l:List qP)(b:List qP)(f:Int)(n:Nat)(g:Int)(d:qF×List qR)(h:qD->Res)(i:Unit->Res):Res:=Z1e (j5b l b f) n (g,d) (h,i)
def jdI:Z1c Unit:=λσ k=>rdN σ 74<|rd1 σ 0 y20 .S λl=>rdT σ 2 (pB 2)<|rdT σ 4 (pB 4)<|rd1 σ 11 y20 .S λb=>rdI σ 12 λf=>rdI σ 13 λg=>rdB σ 2 y26 [.O,.O] λa j=>rdB σ 4 y26 [.N,.N] λh d=>jay l b f Z1b g d (λi=>k (.exit 0) (mkS 74 74 [(0,v1 y20 l .S),(2,pB 2),(4,pB 4)] [(2,⟨y26,a,j,[.O,.O]⟩),(4,⟨y26,h,i,[.N,.N]⟩)])) (λ_=>k .ret (mkS 74 74 [(2,pB 2),(3,vB false)] [(2,⟨y26,a,([],[]),[.O,.O]⟩)]))
def jdZ:Z1c Unit:=λσ k=>jdI (σ.wk [] [(4,[.N,.N])]) k
theorem jk9:CN 0 58 Tryz.f59 jdZ:=λq=>ZaI [] [(4,[.N,.N])] (joh follows j2t j7E q [j45,j6l] (oI 228 0 @jka (oI 924 1 @jkb oN)) [0,2,4,11,12,13] [2,4] ([],[]) [(0,[0,2,4],[2,4])] ([2,3],[2]) (y:=jdI) λσ k _ h=>rN h λG h=>rV h λl D h=>rT h λE h=>rT h λF h=>rV h λb g h=>rV h λf i h=>rV h λr j h=>rB h λa z n h=>rB h λw d p h=>⟨_,ZaL (m:=74) G (sC D (sC E (sC F (sC g (sC i (sC j sN)))))) (bC n (bC p bN)),.trans (Z9t (λv:Int×qD=>(mkS 74 74 [(0,v1 y20 l .S),(2,pB 2),(4,pB 4),(11,v1 y20 b .S),(12,vI f),(13,vI v.1)] [(2,⟨y26,a,z,[.O,.O]⟩),(4,⟨y26,w,v.2,[.N,.N]⟩)])) (j5b l b f) (λ(k:Z82 Unit)=>(((λA=>k (.exit 0) (mkS 74 74 [(0,v1 y20 l .S),(2,pB 2),(4,pB 4)] [(2,⟨y26,a,z,[.O,.O]⟩),(4,⟨y26,w,A,[.N,.N]⟩)])),(λ_=>k .ret (mkS 74 74 [(2,pB 2),(3,vB false)] [(2,⟨y26,a,([],[]),[.O,.O]⟩)]))):(qD->Res)×(Unit->Res))) (λv rec k=>by delta j5b j1G j45 j6l;refine gz j2r λ_ B=>gz j2s λ_ C=> ?_;rewrite[<-B,<-C];kernel_rfl) Z1b (r,d) k) h⟩)
def jax (l:List qP)(b:qD->Bool->Res):Res:=jay l l (nI l.length) Z1b 0 ([],[]) (λd=>b d (decide ((nI l.length)<=400))) (λ_=>b ([],[]) false)
def jmE:Sig Unit:=sg [.borrow y20 false] [true,false] [(y20,none)] [] λf g k=>jax f.1 (λb d=>k [⟨y26,true,b,[.S,.S]⟩,wB d] [] [])
theorem jlU:SO 59 jmE:=fK (np:=0) j7E [j45,j6l,jdZ] (oI 58 2 @jk9 oN) true Tryz.func59 λ_ _ _ _=>by kernel_rfl
def jaq (l:List qP)(b:Bool->Res):Res:=bif decide ((nI l.length)>400) then b false else jax l λr d=>b d
def jiE:Sig Unit:=sg [.look y20 false] [false] [(y20,none)] [] λd f k=>jaq d.1 (λb=>k [wB b] [] [])
theorem joF:SO 26 jiE:=fK (np:=0) (Za5 jlU Zar) [] oN false Tryz.func26 λ_ _ _ _=>by kernel_rfl
def j6p (s:qS)(b:Bool->Res):Res:=bif (s.1==0) then bif sEq s.2.1 eS then bif ((nI s.2.2.1.length)==0) then bif ((nI s.2.2.2.1.length)==0) then j0f s.2.2.2.2 (0,eS,[],[],eS,eS) λr=>b r else b false else b false else b false else b false
def jes:Sig Unit:=sg [.look y17 true] [false] [(y17,none)] [] λd f k=>j6p d.1 (λb=>k [wB b] [] [])
theorem jkk:SO 151 jes:=fK (np:=0) (Za5 j9F Zar) [] oN false Tryz.func151 λ_ _ _ _=>by kernel_rfl
def j7I (r:Int×Int×qS)(b:Bool->Res):Res:=j0a r.1 1 4 λd=>bif !d then b false else j0a r.2.1 1 1000000 λf=>bif !f then b false else bif (r.1==2) then j38 r.2.2 λg=>b g else j6p r.2.2 λh=>b h
def jdz:Sig Unit:=sg [.look y19 true] [false] [(y19,none)] [] λd f k=>j7I d.1 (λb=>k [wB b] [] [])
theorem jon:SO 103 jdz:=fK (np:=0) (Za5 j1H (Za5 jgP (Za5 jkk Zar))) [] oN false Tryz.func103 λ_ _ _ _=>by delta j7I j17 j8N jes;refine gz j0a λ_ b=>gz j38 λ_ d=>gz j6p λ_ f=> ?_;rewrite[<-b,<-d,<-f];kernel_rfl
def j2D (h:Int)(f:List qP)(g:Int)(d:List qS)(b:Int)(rec:qU->Int->Res)(i:qU->Res):Res:=bif decide (b<g) then bif inb b f.length then bif ((nth (0,0,0,eS,[],[],0,eS,[],[],eS,eS) f b).1==2) then bif ((nth (0,0,0,eS,[],[],0,eS,[],[],eS,eS) f b).2.1==h) then j6o (nth (0,0,0,eS,[],[],0,eS,[],[],eS,eS) f b).2.2 λr=>bif lim (d.length+1) then rec (d++[r]) (Z9J (b+1)) else none else rec d (Z9J (b+1)) else rec d (Z9J (b+1)) else none else i d
def j88 (g:Int)(h:List qP)(d:Int):(qU×Int)->(qU×Int->Res)->((qU->Res))->Res:=λv rec q=>j2D g h d v.1 v.2 (λb f=>rec (b,f)) q
def jeg (g:Int)(i:List qP)(d:Int)(n:Nat)(b:List qS)(f:Int)(h:qU->Res):Res:=Z1e (j88 g i d) n (b,f) (h)
def jdK:Z1c Unit:=NdL 32 32 [.I 1,.R 5 y43 .O,.R 9 y20 .S,.I 10,.I 11] [] (λb f=>(b.2.1,b.2.2.2.2.1)) (λb v=>(b.1,v.1,b.2.2.1,b.2.2.2.1,v.2,())) (λf v=>()) (λb f=>j88 b.1 b.2.2.1 b.2.2.2.1) λb f g=>((λd=>g (.exit 0) [(5,v1 y43 d .O)] []))
theorem jjF:CN 0 58 Tryz.f106 jdK:=lK (Za5 je6 Zar) [] oN ([],[]) [(0,[5],[])] ([],[]) λ_ _ _ _ _=>by kernel_rfl
def j5l (l:List qP)(d:Int)(f:qU->Res):Res:=jeg d l (nI l.length) Z1b [] 0 λb=>f b
def jbd:Sig Unit:=sg [.borrow y20 false,.borrow tI false] [false] [(y20,none),(tI,none)] [] λb f k=>j5l b.1 b.2.1 (λd=>k [w1 y43 d .O] [] [])
theorem jly:SO 106 jbd:=fK (np:=0) (Za5 je6 Zar) [jdK] (oI 58 0 @jjF oN) false Tryz.func106 λ_ _ _ _=>by kernel_rfl
def jf5 (place:Int)(b:qF×List qR)(d:Unit->Res):Res:=d ()
def jc7:Sig Unit:=sg [.look tI false,.look y26 true] [] [(tI,none),(y26,none)] [] λb d k=>jf5 b.1 b.2.1 (λ_=>k [] [] [])
theorem jne:SO 65 jc7:=fK (np:=0) Zar [] oN false Tryz.func65 λ_ _ _ _=>by kernel_rfl
def jgp (x:Int)(d:Int×Int×qS)(b:Bool->Res):Res:=b (x==d.2.1)
def jpn:Sig Unit:=sg [.look tI false,.rptr y19] [false] [(tI,none),(y19,none)] [] λb f k=>jgp b.1 b.2.1 (λd=>k [wB d] [] [])
theorem joo:SO 108 jpn:=fK (np:=0) Zar [] oN false Tryz.func108 λ_ _ _ _=>by kernel_rfl
def j1j (s:List Int)(b:Int×Int×qS)(d:(List Int)->qP->Res):Res:=bif lim s.length then dgE (λe k=>jgp e b k) s [] (λr=>d r b) else none
def j4b:Sig Unit:=⟨[.eat y31 false,.clos 108 [y19]],[false],λvals ext k=>ao vals y31 [.O] λs vals=>nl vals<|ab ext y19 [.S,.S,.S,.S] λa0 f ext=>nl ext<|j1j s f (λd b=>k [w1 y31 d .O] [] [⟨y19,a0,b,[.S,.S,.S,.S]⟩])⟩
theorem je1:Z16 Tryz.prog 107 j4b:=gS (jtT (U:=0) (T:=182) (e:=tI) (ag:=false) (τ:=y19) (tg:=[.S,.S,.S,.S]) (fl:=[]) (S:=37) (E:=3) (I:=3) (B:=4) follows j2t (by kernel_rfl) Tryz.underlying37 (by kernel_rfl) (by kernel_rfl) (by kernel_rfl) (by kernel_rfl) Tryz.isAgg182 Tryz.sizeOf182 (by kernel_rfl) (by kernel_rfl) (by kernel_rfl) Tryz.func156 (by kernel_rfl) (by kernel_rfl) (by kernel_rfl) (by kernel_rfl) joo (by kernel_rfl) Tryz.func107 (by kernel_rfl) (by kernel_rfl) (by kernel_rfl) (by kernel_rfl)) (by kernel_rfl)
theorem j8q:FS [(65,jc7),(103,jdz),(104,j5A),(105,jbb),(106,jbd),(107,j4b)]:=(Za5 jne (Za5 jon (Za5 jfs (Za5 jlw (Za5 jly (Za5 je1 Zar))))))
def j5p (l:List qP)(i:Int)(d:qF×List qR)(r:Int×Int×qS)(b:Int->qD->Res):Res:=bif Z8d 0 i l.length then Z86 (j5l (sub l 0 i) r.2.1 λn=>Z86 (j26 d n λg h w=>Z86 (Z86 (b h g) (Z86 (b h g) (b h g))) (Z86 (Z86 (b h g) (Z86 (b h g) (b h g))) (Z86 (Z86 (b h g) (b h g)) (Z86 (Z86 (b h g) (b h g)) (b h g))))) (j26 d n λj k y=>Z86 (Z86 (b k j) (b k j)) (Z86 (Z86 (b k j) (b k j)) (b k j)))) (j5l (sub l 0 i) r.2.1 λq=>j26 d q λm f p=>Z86 (Z86 (b f m) (b f m)) (Z86 (Z86 (b f m) (b f m)) (b f m))) else none
def j4j:Z1c Unit:=Nd 84 84 [.R 1 y20 .S,.t 2 (.clos 65 []),.t 3 (pB 3),.t 6 (pB 6),.R 8 y31 .O,.R 9 y31 .O,.I 10,.t 11 (pB 11),.R 17 y20 .S,.I 18,.I 19] [(3,y26,[.S,.S]),(6,y26,[.O,.O]),(11,y19,[.S,.S,.S,.S])] λb d f=>j5p b.1 b.2.2.2.1 d.1.2 d.2.2.1.2 (λcode next=>f .normal [(1,v1 y20 b.1 .S),(2,.clos 65 []),(3,pB 3),(6,pB 6),(8,v1 y31 b.2.1 .O),(9,v1 y31 b.2.2.1 .O),(10,vI b.2.2.2.1),(11,pB 11),(12,pB 12),(13,vI code),(17,v1 y20 b.2.2.2.2.1 .S),(18,vI b.2.2.2.2.2.1),(19,vI b.2.2.2.2.2.2.1)] [(3,⟨y26,d.1.1,d.1.2,[.S,.S]⟩),(6,⟨y26,d.2.1.1,d.2.1.2,[.O,.O]⟩),(11,⟨y19,d.2.2.1.1,d.2.2.1.2,[.S,.S,.S,.S]⟩),(12,⟨y26,false,next,[.O,.O]⟩)])
theorem jnL:CN 0 478452 Tryz.f64 j4j:=nK j8q [] oN ([1,2,3,6,8,9,10,11,12,13,17,18,19],[3,6,11,12]) [] ([],[]) λ_ _ _=>by delta j5p jbd jbb;refine gz j5l λ_ b=>gz j26 λ_ d=> ?_;rewrite[<-b,<-d];kernel_rfl
def j7d (l:List qP)(i:Int)(b:Bool)(d:qF×List qR)(r:Int×Int×qS)(f:qD->Res)(g:Unit->Res):Res:=bif b then j5p l i d r λcode next=>bif (code != 0) then g () else jf5 (Z9J (i+1)) d λ_=>f next else f d
def j6v:Z1c Unit:=λσ k=>rdN σ 84<|rd1 σ 1 y20 .S λl=>rdT σ 2 (.clos 65 [])<|rdT σ 3 (pB 3)<|rdT σ 6 (pB 6)<|rd1 σ 8 y31 .O λb=>rd1 σ 9 y31 .O λf=>rdI σ 10 λi=>rdT σ 11 (pB 11)<|rd1 σ 17 y20 .S λg=>rdI σ 18 λh=>rdI σ 19 λj=>rdO σ 54 λm=>rdB σ 3 y26 [.S,.S] λa d=>rdB σ 6 y26 [.O,.O] λn w=>rdB σ 11 y19 [.S,.S,.S,.S] λp r=>j7d l i m d r (λq=>k .normal (mkS 84 84 [(1,v1 y20 l .S),(2,.clos 65 []),(3,pB 3),(6,pB 6),(8,v1 y31 b .O),(9,v1 y31 f .O),(11,pB 11),(17,v1 y20 g .S),(18,vI h),(19,vI j)] [(3,⟨y26,a,q,[.S,.S]⟩),(6,⟨y26,n,w,[.O,.O]⟩),(11,⟨y19,p,r,[.S,.S,.S,.S]⟩)])) (λ_=>k .ret (mkS 84 84 [(6,pB 6),(7,vB false)] [(6,⟨y26,n,([],[]),[.O,.O]⟩)]))
theorem jnM:CN 0 119613 Tryz.f64 j6v:=λz=>jrS follows j2t j8q z [j4j] (oI 4 0 @jnL oN) ([1,2,3,6,8,9,11,17,18,19],[3,6,11]) [] ([6,7],[6]) [(0,[],[(3,[.S,.S])])] λσ k _ h=>rN h λK h=>rV h λl E h=>rT h λF h=>rT h λG h=>rT h λH h=>rV h λA I h=>rV h λB J h=>rV h λi f h=>rT h λg h=>rV h λL j h=>rV h λM n h=>rV h λP p h=>rV h λQ q h=>rB h λa d w h=>rB h λR U y h=>rB h λT r b h=>⟨_,ZaL (m:=84) K (sC E (sC F (sC G (sC H (sC I (sC J (sC f (sC g (sC j (sC n (sC p (sC q sN)))))))))))) (bC w (bC y (bC b bN))),.trans (by delta j7d j4j jc7;refine gz j5p λ_ C=>gz jf5 λ_ D=> ?_;rewrite[<-C,<-D];kernel_rfl) h⟩
def j3f (l:List qP)(g:List qP)(j:Int)(f:List Int)(h:List Int)(b:Int)(d:qF×List qR)(rec:(List Int)->(List Int)->Int->qD->Res)(m:qD->Res)(i:Unit->Res):Res:=bif decide (b<j) then bif inb b g.length then j7I (nth (0,0,0,eS,[],[],0,eS,[],[],eS,eS) g b) λr=>bif !r then i () else bif ((nth (0,0,0,eS,[],[],0,eS,[],[],eS,eS) g b).1==1) then j0Y h (nth (0,0,0,eS,[],[],0,eS,[],[],eS,eS) g b).2.1 λn=>bif n then i () else bif lim (h.length+1) then bif lim (f.length+1) then rec (f++[(nth (0,0,0,eS,[],[],0,eS,[],[],eS,eS) g b).2.1]) (h++[(nth (0,0,0,eS,[],[],0,eS,[],[],eS,eS) g b).2.1]) (Z9J (b+1)) d else none else none else j0Y f (nth (0,0,0,eS,[],[],0,eS,[],[],eS,eS) g b).2.1 λp=>bif !p then i () else j7d l b ((nth (0,0,0,eS,[],[],0,eS,[],[],eS,eS) g b).1==3) d (nth (0,0,0,eS,[],[],0,eS,[],[],eS,eS) g b) (λk=>bif ((nth (0,0,0,eS,[],[],0,eS,[],[],eS,eS) g b).1 != 2) then j1j f (nth (0,0,0,eS,[],[],0,eS,[],[],eS,eS) g b) λq w=>rec q h (Z9J (b+1)) k else rec f h (Z9J (b+1)) k) (λ_=>i ()) else none else m d
def j7J (l:List qP)(g:List qP)(h:Int):((List Int)×(List Int)×Int×qD)->((List Int)×(List Int)×Int×qD->Res)->((qD->Res)×(Unit->Res))->Res:=λv rec q=>j3f l g h v.1 v.2.1 v.2.2.1 v.2.2.2 (λb f i d=>rec (b,f,i,d)) q.1 q.2
def jhZ (l:List qP)(g:List qP)(h:Int)(n:Nat)(b:List Int)(f:List Int)(i:Int)(d:qF×List qR)(j:qD->Res)(k:Unit->Res):Res:=Z1e (j7J l g h) n (b,f,i,d) (j,k)
def jcp:Z1c Unit:=NdL 84 84 [.R 1 y20 .S,.t 2 (.clos 65 []),.t 3 (pB 3),.t 6 (pB 6),.R 8 y31 .O,.R 9 y31 .O,.R 17 y20 .S,.I 18,.I 19] [(3,y26,[.S,.S]),(6,y26,[.O,.O])] (λb d=>(b.2.1,b.2.2.1,b.2.2.2.2.2.1,d.1.2)) (λb v=>(b.1,v.1,v.2.1,b.2.2.2.1,b.2.2.2.2.1,v.2.2.1,())) (λd v=>((d.1.1,v.2.2.2),(d.2.1.1,d.2.1.2),())) (λb d=>j7J b.1 b.2.2.2.1 b.2.2.2.2.1) λb d f=>((λg=>f (.exit 0) [(3,pB 3),(6,pB 6)] [(3,⟨y26,d.1.1,g,[.S,.S]⟩),(6,⟨y26,d.2.1.1,d.2.1.2,[.O,.O]⟩)]),(λ_=>f .ret [(6,pB 6),(7,vB false)] [(6,⟨y26,d.2.1.1,([],[]),[.O,.O]⟩)]))
theorem jnK:CN 0 58 Tryz.f64 jcp:=lK j8q [j4j,j6v] (oI 1853 1 @jnM oN) ([],[]) [(0,[3,6],[3,6])] ([6,7],[6]) λ_ _ _ _ _=>by delta j7J j3f jdz j5A j6v j4b;refine gz j7I λ_ b=>gz j0Y λ_ d=>gz j7d λ_ f=>gz j1j λ_ g=> ?_;rewrite[<-b,<-d,<-f,<-g];kernel_rfl
def jdk (l:List qP)(d:qF×List qR)(b:Bool->qD->Res):Res:=jhZ l l (nI l.length) Z1b [] [] 0 d (λf=>b true f) (λ_=>b false ([],[]))
def jht:Z1c Unit:=λσ k=>rdN σ 84<|rd1 σ 1 y20 .S λl=>rdT σ 2 (.clos 65 [])<|rdT σ 3 (pB 3)<|rdT σ 6 (pB 6)<|rdB σ 3 y26 [.S,.S] λa d=>rdB σ 6 y26 [.O,.O] λf h=>jdk l d (λg b=>k .ret (mkS 84 84 [(6,pB 6),(7,vB g)] [(6,⟨y26,f,b,[.S,.S]⟩)]))
theorem jnN:CN 0 3 Tryz.f64 jht:=λg=>jrS follows j2t j8q g [j4j,j6v,jcp] (oI 26 2 @jnK oN) ([],[]) [] ([6,7],[6]) [(1,[],[(6,[.S,.S])])] λσ k _ h=>rN h λq h=>rV h λl i h=>rT h λj h=>rT h λn h=>rT h λp h=>rB h λa d b h=>rB h λr w f h=>⟨_,ZaL (m:=84) q (sC i (sC j (sC n (sC p sN)))) (bC b (bC f bN)),.trans (by kernel_rfl) h⟩
def jei (d:qF×List qR)(l:List qP)(b:qD->Bool->Res):Res:=jdk l d λt f=>b f t
def jq9:Sig Unit:=sg [.borrow y26 true,.borrow y20 false,.clos 65 []] [true,false] [(y26,none),(y20,none)] [] λb g k=>jei b.1 b.2.1 (λd f=>k [⟨y26,true,d,[.S,.S]⟩,wB f] [] [])
theorem jpR:SO 64 jq9:=fK (np:=0) j8q [j4j,j6v,jcp,jht] (oI 3 3 @jnN oN) false Tryz.func64 λ_ _ _ _=>by kernel_rfl
def j9L (l:List qP)(b:Bool->Res):Res:=bif decide ((nI l.length)>400) then b false else jei ([],[]) l λr d=>b d
def jih:Sig Unit:=sg [.look y20 false] [false] [(y20,none)] [] λd f k=>j9L d.1 (λb=>k [wB b] [] [])
theorem jok:SO 33 jih:=fK (np:=0) (Za5 jpR Zar) [] oN false Tryz.func33 λ_ _ _ _=>by kernel_rfl
end
end Go.PI.G
namespace Go.PI.G
noncomputable section
open Go Go.PI Go.Proofs
open Go.Code (pl pr)
def j7Y (f:qD×Int×Int)(b:Bool->Res):Res:=j4G f.1 λr=>bif r then bif decide (f.2.1>=0) then bif decide (f.2.1<=400) then b (decide (f.2.2>=0)) else b false else b false else b false
def jiD:Sig Unit:=sg [.look y28 true] [false] [(y28,none)] [] λd f k=>j7Y d.1 (λb=>k [wB b] [] [])
theorem joE:SO 28 jiD:=fK (np:=0) (Za5 jeZ Zar) [] oN false Tryz.func28 λ_ _ _ _=>by kernel_rfl
def j61 (f:qD×Int×Int)(b:Bool->Res):Res:=j5W f.1 λr=>bif r then j0a f.2.1 0 400 λd=>bif d then b (decide (f.2.2>=0)) else b false else b false
def jig:Sig Unit:=sg [.look y28 true] [false] [(y28,none)] [] λd f k=>j61 d.1 (λb=>k [wB b] [] [])
theorem joj:SO 35 jig:=fK (np:=0) (Za5 jj4 (Za5 j1H Zar)) [] oN false Tryz.func35 λ_ _ _ _=>by delta j61 jbJ j17;refine gz j5W λ_ b=>gz j0a λ_ d=> ?_;rewrite[<-b,<-d];kernel_rfl
end
end Go.PI.G
namespace Go.PI.G
open Go Go.PI Go.Proofs
open Go.Code (pl pr)
end Go.PI.G
namespace Go.PI.G
open Go Go.PI Go.Proofs
open Go.Code (pl pr)
end Go.PI.G
namespace Go.PI.G
noncomputable section
open Go Go.PI Go.Proofs
open Go.Code (pl pr)
def j4J (d:qL)(h:Int)(p:qL)(b:Int)(rec:Int->Res)(g:Unit->Res)(f:Unit->Res):Res:=bif decide (b<h) then bif inb b d.length then j0t (nth eS d b) λr=>bif !r then f () else bif decide (b>0) then bif inb (Z9J (b-1)) p.length then bif sGe (nth eS p (Z9J (b-1))) (nth eS d b) then f () else rec (Z9J (b+1)) else none else rec (Z9J (b+1)) else none else g ()
def jat (b:qL)(d:Int)(p:qL):Int->(Int->Res)->((Unit->Res)×(Unit->Res))->Res:=λv rec q=>j4J b d p v (λf=>rec (f)) q.1 q.2
def jhr (f:qL)(g:Int)(p:qL)(n:Nat)(h:Int)(b:Unit->Res)(d:Unit->Res):Res:=Z1e (jat f g p) n (h) (b,d)
def jgf:Z1c Unit:=NdL 35 35 [.t 1 (pB 1),.R 6 y8 .S,.I 7,.I 8] [(1,y8,[.S])] (λb d=>(b.2.2.1)) (λb v=>(b.1,b.2.1,v,())) (λd v=>((d.1.1,d.1.2),())) (λb d=>jat b.1 b.2.1 d.1.2) λb d f=>((λ_=>f (.exit 0) [(1,pB 1)] [(1,⟨y8,d.1.1,d.1.2,[.S]⟩)]),(λ_=>f .ret [(2,vB false)] []))
theorem jmj:CN 0 26 Tryz.f27 jgf:=lK (Za5 j4e Zar) [] oN ([],[]) [(0,[1],[1])] ([2],[]) λ_ _ _ _ _=>by kernel_rfl
def jas (p:qL)(b:Bool->Res):Res:=jhr p (nI p.length) p Z1b 0 (λ_=>b (decide ((nI p.length)<=6))) (λ_=>b false)
def jiG:Sig Unit:=sg [.look y8 true] [false] [(y8,none)] [] λd f k=>jas d.1 (λb=>k [wB b] [] [])
theorem joH:SO 27 jiG:=fK (np:=0) (Za5 j4e Zar) [jgf] (oI 26 0 @jmj oN) false Tryz.func27 λ_ _ _ _=>by kernel_rfl
def j4t (d:qL)(h:Int)(p:qL)(b:Int)(rec:Int->Res)(g:Unit->Res)(f:Unit->Res):Res:=bif decide (b<h) then bif inb b d.length then j0l (nth eS d b) λr=>bif !r then f () else bif decide (b>0) then bif inb (Z9J (b-1)) p.length then bif sGe (nth eS p (Z9J (b-1))) (nth eS d b) then f () else rec (Z9J (b+1)) else none else rec (Z9J (b+1)) else none else g ()
def j9N (b:qL)(d:Int)(p:qL):Int->(Int->Res)->((Unit->Res)×(Unit->Res))->Res:=λv rec q=>j4t b d p v (λf=>rec (f)) q.1 q.2
def jha (f:qL)(g:Int)(p:qL)(n:Nat)(h:Int)(b:Unit->Res)(d:Unit->Res):Res:=Z1e (j9N f g p) n (h) (b,d)
def jga:Z1c Unit:=NdL 35 35 [.t 1 (pB 1),.R 6 y8 .S,.I 7,.I 8] [(1,y8,[.S])] (λb d=>(b.2.2.1)) (λb v=>(b.1,b.2.1,v,())) (λd v=>((d.1.1,d.1.2),())) (λb d=>j9N b.1 b.2.1 d.1.2) λb d f=>((λ_=>f (.exit 0) [(1,pB 1)] [(1,⟨y8,d.1.1,d.1.2,[.S]⟩)]),(λ_=>f .ret [(2,vB false)] []))
theorem jmc:CN 0 26 Tryz.f34 jga:=lK (Za5 j4c Zar) [] oN ([],[]) [(0,[1],[1])] ([2],[]) λ_ _ _ _ _=>by kernel_rfl
def j9M (p:qL)(b:Bool->Res):Res:=jha p (nI p.length) p Z1b 0 (λ_=>b (decide ((nI p.length)<=6))) (λ_=>b false)
def jij:Sig Unit:=sg [.look y8 true] [false] [(y8,none)] [] λd f k=>j9M d.1 (λb=>k [wB b] [] [])
theorem jom:SO 34 jij:=fK (np:=0) (Za5 j4c Zar) [jga] (oI 26 0 @jmc oN) false Tryz.func34 λ_ _ _ _=>by kernel_rfl
end
end Go.PI.G
