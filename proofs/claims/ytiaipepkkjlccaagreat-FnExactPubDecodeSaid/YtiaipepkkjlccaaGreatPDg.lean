/-
  Program's code interpreted over typed values; printed texts; plain laws. No conditions.
-/
import Derived.Test.YtiaipepkkjlccaaGreatPDd
import Derived.Test.YtiaipepkkjlccaaGreatPDe
import Derived.Test.YtiaipepkkjlccaaGreatPDf
set_option linter.unusedVariables false
set_option maxRecDepth 100000
set_option linter.unusedSimpArgs false
namespace Go.PI.G
noncomputable section
open Go Go.PI Go.Proofs
open Go.Code (pl pr)
def j4v (d:List qV)(h:Int)(b:Int)(rec:Int->Res)(f:Unit->Res)(g:Unit->Res):Res:=bif decide (b<h) then bif inb b d.length then j1L (nth (0,0,eS) d b) λr=>bif !r then g () else rec (Z9J (b+1)) else none else f ()
def jb9 (b:List qV)(d:Int):Int->(Int->Res)->((Unit->Res)×(Unit->Res))->Res:=λv rec q=>j4v b d v (λf=>rec (f)) q.1 q.2
def jil (f:List qV)(g:Int)(n:Nat)(h:Int)(b:Unit->Res)(d:Unit->Res):Res:=Z1e (jb9 f g) n (h) (b,d)
def jhE:Z1c Unit:=NdL 23 23 [.R 0 y2 .S,.R 5 y2 .S,.I 6,.I 7] [] (λb d=>(b.2.2.2.1)) (λb v=>(b.1,b.2.1,b.2.2.1,v,())) (λd v=>()) (λb d=>jb9 b.2.1 b.2.2.1) λb d f=>((λ_=>f (.exit 0) [(0,v1 y2 b.1 .S)] []),(λ_=>f .ret [(2,vB false)] []))
theorem joy:CN 0 26 Tryz.f167 jhE:=lK (Za5 j9O Zar) [] oN ([],[]) [(0,[0],[])] ([2],[]) λ_ _ _ _ _=>by kernel_rfl
def j3z (l:List qV)(b:Bool->Res):Res:=jil l (nI l.length) Z1b 0 (λ_=>bif decide ((nI l.length)>=1) then b (decide ((nI l.length)<=8)) else b false) (λ_=>b false)
def jeB:Sig Unit:=sg [.look y2 false] [false] [(y2,none)] [] λd f k=>j3z d.1 (λb=>k [wB b] [] [])
theorem jqr:SO 167 jeB:=fK (np:=0) (Za5 j9O Zar) [jhE] (oI 26 0 @joy oN) false Tryz.func167 λ_ _ _ _=>by kernel_rfl
def j1N (d:qG)(b:Bool->Res):Res:=bif (d.1==0) then bif sEq d.2.1 eS then bif ((nI d.2.2.1.length)==0) then bif ((nI d.2.2.2.1.length)==0) then bif sEq d.2.2.2.2.1 eS then b (sEq d.2.2.2.2.2 eS) else b false else b false else b false else b false else b false
def jde:Sig Unit:=sg [.look y13 true] [false] [(y13,none)] [] λd f k=>j1N d.1 (λb=>k [wB b] [] [])
theorem jhS:SO 168 jde:=fK (np:=0) Zar [] oN false Tryz.func168 λ_ _ _ _=>by kernel_rfl
theorem jkP:FS [(60,j3V),(167,jeB),(168,jde),(169,j5s)]:=(Za5 j2H (Za5 jqr (Za5 jhS (Za5 jgJ Zar))))
def j82 (d:Bool)(f:Bool)(s:qS)(b:Bool->Res):Res:=bif (s.1==1) then bif d then j3z s.2.2.2.1 λr=>bif r then j1N s.2.2.2.2 λg=>b g else b false else b false else bif (s.1==2) then j3z s.2.2.1 λh=>bif h then j3z s.2.2.2.1 λi=>bif i then j1N s.2.2.2.2 λj=>b j else b false else b false else bif (s.1==3) then j3z s.2.2.1 λk=>bif k then bif f then j1N s.2.2.2.2 λl=>b l else b false else b false else bif (s.1==4) then bif d then bif f then j1N s.2.2.2.2 λm=>b m else b false else b false else bif (s.1==5) then bif d then bif f then j3f s.2.2.2.2 λn=>bif n then b (sEq s.2.2.2.2.2.1 s.2.1) else b false else b false else b false else b false
def jdK:Z1c Unit:=Nd 93 93 [.t 1 (pB 1),.B 3,.B 4] [(1,y17,[.S,.S,.S,.S])] λb g d=>j82 b.1 b.2.1 g.1.2 (λf=>d .ret [(2,vB f)] [])
theorem jpG:CN 0 31 Tryz.f119 jdK:=nK jkP [] oN ([],[]) [] ([2],[]) λ_ _ _=>by delta j82 jeB jde j5s;refine gz j3z λ_ b=>gz j1N λ_ d=>gz j3f λ_ f=> ?_;rewrite[<-b,<-d,<-f];kernel_rfl
def j2g (s:qS)(b:Bool->Res):Res:=j0x s.2.1 λr=>bif !r then b false else j82 ((nI s.2.2.1.length)==0) ((nI s.2.2.2.1.length)==0) s λt=>b t
def j3U:Sig Unit:=sg [.look y17 true] [false] [(y17,none)] [] λd f k=>j2g d.1 (λb=>k [wB b] [] [])
theorem jfm:SO 119 j3U:=fK (np:=0) jkP [jdK] (oI 31 0 @jpG oN) false Tryz.func119 λ_ _ _ _=>by delta j2g j3V jdK;refine gz j0x λ_ b=>gz j82 λ_ d=> ?_;rewrite[<-b,<-d];kernel_rfl
theorem jne:FS [(98,j7N),(99,j1J)]:=(Za5 jgI (Za5 j5Z Zar))
def j7Z (f:List qT)(g:Int)(d:qF×List qR)(b:Int)(rec:Int->Res)(h:Unit->Res)(i:Unit->Res):Res:=bif decide (b<g) then bif inb b f.length then bif inb b d.2.length then j0F (nth (eS,[],[]) f b) (nth [] d.2 b) λr=>bif !r then i () else rec (Z9J (b+1)) else none else none else h ()
def jaG (b:List qT)(f:Int)(d:qF×List qR):Int->(Int->Res)->((Unit->Res)×(Unit->Res))->Res:=λv rec q=>j7Z b f d v (λg=>rec (g)) q.1 q.2
def jhs (b:List qT)(f:Int)(d:qF×List qR)(n:Nat)(g:Int)(h:Unit->Res)(i:Unit->Res):Res:=Z1e (jaG b f d) n (g) (h,i)
def jfN:Z1c Unit:=NdL 38 38 [.t 1 (pB 1),.R 21 y23 .S,.I 22,.I 23] [(1,y26,[.S,.S])] (λb d=>(b.2.2.1)) (λb v=>(b.1,b.2.1,v,())) (λd v=>((d.1.1,d.1.2),())) (λb d=>jaG b.1 b.2.1 d.1.2) λb d f=>((λ_=>f (.exit 0) [] []),(λ_=>f .ret [(2,vB false)] []))
theorem jsm:CN 0 58 Tryz.f61 jfN:=lK jne [] oN ([],[]) [(0,[],[])] ([2],[]) λ_ _ _ _ _=>by kernel_rfl
def j2L (d:qF×List qR)(b:Bool->Res):Res:=j4F d.1 λr=>bif !r then b false else bif ((nI d.2.length) != (nI d.1.length)) then b false else jhs d.1 (nI d.1.length) d Z1b 0 (λ_=>b true) (λ_=>b false)
def j3c:Sig Unit:=sg [.look y26 true] [false] [(y26,none)] [] λd f k=>j2L d.1 (λb=>k [wB b] [] [])
theorem jeS:SO 61 j3c:=fK (np:=0) jne [jfN] (oI 58 0 @jsm oN) false Tryz.func61 λ_ _ _ _=>by delta j2L j7N jfN jhs;refine gz j4F λ_ b=>gz jaG λ_ d=> ?_;rewrite[<-b,<-d];kernel_rfl
theorem jj6:FS [(184,j7S),(185,jaC)]:=(Za5 jjn (Za5 jjo Zar))
def j4u (f:List qR)(g:Int)(d:Int)(b:qF×List qR)(rec:Int->qD->Res)(h:qD->Res):Res:=bif decide (d<g) then bif inb d f.length then j84 (nth [] f d) λr=>bif lim (b.2.length+1) then rec (Z9J (d+1)) (b.1,(b.2++[r])) else none else none else h b
def j7e (d:List qR)(f:Int):(Int×qD)->(Int×qD->Res)->((qD->Res))->Res:=λv rec q=>j4u d f v.1 v.2 (λg b=>rec (g,b)) q
def jdr (d:List qR)(f:Int)(n:Nat)(g:Int)(b:qF×List qR)(h:qD->Res):Res:=Z1e (j7e d f) n (g,b) (h)
def jcl:Z1c Unit:=NdL 28 28 [.t 2 (pB 2),.t 3 (pB 3),.R 11 y25 .S,.I 12,.I 13] [(2,y26,[.O,.O]),(3,y26,[.O,.O])] (λd b=>(d.2.2.1,b.2.1.2)) (λd v=>(d.1,d.2.1,v.1,())) (λb v=>((b.1.1,b.1.2),(b.2.1.1,v.2),())) (λd b=>j7e d.1 d.2.1) λd b g=>((λf=>g (.exit 0) [(2,pB 2),(3,pB 3)] [(2,⟨y26,b.1.1,b.1.2,[.O,.O]⟩),(3,⟨y26,b.2.1.1,f,[.O,.O]⟩)]))
theorem jox:CN 0 58 Tryz.f142 jcl:=lK jj6 [] oN ([],[]) [(0,[2,3],[2,3])] ([],[]) λ_ _ _ _ _=>by kernel_rfl
def j2r (d:qF×List qR)(f:qD->Res):Res:=j5y d.1 λr=>jdr d.2 (nI d.2.length) Z1b 0 (r,[]) λb=>f b
def j7T:Sig Unit:=sg [.borrow y26 true] [true] [(y26,none)] [] λd f k=>j2r d.1 (λb=>k [⟨y26,true,b,[.O,.O]⟩] [] [])
theorem jjq:SO 142 j7T:=fK (np:=0) jj6 [jcl] (oI 58 0 @jox oN) false Tryz.func142 λ_ _ _ _=>by delta j2r j7S jcl jdr;refine gz j5y λ_ b=>gz j7e λ_ d=> ?_;rewrite[<-b,<-d];kernel_rfl
def j1G (t:qB×qE×qL)(l:List qW)(s:qS)(b:qR->Int->Res):Res:=bif (s.1==1) then j9a t l s.2.2.2.1 λr d=>b r d else bif (s.1==2) then j9b t l s.2.2.1 s.2.2.2.1 λf g=>b f g else bif (s.1==3) then j99 t l s.2.2.1 λh i=>b h i else bif (s.1==5) then j81 t l s.2.2.2.2 λj k=>b j k else b [] 0
def j7U:Sig Unit:=sg [.borrow y22 true,.borrow y24 false,.borrow y17 true] [false,false] [(y22,none),(y24,none),(y17,none)] [] λb g k=>j1G b.1 b.2.1 b.2.2.1 (λd f=>k [w1 y24 d .O,wI f] [] [])
theorem jjr:SO 188 j7U:=fK (np:=0) (Za5 js5 (Za5 js6 (Za5 js4 (Za5 jqp Zar)))) [] oN false Tryz.func188 λ_ _ _ _=>by delta j1G jli jlj jlh jjN;refine gz j9a λ_ b=>gz j9b λ_ d=>gz j99 λ_ f=>gz j81 λ_ g=> ?_;rewrite[<-b,<-d,<-f,<-g];kernel_rfl
theorem j8f:FS [(185,jaC),(186,j3t),(188,j7U),(224,j6z)]:=(Za5 jjo (Za5 jcv (Za5 jjr (Za5 jhR Zar))))
def j4t (b:Int)(s:qS)(t:qB×qE×qL)(d:Bool->Res):Res:=bif decide (b>=0) then d (sEq t.1 s.2.1) else d false
def j3D:Z1c Unit:=Nd 86 86 [.t 2 (pB 2),.t 3 (pB 3),.t 4 (pB 4),.t 8 (pB 8),.t 10 (pB 10),.t 11 (pB 11),.I 12,.R 29 y23 .S,.I 30,.I 31] [(2,y26,[.S,.S]),(3,y17,[.S,.S,.S,.S]),(4,y26,[.O,.O]),(8,y26,[.S,.O]),(10,y22,[.S,.S]),(11,y24,[.O])] λd b g=>j4t d.1 b.2.1.2 b.2.2.2.2.1.2 (λf=>g .normal [(2,pB 2),(3,pB 3),(4,pB 4),(8,pB 8),(11,pB 11),(12,vI d.1),(29,v1 y23 d.2.1 .S),(30,vI d.2.2.1),(31,vI d.2.2.2.1),(49,vB f)] [(2,⟨y26,b.1.1,b.1.2,[.S,.S]⟩),(3,⟨y17,b.2.1.1,b.2.1.2,[.S,.S,.S,.S]⟩),(4,⟨y26,b.2.2.1.1,b.2.2.1.2,[.O,.O]⟩),(8,⟨y26,b.2.2.2.1.1,b.2.2.2.1.2,[.S,.O]⟩),(11,⟨y24,b.2.2.2.2.2.1.1,b.2.2.2.2.2.1.2,[.O]⟩)])
theorem jmh:CN 0 256412 Tryz.f187 j3D:=nK j8f [] oN ([2,3,4,8,11,12,29,30,31,49],[2,3,4,8,11]) [] ([],[]) λ_ _ _=>by kernel_rfl
def j2C (b:Int)(g:Bool)(d:qF×List qR)(s:qS)(x:List qW)(f:qR->Res):Res:=bif g then bif inb b d.1.length then bif inb b d.2.length then j1G (nth (eS,[],[]) d.1 b) (nth [] d.2 b) s λr i=>Z86 (f r) (f r) else none else none else bif decide (b>=0) then bif inb b d.2.length then j84 (nth [] d.2 b) λh=>f h else none else f x
def j6T:Z1c Unit:=Nd 86 86 [.t 2 (pB 2),.t 3 (pB 3),.t 4 (pB 4),.t 8 (pB 8),.t 11 (pB 11),.I 12,.R 29 y23 .S,.I 30,.I 31,.B 49] [(2,y26,[.S,.S]),(3,y17,[.S,.S,.S,.S]),(4,y26,[.O,.O]),(8,y26,[.S,.O]),(11,y24,[.O])] λd b f=>j2C d.1 d.2.2.2.2.1 b.1.2 b.2.1.2 b.2.2.2.2.1.2 (λg=>f .normal [(2,pB 2),(3,pB 3),(4,pB 4),(8,pB 8),(11,pB 11),(29,v1 y23 d.2.1 .S),(30,vI d.2.2.1),(31,vI d.2.2.2.1)] [(2,⟨y26,b.1.1,b.1.2,[.S,.S]⟩),(3,⟨y17,b.2.1.1,b.2.1.2,[.S,.S,.S,.S]⟩),(4,⟨y26,b.2.2.1.1,b.2.2.1.2,[.O,.O]⟩),(8,⟨y26,b.2.2.2.1.1,b.2.2.2.1.2,[.S,.O]⟩),(11,⟨y24,b.2.2.2.2.1.1,g,[.O]⟩)])
theorem jmi:CN 0 256413 Tryz.f187 j6T:=nK j8f [j3D] oN ([2,3,4,8,11,29,30,31],[2,3,4,8,11]) [] ([],[]) λ_ _ _=>by delta j2C j7U jaC;refine gz j1G λ_ b=>gz j84 λ_ d=> ?_;rewrite[<-b,<-d];kernel_rfl
def j1B (g:List qT)(h:Int)(d:qF×List qR)(s:qS)(b:Int)(f:qF×List qR)(rec:Int->qD->Res)(i:qD->Res):Res:=bif decide (b<h) then bif inb b g.length then j1M d.1 (nth (eS,[],[]) g b).1 λr=>j4t r s (nth (eS,[],[]) g b) λt=>j2C r t d s [] λx=>bif lim (f.2.length+1) then rec (Z9J (b+1)) (f.1,(f.2++[x])) else none else none else i f
def j2Y (f:List qT)(g:Int)(d:qF×List qR)(s:qS):(Int×qD)->(Int×qD->Res)->((qD->Res))->Res:=λv rec q=>j1B f g d s v.1 v.2 (λh b=>rec (h,b)) q
def j7d (f:List qT)(g:Int)(d:qF×List qR)(s:qS)(n:Nat)(h:Int)(b:qF×List qR)(i:qD->Res):Res:=Z1e (j2Y f g d s) n (h,b) (i)
def jam:Z1c Unit:=NdL 86 86 [.t 2 (pB 2),.t 3 (pB 3),.t 4 (pB 4),.t 8 (pB 8),.R 29 y23 .S,.I 30,.I 31] [(2,y26,[.S,.S]),(3,y17,[.S,.S,.S,.S]),(4,y26,[.O,.O]),(8,y26,[.S,.O])] (λd b=>(d.2.2.1,b.2.2.2.1.2)) (λd v=>(d.1,d.2.1,v.1,())) (λb v=>((b.1.1,b.1.2),(b.2.1.1,b.2.1.2),(b.2.2.1.1,b.2.2.1.2),(b.2.2.2.1.1,v.2),())) (λd b=>j2Y d.1 d.2.1 b.1.2 b.2.1.2) λd b g=>((λf=>g (.exit 0) [(4,pB 4),(8,pB 8)] [(4,⟨y26,b.2.2.1.1,b.2.2.1.2,[.O,.O]⟩),(8,⟨y26,b.2.2.2.1.1,f,[.S,.O]⟩)]))
theorem jmg:CN 0 250 Tryz.f187 jam:=lK j8f [j3D,j6T] (oI 924 0 @jmh (oI 925 1 @jmi oN)) ([],[]) [(0,[4,8],[4,8])] ([],[]) λ_ _ _ _ _=>by delta j2Y j1B j3t j3D j6T;refine gz j1M λ_ b=>gz j4t λ_ d=>gz j2C λ_ f=> ?_;rewrite[<-b,<-d,<-f];kernel_rfl
def j4V (d:qF×List qR)(s:qS)(f:qD->Int->Res):Res:=j2M d.1 s.2.2.2.2 λr g=>bif (g != 0) then f ([],[]) (Z9J (10+g)) else j7d r (nI r.length) d s Z1b 0 (r,[]) λb=>f b 0
def jbV:Sig Unit:=sg [.borrow y26 true,.borrow y17 true] [true,false] [(y26,none),(y17,none)] [] λb g k=>j4V b.1 b.2.1 (λd f=>k [⟨y26,true,d,[.S,.S]⟩,wI f] [] [])
theorem jnN:SO 187 jbV:=fK (np:=0) j8f [j3D,j6T,jam] (oI 250 2 @jmg oN) true Tryz.func187 λ_ _ _ _=>by delta j4V j6z jam j7d;refine gz j2M λ_ b=>gz j2Y λ_ d=> ?_;rewrite[<-b,<-d];kernel_rfl
theorem jnf:FS [(61,j3c),(119,j3U),(142,j7T),(186,j3t),(187,jbV),(188,j7U)]:=(Za5 jeS (Za5 jfm (Za5 jjq (Za5 jcv (Za5 jnN (Za5 jjr Zar))))))
def jaa (b:Int)(s:qS)(d:Unit->Res)(f:Unit->Res):Res:=bif decide (b<0) then bif (s.1 != 5) then f () else bif (s.2.2.2.2.1 != 1) then f () else d () else d ()
def jfO:Z1c Unit:=Nd 77 77 [.t 2 (pB 2),.t 3 (pB 3),.t 4 (pB 4),.I 6] [(2,y26,[.S,.S]),(3,y17,[.S,.S,.S,.S]),(4,y26,[.O,.O])] λf b d=>jaa f.1 b.2.1.2 (λ_=>d .normal [(2,pB 2),(3,pB 3),(4,pB 4),(6,vI f.1)] [(2,⟨y26,b.1.1,b.1.2,[.S,.S]⟩),(3,⟨y17,b.2.1.1,b.2.1.2,[.S,.S,.S,.S]⟩),(4,⟨y26,b.2.2.1.1,b.2.2.1.2,[.O,.O]⟩)]) (λ_=>d .ret [(4,pB 4),(5,vI 4)] [(4,⟨y26,b.2.2.1.1,([],[]),[.O,.O]⟩)])
theorem jsn:CN 0 30 Tryz.f143 jfO:=nK jnf [] oN ([2,3,4,6],[2,3,4]) [] ([4,5],[4]) λ_ _ _=>by kernel_rfl
def j6F (d:qF×List qR)(s:qS)(f:qD->Int->Res):Res:=j2L d λr=>bif !r then f ([],[]) 1 else j2g s λi=>bif !i then f ([],[]) 1 else j1M d.1 s.2.1 λb=>jaa b s (λ_=>bif (s.1==5) then j4V d s λj k=>f j k else bif inb b d.1.length then bif inb b d.2.length then j1G (nth (eS,[],[]) d.1 b) (nth [] d.2 b) s λl h=>bif (h != 0) then f ([],[]) (Z9J (10+h)) else j2r d λg=>bif inb b g.2.length then f (g.1,upd g.2 b l) 0 else none else none else none) (λ_=>f ([],[]) 4)
def jeZ:Sig Unit:=sg [.borrow y26 true,.borrow y17 true] [true,false] [(y26,none),(y17,none)] [] λb g k=>j6F b.1 b.2.1 (λd f=>k [⟨y26,true,d,[.S,.S]⟩,wI f] [] [])
theorem jni:SO 143 jeZ:=fK (np:=0) jnf [jfO] (oI 30 0 @jsn oN) true Tryz.func143 λ_ _ _ _=>by delta j6F j3c j3U j3t jfO jbV j7U j7T;refine gz j2L λ_ b=>gz j2g λ_ d=>gz j1M λ_ f=>gz jaa λ_ g=>gz j4V λ_ h=>gz j1G λ_ i=>gz j2r λ_ j=> ?_;rewrite[<-b,<-d,<-f,<-g,<-h,<-i,<-j];kernel_rfl
theorem jj4:FS [(61,j3c),(142,j7T),(143,jeZ)]:=(Za5 jeS (Za5 jjq (Za5 jni Zar)))
def j4i (d:List qS)(f:Int)(b:Int)(now:qF×List qR)(rec:Int->qD->Res)(h:qD->Res)(i:Int->Int->Res):Res:=bif decide (b<f) then bif inb b d.length then j6F now (nth (0,eS,[],[],0,eS,[],[],eS,eS) d b) λr g=>bif (g != 0) then i g b else rec (Z9J (b+1)) r else none else h now
def j75 (b:List qS)(d:Int):(Int×qD)->(Int×qD->Res)->((qD->Res)×(Int->Int->Res))->Res:=λv rec q=>j4i b d v.1 v.2 (λf now=>rec (f,now)) q.1 q.2
def j9B (b:List qS)(d:Int)(n:Nat)(f:Int)(now:qF×List qR)(g:qD->Res)(h:Int->Int->Res):Res:=Z1e (j75 b d) n (f,now) (g,h)
def jc5:Z1c Unit:=λσ k=>rdN σ 39<|rdT σ 4 (pB 4)<|rdT σ 7 (pB 7)<|rd1 σ 18 y43 .S λd=>rdI σ 19 λf=>rdI σ 20 λg=>rdB σ 4 y26 [.O,.O] λa i=>rdB σ 7 y26 [.S,.S] λh now=>j9B d f Z1b g now (λb=>k (.exit 0) (mkS 39 39 [(4,pB 4),(7,pB 7)] [(4,⟨y26,a,i,[.O,.O]⟩),(7,⟨y26,h,b,[.S,.S]⟩)])) (λj l=>k .ret (mkS 39 39 [(4,pB 4),(5,vI j),(6,vI l)] [(4,⟨y26,a,([],[]),[.O,.O]⟩)]))
def jcg:Z1c Unit:=λσ k=>jc5 (σ.wk [] [(7,[.S,.S])]) k
theorem joi:CN 0 122 Tryz.f96 jcg:=λp=>ZaI [] [(7,[.S,.S])] (jph follows j2e jj4 p [] oN [4,7,18,19,20] [4,7] ([],[]) [(0,[4,7],[4,7])] ([4,5,6],[4]) (y:=jc5) λσ k _ h=>rN h λB h=>rT h λz h=>rT h λA h=>rV h λd g h=>rV h λf i h=>rV h λq j h=>rB h λa w l h=>rB h λr now n h=>⟨_,ZaL (m:=39) B (sC z (sC A (sC g (sC i (sC j sN))))) (bC l (bC n bN)),.trans (Z9t (λv:Int×qD=>(mkS 39 39 [(4,pB 4),(7,pB 7),(18,v1 y43 d .S),(19,vI f),(20,vI v.1)] [(4,⟨y26,a,w,[.O,.O]⟩),(7,⟨y26,r,v.2,[.S,.S]⟩)])) (j75 d f) (λ(k:Z82 Unit)=>(((λb=>k (.exit 0) (mkS 39 39 [(4,pB 4),(7,pB 7)] [(4,⟨y26,a,w,[.O,.O]⟩),(7,⟨y26,r,b,[.S,.S]⟩)])),(λC D=>k .ret (mkS 39 39 [(4,pB 4),(5,vI C),(6,vI D)] [(4,⟨y26,a,([],[]),[.O,.O]⟩)]))):(qD->Res)×(Int->Int->Res))) (λv rec k=>by kernel_rfl) Z1b (q,now) k) h⟩)
def j3w (d:qF×List qR)(l:List qS)(b:qD->Int->Int->Res):Res:=j2L d λr=>bif !r then b ([],[]) 1 0 else j2r d λf=>j9B l (nI l.length) Z1b 0 f (λnow=>b now 0 0) (λt g=>b ([],[]) t g)
def jey:Sig Unit:=sg [.borrow y26 true,.borrow y43 false] [true,false,false] [(y26,none),(y43,none)] [] λb h k=>j3w b.1 b.2.1 (λd f g=>k [⟨y26,true,d,[.S,.S]⟩,wI f,wI g] [] [])
theorem jqm:SO 96 jey:=fK (np:=0) jj4 [jcg] (oI 122 0 @joi oN) true Tryz.func96 λ_ _ _ _=>by delta j3w j3c j7T jcg;delta jc5 j9B;refine gz j2L λ_ b=>gz j2r λ_ d=>gz j75 λ_ f=> ?_;rewrite[<-b,<-d,<-f];kernel_rfl
def jfq (d:Int×Int×qB)(b:Bool->Res):Res:=j1p d λr=>b (!r)
def jpU:Sig Unit:=sg [.look y1 true] [false] [(y1,none)] [] λd f k=>jfq d.1 (λb=>k [wB b] [] [])
theorem jhN:SO 219 jpU:=fK (np:=0) (Za5 j9K Zar) [] oN false Tryz.func219 λ_ _ _ _=>by kernel_rfl
def j17 (s:List qV)(g:Int)(b:Int)(rec:Int->Res)(d:Unit->Res)(f:Int->Res):Res:=bif decide (b<g) then bif inb b s.length then jfq (nth (0,0,eS) s b) λr=>bif r then f b else rec (Z9J (b+1)) else none else d ()
def j4E (s:List qV)(b:Int):Int->(Int->Res)->((Unit->Res)×(Int->Res))->Res:=λv rec q=>j17 s b v (λd=>rec (d)) q.1 q.2
def jaR (s:List qV)(f:Int)(n:Nat)(g:Int)(b:Unit->Res)(d:Int->Res):Res:=Z1e (j4E s f) n (g) (b,d)
def jaj:Z1c Unit:=NdL 19 19 [.R 0 y2 .S,.c 1 219 [] .unit [],.I 7,.I 8] [] (λb d=>(b.2.2.2.1)) (λb v=>(b.1,b.2.1,b.2.2.1,v,())) (λd v=>()) (λb d=>j4E b.1 b.2.2.1) λb d f=>((λ_=>f (.exit 0) [] []),(λg=>f .ret [(4,vI g)] []))
theorem jhf:CN 0 26 Tryz.f244 jaj:=lK (Za5 jhN Zar) [] oN ([],[]) [(0,[],[])] ([4],[]) λ_ _ _ _ _=>by kernel_rfl
def j8w (s:List qV)(f:Unit)(b:Int->Res):Res:=jaR s (nI s.length) Z1b 0 (λ_=>b (-1)) (λt=>b t)
def jiS:Sig Unit:=sg [.look y2 false,.rclos 219 []] [false] [(y2,none),(.unit,none)] [] λb f k=>j8w b.1 b.2.1 (λd=>k [wI d] [] [])
theorem jiJ:SO 244 jiS:=fK (np:=0) (Za5 jhN Zar) [jaj] (oI 26 0 @jhf oN) false Tryz.func244 λ_ _ _ _=>by kernel_rfl
def j2P (s:List qV)(f:Unit)(b:Bool->Res):Res:=j8w s f λr=>b (decide (r>=0))
def j9x:Sig Unit:=sg [.look y2 false,.rclos 219 []] [false] [(y2,none),(.unit,none)] [] λb f k=>j2P b.1 b.2.1 (λd=>k [wB d] [] [])
theorem jg5:SO 218 j9x:=fK (np:=0) (Za5 jiJ Zar) [] oN false Tryz.func218 λ_ _ _ _=>by kernel_rfl
def j2h (l:List qV)(b:Bool->Res):Res:=j0d (nI l.length) 1 8 λr=>bif r then j2P l () λd=>b (!d) else b false
def jet:Sig Unit:=sg [.look y2 false] [false] [(y2,none)] [] λd f k=>j2h d.1 (λb=>k [wB b] [] [])
theorem jqe:SO 176 jet:=fK (np:=0) (Za5 j2G (Za5 jg5 Zar)) [] oN false Tryz.func176 λ_ _ _ _=>by delta j2h j1k j9x;refine gz j0d λ_ b=>gz j2P λ_ d=> ?_;rewrite[<-b,<-d];kernel_rfl
theorem jkK:FS [(66,j3S),(174,j5q),(175,j9u),(176,jet)]:=(Za5 j3P (Za5 jgv (Za5 jcu (Za5 jqe Zar))))
def j7u (s:qS)(b:Bool->Res):Res:=bif (s.1==1) then bif ((nI s.2.2.1.length)==0) then j2h s.2.2.2.1 λr=>b r else b false else bif (s.1==2) then j2h s.2.2.1 λd=>bif d then j2h s.2.2.2.1 λf=>b f else b false else bif (s.1==3) then j2h s.2.2.1 λg=>bif g then b ((nI s.2.2.2.1.length)==0) else b false else bif (s.1==4) then bif ((nI s.2.2.1.length)==0) then b ((nI s.2.2.2.1.length)==0) else b false else b false
def jdy:Z1c Unit:=Nd 91 91 [.t 1 (pB 1)] [(1,y17,[.S,.S,.S,.S])] λg f b=>j7u f.1.2 (λd=>b .ret [(2,vB d)] [])
theorem jpm:CN 0 15 Tryz.f128 jdy:=nK jkK [] oN ([],[]) [] ([2],[]) λ_ _ _=>by delta j7u jet;refine gz j2h λ_ b=> ?_;rewrite[<-b];kernel_rfl
def j1i (s:qS)(b:Bool->Res):Res:=bif (s.1==5) then j38 s.2.2.2.2 λr=>bif r then bif sEq s.2.1 s.2.2.2.2.2.1 then bif ((nI s.2.2.1.length)==0) then b ((nI s.2.2.2.1.length)==0) else b false else b false else b false else j0r s.2.1 λd=>bif !d then b false else j0m s.2.2.2.2 (0,eS,[],[],eS,eS) λf=>bif !f then b false else j7u s λt=>b t
def j2K:Sig Unit:=sg [.look y17 true] [false] [(y17,none)] [] λd f k=>j1i d.1 (λb=>k [wB b] [] [])
theorem jbx:SO 128 j2K:=fK (np:=0) jkK [jdy] (oI 15 0 @jpm oN) false Tryz.func128 λ_ _ _ _=>by delta j1i j5q j3S j9u jdy;refine gz j38 λ_ b=>gz j0r λ_ d=>gz j0m λ_ f=>gz j7u λ_ g=> ?_;rewrite[<-b,<-d,<-f,<-g];kernel_rfl
def j1H (s:qS)(b:qS->Res):Res:=j1j s.2.2.1 λr=>j1j s.2.2.2.1 λd=>jcF s.2.2.2.2 λf=>b (s.1,s.2.1,r,d,f)
def j9s:Sig Unit:=sg [.borrow y17 true] [true] [(y17,none)] [] λd f k=>j1H d.1 (λb=>k [⟨y17,true,b,[.O,.O,.O,.O]⟩] [] [])
theorem j9h:SO 155 j9s:=fK (np:=0) (Za5 j9i (Za5 jqg Zar)) [] oN false Tryz.func155 λ_ _ _ _=>by delta j1H j9t jjJ;refine gz j1j λ_ b=>gz jcF λ_ d=> ?_;rewrite[<-b,<-d];kernel_rfl
theorem jnc:FS [(109,ja0),(110,j2J)]:=(Za5 jlB (Za5 j8M Zar))
def j7p (f:List qT)(g:Int)(d:qF×List qR)(b:Int)(rec:Int->Res)(h:Unit->Res)(i:Unit->Res):Res:=bif decide (b<g) then bif inb b f.length then bif inb b d.2.length then j0W (nth (eS,[],[]) f b) (nth [] d.2 b) λr=>bif !r then i () else rec (Z9J (b+1)) else none else none else h ()
def jat (b:List qT)(f:Int)(d:qF×List qR):Int->(Int->Res)->((Unit->Res)×(Unit->Res))->Res:=λv rec q=>j7p b f d v (λg=>rec (g)) q.1 q.2
def jgX (b:List qT)(f:Int)(d:qF×List qR)(n:Nat)(g:Int)(h:Unit->Res)(i:Unit->Res):Res:=Z1e (jat b f d) n (g) (h,i)
def jfK:Z1c Unit:=NdL 38 38 [.t 1 (pB 1),.R 21 y23 .S,.I 22,.I 23] [(1,y26,[.S,.S])] (λb d=>(b.2.2.1)) (λb v=>(b.1,b.2.1,v,())) (λd v=>((d.1.1,d.1.2),())) (λb d=>jat b.1 b.2.1 d.1.2) λb d f=>((λ_=>f (.exit 0) [] []),(λ_=>f .ret [(2,vB false)] []))
theorem jsh:CN 0 58 Tryz.f67 jfK:=lK jnc [] oN ([],[]) [(0,[],[])] ([2],[]) λ_ _ _ _ _=>by kernel_rfl
def j8a (d:qF×List qR)(b:Bool->Res):Res:=j8i d.1 λr=>bif !r then b false else bif ((nI d.2.length) != (nI d.1.length)) then b false else jgX d.1 (nI d.1.length) d Z1b 0 (λ_=>b true) (λ_=>b false)
def jbt:Sig Unit:=sg [.look y26 true] [false] [(y26,none)] [] λd f k=>j8a d.1 (λb=>k [wB b] [] [])
theorem jng:SO 67 jbt:=fK (np:=0) jnc [jfK] (oI 58 0 @jsh oN) false Tryz.func67 λ_ _ _ _=>by delta j8a ja0 jfK jgX;refine gz j8i λ_ b=>gz jat λ_ d=> ?_;rewrite[<-b,<-d];kernel_rfl
theorem jkL:FS [(195,j7F),(196,j14)]:=(Za5 jjc (Za5 j68 Zar))
def j55 (f:List qR)(g:Int)(d:Int)(b:qF×List qR)(rec:Int->qD->Res)(h:qD->Res):Res:=bif decide (d<g) then bif inb d f.length then j0A (nth [] f d) λr=>bif lim (b.2.length+1) then rec (Z9J (d+1)) (b.1,(b.2++[r])) else none else none else h b
def j8m (d:List qR)(f:Int):(Int×qD)->(Int×qD->Res)->((qD->Res))->Res:=λv rec q=>j55 d f v.1 v.2 (λg b=>rec (g,b)) q
def jeg (d:List qR)(f:Int)(n:Nat)(g:Int)(b:qF×List qR)(h:qD->Res):Res:=Z1e (j8m d f) n (g,b) (h)
def jdA:Z1c Unit:=NdL 28 28 [.t 2 (pB 2),.t 3 (pB 3),.R 11 y25 .S,.I 12,.I 13] [(2,y26,[.O,.O]),(3,y26,[.O,.O])] (λd b=>(d.2.2.1,b.2.1.2)) (λd v=>(d.1,d.2.1,v.1,())) (λb v=>((b.1.1,b.1.2),(b.2.1.1,v.2),())) (λd b=>j8m d.1 d.2.1) λd b g=>((λf=>g (.exit 0) [(2,pB 2),(3,pB 3)] [(2,⟨y26,b.1.1,b.1.2,[.O,.O]⟩),(3,⟨y26,b.2.1.1,f,[.O,.O]⟩)]))
theorem jpo:CN 0 58 Tryz.f153 jdA:=lK jkL [] oN ([],[]) [(0,[2,3],[2,3])] ([],[]) λ_ _ _ _ _=>by kernel_rfl
def j1C (d:qF×List qR)(f:qD->Res):Res:=j54 d.1 λr=>jeg d.2 (nI d.2.length) Z1b 0 (r,[]) λb=>f b
def j3T:Sig Unit:=sg [.borrow y26 true] [true] [(y26,none)] [] λd f k=>j1C d.1 (λb=>k [⟨y26,true,b,[.O,.O]⟩] [] [])
theorem jfl:SO 153 j3T:=fK (np:=0) jkL [jdA] (oI 58 0 @jpo oN) false Tryz.func153 λ_ _ _ _=>by delta j1C j7F jdA jeg;refine gz j54 λ_ b=>gz j8m λ_ d=> ?_;rewrite[<-b,<-d];kernel_rfl
theorem jj2:FS [(153,j3T),(197,j0S),(232,jd2),(233,j8t),(234,j8s),(235,jes)]:=(Za5 jfl (Za5 j8L (Za5 joN (Za5 jk8 (Za5 jk7 (Za5 jqd Zar))))))
def j3F (f:Int)(h:Int)(d:qF×List qR)(x:qG)(c:List qT)(b:qF×List qR)(g:qD->Res):Res:=bif (h==1) then Z86 (j0o c x.2.1 λr=>j25 b.2 r [[]] λi=>g (b.1,i)) (Z86 (j0o c x.2.1 λj=>j25 b.2 j [[]] λk=>g (b.1,k)) (j0o c x.2.1 λl=>j25 b.2 l [[]] λm=>g (b.1,m))) else bif (h==2) then j6A b.2 f (Z9J (f+1)) λn=>g (b.1,n) else bif inb f d.1.length then bif inb f d.2.length then j7t (nth (eS,[],[]) d.1 f) (nth [] d.2 f) x λp q=>bif inb f b.2.length then g (b.1,upd b.2 f p) else none else none else none
def jcb:Z1c Unit:=Nd 79 79 [.t 2 (pB 2),.t 3 (pB 3),.t 4 (pB 4),.t 6 (pB 6),.t 8 (pB 8),.I 9,.I 31] [(2,y26,[.S,.S]),(3,y13,[.S,.S]),(4,y26,[.O,.O]),(6,y23,[.O]),(8,y26,[.O,.O])] λf b g=>j3F f.1 f.2.1 b.1.2 b.2.1.2 b.2.2.2.1.2 b.2.2.2.2.1.2 (λd=>g .normal [(4,pB 4),(6,pB 6),(8,pB 8)] [(4,⟨y26,b.2.2.1.1,b.2.2.1.2,[.O,.O]⟩),(6,⟨y23,b.2.2.2.1.1,b.2.2.2.1.2,[.O]⟩),(8,⟨y26,b.2.2.2.2.1.1,d,[.O,.O]⟩)])
theorem jo8:CN 0 253 Tryz.f198 jcb:=nK jj2 [] oN ([4,6,8],[4,6,8]) [] ([],[]) λ_ _ _=>by delta j3F j0S j8t j8s jes;refine gz j0o λ_ b=>gz j25 λ_ d=>gz j6A λ_ f=>gz j7t λ_ g=> ?_;rewrite[<-b,<-d,<-f,<-g];kernel_rfl
def j7v (d:qF×List qR)(x:qG)(f:qD->Int->Res):Res:=j61 d.1 x λr g=>bif (g != 0) then f ([],[]) g else j1C d λh=>j0o d.1 x.2.1 λi=>j3F i x.1 d x r h λb=>f (r,b.2) 0
def jeu:Sig Unit:=sg [.borrow y26 true,.borrow y13 true] [true,false] [(y26,none),(y13,none)] [] λb g k=>j7v b.1 b.2.1 (λd f=>k [⟨y26,true,d,[.O,.O]⟩,wI f] [] [])
theorem jqf:SO 198 jeu:=fK (np:=0) jj2 [jcb] (oI 253 0 @jo8 oN) false Tryz.func198 λ_ _ _ _=>by delta j7v jd2 j3T j0S jcb;refine gz j61 λ_ b=>gz j1C λ_ d=>gz j0o λ_ f=>gz j3F λ_ g=> ?_;rewrite[<-b,<-d,<-f,<-g];kernel_rfl
theorem jeR:FS [(153,j3T),(197,j0S),(198,jeu),(199,jfv),(200,jfw),(201,jfu)]:=(Za5 jfl (Za5 j8L (Za5 jqf (Za5 jrS (Za5 jrT (Za5 jrR Zar))))))
def j9V (f:Int)(s:qS)(b:Unit->Res)(d:Unit->Res):Res:=bif decide (f<0) then bif (s.1 != 5) then d () else bif (s.2.2.2.2.1 != 1) then d () else b () else b ()
def j8Y:Z1c Unit:=Nd 108 108 [.t 2 (pB 2),.t 3 (pB 3),.t 4 (pB 4),.I 6] [(2,y26,[.S,.S]),(3,y17,[.S,.S,.S,.S]),(4,y26,[.O,.O])] λf b d=>j9V f.1 b.2.1.2 (λ_=>d .normal [(2,pB 2),(3,pB 3),(4,pB 4),(6,vI f.1)] [(2,⟨y26,b.1.1,b.1.2,[.S,.S]⟩),(3,⟨y17,b.2.1.1,b.2.1.2,[.S,.S,.S,.S]⟩),(4,⟨y26,b.2.2.1.1,b.2.2.1.2,[.O,.O]⟩)]) (λ_=>d .ret [(4,pB 4),(5,vI 4)] [(4,⟨y26,b.2.2.1.1,([],[]),[.O,.O]⟩)])
theorem jsi:CN 0 14 Tryz.f154 j8Y:=nK jeR [] oN ([2,3,4,6],[2,3,4]) [] ([4,5],[4]) λ_ _ _=>by kernel_rfl
def jcG (f:Int)(d:qF×List qR)(b:Unit->Res):Res:=bif inb f d.1.length then Z86 (Z86 (Z86 (Z86 (bif inb f d.2.length then Z86 (Z86 (b ()) (Z86 (b ()) (b ()))) (Z86 (Z86 (b ()) (b ())) (b ())) else none) (Z86 (bif inb f d.2.length then Z86 (Z86 (b ()) (b ())) (b ()) else none) (bif inb f d.2.length then b () else none))) (Z86 (Z86 (bif inb f d.2.length then Z86 (Z86 (b ()) (b ())) (b ()) else none) (bif inb f d.2.length then b () else none)) (bif inb f d.2.length then b () else none))) (Z86 (Z86 (Z86 (bif inb f d.2.length then Z86 (Z86 (b ()) (Z86 (b ()) (b ()))) (Z86 (Z86 (b ()) (b ())) (b ())) else none) (Z86 (bif inb f d.2.length then Z86 (Z86 (b ()) (b ())) (b ()) else none) (bif inb f d.2.length then b () else none))) (Z86 (Z86 (bif inb f d.2.length then Z86 (Z86 (b ()) (b ())) (b ()) else none) (bif inb f d.2.length then b () else none)) (bif inb f d.2.length then b () else none))) (Z86 (Z86 (Z86 (bif inb f d.2.length then Z86 (Z86 (b ()) (b ())) (b ()) else none) (bif inb f d.2.length then b () else none)) (bif inb f d.2.length then b () else none)) (Z86 (Z86 (Z86 (bif inb f d.2.length then Z86 (Z86 (b ()) (b ())) (b ()) else none) (bif inb f d.2.length then b () else none)) (bif inb f d.2.length then b () else none)) (bif inb f d.2.length then b () else none))))) (Z86 (Z86 (Z86 (Z86 (bif inb f d.2.length then Z86 (Z86 (b ()) (Z86 (b ()) (b ()))) (Z86 (Z86 (b ()) (b ())) (b ())) else none) (Z86 (bif inb f d.2.length then Z86 (Z86 (b ()) (b ())) (b ()) else none) (bif inb f d.2.length then b () else none))) (Z86 (Z86 (bif inb f d.2.length then Z86 (Z86 (b ()) (b ())) (b ()) else none) (bif inb f d.2.length then b () else none)) (bif inb f d.2.length then b () else none))) (Z86 (Z86 (Z86 (bif inb f d.2.length then Z86 (Z86 (b ()) (b ())) (b ()) else none) (bif inb f d.2.length then b () else none)) (bif inb f d.2.length then b () else none)) (bif inb f d.2.length then b () else none))) (Z86 (Z86 (Z86 (Z86 (bif inb f d.2.length then Z86 (Z86 (b ()) (b ())) (b ()) else none) (bif inb f d.2.length then b () else none)) (bif inb f d.2.length then b () else none)) (Z86 (Z86 (Z86 (bif inb f d.2.length then Z86 (Z86 (b ()) (b ())) (b ()) else none) (bif inb f d.2.length then b () else none)) (bif inb f d.2.length then b () else none)) (bif inb f d.2.length then b () else none))) (Z86 (Z86 (Z86 (Z86 (bif inb f d.2.length then Z86 (Z86 (b ()) (b ())) (b ()) else none) (bif inb f d.2.length then b () else none)) (bif inb f d.2.length then b () else none)) (bif inb f d.2.length then b () else none)) (bif inb f d.2.length then b () else none)))) else none
def jbD:Z1c Unit:=Nd 108 108 [.t 2 (pB 2),.t 3 (pB 3),.t 4 (pB 4),.I 6] [(2,y26,[.S,.S]),(3,y17,[.S,.S,.S,.S]),(4,y26,[.O,.O])] λd b f=>jcG d.1 b.1.2 (λ_=>f .normal [(2,pB 2),(3,pB 3),(4,pB 4),(6,vI d.1),(9,pB 9),(10,v1 y24 (nth [] b.1.2.2 d.1) .S)] [(2,⟨y26,b.1.1,b.1.2,[.S,.S]⟩),(3,⟨y17,b.2.1.1,b.2.1.2,[.S,.S,.S,.S]⟩),(4,⟨y26,b.2.2.1.1,b.2.2.1.2,[.O,.O]⟩),(9,⟨y22,false,nth (eS,[],[]) b.1.2.1 d.1,[.S,.S]⟩)])
theorem jsj:CN 0 62 Tryz.f154 jbD:=nK jeR [j8Y] oN ([2,3,4,6,9,10],[2,3,4,9]) [] ([],[]) λ_ _ _=>by kernel_rfl
def j7x (l:List qW)(code:Int)(b:Int)(s:qS)(t:qB×qE×qL)(d:qR->Int->Res):Res:=bif (b==1) then j92 t l s.2.2.2.1 λr f=>d r f else bif (b==2) then j93 t l s.2.2.1 s.2.2.2.1 λg h=>d g h else bif (b==3) then j91 t l s.2.2.1 λi j=>d i j else d [] code
def jfL:Z1c Unit:=Nd 108 108 [.t 2 (pB 2),.t 3 (pB 3),.t 4 (pB 4),.I 6,.t 9 (pB 9),.R 10 y24 .S,.I 11,.I 61] [(2,y26,[.S,.S]),(3,y17,[.S,.S,.S,.S]),(4,y26,[.O,.O]),(9,y22,[.S,.S])] λf d g=>j7x f.2.1 f.2.2.1 f.2.2.2.1 d.2.1.2 d.2.2.2.1.2 (λh b=>g .normal [(2,pB 2),(4,pB 4),(6,vI f.1),(10,v1 y24 h .O),(11,vI b)] [(2,⟨y26,d.1.1,d.1.2,[.S,.S]⟩),(4,⟨y26,d.2.2.1.1,d.2.2.1.2,[.O,.O]⟩)])
theorem jsk:CN 0 509 Tryz.f154 jfL:=nK jeR [j8Y,jbD] oN ([2,4,6,10,11],[2,4]) [] ([],[]) λ_ _ _=>by delta j7x jfv jfw jfu;refine gz j92 λ_ b=>gz j93 λ_ d=>gz j91 λ_ f=> ?_;rewrite[<-b,<-d,<-f];kernel_rfl
def j8b (d:qF×List qR)(s:qS)(b:qD->Int->Res):Res:=j0o d.1 s.2.1 λr=>j9V r s (λ_=>bif (s.1==5) then j7v d s.2.2.2.2 λh g=>bif (g != 0) then b ([],[]) (Z9J (10+g)) else b h 0 else jcG r d λ_=>j7x (nth [] d.2 r) 0 s.1 s (nth (eS,[],[]) d.1 r) λl code=>bif (code != 0) then b ([],[]) (Z9J (10+code)) else j1C d λf=>bif inb r f.2.length then b (f.1,upd f.2 r l) 0 else none) (λ_=>b ([],[]) 4)
def jbu:Sig Unit:=sg [.borrow y26 true,.borrow y17 true] [true,false] [(y26,none),(y17,none)] [] λb g k=>j8b b.1 b.2.1 (λd f=>k [⟨y26,true,d,[.O,.O]⟩,wI f] [] [])
theorem jnh:SO 154 jbu:=fK (np:=0) jeR [j8Y,jbD,jfL] (oI 14 0 @jsi (oI 62 1 @jsj (oI 509 2 @jsk oN))) false Tryz.func154 λ_ _ _ _=>by delta j8b j0S j8Y jeu jbD jfL j3T;refine gz j0o λ_ b=>gz j9V λ_ d=>gz j7v λ_ f=>gz jcG λ_ g=>gz j7x λ_ h=>gz j1C λ_ i=> ?_;rewrite[<-b,<-d,<-f,<-g,<-h,<-i];kernel_rfl
theorem jj1:FS [(67,jbt),(128,j2K),(153,j3T),(154,jbu)]:=(Za5 jng (Za5 jbx (Za5 jfl (Za5 jnh Zar))))
def j2v (d:List qS)(g:Int)(b:Int)(f:qF×List qR)(rec:Int->qD->Res)(j:qD->Res)(h:Int->Int->Res):Res:=bif decide (b<g) then bif inb b d.length then j1i (nth (0,eS,[],[],0,eS,[],[],eS,eS) d b) λr=>bif !r then h 1 b else j8b f (nth (0,eS,[],[],0,eS,[],[],eS,eS) d b) λk i=>bif (i != 0) then h i b else rec (Z9J (b+1)) k else none else j f
def j3Z (d:List qS)(f:Int):(Int×qD)->(Int×qD->Res)->((qD->Res)×(Int->Int->Res))->Res:=λv rec q=>j2v d f v.1 v.2 (λg b=>rec (g,b)) q.1 q.2
def jcC (d:List qS)(f:Int)(n:Nat)(g:Int)(b:qF×List qR)(h:qD->Res)(i:Int->Int->Res):Res:=Z1e (j3Z d f) n (g,b) (h,i)
def jc7:Z1c Unit:=NdL 44 44 [.t 4 (pB 4),.t 7 (pB 7),.R 18 y43 .S,.I 19,.I 20] [(4,y26,[.O,.O]),(7,y26,[.O,.O])] (λd b=>(d.2.2.1,b.2.1.2)) (λd v=>(d.1,d.2.1,v.1,())) (λb v=>((b.1.1,b.1.2),(b.2.1.1,v.2),())) (λd b=>j3Z d.1 d.2.1) λd b g=>((λf=>g (.exit 0) [(4,pB 4),(7,pB 7)] [(4,⟨y26,b.1.1,b.1.2,[.O,.O]⟩),(7,⟨y26,b.2.1.1,f,[.O,.O]⟩)]),(λh i=>g .ret [(4,pB 4),(5,vI h),(6,vI i)] [(4,⟨y26,b.1.1,([],[]),[.O,.O]⟩)]))
theorem jnY:CN 0 122 Tryz.f105 jc7:=lK jj1 [] oN ([],[]) [(0,[4,7],[4,7])] ([4,5,6],[4]) λ_ _ _ _ _=>by delta j3Z j2v j2K jbu;refine gz j1i λ_ b=>gz j8b λ_ d=> ?_;rewrite[<-b,<-d];kernel_rfl
def j3i (d:qF×List qR)(l:List qS)(b:qD->Int->Int->Res):Res:=j8a d λr=>bif !r then b ([],[]) 1 0 else j1C d λg=>jcC l (nI l.length) Z1b 0 g (λf=>b f 0 0) (λt h=>b ([],[]) t h)
def jer:Sig Unit:=sg [.borrow y26 true,.borrow y43 false] [true,false,false] [(y26,none),(y43,none)] [] λb h k=>j3i b.1 b.2.1 (λd f g=>k [⟨y26,true,d,[.O,.O]⟩,wI f,wI g] [] [])
theorem jqb:SO 105 jer:=fK (np:=0) jj1 [jc7] (oI 122 0 @jnY oN) false Tryz.func105 λ_ _ _ _=>by delta j3i jbt j3T jc7 jcC;refine gz j8a λ_ b=>gz j1C λ_ d=>gz j3Z λ_ f=> ?_;rewrite[<-b,<-d,<-f];kernel_rfl
end
end Go.PI.G
namespace Go.PI.G
noncomputable section
open Go Go.PI Go.Proofs
open Go.Code (pl pr)
def j87 (s:qS)(b:Bool->Res):Res:=bif (s.1==0) then bif sEq s.2.1 eS then bif ((nI s.2.2.1.length)==0) then bif ((nI s.2.2.2.1.length)==0) then j1N s.2.2.2.2 λr=>b r else b false else b false else b false else b false
def jbW:Sig Unit:=sg [.look y17 true] [false] [(y17,none)] [] λd f k=>j87 d.1 (λb=>k [wB b] [] [])
theorem jnO:SO 140 jbW:=fK (np:=0) (Za5 jhS Zar) [] oN false Tryz.func140 λ_ _ _ _=>by kernel_rfl
theorem jly:FS [(119,j3U),(140,jbW)]:=(Za5 jfm (Za5 jnO Zar))
def jbC (r:Int×Int×qS)(b:Bool->Res):Res:=bif decide (r.1<1) then b true else bif decide (r.1>4) then b true else bif decide (r.2.1<1) then b true else b (decide (r.2.1>1000000))
def jeO:Z1c Unit:=Nd 30 30 [.t 1 (pB 1)] [(1,y19,[.S,.S,.S,.S])] λg d f=>jbC d.1.2 (λb=>f .normal [(1,pB 1),(20,vB b)] [(1,⟨y19,d.1.1,d.1.2,[.S,.S,.S,.S]⟩)])
theorem jqU:CN 0 12 Tryz.f92 jeO:=nK jly [] oN ([1,20],[1]) [] ([],[]) λ_ _ _=>by kernel_rfl
def jaJ (r:Int×Int×qS)(b:Bool->Res):Res:=jbC r λt=>bif t then b false else bif (r.1==2) then j2g r.2.2 λd=>b d else j87 r.2.2 λf=>b f
def jhq:Sig Unit:=sg [.look y19 true] [false] [(y19,none)] [] λd f k=>jaJ d.1 (λb=>k [wB b] [] [])
theorem jsY:SO 92 jhq:=fK (np:=0) jly [jeO] (oI 12 0 @jqU oN) false Tryz.func92 λ_ _ _ _=>by delta jaJ jeO j3U jbW;refine gz jbC λ_ b=>gz j2g λ_ d=>gz j87 λ_ f=> ?_;rewrite[<-b,<-d,<-f];kernel_rfl
def j83 (f:Int)(d:List qP)(i:Int)(b:Int)(rec:Int->Res)(g:Unit->Res)(h:Unit->Res):Res:=bif decide (b<i) then bif inb b d.length then bif ((nth (0,0,0,eS,[],[],0,eS,[],[],eS,eS) d b).1==1) then bif ((nth (0,0,0,eS,[],[],0,eS,[],[],eS,eS) d b).2.1==f) then h () else rec (Z9J (b+1)) else rec (Z9J (b+1)) else none else g ()
def jeG (b:Int)(d:List qP)(f:Int):Int->(Int->Res)->((Unit->Res)×(Unit->Res))->Res:=λv rec q=>j83 b d f v (λg=>rec (g)) q.1 q.2
def jmA (b:Int)(g:List qP)(h:Int)(n:Nat)(i:Int)(d:Unit->Res)(f:Unit->Res):Res:=Z1e (jeG b g h) n (i) (d,f)
def jlo:Z1c Unit:=NdL 23 23 [.I 1,.R 7 y20 .S,.I 8,.I 9] [] (λb d=>(b.2.2.2.1)) (λb v=>(b.1,b.2.1,b.2.2.1,v,())) (λd v=>()) (λb d=>jeG b.1 b.2.1 b.2.2.1) λb d f=>((λ_=>f (.exit 0) [] []),(λ_=>f .ret [(4,vB true)] []))
theorem jsq:CN 0 26 Tryz.f93 jlo:=lK Zar [] oN ([],[]) [(0,[],[])] ([4],[]) λ_ _ _ _ _=>by kernel_rfl
def jfc (l:List qP)(b:Int)(d:Bool->Res):Res:=jmA b l (nI l.length) Z1b 0 (λ_=>d false) (λ_=>d true)
def jiW:Sig Unit:=sg [.look y20 false,.look tI false] [false] [(y20,none),(tI,none)] [] λb f k=>jfc b.1 b.2.1 (λd=>k [wB d] [] [])
theorem jun:SO 93 jiW:=fK (np:=0) Zar [jlo] (oI 26 0 @jsq oN) false Tryz.func93 λ_ _ _ _=>by kernel_rfl
def j5G (h:Int)(d:List Int)(i:Int)(b:Int)(rec:Int->Res)(f:Unit->Res)(g:Unit->Res):Res:=bif decide (b<i) then bif inb b d.length then bif ((nth 0 d b)==h) then g () else rec (Z9J (b+1)) else none else f ()
def jc4 (b:Int)(d:List Int)(f:Int):Int->(Int->Res)->((Unit->Res)×(Unit->Res))->Res:=λv rec q=>j5G b d f v (λg=>rec (g)) q.1 q.2
def jjV (f:Int)(g:List Int)(h:Int)(n:Nat)(i:Int)(b:Unit->Res)(d:Unit->Res):Res:=Z1e (jc4 f g h) n (i) (b,d)
def jiF:Z1c Unit:=NdL 17 17 [.I 1,.R 7 y31 .S,.I 8,.I 9] [] (λb d=>(b.2.2.2.1)) (λb v=>(b.1,b.2.1,b.2.2.1,v,())) (λd v=>()) (λb d=>jc4 b.1 b.2.1 b.2.2.1) λb d f=>((λ_=>f (.exit 0) [] []),(λ_=>f .ret [(4,vB true)] []))
theorem jpP:CN 0 26 Tryz.f94 jiF:=lK Zar [] oN ([],[]) [(0,[],[])] ([4],[]) λ_ _ _ _ _=>by kernel_rfl
def j6Y (l:List Int)(d:Int)(b:Bool->Res):Res:=jjV d l (nI l.length) Z1b 0 (λ_=>b false) (λ_=>b true)
def jbB:Sig Unit:=sg [.look y31 false,.look tI false] [false] [(y31,none),(tI,none)] [] λb f k=>j6Y b.1 b.2.1 (λd=>k [wB d] [] [])
theorem jl1:SO 94 jbB:=fK (np:=0) Zar [jiF] (oI 26 0 @jpP oN) false Tryz.func94 λ_ _ _ _=>by kernel_rfl
def j5F (i:Int)(g:List Int)(f:Int)(d:List Int)(b:Int)(rec:(List Int)->Int->Res)(h:(List Int)->Res):Res:=bif decide (b<f) then bif inb b g.length then bif ((nth 0 g b) != i) then bif lim (d.length+1) then rec (d++[nth 0 g b]) (Z9J (b+1)) else none else rec d (Z9J (b+1)) else none else h d
def jc3 (g:Int)(h:List Int)(d:Int):((List Int)×Int)->((List Int)×Int->Res)->(((List Int)->Res))->Res:=λv rec q=>j5F g h d v.1 v.2 (λb f=>rec (b,f)) q
def jjU (h:Int)(i:List Int)(d:Int)(n:Nat)(b:List Int)(f:Int)(g:(List Int)->Res):Res:=Z1e (jc3 h i d) n (b,f) (g)
def jiE:Z1c Unit:=NdL 24 24 [.I 1,.R 5 y31 .O,.R 9 y31 .S,.I 10,.I 11] [] (λb f=>(b.2.1,b.2.2.2.2.1)) (λb v=>(b.1,v.1,b.2.2.1,b.2.2.2.1,v.2,())) (λf v=>()) (λb f=>jc3 b.1 b.2.2.1 b.2.2.2.1) λb f g=>((λd=>g (.exit 0) [(5,v1 y31 d .O)] []))
theorem jpO:CN 0 58 Tryz.f141 jiE:=lK Zar [] oN ([],[]) [(0,[5],[])] ([],[]) λ_ _ _ _ _=>by kernel_rfl
def j9c (l:List Int)(f:Int)(d:(List Int)->Res):Res:=jjU f l (nI l.length) Z1b [] 0 λb=>d b
def jfD:Sig Unit:=sg [.borrow y31 false,.borrow tI false] [false] [(y31,none),(tI,none)] [] λb f k=>j9c b.1 b.2.1 (λd=>k [w1 y31 d .O] [] [])
theorem js9:SO 141 jfD:=fK (np:=0) Zar [jiE] (oI 58 0 @jpO oN) false Tryz.func141 λ_ _ _ _=>by kernel_rfl
theorem jiG:FS [(94,jbB),(141,jfD)]:=(Za5 jl1 (Za5 js9 Zar))
def jdm (b:List Int)(r:Int×Int×qS)(d:(List Int)->Res):Res:=bif (r.1==1) then j6Y b r.2.1 λf=>bif !f then bif lim (b.length+1) then d (b++[r.2.1]) else none else d b else d b
def jbE:Z1c Unit:=Nd 42 42 [.R 3 y31 .O,.t 5 (pB 5),.R 7 y20 .S,.I 8,.I 9] [(5,y19,[.S,.S,.S,.S])] λd f g=>jdm d.1 f.1.2 (λb=>g .normal [(3,v1 y31 b .O),(5,pB 5),(7,v1 y20 d.2.1 .S),(8,vI d.2.2.1),(9,vI d.2.2.2.1)] [(5,⟨y19,f.1.1,f.1.2,[.S,.S,.S,.S]⟩)])
theorem jsp:CN 0 7474 Tryz.f95 jbE:=nK jiG [] oN ([3,5,7,8,9],[5]) [] ([],[]) λ_ _ _=>by kernel_rfl
def j4S (f:List qP)(j:Int)(g:List Int)(d:Int)(rec:(List Int)->Int->Res)(h:(List Int)->Res):Res:=bif decide (d<j) then bif inb d f.length then jdm g (nth (0,0,0,eS,[],[],0,eS,[],[],eS,eS) f d) λb=>bif ((nth (0,0,0,eS,[],[],0,eS,[],[],eS,eS) f d).1==3) then j9c b (nth (0,0,0,eS,[],[],0,eS,[],[],eS,eS) f d).2.1 λr=>rec r (Z9J (d+1)) else bif ((nth (0,0,0,eS,[],[],0,eS,[],[],eS,eS) f d).1==4) then j9c b (nth (0,0,0,eS,[],[],0,eS,[],[],eS,eS) f d).2.1 λi=>rec i (Z9J (d+1)) else rec b (Z9J (d+1)) else none else h g
def jaI (d:List qP)(f:Int):((List Int)×Int)->((List Int)×Int->Res)->(((List Int)->Res))->Res:=λv rec q=>j4S d f v.1 v.2 (λb g=>rec (b,g)) q
def jmz (f:List qP)(g:Int)(n:Nat)(b:List Int)(h:Int)(d:(List Int)->Res):Res:=Z1e (jaI f g) n (b,h) (d)
def jln:Z1c Unit:=NdL 42 42 [.R 3 y31 .O,.R 7 y20 .S,.I 8,.I 9] [] (λb f=>(b.1,b.2.2.2.1)) (λb v=>(v.1,b.2.1,b.2.2.1,v.2,())) (λf v=>()) (λb f=>jaI b.2.1 b.2.2.1) λb f g=>((λd=>g (.exit 0) [(3,v1 y31 d .O)] []))
theorem jso:CN 0 58 Tryz.f95 jln:=lK jiG [jbE] (oI 114 0 @jsp oN) ([],[]) [(0,[3],[])] ([],[]) λ_ _ _ _ _=>by delta jaI j4S jbE jfD;refine gz jdm λ_ b=>gz j9c λ_ d=> ?_;rewrite[<-b,<-d];kernel_rfl
def jcq (l:List qP)(d:(List Int)->Res):Res:=jmz l (nI l.length) Z1b [] 0 λb=>d b
def jiU:Sig Unit:=sg [.borrow y20 false] [false] [(y20,none)] [] λd f k=>jcq d.1 (λb=>k [w1 y31 b .O] [] [])
theorem jul:SO 95 jiU:=fK (np:=0) jiG [jbE,jln] (oI 58 1 @jso oN) false Tryz.func95 λ_ _ _ _=>by kernel_rfl
def j0U (s:qS)(b:qS->Res):Res:=bif lim (0+s.2.2.1.length) then j0H s.2.2.2.1 λr=>bif lim (0+s.2.2.2.2.2.2.1.length) then bif lim (0+s.2.2.2.2.2.2.2.1.length) then b (s.1,s.2.1,s.2.2.1,r,s.2.2.2.2.1,s.2.2.2.2.2.1,s.2.2.2.2.2.2.1,s.2.2.2.2.2.2.2.1,s.2.2.2.2.2.2.2.2) else none else none else none
def jaE:Sig Unit:=sg [.borrow y17 true] [true] [(y17,none)] [] λd f k=>j0U d.1 (λb=>k [⟨y17,true,b,[.O,.O,.O,.O]⟩] [] [])
theorem jar:SO 122 jaE:=fK (np:=0) (Za5 j60 Zar) [] oN false Tryz.func122 λ_ _ _ _=>by kernel_rfl
def j4o (h:Int)(f:List qP)(g:Int)(d:List qS)(b:Int)(rec:qU->Int->Res)(i:qU->Res):Res:=bif decide (b<g) then bif inb b f.length then bif ((nth (0,0,0,eS,[],[],0,eS,[],[],eS,eS) f b).1==2) then bif ((nth (0,0,0,eS,[],[],0,eS,[],[],eS,eS) f b).2.1==h) then j0U (nth (0,0,0,eS,[],[],0,eS,[],[],eS,eS) f b).2.2 λr=>bif lim (d.length+1) then rec (d++[r]) (Z9J (b+1)) else none else rec d (Z9J (b+1)) else rec d (Z9J (b+1)) else none else i d
def jb6 (g:Int)(h:List qP)(d:Int):(qU×Int)->(qU×Int->Res)->((qU->Res))->Res:=λv rec q=>j4o g h d v.1 v.2 (λb f=>rec (b,f)) q
def jii (g:Int)(i:List qP)(d:Int)(n:Nat)(b:List qS)(f:Int)(h:qU->Res):Res:=Z1e (jb6 g i d) n (b,f) (h)
def jhB:Z1c Unit:=NdL 32 32 [.I 1,.R 5 y43 .O,.R 9 y20 .S,.I 10,.I 11] [] (λb f=>(b.2.1,b.2.2.2.2.1)) (λb v=>(b.1,v.1,b.2.2.1,b.2.2.2.1,v.2,())) (λf v=>()) (λb f=>jb6 b.1 b.2.2.1 b.2.2.2.1) λb f g=>((λd=>g (.exit 0) [(5,v1 y43 d .O)] []))
theorem jor:CN 0 58 Tryz.f97 jhB:=lK (Za5 jar Zar) [] oN ([],[]) [(0,[5],[])] ([],[]) λ_ _ _ _ _=>by kernel_rfl
def j3y (l:List qP)(d:Int)(f:qU->Res):Res:=jii d l (nI l.length) Z1b [] 0 λb=>f b
def j7R:Sig Unit:=sg [.borrow y20 false,.borrow tI false] [false] [(y20,none),(tI,none)] [] λb f k=>j3y b.1 b.2.1 (λd=>k [w1 y43 d .O] [] [])
theorem jjl:SO 97 j7R:=fK (np:=0) (Za5 jar Zar) [jhB] (oI 58 0 @jor oN) false Tryz.func97 λ_ _ _ _=>by kernel_rfl
theorem jaq:FS [(92,jhq),(93,jiW),(94,jbB),(95,jiU),(96,jey),(97,j7R)]:=(Za5 jsY (Za5 jun (Za5 jl1 (Za5 jul (Za5 jqm (Za5 jjl Zar))))))
def j3L (l:List qP)(i:Int)(r:Int×Int×qS)(b:Bool->Res):Res:=jaJ r λd=>bif !d then b true else bif (r.1==1) then bif Z8d 0 i l.length then jfc (sub l 0 i) r.2.1 λf=>bif f then b true else bif (r.1 != 1) then bif Z8d 0 i l.length then jcq (sub l 0 i) λg=>j6Y g r.2.1 λh=>b (!h) else none else b false else none else bif (r.1 != 1) then bif Z8d 0 i l.length then jcq (sub l 0 i) λj=>j6Y j r.2.1 λk=>b (!k) else none else b false
def j5M:Z1c Unit:=Nd 74 74 [.R 0 y20 .S,.t 2 (pB 2),.t 4 (pB 4),.I 5,.t 6 (pB 6),.R 11 y20 .S,.I 12,.I 13] [(2,y26,[.O,.O]),(4,y26,[.N,.N]),(6,y19,[.S,.S,.S,.S])] λb d g=>j3L b.1 b.2.1 d.2.2.1.2 (λf=>g .normal [(0,v1 y20 b.1 .S),(2,pB 2),(4,pB 4),(5,vI b.2.1),(6,pB 6),(11,v1 y20 b.2.2.1 .S),(12,vI b.2.2.2.1),(13,vI b.2.2.2.2.1),(48,vB f)] [(2,⟨y26,d.1.1,d.1.2,[.O,.O]⟩),(4,⟨y26,d.2.1.1,d.2.1.2,[.N,.N]⟩),(6,⟨y19,d.2.2.1.1,d.2.2.1.2,[.S,.S,.S,.S]⟩)])
theorem joA:CN 0 14948 Tryz.f59 j5M:=nK jaq [] oN ([0,2,4,5,6,11,12,13,48],[2,4,6]) [] ([],[]) λ_ _ _=>by delta j3L jhq jiW jiU jbB;refine gz jaJ λ_ b=>gz jfc λ_ d=>gz jcq λ_ f=>gz j6Y λ_ g=> ?_;rewrite[<-b,<-d,<-f,<-g];kernel_rfl
def j3M (l:List qP)(i:Int)(d:qF×List qR)(r:Int×Int×qS)(b:Int->qD->Res):Res:=bif Z8d 0 i l.length then Z86 (j3y (sub l 0 i) r.2.1 λn=>Z86 (j3w d n λg h w=>Z86 (Z86 (b h g) (Z86 (b h g) (b h g))) (Z86 (Z86 (b h g) (Z86 (b h g) (b h g))) (Z86 (Z86 (b h g) (b h g)) (Z86 (Z86 (b h g) (b h g)) (b h g))))) (j3w d n λj k y=>Z86 (Z86 (b k j) (b k j)) (Z86 (Z86 (b k j) (b k j)) (b k j)))) (j3y (sub l 0 i) r.2.1 λq=>j3w d q λm f p=>Z86 (Z86 (b f m) (b f m)) (Z86 (Z86 (b f m) (b f m)) (b f m))) else none
def j8J:Z1c Unit:=Nd 74 74 [.R 0 y20 .S,.t 2 (pB 2),.t 4 (pB 4),.I 5,.t 6 (pB 6),.R 11 y20 .S,.I 12,.I 13] [(2,y26,[.O,.O]),(4,y26,[.N,.N]),(6,y19,[.S,.S,.S,.S])] λb d f=>j3M b.1 b.2.1 d.2.1.2 d.2.2.1.2 (λcode next=>f .normal [(0,v1 y20 b.1 .S),(2,pB 2),(4,pB 4),(7,pB 7),(8,vI code),(11,v1 y20 b.2.2.1 .S),(12,vI b.2.2.2.1),(13,vI b.2.2.2.2.1)] [(2,⟨y26,d.1.1,d.1.2,[.O,.O]⟩),(4,⟨y26,d.2.1.1,d.2.1.2,[.N,.N]⟩),(7,⟨y26,false,next,[.N,.N]⟩)])
theorem joB:CN 0 59804 Tryz.f59 j8J:=nK jaq [j5M] oN ([0,2,4,7,8,11,12,13],[2,4,7]) [] ([],[]) λ_ _ _=>by delta j3M j7R jey;refine gz j3y λ_ b=>gz j3w λ_ d=> ?_;rewrite[<-b,<-d];kernel_rfl
def j2D (l:List qP)(f:List qP)(g:Int)(b:Int)(d:qF×List qR)(rec:Int->qD->Res)(i:qD->Res)(h:Unit->Res):Res:=bif decide (b<g) then bif inb b f.length then j3L l b (nth (0,0,0,eS,[],[],0,eS,[],[],eS,eS) f b) λt=>bif t then h () else bif ((nth (0,0,0,eS,[],[],0,eS,[],[],eS,eS) f b).1==3) then j3M l b d (nth (0,0,0,eS,[],[],0,eS,[],[],eS,eS) f b) λcode next=>bif (code != 0) then h () else rec (Z9J (b+1)) next else rec (Z9J (b+1)) d else none else i d
def j7f (l:List qP)(b:List qP)(f:Int):(Int×qD)->(Int×qD->Res)->((qD->Res)×(Unit->Res))->Res:=λv rec q=>j2D l b f v.1 v.2 (λg d=>rec (g,d)) q.1 q.2
def jds (l:List qP)(b:List qP)(f:Int)(n:Nat)(g:Int)(d:qF×List qR)(h:qD->Res)(i:Unit->Res):Res:=Z1e (j7f l b f) n (g,d) (h,i)
def jhv:Z1c Unit:=λσ k=>rdN σ 74<|rd1 σ 0 y20 .S λl=>rdT σ 2 (pB 2)<|rdT σ 4 (pB 4)<|rd1 σ 11 y20 .S λb=>rdI σ 12 λf=>rdI σ 13 λg=>rdB σ 2 y26 [.O,.O] λa j=>rdB σ 4 y26 [.N,.N] λh d=>jds l b f Z1b g d (λi=>k (.exit 0) (mkS 74 74 [(0,v1 y20 l .S),(2,pB 2),(4,pB 4)] [(2,⟨y26,a,j,[.O,.O]⟩),(4,⟨y26,h,i,[.N,.N]⟩)])) (λ_=>k .ret (mkS 74 74 [(2,pB 2),(3,vB false)] [(2,⟨y26,a,([],[]),[.O,.O]⟩)]))
def jhF:Z1c Unit:=λσ k=>jhv (σ.wk [] [(4,[.N,.N])]) k
theorem joz:CN 0 58 Tryz.f59 jhF:=λq=>ZaI [] [(4,[.N,.N])] (jph follows j2e jaq q [j5M,j8J] (oI 228 0 @joA (oI 924 1 @joB oN)) [0,2,4,11,12,13] [2,4] ([],[]) [(0,[0,2,4],[2,4])] ([2,3],[2]) (y:=jhv) λσ k _ h=>rN h λG h=>rV h λl D h=>rT h λE h=>rT h λF h=>rV h λb g h=>rV h λf i h=>rV h λr j h=>rB h λa z n h=>rB h λw d p h=>⟨_,ZaL (m:=74) G (sC D (sC E (sC F (sC g (sC i (sC j sN)))))) (bC n (bC p bN)),.trans (Z9t (λv:Int×qD=>(mkS 74 74 [(0,v1 y20 l .S),(2,pB 2),(4,pB 4),(11,v1 y20 b .S),(12,vI f),(13,vI v.1)] [(2,⟨y26,a,z,[.O,.O]⟩),(4,⟨y26,w,v.2,[.N,.N]⟩)])) (j7f l b f) (λ(k:Z82 Unit)=>(((λA=>k (.exit 0) (mkS 74 74 [(0,v1 y20 l .S),(2,pB 2),(4,pB 4)] [(2,⟨y26,a,z,[.O,.O]⟩),(4,⟨y26,w,A,[.N,.N]⟩)])),(λ_=>k .ret (mkS 74 74 [(2,pB 2),(3,vB false)] [(2,⟨y26,a,([],[]),[.O,.O]⟩)]))):(qD->Res)×(Unit->Res))) (λv rec k=>by delta j7f j2D j5M j8J;refine gz j3L λ_ B=>gz j3M λ_ C=> ?_;rewrite[<-B,<-C];kernel_rfl) Z1b (r,d) k) h⟩)
def j88 (l:List qP)(b:qD->Bool->Res):Res:=jds l l (nI l.length) Z1b 0 ([],[]) (λd=>b d (decide ((nI l.length)<=400))) (λ_=>b ([],[]) false)
def jeC:Sig Unit:=sg [.borrow y20 false] [true,false] [(y20,none)] [] λf g k=>j88 f.1 (λb d=>k [⟨y26,true,b,[.S,.S]⟩,wB d] [] [])
theorem jjs:SO 59 jeC:=fK (np:=0) jaq [j5M,j8J,jhF] (oI 58 2 @joz oN) true Tryz.func59 λ_ _ _ _=>by kernel_rfl
def jaH (l:List qP)(b:Bool->Res):Res:=bif decide ((nI l.length)>400) then b false else j88 l λr d=>b d
def jhp:Sig Unit:=sg [.look y20 false] [false] [(y20,none)] [] λd f k=>jaH d.1 (λb=>k [wB b] [] [])
theorem jgK:SO 26 jhp:=fK (np:=0) (Za5 jjs Zar) [] oN false Tryz.func26 λ_ _ _ _=>by kernel_rfl
def j8Q (s:qS)(b:Bool->Res):Res:=bif (s.1==0) then bif sEq s.2.1 eS then bif ((nI s.2.2.1.length)==0) then bif ((nI s.2.2.2.1.length)==0) then j0m s.2.2.2.2 (0,eS,[],[],eS,eS) λr=>b r else b false else b false else b false else b false
def jie:Sig Unit:=sg [.look y17 true] [false] [(y17,none)] [] λd f k=>j8Q d.1 (λb=>k [wB b] [] [])
theorem joR:SO 151 jie:=fK (np:=0) (Za5 jcu Zar) [] oN false Tryz.func151 λ_ _ _ _=>by kernel_rfl
def jau (r:Int×Int×qS)(b:Bool->Res):Res:=j0d r.1 1 4 λd=>bif !d then b false else j0d r.2.1 1 1000000 λf=>bif !f then b false else bif (r.1==2) then j1i r.2.2 λg=>b g else j8Q r.2.2 λh=>b h
def jhh:Sig Unit:=sg [.look y19 true] [false] [(y19,none)] [] λd f k=>jau d.1 (λb=>k [wB b] [] [])
theorem jsM:SO 103 jhh:=fK (np:=0) (Za5 j2G (Za5 jbx (Za5 joR Zar))) [] oN false Tryz.func103 λ_ _ _ _=>by delta jau j1k j2K jie;refine gz j0d λ_ b=>gz j1i λ_ d=>gz j8Q λ_ f=> ?_;rewrite[<-b,<-d,<-f];kernel_rfl
def j44 (h:Int)(f:List qP)(g:Int)(d:List qS)(b:Int)(rec:qU->Int->Res)(i:qU->Res):Res:=bif decide (b<g) then bif inb b f.length then bif ((nth (0,0,0,eS,[],[],0,eS,[],[],eS,eS) f b).1==2) then bif ((nth (0,0,0,eS,[],[],0,eS,[],[],eS,eS) f b).2.1==h) then j1H (nth (0,0,0,eS,[],[],0,eS,[],[],eS,eS) f b).2.2 λr=>bif lim (d.length+1) then rec (d++[r]) (Z9J (b+1)) else none else rec d (Z9J (b+1)) else rec d (Z9J (b+1)) else none else i d
def jaW (g:Int)(h:List qP)(d:Int):(qU×Int)->(qU×Int->Res)->((qU->Res))->Res:=λv rec q=>j44 g h d v.1 v.2 (λb f=>rec (b,f)) q
def ji2 (g:Int)(i:List qP)(d:Int)(n:Nat)(b:List qS)(f:Int)(h:qU->Res):Res:=Z1e (jaW g i d) n (b,f) (h)
def jhx:Z1c Unit:=NdL 32 32 [.I 1,.R 5 y43 .O,.R 9 y20 .S,.I 10,.I 11] [] (λb f=>(b.2.1,b.2.2.2.2.1)) (λb v=>(b.1,v.1,b.2.2.1,b.2.2.2.1,v.2,())) (λf v=>()) (λb f=>jaW b.1 b.2.2.1 b.2.2.2.1) λb f g=>((λd=>g (.exit 0) [(5,v1 y43 d .O)] []))
theorem jo5:CN 0 58 Tryz.f106 jhx:=lK (Za5 j9h Zar) [] oN ([],[]) [(0,[5],[])] ([],[]) λ_ _ _ _ _=>by kernel_rfl
def j3j (l:List qP)(d:Int)(f:qU->Res):Res:=ji2 d l (nI l.length) Z1b [] 0 λb=>f b
def jaB:Sig Unit:=sg [.borrow y20 false,.borrow tI false] [false] [(y20,none),(tI,none)] [] λb f k=>j3j b.1 b.2.1 (λd=>k [w1 y43 d .O] [] [])
theorem jj9:SO 106 jaB:=fK (np:=0) (Za5 j9h Zar) [jhx] (oI 58 0 @jo5 oN) false Tryz.func106 λ_ _ _ _=>by kernel_rfl
def jki (x:Int)(d:Int×Int×qS)(b:Bool->Res):Res:=b (x==d.2.1)
def jtR:Sig Unit:=sg [.look tI false,.rptr y19] [false] [(tI,none),(y19,none)] [] λb f k=>jki b.1 b.2.1 (λd=>k [wB d] [] [])
theorem jsO:SO 108 jtR:=fK (np:=0) Zar [] oN false Tryz.func108 λ_ _ _ _=>by kernel_rfl
def j21 (s:List Int)(b:Int×Int×qS)(d:(List Int)->qP->Res):Res:=bif lim s.length then dgE (λe k=>jki e b k) s [] (λr=>d r b) else none
def j5X:Sig Unit:=⟨[.eat y31 false,.clos 108 [y19]],[false],λvals ext k=>ao vals y31 [.O] λs vals=>nl vals<|ab ext y19 [.S,.S,.S,.S] λa0 f ext=>nl ext<|j21 s f (λd b=>k [w1 y31 d .O] [] [⟨y19,a0,b,[.S,.S,.S,.S]⟩])⟩
theorem jhI:Z16 Tryz.prog 107 j5X:=gS (jyj (U:=0) (T:=182) (e:=tI) (ag:=false) (τ:=y19) (tg:=[.S,.S,.S,.S]) (fl:=[]) (S:=37) (E:=3) (I:=3) (B:=4) follows j2e (by kernel_rfl) Tryz.underlying37 (by kernel_rfl) (by kernel_rfl) (by kernel_rfl) (by kernel_rfl) Tryz.isAgg182 Tryz.sizeOf182 (by kernel_rfl) (by kernel_rfl) (by kernel_rfl) Tryz.func156 (by kernel_rfl) (by kernel_rfl) (by kernel_rfl) (by kernel_rfl) jsO (by kernel_rfl) Tryz.func107 (by kernel_rfl) (by kernel_rfl) (by kernel_rfl) (by kernel_rfl)) (by kernel_rfl)
theorem jnd:FS [(26,jhp),(59,jeC)]:=(Za5 jgK (Za5 jjs Zar))
def ja9 (l:List qP)(d:Int)(b:Bool->Res):Res:=jaH l λr=>bif !r then b true else bif decide (d<0) then b true else b (decide (d>(nI l.length)))
def jfM:Z1c Unit:=Nd 26 26 [.R 0 y20 .S,.I 1,.t 4 (pB 4)] [(4,y26,[.O,.O])] λb f g=>ja9 b.1 b.2.1 (λd=>g .normal [(0,v1 y20 b.1 .S),(1,vI b.2.1),(4,pB 4),(18,vB d)] [(4,⟨y26,f.1.1,f.1.2,[.O,.O]⟩)])
theorem jsl:CN 0 12 Tryz.f117 jfM:=nK jnd [] oN ([0,1,4,18],[4]) [] ([],[]) λ_ _ _=>by kernel_rfl
def jcp (l:List qP)(b:Int)(d:qD->Bool->Res):Res:=ja9 l b λt=>bif t then d ([],[]) false else bif Z8d 0 b l.length then j88 (sub l 0 b) λr f=>d r f else none
def jiT:Sig Unit:=sg [.borrow y20 false,.borrow tI false] [true,false] [(y20,none),(tI,none)] [] λb g k=>jcp b.1 b.2.1 (λd f=>k [⟨y26,true,d,[.S,.S]⟩,wB f] [] [])
theorem juk:SO 117 jiT:=fK (np:=0) jnd [jfM] (oI 12 0 @jsl oN) true Tryz.func117 λ_ _ _ _=>by delta jcp jfM jeC;refine gz ja9 λ_ b=>gz j88 λ_ d=> ?_;rewrite[<-b,<-d];kernel_rfl
end
end Go.PI.G
