/-
  Program's code interpreted over typed values; printed texts; plain laws. No conditions.
-/
import Derived.Test.YtnemiodjnhfejaaGreatSQc
import Derived.Test.YtnemiodjnhfejaaGreatSQd
import Derived.Test.YtnemiodjnhfejaaGreatSQe
import Derived.Test.YtnemiodjnhfejaaGreatSQf
set_option linter.unusedVariables false
set_option maxRecDepth 100000
namespace Go.PI.G
noncomputable section
open Go Go.PI Go.Proofs
open Go.Code (pl pr)
theorem jjO:FS [(172,j0U),(242,j8Q)]:=(Za6 j3t (Za6 jik Zas))
def j70 (f:List qT) (g:Int) (d:qF×List qR) (b:Int) (rec:Int->Res) (h:Unit->Res) (i:Unit->Res):Res:=bif decide (b<g) then bif inb b (List.length f) then bif inb b (List.length d.2) then j0q (nth (eS,[],[]) f b) (nth [] d.2 b) λr=>bif !r then i () else rec (Z9K (b+1)) else none else none else h ()
def j9q (b:List qT) (f:Int) (d:qF×List qR):Int->(Int->Res)->((Unit->Res)×(Unit->Res))->Res:=λv rec q=>j70 b f d v (λg=>rec (g)) q.1 q.2
def jeT (b:List qT) (f:Int) (d:qF×List qR) (n:Nat) (g:Int) (h:Unit->Res) (i:Unit->Res):Res:=Z1f (j9q b f d) n (g) (h,i)
def jdv:Z1d Unit:=NdL 38 38 [.t 1 (pB 1),.R 21 y11 .S,.I 22,.I 23] [(1,y14,[.S,.S])] (λb d=>(b.2.2.1)) (λb v=>(b.1,b.2.1,v,())) (λd v=>((d.1.1,d.1.2),())) (λb d=>j9q b.1 b.2.1 d.1.2) λb d f=>((λ_=>f (.exit 0) [] []),(λ_=>f .ret [(2,vB false)] []))
theorem jnW:CN 0 58 Tryz.f186 jdv:=lK jjO [] oN ([],[]) [(0,[],[])] ([2],[]) λ_ _ _ _ _=>by kernel_rfl
def j3c (d:qF×List qR) (b:Bool->Res):Res:=j7r d.1 λr=>bif !r then b false else bif ((nI (List.length d.2)) != (nI (List.length d.1))) then b false else jeT d.1 (nI (List.length d.1)) d Z1c 0 (λ_=>b true) (λ_=>b false)
def j65:Sig Unit:=sg [.look y14 true] [false] [(y14,none)] [] λd f k=>j3c d.1 (λb=>k [wB b] [] [])
theorem jfV:SO 186 j65:=fK (np:=0) jjO [jdv] (oI 58 0 @jnW oN) false Tryz.func186 λ_ _ _ _=>by delta j3c j8Q jdv jeT;refine gz j7r λ_ b=>gz j9q λ_ d=> ?_;rewrite [<-b,<-d];kernel_rfl
theorem jgg:FS [(243,j6W),(244,j9m)]:=(Za6 jgt (Za6 jgu Zas))
def j42 (f:List qR) (g:Int) (d:Int) (b:qF×List qR) (rec:Int->qD->Res) (h:qD->Res):Res:=bif decide (d<g) then bif inb d (List.length f) then j75 (nth [] f d) λr=>bif lim ((List.length b.2)+1) then rec (Z9K (d+1)) (b.1,(b.2++[r])) else none else none else h b
def j6n (d:List qR) (f:Int):(Int×qD)->(Int×qD->Res)->((qD->Res))->Res:=λv rec q=>j42 d f v.1 v.2 (λg b=>rec (g,b)) q
def jby (d:List qR) (f:Int) (n:Nat) (g:Int) (b:qF×List qR) (h:qD->Res):Res:=Z1f (j6n d f) n (g,b) (h)
def jaJ:Z1d Unit:=NdL 28 28 [.t 2 (pB 2),.t 3 (pB 3),.R 11 y13 .S,.I 12,.I 13] [(2,y14,[.O,.O]),(3,y14,[.O,.O])] (λd b=>(d.2.2.1,b.2.1.2)) (λd v=>(d.1,d.2.1,v.1,())) (λb v=>((b.1.1,b.1.2),(b.2.1.1,v.2),())) (λd b=>j6n d.1 d.2.1) λd b g=>((λf=>g (.exit 0) [(2,pB 2),(3,pB 3)] [(2,⟨y14,b.1.1,b.1.2,[.O,.O]⟩),(3,⟨y14,b.2.1.1,f,[.O,.O]⟩)]))
theorem jkY:CN 0 58 Tryz.f187 jaJ:=lK jgg [] oN ([],[]) [(0,[2,3],[2,3])] ([],[]) λ_ _ _ _ _=>by kernel_rfl
def j2b (d:qF×List qR) (f:qD->Res):Res:=j4V d.1 λr=>jby d.2 (nI (List.length d.2)) Z1c 0 (r,[]) λb=>f b
def j6X:Sig Unit:=sg [.borrow y14 true] [true] [(y14,none)] [] λd f k=>j2b d.1 (λb=>k [⟨y14,true,b,[.O,.O]⟩] [] [])
theorem jgw:SO 187 j6X:=fK (np:=0) jgg [jaJ] (oI 58 0 @jkY oN) false Tryz.func187 λ_ _ _ _=>by delta j2b j6W jaJ jby;refine gz j4V λ_ b=>gz j6n λ_ d=> ?_;rewrite [<-b,<-d];kernel_rfl
def j43 (d:List qV) (h:Int) (b:Int) (rec:Int->Res) (f:Unit->Res) (g:Unit->Res):Res:=bif decide (b<h) then bif inb b (List.length d) then j1H (nth (0,0,eS) d b) λr=>bif !r then g () else rec (Z9K (b+1)) else none else f ()
def j9M (b:List qV) (d:Int):Int->(Int->Res)->((Unit->Res)×(Unit->Res))->Res:=λv rec q=>j43 b d v (λf=>rec (f)) q.1 q.2
def jfC (f:List qV) (g:Int) (n:Nat) (h:Int) (b:Unit->Res) (d:Unit->Res):Res:=Z1f (j9M f g) n (h) (b,d)
def jf7:Z1d Unit:=NdL 23 23 [.R 0 y3 .S,.R 5 y3 .S,.I 6,.I 7] [] (λb d=>(b.2.2.2.1)) (λb v=>(b.1,b.2.1,b.2.2.1,v,())) (λd v=>()) (λb d=>j9M b.2.1 b.2.2.1) λb d f=>((λ_=>f (.exit 0) [(0,v1 y3 b.1 .S)] []),(λ_=>f .ret [(2,vB false)] []))
theorem jkZ:CN 0 26 Tryz.f208 jf7:=lK (Za6 j8p Zas) [] oN ([],[]) [(0,[0],[])] ([2],[]) λ_ _ _ _ _=>by kernel_rfl
def j3g (l:List qV) (b:Bool->Res):Res:=jfC l (nI (List.length l)) Z1c 0 (λ_=>bif decide ((nI (List.length l))>=1) then b (decide ((nI (List.length l))<=8)) else b false) (λ_=>b false)
def jck:Sig Unit:=sg [.look y3 false] [false] [(y3,none)] [] λd f k=>j3g d.1 (λb=>k [wB b] [] [])
theorem jmj:SO 208 jck:=fK (np:=0) (Za6 j8p Zas) [jf7] (oI 26 0 @jkZ oN) false Tryz.func208 λ_ _ _ _=>by kernel_rfl
def j2m (d:qG) (b:Bool->Res):Res:=bif (d.1==0) then bif sEq d.2.1 eS then bif ((nI (List.length d.2.2.1))==0) then bif ((nI (List.length d.2.2.2.1))==0) then bif sEq d.2.2.2.2.1 eS then b (sEq d.2.2.2.2.2 eS) else b false else b false else b false else b false else b false
def jbt:Sig Unit:=sg [.look y19 true] [false] [(y19,none)] [] λd f k=>j2m d.1 (λb=>k [wB b] [] [])
theorem jlg:SO 209 jbt:=fK (np:=0) Zas [] oN false Tryz.func209 λ_ _ _ _=>by kernel_rfl
theorem jhx:FS [(154,j3z),(208,jck),(209,jbt),(210,j4N)]:=(Za6 ja6 (Za6 jmj (Za6 jlg (Za6 jem Zas))))
def j74 (d:Bool) (f:Bool) (s:qS) (b:Bool->Res):Res:=bif (s.1==1) then bif d then j3g s.2.2.2.1 λr=>bif r then j2m s.2.2.2.2 λg=>b g else b false else b false else bif (s.1==2) then j3g s.2.2.1 λh=>bif h then j3g s.2.2.2.1 λi=>bif i then j2m s.2.2.2.2 λj=>b j else b false else b false else bif (s.1==3) then j3g s.2.2.1 λk=>bif k then bif f then j2m s.2.2.2.2 λl=>b l else b false else b false else bif (s.1==4) then bif d then bif f then j2m s.2.2.2.2 λm=>b m else b false else b false else bif (s.1==5) then bif d then bif f then j2M s.2.2.2.2 λn=>bif n then b (sEq s.2.2.2.2.2.1 s.2.1) else b false else b false else b false else b false
def jbM:Z1d Unit:=Nd 93 93 [.t 1 (pB 1),.B 3,.B 4] [(1,y23,[.S,.S,.S,.S])] λb g d=>j74 b.1 b.2.1 g.1.2 (λf=>d .ret [(2,vB f)] [])
theorem jlK:CN 0 31 Tryz.f155 jbM:=nK jhx [] oN ([],[]) [] ([2],[]) λ_ _ _=>by delta j74 jck jbt j4N;refine gz j3g λ_ b=>gz j2m λ_ d=>gz j2M λ_ f=> ?_;rewrite [<-b,<-d,<-f];kernel_rfl
def j7X (s:qS) (b:Bool->Res):Res:=j0M s.2.1 λr=>bif !r then b false else j74 ((nI (List.length s.2.2.1))==0) ((nI (List.length s.2.2.2.1))==0) s λt=>b t
def jdk:Sig Unit:=sg [.look y23 true] [false] [(y23,none)] [] λd f k=>j7X d.1 (λb=>k [wB b] [] [])
theorem jnG:SO 155 jdk:=fK (np:=0) jhx [jbM] (oI 31 0 @jlK oN) false Tryz.func155 λ_ _ _ _=>by delta j7X j3z jbM;refine gz j0M λ_ b=>gz j74 λ_ d=> ?_;rewrite [<-b,<-d];kernel_rfl
def j1D (t:qB×qE×qL) (l:List qW) (s:qS) (b:qR->Int->Res):Res:=bif (s.1==1) then j7U t l s.2.2.2.1 λr d=>b r d else bif (s.1==2) then j7V t l s.2.2.1 s.2.2.2.1 λf g=>b f g else bif (s.1==3) then j7T t l s.2.2.1 λh i=>b h i else bif (s.1==5) then j73 t l s.2.2.2.2 λj k=>b j k else b [] 0
def j6Y:Sig Unit:=sg [.borrow y10 true,.borrow y12 false,.borrow y23 true] [false,false] [(y10,none),(y12,none),(y23,none)] [] λb g k=>j1D b.1 b.2.1 b.2.2.1 (λd f=>k [w1 y12 d .O,wI f] [] [])
theorem jgx:SO 246 j6Y:=fK (np:=0) (Za6 jnD (Za6 jnE (Za6 jnC (Za6 jmi Zas)))) [] oN false Tryz.func246 λ_ _ _ _=>by delta j1D jhY jhZ jhX jgM;refine gz j7U λ_ b=>gz j7V λ_ d=>gz j7T λ_ f=>gz j73 λ_ g=> ?_;rewrite [<-b,<-d,<-f,<-g];kernel_rfl
theorem j7c:FS [(113,j4O),(244,j9m),(246,j6Y),(287,j5J)]:=(Za6 jeo (Za6 jgu (Za6 jgx (Za6 jfg Zas))))
def j41 (b:Int) (s:qS) (t:qB×qE×qL) (d:Bool->Res):Res:=bif decide (b>=0) then d (sEq t.1 s.2.1) else d false
def j3j:Z1d Unit:=Nd 86 86 [.t 2 (pB 2),.t 3 (pB 3),.t 4 (pB 4),.t 8 (pB 8),.t 10 (pB 10),.t 11 (pB 11),.I 12,.R 29 y11 .S,.I 30,.I 31] [(2,y14,[.S,.S]),(3,y23,[.S,.S,.S,.S]),(4,y14,[.O,.O]),(8,y14,[.S,.O]),(10,y10,[.S,.S]),(11,y12,[.O])] λd b g=>j41 d.1 b.2.1.2 b.2.2.2.2.1.2 (λf=>g .normal [(2,pB 2),(3,pB 3),(4,pB 4),(8,pB 8),(11,pB 11),(12,vI d.1),(29,v1 y11 d.2.1 .S),(30,vI d.2.2.1),(31,vI d.2.2.2.1),(49,vB f)] [(2,⟨y14,b.1.1,b.1.2,[.S,.S]⟩),(3,⟨y23,b.2.1.1,b.2.1.2,[.S,.S,.S,.S]⟩),(4,⟨y14,b.2.2.1.1,b.2.2.1.2,[.O,.O]⟩),(8,⟨y14,b.2.2.2.1.1,b.2.2.2.1.2,[.S,.O]⟩),(11,⟨y12,b.2.2.2.2.2.1.1,b.2.2.2.2.2.1.2,[.O]⟩)])
theorem jiR:CN 0 256412 Tryz.f245 j3j:=nK j7c [] oN ([2,3,4,8,11,12,29,30,31,49],[2,3,4,8,11]) [] ([],[]) λ_ _ _=>by kernel_rfl
def j2h (b:Int) (g:Bool) (d:qF×List qR) (s:qS) (x:List qW) (f:qR->Res):Res:=bif g then bif inb b (List.length d.1) then bif inb b (List.length d.2) then j1D (nth (eS,[],[]) d.1 b) (nth [] d.2 b) s λr i=>Z87 (f r) (f r) else none else none else bif decide (b>=0) then bif inb b (List.length d.2) then j75 (nth [] d.2 b) λh=>f h else none else f x
def j5Z:Z1d Unit:=Nd 86 86 [.t 2 (pB 2),.t 3 (pB 3),.t 4 (pB 4),.t 8 (pB 8),.t 11 (pB 11),.I 12,.R 29 y11 .S,.I 30,.I 31,.B 49] [(2,y14,[.S,.S]),(3,y23,[.S,.S,.S,.S]),(4,y14,[.O,.O]),(8,y14,[.S,.O]),(11,y12,[.O])] λd b f=>j2h d.1 d.2.2.2.2.1 b.1.2 b.2.1.2 b.2.2.2.2.1.2 (λg=>f .normal [(2,pB 2),(3,pB 3),(4,pB 4),(8,pB 8),(11,pB 11),(29,v1 y11 d.2.1 .S),(30,vI d.2.2.1),(31,vI d.2.2.2.1)] [(2,⟨y14,b.1.1,b.1.2,[.S,.S]⟩),(3,⟨y23,b.2.1.1,b.2.1.2,[.S,.S,.S,.S]⟩),(4,⟨y14,b.2.2.1.1,b.2.2.1.2,[.O,.O]⟩),(8,⟨y14,b.2.2.2.1.1,b.2.2.2.1.2,[.S,.O]⟩),(11,⟨y12,b.2.2.2.2.1.1,g,[.O]⟩)])
theorem jiS:CN 0 256413 Tryz.f245 j5Z:=nK j7c [j3j] oN ([2,3,4,8,11,29,30,31],[2,3,4,8,11]) [] ([],[]) λ_ _ _=>by delta j2h j6Y j9m;refine gz j1D λ_ b=>gz j75 λ_ d=> ?_;rewrite [<-b,<-d];kernel_rfl
def j1r (g:List qT) (h:Int) (d:qF×List qR) (s:qS) (b:Int) (f:qF×List qR) (rec:Int->qD->Res) (i:qD->Res):Res:=bif decide (b<h) then bif inb b (List.length g) then j2O d.1 (nth (eS,[],[]) g b).1 λr=>j41 r s (nth (eS,[],[]) g b) λt=>j2h r t d s [] λx=>bif lim ((List.length f.2)+1) then rec (Z9K (b+1)) (f.1,(f.2++[x])) else none else none else i f
def j2z (f:List qT) (g:Int) (d:qF×List qR) (s:qS):(Int×qD)->(Int×qD->Res)->((qD->Res))->Res:=λv rec q=>j1r f g d s v.1 v.2 (λh b=>rec (h,b)) q
def j6m (f:List qT) (g:Int) (d:qF×List qR) (s:qS) (n:Nat) (h:Int) (b:qF×List qR) (i:qD->Res):Res:=Z1f (j2z f g d s) n (h,b) (i)
def j94:Z1d Unit:=NdL 86 86 [.t 2 (pB 2),.t 3 (pB 3),.t 4 (pB 4),.t 8 (pB 8),.R 29 y11 .S,.I 30,.I 31] [(2,y14,[.S,.S]),(3,y23,[.S,.S,.S,.S]),(4,y14,[.O,.O]),(8,y14,[.S,.O])] (λd b=>(d.2.2.1,b.2.2.2.1.2)) (λd v=>(d.1,d.2.1,v.1,())) (λb v=>((b.1.1,b.1.2),(b.2.1.1,b.2.1.2),(b.2.2.1.1,b.2.2.1.2),(b.2.2.2.1.1,v.2),())) (λd b=>j2z d.1 d.2.1 b.1.2 b.2.1.2) λd b g=>((λf=>g (.exit 0) [(4,pB 4),(8,pB 8)] [(4,⟨y14,b.2.2.1.1,b.2.2.1.2,[.O,.O]⟩),(8,⟨y14,b.2.2.2.1.1,f,[.S,.O]⟩)]))
theorem jiQ:CN 0 250 Tryz.f245 j94:=lK j7c [j3j,j5Z] (oI 924 0 @jiR (oI 925 1 @jiS oN)) ([],[]) [(0,[4,8],[4,8])] ([],[]) λ_ _ _ _ _=>by delta j2z j1r j4O j3j j5Z;refine gz j2O λ_ b=>gz j41 λ_ d=>gz j2h λ_ f=> ?_;rewrite [<-b,<-d,<-f];kernel_rfl
def j4o (d:qF×List qR) (s:qS) (f:qD->Int->Res):Res:=j2l d.1 s.2.2.2.2 λr g=>bif (g != 0) then f ([],[]) (Z9K (10+g)) else j6m r (nI (List.length r)) d s Z1c 0 (r,[]) λb=>f b 0
def jav:Sig Unit:=sg [.borrow y14 true,.borrow y23 true] [true,false] [(y14,none),(y23,none)] [] λb g k=>j4o b.1 b.2.1 (λd f=>k [⟨y14,true,d,[.S,.S]⟩,wI f] [] [])
theorem jkl:SO 245 jav:=fK (np:=0) j7c [j3j,j5Z,j94] (oI 250 2 @jiQ oN) true Tryz.func245 λ_ _ _ _=>by delta j4o j5J j94 j6m;refine gz j2l λ_ b=>gz j2z λ_ d=> ?_;rewrite [<-b,<-d];kernel_rfl
theorem jjP:FS [(113,j4O),(155,jdk),(186,j65),(187,j6X),(245,jav),(246,j6Y)]:=(Za6 jeo (Za6 jnG (Za6 jfV (Za6 jgw (Za6 jkl (Za6 jgx Zas))))))
def j8U (b:Int) (s:qS) (d:Unit->Res) (f:Unit->Res):Res:=bif decide (b<0) then bif (s.1 != 5) then f () else bif (s.2.2.2.2.1 != 1) then f () else d () else d ()
def jdw:Z1d Unit:=Nd 77 77 [.t 2 (pB 2),.t 3 (pB 3),.t 4 (pB 4),.I 6] [(2,y14,[.S,.S]),(3,y23,[.S,.S,.S,.S]),(4,y14,[.O,.O])] λf b d=>j8U f.1 b.2.1.2 (λ_=>d .normal [(2,pB 2),(3,pB 3),(4,pB 4),(6,vI f.1)] [(2,⟨y14,b.1.1,b.1.2,[.S,.S]⟩),(3,⟨y23,b.2.1.1,b.2.1.2,[.S,.S,.S,.S]⟩),(4,⟨y14,b.2.2.1.1,b.2.2.1.2,[.O,.O]⟩)]) (λ_=>d .ret [(4,pB 4),(5,vI 4)] [(4,⟨y14,b.2.2.1.1,([],[]),[.O,.O]⟩)])
theorem jnX:CN 0 30 Tryz.f188 jdw:=nK jjP [] oN ([2,3,4,6],[2,3,4]) [] ([4,5],[4]) λ_ _ _=>by kernel_rfl
def j8T (d:qF×List qR) (s:qS) (f:qD->Int->Res):Res:=j3c d λr=>bif !r then f ([],[]) 1 else j7X s λi=>bif !i then f ([],[]) 1 else j2O d.1 s.2.1 λb=>j8U b s (λ_=>bif (s.1==5) then j4o d s λj k=>f j k else bif inb b (List.length d.1) then bif inb b (List.length d.2) then j1D (nth (eS,[],[]) d.1 b) (nth [] d.2 b) s λl h=>bif (h != 0) then f ([],[]) (Z9K (10+h)) else j2b d λg=>bif inb b (List.length g.2) then f (g.1,upd g.2 b l) 0 else none else none else none) (λ_=>f ([],[]) 4)
def jk4:Sig Unit:=sg [.borrow y14 true,.borrow y23 true] [true,false] [(y14,none),(y23,none)] [] λb g k=>j8T b.1 b.2.1 (λd f=>k [⟨y14,true,d,[.S,.S]⟩,wI f] [] [])
theorem jpu:SO 188 jk4:=fK (np:=0) jjP [jdw] (oI 30 0 @jnX oN) true Tryz.func188 λ_ _ _ _=>by delta j8T j65 jdk j4O jdw jav j6Y j6X;refine gz j3c λ_ b=>gz j7X λ_ d=>gz j2O λ_ f=>gz j8U λ_ g=>gz j4o λ_ h=>gz j1D λ_ i=>gz j2b λ_ j=> ?_;rewrite [<-b,<-d,<-f,<-g,<-h,<-i,<-j];kernel_rfl
theorem jgf:FS [(186,j65),(187,j6X),(188,jk4)]:=(Za6 jfV (Za6 jgw (Za6 jpu Zas)))
def j3R (d:List qS) (f:Int) (b:Int) (now:qF×List qR) (rec:Int->qD->Res) (h:qD->Res) (i:Int->Int->Res):Res:=bif decide (b<f) then bif inb b (List.length d) then j8T now (nth (0,eS,[],[],0,eS,[],[],eS,eS) d b) λr g=>bif (g != 0) then i g b else rec (Z9K (b+1)) r else none else h now
def j6f (b:List qS) (d:Int):(Int×qD)->(Int×qD->Res)->((qD->Res)×(Int->Int->Res))->Res:=λv rec q=>j3R b d v.1 v.2 (λf now=>rec (f,now)) q.1 q.2
def j8g (b:List qS) (d:Int) (n:Nat) (f:Int) (now:qF×List qR) (g:qD->Res) (h:Int->Int->Res):Res:=Z1f (j6f b d) n (f,now) (g,h)
def jaA:Z1d Unit:=λσ k=>rdN σ 39<|rdT σ 4 (pB 4)<|rdT σ 7 (pB 7)<|rd1 σ 18 y24 .S λd=>rdI σ 19 λf=>rdI σ 20 λg=>rdB σ 4 y14 [.O,.O] λa i=>rdB σ 7 y14 [.S,.S] λh now=>j8g d f Z1c g now (λb=>k (.exit 0) (mkS 39 39 [(4,pB 4),(7,pB 7)] [(4,⟨y14,a,i,[.O,.O]⟩),(7,⟨y14,h,b,[.S,.S]⟩)])) (λj l=>k .ret (mkS 39 39 [(4,pB 4),(5,vI j),(6,vI l)] [(4,⟨y14,a,([],[]),[.O,.O]⟩)]))
def jaG:Z1d Unit:=λσ k=>jaA (σ.wk [] [(7,[.S,.S])]) k
theorem jkN:CN 0 122 Tryz.f133 jaG:=λp=>ZaJ [] [(7,[.S,.S])] (jqq follows j4e jgf p [] oN [4,7,18,19,20] [4,7] ([],[]) [(0,[4,7],[4,7])] ([4,5,6],[4]) (y:=jaA) λσ k _ h=>rN h λB h=>rT h λz h=>rT h λA h=>rV h λd g h=>rV h λf i h=>rV h λq j h=>rB h λa w l h=>rB h λr now n h=>⟨_,ZaM (m:=39) B (sC z (sC A (sC g (sC i (sC j sN))))) (bC l (bC n bN)),.trans (Z9u (λv:Int×qD=>(mkS 39 39 [(4,pB 4),(7,pB 7),(18,v1 y24 d .S),(19,vI f),(20,vI v.1)] [(4,⟨y14,a,w,[.O,.O]⟩),(7,⟨y14,r,v.2,[.S,.S]⟩)])) (j6f d f) (λ(k:Z83 Unit)=>(((λb=>k (.exit 0) (mkS 39 39 [(4,pB 4),(7,pB 7)] [(4,⟨y14,a,w,[.O,.O]⟩),(7,⟨y14,r,b,[.S,.S]⟩)])),(λC D=>k .ret (mkS 39 39 [(4,pB 4),(5,vI C),(6,vI D)] [(4,⟨y14,a,([],[]),[.O,.O]⟩)]))):(qD->Res)×(Int->Int->Res))) (λv rec k=>by kernel_rfl) Z1c (q,now) k) h⟩)
def j71 (d:qF×List qR) (l:List qS) (b:qD->Int->Int->Res):Res:=j3c d λr=>bif !r then b ([],[]) 1 0 else j2b d λf=>j8g l (nI (List.length l)) Z1c 0 f (λnow=>b now 0 0) (λt g=>b ([],[]) t g)
def jgL:Sig Unit:=sg [.borrow y14 true,.borrow y24 false] [true,false,false] [(y14,none),(y24,none)] [] λb h k=>j71 b.1 b.2.1 (λd f g=>k [⟨y14,true,d,[.S,.S]⟩,wI f,wI g] [] [])
theorem jmh:SO 133 jgL:=fK (np:=0) jgf [jaG] (oI 122 0 @jkN oN) true Tryz.func133 λ_ _ _ _=>by delta j71 j65 j6X jaG;delta jaA j8g;refine gz j3c λ_ b=>gz j2b λ_ d=>gz j6f λ_ f=> ?_;rewrite [<-b,<-d,<-f];kernel_rfl
theorem jjM:FS [(250,j8M),(251,j2j)]:=(Za6 jid (Za6 j7D Zas))
def j6x (f:List qT) (g:Int) (d:qF×List qR) (b:Int) (rec:Int->Res) (h:Unit->Res) (i:Unit->Res):Res:=bif decide (b<g) then bif inb b (List.length f) then bif inb b (List.length d.2) then j0V (nth (eS,[],[]) f b) (nth [] d.2 b) λr=>bif !r then i () else rec (Z9K (b+1)) else none else none else h ()
def j9b (b:List qT) (f:Int) (d:qF×List qR):Int->(Int->Res)->((Unit->Res)×(Unit->Res))->Res:=λv rec q=>j6x b f d v (λg=>rec (g)) q.1 q.2
def jet (b:List qT) (f:Int) (d:qF×List qR) (n:Nat) (g:Int) (h:Unit->Res) (i:Unit->Res):Res:=Z1f (j9b b f d) n (g) (h,i)
def jds:Z1d Unit:=NdL 38 38 [.t 1 (pB 1),.R 21 y11 .S,.I 22,.I 23] [(1,y14,[.S,.S])] (λb d=>(b.2.2.1)) (λb v=>(b.1,b.2.1,v,())) (λd v=>((d.1.1,d.1.2),())) (λb d=>j9b b.1 b.2.1 d.1.2) λb d f=>((λ_=>f (.exit 0) [] []),(λ_=>f .ret [(2,vB false)] []))
theorem jnR:CN 0 58 Tryz.f195 jds:=lK jjM [] oN ([],[]) [(0,[],[])] ([2],[]) λ_ _ _ _ _=>by kernel_rfl
def j5w (d:qF×List qR) (b:Bool->Res):Res:=j7f d.1 λr=>bif !r then b false else bif ((nI (List.length d.2)) != (nI (List.length d.1))) then b false else jet d.1 (nI (List.length d.1)) d Z1c 0 (λ_=>b true) (λ_=>b false)
def ja0:Sig Unit:=sg [.look y14 true] [false] [(y14,none)] [] λd f k=>j5w d.1 (λb=>k [wB b] [] [])
theorem jjR:SO 195 ja0:=fK (np:=0) jjM [jds] (oI 58 0 @jnR oN) false Tryz.func195 λ_ _ _ _=>by delta j5w j8M jds jet;refine gz j7f λ_ b=>gz j9b λ_ d=> ?_;rewrite [<-b,<-d];kernel_rfl
theorem jhu:FS [(231,j6M),(232,j13)]:=(Za6 jgk (Za6 j5r Zas))
def j4u (f:List qR) (g:Int) (d:Int) (b:qF×List qR) (rec:Int->qD->Res) (h:qD->Res):Res:=bif decide (d<g) then bif inb d (List.length f) then j0B (nth [] f d) λr=>bif lim ((List.length b.2)+1) then rec (Z9K (d+1)) (b.1,(b.2++[r])) else none else none else h b
def j7h (d:List qR) (f:Int):(Int×qD)->(Int×qD->Res)->((qD->Res))->Res:=λv rec q=>j4u d f v.1 v.2 (λg b=>rec (g,b)) q
def jc8 (d:List qR) (f:Int) (n:Nat) (g:Int) (b:qF×List qR) (h:qD->Res):Res:=Z1f (j7h d f) n (g,b) (h)
def jbF:Z1d Unit:=NdL 28 28 [.t 2 (pB 2),.t 3 (pB 3),.R 11 y13 .S,.I 12,.I 13] [(2,y14,[.O,.O]),(3,y14,[.O,.O])] (λd b=>(d.2.2.1,b.2.1.2)) (λd v=>(d.1,d.2.1,v.1,())) (λb v=>((b.1.1,b.1.2),(b.2.1.1,v.2),())) (λd b=>j7h d.1 d.2.1) λd b g=>((λf=>g (.exit 0) [(2,pB 2),(3,pB 3)] [(2,⟨y14,b.1.1,b.1.2,[.O,.O]⟩),(3,⟨y14,b.2.1.1,f,[.O,.O]⟩)]))
theorem jly:CN 0 58 Tryz.f174 jbF:=lK jhu [] oN ([],[]) [(0,[2,3],[2,3])] ([],[]) λ_ _ _ _ _=>by kernel_rfl
def j1w (d:qF×List qR) (f:qD->Res):Res:=j4t d.1 λr=>jc8 d.2 (nI (List.length d.2)) Z1c 0 (r,[]) λb=>f b
def j3x:Sig Unit:=sg [.borrow y14 true] [true] [(y14,none)] [] λd f k=>j1w d.1 (λb=>k [⟨y14,true,b,[.O,.O]⟩] [] [])
theorem jd5:SO 174 j3x:=fK (np:=0) jhu [jbF] (oI 58 0 @jly oN) false Tryz.func174 λ_ _ _ _=>by delta j1w j6M jbF jc8;refine gz j4t λ_ b=>gz j7h λ_ d=> ?_;rewrite [<-b,<-d];kernel_rfl
def jd8 (d:Int×Int×qB) (b:Bool->Res):Res:=j1h d λr=>b (!r)
def jlU:Sig Unit:=sg [.look y2 true] [false] [(y2,none)] [] λd f k=>jd8 d.1 (λb=>k [wB b] [] [])
theorem jfc:SO 272 jlU:=fK (np:=0) (Za6 j8n Zas) [] oN false Tryz.func272 λ_ _ _ _=>by kernel_rfl
def j17 (s:List qV) (g:Int) (b:Int) (rec:Int->Res) (d:Unit->Res) (f:Int->Res):Res:=bif decide (b<g) then bif inb b (List.length s) then jd8 (nth (0,0,eS) s b) λr=>bif r then f b else rec (Z9K (b+1)) else none else d ()
def j4d (s:List qV) (b:Int):Int->(Int->Res)->((Unit->Res)×(Int->Res))->Res:=λv rec q=>j17 s b v (λd=>rec (d)) q.1 q.2
def j9w (s:List qV) (f:Int) (n:Nat) (g:Int) (b:Unit->Res) (d:Int->Res):Res:=Z1f (j4d s f) n (g) (b,d)
def j91:Z1d Unit:=NdL 19 19 [.R 0 y3 .S,.c 1 272 [] .unit [],.I 7,.I 8] [] (λb d=>(b.2.2.2.1)) (λb v=>(b.1,b.2.1,b.2.2.1,v,())) (λd v=>()) (λb d=>j4d b.1 b.2.2.1) λb d f=>((λ_=>f (.exit 0) [] []),(λg=>f .ret [(4,vI g)] []))
theorem jeM:CN 0 26 Tryz.f306 j91:=lK (Za6 jfc Zas) [] oN ([],[]) [(0,[],[])] ([4],[]) λ_ _ _ _ _=>by kernel_rfl
def j7q (s:List qV) (f:Unit) (b:Int->Res):Res:=j9w s (nI (List.length s)) Z1c 0 (λ_=>b (-1)) (λt=>b t)
def jga:Sig Unit:=sg [.look y3 false,.rclos 272 []] [false] [(y3,none),(.unit,none)] [] λb f k=>j7q b.1 b.2.1 (λd=>k [wI d] [] [])
theorem jfU:SO 306 jga:=fK (np:=0) (Za6 jfc Zas) [j91] (oI 26 0 @jeM oN) false Tryz.func306 λ_ _ _ _=>by kernel_rfl
def j2p (s:List qV) (f:Unit) (b:Bool->Res):Res:=j7q s f λr=>b (decide (r>=0))
def j8d:Sig Unit:=sg [.look y3 false,.rclos 272 []] [false] [(y3,none),(.unit,none)] [] λb f k=>j2p b.1 b.2.1 (λd=>k [wB d] [] [])
theorem jdT:SO 271 j8d:=fK (np:=0) (Za6 jfU Zas) [] oN false Tryz.func271 λ_ _ _ _=>by kernel_rfl
def j26 (l:List qV) (b:Bool->Res):Res:=j0A (nI (List.length l)) 1 8 λr=>bif r then j2p l () λd=>b (!d) else b false
def jch:Sig Unit:=sg [.look y3 false] [false] [(y3,none)] [] λd f k=>j26 d.1 (λb=>k [wB b] [] [])
theorem jm8:SO 213 jch:=fK (np:=0) (Za6 j5i (Za6 jdT Zas)) [] oN false Tryz.func213 λ_ _ _ _=>by delta j26 j3y j8d;refine gz j0A λ_ b=>gz j2p λ_ d=> ?_;rewrite [<-b,<-d];kernel_rfl
theorem jht:FS [(160,j3w),(211,j4K),(212,j8b),(213,jch)]:=(Za6 ja5 (Za6 je8 (Za6 jfd (Za6 jm8 Zas))))
def j6C (s:qS) (b:Bool->Res):Res:=bif (s.1==1) then bif ((nI (List.length s.2.2.1))==0) then j26 s.2.2.2.1 λr=>b r else b false else bif (s.1==2) then j26 s.2.2.1 λd=>bif d then j26 s.2.2.2.1 λf=>b f else b false else bif (s.1==3) then j26 s.2.2.1 λg=>bif g then b ((nI (List.length s.2.2.2.1))==0) else b false else bif (s.1==4) then bif ((nI (List.length s.2.2.1))==0) then b ((nI (List.length s.2.2.2.1))==0) else b false else b false
def jbD:Z1d Unit:=Nd 91 91 [.t 1 (pB 1)] [(1,y23,[.S,.S,.S,.S])] λg f b=>j6C f.1.2 (λd=>b .ret [(2,vB d)] [])
theorem jlw:CN 0 15 Tryz.f161 jbD:=nK jht [] oN ([],[]) [] ([2],[]) λ_ _ _=>by delta j6C jch;refine gz j26 λ_ b=> ?_;rewrite [<-b];kernel_rfl
def j7O (s:qS) (b:Bool->Res):Res:=bif (s.1==5) then j2K s.2.2.2.2 λr=>bif r then bif sEq s.2.1 s.2.2.2.2.2.1 then bif ((nI (List.length s.2.2.1))==0) then b ((nI (List.length s.2.2.2.1))==0) else b false else b false else b false else j0F s.2.1 λd=>bif !d then b false else j0r s.2.2.2.2 (0,eS,[],[],eS,eS) λf=>bif !f then b false else j6C s λt=>b t
def jde:Sig Unit:=sg [.look y23 true] [false] [(y23,none)] [] λd f k=>j7O d.1 (λb=>k [wB b] [] [])
theorem jnx:SO 161 jde:=fK (np:=0) jht [jbD] (oI 15 0 @jlw oN) false Tryz.func161 λ_ _ _ _=>by delta j7O j4K j3w j8b jbD;refine gz j2K λ_ b=>gz j0F λ_ d=>gz j0r λ_ f=>gz j6C λ_ g=> ?_;rewrite [<-b,<-d,<-f,<-g];kernel_rfl
theorem jge:FS [(174,j3x),(176,j1d),(295,jbk),(296,j7n),(297,j7m),(298,jcg)]:=(Za6 jd5 (Za6 ja4 (Za6 jl7 (Za6 jh2 (Za6 jh1 (Za6 jm7 Zas))))))
def j3l (f:Int) (h:Int) (d:qF×List qR) (x:qG) (c:List qT) (b:qF×List qR) (g:qD->Res):Res:=bif (h==1) then Z87 (j0z c x.2.1 λr=>j1X b.2 r [[]] λi=>g (b.1,i)) (Z87 (j0z c x.2.1 λj=>j1X b.2 j [[]] λk=>g (b.1,k)) (j0z c x.2.1 λl=>j1X b.2 l [[]] λm=>g (b.1,m))) else bif (h==2) then j5K b.2 f (Z9K (f+1)) λn=>g (b.1,n) else bif inb f (List.length d.1) then bif inb f (List.length d.2) then j6B (nth (eS,[],[]) d.1 f) (nth [] d.2 f) x λp q=>bif inb f (List.length b.2) then g (b.1,upd b.2 f p) else none else none else none
def jaE:Z1d Unit:=Nd 79 79 [.t 2 (pB 2),.t 3 (pB 3),.t 4 (pB 4),.t 6 (pB 6),.t 8 (pB 8),.I 9,.I 31] [(2,y14,[.S,.S]),(3,y19,[.S,.S]),(4,y14,[.O,.O]),(6,y11,[.O]),(8,y14,[.O,.O])] λf b g=>j3l f.1 f.2.1 b.1.2 b.2.1.2 b.2.2.2.1.2 b.2.2.2.2.1.2 (λd=>g .normal [(4,pB 4),(6,pB 6),(8,pB 8)] [(4,⟨y14,b.2.2.1.1,b.2.2.1.2,[.O,.O]⟩),(6,⟨y11,b.2.2.2.1.1,b.2.2.2.1.2,[.O]⟩),(8,⟨y14,b.2.2.2.2.1.1,d,[.O,.O]⟩)])
theorem jkC:CN 0 253 Tryz.f252 jaE:=nK jge [] oN ([4,6,8],[4,6,8]) [] ([],[]) λ_ _ _=>by delta j3l j1d j7n j7m jcg;refine gz j0z λ_ b=>gz j1X λ_ d=>gz j5K λ_ f=>gz j6B λ_ g=> ?_;rewrite [<-b,<-d,<-f,<-g];kernel_rfl
def j6D (d:qF×List qR) (x:qG) (f:qD->Int->Res):Res:=j5l d.1 x λr g=>bif (g != 0) then f ([],[]) g else j1w d λh=>j0z d.1 x.2.1 λi=>j3l i x.1 d x r h λb=>f (r,b.2) 0
def jci:Sig Unit:=sg [.borrow y14 true,.borrow y19 true] [true,false] [(y14,none),(y19,none)] [] λb g k=>j6D b.1 b.2.1 (λd f=>k [⟨y14,true,d,[.O,.O]⟩,wI f] [] [])
theorem jm9:SO 252 jci:=fK (np:=0) jge [jaE] (oI 253 0 @jkC oN) false Tryz.func252 λ_ _ _ _=>by delta j6D jbk j3x j1d jaE;refine gz j5l λ_ b=>gz j1w λ_ d=>gz j0z λ_ f=>gz j3l λ_ g=> ?_;rewrite [<-b,<-d,<-f,<-g];kernel_rfl
theorem jcw:FS [(174,j3x),(176,j1d),(252,jci),(253,jdc),(254,jdd),(255,jdb)]:=(Za6 jd5 (Za6 ja4 (Za6 jm9 (Za6 jnu (Za6 jnv (Za6 jnt Zas))))))
def j8y (f:Int) (s:qS) (b:Unit->Res) (d:Unit->Res):Res:=bif decide (f<0) then bif (s.1 != 5) then d () else bif (s.2.2.2.2.1 != 1) then d () else b () else b ()
def j7H:Z1d Unit:=Nd 108 108 [.t 2 (pB 2),.t 3 (pB 3),.t 4 (pB 4),.I 6] [(2,y14,[.S,.S]),(3,y23,[.S,.S,.S,.S]),(4,y14,[.O,.O])] λf b d=>j8y f.1 b.2.1.2 (λ_=>d .normal [(2,pB 2),(3,pB 3),(4,pB 4),(6,vI f.1)] [(2,⟨y14,b.1.1,b.1.2,[.S,.S]⟩),(3,⟨y23,b.2.1.1,b.2.1.2,[.S,.S,.S,.S]⟩),(4,⟨y14,b.2.2.1.1,b.2.2.1.2,[.O,.O]⟩)]) (λ_=>d .ret [(4,pB 4),(5,vI 4)] [(4,⟨y14,b.2.2.1.1,([],[]),[.O,.O]⟩)])
theorem jnT:CN 0 14 Tryz.f196 j7H:=nK jcw [] oN ([2,3,4,6],[2,3,4]) [] ([4,5],[4]) λ_ _ _=>by kernel_rfl
def jb5 (f:Int) (d:qF×List qR) (b:Unit->Res):Res:=bif inb f (List.length d.1) then Z87 (Z87 (Z87 (Z87 (bif inb f (List.length d.2) then Z87 (Z87 (b ()) (Z87 (b ()) (b ()))) (Z87 (Z87 (b ()) (b ())) (b ())) else none) (Z87 (bif inb f (List.length d.2) then Z87 (Z87 (b ()) (b ())) (b ()) else none) (bif inb f (List.length d.2) then b () else none))) (Z87 (Z87 (bif inb f (List.length d.2) then Z87 (Z87 (b ()) (b ())) (b ()) else none) (bif inb f (List.length d.2) then b () else none)) (bif inb f (List.length d.2) then b () else none))) (Z87 (Z87 (Z87 (bif inb f (List.length d.2) then Z87 (Z87 (b ()) (Z87 (b ()) (b ()))) (Z87 (Z87 (b ()) (b ())) (b ())) else none) (Z87 (bif inb f (List.length d.2) then Z87 (Z87 (b ()) (b ())) (b ()) else none) (bif inb f (List.length d.2) then b () else none))) (Z87 (Z87 (bif inb f (List.length d.2) then Z87 (Z87 (b ()) (b ())) (b ()) else none) (bif inb f (List.length d.2) then b () else none)) (bif inb f (List.length d.2) then b () else none))) (Z87 (Z87 (Z87 (bif inb f (List.length d.2) then Z87 (Z87 (b ()) (b ())) (b ()) else none) (bif inb f (List.length d.2) then b () else none)) (bif inb f (List.length d.2) then b () else none)) (Z87 (Z87 (Z87 (bif inb f (List.length d.2) then Z87 (Z87 (b ()) (b ())) (b ()) else none) (bif inb f (List.length d.2) then b () else none)) (bif inb f (List.length d.2) then b () else none)) (bif inb f (List.length d.2) then b () else none))))) (Z87 (Z87 (Z87 (Z87 (bif inb f (List.length d.2) then Z87 (Z87 (b ()) (Z87 (b ()) (b ()))) (Z87 (Z87 (b ()) (b ())) (b ())) else none) (Z87 (bif inb f (List.length d.2) then Z87 (Z87 (b ()) (b ())) (b ()) else none) (bif inb f (List.length d.2) then b () else none))) (Z87 (Z87 (bif inb f (List.length d.2) then Z87 (Z87 (b ()) (b ())) (b ()) else none) (bif inb f (List.length d.2) then b () else none)) (bif inb f (List.length d.2) then b () else none))) (Z87 (Z87 (Z87 (bif inb f (List.length d.2) then Z87 (Z87 (b ()) (b ())) (b ()) else none) (bif inb f (List.length d.2) then b () else none)) (bif inb f (List.length d.2) then b () else none)) (bif inb f (List.length d.2) then b () else none))) (Z87 (Z87 (Z87 (Z87 (bif inb f (List.length d.2) then Z87 (Z87 (b ()) (b ())) (b ()) else none) (bif inb f (List.length d.2) then b () else none)) (bif inb f (List.length d.2) then b () else none)) (Z87 (Z87 (Z87 (bif inb f (List.length d.2) then Z87 (Z87 (b ()) (b ())) (b ()) else none) (bif inb f (List.length d.2) then b () else none)) (bif inb f (List.length d.2) then b () else none)) (bif inb f (List.length d.2) then b () else none))) (Z87 (Z87 (Z87 (Z87 (bif inb f (List.length d.2) then Z87 (Z87 (b ()) (b ())) (b ()) else none) (bif inb f (List.length d.2) then b () else none)) (bif inb f (List.length d.2) then b () else none)) (bif inb f (List.length d.2) then b () else none)) (bif inb f (List.length d.2) then b () else none)))) else none
def jae:Z1d Unit:=Nd 108 108 [.t 2 (pB 2),.t 3 (pB 3),.t 4 (pB 4),.I 6] [(2,y14,[.S,.S]),(3,y23,[.S,.S,.S,.S]),(4,y14,[.O,.O])] λd b f=>jb5 d.1 b.1.2 (λ_=>f .normal [(2,pB 2),(3,pB 3),(4,pB 4),(6,vI d.1),(9,pB 9),(10,v1 y12 (nth [] b.1.2.2 d.1) .S)] [(2,⟨y14,b.1.1,b.1.2,[.S,.S]⟩),(3,⟨y23,b.2.1.1,b.2.1.2,[.S,.S,.S,.S]⟩),(4,⟨y14,b.2.2.1.1,b.2.2.1.2,[.O,.O]⟩),(9,⟨y10,false,nth (eS,[],[]) b.1.2.1 d.1,[.S,.S]⟩)])
theorem jnU:CN 0 62 Tryz.f196 jae:=nK jcw [j7H] oN ([2,3,4,6,9,10],[2,3,4,9]) [] ([],[]) λ_ _ _=>by kernel_rfl
def j6E (l:List qW) (code:Int) (b:Int) (s:qS) (t:qB×qE×qL) (d:qR->Int->Res):Res:=bif (b==1) then j7M t l s.2.2.2.1 λr f=>d r f else bif (b==2) then j7N t l s.2.2.1 s.2.2.2.1 λg h=>d g h else bif (b==3) then j7L t l s.2.2.1 λi j=>d i j else d [] code
def jdu:Z1d Unit:=Nd 108 108 [.t 2 (pB 2),.t 3 (pB 3),.t 4 (pB 4),.I 6,.t 9 (pB 9),.R 10 y12 .S,.I 11,.I 61] [(2,y14,[.S,.S]),(3,y23,[.S,.S,.S,.S]),(4,y14,[.O,.O]),(9,y10,[.S,.S])] λf d g=>j6E f.2.1 f.2.2.1 f.2.2.2.1 d.2.1.2 d.2.2.2.1.2 (λh b=>g .normal [(2,pB 2),(4,pB 4),(6,vI f.1),(10,v1 y12 h .O),(11,vI b)] [(2,⟨y14,d.1.1,d.1.2,[.S,.S]⟩),(4,⟨y14,d.2.2.1.1,d.2.2.1.2,[.O,.O]⟩)])
theorem jnV:CN 0 509 Tryz.f196 jdu:=nK jcw [j7H,jae] oN ([2,4,6,10,11],[2,4]) [] ([],[]) λ_ _ _=>by delta j6E jdc jdd jdb;refine gz j7M λ_ b=>gz j7N λ_ d=>gz j7L λ_ f=> ?_;rewrite [<-b,<-d,<-f];kernel_rfl
def jaN (d:qF×List qR) (s:qS) (b:qD->Int->Res):Res:=j0z d.1 s.2.1 λr=>j8y r s (λ_=>bif (s.1==5) then j6D d s.2.2.2.2 λh g=>bif (g != 0) then b ([],[]) (Z9K (10+g)) else b h 0 else jb5 r d λ_=>j6E (nth [] d.2 r) 0 s.1 s (nth (eS,[],[]) d.1 r) λl code=>bif (code != 0) then b ([],[]) (Z9K (10+code)) else j1w d λf=>bif inb r (List.length f.2) then b (f.1,upd f.2 r l) 0 else none) (λ_=>b ([],[]) 4)
def jg5:Sig Unit:=sg [.borrow y14 true,.borrow y23 true] [true,false] [(y14,none),(y23,none)] [] λb g k=>jaN b.1 b.2.1 (λd f=>k [⟨y14,true,d,[.O,.O]⟩,wI f] [] [])
theorem jpq:SO 196 jg5:=fK (np:=0) jcw [j7H,jae,jdu] (oI 14 0 @jnT (oI 62 1 @jnU (oI 509 2 @jnV oN))) false Tryz.func196 λ_ _ _ _=>by delta jaN j1d j7H jci jae jdu j3x;refine gz j0z λ_ b=>gz j8y λ_ d=>gz j6D λ_ f=>gz jb5 λ_ g=>gz j6E λ_ h=>gz j1w λ_ i=> ?_;rewrite [<-b,<-d,<-f,<-g,<-h,<-i];kernel_rfl
theorem jgd:FS [(161,jde),(174,j3x),(195,ja0),(196,jg5)]:=(Za6 jnx (Za6 jd5 (Za6 jjR (Za6 jpq Zas))))
def j2d (d:List qS) (g:Int) (b:Int) (f:qF×List qR) (rec:Int->qD->Res) (j:qD->Res) (h:Int->Int->Res):Res:=bif decide (b<g) then bif inb b (List.length d) then j7O (nth (0,eS,[],[],0,eS,[],[],eS,eS) d b) λr=>bif !r then h 1 b else jaN f (nth (0,eS,[],[],0,eS,[],[],eS,eS) d b) λk i=>bif (i != 0) then h i b else rec (Z9K (b+1)) k else none else j f
def j3A (d:List qS) (f:Int):(Int×qD)->(Int×qD->Res)->((qD->Res)×(Int->Int->Res))->Res:=λv rec q=>j2d d f v.1 v.2 (λg b=>rec (g,b)) q.1 q.2
def jb4 (d:List qS) (f:Int) (n:Nat) (g:Int) (b:qF×List qR) (h:qD->Res) (i:Int->Int->Res):Res:=Z1f (j3A d f) n (g,b) (h,i)
def jaB:Z1d Unit:=NdL 44 44 [.t 4 (pB 4),.t 7 (pB 7),.R 18 y24 .S,.I 19,.I 20] [(4,y14,[.O,.O]),(7,y14,[.O,.O])] (λd b=>(d.2.2.1,b.2.1.2)) (λd v=>(d.1,d.2.1,v.1,())) (λb v=>((b.1.1,b.1.2),(b.2.1.1,v.2),())) (λd b=>j3A d.1 d.2.1) λd b g=>((λf=>g (.exit 0) [(4,pB 4),(7,pB 7)] [(4,⟨y14,b.1.1,b.1.2,[.O,.O]⟩),(7,⟨y14,b.2.1.1,f,[.O,.O]⟩)]),(λh i=>g .ret [(4,pB 4),(5,vI h),(6,vI i)] [(4,⟨y14,b.1.1,([],[]),[.O,.O]⟩)]))
theorem jkv:CN 0 122 Tryz.f138 jaB:=lK jgd [] oN ([],[]) [(0,[4,7],[4,7])] ([4,5,6],[4]) λ_ _ _ _ _=>by delta j3A j2d jde jg5;refine gz j7O λ_ b=>gz jaN λ_ d=> ?_;rewrite [<-b,<-d];kernel_rfl
def j6y (d:qF×List qR) (l:List qS) (b:qD->Int->Int->Res):Res:=j5w d λr=>bif !r then b ([],[]) 1 0 else j1w d λg=>jb4 l (nI (List.length l)) Z1c 0 g (λf=>b f 0 0) (λt h=>b ([],[]) t h)
def jgG:Sig Unit:=sg [.borrow y14 true,.borrow y24 false] [true,false,false] [(y14,none),(y24,none)] [] λb h k=>j6y b.1 b.2.1 (λd f g=>k [⟨y14,true,d,[.O,.O]⟩,wI f,wI g] [] [])
theorem jm6:SO 138 jgG:=fK (np:=0) jgd [jaB] (oI 122 0 @jkv oN) false Tryz.func138 λ_ _ _ _=>by delta j6y ja0 j3x jaB jb4;refine gz j5w λ_ b=>gz j1w λ_ d=>gz j3A λ_ f=> ?_;rewrite [<-b,<-d,<-f];kernel_rfl
end
end Go.PI.G
namespace Go.PI.G
noncomputable section
open Go Go.PI Go.Proofs
open Go.Code (pl pr)
theorem j82:FS [(114,j38),(115,j2k),(126,j39),(172,j0U),(173,j0C)]:=(Za6 jaY (Za6 j5k (Za6 jcN (Za6 j3t (Za6 j5j Zas)))))
def j1Y (b:List qW) (g:List qW) (h:Int) (t:qB×qE×qL) (f:List qS) (d:Int) (rec:qU->Int->Res) (i:qU->Res):Res:=bif decide (d<h) then bif inb d (List.length g) then j0e t (nth [] g d) λr=>j0E t b r λj=>bif decide (j<0) then j0e t (nth [] g d) λk=>bif lim ((List.length f)+1) then rec (f++[(3,t.1,k,[],0,eS,[],[],eS,eS)]) (Z9K (d+1)) else none else rec f (Z9K (d+1)) else none else i f
def j3d (b:List qW) (f:List qW) (g:Int) (t:qB×qE×qL):(qU×Int)->(qU×Int->Res)->((qU->Res))->Res:=λv rec q=>j1Y b f g t v.1 v.2 (λd h=>rec (d,h)) q
def j7t (b:List qW) (f:List qW) (g:Int) (t:qB×qE×qL) (n:Nat) (d:List qS) (h:Int) (i:qU->Res):Res:=Z1f (j3d b f g t) n (d,h) (i)
def j46:Z1d Unit:=NdL 110 110 [.R 1 y12 .S,.R 2 y12 .S,.t 3 (pB 3),.R 8 y24 .O,.R 27 y12 .S,.I 28,.I 29] [(3,y10,[.S,.S])] (λb d=>(b.2.2.1,b.2.2.2.2.2.1)) (λb v=>(b.1,b.2.1,v.1,b.2.2.2.1,b.2.2.2.2.1,v.2,())) (λd v=>((d.1.1,d.1.2),())) (λb d=>j3d b.2.1 b.2.2.2.1 b.2.2.2.2.1 d.1.2) λb d g=>((λf=>g (.exit 0) [(1,v1 y12 b.1 .S),(2,v1 y12 b.2.1 .S),(3,pB 3),(8,v1 y24 f .O)] [(3,⟨y10,d.1.1,d.1.2,[.S,.S]⟩)]))
theorem jjI:CN 0 122 Tryz.f190 j46:=lK j82 [] oN ([],[]) [(0,[1,2,3,8],[3])] ([],[]) λ_ _ _ _ _=>by delta j3d j1Y j0C j38;refine gz j0e λ_ b=>gz j0E λ_ d=> ?_;rewrite [<-b,<-d];kernel_rfl
def j1Z (a:List qW) (f:List qW) (h:Int) (t:qB×qE×qL) (d:List qS) (b:Int) (rec:qU->Int->Res) (i:qU->Res):Res:=bif decide (b<h) then bif inb b (List.length f) then j0e t (nth [] f b) λr=>j0E t a r λg=>bif decide (g>=0) then bif inb g (List.length a) then j1K (nth [] a g) (nth [] f b) λj=>bif !j then j0e t (nth [] f b) λk=>j0n (nth [] f b) λl=>bif lim ((List.length d)+1) then rec (d++[(2,t.1,k,l,0,eS,[],[],eS,eS)]) (Z9K (b+1)) else none else rec d (Z9K (b+1)) else none else rec d (Z9K (b+1)) else none else i d
def j3e (a:List qW) (d:List qW) (f:Int) (t:qB×qE×qL):(qU×Int)->(qU×Int->Res)->((qU->Res))->Res:=λv rec q=>j1Z a d f t v.1 v.2 (λb g=>rec (b,g)) q
def j7u (a:List qW) (d:List qW) (f:Int) (t:qB×qE×qL) (n:Nat) (b:List qS) (g:Int) (h:qU->Res):Res:=Z1f (j3e a d f t) n (b,g) (h)
def j6s:Z1d Unit:=NdL 110 110 [.R 1 y12 .S,.R 2 y12 .S,.t 3 (pB 3),.R 8 y24 .O,.R 50 y12 .S,.I 51,.I 52] [(3,y10,[.S,.S])] (λb d=>(b.2.2.1,b.2.2.2.2.2.1)) (λb v=>(b.1,b.2.1,v.1,b.2.2.2.1,b.2.2.2.2.1,v.2,())) (λd v=>((d.1.1,d.1.2),())) (λb d=>j3e b.1 b.2.2.2.1 b.2.2.2.2.1 d.1.2) λb d g=>((λf=>g (.exit 2) [(1,v1 y12 b.1 .S),(2,v1 y12 b.2.1 .S),(3,pB 3),(8,v1 y24 f .O)] [(3,⟨y10,d.1.1,d.1.2,[.S,.S]⟩)]))
theorem jjJ:CN 0 250 Tryz.f190 j6s:=lK j82 [j46] oN ([],[]) [(2,[1,2,3,8],[3])] ([],[]) λ_ _ _ _ _=>by delta j3e j1Z j0C j38 j39 j2k;refine gz j0e λ_ b=>gz j0E λ_ d=>gz j1K λ_ f=>gz j0n λ_ g=> ?_;rewrite [<-b,<-d,<-f,<-g];kernel_rfl
def j20 (a:List qW) (f:List qW) (g:Int) (t:qB×qE×qL) (d:List qS) (b:Int) (rec:qU->Int->Res) (h:qU->Res):Res:=bif decide (b<g) then bif inb b (List.length f) then j0e t (nth [] f b) λr=>j0E t a r λi=>bif decide (i<0) then j0n (nth [] f b) λj=>bif lim ((List.length d)+1) then rec (d++[(1,t.1,[],j,0,eS,[],[],eS,eS)]) (Z9K (b+1)) else none else rec d (Z9K (b+1)) else none else h d
def j3f (a:List qW) (d:List qW) (f:Int) (t:qB×qE×qL):(qU×Int)->(qU×Int->Res)->((qU->Res))->Res:=λv rec q=>j20 a d f t v.1 v.2 (λb g=>rec (b,g)) q
def j7v (a:List qW) (d:List qW) (f:Int) (t:qB×qE×qL) (n:Nat) (b:List qS) (g:Int) (h:qU->Res):Res:=Z1f (j3f a d f t) n (b,g) (h)
def j9S:Z1d Unit:=NdL 110 110 [.R 1 y12 .S,.t 3 (pB 3),.R 8 y24 .O,.R 87 y12 .S,.I 88,.I 89] [(3,y10,[.S,.S])] (λb d=>(b.2.1,b.2.2.2.2.1)) (λb v=>(b.1,v.1,b.2.2.1,b.2.2.2.1,v.2,())) (λd v=>((d.1.1,d.1.2),())) (λb d=>j3f b.1 b.2.2.1 b.2.2.2.1 d.1.2) λb d g=>((λf=>g (.exit 4) [(8,v1 y24 f .O)] []))
theorem jjK:CN 0 506 Tryz.f190 j9S:=lK j82 [j46,j6s] oN ([],[]) [(4,[8],[])] ([],[]) λ_ _ _ _ _=>by delta j3f j20 j0C j38 j2k;refine gz j0e λ_ b=>gz j0E λ_ d=>gz j0n λ_ f=> ?_;rewrite [<-b,<-d,<-f];kernel_rfl
def j5o (t:qB×qE×qL) (a:List qW) (b:List qW) (g:qU->Bool->Res):Res:=j0q t a λr=>bif !r then g [] false else j0q t b λi=>bif !i then g [] false else j7t b a (nI (List.length a)) t Z1c [] 0 λh=>j7u a b (nI (List.length b)) t Z1c h 0 λd=>j7v a b (nI (List.length b)) t Z1c d 0 λf=>g f true
def jbp:Sig Unit:=sg [.borrow y10 true,.borrow y12 false,.borrow y12 false] [false,false] [(y10,none),(y12,none),(y12,none)] [] λb g k=>j5o b.1 b.2.1 b.2.2.1 (λd f=>k [w1 y24 d .O,wB f] [] [])
theorem jle:SO 190 jbp:=fK (np:=0) j82 [j46,j6s,j9S] (oI 122 0 @jjI (oI 250 1 @jjJ (oI 506 2 @jjK oN))) false Tryz.func190 λ_ _ _ _=>by delta j5o j0U j46 j6s j9S j7t j7u j7v;refine gz j0q λ_ b=>gz j3d λ_ d=>gz j3e λ_ f=>gz j3f λ_ g=> ?_;rewrite [<-b,<-d,<-f,<-g];kernel_rfl
theorem jjQ:FS [(186,j65),(189,jat),(190,jbp)]:=(Za6 jfV (Za6 jkj (Za6 jle Zas)))
def j4l (g:List qT) (h:Int) (a:qF×List qR) (b:qF×List qR) (f:List qS) (d:Int) (rec:qU->Int->Res) (j:qU->Res) (k:Unit->Res):Res:=bif decide (d<h) then bif inb d (List.length g) then bif inb d (List.length b.1) then j4m (nth (eS,[],[]) g d) (nth (eS,[],[]) b.1 d) λr=>bif !r then k () else bif inb d (List.length a.2) then bif inb d (List.length b.2) then j5o (nth (eS,[],[]) g d) (nth [] a.2 d) (nth [] b.2 d) λi l=>bif lim ((List.length f)+(List.length i)) then rec (f++i) (Z9K (d+1)) else none else none else none else none else none else j f
def j72 (f:List qT) (g:Int) (a:qF×List qR) (b:qF×List qR):(qU×Int)->(qU×Int->Res)->((qU->Res)×(Unit->Res))->Res:=λv rec q=>j4l f g a b v.1 v.2 (λd h=>rec (d,h)) q.1 q.2
def jeU (f:List qT) (g:Int) (a:qF×List qR) (b:qF×List qR) (n:Nat) (d:List qS) (h:Int) (i:qU->Res) (j:Unit->Res):Res:=Z1f (j72 f g a b) n (d,h) (i,j)
def jdx:Z1d Unit:=NdL 69 69 [.t 2 (pB 2),.t 3 (pB 3),.R 6 y24 .O,.R 31 y11 .S,.I 32,.I 33] [(2,y14,[.S,.S]),(3,y14,[.S,.S])] (λb d=>(b.1,b.2.2.2.1)) (λb v=>(v.1,b.2.1,b.2.2.1,v.2,())) (λd v=>((d.1.1,d.1.2),(d.2.1.1,d.2.1.2),())) (λb d=>j72 b.2.1 b.2.2.1 d.1.2 d.2.1.2) λb d g=>((λf=>g (.exit 0) [(6,v1 y24 f .O)] []),(λ_=>g .ret [(4,v1 y24 [] .O),(5,vB false)] []))
theorem jnY:CN 0 122 Tryz.f134 jdx:=lK jjQ [] oN ([],[]) [(0,[6],[])] ([4,5],[]) λ_ _ _ _ _=>by delta j72 j4l jat jbp;refine gz j4m λ_ b=>gz j5o λ_ d=> ?_;rewrite [<-b,<-d];kernel_rfl
def j8V (a:qF×List qR) (b:qF×List qR) (d:qU->Bool->Res):Res:=j3c a λr=>bif !r then d [] false else j3c b λg=>bif !g then d [] false else bif ((nI (List.length a.2)) != (nI (List.length b.2))) then d [] false else jeU a.1 (nI (List.length a.1)) a b Z1c [] 0 (λf=>d f true) (λ_=>d [] false)
def jk5:Sig Unit:=sg [.borrow y14 true,.borrow y14 true] [false,false] [(y14,none),(y14,none)] [] λb g k=>j8V b.1 b.2.1 (λd f=>k [w1 y24 d .O,wB f] [] [])
theorem jpv:SO 134 jk5:=fK (np:=0) jjQ [jdx] (oI 122 0 @jnY oN) false Tryz.func134 λ_ _ _ _=>by delta j8V j65 jdx jeU;refine gz j3c λ_ b=>gz j72 λ_ d=> ?_;rewrite [<-b,<-d];kernel_rfl
def j7W (d:qF×List qR) (l:List qS) (b:qU->Bool->Res):Res:=j71 d l λr f i=>bif (f != 0) then b [] false else j8V d r λg h=>b g h
def jdj:Sig Unit:=sg [.borrow y14 true,.borrow y24 false] [false,false] [(y14,none),(y24,none)] [] λb g k=>j7W b.1 b.2.1 (λd f=>k [w1 y24 d .O,wB f] [] [])
theorem jnF:SO 66 jdj:=fK (np:=0) (Za6 jmh (Za6 jpv Zas)) [] oN false Tryz.func66 λ_ _ _ _=>by delta j7W jgL jk5;refine gz j71 λ_ b=>gz j8V λ_ d=> ?_;rewrite [<-b,<-d];kernel_rfl
theorem j81:FS [(128,j1V),(177,j1A),(178,j3n),(238,j0L)]:=(Za6 j8o (Za6 jaW (Za6 j83 (Za6 j6v Zas))))
def j1L (b:List qW) (g:List qW) (h:Int) (t:qB×qE×qL) (f:List qS) (d:Int) (rec:qU->Int->Res) (i:qU->Res):Res:=bif decide (d<h) then bif inb d (List.length g) then j0m t (nth [] g d) λr=>j0s t b r λj=>bif decide (j<0) then bif lim ((List.length f)+1) then rec (f++[(3,t.1,r,[],0,eS,[],[],eS,eS)]) (Z9K (d+1)) else none else rec f (Z9K (d+1)) else none else i f
def j2T (b:List qW) (f:List qW) (g:Int) (t:qB×qE×qL):(qU×Int)->(qU×Int->Res)->((qU->Res))->Res:=λv rec q=>j1L b f g t v.1 v.2 (λd h=>rec (d,h)) q
def j7i (b:List qW) (f:List qW) (g:Int) (t:qB×qE×qL) (n:Nat) (d:List qS) (h:Int) (i:qU->Res):Res:=Z1f (j2T b f g t) n (d,h) (i)
def j44:Z1d Unit:=NdL 103 103 [.R 1 y12 .S,.R 2 y12 .S,.t 3 (pB 3),.R 7 y24 .O,.R 18 y12 .S,.I 19,.I 20] [(3,y10,[.S,.S])] (λb d=>(b.2.2.1,b.2.2.2.2.2.1)) (λb v=>(b.1,b.2.1,v.1,b.2.2.2.1,b.2.2.2.2.1,v.2,())) (λd v=>((d.1.1,d.1.2),())) (λb d=>j2T b.2.1 b.2.2.2.1 b.2.2.2.2.1 d.1.2) λb d g=>((λf=>g (.exit 0) [(1,v1 y12 b.1 .S),(2,v1 y12 b.2.1 .S),(3,pB 3),(7,v1 y24 f .O)] [(3,⟨y10,d.1.1,d.1.2,[.S,.S]⟩)]))
theorem jjr:CN 0 58 Tryz.f199 j44:=lK j81 [] oN ([],[]) [(0,[1,2,3,7],[3])] ([],[]) λ_ _ _ _ _=>by delta j2T j1L j0L j1A;refine gz j0m λ_ b=>gz j0s λ_ d=> ?_;rewrite [<-b,<-d];kernel_rfl
def j1M (a:List qW) (f:List qW) (h:Int) (t:qB×qE×qL) (d:List qS) (b:Int) (rec:qU->Int->Res) (i:qU->Res):Res:=bif decide (b<h) then bif inb b (List.length f) then j0m t (nth [] f b) λr=>j0s t a r λg=>bif decide (g>=0) then bif inb g (List.length a) then j0P (nth [] a g) (nth [] f b) λj=>bif !j then j0I (nth [] f b) λk=>bif lim ((List.length d)+1) then rec (d++[(2,t.1,r,k,0,eS,[],[],eS,eS)]) (Z9K (b+1)) else none else rec d (Z9K (b+1)) else none else rec d (Z9K (b+1)) else none else i d
def j2U (a:List qW) (d:List qW) (f:Int) (t:qB×qE×qL):(qU×Int)->(qU×Int->Res)->((qU->Res))->Res:=λv rec q=>j1M a d f t v.1 v.2 (λb g=>rec (b,g)) q
def j7j (a:List qW) (d:List qW) (f:Int) (t:qB×qE×qL) (n:Nat) (b:List qS) (g:Int) (h:qU->Res):Res:=Z1f (j2U a d f t) n (b,g) (h)
def j6p:Z1d Unit:=NdL 103 103 [.R 1 y12 .S,.R 2 y12 .S,.t 3 (pB 3),.R 7 y24 .O,.R 40 y12 .S,.I 41,.I 42] [(3,y10,[.S,.S])] (λb d=>(b.2.2.1,b.2.2.2.2.2.1)) (λb v=>(b.1,b.2.1,v.1,b.2.2.2.1,b.2.2.2.2.1,v.2,())) (λd v=>((d.1.1,d.1.2),())) (λb d=>j2U b.1 b.2.2.2.1 b.2.2.2.2.1 d.1.2) λb d g=>((λf=>g (.exit 2) [(1,v1 y12 b.1 .S),(2,v1 y12 b.2.1 .S),(3,pB 3),(7,v1 y24 f .O)] [(3,⟨y10,d.1.1,d.1.2,[.S,.S]⟩)]))
theorem jjs:CN 0 122 Tryz.f199 j6p:=lK j81 [j44] oN ([],[]) [(2,[1,2,3,7],[3])] ([],[]) λ_ _ _ _ _=>by delta j2U j1M j0L j1A j1V j3n;refine gz j0m λ_ b=>gz j0s λ_ d=>gz j0P λ_ f=>gz j0I λ_ g=> ?_;rewrite [<-b,<-d,<-f,<-g];kernel_rfl
def j1N (a:List qW) (f:List qW) (g:Int) (t:qB×qE×qL) (d:List qS) (b:Int) (rec:qU->Int->Res) (h:qU->Res):Res:=bif decide (b<g) then bif inb b (List.length f) then j0m t (nth [] f b) λr=>j0s t a r λi=>bif decide (i<0) then j0I (nth [] f b) λj=>bif lim ((List.length d)+1) then rec (d++[(1,t.1,[],j,0,eS,[],[],eS,eS)]) (Z9K (b+1)) else none else rec d (Z9K (b+1)) else none else h d
def j2V (a:List qW) (d:List qW) (f:Int) (t:qB×qE×qL):(qU×Int)->(qU×Int->Res)->((qU->Res))->Res:=λv rec q=>j1N a d f t v.1 v.2 (λb g=>rec (b,g)) q
def j7k (a:List qW) (d:List qW) (f:Int) (t:qB×qE×qL) (n:Nat) (b:List qS) (g:Int) (h:qU->Res):Res:=Z1f (j2V a d f t) n (b,g) (h)
def j9Q:Z1d Unit:=NdL 103 103 [.R 1 y12 .S,.t 3 (pB 3),.R 7 y24 .O,.R 78 y12 .S,.I 79,.I 80] [(3,y10,[.S,.S])] (λb d=>(b.2.1,b.2.2.2.2.1)) (λb v=>(b.1,v.1,b.2.2.1,b.2.2.2.1,v.2,())) (λd v=>((d.1.1,d.1.2),())) (λb d=>j2V b.1 b.2.2.1 b.2.2.2.1 d.1.2) λb d g=>((λf=>g (.exit 4) [(7,v1 y24 f .O)] []))
theorem jjt:CN 0 250 Tryz.f199 j9Q:=lK j81 [j44,j6p] oN ([],[]) [(4,[7],[])] ([],[]) λ_ _ _ _ _=>by delta j2V j1N j0L j1A j3n;refine gz j0m λ_ b=>gz j0s λ_ d=>gz j0I λ_ f=> ?_;rewrite [<-b,<-d,<-f];kernel_rfl
def j7E (t:qB×qE×qL) (a:List qW) (b:List qW) (h:qU->Res):Res:=j7i b a (nI (List.length a)) t Z1c [] 0 λg=>j7j a b (nI (List.length b)) t Z1c g 0 λd=>j7k a b (nI (List.length b)) t Z1c d 0 λf=>h f
def jfx:Sig Unit:=sg [.borrow y10 true,.borrow y12 false,.borrow y12 false] [false] [(y10,none),(y12,none),(y12,none)] [] λb f k=>j7E b.1 b.2.1 b.2.2.1 (λd=>k [w1 y24 d .O] [] [])
theorem jl8:SO 199 jfx:=fK (np:=0) j81 [j44,j6p,j9Q] (oI 58 0 @jjr (oI 122 1 @jjs (oI 250 2 @jjt oN))) false Tryz.func199 λ_ _ _ _=>by delta j7E j44 j6p j9Q j7i j7j j7k;refine gz j2T λ_ b=>gz j2U λ_ d=>gz j2V λ_ f=> ?_;rewrite [<-b,<-d,<-f];kernel_rfl
theorem jjN:FS [(195,ja0),(197,j4M),(199,jfx)]:=(Za6 jjR (Za6 jek (Za6 jl8 Zas)))
def j6z (g:List qT) (h:Int) (a:qF×List qR) (b:qF×List qR) (f:List qS) (d:Int) (rec:qU->Int->Res) (i:qU->Res):Res:=bif decide (d<h) then bif inb d (List.length g) then bif inb d (List.length a.2) then bif inb d (List.length b.2) then j7E (nth (eS,[],[]) g d) (nth [] a.2 d) (nth [] b.2 d) λr=>bif lim ((List.length f)+(List.length r)) then rec (f++r) (Z9K (d+1)) else none else none else none else none else i f
def j9c (f:List qT) (g:Int) (a:qF×List qR) (b:qF×List qR):(qU×Int)->(qU×Int->Res)->((qU->Res))->Res:=λv rec q=>j6z f g a b v.1 v.2 (λd h=>rec (d,h)) q
def jeu (f:List qT) (g:Int) (a:qF×List qR) (b:qF×List qR) (n:Nat) (d:List qS) (h:Int) (i:qU->Res):Res:=Z1f (j9c f g a b) n (d,h) (i)
def jdt:Z1d Unit:=NdL 55 55 [.t 2 (pB 2),.t 3 (pB 3),.R 6 y24 .O,.R 30 y11 .S,.I 31,.I 32] [(2,y14,[.S,.S]),(3,y14,[.S,.S])] (λb d=>(b.1,b.2.2.2.1)) (λb v=>(v.1,b.2.1,b.2.2.1,v.2,())) (λd v=>((d.1.1,d.1.2),(d.2.1.1,d.2.1.2),())) (λb d=>j9c b.2.1 b.2.2.1 d.1.2 d.2.1.2) λb d g=>((λf=>g (.exit 0) [(6,v1 y24 f .O)] []))
theorem jnS:CN 0 122 Tryz.f139 jdt:=lK jjN [] oN ([],[]) [(0,[6],[])] ([],[]) λ_ _ _ _ _=>by kernel_rfl
def j8v (a:qF×List qR) (b:qF×List qR) (d:qU->Bool->Res):Res:=j5w a λr=>bif !r then d [] false else j5w b λg=>bif !g then d [] false else j1C a.1 b.1 () λh=>bif !h then d [] false else jeu a.1 (nI (List.length a.1)) a b Z1c [] 0 λf=>d f true
def jk3:Sig Unit:=sg [.borrow y14 true,.borrow y14 true] [false,false] [(y14,none),(y14,none)] [] λb g k=>j8v b.1 b.2.1 (λd f=>k [w1 y24 d .O,wB f] [] [])
theorem jpp:SO 139 jk3:=fK (np:=0) jjN [jdt] (oI 122 0 @jnS oN) false Tryz.func139 λ_ _ _ _=>by delta j8v ja0 j4M jdt jeu;refine gz j5w λ_ b=>gz j1C λ_ d=>gz j9c λ_ f=> ?_;rewrite [<-b,<-d,<-f];kernel_rfl
def j4f (d:qF×List qR) (l:List qS) (b:qU->Bool->Res):Res:=j6y d l λr f i=>bif (f != 0) then b [] false else j8v d r λg h=>b g h
def jac:Sig Unit:=sg [.borrow y14 true,.borrow y24 false] [false,false] [(y14,none),(y24,none)] [] λb g k=>j4f b.1 b.2.1 (λd f=>k [w1 y24 d .O,wB f] [] [])
theorem jnw:SO 69 jac:=fK (np:=0) (Za6 jm6 (Za6 jpp Zas)) [] oN false Tryz.func69 λ_ _ _ _=>by delta j4f jgG jk3;refine gz j6y λ_ b=>gz j8v λ_ d=> ?_;rewrite [<-b,<-d];kernel_rfl
end
end Go.PI.G
namespace Go.PI.G
noncomputable section
open Go Go.PI Go.Proofs
open Go.Code (pl pr)
def jbe (a:Int×Int×qB) (left:Int) (b:Int->Res):Res:=bif decide ((Z9K (left-(nI (ByteArray.size a.2.2))))<0) then b (-1) else b (Z9K (left-(nI (ByteArray.size a.2.2))))
def jp5:Sig Unit:=sg [.look y2 true,.look tI false] [false] [(y2,none),(tI,none)] [] λb f k=>jbe b.1 b.2.1 (λd=>k [wI d] [] [])
theorem jef:SO 105 jp5:=fK (np:=0) Zas [] oN false Tryz.func105 λ_ _ _ _=>by kernel_rfl
def jbg (a:Int×Int×qB) (b:qV->Res):Res:=b (a.1,a.2.1,a.2.2)
def jp7:Sig Unit:=sg [.look y2 true] [true] [(y2,none)] [] λd f k=>jbg d.1 (λb=>k [⟨y2,true,b,[]⟩] [] [])
theorem jei:SO 106 jp7:=fK (np:=0) Zas [] oN false Tryz.func106 λ_ _ _ _=>by kernel_rfl
def jba (a:Int×Int×qB) (b:Int×Int×qB) (d:Bool->Res):Res:=bif (a.1 != b.1) then d false else bif (a.2.1 != b.2.1) then d false else bif sNe a.2.2 b.2.2 then d false else d true
def jp3:Sig Unit:=sg [.look y2 true,.look y2 true] [false] [(y2,none),(y2,none)] [] λb f k=>jba b.1 b.2.1 (λd=>k [wB d] [] [])
theorem jec:SO 107 jp3:=fK (np:=0) Zas [] oN false Tryz.func107 λ_ _ _ _=>by kernel_rfl
end
end Go.PI.G
namespace Go.PI.G
noncomputable section
open Go Go.PI Go.Proofs
open Go.Code (pl pr)
def jdX (a:qB×Int×Bool×Bool×Int×Int×qB) (left:Int) (b:Int->Res):Res:=bif decide ((Z9K (left-(nI (ByteArray.size a.1))))<0) then b (-1) else jbe a.2.2.2.2 (Z9K (left-(nI (ByteArray.size a.1)))) λr=>bif decide (r<0) then b (-1) else b r
def jp4:Sig Unit:=sg [.look y7 true,.look tI false] [false] [(y7,none),(tI,none)] [] λb f k=>jdX b.1 b.2.1 (λd=>k [wI d] [] [])
theorem jii:SO 285 jp4:=fK (np:=0) (Za6 jef Zas) [] oN false Tryz.func285 λ_ _ _ _=>by kernel_rfl
def jdY (a:qB×Int×Bool×Bool×Int×Int×qB) (b:qC->Res):Res:=jbg a.2.2.2.2 λr=>b (a.1,a.2.1,a.2.2.1,a.2.2.2.1,r)
def jp6:Sig Unit:=sg [.look y7 true] [true] [(y7,none)] [] λd f k=>jdY d.1 (λb=>k [⟨y7,true,b,[]⟩] [] [])
theorem jij:SO 292 jp6:=fK (np:=0) (Za6 jei Zas) [] oN false Tryz.func292 λ_ _ _ _=>by kernel_rfl
def jdW (a:qB×Int×Bool×Bool×Int×Int×qB) (b:qB×Int×Bool×Bool×Int×Int×qB) (d:Bool->Res):Res:=bif sNe a.1 b.1 then d false else bif (a.2.1 != b.2.1) then d false else bif !(a.2.2.1==b.2.2.1) then d false else bif !(a.2.2.2.1==b.2.2.2.1) then d false else jba a.2.2.2.2 b.2.2.2.2 λr=>bif !r then d false else d true
def jp2:Sig Unit:=sg [.look y7 true,.look y7 true] [false] [(y7,none),(y7,none)] [] λb f k=>jdW b.1 b.2.1 (λd=>k [wB d] [] [])
theorem jig:SO 302 jp2:=fK (np:=0) (Za6 jec Zas) [] oN false Tryz.func302 λ_ _ _ _=>by kernel_rfl
end
end Go.PI.G
namespace Go.PI.G
noncomputable section
open Go Go.PI Go.Proofs
open Go.Code (pl pr)
def j30 (d:Int) (b:qB) (rec:Int->qB->Res) (f:qB->Res):Res:=bif decide (d>0) then bif lim ((ByteArray.size (Z3B [wu8 (Z9K (48+(Int.tmod d 10)))]))+(ByteArray.size b)) then rec (Z9K (Int.tdiv d 10)) ((Z3B [wu8 (Z9K (48+(Int.tmod d 10)))])++b) else none else f b
def j5I:(Int×qB)->(Int×qB->Res)->((qB->Res))->Res:=λv rec q=>j30 v.1 v.2 (λd b=>rec (d,b)) q
def jeE (n:Nat) (f:Int) (b:qB) (d:qB->Res):Res:=Z1f (j5I) n (f,b) (d)
def jdP:Z1d Unit:=NdL 20 20 [.I 0,.S 3] [] (λd f=>(d.1,d.2.1)) (λd v=>(v.1,v.2,())) (λf v=>()) (λd f=>j5I) λd f g=>((λb=>g (.exit 0) [(3,vS b)] []))
theorem jjC:CN 0 60 Tryz.f110 jdP:=lK Zas [] oN ([],[]) [(0,[3],[])] ([],[]) λ_ _ _ _ _=>by kernel_rfl
def j09 (f:Int) (d:qB->Res):Res:=bif decide (f<=0) then d jsY else jeE Z1c f eS λb=>bif lim (1+(ByteArray.size b)) then d (z_m++b) else none
def j14:Sig Unit:=sg [.look tI false] [false] [(tI,none)] [] λd f k=>j09 d.1 (λb=>k [wS b] [] [])
theorem j0b:SO 110 j14:=fK (np:=0) Zas [jdP] (oI 60 0 @jjC oN) false Tryz.func110 λ_ _ _ _=>by kernel_rfl
end
end Go.PI.G
