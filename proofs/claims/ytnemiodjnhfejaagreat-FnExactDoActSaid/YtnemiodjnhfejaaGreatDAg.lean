/-
  Program's code interpreted over typed values; printed texts; plain laws. No conditions.
-/
import Derived.Test.YtnemiodjnhfejaaGreatDAd
import Derived.Test.YtnemiodjnhfejaaGreatDAe
import Derived.Test.YtnemiodjnhfejaaGreatDAf
set_option linter.unusedVariables false
set_option maxRecDepth 100000
namespace Go.PI.G
noncomputable section
open Go Go.PI Go.Proofs
open Go.Code (pl pr)
def j3J (d:List qV) (h:Int) (b:Int) (rec:Int->Res) (f:Unit->Res) (g:Unit->Res):Res:=bif decide (b<h) then bif inb b (List.length d) then j1A (nth (0,0,eS) d b) λr=>bif !r then g () else rec (Z9K (b+1)) else none else f ()
def j9Y (b:List qV) (d:Int):Int->(Int->Res)->((Unit->Res)×(Unit->Res))->Res:=λv rec q=>j3J b d v (λf=>rec (f)) q.1 q.2
def jg7 (f:List qV) (g:Int) (n:Nat) (h:Int) (b:Unit->Res) (d:Unit->Res):Res:=Z1f (j9Y f g) n (h) (b,d)
def jfy:Z1d Unit:=NdL 23 23 [.R 0 y3 .S,.R 5 y3 .S,.I 6,.I 7] [] (λb d=>(b.2.2.2.1)) (λb v=>(b.1,b.2.1,b.2.2.1,v,())) (λd v=>()) (λb d=>j9Y b.2.1 b.2.2.1) λb d f=>((λ_=>f (.exit 0) [(0,v1 y3 b.1 .S)] []),(λ_=>f .ret [(2,vB false)] []))
theorem jlM:CN 0 26 Tryz.f208 jfy:=lK (Za6 j8G Zas) [] oN ([],[]) [(0,[0],[])] ([2],[]) λ_ _ _ _ _=>by kernel_rfl
def j30 (l:List qV) (b:Bool->Res):Res:=jg7 l (nI (List.length l)) Z1c 0 (λ_=>bif decide ((nI (List.length l))>=1) then b (decide ((nI (List.length l))<=8)) else b false) (λ_=>b false)
def jcP:Sig Unit:=sg [.look y3 false] [false] [(y3,none)] [] λd f k=>j30 d.1 (λb=>k [wB b] [] [])
theorem jnp:SO 208 jcP:=fK (np:=0) (Za6 j8G Zas) [jfy] (oI 26 0 @jlM oN) false Tryz.func208 λ_ _ _ _=>by kernel_rfl
def j1B (d:qG) (b:Bool->Res):Res:=bif (d.1==0) then bif sEq d.2.1 eS then bif ((nI (List.length d.2.2.1))==0) then bif ((nI (List.length d.2.2.2.1))==0) then bif sEq d.2.2.2.2.1 eS then b (sEq d.2.2.2.2.2 eS) else b false else b false else b false else b false else b false
def jbM:Sig Unit:=sg [.look y13 true] [false] [(y13,none)] [] λd f k=>j1B d.1 (λb=>k [wB b] [] [])
theorem jfJ:SO 209 jbM:=fK (np:=0) Zas [] oN false Tryz.func209 λ_ _ _ _=>by kernel_rfl
theorem jin:FS [(154,j3m),(208,jcP),(209,jbM),(210,j4J)]:=(Za6 jal (Za6 jnp (Za6 jfJ (Za6 jeG Zas))))
def j74 (d:Bool) (f:Bool) (s:qS) (b:Bool->Res):Res:=bif (s.1==1) then bif d then j30 s.2.2.2.1 λr=>bif r then j1B s.2.2.2.2 λg=>b g else b false else b false else bif (s.1==2) then j30 s.2.2.1 λh=>bif h then j30 s.2.2.2.1 λi=>bif i then j1B s.2.2.2.2 λj=>b j else b false else b false else bif (s.1==3) then j30 s.2.2.1 λk=>bif k then bif f then j1B s.2.2.2.2 λl=>b l else b false else b false else bif (s.1==4) then bif d then bif f then j1B s.2.2.2.2 λm=>b m else b false else b false else bif (s.1==5) then bif d then bif f then j2M s.2.2.2.2 λn=>bif n then b (sEq s.2.2.2.2.2.1 s.2.1) else b false else b false else b false else b false
def jc9:Z1d Unit:=Nd 93 93 [.t 1 (pB 1),.B 3,.B 4] [(1,y17,[.S,.S,.S,.S])] λb g d=>j74 b.1 b.2.1 g.1.2 (λf=>d .ret [(2,vB f)] [])
theorem jmL:CN 0 31 Tryz.f155 jc9:=nK jin [] oN ([],[]) [] ([2],[]) λ_ _ _=>by delta j74 jcP jbM j4J;refine gz j30 λ_ b=>gz j1B λ_ d=>gz j2M λ_ f=> ?_;rewrite [<-b,<-d,<-f];kernel_rfl
def j3X (s:qS) (b:Bool->Res):Res:=j0S s.2.1 λr=>bif !r then b false else j74 ((nI (List.length s.2.2.1))==0) ((nI (List.length s.2.2.2.1))==0) s λt=>b t
def j7W:Sig Unit:=sg [.look y17 true] [false] [(y17,none)] [] λd f k=>j3X d.1 (λb=>k [wB b] [] [])
theorem jiw:SO 155 j7W:=fK (np:=0) jin [jc9] (oI 31 0 @jmL oN) false Tryz.func155 λ_ _ _ _=>by delta j3X j3m jc9;refine gz j0S λ_ b=>gz j74 λ_ d=> ?_;rewrite [<-b,<-d];kernel_rfl
theorem jkE:FS [(172,j1y),(242,j90)]:=(Za6 j5b (Za6 jjg Zas))
def j72 (f:List qT) (g:Int) (d:qF×List qR) (b:Int) (rec:Int->Res) (h:Unit->Res) (i:Unit->Res):Res:=bif decide (b<g) then bif inb b (List.length f) then bif inb b (List.length d.2) then j0G (nth (eS,[],[]) f b) (nth [] d.2 b) λr=>bif !r then i () else rec (Z9K (b+1)) else none else none else h ()
def j9B (b:List qT) (f:Int) (d:qF×List qR):Int->(Int->Res)->((Unit->Res)×(Unit->Res))->Res:=λv rec q=>j72 b f d v (λg=>rec (g)) q.1 q.2
def jfo (b:List qT) (f:Int) (d:qF×List qR) (n:Nat) (g:Int) (h:Unit->Res) (i:Unit->Res):Res:=Z1f (j9B b f d) n (g) (h,i)
def jdU:Z1d Unit:=NdL 38 38 [.t 1 (pB 1),.R 21 y30 .S,.I 22,.I 23] [(1,y33,[.S,.S])] (λb d=>(b.2.2.1)) (λb v=>(b.1,b.2.1,v,())) (λd v=>((d.1.1,d.1.2),())) (λb d=>j9B b.1 b.2.1 d.1.2) λb d f=>((λ_=>f (.exit 0) [] []),(λ_=>f .ret [(2,vB false)] []))
theorem jpg:CN 0 58 Tryz.f186 jdU:=lK jkE [] oN ([],[]) [(0,[],[])] ([2],[]) λ_ _ _ _ _=>by kernel_rfl
def j7i (d:qF×List qR) (b:Bool->Res):Res:=j7y d.1 λr=>bif !r then b false else bif ((nI (List.length d.2)) != (nI (List.length d.1))) then b false else jfo d.1 (nI (List.length d.1)) d Z1c 0 (λ_=>b true) (λ_=>b false)
def jae:Sig Unit:=sg [.look y33 true] [false] [(y33,none)] [] λd f k=>j7i d.1 (λb=>k [wB b] [] [])
theorem jkG:SO 186 jae:=fK (np:=0) jkE [jdU] (oI 58 0 @jpg oN) false Tryz.func186 λ_ _ _ _=>by delta j7i j90 jdU jfo;refine gz j7y λ_ b=>gz j9B λ_ d=> ?_;rewrite [<-b,<-d];kernel_rfl
theorem jgT:FS [(243,j6W),(244,j9y)]:=(Za6 jh4 (Za6 jh5 Zas))
def j3I (f:List qR) (g:Int) (d:Int) (b:qF×List qR) (rec:Int->qD->Res) (h:qD->Res):Res:=bif decide (d<g) then bif inb d (List.length f) then j77 (nth [] f d) λr=>bif lim ((List.length b.2)+1) then rec (Z9K (d+1)) (b.1,(b.2++[r])) else none else none else h b
def j6m (d:List qR) (f:Int):(Int×qD)->(Int×qD->Res)->((qD->Res))->Res:=λv rec q=>j3I d f v.1 v.2 (λg b=>rec (g,b)) q
def jbT (d:List qR) (f:Int) (n:Nat) (g:Int) (b:qF×List qR) (h:qD->Res):Res:=Z1f (j6m d f) n (g,b) (h)
def jb1:Z1d Unit:=NdL 28 28 [.t 2 (pB 2),.t 3 (pB 3),.R 11 y32 .S,.I 12,.I 13] [(2,y33,[.O,.O]),(3,y33,[.O,.O])] (λd b=>(d.2.2.1,b.2.1.2)) (λd v=>(d.1,d.2.1,v.1,())) (λb v=>((b.1.1,b.1.2),(b.2.1.1,v.2),())) (λd b=>j6m d.1 d.2.1) λd b g=>((λf=>g (.exit 0) [(2,pB 2),(3,pB 3)] [(2,⟨y33,b.1.1,b.1.2,[.O,.O]⟩),(3,⟨y33,b.2.1.1,f,[.O,.O]⟩)]))
theorem jlL:CN 0 58 Tryz.f187 jb1:=lK jgT [] oN ([],[]) [(0,[2,3],[2,3])] ([],[]) λ_ _ _ _ _=>by kernel_rfl
def j28 (d:qF×List qR) (f:qD->Res):Res:=j4P d.1 λr=>jbT d.2 (nI (List.length d.2)) Z1c 0 (r,[]) λb=>f b
def j6X:Sig Unit:=sg [.borrow y33 true] [true] [(y33,none)] [] λd f k=>j28 d.1 (λb=>k [⟨y33,true,b,[.O,.O]⟩] [] [])
theorem jh7:SO 187 j6X:=fK (np:=0) jgT [jb1] (oI 58 0 @jlL oN) false Tryz.func187 λ_ _ _ _=>by delta j28 j6W jb1 jbT;refine gz j4P λ_ b=>gz j6m λ_ d=> ?_;rewrite [<-b,<-d];kernel_rfl
def j1w (t:qB×qE×qL) (l:List qW) (s:qS) (b:qR->Int->Res):Res:=bif (s.1==1) then j8b t l s.2.2.2.1 λr d=>b r d else bif (s.1==2) then j8c t l s.2.2.1 s.2.2.2.1 λf g=>b f g else bif (s.1==3) then j8a t l s.2.2.1 λh i=>b h i else bif (s.1==5) then j73 t l s.2.2.2.2 λj k=>b j k else b [] 0
def j6Y:Sig Unit:=sg [.borrow y29 true,.borrow y31 false,.borrow y17 true] [false,false] [(y29,none),(y31,none),(y17,none)] [] λb g k=>j1w b.1 b.2.1 b.2.2.1 (λd f=>k [w1 y31 d .O,wI f] [] [])
theorem jh8:SO 246 j6Y:=fK (np:=0) (Za6 joV (Za6 joW (Za6 joU (Za6 jnn Zas)))) [] oN false Tryz.func246 λ_ _ _ _=>by delta j1w jiL jiM jiK jht;refine gz j8b λ_ b=>gz j8c λ_ d=>gz j8a λ_ f=>gz j73 λ_ g=> ?_;rewrite [<-b,<-d,<-f,<-g];kernel_rfl
theorem j7l:FS [(113,j4K),(244,j9y),(246,j6Y),(287,j5N)]:=(Za6 jeJ (Za6 jh5 (Za6 jh8 (Za6 jfI Zas))))
def j3H (b:Int) (s:qS) (t:qB×qE×qL) (d:Bool->Res):Res:=bif decide (b>=0) then d (sEq t.1 s.2.1) else d false
def j32:Z1d Unit:=Nd 86 86 [.t 2 (pB 2),.t 3 (pB 3),.t 4 (pB 4),.t 8 (pB 8),.t 10 (pB 10),.t 11 (pB 11),.I 12,.R 29 y30 .S,.I 30,.I 31] [(2,y33,[.S,.S]),(3,y17,[.S,.S,.S,.S]),(4,y33,[.O,.O]),(8,y33,[.S,.O]),(10,y29,[.S,.S]),(11,y31,[.O])] λd b g=>j3H d.1 b.2.1.2 b.2.2.2.2.1.2 (λf=>g .normal [(2,pB 2),(3,pB 3),(4,pB 4),(8,pB 8),(11,pB 11),(12,vI d.1),(29,v1 y30 d.2.1 .S),(30,vI d.2.2.1),(31,vI d.2.2.2.1),(49,vB f)] [(2,⟨y33,b.1.1,b.1.2,[.S,.S]⟩),(3,⟨y17,b.2.1.1,b.2.1.2,[.S,.S,.S,.S]⟩),(4,⟨y33,b.2.2.1.1,b.2.2.1.2,[.O,.O]⟩),(8,⟨y33,b.2.2.2.1.1,b.2.2.2.1.2,[.S,.O]⟩),(11,⟨y31,b.2.2.2.2.2.1.1,b.2.2.2.2.2.1.2,[.O]⟩)])
theorem jjG:CN 0 256412 Tryz.f245 j32:=nK j7l [] oN ([2,3,4,8,11,12,29,30,31,49],[2,3,4,8,11]) [] ([],[]) λ_ _ _=>by kernel_rfl
def j2h (b:Int) (g:Bool) (d:qF×List qR) (s:qS) (x:List qW) (f:qR->Res):Res:=bif g then bif inb b (List.length d.1) then bif inb b (List.length d.2) then j1w (nth (eS,[],[]) d.1 b) (nth [] d.2 b) s λr i=>Z87 (f r) (f r) else none else none else bif decide (b>=0) then bif inb b (List.length d.2) then j77 (nth [] d.2 b) λh=>f h else none else f x
def j64:Z1d Unit:=Nd 86 86 [.t 2 (pB 2),.t 3 (pB 3),.t 4 (pB 4),.t 8 (pB 8),.t 11 (pB 11),.I 12,.R 29 y30 .S,.I 30,.I 31,.B 49] [(2,y33,[.S,.S]),(3,y17,[.S,.S,.S,.S]),(4,y33,[.O,.O]),(8,y33,[.S,.O]),(11,y31,[.O])] λd b f=>j2h d.1 d.2.2.2.2.1 b.1.2 b.2.1.2 b.2.2.2.2.1.2 (λg=>f .normal [(2,pB 2),(3,pB 3),(4,pB 4),(8,pB 8),(11,pB 11),(29,v1 y30 d.2.1 .S),(30,vI d.2.2.1),(31,vI d.2.2.2.1)] [(2,⟨y33,b.1.1,b.1.2,[.S,.S]⟩),(3,⟨y17,b.2.1.1,b.2.1.2,[.S,.S,.S,.S]⟩),(4,⟨y33,b.2.2.1.1,b.2.2.1.2,[.O,.O]⟩),(8,⟨y33,b.2.2.2.1.1,b.2.2.2.1.2,[.S,.O]⟩),(11,⟨y31,b.2.2.2.2.1.1,g,[.O]⟩)])
theorem jjH:CN 0 256413 Tryz.f245 j64:=nK j7l [j32] oN ([2,3,4,8,11,29,30,31],[2,3,4,8,11]) [] ([],[]) λ_ _ _=>by delta j2h j6Y j9y;refine gz j1w λ_ b=>gz j77 λ_ d=> ?_;rewrite [<-b,<-d];kernel_rfl
def j1q (g:List qT) (h:Int) (d:qF×List qR) (s:qS) (b:Int) (f:qF×List qR) (rec:Int->qD->Res) (i:qD->Res):Res:=bif decide (b<h) then bif inb b (List.length g) then j2O d.1 (nth (eS,[],[]) g b).1 λr=>j3H r s (nth (eS,[],[]) g b) λt=>j2h r t d s [] λx=>bif lim ((List.length f.2)+1) then rec (Z9K (b+1)) (f.1,(f.2++[x])) else none else none else i f
def j2y (f:List qT) (g:Int) (d:qF×List qR) (s:qS):(Int×qD)->(Int×qD->Res)->((qD->Res))->Res:=λv rec q=>j1q f g d s v.1 v.2 (λh b=>rec (h,b)) q
def j6l (f:List qT) (g:Int) (d:qF×List qR) (s:qS) (n:Nat) (h:Int) (b:qF×List qR) (i:qD->Res):Res:=Z1f (j2y f g d s) n (h,b) (i)
def j9h:Z1d Unit:=NdL 86 86 [.t 2 (pB 2),.t 3 (pB 3),.t 4 (pB 4),.t 8 (pB 8),.R 29 y30 .S,.I 30,.I 31] [(2,y33,[.S,.S]),(3,y17,[.S,.S,.S,.S]),(4,y33,[.O,.O]),(8,y33,[.S,.O])] (λd b=>(d.2.2.1,b.2.2.2.1.2)) (λd v=>(d.1,d.2.1,v.1,())) (λb v=>((b.1.1,b.1.2),(b.2.1.1,b.2.1.2),(b.2.2.1.1,b.2.2.1.2),(b.2.2.2.1.1,v.2),())) (λd b=>j2y d.1 d.2.1 b.1.2 b.2.1.2) λd b g=>((λf=>g (.exit 0) [(4,pB 4),(8,pB 8)] [(4,⟨y33,b.2.2.1.1,b.2.2.1.2,[.O,.O]⟩),(8,⟨y33,b.2.2.2.1.1,f,[.S,.O]⟩)]))
theorem jjF:CN 0 250 Tryz.f245 j9h:=lK j7l [j32,j64] (oI 924 0 @jjG (oI 925 1 @jjH oN)) ([],[]) [(0,[4,8],[4,8])] ([],[]) λ_ _ _ _ _=>by delta j2y j1q j4K j32 j64;refine gz j2O λ_ b=>gz j3H λ_ d=>gz j2h λ_ f=> ?_;rewrite [<-b,<-d,<-f];kernel_rfl
def j4a (d:qF×List qR) (s:qS) (f:qD->Int->Res):Res:=j2o d.1 s.2.2.2.2 λr g=>bif (g != 0) then f ([],[]) (Z9K (10+g)) else j6l r (nI (List.length r)) d s Z1c 0 (r,[]) λb=>f b 0
def jaJ:Sig Unit:=sg [.borrow y33 true,.borrow y17 true] [true,false] [(y33,none),(y17,none)] [] λb g k=>j4a b.1 b.2.1 (λd f=>k [⟨y33,true,d,[.S,.S]⟩,wI f] [] [])
theorem jld:SO 245 jaJ:=fK (np:=0) j7l [j32,j64,j9h] (oI 250 2 @jjF oN) true Tryz.func245 λ_ _ _ _=>by delta j4a j5N j9h j6l;refine gz j2o λ_ b=>gz j2y λ_ d=> ?_;rewrite [<-b,<-d];kernel_rfl
theorem jkF:FS [(113,j4K),(155,j7W),(186,jae),(187,j6X),(245,jaJ),(246,j6Y)]:=(Za6 jeJ (Za6 jiw (Za6 jkG (Za6 jh7 (Za6 jld (Za6 jh8 Zas))))))
def j97 (b:Int) (s:qS) (d:Unit->Res) (f:Unit->Res):Res:=bif decide (b<0) then bif (s.1 != 5) then f () else bif (s.2.2.2.2.1 != 1) then f () else d () else d ()
def jdV:Z1d Unit:=Nd 77 77 [.t 2 (pB 2),.t 3 (pB 3),.t 4 (pB 4),.I 6] [(2,y33,[.S,.S]),(3,y17,[.S,.S,.S,.S]),(4,y33,[.O,.O])] λf b d=>j97 f.1 b.2.1.2 (λ_=>d .normal [(2,pB 2),(3,pB 3),(4,pB 4),(6,vI f.1)] [(2,⟨y33,b.1.1,b.1.2,[.S,.S]⟩),(3,⟨y17,b.2.1.1,b.2.1.2,[.S,.S,.S,.S]⟩),(4,⟨y33,b.2.2.1.1,b.2.2.1.2,[.O,.O]⟩)]) (λ_=>d .ret [(4,pB 4),(5,vI 4)] [(4,⟨y33,b.2.2.1.1,([],[]),[.O,.O]⟩)])
theorem jph:CN 0 30 Tryz.f188 jdV:=nK jkF [] oN ([2,3,4,6],[2,3,4]) [] ([4,5],[4]) λ_ _ _=>by kernel_rfl
def j96 (d:qF×List qR) (s:qS) (f:qD->Int->Res):Res:=j7i d λr=>bif !r then f ([],[]) 1 else j3X s λi=>bif !i then f ([],[]) 1 else j2O d.1 s.2.1 λb=>j97 b s (λ_=>bif (s.1==5) then j4a d s λj k=>f j k else bif inb b (List.length d.1) then bif inb b (List.length d.2) then j1w (nth (eS,[],[]) d.1 b) (nth [] d.2 b) s λl h=>bif (h != 0) then f ([],[]) (Z9K (10+h)) else j28 d λg=>bif inb b (List.length g.2) then f (g.1,upd g.2 b l) 0 else none else none else none) (λ_=>f ([],[]) 4)
def jkV:Sig Unit:=sg [.borrow y33 true,.borrow y17 true] [true,false] [(y33,none),(y17,none)] [] λb g k=>j96 b.1 b.2.1 (λd f=>k [⟨y33,true,d,[.S,.S]⟩,wI f] [] [])
theorem jr6:SO 188 jkV:=fK (np:=0) jkF [jdV] (oI 30 0 @jph oN) true Tryz.func188 λ_ _ _ _=>by delta j96 jae j7W j4K jdV jaJ j6Y j6X;refine gz j7i λ_ b=>gz j3X λ_ d=>gz j2O λ_ f=>gz j97 λ_ g=>gz j4a λ_ h=>gz j1w λ_ i=>gz j28 λ_ j=> ?_;rewrite [<-b,<-d,<-f,<-g,<-h,<-i,<-j];kernel_rfl
theorem jgS:FS [(186,jae),(187,j6X),(188,jkV)]:=(Za6 jkG (Za6 jh7 (Za6 jr6 Zas)))
def j3y (d:List qS) (f:Int) (b:Int) (now:qF×List qR) (rec:Int->qD->Res) (h:qD->Res) (i:Int->Int->Res):Res:=bif decide (b<f) then bif inb b (List.length d) then j96 now (nth (0,eS,[],[],0,eS,[],[],eS,eS) d b) λr g=>bif (g != 0) then i g b else rec (Z9K (b+1)) r else none else h now
def j6e (b:List qS) (d:Int):(Int×qD)->(Int×qD->Res)->((qD->Res)×(Int->Int->Res))->Res:=λv rec q=>j3y b d v.1 v.2 (λf now=>rec (f,now)) q.1 q.2
def j8v (b:List qS) (d:Int) (n:Nat) (f:Int) (now:qF×List qR) (g:qD->Res) (h:Int->Int->Res):Res:=Z1f (j6e b d) n (f,now) (g,h)
def jaS:Z1d Unit:=λσ k=>rdN σ 39<|rdT σ 4 (pB 4)<|rdT σ 7 (pB 7)<|rd1 σ 18 y27 .S λd=>rdI σ 19 λf=>rdI σ 20 λg=>rdB σ 4 y33 [.O,.O] λa i=>rdB σ 7 y33 [.S,.S] λh now=>j8v d f Z1c g now (λb=>k (.exit 0) (mkS 39 39 [(4,pB 4),(7,pB 7)] [(4,⟨y33,a,i,[.O,.O]⟩),(7,⟨y33,h,b,[.S,.S]⟩)])) (λj l=>k .ret (mkS 39 39 [(4,pB 4),(5,vI j),(6,vI l)] [(4,⟨y33,a,([],[]),[.O,.O]⟩)]))
def jaY:Z1d Unit:=λσ k=>jaS (σ.wk [] [(7,[.S,.S])]) k
theorem jlz:CN 0 122 Tryz.f133 jaY:=λp=>ZaJ [] [(7,[.S,.S])] (jpC follows j1m jgS p [] oN [4,7,18,19,20] [4,7] ([],[]) [(0,[4,7],[4,7])] ([4,5,6],[4]) (y:=jaS) λσ k _ h=>rN h λB h=>rT h λz h=>rT h λA h=>rV h λd g h=>rV h λf i h=>rV h λq j h=>rB h λa w l h=>rB h λr now n h=>⟨_,ZaM (m:=39) B (sC z (sC A (sC g (sC i (sC j sN))))) (bC l (bC n bN)),.trans (Z9u (λv:Int×qD=>(mkS 39 39 [(4,pB 4),(7,pB 7),(18,v1 y27 d .S),(19,vI f),(20,vI v.1)] [(4,⟨y33,a,w,[.O,.O]⟩),(7,⟨y33,r,v.2,[.S,.S]⟩)])) (j6e d f) (λ(k:Z83 Unit)=>(((λb=>k (.exit 0) (mkS 39 39 [(4,pB 4),(7,pB 7)] [(4,⟨y33,a,w,[.O,.O]⟩),(7,⟨y33,r,b,[.S,.S]⟩)])),(λC D=>k .ret (mkS 39 39 [(4,pB 4),(5,vI C),(6,vI D)] [(4,⟨y33,a,([],[]),[.O,.O]⟩)]))):(qD->Res)×(Int->Int->Res))) (λv rec k=>by kernel_rfl) Z1c (q,now) k) h⟩)
def j2Z (d:qF×List qR) (l:List qS) (b:qD->Int->Int->Res):Res:=j7i d λr=>bif !r then b ([],[]) 1 0 else j28 d λf=>j8v l (nI (List.length l)) Z1c 0 f (λnow=>b now 0 0) (λt g=>b ([],[]) t g)
def jcN:Sig Unit:=sg [.borrow y33 true,.borrow y27 false] [true,false,false] [(y33,none),(y27,none)] [] λb h k=>j2Z b.1 b.2.1 (λd f g=>k [⟨y33,true,d,[.S,.S]⟩,wI f,wI g] [] [])
theorem jnm:SO 133 jcN:=fK (np:=0) jgS [jaY] (oI 122 0 @jlz oN) true Tryz.func133 λ_ _ _ _=>by delta j2Z jae j6X jaY;delta jaS j8v;refine gz j7i λ_ b=>gz j28 λ_ d=>gz j6e λ_ f=> ?_;rewrite [<-b,<-d,<-f];kernel_rfl
def jdA (d:Int×Int×qB) (b:Bool->Res):Res:=j1j d λr=>b (!r)
def jmY:Sig Unit:=sg [.look y2 true] [false] [(y2,none)] [] λd f k=>jdA d.1 (λb=>k [wB b] [] [])
theorem jfG:SO 272 jmY:=fK (np:=0) (Za6 j8E Zas) [] oN false Tryz.func272 λ_ _ _ _=>by kernel_rfl
def j1a (s:List qV) (g:Int) (b:Int) (rec:Int->Res) (d:Unit->Res) (f:Int->Res):Res:=bif decide (b<g) then bif inb b (List.length s) then jdA (nth (0,0,eS) s b) λr=>bif r then f b else rec (Z9K (b+1)) else none else d ()
def j3U (s:List qV) (b:Int):Int->(Int->Res)->((Unit->Res)×(Int->Res))->Res:=λv rec q=>j1a s b v (λd=>rec (d)) q.1 q.2
def j9K (s:List qV) (f:Int) (n:Nat) (g:Int) (b:Unit->Res) (d:Int->Res):Res:=Z1f (j3U s f) n (g) (b,d)
def j9f:Z1d Unit:=NdL 19 19 [.R 0 y3 .S,.c 1 272 [] .unit [],.I 7,.I 8] [] (λb d=>(b.2.2.2.1)) (λb v=>(b.1,b.2.1,b.2.2.1,v,())) (λd v=>()) (λb d=>j3U b.1 b.2.2.1) λb d f=>((λ_=>f (.exit 0) [] []),(λg=>f .ret [(4,vI g)] []))
theorem jfa:CN 0 26 Tryz.f306 j9f:=lK (Za6 jfG Zas) [] oN ([],[]) [(0,[],[])] ([4],[]) λ_ _ _ _ _=>by kernel_rfl
def j7w (s:List qV) (f:Unit) (b:Int->Res):Res:=j9K s (nI (List.length s)) Z1c 0 (λ_=>b (-1)) (λt=>b t)
def jgL:Sig Unit:=sg [.look y3 false,.rclos 272 []] [false] [(y3,none),(.unit,none)] [] λb f k=>j7w b.1 b.2.1 (λd=>k [wI d] [] [])
theorem jgw:SO 306 jgL:=fK (np:=0) (Za6 jfG Zas) [j9f] (oI 26 0 @jfa oN) false Tryz.func306 λ_ _ _ _=>by kernel_rfl
def j2r (s:List qV) (f:Unit) (b:Bool->Res):Res:=j7w s f λr=>b (decide (r>=0))
def j8t:Sig Unit:=sg [.look y3 false,.rclos 272 []] [false] [(y3,none),(.unit,none)] [] λb f k=>j2r b.1 b.2.1 (λd=>k [wB d] [] [])
theorem je9:SO 271 j8t:=fK (np:=0) (Za6 jgw Zas) [] oN false Tryz.func271 λ_ _ _ _=>by kernel_rfl
def j1X (l:List qV) (b:Bool->Res):Res:=j0k (nI (List.length l)) 1 8 λr=>bif r then j2r l () λd=>b (!d) else b false
def jcK:Sig Unit:=sg [.look y3 false] [false] [(y3,none)] [] λd f k=>j1X d.1 (λb=>k [wB b] [] [])
theorem jng:SO 213 jcK:=fK (np:=0) (Za6 j3g (Za6 je9 Zas)) [] oN false Tryz.func213 λ_ _ _ _=>by delta j1X j2n j8t;refine gz j0k λ_ b=>gz j2r λ_ d=> ?_;rewrite [<-b,<-d];kernel_rfl
theorem jij:FS [(160,j3k),(211,j4G),(212,j8q),(213,jcK)]:=(Za6 jak (Za6 jet (Za6 jbd (Za6 jng Zas))))
def j6y (s:qS) (b:Bool->Res):Res:=bif (s.1==1) then bif ((nI (List.length s.2.2.1))==0) then j1X s.2.2.2.1 λr=>b r else b false else bif (s.1==2) then j1X s.2.2.1 λd=>bif d then j1X s.2.2.2.1 λf=>b f else b false else bif (s.1==3) then j1X s.2.2.1 λg=>bif g then b ((nI (List.length s.2.2.2.1))==0) else b false else bif (s.1==4) then bif ((nI (List.length s.2.2.1))==0) then b ((nI (List.length s.2.2.2.1))==0) else b false else b false
def jbY:Z1d Unit:=Nd 91 91 [.t 1 (pB 1)] [(1,y17,[.S,.S,.S,.S])] λg f b=>j6y f.1.2 (λd=>b .ret [(2,vB d)] [])
theorem jmr:CN 0 15 Tryz.f161 jbY:=nK jij [] oN ([],[]) [] ([2],[]) λ_ _ _=>by delta j6y jcK;refine gz j1X λ_ b=> ?_;rewrite [<-b];kernel_rfl
def j3V (s:qS) (b:Bool->Res):Res:=bif (s.1==5) then j2J s.2.2.2.2 λr=>bif r then bif sEq s.2.1 s.2.2.2.2.2.1 then bif ((nI (List.length s.2.2.1))==0) then b ((nI (List.length s.2.2.2.1))==0) else b false else b false else b false else j0E s.2.1 λd=>bif !d then b false else j0i s.2.2.2.2 (0,eS,[],[],eS,eS) λf=>bif !f then b false else j6y s λt=>b t
def jas:Sig Unit:=sg [.look y17 true] [false] [(y17,none)] [] λd f k=>j3V d.1 (λb=>k [wB b] [] [])
theorem jip:SO 161 jas:=fK (np:=0) jij [jbY] (oI 15 0 @jmr oN) false Tryz.func161 λ_ _ _ _=>by delta j3V j4G j3k j8q jbY;refine gz j2J λ_ b=>gz j0E λ_ d=>gz j0i λ_ f=>gz j6y λ_ g=> ?_;rewrite [<-b,<-d,<-f,<-g];kernel_rfl
def j2l (s:qS) (b:qS->Res):Res:=j1e s.2.2.1 λr=>j1e s.2.2.2.1 λd=>jbl s.2.2.2.2 λf=>b (s.1,s.2.1,r,d,f)
def jbD:Sig Unit:=sg [.borrow y17 true] [true] [(y17,none)] [] λd f k=>j2l d.1 (λb=>k [⟨y17,true,b,[.O,.O,.O,.O]⟩] [] [])
theorem j5r:SO 216 jbD:=fK (np:=0) (Za6 j8i (Za6 jni Zas)) [] oN false Tryz.func216 λ_ _ _ _=>by delta j2l j8p jhq;refine gz j1e λ_ b=>gz jbl λ_ d=> ?_;rewrite [<-b,<-d];kernel_rfl
theorem jkC:FS [(250,j8V),(251,j2m)]:=(Za6 jj5 (Za6 j7K Zas))
def j6v (f:List qT) (g:Int) (d:qF×List qR) (b:Int) (rec:Int->Res) (h:Unit->Res) (i:Unit->Res):Res:=bif decide (b<g) then bif inb b (List.length f) then bif inb b (List.length d.2) then j0Z (nth (eS,[],[]) f b) (nth [] d.2 b) λr=>bif !r then i () else rec (Z9K (b+1)) else none else none else h ()
def j9n (b:List qT) (f:Int) (d:qF×List qR):Int->(Int->Res)->((Unit->Res)×(Unit->Res))->Res:=λv rec q=>j6v b f d v (λg=>rec (g)) q.1 q.2
def jeP (b:List qT) (f:Int) (d:qF×List qR) (n:Nat) (g:Int) (h:Unit->Res) (i:Unit->Res):Res:=Z1f (j9n b f d) n (g) (h,i)
def jdR:Z1d Unit:=NdL 38 38 [.t 1 (pB 1),.R 21 y30 .S,.I 22,.I 23] [(1,y33,[.S,.S])] (λb d=>(b.2.2.1)) (λb v=>(b.1,b.2.1,v,())) (λd v=>((d.1.1,d.1.2),())) (λb d=>j9n b.1 b.2.1 d.1.2) λb d f=>((λ_=>f (.exit 0) [] []),(λ_=>f .ret [(2,vB false)] []))
theorem jp7:CN 0 58 Tryz.f195 jdR:=lK jkC [] oN ([],[]) [(0,[],[])] ([2],[]) λ_ _ _ _ _=>by kernel_rfl
def jb3 (d:qF×List qR) (b:Bool->Res):Res:=j7n d.1 λr=>bif !r then b false else bif ((nI (List.length d.2)) != (nI (List.length d.1))) then b false else jeP d.1 (nI (List.length d.1)) d Z1c 0 (λ_=>b true) (λ_=>b false)
def jgE:Sig Unit:=sg [.look y33 true] [false] [(y33,none)] [] λd f k=>jb3 d.1 (λb=>k [wB b] [] [])
theorem jr0:SO 195 jgE:=fK (np:=0) jkC [jdR] (oI 58 0 @jp7 oN) false Tryz.func195 λ_ _ _ _=>by delta jb3 j8V jdR jeP;refine gz j7n λ_ b=>gz j9n λ_ d=> ?_;rewrite [<-b,<-d];kernel_rfl
theorem jik:FS [(231,j6O),(232,j16)]:=(Za6 jgX (Za6 j5q Zas))
def j4k (f:List qR) (g:Int) (d:Int) (b:qF×List qR) (rec:Int->qD->Res) (h:qD->Res):Res:=bif decide (d<g) then bif inb d (List.length f) then j0A (nth [] f d) λr=>bif lim ((List.length b.2)+1) then rec (Z9K (d+1)) (b.1,(b.2++[r])) else none else none else h b
def j7p (d:List qR) (f:Int):(Int×qD)->(Int×qD->Res)->((qD->Res))->Res:=λv rec q=>j4k d f v.1 v.2 (λg b=>rec (g,b)) q
def jcB (d:List qR) (f:Int) (n:Nat) (g:Int) (b:qF×List qR) (h:qD->Res):Res:=Z1f (j7p d f) n (g,b) (h)
def jc0:Z1d Unit:=NdL 28 28 [.t 2 (pB 2),.t 3 (pB 3),.R 11 y32 .S,.I 12,.I 13] [(2,y33,[.O,.O]),(3,y33,[.O,.O])] (λd b=>(d.2.2.1,b.2.1.2)) (λd v=>(d.1,d.2.1,v.1,())) (λb v=>((b.1.1,b.1.2),(b.2.1.1,v.2),())) (λd b=>j7p d.1 d.2.1) λd b g=>((λf=>g (.exit 0) [(2,pB 2),(3,pB 3)] [(2,⟨y33,b.1.1,b.1.2,[.O,.O]⟩),(3,⟨y33,b.2.1.1,f,[.O,.O]⟩)]))
theorem jmt:CN 0 58 Tryz.f174 jc0:=lK jik [] oN ([],[]) [(0,[2,3],[2,3])] ([],[]) λ_ _ _ _ _=>by kernel_rfl
def j1s (d:qF×List qR) (f:qD->Res):Res:=j4j d.1 λr=>jcB d.2 (nI (List.length d.2)) Z1c 0 (r,[]) λb=>f b
def j3l:Sig Unit:=sg [.borrow y33 true] [true] [(y33,none)] [] λd f k=>j1s d.1 (λb=>k [⟨y33,true,b,[.O,.O]⟩] [] [])
theorem jdu:SO 174 j3l:=fK (np:=0) jik [jc0] (oI 58 0 @jmt oN) false Tryz.func174 λ_ _ _ _=>by delta j1s j6O jc0 jcB;refine gz j4j λ_ b=>gz j7p λ_ d=> ?_;rewrite [<-b,<-d];kernel_rfl
theorem jgR:FS [(174,j3l),(176,j1f),(295,jbz),(296,j7s),(297,j7r),(298,jcJ)]:=(Za6 jdu (Za6 jaj (Za6 jlX (Za6 jhM (Za6 jhL (Za6 jnf Zas))))))
def j35 (f:Int) (h:Int) (d:qF×List qR) (x:qG) (c:List qT) (b:qF×List qR) (g:qD->Res):Res:=bif (h==1) then Z87 (j0v c x.2.1 λr=>j1O b.2 r [[]] λi=>g (b.1,i)) (Z87 (j0v c x.2.1 λj=>j1O b.2 j [[]] λk=>g (b.1,k)) (j0v c x.2.1 λl=>j1O b.2 l [[]] λm=>g (b.1,m))) else bif (h==2) then j5O b.2 f (Z9K (f+1)) λn=>g (b.1,n) else bif inb f (List.length d.1) then bif inb f (List.length d.2) then j6x (nth (eS,[],[]) d.1 f) (nth [] d.2 f) x λp q=>bif inb f (List.length b.2) then g (b.1,upd b.2 f p) else none else none else none
def jaW:Z1d Unit:=Nd 79 79 [.t 2 (pB 2),.t 3 (pB 3),.t 4 (pB 4),.t 6 (pB 6),.t 8 (pB 8),.I 9,.I 31] [(2,y33,[.S,.S]),(3,y13,[.S,.S]),(4,y33,[.O,.O]),(6,y30,[.O]),(8,y33,[.O,.O])] λf b g=>j35 f.1 f.2.1 b.1.2 b.2.1.2 b.2.2.2.1.2 b.2.2.2.2.1.2 (λd=>g .normal [(4,pB 4),(6,pB 6),(8,pB 8)] [(4,⟨y33,b.2.2.1.1,b.2.2.1.2,[.O,.O]⟩),(6,⟨y30,b.2.2.2.1.1,b.2.2.2.1.2,[.O]⟩),(8,⟨y33,b.2.2.2.2.1.1,d,[.O,.O]⟩)])
theorem jlu:CN 0 253 Tryz.f252 jaW:=nK jgR [] oN ([4,6,8],[4,6,8]) [] ([],[]) λ_ _ _=>by delta j35 j1f j7s j7r jcJ;refine gz j0v λ_ b=>gz j1O λ_ d=>gz j5O λ_ f=>gz j6x λ_ g=> ?_;rewrite [<-b,<-d,<-f,<-g];kernel_rfl
def j6z (d:qF×List qR) (x:qG) (f:qD->Int->Res):Res:=j5d d.1 x λr g=>bif (g != 0) then f ([],[]) g else j1s d λh=>j0v d.1 x.2.1 λi=>j35 i x.1 d x r h λb=>f (r,b.2) 0
def jcL:Sig Unit:=sg [.borrow y33 true,.borrow y13 true] [true,false] [(y33,none),(y13,none)] [] λb g k=>j6z b.1 b.2.1 (λd f=>k [⟨y33,true,d,[.O,.O]⟩,wI f] [] [])
theorem jnh:SO 252 jcL:=fK (np:=0) jgR [jaW] (oI 253 0 @jlu oN) false Tryz.func252 λ_ _ _ _=>by delta j6z jbz j3l j1f jaW;refine gz j5d λ_ b=>gz j1s λ_ d=>gz j0v λ_ f=>gz j35 λ_ g=> ?_;rewrite [<-b,<-d,<-f,<-g];kernel_rfl
theorem jd7:FS [(174,j3l),(176,j1f),(252,jcL),(253,jdE),(254,jdF),(255,jdD)]:=(Za6 jdu (Za6 jaj (Za6 jnh (Za6 joH (Za6 joI (Za6 joG Zas))))))
def j8O (f:Int) (s:qS) (b:Unit->Res) (d:Unit->Res):Res:=bif decide (f<0) then bif (s.1 != 5) then d () else bif (s.2.2.2.2.1 != 1) then d () else b () else b ()
def j7Z:Z1d Unit:=Nd 108 108 [.t 2 (pB 2),.t 3 (pB 3),.t 4 (pB 4),.I 6] [(2,y33,[.S,.S]),(3,y17,[.S,.S,.S,.S]),(4,y33,[.O,.O])] λf b d=>j8O f.1 b.2.1.2 (λ_=>d .normal [(2,pB 2),(3,pB 3),(4,pB 4),(6,vI f.1)] [(2,⟨y33,b.1.1,b.1.2,[.S,.S]⟩),(3,⟨y17,b.2.1.1,b.2.1.2,[.S,.S,.S,.S]⟩),(4,⟨y33,b.2.2.1.1,b.2.2.1.2,[.O,.O]⟩)]) (λ_=>d .ret [(4,pB 4),(5,vI 4)] [(4,⟨y33,b.2.2.1.1,([],[]),[.O,.O]⟩)])
theorem jp9:CN 0 14 Tryz.f196 j7Z:=nK jd7 [] oN ([2,3,4,6],[2,3,4]) [] ([4,5],[4]) λ_ _ _=>by kernel_rfl
def jbm (f:Int) (d:qF×List qR) (b:Unit->Res):Res:=bif inb f (List.length d.1) then Z87 (Z87 (Z87 (Z87 (bif inb f (List.length d.2) then Z87 (Z87 (b ()) (Z87 (b ()) (b ()))) (Z87 (Z87 (b ()) (b ())) (b ())) else none) (Z87 (bif inb f (List.length d.2) then Z87 (Z87 (b ()) (b ())) (b ()) else none) (bif inb f (List.length d.2) then b () else none))) (Z87 (Z87 (bif inb f (List.length d.2) then Z87 (Z87 (b ()) (b ())) (b ()) else none) (bif inb f (List.length d.2) then b () else none)) (bif inb f (List.length d.2) then b () else none))) (Z87 (Z87 (Z87 (bif inb f (List.length d.2) then Z87 (Z87 (b ()) (Z87 (b ()) (b ()))) (Z87 (Z87 (b ()) (b ())) (b ())) else none) (Z87 (bif inb f (List.length d.2) then Z87 (Z87 (b ()) (b ())) (b ()) else none) (bif inb f (List.length d.2) then b () else none))) (Z87 (Z87 (bif inb f (List.length d.2) then Z87 (Z87 (b ()) (b ())) (b ()) else none) (bif inb f (List.length d.2) then b () else none)) (bif inb f (List.length d.2) then b () else none))) (Z87 (Z87 (Z87 (bif inb f (List.length d.2) then Z87 (Z87 (b ()) (b ())) (b ()) else none) (bif inb f (List.length d.2) then b () else none)) (bif inb f (List.length d.2) then b () else none)) (Z87 (Z87 (Z87 (bif inb f (List.length d.2) then Z87 (Z87 (b ()) (b ())) (b ()) else none) (bif inb f (List.length d.2) then b () else none)) (bif inb f (List.length d.2) then b () else none)) (bif inb f (List.length d.2) then b () else none))))) (Z87 (Z87 (Z87 (Z87 (bif inb f (List.length d.2) then Z87 (Z87 (b ()) (Z87 (b ()) (b ()))) (Z87 (Z87 (b ()) (b ())) (b ())) else none) (Z87 (bif inb f (List.length d.2) then Z87 (Z87 (b ()) (b ())) (b ()) else none) (bif inb f (List.length d.2) then b () else none))) (Z87 (Z87 (bif inb f (List.length d.2) then Z87 (Z87 (b ()) (b ())) (b ()) else none) (bif inb f (List.length d.2) then b () else none)) (bif inb f (List.length d.2) then b () else none))) (Z87 (Z87 (Z87 (bif inb f (List.length d.2) then Z87 (Z87 (b ()) (b ())) (b ()) else none) (bif inb f (List.length d.2) then b () else none)) (bif inb f (List.length d.2) then b () else none)) (bif inb f (List.length d.2) then b () else none))) (Z87 (Z87 (Z87 (Z87 (bif inb f (List.length d.2) then Z87 (Z87 (b ()) (b ())) (b ()) else none) (bif inb f (List.length d.2) then b () else none)) (bif inb f (List.length d.2) then b () else none)) (Z87 (Z87 (Z87 (bif inb f (List.length d.2) then Z87 (Z87 (b ()) (b ())) (b ()) else none) (bif inb f (List.length d.2) then b () else none)) (bif inb f (List.length d.2) then b () else none)) (bif inb f (List.length d.2) then b () else none))) (Z87 (Z87 (Z87 (Z87 (bif inb f (List.length d.2) then Z87 (Z87 (b ()) (b ())) (b ()) else none) (bif inb f (List.length d.2) then b () else none)) (bif inb f (List.length d.2) then b () else none)) (bif inb f (List.length d.2) then b () else none)) (bif inb f (List.length d.2) then b () else none)))) else none
def jav:Z1d Unit:=Nd 108 108 [.t 2 (pB 2),.t 3 (pB 3),.t 4 (pB 4),.I 6] [(2,y33,[.S,.S]),(3,y17,[.S,.S,.S,.S]),(4,y33,[.O,.O])] λd b f=>jbm d.1 b.1.2 (λ_=>f .normal [(2,pB 2),(3,pB 3),(4,pB 4),(6,vI d.1),(9,pB 9),(10,v1 y31 (nth [] b.1.2.2 d.1) .S)] [(2,⟨y33,b.1.1,b.1.2,[.S,.S]⟩),(3,⟨y17,b.2.1.1,b.2.1.2,[.S,.S,.S,.S]⟩),(4,⟨y33,b.2.2.1.1,b.2.2.1.2,[.O,.O]⟩),(9,⟨y29,false,nth (eS,[],[]) b.1.2.1 d.1,[.S,.S]⟩)])
theorem jpa:CN 0 62 Tryz.f196 jav:=nK jd7 [j7Z] oN ([2,3,4,6,9,10],[2,3,4,9]) [] ([],[]) λ_ _ _=>by kernel_rfl
def j6A (l:List qW) (code:Int) (b:Int) (s:qS) (t:qB×qE×qL) (d:qR->Int->Res):Res:=bif (b==1) then j84 t l s.2.2.2.1 λr f=>d r f else bif (b==2) then j85 t l s.2.2.1 s.2.2.2.1 λg h=>d g h else bif (b==3) then j83 t l s.2.2.1 λi j=>d i j else d [] code
def jdS:Z1d Unit:=Nd 108 108 [.t 2 (pB 2),.t 3 (pB 3),.t 4 (pB 4),.I 6,.t 9 (pB 9),.R 10 y31 .S,.I 11,.I 61] [(2,y33,[.S,.S]),(3,y17,[.S,.S,.S,.S]),(4,y33,[.O,.O]),(9,y29,[.S,.S])] λf d g=>j6A f.2.1 f.2.2.1 f.2.2.2.1 d.2.1.2 d.2.2.2.1.2 (λh b=>g .normal [(2,pB 2),(4,pB 4),(6,vI f.1),(10,v1 y31 h .O),(11,vI b)] [(2,⟨y33,d.1.1,d.1.2,[.S,.S]⟩),(4,⟨y33,d.2.2.1.1,d.2.2.1.2,[.O,.O]⟩)])
theorem jpb:CN 0 509 Tryz.f196 jdS:=nK jd7 [j7Z,jav] oN ([2,4,6,10,11],[2,4]) [] ([],[]) λ_ _ _=>by delta j6A jdE jdF jdD;refine gz j84 λ_ b=>gz j85 λ_ d=>gz j83 λ_ f=> ?_;rewrite [<-b,<-d,<-f];kernel_rfl
def jb5 (d:qF×List qR) (s:qS) (b:qD->Int->Res):Res:=j0v d.1 s.2.1 λr=>j8O r s (λ_=>bif (s.1==5) then j6z d s.2.2.2.2 λh g=>bif (g != 0) then b ([],[]) (Z9K (10+g)) else b h 0 else jbm r d λ_=>j6A (nth [] d.2 r) 0 s.1 s (nth (eS,[],[]) d.1 r) λl code=>bif (code != 0) then b ([],[]) (Z9K (10+code)) else j1s d λf=>bif inb r (List.length f.2) then b (f.1,upd f.2 r l) 0 else none) (λ_=>b ([],[]) 4)
def jgH:Sig Unit:=sg [.borrow y33 true,.borrow y17 true] [true,false] [(y33,none),(y17,none)] [] λb g k=>jb5 b.1 b.2.1 (λd f=>k [⟨y33,true,d,[.O,.O]⟩,wI f] [] [])
theorem jr4:SO 196 jgH:=fK (np:=0) jd7 [j7Z,jav,jdS] (oI 14 0 @jp9 (oI 62 1 @jpa (oI 509 2 @jpb oN))) false Tryz.func196 λ_ _ _ _=>by delta jb5 j1f j7Z jcL jav jdS j3l;refine gz j0v λ_ b=>gz j8O λ_ d=>gz j6z λ_ f=>gz jbm λ_ g=>gz j6A λ_ h=>gz j1s λ_ i=> ?_;rewrite [<-b,<-d,<-f,<-g,<-h,<-i];kernel_rfl
theorem jgQ:FS [(161,jas),(174,j3l),(195,jgE),(196,jgH)]:=(Za6 jip (Za6 jdu (Za6 jr0 (Za6 jr4 Zas))))
def j2d (d:List qS) (g:Int) (b:Int) (f:qF×List qR) (rec:Int->qD->Res) (j:qD->Res) (h:Int->Int->Res):Res:=bif decide (b<g) then bif inb b (List.length d) then j3V (nth (0,eS,[],[],0,eS,[],[],eS,eS) d b) λr=>bif !r then h 1 b else jb5 f (nth (0,eS,[],[],0,eS,[],[],eS,eS) d b) λk i=>bif (i != 0) then h i b else rec (Z9K (b+1)) k else none else j f
def j3p (d:List qS) (f:Int):(Int×qD)->(Int×qD->Res)->((qD->Res)×(Int->Int->Res))->Res:=λv rec q=>j2d d f v.1 v.2 (λg b=>rec (g,b)) q.1 q.2
def jbj (d:List qS) (f:Int) (n:Nat) (g:Int) (b:qF×List qR) (h:qD->Res) (i:Int->Int->Res):Res:=Z1f (j3p d f) n (g,b) (h,i)
def jaT:Z1d Unit:=NdL 44 44 [.t 4 (pB 4),.t 7 (pB 7),.R 18 y27 .S,.I 19,.I 20] [(4,y33,[.O,.O]),(7,y33,[.O,.O])] (λd b=>(d.2.2.1,b.2.1.2)) (λd v=>(d.1,d.2.1,v.1,())) (λb v=>((b.1.1,b.1.2),(b.2.1.1,v.2),())) (λd b=>j3p d.1 d.2.1) λd b g=>((λf=>g (.exit 0) [(4,pB 4),(7,pB 7)] [(4,⟨y33,b.1.1,b.1.2,[.O,.O]⟩),(7,⟨y33,b.2.1.1,f,[.O,.O]⟩)]),(λh i=>g .ret [(4,pB 4),(5,vI h),(6,vI i)] [(4,⟨y33,b.1.1,([],[]),[.O,.O]⟩)]))
theorem jlm:CN 0 122 Tryz.f138 jaT:=lK jgQ [] oN ([],[]) [(0,[4,7],[4,7])] ([4,5,6],[4]) λ_ _ _ _ _=>by delta j3p j2d jas jgH;refine gz j3V λ_ b=>gz jb5 λ_ d=> ?_;rewrite [<-b,<-d];kernel_rfl
def j0m (d:qF×List qR) (l:List qS) (b:qD->Int->Int->Res):Res:=jb3 d λr=>bif !r then b ([],[]) 1 0 else j1s d λg=>jbj l (nI (List.length l)) Z1c 0 g (λf=>b f 0 0) (λt h=>b ([],[]) t h)
def j2E:Sig Unit:=sg [.borrow y33 true,.borrow y27 false] [true,false,false] [(y33,none),(y27,none)] [] λb h k=>j0m b.1 b.2.1 (λd f g=>k [⟨y33,true,d,[.O,.O]⟩,wI f,wI g] [] [])
theorem jcp:SO 138 j2E:=fK (np:=0) jgQ [jaT] (oI 122 0 @jlm oN) false Tryz.func138 λ_ _ _ _=>by delta j0m jgE j3l jaT jbj;refine gz jb3 λ_ b=>gz j1s λ_ d=>gz j3p λ_ f=> ?_;rewrite [<-b,<-d,<-f];kernel_rfl
end
end Go.PI.G
