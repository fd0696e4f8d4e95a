/-
  Program's code interpreted over typed values; printed texts; plain laws. No conditions.
-/
import Derived.Test.YtnemiodjnhfejaaGreatPTd
import Derived.Test.YtnemiodjnhfejaaGreatPTe
import Derived.Test.YtnemiodjnhfejaaGreatPTf
set_option linter.unusedVariables false
set_option maxRecDepth 100000
namespace Go.PI.G
noncomputable section
open Go Go.PI Go.Proofs
open Go.Code (pl pr)
def j3x (d:List qV) (h:Int) (b:Int) (rec:Int->Res) (f:Unit->Res) (g:Unit->Res):Res:=bif decide (b<h) then bif inb b (List.length d) then j1u (nth (0,0,eS) d b) λr=>bif !r then g () else rec (Z9K (b+1)) else none else f ()
def j9p (b:List qV) (d:Int):Int->(Int->Res)->((Unit->Res)×(Unit->Res))->Res:=λv rec q=>j3x b d v (λf=>rec (f)) q.1 q.2
def jfy (f:List qV) (g:Int) (n:Nat) (h:Int) (b:Unit->Res) (d:Unit->Res):Res:=Z1f (j9p f g) n (h) (b,d)
def jf0:Z1d Unit:=NdL 23 23 [.R 0 y3 .S,.R 5 y3 .S,.I 6,.I 7] [] (λb d=>(b.2.2.2.1)) (λb v=>(b.1,b.2.1,b.2.2.1,v,())) (λd v=>()) (λb d=>j9p b.2.1 b.2.2.1) λb d f=>((λ_=>f (.exit 0) [(0,v1 y3 b.1 .S)] []),(λ_=>f .ret [(2,vB false)] []))
theorem jkX:CN 0 26 Tryz.f208 jf0:=lK (Za6 j8f Zas) [] oN ([],[]) [(0,[0],[])] ([2],[]) λ_ _ _ _ _=>by kernel_rfl
def j2P (l:List qV) (b:Bool->Res):Res:=jfy l (nI (List.length l)) Z1c 0 (λ_=>bif decide ((nI (List.length l))>=1) then b (decide ((nI (List.length l))<=8)) else b false) (λ_=>b false)
def jco:Sig Unit:=sg [.look y3 false] [false] [(y3,none)] [] λd f k=>j2P d.1 (λb=>k [wB b] [] [])
theorem jmA:SO 208 jco:=fK (np:=0) (Za6 j8f Zas) [jf0] (oI 26 0 @jkX oN) false Tryz.func208 λ_ _ _ _=>by kernel_rfl
def j1w (d:qG) (b:Bool->Res):Res:=bif (d.1==0) then bif sEq d.2.1 eS then bif ((nI (List.length d.2.2.1))==0) then bif ((nI (List.length d.2.2.2.1))==0) then bif sEq d.2.2.2.2.1 eS then b (sEq d.2.2.2.2.2 eS) else b false else b false else b false else b false else b false
def jbq:Sig Unit:=sg [.look y13 true] [false] [(y13,none)] [] λd f k=>j1w d.1 (λb=>k [wB b] [] [])
theorem jfa:SO 209 jbq:=fK (np:=0) Zas [] oN false Tryz.func209 λ_ _ _ _=>by kernel_rfl
theorem jhO:FS [(154,j38),(208,jco),(209,jbq),(210,j4t)]:=(Za6 j9M (Za6 jmA (Za6 jfa (Za6 jed Zas))))
def j6O (d:Bool) (f:Bool) (s:qS) (b:Bool->Res):Res:=bif (s.1==1) then bif d then j2P s.2.2.2.1 λr=>bif r then j1w s.2.2.2.2 λg=>b g else b false else b false else bif (s.1==2) then j2P s.2.2.1 λh=>bif h then j2P s.2.2.2.1 λi=>bif i then j1w s.2.2.2.2 λj=>b j else b false else b false else bif (s.1==3) then j2P s.2.2.1 λk=>bif k then bif f then j1w s.2.2.2.2 λl=>b l else b false else b false else bif (s.1==4) then bif d then bif f then j1w s.2.2.2.2 λm=>b m else b false else b false else bif (s.1==5) then bif d then bif f then j2z s.2.2.2.2 λn=>bif n then b (sEq s.2.2.2.2.2.1 s.2.1) else b false else b false else b false else b false
def jbM:Z1d Unit:=Nd 93 93 [.t 1 (pB 1),.B 3,.B 4] [(1,y17,[.S,.S,.S,.S])] λb g d=>j6O b.1 b.2.1 g.1.2 (λf=>d .ret [(2,vB f)] [])
theorem jlY:CN 0 31 Tryz.f155 jbM:=nK jhO [] oN ([],[]) [] ([2],[]) λ_ _ _=>by delta j6O jco jbq j4t;refine gz j2P λ_ b=>gz j1w λ_ d=>gz j2z λ_ f=> ?_;rewrite [<-b,<-d,<-f];kernel_rfl
def j3I (s:qS) (b:Bool->Res):Res:=j0K s.2.1 λr=>bif !r then b false else j6O ((nI (List.length s.2.2.1))==0) ((nI (List.length s.2.2.2.1))==0) s λt=>b t
def j7A:Sig Unit:=sg [.look y17 true] [false] [(y17,none)] [] λd f k=>j3I d.1 (λb=>k [wB b] [] [])
theorem jhW:SO 155 j7A:=fK (np:=0) jhO [jbM] (oI 31 0 @jlY oN) false Tryz.func155 λ_ _ _ _=>by delta j3I j38 jbM;refine gz j0K λ_ b=>gz j6O λ_ d=> ?_;rewrite [<-b,<-d];kernel_rfl
theorem jjQ:FS [(172,j1s),(242,j8t)]:=(Za6 j4R (Za6 jiF Zas))
def j6K (f:List qT) (g:Int) (d:qF×List qR) (b:Int) (rec:Int->Res) (h:Unit->Res) (i:Unit->Res):Res:=bif decide (b<g) then bif inb b (List.length f) then bif inb b (List.length d.2) then j0E (nth (eS,[],[]) f b) (nth [] d.2 b) λr=>bif !r then i () else rec (Z9K (b+1)) else none else none else h ()
def j93 (b:List qT) (f:Int) (d:qF×List qR):Int->(Int->Res)->((Unit->Res)×(Unit->Res))->Res:=λv rec q=>j6K b f d v (λg=>rec (g)) q.1 q.2
def jeP (b:List qT) (f:Int) (d:qF×List qR) (n:Nat) (g:Int) (h:Unit->Res) (i:Unit->Res):Res:=Z1f (j93 b f d) n (g) (h,i)
def jdx:Z1d Unit:=NdL 38 38 [.t 1 (pB 1),.R 21 y30 .S,.I 22,.I 23] [(1,y33,[.S,.S])] (λb d=>(b.2.2.1)) (λb v=>(b.1,b.2.1,v,())) (λd v=>((d.1.1,d.1.2),())) (λb d=>j93 b.1 b.2.1 d.1.2) λb d f=>((λ_=>f (.exit 0) [] []),(λ_=>f .ret [(2,vB false)] []))
theorem jol:CN 0 58 Tryz.f186 jdx:=lK jjQ [] oN ([],[]) [(0,[],[])] ([2],[]) λ_ _ _ _ _=>by kernel_rfl
def j6Z (d:qF×List qR) (b:Bool->Res):Res:=j7e d.1 λr=>bif !r then b false else bif ((nI (List.length d.2)) != (nI (List.length d.1))) then b false else jeP d.1 (nI (List.length d.1)) d Z1c 0 (λ_=>b true) (λ_=>b false)
def j9H:Sig Unit:=sg [.look y33 true] [false] [(y33,none)] [] λd f k=>j6Z d.1 (λb=>k [wB b] [] [])
theorem jjS:SO 186 j9H:=fK (np:=0) jjQ [jdx] (oI 58 0 @jol oN) false Tryz.func186 λ_ _ _ _=>by delta j6Z j8t jdx jeP;refine gz j7e λ_ b=>gz j93 λ_ d=> ?_;rewrite [<-b,<-d];kernel_rfl
theorem jgl:FS [(243,j6C),(244,j90)]:=(Za6 jgy (Za6 jgz Zas))
def j3w (f:List qR) (g:Int) (d:Int) (b:qF×List qR) (rec:Int->qD->Res) (h:qD->Res):Res:=bif decide (d<g) then bif inb d (List.length f) then j6R (nth [] f d) λr=>bif lim ((List.length b.2)+1) then rec (Z9K (d+1)) (b.1,(b.2++[r])) else none else none else h b
def j60 (d:List qR) (f:Int):(Int×qD)->(Int×qD->Res)->((qD->Res))->Res:=λv rec q=>j3w d f v.1 v.2 (λg b=>rec (g,b)) q
def jbx (d:List qR) (f:Int) (n:Nat) (g:Int) (b:qF×List qR) (h:qD->Res):Res:=Z1f (j60 d f) n (g,b) (h)
def jaC:Z1d Unit:=NdL 28 28 [.t 2 (pB 2),.t 3 (pB 3),.R 11 y32 .S,.I 12,.I 13] [(2,y33,[.O,.O]),(3,y33,[.O,.O])] (λd b=>(d.2.2.1,b.2.1.2)) (λd v=>(d.1,d.2.1,v.1,())) (λb v=>((b.1.1,b.1.2),(b.2.1.1,v.2),())) (λd b=>j60 d.1 d.2.1) λd b g=>((λf=>g (.exit 0) [(2,pB 2),(3,pB 3)] [(2,⟨y33,b.1.1,b.1.2,[.O,.O]⟩),(3,⟨y33,b.2.1.1,f,[.O,.O]⟩)]))
theorem jkW:CN 0 58 Tryz.f187 jaC:=lK jgl [] oN ([],[]) [(0,[2,3],[2,3])] ([],[]) λ_ _ _ _ _=>by kernel_rfl
def j1U (d:qF×List qR) (f:qD->Res):Res:=j4y d.1 λr=>jbx d.2 (nI (List.length d.2)) Z1c 0 (r,[]) λb=>f b
def j6D:Sig Unit:=sg [.borrow y33 true] [true] [(y33,none)] [] λd f k=>j1U d.1 (λb=>k [⟨y33,true,b,[.O,.O]⟩] [] [])
theorem jgB:SO 187 j6D:=fK (np:=0) jgl [jaC] (oI 58 0 @jkW oN) false Tryz.func187 λ_ _ _ _=>by delta j1U j6C jaC jbx;refine gz j4y λ_ b=>gz j60 λ_ d=> ?_;rewrite [<-b,<-d];kernel_rfl
def j1p (t:qB×qE×qL) (l:List qW) (s:qS) (b:qR->Int->Res):Res:=bif (s.1==1) then j7L t l s.2.2.2.1 λr d=>b r d else bif (s.1==2) then j7M t l s.2.2.1 s.2.2.2.1 λf g=>b f g else bif (s.1==3) then j7K t l s.2.2.1 λh i=>b h i else bif (s.1==5) then j6N t l s.2.2.2.2 λj k=>b j k else b [] 0
def j6E:Sig Unit:=sg [.borrow y29 true,.borrow y31 false,.borrow y17 true] [false,false] [(y29,none),(y31,none),(y17,none)] [] λb g k=>j1p b.1 b.2.1 b.2.2.1 (λd f=>k [w1 y31 d .O,wI f] [] [])
theorem jgC:SO 246 j6E:=fK (np:=0) (Za6 jnX (Za6 jnY (Za6 jnW (Za6 jmy Zas)))) [] oN false Tryz.func246 λ_ _ _ _=>by delta j1p ji8 ji9 ji7 jgU;refine gz j7L λ_ b=>gz j7M λ_ d=>gz j7K λ_ f=>gz j6N λ_ g=> ?_;rewrite [<-b,<-d,<-f,<-g];kernel_rfl
theorem j71:FS [(113,j2M),(244,j90),(246,j6E),(287,j5n)]:=(Za6 jaT (Za6 jgz (Za6 jgC (Za6 jf9 Zas))))
def j3v (b:Int) (s:qS) (t:qB×qE×qL) (d:Bool->Res):Res:=bif decide (b>=0) then d (sEq t.1 s.2.1) else d false
def j2R:Z1d Unit:=Nd 86 86 [.t 2 (pB 2),.t 3 (pB 3),.t 4 (pB 4),.t 8 (pB 8),.t 10 (pB 10),.t 11 (pB 11),.I 12,.R 29 y30 .S,.I 30,.I 31] [(2,y33,[.S,.S]),(3,y17,[.S,.S,.S,.S]),(4,y33,[.O,.O]),(8,y33,[.S,.O]),(10,y29,[.S,.S]),(11,y31,[.O])] λd b g=>j3v d.1 b.2.1.2 b.2.2.2.2.1.2 (λf=>g .normal [(2,pB 2),(3,pB 3),(4,pB 4),(8,pB 8),(11,pB 11),(12,vI d.1),(29,v1 y30 d.2.1 .S),(30,vI d.2.2.1),(31,vI d.2.2.2.1),(49,vB f)] [(2,⟨y33,b.1.1,b.1.2,[.S,.S]⟩),(3,⟨y17,b.2.1.1,b.2.1.2,[.S,.S,.S,.S]⟩),(4,⟨y33,b.2.2.1.1,b.2.2.1.2,[.O,.O]⟩),(8,⟨y33,b.2.2.2.1.1,b.2.2.2.1.2,[.S,.O]⟩),(11,⟨y31,b.2.2.2.2.2.1.1,b.2.2.2.2.2.1.2,[.O]⟩)])
theorem jj3:CN 0 256412 Tryz.f245 j2R:=nK j71 [] oN ([2,3,4,8,11,12,29,30,31,49],[2,3,4,8,11]) [] ([],[]) λ_ _ _=>by kernel_rfl
def j20 (b:Int) (g:Bool) (d:qF×List qR) (s:qS) (x:List qW) (f:qR->Res):Res:=bif g then bif inb b (List.length d.1) then bif inb b (List.length d.2) then j1p (nth (eS,[],[]) d.1 b) (nth [] d.2 b) s λr i=>Z87 (f r) (f r) else none else none else bif decide (b>=0) then bif inb b (List.length d.2) then j6R (nth [] d.2 b) λh=>f h else none else f x
def j5D:Z1d Unit:=Nd 86 86 [.t 2 (pB 2),.t 3 (pB 3),.t 4 (pB 4),.t 8 (pB 8),.t 11 (pB 11),.I 12,.R 29 y30 .S,.I 30,.I 31,.B 49] [(2,y33,[.S,.S]),(3,y17,[.S,.S,.S,.S]),(4,y33,[.O,.O]),(8,y33,[.S,.O]),(11,y31,[.O])] λd b f=>j20 d.1 d.2.2.2.2.1 b.1.2 b.2.1.2 b.2.2.2.2.1.2 (λg=>f .normal [(2,pB 2),(3,pB 3),(4,pB 4),(8,pB 8),(11,pB 11),(29,v1 y30 d.2.1 .S),(30,vI d.2.2.1),(31,vI d.2.2.2.1)] [(2,⟨y33,b.1.1,b.1.2,[.S,.S]⟩),(3,⟨y17,b.2.1.1,b.2.1.2,[.S,.S,.S,.S]⟩),(4,⟨y33,b.2.2.1.1,b.2.2.1.2,[.O,.O]⟩),(8,⟨y33,b.2.2.2.1.1,b.2.2.2.1.2,[.S,.O]⟩),(11,⟨y31,b.2.2.2.2.1.1,g,[.O]⟩)])
theorem jj4:CN 0 256413 Tryz.f245 j5D:=nK j71 [j2R] oN ([2,3,4,8,11,29,30,31],[2,3,4,8,11]) [] ([],[]) λ_ _ _=>by delta j20 j6E j90;refine gz j1p λ_ b=>gz j6R λ_ d=> ?_;rewrite [<-b,<-d];kernel_rfl
def j1j (g:List qT) (h:Int) (d:qF×List qR) (s:qS) (b:Int) (f:qF×List qR) (rec:Int->qD->Res) (i:qD->Res):Res:=bif decide (b<h) then bif inb b (List.length g) then j1v d.1 (nth (eS,[],[]) g b).1 λr=>j3v r s (nth (eS,[],[]) g b) λt=>j20 r t d s [] λx=>bif lim ((List.length f.2)+1) then rec (Z9K (b+1)) (f.1,(f.2++[x])) else none else none else i f
def j2l (f:List qT) (g:Int) (d:qF×List qR) (s:qS):(Int×qD)->(Int×qD->Res)->((qD->Res))->Res:=λv rec q=>j1j f g d s v.1 v.2 (λh b=>rec (h,b)) q
def j5Z (f:List qT) (g:Int) (d:qF×List qR) (s:qS) (n:Nat) (h:Int) (b:qF×List qR) (i:qD->Res):Res:=Z1f (j2l f g d s) n (h,b) (i)
def j8J:Z1d Unit:=NdL 86 86 [.t 2 (pB 2),.t 3 (pB 3),.t 4 (pB 4),.t 8 (pB 8),.R 29 y30 .S,.I 30,.I 31] [(2,y33,[.S,.S]),(3,y17,[.S,.S,.S,.S]),(4,y33,[.O,.O]),(8,y33,[.S,.O])] (λd b=>(d.2.2.1,b.2.2.2.1.2)) (λd v=>(d.1,d.2.1,v.1,())) (λb v=>((b.1.1,b.1.2),(b.2.1.1,b.2.1.2),(b.2.2.1.1,b.2.2.1.2),(b.2.2.2.1.1,v.2),())) (λd b=>j2l d.1 d.2.1 b.1.2 b.2.1.2) λd b g=>((λf=>g (.exit 0) [(4,pB 4),(8,pB 8)] [(4,⟨y33,b.2.2.1.1,b.2.2.1.2,[.O,.O]⟩),(8,⟨y33,b.2.2.2.1.1,f,[.S,.O]⟩)]))
theorem jj2:CN 0 250 Tryz.f245 j8J:=lK j71 [j2R,j5D] (oI 924 0 @jj3 (oI 925 1 @jj4 oN)) ([],[]) [(0,[4,8],[4,8])] ([],[]) λ_ _ _ _ _=>by delta j2l j1j j2M j2R j5D;refine gz j1v λ_ b=>gz j3v λ_ d=>gz j20 λ_ f=> ?_;rewrite [<-b,<-d,<-f];kernel_rfl
def j3W (d:qF×List qR) (s:qS) (f:qD->Int->Res):Res:=j28 d.1 s.2.2.2.2 λr g=>bif (g != 0) then f ([],[]) (Z9K (10+g)) else j5Z r (nI (List.length r)) d s Z1c 0 (r,[]) λb=>f b 0
def jai:Sig Unit:=sg [.borrow y33 true,.borrow y17 true] [true,false] [(y33,none),(y17,none)] [] λb g k=>j3W b.1 b.2.1 (λd f=>k [⟨y33,true,d,[.S,.S]⟩,wI f] [] [])
theorem jkm:SO 245 jai:=fK (np:=0) j71 [j2R,j5D,j8J] (oI 250 2 @jj2 oN) true Tryz.func245 λ_ _ _ _=>by delta j3W j5n j8J j5Z;refine gz j28 λ_ b=>gz j2l λ_ d=> ?_;rewrite [<-b,<-d];kernel_rfl
theorem jjR:FS [(113,j2M),(155,j7A),(186,j9H),(187,j6D),(245,jai),(246,j6E)]:=(Za6 jaT (Za6 jhW (Za6 jjS (Za6 jgB (Za6 jkm (Za6 jgC Zas))))))
def j8B (b:Int) (s:qS) (d:Unit->Res) (f:Unit->Res):Res:=bif decide (b<0) then bif (s.1 != 5) then f () else bif (s.2.2.2.2.1 != 1) then f () else d () else d ()
def jdy:Z1d Unit:=Nd 77 77 [.t 2 (pB 2),.t 3 (pB 3),.t 4 (pB 4),.I 6] [(2,y33,[.S,.S]),(3,y17,[.S,.S,.S,.S]),(4,y33,[.O,.O])] λf b d=>j8B f.1 b.2.1.2 (λ_=>d .normal [(2,pB 2),(3,pB 3),(4,pB 4),(6,vI f.1)] [(2,⟨y33,b.1.1,b.1.2,[.S,.S]⟩),(3,⟨y17,b.2.1.1,b.2.1.2,[.S,.S,.S,.S]⟩),(4,⟨y33,b.2.2.1.1,b.2.2.1.2,[.O,.O]⟩)]) (λ_=>d .ret [(4,pB 4),(5,vI 4)] [(4,⟨y33,b.2.2.1.1,([],[]),[.O,.O]⟩)])
theorem jom:CN 0 30 Tryz.f188 jdy:=nK jjR [] oN ([2,3,4,6],[2,3,4]) [] ([4,5],[4]) λ_ _ _=>by kernel_rfl
def j8A (d:qF×List qR) (s:qS) (f:qD->Int->Res):Res:=j6Z d λr=>bif !r then f ([],[]) 1 else j3I s λi=>bif !i then f ([],[]) 1 else j1v d.1 s.2.1 λb=>j8B b s (λ_=>bif (s.1==5) then j3W d s λj k=>f j k else bif inb b (List.length d.1) then bif inb b (List.length d.2) then j1p (nth (eS,[],[]) d.1 b) (nth [] d.2 b) s λl h=>bif (h != 0) then f ([],[]) (Z9K (10+h)) else j1U d λg=>bif inb b (List.length g.2) then f (g.1,upd g.2 b l) 0 else none else none else none) (λ_=>f ([],[]) 4)
def jk3:Sig Unit:=sg [.borrow y33 true,.borrow y17 true] [true,false] [(y33,none),(y17,none)] [] λb g k=>j8A b.1 b.2.1 (λd f=>k [⟨y33,true,d,[.S,.S]⟩,wI f] [] [])
theorem jq8:SO 188 jk3:=fK (np:=0) jjR [jdy] (oI 30 0 @jom oN) true Tryz.func188 λ_ _ _ _=>by delta j8A j9H j7A j2M jdy jai j6E j6D;refine gz j6Z λ_ b=>gz j3I λ_ d=>gz j1v λ_ f=>gz j8B λ_ g=>gz j3W λ_ h=>gz j1p λ_ i=>gz j1U λ_ j=> ?_;rewrite [<-b,<-d,<-f,<-g,<-h,<-i,<-j];kernel_rfl
theorem jgk:FS [(186,j9H),(187,j6D),(188,jk3)]:=(Za6 jjS (Za6 jgB (Za6 jq8 Zas)))
def j3m (d:List qS) (f:Int) (b:Int) (now:qF×List qR) (rec:Int->qD->Res) (h:qD->Res) (i:Int->Int->Res):Res:=bif decide (b<f) then bif inb b (List.length d) then j8A now (nth (0,eS,[],[],0,eS,[],[],eS,eS) d b) λr g=>bif (g != 0) then i g b else rec (Z9K (b+1)) r else none else h now
def j5S (b:List qS) (d:Int):(Int×qD)->(Int×qD->Res)->((qD->Res)×(Int->Int->Res))->Res:=λv rec q=>j3m b d v.1 v.2 (λf now=>rec (f,now)) q.1 q.2
def j85 (b:List qS) (d:Int) (n:Nat) (f:Int) (now:qF×List qR) (g:qD->Res) (h:Int->Int->Res):Res:=Z1f (j5S b d) n (f,now) (g,h)
def jar:Z1d Unit:=λσ k=>rdN σ 39<|rdT σ 4 (pB 4)<|rdT σ 7 (pB 7)<|rd1 σ 18 y27 .S λd=>rdI σ 19 λf=>rdI σ 20 λg=>rdB σ 4 y33 [.O,.O] λa i=>rdB σ 7 y33 [.S,.S] λh now=>j85 d f Z1c g now (λb=>k (.exit 0) (mkS 39 39 [(4,pB 4),(7,pB 7)] [(4,⟨y33,a,i,[.O,.O]⟩),(7,⟨y33,h,b,[.S,.S]⟩)])) (λj l=>k .ret (mkS 39 39 [(4,pB 4),(5,vI j),(6,vI l)] [(4,⟨y33,a,([],[]),[.O,.O]⟩)]))
def jaz:Z1d Unit:=λσ k=>jar (σ.wk [] [(7,[.S,.S])]) k
theorem jkK:CN 0 122 Tryz.f133 jaz:=λp=>ZaJ [] [(7,[.S,.S])] (jly follows j1y jgk p [] oN [4,7,18,19,20] [4,7] ([],[]) [(0,[4,7],[4,7])] ([4,5,6],[4]) (y:=jar) λσ k _ h=>rN h λB h=>rT h λz h=>rT h λA h=>rV h λd g h=>rV h λf i h=>rV h λq j h=>rB h λa w l h=>rB h λr now n h=>⟨_,ZaM (m:=39) B (sC z (sC A (sC g (sC i (sC j sN))))) (bC l (bC n bN)),.trans (Z9u (λv:Int×qD=>(mkS 39 39 [(4,pB 4),(7,pB 7),(18,v1 y27 d .S),(19,vI f),(20,vI v.1)] [(4,⟨y33,a,w,[.O,.O]⟩),(7,⟨y33,r,v.2,[.S,.S]⟩)])) (j5S d f) (λ(k:Z83 Unit)=>(((λb=>k (.exit 0) (mkS 39 39 [(4,pB 4),(7,pB 7)] [(4,⟨y33,a,w,[.O,.O]⟩),(7,⟨y33,r,b,[.S,.S]⟩)])),(λC D=>k .ret (mkS 39 39 [(4,pB 4),(5,vI C),(6,vI D)] [(4,⟨y33,a,([],[]),[.O,.O]⟩)]))):(qD->Res)×(Int->Int->Res))) (λv rec k=>by kernel_rfl) Z1c (q,now) k) h⟩)
def j2O (d:qF×List qR) (l:List qS) (b:qD->Int->Int->Res):Res:=j6Z d λr=>bif !r then b ([],[]) 1 0 else j1U d λf=>j85 l (nI (List.length l)) Z1c 0 f (λnow=>b now 0 0) (λt g=>b ([],[]) t g)
def jcl:Sig Unit:=sg [.borrow y33 true,.borrow y27 false] [true,false,false] [(y33,none),(y27,none)] [] λb h k=>j2O b.1 b.2.1 (λd f g=>k [⟨y33,true,d,[.S,.S]⟩,wI f,wI g] [] [])
theorem jmw:SO 133 jcl:=fK (np:=0) jgk [jaz] (oI 122 0 @jkK oN) true Tryz.func133 λ_ _ _ _=>by delta j2O j9H j6D jaz;delta jar j85;refine gz j6Z λ_ b=>gz j1U λ_ d=>gz j5S λ_ f=> ?_;rewrite [<-b,<-d,<-f];kernel_rfl
def jd9 (d:Int×Int×qB) (b:Bool->Res):Res:=j1d d λr=>b (!r)
def jma:Sig Unit:=sg [.look y2 true] [false] [(y2,none)] [] λd f k=>jd9 d.1 (λb=>k [wB b] [] [])
theorem jf6:SO 272 jma:=fK (np:=0) (Za6 j8c Zas) [] oN false Tryz.func272 λ_ _ _ _=>by kernel_rfl
def j14 (s:List qV) (g:Int) (b:Int) (rec:Int->Res) (d:Unit->Res) (f:Int->Res):Res:=bif decide (b<g) then bif inb b (List.length s) then jd9 (nth (0,0,eS) s b) λr=>bif r then f b else rec (Z9K (b+1)) else none else d ()
def j3E (s:List qV) (b:Int):Int->(Int->Res)->((Unit->Res)×(Int->Res))->Res:=λv rec q=>j14 s b v (λd=>rec (d)) q.1 q.2
def j9b (s:List qV) (f:Int) (n:Nat) (g:Int) (b:Unit->Res) (d:Int->Res):Res:=Z1f (j3E s f) n (g) (b,d)
def j8H:Z1d Unit:=NdL 19 19 [.R 0 y3 .S,.c 1 272 [] .unit [],.I 7,.I 8] [] (λb d=>(b.2.2.2.1)) (λb v=>(b.1,b.2.1,b.2.2.1,v,())) (λd v=>()) (λb d=>j3E b.1 b.2.2.1) λb d f=>((λ_=>f (.exit 0) [] []),(λg=>f .ret [(4,vI g)] []))
theorem jeE:CN 0 26 Tryz.f306 j8H:=lK (Za6 jf6 Zas) [] oN ([],[]) [(0,[],[])] ([4],[]) λ_ _ _ _ _=>by kernel_rfl
def j7c (s:List qV) (f:Unit) (b:Int->Res):Res:=j9b s (nI (List.length s)) Z1c 0 (λ_=>b (-1)) (λt=>b t)
def jgb:Sig Unit:=sg [.look y3 false,.rclos 272 []] [false] [(y3,none),(.unit,none)] [] λb f k=>j7c b.1 b.2.1 (λd=>k [wI d] [] [])
theorem jfZ:SO 306 jgb:=fK (np:=0) (Za6 jf6 Zas) [j8H] (oI 26 0 @jeE oN) false Tryz.func306 λ_ _ _ _=>by kernel_rfl
def j2c (s:List qV) (f:Unit) (b:Bool->Res):Res:=j7c s f λr=>b (decide (r>=0))
def j83:Sig Unit:=sg [.look y3 false,.rclos 272 []] [false] [(y3,none),(.unit,none)] [] λb f k=>j2c b.1 b.2.1 (λd=>k [wB d] [] [])
theorem jdM:SO 271 j83:=fK (np:=0) (Za6 jfZ Zas) [] oN false Tryz.func271 λ_ _ _ _=>by kernel_rfl
def j1O (l:List qV) (b:Bool->Res):Res:=j0i (nI (List.length l)) 1 8 λr=>bif r then j2c l () λd=>b (!d) else b false
def jch:Sig Unit:=sg [.look y3 false] [false] [(y3,none)] [] λd f k=>j1O d.1 (λb=>k [wB b] [] [])
theorem jmq:SO 213 jch:=fK (np:=0) (Za6 j33 (Za6 jdM Zas)) [] oN false Tryz.func213 λ_ _ _ _=>by delta j1O j26 j83;refine gz j0i λ_ b=>gz j2c λ_ d=> ?_;rewrite [<-b,<-d];kernel_rfl
theorem jhK:FS [(160,j36),(211,j4q),(212,j81),(213,jch)]:=(Za6 j9L (Za6 je4 (Za6 jaQ (Za6 jmq Zas))))
def j6f (s:qS) (b:Bool->Res):Res:=bif (s.1==1) then bif ((nI (List.length s.2.2.1))==0) then j1O s.2.2.2.1 λr=>b r else b false else bif (s.1==2) then j1O s.2.2.1 λd=>bif d then j1O s.2.2.2.1 λf=>b f else b false else bif (s.1==3) then j1O s.2.2.1 λg=>bif g then b ((nI (List.length s.2.2.2.1))==0) else b false else bif (s.1==4) then bif ((nI (List.length s.2.2.1))==0) then b ((nI (List.length s.2.2.2.1))==0) else b false else b false
def jbC:Z1d Unit:=Nd 91 91 [.t 1 (pB 1)] [(1,y17,[.S,.S,.S,.S])] λg f b=>j6f f.1.2 (λd=>b .ret [(2,vB d)] [])
theorem jlE:CN 0 15 Tryz.f161 jbC:=nK jhK [] oN ([],[]) [] ([2],[]) λ_ _ _=>by delta j6f jch;refine gz j1O λ_ b=> ?_;rewrite [<-b];kernel_rfl
def j3F (s:qS) (b:Bool->Res):Res:=bif (s.1==5) then j2w s.2.2.2.2 λr=>bif r then bif sEq s.2.1 s.2.2.2.2.2.1 then bif ((nI (List.length s.2.2.1))==0) then b ((nI (List.length s.2.2.2.1))==0) else b false else b false else b false else j0C s.2.1 λd=>bif !d then b false else j0g s.2.2.2.2 (0,eS,[],[],eS,eS) λf=>bif !f then b false else j6f s λt=>b t
def j9S:Sig Unit:=sg [.look y17 true] [false] [(y17,none)] [] λd f k=>j3F d.1 (λb=>k [wB b] [] [])
theorem jhQ:SO 161 j9S:=fK (np:=0) jhK [jbC] (oI 15 0 @jlE oN) false Tryz.func161 λ_ _ _ _=>by delta j3F j4q j36 j81 jbC;refine gz j2w λ_ b=>gz j0C λ_ d=>gz j0g λ_ f=>gz j6f λ_ g=> ?_;rewrite [<-b,<-d,<-f,<-g];kernel_rfl
def j7t (s:qS) (b:qS->Res):Res:=j0y s.2.2.1 λr=>j0y s.2.2.2.1 λd=>jb2 s.2.2.2.2 λf=>b (s.1,s.2.1,r,d,f)
def jmb:Sig Unit:=sg [.borrow y17 true] [true] [(y17,none)] [] λd f k=>j7t d.1 (λb=>k [⟨y17,true,b,[.O,.O,.O,.O]⟩] [] [])
theorem jf7:SO 216 jmb:=fK (np:=0) (Za6 j51 (Za6 jms Zas)) [] oN false Tryz.func216 λ_ _ _ _=>by delta j7t j5l jgT;refine gz j0y λ_ b=>gz jb2 λ_ d=> ?_;rewrite [<-b,<-d];kernel_rfl
theorem jjO:FS [(250,j8q),(251,j25)]:=(Za6 jiq (Za6 j7r Zas))
def j6b (f:List qT) (g:Int) (d:qF×List qR) (b:Int) (rec:Int->Res) (h:Unit->Res) (i:Unit->Res):Res:=bif decide (b<g) then bif inb b (List.length f) then bif inb b (List.length d.2) then j0V (nth (eS,[],[]) f b) (nth [] d.2 b) λr=>bif !r then i () else rec (Z9K (b+1)) else none else none else h ()
def j8R (b:List qT) (f:Int) (d:qF×List qR):Int->(Int->Res)->((Unit->Res)×(Unit->Res))->Res:=λv rec q=>j6b b f d v (λg=>rec (g)) q.1 q.2
def jen (b:List qT) (f:Int) (d:qF×List qR) (n:Nat) (g:Int) (h:Unit->Res) (i:Unit->Res):Res:=Z1f (j8R b f d) n (g) (h,i)
def jds:Z1d Unit:=NdL 38 38 [.t 1 (pB 1),.R 21 y30 .S,.I 22,.I 23] [(1,y33,[.S,.S])] (λb d=>(b.2.2.1)) (λb v=>(b.1,b.2.1,v,())) (λd v=>((d.1.1,d.1.2),())) (λb d=>j8R b.1 b.2.1 d.1.2) λb d f=>((λ_=>f (.exit 0) [] []),(λ_=>f .ret [(2,vB false)] []))
theorem joa:CN 0 58 Tryz.f195 jds:=lK jjO [] oN ([],[]) [(0,[],[])] ([2],[]) λ_ _ _ _ _=>by kernel_rfl
def jaF (d:qF×List qR) (b:Bool->Res):Res:=j72 d.1 λr=>bif !r then b false else bif ((nI (List.length d.2)) != (nI (List.length d.1))) then b false else jen d.1 (nI (List.length d.1)) d Z1c 0 (λ_=>b true) (λ_=>b false)
def jg7:Sig Unit:=sg [.look y33 true] [false] [(y33,none)] [] λd f k=>jaF d.1 (λb=>k [wB b] [] [])
theorem jq3:SO 195 jg7:=fK (np:=0) jjO [jds] (oI 58 0 @joa oN) false Tryz.func195 λ_ _ _ _=>by delta jaF j8q jds jen;refine gz j72 λ_ b=>gz j8R λ_ d=> ?_;rewrite [<-b,<-d];kernel_rfl
theorem jhL:FS [(231,j6v),(232,j11)]:=(Za6 jgr (Za6 j50 Zas))
def j44 (f:List qR) (g:Int) (d:Int) (b:qF×List qR) (rec:Int->qD->Res) (h:qD->Res):Res:=bif decide (d<g) then bif inb d (List.length f) then j0x (nth [] f d) λr=>bif lim ((List.length b.2)+1) then rec (Z9K (d+1)) (b.1,(b.2++[r])) else none else none else h b
def j75 (d:List qR) (f:Int):(Int×qD)->(Int×qD->Res)->((qD->Res))->Res:=λv rec q=>j44 d f v.1 v.2 (λg b=>rec (g,b)) q
def jc7 (d:List qR) (f:Int) (n:Nat) (g:Int) (b:qF×List qR) (h:qD->Res):Res:=Z1f (j75 d f) n (g,b) (h)
def jbE:Z1d Unit:=NdL 28 28 [.t 2 (pB 2),.t 3 (pB 3),.R 11 y32 .S,.I 12,.I 13] [(2,y33,[.O,.O]),(3,y33,[.O,.O])] (λd b=>(d.2.2.1,b.2.1.2)) (λd v=>(d.1,d.2.1,v.1,())) (λb v=>((b.1.1,b.1.2),(b.2.1.1,v.2),())) (λd b=>j75 d.1 d.2.1) λd b g=>((λf=>g (.exit 0) [(2,pB 2),(3,pB 3)] [(2,⟨y33,b.1.1,b.1.2,[.O,.O]⟩),(3,⟨y33,b.2.1.1,f,[.O,.O]⟩)]))
theorem jlG:CN 0 58 Tryz.f174 jbE:=lK jhL [] oN ([],[]) [(0,[2,3],[2,3])] ([],[]) λ_ _ _ _ _=>by kernel_rfl
def j1l (d:qF×List qR) (f:qD->Res):Res:=j43 d.1 λr=>jc7 d.2 (nI (List.length d.2)) Z1c 0 (r,[]) λb=>f b
def j37:Sig Unit:=sg [.borrow y33 true] [true] [(y33,none)] [] λd f k=>j1l d.1 (λb=>k [⟨y33,true,b,[.O,.O]⟩] [] [])
theorem jd3:SO 174 j37:=fK (np:=0) jhL [jbE] (oI 58 0 @jlG oN) false Tryz.func174 λ_ _ _ _=>by delta j1l j6v jbE jc7;refine gz j43 λ_ b=>gz j75 λ_ d=> ?_;rewrite [<-b,<-d];kernel_rfl
theorem jgj:FS [(174,j37),(176,j0T),(295,jbj),(296,j79),(297,j78),(298,jcg)]:=(Za6 jd3 (Za6 j7q (Za6 jl9 (Za6 jhf (Za6 jhe (Za6 jmp Zas))))))
def j2T (f:Int) (h:Int) (d:qF×List qR) (x:qG) (c:List qT) (b:qF×List qR) (g:qD->Res):Res:=bif (h==1) then Z87 (j0j c x.2.1 λr=>j1J b.2 r [[]] λi=>g (b.1,i)) (Z87 (j0j c x.2.1 λj=>j1J b.2 j [[]] λk=>g (b.1,k)) (j0j c x.2.1 λl=>j1J b.2 l [[]] λm=>g (b.1,m))) else bif (h==2) then j5p b.2 f (Z9K (f+1)) λn=>g (b.1,n) else bif inb f (List.length d.1) then bif inb f (List.length d.2) then j6e (nth (eS,[],[]) d.1 f) (nth [] d.2 f) x λp q=>bif inb f (List.length b.2) then g (b.1,upd b.2 f p) else none else none else none
def jaw:Z1d Unit:=Nd 79 79 [.t 2 (pB 2),.t 3 (pB 3),.t 4 (pB 4),.t 6 (pB 6),.t 8 (pB 8),.I 9,.I 31] [(2,y33,[.S,.S]),(3,y13,[.S,.S]),(4,y33,[.O,.O]),(6,y30,[.O]),(8,y33,[.O,.O])] λf b g=>j2T f.1 f.2.1 b.1.2 b.2.1.2 b.2.2.2.1.2 b.2.2.2.2.1.2 (λd=>g .normal [(4,pB 4),(6,pB 6),(8,pB 8)] [(4,⟨y33,b.2.2.1.1,b.2.2.1.2,[.O,.O]⟩),(6,⟨y30,b.2.2.2.1.1,b.2.2.2.1.2,[.O]⟩),(8,⟨y33,b.2.2.2.2.1.1,d,[.O,.O]⟩)])
theorem jkD:CN 0 253 Tryz.f252 jaw:=nK jgj [] oN ([4,6,8],[4,6,8]) [] ([],[]) λ_ _ _=>by delta j2T j0T j79 j78 jcg;refine gz j0j λ_ b=>gz j1J λ_ d=>gz j5p λ_ f=>gz j6e λ_ g=> ?_;rewrite [<-b,<-d,<-f,<-g];kernel_rfl
def j6g (d:qF×List qR) (x:qG) (f:qD->Int->Res):Res:=j4S d.1 x λr g=>bif (g != 0) then f ([],[]) g else j1l d λh=>j0j d.1 x.2.1 λi=>j2T i x.1 d x r h λb=>f (r,b.2) 0
def jci:Sig Unit:=sg [.borrow y33 true,.borrow y13 true] [true,false] [(y33,none),(y13,none)] [] λb g k=>j6g b.1 b.2.1 (λd f=>k [⟨y33,true,d,[.O,.O]⟩,wI f] [] [])
theorem jmr:SO 252 jci:=fK (np:=0) jgj [jaw] (oI 253 0 @jkD oN) false Tryz.func252 λ_ _ _ _=>by delta j6g jbj j37 j0T jaw;refine gz j4S λ_ b=>gz j1l λ_ d=>gz j0j λ_ f=>gz j2T λ_ g=> ?_;rewrite [<-b,<-d,<-f,<-g];kernel_rfl
theorem jcD:FS [(174,j37),(176,j0T),(252,jci),(253,jdd),(254,jde),(255,jdc)]:=(Za6 jd3 (Za6 j7q (Za6 jmr (Za6 jnK (Za6 jnL (Za6 jnJ Zas))))))
def j8l (f:Int) (s:qS) (b:Unit->Res) (d:Unit->Res):Res:=bif decide (f<0) then bif (s.1 != 5) then d () else bif (s.2.2.2.2.1 != 1) then d () else b () else b ()
def j7C:Z1d Unit:=Nd 108 108 [.t 2 (pB 2),.t 3 (pB 3),.t 4 (pB 4),.I 6] [(2,y33,[.S,.S]),(3,y17,[.S,.S,.S,.S]),(4,y33,[.O,.O])] λf b d=>j8l f.1 b.2.1.2 (λ_=>d .normal [(2,pB 2),(3,pB 3),(4,pB 4),(6,vI f.1)] [(2,⟨y33,b.1.1,b.1.2,[.S,.S]⟩),(3,⟨y17,b.2.1.1,b.2.1.2,[.S,.S,.S,.S]⟩),(4,⟨y33,b.2.2.1.1,b.2.2.1.2,[.O,.O]⟩)]) (λ_=>d .ret [(4,pB 4),(5,vI 4)] [(4,⟨y33,b.2.2.1.1,([],[]),[.O,.O]⟩)])
theorem jod:CN 0 14 Tryz.f196 j7C:=nK jcD [] oN ([2,3,4,6],[2,3,4]) [] ([4,5],[4]) λ_ _ _=>by kernel_rfl
def jb3 (f:Int) (d:qF×List qR) (b:Unit->Res):Res:=bif inb f (List.length d.1) then Z87 (Z87 (Z87 (Z87 (bif inb f (List.length d.2) then Z87 (Z87 (b ()) (Z87 (b ()) (b ()))) (Z87 (Z87 (b ()) (b ())) (b ())) else none) (Z87 (bif inb f (List.length d.2) then Z87 (Z87 (b ()) (b ())) (b ()) else none) (bif inb f (List.length d.2) then b () else none))) (Z87 (Z87 (bif inb f (List.length d.2) then Z87 (Z87 (b ()) (b ())) (b ()) else none) (bif inb f (List.length d.2) then b () else none)) (bif inb f (List.length d.2) then b () else none))) (Z87 (Z87 (Z87 (bif inb f (List.length d.2) then Z87 (Z87 (b ()) (Z87 (b ()) (b ()))) (Z87 (Z87 (b ()) (b ())) (b ())) else none) (Z87 (bif inb f (List.length d.2) then Z87 (Z87 (b ()) (b ())) (b ()) else none) (bif inb f (List.length d.2) then b () else none))) (Z87 (Z87 (bif inb f (List.length d.2) then Z87 (Z87 (b ()) (b ())) (b ()) else none) (bif inb f (List.length d.2) then b () else none)) (bif inb f (List.length d.2) then b () else none))) (Z87 (Z87 (Z87 (bif inb f (List.length d.2) then Z87 (Z87 (b ()) (b ())) (b ()) else none) (bif inb f (List.length d.2) then b () else none)) (bif inb f (List.length d.2) then b () else none)) (Z87 (Z87 (Z87 (bif inb f (List.length d.2) then Z87 (Z87 (b ()) (b ())) (b ()) else none) (bif inb f (List.length d.2) then b () else none)) (bif inb f (List.length d.2) then b () else none)) (bif inb f (List.length d.2) then b () else none))))) (Z87 (Z87 (Z87 (Z87 (bif inb f (List.length d.2) then Z87 (Z87 (b ()) (Z87 (b ()) (b ()))) (Z87 (Z87 (b ()) (b ())) (b ())) else none) (Z87 (bif inb f (List.length d.2) then Z87 (Z87 (b ()) (b ())) (b ()) else none) (bif inb f (List.length d.2) then b () else none))) (Z87 (Z87 (bif inb f (List.length d.2) then Z87 (Z87 (b ()) (b ())) (b ()) else none) (bif inb f (List.length d.2) then b () else none)) (bif inb f (List.length d.2) then b () else none))) (Z87 (Z87 (Z87 (bif inb f (List.length d.2) then Z87 (Z87 (b ()) (b ())) (b ()) else none) (bif inb f (List.length d.2) then b () else none)) (bif inb f (List.length d.2) then b () else none)) (bif inb f (List.length d.2) then b () else none))) (Z87 (Z87 (Z87 (Z87 (bif inb f (List.length d.2) then Z87 (Z87 (b ()) (b ())) (b ()) else none) (bif inb f (List.length d.2) then b () else none)) (bif inb f (List.length d.2) then b () else none)) (Z87 (Z87 (Z87 (bif inb f (List.length d.2) then Z87 (Z87 (b ()) (b ())) (b ()) else none) (bif inb f (List.length d.2) then b () else none)) (bif inb f (List.length d.2) then b () else none)) (bif inb f (List.length d.2) then b () else none))) (Z87 (Z87 (Z87 (Z87 (bif inb f (List.length d.2) then Z87 (Z87 (b ()) (b ())) (b ()) else none) (bif inb f (List.length d.2) then b () else none)) (bif inb f (List.length d.2) then b () else none)) (bif inb f (List.length d.2) then b () else none)) (bif inb f (List.length d.2) then b () else none)))) else none
def ja1:Z1d Unit:=Nd 108 108 [.t 2 (pB 2),.t 3 (pB 3),.t 4 (pB 4),.I 6] [(2,y33,[.S,.S]),(3,y17,[.S,.S,.S,.S]),(4,y33,[.O,.O])] λd b f=>jb3 d.1 b.1.2 (λ_=>f .normal [(2,pB 2),(3,pB 3),(4,pB 4),(6,vI d.1),(9,pB 9),(10,v1 y31 (nth [] b.1.2.2 d.1) .S)] [(2,⟨y33,b.1.1,b.1.2,[.S,.S]⟩),(3,⟨y17,b.2.1.1,b.2.1.2,[.S,.S,.S,.S]⟩),(4,⟨y33,b.2.2.1.1,b.2.2.1.2,[.O,.O]⟩),(9,⟨y29,false,nth (eS,[],[]) b.1.2.1 d.1,[.S,.S]⟩)])
theorem joe:CN 0 62 Tryz.f196 ja1:=nK jcD [j7C] oN ([2,3,4,6,9,10],[2,3,4,9]) [] ([],[]) λ_ _ _=>by kernel_rfl
def j6h (l:List qW) (code:Int) (b:Int) (s:qS) (t:qB×qE×qL) (d:qR->Int->Res):Res:=bif (b==1) then j7G t l s.2.2.2.1 λr f=>d r f else bif (b==2) then j7H t l s.2.2.1 s.2.2.2.1 λg h=>d g h else bif (b==3) then j7F t l s.2.2.1 λi j=>d i j else d [] code
def jdu:Z1d Unit:=Nd 108 108 [.t 2 (pB 2),.t 3 (pB 3),.t 4 (pB 4),.I 6,.t 9 (pB 9),.R 10 y31 .S,.I 11,.I 61] [(2,y33,[.S,.S]),(3,y17,[.S,.S,.S,.S]),(4,y33,[.O,.O]),(9,y29,[.S,.S])] λf d g=>j6h f.2.1 f.2.2.1 f.2.2.2.1 d.2.1.2 d.2.2.2.1.2 (λh b=>g .normal [(2,pB 2),(4,pB 4),(6,vI f.1),(10,v1 y31 h .O),(11,vI b)] [(2,⟨y33,d.1.1,d.1.2,[.S,.S]⟩),(4,⟨y33,d.2.2.1.1,d.2.2.1.2,[.O,.O]⟩)])
theorem jof:CN 0 509 Tryz.f196 jdu:=nK jcD [j7C,ja1] oN ([2,4,6,10,11],[2,4]) [] ([],[]) λ_ _ _=>by delta j6h jdd jde jdc;refine gz j7G λ_ b=>gz j7H λ_ d=>gz j7F λ_ f=> ?_;rewrite [<-b,<-d,<-f];kernel_rfl
def jaG (d:qF×List qR) (s:qS) (b:qD->Int->Res):Res:=j0j d.1 s.2.1 λr=>j8l r s (λ_=>bif (s.1==5) then j6g d s.2.2.2.2 λh g=>bif (g != 0) then b ([],[]) (Z9K (10+g)) else b h 0 else jb3 r d λ_=>j6h (nth [] d.2 r) 0 s.1 s (nth (eS,[],[]) d.1 r) λl code=>bif (code != 0) then b ([],[]) (Z9K (10+code)) else j1l d λf=>bif inb r (List.length f.2) then b (f.1,upd f.2 r l) 0 else none) (λ_=>b ([],[]) 4)
def jg8:Sig Unit:=sg [.borrow y33 true,.borrow y17 true] [true,false] [(y33,none),(y17,none)] [] λb g k=>jaG b.1 b.2.1 (λd f=>k [⟨y33,true,d,[.O,.O]⟩,wI f] [] [])
theorem jq5:SO 196 jg8:=fK (np:=0) jcD [j7C,ja1,jdu] (oI 14 0 @jod (oI 62 1 @joe (oI 509 2 @jof oN))) false Tryz.func196 λ_ _ _ _=>by delta jaG j0T j7C jci ja1 jdu j37;refine gz j0j λ_ b=>gz j8l λ_ d=>gz j6g λ_ f=>gz jb3 λ_ g=>gz j6h λ_ h=>gz j1l λ_ i=> ?_;rewrite [<-b,<-d,<-f,<-g,<-h,<-i];kernel_rfl
theorem jgi:FS [(161,j9S),(174,j37),(195,jg7),(196,jg8)]:=(Za6 jhQ (Za6 jd3 (Za6 jq3 (Za6 jq5 Zas))))
def j1W (d:List qS) (g:Int) (b:Int) (f:qF×List qR) (rec:Int->qD->Res) (j:qD->Res) (h:Int->Int->Res):Res:=bif decide (b<g) then bif inb b (List.length d) then j3F (nth (0,eS,[],[],0,eS,[],[],eS,eS) d b) λr=>bif !r then h 1 b else jaG f (nth (0,eS,[],[],0,eS,[],[],eS,eS) d b) λk i=>bif (i != 0) then h i b else rec (Z9K (b+1)) k else none else j f
def j3c (d:List qS) (f:Int):(Int×qD)->(Int×qD->Res)->((qD->Res)×(Int->Int->Res))->Res:=λv rec q=>j1W d f v.1 v.2 (λg b=>rec (g,b)) q.1 q.2
def jb0 (d:List qS) (f:Int) (n:Nat) (g:Int) (b:qF×List qR) (h:qD->Res) (i:Int->Int->Res):Res:=Z1f (j3c d f) n (g,b) (h,i)
def jat:Z1d Unit:=NdL 44 44 [.t 4 (pB 4),.t 7 (pB 7),.R 18 y27 .S,.I 19,.I 20] [(4,y33,[.O,.O]),(7,y33,[.O,.O])] (λd b=>(d.2.2.1,b.2.1.2)) (λd v=>(d.1,d.2.1,v.1,())) (λb v=>((b.1.1,b.1.2),(b.2.1.1,v.2),())) (λd b=>j3c d.1 d.2.1) λd b g=>((λf=>g (.exit 0) [(4,pB 4),(7,pB 7)] [(4,⟨y33,b.1.1,b.1.2,[.O,.O]⟩),(7,⟨y33,b.2.1.1,f,[.O,.O]⟩)]),(λh i=>g .ret [(4,pB 4),(5,vI h),(6,vI i)] [(4,⟨y33,b.1.1,([],[]),[.O,.O]⟩)]))
theorem jkv:CN 0 122 Tryz.f138 jat:=lK jgi [] oN ([],[]) [(0,[4,7],[4,7])] ([4,5,6],[4]) λ_ _ _ _ _=>by delta j3c j1W j9S jg8;refine gz j3F λ_ b=>gz jaG λ_ d=> ?_;rewrite [<-b,<-d];kernel_rfl
def j0R (d:qF×List qR) (l:List qS) (b:qD->Int->Int->Res):Res:=jaF d λr=>bif !r then b ([],[]) 1 0 else j1l d λg=>jb0 l (nI (List.length l)) Z1c 0 g (λf=>b f 0 0) (λt h=>b ([],[]) t h)
def j6s:Sig Unit:=sg [.borrow y33 true,.borrow y27 false] [true,false,false] [(y33,none),(y27,none)] [] λb h k=>j0R b.1 b.2.1 (λd f g=>k [⟨y33,true,d,[.O,.O]⟩,wI f,wI g] [] [])
theorem jgn:SO 138 j6s:=fK (np:=0) jgi [jat] (oI 122 0 @jkv oN) false Tryz.func138 λ_ _ _ _=>by delta j0R jg7 j37 jat jb0;refine gz jaF λ_ b=>gz j1l λ_ d=>gz j3c λ_ f=> ?_;rewrite [<-b,<-d,<-f];kernel_rfl
end
end Go.PI.G
namespace Go.PI.G
noncomputable section
open Go Go.PI Go.Proofs
open Go.Code (pl pr)
def j6U (s:qS) (b:Bool->Res):Res:=bif (s.1==0) then bif sEq s.2.1 eS then bif ((nI (List.length s.2.2.1))==0) then bif ((nI (List.length s.2.2.2.1))==0) then j1w s.2.2.2.2 λr=>b r else b false else b false else b false else b false
def jaj:Sig Unit:=sg [.look y17 true] [false] [(y17,none)] [] λd f k=>j6U d.1 (λb=>k [wB b] [] [])
theorem jkn:SO 276 jaj:=fK (np:=0) (Za6 jfa Zas) [] oN false Tryz.func276 λ_ _ _ _=>by kernel_rfl
theorem jin:FS [(155,j7A),(276,jaj)]:=(Za6 jhW (Za6 jkn Zas))
def j9Z (r:Int×Int×qS) (b:Bool->Res):Res:=bif decide (r.1<1) then b true else bif decide (r.1>4) then b true else bif decide (r.2.1<1) then b true else b (decide (r.2.1>1000000))
def jcA:Z1d Unit:=Nd 30 30 [.t 1 (pB 1)] [(1,y19,[.S,.S,.S,.S])] λg d f=>j9Z d.1.2 (λb=>f .normal [(1,pB 1),(20,vB b)] [(1,⟨y19,d.1.1,d.1.2,[.S,.S,.S,.S]⟩)])
theorem jmW:CN 0 12 Tryz.f218 jcA:=nK jin [] oN ([1,20],[1]) [] ([],[]) λ_ _ _=>by kernel_rfl
def j96 (r:Int×Int×qS) (b:Bool->Res):Res:=j9Z r λt=>bif t then b false else bif (r.1==2) then j3I r.2.2 λd=>b d else j6U r.2.2 λf=>b f
def jeN:Sig Unit:=sg [.look y19 true] [false] [(y19,none)] [] λd f k=>j96 d.1 (λb=>k [wB b] [] [])
theorem joR:SO 218 jeN:=fK (np:=0) jin [jcA] (oI 12 0 @jmW oN) false Tryz.func218 λ_ _ _ _=>by delta j96 jcA j7A jaj;refine gz j9Z λ_ b=>gz j3I λ_ d=>gz j6U λ_ f=> ?_;rewrite [<-b,<-d,<-f];kernel_rfl
def j6Q (f:Int) (d:List qP) (i:Int) (b:Int) (rec:Int->Res) (g:Unit->Res) (h:Unit->Res):Res:=bif decide (b<i) then bif inb b (List.length d) then bif ((nth (0,0,0,eS,[],[],0,eS,[],[],eS,eS) d b).1==1) then bif ((nth (0,0,0,eS,[],[],0,eS,[],[],eS,eS) d b).2.1==f) then h () else rec (Z9K (b+1)) else rec (Z9K (b+1)) else none else g ()
def jcr (b:Int) (d:List qP) (f:Int):Int->(Int->Res)->((Unit->Res)×(Unit->Res))->Res:=λv rec q=>j6Q b d f v (λg=>rec (g)) q.1 q.2
def jjk (b:Int) (g:List qP) (h:Int) (n:Nat) (i:Int) (d:Unit->Res) (f:Unit->Res):Res:=Z1f (jcr b g h) n (i) (d,f)
def jif:Z1d Unit:=NdL 23 23 [.I 1,.R 7 y20 .S,.I 8,.I 9] [] (λb d=>(b.2.2.2.1)) (λb v=>(b.1,b.2.1,b.2.2.1,v,())) (λd v=>()) (λb d=>jcr b.1 b.2.1 b.2.2.1) λb d f=>((λ_=>f (.exit 0) [] []),(λ_=>f .ret [(4,vB true)] []))
theorem jor:CN 0 26 Tryz.f219 jif:=lK Zas [] oN ([],[]) [(0,[],[])] ([4],[]) λ_ _ _ _ _=>by kernel_rfl
def jcV (l:List qP) (b:Int) (d:Bool->Res):Res:=jjk b l (nI (List.length l)) Z1c 0 (λ_=>d false) (λ_=>d true)
def jge:Sig Unit:=sg [.look y20 false,.look tI false] [false] [(y20,none),(tI,none)] [] λb f k=>jcV b.1 b.2.1 (λd=>k [wB d] [] [])
theorem jqb:SO 219 jge:=fK (np:=0) Zas [jif] (oI 26 0 @jor oN) false Tryz.func219 λ_ _ _ _=>by kernel_rfl
def j4F (h:Int) (d:List Int) (i:Int) (b:Int) (rec:Int->Res) (f:Unit->Res) (g:Unit->Res):Res:=bif decide (b<i) then bif inb b (List.length d) then bif ((nth 0 d b)==h) then g () else rec (Z9K (b+1)) else none else f ()
def jaq (b:Int) (d:List Int) (f:Int):Int->(Int->Res)->((Unit->Res)×(Unit->Res))->Res:=λv rec q=>j4F b d f v (λg=>rec (g)) q.1 q.2
def jh1 (f:Int) (g:List Int) (h:Int) (n:Nat) (i:Int) (b:Unit->Res) (d:Unit->Res):Res:=Z1f (jaq f g h) n (i) (b,d)
def jfT:Z1d Unit:=NdL 17 17 [.I 1,.R 7 y21 .S,.I 8,.I 9] [] (λb d=>(b.2.2.2.1)) (λb v=>(b.1,b.2.1,b.2.2.1,v,())) (λd v=>()) (λb d=>jaq b.1 b.2.1 b.2.2.1) λb d f=>((λ_=>f (.exit 0) [] []),(λ_=>f .ret [(4,vB true)] []))
theorem jm7:CN 0 26 Tryz.f168 jfT:=lK Zas [] oN ([],[]) [(0,[],[])] ([4],[]) λ_ _ _ _ _=>by kernel_rfl
def j5J (l:List Int) (d:Int) (b:Bool->Res):Res:=jh1 d l (nI (List.length l)) Z1c 0 (λ_=>b false) (λ_=>b true)
def j9X:Sig Unit:=sg [.look y21 false,.look tI false] [false] [(y21,none),(tI,none)] [] λb f k=>j5J b.1 b.2.1 (λd=>k [wB d] [] [])
theorem jhY:SO 168 j9X:=fK (np:=0) Zas [jfT] (oI 26 0 @jm7 oN) false Tryz.func168 λ_ _ _ _=>by kernel_rfl
def j4E (i:Int) (g:List Int) (f:Int) (d:List Int) (b:Int) (rec:(List Int)->Int->Res) (h:(List Int)->Res):Res:=bif decide (b<f) then bif inb b (List.length g) then bif ((nth 0 g b) != i) then bif lim ((List.length d)+1) then rec (d++[nth 0 g b]) (Z9K (b+1)) else none else rec d (Z9K (b+1)) else none else h d
def jap (g:Int) (h:List Int) (d:Int):((List Int)×Int)->((List Int)×Int->Res)->(((List Int)->Res))->Res:=λv rec q=>j4E g h d v.1 v.2 (λb f=>rec (b,f)) q
def jh0 (h:Int) (i:List Int) (d:Int) (n:Nat) (b:List Int) (f:Int) (g:(List Int)->Res):Res:=Z1f (jap h i d) n (b,f) (g)
def jfS:Z1d Unit:=NdL 24 24 [.I 1,.R 5 y21 .O,.R 9 y21 .S,.I 10,.I 11] [] (λb f=>(b.2.1,b.2.2.2.2.1)) (λb v=>(b.1,v.1,b.2.2.1,b.2.2.2.1,v.2,())) (λf v=>()) (λb f=>jap b.1 b.2.2.1 b.2.2.2.1) λb f g=>((λd=>g (.exit 0) [(5,v1 y21 d .O)] []))
theorem jm6:CN 0 58 Tryz.f277 jfS:=lK Zas [] oN ([],[]) [(0,[5],[])] ([],[]) λ_ _ _ _ _=>by kernel_rfl
def j7N (l:List Int) (f:Int) (d:(List Int)->Res):Res:=jh0 f l (nI (List.length l)) Z1c [] 0 λb=>d b
def jdk:Sig Unit:=sg [.borrow y21 false,.borrow tI false] [false] [(y21,none),(tI,none)] [] λb f k=>j7N b.1 b.2.1 (λd=>k [w1 y21 d .O] [] [])
theorem jo2:SO 277 jdk:=fK (np:=0) Zas [jfS] (oI 58 0 @jm6 oN) false Tryz.func277 λ_ _ _ _=>by kernel_rfl
theorem jfV:FS [(168,j9X),(277,jdk)]:=(Za6 jhY (Za6 jo2 Zas))
def jbu (b:List Int) (r:Int×Int×qS) (d:(List Int)->Res):Res:=bif (r.1==1) then j5J b r.2.1 λf=>bif !f then bif lim ((List.length b)+1) then d (b++[r.2.1]) else none else d b else d b
def ja2:Z1d Unit:=Nd 42 42 [.R 3 y21 .O,.t 5 (pB 5),.R 7 y20 .S,.I 8,.I 9] [(5,y19,[.S,.S,.S,.S])] λd f g=>jbu d.1 f.1.2 (λb=>g .normal [(3,v1 y21 b .O),(5,pB 5),(7,v1 y20 d.2.1 .S),(8,vI d.2.2.1),(9,vI d.2.2.2.1)] [(5,⟨y19,f.1.1,f.1.2,[.S,.S,.S,.S]⟩)])
theorem joo:CN 0 7474 Tryz.f220 ja2:=nK jfV [] oN ([3,5,7,8,9],[5]) [] ([],[]) λ_ _ _=>by kernel_rfl
def j3T (f:List qP) (j:Int) (g:List Int) (d:Int) (rec:(List Int)->Int->Res) (h:(List Int)->Res):Res:=bif decide (d<j) then bif inb d (List.length f) then jbu g (nth (0,0,0,eS,[],[],0,eS,[],[],eS,eS) f d) λb=>bif ((nth (0,0,0,eS,[],[],0,eS,[],[],eS,eS) f d).1==3) then j7N b (nth (0,0,0,eS,[],[],0,eS,[],[],eS,eS) f d).2.1 λr=>rec r (Z9K (d+1)) else bif ((nth (0,0,0,eS,[],[],0,eS,[],[],eS,eS) f d).1==4) then j7N b (nth (0,0,0,eS,[],[],0,eS,[],[],eS,eS) f d).2.1 λi=>rec i (Z9K (d+1)) else rec b (Z9K (d+1)) else none else h g
def j95 (d:List qP) (f:Int):((List Int)×Int)->((List Int)×Int->Res)->(((List Int)->Res))->Res:=λv rec q=>j3T d f v.1 v.2 (λb g=>rec (b,g)) q
def jjj (f:List qP) (g:Int) (n:Nat) (b:List Int) (h:Int) (d:(List Int)->Res):Res:=Z1f (j95 f g) n (b,h) (d)
def jie:Z1d Unit:=NdL 42 42 [.R 3 y21 .O,.R 7 y20 .S,.I 8,.I 9] [] (λb f=>(b.1,b.2.2.2.1)) (λb v=>(v.1,b.2.1,b.2.2.1,v.2,())) (λf v=>()) (λb f=>j95 b.2.1 b.2.2.1) λb f g=>((λd=>g (.exit 0) [(3,v1 y21 d .O)] []))
theorem jon:CN 0 58 Tryz.f220 jie:=lK jfV [ja2] (oI 114 0 @joo oN) ([],[]) [(0,[3],[])] ([],[]) λ_ _ _ _ _=>by delta j95 j3T ja2 jdk;refine gz jbu λ_ b=>gz j7N λ_ d=> ?_;rewrite [<-b,<-d];kernel_rfl
def jaL (l:List qP) (d:(List Int)->Res):Res:=jjj l (nI (List.length l)) Z1c [] 0 λb=>d b
def jgc:Sig Unit:=sg [.borrow y20 false] [false] [(y20,none)] [] λd f k=>jaL d.1 (λb=>k [w1 y21 b .O] [] [])
theorem jq9:SO 220 jgc:=fK (np:=0) jfV [ja2,jie] (oI 58 1 @jon oN) false Tryz.func220 λ_ _ _ _=>by kernel_rfl
def jbz (s:qS) (b:qS->Res):Res:=bif lim (0+(List.length s.2.2.1)) then j0b s.2.2.2.1 λr=>bif lim (0+(List.length s.2.2.2.2.2.2.1)) then bif lim (0+(List.length s.2.2.2.2.2.2.2.1)) then b (s.1,s.2.1,s.2.2.1,r,s.2.2.2.2.1,s.2.2.2.2.2.1,s.2.2.2.2.2.2.1,s.2.2.2.2.2.2.2.1,s.2.2.2.2.2.2.2.2) else none else none else none
def jn8:Sig Unit:=sg [.borrow y17 true] [true] [(y17,none)] [] λd f k=>jbz d.1 (λb=>k [⟨y17,true,b,[.O,.O,.O,.O]⟩] [] [])
theorem jgE:SO 158 jn8:=fK (np:=0) (Za6 j24 Zas) [] oN false Tryz.func158 λ_ _ _ _=>by kernel_rfl
def j3q (h:Int) (f:List qP) (g:Int) (d:List qS) (b:Int) (rec:qU->Int->Res) (i:qU->Res):Res:=bif decide (b<g) then bif inb b (List.length f) then bif ((nth (0,0,0,eS,[],[],0,eS,[],[],eS,eS) f b).1==2) then bif ((nth (0,0,0,eS,[],[],0,eS,[],[],eS,eS) f b).2.1==h) then jbz (nth (0,0,0,eS,[],[],0,eS,[],[],eS,eS) f b).2.2 λr=>bif lim ((List.length d)+1) then rec (d++[r]) (Z9K (b+1)) else none else rec d (Z9K (b+1)) else rec d (Z9K (b+1)) else none else i d
def j9m (g:Int) (h:List qP) (d:Int):(qU×Int)->(qU×Int->Res)->((qU->Res))->Res:=λv rec q=>j3q g h d v.1 v.2 (λb f=>rec (b,f)) q
def jfv (g:Int) (i:List qP) (d:Int) (n:Nat) (b:List qS) (f:Int) (h:qU->Res):Res:=Z1f (j9m g i d) n (b,f) (h)
def jeX:Z1d Unit:=NdL 32 32 [.I 1,.R 5 y27 .O,.R 9 y20 .S,.I 10,.I 11] [] (λb f=>(b.2.1,b.2.2.2.2.1)) (λb v=>(b.1,v.1,b.2.2.1,b.2.2.2.1,v.2,())) (λf v=>()) (λb f=>j9m b.1 b.2.2.1 b.2.2.2.1) λb f g=>((λd=>g (.exit 0) [(5,v1 y27 d .O)] []))
theorem jkQ:CN 0 58 Tryz.f221 jeX:=lK (Za6 jgE Zas) [] oN ([],[]) [(0,[5],[])] ([],[]) λ_ _ _ _ _=>by kernel_rfl
def j6P (l:List qP) (d:Int) (f:qU->Res):Res:=jfv d l (nI (List.length l)) Z1c [] 0 λb=>f b
def jcn:Sig Unit:=sg [.borrow y20 false,.borrow tI false] [false] [(y20,none),(tI,none)] [] λb f k=>j6P b.1 b.2.1 (λd=>k [w1 y27 d .O] [] [])
theorem jmz:SO 221 jcn:=fK (np:=0) (Za6 jgE Zas) [jeX] (oI 58 0 @jkQ oN) false Tryz.func221 λ_ _ _ _=>by kernel_rfl
theorem j8N:FS [(133,jcl),(168,j9X),(218,jeN),(219,jge),(220,jgc),(221,jcn)]:=(Za6 jmw (Za6 jhY (Za6 joR (Za6 jqb (Za6 jq9 (Za6 jmz Zas))))))
def j2Z (l:List qP) (i:Int) (r:Int×Int×qS) (b:Bool->Res):Res:=j96 r λd=>bif !d then b true else bif (r.1==1) then bif Z8e 0 i (List.length l) then jcV (sub l 0 i) r.2.1 λf=>bif f then b true else bif (r.1 != 1) then bif Z8e 0 i (List.length l) then jaL (sub l 0 i) λg=>j5J g r.2.1 λh=>b (!h) else none else b false else none else bif (r.1 != 1) then bif Z8e 0 i (List.length l) then jaL (sub l 0 i) λj=>j5J j r.2.1 λk=>b (!k) else none else b false
def j4K:Z1d Unit:=Nd 74 74 [.R 0 y20 .S,.t 2 (pB 2),.t 4 (pB 4),.I 5,.t 6 (pB 6),.R 11 y20 .S,.I 12,.I 13] [(2,y33,[.O,.O]),(4,y33,[.N,.N]),(6,y19,[.S,.S,.S,.S])] λb d g=>j2Z b.1 b.2.1 d.2.2.1.2 (λf=>g .normal [(0,v1 y20 b.1 .S),(2,pB 2),(4,pB 4),(5,vI b.2.1),(6,pB 6),(11,v1 y20 b.2.2.1 .S),(12,vI b.2.2.2.1),(13,vI b.2.2.2.2.1),(48,vB f)] [(2,⟨y33,d.1.1,d.1.2,[.O,.O]⟩),(4,⟨y33,d.2.1.1,d.2.1.2,[.N,.N]⟩),(6,⟨y19,d.2.2.1.1,d.2.2.1.2,[.S,.S,.S,.S]⟩)])
theorem jkZ:CN 0 14948 Tryz.f169 j4K:=nK j8N [] oN ([0,2,4,5,6,11,12,13,48],[2,4,6]) [] ([],[]) λ_ _ _=>by delta j2Z jeN jge jgc j9X;refine gz j96 λ_ b=>gz jcV λ_ d=>gz jaL λ_ f=>gz j5J λ_ g=> ?_;rewrite [<-b,<-d,<-f,<-g];kernel_rfl
def j30 (l:List qP) (i:Int) (d:qF×List qR) (r:Int×Int×qS) (b:Int->qD->Res):Res:=bif Z8e 0 i (List.length l) then Z87 (j6P (sub l 0 i) r.2.1 λn=>Z87 (j2O d n λg h w=>Z87 (Z87 (b h g) (Z87 (b h g) (b h g))) (Z87 (Z87 (b h g) (Z87 (b h g) (b h g))) (Z87 (Z87 (b h g) (b h g)) (Z87 (Z87 (b h g) (b h g)) (b h g))))) (j2O d n λj k y=>Z87 (Z87 (b k j) (b k j)) (Z87 (Z87 (b k j) (b k j)) (b k j)))) (j6P (sub l 0 i) r.2.1 λq=>j2O d q λm f p=>Z87 (Z87 (b f m) (b f m)) (Z87 (Z87 (b f m) (b f m)) (b f m))) else none
def j7o:Z1d Unit:=Nd 74 74 [.R 0 y20 .S,.t 2 (pB 2),.t 4 (pB 4),.I 5,.t 6 (pB 6),.R 11 y20 .S,.I 12,.I 13] [(2,y33,[.O,.O]),(4,y33,[.N,.N]),(6,y19,[.S,.S,.S,.S])] λb d f=>j30 b.1 b.2.1 d.2.1.2 d.2.2.1.2 (λcode next=>f .normal [(0,v1 y20 b.1 .S),(2,pB 2),(4,pB 4),(7,pB 7),(8,vI code),(11,v1 y20 b.2.2.1 .S),(12,vI b.2.2.2.1),(13,vI b.2.2.2.2.1)] [(2,⟨y33,d.1.1,d.1.2,[.O,.O]⟩),(4,⟨y33,d.2.1.1,d.2.1.2,[.N,.N]⟩),(7,⟨y33,false,next,[.N,.N]⟩)])
theorem jl0:CN 0 59804 Tryz.f169 j7o:=nK j8N [j4K] oN ([0,2,4,7,8,11,12,13],[2,4,7]) [] ([],[]) λ_ _ _=>by delta j30 jcn jcl;refine gz j6P λ_ b=>gz j2O λ_ d=> ?_;rewrite [<-b,<-d];kernel_rfl
def j21 (l:List qP) (f:List qP) (g:Int) (b:Int) (d:qF×List qR) (rec:Int->qD->Res) (i:qD->Res) (h:Unit->Res):Res:=bif decide (b<g) then bif inb b (List.length f) then j2Z l b (nth (0,0,0,eS,[],[],0,eS,[],[],eS,eS) f b) λt=>bif t then h () else bif ((nth (0,0,0,eS,[],[],0,eS,[],[],eS,eS) f b).1==3) then j30 l b d (nth (0,0,0,eS,[],[],0,eS,[],[],eS,eS) f b) λcode next=>bif (code != 0) then h () else rec (Z9K (b+1)) next else rec (Z9K (b+1)) d else none else i d
def j61 (l:List qP) (b:List qP) (f:Int):(Int×qD)->(Int×qD->Res)->((qD->Res)×(Unit->Res))->Res:=λv rec q=>j21 l b f v.1 v.2 (λg d=>rec (g,d)) q.1 q.2
def jby (l:List qP) (b:List qP) (f:Int) (n:Nat) (g:Int) (d:qF×List qR) (h:qD->Res) (i:Unit->Res):Res:=Z1f (j61 l b f) n (g,d) (h,i)
def jeR:Z1d Unit:=λσ k=>rdN σ 74<|rd1 σ 0 y20 .S λl=>rdT σ 2 (pB 2)<|rdT σ 4 (pB 4)<|rd1 σ 11 y20 .S λb=>rdI σ 12 λf=>rdI σ 13 λg=>rdB σ 2 y33 [.O,.O] λa j=>rdB σ 4 y33 [.N,.N] λh d=>jby l b f Z1c g d (λi=>k (.exit 0) (mkS 74 74 [(0,v1 y20 l .S),(2,pB 2),(4,pB 4)] [(2,⟨y33,a,j,[.O,.O]⟩),(4,⟨y33,h,i,[.N,.N]⟩)])) (λ_=>k .ret (mkS 74 74 [(2,pB 2),(3,vB false)] [(2,⟨y33,a,([],[]),[.O,.O]⟩)]))
def jf1:Z1d Unit:=λσ k=>jeR (σ.wk [] [(4,[.N,.N])]) k
theorem jkY:CN 0 58 Tryz.f169 jf1:=λq=>ZaJ [] [(4,[.N,.N])] (jly follows j1y j8N q [j4K,j7o] (oI 228 0 @jkZ (oI 924 1 @jl0 oN)) [0,2,4,11,12,13] [2,4] ([],[]) [(0,[0,2,4],[2,4])] ([2,3],[2]) (y:=jeR) λσ k _ h=>rN h λG h=>rV h λl D h=>rT h λE h=>rT h λF h=>rV h λb g h=>rV h λf i h=>rV h λr j h=>rB h λa z n h=>rB h λw d p h=>⟨_,ZaM (m:=74) G (sC D (sC E (sC F (sC g (sC i (sC j sN)))))) (bC n (bC p bN)),.trans (Z9u (λv:Int×qD=>(mkS 74 74 [(0,v1 y20 l .S),(2,pB 2),(4,pB 4),(11,v1 y20 b .S),(12,vI f),(13,vI v.1)] [(2,⟨y33,a,z,[.O,.O]⟩),(4,⟨y33,w,v.2,[.N,.N]⟩)])) (j61 l b f) (λ(k:Z83 Unit)=>(((λA=>k (.exit 0) (mkS 74 74 [(0,v1 y20 l .S),(2,pB 2),(4,pB 4)] [(2,⟨y33,a,z,[.O,.O]⟩),(4,⟨y33,w,A,[.N,.N]⟩)])),(λ_=>k .ret (mkS 74 74 [(2,pB 2),(3,vB false)] [(2,⟨y33,a,([],[]),[.O,.O]⟩)]))):(qD->Res)×(Unit->Res))) (λv rec k=>by delta j61 j21 j4K j7o;refine gz j2Z λ_ B=>gz j30 λ_ C=> ?_;rewrite [<-B,<-C];kernel_rfl) Z1c (r,d) k) h⟩)
def j6V (l:List qP) (b:qD->Bool->Res):Res:=jby l l (nI (List.length l)) Z1c 0 ([],[]) (λd=>b d (decide ((nI (List.length l))<=400))) (λ_=>b ([],[]) false)
def jcp:Sig Unit:=sg [.borrow y20 false] [true,false] [(y20,none)] [] λf g k=>j6V f.1 (λb d=>k [⟨y33,true,b,[.S,.S]⟩,wB d] [] [])
theorem jgD:SO 169 jcp:=fK (np:=0) j8N [j4K,j7o,jf1] (oI 58 2 @jkY oN) true Tryz.func169 λ_ _ _ _=>by kernel_rfl
def j94 (l:List qP) (b:Bool->Res):Res:=bif decide ((nI (List.length l))>400) then b false else j6V l λr d=>b d
def jeM:Sig Unit:=sg [.look y20 false] [false] [(y20,none)] [] λd f k=>j94 d.1 (λb=>k [wB b] [] [])
theorem jee:SO 103 jeM:=fK (np:=0) (Za6 jgD Zas) [] oN false Tryz.func103 λ_ _ _ _=>by kernel_rfl
def j7u (s:qS) (b:Bool->Res):Res:=bif (s.1==0) then bif sEq s.2.1 eS then bif ((nI (List.length s.2.2.1))==0) then bif ((nI (List.length s.2.2.2.1))==0) then j0g s.2.2.2.2 (0,eS,[],[],eS,eS) λr=>b r else b false else b false else b false else b false
def jfq:Sig Unit:=sg [.look y17 true] [false] [(y17,none)] [] λd f k=>j7u d.1 (λb=>k [wB b] [] [])
theorem jla:SO 278 jfq:=fK (np:=0) (Za6 jaQ Zas) [] oN false Tryz.func278 λ_ _ _ _=>by kernel_rfl
def j5a (r:Int×Int×qS) (b:Bool->Res):Res:=j0i r.1 1 4 λd=>bif !d then b false else j0i r.2.1 1 1000000 λf=>bif !f then b false else bif (r.1==2) then j3F r.2.2 λg=>b g else j7u r.2.2 λh=>b h
def j8r:Sig Unit:=sg [.look y19 true] [false] [(y19,none)] [] λd f k=>j5a d.1 (λb=>k [wB b] [] [])
theorem jit:SO 222 j8r:=fK (np:=0) (Za6 jhQ (Za6 j33 (Za6 jla Zas))) [] oN false Tryz.func222 λ_ _ _ _=>by delta j5a j26 j9S jfq;refine gz j0i λ_ b=>gz j3F λ_ d=>gz j7u λ_ f=> ?_;rewrite [<-b,<-d,<-f];kernel_rfl
def j3g (h:Int) (f:List qP) (g:Int) (d:List qS) (b:Int) (rec:qU->Int->Res) (i:qU->Res):Res:=bif decide (b<g) then bif inb b (List.length f) then bif ((nth (0,0,0,eS,[],[],0,eS,[],[],eS,eS) f b).1==2) then bif ((nth (0,0,0,eS,[],[],0,eS,[],[],eS,eS) f b).2.1==h) then j7t (nth (0,0,0,eS,[],[],0,eS,[],[],eS,eS) f b).2.2 λr=>bif lim ((List.length d)+1) then rec (d++[r]) (Z9K (b+1)) else none else rec d (Z9K (b+1)) else rec d (Z9K (b+1)) else none else i d
def j9f (g:Int) (h:List qP) (d:Int):(qU×Int)->(qU×Int->Res)->((qU->Res))->Res:=λv rec q=>j3g g h d v.1 v.2 (λb f=>rec (b,f)) q
def jfh (g:Int) (i:List qP) (d:Int) (n:Nat) (b:List qS) (f:Int) (h:qU->Res):Res:=Z1f (j9f g i d) n (b,f) (h)
def jeT:Z1d Unit:=NdL 32 32 [.I 1,.R 5 y27 .O,.R 9 y20 .S,.I 10,.I 11] [] (λb f=>(b.2.1,b.2.2.2.2.1)) (λb v=>(b.1,v.1,b.2.2.1,b.2.2.2.1,v.2,())) (λf v=>()) (λb f=>j9f b.1 b.2.2.1 b.2.2.2.1) λb f g=>((λd=>g (.exit 0) [(5,v1 y27 d .O)] []))
theorem jkA:CN 0 58 Tryz.f224 jeT:=lK (Za6 jf7 Zas) [] oN ([],[]) [(0,[5],[])] ([],[]) λ_ _ _ _ _=>by kernel_rfl
def j1N (l:List qP) (d:Int) (f:qU->Res):Res:=jfh d l (nI (List.length l)) Z1c [] 0 λb=>f b
def j6u:Sig Unit:=sg [.borrow y20 false,.borrow tI false] [false] [(y20,none),(tI,none)] [] λb f k=>j1N b.1 b.2.1 (λd=>k [w1 y27 d .O] [] [])
theorem jgp:SO 224 j6u:=fK (np:=0) (Za6 jf7 Zas) [jeT] (oI 58 0 @jkA oN) false Tryz.func224 λ_ _ _ _=>by kernel_rfl
def jg4 (place:Int) (b:qF×List qR) (d:Unit->Res):Res:=d ()
def jdb:Sig Unit:=sg [.look tI false,.look y33 true] [] [(tI,none),(y33,none)] [] λb d k=>jg4 b.1 b.2.1 (λ_=>k [] [] [])
theorem jnI:SO 171 jdb:=fK (np:=0) Zas [] oN false Tryz.func171 λ_ _ _ _=>by kernel_rfl
def jho (x:Int) (d:Int×Int×qS) (b:Bool->Res):Res:=b (x==d.2.1)
def jpz:Sig Unit:=sg [.look tI false,.rptr y19] [false] [(tI,none),(y19,none)] [] λb f k=>jho b.1 b.2.1 (λd=>k [wB d] [] [])
theorem joL:SO 226 jpz:=fK (np:=0) Zas [] oN false Tryz.func226 λ_ _ _ _=>by kernel_rfl
def j0J (s:List Int) (b:Int×Int×qS) (d:(List Int)->qP->Res):Res:=bif lim (List.length s) then dgE (λe k=>jho e b k) s [] (λr=>d r b) else none
def j1g:Sig Unit:=⟨[.eat y21 false,.clos 226 [y19]],[false],λvals ext k=>ao vals y21 [.O] λs vals=>nl vals<|ab ext y19 [.S,.S,.S,.S] λa0 f ext=>nl ext<|j0J s f (λd b=>k [w1 y21 d .O] [] [⟨y19,a0,b,[.S,.S,.S,.S]⟩])⟩
theorem j98:Z17 Tryz.prog 225 j1g:=gS (jtL (U:=0) (T:=220) (e:=tI) (ag:=false) (τ:=y19) (tg:=[.S,.S,.S,.S]) (fl:=[]) (S:=56) (E:=3) (I:=3) (B:=4) follows j1y (by kernel_rfl) Tryz.underlying56 (by kernel_rfl) (by kernel_rfl) (by kernel_rfl) (by kernel_rfl) Tryz.isAgg220 Tryz.sizeOf220 (by kernel_rfl) (by kernel_rfl) (by kernel_rfl) Tryz.func280 (by kernel_rfl) (by kernel_rfl) (by kernel_rfl) (by kernel_rfl) joL (by kernel_rfl) Tryz.func225 (by kernel_rfl) (by kernel_rfl) (by kernel_rfl) (by kernel_rfl)) (by kernel_rfl)
theorem j9u:FS [(138,j6s),(171,jdb),(222,j8r),(223,j1F),(224,j6u),(225,j1g)]:=(Za6 jgn (Za6 jnI (Za6 jit (Za6 jaD (Za6 jgp (Za6 j98 Zas))))))
def j6j (l:List qP) (i:Int) (d:qF×List qR) (r:Int×Int×qS) (b:Int->qD->Res):Res:=bif Z8e 0 i (List.length l) then Z87 (j1N (sub l 0 i) r.2.1 λn=>Z87 (j0R d n λg h w=>Z87 (Z87 (b h g) (Z87 (b h g) (b h g))) (Z87 (Z87 (b h g) (Z87 (b h g) (b h g))) (Z87 (Z87 (b h g) (b h g)) (Z87 (Z87 (b h g) (b h g)) (b h g))))) (j0R d n λj k y=>Z87 (Z87 (b k j) (b k j)) (Z87 (Z87 (b k j) (b k j)) (b k j)))) (j1N (sub l 0 i) r.2.1 λq=>j0R d q λm f p=>Z87 (Z87 (b f m) (b f m)) (Z87 (Z87 (b f m) (b f m)) (b f m))) else none
def j4Z:Z1d Unit:=Nd 84 84 [.R 1 y20 .S,.t 2 (.clos 171 []),.t 3 (pB 3),.t 6 (pB 6),.R 8 y21 .O,.R 9 y21 .O,.I 10,.t 11 (pB 11),.R 17 y20 .S,.I 18,.I 19] [(3,y33,[.S,.S]),(6,y33,[.O,.O]),(11,y19,[.S,.S,.S,.S])] λb d f=>j6j b.1 b.2.2.2.1 d.1.2 d.2.2.1.2 (λcode next=>f .normal [(1,v1 y20 b.1 .S),(2,.clos 171 []),(3,pB 3),(6,pB 6),(8,v1 y21 b.2.1 .O),(9,v1 y21 b.2.2.1 .O),(10,vI b.2.2.2.1),(11,pB 11),(12,pB 12),(13,vI code),(17,v1 y20 b.2.2.2.2.1 .S),(18,vI b.2.2.2.2.2.1),(19,vI b.2.2.2.2.2.2.1)] [(3,⟨y33,d.1.1,d.1.2,[.S,.S]⟩),(6,⟨y33,d.2.1.1,d.2.1.2,[.O,.O]⟩),(11,⟨y19,d.2.2.1.1,d.2.2.1.2,[.S,.S,.S,.S]⟩),(12,⟨y33,false,next,[.O,.O]⟩)])
theorem joh:CN 0 478452 Tryz.f170 j4Z:=nK j9u [] oN ([1,2,3,6,8,9,10,11,12,13,17,18,19],[3,6,11,12]) [] ([],[]) λ_ _ _=>by delta j6j j6u j6s;refine gz j1N λ_ b=>gz j0R λ_ d=> ?_;rewrite [<-b,<-d];kernel_rfl
def j8m (l:List qP) (i:Int) (b:Bool) (d:qF×List qR) (r:Int×Int×qS) (f:qD->Res) (g:Unit->Res):Res:=bif b then j6j l i d r λcode next=>bif (code != 0) then g () else jg4 (Z9K (i+1)) d λ_=>f next else f d
def j7D:Z1d Unit:=λσ k=>rdN σ 84<|rd1 σ 1 y20 .S λl=>rdT σ 2 (.clos 171 [])<|rdT σ 3 (pB 3)<|rdT σ 6 (pB 6)<|rd1 σ 8 y21 .O λb=>rd1 σ 9 y21 .O λf=>rdI σ 10 λi=>rdT σ 11 (pB 11)<|rd1 σ 17 y20 .S λg=>rdI σ 18 λh=>rdI σ 19 λj=>rdO σ 54 λm=>rdB σ 3 y33 [.S,.S] λa d=>rdB σ 6 y33 [.O,.O] λn w=>rdB σ 11 y19 [.S,.S,.S,.S] λp r=>j8m l i m d r (λq=>k .normal (mkS 84 84 [(1,v1 y20 l .S),(2,.clos 171 []),(3,pB 3),(6,pB 6),(8,v1 y21 b .O),(9,v1 y21 f .O),(11,pB 11),(17,v1 y20 g .S),(18,vI h),(19,vI j)] [(3,⟨y33,a,q,[.S,.S]⟩),(6,⟨y33,n,w,[.O,.O]⟩),(11,⟨y19,p,r,[.S,.S,.S,.S]⟩)])) (λ_=>k .ret (mkS 84 84 [(6,pB 6),(7,vB false)] [(6,⟨y33,n,([],[]),[.O,.O]⟩)]))
theorem joi:CN 0 119613 Tryz.f170 j7D:=λz=>jlA follows j1y j9u z [j4Z] (oI 4 0 @joh oN) ([1,2,3,6,8,9,11,17,18,19],[3,6,11]) [] ([6,7],[6]) [(0,[],[(3,[.S,.S])])] λσ k _ h=>rN h λK h=>rV h λl E h=>rT h λF h=>rT h λG h=>rT h λH h=>rV h λA I h=>rV h λB J h=>rV h λi f h=>rT h λg h=>rV h λL j h=>rV h λM n h=>rV h λP p h=>rV h λQ q h=>rB h λa d w h=>rB h λR U y h=>rB h λT r b h=>⟨_,ZaM (m:=84) K (sC E (sC F (sC G (sC H (sC I (sC J (sC f (sC g (sC j (sC n (sC p (sC q sN)))))))))))) (bC w (bC y (bC b bN))),.trans (by delta j8m j4Z jdb;refine gz j6j λ_ C=>gz jg4 λ_ D=> ?_;rewrite [<-C,<-D];kernel_rfl) h⟩
def j3P (l:List qP) (g:List qP) (j:Int) (f:List Int) (h:List Int) (b:Int) (d:qF×List qR) (rec:(List Int)->(List Int)->Int->qD->Res) (m:qD->Res) (i:Unit->Res):Res:=bif decide (b<j) then bif inb b (List.length g) then j5a (nth (0,0,0,eS,[],[],0,eS,[],[],eS,eS) g b) λr=>bif !r then i () else bif ((nth (0,0,0,eS,[],[],0,eS,[],[],eS,eS) g b).1==1) then j0q h (nth (0,0,0,eS,[],[],0,eS,[],[],eS,eS) g b).2.1 λn=>bif n then i () else bif lim ((List.length h)+1) then bif lim ((List.length f)+1) then rec (f++[(nth (0,0,0,eS,[],[],0,eS,[],[],eS,eS) g b).2.1]) (h++[(nth (0,0,0,eS,[],[],0,eS,[],[],eS,eS) g b).2.1]) (Z9K (b+1)) d else none else none else j0q f (nth (0,0,0,eS,[],[],0,eS,[],[],eS,eS) g b).2.1 λp=>bif !p then i () else j8m l b ((nth (0,0,0,eS,[],[],0,eS,[],[],eS,eS) g b).1==3) d (nth (0,0,0,eS,[],[],0,eS,[],[],eS,eS) g b) (λk=>bif ((nth (0,0,0,eS,[],[],0,eS,[],[],eS,eS) g b).1 != 2) then j0J f (nth (0,0,0,eS,[],[],0,eS,[],[],eS,eS) g b) λq w=>rec q h (Z9K (b+1)) k else rec f h (Z9K (b+1)) k) (λ_=>i ()) else none else m d
def j8T (l:List qP) (g:List qP) (h:Int):((List Int)×(List Int)×Int×qD)->((List Int)×(List Int)×Int×qD->Res)->((qD->Res)×(Unit->Res))->Res:=λv rec q=>j3P l g h v.1 v.2.1 v.2.2.1 v.2.2.2 (λb f i d=>rec (b,f,i,d)) q.1 q.2
def jiP (l:List qP) (g:List qP) (h:Int) (n:Nat) (b:List Int) (f:List Int) (i:Int) (d:qF×List qR) (j:qD->Res) (k:Unit->Res):Res:=Z1f (j8T l g h) n (b,f,i,d) (j,k)
def jdv:Z1d Unit:=NdL 84 84 [.R 1 y20 .S,.t 2 (.clos 171 []),.t 3 (pB 3),.t 6 (pB 6),.R 8 y21 .O,.R 9 y21 .O,.R 17 y20 .S,.I 18,.I 19] [(3,y33,[.S,.S]),(6,y33,[.O,.O])] (λb d=>(b.2.1,b.2.2.1,b.2.2.2.2.2.1,d.1.2)) (λb v=>(b.1,v.1,v.2.1,b.2.2.2.1,b.2.2.2.2.1,v.2.2.1,())) (λd v=>((d.1.1,v.2.2.2),(d.2.1.1,d.2.1.2),())) (λb d=>j8T b.1 b.2.2.2.1 b.2.2.2.2.1) λb d f=>((λg=>f (.exit 0) [(3,pB 3),(6,pB 6)] [(3,⟨y33,d.1.1,g,[.S,.S]⟩),(6,⟨y33,d.2.1.1,d.2.1.2,[.O,.O]⟩)]),(λ_=>f .ret [(6,pB 6),(7,vB false)] [(6,⟨y33,d.2.1.1,([],[]),[.O,.O]⟩)]))
theorem jog:CN 0 58 Tryz.f170 jdv:=lK j9u [j4Z,j7D] (oI 1853 1 @joi oN) ([],[]) [(0,[3,6],[3,6])] ([6,7],[6]) λ_ _ _ _ _=>by delta j8T j3P j8r j1F j7D j1g;refine gz j5a λ_ b=>gz j0q λ_ d=>gz j8m λ_ f=>gz j0J λ_ g=> ?_;rewrite [<-b,<-d,<-f,<-g];kernel_rfl
def jep (l:List qP) (d:qF×List qR) (b:Bool->qD->Res):Res:=jiP l l (nI (List.length l)) Z1c [] [] 0 d (λf=>b true f) (λ_=>b false ([],[]))
def jid:Z1d Unit:=λσ k=>rdN σ 84<|rd1 σ 1 y20 .S λl=>rdT σ 2 (.clos 171 [])<|rdT σ 3 (pB 3)<|rdT σ 6 (pB 6)<|rdB σ 3 y33 [.S,.S] λa d=>rdB σ 6 y33 [.O,.O] λf h=>jep l d (λg b=>k .ret (mkS 84 84 [(6,pB 6),(7,vB g)] [(6,⟨y33,f,b,[.S,.S]⟩)]))
theorem joj:CN 0 3 Tryz.f170 jid:=λg=>jlA follows j1y j9u g [j4Z,j7D,jdv] (oI 26 2 @jog oN) ([],[]) [] ([6,7],[6]) [(1,[],[(6,[.S,.S])])] λσ k _ h=>rN h λq h=>rV h λl i h=>rT h λj h=>rT h λn h=>rT h λp h=>rB h λa d b h=>rB h λr w f h=>⟨_,ZaM (m:=84) q (sC i (sC j (sC n (sC p sN)))) (bC b (bC f bN)),.trans (by kernel_rfl) h⟩
def jfj (d:qF×List qR) (l:List qP) (b:qD->Bool->Res):Res:=jep l d λt f=>b f t
def jqr:Sig Unit:=sg [.borrow y33 true,.borrow y20 false,.clos 171 []] [true,false] [(y33,none),(y20,none)] [] λb g k=>jfj b.1 b.2.1 (λd f=>k [⟨y33,true,d,[.S,.S]⟩,wB f] [] [])
theorem jq6:SO 170 jqr:=fK (np:=0) j9u [j4Z,j7D,jdv,jid] (oI 3 3 @joj oN) false Tryz.func170 λ_ _ _ _=>by kernel_rfl
def j73 (l:List qP) (b:Bool->Res):Res:=bif decide ((nI (List.length l))>400) then b false else jfj ([],[]) l λr d=>b d
def jbl:Sig Unit:=sg [.look y20 false] [false] [(y20,none)] [] λd f k=>j73 d.1 (λb=>k [wB b] [] [])
theorem je5:SO 104 jbl:=fK (np:=0) (Za6 jq6 Zas) [] oN false Tryz.func104 λ_ _ _ _=>by kernel_rfl
theorem jjP:FS [(103,jeM),(169,jcp)]:=(Za6 jee (Za6 jgD Zas))
def j8z (l:List qP) (d:Int) (b:Bool->Res):Res:=j94 l λr=>bif !r then b true else bif decide (d<0) then b true else b (decide (d>(nI (List.length l))))
def jdw:Z1d Unit:=Nd 26 26 [.R 0 y20 .S,.I 1,.t 4 (pB 4)] [(4,y33,[.O,.O])] λb f g=>j8z b.1 b.2.1 (λd=>g .normal [(0,v1 y20 b.1 .S),(1,vI b.2.1),(4,pB 4),(18,vB d)] [(4,⟨y33,f.1.1,f.1.2,[.O,.O]⟩)])
theorem jok:CN 0 12 Tryz.f112 jdw:=nK jjP [] oN ([0,1,4,18],[4]) [] ([],[]) λ_ _ _=>by kernel_rfl
def jaK (l:List qP) (b:Int) (d:qD->Bool->Res):Res:=j8z l b λt=>bif t then d ([],[]) false else bif Z8e 0 b (List.length l) then j6V (sub l 0 b) λr f=>d r f else none
def jk2:Sig Unit:=sg [.borrow y20 false,.borrow tI false] [true,false] [(y20,none),(tI,none)] [] λb g k=>jaK b.1 b.2.1 (λd f=>k [⟨y33,true,d,[.S,.S]⟩,wB f] [] [])
theorem jq7:SO 112 jk2:=fK (np:=0) jjP [jdw] (oI 12 0 @jok oN) true Tryz.func112 λ_ _ _ _=>by delta jaK jdw jcp;refine gz j8z λ_ b=>gz j6V λ_ d=> ?_;rewrite [<-b,<-d];kernel_rfl
end
end Go.PI.G
