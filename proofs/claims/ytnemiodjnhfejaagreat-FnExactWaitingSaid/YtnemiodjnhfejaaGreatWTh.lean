/-
  Program's code interpreted over typed values; printed texts; plain laws. No conditions.
-/
import Derived.Test.YtnemiodjnhfejaaGreatWTd
import Derived.Test.YtnemiodjnhfejaaGreatWTe
import Derived.Test.YtnemiodjnhfejaaGreatWTf
import Derived.Test.YtnemiodjnhfejaaGreatWTg
set_option linter.unusedVariables false
set_option maxRecDepth 100000
namespace Go.PI.G
noncomputable section
open Go Go.PI Go.Proofs
open Go.Code (pl pr)
def j36 (d:List qV) (h:Int) (b:Int) (rec:Int->Res) (f:Unit->Res) (g:Unit->Res):Res:=bif decide (b<h) then bif inb b (List.length d) then j1g (nth (0,0,eS) d b) λr=>bif !r then g () else rec (Z9K (b+1)) else none else f ()
def j8K (b:List qV) (d:Int):Int->(Int->Res)->((Unit->Res)×(Unit->Res))->Res:=λv rec q=>j36 b d v (λf=>rec (f)) q.1 q.2
def jem (f:List qV) (g:Int) (n:Nat) (h:Int) (b:Unit->Res) (d:Unit->Res):Res:=Z1f (j8K f g) n (h) (b,d)
def jdP:Z1d Unit:=NdL 23 23 [.R 0 y3 .S,.R 5 y3 .S,.I 6,.I 7] [] (λb d=>(b.2.2.2.1)) (λb v=>(b.1,b.2.1,b.2.2.1,v,())) (λd v=>()) (λb d=>j8K b.2.1 b.2.2.1) λb d f=>((λ_=>f (.exit 0) [(0,v1 y3 b.1 .S)] []),(λ_=>f .ret [(2,vB false)] []))
theorem jjF:CN 0 26 Tryz.f208 jdP:=lK (Za6 j7G Zas) [] oN ([],[]) [(0,[0],[])] ([2],[]) λ_ _ _ _ _=>by kernel_rfl
def j2r (l:List qV) (b:Bool->Res):Res:=jem l (nI (List.length l)) Z1c 0 (λ_=>bif decide ((nI (List.length l))>=1) then b (decide ((nI (List.length l))<=8)) else b false) (λ_=>b false)
def jby:Sig Unit:=sg [.look y3 false] [false] [(y3,none)] [] λd f k=>j2r d.1 (λb=>k [wB b] [] [])
theorem jl5:SO 208 jby:=fK (np:=0) (Za6 j7G Zas) [jdP] (oI 26 0 @jjF oN) false Tryz.func208 λ_ _ _ _=>by kernel_rfl
def j1h (d:qG) (b:Bool->Res):Res:=bif (d.1==0) then bif sEq d.2.1 eS then bif ((nI (List.length d.2.2.1))==0) then bif ((nI (List.length d.2.2.2.1))==0) then bif sEq d.2.2.2.2.1 eS then b (sEq d.2.2.2.2.2 eS) else b false else b false else b false else b false else b false
def jaA:Sig Unit:=sg [.look y13 true] [false] [(y13,none)] [] λd f k=>j1h d.1 (λb=>k [wB b] [] [])
theorem je0:SO 209 jaA:=fK (np:=0) Zas [] oN false Tryz.func209 λ_ _ _ _=>by kernel_rfl
theorem jgt:FS [(154,j2I),(208,jby),(209,jaA),(210,j41)]:=(Za6 j96 (Za6 jl5 (Za6 je0 (Za6 jd4 Zas))))
def j6g (d:Bool) (f:Bool) (s:qS) (b:Bool->Res):Res:=bif (s.1==1) then bif d then j2r s.2.2.2.1 λr=>bif r then j1h s.2.2.2.2 λg=>b g else b false else b false else bif (s.1==2) then j2r s.2.2.1 λh=>bif h then j2r s.2.2.2.1 λi=>bif i then j1h s.2.2.2.2 λj=>b j else b false else b false else bif (s.1==3) then j2r s.2.2.1 λk=>bif k then bif f then j1h s.2.2.2.2 λl=>b l else b false else b false else bif (s.1==4) then bif d then bif f then j1h s.2.2.2.2 λm=>b m else b false else b false else bif (s.1==5) then bif d then bif f then j2b s.2.2.2.2 λn=>bif n then b (sEq s.2.2.2.2.2.1 s.2.1) else b false else b false else b false else b false
def jaZ:Z1d Unit:=Nd 93 93 [.t 1 (pB 1),.B 3,.B 4] [(1,y17,[.S,.S,.S,.S])] λb g d=>j6g b.1 b.2.1 g.1.2 (λf=>d .ret [(2,vB f)] [])
theorem jkw:CN 0 31 Tryz.f155 jaZ:=nK jgt [] oN ([],[]) [] ([2],[]) λ_ _ _=>by delta j6g jby jaA j41;refine gz j2r λ_ b=>gz j1h λ_ d=>gz j2b λ_ f=> ?_;rewrite [<-b,<-d,<-f];kernel_rfl
def j3h (s:qS) (b:Bool->Res):Res:=j0D s.2.1 λr=>bif !r then b false else j6g ((nI (List.length s.2.2.1))==0) ((nI (List.length s.2.2.2.1))==0) s λt=>b t
def j6Z:Sig Unit:=sg [.look y17 true] [false] [(y17,none)] [] λd f k=>j3h d.1 (λb=>k [wB b] [] [])
theorem jgC:SO 155 j6Z:=fK (np:=0) jgt [jaZ] (oI 31 0 @jkw oN) false Tryz.func155 λ_ _ _ _=>by delta j3h j2I jaZ;refine gz j0D λ_ b=>gz j6g λ_ d=> ?_;rewrite [<-b,<-d];kernel_rfl
theorem jiy:FS [(172,j1e),(242,j7V)]:=(Za6 j4v (Za6 jhm Zas))
def j6e (f:List qT) (g:Int) (d:qF×List qR) (b:Int) (rec:Int->Res) (h:Unit->Res) (i:Unit->Res):Res:=bif decide (b<g) then bif inb b (List.length f) then bif inb b (List.length d.2) then j0u (nth (eS,[],[]) f b) (nth [] d.2 b) λr=>bif !r then i () else rec (Z9K (b+1)) else none else none else h ()
def j8q (b:List qT) (f:Int) (d:qF×List qR):Int->(Int->Res)->((Unit->Res)×(Unit->Res))->Res:=λv rec q=>j6e b f d v (λg=>rec (g)) q.1 q.2
def jdG (b:List qT) (f:Int) (d:qF×List qR) (n:Nat) (g:Int) (h:Unit->Res) (i:Unit->Res):Res:=Z1f (j8q b f d) n (g) (h,i)
def jcr:Z1d Unit:=NdL 38 38 [.t 1 (pB 1),.R 21 y30 .S,.I 22,.I 23] [(1,y33,[.S,.S])] (λb d=>(b.2.2.1)) (λb v=>(b.1,b.2.1,v,())) (λd v=>((d.1.1,d.1.2),())) (λb d=>j8q b.1 b.2.1 d.1.2) λb d f=>((λ_=>f (.exit 0) [] []),(λ_=>f .ret [(2,vB false)] []))
theorem jmL:CN 0 58 Tryz.f186 jcr:=lK jiy [] oN ([],[]) [(0,[],[])] ([2],[]) λ_ _ _ _ _=>by kernel_rfl
def j6t (d:qF×List qR) (b:Bool->Res):Res:=j6G d.1 λr=>bif !r then b false else bif ((nI (List.length d.2)) != (nI (List.length d.1))) then b false else jdG d.1 (nI (List.length d.1)) d Z1c 0 (λ_=>b true) (λ_=>b false)
def j90:Sig Unit:=sg [.look y33 true] [false] [(y33,none)] [] λd f k=>j6t d.1 (λb=>k [wB b] [] [])
theorem jiA:SO 186 j90:=fK (np:=0) jiy [jcr] (oI 58 0 @jmL oN) false Tryz.func186 λ_ _ _ _=>by delta j6t j7V jcr jdG;refine gz j6G λ_ b=>gz j8q λ_ d=> ?_;rewrite [<-b,<-d];kernel_rfl
theorem jf2:FS [(243,j67),(244,j8n)]:=(Za6 jfh (Za6 jfi Zas))
def j35 (f:List qR) (g:Int) (d:Int) (b:qF×List qR) (rec:Int->qD->Res) (h:qD->Res):Res:=bif decide (d<g) then bif inb d (List.length f) then j6k (nth [] f d) λr=>bif lim ((List.length b.2)+1) then rec (Z9K (d+1)) (b.1,(b.2++[r])) else none else none else h b
def j5w (d:List qR) (f:Int):(Int×qD)->(Int×qD->Res)->((qD->Res))->Res:=λv rec q=>j35 d f v.1 v.2 (λg b=>rec (g,b)) q
def jaK (d:List qR) (f:Int) (n:Nat) (g:Int) (b:qF×List qR) (h:qD->Res):Res:=Z1f (j5w d f) n (g,b) (h)
def j9R:Z1d Unit:=NdL 28 28 [.t 2 (pB 2),.t 3 (pB 3),.R 11 y32 .S,.I 12,.I 13] [(2,y33,[.O,.O]),(3,y33,[.O,.O])] (λd b=>(d.2.2.1,b.2.1.2)) (λd v=>(d.1,d.2.1,v.1,())) (λb v=>((b.1.1,b.1.2),(b.2.1.1,v.2),())) (λd b=>j5w d.1 d.2.1) λd b g=>((λf=>g (.exit 0) [(2,pB 2),(3,pB 3)] [(2,⟨y33,b.1.1,b.1.2,[.O,.O]⟩),(3,⟨y33,b.2.1.1,f,[.O,.O]⟩)]))
theorem jjE:CN 0 58 Tryz.f187 j9R:=lK jf2 [] oN ([],[]) [(0,[2,3],[2,3])] ([],[]) λ_ _ _ _ _=>by kernel_rfl
def j1F (d:qF×List qR) (f:qD->Res):Res:=j47 d.1 λr=>jaK d.2 (nI (List.length d.2)) Z1c 0 (r,[]) λb=>f b
def j68:Sig Unit:=sg [.borrow y33 true] [true] [(y33,none)] [] λd f k=>j1F d.1 (λb=>k [⟨y33,true,b,[.O,.O]⟩] [] [])
theorem jfk:SO 187 j68:=fK (np:=0) jf2 [j9R] (oI 58 0 @jjE oN) false Tryz.func187 λ_ _ _ _=>by delta j1F j67 j9R jaK;refine gz j47 λ_ b=>gz j5w λ_ d=> ?_;rewrite [<-b,<-d];kernel_rfl
def j1d (t:qB×qE×qL) (l:List qW) (s:qS) (b:qR->Int->Res):Res:=bif (s.1==1) then j7e t l s.2.2.2.1 λr d=>b r d else bif (s.1==2) then j7f t l s.2.2.1 s.2.2.2.1 λf g=>b f g else bif (s.1==3) then j7d t l s.2.2.1 λh i=>b h i else bif (s.1==5) then j6f t l s.2.2.2.2 λj k=>b j k else b [] 0
def j69:Sig Unit:=sg [.borrow y29 true,.borrow y31 false,.borrow y17 true] [false,false] [(y29,none),(y31,none),(y17,none)] [] λb g k=>j1d b.1 b.2.1 b.2.2.1 (λd f=>k [w1 y31 d .O,wI f] [] [])
theorem jfl:SO 246 j69:=fK (np:=0) (Za6 jms (Za6 jmt (Za6 jmr (Za6 jl2 Zas)))) [] oN false Tryz.func246 λ_ _ _ _=>by delta j1d jgR jgS jgQ jfC;refine gz j7e λ_ b=>gz j7f λ_ d=>gz j7d λ_ f=>gz j6f λ_ g=> ?_;rewrite [<-b,<-d,<-f,<-g];kernel_rfl
theorem j6v:FS [(113,j42),(244,j8n),(246,j69),(287,j4X)]:=(Za6 jd7 (Za6 jfi (Za6 jfl (Za6 jdZ Zas))))
def j34 (b:Int) (s:qS) (t:qB×qE×qL) (d:Bool->Res):Res:=bif decide (b>=0) then d (sEq t.1 s.2.1) else d false
def j2t:Z1d Unit:=Nd 86 86 [.t 2 (pB 2),.t 3 (pB 3),.t 4 (pB 4),.t 8 (pB 8),.t 10 (pB 10),.t 11 (pB 11),.I 12,.R 29 y30 .S,.I 30,.I 31] [(2,y33,[.S,.S]),(3,y17,[.S,.S,.S,.S]),(4,y33,[.O,.O]),(8,y33,[.S,.O]),(10,y29,[.S,.S]),(11,y31,[.O])] λd b g=>j34 d.1 b.2.1.2 b.2.2.2.2.1.2 (λf=>g .normal [(2,pB 2),(3,pB 3),(4,pB 4),(8,pB 8),(11,pB 11),(12,vI d.1),(29,v1 y30 d.2.1 .S),(30,vI d.2.2.1),(31,vI d.2.2.2.1),(49,vB f)] [(2,⟨y33,b.1.1,b.1.2,[.S,.S]⟩),(3,⟨y17,b.2.1.1,b.2.1.2,[.S,.S,.S,.S]⟩),(4,⟨y33,b.2.2.1.1,b.2.2.1.2,[.O,.O]⟩),(8,⟨y33,b.2.2.2.1.1,b.2.2.2.1.2,[.S,.O]⟩),(11,⟨y31,b.2.2.2.2.2.1.1,b.2.2.2.2.2.1.2,[.O]⟩)])
theorem jhK:CN 0 256412 Tryz.f245 j2t:=nK j6v [] oN ([2,3,4,8,11,12,29,30,31,49],[2,3,4,8,11]) [] ([],[]) λ_ _ _=>by kernel_rfl
def j1M (b:Int) (g:Bool) (d:qF×List qR) (s:qS) (x:List qW) (f:qR->Res):Res:=bif g then bif inb b (List.length d.1) then bif inb b (List.length d.2) then j1d (nth (eS,[],[]) d.1 b) (nth [] d.2 b) s λr i=>Z87 (f r) (f r) else none else none else bif decide (b>=0) then bif inb b (List.length d.2) then j6k (nth [] d.2 b) λh=>f h else none else f x
def j5a:Z1d Unit:=Nd 86 86 [.t 2 (pB 2),.t 3 (pB 3),.t 4 (pB 4),.t 8 (pB 8),.t 11 (pB 11),.I 12,.R 29 y30 .S,.I 30,.I 31,.B 49] [(2,y33,[.S,.S]),(3,y17,[.S,.S,.S,.S]),(4,y33,[.O,.O]),(8,y33,[.S,.O]),(11,y31,[.O])] λd b f=>j1M d.1 d.2.2.2.2.1 b.1.2 b.2.1.2 b.2.2.2.2.1.2 (λg=>f .normal [(2,pB 2),(3,pB 3),(4,pB 4),(8,pB 8),(11,pB 11),(29,v1 y30 d.2.1 .S),(30,vI d.2.2.1),(31,vI d.2.2.2.1)] [(2,⟨y33,b.1.1,b.1.2,[.S,.S]⟩),(3,⟨y17,b.2.1.1,b.2.1.2,[.S,.S,.S,.S]⟩),(4,⟨y33,b.2.2.1.1,b.2.2.1.2,[.O,.O]⟩),(8,⟨y33,b.2.2.2.1.1,b.2.2.2.1.2,[.S,.O]⟩),(11,⟨y31,b.2.2.2.2.1.1,g,[.O]⟩)])
theorem jhL:CN 0 256413 Tryz.f245 j5a:=nK j6v [j2t] oN ([2,3,4,8,11,29,30,31],[2,3,4,8,11]) [] ([],[]) λ_ _ _=>by delta j1M j69 j8n;refine gz j1d λ_ b=>gz j6k λ_ d=> ?_;rewrite [<-b,<-d];kernel_rfl
def j16 (g:List qT) (h:Int) (d:qF×List qR) (s:qS) (b:Int) (f:qF×List qR) (rec:Int->qD->Res) (i:qD->Res):Res:=bif decide (b<h) then bif inb b (List.length g) then j2d d.1 (nth (eS,[],[]) g b).1 λr=>j34 r s (nth (eS,[],[]) g b) λt=>j1M r t d s [] λx=>bif lim ((List.length f.2)+1) then rec (Z9K (b+1)) (f.1,(f.2++[x])) else none else none else i f
def j21 (f:List qT) (g:Int) (d:qF×List qR) (s:qS):(Int×qD)->(Int×qD->Res)->((qD->Res))->Res:=λv rec q=>j16 f g d s v.1 v.2 (λh b=>rec (h,b)) q
def j5v (f:List qT) (g:Int) (d:qF×List qR) (s:qS) (n:Nat) (h:Int) (b:qF×List qR) (i:qD->Res):Res:=Z1f (j21 f g d s) n (h,b) (i)
def j88:Z1d Unit:=NdL 86 86 [.t 2 (pB 2),.t 3 (pB 3),.t 4 (pB 4),.t 8 (pB 8),.R 29 y30 .S,.I 30,.I 31] [(2,y33,[.S,.S]),(3,y17,[.S,.S,.S,.S]),(4,y33,[.O,.O]),(8,y33,[.S,.O])] (λd b=>(d.2.2.1,b.2.2.2.1.2)) (λd v=>(d.1,d.2.1,v.1,())) (λb v=>((b.1.1,b.1.2),(b.2.1.1,b.2.1.2),(b.2.2.1.1,b.2.2.1.2),(b.2.2.2.1.1,v.2),())) (λd b=>j21 d.1 d.2.1 b.1.2 b.2.1.2) λd b g=>((λf=>g (.exit 0) [(4,pB 4),(8,pB 8)] [(4,⟨y33,b.2.2.1.1,b.2.2.1.2,[.O,.O]⟩),(8,⟨y33,b.2.2.2.1.1,f,[.S,.O]⟩)]))
theorem jhJ:CN 0 250 Tryz.f245 j88:=lK j6v [j2t,j5a] (oI 924 0 @jhK (oI 925 1 @jhL oN)) ([],[]) [(0,[4,8],[4,8])] ([],[]) λ_ _ _ _ _=>by delta j21 j16 j42 j2t j5a;refine gz j2d λ_ b=>gz j34 λ_ d=>gz j1M λ_ f=> ?_;rewrite [<-b,<-d,<-f];kernel_rfl
def j3r (d:qF×List qR) (s:qS) (f:qD->Int->Res):Res:=j1S d.1 s.2.2.2.2 λr g=>bif (g != 0) then f ([],[]) (Z9K (10+g)) else j5v r (nI (List.length r)) d s Z1c 0 (r,[]) λb=>f b 0
def j9u:Sig Unit:=sg [.borrow y33 true,.borrow y17 true] [true,false] [(y33,none),(y17,none)] [] λb g k=>j3r b.1 b.2.1 (λd f=>k [⟨y33,true,d,[.S,.S]⟩,wI f] [] [])
theorem jj0:SO 245 j9u:=fK (np:=0) j6v [j2t,j5a,j88] (oI 250 2 @jhJ oN) true Tryz.func245 λ_ _ _ _=>by delta j3r j4X j88 j5v;refine gz j1S λ_ b=>gz j21 λ_ d=> ?_;rewrite [<-b,<-d];kernel_rfl
theorem jiz:FS [(113,j42),(155,j6Z),(186,j90),(187,j68),(245,j9u),(246,j69)]:=(Za6 jd7 (Za6 jgC (Za6 jiA (Za6 jfk (Za6 jj0 (Za6 jfl Zas))))))
def j81 (b:Int) (s:qS) (d:Unit->Res) (f:Unit->Res):Res:=bif decide (b<0) then bif (s.1 != 5) then f () else bif (s.2.2.2.2.1 != 1) then f () else d () else d ()
def jcs:Z1d Unit:=Nd 77 77 [.t 2 (pB 2),.t 3 (pB 3),.t 4 (pB 4),.I 6] [(2,y33,[.S,.S]),(3,y17,[.S,.S,.S,.S]),(4,y33,[.O,.O])] λf b d=>j81 f.1 b.2.1.2 (λ_=>d .normal [(2,pB 2),(3,pB 3),(4,pB 4),(6,vI f.1)] [(2,⟨y33,b.1.1,b.1.2,[.S,.S]⟩),(3,⟨y17,b.2.1.1,b.2.1.2,[.S,.S,.S,.S]⟩),(4,⟨y33,b.2.2.1.1,b.2.2.1.2,[.O,.O]⟩)]) (λ_=>d .ret [(4,pB 4),(5,vI 4)] [(4,⟨y33,b.2.2.1.1,([],[]),[.O,.O]⟩)])
theorem jmM:CN 0 30 Tryz.f188 jcs:=nK jiz [] oN ([2,3,4,6],[2,3,4]) [] ([4,5],[4]) λ_ _ _=>by kernel_rfl
def j80 (d:qF×List qR) (s:qS) (f:qD->Int->Res):Res:=j6t d λr=>bif !r then f ([],[]) 1 else j3h s λi=>bif !i then f ([],[]) 1 else j2d d.1 s.2.1 λb=>j81 b s (λ_=>bif (s.1==5) then j3r d s λj k=>f j k else bif inb b (List.length d.1) then bif inb b (List.length d.2) then j1d (nth (eS,[],[]) d.1 b) (nth [] d.2 b) s λl h=>bif (h != 0) then f ([],[]) (Z9K (10+h)) else j1F d λg=>bif inb b (List.length g.2) then f (g.1,upd g.2 b l) 0 else none else none else none) (λ_=>f ([],[]) 4)
def jiM:Sig Unit:=sg [.borrow y33 true,.borrow y17 true] [true,false] [(y33,none),(y17,none)] [] λb g k=>j80 b.1 b.2.1 (λd f=>k [⟨y33,true,d,[.S,.S]⟩,wI f] [] [])
theorem jom:SO 188 jiM:=fK (np:=0) jiz [jcs] (oI 30 0 @jmM oN) true Tryz.func188 λ_ _ _ _=>by delta j80 j90 j6Z j42 jcs j9u j69 j68;refine gz j6t λ_ b=>gz j3h λ_ d=>gz j2d λ_ f=>gz j81 λ_ g=>gz j3r λ_ h=>gz j1d λ_ i=>gz j1F λ_ j=> ?_;rewrite [<-b,<-d,<-f,<-g,<-h,<-i,<-j];kernel_rfl
theorem jf1:FS [(186,j90),(187,j68),(188,jiM)]:=(Za6 jiA (Za6 jfk (Za6 jom Zas)))
def j2U (d:List qS) (f:Int) (b:Int) (now:qF×List qR) (rec:Int->qD->Res) (h:qD->Res) (i:Int->Int->Res):Res:=bif decide (b<f) then bif inb b (List.length d) then j80 now (nth (0,eS,[],[],0,eS,[],[],eS,eS) d b) λr g=>bif (g != 0) then i g b else rec (Z9K (b+1)) r else none else h now
def j5n (b:List qS) (d:Int):(Int×qD)->(Int×qD->Res)->((qD->Res)×(Int->Int->Res))->Res:=λv rec q=>j2U b d v.1 v.2 (λf now=>rec (f,now)) q.1 q.2
def j7w (b:List qS) (d:Int) (n:Nat) (f:Int) (now:qF×List qR) (g:qD->Res) (h:Int->Int->Res):Res:=Z1f (j5n b d) n (f,now) (g,h)
def j9E:Z1d Unit:=λσ k=>rdN σ 39<|rdT σ 4 (pB 4)<|rdT σ 7 (pB 7)<|rd1 σ 18 y27 .S λd=>rdI σ 19 λf=>rdI σ 20 λg=>rdB σ 4 y33 [.O,.O] λa i=>rdB σ 7 y33 [.S,.S] λh now=>j7w d f Z1c g now (λb=>k (.exit 0) (mkS 39 39 [(4,pB 4),(7,pB 7)] [(4,⟨y33,a,i,[.O,.O]⟩),(7,⟨y33,h,b,[.S,.S]⟩)])) (λj l=>k .ret (mkS 39 39 [(4,pB 4),(5,vI j),(6,vI l)] [(4,⟨y33,a,([],[]),[.O,.O]⟩)]))
def j9N:Z1d Unit:=λσ k=>j9E (σ.wk [] [(7,[.S,.S])]) k
theorem jjr:CN 0 122 Tryz.f133 j9N:=λp=>ZaJ [] [(7,[.S,.S])] (jn5 follows j2e jf1 p [] oN [4,7,18,19,20] [4,7] ([],[]) [(0,[4,7],[4,7])] ([4,5,6],[4]) (y:=j9E) λσ k _ h=>rN h λB h=>rT h λz h=>rT h λA h=>rV h λd g h=>rV h λf i h=>rV h λq j h=>rB h λa w l h=>rB h λr now n h=>⟨_,ZaM (m:=39) B (sC z (sC A (sC g (sC i (sC j sN))))) (bC l (bC n bN)),.trans (Z9u (λv:Int×qD=>(mkS 39 39 [(4,pB 4),(7,pB 7),(18,v1 y27 d .S),(19,vI f),(20,vI v.1)] [(4,⟨y33,a,w,[.O,.O]⟩),(7,⟨y33,r,v.2,[.S,.S]⟩)])) (j5n d f) (λ(k:Z83 Unit)=>(((λb=>k (.exit 0) (mkS 39 39 [(4,pB 4),(7,pB 7)] [(4,⟨y33,a,w,[.O,.O]⟩),(7,⟨y33,r,b,[.S,.S]⟩)])),(λC D=>k .ret (mkS 39 39 [(4,pB 4),(5,vI C),(6,vI D)] [(4,⟨y33,a,([],[]),[.O,.O]⟩)]))):(qD->Res)×(Int->Int->Res))) (λv rec k=>by kernel_rfl) Z1c (q,now) k) h⟩)
def j2q (d:qF×List qR) (l:List qS) (b:qD->Int->Int->Res):Res:=j6t d λr=>bif !r then b ([],[]) 1 0 else j1F d λf=>j7w l (nI (List.length l)) Z1c 0 f (λnow=>b now 0 0) (λt g=>b ([],[]) t g)
def jbv:Sig Unit:=sg [.borrow y33 true,.borrow y27 false] [true,false,false] [(y33,none),(y27,none)] [] λb h k=>j2q b.1 b.2.1 (λd f g=>k [⟨y33,true,d,[.S,.S]⟩,wI f,wI g] [] [])
theorem jl1:SO 133 jbv:=fK (np:=0) jf1 [j9N] (oI 122 0 @jjr oN) true Tryz.func133 λ_ _ _ _=>by delta j2q j90 j68 j9N;delta j9E j7w;refine gz j6t λ_ b=>gz j1F λ_ d=>gz j5n λ_ f=> ?_;rewrite [<-b,<-d,<-f];kernel_rfl
def jc6 (d:Int×Int×qB) (b:Bool->Res):Res:=j0Z d λr=>b (!r)
def jkH:Sig Unit:=sg [.look y2 true] [false] [(y2,none)] [] λd f k=>jc6 d.1 (λb=>k [wB b] [] [])
theorem jdX:SO 272 jkH:=fK (np:=0) (Za6 j7E Zas) [] oN false Tryz.func272 λ_ _ _ _=>by kernel_rfl
def j0S (s:List qV) (g:Int) (b:Int) (rec:Int->Res) (d:Unit->Res) (f:Int->Res):Res:=bif decide (b<g) then bif inb b (List.length s) then jc6 (nth (0,0,eS) s b) λr=>bif r then f b else rec (Z9K (b+1)) else none else d ()
def j3e (s:List qV) (b:Int):Int->(Int->Res)->((Unit->Res)×(Int->Res))->Res:=λv rec q=>j0S s b v (λd=>rec (d)) q.1 q.2
def j8w (s:List qV) (f:Int) (n:Nat) (g:Int) (b:Unit->Res) (d:Int->Res):Res:=Z1f (j3e s f) n (g) (b,d)
def j86:Z1d Unit:=NdL 19 19 [.R 0 y3 .S,.c 1 272 [] .unit [],.I 7,.I 8] [] (λb d=>(b.2.2.2.1)) (λb v=>(b.1,b.2.1,b.2.2.1,v,())) (λd v=>()) (λb d=>j3e b.1 b.2.2.1) λb d f=>((λ_=>f (.exit 0) [] []),(λg=>f .ret [(4,vI g)] []))
theorem jdv:CN 0 26 Tryz.f306 j86:=lK (Za6 jdX Zas) [] oN ([],[]) [(0,[],[])] ([4],[]) λ_ _ _ _ _=>by kernel_rfl
def j6E (s:List qV) (f:Unit) (b:Int->Res):Res:=j8w s (nI (List.length s)) Z1c 0 (λ_=>b (-1)) (λt=>b t)
def jeU:Sig Unit:=sg [.look y3 false,.rclos 272 []] [false] [(y3,none),(.unit,none)] [] λb f k=>j6E b.1 b.2.1 (λd=>k [wI d] [] [])
theorem jeJ:SO 306 jeU:=fK (np:=0) (Za6 jdX Zas) [j86] (oI 26 0 @jdv oN) false Tryz.func306 λ_ _ _ _=>by kernel_rfl
def j1U (s:List qV) (f:Unit) (b:Bool->Res):Res:=j6E s f λr=>b (decide (r>=0))
def j7u:Sig Unit:=sg [.look y3 false,.rclos 272 []] [false] [(y3,none),(.unit,none)] [] λb f k=>j1U b.1 b.2.1 (λd=>k [wB d] [] [])
theorem jcD:SO 271 j7u:=fK (np:=0) (Za6 jeJ Zas) [] oN false Tryz.func271 λ_ _ _ _=>by kernel_rfl
def j1y (l:List qV) (b:Bool->Res):Res:=j0f (nI (List.length l)) 1 8 λr=>bif r then j1U l () λd=>b (!d) else b false
def jbt:Sig Unit:=sg [.look y3 false] [false] [(y3,none)] [] λd f k=>j1y d.1 (λb=>k [wB b] [] [])
theorem jkY:SO 213 jbt:=fK (np:=0) (Za6 j2E (Za6 jcD Zas)) [] oN false Tryz.func213 λ_ _ _ _=>by delta j1y j1R j7u;refine gz j0f λ_ b=>gz j1U λ_ d=> ?_;rewrite [<-b,<-d];kernel_rfl
theorem jgp:FS [(160,j2G),(211,j3Z),(212,j7s),(213,jbt)]:=(Za6 j95 (Za6 jcV (Za6 ja2 (Za6 jkY Zas))))
def j5J (s:qS) (b:Bool->Res):Res:=bif (s.1==1) then bif ((nI (List.length s.2.2.1))==0) then j1y s.2.2.2.1 λr=>b r else b false else bif (s.1==2) then j1y s.2.2.1 λd=>bif d then j1y s.2.2.2.1 λf=>b f else b false else bif (s.1==3) then j1y s.2.2.1 λg=>bif g then b ((nI (List.length s.2.2.2.1))==0) else b false else bif (s.1==4) then bif ((nI (List.length s.2.2.1))==0) then b ((nI (List.length s.2.2.2.1))==0) else b false else b false
def jaQ:Z1d Unit:=Nd 91 91 [.t 1 (pB 1)] [(1,y17,[.S,.S,.S,.S])] λg f b=>j5J f.1.2 (λd=>b .ret [(2,vB d)] [])
theorem jkg:CN 0 15 Tryz.f161 jaQ:=nK jgp [] oN ([],[]) [] ([2],[]) λ_ _ _=>by delta j5J jbt;refine gz j1y λ_ b=> ?_;rewrite [<-b];kernel_rfl
def j3f (s:qS) (b:Bool->Res):Res:=bif (s.1==5) then j28 s.2.2.2.2 λr=>bif r then bif sEq s.2.1 s.2.2.2.2.2.1 then bif ((nI (List.length s.2.2.1))==0) then b ((nI (List.length s.2.2.2.1))==0) else b false else b false else b false else j0s s.2.1 λd=>bif !d then b false else j0d s.2.2.2.2 (0,eS,[],[],eS,eS) λf=>bif !f then b false else j5J s λt=>b t
def j9a:Sig Unit:=sg [.look y17 true] [false] [(y17,none)] [] λd f k=>j3f d.1 (λb=>k [wB b] [] [])
theorem jgv:SO 161 j9a:=fK (np:=0) jgp [jaQ] (oI 15 0 @jkg oN) false Tryz.func161 λ_ _ _ _=>by delta j3f j3Z j2G j7s jaQ;refine gz j28 λ_ b=>gz j0s λ_ d=>gz j0d λ_ f=>gz j5J λ_ g=> ?_;rewrite [<-b,<-d,<-f,<-g];kernel_rfl
def j6U (s:qS) (b:qS->Res):Res:=j0U s.2.2.1 λr=>j0U s.2.2.2.1 λd=>jab s.2.2.2.2 λf=>b (s.1,s.2.1,r,d,f)
def jkI:Sig Unit:=sg [.borrow y17 true] [true] [(y17,none)] [] λd f k=>j6U d.1 (λb=>k [⟨y17,true,b,[.O,.O,.O,.O]⟩] [] [])
theorem jdY:SO 216 jkI:=fK (np:=0) (Za6 j7k (Za6 jl0 Zas)) [] oN false Tryz.func216 λ_ _ _ _=>by delta j6U j7r jfA;refine gz j0U λ_ b=>gz jab λ_ d=> ?_;rewrite [<-b,<-d];kernel_rfl
theorem jix:FS [(250,j7T),(251,j1Q)]:=(Za6 jh9 (Za6 j6S Zas))
def j5G (f:List qT) (g:Int) (d:qF×List qR) (b:Int) (rec:Int->Res) (h:Unit->Res) (i:Unit->Res):Res:=bif decide (b<g) then bif inb b (List.length f) then bif inb b (List.length d.2) then j0J (nth (eS,[],[]) f b) (nth [] d.2 b) λr=>bif !r then i () else rec (Z9K (b+1)) else none else none else h ()
def j8f (b:List qT) (f:Int) (d:qF×List qR):Int->(Int->Res)->((Unit->Res)×(Unit->Res))->Res:=λv rec q=>j5G b f d v (λg=>rec (g)) q.1 q.2
def jdd (b:List qT) (f:Int) (d:qF×List qR) (n:Nat) (g:Int) (h:Unit->Res) (i:Unit->Res):Res:=Z1f (j8f b f d) n (g) (h,i)
def jco:Z1d Unit:=NdL 38 38 [.t 1 (pB 1),.R 21 y30 .S,.I 22,.I 23] [(1,y33,[.S,.S])] (λb d=>(b.2.2.1)) (λb v=>(b.1,b.2.1,v,())) (λd v=>((d.1.1,d.1.2),())) (λb d=>j8f b.1 b.2.1 d.1.2) λb d f=>((λ_=>f (.exit 0) [] []),(λ_=>f .ret [(2,vB false)] []))
theorem jmD:CN 0 58 Tryz.f195 jco:=lK jix [] oN ([],[]) [(0,[],[])] ([2],[]) λ_ _ _ _ _=>by kernel_rfl
def j9U (d:qF×List qR) (b:Bool->Res):Res:=j6w d.1 λr=>bif !r then b false else bif ((nI (List.length d.2)) != (nI (List.length d.1))) then b false else jdd d.1 (nI (List.length d.1)) d Z1c 0 (λ_=>b true) (λ_=>b false)
def jeQ:Sig Unit:=sg [.look y33 true] [false] [(y33,none)] [] λd f k=>j9U d.1 (λb=>k [wB b] [] [])
theorem joj:SO 195 jeQ:=fK (np:=0) jix [jco] (oI 58 0 @jmD oN) false Tryz.func195 λ_ _ _ _=>by delta j9U j7T jco jdd;refine gz j6w λ_ b=>gz j8f λ_ d=> ?_;rewrite [<-b,<-d];kernel_rfl
theorem jgq:FS [(231,j5Y),(232,j0P)]:=(Za6 jf7 (Za6 j4E Zas))
def j3C (f:List qR) (g:Int) (d:Int) (b:qF×List qR) (rec:Int->qD->Res) (h:qD->Res):Res:=bif decide (d<g) then bif inb d (List.length f) then j0o (nth [] f d) λr=>bif lim ((List.length b.2)+1) then rec (Z9K (d+1)) (b.1,(b.2++[r])) else none else none else h b
def j6y (d:List qR) (f:Int):(Int×qD)->(Int×qD->Res)->((qD->Res))->Res:=λv rec q=>j3C d f v.1 v.2 (λg b=>rec (g,b)) q
def jbj (d:List qR) (f:Int) (n:Nat) (g:Int) (b:qF×List qR) (h:qD->Res):Res:=Z1f (j6y d f) n (g,b) (h)
def jaS:Z1d Unit:=NdL 28 28 [.t 2 (pB 2),.t 3 (pB 3),.R 11 y32 .S,.I 12,.I 13] [(2,y33,[.O,.O]),(3,y33,[.O,.O])] (λd b=>(d.2.2.1,b.2.1.2)) (λd v=>(d.1,d.2.1,v.1,())) (λb v=>((b.1.1,b.1.2),(b.2.1.1,v.2),())) (λd b=>j6y d.1 d.2.1) λd b g=>((λf=>g (.exit 0) [(2,pB 2),(3,pB 3)] [(2,⟨y33,b.1.1,b.1.2,[.O,.O]⟩),(3,⟨y33,b.2.1.1,f,[.O,.O]⟩)]))
theorem jki:CN 0 58 Tryz.f174 jaS:=lK jgq [] oN ([],[]) [(0,[2,3],[2,3])] ([],[]) λ_ _ _ _ _=>by kernel_rfl
def j18 (d:qF×List qR) (f:qD->Res):Res:=j3B d.1 λr=>jbj d.2 (nI (List.length d.2)) Z1c 0 (r,[]) λb=>f b
def j2H:Sig Unit:=sg [.borrow y33 true] [true] [(y33,none)] [] λd f k=>j18 d.1 (λb=>k [⟨y33,true,b,[.O,.O]⟩] [] [])
theorem jc3:SO 174 j2H:=fK (np:=0) jgq [jaS] (oI 58 0 @jki oN) false Tryz.func174 λ_ _ _ _=>by delta j18 j5Y jaS jbj;refine gz j3B λ_ b=>gz j6y λ_ d=> ?_;rewrite [<-b,<-d];kernel_rfl
theorem jf0:FS [(174,j2H),(176,j0V),(295,jaq),(296,j6B),(297,j6A),(298,jbr)]:=(Za6 jc3 (Za6 j94 (Za6 jjP (Za6 jfW (Za6 jfV (Za6 jkV Zas))))))
def j2v (f:Int) (h:Int) (d:qF×List qR) (x:qG) (c:List qT) (b:qF×List qR) (g:qD->Res):Res:=bif (h==1) then Z87 (j0j c x.2.1 λr=>j1t b.2 r [[]] λi=>g (b.1,i)) (Z87 (j0j c x.2.1 λj=>j1t b.2 j [[]] λk=>g (b.1,k)) (j0j c x.2.1 λl=>j1t b.2 l [[]] λm=>g (b.1,m))) else bif (h==2) then j4Y b.2 f (Z9K (f+1)) λn=>g (b.1,n) else bif inb f (List.length d.1) then bif inb f (List.length d.2) then j5I (nth (eS,[],[]) d.1 f) (nth [] d.2 f) x λp q=>bif inb f (List.length b.2) then g (b.1,upd b.2 f p) else none else none else none
def j9K:Z1d Unit:=Nd 79 79 [.t 2 (pB 2),.t 3 (pB 3),.t 4 (pB 4),.t 6 (pB 6),.t 8 (pB 8),.I 9,.I 31] [(2,y33,[.S,.S]),(3,y13,[.S,.S]),(4,y33,[.O,.O]),(6,y30,[.O]),(8,y33,[.O,.O])] λf b g=>j2v f.1 f.2.1 b.1.2 b.2.1.2 b.2.2.2.1.2 b.2.2.2.2.1.2 (λd=>g .normal [(4,pB 4),(6,pB 6),(8,pB 8)] [(4,⟨y33,b.2.2.1.1,b.2.2.1.2,[.O,.O]⟩),(6,⟨y30,b.2.2.2.1.1,b.2.2.2.1.2,[.O]⟩),(8,⟨y33,b.2.2.2.2.1.1,d,[.O,.O]⟩)])
theorem jjl:CN 0 253 Tryz.f252 j9K:=nK jf0 [] oN ([4,6,8],[4,6,8]) [] ([],[]) λ_ _ _=>by delta j2v j0V j6B j6A jbr;refine gz j0j λ_ b=>gz j1t λ_ d=>gz j4Y λ_ f=>gz j5I λ_ g=> ?_;rewrite [<-b,<-d,<-f,<-g];kernel_rfl
def j5L (d:qF×List qR) (x:qG) (f:qD->Int->Res):Res:=j4x d.1 x λr g=>bif (g != 0) then f ([],[]) g else j18 d λh=>j0j d.1 x.2.1 λi=>j2v i x.1 d x r h λb=>f (r,b.2) 0
def jbu:Sig Unit:=sg [.borrow y33 true,.borrow y13 true] [true,false] [(y33,none),(y13,none)] [] λb g k=>j5L b.1 b.2.1 (λd f=>k [⟨y33,true,d,[.O,.O]⟩,wI f] [] [])
theorem jkZ:SO 252 jbu:=fK (np:=0) jf0 [j9K] (oI 253 0 @jjl oN) false Tryz.func252 λ_ _ _ _=>by delta j5L jaq j2H j0V j9K;refine gz j4x λ_ b=>gz j18 λ_ d=>gz j0j λ_ f=>gz j2v λ_ g=> ?_;rewrite [<-b,<-d,<-f,<-g];kernel_rfl
theorem jbL:FS [(174,j2H),(176,j0V),(252,jbu),(253,jcb),(254,jcc),(255,jca)]:=(Za6 jc3 (Za6 j94 (Za6 jkZ (Za6 jmf (Za6 jmg (Za6 jme Zas))))))
def j7M (f:Int) (s:qS) (b:Unit->Res) (d:Unit->Res):Res:=bif decide (f<0) then bif (s.1 != 5) then d () else bif (s.2.2.2.2.1 != 1) then d () else b () else b ()
def j72:Z1d Unit:=Nd 108 108 [.t 2 (pB 2),.t 3 (pB 3),.t 4 (pB 4),.I 6] [(2,y33,[.S,.S]),(3,y17,[.S,.S,.S,.S]),(4,y33,[.O,.O])] λf b d=>j7M f.1 b.2.1.2 (λ_=>d .normal [(2,pB 2),(3,pB 3),(4,pB 4),(6,vI f.1)] [(2,⟨y33,b.1.1,b.1.2,[.S,.S]⟩),(3,⟨y17,b.2.1.1,b.2.1.2,[.S,.S,.S,.S]⟩),(4,⟨y33,b.2.2.1.1,b.2.2.1.2,[.O,.O]⟩)]) (λ_=>d .ret [(4,pB 4),(5,vI 4)] [(4,⟨y33,b.2.2.1.1,([],[]),[.O,.O]⟩)])
theorem jmE:CN 0 14 Tryz.f196 j72:=nK jbL [] oN ([2,3,4,6],[2,3,4]) [] ([4,5],[4]) λ_ _ _=>by kernel_rfl
def jac (f:Int) (d:qF×List qR) (b:Unit->Res):Res:=bif inb f (List.length d.1) then Z87 (Z87 (Z87 (Z87 (bif inb f (List.length d.2) then Z87 (Z87 (b ()) (Z87 (b ()) (b ()))) (Z87 (Z87 (b ()) (b ())) (b ())) else none) (Z87 (bif inb f (List.length d.2) then Z87 (Z87 (b ()) (b ())) (b ()) else none) (bif inb f (List.length d.2) then b () else none))) (Z87 (Z87 (bif inb f (List.length d.2) then Z87 (Z87 (b ()) (b ())) (b ()) else none) (bif inb f (List.length d.2) then b () else none)) (bif inb f (List.length d.2) then b () else none))) (Z87 (Z87 (Z87 (bif inb f (List.length d.2) then Z87 (Z87 (b ()) (Z87 (b ()) (b ()))) (Z87 (Z87 (b ()) (b ())) (b ())) else none) (Z87 (bif inb f (List.length d.2) then Z87 (Z87 (b ()) (b ())) (b ()) else none) (bif inb f (List.length d.2) then b () else none))) (Z87 (Z87 (bif inb f (List.length d.2) then Z87 (Z87 (b ()) (b ())) (b ()) else none) (bif inb f (List.length d.2) then b () else none)) (bif inb f (List.length d.2) then b () else none))) (Z87 (Z87 (Z87 (bif inb f (List.length d.2) then Z87 (Z87 (b ()) (b ())) (b ()) else none) (bif inb f (List.length d.2) then b () else none)) (bif inb f (List.length d.2) then b () else none)) (Z87 (Z87 (Z87 (bif inb f (List.length d.2) then Z87 (Z87 (b ()) (b ())) (b ()) else none) (bif inb f (List.length d.2) then b () else none)) (bif inb f (List.length d.2) then b () else none)) (bif inb f (List.length d.2) then b () else none))))) (Z87 (Z87 (Z87 (Z87 (bif inb f (List.length d.2) then Z87 (Z87 (b ()) (Z87 (b ()) (b ()))) (Z87 (Z87 (b ()) (b ())) (b ())) else none) (Z87 (bif inb f (List.length d.2) then Z87 (Z87 (b ()) (b ())) (b ()) else none) (bif inb f (List.length d.2) then b () else none))) (Z87 (Z87 (bif inb f (List.length d.2) then Z87 (Z87 (b ()) (b ())) (b ()) else none) (bif inb f (List.length d.2) then b () else none)) (bif inb f (List.length d.2) then b () else none))) (Z87 (Z87 (Z87 (bif inb f (List.length d.2) then Z87 (Z87 (b ()) (b ())) (b ()) else none) (bif inb f (List.length d.2) then b () else none)) (bif inb f (List.length d.2) then b () else none)) (bif inb f (List.length d.2) then b () else none))) (Z87 (Z87 (Z87 (Z87 (bif inb f (List.length d.2) then Z87 (Z87 (b ()) (b ())) (b ()) else none) (bif inb f (List.length d.2) then b () else none)) (bif inb f (List.length d.2) then b () else none)) (Z87 (Z87 (Z87 (bif inb f (List.length d.2) then Z87 (Z87 (b ()) (b ())) (b ()) else none) (bif inb f (List.length d.2) then b () else none)) (bif inb f (List.length d.2) then b () else none)) (bif inb f (List.length d.2) then b () else none))) (Z87 (Z87 (Z87 (Z87 (bif inb f (List.length d.2) then Z87 (Z87 (b ()) (b ())) (b ()) else none) (bif inb f (List.length d.2) then b () else none)) (bif inb f (List.length d.2) then b () else none)) (bif inb f (List.length d.2) then b () else none)) (bif inb f (List.length d.2) then b () else none)))) else none
def j9g:Z1d Unit:=Nd 108 108 [.t 2 (pB 2),.t 3 (pB 3),.t 4 (pB 4),.I 6] [(2,y33,[.S,.S]),(3,y17,[.S,.S,.S,.S]),(4,y33,[.O,.O])] λd b f=>jac d.1 b.1.2 (λ_=>f .normal [(2,pB 2),(3,pB 3),(4,pB 4),(6,vI d.1),(9,pB 9),(10,v1 y31 (nth [] b.1.2.2 d.1) .S)] [(2,⟨y33,b.1.1,b.1.2,[.S,.S]⟩),(3,⟨y17,b.2.1.1,b.2.1.2,[.S,.S,.S,.S]⟩),(4,⟨y33,b.2.2.1.1,b.2.2.1.2,[.O,.O]⟩),(9,⟨y29,false,nth (eS,[],[]) b.1.2.1 d.1,[.S,.S]⟩)])
theorem jmF:CN 0 62 Tryz.f196 j9g:=nK jbL [j72] oN ([2,3,4,6,9,10],[2,3,4,9]) [] ([],[]) λ_ _ _=>by kernel_rfl
def j5M (l:List qW) (code:Int) (b:Int) (s:qS) (t:qB×qE×qL) (d:qR->Int->Res):Res:=bif (b==1) then j76 t l s.2.2.2.1 λr f=>d r f else bif (b==2) then j77 t l s.2.2.1 s.2.2.2.1 λg h=>d g h else bif (b==3) then j75 t l s.2.2.1 λi j=>d i j else d [] code
def jcp:Z1d Unit:=Nd 108 108 [.t 2 (pB 2),.t 3 (pB 3),.t 4 (pB 4),.I 6,.t 9 (pB 9),.R 10 y31 .S,.I 11,.I 61] [(2,y33,[.S,.S]),(3,y17,[.S,.S,.S,.S]),(4,y33,[.O,.O]),(9,y29,[.S,.S])] λf d g=>j5M f.2.1 f.2.2.1 f.2.2.2.1 d.2.1.2 d.2.2.2.1.2 (λh b=>g .normal [(2,pB 2),(4,pB 4),(6,vI f.1),(10,v1 y31 h .O),(11,vI b)] [(2,⟨y33,d.1.1,d.1.2,[.S,.S]⟩),(4,⟨y33,d.2.2.1.1,d.2.2.1.2,[.O,.O]⟩)])
theorem jmG:CN 0 509 Tryz.f196 jcp:=nK jbL [j72,j9g] oN ([2,4,6,10,11],[2,4]) [] ([],[]) λ_ _ _=>by delta j5M jcb jcc jca;refine gz j76 λ_ b=>gz j77 λ_ d=>gz j75 λ_ f=> ?_;rewrite [<-b,<-d,<-f];kernel_rfl
def j9V (d:qF×List qR) (s:qS) (b:qD->Int->Res):Res:=j0j d.1 s.2.1 λr=>j7M r s (λ_=>bif (s.1==5) then j5L d s.2.2.2.2 λh g=>bif (g != 0) then b ([],[]) (Z9K (10+g)) else b h 0 else jac r d λ_=>j5M (nth [] d.2 r) 0 s.1 s (nth (eS,[],[]) d.1 r) λl code=>bif (code != 0) then b ([],[]) (Z9K (10+code)) else j18 d λf=>bif inb r (List.length f.2) then b (f.1,upd f.2 r l) 0 else none) (λ_=>b ([],[]) 4)
def jeR:Sig Unit:=sg [.borrow y33 true,.borrow y17 true] [true,false] [(y33,none),(y17,none)] [] λb g k=>j9V b.1 b.2.1 (λd f=>k [⟨y33,true,d,[.O,.O]⟩,wI f] [] [])
theorem jok:SO 196 jeR:=fK (np:=0) jbL [j72,j9g,jcp] (oI 14 0 @jmE (oI 62 1 @jmF (oI 509 2 @jmG oN))) false Tryz.func196 λ_ _ _ _=>by delta j9V j0V j72 jbu j9g jcp j2H;refine gz j0j λ_ b=>gz j7M λ_ d=>gz j5L λ_ f=>gz jac λ_ g=>gz j5M λ_ h=>gz j18 λ_ i=> ?_;rewrite [<-b,<-d,<-f,<-g,<-h,<-i];kernel_rfl
theorem jeZ:FS [(161,j9a),(174,j2H),(195,jeQ),(196,jeR)]:=(Za6 jgv (Za6 jc3 (Za6 joj (Za6 jok Zas))))
def j1I (d:List qS) (g:Int) (b:Int) (f:qF×List qR) (rec:Int->qD->Res) (j:qD->Res) (h:Int->Int->Res):Res:=bif decide (b<g) then bif inb b (List.length d) then j3f (nth (0,eS,[],[],0,eS,[],[],eS,eS) d b) λr=>bif !r then h 1 b else j9V f (nth (0,eS,[],[],0,eS,[],[],eS,eS) d b) λk i=>bif (i != 0) then h i b else rec (Z9K (b+1)) k else none else j f
def j2K (d:List qS) (f:Int):(Int×qD)->(Int×qD->Res)->((qD->Res)×(Int->Int->Res))->Res:=λv rec q=>j1I d f v.1 v.2 (λg b=>rec (g,b)) q.1 q.2
def ja8 (d:List qS) (f:Int) (n:Nat) (g:Int) (b:qF×List qR) (h:qD->Res) (i:Int->Int->Res):Res:=Z1f (j2K d f) n (g,b) (h,i)
def j9G:Z1d Unit:=NdL 44 44 [.t 4 (pB 4),.t 7 (pB 7),.R 18 y27 .S,.I 19,.I 20] [(4,y33,[.O,.O]),(7,y33,[.O,.O])] (λd b=>(d.2.2.1,b.2.1.2)) (λd v=>(d.1,d.2.1,v.1,())) (λb v=>((b.1.1,b.1.2),(b.2.1.1,v.2),())) (λd b=>j2K d.1 d.2.1) λd b g=>((λf=>g (.exit 0) [(4,pB 4),(7,pB 7)] [(4,⟨y33,b.1.1,b.1.2,[.O,.O]⟩),(7,⟨y33,b.2.1.1,f,[.O,.O]⟩)]),(λh i=>g .ret [(4,pB 4),(5,vI h),(6,vI i)] [(4,⟨y33,b.1.1,([],[]),[.O,.O]⟩)]))
theorem jjc:CN 0 122 Tryz.f138 j9G:=lK jeZ [] oN ([],[]) [(0,[4,7],[4,7])] ([4,5,6],[4]) λ_ _ _ _ _=>by delta j2K j1I j9a jeR;refine gz j3f λ_ b=>gz j9V λ_ d=> ?_;rewrite [<-b,<-d];kernel_rfl
def j2g (d:qF×List qR) (l:List qS) (b:qD->Int->Int->Res):Res:=j9U d λr=>bif !r then b ([],[]) 1 0 else j18 d λg=>ja8 l (nI (List.length l)) Z1c 0 g (λf=>b f 0 0) (λt h=>b ([],[]) t h)
def jbq:Sig Unit:=sg [.borrow y33 true,.borrow y27 false] [true,false,false] [(y33,none),(y27,none)] [] λb h k=>j2g b.1 b.2.1 (λd f g=>k [⟨y33,true,d,[.O,.O]⟩,wI f,wI g] [] [])
theorem jkU:SO 138 jbq:=fK (np:=0) jeZ [j9G] (oI 122 0 @jjc oN) false Tryz.func138 λ_ _ _ _=>by delta j2g jeQ j2H j9G ja8;refine gz j9U λ_ b=>gz j18 λ_ d=>gz j2K λ_ f=> ?_;rewrite [<-b,<-d,<-f];kernel_rfl
end
end Go.PI.G
namespace Go.PI.G
noncomputable section
open Go Go.PI Go.Proofs
open Go.Code (pl pr)
def j6n (s:qS) (b:Bool->Res):Res:=bif (s.1==0) then bif sEq s.2.1 eS then bif ((nI (List.length s.2.2.1))==0) then bif ((nI (List.length s.2.2.2.1))==0) then j1h s.2.2.2.2 λr=>b r else b false else b false else b false else b false
def j9v:Sig Unit:=sg [.look y17 true] [false] [(y17,none)] [] λd f k=>j6n d.1 (λb=>k [wB b] [] [])
theorem jj1:SO 276 j9v:=fK (np:=0) (Za6 je0 Zas) [] oN false Tryz.func276 λ_ _ _ _=>by kernel_rfl
theorem jh6:FS [(155,j6Z),(276,j9v)]:=(Za6 jgC (Za6 jj1 Zas))
def j9f (r:Int×Int×qS) (b:Bool->Res):Res:=bif decide (r.1<1) then b true else bif decide (r.1>4) then b true else bif decide (r.2.1<1) then b true else b (decide (r.2.1>1000000))
def jbI:Z1d Unit:=Nd 30 30 [.t 1 (pB 1)] [(1,y19,[.S,.S,.S,.S])] λg d f=>j9f d.1.2 (λb=>f .normal [(1,pB 1),(20,vB b)] [(1,⟨y19,d.1.1,d.1.2,[.S,.S,.S,.S]⟩)])
theorem jlu:CN 0 12 Tryz.f218 jbI:=nK jh6 [] oN ([1,20],[1]) [] ([],[]) λ_ _ _=>by kernel_rfl
def j8s (r:Int×Int×qS) (b:Bool->Res):Res:=j9f r λt=>bif t then b false else bif (r.1==2) then j3h r.2.2 λd=>b d else j6n r.2.2 λf=>b f
def jdD:Sig Unit:=sg [.look y19 true] [false] [(y19,none)] [] λd f k=>j8s d.1 (λb=>k [wB b] [] [])
theorem jng:SO 218 jdD:=fK (np:=0) jh6 [jbI] (oI 12 0 @jlu oN) false Tryz.func218 λ_ _ _ _=>by delta j8s jbI j6Z j9v;refine gz j9f λ_ b=>gz j3h λ_ d=>gz j6n λ_ f=> ?_;rewrite [<-b,<-d,<-f];kernel_rfl
def j6i (f:Int) (d:List qP) (i:Int) (b:Int) (rec:Int->Res) (g:Unit->Res) (h:Unit->Res):Res:=bif decide (b<i) then bif inb b (List.length d) then bif ((nth (0,0,0,eS,[],[],0,eS,[],[],eS,eS) d b).1==1) then bif ((nth (0,0,0,eS,[],[],0,eS,[],[],eS,eS) d b).2.1==f) then h () else rec (Z9K (b+1)) else rec (Z9K (b+1)) else none else g ()
def jbA (b:Int) (d:List qP) (f:Int):Int->(Int->Res)->((Unit->Res)×(Unit->Res))->Res:=λv rec q=>j6i b d f v (λg=>rec (g)) q.1 q.2
def ji3 (b:Int) (g:List qP) (h:Int) (n:Nat) (i:Int) (d:Unit->Res) (f:Unit->Res):Res:=Z1f (jbA b g h) n (i) (d,f)
def jgY:Z1d Unit:=NdL 23 23 [.I 1,.R 7 y20 .S,.I 8,.I 9] [] (λb d=>(b.2.2.2.1)) (λb v=>(b.1,b.2.1,b.2.2.1,v,())) (λd v=>()) (λb d=>jbA b.1 b.2.1 b.2.2.1) λb d f=>((λ_=>f (.exit 0) [] []),(λ_=>f .ret [(4,vB true)] []))
theorem jmP:CN 0 26 Tryz.f219 jgY:=lK Zas [] oN ([],[]) [(0,[],[])] ([4],[]) λ_ _ _ _ _=>by kernel_rfl
def jbX (l:List qP) (b:Int) (d:Bool->Res):Res:=ji3 b l (nI (List.length l)) Z1c 0 (λ_=>d false) (λ_=>d true)
def jeW:Sig Unit:=sg [.look y20 false,.look tI false] [false] [(y20,none),(tI,none)] [] λb f k=>jbX b.1 b.2.1 (λd=>k [wB d] [] [])
theorem joo:SO 219 jeW:=fK (np:=0) Zas [jgY] (oI 26 0 @jmP oN) false Tryz.func219 λ_ _ _ _=>by kernel_rfl
def j4f (h:Int) (d:List Int) (i:Int) (b:Int) (rec:Int->Res) (f:Unit->Res) (g:Unit->Res):Res:=bif decide (b<i) then bif inb b (List.length d) then bif ((nth 0 d b)==h) then g () else rec (Z9K (b+1)) else none else f ()
def j9C (b:Int) (d:List Int) (f:Int):Int->(Int->Res)->((Unit->Res)×(Unit->Res))->Res:=λv rec q=>j4f b d f v (λg=>rec (g)) q.1 q.2
def jfJ (f:Int) (g:List Int) (h:Int) (n:Nat) (i:Int) (b:Unit->Res) (d:Unit->Res):Res:=Z1f (j9C f g h) n (i) (b,d)
def jeF:Z1d Unit:=NdL 17 17 [.I 1,.R 7 y21 .S,.I 8,.I 9] [] (λb d=>(b.2.2.2.1)) (λb v=>(b.1,b.2.1,b.2.2.1,v,())) (λd v=>()) (λb d=>j9C b.1 b.2.1 b.2.2.1) λb d f=>((λ_=>f (.exit 0) [] []),(λ_=>f .ret [(4,vB true)] []))
theorem jkF:CN 0 26 Tryz.f168 jeF:=lK Zas [] oN ([],[]) [(0,[],[])] ([4],[]) λ_ _ _ _ _=>by kernel_rfl
def j5f (l:List Int) (d:Int) (b:Bool->Res):Res:=jfJ d l (nI (List.length l)) Z1c 0 (λ_=>b false) (λ_=>b true)
def j9e:Sig Unit:=sg [.look y21 false,.look tI false] [false] [(y21,none),(tI,none)] [] λb f k=>j5f b.1 b.2.1 (λd=>k [wB d] [] [])
theorem jgE:SO 168 j9e:=fK (np:=0) Zas [jeF] (oI 26 0 @jkF oN) false Tryz.func168 λ_ _ _ _=>by kernel_rfl
def j4e (i:Int) (g:List Int) (f:Int) (d:List Int) (b:Int) (rec:(List Int)->Int->Res) (h:(List Int)->Res):Res:=bif decide (b<f) then bif inb b (List.length g) then bif ((nth 0 g b) != i) then bif lim ((List.length d)+1) then rec (d++[nth 0 g b]) (Z9K (b+1)) else none else rec d (Z9K (b+1)) else none else h d
def j9B (g:Int) (h:List Int) (d:Int):((List Int)×Int)->((List Int)×Int->Res)->(((List Int)->Res))->Res:=λv rec q=>j4e g h d v.1 v.2 (λb f=>rec (b,f)) q
def jfI (h:Int) (i:List Int) (d:Int) (n:Nat) (b:List Int) (f:Int) (g:(List Int)->Res):Res:=Z1f (j9B h i d) n (b,f) (g)
def jeE:Z1d Unit:=NdL 24 24 [.I 1,.R 5 y21 .O,.R 9 y21 .S,.I 10,.I 11] [] (λb f=>(b.2.1,b.2.2.2.2.1)) (λb v=>(b.1,v.1,b.2.2.1,b.2.2.2.1,v.2,())) (λf v=>()) (λb f=>j9B b.1 b.2.2.1 b.2.2.2.1) λb f g=>((λd=>g (.exit 0) [(5,v1 y21 d .O)] []))
theorem jkE:CN 0 58 Tryz.f277 jeE:=lK Zas [] oN ([],[]) [(0,[5],[])] ([],[]) λ_ _ _ _ _=>by kernel_rfl
def j7g (l:List Int) (f:Int) (d:(List Int)->Res):Res:=jfI f l (nI (List.length l)) Z1c [] 0 λb=>d b
def jch:Sig Unit:=sg [.borrow y21 false,.borrow tI false] [false] [(y21,none),(tI,none)] [] λb f k=>j7g b.1 b.2.1 (λd=>k [w1 y21 d .O] [] [])
theorem jmx:SO 277 jch:=fK (np:=0) Zas [jeE] (oI 58 0 @jkE oN) false Tryz.func277 λ_ _ _ _=>by kernel_rfl
theorem jeG:FS [(168,j9e),(277,jch)]:=(Za6 jgE (Za6 jmx Zas))
def jaG (b:List Int) (r:Int×Int×qS) (d:(List Int)->Res):Res:=bif (r.1==1) then j5f b r.2.1 λf=>bif !f then bif lim ((List.length b)+1) then d (b++[r.2.1]) else none else d b else d b
def j9h:Z1d Unit:=Nd 42 42 [.R 3 y21 .O,.t 5 (pB 5),.R 7 y20 .S,.I 8,.I 9] [(5,y19,[.S,.S,.S,.S])] λd f g=>jaG d.1 f.1.2 (λb=>g .normal [(3,v1 y21 b .O),(5,pB 5),(7,v1 y20 d.2.1 .S),(8,vI d.2.2.1),(9,vI d.2.2.2.1)] [(5,⟨y19,f.1.1,f.1.2,[.S,.S,.S,.S]⟩)])
theorem jmO:CN 0 7474 Tryz.f220 j9h:=nK jeG [] oN ([3,5,7,8,9],[5]) [] ([],[]) λ_ _ _=>by kernel_rfl
def j3p (f:List qP) (j:Int) (g:List Int) (d:Int) (rec:(List Int)->Int->Res) (h:(List Int)->Res):Res:=bif decide (d<j) then bif inb d (List.length f) then jaG g (nth (0,0,0,eS,[],[],0,eS,[],[],eS,eS) f d) λb=>bif ((nth (0,0,0,eS,[],[],0,eS,[],[],eS,eS) f d).1==3) then j7g b (nth (0,0,0,eS,[],[],0,eS,[],[],eS,eS) f d).2.1 λr=>rec r (Z9K (d+1)) else bif ((nth (0,0,0,eS,[],[],0,eS,[],[],eS,eS) f d).1==4) then j7g b (nth (0,0,0,eS,[],[],0,eS,[],[],eS,eS) f d).2.1 λi=>rec i (Z9K (d+1)) else rec b (Z9K (d+1)) else none else h g
def j8r (d:List qP) (f:Int):((List Int)×Int)->((List Int)×Int->Res)->(((List Int)->Res))->Res:=λv rec q=>j3p d f v.1 v.2 (λb g=>rec (b,g)) q
def ji2 (f:List qP) (g:Int) (n:Nat) (b:List Int) (h:Int) (d:(List Int)->Res):Res:=Z1f (j8r f g) n (b,h) (d)
def jgX:Z1d Unit:=NdL 42 42 [.R 3 y21 .O,.R 7 y20 .S,.I 8,.I 9] [] (λb f=>(b.1,b.2.2.2.1)) (λb v=>(v.1,b.2.1,b.2.2.1,v.2,())) (λf v=>()) (λb f=>j8r b.2.1 b.2.2.1) λb f g=>((λd=>g (.exit 0) [(3,v1 y21 d .O)] []))
theorem jmN:CN 0 58 Tryz.f220 jgX:=lK jeG [j9h] (oI 114 0 @jmO oN) ([],[]) [(0,[3],[])] ([],[]) λ_ _ _ _ _=>by delta j8r j3p j9h jch;refine gz jaG λ_ b=>gz j7g λ_ d=> ?_;rewrite [<-b,<-d];kernel_rfl
def j9Z (l:List qP) (d:(List Int)->Res):Res:=ji2 l (nI (List.length l)) Z1c [] 0 λb=>d b
def jeV:Sig Unit:=sg [.borrow y20 false] [false] [(y20,none)] [] λd f k=>j9Z d.1 (λb=>k [w1 y21 b .O] [] [])
theorem jon:SO 220 jeV:=fK (np:=0) jeG [j9h,jgX] (oI 58 1 @jmN oN) false Tryz.func220 λ_ _ _ _=>by kernel_rfl
def jaN (s:qS) (b:qS->Res):Res:=bif lim (0+(List.length s.2.2.1)) then j0w s.2.2.2.1 λr=>bif lim (0+(List.length s.2.2.2.2.2.2.1)) then bif lim (0+(List.length s.2.2.2.2.2.2.2.1)) then b (s.1,s.2.1,s.2.2.1,r,s.2.2.2.2.1,s.2.2.2.2.2.1,s.2.2.2.2.2.2.1,s.2.2.2.2.2.2.2.1,s.2.2.2.2.2.2.2.2) else none else none else none
def jlG:Sig Unit:=sg [.borrow y17 true] [true] [(y17,none)] [] λd f k=>jaN d.1 (λb=>k [⟨y17,true,b,[.O,.O,.O,.O]⟩] [] [])
theorem jfm:SO 158 jlG:=fK (np:=0) (Za6 j4w Zas) [] oN false Tryz.func158 λ_ _ _ _=>by kernel_rfl
def j2Y (h:Int) (f:List qP) (g:Int) (d:List qS) (b:Int) (rec:qU->Int->Res) (i:qU->Res):Res:=bif decide (b<g) then bif inb b (List.length f) then bif ((nth (0,0,0,eS,[],[],0,eS,[],[],eS,eS) f b).1==2) then bif ((nth (0,0,0,eS,[],[],0,eS,[],[],eS,eS) f b).2.1==h) then jaN (nth (0,0,0,eS,[],[],0,eS,[],[],eS,eS) f b).2.2 λr=>bif lim ((List.length d)+1) then rec (d++[r]) (Z9K (b+1)) else none else rec d (Z9K (b+1)) else rec d (Z9K (b+1)) else none else i d
def j8H (g:Int) (h:List qP) (d:Int):(qU×Int)->(qU×Int->Res)->((qU->Res))->Res:=λv rec q=>j2Y g h d v.1 v.2 (λb f=>rec (b,f)) q
def jej (g:Int) (i:List qP) (d:Int) (n:Nat) (b:List qS) (f:Int) (h:qU->Res):Res:=Z1f (j8H g i d) n (b,f) (h)
def jdM:Z1d Unit:=NdL 32 32 [.I 1,.R 5 y27 .O,.R 9 y20 .S,.I 10,.I 11] [] (λb f=>(b.2.1,b.2.2.2.2.1)) (λb v=>(b.1,v.1,b.2.2.1,b.2.2.2.1,v.2,())) (λf v=>()) (λb f=>j8H b.1 b.2.2.1 b.2.2.2.1) λb f g=>((λd=>g (.exit 0) [(5,v1 y27 d .O)] []))
theorem jjx:CN 0 58 Tryz.f221 jdM:=lK (Za6 jfm Zas) [] oN ([],[]) [(0,[5],[])] ([],[]) λ_ _ _ _ _=>by kernel_rfl
def j6h (l:List qP) (d:Int) (f:qU->Res):Res:=jej d l (nI (List.length l)) Z1c [] 0 λb=>f b
def jbw:Sig Unit:=sg [.borrow y20 false,.borrow tI false] [false] [(y20,none),(tI,none)] [] λb f k=>j6h b.1 b.2.1 (λd=>k [w1 y27 d .O] [] [])
theorem jl3:SO 221 jbw:=fK (np:=0) (Za6 jfm Zas) [jdM] (oI 58 0 @jjx oN) false Tryz.func221 λ_ _ _ _=>by kernel_rfl
theorem j8c:FS [(133,jbv),(168,j9e),(218,jdD),(219,jeW),(220,jeV),(221,jbw)]:=(Za6 jl1 (Za6 jgE (Za6 jng (Za6 joo (Za6 jon (Za6 jl3 Zas))))))
def j2B (l:List qP) (i:Int) (r:Int×Int×qS) (b:Bool->Res):Res:=j8s r λd=>bif !d then b true else bif (r.1==1) then bif Z8e 0 i (List.length l) then jbX (sub l 0 i) r.2.1 λf=>bif f then b true else bif (r.1 != 1) then bif Z8e 0 i (List.length l) then j9Z (sub l 0 i) λg=>j5f g r.2.1 λh=>b (!h) else none else b false else none else bif (r.1 != 1) then bif Z8e 0 i (List.length l) then j9Z (sub l 0 i) λj=>j5f j r.2.1 λk=>b (!k) else none else b false
def j4m:Z1d Unit:=Nd 74 74 [.R 0 y20 .S,.t 2 (pB 2),.t 4 (pB 4),.I 5,.t 6 (pB 6),.R 11 y20 .S,.I 12,.I 13] [(2,y33,[.O,.O]),(4,y33,[.N,.N]),(6,y19,[.S,.S,.S,.S])] λb d g=>j2B b.1 b.2.1 d.2.2.1.2 (λf=>g .normal [(0,v1 y20 b.1 .S),(2,pB 2),(4,pB 4),(5,vI b.2.1),(6,pB 6),(11,v1 y20 b.2.2.1 .S),(12,vI b.2.2.2.1),(13,vI b.2.2.2.2.1),(48,vB f)] [(2,⟨y33,d.1.1,d.1.2,[.O,.O]⟩),(4,⟨y33,d.2.1.1,d.2.1.2,[.N,.N]⟩),(6,⟨y19,d.2.2.1.1,d.2.2.1.2,[.S,.S,.S,.S]⟩)])
theorem jjH:CN 0 14948 Tryz.f169 j4m:=nK j8c [] oN ([0,2,4,5,6,11,12,13,48],[2,4,6]) [] ([],[]) λ_ _ _=>by delta j2B jdD jeW jeV j9e;refine gz j8s λ_ b=>gz jbX λ_ d=>gz j9Z λ_ f=>gz j5f λ_ g=> ?_;rewrite [<-b,<-d,<-f,<-g];kernel_rfl
def j2C (l:List qP) (i:Int) (d:qF×List qR) (r:Int×Int×qS) (b:Int->qD->Res):Res:=bif Z8e 0 i (List.length l) then Z87 (j6h (sub l 0 i) r.2.1 λn=>Z87 (j2q d n λg h w=>Z87 (Z87 (b h g) (Z87 (b h g) (b h g))) (Z87 (Z87 (b h g) (Z87 (b h g) (b h g))) (Z87 (Z87 (b h g) (b h g)) (Z87 (Z87 (b h g) (b h g)) (b h g))))) (j2q d n λj k y=>Z87 (Z87 (b k j) (b k j)) (Z87 (Z87 (b k j) (b k j)) (b k j)))) (j6h (sub l 0 i) r.2.1 λq=>j2q d q λm f p=>Z87 (Z87 (b f m) (b f m)) (Z87 (Z87 (b f m) (b f m)) (b f m))) else none
def j6R:Z1d Unit:=Nd 74 74 [.R 0 y20 .S,.t 2 (pB 2),.t 4 (pB 4),.I 5,.t 6 (pB 6),.R 11 y20 .S,.I 12,.I 13] [(2,y33,[.O,.O]),(4,y33,[.N,.N]),(6,y19,[.S,.S,.S,.S])] λb d f=>j2C b.1 b.2.1 d.2.1.2 d.2.2.1.2 (λcode next=>f .normal [(0,v1 y20 b.1 .S),(2,pB 2),(4,pB 4),(7,pB 7),(8,vI code),(11,v1 y20 b.2.2.1 .S),(12,vI b.2.2.2.1),(13,vI b.2.2.2.2.1)] [(2,⟨y33,d.1.1,d.1.2,[.O,.O]⟩),(4,⟨y33,d.2.1.1,d.2.1.2,[.N,.N]⟩),(7,⟨y33,false,next,[.N,.N]⟩)])
theorem jjI:CN 0 59804 Tryz.f169 j6R:=nK j8c [j4m] oN ([0,2,4,7,8,11,12,13],[2,4,7]) [] ([],[]) λ_ _ _=>by delta j2C jbw jbv;refine gz j6h λ_ b=>gz j2q λ_ d=> ?_;rewrite [<-b,<-d];kernel_rfl
def j1N (l:List qP) (f:List qP) (g:Int) (b:Int) (d:qF×List qR) (rec:Int->qD->Res) (i:qD->Res) (h:Unit->Res):Res:=bif decide (b<g) then bif inb b (List.length f) then j2B l b (nth (0,0,0,eS,[],[],0,eS,[],[],eS,eS) f b) λt=>bif t then h () else bif ((nth (0,0,0,eS,[],[],0,eS,[],[],eS,eS) f b).1==3) then j2C l b d (nth (0,0,0,eS,[],[],0,eS,[],[],eS,eS) f b) λcode next=>bif (code != 0) then h () else rec (Z9K (b+1)) next else rec (Z9K (b+1)) d else none else i d
def j5x (l:List qP) (b:List qP) (f:Int):(Int×qD)->(Int×qD->Res)->((qD->Res)×(Unit->Res))->Res:=λv rec q=>j1N l b f v.1 v.2 (λg d=>rec (g,d)) q.1 q.2
def jaM (l:List qP) (b:List qP) (f:Int) (n:Nat) (g:Int) (d:qF×List qR) (h:qD->Res) (i:Unit->Res):Res:=Z1f (j5x l b f) n (g,d) (h,i)
def jdH:Z1d Unit:=λσ k=>rdN σ 74<|rd1 σ 0 y20 .S λl=>rdT σ 2 (pB 2)<|rdT σ 4 (pB 4)<|rd1 σ 11 y20 .S λb=>rdI σ 12 λf=>rdI σ 13 λg=>rdB σ 2 y33 [.O,.O] λa j=>rdB σ 4 y33 [.N,.N] λh d=>jaM l b f Z1c g d (λi=>k (.exit 0) (mkS 74 74 [(0,v1 y20 l .S),(2,pB 2),(4,pB 4)] [(2,⟨y33,a,j,[.O,.O]⟩),(4,⟨y33,h,i,[.N,.N]⟩)])) (λ_=>k .ret (mkS 74 74 [(2,pB 2),(3,vB false)] [(2,⟨y33,a,([],[]),[.O,.O]⟩)]))
def jdQ:Z1d Unit:=λσ k=>jdH (σ.wk [] [(4,[.N,.N])]) k
theorem jjG:CN 0 58 Tryz.f169 jdQ:=λq=>ZaJ [] [(4,[.N,.N])] (jn5 follows j2e j8c q [j4m,j6R] (oI 228 0 @jjH (oI 924 1 @jjI oN)) [0,2,4,11,12,13] [2,4] ([],[]) [(0,[0,2,4],[2,4])] ([2,3],[2]) (y:=jdH) λσ k _ h=>rN h λG h=>rV h λl D h=>rT h λE h=>rT h λF h=>rV h λb g h=>rV h λf i h=>rV h λr j h=>rB h λa z n h=>rB h λw d p h=>⟨_,ZaM (m:=74) G (sC D (sC E (sC F (sC g (sC i (sC j sN)))))) (bC n (bC p bN)),.trans (Z9u (λv:Int×qD=>(mkS 74 74 [(0,v1 y20 l .S),(2,pB 2),(4,pB 4),(11,v1 y20 b .S),(12,vI f),(13,vI v.1)] [(2,⟨y33,a,z,[.O,.O]⟩),(4,⟨y33,w,v.2,[.N,.N]⟩)])) (j5x l b f) (λ(k:Z83 Unit)=>(((λA=>k (.exit 0) (mkS 74 74 [(0,v1 y20 l .S),(2,pB 2),(4,pB 4)] [(2,⟨y33,a,z,[.O,.O]⟩),(4,⟨y33,w,A,[.N,.N]⟩)])),(λ_=>k .ret (mkS 74 74 [(2,pB 2),(3,vB false)] [(2,⟨y33,a,([],[]),[.O,.O]⟩)]))):(qD->Res)×(Unit->Res))) (λv rec k=>by delta j5x j1N j4m j6R;refine gz j2B λ_ B=>gz j2C λ_ C=> ?_;rewrite [<-B,<-C];kernel_rfl) Z1c (r,d) k) h⟩)
def jaL (l:List qP) (b:qD->Bool->Res):Res:=jaM l l (nI (List.length l)) Z1c 0 ([],[]) (λd=>b d (decide ((nI (List.length l))<=400))) (λ_=>b ([],[]) false)
def jlF:Sig Unit:=sg [.borrow y20 false] [true,false] [(y20,none)] [] λf g k=>jaL f.1 (λb d=>k [⟨y33,true,b,[.S,.S]⟩,wB d] [] [])
theorem jl6:SO 169 jlF:=fK (np:=0) j8c [j4m,j6R,jdQ] (oI 58 2 @jjG oN) true Tryz.func169 λ_ _ _ _=>by kernel_rfl
def jaF (l:List qP) (b:Bool->Res):Res:=bif decide ((nI (List.length l))>400) then b false else jaL l λr d=>b d
def jhX:Sig Unit:=sg [.look y20 false] [false] [(y20,none)] [] λd f k=>jaF d.1 (λb=>k [wB b] [] [])
theorem jhp:SO 103 jhX:=fK (np:=0) (Za6 jl6 Zas) [] oN false Tryz.func103 λ_ _ _ _=>by kernel_rfl
def j6V (s:qS) (b:Bool->Res):Res:=bif (s.1==0) then bif sEq s.2.1 eS then bif ((nI (List.length s.2.2.1))==0) then bif ((nI (List.length s.2.2.2.1))==0) then j0d s.2.2.2.2 (0,eS,[],[],eS,eS) λr=>b r else b false else b false else b false else b false
def jeg:Sig Unit:=sg [.look y17 true] [false] [(y17,none)] [] λd f k=>j6V d.1 (λb=>k [wB b] [] [])
theorem jjQ:SO 278 jeg:=fK (np:=0) (Za6 ja2 Zas) [] oN false Tryz.func278 λ_ _ _ _=>by kernel_rfl
def j8g (r:Int×Int×qS) (b:Bool->Res):Res:=j0f r.1 1 4 λd=>bif !d then b false else j0f r.2.1 1 1000000 λf=>bif !f then b false else bif (r.1==2) then j3f r.2.2 λg=>b g else j6V r.2.2 λh=>b h
def jdx:Sig Unit:=sg [.look y19 true] [false] [(y19,none)] [] λd f k=>j8g d.1 (λb=>k [wB b] [] [])
theorem jn8:SO 222 jdx:=fK (np:=0) (Za6 jgv (Za6 j2E (Za6 jjQ Zas))) [] oN false Tryz.func222 λ_ _ _ _=>by delta j8g j1R j9a jeg;refine gz j0f λ_ b=>gz j3f λ_ d=>gz j6V λ_ f=> ?_;rewrite [<-b,<-d,<-f];kernel_rfl
def j2O (h:Int) (f:List qP) (g:Int) (d:List qS) (b:Int) (rec:qU->Int->Res) (i:qU->Res):Res:=bif decide (b<g) then bif inb b (List.length f) then bif ((nth (0,0,0,eS,[],[],0,eS,[],[],eS,eS) f b).1==2) then bif ((nth (0,0,0,eS,[],[],0,eS,[],[],eS,eS) f b).2.1==h) then j6U (nth (0,0,0,eS,[],[],0,eS,[],[],eS,eS) f b).2.2 λr=>bif lim ((List.length d)+1) then rec (d++[r]) (Z9K (b+1)) else none else rec d (Z9K (b+1)) else rec d (Z9K (b+1)) else none else i d
def j8A (g:Int) (h:List qP) (d:Int):(qU×Int)->(qU×Int->Res)->((qU->Res))->Res:=λv rec q=>j2O g h d v.1 v.2 (λb f=>rec (b,f)) q
def je8 (g:Int) (i:List qP) (d:Int) (n:Nat) (b:List qS) (f:Int) (h:qU->Res):Res:=Z1f (j8A g i d) n (b,f) (h)
def jdJ:Z1d Unit:=NdL 32 32 [.I 1,.R 5 y27 .O,.R 9 y20 .S,.I 10,.I 11] [] (λb f=>(b.2.1,b.2.2.2.2.1)) (λb v=>(b.1,v.1,b.2.2.1,b.2.2.2.1,v.2,())) (λf v=>()) (λb f=>j8A b.1 b.2.2.1 b.2.2.2.1) λb f g=>((λd=>g (.exit 0) [(5,v1 y27 d .O)] []))
theorem jjh:CN 0 58 Tryz.f224 jdJ:=lK (Za6 jdY Zas) [] oN ([],[]) [(0,[5],[])] ([],[]) λ_ _ _ _ _=>by kernel_rfl
def j5K (l:List qP) (d:Int) (f:qU->Res):Res:=je8 d l (nI (List.length l)) Z1c [] 0 λb=>f b
def jbs:Sig Unit:=sg [.borrow y20 false,.borrow tI false] [false] [(y20,none),(tI,none)] [] λb f k=>j5K b.1 b.2.1 (λd=>k [w1 y27 d .O] [] [])
theorem jkW:SO 224 jbs:=fK (np:=0) (Za6 jdY Zas) [jdJ] (oI 58 0 @jjh oN) false Tryz.func224 λ_ _ _ _=>by kernel_rfl
def jeO (place:Int) (b:qF×List qR) (d:Unit->Res):Res:=d ()
def jc9:Sig Unit:=sg [.look tI false,.look y33 true] [] [(tI,none),(y33,none)] [] λb d k=>jeO b.1 b.2.1 (λ_=>k [] [] [])
theorem jmd:SO 171 jc9:=fK (np:=0) Zas [] oN false Tryz.func171 λ_ _ _ _=>by kernel_rfl
def jg4 (x:Int) (d:Int×Int×qS) (b:Bool->Res):Res:=b (x==d.2.1)
def jnS:Sig Unit:=sg [.look tI false,.rptr y19] [false] [(tI,none),(y19,none)] [] λb f k=>jg4 b.1 b.2.1 (λd=>k [wB d] [] [])
theorem jn9:SO 226 jnS:=fK (np:=0) Zas [] oN false Tryz.func226 λ_ _ _ _=>by kernel_rfl
def j1p (s:List Int) (b:Int×Int×qS) (d:(List Int)->qP->Res):Res:=bif lim (List.length s) then dgE (λe k=>jg4 e b k) s [] (λr=>d r b) else none
def j4t:Sig Unit:=⟨[.eat y21 false,.clos 226 [y19]],[false],λvals ext k=>ao vals y21 [.O] λs vals=>nl vals<|ab ext y19 [.S,.S,.S,.S] λa0 f ext=>nl ext<|j1p s f (λd b=>k [w1 y21 d .O] [] [⟨y19,a0,b,[.S,.S,.S,.S]⟩])⟩
theorem jdS:Z17 Tryz.prog 225 j4t:=gS (jrO (U:=0) (T:=220) (e:=tI) (ag:=false) (τ:=y19) (tg:=[.S,.S,.S,.S]) (fl:=[]) (S:=56) (E:=3) (I:=3) (B:=4) follows j2e (by kernel_rfl) Tryz.underlying56 (by kernel_rfl) (by kernel_rfl) (by kernel_rfl) (by kernel_rfl) Tryz.isAgg220 Tryz.sizeOf220 (by kernel_rfl) (by kernel_rfl) (by kernel_rfl) Tryz.func280 (by kernel_rfl) (by kernel_rfl) (by kernel_rfl) (by kernel_rfl) jn9 (by kernel_rfl) Tryz.func225 (by kernel_rfl) (by kernel_rfl) (by kernel_rfl) (by kernel_rfl)) (by kernel_rfl)
theorem j8P:FS [(138,jbq),(171,jc9),(222,jdx),(223,j62),(224,jbs),(225,j4t)]:=(Za6 jkU (Za6 jmd (Za6 jn8 (Za6 jfa (Za6 jkW (Za6 jdS Zas))))))
def j5N (l:List qP) (i:Int) (d:qF×List qR) (r:Int×Int×qS) (b:Int->qD->Res):Res:=bif Z8e 0 i (List.length l) then Z87 (j5K (sub l 0 i) r.2.1 λn=>Z87 (j2g d n λg h w=>Z87 (Z87 (b h g) (Z87 (b h g) (b h g))) (Z87 (Z87 (b h g) (Z87 (b h g) (b h g))) (Z87 (Z87 (b h g) (b h g)) (Z87 (Z87 (b h g) (b h g)) (b h g))))) (j2g d n λj k y=>Z87 (Z87 (b k j) (b k j)) (Z87 (Z87 (b k j) (b k j)) (b k j)))) (j5K (sub l 0 i) r.2.1 λq=>j2g d q λm f p=>Z87 (Z87 (b f m) (b f m)) (Z87 (Z87 (b f m) (b f m)) (b f m))) else none
def j4D:Z1d Unit:=Nd 84 84 [.R 1 y20 .S,.t 2 (.clos 171 []),.t 3 (pB 3),.t 6 (pB 6),.R 8 y21 .O,.R 9 y21 .O,.I 10,.t 11 (pB 11),.R 17 y20 .S,.I 18,.I 19] [(3,y33,[.S,.S]),(6,y33,[.O,.O]),(11,y19,[.S,.S,.S,.S])] λb d f=>j5N b.1 b.2.2.2.1 d.1.2 d.2.2.1.2 (λcode next=>f .normal [(1,v1 y20 b.1 .S),(2,.clos 171 []),(3,pB 3),(6,pB 6),(8,v1 y21 b.2.1 .O),(9,v1 y21 b.2.2.1 .O),(10,vI b.2.2.2.1),(11,pB 11),(12,pB 12),(13,vI code),(17,v1 y20 b.2.2.2.2.1 .S),(18,vI b.2.2.2.2.2.1),(19,vI b.2.2.2.2.2.2.1)] [(3,⟨y33,d.1.1,d.1.2,[.S,.S]⟩),(6,⟨y33,d.2.1.1,d.2.1.2,[.O,.O]⟩),(11,⟨y19,d.2.2.1.1,d.2.2.1.2,[.S,.S,.S,.S]⟩),(12,⟨y33,false,next,[.O,.O]⟩)])
theorem jmI:CN 0 478452 Tryz.f170 j4D:=nK j8P [] oN ([1,2,3,6,8,9,10,11,12,13,17,18,19],[3,6,11,12]) [] ([],[]) λ_ _ _=>by delta j5N jbs jbq;refine gz j5K λ_ b=>gz j2g λ_ d=> ?_;rewrite [<-b,<-d];kernel_rfl
def j7N (l:List qP) (i:Int) (b:Bool) (d:qF×List qR) (r:Int×Int×qS) (f:qD->Res) (g:Unit->Res):Res:=bif b then j5N l i d r λcode next=>bif (code != 0) then g () else jeO (Z9K (i+1)) d λ_=>f next else f d
def j73:Z1d Unit:=λσ k=>rdN σ 84<|rd1 σ 1 y20 .S λl=>rdT σ 2 (.clos 171 [])<|rdT σ 3 (pB 3)<|rdT σ 6 (pB 6)<|rd1 σ 8 y21 .O λb=>rd1 σ 9 y21 .O λf=>rdI σ 10 λi=>rdT σ 11 (pB 11)<|rd1 σ 17 y20 .S λg=>rdI σ 18 λh=>rdI σ 19 λj=>rdO σ 54 λm=>rdB σ 3 y33 [.S,.S] λa d=>rdB σ 6 y33 [.O,.O] λn w=>rdB σ 11 y19 [.S,.S,.S,.S] λp r=>j7N l i m d r (λq=>k .normal (mkS 84 84 [(1,v1 y20 l .S),(2,.clos 171 []),(3,pB 3),(6,pB 6),(8,v1 y21 b .O),(9,v1 y21 f .O),(11,pB 11),(17,v1 y20 g .S),(18,vI h),(19,vI j)] [(3,⟨y33,a,q,[.S,.S]⟩),(6,⟨y33,n,w,[.O,.O]⟩),(11,⟨y19,p,r,[.S,.S,.S,.S]⟩)])) (λ_=>k .ret (mkS 84 84 [(6,pB 6),(7,vB false)] [(6,⟨y33,n,([],[]),[.O,.O]⟩)]))
theorem jmJ:CN 0 119613 Tryz.f170 j73:=λz=>jq2 follows j2e j8P z [j4D] (oI 4 0 @jmI oN) ([1,2,3,6,8,9,11,17,18,19],[3,6,11]) [] ([6,7],[6]) [(0,[],[(3,[.S,.S])])] λσ k _ h=>rN h λK h=>rV h λl E h=>rT h λF h=>rT h λG h=>rT h λH h=>rV h λA I h=>rV h λB J h=>rV h λi f h=>rT h λg h=>rV h λL j h=>rV h λM n h=>rV h λP p h=>rV h λQ q h=>rB h λa d w h=>rB h λR U y h=>rB h λT r b h=>⟨_,ZaM (m:=84) K (sC E (sC F (sC G (sC H (sC I (sC J (sC f (sC g (sC j (sC n (sC p (sC q sN)))))))))))) (bC w (bC y (bC b bN))),.trans (by delta j7N j4D jc9;refine gz j5N λ_ C=>gz jeO λ_ D=> ?_;rewrite [<-C,<-D];kernel_rfl) h⟩
def j3m (l:List qP) (g:List qP) (j:Int) (f:List Int) (h:List Int) (b:Int) (d:qF×List qR) (rec:(List Int)->(List Int)->Int->qD->Res) (m:qD->Res) (i:Unit->Res):Res:=bif decide (b<j) then bif inb b (List.length g) then j8g (nth (0,0,0,eS,[],[],0,eS,[],[],eS,eS) g b) λr=>bif !r then i () else bif ((nth (0,0,0,eS,[],[],0,eS,[],[],eS,eS) g b).1==1) then j14 h (nth (0,0,0,eS,[],[],0,eS,[],[],eS,eS) g b).2.1 λn=>bif n then i () else bif lim ((List.length h)+1) then bif lim ((List.length f)+1) then rec (f++[(nth (0,0,0,eS,[],[],0,eS,[],[],eS,eS) g b).2.1]) (h++[(nth (0,0,0,eS,[],[],0,eS,[],[],eS,eS) g b).2.1]) (Z9K (b+1)) d else none else none else j14 f (nth (0,0,0,eS,[],[],0,eS,[],[],eS,eS) g b).2.1 λp=>bif !p then i () else j7N l b ((nth (0,0,0,eS,[],[],0,eS,[],[],eS,eS) g b).1==3) d (nth (0,0,0,eS,[],[],0,eS,[],[],eS,eS) g b) (λk=>bif ((nth (0,0,0,eS,[],[],0,eS,[],[],eS,eS) g b).1 != 2) then j1p f (nth (0,0,0,eS,[],[],0,eS,[],[],eS,eS) g b) λq w=>rec q h (Z9K (b+1)) k else rec f h (Z9K (b+1)) k) (λ_=>i ()) else none else m d
def j8h (l:List qP) (g:List qP) (h:Int):((List Int)×(List Int)×Int×qD)->((List Int)×(List Int)×Int×qD->Res)->((qD->Res)×(Unit->Res))->Res:=λv rec q=>j3m l g h v.1 v.2.1 v.2.2.1 v.2.2.2 (λb f i d=>rec (b,f,i,d)) q.1 q.2
def jhw (l:List qP) (g:List qP) (h:Int) (n:Nat) (b:List Int) (f:List Int) (i:Int) (d:qF×List qR) (j:qD->Res) (k:Unit->Res):Res:=Z1f (j8h l g h) n (b,f,i,d) (j,k)
def jcq:Z1d Unit:=NdL 84 84 [.R 1 y20 .S,.t 2 (.clos 171 []),.t 3 (pB 3),.t 6 (pB 6),.R 8 y21 .O,.R 9 y21 .O,.R 17 y20 .S,.I 18,.I 19] [(3,y33,[.S,.S]),(6,y33,[.O,.O])] (λb d=>(b.2.1,b.2.2.1,b.2.2.2.2.2.1,d.1.2)) (λb v=>(b.1,v.1,v.2.1,b.2.2.2.1,b.2.2.2.2.1,v.2.2.1,())) (λd v=>((d.1.1,v.2.2.2),(d.2.1.1,d.2.1.2),())) (λb d=>j8h b.1 b.2.2.2.1 b.2.2.2.2.1) λb d f=>((λg=>f (.exit 0) [(3,pB 3),(6,pB 6)] [(3,⟨y33,d.1.1,g,[.S,.S]⟩),(6,⟨y33,d.2.1.1,d.2.1.2,[.O,.O]⟩)]),(λ_=>f .ret [(6,pB 6),(7,vB false)] [(6,⟨y33,d.2.1.1,([],[]),[.O,.O]⟩)]))
theorem jmH:CN 0 58 Tryz.f170 jcq:=lK j8P [j4D,j73] (oI 1853 1 @jmJ oN) ([],[]) [(0,[3,6],[3,6])] ([6,7],[6]) λ_ _ _ _ _=>by delta j8h j3m jdx j62 j73 j4t;refine gz j8g λ_ b=>gz j14 λ_ d=>gz j7N λ_ f=>gz j1p λ_ g=> ?_;rewrite [<-b,<-d,<-f,<-g];kernel_rfl
def jdf (l:List qP) (d:qF×List qR) (b:Bool->qD->Res):Res:=jhw l l (nI (List.length l)) Z1c [] [] 0 d (λf=>b true f) (λ_=>b false ([],[]))
def jgW:Z1d Unit:=λσ k=>rdN σ 84<|rd1 σ 1 y20 .S λl=>rdT σ 2 (.clos 171 [])<|rdT σ 3 (pB 3)<|rdT σ 6 (pB 6)<|rdB σ 3 y33 [.S,.S] λa d=>rdB σ 6 y33 [.O,.O] λf h=>jdf l d (λg b=>k .ret (mkS 84 84 [(6,pB 6),(7,vB g)] [(6,⟨y33,f,b,[.S,.S]⟩)]))
theorem jmK:CN 0 3 Tryz.f170 jgW:=λg=>jq2 follows j2e j8P g [j4D,j73,jcq] (oI 26 2 @jmH oN) ([],[]) [] ([6,7],[6]) [(1,[],[(6,[.S,.S])])] λσ k _ h=>rN h λq h=>rV h λl i h=>rT h λj h=>rT h λn h=>rT h λp h=>rB h λa d b h=>rB h λr w f h=>⟨_,ZaM (m:=84) q (sC i (sC j (sC n (sC p sN)))) (bC b (bC f bN)),.trans (by kernel_rfl) h⟩
def jea (d:qF×List qR) (l:List qP) (b:qD->Bool->Res):Res:=jdf l d λt f=>b f t
def joD:Sig Unit:=sg [.borrow y33 true,.borrow y20 false,.clos 171 []] [true,false] [(y33,none),(y20,none)] [] λb g k=>jea b.1 b.2.1 (λd f=>k [⟨y33,true,d,[.S,.S]⟩,wB f] [] [])
theorem jol:SO 170 joD:=fK (np:=0) j8P [j4D,j73,jcq,jgW] (oI 3 3 @jmK oN) false Tryz.func170 λ_ _ _ _=>by kernel_rfl
def ja9 (l:List qP) (b:Bool->Res):Res:=bif decide ((nI (List.length l))>400) then b false else jea ([],[]) l λr d=>b d
def jhP:Sig Unit:=sg [.look y20 false] [false] [(y20,none)] [] λd f k=>ja9 d.1 (λb=>k [wB b] [] [])
theorem jhc:SO 104 jhP:=fK (np:=0) (Za6 jol Zas) [] oN false Tryz.func104 λ_ _ _ _=>by kernel_rfl
end
end Go.PI.G
namespace Go.PI.G
noncomputable section
open Go Go.PI Go.Proofs
open Go.Code (pl pr)
def j2T (f:List qP) (g:Int) (d:List Int) (b:Int) (rec:(List Int)->Int->Res) (h:(List Int)->Res):Res:=bif decide (b<g) then bif inb b (List.length f) then bif ((nth (0,0,0,eS,[],[],0,eS,[],[],eS,eS) f b).1==3) then bif lim ((List.length d)+1) then rec (d++[Z9K (b+1)]) (Z9K (b+1)) else none else rec d (Z9K (b+1)) else none else h d
def j5m (d:List qP) (f:Int):((List Int)×Int)->((List Int)×Int->Res)->(((List Int)->Res))->Res:=λv rec q=>j2T d f v.1 v.2 (λb g=>rec (b,g)) q
def jaE (d:List qP) (f:Int) (n:Nat) (b:List Int) (g:Int) (h:(List Int)->Res):Res:=Z1f (j5m d f) n (b,g) (h)
def j9M:Z1d Unit:=NdL 28 28 [.R 3 y21 .O,.R 11 y20 .S,.I 12,.I 13] [] (λb f=>(b.1,b.2.2.2.1)) (λb v=>(v.1,b.2.1,b.2.2.1,v.2,())) (λf v=>()) (λb f=>j5m b.2.1 b.2.2.1) λb f g=>((λd=>g (.exit 0) [(3,v1 y21 d .O)] []))
theorem jjq:CN 0 122 Tryz.f108 j9M:=lK (Za6 jhp Zas) [] oN ([],[]) [(0,[3],[])] ([],[]) λ_ _ _ _ _=>by kernel_rfl
def j6d (l:List qP) (d:(List Int)->Res):Res:=jaF l λr=>bif !r then d [] else jaE l (nI (List.length l)) Z1c [] 0 λb=>d b
def jfB:Sig Unit:=sg [.borrow y20 false] [false] [(y20,none)] [] λd f k=>j6d d.1 (λb=>k [w1 y21 b .O] [] [])
theorem jfe:SO 108 jfB:=fK (np:=0) (Za6 jhp Zas) [j9M] (oI 122 0 @jjq oN) false Tryz.func108 λ_ _ _ _=>by delta j6d jhX j9M jaE;refine gz jaF λ_ b=>gz j5m λ_ d=> ?_;rewrite [<-b,<-d];kernel_rfl
def j2J (f:List qP) (g:Int) (d:List Int) (b:Int) (rec:(List Int)->Int->Res) (h:(List Int)->Res):Res:=bif decide (b<g) then bif inb b (List.length f) then bif ((nth (0,0,0,eS,[],[],0,eS,[],[],eS,eS) f b).1==3) then bif lim ((List.length d)+1) then rec (d++[Z9K (b+1)]) (Z9K (b+1)) else none else rec d (Z9K (b+1)) else none else h d
def j5g (d:List qP) (f:Int):((List Int)×Int)->((List Int)×Int->Res)->(((List Int)->Res))->Res:=λv rec q=>j2J d f v.1 v.2 (λb g=>rec (b,g)) q
def ja7 (d:List qP) (f:Int) (n:Nat) (b:List Int) (g:Int) (h:(List Int)->Res):Res:=Z1f (j5g d f) n (b,g) (h)
def j9F:Z1d Unit:=NdL 28 28 [.R 3 y21 .O,.R 11 y20 .S,.I 12,.I 13] [] (λb f=>(b.1,b.2.2.2.1)) (λb v=>(v.1,b.2.1,b.2.2.1,v.2,())) (λf v=>()) (λb f=>j5g b.2.1 b.2.2.1) λb f g=>((λd=>g (.exit 0) [(3,v1 y21 d .O)] []))
theorem jjb:CN 0 122 Tryz.f109 j9F:=lK (Za6 jhc Zas) [] oN ([],[]) [(0,[3],[])] ([],[]) λ_ _ _ _ _=>by kernel_rfl
def j5F (l:List qP) (d:(List Int)->Res):Res:=ja9 l λr=>bif !r then d [] else ja7 l (nI (List.length l)) Z1c [] 0 λb=>d b
def jfz:Sig Unit:=sg [.borrow y20 false] [false] [(y20,none)] [] λd f k=>j5F d.1 (λb=>k [w1 y21 b .O] [] [])
theorem jf4:SO 109 jfz:=fK (np:=0) (Za6 jhc Zas) [j9F] (oI 122 0 @jjb oN) false Tryz.func109 λ_ _ _ _=>by delta j5F jhP j9F ja7;refine gz ja9 λ_ b=>gz j5g λ_ d=> ?_;rewrite [<-b,<-d];kernel_rfl
end
end Go.PI.G
