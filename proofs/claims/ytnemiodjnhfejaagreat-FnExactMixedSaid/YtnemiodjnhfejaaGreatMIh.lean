/-
  Program's code interpreted over typed values; printed texts; plain laws. No conditions.
-/
import Derived.Test.YtnemiodjnhfejaaGreatMId
import Derived.Test.YtnemiodjnhfejaaGreatMIe
import Derived.Test.YtnemiodjnhfejaaGreatMIf
import Derived.Test.YtnemiodjnhfejaaGreatMIg
set_option linter.unusedVariables false
set_option maxRecDepth 100000
namespace Go.PI.G
noncomputable section
open Go Go.PI Go.Proofs
open Go.Code (pl pr)
def j2P (d:List qV) (h:Int) (b:Int) (rec:Int->Res) (f:Unit->Res) (g:Unit->Res):Res:=bif decide (b<h) then bif inb b (List.length d) then j18 (nth (0,0,eS) d b) λr=>bif !r then g () else rec (Z9K (b+1)) else none else f ()
def j7T (b:List qV) (d:Int):Int->(Int->Res)->((Unit->Res)×(Unit->Res))->Res:=λv rec q=>j2P b d v (λf=>rec (f)) q.1 q.2
def jd6 (f:List qV) (g:Int) (n:Nat) (h:Int) (b:Unit->Res) (d:Unit->Res):Res:=Z1f (j7T f g) n (h) (b,d)
def jcB:Z1d Unit:=NdL 23 23 [.R 0 y3 .S,.R 5 y3 .S,.I 6,.I 7] [] (λb d=>(b.2.2.2.1)) (λb v=>(b.1,b.2.1,b.2.2.1,v,())) (λd v=>()) (λb d=>j7T b.2.1 b.2.2.1) λb d f=>((λ_=>f (.exit 0) [(0,v1 y3 b.1 .S)] []),(λ_=>f .ret [(2,vB false)] []))
theorem jhV:CN 0 26 Tryz.f208 jcB:=lK (Za6 j6Q Zas) [] oN ([],[]) [(0,[0],[])] ([2],[]) λ_ _ _ _ _=>by kernel_rfl
def j2b (l:List qV) (b:Bool->Res):Res:=jd6 l (nI (List.length l)) Z1c 0 (λ_=>bif decide ((nI (List.length l))>=1) then b (decide ((nI (List.length l))<=8)) else b false) (λ_=>b false)
def jau:Sig Unit:=sg [.look y3 false] [false] [(y3,none)] [] λd f k=>j2b d.1 (λb=>k [wB b] [] [])
theorem jje:SO 208 jau:=fK (np:=0) (Za6 j6Q Zas) [jcB] (oI 26 0 @jhV oN) false Tryz.func208 λ_ _ _ _=>by kernel_rfl
def j19 (d:qG) (b:Bool->Res):Res:=bif (d.1==0) then bif sEq d.2.1 eS then bif ((nI (List.length d.2.2.1))==0) then bif ((nI (List.length d.2.2.2.1))==0) then bif sEq d.2.2.2.2.1 eS then b (sEq d.2.2.2.2.2 eS) else b false else b false else b false else b false else b false
def j9w:Sig Unit:=sg [.look y13 true] [false] [(y13,none)] [] λd f k=>j19 d.1 (λb=>k [wB b] [] [])
theorem jcL:SO 209 j9w:=fK (np:=0) Zas [] oN false Tryz.func209 λ_ _ _ _=>by kernel_rfl
theorem jf4:FS [(154,j2t),(208,jau),(209,j9w),(210,j3u)]:=(Za6 j8f (Za6 jje (Za6 jcL (Za6 jbW Zas))))
def j5w (d:Bool) (f:Bool) (s:qS) (b:Bool->Res):Res:=bif (s.1==1) then bif d then j2b s.2.2.2.1 λr=>bif r then j19 s.2.2.2.2 λg=>b g else b false else b false else bif (s.1==2) then j2b s.2.2.1 λh=>bif h then j2b s.2.2.2.1 λi=>bif i then j19 s.2.2.2.2 λj=>b j else b false else b false else bif (s.1==3) then j2b s.2.2.1 λk=>bif k then bif f then j19 s.2.2.2.2 λl=>b l else b false else b false else bif (s.1==4) then bif d then bif f then j19 s.2.2.2.2 λm=>b m else b false else b false else bif (s.1==5) then bif d then bif f then j20 s.2.2.2.2 λn=>bif n then b (sEq s.2.2.2.2.2.1 s.2.1) else b false else b false else b false else b false
def j9U:Z1d Unit:=Nd 93 93 [.t 1 (pB 1),.B 3,.B 4] [(1,y17,[.S,.S,.S,.S])] λb g d=>j5w b.1 b.2.1 g.1.2 (λf=>d .ret [(2,vB f)] [])
theorem jiI:CN 0 31 Tryz.f155 j9U:=nK jf4 [] oN ([],[]) [] ([2],[]) λ_ _ _=>by delta j5w jau j9w j3u;refine gz j2b λ_ b=>gz j19 λ_ d=>gz j20 λ_ f=> ?_;rewrite [<-b,<-d,<-f];kernel_rfl
def j2Y (s:qS) (b:Bool->Res):Res:=j0y s.2.1 λr=>bif !r then b false else j5w ((nI (List.length s.2.2.1))==0) ((nI (List.length s.2.2.2.1))==0) s λt=>b t
def j69:Sig Unit:=sg [.look y17 true] [false] [(y17,none)] [] λd f k=>j2Y d.1 (λb=>k [wB b] [] [])
theorem jfd:SO 155 j69:=fK (np:=0) jf4 [j9U] (oI 31 0 @jiI oN) false Tryz.func155 λ_ _ _ _=>by delta j2Y j2t j9U;refine gz j0y λ_ b=>gz j5w λ_ d=> ?_;rewrite [<-b,<-d];kernel_rfl
theorem jgT:FS [(172,j16),(242,j72)]:=(Za6 j3U (Za6 jfX Zas))
def j5u (f:List qT) (g:Int) (d:qF×List qR) (b:Int) (rec:Int->Res) (h:Unit->Res) (i:Unit->Res):Res:=bif decide (b<g) then bif inb b (List.length f) then bif inb b (List.length d.2) then j0r (nth (eS,[],[]) f b) (nth [] d.2 b) λr=>bif !r then i () else rec (Z9K (b+1)) else none else none else h ()
def j7y (b:List qT) (f:Int) (d:qF×List qR):Int->(Int->Res)->((Unit->Res)×(Unit->Res))->Res:=λv rec q=>j5u b f d v (λg=>rec (g)) q.1 q.2
def jcs (b:List qT) (f:Int) (d:qF×List qR) (n:Nat) (g:Int) (h:Unit->Res) (i:Unit->Res):Res:=Z1f (j7y b f d) n (g) (h,i)
def jbp:Z1d Unit:=NdL 38 38 [.t 1 (pB 1),.R 21 y30 .S,.I 22,.I 23] [(1,y33,[.S,.S])] (λb d=>(b.2.2.1)) (λb v=>(b.1,b.2.1,v,())) (λd v=>((d.1.1,d.1.2),())) (λb d=>j7y b.1 b.2.1 d.1.2) λb d f=>((λ_=>f (.exit 0) [] []),(λ_=>f .ret [(2,vB false)] []))
theorem jkZ:CN 0 58 Tryz.f186 jbp:=lK jgT [] oN ([],[]) [(0,[],[])] ([2],[]) λ_ _ _ _ _=>by kernel_rfl
def j5H (d:qF×List qR) (b:Bool->Res):Res:=j5T d.1 λr=>bif !r then b false else bif ((nI (List.length d.2)) != (nI (List.length d.1))) then b false else jcs d.1 (nI (List.length d.1)) d Z1c 0 (λ_=>b true) (λ_=>b false)
def j89:Sig Unit:=sg [.look y33 true] [false] [(y33,none)] [] λd f k=>j5H d.1 (λb=>k [wB b] [] [])
theorem jgW:SO 186 j89:=fK (np:=0) jgT [jbp] (oI 58 0 @jkZ oN) false Tryz.func186 λ_ _ _ _=>by delta j5H j72 jbp jcs;refine gz j5T λ_ b=>gz j7y λ_ d=> ?_;rewrite [<-b,<-d];kernel_rfl
theorem jdM:FS [(243,j5n),(244,j7v)]:=(Za6 jdZ (Za6 je0 Zas))
def j2O (f:List qR) (g:Int) (d:Int) (b:qF×List qR) (rec:Int->qD->Res) (h:qD->Res):Res:=bif decide (d<g) then bif inb d (List.length f) then j5z (nth [] f d) λr=>bif lim ((List.length b.2)+1) then rec (Z9K (d+1)) (b.1,(b.2++[r])) else none else none else h b
def j4P (d:List qR) (f:Int):(Int×qD)->(Int×qD->Res)->((qD->Res))->Res:=λv rec q=>j2O d f v.1 v.2 (λg b=>rec (g,b)) q
def j9F (d:List qR) (f:Int) (n:Nat) (g:Int) (b:qF×List qR) (h:qD->Res):Res:=Z1f (j4P d f) n (g,b) (h)
def j8T:Z1d Unit:=NdL 28 28 [.t 2 (pB 2),.t 3 (pB 3),.R 11 y32 .S,.I 12,.I 13] [(2,y33,[.O,.O]),(3,y33,[.O,.O])] (λd b=>(d.2.2.1,b.2.1.2)) (λd v=>(d.1,d.2.1,v.1,())) (λb v=>((b.1.1,b.1.2),(b.2.1.1,v.2),())) (λd b=>j4P d.1 d.2.1) λd b g=>((λf=>g (.exit 0) [(2,pB 2),(3,pB 3)] [(2,⟨y33,b.1.1,b.1.2,[.O,.O]⟩),(3,⟨y33,b.2.1.1,f,[.O,.O]⟩)]))
theorem jhU:CN 0 58 Tryz.f187 j8T:=lK jdM [] oN ([],[]) [(0,[2,3],[2,3])] ([],[]) λ_ _ _ _ _=>by kernel_rfl
def j1v (d:qF×List qR) (f:qD->Res):Res:=j3A d.1 λr=>j9F d.2 (nI (List.length d.2)) Z1c 0 (r,[]) λb=>f b
def j5o:Sig Unit:=sg [.borrow y33 true] [true] [(y33,none)] [] λd f k=>j1v d.1 (λb=>k [⟨y33,true,b,[.O,.O]⟩] [] [])
theorem je2:SO 187 j5o:=fK (np:=0) jdM [j8T] (oI 58 0 @jhU oN) false Tryz.func187 λ_ _ _ _=>by delta j1v j5n j8T j9F;refine gz j3A λ_ b=>gz j4P λ_ d=> ?_;rewrite [<-b,<-d];kernel_rfl
def j15 (t:qB×qE×qL) (l:List qW) (s:qS) (b:qR->Int->Res):Res:=bif (s.1==1) then j6n t l s.2.2.2.1 λr d=>b r d else bif (s.1==2) then j6o t l s.2.2.1 s.2.2.2.1 λf g=>b f g else bif (s.1==3) then j6m t l s.2.2.1 λh i=>b h i else bif (s.1==5) then j5v t l s.2.2.2.2 λj k=>b j k else b [] 0
def j5p:Sig Unit:=sg [.borrow y29 true,.borrow y31 false,.borrow y17 true] [false,false] [(y29,none),(y31,none),(y17,none)] [] λb g k=>j15 b.1 b.2.1 b.2.2.1 (λd f=>k [w1 y31 d .O,wI f] [] [])
theorem je3:SO 246 j5p:=fK (np:=0) (Za6 jkF (Za6 jkG (Za6 jkE (Za6 jjc Zas)))) [] oN false Tryz.func246 λ_ _ _ _=>by delta j15 jft jfu jfs jei;refine gz j6n λ_ b=>gz j6o λ_ d=>gz j6m λ_ f=>gz j5v λ_ g=> ?_;rewrite [<-b,<-d,<-f,<-g];kernel_rfl
theorem j5I:FS [(113,j3v),(244,j7v),(246,j5p),(287,j4h)]:=(Za6 jbZ (Za6 je0 (Za6 je3 (Za6 jcK Zas))))
def j2N (b:Int) (s:qS) (t:qB×qE×qL) (d:Bool->Res):Res:=bif decide (b>=0) then d (sEq t.1 s.2.1) else d false
def j2d:Z1d Unit:=Nd 86 86 [.t 2 (pB 2),.t 3 (pB 3),.t 4 (pB 4),.t 8 (pB 8),.t 10 (pB 10),.t 11 (pB 11),.I 12,.R 29 y30 .S,.I 30,.I 31] [(2,y33,[.S,.S]),(3,y17,[.S,.S,.S,.S]),(4,y33,[.O,.O]),(8,y33,[.S,.O]),(10,y29,[.S,.S]),(11,y31,[.O])] λd b g=>j2N d.1 b.2.1.2 b.2.2.2.2.1.2 (λf=>g .normal [(2,pB 2),(3,pB 3),(4,pB 4),(8,pB 8),(11,pB 11),(12,vI d.1),(29,v1 y30 d.2.1 .S),(30,vI d.2.2.1),(31,vI d.2.2.2.1),(49,vB f)] [(2,⟨y33,b.1.1,b.1.2,[.S,.S]⟩),(3,⟨y17,b.2.1.1,b.2.1.2,[.S,.S,.S,.S]⟩),(4,⟨y33,b.2.2.1.1,b.2.2.1.2,[.O,.O]⟩),(8,⟨y33,b.2.2.2.1.1,b.2.2.2.1.2,[.S,.O]⟩),(11,⟨y31,b.2.2.2.2.2.1.1,b.2.2.2.2.2.1.2,[.O]⟩)])
theorem jgj:CN 0 256412 Tryz.f245 j2d:=nK j5I [] oN ([2,3,4,8,11,12,29,30,31,49],[2,3,4,8,11]) [] ([],[]) λ_ _ _=>by kernel_rfl
def j1C (b:Int) (g:Bool) (d:qF×List qR) (s:qS) (x:List qW) (f:qR->Res):Res:=bif g then bif inb b (List.length d.1) then bif inb b (List.length d.2) then j15 (nth (eS,[],[]) d.1 b) (nth [] d.2 b) s λr i=>Z87 (f r) (f r) else none else none else bif decide (b>=0) then bif inb b (List.length d.2) then j5z (nth [] d.2 b) λh=>f h else none else f x
def j4v:Z1d Unit:=Nd 86 86 [.t 2 (pB 2),.t 3 (pB 3),.t 4 (pB 4),.t 8 (pB 8),.t 11 (pB 11),.I 12,.R 29 y30 .S,.I 30,.I 31,.B 49] [(2,y33,[.S,.S]),(3,y17,[.S,.S,.S,.S]),(4,y33,[.O,.O]),(8,y33,[.S,.O]),(11,y31,[.O])] λd b f=>j1C d.1 d.2.2.2.2.1 b.1.2 b.2.1.2 b.2.2.2.2.1.2 (λg=>f .normal [(2,pB 2),(3,pB 3),(4,pB 4),(8,pB 8),(11,pB 11),(29,v1 y30 d.2.1 .S),(30,vI d.2.2.1),(31,vI d.2.2.2.1)] [(2,⟨y33,b.1.1,b.1.2,[.S,.S]⟩),(3,⟨y17,b.2.1.1,b.2.1.2,[.S,.S,.S,.S]⟩),(4,⟨y33,b.2.2.1.1,b.2.2.1.2,[.O,.O]⟩),(8,⟨y33,b.2.2.2.1.1,b.2.2.2.1.2,[.S,.O]⟩),(11,⟨y31,b.2.2.2.2.1.1,g,[.O]⟩)])
theorem jgk:CN 0 256413 Tryz.f245 j4v:=nK j5I [j2d] oN ([2,3,4,8,11,29,30,31],[2,3,4,8,11]) [] ([],[]) λ_ _ _=>by delta j1C j5p j7v;refine gz j15 λ_ b=>gz j5z λ_ d=> ?_;rewrite [<-b,<-d];kernel_rfl
def j0Z (g:List qT) (h:Int) (d:qF×List qR) (s:qS) (b:Int) (f:qF×List qR) (rec:Int->qD->Res) (i:qD->Res):Res:=bif decide (b<h) then bif inb b (List.length g) then j22 d.1 (nth (eS,[],[]) g b).1 λr=>j2N r s (nth (eS,[],[]) g b) λt=>j1C r t d s [] λx=>bif lim ((List.length f.2)+1) then rec (Z9K (b+1)) (f.1,(f.2++[x])) else none else none else i f
def j1P (f:List qT) (g:Int) (d:qF×List qR) (s:qS):(Int×qD)->(Int×qD->Res)->((qD->Res))->Res:=λv rec q=>j0Z f g d s v.1 v.2 (λh b=>rec (h,b)) q
def j4O (f:List qT) (g:Int) (d:qF×List qR) (s:qS) (n:Nat) (h:Int) (b:qF×List qR) (i:qD->Res):Res:=Z1f (j1P f g d s) n (h,b) (i)
def j7f:Z1d Unit:=NdL 86 86 [.t 2 (pB 2),.t 3 (pB 3),.t 4 (pB 4),.t 8 (pB 8),.R 29 y30 .S,.I 30,.I 31] [(2,y33,[.S,.S]),(3,y17,[.S,.S,.S,.S]),(4,y33,[.O,.O]),(8,y33,[.S,.O])] (λd b=>(d.2.2.1,b.2.2.2.1.2)) (λd v=>(d.1,d.2.1,v.1,())) (λb v=>((b.1.1,b.1.2),(b.2.1.1,b.2.1.2),(b.2.2.1.1,b.2.2.1.2),(b.2.2.2.1.1,v.2),())) (λd b=>j1P d.1 d.2.1 b.1.2 b.2.1.2) λd b g=>((λf=>g (.exit 0) [(4,pB 4),(8,pB 8)] [(4,⟨y33,b.2.2.1.1,b.2.2.1.2,[.O,.O]⟩),(8,⟨y33,b.2.2.2.1.1,f,[.S,.O]⟩)]))
theorem jgi:CN 0 250 Tryz.f245 j7f:=lK j5I [j2d,j4v] (oI 924 0 @jgj (oI 925 1 @jgk oN)) ([],[]) [(0,[4,8],[4,8])] ([],[]) λ_ _ _ _ _=>by delta j1P j0Z j3v j2d j4v;refine gz j22 λ_ b=>gz j2N λ_ d=>gz j1C λ_ f=> ?_;rewrite [<-b,<-d,<-f];kernel_rfl
def j38 (d:qF×List qR) (s:qS) (f:qD->Int->Res):Res:=j1G d.1 s.2.2.2.2 λr g=>bif (g != 0) then f ([],[]) (Z9K (10+g)) else j4O r (nI (List.length r)) d s Z1c 0 (r,[]) λb=>f b 0
def j8A:Sig Unit:=sg [.borrow y33 true,.borrow y17 true] [true,false] [(y33,none),(y17,none)] [] λb g k=>j38 b.1 b.2.1 (λd f=>k [⟨y33,true,d,[.S,.S]⟩,wI f] [] [])
theorem jhl:SO 245 j8A:=fK (np:=0) j5I [j2d,j4v,j7f] (oI 250 2 @jgi oN) true Tryz.func245 λ_ _ _ _=>by delta j38 j4h j7f j4O;refine gz j1G λ_ b=>gz j1P λ_ d=> ?_;rewrite [<-b,<-d];kernel_rfl
theorem jgU:FS [(113,j3v),(155,j69),(186,j89),(187,j5o),(245,j8A),(246,j5p)]:=(Za6 jbZ (Za6 jfd (Za6 jgW (Za6 je2 (Za6 jhl (Za6 je3 Zas))))))
def j78 (b:Int) (s:qS) (d:Unit->Res) (f:Unit->Res):Res:=bif decide (b<0) then bif (s.1 != 5) then f () else bif (s.2.2.2.2.1 != 1) then f () else d () else d ()
def jbq:Z1d Unit:=Nd 77 77 [.t 2 (pB 2),.t 3 (pB 3),.t 4 (pB 4),.I 6] [(2,y33,[.S,.S]),(3,y17,[.S,.S,.S,.S]),(4,y33,[.O,.O])] λf b d=>j78 f.1 b.2.1.2 (λ_=>d .normal [(2,pB 2),(3,pB 3),(4,pB 4),(6,vI f.1)] [(2,⟨y33,b.1.1,b.1.2,[.S,.S]⟩),(3,⟨y17,b.2.1.1,b.2.1.2,[.S,.S,.S,.S]⟩),(4,⟨y33,b.2.2.1.1,b.2.2.1.2,[.O,.O]⟩)]) (λ_=>d .ret [(4,pB 4),(5,vI 4)] [(4,⟨y33,b.2.2.1.1,([],[]),[.O,.O]⟩)])
theorem jl0:CN 0 30 Tryz.f188 jbq:=nK jgU [] oN ([2,3,4,6],[2,3,4]) [] ([4,5],[4]) λ_ _ _=>by kernel_rfl
def j77 (d:qF×List qR) (s:qS) (f:qD->Int->Res):Res:=j5H d λr=>bif !r then f ([],[]) 1 else j2Y s λi=>bif !i then f ([],[]) 1 else j22 d.1 s.2.1 λb=>j78 b s (λ_=>bif (s.1==5) then j38 d s λj k=>f j k else bif inb b (List.length d.1) then bif inb b (List.length d.2) then j15 (nth (eS,[],[]) d.1 b) (nth [] d.2 b) s λl h=>bif (h != 0) then f ([],[]) (Z9K (10+h)) else j1v d λg=>bif inb b (List.length g.2) then f (g.1,upd g.2 b l) 0 else none else none else none) (λ_=>f ([],[]) 4)
def jh7:Sig Unit:=sg [.borrow y33 true,.borrow y17 true] [true,false] [(y33,none),(y17,none)] [] λb g k=>j77 b.1 b.2.1 (λd f=>k [⟨y33,true,d,[.S,.S]⟩,wI f] [] [])
theorem jmH:SO 188 jh7:=fK (np:=0) jgU [jbq] (oI 30 0 @jl0 oN) true Tryz.func188 λ_ _ _ _=>by delta j77 j89 j69 j3v jbq j8A j5p j5o;refine gz j5H λ_ b=>gz j2Y λ_ d=>gz j22 λ_ f=>gz j78 λ_ g=>gz j38 λ_ h=>gz j15 λ_ i=>gz j1v λ_ j=> ?_;rewrite [<-b,<-d,<-f,<-g,<-h,<-i,<-j];kernel_rfl
theorem jdL:FS [(186,j89),(187,j5o),(188,jh7)]:=(Za6 jgW (Za6 je2 (Za6 jmH Zas)))
def j2E (d:List qS) (f:Int) (b:Int) (now:qF×List qR) (rec:Int->qD->Res) (h:qD->Res) (i:Int->Int->Res):Res:=bif decide (b<f) then bif inb b (List.length d) then j77 now (nth (0,eS,[],[],0,eS,[],[],eS,eS) d b) λr g=>bif (g != 0) then i g b else rec (Z9K (b+1)) r else none else h now
def j4H (b:List qS) (d:Int):(Int×qD)->(Int×qD->Res)->((qD->Res)×(Int->Int->Res))->Res:=λv rec q=>j2E b d v.1 v.2 (λf now=>rec (f,now)) q.1 q.2
def j6F (b:List qS) (d:Int) (n:Nat) (f:Int) (now:qF×List qR) (g:qD->Res) (h:Int->Int->Res):Res:=Z1f (j4H b d) n (f,now) (g,h)
def j8J:Z1d Unit:=λσ k=>rdN σ 39<|rdT σ 4 (pB 4)<|rdT σ 7 (pB 7)<|rd1 σ 18 y27 .S λd=>rdI σ 19 λf=>rdI σ 20 λg=>rdB σ 4 y33 [.O,.O] λa i=>rdB σ 7 y33 [.S,.S] λh now=>j6F d f Z1c g now (λb=>k (.exit 0) (mkS 39 39 [(4,pB 4),(7,pB 7)] [(4,⟨y33,a,i,[.O,.O]⟩),(7,⟨y33,h,b,[.S,.S]⟩)])) (λj l=>k .ret (mkS 39 39 [(4,pB 4),(5,vI j),(6,vI l)] [(4,⟨y33,a,([],[]),[.O,.O]⟩)]))
def j8Q:Z1d Unit:=λσ k=>j8J (σ.wk [] [(7,[.S,.S])]) k
theorem jhI:CN 0 122 Tryz.f133 j8Q:=λp=>ZaJ [] [(7,[.S,.S])] (jlj follows j2o jdL p [] oN [4,7,18,19,20] [4,7] ([],[]) [(0,[4,7],[4,7])] ([4,5,6],[4]) (y:=j8J) λσ k _ h=>rN h λB h=>rT h λz h=>rT h λA h=>rV h λd g h=>rV h λf i h=>rV h λq j h=>rB h λa w l h=>rB h λr now n h=>⟨_,ZaM (m:=39) B (sC z (sC A (sC g (sC i (sC j sN))))) (bC l (bC n bN)),.trans (Z9u (λv:Int×qD=>(mkS 39 39 [(4,pB 4),(7,pB 7),(18,v1 y27 d .S),(19,vI f),(20,vI v.1)] [(4,⟨y33,a,w,[.O,.O]⟩),(7,⟨y33,r,v.2,[.S,.S]⟩)])) (j4H d f) (λ(k:Z83 Unit)=>(((λb=>k (.exit 0) (mkS 39 39 [(4,pB 4),(7,pB 7)] [(4,⟨y33,a,w,[.O,.O]⟩),(7,⟨y33,r,b,[.S,.S]⟩)])),(λC D=>k .ret (mkS 39 39 [(4,pB 4),(5,vI C),(6,vI D)] [(4,⟨y33,a,([],[]),[.O,.O]⟩)]))):(qD->Res)×(Int->Int->Res))) (λv rec k=>by kernel_rfl) Z1c (q,now) k) h⟩)
def j2a (d:qF×List qR) (l:List qS) (b:qD->Int->Int->Res):Res:=j5H d λr=>bif !r then b ([],[]) 1 0 else j1v d λf=>j6F l (nI (List.length l)) Z1c 0 f (λnow=>b now 0 0) (λt g=>b ([],[]) t g)
def jas:Sig Unit:=sg [.borrow y33 true,.borrow y27 false] [true,false,false] [(y33,none),(y27,none)] [] λb h k=>j2a b.1 b.2.1 (λd f g=>k [⟨y33,true,d,[.S,.S]⟩,wI f,wI g] [] [])
theorem jjb:SO 133 jas:=fK (np:=0) jdL [j8Q] (oI 122 0 @jhI oN) true Tryz.func133 λ_ _ _ _=>by delta j2a j89 j5o j8Q;delta j8J j6F;refine gz j5H λ_ b=>gz j1v λ_ d=>gz j4H λ_ f=> ?_;rewrite [<-b,<-d,<-f];kernel_rfl
def jb5 (d:Int×Int×qB) (b:Bool->Res):Res:=j0U d λr=>b (!r)
def jiT:Sig Unit:=sg [.look y2 true] [false] [(y2,none)] [] λd f k=>jb5 d.1 (λb=>k [wB b] [] [])
theorem jcI:SO 272 jiT:=fK (np:=0) (Za6 j6O Zas) [] oN false Tryz.func272 λ_ _ _ _=>by kernel_rfl
def j0L (s:List qV) (g:Int) (b:Int) (rec:Int->Res) (d:Unit->Res) (f:Int->Res):Res:=bif decide (b<g) then bif inb b (List.length s) then jb5 (nth (0,0,eS) s b) λr=>bif r then f b else rec (Z9K (b+1)) else none else d ()
def j2W (s:List qV) (b:Int):Int->(Int->Res)->((Unit->Res)×(Int->Res))->Res:=λv rec q=>j0L s b v (λd=>rec (d)) q.1 q.2
def j7F (s:List qV) (f:Int) (n:Nat) (g:Int) (b:Unit->Res) (d:Int->Res):Res:=Z1f (j2W s f) n (g) (b,d)
def j7d:Z1d Unit:=NdL 19 19 [.R 0 y3 .S,.c 1 272 [] .unit [],.I 7,.I 8] [] (λb d=>(b.2.2.2.1)) (λb v=>(b.1,b.2.1,b.2.2.1,v,())) (λd v=>()) (λb d=>j2W b.1 b.2.2.1) λb d f=>((λ_=>f (.exit 0) [] []),(λg=>f .ret [(4,vI g)] []))
theorem jcg:CN 0 26 Tryz.f306 j7d:=lK (Za6 jcI Zas) [] oN ([],[]) [(0,[],[])] ([4],[]) λ_ _ _ _ _=>by kernel_rfl
def j5R (s:List qV) (f:Unit) (b:Int->Res):Res:=j7F s (nI (List.length s)) Z1c 0 (λ_=>b (-1)) (λt=>b t)
def jdD:Sig Unit:=sg [.look y3 false,.rclos 272 []] [false] [(y3,none),(.unit,none)] [] λb f k=>j5R b.1 b.2.1 (λd=>k [wI d] [] [])
theorem jdr:SO 306 jdD:=fK (np:=0) (Za6 jcI Zas) [j7d] (oI 26 0 @jcg oN) false Tryz.func306 λ_ _ _ _=>by kernel_rfl
def j1I (s:List qV) (f:Unit) (b:Bool->Res):Res:=j5R s f λr=>b (decide (r>=0))
def j6D:Sig Unit:=sg [.look y3 false,.rclos 272 []] [false] [(y3,none),(.unit,none)] [] λb f k=>j1I b.1 b.2.1 (λd=>k [wB d] [] [])
theorem jbv:SO 271 j6D:=fK (np:=0) (Za6 jdr Zas) [] oN false Tryz.func271 λ_ _ _ _=>by kernel_rfl
def j1o (l:List qV) (b:Bool->Res):Res:=j0a (nI (List.length l)) 1 8 λr=>bif r then j1I l () λd=>b (!d) else b false
def jap:Sig Unit:=sg [.look y3 false] [false] [(y3,none)] [] λd f k=>j1o d.1 (λb=>k [wB b] [] [])
theorem jj7:SO 213 jap:=fK (np:=0) (Za6 j1E (Za6 jbv Zas)) [] oN false Tryz.func213 λ_ _ _ _=>by delta j1o j0Q j6D;refine gz j0a λ_ b=>gz j1I λ_ d=> ?_;rewrite [<-b,<-d];kernel_rfl
theorem jf0:FS [(160,j2r),(211,j3s),(212,j6C),(213,jap)]:=(Za6 j8e (Za6 jbN (Za6 j96 (Za6 jj7 Zas))))
def j51 (s:qS) (b:Bool->Res):Res:=bif (s.1==1) then bif ((nI (List.length s.2.2.1))==0) then j1o s.2.2.2.1 λr=>b r else b false else bif (s.1==2) then j1o s.2.2.1 λd=>bif d then j1o s.2.2.2.1 λf=>b f else b false else bif (s.1==3) then j1o s.2.2.1 λg=>bif g then b ((nI (List.length s.2.2.2.1))==0) else b false else bif (s.1==4) then bif ((nI (List.length s.2.2.1))==0) then b ((nI (List.length s.2.2.2.1))==0) else b false else b false
def j9M:Z1d Unit:=Nd 91 91 [.t 1 (pB 1)] [(1,y17,[.S,.S,.S,.S])] λg f b=>j51 f.1.2 (λd=>b .ret [(2,vB d)] [])
theorem jit:CN 0 15 Tryz.f161 j9M:=nK jf0 [] oN ([],[]) [] ([2],[]) λ_ _ _=>by delta j51 jap;refine gz j1o λ_ b=> ?_;rewrite [<-b];kernel_rfl
def j2X (s:qS) (b:Bool->Res):Res:=bif (s.1==5) then j1Y s.2.2.2.2 λr=>bif r then bif sEq s.2.1 s.2.2.2.2.2.1 then bif ((nI (List.length s.2.2.1))==0) then b ((nI (List.length s.2.2.2.1))==0) else b false else b false else b false else j0p s.2.1 λd=>bif !d then b false else j0e s.2.2.2.2 (0,eS,[],[],eS,eS) λf=>bif !f then b false else j51 s λt=>b t
def j8j:Sig Unit:=sg [.look y17 true] [false] [(y17,none)] [] λd f k=>j2X d.1 (λb=>k [wB b] [] [])
theorem jf6:SO 161 j8j:=fK (np:=0) jf0 [j9M] (oI 15 0 @jit oN) false Tryz.func161 λ_ _ _ _=>by delta j2X j3s j2r j6C j9M;refine gz j1Y λ_ b=>gz j0p λ_ d=>gz j0e λ_ f=>gz j51 λ_ g=> ?_;rewrite [<-b,<-d,<-f,<-g];kernel_rfl
def j66 (s:qS) (b:qS->Res):Res:=j0O s.2.2.1 λr=>j0O s.2.2.2.1 λd=>j9c s.2.2.2.2 λf=>b (s.1,s.2.1,r,d,f)
def jiU:Sig Unit:=sg [.borrow y17 true] [true] [(y17,none)] [] λd f k=>j66 d.1 (λb=>k [⟨y17,true,b,[.O,.O,.O,.O]⟩] [] [])
theorem jcJ:SO 216 jiU:=fK (np:=0) (Za6 j6t (Za6 jj9 Zas)) [] oN false Tryz.func216 λ_ _ _ _=>by delta j66 j6B jeh;refine gz j0O λ_ b=>gz j9c λ_ d=> ?_;rewrite [<-b,<-d];kernel_rfl
theorem jgR:FS [(250,j70),(251,j1F)]:=(Za6 jfM (Za6 j64 Zas))
def j4Y (f:List qT) (g:Int) (d:qF×List qR) (b:Int) (rec:Int->Res) (h:Unit->Res) (i:Unit->Res):Res:=bif decide (b<g) then bif inb b (List.length f) then bif inb b (List.length d.2) then j0E (nth (eS,[],[]) f b) (nth [] d.2 b) λr=>bif !r then i () else rec (Z9K (b+1)) else none else none else h ()
def j7m (b:List qT) (f:Int) (d:qF×List qR):Int->(Int->Res)->((Unit->Res)×(Unit->Res))->Res:=λv rec q=>j4Y b f d v (λg=>rec (g)) q.1 q.2
def jc4 (b:List qT) (f:Int) (d:qF×List qR) (n:Nat) (g:Int) (h:Unit->Res) (i:Unit->Res):Res:=Z1f (j7m b f d) n (g) (h,i)
def jbl:Z1d Unit:=NdL 38 38 [.t 1 (pB 1),.R 21 y30 .S,.I 22,.I 23] [(1,y33,[.S,.S])] (λb d=>(b.2.2.1)) (λb v=>(b.1,b.2.1,v,())) (λd v=>((d.1.1,d.1.2),())) (λb d=>j7m b.1 b.2.1 d.1.2) λb d f=>((λ_=>f (.exit 0) [] []),(λ_=>f .ret [(2,vB false)] []))
theorem jkQ:CN 0 58 Tryz.f195 jbl:=lK jgR [] oN ([],[]) [(0,[],[])] ([2],[]) λ_ _ _ _ _=>by kernel_rfl
def j8W (d:qF×List qR) (b:Bool->Res):Res:=j5K d.1 λr=>bif !r then b false else bif ((nI (List.length d.2)) != (nI (List.length d.1))) then b false else jc4 d.1 (nI (List.length d.1)) d Z1c 0 (λ_=>b true) (λ_=>b false)
def jdz:Sig Unit:=sg [.look y33 true] [false] [(y33,none)] [] λd f k=>j8W d.1 (λb=>k [wB b] [] [])
theorem jmE:SO 195 jdz:=fK (np:=0) jgR [jbl] (oI 58 0 @jkQ oN) false Tryz.func195 λ_ _ _ _=>by delta j8W j70 jbl jc4;refine gz j5K λ_ b=>gz j7m λ_ d=> ?_;rewrite [<-b,<-d];kernel_rfl
theorem jf1:FS [(231,j5e),(232,j0I)]:=(Za6 jdR (Za6 j41 Zas))
def j3h (f:List qR) (g:Int) (d:Int) (b:qF×List qR) (rec:Int->qD->Res) (h:qD->Res):Res:=bif decide (d<g) then bif inb d (List.length f) then j0m (nth [] f d) λr=>bif lim ((List.length b.2)+1) then rec (Z9K (d+1)) (b.1,(b.2++[r])) else none else none else h b
def j5M (d:List qR) (f:Int):(Int×qD)->(Int×qD->Res)->((qD->Res))->Res:=λv rec q=>j3h d f v.1 v.2 (λg b=>rec (g,b)) q
def jae (d:List qR) (f:Int) (n:Nat) (g:Int) (b:qF×List qR) (h:qD->Res):Res:=Z1f (j5M d f) n (g,b) (h)
def j9O:Z1d Unit:=NdL 28 28 [.t 2 (pB 2),.t 3 (pB 3),.R 11 y32 .S,.I 12,.I 13] [(2,y33,[.O,.O]),(3,y33,[.O,.O])] (λd b=>(d.2.2.1,b.2.1.2)) (λd v=>(d.1,d.2.1,v.1,())) (λb v=>((b.1.1,b.1.2),(b.2.1.1,v.2),())) (λd b=>j5M d.1 d.2.1) λd b g=>((λf=>g (.exit 0) [(2,pB 2),(3,pB 3)] [(2,⟨y33,b.1.1,b.1.2,[.O,.O]⟩),(3,⟨y33,b.2.1.1,f,[.O,.O]⟩)]))
theorem jiv:CN 0 58 Tryz.f174 j9O:=lK jf1 [] oN ([],[]) [(0,[2,3],[2,3])] ([],[]) λ_ _ _ _ _=>by kernel_rfl
def j11 (d:qF×List qR) (f:qD->Res):Res:=j3g d.1 λr=>jae d.2 (nI (List.length d.2)) Z1c 0 (r,[]) λb=>f b
def j2s:Sig Unit:=sg [.borrow y33 true] [true] [(y33,none)] [] λd f k=>j11 d.1 (λb=>k [⟨y33,true,b,[.O,.O]⟩] [] [])
theorem jb1:SO 174 j2s:=fK (np:=0) jf1 [j9O] (oI 58 0 @jiv oN) false Tryz.func174 λ_ _ _ _=>by delta j11 j5e j9O jae;refine gz j3g λ_ b=>gz j5M λ_ d=> ?_;rewrite [<-b,<-d];kernel_rfl
theorem jdK:FS [(174,j2s),(176,j0P),(295,j9q),(296,j5O),(297,j5N),(298,jan)]:=(Za6 jb1 (Za6 j8d (Za6 ji7 (Za6 jeC (Za6 jeB (Za6 jj5 Zas))))))
def j2f (f:Int) (h:Int) (d:qF×List qR) (x:qG) (c:List qT) (b:qF×List qR) (g:qD->Res):Res:=bif (h==1) then Z87 (j0i c x.2.1 λr=>j1i b.2 r [[]] λi=>g (b.1,i)) (Z87 (j0i c x.2.1 λj=>j1i b.2 j [[]] λk=>g (b.1,k)) (j0i c x.2.1 λl=>j1i b.2 l [[]] λm=>g (b.1,m))) else bif (h==2) then j4i b.2 f (Z9K (f+1)) λn=>g (b.1,n) else bif inb f (List.length d.1) then bif inb f (List.length d.2) then j50 (nth (eS,[],[]) d.1 f) (nth [] d.2 f) x λp q=>bif inb f (List.length b.2) then g (b.1,upd b.2 f p) else none else none else none
def j8N:Z1d Unit:=Nd 79 79 [.t 2 (pB 2),.t 3 (pB 3),.t 4 (pB 4),.t 6 (pB 6),.t 8 (pB 8),.I 9,.I 31] [(2,y33,[.S,.S]),(3,y13,[.S,.S]),(4,y33,[.O,.O]),(6,y30,[.O]),(8,y33,[.O,.O])] λf b g=>j2f f.1 f.2.1 b.1.2 b.2.1.2 b.2.2.2.1.2 b.2.2.2.2.1.2 (λd=>g .normal [(4,pB 4),(6,pB 6),(8,pB 8)] [(4,⟨y33,b.2.2.1.1,b.2.2.1.2,[.O,.O]⟩),(6,⟨y30,b.2.2.2.1.1,b.2.2.2.1.2,[.O]⟩),(8,⟨y33,b.2.2.2.2.1.1,d,[.O,.O]⟩)])
theorem jhC:CN 0 253 Tryz.f252 j8N:=nK jdK [] oN ([4,6,8],[4,6,8]) [] ([],[]) λ_ _ _=>by delta j2f j0P j5O j5N jan;refine gz j0i λ_ b=>gz j1i λ_ d=>gz j4i λ_ f=>gz j50 λ_ g=> ?_;rewrite [<-b,<-d,<-f,<-g];kernel_rfl
def j53 (d:qF×List qR) (x:qG) (f:qD->Int->Res):Res:=j3W d.1 x λr g=>bif (g != 0) then f ([],[]) g else j11 d λh=>j0i d.1 x.2.1 λi=>j2f i x.1 d x r h λb=>f (r,b.2) 0
def jaq:Sig Unit:=sg [.borrow y33 true,.borrow y13 true] [true,false] [(y33,none),(y13,none)] [] λb g k=>j53 b.1 b.2.1 (λd f=>k [⟨y33,true,d,[.O,.O]⟩,wI f] [] [])
theorem jj8:SO 252 jaq:=fK (np:=0) jdK [j8N] (oI 253 0 @jhC oN) false Tryz.func252 λ_ _ _ _=>by delta j53 j9q j2s j0P j8N;refine gz j3W λ_ b=>gz j11 λ_ d=>gz j0i λ_ f=>gz j2f λ_ g=> ?_;rewrite [<-b,<-d,<-f,<-g];kernel_rfl
theorem jaJ:FS [(174,j2s),(176,j0P),(252,jaq),(253,jb9),(254,jba),(255,jb8)]:=(Za6 jb1 (Za6 j8d (Za6 jj8 (Za6 jkt (Za6 jku (Za6 jks Zas))))))
def j6X (f:Int) (s:qS) (b:Unit->Res) (d:Unit->Res):Res:=bif decide (f<0) then bif (s.1 != 5) then d () else bif (s.2.2.2.2.1 != 1) then d () else b () else b ()
def j6c:Z1d Unit:=Nd 108 108 [.t 2 (pB 2),.t 3 (pB 3),.t 4 (pB 4),.I 6] [(2,y33,[.S,.S]),(3,y17,[.S,.S,.S,.S]),(4,y33,[.O,.O])] λf b d=>j6X f.1 b.2.1.2 (λ_=>d .normal [(2,pB 2),(3,pB 3),(4,pB 4),(6,vI f.1)] [(2,⟨y33,b.1.1,b.1.2,[.S,.S]⟩),(3,⟨y17,b.2.1.1,b.2.1.2,[.S,.S,.S,.S]⟩),(4,⟨y33,b.2.2.1.1,b.2.2.1.2,[.O,.O]⟩)]) (λ_=>d .ret [(4,pB 4),(5,vI 4)] [(4,⟨y33,b.2.2.1.1,([],[]),[.O,.O]⟩)])
theorem jkR:CN 0 14 Tryz.f196 j6c:=nK jaJ [] oN ([2,3,4,6],[2,3,4]) [] ([4,5],[4]) λ_ _ _=>by kernel_rfl
def j9d (f:Int) (d:qF×List qR) (b:Unit->Res):Res:=bif inb f (List.length d.1) then Z87 (Z87 (Z87 (Z87 (bif inb f (List.length d.2) then Z87 (Z87 (b ()) (Z87 (b ()) (b ()))) (Z87 (Z87 (b ()) (b ())) (b ())) else none) (Z87 (bif inb f (List.length d.2) then Z87 (Z87 (b ()) (b ())) (b ()) else none) (bif inb f (List.length d.2) then b () else none))) (Z87 (Z87 (bif inb f (List.length d.2) then Z87 (Z87 (b ()) (b ())) (b ()) else none) (bif inb f (List.length d.2) then b () else none)) (bif inb f (List.length d.2) then b () else none))) (Z87 (Z87 (Z87 (bif inb f (List.length d.2) then Z87 (Z87 (b ()) (Z87 (b ()) (b ()))) (Z87 (Z87 (b ()) (b ())) (b ())) else none) (Z87 (bif inb f (List.length d.2) then Z87 (Z87 (b ()) (b ())) (b ()) else none) (bif inb f (List.length d.2) then b () else none))) (Z87 (Z87 (bif inb f (List.length d.2) then Z87 (Z87 (b ()) (b ())) (b ()) else none) (bif inb f (List.length d.2) then b () else none)) (bif inb f (List.length d.2) then b () else none))) (Z87 (Z87 (Z87 (bif inb f (List.length d.2) then Z87 (Z87 (b ()) (b ())) (b ()) else none) (bif inb f (List.length d.2) then b () else none)) (bif inb f (List.length d.2) then b () else none)) (Z87 (Z87 (Z87 (bif inb f (List.length d.2) then Z87 (Z87 (b ()) (b ())) (b ()) else none) (bif inb f (List.length d.2) then b () else none)) (bif inb f (List.length d.2) then b () else none)) (bif inb f (List.length d.2) then b () else none))))) (Z87 (Z87 (Z87 (Z87 (bif inb f (List.length d.2) then Z87 (Z87 (b ()) (Z87 (b ()) (b ()))) (Z87 (Z87 (b ()) (b ())) (b ())) else none) (Z87 (bif inb f (List.length d.2) then Z87 (Z87 (b ()) (b ())) (b ()) else none) (bif inb f (List.length d.2) then b () else none))) (Z87 (Z87 (bif inb f (List.length d.2) then Z87 (Z87 (b ()) (b ())) (b ()) else none) (bif inb f (List.length d.2) then b () else none)) (bif inb f (List.length d.2) then b () else none))) (Z87 (Z87 (Z87 (bif inb f (List.length d.2) then Z87 (Z87 (b ()) (b ())) (b ()) else none) (bif inb f (List.length d.2) then b () else none)) (bif inb f (List.length d.2) then b () else none)) (bif inb f (List.length d.2) then b () else none))) (Z87 (Z87 (Z87 (Z87 (bif inb f (List.length d.2) then Z87 (Z87 (b ()) (b ())) (b ()) else none) (bif inb f (List.length d.2) then b () else none)) (bif inb f (List.length d.2) then b () else none)) (Z87 (Z87 (Z87 (bif inb f (List.length d.2) then Z87 (Z87 (b ()) (b ())) (b ()) else none) (bif inb f (List.length d.2) then b () else none)) (bif inb f (List.length d.2) then b () else none)) (bif inb f (List.length d.2) then b () else none))) (Z87 (Z87 (Z87 (Z87 (bif inb f (List.length d.2) then Z87 (Z87 (b ()) (b ())) (b ()) else none) (bif inb f (List.length d.2) then b () else none)) (bif inb f (List.length d.2) then b () else none)) (bif inb f (List.length d.2) then b () else none)) (bif inb f (List.length d.2) then b () else none)))) else none
def j8m:Z1d Unit:=Nd 108 108 [.t 2 (pB 2),.t 3 (pB 3),.t 4 (pB 4),.I 6] [(2,y33,[.S,.S]),(3,y17,[.S,.S,.S,.S]),(4,y33,[.O,.O])] λd b f=>j9d d.1 b.1.2 (λ_=>f .normal [(2,pB 2),(3,pB 3),(4,pB 4),(6,vI d.1),(9,pB 9),(10,v1 y31 (nth [] b.1.2.2 d.1) .S)] [(2,⟨y33,b.1.1,b.1.2,[.S,.S]⟩),(3,⟨y17,b.2.1.1,b.2.1.2,[.S,.S,.S,.S]⟩),(4,⟨y33,b.2.2.1.1,b.2.2.1.2,[.O,.O]⟩),(9,⟨y29,false,nth (eS,[],[]) b.1.2.1 d.1,[.S,.S]⟩)])
theorem jkS:CN 0 62 Tryz.f196 j8m:=nK jaJ [j6c] oN ([2,3,4,6,9,10],[2,3,4,9]) [] ([],[]) λ_ _ _=>by kernel_rfl
def j54 (l:List qW) (code:Int) (b:Int) (s:qS) (t:qB×qE×qL) (d:qR->Int->Res):Res:=bif (b==1) then j6g t l s.2.2.2.1 λr f=>d r f else bif (b==2) then j6h t l s.2.2.1 s.2.2.2.1 λg h=>d g h else bif (b==3) then j6f t l s.2.2.1 λi j=>d i j else d [] code
def jbm:Z1d Unit:=Nd 108 108 [.t 2 (pB 2),.t 3 (pB 3),.t 4 (pB 4),.I 6,.t 9 (pB 9),.R 10 y31 .S,.I 11,.I 61] [(2,y33,[.S,.S]),(3,y17,[.S,.S,.S,.S]),(4,y33,[.O,.O]),(9,y29,[.S,.S])] λf d g=>j54 f.2.1 f.2.2.1 f.2.2.2.1 d.2.1.2 d.2.2.2.1.2 (λh b=>g .normal [(2,pB 2),(4,pB 4),(6,vI f.1),(10,v1 y31 h .O),(11,vI b)] [(2,⟨y33,d.1.1,d.1.2,[.S,.S]⟩),(4,⟨y33,d.2.2.1.1,d.2.2.1.2,[.O,.O]⟩)])
theorem jkT:CN 0 509 Tryz.f196 jbm:=nK jaJ [j6c,j8m] oN ([2,4,6,10,11],[2,4]) [] ([],[]) λ_ _ _=>by delta j54 jb9 jba jb8;refine gz j6g λ_ b=>gz j6h λ_ d=>gz j6f λ_ f=> ?_;rewrite [<-b,<-d,<-f];kernel_rfl
def j8X (d:qF×List qR) (s:qS) (b:qD->Int->Res):Res:=j0i d.1 s.2.1 λr=>j6X r s (λ_=>bif (s.1==5) then j53 d s.2.2.2.2 λh g=>bif (g != 0) then b ([],[]) (Z9K (10+g)) else b h 0 else j9d r d λ_=>j54 (nth [] d.2 r) 0 s.1 s (nth (eS,[],[]) d.1 r) λl code=>bif (code != 0) then b ([],[]) (Z9K (10+code)) else j11 d λf=>bif inb r (List.length f.2) then b (f.1,upd f.2 r l) 0 else none) (λ_=>b ([],[]) 4)
def jdA:Sig Unit:=sg [.borrow y33 true,.borrow y17 true] [true,false] [(y33,none),(y17,none)] [] λb g k=>j8X b.1 b.2.1 (λd f=>k [⟨y33,true,d,[.O,.O]⟩,wI f] [] [])
theorem jmF:SO 196 jdA:=fK (np:=0) jaJ [j6c,j8m,jbm] (oI 14 0 @jkR (oI 62 1 @jkS (oI 509 2 @jkT oN))) false Tryz.func196 λ_ _ _ _=>by delta j8X j0P j6c jaq j8m jbm j2s;refine gz j0i λ_ b=>gz j6X λ_ d=>gz j53 λ_ f=>gz j9d λ_ g=>gz j54 λ_ h=>gz j11 λ_ i=> ?_;rewrite [<-b,<-d,<-f,<-g,<-h,<-i];kernel_rfl
theorem jdJ:FS [(161,j8j),(174,j2s),(195,jdz),(196,jdA)]:=(Za6 jf6 (Za6 jb1 (Za6 jmE (Za6 jmF Zas))))
def j1y (d:List qS) (g:Int) (b:Int) (f:qF×List qR) (rec:Int->qD->Res) (j:qD->Res) (h:Int->Int->Res):Res:=bif decide (b<g) then bif inb b (List.length d) then j2X (nth (0,eS,[],[],0,eS,[],[],eS,eS) d b) λr=>bif !r then h 1 b else j8X f (nth (0,eS,[],[],0,eS,[],[],eS,eS) d b) λk i=>bif (i != 0) then h i b else rec (Z9K (b+1)) k else none else j f
def j2u (d:List qS) (f:Int):(Int×qD)->(Int×qD->Res)->((qD->Res)×(Int->Int->Res))->Res:=λv rec q=>j1y d f v.1 v.2 (λg b=>rec (g,b)) q.1 q.2
def j9a (d:List qS) (f:Int) (n:Nat) (g:Int) (b:qF×List qR) (h:qD->Res) (i:Int->Int->Res):Res:=Z1f (j2u d f) n (g,b) (h,i)
def j8K:Z1d Unit:=NdL 44 44 [.t 4 (pB 4),.t 7 (pB 7),.R 18 y27 .S,.I 19,.I 20] [(4,y33,[.O,.O]),(7,y33,[.O,.O])] (λd b=>(d.2.2.1,b.2.1.2)) (λd v=>(d.1,d.2.1,v.1,())) (λb v=>((b.1.1,b.1.2),(b.2.1.1,v.2),())) (λd b=>j2u d.1 d.2.1) λd b g=>((λf=>g (.exit 0) [(4,pB 4),(7,pB 7)] [(4,⟨y33,b.1.1,b.1.2,[.O,.O]⟩),(7,⟨y33,b.2.1.1,f,[.O,.O]⟩)]),(λh i=>g .ret [(4,pB 4),(5,vI h),(6,vI i)] [(4,⟨y33,b.1.1,([],[]),[.O,.O]⟩)]))
theorem jhu:CN 0 122 Tryz.f138 j8K:=lK jdJ [] oN ([],[]) [(0,[4,7],[4,7])] ([4,5,6],[4]) λ_ _ _ _ _=>by delta j2u j1y j8j jdA;refine gz j2X λ_ b=>gz j8X λ_ d=> ?_;rewrite [<-b,<-d];kernel_rfl
def j25 (d:qF×List qR) (l:List qS) (b:qD->Int->Int->Res):Res:=j8W d λr=>bif !r then b ([],[]) 1 0 else j11 d λg=>j9a l (nI (List.length l)) Z1c 0 g (λf=>b f 0 0) (λt h=>b ([],[]) t h)
def jam:Sig Unit:=sg [.borrow y33 true,.borrow y27 false] [true,false,false] [(y33,none),(y27,none)] [] λb h k=>j25 b.1 b.2.1 (λd f g=>k [⟨y33,true,d,[.O,.O]⟩,wI f,wI g] [] [])
theorem jj4:SO 138 jam:=fK (np:=0) jdJ [j8K] (oI 122 0 @jhu oN) false Tryz.func138 λ_ _ _ _=>by delta j25 jdz j2s j8K j9a;refine gz j8W λ_ b=>gz j11 λ_ d=>gz j2u λ_ f=> ?_;rewrite [<-b,<-d,<-f];kernel_rfl
end
end Go.PI.G
namespace Go.PI.G
noncomputable section
open Go Go.PI Go.Proofs
open Go.Code (pl pr)
def j5C (s:qS) (b:Bool->Res):Res:=bif (s.1==0) then bif sEq s.2.1 eS then bif ((nI (List.length s.2.2.1))==0) then bif ((nI (List.length s.2.2.2.1))==0) then j19 s.2.2.2.2 λr=>b r else b false else b false else b false else b false
def j8B:Sig Unit:=sg [.look y17 true] [false] [(y17,none)] [] λd f k=>j5C d.1 (λb=>k [wB b] [] [])
theorem jhm:SO 276 j8B:=fK (np:=0) (Za6 jcL Zas) [] oN false Tryz.func276 λ_ _ _ _=>by kernel_rfl
theorem jfJ:FS [(155,j69),(276,j8B)]:=(Za6 jfd (Za6 jhm Zas))
def j8l (r:Int×Int×qS) (b:Bool->Res):Res:=bif decide (r.1<1) then b true else bif decide (r.1>4) then b true else bif decide (r.2.1<1) then b true else b (decide (r.2.1>1000000))
def jaG:Z1d Unit:=Nd 30 30 [.t 1 (pB 1)] [(1,y19,[.S,.S,.S,.S])] λg d f=>j8l d.1.2 (λb=>f .normal [(1,pB 1),(20,vB b)] [(1,⟨y19,d.1.1,d.1.2,[.S,.S,.S,.S]⟩)])
theorem jjD:CN 0 12 Tryz.f218 jaG:=nK jfJ [] oN ([1,20],[1]) [] ([],[]) λ_ _ _=>by kernel_rfl
def j7B (r:Int×Int×qS) (b:Bool->Res):Res:=j8l r λt=>bif t then b false else bif (r.1==2) then j2Y r.2.2 λd=>b d else j5C r.2.2 λf=>b f
def jcp:Sig Unit:=sg [.look y19 true] [false] [(y19,none)] [] λd f k=>j7B d.1 (λb=>k [wB b] [] [])
theorem jlv:SO 218 jcp:=fK (np:=0) jfJ [jaG] (oI 12 0 @jjD oN) false Tryz.func218 λ_ _ _ _=>by delta j7B jaG j69 j8B;refine gz j8l λ_ b=>gz j2Y λ_ d=>gz j5C λ_ f=> ?_;rewrite [<-b,<-d,<-f];kernel_rfl
def j5y (f:Int) (d:List qP) (i:Int) (b:Int) (rec:Int->Res) (g:Unit->Res) (h:Unit->Res):Res:=bif decide (b<i) then bif inb b (List.length d) then bif ((nth (0,0,0,eS,[],[],0,eS,[],[],eS,eS) d b).1==1) then bif ((nth (0,0,0,eS,[],[],0,eS,[],[],eS,eS) d b).2.1==f) then h () else rec (Z9K (b+1)) else rec (Z9K (b+1)) else none else g ()
def jaw (b:Int) (d:List qP) (f:Int):Int->(Int->Res)->((Unit->Res)×(Unit->Res))->Res:=λv rec q=>j5y b d f v (λg=>rec (g)) q.1 q.2
def jgD (b:Int) (g:List qP) (h:Int) (n:Nat) (i:Int) (d:Unit->Res) (f:Unit->Res):Res:=Z1f (jaw b g h) n (i) (d,f)
def jfA:Z1d Unit:=NdL 23 23 [.I 1,.R 7 y20 .S,.I 8,.I 9] [] (λb d=>(b.2.2.2.1)) (λb v=>(b.1,b.2.1,b.2.2.1,v,())) (λd v=>()) (λb d=>jaw b.1 b.2.1 b.2.2.1) λb d f=>((λ_=>f (.exit 0) [] []),(λ_=>f .ret [(4,vB true)] []))
theorem jl3:CN 0 26 Tryz.f219 jfA:=lK Zas [] oN ([],[]) [(0,[],[])] ([4],[]) λ_ _ _ _ _=>by kernel_rfl
def jaV (l:List qP) (b:Int) (d:Bool->Res):Res:=jgD b l (nI (List.length l)) Z1c 0 (λ_=>d false) (λ_=>d true)
def jdF:Sig Unit:=sg [.look y20 false,.look tI false] [false] [(y20,none),(tI,none)] [] λb f k=>jaV b.1 b.2.1 (λd=>k [wB d] [] [])
theorem jmJ:SO 219 jdF:=fK (np:=0) Zas [jfA] (oI 26 0 @jl3 oN) false Tryz.func219 λ_ _ _ _=>by kernel_rfl
def j3I (h:Int) (d:List Int) (i:Int) (b:Int) (rec:Int->Res) (f:Unit->Res) (g:Unit->Res):Res:=bif decide (b<i) then bif inb b (List.length d) then bif ((nth 0 d b)==h) then g () else rec (Z9K (b+1)) else none else f ()
def j8I (b:Int) (d:List Int) (f:Int):Int->(Int->Res)->((Unit->Res)×(Unit->Res))->Res:=λv rec q=>j3I b d f v (λg=>rec (g)) q.1 q.2
def jeq (f:Int) (g:List Int) (h:Int) (n:Nat) (i:Int) (b:Unit->Res) (d:Unit->Res):Res:=Z1f (j8I f g h) n (i) (b,d)
def jdn:Z1d Unit:=NdL 17 17 [.I 1,.R 7 y21 .S,.I 8,.I 9] [] (λb d=>(b.2.2.2.1)) (λb v=>(b.1,b.2.1,b.2.2.1,v,())) (λd v=>()) (λb d=>j8I b.1 b.2.1 b.2.2.1) λb d f=>((λ_=>f (.exit 0) [] []),(λ_=>f .ret [(4,vB true)] []))
theorem jiR:CN 0 26 Tryz.f168 jdn:=lK Zas [] oN ([],[]) [(0,[],[])] ([4],[]) λ_ _ _ _ _=>by kernel_rfl
def j23 (l:List Int) (d:Int) (b:Bool->Res):Res:=jeq d l (nI (List.length l)) Z1c 0 (λ_=>b false) (λ_=>b true)
def j3X:Sig Unit:=sg [.look y21 false,.look tI false] [false] [(y21,none),(tI,none)] [] λb f k=>j23 b.1 b.2.1 (λd=>k [wB d] [] [])
theorem jb2:SO 168 j3X:=fK (np:=0) Zas [jdn] (oI 26 0 @jiR oN) false Tryz.func168 λ_ _ _ _=>by kernel_rfl
def j3H (i:Int) (g:List Int) (f:Int) (d:List Int) (b:Int) (rec:(List Int)->Int->Res) (h:(List Int)->Res):Res:=bif decide (b<f) then bif inb b (List.length g) then bif ((nth 0 g b) != i) then bif lim ((List.length d)+1) then rec (d++[nth 0 g b]) (Z9K (b+1)) else none else rec d (Z9K (b+1)) else none else h d
def j8H (g:Int) (h:List Int) (d:Int):((List Int)×Int)->((List Int)×Int->Res)->(((List Int)->Res))->Res:=λv rec q=>j3H g h d v.1 v.2 (λb f=>rec (b,f)) q
def jep (h:Int) (i:List Int) (d:Int) (n:Nat) (b:List Int) (f:Int) (g:(List Int)->Res):Res:=Z1f (j8H h i d) n (b,f) (g)
def jdm:Z1d Unit:=NdL 24 24 [.I 1,.R 5 y21 .O,.R 9 y21 .S,.I 10,.I 11] [] (λb f=>(b.2.1,b.2.2.2.2.1)) (λb v=>(b.1,v.1,b.2.2.1,b.2.2.2.1,v.2,())) (λf v=>()) (λb f=>j8H b.1 b.2.2.1 b.2.2.2.1) λb f g=>((λd=>g (.exit 0) [(5,v1 y21 d .O)] []))
theorem jiQ:CN 0 58 Tryz.f277 jdm:=lK Zas [] oN ([],[]) [(0,[5],[])] ([],[]) λ_ _ _ _ _=>by kernel_rfl
def j6p (l:List Int) (f:Int) (d:(List Int)->Res):Res:=jep f l (nI (List.length l)) Z1c [] 0 λb=>d b
def jbd:Sig Unit:=sg [.borrow y21 false,.borrow tI false] [false] [(y21,none),(tI,none)] [] λb f k=>j6p b.1 b.2.1 (λd=>k [w1 y21 d .O] [] [])
theorem jkK:SO 277 jbd:=fK (np:=0) Zas [jdm] (oI 58 0 @jiQ oN) false Tryz.func277 λ_ _ _ _=>by kernel_rfl
theorem jdo:FS [(168,j3X),(277,jbd)]:=(Za6 jb2 (Za6 jkK Zas))
def j9C (b:List Int) (r:Int×Int×qS) (d:(List Int)->Res):Res:=bif (r.1==1) then j23 b r.2.1 λf=>bif !f then bif lim ((List.length b)+1) then d (b++[r.2.1]) else none else d b else d b
def j8n:Z1d Unit:=Nd 42 42 [.R 3 y21 .O,.t 5 (pB 5),.R 7 y20 .S,.I 8,.I 9] [(5,y19,[.S,.S,.S,.S])] λd f g=>j9C d.1 f.1.2 (λb=>g .normal [(3,v1 y21 b .O),(5,pB 5),(7,v1 y20 d.2.1 .S),(8,vI d.2.2.1),(9,vI d.2.2.2.1)] [(5,⟨y19,f.1.1,f.1.2,[.S,.S,.S,.S]⟩)])
theorem jl2:CN 0 7474 Tryz.f220 j8n:=nK jdo [] oN ([3,5,7,8,9],[5]) [] ([],[]) λ_ _ _=>by kernel_rfl
def j36 (f:List qP) (j:Int) (g:List Int) (d:Int) (rec:(List Int)->Int->Res) (h:(List Int)->Res):Res:=bif decide (d<j) then bif inb d (List.length f) then j9C g (nth (0,0,0,eS,[],[],0,eS,[],[],eS,eS) f d) λb=>bif ((nth (0,0,0,eS,[],[],0,eS,[],[],eS,eS) f d).1==3) then j6p b (nth (0,0,0,eS,[],[],0,eS,[],[],eS,eS) f d).2.1 λr=>rec r (Z9K (d+1)) else bif ((nth (0,0,0,eS,[],[],0,eS,[],[],eS,eS) f d).1==4) then j6p b (nth (0,0,0,eS,[],[],0,eS,[],[],eS,eS) f d).2.1 λi=>rec i (Z9K (d+1)) else rec b (Z9K (d+1)) else none else h g
def j7A (d:List qP) (f:Int):((List Int)×Int)->((List Int)×Int->Res)->(((List Int)->Res))->Res:=λv rec q=>j36 d f v.1 v.2 (λb g=>rec (b,g)) q
def jgC (f:List qP) (g:Int) (n:Nat) (b:List Int) (h:Int) (d:(List Int)->Res):Res:=Z1f (j7A f g) n (b,h) (d)
def jfz:Z1d Unit:=NdL 42 42 [.R 3 y21 .O,.R 7 y20 .S,.I 8,.I 9] [] (λb f=>(b.1,b.2.2.2.1)) (λb v=>(v.1,b.2.1,b.2.2.1,v.2,())) (λf v=>()) (λb f=>j7A b.2.1 b.2.2.1) λb f g=>((λd=>g (.exit 0) [(3,v1 y21 d .O)] []))
theorem jl1:CN 0 58 Tryz.f220 jfz:=lK jdo [j8n] (oI 114 0 @jl2 oN) ([],[]) [(0,[3],[])] ([],[]) λ_ _ _ _ _=>by delta j7A j36 j8n jbd;refine gz j9C λ_ b=>gz j6p λ_ d=> ?_;rewrite [<-b,<-d];kernel_rfl
def j93 (l:List qP) (d:(List Int)->Res):Res:=jgC l (nI (List.length l)) Z1c [] 0 λb=>d b
def jdE:Sig Unit:=sg [.borrow y20 false] [false] [(y20,none)] [] λd f k=>j93 d.1 (λb=>k [w1 y21 b .O] [] [])
theorem jmI:SO 220 jdE:=fK (np:=0) jdo [j8n,jfz] (oI 58 1 @jl1 oN) false Tryz.func220 λ_ _ _ _=>by kernel_rfl
def j9I (s:qS) (b:qS->Res):Res:=bif lim (0+(List.length s.2.2.1)) then j0t s.2.2.2.1 λr=>bif lim (0+(List.length s.2.2.2.2.2.2.1)) then bif lim (0+(List.length s.2.2.2.2.2.2.2.1)) then b (s.1,s.2.1,s.2.2.1,r,s.2.2.2.2.1,s.2.2.2.2.2.1,s.2.2.2.2.2.2.1,s.2.2.2.2.2.2.2.1,s.2.2.2.2.2.2.2.2) else none else none else none
def jjP:Sig Unit:=sg [.borrow y17 true] [true] [(y17,none)] [] λd f k=>j9I d.1 (λb=>k [⟨y17,true,b,[.O,.O,.O,.O]⟩] [] [])
theorem je4:SO 158 jjP:=fK (np:=0) (Za6 j3V Zas) [] oN false Tryz.func158 λ_ _ _ _=>by kernel_rfl
def j2I (h:Int) (f:List qP) (g:Int) (d:List qS) (b:Int) (rec:qU->Int->Res) (i:qU->Res):Res:=bif decide (b<g) then bif inb b (List.length f) then bif ((nth (0,0,0,eS,[],[],0,eS,[],[],eS,eS) f b).1==2) then bif ((nth (0,0,0,eS,[],[],0,eS,[],[],eS,eS) f b).2.1==h) then j9I (nth (0,0,0,eS,[],[],0,eS,[],[],eS,eS) f b).2.2 λr=>bif lim ((List.length d)+1) then rec (d++[r]) (Z9K (b+1)) else none else rec d (Z9K (b+1)) else rec d (Z9K (b+1)) else none else i d
def j7Q (g:Int) (h:List qP) (d:Int):(qU×Int)->(qU×Int->Res)->((qU->Res))->Res:=λv rec q=>j2I g h d v.1 v.2 (λb f=>rec (b,f)) q
def jd3 (g:Int) (i:List qP) (d:Int) (n:Nat) (b:List qS) (f:Int) (h:qU->Res):Res:=Z1f (j7Q g i d) n (b,f) (h)
def jcy:Z1d Unit:=NdL 32 32 [.I 1,.R 5 y27 .O,.R 9 y20 .S,.I 10,.I 11] [] (λb f=>(b.2.1,b.2.2.2.2.1)) (λb v=>(b.1,v.1,b.2.2.1,b.2.2.2.1,v.2,())) (λf v=>()) (λb f=>j7Q b.1 b.2.2.1 b.2.2.2.1) λb f g=>((λd=>g (.exit 0) [(5,v1 y27 d .O)] []))
theorem jhO:CN 0 58 Tryz.f221 jcy:=lK (Za6 je4 Zas) [] oN ([],[]) [(0,[5],[])] ([],[]) λ_ _ _ _ _=>by kernel_rfl
def j5x (l:List qP) (d:Int) (f:qU->Res):Res:=jd3 d l (nI (List.length l)) Z1c [] 0 λb=>f b
def jat:Sig Unit:=sg [.borrow y20 false,.borrow tI false] [false] [(y20,none),(tI,none)] [] λb f k=>j5x b.1 b.2.1 (λd=>k [w1 y27 d .O] [] [])
theorem jjd:SO 221 jat:=fK (np:=0) (Za6 je4 Zas) [jcy] (oI 58 0 @jhO oN) false Tryz.func221 λ_ _ _ _=>by kernel_rfl
theorem j7j:FS [(133,jas),(168,j3X),(218,jcp),(219,jdF),(220,jdE),(221,jat)]:=(Za6 jjb (Za6 jb2 (Za6 jlv (Za6 jmJ (Za6 jmI (Za6 jjd Zas))))))
def j2m (l:List qP) (i:Int) (r:Int×Int×qS) (b:Bool->Res):Res:=j7B r λd=>bif !d then b true else bif (r.1==1) then bif Z8e 0 i (List.length l) then jaV (sub l 0 i) r.2.1 λf=>bif f then b true else bif (r.1 != 1) then bif Z8e 0 i (List.length l) then j93 (sub l 0 i) λg=>j23 g r.2.1 λh=>b (!h) else none else b false else none else bif (r.1 != 1) then bif Z8e 0 i (List.length l) then j93 (sub l 0 i) λj=>j23 j r.2.1 λk=>b (!k) else none else b false
def j3N:Z1d Unit:=Nd 74 74 [.R 0 y20 .S,.t 2 (pB 2),.t 4 (pB 4),.I 5,.t 6 (pB 6),.R 11 y20 .S,.I 12,.I 13] [(2,y33,[.O,.O]),(4,y33,[.N,.N]),(6,y19,[.S,.S,.S,.S])] λb d g=>j2m b.1 b.2.1 d.2.2.1.2 (λf=>g .normal [(0,v1 y20 b.1 .S),(2,pB 2),(4,pB 4),(5,vI b.2.1),(6,pB 6),(11,v1 y20 b.2.2.1 .S),(12,vI b.2.2.2.1),(13,vI b.2.2.2.2.1),(48,vB f)] [(2,⟨y33,d.1.1,d.1.2,[.O,.O]⟩),(4,⟨y33,d.2.1.1,d.2.1.2,[.N,.N]⟩),(6,⟨y19,d.2.2.1.1,d.2.2.1.2,[.S,.S,.S,.S]⟩)])
theorem jhX:CN 0 14948 Tryz.f169 j3N:=nK j7j [] oN ([0,2,4,5,6,11,12,13,48],[2,4,6]) [] ([],[]) λ_ _ _=>by delta j2m jcp jdF jdE j3X;refine gz j7B λ_ b=>gz jaV λ_ d=>gz j93 λ_ f=>gz j23 λ_ g=> ?_;rewrite [<-b,<-d,<-f,<-g];kernel_rfl
def j2n (l:List qP) (i:Int) (d:qF×List qR) (r:Int×Int×qS) (b:Int->qD->Res):Res:=bif Z8e 0 i (List.length l) then Z87 (j5x (sub l 0 i) r.2.1 λn=>Z87 (j2a d n λg h w=>Z87 (Z87 (b h g) (Z87 (b h g) (b h g))) (Z87 (Z87 (b h g) (Z87 (b h g) (b h g))) (Z87 (Z87 (b h g) (b h g)) (Z87 (Z87 (b h g) (b h g)) (b h g))))) (j2a d n λj k y=>Z87 (Z87 (b k j) (b k j)) (Z87 (Z87 (b k j) (b k j)) (b k j)))) (j5x (sub l 0 i) r.2.1 λq=>j2a d q λm f p=>Z87 (Z87 (b f m) (b f m)) (Z87 (Z87 (b f m) (b f m)) (b f m))) else none
def j63:Z1d Unit:=Nd 74 74 [.R 0 y20 .S,.t 2 (pB 2),.t 4 (pB 4),.I 5,.t 6 (pB 6),.R 11 y20 .S,.I 12,.I 13] [(2,y33,[.O,.O]),(4,y33,[.N,.N]),(6,y19,[.S,.S,.S,.S])] λb d f=>j2n b.1 b.2.1 d.2.1.2 d.2.2.1.2 (λcode next=>f .normal [(0,v1 y20 b.1 .S),(2,pB 2),(4,pB 4),(7,pB 7),(8,vI code),(11,v1 y20 b.2.2.1 .S),(12,vI b.2.2.2.1),(13,vI b.2.2.2.2.1)] [(2,⟨y33,d.1.1,d.1.2,[.O,.O]⟩),(4,⟨y33,d.2.1.1,d.2.1.2,[.N,.N]⟩),(7,⟨y33,false,next,[.N,.N]⟩)])
theorem jhY:CN 0 59804 Tryz.f169 j63:=nK j7j [j3N] oN ([0,2,4,7,8,11,12,13],[2,4,7]) [] ([],[]) λ_ _ _=>by delta j2n jat jas;refine gz j5x λ_ b=>gz j2a λ_ d=> ?_;rewrite [<-b,<-d];kernel_rfl
def j1D (l:List qP) (f:List qP) (g:Int) (b:Int) (d:qF×List qR) (rec:Int->qD->Res) (i:qD->Res) (h:Unit->Res):Res:=bif decide (b<g) then bif inb b (List.length f) then j2m l b (nth (0,0,0,eS,[],[],0,eS,[],[],eS,eS) f b) λt=>bif t then h () else bif ((nth (0,0,0,eS,[],[],0,eS,[],[],eS,eS) f b).1==3) then j2n l b d (nth (0,0,0,eS,[],[],0,eS,[],[],eS,eS) f b) λcode next=>bif (code != 0) then h () else rec (Z9K (b+1)) next else rec (Z9K (b+1)) d else none else i d
def j4Q (l:List qP) (b:List qP) (f:Int):(Int×qD)->(Int×qD->Res)->((qD->Res)×(Unit->Res))->Res:=λv rec q=>j1D l b f v.1 v.2 (λg d=>rec (g,d)) q.1 q.2
def j9H (l:List qP) (b:List qP) (f:Int) (n:Nat) (g:Int) (d:qF×List qR) (h:qD->Res) (i:Unit->Res):Res:=Z1f (j4Q l b f) n (g,d) (h,i)
def jct:Z1d Unit:=λσ k=>rdN σ 74<|rd1 σ 0 y20 .S λl=>rdT σ 2 (pB 2)<|rdT σ 4 (pB 4)<|rd1 σ 11 y20 .S λb=>rdI σ 12 λf=>rdI σ 13 λg=>rdB σ 2 y33 [.O,.O] λa j=>rdB σ 4 y33 [.N,.N] λh d=>j9H l b f Z1c g d (λi=>k (.exit 0) (mkS 74 74 [(0,v1 y20 l .S),(2,pB 2),(4,pB 4)] [(2,⟨y33,a,j,[.O,.O]⟩),(4,⟨y33,h,i,[.N,.N]⟩)])) (λ_=>k .ret (mkS 74 74 [(2,pB 2),(3,vB false)] [(2,⟨y33,a,([],[]),[.O,.O]⟩)]))
def jcC:Z1d Unit:=λσ k=>jct (σ.wk [] [(4,[.N,.N])]) k
theorem jhW:CN 0 58 Tryz.f169 jcC:=λq=>ZaJ [] [(4,[.N,.N])] (jlj follows j2o j7j q [j3N,j63] (oI 228 0 @jhX (oI 924 1 @jhY oN)) [0,2,4,11,12,13] [2,4] ([],[]) [(0,[0,2,4],[2,4])] ([2,3],[2]) (y:=jct) λσ k _ h=>rN h λG h=>rV h λl D h=>rT h λE h=>rT h λF h=>rV h λb g h=>rV h λf i h=>rV h λr j h=>rB h λa z n h=>rB h λw d p h=>⟨_,ZaM (m:=74) G (sC D (sC E (sC F (sC g (sC i (sC j sN)))))) (bC n (bC p bN)),.trans (Z9u (λv:Int×qD=>(mkS 74 74 [(0,v1 y20 l .S),(2,pB 2),(4,pB 4),(11,v1 y20 b .S),(12,vI f),(13,vI v.1)] [(2,⟨y33,a,z,[.O,.O]⟩),(4,⟨y33,w,v.2,[.N,.N]⟩)])) (j4Q l b f) (λ(k:Z83 Unit)=>(((λA=>k (.exit 0) (mkS 74 74 [(0,v1 y20 l .S),(2,pB 2),(4,pB 4)] [(2,⟨y33,a,z,[.O,.O]⟩),(4,⟨y33,w,A,[.N,.N]⟩)])),(λ_=>k .ret (mkS 74 74 [(2,pB 2),(3,vB false)] [(2,⟨y33,a,([],[]),[.O,.O]⟩)]))):(qD->Res)×(Unit->Res))) (λv rec k=>by delta j4Q j1D j3N j63;refine gz j2m λ_ B=>gz j2n λ_ C=> ?_;rewrite [<-B,<-C];kernel_rfl) Z1c (r,d) k) h⟩)
def j9G (l:List qP) (b:qD->Bool->Res):Res:=j9H l l (nI (List.length l)) Z1c 0 ([],[]) (λd=>b d (decide ((nI (List.length l))<=400))) (λ_=>b ([],[]) false)
def jjO:Sig Unit:=sg [.borrow y20 false] [true,false] [(y20,none)] [] λf g k=>j9G f.1 (λb d=>k [⟨y33,true,b,[.S,.S]⟩,wB d] [] [])
theorem jjf:SO 169 jjO:=fK (np:=0) j7j [j3N,j63,jcC] (oI 58 2 @jhW oN) true Tryz.func169 λ_ _ _ _=>by kernel_rfl
def j9B (l:List qP) (b:Bool->Res):Res:=bif decide ((nI (List.length l))>400) then b false else j9G l λr d=>b d
def jgw:Sig Unit:=sg [.look y20 false] [false] [(y20,none)] [] λd f k=>j9B d.1 (λb=>k [wB b] [] [])
theorem jg0:SO 103 jgw:=fK (np:=0) (Za6 jjf Zas) [] oN false Tryz.func103 λ_ _ _ _=>by kernel_rfl
def j67 (s:qS) (b:Bool->Res):Res:=bif (s.1==0) then bif sEq s.2.1 eS then bif ((nI (List.length s.2.2.1))==0) then bif ((nI (List.length s.2.2.2.1))==0) then j0e s.2.2.2.2 (0,eS,[],[],eS,eS) λr=>b r else b false else b false else b false else b false
def jd1:Sig Unit:=sg [.look y17 true] [false] [(y17,none)] [] λd f k=>j67 d.1 (λb=>k [wB b] [] [])
theorem ji8:SO 278 jd1:=fK (np:=0) (Za6 j96 Zas) [] oN false Tryz.func278 λ_ _ _ _=>by kernel_rfl
def j7o (r:Int×Int×qS) (b:Bool->Res):Res:=j0a r.1 1 4 λd=>bif !d then b false else j0a r.2.1 1 1000000 λf=>bif !f then b false else bif (r.1==2) then j2X r.2.2 λg=>b g else j67 r.2.2 λh=>b h
def jcj:Sig Unit:=sg [.look y19 true] [false] [(y19,none)] [] λd f k=>j7o d.1 (λb=>k [wB b] [] [])
theorem jlm:SO 222 jcj:=fK (np:=0) (Za6 jf6 (Za6 j1E (Za6 ji8 Zas))) [] oN false Tryz.func222 λ_ _ _ _=>by delta j7o j0Q j8j jd1;refine gz j0a λ_ b=>gz j2X λ_ d=>gz j67 λ_ f=> ?_;rewrite [<-b,<-d,<-f];kernel_rfl
def j2y (h:Int) (f:List qP) (g:Int) (d:List qS) (b:Int) (rec:qU->Int->Res) (i:qU->Res):Res:=bif decide (b<g) then bif inb b (List.length f) then bif ((nth (0,0,0,eS,[],[],0,eS,[],[],eS,eS) f b).1==2) then bif ((nth (0,0,0,eS,[],[],0,eS,[],[],eS,eS) f b).2.1==h) then j66 (nth (0,0,0,eS,[],[],0,eS,[],[],eS,eS) f b).2.2 λr=>bif lim ((List.length d)+1) then rec (d++[r]) (Z9K (b+1)) else none else rec d (Z9K (b+1)) else rec d (Z9K (b+1)) else none else i d
def j7J (g:Int) (h:List qP) (d:Int):(qU×Int)->(qU×Int->Res)->((qU->Res))->Res:=λv rec q=>j2y g h d v.1 v.2 (λb f=>rec (b,f)) q
def jcT (g:Int) (i:List qP) (d:Int) (n:Nat) (b:List qS) (f:Int) (h:qU->Res):Res:=Z1f (j7J g i d) n (b,f) (h)
def jcv:Z1d Unit:=NdL 32 32 [.I 1,.R 5 y27 .O,.R 9 y20 .S,.I 10,.I 11] [] (λb f=>(b.2.1,b.2.2.2.2.1)) (λb v=>(b.1,v.1,b.2.2.1,b.2.2.2.1,v.2,())) (λf v=>()) (λb f=>j7J b.1 b.2.2.1 b.2.2.2.1) λb f g=>((λd=>g (.exit 0) [(5,v1 y27 d .O)] []))
theorem jhz:CN 0 58 Tryz.f224 jcv:=lK (Za6 jcJ Zas) [] oN ([],[]) [(0,[5],[])] ([],[]) λ_ _ _ _ _=>by kernel_rfl
def j52 (l:List qP) (d:Int) (f:qU->Res):Res:=jcT d l (nI (List.length l)) Z1c [] 0 λb=>f b
def jao:Sig Unit:=sg [.borrow y20 false,.borrow tI false] [false] [(y20,none),(tI,none)] [] λb f k=>j52 b.1 b.2.1 (λd=>k [w1 y27 d .O] [] [])
theorem jj6:SO 224 jao:=fK (np:=0) (Za6 jcJ Zas) [jcv] (oI 58 0 @jhz oN) false Tryz.func224 λ_ _ _ _=>by kernel_rfl
def jdx (place:Int) (b:qF×List qR) (d:Unit->Res):Res:=d ()
def jb7:Sig Unit:=sg [.look tI false,.look y33 true] [] [(tI,none),(y33,none)] [] λb d k=>jdx b.1 b.2.1 (λ_=>k [] [] [])
theorem jkr:SO 171 jb7:=fK (np:=0) Zas [] oN false Tryz.func171 λ_ _ _ _=>by kernel_rfl
def jeI (x:Int) (d:Int×Int×qS) (b:Bool->Res):Res:=b (x==d.2.1)
def jmd:Sig Unit:=sg [.look tI false,.rptr y19] [false] [(tI,none),(y19,none)] [] λb f k=>jeI b.1 b.2.1 (λd=>k [wB d] [] [])
theorem jln:SO 226 jmd:=fK (np:=0) Zas [] oN false Tryz.func226 λ_ _ _ _=>by kernel_rfl
def j1e (s:List Int) (b:Int×Int×qS) (d:(List Int)->qP->Res):Res:=bif lim (List.length s) then dgE (λe k=>jeI e b k) s [] (λr=>d r b) else none
def j3T:Sig Unit:=⟨[.eat y21 false,.clos 226 [y19]],[false],λvals ext k=>ao vals y21 [.O] λs vals=>nl vals<|ab ext y19 [.S,.S,.S,.S] λa0 f ext=>nl ext<|j1e s f (λd b=>k [w1 y21 d .O] [] [⟨y19,a0,b,[.S,.S,.S,.S]⟩])⟩
theorem jcE:Z17 Tryz.prog 225 j3T:=gS (jqd (U:=0) (T:=220) (e:=tI) (ag:=false) (τ:=y19) (tg:=[.S,.S,.S,.S]) (fl:=[]) (S:=56) (E:=3) (I:=3) (B:=4) follows j2o (by kernel_rfl) Tryz.underlying56 (by kernel_rfl) (by kernel_rfl) (by kernel_rfl) (by kernel_rfl) Tryz.isAgg220 Tryz.sizeOf220 (by kernel_rfl) (by kernel_rfl) (by kernel_rfl) Tryz.func280 (by kernel_rfl) (by kernel_rfl) (by kernel_rfl) (by kernel_rfl) jln (by kernel_rfl) Tryz.func225 (by kernel_rfl) (by kernel_rfl) (by kernel_rfl) (by kernel_rfl)) (by kernel_rfl)
theorem j7Y:FS [(138,jam),(171,jb7),(222,jcj),(223,j5i),(224,jao),(225,j3T)]:=(Za6 jj4 (Za6 jkr (Za6 jlm (Za6 jdT (Za6 jj6 (Za6 jcE Zas))))))
def j56 (l:List qP) (i:Int) (d:qF×List qR) (r:Int×Int×qS) (b:Int->qD->Res):Res:=bif Z8e 0 i (List.length l) then Z87 (j52 (sub l 0 i) r.2.1 λn=>Z87 (j25 d n λg h w=>Z87 (Z87 (b h g) (Z87 (b h g) (b h g))) (Z87 (Z87 (b h g) (Z87 (b h g) (b h g))) (Z87 (Z87 (b h g) (b h g)) (Z87 (Z87 (b h g) (b h g)) (b h g))))) (j25 d n λj k y=>Z87 (Z87 (b k j) (b k j)) (Z87 (Z87 (b k j) (b k j)) (b k j)))) (j52 (sub l 0 i) r.2.1 λq=>j25 d q λm f p=>Z87 (Z87 (b f m) (b f m)) (Z87 (Z87 (b f m) (b f m)) (b f m))) else none
def j40:Z1d Unit:=Nd 84 84 [.R 1 y20 .S,.t 2 (.clos 171 []),.t 3 (pB 3),.t 6 (pB 6),.R 8 y21 .O,.R 9 y21 .O,.I 10,.t 11 (pB 11),.R 17 y20 .S,.I 18,.I 19] [(3,y33,[.S,.S]),(6,y33,[.O,.O]),(11,y19,[.S,.S,.S,.S])] λb d f=>j56 b.1 b.2.2.2.1 d.1.2 d.2.2.1.2 (λcode next=>f .normal [(1,v1 y20 b.1 .S),(2,.clos 171 []),(3,pB 3),(6,pB 6),(8,v1 y21 b.2.1 .O),(9,v1 y21 b.2.2.1 .O),(10,vI b.2.2.2.1),(11,pB 11),(12,pB 12),(13,vI code),(17,v1 y20 b.2.2.2.2.1 .S),(18,vI b.2.2.2.2.2.1),(19,vI b.2.2.2.2.2.2.1)] [(3,⟨y33,d.1.1,d.1.2,[.S,.S]⟩),(6,⟨y33,d.2.1.1,d.2.1.2,[.O,.O]⟩),(11,⟨y19,d.2.2.1.1,d.2.2.1.2,[.S,.S,.S,.S]⟩),(12,⟨y33,false,next,[.O,.O]⟩)])
theorem jkW:CN 0 478452 Tryz.f170 j40:=nK j7Y [] oN ([1,2,3,6,8,9,10,11,12,13,17,18,19],[3,6,11,12]) [] ([],[]) λ_ _ _=>by delta j56 jao jam;refine gz j52 λ_ b=>gz j25 λ_ d=> ?_;rewrite [<-b,<-d];kernel_rfl
def j6Y (l:List qP) (i:Int) (b:Bool) (d:qF×List qR) (r:Int×Int×qS) (f:qD->Res) (g:Unit->Res):Res:=bif b then j56 l i d r λcode next=>bif (code != 0) then g () else jdx (Z9K (i+1)) d λ_=>f next else f d
def j6d:Z1d Unit:=λσ k=>rdN σ 84<|rd1 σ 1 y20 .S λl=>rdT σ 2 (.clos 171 [])<|rdT σ 3 (pB 3)<|rdT σ 6 (pB 6)<|rd1 σ 8 y21 .O λb=>rd1 σ 9 y21 .O λf=>rdI σ 10 λi=>rdT σ 11 (pB 11)<|rd1 σ 17 y20 .S λg=>rdI σ 18 λh=>rdI σ 19 λj=>rdO σ 54 λm=>rdB σ 3 y33 [.S,.S] λa d=>rdB σ 6 y33 [.O,.O] λn w=>rdB σ 11 y19 [.S,.S,.S,.S] λp r=>j6Y l i m d r (λq=>k .normal (mkS 84 84 [(1,v1 y20 l .S),(2,.clos 171 []),(3,pB 3),(6,pB 6),(8,v1 y21 b .O),(9,v1 y21 f .O),(11,pB 11),(17,v1 y20 g .S),(18,vI h),(19,vI j)] [(3,⟨y33,a,q,[.S,.S]⟩),(6,⟨y33,n,w,[.O,.O]⟩),(11,⟨y19,p,r,[.S,.S,.S,.S]⟩)])) (λ_=>k .ret (mkS 84 84 [(6,pB 6),(7,vB false)] [(6,⟨y33,n,([],[]),[.O,.O]⟩)]))
theorem jkX:CN 0 119613 Tryz.f170 j6d:=λz=>joo follows j2o j7Y z [j40] (oI 4 0 @jkW oN) ([1,2,3,6,8,9,11,17,18,19],[3,6,11]) [] ([6,7],[6]) [(0,[],[(3,[.S,.S])])] λσ k _ h=>rN h λK h=>rV h λl E h=>rT h λF h=>rT h λG h=>rT h λH h=>rV h λA I h=>rV h λB J h=>rV h λi f h=>rT h λg h=>rV h λL j h=>rV h λM n h=>rV h λP p h=>rV h λQ q h=>rB h λa d w h=>rB h λR U y h=>rB h λT r b h=>⟨_,ZaM (m:=84) K (sC E (sC F (sC G (sC H (sC I (sC J (sC f (sC g (sC j (sC n (sC p (sC q sN)))))))))))) (bC w (bC y (bC b bN))),.trans (by delta j6Y j40 jb7;refine gz j56 λ_ C=>gz jdx λ_ D=> ?_;rewrite [<-C,<-D];kernel_rfl) h⟩
def j33 (l:List qP) (g:List qP) (j:Int) (f:List Int) (h:List Int) (b:Int) (d:qF×List qR) (rec:(List Int)->(List Int)->Int->qD->Res) (m:qD->Res) (i:Unit->Res):Res:=bif decide (b<j) then bif inb b (List.length g) then j7o (nth (0,0,0,eS,[],[],0,eS,[],[],eS,eS) g b) λr=>bif !r then i () else bif ((nth (0,0,0,eS,[],[],0,eS,[],[],eS,eS) g b).1==1) then j0X h (nth (0,0,0,eS,[],[],0,eS,[],[],eS,eS) g b).2.1 λn=>bif n then i () else bif lim ((List.length h)+1) then bif lim ((List.length f)+1) then rec (f++[(nth (0,0,0,eS,[],[],0,eS,[],[],eS,eS) g b).2.1]) (h++[(nth (0,0,0,eS,[],[],0,eS,[],[],eS,eS) g b).2.1]) (Z9K (b+1)) d else none else none else j0X f (nth (0,0,0,eS,[],[],0,eS,[],[],eS,eS) g b).2.1 λp=>bif !p then i () else j6Y l b ((nth (0,0,0,eS,[],[],0,eS,[],[],eS,eS) g b).1==3) d (nth (0,0,0,eS,[],[],0,eS,[],[],eS,eS) g b) (λk=>bif ((nth (0,0,0,eS,[],[],0,eS,[],[],eS,eS) g b).1 != 2) then j1e f (nth (0,0,0,eS,[],[],0,eS,[],[],eS,eS) g b) λq w=>rec q h (Z9K (b+1)) k else rec f h (Z9K (b+1)) k) (λ_=>i ()) else none else m d
def j7q (l:List qP) (g:List qP) (h:Int):((List Int)×(List Int)×Int×qD)->((List Int)×(List Int)×Int×qD->Res)->((qD->Res)×(Unit->Res))->Res:=λv rec q=>j33 l g h v.1 v.2.1 v.2.2.1 v.2.2.2 (λb f i d=>rec (b,f,i,d)) q.1 q.2
def jg7 (l:List qP) (g:List qP) (h:Int) (n:Nat) (b:List Int) (f:List Int) (i:Int) (d:qF×List qR) (j:qD->Res) (k:Unit->Res):Res:=Z1f (j7q l g h) n (b,f,i,d) (j,k)
def jbo:Z1d Unit:=NdL 84 84 [.R 1 y20 .S,.t 2 (.clos 171 []),.t 3 (pB 3),.t 6 (pB 6),.R 8 y21 .O,.R 9 y21 .O,.R 17 y20 .S,.I 18,.I 19] [(3,y33,[.S,.S]),(6,y33,[.O,.O])] (λb d=>(b.2.1,b.2.2.1,b.2.2.2.2.2.1,d.1.2)) (λb v=>(b.1,v.1,v.2.1,b.2.2.2.1,b.2.2.2.2.1,v.2.2.1,())) (λd v=>((d.1.1,v.2.2.2),(d.2.1.1,d.2.1.2),())) (λb d=>j7q b.1 b.2.2.2.1 b.2.2.2.2.1) λb d f=>((λg=>f (.exit 0) [(3,pB 3),(6,pB 6)] [(3,⟨y33,d.1.1,g,[.S,.S]⟩),(6,⟨y33,d.2.1.1,d.2.1.2,[.O,.O]⟩)]),(λ_=>f .ret [(6,pB 6),(7,vB false)] [(6,⟨y33,d.2.1.1,([],[]),[.O,.O]⟩)]))
theorem jkV:CN 0 58 Tryz.f170 jbo:=lK j7Y [j40,j6d] (oI 1853 1 @jkX oN) ([],[]) [(0,[3,6],[3,6])] ([6,7],[6]) λ_ _ _ _ _=>by delta j7q j33 jcj j5i j6d j3T;refine gz j7o λ_ b=>gz j0X λ_ d=>gz j6Y λ_ f=>gz j1e λ_ g=> ?_;rewrite [<-b,<-d,<-f,<-g];kernel_rfl
def jc7 (l:List qP) (d:qF×List qR) (b:Bool->qD->Res):Res:=jg7 l l (nI (List.length l)) Z1c [] [] 0 d (λf=>b true f) (λ_=>b false ([],[]))
def jfy:Z1d Unit:=λσ k=>rdN σ 84<|rd1 σ 1 y20 .S λl=>rdT σ 2 (.clos 171 [])<|rdT σ 3 (pB 3)<|rdT σ 6 (pB 6)<|rdB σ 3 y33 [.S,.S] λa d=>rdB σ 6 y33 [.O,.O] λf h=>jc7 l d (λg b=>k .ret (mkS 84 84 [(6,pB 6),(7,vB g)] [(6,⟨y33,f,b,[.S,.S]⟩)]))
theorem jkY:CN 0 3 Tryz.f170 jfy:=λg=>joo follows j2o j7Y g [j40,j6d,jbo] (oI 26 2 @jkV oN) ([],[]) [] ([6,7],[6]) [(1,[],[(6,[.S,.S])])] λσ k _ h=>rN h λq h=>rV h λl i h=>rT h λj h=>rT h λn h=>rT h λp h=>rB h λa d b h=>rB h λr w f h=>⟨_,ZaM (m:=84) q (sC i (sC j (sC n (sC p sN)))) (bC b (bC f bN)),.trans (by kernel_rfl) h⟩
def jcV (d:qF×List qR) (l:List qP) (b:qD->Bool->Res):Res:=jc7 l d λt f=>b f t
def jmU:Sig Unit:=sg [.borrow y33 true,.borrow y20 false,.clos 171 []] [true,false] [(y33,none),(y20,none)] [] λb g k=>jcV b.1 b.2.1 (λd f=>k [⟨y33,true,d,[.S,.S]⟩,wB f] [] [])
theorem jmG:SO 170 jmU:=fK (np:=0) j7Y [j40,j6d,jbo,jfy] (oI 3 3 @jkY oN) false Tryz.func170 λ_ _ _ _=>by kernel_rfl
def j9b (l:List qP) (b:Bool->Res):Res:=bif decide ((nI (List.length l))>400) then b false else jcV ([],[]) l λr d=>b d
def jci:Sig Unit:=sg [.look y20 false] [false] [(y20,none)] [] λd f k=>j9b d.1 (λb=>k [wB b] [] [])
theorem jlk:SO 104 jci:=fK (np:=0) (Za6 jmG Zas) [] oN false Tryz.func104 λ_ _ _ _=>by kernel_rfl
end
end Go.PI.G
namespace Go.PI.G
noncomputable section
open Go Go.PI Go.Proofs
open Go.Code (pl pr)
def j2D (f:List qP) (g:Int) (d:List Int) (b:Int) (rec:(List Int)->Int->Res) (h:(List Int)->Res):Res:=bif decide (b<g) then bif inb b (List.length f) then bif ((nth (0,0,0,eS,[],[],0,eS,[],[],eS,eS) f b).1==3) then bif lim ((List.length d)+1) then rec (d++[Z9K (b+1)]) (Z9K (b+1)) else none else rec d (Z9K (b+1)) else none else h d
def j4G (d:List qP) (f:Int):((List Int)×Int)->((List Int)×Int->Res)->(((List Int)->Res))->Res:=λv rec q=>j2D d f v.1 v.2 (λb g=>rec (b,g)) q
def j9A (d:List qP) (f:Int) (n:Nat) (b:List Int) (g:Int) (h:(List Int)->Res):Res:=Z1f (j4G d f) n (b,g) (h)
def j8P:Z1d Unit:=NdL 28 28 [.R 3 y21 .O,.R 11 y20 .S,.I 12,.I 13] [] (λb f=>(b.1,b.2.2.2.1)) (λb v=>(v.1,b.2.1,b.2.2.1,v.2,())) (λf v=>()) (λb f=>j4G b.2.1 b.2.2.1) λb f g=>((λd=>g (.exit 0) [(3,v1 y21 d .O)] []))
theorem jhH:CN 0 122 Tryz.f108 j8P:=lK (Za6 jg0 Zas) [] oN ([],[]) [(0,[3],[])] ([],[]) λ_ _ _ _ _=>by kernel_rfl
def j5t (l:List qP) (d:(List Int)->Res):Res:=j9B l λr=>bif !r then d [] else j9A l (nI (List.length l)) Z1c [] 0 λb=>d b
def jar:Sig Unit:=sg [.borrow y20 false] [false] [(y20,none)] [] λd f k=>j5t d.1 (λb=>k [w1 y21 b .O] [] [])
theorem jja:SO 108 jar:=fK (np:=0) (Za6 jg0 Zas) [j8P] (oI 122 0 @jhH oN) false Tryz.func108 λ_ _ _ _=>by delta j5t jgw j8P j9A;refine gz j9B λ_ b=>gz j4G λ_ d=> ?_;rewrite [<-b,<-d];kernel_rfl
end
end Go.PI.G
namespace Go.PI.G
open Go Go.PI Go.Proofs
open Go.Code (pl pr)
end Go.PI.G
