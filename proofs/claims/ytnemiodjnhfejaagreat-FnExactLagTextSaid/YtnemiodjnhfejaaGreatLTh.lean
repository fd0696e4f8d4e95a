/-
  Program's code interpreted over typed values; printed texts; plain laws. No conditions.
-/
import Derived.Test.YtnemiodjnhfejaaGreatLTd
import Derived.Test.YtnemiodjnhfejaaGreatLTe
import Derived.Test.YtnemiodjnhfejaaGreatLTf
import Derived.Test.YtnemiodjnhfejaaGreatLTg
set_option linter.unusedVariables false
set_option maxRecDepth 100000
namespace Go.PI.G
noncomputable section
open Go Go.PI Go.Proofs
open Go.Code (pl pr)
def j32 (d:List qV) (h:Int) (b:Int) (rec:Int->Res) (f:Unit->Res) (g:Unit->Res):Res:=bif decide (b<h) then bif inb b (List.length d) then j1g (nth (0,0,eS) d b) λr=>bif !r then g () else rec (Z9K (b+1)) else none else f ()
def j8q (b:List qV) (d:Int):Int->(Int->Res)->((Unit->Res)×(Unit->Res))->Res:=λv rec q=>j32 b d v (λf=>rec (f)) q.1 q.2
def je6 (f:List qV) (g:Int) (n:Nat) (h:Int) (b:Unit->Res) (d:Unit->Res):Res:=Z1f (j8q f g) n (h) (b,d)
def jdw:Z1d Unit:=NdL 23 23 [.R 0 y3 .S,.R 5 y3 .S,.I 6,.I 7] [] (λb d=>(b.2.2.2.1)) (λb v=>(b.1,b.2.1,b.2.2.1,v,())) (λd v=>()) (λb d=>j8q b.2.1 b.2.2.1) λb d f=>((λ_=>f (.exit 0) [(0,v1 y3 b.1 .S)] []),(λ_=>f .ret [(2,vB false)] []))
theorem jjq:CN 0 26 Tryz.f208 jdw:=lK (Za6 j7g Zas) [] oN ([],[]) [(0,[0],[])] ([2],[]) λ_ _ _ _ _=>by kernel_rfl
def j2k (l:List qV) (b:Bool->Res):Res:=je6 l (nI (List.length l)) Z1c 0 (λ_=>bif decide ((nI (List.length l))>=1) then b (decide ((nI (List.length l))<=8)) else b false) (λ_=>b false)
def jbh:Sig Unit:=sg [.look y3 false] [false] [(y3,none)] [] λd f k=>j2k d.1 (λb=>k [wB b] [] [])
theorem jkU:SO 208 jbh:=fK (np:=0) (Za6 j7g Zas) [jdw] (oI 26 0 @jjq oN) false Tryz.func208 λ_ _ _ _=>by kernel_rfl
def j1h (d:qG) (b:Bool->Res):Res:=bif (d.1==0) then bif sEq d.2.1 eS then bif ((nI (List.length d.2.2.1))==0) then bif ((nI (List.length d.2.2.2.1))==0) then bif sEq d.2.2.2.2.1 eS then b (sEq d.2.2.2.2.2 eS) else b false else b false else b false else b false else b false
def jag:Sig Unit:=sg [.look y13 true] [false] [(y13,none)] [] λd f k=>j1h d.1 (λb=>k [wB b] [] [])
theorem jdG:SO 209 jag:=fK (np:=0) Zas [] oN false Tryz.func209 λ_ _ _ _=>by kernel_rfl
theorem jgi:FS [(154,j1e),(208,jbh),(209,jag),(210,j3N)]:=(Za6 j6s (Za6 jkU (Za6 jdG (Za6 jcL Zas))))
def j5S (d:Bool) (f:Bool) (s:qS) (b:Bool->Res):Res:=bif (s.1==1) then bif d then j2k s.2.2.2.1 λr=>bif r then j1h s.2.2.2.2 λg=>b g else b false else b false else bif (s.1==2) then j2k s.2.2.1 λh=>bif h then j2k s.2.2.2.1 λi=>bif i then j1h s.2.2.2.2 λj=>b j else b false else b false else bif (s.1==3) then j2k s.2.2.1 λk=>bif k then bif f then j1h s.2.2.2.2 λl=>b l else b false else b false else bif (s.1==4) then bif d then bif f then j1h s.2.2.2.2 λm=>b m else b false else b false else bif (s.1==5) then bif d then bif f then j2a s.2.2.2.2 λn=>bif n then b (sEq s.2.2.2.2.2.1 s.2.1) else b false else b false else b false else b false
def jaF:Z1d Unit:=Nd 93 93 [.t 1 (pB 1),.B 3,.B 4] [(1,y17,[.S,.S,.S,.S])] λb g d=>j5S b.1 b.2.1 g.1.2 (λf=>d .ret [(2,vB f)] [])
theorem jkf:CN 0 31 Tryz.f155 jaF:=nK jgi [] oN ([],[]) [] ([2],[]) λ_ _ _=>by delta j5S jbh jag j3N;refine gz j2k λ_ b=>gz j1h λ_ d=>gz j2a λ_ f=> ?_;rewrite [<-b,<-d,<-f];kernel_rfl
def j3e (s:qS) (b:Bool->Res):Res:=j0m s.2.1 λr=>bif !r then b false else j5S ((nI (List.length s.2.2.1))==0) ((nI (List.length s.2.2.2.1))==0) s λt=>b t
def j6x:Sig Unit:=sg [.look y17 true] [false] [(y17,none)] [] λd f k=>j3e d.1 (λb=>k [wB b] [] [])
theorem jgu:SO 155 j6x:=fK (np:=0) jgi [jaF] (oI 31 0 @jkf oN) false Tryz.func155 λ_ _ _ _=>by delta j3e j1e jaF;refine gz j0m λ_ b=>gz j5S λ_ d=> ?_;rewrite [<-b,<-d];kernel_rfl
theorem jib:FS [(172,j1d),(242,j7u)]:=(Za6 j4d (Za6 jhg Zas))
def j5O (f:List qT) (g:Int) (d:qF×List qR) (b:Int) (rec:Int->Res) (h:Unit->Res) (i:Unit->Res):Res:=bif decide (b<g) then bif inb b (List.length f) then bif inb b (List.length d.2) then j0u (nth (eS,[],[]) f b) (nth [] d.2 b) λr=>bif !r then i () else rec (Z9K (b+1)) else none else none else h ()
def j81 (b:List qT) (f:Int) (d:qF×List qR):Int->(Int->Res)->((Unit->Res)×(Unit->Res))->Res:=λv rec q=>j5O b f d v (λg=>rec (g)) q.1 q.2
def jdg (b:List qT) (f:Int) (d:qF×List qR) (n:Nat) (g:Int) (h:Unit->Res) (i:Unit->Res):Res:=Z1f (j81 b f d) n (g) (h,i)
def jcc:Z1d Unit:=NdL 38 38 [.t 1 (pB 1),.R 21 y30 .S,.I 22,.I 23] [(1,y33,[.S,.S])] (λb d=>(b.2.2.1)) (λb v=>(b.1,b.2.1,v,())) (λd v=>((d.1.1,d.1.2),())) (λb d=>j81 b.1 b.2.1 d.1.2) λb d f=>((λ_=>f (.exit 0) [] []),(λ_=>f .ret [(2,vB false)] []))
theorem jmF:CN 0 58 Tryz.f186 jcc:=lK jib [] oN ([],[]) [(0,[],[])] ([2],[]) λ_ _ _ _ _=>by kernel_rfl
def j63 (d:qF×List qR) (b:Bool->Res):Res:=j6e d.1 λr=>bif !r then b false else bif ((nI (List.length d.2)) != (nI (List.length d.1))) then b false else jdg d.1 (nI (List.length d.1)) d Z1c 0 (λ_=>b true) (λ_=>b false)
def j8H:Sig Unit:=sg [.look y33 true] [false] [(y33,none)] [] λd f k=>j63 d.1 (λb=>k [wB b] [] [])
theorem jid:SO 186 j8H:=fK (np:=0) jib [jcc] (oI 58 0 @jmF oN) false Tryz.func186 λ_ _ _ _=>by delta j63 j7u jcc jdg;refine gz j6e λ_ b=>gz j81 λ_ d=> ?_;rewrite [<-b,<-d];kernel_rfl
theorem jeP:FS [(243,j5H),(244,j7Y)]:=(Za6 jf4 (Za6 jf5 Zas))
def j31 (f:List qR) (g:Int) (d:Int) (b:qF×List qR) (rec:Int->qD->Res) (h:qD->Res):Res:=bif decide (d<g) then bif inb d (List.length f) then j5W (nth [] f d) λr=>bif lim ((List.length b.2)+1) then rec (Z9K (d+1)) (b.1,(b.2++[r])) else none else none else h b
def j58 (d:List qR) (f:Int):(Int×qD)->(Int×qD->Res)->((qD->Res))->Res:=λv rec q=>j31 d f v.1 v.2 (λg b=>rec (g,b)) q
def jar (d:List qR) (f:Int) (n:Nat) (g:Int) (b:qF×List qR) (h:qD->Res):Res:=Z1f (j58 d f) n (g,b) (h)
def j9x:Z1d Unit:=NdL 28 28 [.t 2 (pB 2),.t 3 (pB 3),.R 11 y32 .S,.I 12,.I 13] [(2,y33,[.O,.O]),(3,y33,[.O,.O])] (λd b=>(d.2.2.1,b.2.1.2)) (λd v=>(d.1,d.2.1,v.1,())) (λb v=>((b.1.1,b.1.2),(b.2.1.1,v.2),())) (λd b=>j58 d.1 d.2.1) λd b g=>((λf=>g (.exit 0) [(2,pB 2),(3,pB 3)] [(2,⟨y33,b.1.1,b.1.2,[.O,.O]⟩),(3,⟨y33,b.2.1.1,f,[.O,.O]⟩)]))
theorem jjp:CN 0 58 Tryz.f187 j9x:=lK jeP [] oN ([],[]) [(0,[2,3],[2,3])] ([],[]) λ_ _ _ _ _=>by kernel_rfl
def j1B (d:qF×List qR) (f:qD->Res):Res:=j3T d.1 λr=>jar d.2 (nI (List.length d.2)) Z1c 0 (r,[]) λb=>f b
def j5I:Sig Unit:=sg [.borrow y33 true] [true] [(y33,none)] [] λd f k=>j1B d.1 (λb=>k [⟨y33,true,b,[.O,.O]⟩] [] [])
theorem jf7:SO 187 j5I:=fK (np:=0) jeP [j9x] (oI 58 0 @jjp oN) false Tryz.func187 λ_ _ _ _=>by delta j1B j5H j9x jar;refine gz j3T λ_ b=>gz j58 λ_ d=> ?_;rewrite [<-b,<-d];kernel_rfl
def j1a (t:qB×qE×qL) (l:List qW) (s:qS) (b:qR->Int->Res):Res:=bif (s.1==1) then j6N t l s.2.2.2.1 λr d=>b r d else bif (s.1==2) then j6O t l s.2.2.1 s.2.2.2.1 λf g=>b f g else bif (s.1==3) then j6M t l s.2.2.1 λh i=>b h i else bif (s.1==5) then j5R t l s.2.2.2.2 λj k=>b j k else b [] 0
def j5J:Sig Unit:=sg [.borrow y29 true,.borrow y31 false,.borrow y17 true] [false,false] [(y29,none),(y31,none),(y17,none)] [] λb g k=>j1a b.1 b.2.1 b.2.2.1 (λd f=>k [w1 y31 d .O,wI f] [] [])
theorem jf8:SO 246 j5J:=fK (np:=0) (Za6 jmm (Za6 jmn (Za6 jml (Za6 jkQ Zas)))) [] oN false Tryz.func246 λ_ _ _ _=>by delta j1a jgM jgN jgL jft;refine gz j6N λ_ b=>gz j6O λ_ d=>gz j6M λ_ f=>gz j5R λ_ g=> ?_;rewrite [<-b,<-d,<-f,<-g];kernel_rfl
theorem j64:FS [(113,j3O),(244,j7Y),(246,j5J),(287,j4z)]:=(Za6 jcO (Za6 jf5 (Za6 jf8 (Za6 jdF Zas))))
def j30 (b:Int) (s:qS) (t:qB×qE×qL) (d:Bool->Res):Res:=bif decide (b>=0) then d (sEq t.1 s.2.1) else d false
def j2m:Z1d Unit:=Nd 86 86 [.t 2 (pB 2),.t 3 (pB 3),.t 4 (pB 4),.t 8 (pB 8),.t 10 (pB 10),.t 11 (pB 11),.I 12,.R 29 y30 .S,.I 30,.I 31] [(2,y33,[.S,.S]),(3,y17,[.S,.S,.S,.S]),(4,y33,[.O,.O]),(8,y33,[.S,.O]),(10,y29,[.S,.S]),(11,y31,[.O])] λd b g=>j30 d.1 b.2.1.2 b.2.2.2.2.1.2 (λf=>g .normal [(2,pB 2),(3,pB 3),(4,pB 4),(8,pB 8),(11,pB 11),(12,vI d.1),(29,v1 y30 d.2.1 .S),(30,vI d.2.2.1),(31,vI d.2.2.2.1),(49,vB f)] [(2,⟨y33,b.1.1,b.1.2,[.S,.S]⟩),(3,⟨y17,b.2.1.1,b.2.1.2,[.S,.S,.S,.S]⟩),(4,⟨y33,b.2.2.1.1,b.2.2.1.2,[.O,.O]⟩),(8,⟨y33,b.2.2.2.1.1,b.2.2.2.1.2,[.S,.O]⟩),(11,⟨y31,b.2.2.2.2.2.1.1,b.2.2.2.2.2.1.2,[.O]⟩)])
theorem jhC:CN 0 256412 Tryz.f245 j2m:=nK j64 [] oN ([2,3,4,8,11,12,29,30,31,49],[2,3,4,8,11]) [] ([],[]) λ_ _ _=>by kernel_rfl
def j1N (b:Int) (g:Bool) (d:qF×List qR) (s:qS) (x:List qW) (f:qR->Res):Res:=bif g then bif inb b (List.length d.1) then bif inb b (List.length d.2) then j1a (nth (eS,[],[]) d.1 b) (nth [] d.2 b) s λr i=>Z87 (f r) (f r) else none else none else bif decide (b>=0) then bif inb b (List.length d.2) then j5W (nth [] d.2 b) λh=>f h else none else f x
def j4M:Z1d Unit:=Nd 86 86 [.t 2 (pB 2),.t 3 (pB 3),.t 4 (pB 4),.t 8 (pB 8),.t 11 (pB 11),.I 12,.R 29 y30 .S,.I 30,.I 31,.B 49] [(2,y33,[.S,.S]),(3,y17,[.S,.S,.S,.S]),(4,y33,[.O,.O]),(8,y33,[.S,.O]),(11,y31,[.O])] λd b f=>j1N d.1 d.2.2.2.2.1 b.1.2 b.2.1.2 b.2.2.2.2.1.2 (λg=>f .normal [(2,pB 2),(3,pB 3),(4,pB 4),(8,pB 8),(11,pB 11),(29,v1 y30 d.2.1 .S),(30,vI d.2.2.1),(31,vI d.2.2.2.1)] [(2,⟨y33,b.1.1,b.1.2,[.S,.S]⟩),(3,⟨y17,b.2.1.1,b.2.1.2,[.S,.S,.S,.S]⟩),(4,⟨y33,b.2.2.1.1,b.2.2.1.2,[.O,.O]⟩),(8,⟨y33,b.2.2.2.1.1,b.2.2.2.1.2,[.S,.O]⟩),(11,⟨y31,b.2.2.2.2.1.1,g,[.O]⟩)])
theorem jhD:CN 0 256413 Tryz.f245 j4M:=nK j64 [j2m] oN ([2,3,4,8,11,29,30,31],[2,3,4,8,11]) [] ([],[]) λ_ _ _=>by delta j1N j5J j7Y;refine gz j1a λ_ b=>gz j5W λ_ d=> ?_;rewrite [<-b,<-d];kernel_rfl
def j14 (g:List qT) (h:Int) (d:qF×List qR) (s:qS) (b:Int) (f:qF×List qR) (rec:Int->qD->Res) (i:qD->Res):Res:=bif decide (b<h) then bif inb b (List.length g) then j2c d.1 (nth (eS,[],[]) g b).1 λr=>j30 r s (nth (eS,[],[]) g b) λt=>j1N r t d s [] λx=>bif lim ((List.length f.2)+1) then rec (Z9K (b+1)) (f.1,(f.2++[x])) else none else none else i f
def j20 (f:List qT) (g:Int) (d:qF×List qR) (s:qS):(Int×qD)->(Int×qD->Res)->((qD->Res))->Res:=λv rec q=>j14 f g d s v.1 v.2 (λh b=>rec (h,b)) q
def j57 (f:List qT) (g:Int) (d:qF×List qR) (s:qS) (n:Nat) (h:Int) (b:qF×List qR) (i:qD->Res):Res:=Z1f (j20 f g d s) n (h,b) (i)
def j7J:Z1d Unit:=NdL 86 86 [.t 2 (pB 2),.t 3 (pB 3),.t 4 (pB 4),.t 8 (pB 8),.R 29 y30 .S,.I 30,.I 31] [(2,y33,[.S,.S]),(3,y17,[.S,.S,.S,.S]),(4,y33,[.O,.O]),(8,y33,[.S,.O])] (λd b=>(d.2.2.1,b.2.2.2.1.2)) (λd v=>(d.1,d.2.1,v.1,())) (λb v=>((b.1.1,b.1.2),(b.2.1.1,b.2.1.2),(b.2.2.1.1,b.2.2.1.2),(b.2.2.2.1.1,v.2),())) (λd b=>j20 d.1 d.2.1 b.1.2 b.2.1.2) λd b g=>((λf=>g (.exit 0) [(4,pB 4),(8,pB 8)] [(4,⟨y33,b.2.2.1.1,b.2.2.1.2,[.O,.O]⟩),(8,⟨y33,b.2.2.2.1.1,f,[.S,.O]⟩)]))
theorem jhB:CN 0 250 Tryz.f245 j7J:=lK j64 [j2m,j4M] (oI 924 0 @jhC (oI 925 1 @jhD oN)) ([],[]) [(0,[4,8],[4,8])] ([],[]) λ_ _ _ _ _=>by delta j20 j14 j3O j2m j4M;refine gz j2c λ_ b=>gz j30 λ_ d=>gz j1N λ_ f=> ?_;rewrite [<-b,<-d,<-f];kernel_rfl
def j3o (d:qF×List qR) (s:qS) (f:qD->Int->Res):Res:=j1Q d.1 s.2.2.2.2 λr g=>bif (g != 0) then f ([],[]) (Z9K (10+g)) else j57 r (nI (List.length r)) d s Z1c 0 (r,[]) λb=>f b 0
def j97:Sig Unit:=sg [.borrow y33 true,.borrow y17 true] [true,false] [(y33,none),(y17,none)] [] λb g k=>j3o b.1 b.2.1 (λd f=>k [⟨y33,true,d,[.S,.S]⟩,wI f] [] [])
theorem jiB:SO 245 j97:=fK (np:=0) j64 [j2m,j4M,j7J] (oI 250 2 @jhB oN) true Tryz.func245 λ_ _ _ _=>by delta j3o j4z j7J j57;refine gz j1Q λ_ b=>gz j20 λ_ d=> ?_;rewrite [<-b,<-d];kernel_rfl
theorem jic:FS [(113,j3O),(155,j6x),(186,j8H),(187,j5I),(245,j97),(246,j5J)]:=(Za6 jcO (Za6 jgu (Za6 jid (Za6 jf7 (Za6 jiB (Za6 jf8 Zas))))))
def j7B (b:Int) (s:qS) (d:Unit->Res) (f:Unit->Res):Res:=bif decide (b<0) then bif (s.1 != 5) then f () else bif (s.2.2.2.2.1 != 1) then f () else d () else d ()
def jcd:Z1d Unit:=Nd 77 77 [.t 2 (pB 2),.t 3 (pB 3),.t 4 (pB 4),.I 6] [(2,y33,[.S,.S]),(3,y17,[.S,.S,.S,.S]),(4,y33,[.O,.O])] λf b d=>j7B f.1 b.2.1.2 (λ_=>d .normal [(2,pB 2),(3,pB 3),(4,pB 4),(6,vI f.1)] [(2,⟨y33,b.1.1,b.1.2,[.S,.S]⟩),(3,⟨y17,b.2.1.1,b.2.1.2,[.S,.S,.S,.S]⟩),(4,⟨y33,b.2.2.1.1,b.2.2.1.2,[.O,.O]⟩)]) (λ_=>d .ret [(4,pB 4),(5,vI 4)] [(4,⟨y33,b.2.2.1.1,([],[]),[.O,.O]⟩)])
theorem jmG:CN 0 30 Tryz.f188 jcd:=nK jic [] oN ([2,3,4,6],[2,3,4]) [] ([4,5],[4]) λ_ _ _=>by kernel_rfl
def j7A (d:qF×List qR) (s:qS) (f:qD->Int->Res):Res:=j63 d λr=>bif !r then f ([],[]) 1 else j3e s λi=>bif !i then f ([],[]) 1 else j2c d.1 s.2.1 λb=>j7B b s (λ_=>bif (s.1==5) then j3o d s λj k=>f j k else bif inb b (List.length d.1) then bif inb b (List.length d.2) then j1a (nth (eS,[],[]) d.1 b) (nth [] d.2 b) s λl h=>bif (h != 0) then f ([],[]) (Z9K (10+h)) else j1B d λg=>bif inb b (List.length g.2) then f (g.1,upd g.2 b l) 0 else none else none else none) (λ_=>f ([],[]) 4)
def jin:Sig Unit:=sg [.borrow y33 true,.borrow y17 true] [true,false] [(y33,none),(y17,none)] [] λb g k=>j7A b.1 b.2.1 (λd f=>k [⟨y33,true,d,[.S,.S]⟩,wI f] [] [])
theorem jon:SO 188 jin:=fK (np:=0) jic [jcd] (oI 30 0 @jmG oN) true Tryz.func188 λ_ _ _ _=>by delta j7A j8H j6x j3O jcd j97 j5J j5I;refine gz j63 λ_ b=>gz j3e λ_ d=>gz j2c λ_ f=>gz j7B λ_ g=>gz j3o λ_ h=>gz j1a λ_ i=>gz j1B λ_ j=> ?_;rewrite [<-b,<-d,<-f,<-g,<-h,<-i,<-j];kernel_rfl
theorem jeN:FS [(186,j8H),(187,j5I),(188,jin)]:=(Za6 jid (Za6 jf7 (Za6 jon Zas)))
def j2O (d:List qS) (f:Int) (b:Int) (now:qF×List qR) (rec:Int->qD->Res) (h:qD->Res) (i:Int->Int->Res):Res:=bif decide (b<f) then bif inb b (List.length d) then j7A now (nth (0,eS,[],[],0,eS,[],[],eS,eS) d b) λr g=>bif (g != 0) then i g b else rec (Z9K (b+1)) r else none else h now
def j4Z (b:List qS) (d:Int):(Int×qD)->(Int×qD->Res)->((qD->Res)×(Int->Int->Res))->Res:=λv rec q=>j2O b d v.1 v.2 (λf now=>rec (f,now)) q.1 q.2
def j75 (b:List qS) (d:Int) (n:Nat) (f:Int) (now:qF×List qR) (g:qD->Res) (h:Int->Int->Res):Res:=Z1f (j4Z b d) n (f,now) (g,h)
def j9g:Z1d Unit:=λσ k=>rdN σ 39<|rdT σ 4 (pB 4)<|rdT σ 7 (pB 7)<|rd1 σ 18 y27 .S λd=>rdI σ 19 λf=>rdI σ 20 λg=>rdB σ 4 y33 [.O,.O] λa i=>rdB σ 7 y33 [.S,.S] λh now=>j75 d f Z1c g now (λb=>k (.exit 0) (mkS 39 39 [(4,pB 4),(7,pB 7)] [(4,⟨y33,a,i,[.O,.O]⟩),(7,⟨y33,h,b,[.S,.S]⟩)])) (λj l=>k .ret (mkS 39 39 [(4,pB 4),(5,vI j),(6,vI l)] [(4,⟨y33,a,([],[]),[.O,.O]⟩)]))
def j9r:Z1d Unit:=λσ k=>j9g (σ.wk [] [(7,[.S,.S])]) k
theorem jj9:CN 0 122 Tryz.f133 j9r:=λp=>ZaJ [] [(7,[.S,.S])] (jjW follows j1D jeN p [] oN [4,7,18,19,20] [4,7] ([],[]) [(0,[4,7],[4,7])] ([4,5,6],[4]) (y:=j9g) λσ k _ h=>rN h λB h=>rT h λz h=>rT h λA h=>rV h λd g h=>rV h λf i h=>rV h λq j h=>rB h λa w l h=>rB h λr now n h=>⟨_,ZaM (m:=39) B (sC z (sC A (sC g (sC i (sC j sN))))) (bC l (bC n bN)),.trans (Z9u (λv:Int×qD=>(mkS 39 39 [(4,pB 4),(7,pB 7),(18,v1 y27 d .S),(19,vI f),(20,vI v.1)] [(4,⟨y33,a,w,[.O,.O]⟩),(7,⟨y33,r,v.2,[.S,.S]⟩)])) (j4Z d f) (λ(k:Z83 Unit)=>(((λb=>k (.exit 0) (mkS 39 39 [(4,pB 4),(7,pB 7)] [(4,⟨y33,a,w,[.O,.O]⟩),(7,⟨y33,r,b,[.S,.S]⟩)])),(λC D=>k .ret (mkS 39 39 [(4,pB 4),(5,vI C),(6,vI D)] [(4,⟨y33,a,([],[]),[.O,.O]⟩)]))):(qD->Res)×(Int->Int->Res))) (λv rec k=>by kernel_rfl) Z1c (q,now) k) h⟩)
def j2j (d:qF×List qR) (l:List qS) (b:qD->Int->Int->Res):Res:=j63 d λr=>bif !r then b ([],[]) 1 0 else j1B d λf=>j75 l (nI (List.length l)) Z1c 0 f (λnow=>b now 0 0) (λt g=>b ([],[]) t g)
def jbe:Sig Unit:=sg [.borrow y33 true,.borrow y27 false] [true,false,false] [(y33,none),(y27,none)] [] λb h k=>j2j b.1 b.2.1 (λd f g=>k [⟨y33,true,d,[.S,.S]⟩,wI f,wI g] [] [])
theorem jkN:SO 133 jbe:=fK (np:=0) jeN [j9r] (oI 122 0 @jj9 oN) true Tryz.func133 λ_ _ _ _=>by delta j2j j8H j5I j9r;delta j9g j75;refine gz j63 λ_ b=>gz j1B λ_ d=>gz j4Z λ_ f=> ?_;rewrite [<-b,<-d,<-f];kernel_rfl
def jbR (d:Int×Int×qB) (b:Bool->Res):Res:=j0X d λr=>b (!r)
def jkq:Sig Unit:=sg [.look y2 true] [false] [(y2,none)] [] λd f k=>jbR d.1 (λb=>k [wB b] [] [])
theorem jdD:SO 272 jkq:=fK (np:=0) (Za6 j7e Zas) [] oN false Tryz.func272 λ_ _ _ _=>by kernel_rfl
def j0Q (s:List qV) (g:Int) (b:Int) (rec:Int->Res) (d:Unit->Res) (f:Int->Res):Res:=bif decide (b<g) then bif inb b (List.length s) then jbR (nth (0,0,eS) s b) λr=>bif r then f b else rec (Z9K (b+1)) else none else d ()
def j39 (s:List qV) (b:Int):Int->(Int->Res)->((Unit->Res)×(Int->Res))->Res:=λv rec q=>j0Q s b v (λd=>rec (d)) q.1 q.2
def j88 (s:List qV) (f:Int) (n:Nat) (g:Int) (b:Unit->Res) (d:Int->Res):Res:=Z1f (j39 s f) n (g) (b,d)
def j7H:Z1d Unit:=NdL 19 19 [.R 0 y3 .S,.c 1 272 [] .unit [],.I 7,.I 8] [] (λb d=>(b.2.2.2.1)) (λb v=>(b.1,b.2.1,b.2.2.1,v,())) (λd v=>()) (λb d=>j39 b.1 b.2.2.1) λb d f=>((λ_=>f (.exit 0) [] []),(λg=>f .ret [(4,vI g)] []))
theorem jd4:CN 0 26 Tryz.f306 j7H:=lK (Za6 jdD Zas) [] oN ([],[]) [(0,[],[])] ([4],[]) λ_ _ _ _ _=>by kernel_rfl
def j6c (s:List qV) (f:Unit) (b:Int->Res):Res:=j88 s (nI (List.length s)) Z1c 0 (λ_=>b (-1)) (λt=>b t)
def jeD:Sig Unit:=sg [.look y3 false,.rclos 272 []] [false] [(y3,none),(.unit,none)] [] λb f k=>j6c b.1 b.2.1 (λd=>k [wI d] [] [])
theorem jes:SO 306 jeD:=fK (np:=0) (Za6 jdD Zas) [j7H] (oI 26 0 @jd4 oN) false Tryz.func306 λ_ _ _ _=>by kernel_rfl
def j1T (s:List qV) (f:Unit) (b:Bool->Res):Res:=j6c s f λr=>b (decide (r>=0))
def j73:Sig Unit:=sg [.look y3 false,.rclos 272 []] [false] [(y3,none),(.unit,none)] [] λb f k=>j1T b.1 b.2.1 (λd=>k [wB d] [] [])
theorem jck:SO 271 j73:=fK (np:=0) (Za6 jes Zas) [] oN false Tryz.func271 λ_ _ _ _=>by kernel_rfl
def j1u (l:List qV) (b:Bool->Res):Res:=j09 (nI (List.length l)) 1 8 λr=>bif r then j1T l () λd=>b (!d) else b false
def jbc:Sig Unit:=sg [.look y3 false] [false] [(y3,none)] [] λd f k=>j1u d.1 (λb=>k [wB b] [] [])
theorem jkH:SO 213 jbc:=fK (np:=0) (Za6 j1b (Za6 jck Zas)) [] oN false Tryz.func213 λ_ _ _ _=>by delta j1u j0A j73;refine gz j09 λ_ b=>gz j1T λ_ d=> ?_;rewrite [<-b,<-d];kernel_rfl
theorem jge:FS [(160,j1c),(211,j3L),(212,j72),(213,jbc)]:=(Za6 j6r (Za6 jcC (Za6 j9J (Za6 jkH Zas))))
def j5l (s:qS) (b:Bool->Res):Res:=bif (s.1==1) then bif ((nI (List.length s.2.2.1))==0) then j1u s.2.2.2.1 λr=>b r else b false else bif (s.1==2) then j1u s.2.2.1 λd=>bif d then j1u s.2.2.2.1 λf=>b f else b false else bif (s.1==3) then j1u s.2.2.1 λg=>bif g then b ((nI (List.length s.2.2.2.1))==0) else b false else bif (s.1==4) then bif ((nI (List.length s.2.2.1))==0) then b ((nI (List.length s.2.2.2.1))==0) else b false else b false
def jax:Z1d Unit:=Nd 91 91 [.t 1 (pB 1)] [(1,y17,[.S,.S,.S,.S])] λg f b=>j5l f.1.2 (λd=>b .ret [(2,vB d)] [])
theorem jk0:CN 0 15 Tryz.f161 jax:=nK jge [] oN ([],[]) [] ([2],[]) λ_ _ _=>by delta j5l jbc;refine gz j1u λ_ b=> ?_;rewrite [<-b];kernel_rfl
def j3c (s:qS) (b:Bool->Res):Res:=bif (s.1==5) then j28 s.2.2.2.2 λr=>bif r then bif sEq s.2.1 s.2.2.2.2.2.1 then bif ((nI (List.length s.2.2.1))==0) then b ((nI (List.length s.2.2.2.1))==0) else b false else b false else b false else j0h s.2.1 λd=>bif !d then b false else j0e s.2.2.2.2 (0,eS,[],[],eS,eS) λf=>bif !f then b false else j5l s λt=>b t
def j8P:Sig Unit:=sg [.look y17 true] [false] [(y17,none)] [] λd f k=>j3c d.1 (λb=>k [wB b] [] [])
theorem jgk:SO 161 j8P:=fK (np:=0) jge [jax] (oI 15 0 @jk0 oN) false Tryz.func161 λ_ _ _ _=>by delta j3c j3L j1c j72 jax;refine gz j28 λ_ b=>gz j0h λ_ d=>gz j0e λ_ f=>gz j5l λ_ g=> ?_;rewrite [<-b,<-d,<-f,<-g];kernel_rfl
def j6u (s:qS) (b:qS->Res):Res:=j0S s.2.2.1 λr=>j0S s.2.2.2.1 λd=>j9U s.2.2.2.2 λf=>b (s.1,s.2.1,r,d,f)
def jkr:Sig Unit:=sg [.borrow y17 true] [true] [(y17,none)] [] λd f k=>j6u d.1 (λb=>k [⟨y17,true,b,[.O,.O,.O,.O]⟩] [] [])
theorem jdE:SO 216 jkr:=fK (np:=0) (Za6 j6T (Za6 jkJ Zas)) [] oN false Tryz.func216 λ_ _ _ _=>by delta j6u j71 jfn;refine gz j0S λ_ b=>gz j9U λ_ d=> ?_;rewrite [<-b,<-d];kernel_rfl
theorem jia:FS [(250,j7r),(251,j1P)]:=(Za6 jh5 (Za6 j6q Zas))
def j5g (f:List qT) (g:Int) (d:qF×List qR) (b:Int) (rec:Int->Res) (h:Unit->Res) (i:Unit->Res):Res:=bif decide (b<g) then bif inb b (List.length f) then bif inb b (List.length d.2) then j0I (nth (eS,[],[]) f b) (nth [] d.2 b) λr=>bif !r then i () else rec (Z9K (b+1)) else none else none else h ()
def j7R (b:List qT) (f:Int) (d:qF×List qR):Int->(Int->Res)->((Unit->Res)×(Unit->Res))->Res:=λv rec q=>j5g b f d v (λg=>rec (g)) q.1 q.2
def jcS (b:List qT) (f:Int) (d:qF×List qR) (n:Nat) (g:Int) (h:Unit->Res) (i:Unit->Res):Res:=Z1f (j7R b f d) n (g) (h,i)
def jc9:Z1d Unit:=NdL 38 38 [.t 1 (pB 1),.R 21 y30 .S,.I 22,.I 23] [(1,y33,[.S,.S])] (λb d=>(b.2.2.1)) (λb v=>(b.1,b.2.1,v,())) (λd v=>((d.1.1,d.1.2),())) (λb d=>j7R b.1 b.2.1 d.1.2) λb d f=>((λ_=>f (.exit 0) [] []),(λ_=>f .ret [(2,vB false)] []))
theorem jmx:CN 0 58 Tryz.f195 jc9:=lK jia [] oN ([],[]) [(0,[],[])] ([2],[]) λ_ _ _ _ _=>by kernel_rfl
def j9z (d:qF×List qR) (b:Bool->Res):Res:=j65 d.1 λr=>bif !r then b false else bif ((nI (List.length d.2)) != (nI (List.length d.1))) then b false else jcS d.1 (nI (List.length d.1)) d Z1c 0 (λ_=>b true) (λ_=>b false)
def jez:Sig Unit:=sg [.look y33 true] [false] [(y33,none)] [] λd f k=>j9z d.1 (λb=>k [wB b] [] [])
theorem jok:SO 195 jez:=fK (np:=0) jia [jc9] (oI 58 0 @jmx oN) false Tryz.func195 λ_ _ _ _=>by delta j9z j7r jc9 jcS;refine gz j65 λ_ b=>gz j7R λ_ d=> ?_;rewrite [<-b,<-d];kernel_rfl
theorem jgf:FS [(231,j5y),(232,j0N)]:=(Za6 jeU (Za6 j4j Zas))
def j3z (f:List qR) (g:Int) (d:Int) (b:qF×List qR) (rec:Int->qD->Res) (h:qD->Res):Res:=bif decide (d<g) then bif inb d (List.length f) then j0q (nth [] f d) λr=>bif lim ((List.length b.2)+1) then rec (Z9K (d+1)) (b.1,(b.2++[r])) else none else none else h b
def j67 (d:List qR) (f:Int):(Int×qD)->(Int×qD->Res)->((qD->Res))->Res:=λv rec q=>j3z d f v.1 v.2 (λg b=>rec (g,b)) q
def jb0 (d:List qR) (f:Int) (n:Nat) (g:Int) (b:qF×List qR) (h:qD->Res):Res:=Z1f (j67 d f) n (g,b) (h)
def jaz:Z1d Unit:=NdL 28 28 [.t 2 (pB 2),.t 3 (pB 3),.R 11 y32 .S,.I 12,.I 13] [(2,y33,[.O,.O]),(3,y33,[.O,.O])] (λd b=>(d.2.2.1,b.2.1.2)) (λd v=>(d.1,d.2.1,v.1,())) (λb v=>((b.1.1,b.1.2),(b.2.1.1,v.2),())) (λd b=>j67 d.1 d.2.1) λd b g=>((λf=>g (.exit 0) [(2,pB 2),(3,pB 3)] [(2,⟨y33,b.1.1,b.1.2,[.O,.O]⟩),(3,⟨y33,b.2.1.1,f,[.O,.O]⟩)]))
theorem jk2:CN 0 58 Tryz.f174 jaz:=lK jgf [] oN ([],[]) [(0,[2,3],[2,3])] ([],[]) λ_ _ _ _ _=>by kernel_rfl
def j16 (d:qF×List qR) (f:qD->Res):Res:=j3y d.1 λr=>jb0 d.2 (nI (List.length d.2)) Z1c 0 (r,[]) λb=>f b
def j2y:Sig Unit:=sg [.borrow y33 true] [true] [(y33,none)] [] λd f k=>j16 d.1 (λb=>k [⟨y33,true,b,[.O,.O]⟩] [] [])
theorem jbO:SO 174 j2y:=fK (np:=0) jgf [jaz] (oI 58 0 @jk2 oN) false Tryz.func174 λ_ _ _ _=>by delta j16 j5y jaz jb0;refine gz j3y λ_ b=>gz j67 λ_ d=> ?_;rewrite [<-b,<-d];kernel_rfl
theorem jeM:FS [(174,j2y),(176,j0T),(295,jaa),(296,j69),(297,j68),(298,jb9)]:=(Za6 jbO (Za6 j8M (Za6 jjC (Za6 jfL (Za6 jfK (Za6 jkD Zas))))))
def j2o (f:Int) (h:Int) (d:qF×List qR) (x:qG) (c:List qT) (b:qF×List qR) (g:qD->Res):Res:=bif (h==1) then Z87 (j0l c x.2.1 λr=>j1q b.2 r [[]] λi=>g (b.1,i)) (Z87 (j0l c x.2.1 λj=>j1q b.2 j [[]] λk=>g (b.1,k)) (j0l c x.2.1 λl=>j1q b.2 l [[]] λm=>g (b.1,m))) else bif (h==2) then j4A b.2 f (Z9K (f+1)) λn=>g (b.1,n) else bif inb f (List.length d.1) then bif inb f (List.length d.2) then j5k (nth (eS,[],[]) d.1 f) (nth [] d.2 f) x λp q=>bif inb f (List.length b.2) then g (b.1,upd b.2 f p) else none else none else none
def j9o:Z1d Unit:=Nd 79 79 [.t 2 (pB 2),.t 3 (pB 3),.t 4 (pB 4),.t 6 (pB 6),.t 8 (pB 8),.I 9,.I 31] [(2,y33,[.S,.S]),(3,y13,[.S,.S]),(4,y33,[.O,.O]),(6,y30,[.O]),(8,y33,[.O,.O])] λf b g=>j2o f.1 f.2.1 b.1.2 b.2.1.2 b.2.2.2.1.2 b.2.2.2.2.1.2 (λd=>g .normal [(4,pB 4),(6,pB 6),(8,pB 8)] [(4,⟨y33,b.2.2.1.1,b.2.2.1.2,[.O,.O]⟩),(6,⟨y30,b.2.2.2.1.1,b.2.2.2.1.2,[.O]⟩),(8,⟨y33,b.2.2.2.2.1.1,d,[.O,.O]⟩)])
theorem jj0:CN 0 253 Tryz.f252 j9o:=nK jeM [] oN ([4,6,8],[4,6,8]) [] ([],[]) λ_ _ _=>by delta j2o j0T j69 j68 jb9;refine gz j0l λ_ b=>gz j1q λ_ d=>gz j4A λ_ f=>gz j5k λ_ g=> ?_;rewrite [<-b,<-d,<-f,<-g];kernel_rfl
def j5o (d:qF×List qR) (x:qG) (f:qD->Int->Res):Res:=j4f d.1 x λr g=>bif (g != 0) then f ([],[]) g else j16 d λh=>j0l d.1 x.2.1 λi=>j2o i x.1 d x r h λb=>f (r,b.2) 0
def jbd:Sig Unit:=sg [.borrow y33 true,.borrow y13 true] [true,false] [(y33,none),(y13,none)] [] λb g k=>j5o b.1 b.2.1 (λd f=>k [⟨y33,true,d,[.O,.O]⟩,wI f] [] [])
theorem jkI:SO 252 jbd:=fK (np:=0) jeM [j9o] (oI 253 0 @jj0 oN) false Tryz.func252 λ_ _ _ _=>by delta j5o jaa j2y j0T j9o;refine gz j4f λ_ b=>gz j16 λ_ d=>gz j0l λ_ f=>gz j2o λ_ g=> ?_;rewrite [<-b,<-d,<-f,<-g];kernel_rfl
theorem jbu:FS [(174,j2y),(176,j0T),(252,jbd),(253,jbX),(254,jbY),(255,jbW)]:=(Za6 jbO (Za6 j8M (Za6 jkI (Za6 jm9 (Za6 jma (Za6 jm8 Zas))))))
def j7n (f:Int) (s:qS) (b:Unit->Res) (d:Unit->Res):Res:=bif decide (f<0) then bif (s.1 != 5) then d () else bif (s.2.2.2.2.1 != 1) then d () else b () else b ()
def j6A:Z1d Unit:=Nd 108 108 [.t 2 (pB 2),.t 3 (pB 3),.t 4 (pB 4),.I 6] [(2,y33,[.S,.S]),(3,y17,[.S,.S,.S,.S]),(4,y33,[.O,.O])] λf b d=>j7n f.1 b.2.1.2 (λ_=>d .normal [(2,pB 2),(3,pB 3),(4,pB 4),(6,vI f.1)] [(2,⟨y33,b.1.1,b.1.2,[.S,.S]⟩),(3,⟨y17,b.2.1.1,b.2.1.2,[.S,.S,.S,.S]⟩),(4,⟨y33,b.2.2.1.1,b.2.2.1.2,[.O,.O]⟩)]) (λ_=>d .ret [(4,pB 4),(5,vI 4)] [(4,⟨y33,b.2.2.1.1,([],[]),[.O,.O]⟩)])
theorem jmy:CN 0 14 Tryz.f196 j6A:=nK jbu [] oN ([2,3,4,6],[2,3,4]) [] ([4,5],[4]) λ_ _ _=>by kernel_rfl
def j9V (f:Int) (d:qF×List qR) (b:Unit->Res):Res:=bif inb f (List.length d.1) then Z87 (Z87 (Z87 (Z87 (bif inb f (List.length d.2) then Z87 (Z87 (b ()) (Z87 (b ()) (b ()))) (Z87 (Z87 (b ()) (b ())) (b ())) else none) (Z87 (bif inb f (List.length d.2) then Z87 (Z87 (b ()) (b ())) (b ()) else none) (bif inb f (List.length d.2) then b () else none))) (Z87 (Z87 (bif inb f (List.length d.2) then Z87 (Z87 (b ()) (b ())) (b ()) else none) (bif inb f (List.length d.2) then b () else none)) (bif inb f (List.length d.2) then b () else none))) (Z87 (Z87 (Z87 (bif inb f (List.length d.2) then Z87 (Z87 (b ()) (Z87 (b ()) (b ()))) (Z87 (Z87 (b ()) (b ())) (b ())) else none) (Z87 (bif inb f (List.length d.2) then Z87 (Z87 (b ()) (b ())) (b ()) else none) (bif inb f (List.length d.2) then b () else none))) (Z87 (Z87 (bif inb f (List.length d.2) then Z87 (Z87 (b ()) (b ())) (b ()) else none) (bif inb f (List.length d.2) then b () else none)) (bif inb f (List.length d.2) then b () else none))) (Z87 (Z87 (Z87 (bif inb f (List.length d.2) then Z87 (Z87 (b ()) (b ())) (b ()) else none) (bif inb f (List.length d.2) then b () else none)) (bif inb f (List.length d.2) then b () else none)) (Z87 (Z87 (Z87 (bif inb f (List.length d.2) then Z87 (Z87 (b ()) (b ())) (b ()) else none) (bif inb f (List.length d.2) then b () else none)) (bif inb f (List.length d.2) then b () else none)) (bif inb f (List.length d.2) then b () else none))))) (Z87 (Z87 (Z87 (Z87 (bif inb f (List.length d.2) then Z87 (Z87 (b ()) (Z87 (b ()) (b ()))) (Z87 (Z87 (b ()) (b ())) (b ())) else none) (Z87 (bif inb f (List.length d.2) then Z87 (Z87 (b ()) (b ())) (b ()) else none) (bif inb f (List.length d.2) then b () else none))) (Z87 (Z87 (bif inb f (List.length d.2) then Z87 (Z87 (b ()) (b ())) (b ()) else none) (bif inb f (List.length d.2) then b () else none)) (bif inb f (List.length d.2) then b () else none))) (Z87 (Z87 (Z87 (bif inb f (List.length d.2) then Z87 (Z87 (b ()) (b ())) (b ()) else none) (bif inb f (List.length d.2) then b () else none)) (bif inb f (List.length d.2) then b () else none)) (bif inb f (List.length d.2) then b () else none))) (Z87 (Z87 (Z87 (Z87 (bif inb f (List.length d.2) then Z87 (Z87 (b ()) (b ())) (b ()) else none) (bif inb f (List.length d.2) then b () else none)) (bif inb f (List.length d.2) then b () else none)) (Z87 (Z87 (Z87 (bif inb f (List.length d.2) then Z87 (Z87 (b ()) (b ())) (b ()) else none) (bif inb f (List.length d.2) then b () else none)) (bif inb f (List.length d.2) then b () else none)) (bif inb f (List.length d.2) then b () else none))) (Z87 (Z87 (Z87 (Z87 (bif inb f (List.length d.2) then Z87 (Z87 (b ()) (b ())) (b ()) else none) (bif inb f (List.length d.2) then b () else none)) (bif inb f (List.length d.2) then b () else none)) (bif inb f (List.length d.2) then b () else none)) (bif inb f (List.length d.2) then b () else none)))) else none
def j8T:Z1d Unit:=Nd 108 108 [.t 2 (pB 2),.t 3 (pB 3),.t 4 (pB 4),.I 6] [(2,y33,[.S,.S]),(3,y17,[.S,.S,.S,.S]),(4,y33,[.O,.O])] λd b f=>j9V d.1 b.1.2 (λ_=>f .normal [(2,pB 2),(3,pB 3),(4,pB 4),(6,vI d.1),(9,pB 9),(10,v1 y31 (nth [] b.1.2.2 d.1) .S)] [(2,⟨y33,b.1.1,b.1.2,[.S,.S]⟩),(3,⟨y17,b.2.1.1,b.2.1.2,[.S,.S,.S,.S]⟩),(4,⟨y33,b.2.2.1.1,b.2.2.1.2,[.O,.O]⟩),(9,⟨y29,false,nth (eS,[],[]) b.1.2.1 d.1,[.S,.S]⟩)])
theorem jmz:CN 0 62 Tryz.f196 j8T:=nK jbu [j6A] oN ([2,3,4,6,9,10],[2,3,4,9]) [] ([],[]) λ_ _ _=>by kernel_rfl
def j5p (l:List qW) (code:Int) (b:Int) (s:qS) (t:qB×qE×qL) (d:qR->Int->Res):Res:=bif (b==1) then j6F t l s.2.2.2.1 λr f=>d r f else bif (b==2) then j6G t l s.2.2.1 s.2.2.2.1 λg h=>d g h else bif (b==3) then j6E t l s.2.2.1 λi j=>d i j else d [] code
def jca:Z1d Unit:=Nd 108 108 [.t 2 (pB 2),.t 3 (pB 3),.t 4 (pB 4),.I 6,.t 9 (pB 9),.R 10 y31 .S,.I 11,.I 61] [(2,y33,[.S,.S]),(3,y17,[.S,.S,.S,.S]),(4,y33,[.O,.O]),(9,y29,[.S,.S])] λf d g=>j5p f.2.1 f.2.2.1 f.2.2.2.1 d.2.1.2 d.2.2.2.1.2 (λh b=>g .normal [(2,pB 2),(4,pB 4),(6,vI f.1),(10,v1 y31 h .O),(11,vI b)] [(2,⟨y33,d.1.1,d.1.2,[.S,.S]⟩),(4,⟨y33,d.2.2.1.1,d.2.2.1.2,[.O,.O]⟩)])
theorem jmA:CN 0 509 Tryz.f196 jca:=nK jbu [j6A,j8T] oN ([2,4,6,10,11],[2,4]) [] ([],[]) λ_ _ _=>by delta j5p jbX jbY jbW;refine gz j6F λ_ b=>gz j6G λ_ d=>gz j6E λ_ f=> ?_;rewrite [<-b,<-d,<-f];kernel_rfl
def j9A (d:qF×List qR) (s:qS) (b:qD->Int->Res):Res:=j0l d.1 s.2.1 λr=>j7n r s (λ_=>bif (s.1==5) then j5o d s.2.2.2.2 λh g=>bif (g != 0) then b ([],[]) (Z9K (10+g)) else b h 0 else j9V r d λ_=>j5p (nth [] d.2 r) 0 s.1 s (nth (eS,[],[]) d.1 r) λl code=>bif (code != 0) then b ([],[]) (Z9K (10+code)) else j16 d λf=>bif inb r (List.length f.2) then b (f.1,upd f.2 r l) 0 else none) (λ_=>b ([],[]) 4)
def jeA:Sig Unit:=sg [.borrow y33 true,.borrow y17 true] [true,false] [(y33,none),(y17,none)] [] λb g k=>j9A b.1 b.2.1 (λd f=>k [⟨y33,true,d,[.O,.O]⟩,wI f] [] [])
theorem jol:SO 196 jeA:=fK (np:=0) jbu [j6A,j8T,jca] (oI 14 0 @jmy (oI 62 1 @jmz (oI 509 2 @jmA oN))) false Tryz.func196 λ_ _ _ _=>by delta j9A j0T j6A jbd j8T jca j2y;refine gz j0l λ_ b=>gz j7n λ_ d=>gz j5o λ_ f=>gz j9V λ_ g=>gz j5p λ_ h=>gz j16 λ_ i=> ?_;rewrite [<-b,<-d,<-f,<-g,<-h,<-i];kernel_rfl
theorem jeI:FS [(161,j8P),(174,j2y),(195,jez),(196,jeA)]:=(Za6 jgk (Za6 jbO (Za6 jok (Za6 jol Zas))))
def j1F (d:List qS) (g:Int) (b:Int) (f:qF×List qR) (rec:Int->qD->Res) (j:qD->Res) (h:Int->Int->Res):Res:=bif decide (b<g) then bif inb b (List.length d) then j3c (nth (0,eS,[],[],0,eS,[],[],eS,eS) d b) λr=>bif !r then h 1 b else j9A f (nth (0,eS,[],[],0,eS,[],[],eS,eS) d b) λk i=>bif (i != 0) then h i b else rec (Z9K (b+1)) k else none else j f
def j2A (d:List qS) (f:Int):(Int×qD)->(Int×qD->Res)->((qD->Res)×(Int->Int->Res))->Res:=λv rec q=>j1F d f v.1 v.2 (λg b=>rec (g,b)) q.1 q.2
def j9R (d:List qS) (f:Int) (n:Nat) (g:Int) (b:qF×List qR) (h:qD->Res) (i:Int->Int->Res):Res:=Z1f (j2A d f) n (g,b) (h,i)
def j9i:Z1d Unit:=NdL 44 44 [.t 4 (pB 4),.t 7 (pB 7),.R 18 y27 .S,.I 19,.I 20] [(4,y33,[.O,.O]),(7,y33,[.O,.O])] (λd b=>(d.2.2.1,b.2.1.2)) (λd v=>(d.1,d.2.1,v.1,())) (λb v=>((b.1.1,b.1.2),(b.2.1.1,v.2),())) (λd b=>j2A d.1 d.2.1) λd b g=>((λf=>g (.exit 0) [(4,pB 4),(7,pB 7)] [(4,⟨y33,b.1.1,b.1.2,[.O,.O]⟩),(7,⟨y33,b.2.1.1,f,[.O,.O]⟩)]),(λh i=>g .ret [(4,pB 4),(5,vI h),(6,vI i)] [(4,⟨y33,b.1.1,([],[]),[.O,.O]⟩)]))
theorem jiO:CN 0 122 Tryz.f138 j9i:=lK jeI [] oN ([],[]) [(0,[4,7],[4,7])] ([4,5,6],[4]) λ_ _ _ _ _=>by delta j2A j1F j8P jeA;refine gz j3c λ_ b=>gz j9A λ_ d=> ?_;rewrite [<-b,<-d];kernel_rfl
def j2e (d:qF×List qR) (l:List qS) (b:qD->Int->Int->Res):Res:=j9z d λr=>bif !r then b ([],[]) 1 0 else j16 d λg=>j9R l (nI (List.length l)) Z1c 0 g (λf=>b f 0 0) (λt h=>b ([],[]) t h)
def jb8:Sig Unit:=sg [.borrow y33 true,.borrow y27 false] [true,false,false] [(y33,none),(y27,none)] [] λb h k=>j2e b.1 b.2.1 (λd f g=>k [⟨y33,true,d,[.O,.O]⟩,wI f,wI g] [] [])
theorem jkA:SO 138 jb8:=fK (np:=0) jeI [j9i] (oI 122 0 @jiO oN) false Tryz.func138 λ_ _ _ _=>by delta j2e jez j2y j9i j9R;refine gz j9z λ_ b=>gz j16 λ_ d=>gz j2A λ_ f=> ?_;rewrite [<-b,<-d,<-f];kernel_rfl
end
end Go.PI.G
namespace Go.PI.G
noncomputable section
open Go Go.PI Go.Proofs
open Go.Code (pl pr)
def j5Z (s:qS) (b:Bool->Res):Res:=bif (s.1==0) then bif sEq s.2.1 eS then bif ((nI (List.length s.2.2.1))==0) then bif ((nI (List.length s.2.2.2.1))==0) then j1h s.2.2.2.2 λr=>b r else b false else b false else b false else b false
def j98:Sig Unit:=sg [.look y17 true] [false] [(y17,none)] [] λd f k=>j5Z d.1 (λb=>k [wB b] [] [])
theorem jiC:SO 276 j98:=fK (np:=0) (Za6 jdG Zas) [] oN false Tryz.func276 λ_ _ _ _=>by kernel_rfl
theorem jh2:FS [(155,j6x),(276,j98)]:=(Za6 jgu (Za6 jiC Zas))
def j8S (r:Int×Int×qS) (b:Bool->Res):Res:=bif decide (r.1<1) then b true else bif decide (r.1>4) then b true else bif decide (r.2.1<1) then b true else b (decide (r.2.1>1000000))
def jbr:Z1d Unit:=Nd 30 30 [.t 1 (pB 1)] [(1,y19,[.S,.S,.S,.S])] λg d f=>j8S d.1.2 (λb=>f .normal [(1,pB 1),(20,vB b)] [(1,⟨y19,d.1.1,d.1.2,[.S,.S,.S,.S]⟩)])
theorem jlj:CN 0 12 Tryz.f218 jbr:=nK jh2 [] oN ([1,20],[1]) [] ([],[]) λ_ _ _=>by kernel_rfl
def j83 (r:Int×Int×qS) (b:Bool->Res):Res:=j8S r λt=>bif t then b false else bif (r.1==2) then j3e r.2.2 λd=>b d else j5Z r.2.2 λf=>b f
def jdc:Sig Unit:=sg [.look y19 true] [false] [(y19,none)] [] λd f k=>j83 d.1 (λb=>k [wB b] [] [])
theorem jnd:SO 218 jdc:=fK (np:=0) jh2 [jbr] (oI 12 0 @jlj oN) false Tryz.func218 λ_ _ _ _=>by delta j83 jbr j6x j98;refine gz j8S λ_ b=>gz j3e λ_ d=>gz j5Z λ_ f=> ?_;rewrite [<-b,<-d,<-f];kernel_rfl
def j5U (f:Int) (d:List qP) (i:Int) (b:Int) (rec:Int->Res) (g:Unit->Res) (h:Unit->Res):Res:=bif decide (b<i) then bif inb b (List.length d) then bif ((nth (0,0,0,eS,[],[],0,eS,[],[],eS,eS) d b).1==1) then bif ((nth (0,0,0,eS,[],[],0,eS,[],[],eS,eS) d b).2.1==f) then h () else rec (Z9K (b+1)) else rec (Z9K (b+1)) else none else g ()
def jbj (b:Int) (d:List qP) (f:Int):Int->(Int->Res)->((Unit->Res)×(Unit->Res))->Res:=λv rec q=>j5U b d f v (λg=>rec (g)) q.1 q.2
def jhU (b:Int) (g:List qP) (h:Int) (n:Nat) (i:Int) (d:Unit->Res) (f:Unit->Res):Res:=Z1f (jbj b g h) n (i) (d,f)
def jgU:Z1d Unit:=NdL 23 23 [.I 1,.R 7 y20 .S,.I 8,.I 9] [] (λb d=>(b.2.2.2.1)) (λb v=>(b.1,b.2.1,b.2.2.1,v,())) (λd v=>()) (λb d=>jbj b.1 b.2.1 b.2.2.1) λb d f=>((λ_=>f (.exit 0) [] []),(λ_=>f .ret [(4,vB true)] []))
theorem jmJ:CN 0 26 Tryz.f219 jgU:=lK Zas [] oN ([],[]) [(0,[],[])] ([4],[]) λ_ _ _ _ _=>by kernel_rfl
def jbI (l:List qP) (b:Int) (d:Bool->Res):Res:=jhU b l (nI (List.length l)) Z1c 0 (λ_=>d false) (λ_=>d true)
def jeF:Sig Unit:=sg [.look y20 false,.look tI false] [false] [(y20,none),(tI,none)] [] λb f k=>jbI b.1 b.2.1 (λd=>k [wB d] [] [])
theorem jop:SO 219 jeF:=fK (np:=0) Zas [jgU] (oI 26 0 @jmJ oN) false Tryz.func219 λ_ _ _ _=>by kernel_rfl
def j41 (h:Int) (d:List Int) (i:Int) (b:Int) (rec:Int->Res) (f:Unit->Res) (g:Unit->Res):Res:=bif decide (b<i) then bif inb b (List.length d) then bif ((nth 0 d b)==h) then g () else rec (Z9K (b+1)) else none else f ()
def j9f (b:Int) (d:List Int) (f:Int):Int->(Int->Res)->((Unit->Res)×(Unit->Res))->Res:=λv rec q=>j41 b d f v (λg=>rec (g)) q.1 q.2
def jfB (f:Int) (g:List Int) (h:Int) (n:Nat) (i:Int) (b:Unit->Res) (d:Unit->Res):Res:=Z1f (j9f f g h) n (i) (b,d)
def jen:Z1d Unit:=NdL 17 17 [.I 1,.R 7 y21 .S,.I 8,.I 9] [] (λb d=>(b.2.2.2.1)) (λb v=>(b.1,b.2.1,b.2.2.1,v,())) (λd v=>()) (λb d=>j9f b.1 b.2.1 b.2.2.1) λb d f=>((λ_=>f (.exit 0) [] []),(λ_=>f .ret [(4,vB true)] []))
theorem jko:CN 0 26 Tryz.f168 jen:=lK Zas [] oN ([],[]) [(0,[],[])] ([4],[]) λ_ _ _ _ _=>by kernel_rfl
def j4Q (l:List Int) (d:Int) (b:Bool->Res):Res:=jfB d l (nI (List.length l)) Z1c 0 (λ_=>b false) (λ_=>b true)
def j8R:Sig Unit:=sg [.look y21 false,.look tI false] [false] [(y21,none),(tI,none)] [] λb f k=>j4Q b.1 b.2.1 (λd=>k [wB d] [] [])
theorem jgx:SO 168 j8R:=fK (np:=0) Zas [jen] (oI 26 0 @jko oN) false Tryz.func168 λ_ _ _ _=>by kernel_rfl
def j40 (i:Int) (g:List Int) (f:Int) (d:List Int) (b:Int) (rec:(List Int)->Int->Res) (h:(List Int)->Res):Res:=bif decide (b<f) then bif inb b (List.length g) then bif ((nth 0 g b) != i) then bif lim ((List.length d)+1) then rec (d++[nth 0 g b]) (Z9K (b+1)) else none else rec d (Z9K (b+1)) else none else h d
def j9e (g:Int) (h:List Int) (d:Int):((List Int)×Int)->((List Int)×Int->Res)->(((List Int)->Res))->Res:=λv rec q=>j40 g h d v.1 v.2 (λb f=>rec (b,f)) q
def jfA (h:Int) (i:List Int) (d:Int) (n:Nat) (b:List Int) (f:Int) (g:(List Int)->Res):Res:=Z1f (j9e h i d) n (b,f) (g)
def jem:Z1d Unit:=NdL 24 24 [.I 1,.R 5 y21 .O,.R 9 y21 .S,.I 10,.I 11] [] (λb f=>(b.2.1,b.2.2.2.2.1)) (λb v=>(b.1,v.1,b.2.2.1,b.2.2.2.1,v.2,())) (λf v=>()) (λb f=>j9e b.1 b.2.2.1 b.2.2.2.1) λb f g=>((λd=>g (.exit 0) [(5,v1 y21 d .O)] []))
theorem jkn:CN 0 58 Tryz.f277 jem:=lK Zas [] oN ([],[]) [(0,[5],[])] ([],[]) λ_ _ _ _ _=>by kernel_rfl
def j6P (l:List Int) (f:Int) (d:(List Int)->Res):Res:=jfA f l (nI (List.length l)) Z1c [] 0 λb=>d b
def jc2:Sig Unit:=sg [.borrow y21 false,.borrow tI false] [false] [(y21,none),(tI,none)] [] λb f k=>j6P b.1 b.2.1 (λd=>k [w1 y21 d .O] [] [])
theorem jmq:SO 277 jc2:=fK (np:=0) Zas [jem] (oI 58 0 @jkn oN) false Tryz.func277 λ_ _ _ _=>by kernel_rfl
theorem jep:FS [(168,j8R),(277,jc2)]:=(Za6 jgx (Za6 jmq Zas))
def jan (b:List Int) (r:Int×Int×qS) (d:(List Int)->Res):Res:=bif (r.1==1) then j4Q b r.2.1 λf=>bif !f then bif lim ((List.length b)+1) then d (b++[r.2.1]) else none else d b else d b
def j8U:Z1d Unit:=Nd 42 42 [.R 3 y21 .O,.t 5 (pB 5),.R 7 y20 .S,.I 8,.I 9] [(5,y19,[.S,.S,.S,.S])] λd f g=>jan d.1 f.1.2 (λb=>g .normal [(3,v1 y21 b .O),(5,pB 5),(7,v1 y20 d.2.1 .S),(8,vI d.2.2.1),(9,vI d.2.2.2.1)] [(5,⟨y19,f.1.1,f.1.2,[.S,.S,.S,.S]⟩)])
theorem jmI:CN 0 7474 Tryz.f220 j8U:=nK jep [] oN ([3,5,7,8,9],[5]) [] ([],[]) λ_ _ _=>by kernel_rfl
def j3m (f:List qP) (j:Int) (g:List Int) (d:Int) (rec:(List Int)->Int->Res) (h:(List Int)->Res):Res:=bif decide (d<j) then bif inb d (List.length f) then jan g (nth (0,0,0,eS,[],[],0,eS,[],[],eS,eS) f d) λb=>bif ((nth (0,0,0,eS,[],[],0,eS,[],[],eS,eS) f d).1==3) then j6P b (nth (0,0,0,eS,[],[],0,eS,[],[],eS,eS) f d).2.1 λr=>rec r (Z9K (d+1)) else bif ((nth (0,0,0,eS,[],[],0,eS,[],[],eS,eS) f d).1==4) then j6P b (nth (0,0,0,eS,[],[],0,eS,[],[],eS,eS) f d).2.1 λi=>rec i (Z9K (d+1)) else rec b (Z9K (d+1)) else none else h g
def j82 (d:List qP) (f:Int):((List Int)×Int)->((List Int)×Int->Res)->(((List Int)->Res))->Res:=λv rec q=>j3m d f v.1 v.2 (λb g=>rec (b,g)) q
def jhT (f:List qP) (g:Int) (n:Nat) (b:List Int) (h:Int) (d:(List Int)->Res):Res:=Z1f (j82 f g) n (b,h) (d)
def jgT:Z1d Unit:=NdL 42 42 [.R 3 y21 .O,.R 7 y20 .S,.I 8,.I 9] [] (λb f=>(b.1,b.2.2.2.1)) (λb v=>(v.1,b.2.1,b.2.2.1,v.2,())) (λf v=>()) (λb f=>j82 b.2.1 b.2.2.1) λb f g=>((λd=>g (.exit 0) [(3,v1 y21 d .O)] []))
theorem jmH:CN 0 58 Tryz.f220 jgT:=lK jep [j8U] (oI 114 0 @jmI oN) ([],[]) [(0,[3],[])] ([],[]) λ_ _ _ _ _=>by delta j82 j3m j8U jc2;refine gz jan λ_ b=>gz j6P λ_ d=> ?_;rewrite [<-b,<-d];kernel_rfl
def j9F (l:List qP) (d:(List Int)->Res):Res:=jhT l (nI (List.length l)) Z1c [] 0 λb=>d b
def jeE:Sig Unit:=sg [.borrow y20 false] [false] [(y20,none)] [] λd f k=>j9F d.1 (λb=>k [w1 y21 b .O] [] [])
theorem joo:SO 220 jeE:=fK (np:=0) jep [j8U,jgT] (oI 58 1 @jmH oN) false Tryz.func220 λ_ _ _ _=>by kernel_rfl
def jau (s:qS) (b:qS->Res):Res:=bif lim (0+(List.length s.2.2.1)) then j0w s.2.2.2.1 λr=>bif lim (0+(List.length s.2.2.2.2.2.2.1)) then bif lim (0+(List.length s.2.2.2.2.2.2.2.1)) then b (s.1,s.2.1,s.2.2.1,r,s.2.2.2.2.1,s.2.2.2.2.2.1,s.2.2.2.2.2.2.1,s.2.2.2.2.2.2.2.1,s.2.2.2.2.2.2.2.2) else none else none else none
def jlv:Sig Unit:=sg [.borrow y17 true] [true] [(y17,none)] [] λd f k=>jau d.1 (λb=>k [⟨y17,true,b,[.O,.O,.O,.O]⟩] [] [])
theorem jf9:SO 158 jlv:=fK (np:=0) (Za6 j4e Zas) [] oN false Tryz.func158 λ_ _ _ _=>by kernel_rfl
def j2U (h:Int) (f:List qP) (g:Int) (d:List qS) (b:Int) (rec:qU->Int->Res) (i:qU->Res):Res:=bif decide (b<g) then bif inb b (List.length f) then bif ((nth (0,0,0,eS,[],[],0,eS,[],[],eS,eS) f b).1==2) then bif ((nth (0,0,0,eS,[],[],0,eS,[],[],eS,eS) f b).2.1==h) then jau (nth (0,0,0,eS,[],[],0,eS,[],[],eS,eS) f b).2.2 λr=>bif lim ((List.length d)+1) then rec (d++[r]) (Z9K (b+1)) else none else rec d (Z9K (b+1)) else rec d (Z9K (b+1)) else none else i d
def j8n (g:Int) (h:List qP) (d:Int):(qU×Int)->(qU×Int->Res)->((qU->Res))->Res:=λv rec q=>j2U g h d v.1 v.2 (λb f=>rec (b,f)) q
def je3 (g:Int) (i:List qP) (d:Int) (n:Nat) (b:List qS) (f:Int) (h:qU->Res):Res:=Z1f (j8n g i d) n (b,f) (h)
def jdt:Z1d Unit:=NdL 32 32 [.I 1,.R 5 y27 .O,.R 9 y20 .S,.I 10,.I 11] [] (λb f=>(b.2.1,b.2.2.2.2.1)) (λb v=>(b.1,v.1,b.2.2.1,b.2.2.2.1,v.2,())) (λf v=>()) (λb f=>j8n b.1 b.2.2.1 b.2.2.2.1) λb f g=>((λd=>g (.exit 0) [(5,v1 y27 d .O)] []))
theorem jji:CN 0 58 Tryz.f221 jdt:=lK (Za6 jf9 Zas) [] oN ([],[]) [(0,[5],[])] ([],[]) λ_ _ _ _ _=>by kernel_rfl
def j5T (l:List qP) (d:Int) (f:qU->Res):Res:=je3 d l (nI (List.length l)) Z1c [] 0 λb=>f b
def jbg:Sig Unit:=sg [.borrow y20 false,.borrow tI false] [false] [(y20,none),(tI,none)] [] λb f k=>j5T b.1 b.2.1 (λd=>k [w1 y27 d .O] [] [])
theorem jkS:SO 221 jbg:=fK (np:=0) (Za6 jf9 Zas) [jdt] (oI 58 0 @jji oN) false Tryz.func221 λ_ _ _ _=>by kernel_rfl
theorem j7N:FS [(133,jbe),(168,j8R),(218,jdc),(219,jeF),(220,jeE),(221,jbg)]:=(Za6 jkN (Za6 jgx (Za6 jnd (Za6 jop (Za6 joo (Za6 jkS Zas))))))
def j2u (l:List qP) (i:Int) (r:Int×Int×qS) (b:Bool->Res):Res:=j83 r λd=>bif !d then b true else bif (r.1==1) then bif Z8e 0 i (List.length l) then jbI (sub l 0 i) r.2.1 λf=>bif f then b true else bif (r.1 != 1) then bif Z8e 0 i (List.length l) then j9F (sub l 0 i) λg=>j4Q g r.2.1 λh=>b (!h) else none else b false else none else bif (r.1 != 1) then bif Z8e 0 i (List.length l) then j9F (sub l 0 i) λj=>j4Q j r.2.1 λk=>b (!k) else none else b false
def j46:Z1d Unit:=Nd 74 74 [.R 0 y20 .S,.t 2 (pB 2),.t 4 (pB 4),.I 5,.t 6 (pB 6),.R 11 y20 .S,.I 12,.I 13] [(2,y33,[.O,.O]),(4,y33,[.N,.N]),(6,y19,[.S,.S,.S,.S])] λb d g=>j2u b.1 b.2.1 d.2.2.1.2 (λf=>g .normal [(0,v1 y20 b.1 .S),(2,pB 2),(4,pB 4),(5,vI b.2.1),(6,pB 6),(11,v1 y20 b.2.2.1 .S),(12,vI b.2.2.2.1),(13,vI b.2.2.2.2.1),(48,vB f)] [(2,⟨y33,d.1.1,d.1.2,[.O,.O]⟩),(4,⟨y33,d.2.1.1,d.2.1.2,[.N,.N]⟩),(6,⟨y19,d.2.2.1.1,d.2.2.1.2,[.S,.S,.S,.S]⟩)])
theorem jjs:CN 0 14948 Tryz.f169 j46:=nK j7N [] oN ([0,2,4,5,6,11,12,13,48],[2,4,6]) [] ([],[]) λ_ _ _=>by delta j2u jdc jeF jeE j8R;refine gz j83 λ_ b=>gz jbI λ_ d=>gz j9F λ_ f=>gz j4Q λ_ g=> ?_;rewrite [<-b,<-d,<-f,<-g];kernel_rfl
def j2v (l:List qP) (i:Int) (d:qF×List qR) (r:Int×Int×qS) (b:Int->qD->Res):Res:=bif Z8e 0 i (List.length l) then Z87 (j5T (sub l 0 i) r.2.1 λn=>Z87 (j2j d n λg h w=>Z87 (Z87 (b h g) (Z87 (b h g) (b h g))) (Z87 (Z87 (b h g) (Z87 (b h g) (b h g))) (Z87 (Z87 (b h g) (b h g)) (Z87 (Z87 (b h g) (b h g)) (b h g))))) (j2j d n λj k y=>Z87 (Z87 (b k j) (b k j)) (Z87 (Z87 (b k j) (b k j)) (b k j)))) (j5T (sub l 0 i) r.2.1 λq=>j2j d q λm f p=>Z87 (Z87 (b f m) (b f m)) (Z87 (Z87 (b f m) (b f m)) (b f m))) else none
def j6p:Z1d Unit:=Nd 74 74 [.R 0 y20 .S,.t 2 (pB 2),.t 4 (pB 4),.I 5,.t 6 (pB 6),.R 11 y20 .S,.I 12,.I 13] [(2,y33,[.O,.O]),(4,y33,[.N,.N]),(6,y19,[.S,.S,.S,.S])] λb d f=>j2v b.1 b.2.1 d.2.1.2 d.2.2.1.2 (λcode next=>f .normal [(0,v1 y20 b.1 .S),(2,pB 2),(4,pB 4),(7,pB 7),(8,vI code),(11,v1 y20 b.2.2.1 .S),(12,vI b.2.2.2.1),(13,vI b.2.2.2.2.1)] [(2,⟨y33,d.1.1,d.1.2,[.O,.O]⟩),(4,⟨y33,d.2.1.1,d.2.1.2,[.N,.N]⟩),(7,⟨y33,false,next,[.N,.N]⟩)])
theorem jjt:CN 0 59804 Tryz.f169 j6p:=nK j7N [j46] oN ([0,2,4,7,8,11,12,13],[2,4,7]) [] ([],[]) λ_ _ _=>by delta j2v jbg jbe;refine gz j5T λ_ b=>gz j2j λ_ d=> ?_;rewrite [<-b,<-d];kernel_rfl
def j1O (l:List qP) (f:List qP) (g:Int) (b:Int) (d:qF×List qR) (rec:Int->qD->Res) (i:qD->Res) (h:Unit->Res):Res:=bif decide (b<g) then bif inb b (List.length f) then j2u l b (nth (0,0,0,eS,[],[],0,eS,[],[],eS,eS) f b) λt=>bif t then h () else bif ((nth (0,0,0,eS,[],[],0,eS,[],[],eS,eS) f b).1==3) then j2v l b d (nth (0,0,0,eS,[],[],0,eS,[],[],eS,eS) f b) λcode next=>bif (code != 0) then h () else rec (Z9K (b+1)) next else rec (Z9K (b+1)) d else none else i d
def j59 (l:List qP) (b:List qP) (f:Int):(Int×qD)->(Int×qD->Res)->((qD->Res)×(Unit->Res))->Res:=λv rec q=>j1O l b f v.1 v.2 (λg d=>rec (g,d)) q.1 q.2
def jat (l:List qP) (b:List qP) (f:Int) (n:Nat) (g:Int) (d:qF×List qR) (h:qD->Res) (i:Unit->Res):Res:=Z1f (j59 l b f) n (g,d) (h,i)
def jdj:Z1d Unit:=λσ k=>rdN σ 74<|rd1 σ 0 y20 .S λl=>rdT σ 2 (pB 2)<|rdT σ 4 (pB 4)<|rd1 σ 11 y20 .S λb=>rdI σ 12 λf=>rdI σ 13 λg=>rdB σ 2 y33 [.O,.O] λa j=>rdB σ 4 y33 [.N,.N] λh d=>jat l b f Z1c g d (λi=>k (.exit 0) (mkS 74 74 [(0,v1 y20 l .S),(2,pB 2),(4,pB 4)] [(2,⟨y33,a,j,[.O,.O]⟩),(4,⟨y33,h,i,[.N,.N]⟩)])) (λ_=>k .ret (mkS 74 74 [(2,pB 2),(3,vB false)] [(2,⟨y33,a,([],[]),[.O,.O]⟩)]))
def jdx:Z1d Unit:=λσ k=>jdj (σ.wk [] [(4,[.N,.N])]) k
theorem jjr:CN 0 58 Tryz.f169 jdx:=λq=>ZaJ [] [(4,[.N,.N])] (jjW follows j1D j7N q [j46,j6p] (oI 228 0 @jjs (oI 924 1 @jjt oN)) [0,2,4,11,12,13] [2,4] ([],[]) [(0,[0,2,4],[2,4])] ([2,3],[2]) (y:=jdj) λσ k _ h=>rN h λG h=>rV h λl D h=>rT h λE h=>rT h λF h=>rV h λb g h=>rV h λf i h=>rV h λr j h=>rB h λa z n h=>rB h λw d p h=>⟨_,ZaM (m:=74) G (sC D (sC E (sC F (sC g (sC i (sC j sN)))))) (bC n (bC p bN)),.trans (Z9u (λv:Int×qD=>(mkS 74 74 [(0,v1 y20 l .S),(2,pB 2),(4,pB 4),(11,v1 y20 b .S),(12,vI f),(13,vI v.1)] [(2,⟨y33,a,z,[.O,.O]⟩),(4,⟨y33,w,v.2,[.N,.N]⟩)])) (j59 l b f) (λ(k:Z83 Unit)=>(((λA=>k (.exit 0) (mkS 74 74 [(0,v1 y20 l .S),(2,pB 2),(4,pB 4)] [(2,⟨y33,a,z,[.O,.O]⟩),(4,⟨y33,w,A,[.N,.N]⟩)])),(λ_=>k .ret (mkS 74 74 [(2,pB 2),(3,vB false)] [(2,⟨y33,a,([],[]),[.O,.O]⟩)]))):(qD->Res)×(Unit->Res))) (λv rec k=>by delta j59 j1O j46 j6p;refine gz j2u λ_ B=>gz j2v λ_ C=> ?_;rewrite [<-B,<-C];kernel_rfl) Z1c (r,d) k) h⟩)
def jas (l:List qP) (b:qD->Bool->Res):Res:=jat l l (nI (List.length l)) Z1c 0 ([],[]) (λd=>b d (decide ((nI (List.length l))<=400))) (λ_=>b ([],[]) false)
def jlu:Sig Unit:=sg [.borrow y20 false] [true,false] [(y20,none)] [] λf g k=>jas f.1 (λb d=>k [⟨y33,true,b,[.S,.S]⟩,wB d] [] [])
theorem jkV:SO 169 jlu:=fK (np:=0) j7N [j46,j6p,jdx] (oI 58 2 @jjr oN) true Tryz.func169 λ_ _ _ _=>by kernel_rfl
def j3a (l:List qP) (b:Bool->Res):Res:=bif decide ((nI (List.length l))>400) then b false else jas l λr d=>b d
def j7w:Sig Unit:=sg [.look y20 false] [false] [(y20,none)] [] λd f k=>j3a d.1 (λb=>k [wB b] [] [])
theorem j9K:SO 103 j7w:=fK (np:=0) (Za6 jkV Zas) [] oN false Tryz.func103 λ_ _ _ _=>by kernel_rfl
def j6v (s:qS) (b:Bool->Res):Res:=bif (s.1==0) then bif sEq s.2.1 eS then bif ((nI (List.length s.2.2.1))==0) then bif ((nI (List.length s.2.2.2.1))==0) then j0e s.2.2.2.2 (0,eS,[],[],eS,eS) λr=>b r else b false else b false else b false else b false
def je0:Sig Unit:=sg [.look y17 true] [false] [(y17,none)] [] λd f k=>j6v d.1 (λb=>k [wB b] [] [])
theorem jjD:SO 278 je0:=fK (np:=0) (Za6 j9J Zas) [] oN false Tryz.func278 λ_ _ _ _=>by kernel_rfl
def j7S (r:Int×Int×qS) (b:Bool->Res):Res:=j09 r.1 1 4 λd=>bif !d then b false else j09 r.2.1 1 1000000 λf=>bif !f then b false else bif (r.1==2) then j3c r.2.2 λg=>b g else j6v r.2.2 λh=>b h
def jd6:Sig Unit:=sg [.look y19 true] [false] [(y19,none)] [] λd f k=>j7S d.1 (λb=>k [wB b] [] [])
theorem jn5:SO 222 jd6:=fK (np:=0) (Za6 jgk (Za6 j1b (Za6 jjD Zas))) [] oN false Tryz.func222 λ_ _ _ _=>by delta j7S j0A j8P je0;refine gz j09 λ_ b=>gz j3c λ_ d=>gz j6v λ_ f=> ?_;rewrite [<-b,<-d,<-f];kernel_rfl
def j2F (h:Int) (f:List qP) (g:Int) (d:List qS) (b:Int) (rec:qU->Int->Res) (i:qU->Res):Res:=bif decide (b<g) then bif inb b (List.length f) then bif ((nth (0,0,0,eS,[],[],0,eS,[],[],eS,eS) f b).1==2) then bif ((nth (0,0,0,eS,[],[],0,eS,[],[],eS,eS) f b).2.1==h) then j6u (nth (0,0,0,eS,[],[],0,eS,[],[],eS,eS) f b).2.2 λr=>bif lim ((List.length d)+1) then rec (d++[r]) (Z9K (b+1)) else none else rec d (Z9K (b+1)) else rec d (Z9K (b+1)) else none else i d
def j8e (g:Int) (h:List qP) (d:Int):(qU×Int)->(qU×Int->Res)->((qU->Res))->Res:=λv rec q=>j2F g h d v.1 v.2 (λb f=>rec (b,f)) q
def jdP (g:Int) (i:List qP) (d:Int) (n:Nat) (b:List qS) (f:Int) (h:qU->Res):Res:=Z1f (j8e g i d) n (b,f) (h)
def jdm:Z1d Unit:=NdL 32 32 [.I 1,.R 5 y27 .O,.R 9 y20 .S,.I 10,.I 11] [] (λb f=>(b.2.1,b.2.2.2.2.1)) (λb v=>(b.1,v.1,b.2.2.1,b.2.2.2.1,v.2,())) (λf v=>()) (λb f=>j8e b.1 b.2.2.1 b.2.2.2.1) λb f g=>((λd=>g (.exit 0) [(5,v1 y27 d .O)] []))
theorem jiW:CN 0 58 Tryz.f224 jdm:=lK (Za6 jdE Zas) [] oN ([],[]) [(0,[5],[])] ([],[]) λ_ _ _ _ _=>by kernel_rfl
def j5m (l:List qP) (d:Int) (f:qU->Res):Res:=jdP d l (nI (List.length l)) Z1c [] 0 λb=>f b
def jbb:Sig Unit:=sg [.borrow y20 false,.borrow tI false] [false] [(y20,none),(tI,none)] [] λb f k=>j5m b.1 b.2.1 (λd=>k [w1 y27 d .O] [] [])
theorem jkF:SO 224 jbb:=fK (np:=0) (Za6 jdE Zas) [jdm] (oI 58 0 @jiW oN) false Tryz.func224 λ_ _ _ _=>by kernel_rfl
def jex (place:Int) (b:qF×List qR) (d:Unit->Res):Res:=d ()
def jbV:Sig Unit:=sg [.look tI false,.look y33 true] [] [(tI,none),(y33,none)] [] λb d k=>jex b.1 b.2.1 (λ_=>k [] [] [])
theorem jm7:SO 171 jbV:=fK (np:=0) Zas [] oN false Tryz.func171 λ_ _ _ _=>by kernel_rfl
def jfT (x:Int) (d:Int×Int×qS) (b:Bool->Res):Res:=b (x==d.2.1)
def jnR:Sig Unit:=sg [.look tI false,.rptr y19] [false] [(tI,none),(y19,none)] [] λb f k=>jfT b.1 b.2.1 (λd=>k [wB d] [] [])
theorem jn6:SO 226 jnR:=fK (np:=0) Zas [] oN false Tryz.func226 λ_ _ _ _=>by kernel_rfl
def j1m (s:List Int) (b:Int×Int×qS) (d:(List Int)->qP->Res):Res:=bif lim (List.length s) then dgE (λe k=>jfT e b k) s [] (λr=>d r b) else none
def j4c:Sig Unit:=⟨[.eat y21 false,.clos 226 [y19]],[false],λvals ext k=>ao vals y21 [.O] λs vals=>nl vals<|ab ext y19 [.S,.S,.S,.S] λa0 f ext=>nl ext<|j1m s f (λd b=>k [w1 y21 d .O] [] [⟨y19,a0,b,[.S,.S,.S,.S]⟩])⟩
theorem jdz:Z17 Tryz.prog 225 j4c:=gS (jrT (U:=0) (T:=220) (e:=tI) (ag:=false) (τ:=y19) (tg:=[.S,.S,.S,.S]) (fl:=[]) (S:=56) (E:=3) (I:=3) (B:=4) follows j1D (by kernel_rfl) Tryz.underlying56 (by kernel_rfl) (by kernel_rfl) (by kernel_rfl) (by kernel_rfl) Tryz.isAgg220 Tryz.sizeOf220 (by kernel_rfl) (by kernel_rfl) (by kernel_rfl) Tryz.func280 (by kernel_rfl) (by kernel_rfl) (by kernel_rfl) (by kernel_rfl) jn6 (by kernel_rfl) Tryz.func225 (by kernel_rfl) (by kernel_rfl) (by kernel_rfl) (by kernel_rfl)) (by kernel_rfl)
theorem j8v:FS [(138,jb8),(171,jbV),(222,jd6),(223,j5C),(224,jbb),(225,j4c)]:=(Za6 jkA (Za6 jm7 (Za6 jn5 (Za6 jeX (Za6 jkF (Za6 jdz Zas))))))
def j5q (l:List qP) (i:Int) (d:qF×List qR) (r:Int×Int×qS) (b:Int->qD->Res):Res:=bif Z8e 0 i (List.length l) then Z87 (j5m (sub l 0 i) r.2.1 λn=>Z87 (j2e d n λg h w=>Z87 (Z87 (b h g) (Z87 (b h g) (b h g))) (Z87 (Z87 (b h g) (Z87 (b h g) (b h g))) (Z87 (Z87 (b h g) (b h g)) (Z87 (Z87 (b h g) (b h g)) (b h g))))) (j2e d n λj k y=>Z87 (Z87 (b k j) (b k j)) (Z87 (Z87 (b k j) (b k j)) (b k j)))) (j5m (sub l 0 i) r.2.1 λq=>j2e d q λm f p=>Z87 (Z87 (b f m) (b f m)) (Z87 (Z87 (b f m) (b f m)) (b f m))) else none
def j4i:Z1d Unit:=Nd 84 84 [.R 1 y20 .S,.t 2 (.clos 171 []),.t 3 (pB 3),.t 6 (pB 6),.R 8 y21 .O,.R 9 y21 .O,.I 10,.t 11 (pB 11),.R 17 y20 .S,.I 18,.I 19] [(3,y33,[.S,.S]),(6,y33,[.O,.O]),(11,y19,[.S,.S,.S,.S])] λb d f=>j5q b.1 b.2.2.2.1 d.1.2 d.2.2.1.2 (λcode next=>f .normal [(1,v1 y20 b.1 .S),(2,.clos 171 []),(3,pB 3),(6,pB 6),(8,v1 y21 b.2.1 .O),(9,v1 y21 b.2.2.1 .O),(10,vI b.2.2.2.1),(11,pB 11),(12,pB 12),(13,vI code),(17,v1 y20 b.2.2.2.2.1 .S),(18,vI b.2.2.2.2.2.1),(19,vI b.2.2.2.2.2.2.1)] [(3,⟨y33,d.1.1,d.1.2,[.S,.S]⟩),(6,⟨y33,d.2.1.1,d.2.1.2,[.O,.O]⟩),(11,⟨y19,d.2.2.1.1,d.2.2.1.2,[.S,.S,.S,.S]⟩),(12,⟨y33,false,next,[.O,.O]⟩)])
theorem jmC:CN 0 478452 Tryz.f170 j4i:=nK j8v [] oN ([1,2,3,6,8,9,10,11,12,13,17,18,19],[3,6,11,12]) [] ([],[]) λ_ _ _=>by delta j5q jbb jb8;refine gz j5m λ_ b=>gz j2e λ_ d=> ?_;rewrite [<-b,<-d];kernel_rfl
def j7o (l:List qP) (i:Int) (b:Bool) (d:qF×List qR) (r:Int×Int×qS) (f:qD->Res) (g:Unit->Res):Res:=bif b then j5q l i d r λcode next=>bif (code != 0) then g () else jex (Z9K (i+1)) d λ_=>f next else f d
def j6B:Z1d Unit:=λσ k=>rdN σ 84<|rd1 σ 1 y20 .S λl=>rdT σ 2 (.clos 171 [])<|rdT σ 3 (pB 3)<|rdT σ 6 (pB 6)<|rd1 σ 8 y21 .O λb=>rd1 σ 9 y21 .O λf=>rdI σ 10 λi=>rdT σ 11 (pB 11)<|rd1 σ 17 y20 .S λg=>rdI σ 18 λh=>rdI σ 19 λj=>rdO σ 54 λm=>rdB σ 3 y33 [.S,.S] λa d=>rdB σ 6 y33 [.O,.O] λn w=>rdB σ 11 y19 [.S,.S,.S,.S] λp r=>j7o l i m d r (λq=>k .normal (mkS 84 84 [(1,v1 y20 l .S),(2,.clos 171 []),(3,pB 3),(6,pB 6),(8,v1 y21 b .O),(9,v1 y21 f .O),(11,pB 11),(17,v1 y20 g .S),(18,vI h),(19,vI j)] [(3,⟨y33,a,q,[.S,.S]⟩),(6,⟨y33,n,w,[.O,.O]⟩),(11,⟨y19,p,r,[.S,.S,.S,.S]⟩)])) (λ_=>k .ret (mkS 84 84 [(6,pB 6),(7,vB false)] [(6,⟨y33,n,([],[]),[.O,.O]⟩)]))
theorem jmD:CN 0 119613 Tryz.f170 j6B:=λz=>jq6 follows j1D j8v z [j4i] (oI 4 0 @jmC oN) ([1,2,3,6,8,9,11,17,18,19],[3,6,11]) [] ([6,7],[6]) [(0,[],[(3,[.S,.S])])] λσ k _ h=>rN h λK h=>rV h λl E h=>rT h λF h=>rT h λG h=>rT h λH h=>rV h λA I h=>rV h λB J h=>rV h λi f h=>rT h λg h=>rV h λL j h=>rV h λM n h=>rV h λP p h=>rV h λQ q h=>rB h λa d w h=>rB h λR U y h=>rB h λT r b h=>⟨_,ZaM (m:=84) K (sC E (sC F (sC G (sC H (sC I (sC J (sC f (sC g (sC j (sC n (sC p (sC q sN)))))))))))) (bC w (bC y (bC b bN))),.trans (by delta j7o j4i jbV;refine gz j5q λ_ C=>gz jex λ_ D=> ?_;rewrite [<-C,<-D];kernel_rfl) h⟩
def j3j (l:List qP) (g:List qP) (j:Int) (f:List Int) (h:List Int) (b:Int) (d:qF×List qR) (rec:(List Int)->(List Int)->Int->qD->Res) (m:qD->Res) (i:Unit->Res):Res:=bif decide (b<j) then bif inb b (List.length g) then j7S (nth (0,0,0,eS,[],[],0,eS,[],[],eS,eS) g b) λr=>bif !r then i () else bif ((nth (0,0,0,eS,[],[],0,eS,[],[],eS,eS) g b).1==1) then j12 h (nth (0,0,0,eS,[],[],0,eS,[],[],eS,eS) g b).2.1 λn=>bif n then i () else bif lim ((List.length h)+1) then bif lim ((List.length f)+1) then rec (f++[(nth (0,0,0,eS,[],[],0,eS,[],[],eS,eS) g b).2.1]) (h++[(nth (0,0,0,eS,[],[],0,eS,[],[],eS,eS) g b).2.1]) (Z9K (b+1)) d else none else none else j12 f (nth (0,0,0,eS,[],[],0,eS,[],[],eS,eS) g b).2.1 λp=>bif !p then i () else j7o l b ((nth (0,0,0,eS,[],[],0,eS,[],[],eS,eS) g b).1==3) d (nth (0,0,0,eS,[],[],0,eS,[],[],eS,eS) g b) (λk=>bif ((nth (0,0,0,eS,[],[],0,eS,[],[],eS,eS) g b).1 != 2) then j1m f (nth (0,0,0,eS,[],[],0,eS,[],[],eS,eS) g b) λq w=>rec q h (Z9K (b+1)) k else rec f h (Z9K (b+1)) k) (λ_=>i ()) else none else m d
def j7T (l:List qP) (g:List qP) (h:Int):((List Int)×(List Int)×Int×qD)->((List Int)×(List Int)×Int×qD->Res)->((qD->Res)×(Unit->Res))->Res:=λv rec q=>j3j l g h v.1 v.2.1 v.2.2.1 v.2.2.2 (λb f i d=>rec (b,f,i,d)) q.1 q.2
def jhq (l:List qP) (g:List qP) (h:Int) (n:Nat) (b:List Int) (f:List Int) (i:Int) (d:qF×List qR) (j:qD->Res) (k:Unit->Res):Res:=Z1f (j7T l g h) n (b,f,i,d) (j,k)
def jcb:Z1d Unit:=NdL 84 84 [.R 1 y20 .S,.t 2 (.clos 171 []),.t 3 (pB 3),.t 6 (pB 6),.R 8 y21 .O,.R 9 y21 .O,.R 17 y20 .S,.I 18,.I 19] [(3,y33,[.S,.S]),(6,y33,[.O,.O])] (λb d=>(b.2.1,b.2.2.1,b.2.2.2.2.2.1,d.1.2)) (λb v=>(b.1,v.1,v.2.1,b.2.2.2.1,b.2.2.2.2.1,v.2.2.1,())) (λd v=>((d.1.1,v.2.2.2),(d.2.1.1,d.2.1.2),())) (λb d=>j7T b.1 b.2.2.2.1 b.2.2.2.2.1) λb d f=>((λg=>f (.exit 0) [(3,pB 3),(6,pB 6)] [(3,⟨y33,d.1.1,g,[.S,.S]⟩),(6,⟨y33,d.2.1.1,d.2.1.2,[.O,.O]⟩)]),(λ_=>f .ret [(6,pB 6),(7,vB false)] [(6,⟨y33,d.2.1.1,([],[]),[.O,.O]⟩)]))
theorem jmB:CN 0 58 Tryz.f170 jcb:=lK j8v [j4i,j6B] (oI 1853 1 @jmD oN) ([],[]) [(0,[3,6],[3,6])] ([6,7],[6]) λ_ _ _ _ _=>by delta j7T j3j jd6 j5C j6B j4c;refine gz j7S λ_ b=>gz j12 λ_ d=>gz j7o λ_ f=>gz j1m λ_ g=> ?_;rewrite [<-b,<-d,<-f,<-g];kernel_rfl
def jcU (l:List qP) (d:qF×List qR) (b:Bool->qD->Res):Res:=jhq l l (nI (List.length l)) Z1c [] [] 0 d (λf=>b true f) (λ_=>b false ([],[]))
def jgS:Z1d Unit:=λσ k=>rdN σ 84<|rd1 σ 1 y20 .S λl=>rdT σ 2 (.clos 171 [])<|rdT σ 3 (pB 3)<|rdT σ 6 (pB 6)<|rdB σ 3 y33 [.S,.S] λa d=>rdB σ 6 y33 [.O,.O] λf h=>jcU l d (λg b=>k .ret (mkS 84 84 [(6,pB 6),(7,vB g)] [(6,⟨y33,f,b,[.S,.S]⟩)]))
theorem jmE:CN 0 3 Tryz.f170 jgS:=λg=>jq6 follows j1D j8v g [j4i,j6B,jcb] (oI 26 2 @jmB oN) ([],[]) [] ([6,7],[6]) [(1,[],[(6,[.S,.S])])] λσ k _ h=>rN h λq h=>rV h λl i h=>rT h λj h=>rT h λn h=>rT h λp h=>rB h λa d b h=>rB h λr w f h=>⟨_,ZaM (m:=84) q (sC i (sC j (sC n (sC p sN)))) (bC b (bC f bN)),.trans (by kernel_rfl) h⟩
def jdR (d:qF×List qR) (l:List qP) (b:qD->Bool->Res):Res:=jcU l d λt f=>b f t
def joB:Sig Unit:=sg [.borrow y33 true,.borrow y20 false,.clos 171 []] [true,false] [(y33,none),(y20,none)] [] λb g k=>jdR b.1 b.2.1 (λd f=>k [⟨y33,true,d,[.S,.S]⟩,wB f] [] [])
theorem jom:SO 170 joB:=fK (np:=0) j8v [j4i,j6B,jcb,jgS] (oI 3 3 @jmE oN) false Tryz.func170 λ_ _ _ _=>by kernel_rfl
def j35 (l:List qP) (b:Bool->Res):Res:=bif decide ((nI (List.length l))>400) then b false else jdR ([],[]) l λr d=>b d
def j7s:Sig Unit:=sg [.look y20 false] [false] [(y20,none)] [] λd f k=>j35 d.1 (λb=>k [wB b] [] [])
theorem j9I:SO 104 j7s:=fK (np:=0) (Za6 jom Zas) [] oN false Tryz.func104 λ_ _ _ _=>by kernel_rfl
end
end Go.PI.G
namespace Go.PI.G
noncomputable section
open Go Go.PI Go.Proofs
open Go.Code (pl pr)
def j2N (f:List qP) (g:Int) (d:List Int) (b:Int) (rec:(List Int)->Int->Res) (h:(List Int)->Res):Res:=bif decide (b<g) then bif inb b (List.length f) then bif ((nth (0,0,0,eS,[],[],0,eS,[],[],eS,eS) f b).1==3) then bif lim ((List.length d)+1) then rec (d++[Z9K (b+1)]) (Z9K (b+1)) else none else rec d (Z9K (b+1)) else none else h d
def j4Y (d:List qP) (f:Int):((List Int)×Int)->((List Int)×Int->Res)->(((List Int)->Res))->Res:=λv rec q=>j2N d f v.1 v.2 (λb g=>rec (b,g)) q
def jal (d:List qP) (f:Int) (n:Nat) (b:List Int) (g:Int) (h:(List Int)->Res):Res:=Z1f (j4Y d f) n (b,g) (h)
def j9q:Z1d Unit:=NdL 28 28 [.R 3 y21 .O,.R 11 y20 .S,.I 12,.I 13] [] (λb f=>(b.1,b.2.2.2.1)) (λb v=>(v.1,b.2.1,b.2.2.1,v.2,())) (λf v=>()) (λb f=>j4Y b.2.1 b.2.2.1) λb f g=>((λd=>g (.exit 0) [(3,v1 y21 d .O)] []))
theorem jj8:CN 0 122 Tryz.f108 j9q:=lK (Za6 j9K Zas) [] oN ([],[]) [(0,[3],[])] ([],[]) λ_ _ _ _ _=>by kernel_rfl
def j5N (l:List qP) (d:(List Int)->Res):Res:=j3a l λr=>bif !r then d [] else jal l (nI (List.length l)) Z1c [] 0 λb=>d b
def jfr:Sig Unit:=sg [.borrow y20 false] [false] [(y20,none)] [] λd f k=>j5N d.1 (λb=>k [w1 y21 b .O] [] [])
theorem jf1:SO 108 jfr:=fK (np:=0) (Za6 j9K Zas) [j9q] (oI 122 0 @jj8 oN) false Tryz.func108 λ_ _ _ _=>by delta j5N j7w j9q jal;refine gz j3a λ_ b=>gz j4Y λ_ d=> ?_;rewrite [<-b,<-d];kernel_rfl
def j2z (f:List qP) (g:Int) (d:List Int) (b:Int) (rec:(List Int)->Int->Res) (h:(List Int)->Res):Res:=bif decide (b<g) then bif inb b (List.length f) then bif ((nth (0,0,0,eS,[],[],0,eS,[],[],eS,eS) f b).1==3) then bif lim ((List.length d)+1) then rec (d++[Z9K (b+1)]) (Z9K (b+1)) else none else rec d (Z9K (b+1)) else none else h d
def j4R (d:List qP) (f:Int):((List Int)×Int)->((List Int)×Int->Res)->(((List Int)->Res))->Res:=λv rec q=>j2z d f v.1 v.2 (λb g=>rec (b,g)) q
def j9Q (d:List qP) (f:Int) (n:Nat) (b:List Int) (g:Int) (h:(List Int)->Res):Res:=Z1f (j4R d f) n (b,g) (h)
def j9h:Z1d Unit:=NdL 28 28 [.R 3 y21 .O,.R 11 y20 .S,.I 12,.I 13] [] (λb f=>(b.1,b.2.2.2.1)) (λb v=>(v.1,b.2.1,b.2.2.1,v.2,())) (λf v=>()) (λb f=>j4R b.2.1 b.2.2.1) λb f g=>((λd=>g (.exit 0) [(3,v1 y21 d .O)] []))
theorem jiN:CN 0 122 Tryz.f109 j9h:=lK (Za6 j9I Zas) [] oN ([],[]) [(0,[3],[])] ([],[]) λ_ _ _ _ _=>by kernel_rfl
def j5f (l:List qP) (d:(List Int)->Res):Res:=j35 l λr=>bif !r then d [] else j9Q l (nI (List.length l)) Z1c [] 0 λb=>d b
def jfk:Sig Unit:=sg [.borrow y20 false] [false] [(y20,none)] [] λd f k=>j5f d.1 (λb=>k [w1 y21 b .O] [] [])
theorem jeR:SO 109 jfk:=fK (np:=0) (Za6 j9I Zas) [j9h] (oI 122 0 @jiN oN) false Tryz.func109 λ_ _ _ _=>by delta j5f j7s j9h j9Q;refine gz j35 λ_ b=>gz j4R λ_ d=> ?_;rewrite [<-b,<-d];kernel_rfl
end
end Go.PI.G
