/-
  Program's code interpreted over typed values; printed texts; plain laws. No conditions.
-/
import Derived.Test.YtiaipepkkjlccaaGreatPDd
import Derived.Test.YtiaipepkkjlccaaGreatPDe
set_option linter.unusedVariables false
set_option maxRecDepth 100000
set_option linter.unusedSimpArgs false
namespace Go.PI.G
noncomputable section
open Go Go.PI Go.Proofs
open Go.Code (pl pr)
def j0H (r:List qV)(b:qW->Res):Res:=bif lim (0+r.length) then b r else none
def j8U:Sig Unit:=sg [.borrow y2 true] [true] [(y2,none)] [] λd f k=>j0H d.1 (λb=>k [⟨y2,true,b,[.O]⟩] [] [])
theorem j60:SO 170 j8U:=fK (np:=0) Zar [] oN false Tryz.func170 λ_ _ _ _=>by kernel_rfl
def j5B (c:qB×Int×Bool×Bool×Int×Int×qB)(d:Int×Int×qB)(b:Bool->Res):Res:=bif (d.1==0) then j1L d λr=>bif r then b (!c.2.2.1) else b false else j1L d λf=>bif f then b (d.1==c.2.1) else b false
def jaD:Sig Unit:=sg [.look y6 true,.look y1 true] [false] [(y6,none),(y1,none)] [] λb f k=>j5B b.1 b.2.1 (λd=>k [wB d] [] [])
theorem jjp:SO 191 jaD:=fK (np:=0) (Za5 j9O Zar) [] oN false Tryz.func191 λ_ _ _ _=>by delta j5B jdc;refine gz j1L λ_ b=> ?_;rewrite[<-b];kernel_rfl
theorem jlA:FS [(144,j1s),(191,jaD)]:=(Za5 j4K (Za5 jjp Zar))
def j6L (d:List qC)(f:Int)(r:List qV)(b:Int)(rec:Int->Res)(g:Unit->Res)(h:Unit->Res):Res:=bif decide (b<f) then bif inb b d.length then bif inb b r.length then j5B (nth (eS,0,false,false,0,0,eS) d b) (nth (0,0,eS) r b) λi=>bif !i then h () else rec (Z9J (b+1)) else none else none else g ()
def j9D (b:List qC)(d:Int)(r:List qV):Int->(Int->Res)->((Unit->Res)×(Unit->Res))->Res:=λv rec q=>j6L b d r v (λf=>rec (f)) q.1 q.2
def jfH (b:List qC)(d:Int)(r:List qV)(n:Nat)(f:Int)(g:Unit->Res)(h:Unit->Res):Res:=Z1e (j9D b d r) n (f) (g,h)
def jeQ:Z1c Unit:=NdL 36 36 [.t 3 (pB 3),.R 20 y7 .S,.I 21,.I 22] [(3,y2,[.S])] (λb d=>(b.2.2.1)) (λb v=>(b.1,b.2.1,v,())) (λd v=>((d.1.1,d.1.2),())) (λb d=>j9D b.1 b.2.1 d.1.2) λb d f=>((λ_=>f (.exit 0) [] []),(λ_=>f .ret [(4,vB false)] []))
theorem jqW:CN 0 58 Tryz.f145 jeQ:=lK jlA [] oN ([],[]) [(0,[],[])] ([4],[]) λ_ _ _ _ _=>by kernel_rfl
def j3g (t:qB×qE×qL)(r:List qV)(b:Bool->Res):Res:=j0C t λd=>bif !d then b false else bif ((nI r.length) != (nI t.2.1.length)) then b false else jfH t.2.1 (nI t.2.1.length) r Z1b 0 (λ_=>b true) (λ_=>b false)
def ja5:Sig Unit:=sg [.look y22 true,.look y2 true] [false] [(y22,none),(y2,none)] [] λb f k=>j3g b.1 b.2.1 (λd=>k [wB d] [] [])
theorem jgN:SO 145 ja5:=fK (np:=0) jlA [jeQ] (oI 58 0 @jqW oN) false Tryz.func145 λ_ _ _ _=>by delta j3g j1s jeQ jfH;refine gz j0C λ_ b=>gz j9D λ_ d=> ?_;rewrite[<-b,<-d];kernel_rfl
def j5C (f:qL)(g:Int)(t:qB×qE×qL)(r:List qV)(d:List qV)(b:Int)(rec:qW->Int->Res)(i:qW->Res):Res:=bif decide (b<g) then bif inb b f.length then j0Q t (nth eS f b) λh=>bif inb h r.length then bif lim (d.length+1) then rec (d++[nth (0,0,eS) r h]) (Z9J (b+1)) else none else none else none else i d
def jc2 (d:qL)(f:Int)(t:qB×qE×qL)(r:List qV):(qW×Int)->(qW×Int->Res)->((qW->Res))->Res:=λv rec q=>j5C d f t r v.1 v.2 (λb g=>rec (b,g)) q
def jjT (d:qL)(f:Int)(t:qB×qE×qL)(r:List qV)(n:Nat)(b:List qV)(g:Int)(h:qW->Res):Res:=Z1e (jc2 d f t r) n (b,g) (h)
def jiD:Z1c Unit:=NdL 28 28 [.t 2 (pB 2),.t 3 (pB 3),.R 5 y2 .O,.R 10 y8 .S,.I 11,.I 12] [(2,y22,[.S,.S]),(3,y2,[.S])] (λb d=>(b.1,b.2.2.2.1)) (λb v=>(v.1,b.2.1,b.2.2.1,v.2,())) (λd v=>((d.1.1,d.1.2),(d.2.1.1,d.2.1.2),())) (λb d=>jc2 b.2.1 b.2.2.1 d.1.2 d.2.1.2) λb d g=>((λf=>g (.exit 0) [(5,v1 y2 f .O)] []))
theorem jpL:CN 0 58 Tryz.f147 jiD:=lK (Za5 j7m Zar) [] oN ([],[]) [(0,[5],[])] ([],[]) λ_ _ _ _ _=>by kernel_rfl
def j0G (t:qB×qE×qL)(r:List qV)(d:qW->Res):Res:=jjT t.2.2 (nI t.2.2.length) t r Z1b [] 0 λb=>d b
def j1K:Sig Unit:=sg [.borrow y22 true,.borrow y2 true] [false] [(y22,none),(y2,none)] [] λb f k=>j0G b.1 b.2.1 (λd=>k [w1 y2 d .O] [] [])
theorem j8N:SO 147 j1K:=fK (np:=0) (Za5 j7m Zar) [jiD] (oI 58 0 @jpL oN) false Tryz.func147 λ_ _ _ _=>by kernel_rfl
def j4j (a:List qV)(b:List qV)(i:Int)(rec:Int->Res)(d:Unit->Res)(f:Bool->Res):Res:=bif decide (i<(nI a.length)) then bif decide (i<(nI b.length)) then bif inb i a.length then bif inb i b.length then bif !(((nth (0,0,eS) a i).1==(nth (0,0,eS) b i).1)&&(((nth (0,0,eS) a i).2.1==(nth (0,0,eS) b i).2.1)&&(sEq (nth (0,0,eS) a i).2.2 (nth (0,0,eS) b i).2.2))) then bif inb i a.length then bif inb i b.length then jad (nth (0,0,eS) a i) (nth (0,0,eS) b i) λr=>f r else none else none else rec (Z9J (i+1)) else none else none else d () else d ()
def jb4 (a:List qV)(b:List qV):Int->(Int->Res)->((Unit->Res)×(Bool->Res))->Res:=λv rec q=>j4j a b v (λi=>rec (i)) q.1 q.2
def jih (a:List qV)(b:List qV)(n:Nat)(i:Int)(d:Unit->Res)(f:Bool->Res):Res:=Z1e (jb4 a b) n (i) (d,f)
def jhA:Z1c Unit:=NdL 41 41 [.R 0 y2 .S,.R 1 y2 .S,.I 5] [] (λb d=>(b.2.2.1)) (λb v=>(b.1,b.2.1,v,())) (λd v=>()) (λb d=>jb4 b.1 b.2.1) λb d f=>((λ_=>f (.exit 0) [(0,v1 y2 b.1 .S),(1,v1 y2 b.2.1 .S)] []),(λg=>f .ret [(4,vB g)] []))
theorem joj:CN 0 26 Tryz.f146 jhA:=lK (Za5 jjm Zar) [] oN ([],[]) [(0,[0,1],[])] ([4],[]) λ_ _ _ _ _=>by kernel_rfl
def j5v (a:List qV)(b:List qV)(d:Bool->Res):Res:=jih a b Z1b 0 (λ_=>d (decide ((nI a.length)<(nI b.length)))) (λt=>d t)
def j7P:Sig Unit:=sg [.look y2 false,.look y2 false] [false] [(y2,none),(y2,none)] [] λb f k=>j5v b.1 b.2.1 (λd=>k [wB d] [] [])
theorem jjk:SO 146 j7P:=fK (np:=0) (Za5 jjm Zar) [jhA] (oI 26 0 @joj oN) false Tryz.func146 λ_ _ _ _=>by kernel_rfl
theorem jkO:FS [(144,j1s),(145,ja5),(146,j7P),(147,j1K)]:=(Za5 j4K (Za5 jgN (Za5 jjk (Za5 j8N Zar))))
def j34 (l:List qW)(d:List qW)(f:Int)(t:qB×qE×qL)(b:Int)(rec:Int->Res)(h:Unit->Res)(g:Unit->Res):Res:=bif decide (b<f) then bif inb b d.length then j3g t (nth [] d b) λr=>bif !r then g () else bif decide (b>0) then bif inb (Z9J (b-1)) l.length then j0G t (nth [] l (Z9J (b-1))) λi=>j0G t (nth [] d b) λj=>j5v i j λk=>bif !k then g () else rec (Z9J (b+1)) else none else rec (Z9J (b+1)) else none else h ()
def j5w (l:List qW)(b:List qW)(d:Int)(t:qB×qE×qL):Int->(Int->Res)->((Unit->Res)×(Unit->Res))->Res:=λv rec q=>j34 l b d t v (λf=>rec (f)) q.1 q.2
def jeF (l:List qW)(b:List qW)(d:Int)(t:qB×qE×qL)(n:Nat)(f:Int)(g:Unit->Res)(h:Unit->Res):Res:=Z1e (j5w l b d t) n (f) (g,h)
def jdJ:Z1c Unit:=NdL 45 45 [.R 1 y24 .S,.t 2 (pB 2),.R 15 y24 .S,.I 16,.I 17] [(2,y22,[.S,.S])] (λb d=>(b.2.2.2.1)) (λb v=>(b.1,b.2.1,b.2.2.1,v,())) (λd v=>((d.1.1,d.1.2),())) (λb d=>j5w b.1 b.2.1 b.2.2.1 d.1.2) λb d f=>((λ_=>f (.exit 0) [] []),(λ_=>f .ret [(4,vB false)] []))
theorem jpF:CN 0 58 Tryz.f99 jdJ:=lK jkO [] oN ([],[]) [(0,[],[])] ([4],[]) λ_ _ _ _ _=>by delta j5w j34 ja5 j1K j7P;refine gz j3g λ_ b=>gz j0G λ_ d=>gz j5v λ_ f=> ?_;rewrite[<-b,<-d,<-f];kernel_rfl
def j0F (t:qB×qE×qL)(l:List qW)(b:Bool->Res):Res:=j0C t λr=>bif !r then b false else bif decide ((nI l.length)>60) then b false else jeF l l (nI l.length) t Z1b 0 (λ_=>b true) (λ_=>b false)
def j1J:Sig Unit:=sg [.look y22 true,.look y24 false] [false] [(y22,none),(y24,none)] [] λb f k=>j0F b.1 b.2.1 (λd=>k [wB d] [] [])
theorem j5Z:SO 99 j1J:=fK (np:=0) jkO [jdJ] (oI 58 0 @jpF oN) false Tryz.func99 λ_ _ _ _=>by delta j0F j1s jdJ jeF;refine gz j0C λ_ b=>gz j5w λ_ d=> ?_;rewrite[<-b,<-d];kernel_rfl
def j4s (f:List qW)(h:Int)(b:List qW)(d:Int)(rec:qR->Int->Res)(g:qR->Res):Res:=bif decide (d<h) then bif inb d f.length then j0H (nth [] f d) λr=>bif lim (b.length+1) then rec (b++[r]) (Z9J (d+1)) else none else none else g b
def jb8 (d:List qW)(f:Int):(qR×Int)->(qR×Int->Res)->((qR->Res))->Res:=λv rec q=>j4s d f v.1 v.2 (λb g=>rec (b,g)) q
def jik (f:List qW)(g:Int)(n:Nat)(b:List qW)(h:Int)(d:qR->Res):Res:=Z1e (jb8 f g) n (b,h) (d)
def jhD:Z1c Unit:=NdL 20 20 [.R 3 y24 .O,.R 7 y24 .S,.I 8,.I 9] [] (λb f=>(b.1,b.2.2.2.1)) (λb v=>(v.1,b.2.1,b.2.2.1,v.2,())) (λf v=>()) (λb f=>jb8 b.2.1 b.2.2.1) λb f g=>((λd=>g (.exit 0) [(3,v1 y24 d .O)] []))
theorem jow:CN 0 58 Tryz.f185 jhD:=lK (Za5 j60 Zar) [] oN ([],[]) [(0,[3],[])] ([],[]) λ_ _ _ _ _=>by kernel_rfl
def j84 (l:List qW)(d:qR->Res):Res:=jik l (nI l.length) Z1b [] 0 λb=>d b
def jaC:Sig Unit:=sg [.borrow y24 false] [false] [(y24,none)] [] λd f k=>j84 d.1 (λb=>k [w1 y24 b .O] [] [])
theorem jjo:SO 185 jaC:=fK (np:=0) (Za5 j60 Zar) [jhD] (oI 58 0 @jow oN) false Tryz.func185 λ_ _ _ _=>by kernel_rfl
def j27 (a:List qV)(b:List qV)(f:Int)(d:Int)(rec:Int->Res)(g:Unit->Res)(h:Unit->Res):Res:=bif decide (d<f) then bif inb d a.length then bif inb d b.length then bif !(((nth (0,0,eS) a d).1==(nth (0,0,eS) b d).1)&&(((nth (0,0,eS) a d).2.1==(nth (0,0,eS) b d).2.1)&&(sEq (nth (0,0,eS) a d).2.2 (nth (0,0,eS) b d).2.2))) then h () else rec (Z9J (d+1)) else none else none else g ()
def j86 (a:List qV)(b:List qV)(d:Int):Int->(Int->Res)->((Unit->Res)×(Unit->Res))->Res:=λv rec q=>j27 a b d v (λf=>rec (f)) q.1 q.2
def jdW (a:List qV)(b:List qV)(d:Int)(n:Nat)(f:Int)(g:Unit->Res)(h:Unit->Res):Res:=Z1e (j86 a b d) n (f) (g,h)
def jdN:Z1c Unit:=NdL 26 26 [.R 0 y2 .S,.R 1 y2 .S,.I 12,.I 13] [] (λb d=>(b.2.2.2.1)) (λb v=>(b.1,b.2.1,b.2.2.1,v,())) (λd v=>()) (λb d=>j86 b.1 b.2.1 b.2.2.1) λb d f=>((λ_=>f (.exit 0) [] []),(λ_=>f .ret [(4,vB false)] []))
theorem jks:CN 0 58 Tryz.f263 jdN:=lK Zar [] oN ([],[]) [(0,[],[])] ([4],[]) λ_ _ _ _ _=>by kernel_rfl
def j5E (a:List qV)(b:List qV)(d:Bool->Res):Res:=bif ((nI a.length) != (nI b.length)) then d false else jdW a b (nI a.length) Z1b 0 (λ_=>d true) (λ_=>d false)
def ja6:Sig Unit:=sg [.look y2 false,.look y2 false] [false] [(y2,none),(y2,none)] [] λb f k=>j5E b.1 b.2.1 (λd=>k [wB d] [] [])
theorem jlQ:SO 263 ja6:=fK (np:=0) Zar [jdN] (oI 58 0 @jks oN) false Tryz.func263 λ_ _ _ _=>by kernel_rfl
theorem jlz:FS [(99,j1J),(147,j1K),(263,ja6)]:=(Za5 j5Z (Za5 j8N (Za5 jlQ Zar)))
def j3K (f:List qV)(d:List qW)(g:Int)(t:qB×qE×qL)(b:Int)(rec:Int->Res)(h:Unit->Res)(i:Int->Res):Res:=bif decide (b<g) then bif inb b d.length then j0G t (nth [] d b) λr=>j5E r f λj=>bif j then i b else rec (Z9J (b+1)) else none else h ()
def j6K (b:List qV)(d:List qW)(f:Int)(t:qB×qE×qL):Int->(Int->Res)->((Unit->Res)×(Int->Res))->Res:=λv rec q=>j3K b d f t v (λg=>rec (g)) q.1 q.2
def jfG (b:List qV)(d:List qW)(f:Int)(t:qB×qE×qL)(n:Nat)(g:Int)(h:Unit->Res)(i:Int->Res):Res:=Z1e (j6K b d f t) n (g) (h,i)
def jeP:Z1c Unit:=NdL 27 27 [.R 2 y2 .S,.t 3 (pB 3),.R 13 y24 .S,.I 14,.I 15] [(3,y22,[.S,.S])] (λb d=>(b.2.2.2.1)) (λb v=>(b.1,b.2.1,b.2.2.1,v,())) (λd v=>((d.1.1,d.1.2),())) (λb d=>j6K b.1 b.2.1 b.2.2.1 d.1.2) λb d f=>((λ_=>f (.exit 0) [] []),(λg=>f .ret [(6,vI g)] []))
theorem jqV:CN 0 58 Tryz.f248 jeP:=lK jlz [] oN ([],[]) [(0,[],[])] ([6],[]) λ_ _ _ _ _=>by delta j6K j3K j1K ja6;refine gz j0G λ_ b=>gz j5E λ_ d=> ?_;rewrite[<-b,<-d];kernel_rfl
def j2o (t:qB×qE×qL)(l:List qW)(d:List qV)(b:Int->Res):Res:=j0F t l λr=>bif !r then b (-1) else jfG d l (nI l.length) t Z1b 0 (λ_=>b (-1)) (λf=>b f)
def jdb:Sig Unit:=sg [.look y22 true,.look y24 false,.look y2 false] [false] [(y22,none),(y24,none),(y2,none)] [] λb f k=>j2o b.1 b.2.1 b.2.2.1 (λd=>k [wI d] [] [])
theorem jgM:SO 248 jdb:=fK (np:=0) jlz [jeP] (oI 58 0 @jqV oN) false Tryz.func248 λ_ _ _ _=>by delta j2o j1J jeP jfG;refine gz j0F λ_ b=>gz j6K λ_ d=> ?_;rewrite[<-b,<-d];kernel_rfl
theorem jfk:FS [(146,j7P),(147,j1K),(170,j8U)]:=(Za5 jjk (Za5 j8N (Za5 j60 Zar)))
def j85 (b:List qW)(done:Bool)(t:qB×qE×qL)(r:List qV)(x:List qV)(d:qR->Bool->Res):Res:=bif !done then j0G t r λf=>j0G t x λg=>j5v f g λh=>bif h then j0H r λi=>bif lim (b.length+1) then d (b++[i]) true else none else d b done else d b done
def j9J:Z1c Unit:=Nd 48 48 [.t 3 (pB 3),.t 5 (pB 5),.R 7 y24 .O,.B 8,.t 10 (pB 10),.R 12 y24 .S,.I 13,.I 14] [(3,y22,[.S,.S]),(5,y2,[.S]),(10,y2,[.S])] λg b h=>j85 g.1 g.2.1 b.1.2 b.2.1.2 b.2.2.1.2 (λf d=>h .normal [(3,pB 3),(5,pB 5),(7,v1 y24 f .O),(8,vB d),(10,pB 10),(12,v1 y24 g.2.2.1 .S),(13,vI g.2.2.2.1),(14,vI g.2.2.2.2.1)] [(3,⟨y22,b.1.1,b.1.2,[.S,.S]⟩),(5,⟨y2,b.2.1.1,b.2.1.2,[.S]⟩),(10,⟨y2,b.2.2.1.1,b.2.2.1.2,[.S]⟩)])
theorem jpN:CN 0 15666 Tryz.f249 j9J:=nK jfk [] oN ([3,5,7,8,10,12,13,14],[3,5,10]) [] ([],[]) λ_ _ _=>by delta j85 j1K j7P j8U;refine gz j0G λ_ b=>gz j5v λ_ d=>gz j0H λ_ f=> ?_;rewrite[<-b,<-d,<-f];kernel_rfl
def j35 (g:List qW)(i:Int)(t:qB×qE×qL)(r:List qV)(h:List qW)(done:Bool)(b:Int)(rec:qR->Bool->Int->Res)(j:qR->Bool->Res):Res:=bif decide (b<i) then bif inb b g.length then j85 h done t r (nth [] g b) λd f=>j0H (nth [] g b) λk=>bif lim (d.length+1) then rec (d++[k]) f (Z9J (b+1)) else none else none else j h done
def j5D (d:List qW)(f:Int)(t:qB×qE×qL)(r:List qV):(qR×Bool×Int)->(qR×Bool×Int->Res)->((qR->Bool->Res))->Res:=λv rec q=>j35 d f t r v.1 v.2.1 v.2.2 (λb done g=>rec (b,done,g)) q
def jeJ (d:List qW)(f:Int)(t:qB×qE×qL)(r:List qV)(n:Nat)(b:List qW)(done:Bool)(g:Int)(h:qR->Bool->Res):Res:=Z1e (j5D d f t r) n (b,done,g) (h)
def jdM:Z1c Unit:=NdL 48 48 [.t 3 (pB 3),.t 5 (pB 5),.R 7 y24 .O,.B 8,.R 12 y24 .S,.I 13,.I 14] [(3,y22,[.S,.S]),(5,y2,[.S])] (λd b=>(d.1,d.2.1,d.2.2.2.2.1)) (λd v=>(v.1,v.2.1,d.2.2.1,d.2.2.2.1,v.2.2,())) (λb v=>((b.1.1,b.1.2),(b.2.1.1,b.2.1.2),())) (λd b=>j5D d.2.2.1 d.2.2.2.1 b.1.2 b.2.1.2) λd b h=>((λg f=>h (.exit 0) [(5,pB 5),(7,v1 y24 g .O),(8,vB f)] [(5,⟨y2,b.2.1.1,b.2.1.2,[.S]⟩)]))
theorem jpM:CN 0 122 Tryz.f249 jdM:=lK jfk [j9J] (oI 114 0 @jpN oN) ([],[]) [(0,[5,7,8],[5])] ([],[]) λ_ _ _ _ _=>by delta j5D j35 j9J j8U;refine gz j85 λ_ b=>gz j0H λ_ d=> ?_;rewrite[<-b,<-d];kernel_rfl
def j4J (t:qB×qE×qL)(l:List qW)(r:List qV)(d:qR->Res):Res:=jeJ l (nI l.length) t r Z1b [] false 0 λb done=>bif !done then j0H r λf=>bif lim (b.length+1) then d (b++[f]) else none else d b
def jfC:Sig Unit:=sg [.borrow y22 true,.borrow y24 false,.borrow y2 true] [false] [(y22,none),(y24,none),(y2,none)] [] λb f k=>j4J b.1 b.2.1 b.2.2.1 (λd=>k [w1 y24 d .O] [] [])
theorem jl0:SO 249 jfC:=fK (np:=0) jfk [j9J,jdM] (oI 122 1 @jpM oN) false Tryz.func249 λ_ _ _ _=>by delta j4J jdM j8U jeJ;refine gz j5D λ_ b=>gz j0H λ_ d=> ?_;rewrite[<-b,<-d];kernel_rfl
def j9a (t:qB×qE×qL)(l:List qW)(r:List qV)(b:qR->Int->Res):Res:=j0F t l λd=>bif !d then b [] 1 else j3g t r λf=>bif !f then b [] 2 else j0G t r λg=>j2o t l g λh=>bif decide (h>=0) then b [] 3 else bif ((nI l.length)==60) then b [] 4 else j4J t l r λi=>b i 0
def jli:Sig Unit:=sg [.borrow y22 true,.borrow y24 false,.borrow y2 true] [false,false] [(y22,none),(y24,none),(y2,none)] [] λb g k=>j9a b.1 b.2.1 b.2.2.1 (λd f=>k [w1 y24 d .O,wI f] [] [])
theorem js5:SO 225 jli:=fK (np:=0) (Za5 j5Z (Za5 jgN (Za5 j8N (Za5 jgM (Za5 jl0 Zar))))) [] oN false Tryz.func225 λ_ _ _ _=>by delta j9a j1J ja5 j1K jdb jfC;refine gz j0F λ_ b=>gz j3g λ_ d=>gz j0G λ_ f=>gz j2o λ_ g=>gz j4J λ_ h=> ?_;rewrite[<-b,<-d,<-f,<-g,<-h];kernel_rfl
theorem jlx:FS [(144,j1s),(190,j3s),(191,jaD)]:=(Za5 j4K (Za5 j7m (Za5 jjp Zar)))
def j3J (d:List qV)(f:qL)(g:Int)(t:qB×qE×qL)(b:Int)(rec:Int->Res)(h:Unit->Res)(i:Unit->Res):Res:=bif decide (b<g) then bif inb b f.length then bif inb b d.length then j0Q t (nth eS f b) λr=>bif inb r t.2.1.length then j5B (nth (eS,0,false,false,0,0,eS) t.2.1 r) (nth (0,0,eS) d b) λj=>bif !j then i () else rec (Z9J (b+1)) else none else none else none else h ()
def j6H (b:List qV)(d:qL)(f:Int)(t:qB×qE×qL):Int->(Int->Res)->((Unit->Res)×(Unit->Res))->Res:=λv rec q=>j3J b d f t v (λg=>rec (g)) q.1 q.2
def jfF (b:List qV)(d:qL)(f:Int)(t:qB×qE×qL)(n:Nat)(g:Int)(h:Unit->Res)(i:Unit->Res):Res:=Z1e (j6H b d f t) n (g) (h,i)
def jeN:Z1c Unit:=NdL 40 40 [.R 1 y2 .S,.t 2 (pB 2),.R 19 y8 .S,.I 20,.I 21] [(2,y22,[.S,.S])] (λb d=>(b.2.2.2.1)) (λb v=>(b.1,b.2.1,b.2.2.1,v,())) (λd v=>((d.1.1,d.1.2),())) (λb d=>j6H b.1 b.2.1 b.2.2.1 d.1.2) λb d f=>((λ_=>f (.exit 0) [] []),(λ_=>f .ret [(4,vB false)] []))
theorem jqS:CN 0 58 Tryz.f250 jeN:=lK jlx [] oN ([],[]) [(0,[],[])] ([4],[]) λ_ _ _ _ _=>by delta j6H j3J j3s jaD;refine gz j0Q λ_ b=>gz j5B λ_ d=> ?_;rewrite[<-b,<-d];kernel_rfl
def j6G (t:qB×qE×qL)(b:List qV)(d:Bool->Res):Res:=j0C t λr=>bif !r then d false else bif ((nI b.length) != (nI t.2.2.length)) then d false else jfF b t.2.2 (nI t.2.2.length) t Z1b 0 (λ_=>d true) (λ_=>d false)
def jho:Sig Unit:=sg [.look y22 true,.look y2 false] [false] [(y22,none),(y2,none)] [] λb f k=>j6G b.1 b.2.1 (λd=>k [wB d] [] [])
theorem jlP:SO 250 jho:=fK (np:=0) jlx [jeN] (oI 58 0 @jqS oN) false Tryz.func250 λ_ _ _ _=>by delta j6G j1s jeN jfF;refine gz j0C λ_ b=>gz j6H λ_ d=> ?_;rewrite[<-b,<-d];kernel_rfl
def j2q (f:Int)(h:List qW)(g:Int)(d:List qW)(b:Int)(rec:qR->Int->Res)(i:qR->Res):Res:=bif decide (b<g) then bif inb b h.length then bif (b != f) then j0H (nth [] h b) λr=>bif lim (d.length+1) then rec (d++[r]) (Z9J (b+1)) else none else rec d (Z9J (b+1)) else none else i d
def j8A (b:Int)(h:List qW)(f:Int):(qR×Int)->(qR×Int->Res)->((qR->Res))->Res:=λv rec q=>j2q b h f v.1 v.2 (λd g=>rec (d,g)) q
def jfd (b:Int)(i:List qW)(f:Int)(n:Nat)(d:List qW)(g:Int)(h:qR->Res):Res:=Z1e (j8A b i f) n (d,g) (h)
def jdZ:Z1c Unit:=NdL 26 26 [.I 1,.R 5 y24 .O,.R 9 y24 .S,.I 10,.I 11] [] (λb f=>(b.2.1,b.2.2.2.2.1)) (λb v=>(b.1,v.1,b.2.2.1,b.2.2.2.1,v.2,())) (λf v=>()) (λb f=>j8A b.1 b.2.2.1 b.2.2.2.1) λb f g=>((λd=>g (.exit 0) [(5,v1 y24 d .O)] []))
theorem jlt:CN 0 58 Tryz.f251 jdZ:=lK (Za5 j60 Zar) [] oN ([],[]) [(0,[5],[])] ([],[]) λ_ _ _ _ _=>by kernel_rfl
def j2p (l:List qW)(b:Int)(f:qR->Res):Res:=jfd b l (nI l.length) Z1b [] 0 λd=>f d
def jb2:Sig Unit:=sg [.borrow y24 false,.borrow tI false] [false] [(y24,none),(tI,none)] [] λb f k=>j2p b.1 b.2.1 (λd=>k [w1 y24 d .O] [] [])
theorem jfQ:SO 251 jb2:=fK (np:=0) (Za5 j60 Zar) [jdZ] (oI 58 0 @jlt oN) false Tryz.func251 λ_ _ _ _=>by kernel_rfl
def j9b (t:qB×qE×qL)(l:List qW)(d:List qV)(r:List qV)(b:qR->Int->Res):Res:=j0F t l λh=>bif !h then b [] 1 else j3g t r λi=>bif !i then b [] 2 else j2o t l d λf=>j6G t d λj=>bif !j then b [] 5 else bif decide (f<0) then b [] 5 else j2p l f λg=>j0G t r λk=>j2o t g k λm=>bif decide (m>=0) then b [] 3 else j4J t g r λn=>b n 0
def jlj:Sig Unit:=sg [.borrow y22 true,.borrow y24 false,.borrow y2 false,.borrow y2 true] [false,false] [(y22,none),(y24,none),(y2,none),(y2,none)] [] λb g k=>j9b b.1 b.2.1 b.2.2.1 b.2.2.2.1 (λd f=>k [w1 y24 d .O,wI f] [] [])
theorem js6:SO 226 jlj:=fK (np:=0) (Za5 j5Z (Za5 jgN (Za5 j8N (Za5 jgM (Za5 jl0 (Za5 jlP (Za5 jfQ Zar))))))) [] oN false Tryz.func226 λ_ _ _ _=>by delta j9b j1J ja5 jdb jho jb2 j1K jfC;refine gz j0F λ_ b=>gz j3g λ_ d=>gz j2o λ_ f=>gz j6G λ_ g=>gz j2p λ_ h=>gz j0G λ_ i=>gz j4J λ_ j=> ?_;rewrite[<-b,<-d,<-f,<-g,<-h,<-i,<-j];kernel_rfl
def j99 (t:qB×qE×qL)(l:List qW)(b:List qV)(d:qR->Int->Res):Res:=j0F t l λr=>bif !r then d [] 1 else j2o t l b λf=>j6G t b λg=>bif !g then d [] 5 else bif decide (f<0) then d [] 5 else j2p l f λh=>d h 0
def jlh:Sig Unit:=sg [.borrow y22 true,.borrow y24 false,.borrow y2 false] [false,false] [(y22,none),(y24,none),(y2,none)] [] λb g k=>j99 b.1 b.2.1 b.2.2.1 (λd f=>k [w1 y24 d .O,wI f] [] [])
theorem js4:SO 227 jlh:=fK (np:=0) (Za5 j5Z (Za5 jgM (Za5 jlP (Za5 jfQ Zar)))) [] oN false Tryz.func227 λ_ _ _ _=>by delta j99 j1J jdb jho jb2;refine gz j0F λ_ b=>gz j2o λ_ d=>gz j6G λ_ f=>gz j2p λ_ g=> ?_;rewrite[<-b,<-d,<-f,<-g];kernel_rfl
theorem j7k:FS [(99,j1J),(169,j5s),(190,j3s),(224,j6z)]:=(Za5 j5Z (Za5 jgJ (Za5 j7m (Za5 jhR Zar))))
def j6M (l:List qW)(t:qB×qE×qL)(d:qG)(b:Bool->Res):Res:=j0F t l λr=>bif !r then b true else j3f d λf=>bif !f then b true else bif sNe d.2.1 t.1 then b true else b (d.1==1)
def j36:Z1c Unit:=Nd 106 106 [.R 1 y24 .S,.t 3 (pB 3),.t 5 (pB 5)] [(3,y22,[.S,.S]),(5,y13,[.S,.S])] λf b g=>j6M f.1 b.1.2 b.2.1.2 (λd=>g .normal [(1,v1 y24 f.1 .S),(3,pB 3),(5,pB 5),(37,vB d)] [(3,⟨y22,b.1.1,b.1.2,[.S,.S]⟩),(5,⟨y13,b.2.1.1,b.2.1.2,[.S,.S]⟩)])
theorem jop:CN 0 12 Tryz.f228 j36:=nK j7k [] oN ([1,3,5,37],[3,5]) [] ([],[]) λ_ _ _=>by delta j6M j1J j5s;refine gz j0F λ_ b=>gz j3f λ_ d=> ?_;rewrite[<-b,<-d];kernel_rfl
def j0J (g:Int)(f:List qV)(h:Int)(d:qG)(b:Int)(x:List qV)(rec:Int->qW->Res)(i:qW->Res):Res:=bif decide (b<h) then bif inb b f.length then bif (d.1 != 4) then bif lim (x.length+1) then rec (Z9J (b+1)) (x++[nth (0,0,eS) f b]) else none else bif (b != g) then bif lim (x.length+1) then rec (Z9J (b+1)) (x++[nth (0,0,eS) f b]) else none else rec (Z9J (b+1)) x else none else i x
def j4m (b:Int)(f:List qV)(g:Int)(d:qG):(Int×qW)->(Int×qW->Res)->((qW->Res))->Res:=λv rec q=>j0J b f g d v.1 v.2 (λh x=>rec (h,x)) q
def j9E (b:Int)(f:List qV)(g:Int)(d:qG)(n:Nat)(h:Int)(x:List qV)(i:qW->Res):Res:=Z1e (j4m b f g d) n (h,x) (i)
def j5K:Z1c Unit:=NdL 106 106 [.t 5 (pB 5),.R 10 y24 .O,.I 11,.t 14 (pB 14),.R 54 y24 .S,.I 55,.I 56,.R 62 y2 .S,.I 63,.I 64] [(5,y13,[.S,.S]),(14,y2,[.O])] (λb d=>(b.2.2.2.2.2.2.2.1,d.2.1.2)) (λb v=>(b.1,b.2.1,b.2.2.1,b.2.2.2.1,b.2.2.2.2.1,b.2.2.2.2.2.1,b.2.2.2.2.2.2.1,v.1,())) (λd v=>((d.1.1,d.1.2),(d.2.1.1,v.2),())) (λb d=>j4m b.2.1 b.2.2.2.2.2.1 b.2.2.2.2.2.2.1 d.1.2) λb d f=>((λg=>f (.exit 2) [(5,pB 5),(10,v1 y24 b.1 .O),(11,vI b.2.1),(14,pB 14),(54,v1 y24 b.2.2.1 .S),(55,vI b.2.2.2.1),(56,vI b.2.2.2.2.1)] [(5,⟨y13,d.1.1,d.1.2,[.S,.S]⟩),(14,⟨y2,d.2.1.1,g,[.O]⟩)]))
theorem jon:CN 0 1042842 Tryz.f228 j5K:=lK j7k [j36] oN ([],[]) [(2,[5,10,11,14,54,55,56],[5,14])] ([],[]) λ_ _ _ _ _=>by kernel_rfl
def j9F (b:Bool)(d:qG)(x:List qV)(f:qW->Res):Res:=bif b then bif inb 0 d.2.2.1.length then bif lim (x.length+1) then f (x++[(nth (eS,0,false,false,0,0,eS) d.2.2.1 0).2.2.2.2]) else none else none else f x
def j8H:Z1c Unit:=Nd 106 106 [.t 5 (pB 5),.R 10 y24 .O,.I 11,.t 14 (pB 14),.R 54 y24 .S,.I 55,.I 56,.B 86] [(5,y13,[.S,.S]),(14,y2,[.O])] λb d f=>j9F b.2.2.2.2.2.1 d.1.2 d.2.1.2 (λg=>f .normal [(5,pB 5),(10,v1 y24 b.1 .O),(11,vI b.2.1),(14,pB 14),(54,v1 y24 b.2.2.1 .S),(55,vI b.2.2.2.1),(56,vI b.2.2.2.2.1)] [(5,⟨y13,d.1.1,d.1.2,[.S,.S]⟩),(14,⟨y2,d.2.1.1,g,[.O]⟩)])
theorem joq:CN 0 1042845 Tryz.f228 j8H:=nK j7k [j36,j5K] oN ([5,10,11,14,54,55,56],[5,14]) [] ([],[]) λ_ _ _=>by kernel_rfl
def j2A (h:Int)(g:List qW)(i:Int)(d:qG)(f:List qW)(b:Int)(rec:qR->Int->Res)(j:qR->Res):Res:=bif decide (b<i) then bif inb b g.length then j9E h (nth [] g b) (nI (List.length (nth [] g b))) d Z1b 0 [] λx=>j9F (d.1==3) d x λk=>bif (d.1 != 2) then bif lim (f.length+1) then rec (f++[k]) (Z9J (b+1)) else none else rec f (Z9J (b+1)) else none else j f
def j4n (b:Int)(g:List qW)(h:Int)(d:qG):(qR×Int)->(qR×Int->Res)->((qR->Res))->Res:=λv rec q=>j2A b g h d v.1 v.2 (λf i=>rec (f,i)) q
def jdp (b:Int)(g:List qW)(h:Int)(d:qG)(n:Nat)(f:List qW)(i:Int)(j:qR->Res):Res:=Z1e (j4n b g h d) n (f,i) (j)
def jcj:Z1c Unit:=NdL 106 106 [.t 5 (pB 5),.R 10 y24 .O,.I 11,.R 54 y24 .S,.I 55,.I 56] [(5,y13,[.S,.S])] (λb d=>(b.1,b.2.2.2.2.1)) (λb v=>(v.1,b.2.1,b.2.2.1,b.2.2.2.1,v.2,())) (λd v=>((d.1.1,d.1.2),())) (λb d=>j4n b.2.1 b.2.2.1 b.2.2.2.1 d.1.2) λb d g=>((λf=>g (.exit 0) [(10,v1 y24 f .O)] []))
theorem joo:CN 0 1018 Tryz.f228 jcj:=lK j7k [j36,j5K,j8H] (oI 922 1 @jon (oI 925 2 @joq oN)) ([],[]) [(0,[10],[])] ([],[]) λ_ _ _ _ _=>by delta j4n j2A j5K j8H j9E;refine gz j4m λ_ b=>gz j9F λ_ d=> ?_;rewrite[<-b,<-d];kernel_rfl
def j81 (t:qB×qE×qL)(l:List qW)(d:qG)(b:qR->Int->Res):Res:=j6M l t d λi=>bif i then b [] 1 else j2M [t] d λr g=>bif (g != 0) then b [] g else j0Q t d.2.2.2.2.1 λh=>jdp h l (nI l.length) d Z1b [] 0 λf=>b f 0
def jjN:Sig Unit:=sg [.borrow y22 true,.borrow y24 false,.borrow y13 true] [false,false] [(y22,none),(y24,none),(y13,none)] [] λb g k=>j81 b.1 b.2.1 b.2.2.1 (λd f=>k [w1 y24 d .O,wI f] [] [])
theorem jqp:SO 228 jjN:=fK (np:=0) j7k [j36,j5K,j8H,jcj] (oI 12 0 @jop (oI 1018 3 @joo oN)) false Tryz.func228 λ_ _ _ _=>by delta j81 j36 j6z j3s jcj jdp;refine gz j6M λ_ b=>gz j2M λ_ d=>gz j0Q λ_ f=>gz j4n λ_ g=> ?_;rewrite[<-b,<-d,<-f,<-g];kernel_rfl
def j1j (l:List qV)(b:qW->Res):Res:=bif lim (0+l.length) then b l else none
def j9t:Sig Unit:=sg [.borrow y2 false] [false] [(y2,none)] [] λd f k=>j1j d.1 (λb=>k [w1 y2 b .O] [] [])
theorem j9i:SO 202 j9t:=fK (np:=0) Zar [] oN false Tryz.func202 λ_ _ _ _=>by kernel_rfl
def jeW (c:qB×Int×Bool×Bool×Int×Int×qB)(d:Int×Int×qB)(b:Bool->Res):Res:=j1p d λr=>bif r then bif (d.1==c.2.1) then b true else bif (d.1==0) then b (!c.2.2.1) else b false else b false
def jst:Sig Unit:=sg [.look y6 true,.look y1 true] [false] [(y6,none),(y1,none)] [] λb f k=>jeW b.1 b.2.1 (λd=>k [wB d] [] [])
theorem jkT:SO 206 jst:=fK (np:=0) (Za5 j9K Zar) [] oN false Tryz.func206 λ_ _ _ _=>by kernel_rfl
def j6p (d:List qV)(f:Int)(t:qB×qE×qL)(b:Int)(rec:Int->Res)(g:Unit->Res)(h:Unit->Res):Res:=bif decide (b<f) then bif inb b d.length then bif inb b t.2.1.length then jeW (nth (eS,0,false,false,0,0,eS) t.2.1 b) (nth (0,0,eS) d b) λr=>bif !r then h () else rec (Z9J (b+1)) else none else none else g ()
def jcK (b:List qV)(d:Int)(t:qB×qE×qL):Int->(Int->Res)->((Unit->Res)×(Unit->Res))->Res:=λv rec q=>j6p b d t v (λf=>rec (f)) q.1 q.2
def jl8 (b:List qV)(d:Int)(t:qB×qE×qL)(n:Nat)(f:Int)(g:Unit->Res)(h:Unit->Res):Res:=Z1e (jcK b d t) n (f) (g,h)
def jk2:Z1c Unit:=NdL 31 31 [.t 2 (pB 2),.R 15 y2 .S,.I 16,.I 17] [(2,y22,[.S,.S])] (λb d=>(b.2.2.1)) (λb v=>(b.1,b.2.1,v,())) (λd v=>((d.1.1,d.1.2),())) (λb d=>jcK b.1 b.2.1 d.1.2) λb d f=>((λ_=>f (.exit 0) [] []),(λ_=>f .ret [(4,vB false)] []))
theorem jqO:CN 0 58 Tryz.f158 jk2:=lK (Za5 jkT Zar) [] oN ([],[]) [(0,[],[])] ([4],[]) λ_ _ _ _ _=>by kernel_rfl
def j4z (t:qB×qE×qL)(r:List qV)(b:Bool->Res):Res:=bif ((nI r.length) != (nI t.2.1.length)) then b false else jl8 r (nI r.length) t Z1b 0 (λ_=>b true) (λ_=>b false)
def j7I:Sig Unit:=sg [.look y22 true,.look y2 true] [false] [(y22,none),(y2,none)] [] λb f k=>j4z b.1 b.2.1 (λd=>k [wB d] [] [])
theorem jgy:SO 158 j7I:=fK (np:=0) (Za5 jkT Zar) [jk2] (oI 58 0 @jqO oN) false Tryz.func158 λ_ _ _ _=>by kernel_rfl
def j6n (f:qL)(g:Int)(t:qB×qE×qL)(r:List qV)(d:List qV)(b:Int)(rec:qW->Int->Res)(i:qW->Res):Res:=bif decide (b<g) then bif inb b f.length then j0n t (nth eS f b) λh=>bif inb h r.length then bif lim (d.length+1) then rec (d++[nth (0,0,eS) r h]) (Z9J (b+1)) else none else none else none else i d
def jcH (d:qL)(f:Int)(t:qB×qE×qL)(r:List qV):(qW×Int)->(qW×Int->Res)->((qW->Res))->Res:=λv rec q=>j6n d f t r v.1 v.2 (λb g=>rec (b,g)) q
def jl6 (d:qL)(f:Int)(t:qB×qE×qL)(r:List qV)(n:Nat)(b:List qV)(g:Int)(h:qW->Res):Res:=Z1e (jcH d f t r) n (b,g) (h)
def jk0:Z1c Unit:=NdL 28 28 [.t 2 (pB 2),.t 3 (pB 3),.R 5 y2 .O,.R 10 y8 .S,.I 11,.I 12] [(2,y22,[.S,.S]),(3,y2,[.S])] (λb d=>(b.1,b.2.2.2.1)) (λb v=>(v.1,b.2.1,b.2.2.1,v.2,())) (λd v=>((d.1.1,d.1.2),(d.2.1.1,d.2.1.2),())) (λb d=>jcH b.2.1 b.2.2.1 d.1.2 d.2.1.2) λb d g=>((λf=>g (.exit 0) [(5,v1 y2 f .O)] []))
theorem jqM:CN 0 58 Tryz.f160 jk0:=lK (Za5 j4X Zar) [] oN ([],[]) [(0,[5],[])] ([],[]) λ_ _ _ _ _=>by kernel_rfl
def j0O (t:qB×qE×qL)(r:List qV)(d:qW->Res):Res:=jl6 t.2.2 (nI t.2.2.length) t r Z1b [] 0 λb=>d b
def j2m:Sig Unit:=sg [.borrow y22 true,.borrow y2 true] [false] [(y22,none),(y2,none)] [] λb f k=>j0O b.1 b.2.1 (λd=>k [w1 y2 d .O] [] [])
theorem j9L:SO 160 j2m:=fK (np:=0) (Za5 j4X Zar) [jk0] (oI 58 0 @jqM oN) false Tryz.func160 λ_ _ _ _=>by kernel_rfl
def j40 (a:List qV)(b:List qV)(i:Int)(rec:Int->Res)(d:Unit->Res)(f:Bool->Res):Res:=bif decide (i<(nI a.length)) then bif decide (i<(nI b.length)) then bif inb i a.length then bif inb i b.length then bif !(((nth (0,0,eS) a i).1==(nth (0,0,eS) b i).1)&&(((nth (0,0,eS) a i).2.1==(nth (0,0,eS) b i).2.1)&&(sEq (nth (0,0,eS) a i).2.2 (nth (0,0,eS) b i).2.2))) then bif inb i a.length then bif inb i b.length then j9T (nth (0,0,eS) a i) (nth (0,0,eS) b i) λr=>f r else none else none else rec (Z9J (i+1)) else none else none else d () else d ()
def jaU (a:List qV)(b:List qV):Int->(Int->Res)->((Unit->Res)×(Bool->Res))->Res:=λv rec q=>j40 a b v (λi=>rec (i)) q.1 q.2
def ji1 (a:List qV)(b:List qV)(n:Nat)(i:Int)(d:Unit->Res)(f:Bool->Res):Res:=Z1e (jaU a b) n (i) (d,f)
def jhw:Z1c Unit:=NdL 41 41 [.R 0 y2 .S,.R 1 y2 .S,.I 5] [] (λb d=>(b.2.2.1)) (λb v=>(b.1,b.2.1,v,())) (λd v=>()) (λb d=>jaU b.1 b.2.1) λb d f=>((λ_=>f (.exit 0) [(0,v1 y2 b.1 .S),(1,v1 y2 b.2.1 .S)] []),(λg=>f .ret [(4,vB g)] []))
theorem jnZ:CN 0 26 Tryz.f159 jhw:=lK (Za5 jja Zar) [] oN ([],[]) [(0,[0,1],[])] ([4],[]) λ_ _ _ _ _=>by kernel_rfl
def j51 (a:List qV)(b:List qV)(d:Bool->Res):Res:=ji1 a b Z1b 0 (λ_=>d (decide ((nI a.length)<(nI b.length)))) (λt=>d t)
def j7E:Sig Unit:=sg [.look y2 false,.look y2 false] [false] [(y2,none),(y2,none)] [] λb f k=>j51 b.1 b.2.1 (λd=>k [wB d] [] [])
theorem jj8:SO 159 j7E:=fK (np:=0) (Za5 jja Zar) [jhw] (oI 26 0 @jnZ oN) false Tryz.func159 λ_ _ _ _=>by kernel_rfl
theorem jkJ:FS [(157,j4R),(158,j7I),(159,j7E),(160,j2m)]:=(Za5 j7l (Za5 jgy (Za5 jj8 (Za5 j9L Zar))))
def j30 (l:List qW)(d:List qW)(f:Int)(t:qB×qE×qL)(b:Int)(rec:Int->Res)(h:Unit->Res)(g:Unit->Res):Res:=bif decide (b<f) then bif inb b d.length then j4z t (nth [] d b) λr=>bif !r then g () else bif decide (b>0) then bif inb (Z9J (b-1)) l.length then j0O t (nth [] l (Z9J (b-1))) λi=>j0O t (nth [] d b) λj=>j51 i j λk=>bif !k then g () else rec (Z9J (b+1)) else none else rec (Z9J (b+1)) else none else h ()
def j52 (l:List qW)(b:List qW)(d:Int)(t:qB×qE×qL):Int->(Int->Res)->((Unit->Res)×(Unit->Res))->Res:=λv rec q=>j30 l b d t v (λf=>rec (f)) q.1 q.2
def jed (l:List qW)(b:List qW)(d:Int)(t:qB×qE×qL)(n:Nat)(f:Int)(g:Unit->Res)(h:Unit->Res):Res:=Z1e (j52 l b d t) n (f) (g,h)
def jdx:Z1c Unit:=NdL 45 45 [.R 1 y24 .S,.t 2 (pB 2),.R 15 y24 .S,.I 16,.I 17] [(2,y22,[.S,.S])] (λb d=>(b.2.2.2.1)) (λb v=>(b.1,b.2.1,b.2.2.1,v,())) (λd v=>((d.1.1,d.1.2),())) (λb d=>j52 b.1 b.2.1 b.2.2.1 d.1.2) λb d f=>((λ_=>f (.exit 0) [] []),(λ_=>f .ret [(4,vB false)] []))
theorem jpl:CN 0 58 Tryz.f110 jdx:=lK jkJ [] oN ([],[]) [(0,[],[])] ([4],[]) λ_ _ _ _ _=>by delta j52 j30 j7I j2m j7E;refine gz j4z λ_ b=>gz j0O λ_ d=>gz j51 λ_ f=> ?_;rewrite[<-b,<-d,<-f];kernel_rfl
def j0W (t:qB×qE×qL)(l:List qW)(b:Bool->Res):Res:=j0R t λr=>bif !r then b false else bif decide ((nI l.length)>60) then b false else jed l l (nI l.length) t Z1b 0 (λ_=>b true) (λ_=>b false)
def j2J:Sig Unit:=sg [.look y22 true,.look y24 false] [false] [(y22,none),(y24,none)] [] λb f k=>j0W b.1 b.2.1 (λd=>k [wB d] [] [])
theorem j8M:SO 110 j2J:=fK (np:=0) jkJ [jdx] (oI 58 0 @jpl oN) false Tryz.func110 λ_ _ _ _=>by delta j0W j4R jdx jed;refine gz j0R λ_ b=>gz j52 λ_ d=> ?_;rewrite[<-b,<-d];kernel_rfl
def j3k (f:List qW)(h:Int)(b:List qW)(d:Int)(rec:qR->Int->Res)(g:qR->Res):Res:=bif decide (d<h) then bif inb d f.length then j1j (nth [] f d) λr=>bif lim (b.length+1) then rec (b++[r]) (Z9J (d+1)) else none else none else g b
def j9U (d:List qW)(f:Int):(qR×Int)->(qR×Int->Res)->((qR->Res))->Res:=λv rec q=>j3k d f v.1 v.2 (λb g=>rec (b,g)) q
def jgY (f:List qW)(g:Int)(n:Nat)(b:List qW)(h:Int)(d:qR->Res):Res:=Z1e (j9U f g) n (b,h) (d)
def jfW:Z1c Unit:=NdL 21 21 [.R 3 y24 .O,.R 6 y24 .S,.I 7,.I 8] [] (λb f=>(b.1,b.2.2.2.1)) (λb v=>(v.1,b.2.1,b.2.2.1,v.2,())) (λf v=>()) (λb f=>j9U b.2.1 b.2.2.1) λb f g=>((λd=>g (.exit 0) [(3,v1 y24 d .O)] []))
theorem jmQ:CN 0 58 Tryz.f196 jfW:=lK (Za5 j9i Zar) [] oN ([],[]) [(0,[3],[])] ([],[]) λ_ _ _ _ _=>by kernel_rfl
def j0A (l:List qW)(d:qR->Res):Res:=jgY l (nI l.length) Z1b [] 0 λb=>d b
def j14:Sig Unit:=sg [.borrow y24 false] [false] [(y24,none)] [] λd f k=>j0A d.1 (λb=>k [w1 y24 b .O] [] [])
theorem j68:SO 196 j14:=fK (np:=0) (Za5 j9i Zar) [jfW] (oI 58 0 @jmQ oN) false Tryz.func196 λ_ _ _ _=>by kernel_rfl
theorem jan:FS [(110,j2J),(174,j5q),(196,j14),(205,j0T),(252,j7G),(259,jdT)]:=(Za5 j8M (Za5 jgv (Za5 j68 (Za5 j4X (Za5 jjd (Za5 jlp Zar))))))
def j6k (l:List qW)(t:qB×qE×qL)(d:qG)(b:Bool->Res):Res:=j0W t l λr=>bif !r then b true else j38 d λf=>bif !f then b true else bif sNe d.2.1 t.1 then b true else b (d.1==1)
def j5I:Z1c Unit:=Nd 98 98 [.R 1 y24 .S,.t 3 (pB 3),.t 5 (pB 5)] [(3,y22,[.S,.S]),(5,y13,[.S,.S])] λf b g=>j6k f.1 b.1.2 b.2.1.2 (λd=>g .normal [(1,v1 y24 f.1 .S),(3,pB 3),(5,pB 5),(33,vB d)] [(3,⟨y22,b.1.1,b.1.2,[.S,.S]⟩),(5,⟨y13,b.2.1.1,b.2.1.2,[.S,.S]⟩)])
theorem jo4:CN 0 12 Tryz.f235 j5I:=nK jan [] oN ([1,3,5,33],[3,5]) [] ([],[]) λ_ _ _=>by delta j6k j2J j5q;refine gz j0W λ_ b=>gz j38 λ_ d=> ?_;rewrite[<-b,<-d];kernel_rfl
def j42 (g:Int)(d:qG)(f:List qW)(b:Int)(rec:qR->Int->Res)(h:qR->Res):Res:=bif decide (b<g) then bif inb b f.length then bif inb 0 d.2.2.1.length then bif lim ((List.length (nth [] f b))+1) then bif inb b (List.length (upd f b ((nth [] f b)++[(nth (eS,0,false,false,0,0,eS) d.2.2.1 0).2.2.2.2]))) then bif (Z9n (Int.toNat b) (Int.toNat b)&&true) then rec (upd f b ((nth [] f b)++[(nth (eS,0,false,false,0,0,eS) d.2.2.1 0).2.2.2.2])) (Z9J (b+1)) else none else none else none else none else none else h f
def j6Z (f:Int)(d:qG):(qR×Int)->(qR×Int->Res)->((qR->Res))->Res:=λv rec q=>j42 f d v.1 v.2 (λb g=>rec (b,g)) q
def j9l (f:Int)(d:qG)(n:Nat)(b:List qW)(g:Int)(h:qR->Res):Res:=Z1e (j6Z f d) n (b,g) (h)
def j8C:Z1c Unit:=NdL 98 98 [.t 5 (pB 5),.R 9 y24 .O,.I 51,.I 52] [(5,y13,[.S,.S])] (λb d=>(b.1,b.2.2.1)) (λb v=>(v.1,b.2.1,v.2,())) (λd v=>((d.1.1,d.1.2),())) (λb d=>j6Z b.2.1 d.1.2) λb d g=>((λf=>g (.exit 1) [(9,v1 y24 f .O)] []))
theorem jo2:CN 0 16058 Tryz.f235 j8C:=lK jan [j5I] oN ([],[]) [(1,[9],[])] ([],[]) λ_ _ _ _ _=>by kernel_rfl
def j43 (f:Int)(g:Int)(d:List qW)(b:Int)(rec:qR->Int->Res)(h:qR->Res):Res:=bif decide (b<g) then bif inb b d.length then jb3 (nth [] d b) f (Z9J (f+1)) λr=>bif inb b (List.length (upd d b r)) then bif (Z9n (Int.toNat b) (Int.toNat b)&&true) then rec (upd d b r) (Z9J (b+1)) else none else none else none else h d
def j70 (b:Int)(f:Int):(qR×Int)->(qR×Int->Res)->((qR->Res))->Res:=λv rec q=>j43 b f v.1 v.2 (λd g=>rec (d,g)) q
def j9m (b:Int)(f:Int)(n:Nat)(d:List qW)(g:Int)(h:qR->Res):Res:=Z1e (j70 b f) n (d,g) (h)
def jc9:Z1c Unit:=NdL 98 98 [.R 9 y24 .O,.I 11,.I 79,.I 80] [] (λb f=>(b.1,b.2.2.2.1)) (λb v=>(v.1,b.2.1,b.2.2.1,v.2,())) (λf v=>()) (λb f=>j70 b.2.1 b.2.2.1) λb f g=>((λd=>g (.exit 3) [(9,v1 y24 d .O)] []))
theorem jo3:CN 0 128502 Tryz.f235 jc9:=lK jan [j5I,j8C] oN ([],[]) [(3,[9],[])] ([],[]) λ_ _ _ _ _=>by kernel_rfl
def j7t (t:qB×qE×qL)(l:List qW)(d:qG)(b:qR->Int->Res):Res:=j6k l t d λj=>bif j then b [] 1 else j3l [t] d λr=>bif (r != 0) then b [] r else j0A l λg=>bif (d.1==2) then b [] 0 else bif (d.1==3) then j9l (nI g.length) d Z1b g 0 λh=>b h 0 else bif (d.1==4) then j0n t d.2.2.2.2.1 λi=>j9m i (nI g.length) Z1b g 0 λf=>b f 0 else b g 0
def jes:Sig Unit:=sg [.borrow y22 true,.borrow y24 false,.borrow y13 true] [false,false] [(y22,none),(y24,none),(y13,none)] [] λb g k=>j7t b.1 b.2.1 b.2.2.1 (λd f=>k [w1 y24 d .O,wI f] [] [])
theorem jqd:SO 235 jes:=fK (np:=0) jan [j5I,j8C,jc9] (oI 12 0 @jo4 (oI 16058 1 @jo2 (oI 128502 2 @jo3 oN))) false Tryz.func235 λ_ _ _ _=>by delta j7t j5I j7G j14 j8C j0T jc9 j9l j9m;refine gz j6k λ_ b=>gz j3l λ_ d=>gz j0A λ_ f=>gz j6Z λ_ g=>gz j0n λ_ h=>gz j70 λ_ i=> ?_;rewrite[<-b,<-d,<-f,<-g,<-h,<-i];kernel_rfl
def jeV (r:List qV)(g:qB×qE×qL)(h:List qV)(b:Bool->Res):Res:=j0O g r λd=>j1R d h λf=>b f
def jss:Sig Unit:=sg [.look y2 true,.rptr y22,.rptr y2] [false] [(y2,none),(y22,none),(y2,none)] [] λb f k=>jeV b.1 b.2.1 b.2.2.1 (λd=>k [wB d] [] [])
theorem jkS:SO 261 jss:=fK (np:=0) (Za5 j9L (Za5 jf1 Zar)) [] oN false Tryz.func261 λ_ _ _ _=>by delta jeV j2m j6y;refine gz j0O λ_ b=>gz j1R λ_ d=> ?_;rewrite[<-b,<-d];kernel_rfl
def j16 (s:List qW)(f:qT×List qV)(h:Int)(b:Int)(rec:Int->Res)(d:Unit->Res)(g:Int->Res):Res:=bif decide (b<h) then bif inb b s.length then jeV (nth [] s b) f.1 f.2 λr=>bif r then g b else rec (Z9J (b+1)) else none else d ()
def j4D (s:List qW)(f:qT×List qV)(b:Int):Int->(Int->Res)->((Unit->Res)×(Int->Res))->Res:=λv rec q=>j16 s f b v (λd=>rec (d)) q.1 q.2
def jaQ (s:List qW)(f:qT×List qV)(g:Int)(n:Nat)(h:Int)(b:Unit->Res)(d:Int->Res):Res:=Z1e (j4D s f g) n (h) (b,d)
def jai:Z1c Unit:=NdL 19 19 [.R 0 y24 .S,.c 1 261 [y22,y2] y44 [.S,.S,.S],.I 7,.I 8] [] (λb d=>(b.2.2.2.1)) (λb v=>(b.1,b.2.1,b.2.2.1,v,())) (λd v=>()) (λb d=>j4D b.1 b.2.1 b.2.2.1) λb d f=>((λ_=>f (.exit 0) [] []),(λg=>f .ret [(4,vI g)] []))
theorem jhe:CN 0 26 Tryz.f260 jai:=lK (Za5 jkS Zar) [] oN ([],[]) [(0,[],[])] ([4],[]) λ_ _ _ _ _=>by kernel_rfl
def j8v (s:List qW)(f:qT×List qV)(b:Int->Res):Res:=jaQ s f (nI s.length) Z1b 0 (λ_=>b (-1)) (λt=>b t)
def jiR:Sig Unit:=sg [.look y24 false,.rclos 261 [y22,y2]] [false] [(y24,none),(y44,none)] [] λb f k=>j8v b.1 b.2.1 (λd=>k [wI d] [] [])
theorem jiI:SO 260 jiR:=fK (np:=0) (Za5 jkS Zar) [jai] (oI 26 0 @jhe oN) false Tryz.func260 λ_ _ _ _=>by kernel_rfl
def j1q (t:qB×qE×qL)(l:List qW)(b:List qV)(d:Int->Res):Res:=j8v l (t,b) λr=>d r
def j7H:Sig Unit:=sg [.look y22 true,.look y24 false,.look y2 false] [false] [(y22,none),(y24,none),(y2,none)] [] λb f k=>j1q b.1 b.2.1 b.2.2.1 (λd=>k [wI d] [] [])
theorem jgx:SO 236 j7H:=fK (np:=0) (Za5 jiI Zar) [] oN false Tryz.func236 λ_ _ _ _=>by kernel_rfl
theorem jkM:FS [(159,j7E),(160,j2m),(196,j14),(202,j9t),(262,j9f)]:=(Za5 jj8 (Za5 j9L (Za5 j68 (Za5 j9i (Za5 jlq Zar)))))
def j31 (l:List qW)(t:qB×qE×qL)(r:List qV)(b:Int)(rec:Int->Res)(d:Int->Res):Res:=bif decide (b<(nI l.length)) then bif inb b l.length then j0O t (nth [] l b) λf=>j0O t r λg=>j51 f g λh=>bif h then rec (Z9J (b+1)) else d b else none else d b
def j56 (l:List qW)(t:qB×qE×qL)(r:List qV):Int->(Int->Res)->((Int->Res))->Res:=λv rec q=>j31 l t r v (λb=>rec (b)) q
def jeh (l:List qW)(t:qB×qE×qL)(r:List qV)(n:Nat)(b:Int)(d:Int->Res):Res:=Z1e (j56 l t r) n (b) (d)
def jdB:Z1c Unit:=NdL 35 35 [.R 1 y24 .S,.t 3 (pB 3),.t 5 (pB 5),.I 7] [(3,y22,[.S,.S]),(5,y2,[.S])] (λd b=>(d.2.1)) (λd v=>(d.1,v,())) (λb v=>((b.1.1,b.1.2),(b.2.1.1,b.2.1.2),())) (λd b=>j56 d.1 b.1.2 b.2.1.2) λd b g=>((λf=>g (.exit 0) [(1,v1 y24 d.1 .S),(5,pB 5),(7,vI f)] [(5,⟨y2,b.2.1.1,b.2.1.2,[.S]⟩)]))
theorem jpp:CN 0 28 Tryz.f237 jdB:=lK jkM [] oN ([],[]) [(0,[1,5,7],[5])] ([],[]) λ_ _ _ _ _=>by delta j56 j31 j2m j7E;refine gz j0O λ_ b=>gz j51 λ_ d=> ?_;rewrite[<-b,<-d];kernel_rfl
def j39 (t:qB×qE×qL)(l:List qW)(r:List qV)(d:qR->Res):Res:=jeh l t r Z1b 0 λb=>j0A l λf=>j1j r λg=>j72 f b [g] λh=>d h
def jbz:Sig Unit:=sg [.borrow y22 true,.borrow y24 false,.borrow y2 true] [false] [(y22,none),(y24,none),(y2,none)] [] λb f k=>j39 b.1 b.2.1 b.2.2.1 (λd=>k [w1 y24 d .O] [] [])
theorem jkR:SO 237 jbz:=fK (np:=0) jkM [jdB] (oI 28 0 @jpp oN) false Tryz.func237 λ_ _ _ _=>by delta j39 jdB j14 j9t j9f jeh;refine gz j56 λ_ b=>gz j0A λ_ d=>gz j1j λ_ f=>gz j72 λ_ g=> ?_;rewrite[<-b,<-d,<-f,<-g];kernel_rfl
def j92 (t:qB×qE×qL)(l:List qW)(r:List qV)(b:qR->Int->Res):Res:=j0W t l λd=>bif !d then b [] 1 else j4z t r λf=>bif !f then b [] 2 else j0O t r λg=>j1q t l g λh=>bif decide (h>=0) then b [] 3 else bif ((nI l.length)==60) then b [] 4 else j39 t l r λi=>b i 0
def jfv:Sig Unit:=sg [.borrow y22 true,.borrow y24 false,.borrow y2 true] [false,false] [(y22,none),(y24,none),(y2,none)] [] λb g k=>j92 b.1 b.2.1 b.2.2.1 (λd f=>k [w1 y24 d .O,wI f] [] [])
theorem jrS:SO 199 jfv:=fK (np:=0) (Za5 j8M (Za5 jgy (Za5 j9L (Za5 jgx (Za5 jkR Zar))))) [] oN false Tryz.func199 λ_ _ _ _=>by delta j92 j2J j7I j2m j7H jbz;refine gz j0W λ_ b=>gz j4z λ_ d=>gz j0O λ_ f=>gz j1q λ_ g=>gz j39 λ_ h=> ?_;rewrite[<-b,<-d,<-f,<-g,<-h];kernel_rfl
theorem jlv:FS [(157,j4R),(205,j0T),(220,ja1)]:=(Za5 j7l (Za5 j4X (Za5 j9K Zar)))
def j3E (d:List qV)(f:qL)(g:Int)(t:qB×qE×qL)(b:Int)(rec:Int->Res)(j:Unit->Res)(h:Unit->Res):Res:=bif decide (b<g) then bif inb b f.length then bif inb b d.length then j1p (nth (0,0,eS) d b) λr=>bif !r then h () else bif inb b d.length then j0n t (nth eS f b) λi=>bif inb i t.2.1.length then bif ((nth (0,0,eS) d b).1 != (nth (eS,0,false,false,0,0,eS) t.2.1 i).2.1) then h () else rec (Z9J (b+1)) else none else none else none else none else j ()
def j6h (b:List qV)(d:qL)(f:Int)(t:qB×qE×qL):Int->(Int->Res)->((Unit->Res)×(Unit->Res))->Res:=λv rec q=>j3E b d f t v (λg=>rec (g)) q.1 q.2
def jfp (b:List qV)(d:qL)(f:Int)(t:qB×qE×qL)(n:Nat)(g:Int)(h:Unit->Res)(i:Unit->Res):Res:=Z1e (j6h b d f t) n (g) (h,i)
def jeL:Z1c Unit:=NdL 49 49 [.R 1 y2 .S,.t 2 (pB 2),.R 19 y8 .S,.I 20,.I 21] [(2,y22,[.S,.S])] (λb d=>(b.2.2.2.1)) (λb v=>(b.1,b.2.1,b.2.2.1,v,())) (λd v=>((d.1.1,d.1.2),())) (λb d=>j6h b.1 b.2.1 b.2.2.1 d.1.2) λb d f=>((λ_=>f (.exit 0) [] []),(λ_=>f .ret [(4,vB false)] []))
theorem jqK:CN 0 58 Tryz.f238 jeL:=lK jlv [] oN ([],[]) [(0,[],[])] ([4],[]) λ_ _ _ _ _=>by delta j6h j3E ja1 j0T;refine gz j1p λ_ b=>gz j0n λ_ d=> ?_;rewrite[<-b,<-d];kernel_rfl
def j6g (t:qB×qE×qL)(b:List qV)(d:Bool->Res):Res:=j0R t λr=>bif !r then d false else bif ((nI b.length) != (nI t.2.2.length)) then d false else jfp b t.2.2 (nI t.2.2.length) t Z1b 0 (λ_=>d true) (λ_=>d false)
def jd3:Sig Unit:=sg [.look y22 true,.look y2 false] [false] [(y22,none),(y2,none)] [] λb f k=>j6g b.1 b.2.1 (λd=>k [wB d] [] [])
theorem jlD:SO 238 jd3:=fK (np:=0) jlv [jeL] (oI 58 0 @jqK oN) false Tryz.func238 λ_ _ _ _=>by delta j6g j4R jeL jfp;refine gz j0R λ_ b=>gz j6h λ_ d=> ?_;rewrite[<-b,<-d];kernel_rfl
theorem jkI:FS [(110,j2J),(158,j7I),(160,j2m),(196,j14),(236,j7H),(237,jbz),(238,jd3),(239,j6y),(240,j5Q)]:=(Za5 j8M (Za5 jgy (Za5 j9L (Za5 j68 (Za5 jgx (Za5 jkR (Za5 jlD (Za5 jf1 (Za5 jdO Zar)))))))))
def j7s (l:List qW)(b:List qV)(now:List qV)(t:qB×qE×qL)(d:Unit->Res)(f:Unit->Res):Res:=j1R now b λg=>bif !g then j1q t l now λh=>bif decide (h>=0) then f () else d () else d ()
def jdw:Z1c Unit:=Nd 61 61 [.R 1 y24 .S,.R 2 y2 .S,.t 4 (pB 4),.t 7 (pB 7),.R 10 y2 .O] [(4,y22,[.S,.S]),(7,y2,[.S])] λb d f=>j7s b.1 b.2.1 b.2.2.1 d.1.2 (λ_=>f .normal [(1,v1 y24 b.1 .S),(2,v1 y2 b.2.1 .S),(4,pB 4),(7,pB 7)] [(4,⟨y22,d.1.1,d.1.2,[.S,.S]⟩),(7,⟨y2,d.2.1.1,d.2.1.2,[.S]⟩)]) (λ_=>f .ret [(8,v1 y24 [] .O),(9,vI 3)] [])
theorem jpk:CN 0 30 Tryz.f200 jdw:=nK jkI [] oN ([1,2,4,7],[4,7]) [] ([8,9],[]) λ_ _ _=>by delta j7s j6y j7H;refine gz j1R λ_ b=>gz j1q λ_ d=> ?_;rewrite[<-b,<-d];kernel_rfl
def j93 (t:qB×qE×qL)(l:List qW)(b:List qV)(r:List qV)(d:qR->Int->Res):Res:=j0W t l λg=>bif !g then d [] 1 else j4z t r λh=>bif !h then d [] 2 else j6g t b λi=>bif !i then d [] 5 else j1q t l b λj=>bif decide (j<0) then d [] 5 else j0O t r λk=>j7s l b k t (λ_=>j1q t l b λf=>j0A l λm=>j0Z m f (Z9J (f+1)) λn=>j39 t n r λp=>d p 0) (λ_=>d [] 3)
def jfw:Sig Unit:=sg [.borrow y22 true,.borrow y24 false,.borrow y2 false,.borrow y2 true] [false,false] [(y22,none),(y24,none),(y2,none),(y2,none)] [] λb g k=>j93 b.1 b.2.1 b.2.2.1 b.2.2.2.1 (λd f=>k [w1 y24 d .O,wI f] [] [])
theorem jrT:SO 200 jfw:=fK (np:=0) jkI [jdw] (oI 30 0 @jpk oN) false Tryz.func200 λ_ _ _ _=>by delta j93 j2J j7I jd3 j7H j2m jdw j14 j5Q jbz;refine gz j0W λ_ b=>gz j4z λ_ d=>gz j6g λ_ f=>gz j1q λ_ g=>gz j0O λ_ h=>gz j7s λ_ i=>gz j0A λ_ j=>gz j0Z λ_ k=>gz j39 λ_ l=> ?_;rewrite[<-b,<-d,<-f,<-g,<-h,<-i,<-j,<-k,<-l];kernel_rfl
def j91 (t:qB×qE×qL)(l:List qW)(b:List qV)(d:qR->Int->Res):Res:=j0W t l λr=>bif !r then d [] 1 else j6g t b λg=>bif !g then d [] 5 else j1q t l b λh=>bif decide (h<0) then d [] 5 else j1q t l b λf=>j0A l λi=>j0Z i f (Z9J (f+1)) λj=>d j 0
def jfu:Sig Unit:=sg [.borrow y22 true,.borrow y24 false,.borrow y2 false] [false,false] [(y22,none),(y24,none),(y2,none)] [] λb g k=>j91 b.1 b.2.1 b.2.2.1 (λd f=>k [w1 y24 d .O,wI f] [] [])
theorem jrR:SO 201 jfu:=fK (np:=0) (Za5 j8M (Za5 j68 (Za5 jgx (Za5 jlD (Za5 jdO Zar))))) [] oN false Tryz.func201 λ_ _ _ _=>by delta j91 j2J jd3 j7H j14 j5Q;refine gz j0W λ_ b=>gz j6g λ_ d=>gz j1q λ_ f=>gz j0A λ_ g=>gz j0Z λ_ h=> ?_;rewrite[<-b,<-d,<-f,<-g,<-h];kernel_rfl
end
end Go.PI.G
