/-
  Program's code interpreted over typed values; printed texts; plain laws. No conditions.
-/
import Derived.Test.YtiaipepkkjlccaaGreatWOd
import Derived.Test.YtiaipepkkjlccaaGreatWOe
set_option linter.unusedVariables false
set_option maxRecDepth 100000
namespace Go.PI.G
noncomputable section
open Go Go.PI Go.Proofs
open Go.Code (pl pr)
def j0v (r:List qV)(b:qW->Res):Res:=bif lim (0+r.length) then b r else none
def j6s:Sig Unit:=sg [.borrow y2 true] [true] [(y2,none)] [] λd f k=>j0v d.1 (λb=>k [⟨y2,true,b,[.O]⟩] [] [])
theorem j4f:SO 170 j6s:=fK (np:=0) Zar [] oN false Tryz.func170 λ_ _ _ _=>by kernel_rfl
def j3V (c:qB×Int×Bool×Bool×Int×Int×qB)(d:Int×Int×qB)(b:Bool->Res):Res:=bif (d.1==0) then j1a d λr=>bif r then b (!c.2.2.1) else b false else j1a d λf=>bif f then b (d.1==c.2.1) else b false
def j7V:Sig Unit:=sg [.look y6 true,.look y1 true] [false] [(y6,none),(y1,none)] [] λb f k=>j3V b.1 b.2.1 (λd=>k [wB d] [] [])
theorem jfA:SO 191 j7V:=fK (np:=0) (Za5 j76 Zar) [] oN false Tryz.func191 λ_ _ _ _=>by delta j3V jaj;refine gz j1a λ_ b=> ?_;rewrite[<-b];kernel_rfl
theorem jhF:FS [(144,j0X),(191,j7V)]:=(Za5 j3c (Za5 jfA Zar))
def j4L (d:List qC)(f:Int)(r:List qV)(b:Int)(rec:Int->Res)(g:Unit->Res)(h:Unit->Res):Res:=bif decide (b<f) then bif inb b d.length then bif inb b r.length then j3V (nth (eS,0,false,false,0,0,eS) d b) (nth (0,0,eS) r b) λi=>bif !i then h () else rec (Z9J (b+1)) else none else none else g ()
def j6X (b:List qC)(d:Int)(r:List qV):Int->(Int->Res)->((Unit->Res)×(Unit->Res))->Res:=λv rec q=>j4L b d r v (λf=>rec (f)) q.1 q.2
def jck (b:List qC)(d:Int)(r:List qV)(n:Nat)(f:Int)(g:Unit->Res)(h:Unit->Res):Res:=Z1e (j6X b d r) n (f) (g,h)
def jbu:Z1c Unit:=NdL 36 36 [.t 3 (pB 3),.R 20 y7 .S,.I 21,.I 22] [(3,y2,[.S])] (λb d=>(b.2.2.1)) (λb v=>(b.1,b.2.1,v,())) (λd v=>((d.1.1,d.1.2),())) (λb d=>j6X b.1 b.2.1 d.1.2) λb d f=>((λ_=>f (.exit 0) [] []),(λ_=>f .ret [(4,vB false)] []))
theorem jmm:CN 0 58 Tryz.f145 jbu:=lK jhF [] oN ([],[]) [(0,[],[])] ([4],[]) λ_ _ _ _ _=>by kernel_rfl
def j23 (t:qB×qE×qL)(r:List qV)(b:Bool->Res):Res:=j0q t λd=>bif !d then b false else bif ((nI r.length) != (nI t.2.1.length)) then b false else jck t.2.1 (nI t.2.1.length) r Z1b 0 (λ_=>b true) (λ_=>b false)
def j7p:Sig Unit:=sg [.look y22 true,.look y2 true] [false] [(y22,none),(y2,none)] [] λb f k=>j23 b.1 b.2.1 (λd=>k [wB d] [] [])
theorem jdc:SO 145 j7p:=fK (np:=0) jhF [jbu] (oI 58 0 @jmm oN) false Tryz.func145 λ_ _ _ _=>by delta j23 j0X jbu jck;refine gz j0q λ_ b=>gz j6X λ_ d=> ?_;rewrite[<-b,<-d];kernel_rfl
def j3W (f:qL)(g:Int)(t:qB×qE×qL)(r:List qV)(d:List qV)(b:Int)(rec:qW->Int->Res)(i:qW->Res):Res:=bif decide (b<g) then bif inb b f.length then j0E t (nth eS f b) λh=>bif inb h r.length then bif lim (d.length+1) then rec (d++[nth (0,0,eS) r h]) (Z9J (b+1)) else none else none else none else i d
def j9k (d:qL)(f:Int)(t:qB×qE×qL)(r:List qV):(qW×Int)->(qW×Int->Res)->((qW->Res))->Res:=λv rec q=>j3W d f t r v.1 v.2 (λb g=>rec (b,g)) q
def jg4 (d:qL)(f:Int)(t:qB×qE×qL)(r:List qV)(n:Nat)(b:List qV)(g:Int)(h:qW->Res):Res:=Z1e (j9k d f t r) n (b,g) (h)
def jeS:Z1c Unit:=NdL 28 28 [.t 2 (pB 2),.t 3 (pB 3),.R 5 y2 .O,.R 10 y8 .S,.I 11,.I 12] [(2,y22,[.S,.S]),(3,y2,[.S])] (λb d=>(b.1,b.2.2.2.1)) (λb v=>(v.1,b.2.1,b.2.2.1,v.2,())) (λd v=>((d.1.1,d.1.2),(d.2.1.1,d.2.1.2),())) (λb d=>j9k b.2.1 b.2.2.1 d.1.2 d.2.1.2) λb d g=>((λf=>g (.exit 0) [(5,v1 y2 f .O)] []))
theorem jlb:CN 0 58 Tryz.f147 jeS:=lK (Za5 j5g Zar) [] oN ([],[]) [(0,[5],[])] ([],[]) λ_ _ _ _ _=>by kernel_rfl
def j0u (t:qB×qE×qL)(r:List qV)(d:qW->Res):Res:=jg4 t.2.2 (nI t.2.2.length) t r Z1b [] 0 λb=>d b
def j19:Sig Unit:=sg [.borrow y22 true,.borrow y2 true] [false] [(y22,none),(y2,none)] [] λb f k=>j0u b.1 b.2.1 (λd=>k [w1 y2 d .O] [] [])
theorem j6n:SO 147 j19:=fK (np:=0) (Za5 j5g Zar) [jeS] (oI 58 0 @jlb oN) false Tryz.func147 λ_ _ _ _=>by kernel_rfl
def j2Q (a:List qV)(b:List qV)(i:Int)(rec:Int->Res)(d:Unit->Res)(f:Bool->Res):Res:=bif decide (i<(nI a.length)) then bif decide (i<(nI b.length)) then bif inb i a.length then bif inb i b.length then bif !(((nth (0,0,eS) a i).1==(nth (0,0,eS) b i).1)&&(((nth (0,0,eS) a i).2.1==(nth (0,0,eS) b i).2.1)&&(sEq (nth (0,0,eS) a i).2.2 (nth (0,0,eS) b i).2.2))) then bif inb i a.length then bif inb i b.length then j7u (nth (0,0,eS) a i) (nth (0,0,eS) b i) λr=>f r else none else none else rec (Z9J (i+1)) else none else none else d () else d ()
def j8h (a:List qV)(b:List qV):Int->(Int->Res)->((Unit->Res)×(Bool->Res))->Res:=λv rec q=>j2Q a b v (λi=>rec (i)) q.1 q.2
def jeu (a:List qV)(b:List qV)(n:Nat)(i:Int)(d:Unit->Res)(f:Bool->Res):Res:=Z1e (j8h a b) n (i) (d,f)
def jdU:Z1c Unit:=NdL 41 41 [.R 0 y2 .S,.R 1 y2 .S,.I 5] [] (λb d=>(b.2.2.1)) (λb v=>(b.1,b.2.1,v,())) (λd v=>()) (λb d=>j8h b.1 b.2.1) λb d f=>((λ_=>f (.exit 0) [(0,v1 y2 b.1 .S),(1,v1 y2 b.2.1 .S)] []),(λg=>f .ret [(4,vB g)] []))
theorem jjW:CN 0 26 Tryz.f146 jdU:=lK (Za5 jfx Zar) [] oN ([],[]) [(0,[0,1],[])] ([4],[]) λ_ _ _ _ _=>by kernel_rfl
def j3P (a:List qV)(b:List qV)(d:Bool->Res):Res:=jeu a b Z1b 0 (λ_=>d (decide ((nI a.length)<(nI b.length)))) (λt=>d t)
def j5E:Sig Unit:=sg [.look y2 false,.look y2 false] [false] [(y2,none),(y2,none)] [] λb f k=>j3P b.1 b.2.1 (λd=>k [wB d] [] [])
theorem jfw:SO 146 j5E:=fK (np:=0) (Za5 jfx Zar) [jdU] (oI 26 0 @jjW oN) false Tryz.func146 λ_ _ _ _=>by kernel_rfl
theorem jgM:FS [(144,j0X),(145,j7p),(146,j5E),(147,j19)]:=(Za5 j3c (Za5 jdc (Za5 jfw (Za5 j6n Zar))))
def j1W (l:List qW)(d:List qW)(f:Int)(t:qB×qE×qL)(b:Int)(rec:Int->Res)(h:Unit->Res)(g:Unit->Res):Res:=bif decide (b<f) then bif inb b d.length then j23 t (nth [] d b) λr=>bif !r then g () else bif decide (b>0) then bif inb (Z9J (b-1)) l.length then j0u t (nth [] l (Z9J (b-1))) λi=>j0u t (nth [] d b) λj=>j3P i j λk=>bif !k then g () else rec (Z9J (b+1)) else none else rec (Z9J (b+1)) else none else h ()
def j3Q (l:List qW)(b:List qW)(d:Int)(t:qB×qE×qL):Int->(Int->Res)->((Unit->Res)×(Unit->Res))->Res:=λv rec q=>j1W l b d t v (λf=>rec (f)) q.1 q.2
def jbj (l:List qW)(b:List qW)(d:Int)(t:qB×qE×qL)(n:Nat)(f:Int)(g:Unit->Res)(h:Unit->Res):Res:=Z1e (j3Q l b d t) n (f) (g,h)
def jaJ:Z1c Unit:=NdL 45 45 [.R 1 y24 .S,.t 2 (pB 2),.R 15 y24 .S,.I 16,.I 17] [(2,y22,[.S,.S])] (λb d=>(b.2.2.2.1)) (λb v=>(b.1,b.2.1,b.2.2.1,v,())) (λd v=>((d.1.1,d.1.2),())) (λb d=>j3Q b.1 b.2.1 b.2.2.1 d.1.2) λb d f=>((λ_=>f (.exit 0) [] []),(λ_=>f .ret [(4,vB false)] []))
theorem jl5:CN 0 58 Tryz.f99 jaJ:=lK jgM [] oN ([],[]) [(0,[],[])] ([4],[]) λ_ _ _ _ _=>by delta j3Q j1W j7p j19 j5E;refine gz j23 λ_ b=>gz j0u λ_ d=>gz j3P λ_ f=> ?_;rewrite[<-b,<-d,<-f];kernel_rfl
def j0s (t:qB×qE×qL)(l:List qW)(b:Bool->Res):Res:=j0q t λr=>bif !r then b false else bif decide ((nI l.length)>60) then b false else jbj l l (nI l.length) t Z1b 0 (λ_=>b true) (λ_=>b false)
def j18:Sig Unit:=sg [.look y22 true,.look y24 false] [false] [(y22,none),(y24,none)] [] λb f k=>j0s b.1 b.2.1 (λd=>k [wB d] [] [])
theorem j4d:SO 99 j18:=fK (np:=0) jgM [jaJ] (oI 58 0 @jl5 oN) false Tryz.func99 λ_ _ _ _=>by delta j0s j0X jaJ jbj;refine gz j0q λ_ b=>gz j3Q λ_ d=> ?_;rewrite[<-b,<-d];kernel_rfl
def j2X (f:List qW)(h:Int)(b:List qW)(d:Int)(rec:qR->Int->Res)(g:qR->Res):Res:=bif decide (d<h) then bif inb d f.length then j0v (nth [] f d) λr=>bif lim (b.length+1) then rec (b++[r]) (Z9J (d+1)) else none else none else g b
def j8k (d:List qW)(f:Int):(qR×Int)->(qR×Int->Res)->((qR->Res))->Res:=λv rec q=>j2X d f v.1 v.2 (λb g=>rec (b,g)) q
def jex (f:List qW)(g:Int)(n:Nat)(b:List qW)(h:Int)(d:qR->Res):Res:=Z1e (j8k f g) n (b,h) (d)
def jdX:Z1c Unit:=NdL 20 20 [.R 3 y24 .O,.R 7 y24 .S,.I 8,.I 9] [] (λb f=>(b.1,b.2.2.2.1)) (λb v=>(v.1,b.2.1,b.2.2.1,v.2,())) (λf v=>()) (λb f=>j8k b.2.1 b.2.2.1) λb f g=>((λd=>g (.exit 0) [(3,v1 y24 d .O)] []))
theorem jk6:CN 0 58 Tryz.f185 jdX:=lK (Za5 j4f Zar) [] oN ([],[]) [(0,[3],[])] ([],[]) λ_ _ _ _ _=>by kernel_rfl
def j5R (l:List qW)(d:qR->Res):Res:=jex l (nI l.length) Z1b [] 0 λb=>d b
def j7U:Sig Unit:=sg [.borrow y24 false] [false] [(y24,none)] [] λd f k=>j5R d.1 (λb=>k [w1 y24 b .O] [] [])
theorem jfz:SO 185 j7U:=fK (np:=0) (Za5 j4f Zar) [jdX] (oI 58 0 @jk6 oN) false Tryz.func185 λ_ _ _ _=>by kernel_rfl
def j1o (a:List qV)(b:List qV)(f:Int)(d:Int)(rec:Int->Res)(g:Unit->Res)(h:Unit->Res):Res:=bif decide (d<f) then bif inb d a.length then bif inb d b.length then bif !(((nth (0,0,eS) a d).1==(nth (0,0,eS) b d).1)&&(((nth (0,0,eS) a d).2.1==(nth (0,0,eS) b d).2.1)&&(sEq (nth (0,0,eS) a d).2.2 (nth (0,0,eS) b d).2.2))) then h () else rec (Z9J (d+1)) else none else none else g ()
def j5T (a:List qV)(b:List qV)(d:Int):Int->(Int->Res)->((Unit->Res)×(Unit->Res))->Res:=λv rec q=>j1o a b d v (λf=>rec (f)) q.1 q.2
def jaU (a:List qV)(b:List qV)(d:Int)(n:Nat)(f:Int)(g:Unit->Res)(h:Unit->Res):Res:=Z1e (j5T a b d) n (f) (g,h)
def jaN:Z1c Unit:=NdL 26 26 [.R 0 y2 .S,.R 1 y2 .S,.I 12,.I 13] [] (λb d=>(b.2.2.2.1)) (λb v=>(b.1,b.2.1,b.2.2.1,v,())) (λd v=>()) (λb d=>j5T b.1 b.2.1 b.2.2.1) λb d f=>((λ_=>f (.exit 0) [] []),(λ_=>f .ret [(4,vB false)] []))
theorem jgw:CN 0 58 Tryz.f263 jaN:=lK Zar [] oN ([],[]) [(0,[],[])] ([4],[]) λ_ _ _ _ _=>by kernel_rfl
def j3Y (a:List qV)(b:List qV)(d:Bool->Res):Res:=bif ((nI a.length) != (nI b.length)) then d false else jaU a b (nI a.length) Z1b 0 (λ_=>d true) (λ_=>d false)
def j7q:Sig Unit:=sg [.look y2 false,.look y2 false] [false] [(y2,none),(y2,none)] [] λb f k=>j3Y b.1 b.2.1 (λd=>k [wB d] [] [])
theorem jhU:SO 263 j7q:=fK (np:=0) Zar [jaN] (oI 58 0 @jgw oN) false Tryz.func263 λ_ _ _ _=>by kernel_rfl
theorem jhE:FS [(99,j18),(147,j19),(263,j7q)]:=(Za5 j4d (Za5 j6n (Za5 jhU Zar)))
def j2q (f:List qV)(d:List qW)(g:Int)(t:qB×qE×qL)(b:Int)(rec:Int->Res)(h:Unit->Res)(i:Int->Res):Res:=bif decide (b<g) then bif inb b d.length then j0u t (nth [] d b) λr=>j3Y r f λj=>bif j then i b else rec (Z9J (b+1)) else none else h ()
def j4K (b:List qV)(d:List qW)(f:Int)(t:qB×qE×qL):Int->(Int->Res)->((Unit->Res)×(Int->Res))->Res:=λv rec q=>j2q b d f t v (λg=>rec (g)) q.1 q.2
def jcj (b:List qV)(d:List qW)(f:Int)(t:qB×qE×qL)(n:Nat)(g:Int)(h:Unit->Res)(i:Int->Res):Res:=Z1e (j4K b d f t) n (g) (h,i)
def jbt:Z1c Unit:=NdL 27 27 [.R 2 y2 .S,.t 3 (pB 3),.R 13 y24 .S,.I 14,.I 15] [(3,y22,[.S,.S])] (λb d=>(b.2.2.2.1)) (λb v=>(b.1,b.2.1,b.2.2.1,v,())) (λd v=>((d.1.1,d.1.2),())) (λb d=>j4K b.1 b.2.1 b.2.2.1 d.1.2) λb d f=>((λ_=>f (.exit 0) [] []),(λg=>f .ret [(6,vI g)] []))
theorem jml:CN 0 58 Tryz.f248 jbt:=lK jhE [] oN ([],[]) [(0,[],[])] ([6],[]) λ_ _ _ _ _=>by delta j4K j2q j19 j7q;refine gz j0u λ_ b=>gz j3Y λ_ d=> ?_;rewrite[<-b,<-d];kernel_rfl
def j1v (t:qB×qE×qL)(l:List qW)(d:List qV)(b:Int->Res):Res:=j0s t l λr=>bif !r then b (-1) else jcj d l (nI l.length) t Z1b 0 (λ_=>b (-1)) (λf=>b f)
def jai:Sig Unit:=sg [.look y22 true,.look y24 false,.look y2 false] [false] [(y22,none),(y24,none),(y2,none)] [] λb f k=>j1v b.1 b.2.1 b.2.2.1 (λd=>k [wI d] [] [])
theorem jdb:SO 248 jai:=fK (np:=0) jhE [jbt] (oI 58 0 @jml oN) false Tryz.func248 λ_ _ _ _=>by delta j1v j18 jbt jcj;refine gz j0s λ_ b=>gz j4K λ_ d=> ?_;rewrite[<-b,<-d];kernel_rfl
theorem jc0:FS [(146,j5E),(147,j19),(170,j6s)]:=(Za5 jfw (Za5 j6n (Za5 j4f Zar)))
def j5S (b:List qW)(done:Bool)(t:qB×qE×qL)(r:List qV)(x:List qV)(d:qR->Bool->Res):Res:=bif !done then j0u t r λf=>j0u t x λg=>j3P f g λh=>bif h then j0v r λi=>bif lim (b.length+1) then d (b++[i]) true else none else d b done else d b done
def j73:Z1c Unit:=Nd 48 48 [.t 3 (pB 3),.t 5 (pB 5),.R 7 y24 .O,.B 8,.t 10 (pB 10),.R 12 y24 .S,.I 13,.I 14] [(3,y22,[.S,.S]),(5,y2,[.S]),(10,y2,[.S])] λg b h=>j5S g.1 g.2.1 b.1.2 b.2.1.2 b.2.2.1.2 (λf d=>h .normal [(3,pB 3),(5,pB 5),(7,v1 y24 f .O),(8,vB d),(10,pB 10),(12,v1 y24 g.2.2.1 .S),(13,vI g.2.2.2.1),(14,vI g.2.2.2.2.1)] [(3,⟨y22,b.1.1,b.1.2,[.S,.S]⟩),(5,⟨y2,b.2.1.1,b.2.1.2,[.S]⟩),(10,⟨y2,b.2.2.1.1,b.2.2.1.2,[.S]⟩)])
theorem jld:CN 0 15666 Tryz.f249 j73:=nK jc0 [] oN ([3,5,7,8,10,12,13,14],[3,5,10]) [] ([],[]) λ_ _ _=>by delta j5S j19 j5E j6s;refine gz j0u λ_ b=>gz j3P λ_ d=>gz j0v λ_ f=> ?_;rewrite[<-b,<-d,<-f];kernel_rfl
def j1X (g:List qW)(i:Int)(t:qB×qE×qL)(r:List qV)(h:List qW)(done:Bool)(b:Int)(rec:qR->Bool->Int->Res)(j:qR->Bool->Res):Res:=bif decide (b<i) then bif inb b g.length then j5S h done t r (nth [] g b) λd f=>j0v (nth [] g b) λk=>bif lim (d.length+1) then rec (d++[k]) f (Z9J (b+1)) else none else none else j h done
def j3X (d:List qW)(f:Int)(t:qB×qE×qL)(r:List qV):(qR×Bool×Int)->(qR×Bool×Int->Res)->((qR->Bool->Res))->Res:=λv rec q=>j1X d f t r v.1 v.2.1 v.2.2 (λb done g=>rec (b,done,g)) q
def jbn (d:List qW)(f:Int)(t:qB×qE×qL)(r:List qV)(n:Nat)(b:List qW)(done:Bool)(g:Int)(h:qR->Bool->Res):Res:=Z1e (j3X d f t r) n (b,done,g) (h)
def jaM:Z1c Unit:=NdL 48 48 [.t 3 (pB 3),.t 5 (pB 5),.R 7 y24 .O,.B 8,.R 12 y24 .S,.I 13,.I 14] [(3,y22,[.S,.S]),(5,y2,[.S])] (λd b=>(d.1,d.2.1,d.2.2.2.2.1)) (λd v=>(v.1,v.2.1,d.2.2.1,d.2.2.2.1,v.2.2,())) (λb v=>((b.1.1,b.1.2),(b.2.1.1,b.2.1.2),())) (λd b=>j3X d.2.2.1 d.2.2.2.1 b.1.2 b.2.1.2) λd b h=>((λg f=>h (.exit 0) [(5,pB 5),(7,v1 y24 g .O),(8,vB f)] [(5,⟨y2,b.2.1.1,b.2.1.2,[.S]⟩)]))
theorem jlc:CN 0 122 Tryz.f249 jaM:=lK jc0 [j73] (oI 114 0 @jld oN) ([],[]) [(0,[5,7,8],[5])] ([],[]) λ_ _ _ _ _=>by delta j3X j1X j73 j6s;refine gz j5S λ_ b=>gz j0v λ_ d=> ?_;rewrite[<-b,<-d];kernel_rfl
def j3b (t:qB×qE×qL)(l:List qW)(r:List qV)(d:qR->Res):Res:=jbn l (nI l.length) t r Z1b [] false 0 λb done=>bif !done then j0v r λf=>bif lim (b.length+1) then d (b++[f]) else none else d b
def jcf:Sig Unit:=sg [.borrow y22 true,.borrow y24 false,.borrow y2 true] [false] [(y22,none),(y24,none),(y2,none)] [] λb f k=>j3b b.1 b.2.1 b.2.2.1 (λd=>k [w1 y24 d .O] [] [])
theorem jh6:SO 249 jcf:=fK (np:=0) jc0 [j73,jaM] (oI 122 1 @jlc oN) false Tryz.func249 λ_ _ _ _=>by delta j3b jaM j6s jbn;refine gz j3X λ_ b=>gz j0v λ_ d=> ?_;rewrite[<-b,<-d];kernel_rfl
def j6F (t:qB×qE×qL)(l:List qW)(r:List qV)(b:qR->Int->Res):Res:=j0s t l λd=>bif !d then b [] 1 else j23 t r λf=>bif !f then b [] 2 else j0u t r λg=>j1v t l g λh=>bif decide (h>=0) then b [] 3 else bif ((nI l.length)==60) then b [] 4 else j3b t l r λi=>b i 0
def jhn:Sig Unit:=sg [.borrow y22 true,.borrow y24 false,.borrow y2 true] [false,false] [(y22,none),(y24,none),(y2,none)] [] λb g k=>j6F b.1 b.2.1 b.2.2.1 (λd f=>k [w1 y24 d .O,wI f] [] [])
theorem jnv:SO 225 jhn:=fK (np:=0) (Za5 j4d (Za5 jdc (Za5 j6n (Za5 jdb (Za5 jh6 Zar))))) [] oN false Tryz.func225 λ_ _ _ _=>by delta j6F j18 j7p j19 jai jcf;refine gz j0s λ_ b=>gz j23 λ_ d=>gz j0u λ_ f=>gz j1v λ_ g=>gz j3b λ_ h=> ?_;rewrite[<-b,<-d,<-f,<-g,<-h];kernel_rfl
theorem jhC:FS [(144,j0X),(190,j2d),(191,j7V)]:=(Za5 j3c (Za5 j5g (Za5 jfA Zar)))
def j2p (d:List qV)(f:qL)(g:Int)(t:qB×qE×qL)(b:Int)(rec:Int->Res)(h:Unit->Res)(i:Unit->Res):Res:=bif decide (b<g) then bif inb b f.length then bif inb b d.length then j0E t (nth eS f b) λr=>bif inb r t.2.1.length then j3V (nth (eS,0,false,false,0,0,eS) t.2.1 r) (nth (0,0,eS) d b) λj=>bif !j then i () else rec (Z9J (b+1)) else none else none else none else h ()
def j4I (b:List qV)(d:qL)(f:Int)(t:qB×qE×qL):Int->(Int->Res)->((Unit->Res)×(Unit->Res))->Res:=λv rec q=>j2p b d f t v (λg=>rec (g)) q.1 q.2
def jci (b:List qV)(d:qL)(f:Int)(t:qB×qE×qL)(n:Nat)(g:Int)(h:Unit->Res)(i:Unit->Res):Res:=Z1e (j4I b d f t) n (g) (h,i)
def jbr:Z1c Unit:=NdL 40 40 [.R 1 y2 .S,.t 2 (pB 2),.R 19 y8 .S,.I 20,.I 21] [(2,y22,[.S,.S])] (λb d=>(b.2.2.2.1)) (λb v=>(b.1,b.2.1,b.2.2.1,v,())) (λd v=>((d.1.1,d.1.2),())) (λb d=>j4I b.1 b.2.1 b.2.2.1 d.1.2) λb d f=>((λ_=>f (.exit 0) [] []),(λ_=>f .ret [(4,vB false)] []))
theorem jmi:CN 0 58 Tryz.f250 jbr:=lK jhC [] oN ([],[]) [(0,[],[])] ([4],[]) λ_ _ _ _ _=>by delta j4I j2p j2d j7V;refine gz j0E λ_ b=>gz j3V λ_ d=> ?_;rewrite[<-b,<-d];kernel_rfl
def j4H (t:qB×qE×qL)(b:List qV)(d:Bool->Res):Res:=j0q t λr=>bif !r then d false else bif ((nI b.length) != (nI t.2.2.length)) then d false else jci b t.2.2 (nI t.2.2.length) t Z1b 0 (λ_=>d true) (λ_=>d false)
def jdB:Sig Unit:=sg [.look y22 true,.look y2 false] [false] [(y22,none),(y2,none)] [] λb f k=>j4H b.1 b.2.1 (λd=>k [wB d] [] [])
theorem jhT:SO 250 jdB:=fK (np:=0) jhC [jbr] (oI 58 0 @jmi oN) false Tryz.func250 λ_ _ _ _=>by delta j4H j0X jbr jci;refine gz j0q λ_ b=>gz j4I λ_ d=> ?_;rewrite[<-b,<-d];kernel_rfl
def j1x (f:Int)(h:List qW)(g:Int)(d:List qW)(b:Int)(rec:qR->Int->Res)(i:qR->Res):Res:=bif decide (b<g) then bif inb b h.length then bif (b != f) then j0v (nth [] h b) λr=>bif lim (d.length+1) then rec (d++[r]) (Z9J (b+1)) else none else rec d (Z9J (b+1)) else none else i d
def j6c (b:Int)(h:List qW)(f:Int):(qR×Int)->(qR×Int->Res)->((qR->Res))->Res:=λv rec q=>j1x b h f v.1 v.2 (λd g=>rec (d,g)) q
def jbW (b:Int)(i:List qW)(f:Int)(n:Nat)(d:List qW)(g:Int)(h:qR->Res):Res:=Z1e (j6c b i f) n (d,g) (h)
def jaV:Z1c Unit:=NdL 26 26 [.I 1,.R 5 y24 .O,.R 9 y24 .S,.I 10,.I 11] [] (λb f=>(b.2.1,b.2.2.2.2.1)) (λb v=>(b.1,v.1,b.2.2.1,b.2.2.2.1,v.2,())) (λf v=>()) (λb f=>j6c b.1 b.2.2.1 b.2.2.2.1) λb f g=>((λd=>g (.exit 0) [(5,v1 y24 d .O)] []))
theorem jhy:CN 0 58 Tryz.f251 jaV:=lK (Za5 j4f Zar) [] oN ([],[]) [(0,[5],[])] ([],[]) λ_ _ _ _ _=>by kernel_rfl
def j1w (l:List qW)(b:Int)(f:qR->Res):Res:=jbW b l (nI l.length) Z1b [] 0 λd=>f d
def j8f:Sig Unit:=sg [.borrow y24 false,.borrow tI false] [false] [(y24,none),(tI,none)] [] λb f k=>j1w b.1 b.2.1 (λd=>k [w1 y24 d .O] [] [])
theorem jct:SO 251 j8f:=fK (np:=0) (Za5 j4f Zar) [jaV] (oI 58 0 @jhy oN) false Tryz.func251 λ_ _ _ _=>by kernel_rfl
def j6G (t:qB×qE×qL)(l:List qW)(d:List qV)(r:List qV)(b:qR->Int->Res):Res:=j0s t l λh=>bif !h then b [] 1 else j23 t r λi=>bif !i then b [] 2 else j1v t l d λf=>j4H t d λj=>bif !j then b [] 5 else bif decide (f<0) then b [] 5 else j1w l f λg=>j0u t r λk=>j1v t g k λm=>bif decide (m>=0) then b [] 3 else j3b t g r λn=>b n 0
def jho:Sig Unit:=sg [.borrow y22 true,.borrow y24 false,.borrow y2 false,.borrow y2 true] [false,false] [(y22,none),(y24,none),(y2,none),(y2,none)] [] λb g k=>j6G b.1 b.2.1 b.2.2.1 b.2.2.2.1 (λd f=>k [w1 y24 d .O,wI f] [] [])
theorem jnw:SO 226 jho:=fK (np:=0) (Za5 j4d (Za5 jdc (Za5 j6n (Za5 jdb (Za5 jh6 (Za5 jhT (Za5 jct Zar))))))) [] oN false Tryz.func226 λ_ _ _ _=>by delta j6G j18 j7p jai jdB j8f j19 jcf;refine gz j0s λ_ b=>gz j23 λ_ d=>gz j1v λ_ f=>gz j4H λ_ g=>gz j1w λ_ h=>gz j0u λ_ i=>gz j3b λ_ j=> ?_;rewrite[<-b,<-d,<-f,<-g,<-h,<-i,<-j];kernel_rfl
def j6E (t:qB×qE×qL)(l:List qW)(b:List qV)(d:qR->Int->Res):Res:=j0s t l λr=>bif !r then d [] 1 else j1v t l b λf=>j4H t b λg=>bif !g then d [] 5 else bif decide (f<0) then d [] 5 else j1w l f λh=>d h 0
def jhm:Sig Unit:=sg [.borrow y22 true,.borrow y24 false,.borrow y2 false] [false,false] [(y22,none),(y24,none),(y2,none)] [] λb g k=>j6E b.1 b.2.1 b.2.2.1 (λd f=>k [w1 y24 d .O,wI f] [] [])
theorem jnu:SO 227 jhm:=fK (np:=0) (Za5 j4d (Za5 jdb (Za5 jhT (Za5 jct Zar)))) [] oN false Tryz.func227 λ_ _ _ _=>by delta j6E j18 jai jdB j8f;refine gz j0s λ_ b=>gz j1v λ_ d=>gz j4H λ_ f=>gz j1w λ_ g=> ?_;rewrite[<-b,<-d,<-f,<-g];kernel_rfl
theorem j5e:FS [(99,j18),(169,j3M),(190,j2d),(224,j4B)]:=(Za5 j4d (Za5 jda (Za5 j5g (Za5 je7 Zar))))
def j4M (l:List qW)(t:qB×qE×qL)(d:qG)(b:Bool->Res):Res:=j0s t l λr=>bif !r then b true else j22 d λf=>bif !f then b true else bif sNe d.2.1 t.1 then b true else b (d.1==1)
def j1Z:Z1c Unit:=Nd 106 106 [.R 1 y24 .S,.t 3 (pB 3),.t 5 (pB 5)] [(3,y22,[.S,.S]),(5,y13,[.S,.S])] λf b g=>j4M f.1 b.1.2 b.2.1.2 (λd=>g .normal [(1,v1 y24 f.1 .S),(3,pB 3),(5,pB 5),(37,vB d)] [(3,⟨y22,b.1.1,b.1.2,[.S,.S]⟩),(5,⟨y13,b.2.1.1,b.2.1.2,[.S,.S]⟩)])
theorem jjZ:CN 0 12 Tryz.f228 j1Z:=nK j5e [] oN ([1,3,5,37],[3,5]) [] ([],[]) λ_ _ _=>by delta j4M j18 j3M;refine gz j0s λ_ b=>gz j22 λ_ d=> ?_;rewrite[<-b,<-d];kernel_rfl
def j0A (g:Int)(f:List qV)(h:Int)(d:qG)(b:Int)(x:List qV)(rec:Int->qW->Res)(i:qW->Res):Res:=bif decide (b<h) then bif inb b f.length then bif (d.1 != 4) then bif lim (x.length+1) then rec (Z9J (b+1)) (x++[nth (0,0,eS) f b]) else none else bif (b != g) then bif lim (x.length+1) then rec (Z9J (b+1)) (x++[nth (0,0,eS) f b]) else none else rec (Z9J (b+1)) x else none else i x
def j2R (b:Int)(f:List qV)(g:Int)(d:qG):(Int×qW)->(Int×qW->Res)->((qW->Res))->Res:=λv rec q=>j0A b f g d v.1 v.2 (λh x=>rec (h,x)) q
def j6Y (b:Int)(f:List qV)(g:Int)(d:qG)(n:Nat)(h:Int)(x:List qV)(i:qW->Res):Res:=Z1e (j2R b f g d) n (h,x) (i)
def j43:Z1c Unit:=NdL 106 106 [.t 5 (pB 5),.R 10 y24 .O,.I 11,.t 14 (pB 14),.R 54 y24 .S,.I 55,.I 56,.R 62 y2 .S,.I 63,.I 64] [(5,y13,[.S,.S]),(14,y2,[.O])] (λb d=>(b.2.2.2.2.2.2.2.1,d.2.1.2)) (λb v=>(b.1,b.2.1,b.2.2.1,b.2.2.2.1,b.2.2.2.2.1,b.2.2.2.2.2.1,b.2.2.2.2.2.2.1,v.1,())) (λd v=>((d.1.1,d.1.2),(d.2.1.1,v.2),())) (λb d=>j2R b.2.1 b.2.2.2.2.2.1 b.2.2.2.2.2.2.1 d.1.2) λb d f=>((λg=>f (.exit 2) [(5,pB 5),(10,v1 y24 b.1 .O),(11,vI b.2.1),(14,pB 14),(54,v1 y24 b.2.2.1 .S),(55,vI b.2.2.2.1),(56,vI b.2.2.2.2.1)] [(5,⟨y13,d.1.1,d.1.2,[.S,.S]⟩),(14,⟨y2,d.2.1.1,g,[.O]⟩)]))
theorem jjX:CN 0 1042842 Tryz.f228 j43:=lK j5e [j1Z] oN ([],[]) [(2,[5,10,11,14,54,55,56],[5,14])] ([],[]) λ_ _ _ _ _=>by kernel_rfl
def j6Z (b:Bool)(d:qG)(x:List qV)(f:qW->Res):Res:=bif b then bif inb 0 d.2.2.1.length then bif lim (x.length+1) then f (x++[(nth (eS,0,false,false,0,0,eS) d.2.2.1 0).2.2.2.2]) else none else none else f x
def j6j:Z1c Unit:=Nd 106 106 [.t 5 (pB 5),.R 10 y24 .O,.I 11,.t 14 (pB 14),.R 54 y24 .S,.I 55,.I 56,.B 86] [(5,y13,[.S,.S]),(14,y2,[.O])] λb d f=>j6Z b.2.2.2.2.2.1 d.1.2 d.2.1.2 (λg=>f .normal [(5,pB 5),(10,v1 y24 b.1 .O),(11,vI b.2.1),(14,pB 14),(54,v1 y24 b.2.2.1 .S),(55,vI b.2.2.2.1),(56,vI b.2.2.2.2.1)] [(5,⟨y13,d.1.1,d.1.2,[.S,.S]⟩),(14,⟨y2,d.2.1.1,g,[.O]⟩)])
theorem jk0:CN 0 1042845 Tryz.f228 j6j:=nK j5e [j1Z,j43] oN ([5,10,11,14,54,55,56],[5,14]) [] ([],[]) λ_ _ _=>by kernel_rfl
def j1D (h:Int)(g:List qW)(i:Int)(d:qG)(f:List qW)(b:Int)(rec:qR->Int->Res)(j:qR->Res):Res:=bif decide (b<i) then bif inb b g.length then j6Y h (nth [] g b) (nI (List.length (nth [] g b))) d Z1b 0 [] λx=>j6Z (d.1==3) d x λk=>bif (d.1 != 2) then bif lim (f.length+1) then rec (f++[k]) (Z9J (b+1)) else none else rec f (Z9J (b+1)) else none else j f
def j2S (b:Int)(g:List qW)(h:Int)(d:qG):(qR×Int)->(qR×Int->Res)->((qR->Res))->Res:=λv rec q=>j1D b g h d v.1 v.2 (λf i=>rec (f,i)) q
def jau (b:Int)(g:List qW)(h:Int)(d:qG)(n:Nat)(f:List qW)(i:Int)(j:qR->Res):Res:=Z1e (j2S b g h d) n (f,i) (j)
def j9u:Z1c Unit:=NdL 106 106 [.t 5 (pB 5),.R 10 y24 .O,.I 11,.R 54 y24 .S,.I 55,.I 56] [(5,y13,[.S,.S])] (λb d=>(b.1,b.2.2.2.2.1)) (λb v=>(v.1,b.2.1,b.2.2.1,b.2.2.2.1,v.2,())) (λd v=>((d.1.1,d.1.2),())) (λb d=>j2S b.2.1 b.2.2.1 b.2.2.2.1 d.1.2) λb d g=>((λf=>g (.exit 0) [(10,v1 y24 f .O)] []))
theorem jjY:CN 0 1018 Tryz.f228 j9u:=lK j5e [j1Z,j43,j6j] (oI 922 1 @jjX (oI 925 2 @jk0 oN)) ([],[]) [(0,[10],[])] ([],[]) λ_ _ _ _ _=>by delta j2S j1D j43 j6j j6Y;refine gz j2R λ_ b=>gz j6Z λ_ d=> ?_;rewrite[<-b,<-d];kernel_rfl
def j5M (t:qB×qE×qL)(l:List qW)(d:qG)(b:qR->Int->Res):Res:=j4M l t d λi=>bif i then b [] 1 else j1J [t] d λr g=>bif (g != 0) then b [] g else j0E t d.2.2.2.2.1 λh=>jau h l (nI l.length) d Z1b [] 0 λf=>b f 0
def jfY:Sig Unit:=sg [.borrow y22 true,.borrow y24 false,.borrow y13 true] [false,false] [(y22,none),(y24,none),(y13,none)] [] λb g k=>j5M b.1 b.2.1 b.2.2.1 (λd f=>k [w1 y24 d .O,wI f] [] [])
theorem jlQ:SO 228 jfY:=fK (np:=0) j5e [j1Z,j43,j6j,j9u] (oI 12 0 @jjZ (oI 1018 3 @jjY oN)) false Tryz.func228 λ_ _ _ _=>by delta j5M j1Z j4B j2d j9u jau;refine gz j4M λ_ b=>gz j1J λ_ d=>gz j0E λ_ f=>gz j2S λ_ g=> ?_;rewrite[<-b,<-d,<-f,<-g];kernel_rfl
def j0Q (l:List qV)(b:qW->Res):Res:=bif lim (0+l.length) then b l else none
def j6S:Sig Unit:=sg [.borrow y2 false] [false] [(y2,none)] [] λd f k=>j0Q d.1 (λb=>k [w1 y2 b .O] [] [])
theorem j6L:SO 202 j6S:=fK (np:=0) Zar [] oN false Tryz.func202 λ_ _ _ _=>by kernel_rfl
def jby (c:qB×Int×Bool×Bool×Int×Int×qB)(d:Int×Int×qB)(b:Bool->Res):Res:=j0V d λr=>bif r then bif (d.1==c.2.1) then b true else bif (d.1==0) then b (!c.2.2.1) else b false else b false
def jnV:Sig Unit:=sg [.look y6 true,.look y1 true] [false] [(y6,none),(y1,none)] [] λb f k=>jby b.1 b.2.1 (λd=>k [wB d] [] [])
theorem jgS:SO 206 jnV:=fK (np:=0) (Za5 j74 Zar) [] oN false Tryz.func206 λ_ _ _ _=>by kernel_rfl
def j4y (d:List qV)(f:Int)(t:qB×qE×qL)(b:Int)(rec:Int->Res)(g:Unit->Res)(h:Unit->Res):Res:=bif decide (b<f) then bif inb b d.length then bif inb b t.2.1.length then jby (nth (eS,0,false,false,0,0,eS) t.2.1 b) (nth (0,0,eS) d b) λr=>bif !r then h () else rec (Z9J (b+1)) else none else none else g ()
def j9R (b:List qV)(d:Int)(t:qB×qE×qL):Int->(Int->Res)->((Unit->Res)×(Unit->Res))->Res:=λv rec q=>j4y b d t v (λf=>rec (f)) q.1 q.2
def jhc (b:List qV)(d:Int)(t:qB×qE×qL)(n:Nat)(f:Int)(g:Unit->Res)(h:Unit->Res):Res:=Z1e (j9R b d t) n (f) (g,h)
def jgc:Z1c Unit:=NdL 31 31 [.t 2 (pB 2),.R 15 y2 .S,.I 16,.I 17] [(2,y22,[.S,.S])] (λb d=>(b.2.2.1)) (λb v=>(b.1,b.2.1,v,())) (λd v=>((d.1.1,d.1.2),())) (λb d=>j9R b.1 b.2.1 d.1.2) λb d f=>((λ_=>f (.exit 0) [] []),(λ_=>f .ret [(4,vB false)] []))
theorem jme:CN 0 58 Tryz.f158 jgc:=lK (Za5 jgS Zar) [] oN ([],[]) [(0,[],[])] ([4],[]) λ_ _ _ _ _=>by kernel_rfl
def j33 (t:qB×qE×qL)(r:List qV)(b:Bool->Res):Res:=bif ((nI r.length) != (nI t.2.1.length)) then b false else jhc r (nI r.length) t Z1b 0 (λ_=>b true) (λ_=>b false)
def j5z:Sig Unit:=sg [.look y22 true,.look y2 true] [false] [(y22,none),(y2,none)] [] λb f k=>j33 b.1 b.2.1 (λd=>k [wB d] [] [])
theorem jd1:SO 158 j5z:=fK (np:=0) (Za5 jgS Zar) [jgc] (oI 58 0 @jme oN) false Tryz.func158 λ_ _ _ _=>by kernel_rfl
def j4x (f:qL)(g:Int)(t:qB×qE×qL)(r:List qV)(d:List qV)(b:Int)(rec:qW->Int->Res)(i:qW->Res):Res:=bif decide (b<g) then bif inb b f.length then j0g t (nth eS f b) λh=>bif inb h r.length then bif lim (d.length+1) then rec (d++[nth (0,0,eS) r h]) (Z9J (b+1)) else none else none else none else i d
def j9Q (d:qL)(f:Int)(t:qB×qE×qL)(r:List qV):(qW×Int)->(qW×Int->Res)->((qW->Res))->Res:=λv rec q=>j4x d f t r v.1 v.2 (λb g=>rec (b,g)) q
def jhb (d:qL)(f:Int)(t:qB×qE×qL)(r:List qV)(n:Nat)(b:List qV)(g:Int)(h:qW->Res):Res:=Z1e (j9Q d f t r) n (b,g) (h)
def jgb:Z1c Unit:=NdL 28 28 [.t 2 (pB 2),.t 3 (pB 3),.R 5 y2 .O,.R 10 y8 .S,.I 11,.I 12] [(2,y22,[.S,.S]),(3,y2,[.S])] (λb d=>(b.1,b.2.2.2.1)) (λb v=>(v.1,b.2.1,b.2.2.1,v.2,())) (λd v=>((d.1.1,d.1.2),(d.2.1.1,d.2.1.2),())) (λb d=>j9Q b.2.1 b.2.2.1 d.1.2 d.2.1.2) λb d g=>((λf=>g (.exit 0) [(5,v1 y2 f .O)] []))
theorem jmd:CN 0 58 Tryz.f160 jgb:=lK (Za5 j3m Zar) [] oN ([],[]) [(0,[5],[])] ([],[]) λ_ _ _ _ _=>by kernel_rfl
def j0D (t:qB×qE×qL)(r:List qV)(d:qW->Res):Res:=jhb t.2.2 (nI t.2.2.length) t r Z1b [] 0 λb=>d b
def j1t:Sig Unit:=sg [.borrow y22 true,.borrow y2 true] [false] [(y22,none),(y2,none)] [] λb f k=>j0D b.1 b.2.1 (λd=>k [w1 y2 d .O] [] [])
theorem j75:SO 160 j1t:=fK (np:=0) (Za5 j3m Zar) [jgb] (oI 58 0 @jmd oN) false Tryz.func160 λ_ _ _ _=>by kernel_rfl
def j2A (a:List qV)(b:List qV)(i:Int)(rec:Int->Res)(d:Unit->Res)(f:Bool->Res):Res:=bif decide (i<(nI a.length)) then bif decide (i<(nI b.length)) then bif inb i a.length then bif inb i b.length then bif !(((nth (0,0,eS) a i).1==(nth (0,0,eS) b i).1)&&(((nth (0,0,eS) a i).2.1==(nth (0,0,eS) b i).2.1)&&(sEq (nth (0,0,eS) a i).2.2 (nth (0,0,eS) b i).2.2))) then bif inb i a.length then bif inb i b.length then j7a (nth (0,0,eS) a i) (nth (0,0,eS) b i) λr=>f r else none else none else rec (Z9J (i+1)) else none else none else d () else d ()
def j87 (a:List qV)(b:List qV):Int->(Int->Res)->((Unit->Res)×(Bool->Res))->Res:=λv rec q=>j2A a b v (λi=>rec (i)) q.1 q.2
def jef (a:List qV)(b:List qV)(n:Nat)(i:Int)(d:Unit->Res)(f:Bool->Res):Res:=Z1e (j87 a b) n (i) (d,f)
def jdJ:Z1c Unit:=NdL 41 41 [.R 0 y2 .S,.R 1 y2 .S,.I 5] [] (λb d=>(b.2.2.1)) (λb v=>(b.1,b.2.1,v,())) (λd v=>()) (λb d=>j87 b.1 b.2.1) λb d f=>((λ_=>f (.exit 0) [(0,v1 y2 b.1 .S),(1,v1 y2 b.2.1 .S)] []),(λg=>f .ret [(4,vB g)] []))
theorem jjB:CN 0 26 Tryz.f159 jdJ:=lK (Za5 jfl Zar) [] oN ([],[]) [(0,[0,1],[])] ([4],[]) λ_ _ _ _ _=>by kernel_rfl
def j3q (a:List qV)(b:List qV)(d:Bool->Res):Res:=jef a b Z1b 0 (λ_=>d (decide ((nI a.length)<(nI b.length)))) (λt=>d t)
def j5v:Sig Unit:=sg [.look y2 false,.look y2 false] [false] [(y2,none),(y2,none)] [] λb f k=>j3q b.1 b.2.1 (λd=>k [wB d] [] [])
theorem jfk:SO 159 j5v:=fK (np:=0) (Za5 jfl Zar) [jdJ] (oI 26 0 @jjB oN) false Tryz.func159 λ_ _ _ _=>by kernel_rfl
theorem jgI:FS [(157,j3h),(158,j5z),(159,j5v),(160,j1t)]:=(Za5 j5f (Za5 jd1 (Za5 jfk (Za5 j75 Zar))))
def j1U (l:List qW)(d:List qW)(f:Int)(t:qB×qE×qL)(b:Int)(rec:Int->Res)(h:Unit->Res)(g:Unit->Res):Res:=bif decide (b<f) then bif inb b d.length then j33 t (nth [] d b) λr=>bif !r then g () else bif decide (b>0) then bif inb (Z9J (b-1)) l.length then j0D t (nth [] l (Z9J (b-1))) λi=>j0D t (nth [] d b) λj=>j3q i j λk=>bif !k then g () else rec (Z9J (b+1)) else none else rec (Z9J (b+1)) else none else h ()
def j3r (l:List qW)(b:List qW)(d:Int)(t:qB×qE×qL):Int->(Int->Res)->((Unit->Res)×(Unit->Res))->Res:=λv rec q=>j1U l b d t v (λf=>rec (f)) q.1 q.2
def jb1 (l:List qW)(b:List qW)(d:Int)(t:qB×qE×qL)(n:Nat)(f:Int)(g:Unit->Res)(h:Unit->Res):Res:=Z1e (j3r l b d t) n (f) (g,h)
def jaB:Z1c Unit:=NdL 45 45 [.R 1 y24 .S,.t 2 (pB 2),.R 15 y24 .S,.I 16,.I 17] [(2,y22,[.S,.S])] (λb d=>(b.2.2.2.1)) (λb v=>(b.1,b.2.1,b.2.2.1,v,())) (λd v=>((d.1.1,d.1.2),())) (λb d=>j3r b.1 b.2.1 b.2.2.1 d.1.2) λb d f=>((λ_=>f (.exit 0) [] []),(λ_=>f .ret [(4,vB false)] []))
theorem jkL:CN 0 58 Tryz.f110 jaB:=lK jgI [] oN ([],[]) [(0,[],[])] ([4],[]) λ_ _ _ _ _=>by delta j3r j1U j5z j1t j5v;refine gz j33 λ_ b=>gz j0D λ_ d=>gz j3q λ_ f=> ?_;rewrite[<-b,<-d,<-f];kernel_rfl
def j0H (t:qB×qE×qL)(l:List qW)(b:Bool->Res):Res:=j0F t λr=>bif !r then b false else bif decide ((nI l.length)>60) then b false else jb1 l l (nI l.length) t Z1b 0 (λ_=>b true) (λ_=>b false)
def j1I:Sig Unit:=sg [.look y22 true,.look y24 false] [false] [(y22,none),(y24,none)] [] λb f k=>j0H b.1 b.2.1 (λd=>k [wB d] [] [])
theorem j6m:SO 110 j1I:=fK (np:=0) jgI [jaB] (oI 58 0 @jkL oN) false Tryz.func110 λ_ _ _ _=>by delta j0H j3h jaB jb1;refine gz j0F λ_ b=>gz j3r λ_ d=> ?_;rewrite[<-b,<-d];kernel_rfl
def j27 (f:List qW)(h:Int)(b:List qW)(d:Int)(rec:qR->Int->Res)(g:qR->Res):Res:=bif decide (d<h) then bif inb d f.length then j0Q (nth [] f d) λr=>bif lim (b.length+1) then rec (b++[r]) (Z9J (d+1)) else none else none else g b
def j7b (d:List qW)(f:Int):(qR×Int)->(qR×Int->Res)->((qR->Res))->Res:=λv rec q=>j27 d f v.1 v.2 (λb g=>rec (b,g)) q
def jdj (f:List qW)(g:Int)(n:Nat)(b:List qW)(h:Int)(d:qR->Res):Res:=Z1e (j7b f g) n (b,h) (d)
def jcA:Z1c Unit:=NdL 21 21 [.R 3 y24 .O,.R 6 y24 .S,.I 7,.I 8] [] (λb f=>(b.1,b.2.2.2.1)) (λb v=>(v.1,b.2.1,b.2.2.1,v.2,())) (λf v=>()) (λb f=>j7b b.2.1 b.2.2.1) λb f g=>((λd=>g (.exit 0) [(3,v1 y24 d .O)] []))
theorem jiV:CN 0 58 Tryz.f196 jcA:=lK (Za5 j6L Zar) [] oN ([],[]) [(0,[3],[])] ([],[]) λ_ _ _ _ _=>by kernel_rfl
def j0o (l:List qW)(d:qR->Res):Res:=jdj l (nI l.length) Z1b [] 0 λb=>d b
def j0L:Sig Unit:=sg [.borrow y24 false] [false] [(y24,none)] [] λd f k=>j0o d.1 (λb=>k [w1 y24 b .O] [] [])
theorem j4k:SO 196 j0L:=fK (np:=0) (Za5 j6L Zar) [jcA] (oI 58 0 @jiV oN) false Tryz.func196 λ_ _ _ _=>by kernel_rfl
theorem j7B:FS [(110,j1I),(174,j3K),(196,j0L),(205,j0G),(252,j5x),(259,jaR)]:=(Za5 j6m (Za5 jcY (Za5 j4k (Za5 j3m (Za5 jfn (Za5 jhw Zar))))))
def j4u (l:List qW)(t:qB×qE×qL)(d:qG)(b:Bool->Res):Res:=j0H t l λr=>bif !r then b true else j20 d λf=>bif !f then b true else bif sNe d.2.1 t.1 then b true else b (d.1==1)
def j41:Z1c Unit:=Nd 98 98 [.R 1 y24 .S,.t 3 (pB 3),.t 5 (pB 5)] [(3,y22,[.S,.S]),(5,y13,[.S,.S])] λf b g=>j4u f.1 b.1.2 b.2.1.2 (λd=>g .normal [(1,v1 y24 f.1 .S),(3,pB 3),(5,pB 5),(33,vB d)] [(3,⟨y22,b.1.1,b.1.2,[.S,.S]⟩),(5,⟨y13,b.2.1.1,b.2.1.2,[.S,.S]⟩)])
theorem jjE:CN 0 12 Tryz.f235 j41:=nK j7B [] oN ([1,3,5,33],[3,5]) [] ([],[]) λ_ _ _=>by delta j4u j1I j3K;refine gz j0H λ_ b=>gz j20 λ_ d=> ?_;rewrite[<-b,<-d];kernel_rfl
def j2B (g:Int)(d:qG)(f:List qW)(b:Int)(rec:qR->Int->Res)(h:qR->Res):Res:=bif decide (b<g) then bif inb b f.length then bif inb 0 d.2.2.1.length then bif lim ((List.length (nth [] f b))+1) then bif inb b (List.length (upd f b ((nth [] f b)++[(nth (eS,0,false,false,0,0,eS) d.2.2.1 0).2.2.2.2]))) then bif (Z9n (Int.toNat b) (Int.toNat b)&&true) then rec (upd f b ((nth [] f b)++[(nth (eS,0,false,false,0,0,eS) d.2.2.1 0).2.2.2.2])) (Z9J (b+1)) else none else none else none else none else none else h f
def j4Y (f:Int)(d:qG):(qR×Int)->(qR×Int->Res)->((qR->Res))->Res:=λv rec q=>j2B f d v.1 v.2 (λb g=>rec (b,g)) q
def j6M (f:Int)(d:qG)(n:Nat)(b:List qW)(g:Int)(h:qR->Res):Res:=Z1e (j4Y f d) n (b,g) (h)
def j6g:Z1c Unit:=NdL 98 98 [.t 5 (pB 5),.R 9 y24 .O,.I 51,.I 52] [(5,y13,[.S,.S])] (λb d=>(b.1,b.2.2.1)) (λb v=>(v.1,b.2.1,v.2,())) (λd v=>((d.1.1,d.1.2),())) (λb d=>j4Y b.2.1 d.1.2) λb d g=>((λf=>g (.exit 1) [(9,v1 y24 f .O)] []))
theorem jjC:CN 0 16058 Tryz.f235 j6g:=lK j7B [j41] oN ([],[]) [(1,[9],[])] ([],[]) λ_ _ _ _ _=>by kernel_rfl
def j2C (f:Int)(g:Int)(d:List qW)(b:Int)(rec:qR->Int->Res)(h:qR->Res):Res:=bif decide (b<g) then bif inb b d.length then j8g (nth [] d b) f (Z9J (f+1)) λr=>bif inb b (List.length (upd d b r)) then bif (Z9n (Int.toNat b) (Int.toNat b)&&true) then rec (upd d b r) (Z9J (b+1)) else none else none else none else h d
def j4Z (b:Int)(f:Int):(qR×Int)->(qR×Int->Res)->((qR->Res))->Res:=λv rec q=>j2C b f v.1 v.2 (λd g=>rec (d,g)) q
def j6N (b:Int)(f:Int)(n:Nat)(d:List qW)(g:Int)(h:qR->Res):Res:=Z1e (j4Z b f) n (d,g) (h)
def j9p:Z1c Unit:=NdL 98 98 [.R 9 y24 .O,.I 11,.I 79,.I 80] [] (λb f=>(b.1,b.2.2.2.1)) (λb v=>(v.1,b.2.1,b.2.2.1,v.2,())) (λf v=>()) (λb f=>j4Z b.2.1 b.2.2.1) λb f g=>((λd=>g (.exit 3) [(9,v1 y24 d .O)] []))
theorem jjD:CN 0 128502 Tryz.f235 j9p:=lK j7B [j41,j6g] oN ([],[]) [(3,[9],[])] ([],[]) λ_ _ _ _ _=>by kernel_rfl
def j5j (t:qB×qE×qL)(l:List qW)(d:qG)(b:qR->Int->Res):Res:=j4u l t d λj=>bif j then b [] 1 else j28 [t] d λr=>bif (r != 0) then b [] r else j0o l λg=>bif (d.1==2) then b [] 0 else bif (d.1==3) then j6M (nI g.length) d Z1b g 0 λh=>b h 0 else bif (d.1==4) then j0g t d.2.2.2.2.1 λi=>j6N i (nI g.length) Z1b g 0 λf=>b f 0 else b g 0
def jbc:Sig Unit:=sg [.borrow y22 true,.borrow y24 false,.borrow y13 true] [false,false] [(y22,none),(y24,none),(y13,none)] [] λb g k=>j5j b.1 b.2.1 b.2.2.1 (λd f=>k [w1 y24 d .O,wI f] [] [])
theorem jlx:SO 235 jbc:=fK (np:=0) j7B [j41,j6g,j9p] (oI 12 0 @jjE (oI 16058 1 @jjC (oI 128502 2 @jjD oN))) false Tryz.func235 λ_ _ _ _=>by delta j5j j41 j5x j0L j6g j0G j9p j6M j6N;refine gz j4u λ_ b=>gz j28 λ_ d=>gz j0o λ_ f=>gz j4Y λ_ g=>gz j0g λ_ h=>gz j4Z λ_ i=> ?_;rewrite[<-b,<-d,<-f,<-g,<-h,<-i];kernel_rfl
def jbx (r:List qV)(g:qB×qE×qL)(h:List qV)(b:Bool->Res):Res:=j0D g r λd=>j1e d h λf=>b f
def jnU:Sig Unit:=sg [.look y2 true,.rptr y22,.rptr y2] [false] [(y2,none),(y22,none),(y2,none)] [] λb f k=>jbx b.1 b.2.1 b.2.2.1 (λd=>k [wB d] [] [])
theorem jgR:SO 261 jnU:=fK (np:=0) (Za5 j75 (Za5 jbL Zar)) [] oN false Tryz.func261 λ_ _ _ _=>by delta jbx j1t j4A;refine gz j0D λ_ b=>gz j1e λ_ d=> ?_;rewrite[<-b,<-d];kernel_rfl
def j0N (s:List qW)(f:qT×List qV)(h:Int)(b:Int)(rec:Int->Res)(d:Unit->Res)(g:Int->Res):Res:=bif decide (b<h) then bif inb b s.length then jbx (nth [] s b) f.1 f.2 λr=>bif r then g b else rec (Z9J (b+1)) else none else d ()
def j35 (s:List qW)(f:qT×List qV)(b:Int):Int->(Int->Res)->((Unit->Res)×(Int->Res))->Res:=λv rec q=>j0N s f b v (λd=>rec (d)) q.1 q.2
def j83 (s:List qW)(f:qT×List qV)(g:Int)(n:Nat)(h:Int)(b:Unit->Res)(d:Int->Res):Res:=Z1e (j35 s f g) n (h) (b,d)
def j7x:Z1c Unit:=NdL 19 19 [.R 0 y24 .S,.c 1 261 [y22,y2] y44 [.S,.S,.S],.I 7,.I 8] [] (λb d=>(b.2.2.2.1)) (λb v=>(b.1,b.2.1,b.2.2.1,v,())) (λd v=>()) (λb d=>j35 b.1 b.2.1 b.2.2.1) λb d f=>((λ_=>f (.exit 0) [] []),(λg=>f .ret [(4,vI g)] []))
theorem jdw:CN 0 26 Tryz.f260 j7x:=lK (Za5 jgR Zar) [] oN ([],[]) [(0,[],[])] ([4],[]) λ_ _ _ _ _=>by kernel_rfl
def j67 (s:List qW)(f:qT×List qV)(b:Int->Res):Res:=j83 s f (nI s.length) Z1b 0 (λ_=>b (-1)) (λt=>b t)
def jf9:Sig Unit:=sg [.look y24 false,.rclos 261 [y22,y2]] [false] [(y24,none),(y44,none)] [] λb f k=>j67 b.1 b.2.1 (λd=>k [wI d] [] [])
theorem jeX:SO 260 jf9:=fK (np:=0) (Za5 jgR Zar) [j7x] (oI 26 0 @jdw oN) false Tryz.func260 λ_ _ _ _=>by kernel_rfl
def j0W (t:qB×qE×qL)(l:List qW)(b:List qV)(d:Int->Res):Res:=j67 l (t,b) λr=>d r
def j5y:Sig Unit:=sg [.look y22 true,.look y24 false,.look y2 false] [false] [(y22,none),(y24,none),(y2,none)] [] λb f k=>j0W b.1 b.2.1 b.2.2.1 (λd=>k [wI d] [] [])
theorem jd0:SO 236 j5y:=fK (np:=0) (Za5 jeX Zar) [] oN false Tryz.func236 λ_ _ _ _=>by kernel_rfl
theorem jgL:FS [(159,j5v),(160,j1t),(196,j0L),(202,j6S),(262,j6J)]:=(Za5 jfk (Za5 j75 (Za5 j4k (Za5 j6L (Za5 jhx Zar)))))
def j1V (l:List qW)(t:qB×qE×qL)(r:List qV)(b:Int)(rec:Int->Res)(d:Int->Res):Res:=bif decide (b<(nI l.length)) then bif inb b l.length then j0D t (nth [] l b) λf=>j0D t r λg=>j3q f g λh=>bif h then rec (Z9J (b+1)) else d b else none else d b
def j3v (l:List qW)(t:qB×qE×qL)(r:List qV):Int->(Int->Res)->((Int->Res))->Res:=λv rec q=>j1V l t r v (λb=>rec (b)) q
def jb4 (l:List qW)(t:qB×qE×qL)(r:List qV)(n:Nat)(b:Int)(d:Int->Res):Res:=Z1e (j3v l t r) n (b) (d)
def jaF:Z1c Unit:=NdL 35 35 [.R 1 y24 .S,.t 3 (pB 3),.t 5 (pB 5),.I 7] [(3,y22,[.S,.S]),(5,y2,[.S])] (λd b=>(d.2.1)) (λd v=>(d.1,v,())) (λb v=>((b.1.1,b.1.2),(b.2.1.1,b.2.1.2),())) (λd b=>j3v d.1 b.1.2 b.2.1.2) λd b g=>((λf=>g (.exit 0) [(1,v1 y24 d.1 .S),(5,pB 5),(7,vI f)] [(5,⟨y2,b.2.1.1,b.2.1.2,[.S]⟩)]))
theorem jkP:CN 0 28 Tryz.f237 jaF:=lK jgL [] oN ([],[]) [(0,[1,5,7],[5])] ([],[]) λ_ _ _ _ _=>by delta j3v j1V j1t j5v;refine gz j0D λ_ b=>gz j3q λ_ d=> ?_;rewrite[<-b,<-d];kernel_rfl
def j21 (t:qB×qE×qL)(l:List qW)(r:List qV)(d:qR->Res):Res:=jb4 l t r Z1b 0 λb=>j0o l λf=>j0Q r λg=>j51 f b [g] λh=>d h
def j8O:Sig Unit:=sg [.borrow y22 true,.borrow y24 false,.borrow y2 true] [false] [(y22,none),(y24,none),(y2,none)] [] λb f k=>j21 b.1 b.2.1 b.2.2.1 (λd=>k [w1 y24 d .O] [] [])
theorem jgQ:SO 237 j8O:=fK (np:=0) jgL [jaF] (oI 28 0 @jkP oN) false Tryz.func237 λ_ _ _ _=>by delta j21 jaF j0L j6S j6J jb4;refine gz j3v λ_ b=>gz j0o λ_ d=>gz j0Q λ_ f=>gz j51 λ_ g=> ?_;rewrite[<-b,<-d,<-f,<-g];kernel_rfl
def j6y (t:qB×qE×qL)(l:List qW)(r:List qV)(b:qR->Int->Res):Res:=j0H t l λd=>bif !d then b [] 1 else j33 t r λf=>bif !f then b [] 2 else j0D t r λg=>j0W t l g λh=>bif decide (h>=0) then b [] 3 else bif ((nI l.length)==60) then b [] 4 else j21 t l r λi=>b i 0
def jc9:Sig Unit:=sg [.borrow y22 true,.borrow y24 false,.borrow y2 true] [false,false] [(y22,none),(y24,none),(y2,none)] [] λb g k=>j6y b.1 b.2.1 b.2.2.1 (λd f=>k [w1 y24 d .O,wI f] [] [])
theorem jng:SO 199 jc9:=fK (np:=0) (Za5 j6m (Za5 jd1 (Za5 j75 (Za5 jd0 (Za5 jgQ Zar))))) [] oN false Tryz.func199 λ_ _ _ _=>by delta j6y j1I j5z j1t j5y j8O;refine gz j0H λ_ b=>gz j33 λ_ d=>gz j0D λ_ f=>gz j0W λ_ g=>gz j21 λ_ h=> ?_;rewrite[<-b,<-d,<-f,<-g,<-h];kernel_rfl
theorem jhA:FS [(157,j3h),(205,j0G),(220,j7m)]:=(Za5 j5f (Za5 j3m (Za5 j74 Zar)))
def j2k (d:List qV)(f:qL)(g:Int)(t:qB×qE×qL)(b:Int)(rec:Int->Res)(j:Unit->Res)(h:Unit->Res):Res:=bif decide (b<g) then bif inb b f.length then bif inb b d.length then j0V (nth (0,0,eS) d b) λr=>bif !r then h () else bif inb b d.length then j0g t (nth eS f b) λi=>bif inb i t.2.1.length then bif ((nth (0,0,eS) d b).1 != (nth (eS,0,false,false,0,0,eS) t.2.1 i).2.1) then h () else rec (Z9J (b+1)) else none else none else none else none else j ()
def j4s (b:List qV)(d:qL)(f:Int)(t:qB×qE×qL):Int->(Int->Res)->((Unit->Res)×(Unit->Res))->Res:=λv rec q=>j2k b d f t v (λg=>rec (g)) q.1 q.2
def jc3 (b:List qV)(d:qL)(f:Int)(t:qB×qE×qL)(n:Nat)(g:Int)(h:Unit->Res)(i:Unit->Res):Res:=Z1e (j4s b d f t) n (g) (h,i)
def jbp:Z1c Unit:=NdL 49 49 [.R 1 y2 .S,.t 2 (pB 2),.R 19 y8 .S,.I 20,.I 21] [(2,y22,[.S,.S])] (λb d=>(b.2.2.2.1)) (λb v=>(b.1,b.2.1,b.2.2.1,v,())) (λd v=>((d.1.1,d.1.2),())) (λb d=>j4s b.1 b.2.1 b.2.2.1 d.1.2) λb d f=>((λ_=>f (.exit 0) [] []),(λ_=>f .ret [(4,vB false)] []))
theorem jmb:CN 0 58 Tryz.f238 jbp:=lK jhA [] oN ([],[]) [(0,[],[])] ([4],[]) λ_ _ _ _ _=>by delta j4s j2k j7m j0G;refine gz j0V λ_ b=>gz j0g λ_ d=> ?_;rewrite[<-b,<-d];kernel_rfl
def j4r (t:qB×qE×qL)(b:List qV)(d:Bool->Res):Res:=j0F t λr=>bif !r then d false else bif ((nI b.length) != (nI t.2.2.length)) then d false else jc3 b t.2.2 (nI t.2.2.length) t Z1b 0 (λ_=>d true) (λ_=>d false)
def jah:Sig Unit:=sg [.look y22 true,.look y2 false] [false] [(y22,none),(y2,none)] [] λb f k=>j4r b.1 b.2.1 (λd=>k [wB d] [] [])
theorem jhI:SO 238 jah:=fK (np:=0) jhA [jbp] (oI 58 0 @jmb oN) false Tryz.func238 λ_ _ _ _=>by delta j4r j3h jbp jc3;refine gz j0F λ_ b=>gz j4s λ_ d=> ?_;rewrite[<-b,<-d];kernel_rfl
theorem jgH:FS [(110,j1I),(158,j5z),(160,j1t),(196,j0L),(236,j5y),(237,j8O),(238,jah),(239,j4A),(240,j46)]:=(Za5 j6m (Za5 jd1 (Za5 j75 (Za5 j4k (Za5 jd0 (Za5 jgQ (Za5 jhI (Za5 jbL (Za5 jaO Zar)))))))))
def j5i (l:List qW)(b:List qV)(now:List qV)(t:qB×qE×qL)(d:Unit->Res)(f:Unit->Res):Res:=j1e now b λg=>bif !g then j0W t l now λh=>bif decide (h>=0) then f () else d () else d ()
def jaA:Z1c Unit:=Nd 61 61 [.R 1 y24 .S,.R 2 y2 .S,.t 4 (pB 4),.t 7 (pB 7),.R 10 y2 .O] [(4,y22,[.S,.S]),(7,y2,[.S])] λb d f=>j5i b.1 b.2.1 b.2.2.1 d.1.2 (λ_=>f .normal [(1,v1 y24 b.1 .S),(2,v1 y2 b.2.1 .S),(4,pB 4),(7,pB 7)] [(4,⟨y22,d.1.1,d.1.2,[.S,.S]⟩),(7,⟨y2,d.2.1.1,d.2.1.2,[.S]⟩)]) (λ_=>f .ret [(8,v1 y24 [] .O),(9,vI 3)] [])
theorem jkK:CN 0 30 Tryz.f200 jaA:=nK jgH [] oN ([1,2,4,7],[4,7]) [] ([8,9],[]) λ_ _ _=>by delta j5i j4A j5y;refine gz j1e λ_ b=>gz j0W λ_ d=> ?_;rewrite[<-b,<-d];kernel_rfl
def j6z (t:qB×qE×qL)(l:List qW)(b:List qV)(r:List qV)(d:qR->Int->Res):Res:=j0H t l λg=>bif !g then d [] 1 else j33 t r λh=>bif !h then d [] 2 else j4r t b λi=>bif !i then d [] 5 else j0W t l b λj=>bif decide (j<0) then d [] 5 else j0D t r λk=>j5i l b k t (λ_=>j0W t l b λf=>j0o l λm=>j0J m f (Z9J (f+1)) λn=>j21 t n r λp=>d p 0) (λ_=>d [] 3)
def jca:Sig Unit:=sg [.borrow y22 true,.borrow y24 false,.borrow y2 false,.borrow y2 true] [false,false] [(y22,none),(y24,none),(y2,none),(y2,none)] [] λb g k=>j6z b.1 b.2.1 b.2.2.1 b.2.2.2.1 (λd f=>k [w1 y24 d .O,wI f] [] [])
theorem jnh:SO 200 jca:=fK (np:=0) jgH [jaA] (oI 30 0 @jkK oN) false Tryz.func200 λ_ _ _ _=>by delta j6z j1I j5z jah j5y j1t jaA j0L j46 j8O;refine gz j0H λ_ b=>gz j33 λ_ d=>gz j4r λ_ f=>gz j0W λ_ g=>gz j0D λ_ h=>gz j5i λ_ i=>gz j0o λ_ j=>gz j0J λ_ k=>gz j21 λ_ l=> ?_;rewrite[<-b,<-d,<-f,<-g,<-h,<-i,<-j,<-k,<-l];kernel_rfl
def j6x (t:qB×qE×qL)(l:List qW)(b:List qV)(d:qR->Int->Res):Res:=j0H t l λr=>bif !r then d [] 1 else j4r t b λg=>bif !g then d [] 5 else j0W t l b λh=>bif decide (h<0) then d [] 5 else j0W t l b λf=>j0o l λi=>j0J i f (Z9J (f+1)) λj=>d j 0
def jc8:Sig Unit:=sg [.borrow y22 true,.borrow y24 false,.borrow y2 false] [false,false] [(y22,none),(y24,none),(y2,none)] [] λb g k=>j6x b.1 b.2.1 b.2.2.1 (λd f=>k [w1 y24 d .O,wI f] [] [])
theorem jnf:SO 201 jc8:=fK (np:=0) (Za5 j6m (Za5 j4k (Za5 jd0 (Za5 jhI (Za5 jaO Zar))))) [] oN false Tryz.func201 λ_ _ _ _=>by delta j6x j1I jah j5y j0L j46;refine gz j0H λ_ b=>gz j4r λ_ d=>gz j0W λ_ f=>gz j0o λ_ g=>gz j0J λ_ h=> ?_;rewrite[<-b,<-d,<-f,<-g,<-h];kernel_rfl
end
end Go.PI.G
