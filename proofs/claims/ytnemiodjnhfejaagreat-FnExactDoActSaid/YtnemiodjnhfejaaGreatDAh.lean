/-
  Program's code interpreted over typed values; printed texts; plain laws. No conditions.
-/
import Derived.Test.YtnemiodjnhfejaaGreatDAd
import Derived.Test.YtnemiodjnhfejaaGreatDAe
import Derived.Test.YtnemiodjnhfejaaGreatDAf
import Derived.Test.YtnemiodjnhfejaaGreatDAg
set_option linter.unusedVariables false
set_option maxRecDepth 100000
namespace Go.PI.G
noncomputable section
open Go Go.PI Go.Proofs
open Go.Code (pl pr)
def j7b (s:qS) (b:Bool->Res):Res:=bif (s.1==0) then bif sEq s.2.1 eS then bif ((nI (List.length s.2.2.1))==0) then bif ((nI (List.length s.2.2.2.1))==0) then j1B s.2.2.2.2 λr=>b r else b false else b false else b false else b false
def jaK:Sig Unit:=sg [.look y17 true] [false] [(y17,none)] [] λd f k=>j7b d.1 (λb=>k [wB b] [] [])
theorem jle:SO 276 jaK:=fK (np:=0) (Za6 jfJ Zas) [] oN false Tryz.func276 λ_ _ _ _=>by kernel_rfl
theorem jj2:FS [(155,j7W),(276,jaK)]:=(Za6 jiw (Za6 jle Zas))
def jau (r:Int×Int×qS) (b:Bool->Res):Res:=bif decide (r.1<1) then b true else bif decide (r.1>4) then b true else bif decide (r.2.1<1) then b true else b (decide (r.2.1>1000000))
def jd4:Z1d Unit:=Nd 30 30 [.t 1 (pB 1)] [(1,y19,[.S,.S,.S,.S])] λg d f=>jau d.1.2 (λb=>f .normal [(1,pB 1),(20,vB b)] [(1,⟨y19,d.1.1,d.1.2,[.S,.S,.S,.S]⟩)])
theorem jnS:CN 0 12 Tryz.f218 jd4:=nK jj2 [] oN ([1,20],[1]) [] ([],[]) λ_ _ _=>by kernel_rfl
def j5U (r:Int×Int×qS) (b:Bool->Res):Res:=jau r λt=>bif t then b false else bif (r.1==2) then j3X r.2.2 λd=>b d else j7b r.2.2 λf=>b f
def j92:Sig Unit:=sg [.look y19 true] [false] [(y19,none)] [] λd f k=>j5U d.1 (λb=>k [wB b] [] [])
theorem jjj:SO 218 j92:=fK (np:=0) jj2 [jd4] (oI 12 0 @jnS oN) false Tryz.func218 λ_ _ _ _=>by delta j5U jd4 j7W jaK;refine gz jau λ_ b=>gz j3X λ_ d=>gz j7b λ_ f=> ?_;rewrite [<-b,<-d,<-f];kernel_rfl
def j76 (f:Int) (d:List qP) (i:Int) (b:Int) (rec:Int->Res) (g:Unit->Res) (h:Unit->Res):Res:=bif decide (b<i) then bif inb b (List.length d) then bif ((nth (0,0,0,eS,[],[],0,eS,[],[],eS,eS) d b).1==1) then bif ((nth (0,0,0,eS,[],[],0,eS,[],[],eS,eS) d b).2.1==f) then h () else rec (Z9K (b+1)) else rec (Z9K (b+1)) else none else g ()
def jcS (b:Int) (d:List qP) (f:Int):Int->(Int->Res)->((Unit->Res)×(Unit->Res))->Res:=λv rec q=>j76 b d f v (λg=>rec (g)) q.1 q.2
def jk2 (b:Int) (g:List qP) (h:Int) (n:Nat) (i:Int) (d:Unit->Res) (f:Unit->Res):Res:=Z1f (jcS b g h) n (i) (d,f)
def jiT:Z1d Unit:=NdL 23 23 [.I 1,.R 7 y20 .S,.I 8,.I 9] [] (λb d=>(b.2.2.2.1)) (λb v=>(b.1,b.2.1,b.2.2.1,v,())) (λd v=>()) (λb d=>jcS b.1 b.2.1 b.2.2.1) λb d f=>((λ_=>f (.exit 0) [] []),(λ_=>f .ret [(4,vB true)] []))
theorem jpk:CN 0 26 Tryz.f219 jiT:=lK Zas [] oN ([],[]) [(0,[],[])] ([4],[]) λ_ _ _ _ _=>by kernel_rfl
def jba (l:List qP) (b:Int) (d:Bool->Res):Res:=jk2 b l (nI (List.length l)) Z1c 0 (λ_=>d false) (λ_=>d true)
def jdd:Sig Unit:=sg [.look y20 false,.look tI false] [false] [(y20,none),(tI,none)] [] λb f k=>jba b.1 b.2.1 (λd=>k [wB d] [] [])
theorem jkI:SO 219 jdd:=fK (np:=0) Zas [jiT] (oI 26 0 @jpk oN) false Tryz.func219 λ_ _ _ _=>by kernel_rfl
def j4X (h:Int) (d:List Int) (i:Int) (b:Int) (rec:Int->Res) (f:Unit->Res) (g:Unit->Res):Res:=bif decide (b<i) then bif inb b (List.length d) then bif ((nth 0 d b)==h) then g () else rec (Z9K (b+1)) else none else f ()
def jaR (b:Int) (d:List Int) (f:Int):Int->(Int->Res)->((Unit->Res)×(Unit->Res))->Res:=λv rec q=>j4X b d f v (λg=>rec (g)) q.1 q.2
def jhA (f:Int) (g:List Int) (h:Int) (n:Nat) (i:Int) (b:Unit->Res) (d:Unit->Res):Res:=Z1f (jaR f g h) n (i) (b,d)
def jgr:Z1d Unit:=NdL 17 17 [.I 1,.R 7 y21 .S,.I 8,.I 9] [] (λb d=>(b.2.2.2.1)) (λb v=>(b.1,b.2.1,b.2.2.1,v,())) (λd v=>()) (λb d=>jaR b.1 b.2.1 b.2.2.1) λb d f=>((λ_=>f (.exit 0) [] []),(λ_=>f .ret [(4,vB true)] []))
theorem jmW:CN 0 26 Tryz.f168 jgr:=lK Zas [] oN ([],[]) [(0,[],[])] ([4],[]) λ_ _ _ _ _=>by kernel_rfl
def j2P (l:List Int) (d:Int) (b:Bool->Res):Res:=jhA d l (nI (List.length l)) Z1c 0 (λ_=>b false) (λ_=>b true)
def j5k:Sig Unit:=sg [.look y21 false,.look tI false] [false] [(y21,none),(tI,none)] [] λb f k=>j2P b.1 b.2.1 (λd=>k [wB d] [] [])
theorem jdv:SO 168 j5k:=fK (np:=0) Zas [jgr] (oI 26 0 @jmW oN) false Tryz.func168 λ_ _ _ _=>by kernel_rfl
def j4W (i:Int) (g:List Int) (f:Int) (d:List Int) (b:Int) (rec:(List Int)->Int->Res) (h:(List Int)->Res):Res:=bif decide (b<f) then bif inb b (List.length g) then bif ((nth 0 g b) != i) then bif lim ((List.length d)+1) then rec (d++[nth 0 g b]) (Z9K (b+1)) else none else rec d (Z9K (b+1)) else none else h d
def jaQ (g:Int) (h:List Int) (d:Int):((List Int)×Int)->((List Int)×Int->Res)->(((List Int)->Res))->Res:=λv rec q=>j4W g h d v.1 v.2 (λb f=>rec (b,f)) q
def jhz (h:Int) (i:List Int) (d:Int) (n:Nat) (b:List Int) (f:Int) (g:(List Int)->Res):Res:=Z1f (jaQ h i d) n (b,f) (g)
def jgq:Z1d Unit:=NdL 24 24 [.I 1,.R 5 y21 .O,.R 9 y21 .S,.I 10,.I 11] [] (λb f=>(b.2.1,b.2.2.2.2.1)) (λb v=>(b.1,v.1,b.2.2.1,b.2.2.2.1,v.2,())) (λf v=>()) (λb f=>jaQ b.1 b.2.2.1 b.2.2.2.1) λb f g=>((λd=>g (.exit 0) [(5,v1 y21 d .O)] []))
theorem jmV:CN 0 58 Tryz.f277 jgq:=lK Zas [] oN ([],[]) [(0,[5],[])] ([],[]) λ_ _ _ _ _=>by kernel_rfl
def j8d (l:List Int) (f:Int) (d:(List Int)->Res):Res:=jhz f l (nI (List.length l)) Z1c [] 0 λb=>d b
def jdJ:Sig Unit:=sg [.borrow y21 false,.borrow tI false] [false] [(y21,none),(tI,none)] [] λb f k=>j8d b.1 b.2.1 (λd=>k [w1 y21 d .O] [] [])
theorem jp0:SO 277 jdJ:=fK (np:=0) Zas [jgq] (oI 58 0 @jmV oN) false Tryz.func277 λ_ _ _ _=>by kernel_rfl
theorem jgs:FS [(168,j5k),(277,jdJ)]:=(Za6 jdv (Za6 jp0 Zas))
def jbQ (b:List Int) (r:Int×Int×qS) (d:(List Int)->Res):Res:=bif (r.1==1) then j2P b r.2.1 λf=>bif !f then bif lim ((List.length b)+1) then d (b++[r.2.1]) else none else d b else d b
def jaw:Z1d Unit:=Nd 42 42 [.R 3 y21 .O,.t 5 (pB 5),.R 7 y20 .S,.I 8,.I 9] [(5,y19,[.S,.S,.S,.S])] λd f g=>jbQ d.1 f.1.2 (λb=>g .normal [(3,v1 y21 b .O),(5,pB 5),(7,v1 y20 d.2.1 .S),(8,vI d.2.2.1),(9,vI d.2.2.2.1)] [(5,⟨y19,f.1.1,f.1.2,[.S,.S,.S,.S]⟩)])
theorem jpj:CN 0 7474 Tryz.f220 jaw:=nK jgs [] oN ([3,5,7,8,9],[5]) [] ([],[]) λ_ _ _=>by kernel_rfl
def j48 (f:List qP) (j:Int) (g:List Int) (d:Int) (rec:(List Int)->Int->Res) (h:(List Int)->Res):Res:=bif decide (d<j) then bif inb d (List.length f) then jbQ g (nth (0,0,0,eS,[],[],0,eS,[],[],eS,eS) f d) λb=>bif ((nth (0,0,0,eS,[],[],0,eS,[],[],eS,eS) f d).1==3) then j8d b (nth (0,0,0,eS,[],[],0,eS,[],[],eS,eS) f d).2.1 λr=>rec r (Z9K (d+1)) else bif ((nth (0,0,0,eS,[],[],0,eS,[],[],eS,eS) f d).1==4) then j8d b (nth (0,0,0,eS,[],[],0,eS,[],[],eS,eS) f d).2.1 λi=>rec i (Z9K (d+1)) else rec b (Z9K (d+1)) else none else h g
def j9D (d:List qP) (f:Int):((List Int)×Int)->((List Int)×Int->Res)->(((List Int)->Res))->Res:=λv rec q=>j48 d f v.1 v.2 (λb g=>rec (b,g)) q
def jk1 (f:List qP) (g:Int) (n:Nat) (b:List Int) (h:Int) (d:(List Int)->Res):Res:=Z1f (j9D f g) n (b,h) (d)
def jiS:Z1d Unit:=NdL 42 42 [.R 3 y21 .O,.R 7 y20 .S,.I 8,.I 9] [] (λb f=>(b.1,b.2.2.2.1)) (λb v=>(v.1,b.2.1,b.2.2.1,v.2,())) (λf v=>()) (λb f=>j9D b.2.1 b.2.2.1) λb f g=>((λd=>g (.exit 0) [(3,v1 y21 d .O)] []))
theorem jpi:CN 0 58 Tryz.f220 jiS:=lK jgs [jaw] (oI 114 0 @jpj oN) ([],[]) [(0,[3],[])] ([],[]) λ_ _ _ _ _=>by delta j9D j48 jaw jdJ;refine gz jbQ λ_ b=>gz j8d λ_ d=> ?_;rewrite [<-b,<-d];kernel_rfl
def j7j (l:List qP) (d:(List Int)->Res):Res:=jk1 l (nI (List.length l)) Z1c [] 0 λb=>d b
def jaf:Sig Unit:=sg [.borrow y20 false] [false] [(y20,none)] [] λd f k=>j7j d.1 (λb=>k [w1 y21 b .O] [] [])
theorem jkH:SO 220 jaf:=fK (np:=0) jgs [jaw,jiS] (oI 58 1 @jpi oN) false Tryz.func220 λ_ _ _ _=>by kernel_rfl
def j9a (s:qS) (b:qS->Res):Res:=bif lim (0+(List.length s.2.2.1)) then j0I s.2.2.2.1 λr=>bif lim (0+(List.length s.2.2.2.2.2.2.1)) then bif lim (0+(List.length s.2.2.2.2.2.2.2.1)) then b (s.1,s.2.1,s.2.2.1,r,s.2.2.2.2.1,s.2.2.2.2.2.1,s.2.2.2.2.2.2.1,s.2.2.2.2.2.2.2.1,s.2.2.2.2.2.2.2.2) else none else none else none
def jo4:Sig Unit:=sg [.borrow y17 true] [true] [(y17,none)] [] λd f k=>j9a d.1 (λb=>k [⟨y17,true,b,[.O,.O,.O,.O]⟩] [] [])
theorem jcr:SO 158 jo4:=fK (np:=0) (Za6 j5c Zas) [] oN false Tryz.func158 λ_ _ _ _=>by kernel_rfl
def j3C (h:Int) (f:List qP) (g:Int) (d:List qS) (b:Int) (rec:qU->Int->Res) (i:qU->Res):Res:=bif decide (b<g) then bif inb b (List.length f) then bif ((nth (0,0,0,eS,[],[],0,eS,[],[],eS,eS) f b).1==2) then bif ((nth (0,0,0,eS,[],[],0,eS,[],[],eS,eS) f b).2.1==h) then j9a (nth (0,0,0,eS,[],[],0,eS,[],[],eS,eS) f b).2.2 λr=>bif lim ((List.length d)+1) then rec (d++[r]) (Z9K (b+1)) else none else rec d (Z9K (b+1)) else rec d (Z9K (b+1)) else none else i d
def j9V (g:Int) (h:List qP) (d:Int):(qU×Int)->(qU×Int->Res)->((qU->Res))->Res:=λv rec q=>j3C g h d v.1 v.2 (λb f=>rec (b,f)) q
def jg4 (g:Int) (i:List qP) (d:Int) (n:Nat) (b:List qS) (f:Int) (h:qU->Res):Res:=Z1f (j9V g i d) n (b,f) (h)
def jfv:Z1d Unit:=NdL 32 32 [.I 1,.R 5 y27 .O,.R 9 y20 .S,.I 10,.I 11] [] (λb f=>(b.2.1,b.2.2.2.2.1)) (λb v=>(b.1,v.1,b.2.2.1,b.2.2.2.1,v.2,())) (λf v=>()) (λb f=>j9V b.1 b.2.2.1 b.2.2.2.1) λb f g=>((λd=>g (.exit 0) [(5,v1 y27 d .O)] []))
theorem jlF:CN 0 58 Tryz.f221 jfv:=lK (Za6 jcr Zas) [] oN ([],[]) [(0,[5],[])] ([],[]) λ_ _ _ _ _=>by kernel_rfl
def j75 (l:List qP) (d:Int) (f:qU->Res):Res:=jg4 d l (nI (List.length l)) Z1c [] 0 λb=>f b
def jcO:Sig Unit:=sg [.borrow y20 false,.borrow tI false] [false] [(y20,none),(tI,none)] [] λb f k=>j75 b.1 b.2.1 (λd=>k [w1 y27 d .O] [] [])
theorem jno:SO 221 jcO:=fK (np:=0) (Za6 jcr Zas) [jfv] (oI 58 0 @jlF oN) false Tryz.func221 λ_ _ _ _=>by kernel_rfl
theorem j9l:FS [(133,jcN),(168,j5k),(218,j92),(219,jdd),(220,jaf),(221,jcO)]:=(Za6 jnm (Za6 jdv (Za6 jjj (Za6 jkI (Za6 jkH (Za6 jno Zas))))))
def j3c (l:List qP) (i:Int) (r:Int×Int×qS) (b:Bool->Res):Res:=j5U r λd=>bif !d then b true else bif (r.1==1) then bif Z8e 0 i (List.length l) then jba (sub l 0 i) r.2.1 λf=>bif f then b true else bif (r.1 != 1) then bif Z8e 0 i (List.length l) then j7j (sub l 0 i) λg=>j2P g r.2.1 λh=>b (!h) else none else b false else none else bif (r.1 != 1) then bif Z8e 0 i (List.length l) then j7j (sub l 0 i) λj=>j2P j r.2.1 λk=>b (!k) else none else b false
def j52:Z1d Unit:=Nd 74 74 [.R 0 y20 .S,.t 2 (pB 2),.t 4 (pB 4),.I 5,.t 6 (pB 6),.R 11 y20 .S,.I 12,.I 13] [(2,y33,[.O,.O]),(4,y33,[.N,.N]),(6,y19,[.S,.S,.S,.S])] λb d g=>j3c b.1 b.2.1 d.2.2.1.2 (λf=>g .normal [(0,v1 y20 b.1 .S),(2,pB 2),(4,pB 4),(5,vI b.2.1),(6,pB 6),(11,v1 y20 b.2.2.1 .S),(12,vI b.2.2.2.1),(13,vI b.2.2.2.2.1),(48,vB f)] [(2,⟨y33,d.1.1,d.1.2,[.O,.O]⟩),(4,⟨y33,d.2.1.1,d.2.1.2,[.N,.N]⟩),(6,⟨y19,d.2.2.1.1,d.2.2.1.2,[.S,.S,.S,.S]⟩)])
theorem jlP:CN 0 14948 Tryz.f169 j52:=nK j9l [] oN ([0,2,4,5,6,11,12,13,48],[2,4,6]) [] ([],[]) λ_ _ _=>by delta j3c j92 jdd jaf j5k;refine gz j5U λ_ b=>gz jba λ_ d=>gz j7j λ_ f=>gz j2P λ_ g=> ?_;rewrite [<-b,<-d,<-f,<-g];kernel_rfl
def j3d (l:List qP) (i:Int) (d:qF×List qR) (r:Int×Int×qS) (b:Int->qD->Res):Res:=bif Z8e 0 i (List.length l) then Z87 (j75 (sub l 0 i) r.2.1 λn=>Z87 (j2Z d n λg h w=>Z87 (Z87 (b h g) (Z87 (b h g) (b h g))) (Z87 (Z87 (b h g) (Z87 (b h g) (b h g))) (Z87 (Z87 (b h g) (b h g)) (Z87 (Z87 (b h g) (b h g)) (b h g))))) (j2Z d n λj k y=>Z87 (Z87 (b k j) (b k j)) (Z87 (Z87 (b k j) (b k j)) (b k j)))) (j75 (sub l 0 i) r.2.1 λq=>j2Z d q λm f p=>Z87 (Z87 (b f m) (b f m)) (Z87 (Z87 (b f m) (b f m)) (b f m))) else none
def j7I:Z1d Unit:=Nd 74 74 [.R 0 y20 .S,.t 2 (pB 2),.t 4 (pB 4),.I 5,.t 6 (pB 6),.R 11 y20 .S,.I 12,.I 13] [(2,y33,[.O,.O]),(4,y33,[.N,.N]),(6,y19,[.S,.S,.S,.S])] λb d f=>j3d b.1 b.2.1 d.2.1.2 d.2.2.1.2 (λcode next=>f .normal [(0,v1 y20 b.1 .S),(2,pB 2),(4,pB 4),(7,pB 7),(8,vI code),(11,v1 y20 b.2.2.1 .S),(12,vI b.2.2.2.1),(13,vI b.2.2.2.2.1)] [(2,⟨y33,d.1.1,d.1.2,[.O,.O]⟩),(4,⟨y33,d.2.1.1,d.2.1.2,[.N,.N]⟩),(7,⟨y33,false,next,[.N,.N]⟩)])
theorem jlQ:CN 0 59804 Tryz.f169 j7I:=nK j9l [j52] oN ([0,2,4,7,8,11,12,13],[2,4,7]) [] ([],[]) λ_ _ _=>by delta j3d jcO jcN;refine gz j75 λ_ b=>gz j2Z λ_ d=> ?_;rewrite [<-b,<-d];kernel_rfl
def j2i (l:List qP) (f:List qP) (g:Int) (b:Int) (d:qF×List qR) (rec:Int->qD->Res) (i:qD->Res) (h:Unit->Res):Res:=bif decide (b<g) then bif inb b (List.length f) then j3c l b (nth (0,0,0,eS,[],[],0,eS,[],[],eS,eS) f b) λt=>bif t then h () else bif ((nth (0,0,0,eS,[],[],0,eS,[],[],eS,eS) f b).1==3) then j3d l b d (nth (0,0,0,eS,[],[],0,eS,[],[],eS,eS) f b) λcode next=>bif (code != 0) then h () else rec (Z9K (b+1)) next else rec (Z9K (b+1)) d else none else i d
def j6n (l:List qP) (b:List qP) (f:Int):(Int×qD)->(Int×qD->Res)->((qD->Res)×(Unit->Res))->Res:=λv rec q=>j2i l b f v.1 v.2 (λg d=>rec (g,d)) q.1 q.2
def jbV (l:List qP) (b:List qP) (f:Int) (n:Nat) (g:Int) (d:qF×List qR) (h:qD->Res) (i:Unit->Res):Res:=Z1f (j6n l b f) n (g,d) (h,i)
def jfq:Z1d Unit:=λσ k=>rdN σ 74<|rd1 σ 0 y20 .S λl=>rdT σ 2 (pB 2)<|rdT σ 4 (pB 4)<|rd1 σ 11 y20 .S λb=>rdI σ 12 λf=>rdI σ 13 λg=>rdB σ 2 y33 [.O,.O] λa j=>rdB σ 4 y33 [.N,.N] λh d=>jbV l b f Z1c g d (λi=>k (.exit 0) (mkS 74 74 [(0,v1 y20 l .S),(2,pB 2),(4,pB 4)] [(2,⟨y33,a,j,[.O,.O]⟩),(4,⟨y33,h,i,[.N,.N]⟩)])) (λ_=>k .ret (mkS 74 74 [(2,pB 2),(3,vB false)] [(2,⟨y33,a,([],[]),[.O,.O]⟩)]))
def jfA:Z1d Unit:=λσ k=>jfq (σ.wk [] [(4,[.N,.N])]) k
theorem jlO:CN 0 58 Tryz.f169 jfA:=λq=>ZaJ [] [(4,[.N,.N])] (jpC follows j1m j9l q [j52,j7I] (oI 228 0 @jlP (oI 924 1 @jlQ oN)) [0,2,4,11,12,13] [2,4] ([],[]) [(0,[0,2,4],[2,4])] ([2,3],[2]) (y:=jfq) λσ k _ h=>rN h λG h=>rV h λl D h=>rT h λE h=>rT h λF h=>rV h λb g h=>rV h λf i h=>rV h λr j h=>rB h λa z n h=>rB h λw d p h=>⟨_,ZaM (m:=74) G (sC D (sC E (sC F (sC g (sC i (sC j sN)))))) (bC n (bC p bN)),.trans (Z9u (λv:Int×qD=>(mkS 74 74 [(0,v1 y20 l .S),(2,pB 2),(4,pB 4),(11,v1 y20 b .S),(12,vI f),(13,vI v.1)] [(2,⟨y33,a,z,[.O,.O]⟩),(4,⟨y33,w,v.2,[.N,.N]⟩)])) (j6n l b f) (λ(k:Z83 Unit)=>(((λA=>k (.exit 0) (mkS 74 74 [(0,v1 y20 l .S),(2,pB 2),(4,pB 4)] [(2,⟨y33,a,z,[.O,.O]⟩),(4,⟨y33,w,A,[.N,.N]⟩)])),(λ_=>k .ret (mkS 74 74 [(2,pB 2),(3,vB false)] [(2,⟨y33,a,([],[]),[.O,.O]⟩)]))):(qD->Res)×(Unit->Res))) (λv rec k=>by delta j6n j2i j52 j7I;refine gz j3c λ_ B=>gz j3d λ_ C=> ?_;rewrite [<-B,<-C];kernel_rfl) Z1c (r,d) k) h⟩)
def jbU (l:List qP) (b:qD->Bool->Res):Res:=jbV l l (nI (List.length l)) Z1c 0 ([],[]) (λd=>b d (decide ((nI (List.length l))<=400))) (λ_=>b ([],[]) false)
def jo3:Sig Unit:=sg [.borrow y20 false] [true,false] [(y20,none)] [] λf g k=>jbU f.1 (λb d=>k [⟨y33,true,b,[.S,.S]⟩,wB d] [] [])
theorem jnr:SO 169 jo3:=fK (np:=0) j9l [j52,j7I,jfA] (oI 58 2 @jlO oN) true Tryz.func169 λ_ _ _ _=>by kernel_rfl
def j7A (l:List qP) (b:Bool->Res):Res:=bif decide ((nI (List.length l))>400) then b false else jbU l λr d=>b d
def jfl:Sig Unit:=sg [.look y20 false] [false] [(y20,none)] [] λd f k=>j7A d.1 (λb=>k [wB b] [] [])
theorem jpT:SO 103 jfl:=fK (np:=0) (Za6 jnr Zas) [] oN false Tryz.func103 λ_ _ _ _=>by kernel_rfl
def j7O (s:qS) (b:Bool->Res):Res:=bif (s.1==0) then bif sEq s.2.1 eS then bif ((nI (List.length s.2.2.1))==0) then bif ((nI (List.length s.2.2.2.1))==0) then j0i s.2.2.2.2 (0,eS,[],[],eS,eS) λr=>b r else b false else b false else b false else b false
def jg2:Sig Unit:=sg [.look y17 true] [false] [(y17,none)] [] λd f k=>j7O d.1 (λb=>k [wB b] [] [])
theorem jlZ:SO 278 jg2:=fK (np:=0) (Za6 jbd Zas) [] oN false Tryz.func278 λ_ _ _ _=>by kernel_rfl
def j2K (r:Int×Int×qS) (b:Bool->Res):Res:=j0k r.1 1 4 λd=>bif !d then b false else j0k r.2.1 1 1000000 λf=>bif !f then b false else bif (r.1==2) then j3V r.2.2 λg=>b g else j7O r.2.2 λh=>b h
def j4H:Sig Unit:=sg [.look y19 true] [false] [(y19,none)] [] λd f k=>j2K d.1 (λb=>k [wB b] [] [])
theorem jeu:SO 222 j4H:=fK (np:=0) (Za6 jip (Za6 j3g (Za6 jlZ Zas))) [] oN false Tryz.func222 λ_ _ _ _=>by delta j2K j2n jas jg2;refine gz j0k λ_ b=>gz j3V λ_ d=>gz j7O λ_ f=> ?_;rewrite [<-b,<-d,<-f];kernel_rfl
def j3t (h:Int) (f:List qP) (g:Int) (d:List qS) (b:Int) (rec:qU->Int->Res) (i:qU->Res):Res:=bif decide (b<g) then bif inb b (List.length f) then bif ((nth (0,0,0,eS,[],[],0,eS,[],[],eS,eS) f b).1==2) then bif ((nth (0,0,0,eS,[],[],0,eS,[],[],eS,eS) f b).2.1==h) then j2l (nth (0,0,0,eS,[],[],0,eS,[],[],eS,eS) f b).2.2 λr=>bif lim ((List.length d)+1) then rec (d++[r]) (Z9K (b+1)) else none else rec d (Z9K (b+1)) else rec d (Z9K (b+1)) else none else i d
def j9O (g:Int) (h:List qP) (d:Int):(qU×Int)->(qU×Int->Res)->((qU->Res))->Res:=λv rec q=>j3t g h d v.1 v.2 (λb f=>rec (b,f)) q
def jfS (g:Int) (i:List qP) (d:Int) (n:Nat) (b:List qS) (f:Int) (h:qU->Res):Res:=Z1f (j9O g i d) n (b,f) (h)
def jfs:Z1d Unit:=NdL 32 32 [.I 1,.R 5 y27 .O,.R 9 y20 .S,.I 10,.I 11] [] (λb f=>(b.2.1,b.2.2.2.2.1)) (λb v=>(b.1,v.1,b.2.2.1,b.2.2.2.1,v.2,())) (λf v=>()) (λb f=>j9O b.1 b.2.2.1 b.2.2.2.1) λb f g=>((λd=>g (.exit 0) [(5,v1 y27 d .O)] []))
theorem jlr:CN 0 58 Tryz.f224 jfs:=lK (Za6 j5r Zas) [] oN ([],[]) [(0,[5],[])] ([],[]) λ_ _ _ _ _=>by kernel_rfl
def j0N (l:List qP) (d:Int) (f:qU->Res):Res:=jfS d l (nI (List.length l)) Z1c [] 0 λb=>f b
def j2F:Sig Unit:=sg [.borrow y20 false,.borrow tI false] [false] [(y20,none),(tI,none)] [] λb f k=>j0N b.1 b.2.1 (λd=>k [w1 y27 d .O] [] [])
theorem jcq:SO 224 j2F:=fK (np:=0) (Za6 j5r Zas) [jfs] (oI 58 0 @jlr oN) false Tryz.func224 λ_ _ _ _=>by kernel_rfl
def jgB (place:Int) (b:qF×List qR) (d:Unit->Res):Res:=d ()
def jdC:Sig Unit:=sg [.look tI false,.look y33 true] [] [(tI,none),(y33,none)] [] λb d k=>jgB b.1 b.2.1 (λ_=>k [] [] [])
theorem joF:SO 171 jdC:=fK (np:=0) Zas [] oN false Tryz.func171 λ_ _ _ _=>by kernel_rfl
def jhY (x:Int) (d:Int×Int×qS) (b:Bool->Res):Res:=b (x==d.2.1)
def jqC:Sig Unit:=sg [.look tI false,.rptr y19] [false] [(tI,none),(y19,none)] [] λb f k=>jhY b.1 b.2.1 (λd=>k [wB d] [] [])
theorem jpJ:SO 226 jqC:=fK (np:=0) Zas [] oN false Tryz.func226 λ_ _ _ _=>by kernel_rfl
def j0P (s:List Int) (b:Int×Int×qS) (d:(List Int)->qP->Res):Res:=bif lim (List.length s) then dgE (λe k=>jhY e b k) s [] (λr=>d r b) else none
def j1n:Sig Unit:=⟨[.eat y21 false,.clos 226 [y19]],[false],λvals ext k=>ao vals y21 [.O] λs vals=>nl vals<|ab ext y19 [.S,.S,.S,.S] λa0 f ext=>nl ext<|j0P s f (λd b=>k [w1 y21 d .O] [] [⟨y19,a0,b,[.S,.S,.S,.S]⟩])⟩
theorem j9G:Z17 Tryz.prog 225 j1n:=gS (jtY (U:=0) (T:=220) (e:=tI) (ag:=false) (τ:=y19) (tg:=[.S,.S,.S,.S]) (fl:=[]) (S:=56) (E:=3) (I:=3) (B:=4) follows j1m (by kernel_rfl) Tryz.underlying56 (by kernel_rfl) (by kernel_rfl) (by kernel_rfl) (by kernel_rfl) Tryz.isAgg220 Tryz.sizeOf220 (by kernel_rfl) (by kernel_rfl) (by kernel_rfl) Tryz.func280 (by kernel_rfl) (by kernel_rfl) (by kernel_rfl) (by kernel_rfl) jpJ (by kernel_rfl) Tryz.func225 (by kernel_rfl) (by kernel_rfl) (by kernel_rfl) (by kernel_rfl)) (by kernel_rfl)
theorem ja4:FS [(138,j2E),(171,jdC),(222,j4H),(223,j0n),(224,j2F),(225,j1n)]:=(Za6 jcp (Za6 joF (Za6 jeu (Za6 j33 (Za6 jcq (Za6 j9G Zas))))))
def j6C (l:List qP) (i:Int) (d:qF×List qR) (r:Int×Int×qS) (b:Int->qD->Res):Res:=bif Z8e 0 i (List.length l) then Z87 (j0N (sub l 0 i) r.2.1 λn=>Z87 (j0m d n λg h w=>Z87 (Z87 (b h g) (Z87 (b h g) (b h g))) (Z87 (Z87 (b h g) (Z87 (b h g) (b h g))) (Z87 (Z87 (b h g) (b h g)) (Z87 (Z87 (b h g) (b h g)) (b h g))))) (j0m d n λj k y=>Z87 (Z87 (b k j) (b k j)) (Z87 (Z87 (b k j) (b k j)) (b k j)))) (j0N (sub l 0 i) r.2.1 λq=>j0m d q λm f p=>Z87 (Z87 (b f m) (b f m)) (Z87 (Z87 (b f m) (b f m)) (b f m))) else none
def j5p:Z1d Unit:=Nd 84 84 [.R 1 y20 .S,.t 2 (.clos 171 []),.t 3 (pB 3),.t 6 (pB 6),.R 8 y21 .O,.R 9 y21 .O,.I 10,.t 11 (pB 11),.R 17 y20 .S,.I 18,.I 19] [(3,y33,[.S,.S]),(6,y33,[.O,.O]),(11,y19,[.S,.S,.S,.S])] λb d f=>j6C b.1 b.2.2.2.1 d.1.2 d.2.2.1.2 (λcode next=>f .normal [(1,v1 y20 b.1 .S),(2,.clos 171 []),(3,pB 3),(6,pB 6),(8,v1 y21 b.2.1 .O),(9,v1 y21 b.2.2.1 .O),(10,vI b.2.2.2.1),(11,pB 11),(12,pB 12),(13,vI code),(17,v1 y20 b.2.2.2.2.1 .S),(18,vI b.2.2.2.2.2.1),(19,vI b.2.2.2.2.2.2.1)] [(3,⟨y33,d.1.1,d.1.2,[.S,.S]⟩),(6,⟨y33,d.2.1.1,d.2.1.2,[.O,.O]⟩),(11,⟨y19,d.2.2.1.1,d.2.2.1.2,[.S,.S,.S,.S]⟩),(12,⟨y33,false,next,[.O,.O]⟩)])
theorem jpd:CN 0 478452 Tryz.f170 j5p:=nK ja4 [] oN ([1,2,3,6,8,9,10,11,12,13,17,18,19],[3,6,11,12]) [] ([],[]) λ_ _ _=>by delta j6C j2F j2E;refine gz j0N λ_ b=>gz j0m λ_ d=> ?_;rewrite [<-b,<-d];kernel_rfl
def j8P (l:List qP) (i:Int) (b:Bool) (d:qF×List qR) (r:Int×Int×qS) (f:qD->Res) (g:Unit->Res):Res:=bif b then j6C l i d r λcode next=>bif (code != 0) then g () else jgB (Z9K (i+1)) d λ_=>f next else f d
def j80:Z1d Unit:=λσ k=>rdN σ 84<|rd1 σ 1 y20 .S λl=>rdT σ 2 (.clos 171 [])<|rdT σ 3 (pB 3)<|rdT σ 6 (pB 6)<|rd1 σ 8 y21 .O λb=>rd1 σ 9 y21 .O λf=>rdI σ 10 λi=>rdT σ 11 (pB 11)<|rd1 σ 17 y20 .S λg=>rdI σ 18 λh=>rdI σ 19 λj=>rdO σ 54 λm=>rdB σ 3 y33 [.S,.S] λa d=>rdB σ 6 y33 [.O,.O] λn w=>rdB σ 11 y19 [.S,.S,.S,.S] λp r=>j8P l i m d r (λq=>k .normal (mkS 84 84 [(1,v1 y20 l .S),(2,.clos 171 []),(3,pB 3),(6,pB 6),(8,v1 y21 b .O),(9,v1 y21 f .O),(11,pB 11),(17,v1 y20 g .S),(18,vI h),(19,vI j)] [(3,⟨y33,a,q,[.S,.S]⟩),(6,⟨y33,n,w,[.O,.O]⟩),(11,⟨y19,p,r,[.S,.S,.S,.S]⟩)])) (λ_=>k .ret (mkS 84 84 [(6,pB 6),(7,vB false)] [(6,⟨y33,n,([],[]),[.O,.O]⟩)]))
theorem jpe:CN 0 119613 Tryz.f170 j80:=λz=>jjv follows j1m ja4 z [j5p] (oI 4 0 @jpd oN) ([1,2,3,6,8,9,11,17,18,19],[3,6,11]) [] ([6,7],[6]) [(0,[],[(3,[.S,.S])])] λσ k _ h=>rN h λK h=>rV h λl E h=>rT h λF h=>rT h λG h=>rT h λH h=>rV h λA I h=>rV h λB J h=>rV h λi f h=>rT h λg h=>rV h λL j h=>rV h λM n h=>rV h λP p h=>rV h λQ q h=>rB h λa d w h=>rB h λR U y h=>rB h λT r b h=>⟨_,ZaM (m:=84) K (sC E (sC F (sC G (sC H (sC I (sC J (sC f (sC g (sC j (sC n (sC p (sC q sN)))))))))))) (bC w (bC y (bC b bN))),.trans (by delta j8P j5p jdC;refine gz j6C λ_ C=>gz jgB λ_ D=> ?_;rewrite [<-C,<-D];kernel_rfl) h⟩
def j45 (l:List qP) (g:List qP) (j:Int) (f:List Int) (h:List Int) (b:Int) (d:qF×List qR) (rec:(List Int)->(List Int)->Int->qD->Res) (m:qD->Res) (i:Unit->Res):Res:=bif decide (b<j) then bif inb b (List.length g) then j2K (nth (0,0,0,eS,[],[],0,eS,[],[],eS,eS) g b) λr=>bif !r then i () else bif ((nth (0,0,0,eS,[],[],0,eS,[],[],eS,eS) g b).1==1) then j0d h (nth (0,0,0,eS,[],[],0,eS,[],[],eS,eS) g b).2.1 λn=>bif n then i () else bif lim ((List.length h)+1) then bif lim ((List.length f)+1) then rec (f++[(nth (0,0,0,eS,[],[],0,eS,[],[],eS,eS) g b).2.1]) (h++[(nth (0,0,0,eS,[],[],0,eS,[],[],eS,eS) g b).2.1]) (Z9K (b+1)) d else none else none else j0d f (nth (0,0,0,eS,[],[],0,eS,[],[],eS,eS) g b).2.1 λp=>bif !p then i () else j8P l b ((nth (0,0,0,eS,[],[],0,eS,[],[],eS,eS) g b).1==3) d (nth (0,0,0,eS,[],[],0,eS,[],[],eS,eS) g b) (λk=>bif ((nth (0,0,0,eS,[],[],0,eS,[],[],eS,eS) g b).1 != 2) then j0P f (nth (0,0,0,eS,[],[],0,eS,[],[],eS,eS) g b) λq w=>rec q h (Z9K (b+1)) k else rec f h (Z9K (b+1)) k) (λ_=>i ()) else none else m d
def j9r (l:List qP) (g:List qP) (h:Int):((List Int)×(List Int)×Int×qD)->((List Int)×(List Int)×Int×qD->Res)->((qD->Res)×(Unit->Res))->Res:=λv rec q=>j45 l g h v.1 v.2.1 v.2.2.1 v.2.2.2 (λb f i d=>rec (b,f,i,d)) q.1 q.2
def jjr (l:List qP) (g:List qP) (h:Int) (n:Nat) (b:List Int) (f:List Int) (i:Int) (d:qF×List qR) (j:qD->Res) (k:Unit->Res):Res:=Z1f (j9r l g h) n (b,f,i,d) (j,k)
def jdT:Z1d Unit:=NdL 84 84 [.R 1 y20 .S,.t 2 (.clos 171 []),.t 3 (pB 3),.t 6 (pB 6),.R 8 y21 .O,.R 9 y21 .O,.R 17 y20 .S,.I 18,.I 19] [(3,y33,[.S,.S]),(6,y33,[.O,.O])] (λb d=>(b.2.1,b.2.2.1,b.2.2.2.2.2.1,d.1.2)) (λb v=>(b.1,v.1,v.2.1,b.2.2.2.1,b.2.2.2.2.1,v.2.2.1,())) (λd v=>((d.1.1,v.2.2.2),(d.2.1.1,d.2.1.2),())) (λb d=>j9r b.1 b.2.2.2.1 b.2.2.2.2.1) λb d f=>((λg=>f (.exit 0) [(3,pB 3),(6,pB 6)] [(3,⟨y33,d.1.1,g,[.S,.S]⟩),(6,⟨y33,d.2.1.1,d.2.1.2,[.O,.O]⟩)]),(λ_=>f .ret [(6,pB 6),(7,vB false)] [(6,⟨y33,d.2.1.1,([],[]),[.O,.O]⟩)]))
theorem jpc:CN 0 58 Tryz.f170 jdT:=lK ja4 [j5p,j80] (oI 1853 1 @jpe oN) ([],[]) [(0,[3,6],[3,6])] ([6,7],[6]) λ_ _ _ _ _=>by delta j9r j45 j4H j0n j80 j1n;refine gz j2K λ_ b=>gz j0d λ_ d=>gz j8P λ_ f=>gz j0P λ_ g=> ?_;rewrite [<-b,<-d,<-f,<-g];kernel_rfl
def jeS (l:List qP) (d:qF×List qR) (b:Bool->qD->Res):Res:=jjr l l (nI (List.length l)) Z1c [] [] 0 d (λf=>b true f) (λ_=>b false ([],[]))
def jiR:Z1d Unit:=λσ k=>rdN σ 84<|rd1 σ 1 y20 .S λl=>rdT σ 2 (.clos 171 [])<|rdT σ 3 (pB 3)<|rdT σ 6 (pB 6)<|rdB σ 3 y33 [.S,.S] λa d=>rdB σ 6 y33 [.O,.O] λf h=>jeS l d (λg b=>k .ret (mkS 84 84 [(6,pB 6),(7,vB g)] [(6,⟨y33,f,b,[.S,.S]⟩)]))
theorem jpf:CN 0 3 Tryz.f170 jiR:=λg=>jjv follows j1m ja4 g [j5p,j80,jdT] (oI 26 2 @jpc oN) ([],[]) [] ([6,7],[6]) [(1,[],[(6,[.S,.S])])] λσ k _ h=>rN h λq h=>rV h λl i h=>rT h λj h=>rT h λn h=>rT h λp h=>rB h λa d b h=>rB h λr w f h=>⟨_,ZaM (m:=84) q (sC i (sC j (sC n (sC p sN)))) (bC b (bC f bN)),.trans (by kernel_rfl) h⟩
def jfV (d:qF×List qR) (l:List qP) (b:qD->Bool->Res):Res:=jeS l d λt f=>b f t
def jro:Sig Unit:=sg [.borrow y33 true,.borrow y20 false,.clos 171 []] [true,false] [(y33,none),(y20,none)] [] λb g k=>jfV b.1 b.2.1 (λd f=>k [⟨y33,true,d,[.S,.S]⟩,wB f] [] [])
theorem jr5:SO 170 jro:=fK (np:=0) ja4 [j5p,j80,jdT,jiR] (oI 3 3 @jpf oN) false Tryz.func170 λ_ _ _ _=>by kernel_rfl
def jbk (l:List qP) (b:Bool->Res):Res:=bif decide ((nI (List.length l))>400) then b false else jfV ([],[]) l λr d=>b d
def jjL:Sig Unit:=sg [.look y20 false] [false] [(y20,none)] [] λd f k=>jbk d.1 (λb=>k [wB b] [] [])
theorem jpF:SO 104 jjL:=fK (np:=0) (Za6 jr5 Zas) [] oN false Tryz.func104 λ_ _ _ _=>by kernel_rfl
def jhX (place:Int) (b:qF×List qR) (d:Unit->Res):Res:=d ()
def jfc:Sig Unit:=sg [.look tI false,.look y33 true] [] [(tI,none),(y33,none)] [] λb d k=>jhX b.1 b.2.1 (λ_=>k [] [] [])
theorem jpH:SO 233 jfc:=fK (np:=0) Zas [] oN false Tryz.func233 λ_ _ _ _=>by kernel_rfl
theorem j7J:FS [(138,j2E),(222,j4H),(223,j0n),(224,j2F),(225,j1n),(233,jfc)]:=(Za6 jcp (Za6 jeu (Za6 j33 (Za6 jcq (Za6 j9G (Za6 jpH Zas))))))
def j44 (l:List qP) (i:Int) (d:qF×List qR) (r:Int×Int×qS) (b:Int->qD->Res):Res:=bif Z8e 0 i (List.length l) then Z87 (j0N (sub l 0 i) r.2.1 λn=>Z87 (j0m d n λg h w=>Z87 (Z87 (b h g) (Z87 (b h g) (b h g))) (Z87 (Z87 (b h g) (Z87 (b h g) (b h g))) (Z87 (Z87 (b h g) (b h g)) (Z87 (Z87 (b h g) (b h g)) (b h g))))) (j0m d n λj k y=>Z87 (Z87 (b k j) (b k j)) (Z87 (Z87 (b k j) (b k j)) (b k j)))) (j0N (sub l 0 i) r.2.1 λq=>j0m d q λm f p=>Z87 (Z87 (b f m) (b f m)) (Z87 (Z87 (b f m) (b f m)) (b f m))) else none
def j3e:Z1d Unit:=Nd 84 84 [.R 1 y20 .S,.t 2 (.clos 233 []),.t 3 (pB 3),.t 6 (pB 6),.R 8 y21 .O,.R 9 y21 .O,.I 10,.t 11 (pB 11),.R 17 y20 .S,.I 18,.I 19] [(3,y33,[.S,.S]),(6,y33,[.O,.O]),(11,y19,[.S,.S,.S,.S])] λb d f=>j44 b.1 b.2.2.2.1 d.1.2 d.2.2.1.2 (λcode next=>f .normal [(1,v1 y20 b.1 .S),(2,.clos 233 []),(3,pB 3),(6,pB 6),(8,v1 y21 b.2.1 .O),(9,v1 y21 b.2.2.1 .O),(10,vI b.2.2.2.1),(11,pB 11),(12,pB 12),(13,vI code),(17,v1 y20 b.2.2.2.2.1 .S),(18,vI b.2.2.2.2.2.1),(19,vI b.2.2.2.2.2.2.1)] [(3,⟨y33,d.1.1,d.1.2,[.S,.S]⟩),(6,⟨y33,d.2.1.1,d.2.1.2,[.O,.O]⟩),(11,⟨y19,d.2.2.1.1,d.2.2.1.2,[.S,.S,.S,.S]⟩),(12,⟨y33,false,next,[.O,.O]⟩)])
theorem jmw:CN 0 478452 Tryz.f170 j3e:=nK j7J [] oN ([1,2,3,6,8,9,10,11,12,13,17,18,19],[3,6,11,12]) [] ([],[]) λ_ _ _=>by delta j44 j2F j2E;refine gz j0N λ_ b=>gz j0m λ_ d=> ?_;rewrite [<-b,<-d];kernel_rfl
def j6B (l:List qP) (i:Int) (b:Bool) (d:qF×List qR) (r:Int×Int×qS) (f:qD->Res) (g:Unit->Res):Res:=bif b then j44 l i d r λcode next=>bif (code != 0) then g () else jhX (Z9K (i+1)) d λ_=>f next else f d
def j62:Z1d Unit:=λσ k=>rdN σ 84<|rd1 σ 1 y20 .S λl=>rdT σ 2 (.clos 233 [])<|rdT σ 3 (pB 3)<|rdT σ 6 (pB 6)<|rd1 σ 8 y21 .O λb=>rd1 σ 9 y21 .O λf=>rdI σ 10 λi=>rdT σ 11 (pB 11)<|rd1 σ 17 y20 .S λg=>rdI σ 18 λh=>rdI σ 19 λj=>rdO σ 54 λm=>rdB σ 3 y33 [.S,.S] λa d=>rdB σ 6 y33 [.O,.O] λn w=>rdB σ 11 y19 [.S,.S,.S,.S] λp r=>j6B l i m d r (λq=>k .normal (mkS 84 84 [(1,v1 y20 l .S),(2,.clos 233 []),(3,pB 3),(6,pB 6),(8,v1 y21 b .O),(9,v1 y21 f .O),(11,pB 11),(17,v1 y20 g .S),(18,vI h),(19,vI j)] [(3,⟨y33,a,q,[.S,.S]⟩),(6,⟨y33,n,w,[.O,.O]⟩),(11,⟨y19,p,r,[.S,.S,.S,.S]⟩)])) (λ_=>k .ret (mkS 84 84 [(6,pB 6),(7,vB false)] [(6,⟨y33,n,([],[]),[.O,.O]⟩)]))
theorem jmx:CN 0 119613 Tryz.f170 j62:=λz=>jjv follows j1m j7J z [j3e] (oI 4 0 @jmw oN) ([1,2,3,6,8,9,11,17,18,19],[3,6,11]) [] ([6,7],[6]) [(0,[],[(3,[.S,.S])])] λσ k _ h=>rN h λK h=>rV h λl E h=>rT h λF h=>rT h λG h=>rT h λH h=>rV h λA I h=>rV h λB J h=>rV h λi f h=>rT h λg h=>rV h λL j h=>rV h λM n h=>rV h λP p h=>rV h λQ q h=>rB h λa d w h=>rB h λR U y h=>rB h λT r b h=>⟨_,ZaM (m:=84) K (sC E (sC F (sC G (sC H (sC I (sC J (sC f (sC g (sC j (sC n (sC p (sC q sN)))))))))))) (bC w (bC y (bC b bN))),.trans (by delta j6B j3e jfc;refine gz j44 λ_ C=>gz jhX λ_ D=> ?_;rewrite [<-C,<-D];kernel_rfl) h⟩
def j2C (l:List qP) (g:List qP) (j:Int) (f:List Int) (h:List Int) (b:Int) (d:qF×List qR) (rec:(List Int)->(List Int)->Int->qD->Res) (m:qD->Res) (i:Unit->Res):Res:=bif decide (b<j) then bif inb b (List.length g) then j2K (nth (0,0,0,eS,[],[],0,eS,[],[],eS,eS) g b) λr=>bif !r then i () else bif ((nth (0,0,0,eS,[],[],0,eS,[],[],eS,eS) g b).1==1) then j0d h (nth (0,0,0,eS,[],[],0,eS,[],[],eS,eS) g b).2.1 λn=>bif n then i () else bif lim ((List.length h)+1) then bif lim ((List.length f)+1) then rec (f++[(nth (0,0,0,eS,[],[],0,eS,[],[],eS,eS) g b).2.1]) (h++[(nth (0,0,0,eS,[],[],0,eS,[],[],eS,eS) g b).2.1]) (Z9K (b+1)) d else none else none else j0d f (nth (0,0,0,eS,[],[],0,eS,[],[],eS,eS) g b).2.1 λp=>bif !p then i () else j6B l b ((nth (0,0,0,eS,[],[],0,eS,[],[],eS,eS) g b).1==3) d (nth (0,0,0,eS,[],[],0,eS,[],[],eS,eS) g b) (λk=>bif ((nth (0,0,0,eS,[],[],0,eS,[],[],eS,eS) g b).1 != 2) then j0P f (nth (0,0,0,eS,[],[],0,eS,[],[],eS,eS) g b) λq w=>rec q h (Z9K (b+1)) k else rec f h (Z9K (b+1)) k) (λ_=>i ()) else none else m d
def j7q (l:List qP) (g:List qP) (h:Int):((List Int)×(List Int)×Int×qD)->((List Int)×(List Int)×Int×qD->Res)->((qD->Res)×(Unit->Res))->Res:=λv rec q=>j2C l g h v.1 v.2.1 v.2.2.1 v.2.2.2 (λb f i d=>rec (b,f,i,d)) q.1 q.2
def jhf (l:List qP) (g:List qP) (h:Int) (n:Nat) (b:List Int) (f:List Int) (i:Int) (d:qF×List qR) (j:qD->Res) (k:Unit->Res):Res:=Z1f (j7q l g h) n (b,f,i,d) (j,k)
def jc2:Z1d Unit:=NdL 84 84 [.R 1 y20 .S,.t 2 (.clos 233 []),.t 3 (pB 3),.t 6 (pB 6),.R 8 y21 .O,.R 9 y21 .O,.R 17 y20 .S,.I 18,.I 19] [(3,y33,[.S,.S]),(6,y33,[.O,.O])] (λb d=>(b.2.1,b.2.2.1,b.2.2.2.2.2.1,d.1.2)) (λb v=>(b.1,v.1,v.2.1,b.2.2.2.1,b.2.2.2.2.1,v.2.2.1,())) (λd v=>((d.1.1,v.2.2.2),(d.2.1.1,d.2.1.2),())) (λb d=>j7q b.1 b.2.2.2.1 b.2.2.2.2.1) λb d f=>((λg=>f (.exit 0) [(3,pB 3),(6,pB 6)] [(3,⟨y33,d.1.1,g,[.S,.S]⟩),(6,⟨y33,d.2.1.1,d.2.1.2,[.O,.O]⟩)]),(λ_=>f .ret [(6,pB 6),(7,vB false)] [(6,⟨y33,d.2.1.1,([],[]),[.O,.O]⟩)]))
theorem jmv:CN 0 58 Tryz.f170 jc2:=lK j7J [j3e,j62] (oI 1853 1 @jmx oN) ([],[]) [(0,[3,6],[3,6])] ([6,7],[6]) λ_ _ _ _ _=>by delta j7q j2C j4H j0n j62 j1n;refine gz j2K λ_ b=>gz j0d λ_ d=>gz j6B λ_ f=>gz j0P λ_ g=> ?_;rewrite [<-b,<-d,<-f,<-g];kernel_rfl
def jcD (l:List qP) (d:qF×List qR) (b:Bool->qD->Res):Res:=jhf l l (nI (List.length l)) Z1c [] [] 0 d (λf=>b true f) (λ_=>b false ([],[]))
def jgc:Z1d Unit:=λσ k=>rdN σ 84<|rd1 σ 1 y20 .S λl=>rdT σ 2 (.clos 233 [])<|rdT σ 3 (pB 3)<|rdT σ 6 (pB 6)<|rdB σ 3 y33 [.S,.S] λa d=>rdB σ 6 y33 [.O,.O] λf h=>jcD l d (λg b=>k .ret (mkS 84 84 [(6,pB 6),(7,vB g)] [(6,⟨y33,f,b,[.S,.S]⟩)]))
theorem jmy:CN 0 3 Tryz.f170 jgc:=λg=>jjv follows j1m j7J g [j3e,j62,jc2] (oI 26 2 @jmv oN) ([],[]) [] ([6,7],[6]) [(1,[],[(6,[.S,.S])])] λσ k _ h=>rN h λq h=>rV h λl i h=>rT h λj h=>rT h λn h=>rT h λp h=>rB h λa d b h=>rB h λr w f h=>⟨_,ZaM (m:=84) q (sC i (sC j (sC n (sC p sN)))) (bC b (bC f bN)),.trans (by kernel_rfl) h⟩
def jdb (d:qF×List qR) (l:List qP) (b:qD->Bool->Res):Res:=jcD l d λt f=>b f t
def jpo:Sig Unit:=sg [.borrow y33 true,.borrow y20 false,.clos 233 []] [true,false] [(y33,none),(y20,none)] [] λb g k=>jdb b.1 b.2.1 (λd f=>k [⟨y33,true,d,[.S,.S]⟩,wB f] [] [])
theorem joJ:SO 170 jpo:=fK (np:=0) j7J [j3e,j62,jc2,jgc] (oI 3 3 @jmy oN) false Tryz.func170 λ_ _ _ _=>by kernel_rfl
def jb4 (l:List qP) (b:Int) (d:qD->Res):Res:=bif Z8e 0 b (List.length l) then jdb ([],[]) (sub l 0 b) λr f=>d r else none
def jgG:Sig Unit:=sg [.borrow y20 false,.borrow tI false] [true] [(y20,none),(tI,none)] [] λb f k=>jb4 b.1 b.2.1 (λd=>k [⟨y33,true,d,[.S,.S]⟩] [] [])
theorem jr3:SO 175 jgG:=fK (np:=0) (Za6 joJ Zas) [] oN false Tryz.func175 λ_ _ _ _=>by kernel_rfl
def j8e (r:Int×Int×qS) (b:qP->Res):Res:=j9a r.2.2 λd=>b (r.1,r.2.1,d)
def jdK:Sig Unit:=sg [.borrow y19 true] [true] [(y19,none)] [] λd f k=>j8e d.1 (λb=>k [⟨y19,true,b,[.O,.O,.O,.O]⟩] [] [])
theorem jdw:SO 262 jdK:=fK (np:=0) (Za6 jcr Zas) [] oN false Tryz.func262 λ_ _ _ _=>by kernel_rfl
def j3K (f:List qP) (h:Int) (b:List qP) (d:Int) (rec:(List qP)->Int->Res) (g:(List qP)->Res):Res:=bif decide (d<h) then bif inb d (List.length f) then j8e (nth (0,0,0,eS,[],[],0,eS,[],[],eS,eS) f d) λr=>bif lim ((List.length b)+1) then rec (b++[r]) (Z9K (d+1)) else none else none else g b
def j9Z (d:List qP) (f:Int):((List qP)×Int)->((List qP)×Int->Res)->(((List qP)->Res))->Res:=λv rec q=>j3K d f v.1 v.2 (λb g=>rec (b,g)) q
def jg8 (f:List qP) (g:Int) (n:Nat) (b:List qP) (h:Int) (d:(List qP)->Res):Res:=Z1f (j9Z f g) n (b,h) (d)
def jfz:Z1d Unit:=NdL 20 20 [.R 3 y20 .O,.R 7 y20 .S,.I 8,.I 9] [] (λb f=>(b.1,b.2.2.2.1)) (λb v=>(v.1,b.2.1,b.2.2.1,v.2,())) (λf v=>()) (λb f=>j9Z b.2.1 b.2.2.1) λb f g=>((λd=>g (.exit 0) [(3,v1 y20 d .O)] []))
theorem jlN:CN 0 58 Tryz.f261 jfz:=lK (Za6 jdw Zas) [] oN ([],[]) [(0,[3],[])] ([],[]) λ_ _ _ _ _=>by kernel_rfl
def j99 (l:List qP) (d:(List qP)->Res):Res:=jg8 l (nI (List.length l)) Z1c [] 0 λb=>d b
def jcQ:Sig Unit:=sg [.borrow y20 false] [false] [(y20,none)] [] λd f k=>j99 d.1 (λb=>k [w1 y20 b .O] [] [])
theorem jnq:SO 261 jcQ:=fK (np:=0) (Za6 jdw Zas) [jfz] (oI 58 0 @jlN oN) false Tryz.func261 λ_ _ _ _=>by kernel_rfl
theorem jdt:FS [(103,jfl),(168,j5k),(218,j92),(219,jdd),(220,jaf),(261,jcQ),(262,jdK)]:=(Za6 jpT (Za6 jdv (Za6 jjj (Za6 jkI (Za6 jkH (Za6 jnq (Za6 jdw Zas)))))))
def j9E (l:List qP) (r:Int×Int×qS) (b:Unit->Res) (d:Unit->Res):Res:=bif (r.1==1) then jba l r.2.1 λf=>bif f then d () else b () else b ()
def j8C:Z1d Unit:=Nd 48 48 [.R 0 y20 .S,.t 3 (pB 3)] [(3,y19,[.S,.S,.S,.S])] λf b d=>j9E f.1 b.1.2 (λ_=>d .normal [(0,v1 y20 f.1 .S),(3,pB 3)] [(3,⟨y19,b.1.1,b.1.2,[.S,.S,.S,.S]⟩)]) (λ_=>d .ret [(4,v1 y20 [] .O),(5,vI 2)] [])
theorem jmT:CN 0 14 Tryz.f205 j8C:=nK jdt [] oN ([0,3],[3]) [] ([4,5],[]) λ_ _ _=>by kernel_rfl
def j7a (l:List qP) (r:Int×Int×qS) (b:Unit->Res) (d:Unit->Res):Res:=bif (r.1 != 1) then j7j l λf=>j2P f r.2.1 λg=>bif !g then d () else b () else b ()
def jcd:Z1d Unit:=Nd 48 48 [.R 0 y20 .S,.t 3 (pB 3)] [(3,y19,[.S,.S,.S,.S])] λf b d=>j7a f.1 b.1.2 (λ_=>d .normal [(0,v1 y20 f.1 .S),(3,pB 3)] [(3,⟨y19,b.1.1,b.1.2,[.S,.S,.S,.S]⟩)]) (λ_=>d .ret [(4,v1 y20 [] .O),(5,vI 3)] [])
theorem jmU:CN 0 30 Tryz.f205 jcd:=nK jdt [j8C] oN ([0,3],[3]) [] ([4,5],[]) λ_ _ _=>by delta j7a jaf j5k;refine gz j7j λ_ b=>gz j2P λ_ d=> ?_;rewrite [<-b,<-d];kernel_rfl
def j3Z (l:List qP) (r:Int×Int×qS) (b:(List qP)->Int->Res):Res:=j7A l λg=>bif !g then b [] 1 else j5U r λh=>bif !h then b [] 1 else j9E l r (λ_=>j7a l r (λ_=>bif ((nI (List.length l))==400) then b [] 4 else j99 l λd=>j8e r λf=>bif lim ((List.length d)+1) then j7A (d++[f]) λi=>bif !i then b [] 5 else b (d++[f]) 0 else none) (λ_=>b [] 3)) (λ_=>b [] 2)
def jpt:Sig Unit:=sg [.borrow y20 false,.borrow y19 true] [false,false] [(y20,none),(y19,none)] [] λb g k=>j3Z b.1 b.2.1 (λd f=>k [w1 y20 d .O,wI f] [] [])
theorem jam:SO 205 jpt:=fK (np:=0) jdt [j8C,jcd] (oI 14 0 @jmT (oI 30 1 @jmU oN)) false Tryz.func205 λ_ _ _ _=>by delta j3Z jfl j92 j8C jcd jcQ jdK;refine gz j7A λ_ b=>gz j5U λ_ d=>gz j9E λ_ f=>gz j7a λ_ g=>gz j99 λ_ h=>gz j8e λ_ i=> ?_;rewrite [<-b,<-d,<-f,<-g,<-h,<-i];kernel_rfl
def jen (l:List qP) (b:Int) (d:(List qP)->Int->Res):Res:=j3Z l (1,b,0,eS,[],[],0,eS,[],[],eS,eS) λr f=>d r f
def jjW:Sig Unit:=sg [.borrow y20 false,.borrow tI false] [false,false] [(y20,none),(tI,none)] [] λb g k=>jen b.1 b.2.1 (λd f=>k [w1 y20 d .O,wI f] [] [])
theorem jpR:SO 147 jjW:=fK (np:=0) (Za6 jam Zas) [] oN false Tryz.func147 λ_ _ _ _=>by kernel_rfl
def jka (l:List qP) (b:Int) (s:qS) (d:(List qP)->Int->Res):Res:=j3Z l (2,b,s) λr f=>d r f
def jov:Sig Unit:=sg [.borrow y20 false,.borrow tI false,.borrow y17 true] [false,false] [(y20,none),(tI,none),(y17,none)] [] λb g k=>jka b.1 b.2.1 b.2.2.1 (λd f=>k [w1 y20 d .O,wI f] [] [])
theorem jsj:SO 148 jov:=fK (np:=0) (Za6 jam Zas) [] oN false Tryz.func148 λ_ _ _ _=>by kernel_rfl
def jde (l:List qP) (b:Int) (d:(List qP)->Int->Res):Res:=j3Z l (3,b,0,eS,[],[],0,eS,[],[],eS,eS) λr f=>d r f
def jiJ:Sig Unit:=sg [.borrow y20 false,.borrow tI false] [false,false] [(y20,none),(tI,none)] [] λb g k=>jde b.1 b.2.1 (λd f=>k [w1 y20 d .O,wI f] [] [])
theorem joT:SO 149 jiJ:=fK (np:=0) (Za6 jam Zas) [] oN false Tryz.func149 λ_ _ _ _=>by kernel_rfl
def jem (l:List qP) (b:Int) (d:(List qP)->Int->Res):Res:=j3Z l (4,b,0,eS,[],[],0,eS,[],[],eS,eS) λr f=>d r f
def jjV:Sig Unit:=sg [.borrow y20 false,.borrow tI false] [false,false] [(y20,none),(tI,none)] [] λb g k=>jem b.1 b.2.1 (λd f=>k [w1 y20 d .O,wI f] [] [])
theorem jpQ:SO 150 jjV:=fK (np:=0) (Za6 jam Zas) [] oN false Tryz.func150 λ_ _ _ _=>by kernel_rfl
def jhW (r:Int×Int×qS) (d:Int) (b:Bool->Res):Res:=bif (r.1==1) then b (r.2.1==d) else b false
def jqB:Sig Unit:=sg [.look y19 true,.rptr tI] [false] [(y19,none),(tI,none)] [] λb f k=>jhW b.1 b.2.1 (λd=>k [wB d] [] [])
theorem jj8:SO 304 jqB:=fK (np:=0) Zas [] oN false Tryz.func304 λ_ _ _ _=>by kernel_rfl
def j18 (s:List qP) (f:Int) (h:Int) (b:Int) (rec:Int->Res) (d:Unit->Res) (g:Int->Res):Res:=bif decide (b<h) then bif inb b (List.length s) then jhW (nth (0,0,0,eS,[],[],0,eS,[],[],eS,eS) s b) f λr=>bif r then g b else rec (Z9K (b+1)) else none else d ()
def j3S (s:List qP) (f:Int) (b:Int):Int->(Int->Res)->((Unit->Res)×(Int->Res))->Res:=λv rec q=>j18 s f b v (λd=>rec (d)) q.1 q.2
def j9I (s:List qP) (f:Int) (g:Int) (n:Nat) (h:Int) (b:Unit->Res) (d:Int->Res):Res:=Z1f (j3S s f g) n (h) (b,d)
def j9d:Z1d Unit:=NdL 19 19 [.R 0 y20 .S,.c 1 304 [tI] tI [],.I 7,.I 8] [] (λb d=>(b.2.2.2.1)) (λb v=>(b.1,b.2.1,b.2.2.1,v,())) (λd v=>()) (λb d=>j3S b.1 b.2.1 b.2.2.1) λb d f=>((λ_=>f (.exit 0) [] []),(λg=>f .ret [(4,vI g)] []))
theorem jf8:CN 0 26 Tryz.f326 j9d:=lK (Za6 jj8 Zas) [] oN ([],[]) [(0,[],[])] ([4],[]) λ_ _ _ _ _=>by kernel_rfl
def j7u (s:List qP) (f:Int) (b:Int->Res):Res:=j9I s f (nI (List.length s)) Z1c 0 (λ_=>b (-1)) (λt=>b t)
def jgJ:Sig Unit:=sg [.look y20 false,.rclos 304 [tI]] [false] [(y20,none),(tI,none)] [] λb f k=>j7u b.1 b.2.1 (λd=>k [wI d] [] [])
theorem jgu:SO 326 jgJ:=fK (np:=0) (Za6 jj8 Zas) [j9d] (oI 26 0 @jf8 oN) false Tryz.func326 λ_ _ _ _=>by kernel_rfl
def j5a (s:List qP) (f:Int) (b:Bool->Res):Res:=j7u s f λr=>b (decide (r>=0))
def jej:Sig Unit:=sg [.look y20 false,.rclos 304 [tI]] [false] [(y20,none),(tI,none)] [] λb f k=>j5a b.1 b.2.1 (λd=>k [wB d] [] [])
theorem je8:SO 303 jej:=fK (np:=0) (Za6 jgu Zas) [] oN false Tryz.func303 λ_ _ _ _=>by kernel_rfl
def jfT (l:List qP) (b:Int) (d:Bool->Res):Res:=j5a l b λr=>d r
def jkU:Sig Unit:=sg [.look y20 false,.look tI false] [false] [(y20,none),(tI,none)] [] λb f k=>jfT b.1 b.2.1 (λd=>k [wB d] [] [])
theorem jr2:SO 263 jkU:=fK (np:=0) (Za6 je8 Zas) [] oN false Tryz.func263 λ_ _ _ _=>by kernel_rfl
def jhV (x:Int) (d:Int×Int×qS) (b:Bool->Res):Res:=b (x==d.2.1)
def jqA:Sig Unit:=sg [.look tI false,.rptr y19] [false] [(tI,none),(y19,none)] [] λb f k=>jhV b.1 b.2.1 (λd=>k [wB d] [] [])
theorem jpG:SO 305 jqA:=fK (np:=0) Zas [] oN false Tryz.func305 λ_ _ _ _=>by kernel_rfl
def j0U (s:List Int) (b:Int×Int×qS) (d:(List Int)->qP->Res):Res:=bif lim (List.length s) then dgE (λe k=>jhV e b k) s [] (λr=>d r b) else none
def j3Q:Sig Unit:=⟨[.eat y21 false,.clos 305 [y19]],[false],λvals ext k=>ao vals y21 [.O] λs vals=>nl vals<|ab ext y19 [.S,.S,.S,.S] λa0 f ext=>nl ext<|j0U s f (λd b=>k [w1 y21 d .O] [] [⟨y19,a0,b,[.S,.S,.S,.S]⟩])⟩
theorem jea:Z17 Tryz.prog 225 j3Q:=gS (jtY (U:=0) (T:=220) (e:=tI) (ag:=false) (τ:=y19) (tg:=[.S,.S,.S,.S]) (fl:=[]) (S:=56) (E:=3) (I:=3) (B:=4) follows j1m (by kernel_rfl) Tryz.underlying56 (by kernel_rfl) (by kernel_rfl) (by kernel_rfl) (by kernel_rfl) Tryz.isAgg220 Tryz.sizeOf220 (by kernel_rfl) (by kernel_rfl) (by kernel_rfl) Tryz.func280 (by kernel_rfl) (by kernel_rfl) (by kernel_rfl) (by kernel_rfl) jpG (by kernel_rfl) Tryz.func225 (by kernel_rfl) (by kernel_rfl) (by kernel_rfl) (by kernel_rfl)) (by kernel_rfl)
theorem jkD:FS [(223,j0n),(225,j3Q)]:=(Za6 j33 (Za6 jea Zas))
def j41 (f:List qP) (k:Int) (b:List Int) (d:Int) (rec:(List Int)->Int->Res) (h:(List Int)->Res):Res:=bif decide (d<k) then bif inb d (List.length f) then bif ((nth (0,0,0,eS,[],[],0,eS,[],[],eS,eS) f d).1==1) then j0d b (nth (0,0,0,eS,[],[],0,eS,[],[],eS,eS) f d).2.1 λr=>bif !r then bif lim ((List.length b)+1) then rec (b++[(nth (0,0,0,eS,[],[],0,eS,[],[],eS,eS) f d).2.1]) (Z9K (d+1)) else none else rec b (Z9K (d+1)) else bif ((nth (0,0,0,eS,[],[],0,eS,[],[],eS,eS) f d).1==3) then j0U b (nth (0,0,0,eS,[],[],0,eS,[],[],eS,eS) f d) λi l=>rec i (Z9K (d+1)) else bif ((nth (0,0,0,eS,[],[],0,eS,[],[],eS,eS) f d).1==4) then j0U b (nth (0,0,0,eS,[],[],0,eS,[],[],eS,eS) f d) λj g=>rec j (Z9K (d+1)) else rec b (Z9K (d+1)) else none else h b
def j9o (d:List qP) (f:Int):((List Int)×Int)->((List Int)×Int->Res)->(((List Int)->Res))->Res:=λv rec q=>j41 d f v.1 v.2 (λb g=>rec (b,g)) q
def jjq (f:List qP) (g:Int) (n:Nat) (b:List Int) (h:Int) (d:(List Int)->Res):Res:=Z1f (j9o f g) n (b,h) (d)
def jiQ:Z1d Unit:=NdL 35 35 [.R 3 y21 .O,.R 7 y20 .S,.I 8,.I 9] [] (λb f=>(b.1,b.2.2.2.1)) (λb v=>(v.1,b.2.1,b.2.2.1,v.2,())) (λf v=>()) (λb f=>j9o b.2.1 b.2.2.1) λb f g=>((λd=>g (.exit 0) [(3,v1 y21 d .O)] []))
theorem jp8:CN 0 58 Tryz.f264 jiQ:=lK jkD [] oN ([],[]) [(0,[3],[])] ([],[]) λ_ _ _ _ _=>by delta j9o j41 j0n j3Q;refine gz j0d λ_ b=>gz j0U λ_ d=> ?_;rewrite [<-b,<-d];kernel_rfl
def jdj (l:List qP) (d:(List Int)->Res):Res:=jjq l (nI (List.length l)) Z1c [] 0 λb=>d b
def jgF:Sig Unit:=sg [.borrow y20 false] [false] [(y20,none)] [] λd f k=>jdj d.1 (λb=>k [w1 y21 b .O] [] [])
theorem jr1:SO 264 jgF:=fK (np:=0) jkD [jiQ] (oI 58 0 @jp8 oN) false Tryz.func264 λ_ _ _ _=>by kernel_rfl
def j2R (f:List qP) (h:Int) (b:List qP) (d:Int) (rec:(List qP)->Int->Res) (g:(List qP)->Res):Res:=bif decide (d<h) then bif inb d (List.length f) then j2l (nth (0,0,0,eS,[],[],0,eS,[],[],eS,eS) f d).2.2 λr=>bif lim ((List.length b)+1) then rec (b++[((nth (0,0,0,eS,[],[],0,eS,[],[],eS,eS) f d).1,(nth (0,0,0,eS,[],[],0,eS,[],[],eS,eS) f d).2.1,r)]) (Z9K (d+1)) else none else none else g b
def j8M (d:List qP) (f:Int):((List qP)×Int)->((List qP)×Int->Res)->(((List qP)->Res))->Res:=λv rec q=>j2R d f v.1 v.2 (λb g=>rec (b,g)) q
def jeQ (f:List qP) (g:Int) (n:Nat) (b:List qP) (h:Int) (d:(List qP)->Res):Res:=Z1f (j8M f g) n (b,h) (d)
def jdZ:Z1d Unit:=NdL 22 22 [.R 3 y20 .O,.R 6 y20 .S,.I 7,.I 8] [] (λb f=>(b.1,b.2.2.2.1)) (λb v=>(v.1,b.2.1,b.2.2.1,v.2,())) (λf v=>()) (λb f=>j8M b.2.1 b.2.2.1) λb f g=>((λd=>g (.exit 0) [(3,v1 y20 d .O)] []))
theorem jkh:CN 0 58 Tryz.f265 jdZ:=lK (Za6 j5r Zas) [] oN ([],[]) [(0,[3],[])] ([],[]) λ_ _ _ _ _=>by kernel_rfl
def j5e (l:List qP) (d:(List qP)->Res):Res:=jeQ l (nI (List.length l)) Z1c [] 0 λb=>d b
def jbC:Sig Unit:=sg [.borrow y20 false] [false] [(y20,none)] [] λd f k=>j5e d.1 (λb=>k [w1 y20 b .O] [] [])
theorem jlY:SO 265 jbC:=fK (np:=0) (Za6 j5r Zas) [jdZ] (oI 58 0 @jkh oN) false Tryz.func265 λ_ _ _ _=>by kernel_rfl
theorem j8D:FS [(138,j2E),(175,jgG),(216,jbD),(222,j4H),(223,j0n),(224,j2F),(263,jkU),(264,jgF),(265,jbC)]:=(Za6 jcp (Za6 jr3 (Za6 j5r (Za6 jeu (Za6 j33 (Za6 jcq (Za6 jr2 (Za6 jr1 (Za6 jlY Zas)))))))))
def jan (l:List qP) (r:Int×Int×qS) (b:Bool->Res):Res:=bif (r.1==1) then jfT l r.2.1 λd=>b d else b false
def j4c:Z1d Unit:=Nd 66 66 [.R 0 y20 .S,.t 3 (pB 3)] [(3,y19,[.S,.S,.S,.S])] λf d g=>jan f.1 d.1.2 (λb=>g .normal [(0,v1 y20 f.1 .S),(3,pB 3),(13,vB b)] [(3,⟨y19,d.1.1,d.1.2,[.S,.S,.S,.S]⟩)])
theorem jnH:CN 0 102 Tryz.f206 j4c:=nK j8D [] oN ([0,3,13],[3]) [] ([],[]) λ_ _ _=>by kernel_rfl
def j7M (l:List qP) (r:Int×Int×qS) (b:Bool->Res):Res:=bif (r.1 != 1) then jdj l λd=>j0d d r.2.1 λf=>b (!f) else b false
def j7c:Z1d Unit:=Nd 66 66 [.R 0 y20 .S,.t 3 (pB 3)] [(3,y19,[.S,.S,.S,.S])] λf d g=>j7M f.1 d.1.2 (λb=>g .normal [(0,v1 y20 f.1 .S),(3,pB 3),(23,vB b)] [(3,⟨y19,d.1.1,d.1.2,[.S,.S,.S,.S]⟩)])
theorem jnI:CN 0 414 Tryz.f206 j7c:=nK j8D [j4c] oN ([0,3,23],[3]) [] ([],[]) λ_ _ _=>by delta j7M jgF j0n;refine gz jdj λ_ b=>gz j0d λ_ d=> ?_;rewrite [<-b,<-d];kernel_rfl
def j7N (l:List qP) (r:Int×Int×qS) (b:Int->Res):Res:=Z87 (jb4 l (nI (List.length l)) λi=>Z87 (j0N l r.2.1 λm=>Z87 (j0m i m λz g A=>Z87 (Z87 (b g) (Z87 (b g) (b g))) (Z87 (Z87 (b g) (Z87 (b g) (b g))) (Z87 (Z87 (b g) (b g)) (Z87 (Z87 (b g) (b g)) (b g))))) (j0m i m λB h C=>Z87 (Z87 (b h) (b h)) (Z87 (Z87 (b h) (b h)) (b h)))) (j0N l r.2.1 λy=>j0m i y λn d p=>Z87 (Z87 (b d) (b d)) (Z87 (Z87 (b d) (b d)) (b d)))) (jb4 l (nI (List.length l)) λj=>j0N l r.2.1 λk=>j0m j k λq f w=>Z87 (Z87 (b f) (b f)) (Z87 (Z87 (b f) (b f)) (b f)))
def jcZ:Z1d Unit:=Nd 66 66 [.R 0 y20 .S,.t 3 (pB 3)] [(3,y19,[.S,.S,.S,.S])] λd b f=>j7N d.1 b.1.2 (λcode=>f .normal [(0,v1 y20 d.1 .S),(3,pB 3),(7,vI code)] [(3,⟨y19,b.1.1,b.1.2,[.S,.S,.S,.S]⟩)])
theorem jnJ:CN 0 116 Tryz.f206 jcZ:=nK j8D [j4c,j7c] oN ([0,3,7],[3]) [] ([],[]) λ_ _ _=>by delta j7N jgG j2F j2E;refine gz jb4 λ_ b=>gz j0N λ_ d=>gz j0m λ_ f=> ?_;rewrite [<-b,<-d,<-f];kernel_rfl
def jao (l:List qP) (b:Bool) (r:Int×Int×qS) (d:Unit->Res) (f:Unit->Res):Res:=bif b then j7N l r λcode=>bif (code != 0) then f () else d () else d ()
def jd0:Z1d Unit:=Nd 66 66 [.R 0 y20 .S,.t 3 (pB 3),.B 41] [(3,y19,[.S,.S,.S,.S])] λb d f=>jao b.1 b.2.1 d.1.2 (λ_=>f .normal [(0,v1 y20 b.1 .S),(3,pB 3)] [(3,⟨y19,d.1.1,d.1.2,[.S,.S,.S,.S]⟩)]) (λ_=>f .ret [(4,v1 y20 [] .O),(5,vI 5)] [])
theorem jnK:CN 0 29 Tryz.f206 jd0:=nK j8D [j4c,j7c,jcZ] (oI 4 2 @jnJ oN) ([0,3],[3]) [] ([4,5],[]) λ_ _ _=>by kernel_rfl
def j9p (l:List qP) (r:Int×Int×qS) (b:(List qP)->Int->Res):Res:=j2K r λh=>bif !h then b [] 1 else jan l r λt=>bif t then b [] 2 else j7M l r λi=>bif i then b [] 3 else bif decide ((nI (List.length l))>=400) then b [] 4 else jao l (r.1==3) r (λ_=>j2l r.2.2 λd=>Z87 (j5e l λf=>bif lim ((List.length f)+1) then b (f++[(r.1,r.2.1,d)]) 0 else none) (j5e l λg=>bif lim ((List.length g)+1) then b (g++[(r.1,r.2.1,d)]) 0 else none)) (λ_=>b [] 5)
def jjM:Sig Unit:=sg [.borrow y20 false,.borrow y19 true] [false,false] [(y20,none),(y19,none)] [] λb g k=>j9p b.1 b.2.1 (λd f=>k [w1 y20 d .O,wI f] [] [])
theorem jj9:SO 206 jjM:=fK (np:=0) j8D [j4c,j7c,jcZ,jd0] (oI 102 0 @jnH (oI 414 1 @jnI (oI 29 3 @jnK oN))) false Tryz.func206 λ_ _ _ _=>by delta j9p j4H j4c j7c jd0 jbD jbC;refine gz j2K λ_ b=>gz jan λ_ d=>gz j7M λ_ f=>gz jao λ_ g=>gz j2l λ_ h=>gz j5e λ_ i=> ?_;rewrite [<-b,<-d,<-f,<-g,<-h,<-i];kernel_rfl
end
end Go.PI.G
namespace Go.PI.G
noncomputable section
open Go Go.PI Go.Proofs
open Go.Code (pl pr)
def j9C (l:List qP) (r:Int×Int×qS) (b:(List qP)->Int->Res):Res:=bif (r.1==1) then jen l r.2.1 λd f=>b d f else bif (r.1==2) then jka l r.2.1 r.2.2 λg h=>b g h else bif (r.1==3) then jde l r.2.1 λi j=>b i j else bif (r.1==4) then jem l r.2.1 λk m=>b k m else b [] 1
def jfj:Sig Unit:=sg [.borrow y20 false,.borrow y19 true] [false,false] [(y20,none),(y19,none)] [] λb g k=>j9C b.1 b.2.1 (λd f=>k [w1 y20 d .O,wI f] [] [])
theorem jpS:SO 76 jfj:=fK (np:=0) (Za6 jpR (Za6 jsj (Za6 joT (Za6 jpQ Zas)))) [] oN false Tryz.func76 λ_ _ _ _=>by delta j9C jjW jov jiJ jjV;refine gz jen λ_ b=>gz jka λ_ d=>gz jde λ_ f=>gz jem λ_ g=> ?_;rewrite [<-b,<-d,<-f,<-g];kernel_rfl
def jap (b:Bool) (r:Int×Int×qS) (x:Int×Int×qS) (d:qP->Res):Res:=bif b then d (x.1,x.2.1,r.2.2) else d x
def jd1:Z1d Unit:=λσ k=>rdN σ 23<|rd1 σ 0 y20 .S λl=>rdT σ 3 (pB 3)<|rdT σ 6 (pB 6)<|rdO σ 14 λb=>rdB σ 3 y19 [.S,.S,.S,.S] λa r=>rdB σ 6 y19 [.O,.O,.O,.O] λd x=>jap b r x (λf=>k .normal (mkS 23 23 [(0,v1 y20 l .S),(6,pB 6)] [(6,⟨y19,d,f,[.S,.S,.S,.S]⟩)]))
theorem jnL:CN 0 29 Tryz.f151 jd1:=λg=>jjv follows j1m (Za6 jj9 Zas) g [] oN ([0,6],[6]) [] ([],[]) [(0,[],[(6,[.S,.S,.S,.S])])] λσ k _ h=>rN h λp h=>rV h λl i h=>rT h λj h=>rT h λn h=>rV h λq b h=>rB h λa r d h=>rB h λw x f h=>⟨_,ZaM (m:=23) p (sC i (sC j (sC n (sC b sN)))) (bC d (bC f bN)),.trans (by kernel_rfl) h⟩
def j9q (l:List qP) (r:Int×Int×qS) (b:(List qP)->Int->Res):Res:=jap (r.1==2) r (r.1,r.2.1,0,eS,[],[],0,eS,[],[],eS,eS) λx=>j9p l x λd f=>b d f
def jjN:Sig Unit:=sg [.borrow y20 false,.borrow y19 true] [false,false] [(y20,none),(y19,none)] [] λb g k=>j9q b.1 b.2.1 (λd f=>k [w1 y20 d .O,wI f] [] [])
theorem jpI:SO 151 jjN:=fK (np:=0) (Za6 jj9 Zas) [jd1] (oI 29 0 @jnL oN) false Tryz.func151 λ_ _ _ _=>by delta j9q jd1 jjM;refine gz jap λ_ b=>gz j9p λ_ d=> ?_;rewrite [<-b,<-d];kernel_rfl
def j5y (l:List qP) (r:Int×Int×qS) (b:(List qP)->Int->Res):Res:=jbk l λd=>bif !d then b [] 1 else j9q l r λf g=>b f g
def jbA:Sig Unit:=sg [.borrow y20 false,.borrow y19 true] [false,false] [(y20,none),(y19,none)] [] λb g k=>j5y b.1 b.2.1 (λd f=>k [w1 y20 d .O,wI f] [] [])
theorem jpE:SO 78 jbA:=fK (np:=0) (Za6 jpF (Za6 jpI Zas)) [] oN false Tryz.func78 λ_ _ _ _=>by delta j5y jjL jjN;refine gz jbk λ_ b=>gz j9q λ_ d=> ?_;rewrite [<-b,<-d];kernel_rfl
end
end Go.PI.G
namespace Go.PI.G
noncomputable section
open Go Go.PI Go.Proofs
open Go.Code (pl pr)
def jbt (a:Int×Int×qB) (left:Int) (b:Int->Res):Res:=bif decide ((Z9K (left-(nI (ByteArray.size a.2.2))))<0) then b (-1) else b (Z9K (left-(nI (ByteArray.size a.2.2))))
def jqG:Sig Unit:=sg [.look y2 true,.look tI false] [false] [(y2,none),(tI,none)] [] λb f k=>jbt b.1 b.2.1 (λd=>k [wI d] [] [])
theorem jeB:SO 105 jqG:=fK (np:=0) Zas [] oN false Tryz.func105 λ_ _ _ _=>by kernel_rfl
def jbv (a:Int×Int×qB) (b:qV->Res):Res:=b (a.1,a.2.1,a.2.2)
def jqI:Sig Unit:=sg [.look y2 true] [true] [(y2,none)] [] λd f k=>jbv d.1 (λb=>k [⟨y2,true,b,[]⟩] [] [])
theorem jeD:SO 106 jqI:=fK (np:=0) Zas [] oN false Tryz.func106 λ_ _ _ _=>by kernel_rfl
def jbr (a:Int×Int×qB) (b:Int×Int×qB) (d:Bool->Res):Res:=bif (a.1 != b.1) then d false else bif (a.2.1 != b.2.1) then d false else bif sNe a.2.2 b.2.2 then d false else d true
def jqE:Sig Unit:=sg [.look y2 true,.look y2 true] [false] [(y2,none),(y2,none)] [] λb f k=>jbr b.1 b.2.1 (λd=>k [wB d] [] [])
theorem jez:SO 107 jqE:=fK (np:=0) Zas [] oN false Tryz.func107 λ_ _ _ _=>by kernel_rfl
end
end Go.PI.G
namespace Go.PI.G
noncomputable section
open Go Go.PI Go.Proofs
open Go.Code (pl pr)
def jee (a:qB×Int×Bool×Bool×Int×Int×qB) (left:Int) (b:Int->Res):Res:=bif decide ((Z9K (left-(nI (ByteArray.size a.1))))<0) then b (-1) else jbt a.2.2.2.2 (Z9K (left-(nI (ByteArray.size a.1)))) λr=>bif decide (r<0) then b (-1) else b r
def jqF:Sig Unit:=sg [.look y7 true,.look tI false] [false] [(y7,none),(tI,none)] [] λb f k=>jee b.1 b.2.1 (λd=>k [wI d] [] [])
theorem jjc:SO 285 jqF:=fK (np:=0) (Za6 jeB Zas) [] oN false Tryz.func285 λ_ _ _ _=>by kernel_rfl
def jef (a:qB×Int×Bool×Bool×Int×Int×qB) (b:qC->Res):Res:=jbv a.2.2.2.2 λr=>b (a.1,a.2.1,a.2.2.1,a.2.2.2.1,r)
def jqH:Sig Unit:=sg [.look y7 true] [true] [(y7,none)] [] λd f k=>jef d.1 (λb=>k [⟨y7,true,b,[]⟩] [] [])
theorem jjd:SO 292 jqH:=fK (np:=0) (Za6 jeD Zas) [] oN false Tryz.func292 λ_ _ _ _=>by kernel_rfl
def jed (a:qB×Int×Bool×Bool×Int×Int×qB) (b:qB×Int×Bool×Bool×Int×Int×qB) (d:Bool->Res):Res:=bif sNe a.1 b.1 then d false else bif (a.2.1 != b.2.1) then d false else bif !(a.2.2.1==b.2.2.1) then d false else bif !(a.2.2.2.1==b.2.2.2.1) then d false else jbr a.2.2.2.2 b.2.2.2.2 λr=>bif !r then d false else d true
def jqD:Sig Unit:=sg [.look y7 true,.look y7 true] [false] [(y7,none),(y7,none)] [] λb f k=>jed b.1 b.2.1 (λd=>k [wB d] [] [])
theorem jja:SO 302 jqD:=fK (np:=0) (Za6 jez Zas) [] oN false Tryz.func302 λ_ _ _ _=>by kernel_rfl
end
end Go.PI.G
namespace Go.PI.G
noncomputable section
open Go Go.PI Go.Proofs
open Go.Code (pl pr)
def j2V (d:Int) (b:qB) (rec:Int->qB->Res) (f:qB->Res):Res:=bif decide (d>0) then bif lim ((ByteArray.size (Z3B [wu8 (Z9K (48+(Int.tmod d 10)))]))+(ByteArray.size b)) then rec (Z9K (Int.tdiv d 10)) ((Z3B [wu8 (Z9K (48+(Int.tmod d 10)))])++b) else none else f b
def j5L:(Int×qB)->(Int×qB->Res)->((qB->Res))->Res:=λv rec q=>j2V v.1 v.2 (λd b=>rec (d,b)) q
def jf1 (n:Nat) (f:Int) (b:qB) (d:qB->Res):Res:=Z1f (j5L) n (f,b) (d)
def je6:Z1d Unit:=NdL 20 20 [.I 0,.S 3] [] (λd f=>(d.1,d.2.1)) (λd v=>(v.1,v.2,())) (λf v=>()) (λd f=>j5L) λd f g=>((λb=>g (.exit 0) [(3,vS b)] []))
theorem jky:CN 0 60 Tryz.f110 je6:=lK Zas [] oN ([],[]) [(0,[3],[])] ([],[]) λ_ _ _ _ _=>by kernel_rfl
def j06 (f:Int) (d:qB->Res):Res:=bif decide (f<=0) then d juE else jf1 Z1c f eS λb=>bif lim (1+(ByteArray.size b)) then d (z_m++b) else none
def j23:Sig Unit:=sg [.look tI false] [false] [(tI,none)] [] λd f k=>j06 d.1 (λb=>k [wS b] [] [])
theorem j0c:SO 110 j23:=fK (np:=0) Zas [je6] (oI 60 0 @jky oN) false Tryz.func110 λ_ _ _ _=>by kernel_rfl
end
end Go.PI.G
