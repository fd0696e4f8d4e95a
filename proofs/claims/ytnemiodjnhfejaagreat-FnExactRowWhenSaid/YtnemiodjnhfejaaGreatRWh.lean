/-
  Program's code interpreted over typed values; printed texts; plain laws. No conditions.
-/
import Derived.Test.YtnemiodjnhfejaaGreatRWd
import Derived.Test.YtnemiodjnhfejaaGreatRWe
import Derived.Test.YtnemiodjnhfejaaGreatRWf
import Derived.Test.YtnemiodjnhfejaaGreatRWg
set_option linter.unusedVariables false
set_option maxRecDepth 100000
namespace Go.PI.G
noncomputable section
open Go Go.PI Go.Proofs
open Go.Code (pl pr)
def j6z (s:qS) (b:Bool->Res):Res:=bif (s.1==0) then bif sEq s.2.1 eS then bif ((nI (List.length s.2.2.1))==0) then bif ((nI (List.length s.2.2.2.1))==0) then j1u s.2.2.2.2 λr=>b r else b false else b false else b false else b false
def j9P:Sig Unit:=sg [.look y17 true] [false] [(y17,none)] [] λd f k=>j6z d.1 (λb=>k [wB b] [] [])
theorem jjv:SO 276 j9P:=fK (np:=0) (Za6 jeq Zas) [] oN false Tryz.func276 λ_ _ _ _=>by kernel_rfl
theorem jht:FS [(155,j7f),(276,j9P)]:=(Za6 jh2 (Za6 jjv Zas))
def j9z (r:Int×Int×qS) (b:Bool->Res):Res:=bif decide (r.1<1) then b true else bif decide (r.1>4) then b true else bif decide (r.2.1<1) then b true else b (decide (r.2.1>1000000))
def jc5:Z1d Unit:=Nd 30 30 [.t 1 (pB 1)] [(1,y19,[.S,.S,.S,.S])] λg d f=>j9z d.1.2 (λb=>f .normal [(1,pB 1),(20,vB b)] [(1,⟨y19,d.1.1,d.1.2,[.S,.S,.S,.S]⟩)])
theorem jlW:CN 0 12 Tryz.f218 jc5:=nK jht [] oN ([1,20],[1]) [] ([],[]) λ_ _ _=>by kernel_rfl
def j8H (r:Int×Int×qS) (b:Bool->Res):Res:=j9z r λt=>bif t then b false else bif (r.1==2) then j3w r.2.2 λd=>b d else j6z r.2.2 λf=>b f
def je3:Sig Unit:=sg [.look y19 true] [false] [(y19,none)] [] λd f k=>j8H d.1 (λb=>k [wB b] [] [])
theorem jnJ:SO 218 je3:=fK (np:=0) jht [jc5] (oI 12 0 @jlW oN) false Tryz.func218 λ_ _ _ _=>by delta j8H jc5 j7f j9P;refine gz j9z λ_ b=>gz j3w λ_ d=>gz j6z λ_ f=> ?_;rewrite [<-b,<-d,<-f];kernel_rfl
def j6v (f:Int) (d:List qP) (i:Int) (b:Int) (rec:Int->Res) (g:Unit->Res) (h:Unit->Res):Res:=bif decide (b<i) then bif inb b (List.length d) then bif ((nth (0,0,0,eS,[],[],0,eS,[],[],eS,eS) d b).1==1) then bif ((nth (0,0,0,eS,[],[],0,eS,[],[],eS,eS) d b).2.1==f) then h () else rec (Z9K (b+1)) else rec (Z9K (b+1)) else none else g ()
def jbX (b:Int) (d:List qP) (f:Int):Int->(Int->Res)->((Unit->Res)×(Unit->Res))->Res:=λv rec q=>j6v b d f v (λg=>rec (g)) q.1 q.2
def jio (b:Int) (g:List qP) (h:Int) (n:Nat) (i:Int) (d:Unit->Res) (f:Unit->Res):Res:=Z1f (jbX b g h) n (i) (d,f)
def jhl:Z1d Unit:=NdL 23 23 [.I 1,.R 7 y20 .S,.I 8,.I 9] [] (λb d=>(b.2.2.2.1)) (λb v=>(b.1,b.2.1,b.2.2.1,v,())) (λd v=>()) (λb d=>jbX b.1 b.2.1 b.2.2.1) λb d f=>((λ_=>f (.exit 0) [] []),(λ_=>f .ret [(4,vB true)] []))
theorem jng:CN 0 26 Tryz.f219 jhl:=lK Zas [] oN ([],[]) [(0,[],[])] ([4],[]) λ_ _ _ _ _=>by kernel_rfl
def jco (l:List qP) (b:Int) (d:Bool->Res):Res:=jio b l (nI (List.length l)) Z1c 0 (λ_=>d false) (λ_=>d true)
def jfq:Sig Unit:=sg [.look y20 false,.look tI false] [false] [(y20,none),(tI,none)] [] λb f k=>jco b.1 b.2.1 (λd=>k [wB d] [] [])
theorem joY:SO 219 jfq:=fK (np:=0) Zas [jhl] (oI 26 0 @jng oN) false Tryz.func219 λ_ _ _ _=>by kernel_rfl
def j4r (h:Int) (d:List Int) (i:Int) (b:Int) (rec:Int->Res) (f:Unit->Res) (g:Unit->Res):Res:=bif decide (b<i) then bif inb b (List.length d) then bif ((nth 0 d b)==h) then g () else rec (Z9K (b+1)) else none else f ()
def j9W (b:Int) (d:List Int) (f:Int):Int->(Int->Res)->((Unit->Res)×(Unit->Res))->Res:=λv rec q=>j4r b d f v (λg=>rec (g)) q.1 q.2
def jge (f:Int) (g:List Int) (h:Int) (n:Nat) (i:Int) (b:Unit->Res) (d:Unit->Res):Res:=Z1f (j9W f g h) n (i) (b,d)
def jf7:Z1d Unit:=NdL 17 17 [.I 1,.R 7 y21 .S,.I 8,.I 9] [] (λb d=>(b.2.2.2.1)) (λb v=>(b.1,b.2.1,b.2.2.1,v,())) (λd v=>()) (λb d=>j9W b.1 b.2.1 b.2.2.1) λb d f=>((λ_=>f (.exit 0) [] []),(λ_=>f .ret [(4,vB true)] []))
theorem jl6:CN 0 26 Tryz.f168 jf7:=lK Zas [] oN ([],[]) [(0,[],[])] ([4],[]) λ_ _ _ _ _=>by kernel_rfl
def j5v (l:List Int) (d:Int) (b:Bool->Res):Res:=jge d l (nI (List.length l)) Z1c 0 (λ_=>b false) (λ_=>b true)
def j9y:Sig Unit:=sg [.look y21 false,.look tI false] [false] [(y21,none),(tI,none)] [] λb f k=>j5v b.1 b.2.1 (λd=>k [wB d] [] [])
theorem jh4:SO 168 j9y:=fK (np:=0) Zas [jf7] (oI 26 0 @jl6 oN) false Tryz.func168 λ_ _ _ _=>by kernel_rfl
def j4q (i:Int) (g:List Int) (f:Int) (d:List Int) (b:Int) (rec:(List Int)->Int->Res) (h:(List Int)->Res):Res:=bif decide (b<f) then bif inb b (List.length g) then bif ((nth 0 g b) != i) then bif lim ((List.length d)+1) then rec (d++[nth 0 g b]) (Z9K (b+1)) else none else rec d (Z9K (b+1)) else none else h d
def j9V (g:Int) (h:List Int) (d:Int):((List Int)×Int)->((List Int)×Int->Res)->(((List Int)->Res))->Res:=λv rec q=>j4q g h d v.1 v.2 (λb f=>rec (b,f)) q
def jgd (h:Int) (i:List Int) (d:Int) (n:Nat) (b:List Int) (f:Int) (g:(List Int)->Res):Res:=Z1f (j9V h i d) n (b,f) (g)
def jf6:Z1d Unit:=NdL 24 24 [.I 1,.R 5 y21 .O,.R 9 y21 .S,.I 10,.I 11] [] (λb f=>(b.2.1,b.2.2.2.2.1)) (λb v=>(b.1,v.1,b.2.2.1,b.2.2.2.1,v.2,())) (λf v=>()) (λb f=>j9V b.1 b.2.2.1 b.2.2.2.1) λb f g=>((λd=>g (.exit 0) [(5,v1 y21 d .O)] []))
theorem jl5:CN 0 58 Tryz.f277 jf6:=lK Zas [] oN ([],[]) [(0,[5],[])] ([],[]) λ_ _ _ _ _=>by kernel_rfl
def j7r (l:List Int) (f:Int) (d:(List Int)->Res):Res:=jgd f l (nI (List.length l)) Z1c [] 0 λb=>d b
def jcJ:Sig Unit:=sg [.borrow y21 false,.borrow tI false] [false] [(y21,none),(tI,none)] [] λb f k=>j7r b.1 b.2.1 (λd=>k [w1 y21 d .O] [] [])
theorem jmW:SO 277 jcJ:=fK (np:=0) Zas [jf6] (oI 58 0 @jl5 oN) false Tryz.func277 λ_ _ _ _=>by kernel_rfl
theorem jf8:FS [(168,j9y),(277,jcJ)]:=(Za6 jh4 (Za6 jmW Zas))
def jaZ (b:List Int) (r:Int×Int×qS) (d:(List Int)->Res):Res:=bif (r.1==1) then j5v b r.2.1 λf=>bif !f then bif lim ((List.length b)+1) then d (b++[r.2.1]) else none else d b else d b
def j9B:Z1d Unit:=Nd 42 42 [.R 3 y21 .O,.t 5 (pB 5),.R 7 y20 .S,.I 8,.I 9] [(5,y19,[.S,.S,.S,.S])] λd f g=>jaZ d.1 f.1.2 (λb=>g .normal [(3,v1 y21 b .O),(5,pB 5),(7,v1 y20 d.2.1 .S),(8,vI d.2.2.1),(9,vI d.2.2.2.1)] [(5,⟨y19,f.1.1,f.1.2,[.S,.S,.S,.S]⟩)])
theorem jnf:CN 0 7474 Tryz.f220 j9B:=nK jf8 [] oN ([3,5,7,8,9],[5]) [] ([],[]) λ_ _ _=>by kernel_rfl
def j3F (f:List qP) (j:Int) (g:List Int) (d:Int) (rec:(List Int)->Int->Res) (h:(List Int)->Res):Res:=bif decide (d<j) then bif inb d (List.length f) then jaZ g (nth (0,0,0,eS,[],[],0,eS,[],[],eS,eS) f d) λb=>bif ((nth (0,0,0,eS,[],[],0,eS,[],[],eS,eS) f d).1==3) then j7r b (nth (0,0,0,eS,[],[],0,eS,[],[],eS,eS) f d).2.1 λr=>rec r (Z9K (d+1)) else bif ((nth (0,0,0,eS,[],[],0,eS,[],[],eS,eS) f d).1==4) then j7r b (nth (0,0,0,eS,[],[],0,eS,[],[],eS,eS) f d).2.1 λi=>rec i (Z9K (d+1)) else rec b (Z9K (d+1)) else none else h g
def j8G (d:List qP) (f:Int):((List Int)×Int)->((List Int)×Int->Res)->(((List Int)->Res))->Res:=λv rec q=>j3F d f v.1 v.2 (λb g=>rec (b,g)) q
def jin (f:List qP) (g:Int) (n:Nat) (b:List Int) (h:Int) (d:(List Int)->Res):Res:=Z1f (j8G f g) n (b,h) (d)
def jhk:Z1d Unit:=NdL 42 42 [.R 3 y21 .O,.R 7 y20 .S,.I 8,.I 9] [] (λb f=>(b.1,b.2.2.2.1)) (λb v=>(v.1,b.2.1,b.2.2.1,v.2,())) (λf v=>()) (λb f=>j8G b.2.1 b.2.2.1) λb f g=>((λd=>g (.exit 0) [(3,v1 y21 d .O)] []))
theorem jne:CN 0 58 Tryz.f220 jhk:=lK jf8 [j9B] (oI 114 0 @jnf oN) ([],[]) [(0,[3],[])] ([],[]) λ_ _ _ _ _=>by delta j8G j3F j9B jcJ;refine gz jaZ λ_ b=>gz j7r λ_ d=> ?_;rewrite [<-b,<-d];kernel_rfl
def jaj (l:List qP) (d:(List Int)->Res):Res:=jin l (nI (List.length l)) Z1c [] 0 λb=>d b
def jfp:Sig Unit:=sg [.borrow y20 false] [false] [(y20,none)] [] λd f k=>jaj d.1 (λb=>k [w1 y21 b .O] [] [])
theorem joX:SO 220 jfp:=fK (np:=0) jf8 [j9B,jhk] (oI 58 1 @jne oN) false Tryz.func220 λ_ _ _ _=>by kernel_rfl
def jb4 (s:qS) (b:qS->Res):Res:=bif lim (0+(List.length s.2.2.1)) then j0h s.2.2.2.1 λr=>bif lim (0+(List.length s.2.2.2.2.2.2.1)) then bif lim (0+(List.length s.2.2.2.2.2.2.2.1)) then b (s.1,s.2.1,s.2.2.1,r,s.2.2.2.2.1,s.2.2.2.2.2.1,s.2.2.2.2.2.2.1,s.2.2.2.2.2.2.2.1,s.2.2.2.2.2.2.2.2) else none else none else none
def jm7:Sig Unit:=sg [.borrow y17 true] [true] [(y17,none)] [] λd f k=>jb4 d.1 (λb=>k [⟨y17,true,b,[.O,.O,.O,.O]⟩] [] [])
theorem jfR:SO 158 jm7:=fK (np:=0) (Za6 j2X Zas) [] oN false Tryz.func158 λ_ _ _ _=>by kernel_rfl
def j3d (h:Int) (f:List qP) (g:Int) (d:List qS) (b:Int) (rec:qU->Int->Res) (i:qU->Res):Res:=bif decide (b<g) then bif inb b (List.length f) then bif ((nth (0,0,0,eS,[],[],0,eS,[],[],eS,eS) f b).1==2) then bif ((nth (0,0,0,eS,[],[],0,eS,[],[],eS,eS) f b).2.1==h) then jb4 (nth (0,0,0,eS,[],[],0,eS,[],[],eS,eS) f b).2.2 λr=>bif lim ((List.length d)+1) then rec (d++[r]) (Z9K (b+1)) else none else rec d (Z9K (b+1)) else rec d (Z9K (b+1)) else none else i d
def j8Z (g:Int) (h:List qP) (d:Int):(qU×Int)->(qU×Int->Res)->((qU->Res))->Res:=λv rec q=>j3d g h d v.1 v.2 (λb f=>rec (b,f)) q
def jeK (g:Int) (i:List qP) (d:Int) (n:Nat) (b:List qS) (f:Int) (h:qU->Res):Res:=Z1f (j8Z g i d) n (b,f) (h)
def jeb:Z1d Unit:=NdL 32 32 [.I 1,.R 5 y27 .O,.R 9 y20 .S,.I 10,.I 11] [] (λb f=>(b.2.1,b.2.2.2.2.1)) (λb v=>(b.1,v.1,b.2.2.1,b.2.2.2.1,v.2,())) (λf v=>()) (λb f=>j8Z b.1 b.2.2.1 b.2.2.2.1) λb f g=>((λd=>g (.exit 0) [(5,v1 y27 d .O)] []))
theorem jjV:CN 0 58 Tryz.f221 jeb:=lK (Za6 jfR Zas) [] oN ([],[]) [(0,[5],[])] ([],[]) λ_ _ _ _ _=>by kernel_rfl
def j6u (l:List qP) (d:Int) (f:qU->Res):Res:=jeK d l (nI (List.length l)) Z1c [] 0 λb=>f b
def jbT:Sig Unit:=sg [.borrow y20 false,.borrow tI false] [false] [(y20,none),(tI,none)] [] λb f k=>j6u b.1 b.2.1 (λd=>k [w1 y27 d .O] [] [])
theorem jlx:SO 221 jbT:=fK (np:=0) (Za6 jfR Zas) [jeb] (oI 58 0 @jjV oN) false Tryz.func221 λ_ _ _ _=>by kernel_rfl
theorem j8n:FS [(133,jbR),(168,j9y),(218,je3),(219,jfq),(220,jfp),(221,jbT)]:=(Za6 jlu (Za6 jh4 (Za6 jnJ (Za6 joY (Za6 joX (Za6 jlx Zas))))))
def j2T (l:List qP) (i:Int) (r:Int×Int×qS) (b:Bool->Res):Res:=j8H r λd=>bif !d then b true else bif (r.1==1) then bif Z8e 0 i (List.length l) then jco (sub l 0 i) r.2.1 λf=>bif f then b true else bif (r.1 != 1) then bif Z8e 0 i (List.length l) then jaj (sub l 0 i) λg=>j5v g r.2.1 λh=>b (!h) else none else b false else none else bif (r.1 != 1) then bif Z8e 0 i (List.length l) then jaj (sub l 0 i) λj=>j5v j r.2.1 λk=>b (!k) else none else b false
def j4w:Z1d Unit:=Nd 74 74 [.R 0 y20 .S,.t 2 (pB 2),.t 4 (pB 4),.I 5,.t 6 (pB 6),.R 11 y20 .S,.I 12,.I 13] [(2,y33,[.O,.O]),(4,y33,[.N,.N]),(6,y19,[.S,.S,.S,.S])] λb d g=>j2T b.1 b.2.1 d.2.2.1.2 (λf=>g .normal [(0,v1 y20 b.1 .S),(2,pB 2),(4,pB 4),(5,vI b.2.1),(6,pB 6),(11,v1 y20 b.2.2.1 .S),(12,vI b.2.2.2.1),(13,vI b.2.2.2.2.1),(48,vB f)] [(2,⟨y33,d.1.1,d.1.2,[.O,.O]⟩),(4,⟨y33,d.2.1.1,d.2.1.2,[.N,.N]⟩),(6,⟨y19,d.2.2.1.1,d.2.2.1.2,[.S,.S,.S,.S]⟩)])
theorem jk4:CN 0 14948 Tryz.f169 j4w:=nK j8n [] oN ([0,2,4,5,6,11,12,13,48],[2,4,6]) [] ([],[]) λ_ _ _=>by delta j2T je3 jfq jfp j9y;refine gz j8H λ_ b=>gz jco λ_ d=>gz jaj λ_ f=>gz j5v λ_ g=> ?_;rewrite [<-b,<-d,<-f,<-g];kernel_rfl
def j2U (l:List qP) (i:Int) (d:qF×List qR) (r:Int×Int×qS) (b:Int->qD->Res):Res:=bif Z8e 0 i (List.length l) then Z87 (j6u (sub l 0 i) r.2.1 λn=>Z87 (j2H d n λg h w=>Z87 (Z87 (b h g) (Z87 (b h g) (b h g))) (Z87 (Z87 (b h g) (Z87 (b h g) (b h g))) (Z87 (Z87 (b h g) (b h g)) (Z87 (Z87 (b h g) (b h g)) (b h g))))) (j2H d n λj k y=>Z87 (Z87 (b k j) (b k j)) (Z87 (Z87 (b k j) (b k j)) (b k j)))) (j6u (sub l 0 i) r.2.1 λq=>j2H d q λm f p=>Z87 (Z87 (b f m) (b f m)) (Z87 (Z87 (b f m) (b f m)) (b f m))) else none
def j75:Z1d Unit:=Nd 74 74 [.R 0 y20 .S,.t 2 (pB 2),.t 4 (pB 4),.I 5,.t 6 (pB 6),.R 11 y20 .S,.I 12,.I 13] [(2,y33,[.O,.O]),(4,y33,[.N,.N]),(6,y19,[.S,.S,.S,.S])] λb d f=>j2U b.1 b.2.1 d.2.1.2 d.2.2.1.2 (λcode next=>f .normal [(0,v1 y20 b.1 .S),(2,pB 2),(4,pB 4),(7,pB 7),(8,vI code),(11,v1 y20 b.2.2.1 .S),(12,vI b.2.2.2.1),(13,vI b.2.2.2.2.1)] [(2,⟨y33,d.1.1,d.1.2,[.O,.O]⟩),(4,⟨y33,d.2.1.1,d.2.1.2,[.N,.N]⟩),(7,⟨y33,false,next,[.N,.N]⟩)])
theorem jk5:CN 0 59804 Tryz.f169 j75:=nK j8n [j4w] oN ([0,2,4,7,8,11,12,13],[2,4,7]) [] ([],[]) λ_ _ _=>by delta j2U jbT jbR;refine gz j6u λ_ b=>gz j2H λ_ d=> ?_;rewrite [<-b,<-d];kernel_rfl
def j25 (l:List qP) (f:List qP) (g:Int) (b:Int) (d:qF×List qR) (rec:Int->qD->Res) (i:qD->Res) (h:Unit->Res):Res:=bif decide (b<g) then bif inb b (List.length f) then j2T l b (nth (0,0,0,eS,[],[],0,eS,[],[],eS,eS) f b) λt=>bif t then h () else bif ((nth (0,0,0,eS,[],[],0,eS,[],[],eS,eS) f b).1==3) then j2U l b d (nth (0,0,0,eS,[],[],0,eS,[],[],eS,eS) f b) λcode next=>bif (code != 0) then h () else rec (Z9K (b+1)) next else rec (Z9K (b+1)) d else none else i d
def j5J (l:List qP) (b:List qP) (f:Int):(Int×qD)->(Int×qD->Res)->((qD->Res)×(Unit->Res))->Res:=λv rec q=>j25 l b f v.1 v.2 (λg d=>rec (g,d)) q.1 q.2
def jb3 (l:List qP) (b:List qP) (f:Int) (n:Nat) (g:Int) (d:qF×List qR) (h:qD->Res) (i:Unit->Res):Res:=Z1f (j5J l b f) n (g,d) (h,i)
def je6:Z1d Unit:=λσ k=>rdN σ 74<|rd1 σ 0 y20 .S λl=>rdT σ 2 (pB 2)<|rdT σ 4 (pB 4)<|rd1 σ 11 y20 .S λb=>rdI σ 12 λf=>rdI σ 13 λg=>rdB σ 2 y33 [.O,.O] λa j=>rdB σ 4 y33 [.N,.N] λh d=>jb3 l b f Z1c g d (λi=>k (.exit 0) (mkS 74 74 [(0,v1 y20 l .S),(2,pB 2),(4,pB 4)] [(2,⟨y33,a,j,[.O,.O]⟩),(4,⟨y33,h,i,[.N,.N]⟩)])) (λ_=>k .ret (mkS 74 74 [(2,pB 2),(3,vB false)] [(2,⟨y33,a,([],[]),[.O,.O]⟩)]))
def jef:Z1d Unit:=λσ k=>je6 (σ.wk [] [(4,[.N,.N])]) k
theorem jk3:CN 0 58 Tryz.f169 jef:=λq=>ZaJ [] [(4,[.N,.N])] (jnx follows j1v j8n q [j4w,j75] (oI 228 0 @jk4 (oI 924 1 @jk5 oN)) [0,2,4,11,12,13] [2,4] ([],[]) [(0,[0,2,4],[2,4])] ([2,3],[2]) (y:=je6) λσ k _ h=>rN h λG h=>rV h λl D h=>rT h λE h=>rT h λF h=>rV h λb g h=>rV h λf i h=>rV h λr j h=>rB h λa z n h=>rB h λw d p h=>⟨_,ZaM (m:=74) G (sC D (sC E (sC F (sC g (sC i (sC j sN)))))) (bC n (bC p bN)),.trans (Z9u (λv:Int×qD=>(mkS 74 74 [(0,v1 y20 l .S),(2,pB 2),(4,pB 4),(11,v1 y20 b .S),(12,vI f),(13,vI v.1)] [(2,⟨y33,a,z,[.O,.O]⟩),(4,⟨y33,w,v.2,[.N,.N]⟩)])) (j5J l b f) (λ(k:Z83 Unit)=>(((λA=>k (.exit 0) (mkS 74 74 [(0,v1 y20 l .S),(2,pB 2),(4,pB 4)] [(2,⟨y33,a,z,[.O,.O]⟩),(4,⟨y33,w,A,[.N,.N]⟩)])),(λ_=>k .ret (mkS 74 74 [(2,pB 2),(3,vB false)] [(2,⟨y33,a,([],[]),[.O,.O]⟩)]))):(qD->Res)×(Unit->Res))) (λv rec k=>by delta j5J j25 j4w j75;refine gz j2T λ_ B=>gz j2U λ_ C=> ?_;rewrite [<-B,<-C];kernel_rfl) Z1c (r,d) k) h⟩)
def j6A (l:List qP) (b:qD->Bool->Res):Res:=jb3 l l (nI (List.length l)) Z1c 0 ([],[]) (λd=>b d (decide ((nI (List.length l))<=400))) (λ_=>b ([],[]) false)
def jbV:Sig Unit:=sg [.borrow y20 false] [true,false] [(y20,none)] [] λf g k=>j6A f.1 (λb d=>k [⟨y33,true,b,[.S,.S]⟩,wB d] [] [])
theorem jfQ:SO 169 jbV:=fK (np:=0) j8n [j4w,j75,jef] (oI 58 2 @jk3 oN) true Tryz.func169 λ_ _ _ _=>by kernel_rfl
def jdk (l:List qP) (b:Bool->Res):Res:=bif decide ((nI (List.length l))>400) then b false else j6A l λr d=>b d
def jii:Sig Unit:=sg [.look y20 false] [false] [(y20,none)] [] λd f k=>jdk d.1 (λb=>k [wB b] [] [])
theorem jnI:SO 103 jii:=fK (np:=0) (Za6 jfQ Zas) [] oN false Tryz.func103 λ_ _ _ _=>by kernel_rfl
def j7b (s:qS) (b:Bool->Res):Res:=bif (s.1==0) then bif sEq s.2.1 eS then bif ((nI (List.length s.2.2.1))==0) then bif ((nI (List.length s.2.2.2.1))==0) then j0e s.2.2.2.2 (0,eS,[],[],eS,eS) λr=>b r else b false else b false else b false else b false
def jeH:Sig Unit:=sg [.look y17 true] [false] [(y17,none)] [] λd f k=>j7b d.1 (λb=>k [wB b] [] [])
theorem jkd:SO 278 jeH:=fK (np:=0) (Za6 jao Zas) [] oN false Tryz.func278 λ_ _ _ _=>by kernel_rfl
def j4W (r:Int×Int×qS) (b:Bool->Res):Res:=j0a r.1 1 4 λd=>bif !d then b false else j0a r.2.1 1 1000000 λf=>bif !f then b false else bif (r.1==2) then j3t r.2.2 λg=>b g else j7b r.2.2 λh=>b h
def j80:Sig Unit:=sg [.look y19 true] [false] [(y19,none)] [] λd f k=>j4W d.1 (λb=>k [wB b] [] [])
theorem jhz:SO 222 j80:=fK (np:=0) (Za6 jgY (Za6 j28 (Za6 jkd Zas))) [] oN false Tryz.func222 λ_ _ _ _=>by delta j4W j1p j9u jeH;refine gz j0a λ_ b=>gz j3t λ_ d=>gz j7b λ_ f=> ?_;rewrite [<-b,<-d,<-f];kernel_rfl
def j35 (h:Int) (f:List qP) (g:Int) (d:List qS) (b:Int) (rec:qU->Int->Res) (i:qU->Res):Res:=bif decide (b<g) then bif inb b (List.length f) then bif ((nth (0,0,0,eS,[],[],0,eS,[],[],eS,eS) f b).1==2) then bif ((nth (0,0,0,eS,[],[],0,eS,[],[],eS,eS) f b).2.1==h) then j7a (nth (0,0,0,eS,[],[],0,eS,[],[],eS,eS) f b).2.2 λr=>bif lim ((List.length d)+1) then rec (d++[r]) (Z9K (b+1)) else none else rec d (Z9K (b+1)) else rec d (Z9K (b+1)) else none else i d
def j8S (g:Int) (h:List qP) (d:Int):(qU×Int)->(qU×Int->Res)->((qU->Res))->Res:=λv rec q=>j35 g h d v.1 v.2 (λb f=>rec (b,f)) q
def jey (g:Int) (i:List qP) (d:Int) (n:Nat) (b:List qS) (f:Int) (h:qU->Res):Res:=Z1f (j8S g i d) n (b,f) (h)
def je8:Z1d Unit:=NdL 32 32 [.I 1,.R 5 y27 .O,.R 9 y20 .S,.I 10,.I 11] [] (λb f=>(b.2.1,b.2.2.2.2.1)) (λb v=>(b.1,v.1,b.2.2.1,b.2.2.2.1,v.2,())) (λf v=>()) (λb f=>j8S b.1 b.2.2.1 b.2.2.2.1) λb f g=>((λd=>g (.exit 0) [(5,v1 y27 d .O)] []))
theorem jjH:CN 0 58 Tryz.f224 je8:=lK (Za6 jeo Zas) [] oN ([],[]) [(0,[5],[])] ([],[]) λ_ _ _ _ _=>by kernel_rfl
def j1Q (l:List qP) (d:Int) (f:qU->Res):Res:=jey d l (nI (List.length l)) Z1c [] 0 λb=>f b
def j6a:Sig Unit:=sg [.borrow y20 false,.borrow tI false] [false] [(y20,none),(tI,none)] [] λb f k=>j1Q b.1 b.2.1 (λd=>k [w1 y27 d .O] [] [])
theorem jfB:SO 224 j6a:=fK (np:=0) (Za6 jeo Zas) [je8] (oI 58 0 @jjH oN) false Tryz.func224 λ_ _ _ _=>by kernel_rfl
def jfg (place:Int) (b:qF×List qR) (d:Unit->Res):Res:=d ()
def jcB:Sig Unit:=sg [.look tI false,.look y33 true] [] [(tI,none),(y33,none)] [] λb d k=>jfg b.1 b.2.1 (λ_=>k [] [] [])
theorem jmC:SO 171 jcB:=fK (np:=0) Zas [] oN false Tryz.func171 λ_ _ _ _=>by kernel_rfl
def jgx (x:Int) (d:Int×Int×qS) (b:Bool->Res):Res:=b (x==d.2.1)
def jop:Sig Unit:=sg [.look tI false,.rptr y19] [false] [(tI,none),(y19,none)] [] λb f k=>jgx b.1 b.2.1 (λd=>k [wB d] [] [])
theorem jnC:SO 226 jop:=fK (np:=0) Zas [] oN false Tryz.func226 λ_ _ _ _=>by kernel_rfl
def j0F (s:List Int) (b:Int×Int×qS) (d:(List Int)->qP->Res):Res:=bif lim (List.length s) then dgE (λe k=>jgx e b k) s [] (λr=>d r b) else none
def j1b:Sig Unit:=⟨[.eat y21 false,.clos 226 [y19]],[false],λvals ext k=>ao vals y21 [.O] λs vals=>nl vals<|ab ext y19 [.S,.S,.S,.S] λa0 f ext=>nl ext<|j0F s f (λd b=>k [w1 y21 d .O] [] [⟨y19,a0,b,[.S,.S,.S,.S]⟩])⟩
theorem j8L:Z17 Tryz.prog 225 j1b:=gS (jsl (U:=0) (T:=220) (e:=tI) (ag:=false) (τ:=y19) (tg:=[.S,.S,.S,.S]) (fl:=[]) (S:=56) (E:=3) (I:=3) (B:=4) follows j1v (by kernel_rfl) Tryz.underlying56 (by kernel_rfl) (by kernel_rfl) (by kernel_rfl) (by kernel_rfl) Tryz.isAgg220 Tryz.sizeOf220 (by kernel_rfl) (by kernel_rfl) (by kernel_rfl) Tryz.func280 (by kernel_rfl) (by kernel_rfl) (by kernel_rfl) (by kernel_rfl) jnC (by kernel_rfl) Tryz.func225 (by kernel_rfl) (by kernel_rfl) (by kernel_rfl) (by kernel_rfl)) (by kernel_rfl)
theorem j97:FS [(138,j68),(171,jcB),(222,j80),(223,j1F),(224,j6a),(225,j1b)]:=(Za6 jfz (Za6 jmC (Za6 jhz (Za6 ja9 (Za6 jfB (Za6 j8L Zas))))))
def j60 (l:List qP) (i:Int) (d:qF×List qR) (r:Int×Int×qS) (b:Int->qD->Res):Res:=bif Z8e 0 i (List.length l) then Z87 (j1Q (sub l 0 i) r.2.1 λn=>Z87 (j0L d n λg h w=>Z87 (Z87 (b h g) (Z87 (b h g) (b h g))) (Z87 (Z87 (b h g) (Z87 (b h g) (b h g))) (Z87 (Z87 (b h g) (b h g)) (Z87 (Z87 (b h g) (b h g)) (b h g))))) (j0L d n λj k y=>Z87 (Z87 (b k j) (b k j)) (Z87 (Z87 (b k j) (b k j)) (b k j)))) (j1Q (sub l 0 i) r.2.1 λq=>j0L d q λm f p=>Z87 (Z87 (b f m) (b f m)) (Z87 (Z87 (b f m) (b f m)) (b f m))) else none
def j4L:Z1d Unit:=Nd 84 84 [.R 1 y20 .S,.t 2 (.clos 171 []),.t 3 (pB 3),.t 6 (pB 6),.R 8 y21 .O,.R 9 y21 .O,.I 10,.t 11 (pB 11),.R 17 y20 .S,.I 18,.I 19] [(3,y33,[.S,.S]),(6,y33,[.O,.O]),(11,y19,[.S,.S,.S,.S])] λb d f=>j60 b.1 b.2.2.2.1 d.1.2 d.2.2.1.2 (λcode next=>f .normal [(1,v1 y20 b.1 .S),(2,.clos 171 []),(3,pB 3),(6,pB 6),(8,v1 y21 b.2.1 .O),(9,v1 y21 b.2.2.1 .O),(10,vI b.2.2.2.1),(11,pB 11),(12,pB 12),(13,vI code),(17,v1 y20 b.2.2.2.2.1 .S),(18,vI b.2.2.2.2.2.1),(19,vI b.2.2.2.2.2.2.1)] [(3,⟨y33,d.1.1,d.1.2,[.S,.S]⟩),(6,⟨y33,d.2.1.1,d.2.1.2,[.O,.O]⟩),(11,⟨y19,d.2.2.1.1,d.2.2.1.2,[.S,.S,.S,.S]⟩),(12,⟨y33,false,next,[.O,.O]⟩)])
theorem jn8:CN 0 478452 Tryz.f170 j4L:=nK j97 [] oN ([1,2,3,6,8,9,10,11,12,13,17,18,19],[3,6,11,12]) [] ([],[]) λ_ _ _=>by delta j60 j6a j68;refine gz j1Q λ_ b=>gz j0L λ_ d=> ?_;rewrite [<-b,<-d];kernel_rfl
def j7V (l:List qP) (i:Int) (b:Bool) (d:qF×List qR) (r:Int×Int×qS) (f:qD->Res) (g:Unit->Res):Res:=bif b then j60 l i d r λcode next=>bif (code != 0) then g () else jfg (Z9K (i+1)) d λ_=>f next else f d
def j7i:Z1d Unit:=λσ k=>rdN σ 84<|rd1 σ 1 y20 .S λl=>rdT σ 2 (.clos 171 [])<|rdT σ 3 (pB 3)<|rdT σ 6 (pB 6)<|rd1 σ 8 y21 .O λb=>rd1 σ 9 y21 .O λf=>rdI σ 10 λi=>rdT σ 11 (pB 11)<|rd1 σ 17 y20 .S λg=>rdI σ 18 λh=>rdI σ 19 λj=>rdO σ 54 λm=>rdB σ 3 y33 [.S,.S] λa d=>rdB σ 6 y33 [.O,.O] λn w=>rdB σ 11 y19 [.S,.S,.S,.S] λp r=>j7V l i m d r (λq=>k .normal (mkS 84 84 [(1,v1 y20 l .S),(2,.clos 171 []),(3,pB 3),(6,pB 6),(8,v1 y21 b .O),(9,v1 y21 f .O),(11,pB 11),(17,v1 y20 g .S),(18,vI h),(19,vI j)] [(3,⟨y33,a,q,[.S,.S]⟩),(6,⟨y33,n,w,[.O,.O]⟩),(11,⟨y19,p,r,[.S,.S,.S,.S]⟩)])) (λ_=>k .ret (mkS 84 84 [(6,pB 6),(7,vB false)] [(6,⟨y33,n,([],[]),[.O,.O]⟩)]))
theorem jn9:CN 0 119613 Tryz.f170 j7i:=λz=>jkz follows j1v j97 z [j4L] (oI 4 0 @jn8 oN) ([1,2,3,6,8,9,11,17,18,19],[3,6,11]) [] ([6,7],[6]) [(0,[],[(3,[.S,.S])])] λσ k _ h=>rN h λK h=>rV h λl E h=>rT h λF h=>rT h λG h=>rT h λH h=>rV h λA I h=>rV h λB J h=>rV h λi f h=>rT h λg h=>rV h λL j h=>rV h λM n h=>rV h λP p h=>rV h λQ q h=>rB h λa d w h=>rB h λR U y h=>rB h λT r b h=>⟨_,ZaM (m:=84) K (sC E (sC F (sC G (sC H (sC I (sC J (sC f (sC g (sC j (sC n (sC p (sC q sN)))))))))))) (bC w (bC y (bC b bN))),.trans (by delta j7V j4L jcB;refine gz j60 λ_ C=>gz jfg λ_ D=> ?_;rewrite [<-C,<-D];kernel_rfl) h⟩
def j3C (l:List qP) (g:List qP) (j:Int) (f:List Int) (h:List Int) (b:Int) (d:qF×List qR) (rec:(List Int)->(List Int)->Int->qD->Res) (m:qD->Res) (i:Unit->Res):Res:=bif decide (b<j) then bif inb b (List.length g) then j4W (nth (0,0,0,eS,[],[],0,eS,[],[],eS,eS) g b) λr=>bif !r then i () else bif ((nth (0,0,0,eS,[],[],0,eS,[],[],eS,eS) g b).1==1) then j0m h (nth (0,0,0,eS,[],[],0,eS,[],[],eS,eS) g b).2.1 λn=>bif n then i () else bif lim ((List.length h)+1) then bif lim ((List.length f)+1) then rec (f++[(nth (0,0,0,eS,[],[],0,eS,[],[],eS,eS) g b).2.1]) (h++[(nth (0,0,0,eS,[],[],0,eS,[],[],eS,eS) g b).2.1]) (Z9K (b+1)) d else none else none else j0m f (nth (0,0,0,eS,[],[],0,eS,[],[],eS,eS) g b).2.1 λp=>bif !p then i () else j7V l b ((nth (0,0,0,eS,[],[],0,eS,[],[],eS,eS) g b).1==3) d (nth (0,0,0,eS,[],[],0,eS,[],[],eS,eS) g b) (λk=>bif ((nth (0,0,0,eS,[],[],0,eS,[],[],eS,eS) g b).1 != 2) then j0F f (nth (0,0,0,eS,[],[],0,eS,[],[],eS,eS) g b) λq w=>rec q h (Z9K (b+1)) k else rec f h (Z9K (b+1)) k) (λ_=>i ()) else none else m d
def j8t (l:List qP) (g:List qP) (h:Int):((List Int)×(List Int)×Int×qD)->((List Int)×(List Int)×Int×qD->Res)->((qD->Res)×(Unit->Res))->Res:=λv rec q=>j3C l g h v.1 v.2.1 v.2.2.1 v.2.2.2 (λb f i d=>rec (b,f,i,d)) q.1 q.2
def jhT (l:List qP) (g:List qP) (h:Int) (n:Nat) (b:List Int) (f:List Int) (i:Int) (d:qF×List qR) (j:qD->Res) (k:Unit->Res):Res:=Z1f (j8t l g h) n (b,f,i,d) (j,k)
def jcS:Z1d Unit:=NdL 84 84 [.R 1 y20 .S,.t 2 (.clos 171 []),.t 3 (pB 3),.t 6 (pB 6),.R 8 y21 .O,.R 9 y21 .O,.R 17 y20 .S,.I 18,.I 19] [(3,y33,[.S,.S]),(6,y33,[.O,.O])] (λb d=>(b.2.1,b.2.2.1,b.2.2.2.2.2.1,d.1.2)) (λb v=>(b.1,v.1,v.2.1,b.2.2.2.1,b.2.2.2.2.1,v.2.2.1,())) (λd v=>((d.1.1,v.2.2.2),(d.2.1.1,d.2.1.2),())) (λb d=>j8t b.1 b.2.2.2.1 b.2.2.2.2.1) λb d f=>((λg=>f (.exit 0) [(3,pB 3),(6,pB 6)] [(3,⟨y33,d.1.1,g,[.S,.S]⟩),(6,⟨y33,d.2.1.1,d.2.1.2,[.O,.O]⟩)]),(λ_=>f .ret [(6,pB 6),(7,vB false)] [(6,⟨y33,d.2.1.1,([],[]),[.O,.O]⟩)]))
theorem jn7:CN 0 58 Tryz.f170 jcS:=lK j97 [j4L,j7i] (oI 1853 1 @jn9 oN) ([],[]) [(0,[3,6],[3,6])] ([6,7],[6]) λ_ _ _ _ _=>by delta j8t j3C j80 j1F j7i j1b;refine gz j4W λ_ b=>gz j0m λ_ d=>gz j7V λ_ f=>gz j0F λ_ g=> ?_;rewrite [<-b,<-d,<-f,<-g];kernel_rfl
def jdH (l:List qP) (d:qF×List qR) (b:Bool->qD->Res):Res:=jhT l l (nI (List.length l)) Z1c [] [] 0 d (λf=>b true f) (λ_=>b false ([],[]))
def jhj:Z1d Unit:=λσ k=>rdN σ 84<|rd1 σ 1 y20 .S λl=>rdT σ 2 (.clos 171 [])<|rdT σ 3 (pB 3)<|rdT σ 6 (pB 6)<|rdB σ 3 y33 [.S,.S] λa d=>rdB σ 6 y33 [.O,.O] λf h=>jdH l d (λg b=>k .ret (mkS 84 84 [(6,pB 6),(7,vB g)] [(6,⟨y33,f,b,[.S,.S]⟩)]))
theorem jna:CN 0 3 Tryz.f170 jhj:=λg=>jkz follows j1v j97 g [j4L,j7i,jcS] (oI 26 2 @jn7 oN) ([],[]) [] ([6,7],[6]) [(1,[],[(6,[.S,.S])])] λσ k _ h=>rN h λq h=>rV h λl i h=>rT h λj h=>rT h λn h=>rT h λp h=>rB h λa d b h=>rB h λr w f h=>⟨_,ZaM (m:=84) q (sC i (sC j (sC n (sC p sN)))) (bC b (bC f bN)),.trans (by kernel_rfl) h⟩
def jeA (d:qF×List qR) (l:List qP) (b:qD->Bool->Res):Res:=jdH l d λt f=>b f t
def jpd:Sig Unit:=sg [.borrow y33 true,.borrow y20 false,.clos 171 []] [true,false] [(y33,none),(y20,none)] [] λb g k=>jeA b.1 b.2.1 (λd f=>k [⟨y33,true,d,[.S,.S]⟩,wB f] [] [])
theorem joU:SO 170 jpd:=fK (np:=0) j97 [j4L,j7i,jcS,jhj] (oI 3 3 @jna oN) false Tryz.func170 λ_ _ _ _=>by kernel_rfl
def jaz (l:List qP) (b:Bool->Res):Res:=bif decide ((nI (List.length l))>400) then b false else jeA ([],[]) l λr d=>b d
def jia:Sig Unit:=sg [.look y20 false] [false] [(y20,none)] [] λd f k=>jaz d.1 (λb=>k [wB b] [] [])
theorem jnz:SO 104 jia:=fK (np:=0) (Za6 joU Zas) [] oN false Tryz.func104 λ_ _ _ _=>by kernel_rfl
theorem jiX:FS [(103,jii),(169,jbV)]:=(Za6 jnI (Za6 jfQ Zas))
def j89 (l:List qP) (d:Int) (b:Bool->Res):Res:=jdk l λr=>bif !r then b true else bif decide (d<0) then b true else b (decide (d>(nI (List.length l))))
def jcT:Z1d Unit:=Nd 26 26 [.R 0 y20 .S,.I 1,.t 4 (pB 4)] [(4,y33,[.O,.O])] λb f g=>j89 b.1 b.2.1 (λd=>g .normal [(0,v1 y20 b.1 .S),(1,vI b.2.1),(4,pB 4),(18,vB d)] [(4,⟨y33,f.1.1,f.1.2,[.O,.O]⟩)])
theorem jnb:CN 0 12 Tryz.f112 jcT:=nK jiX [] oN ([0,1,4,18],[4]) [] ([],[]) λ_ _ _=>by kernel_rfl
def jai (l:List qP) (b:Int) (d:qD->Bool->Res):Res:=j89 l b λt=>bif t then d ([],[]) false else bif Z8e 0 b (List.length l) then j6A (sub l 0 b) λr f=>d r f else none
def jjc:Sig Unit:=sg [.borrow y20 false,.borrow tI false] [true,false] [(y20,none),(tI,none)] [] λb g k=>jai b.1 b.2.1 (λd f=>k [⟨y33,true,d,[.S,.S]⟩,wB f] [] [])
theorem joV:SO 112 jjc:=fK (np:=0) jiX [jcT] (oI 12 0 @jnb oN) true Tryz.func112 λ_ _ _ _=>by delta jai jcT jbV;refine gz j89 λ_ b=>gz j6A λ_ d=> ?_;rewrite [<-b,<-d];kernel_rfl
def jgw (place:Int) (b:qF×List qR) (d:Unit->Res):Res:=d ()
def jdX:Sig Unit:=sg [.look tI false,.look y33 true] [] [(tI,none),(y33,none)] [] λb d k=>jgw b.1 b.2.1 (λ_=>k [] [] [])
theorem jnA:SO 233 jdX:=fK (np:=0) Zas [] oN false Tryz.func233 λ_ _ _ _=>by kernel_rfl
theorem j76:FS [(138,j68),(222,j80),(223,j1F),(224,j6a),(225,j1b),(233,jdX)]:=(Za6 jfz (Za6 jhz (Za6 ja9 (Za6 jfB (Za6 j8L (Za6 jnA Zas))))))
def j3B (l:List qP) (i:Int) (d:qF×List qR) (r:Int×Int×qS) (b:Int->qD->Res):Res:=bif Z8e 0 i (List.length l) then Z87 (j1Q (sub l 0 i) r.2.1 λn=>Z87 (j0L d n λg h w=>Z87 (Z87 (b h g) (Z87 (b h g) (b h g))) (Z87 (Z87 (b h g) (Z87 (b h g) (b h g))) (Z87 (Z87 (b h g) (b h g)) (Z87 (Z87 (b h g) (b h g)) (b h g))))) (j0L d n λj k y=>Z87 (Z87 (b k j) (b k j)) (Z87 (Z87 (b k j) (b k j)) (b k j)))) (j1Q (sub l 0 i) r.2.1 λq=>j0L d q λm f p=>Z87 (Z87 (b f m) (b f m)) (Z87 (Z87 (b f m) (b f m)) (b f m))) else none
def j2W:Z1d Unit:=Nd 84 84 [.R 1 y20 .S,.t 2 (.clos 233 []),.t 3 (pB 3),.t 6 (pB 6),.R 8 y21 .O,.R 9 y21 .O,.I 10,.t 11 (pB 11),.R 17 y20 .S,.I 18,.I 19] [(3,y33,[.S,.S]),(6,y33,[.O,.O]),(11,y19,[.S,.S,.S,.S])] λb d f=>j3B b.1 b.2.2.2.1 d.1.2 d.2.2.1.2 (λcode next=>f .normal [(1,v1 y20 b.1 .S),(2,.clos 233 []),(3,pB 3),(6,pB 6),(8,v1 y21 b.2.1 .O),(9,v1 y21 b.2.2.1 .O),(10,vI b.2.2.2.1),(11,pB 11),(12,pB 12),(13,vI code),(17,v1 y20 b.2.2.2.2.1 .S),(18,vI b.2.2.2.2.2.1),(19,vI b.2.2.2.2.2.2.1)] [(3,⟨y33,d.1.1,d.1.2,[.S,.S]⟩),(6,⟨y33,d.2.1.1,d.2.1.2,[.O,.O]⟩),(11,⟨y19,d.2.2.1.1,d.2.2.1.2,[.S,.S,.S,.S]⟩),(12,⟨y33,false,next,[.O,.O]⟩)])
theorem jkI:CN 0 478452 Tryz.f170 j2W:=nK j76 [] oN ([1,2,3,6,8,9,10,11,12,13,17,18,19],[3,6,11,12]) [] ([],[]) λ_ _ _=>by delta j3B j6a j68;refine gz j1Q λ_ b=>gz j0L λ_ d=> ?_;rewrite [<-b,<-d];kernel_rfl
def j5Z (l:List qP) (i:Int) (b:Bool) (d:qF×List qR) (r:Int×Int×qS) (f:qD->Res) (g:Unit->Res):Res:=bif b then j3B l i d r λcode next=>bif (code != 0) then g () else jgw (Z9K (i+1)) d λ_=>f next else f d
def j5o:Z1d Unit:=λσ k=>rdN σ 84<|rd1 σ 1 y20 .S λl=>rdT σ 2 (.clos 233 [])<|rdT σ 3 (pB 3)<|rdT σ 6 (pB 6)<|rd1 σ 8 y21 .O λb=>rd1 σ 9 y21 .O λf=>rdI σ 10 λi=>rdT σ 11 (pB 11)<|rd1 σ 17 y20 .S λg=>rdI σ 18 λh=>rdI σ 19 λj=>rdO σ 54 λm=>rdB σ 3 y33 [.S,.S] λa d=>rdB σ 6 y33 [.O,.O] λn w=>rdB σ 11 y19 [.S,.S,.S,.S] λp r=>j5Z l i m d r (λq=>k .normal (mkS 84 84 [(1,v1 y20 l .S),(2,.clos 233 []),(3,pB 3),(6,pB 6),(8,v1 y21 b .O),(9,v1 y21 f .O),(11,pB 11),(17,v1 y20 g .S),(18,vI h),(19,vI j)] [(3,⟨y33,a,q,[.S,.S]⟩),(6,⟨y33,n,w,[.O,.O]⟩),(11,⟨y19,p,r,[.S,.S,.S,.S]⟩)])) (λ_=>k .ret (mkS 84 84 [(6,pB 6),(7,vB false)] [(6,⟨y33,n,([],[]),[.O,.O]⟩)]))
theorem jkJ:CN 0 119613 Tryz.f170 j5o:=λz=>jkz follows j1v j76 z [j2W] (oI 4 0 @jkI oN) ([1,2,3,6,8,9,11,17,18,19],[3,6,11]) [] ([6,7],[6]) [(0,[],[(3,[.S,.S])])] λσ k _ h=>rN h λK h=>rV h λl E h=>rT h λF h=>rT h λG h=>rT h λH h=>rV h λA I h=>rV h λB J h=>rV h λi f h=>rT h λg h=>rV h λL j h=>rV h λM n h=>rV h λP p h=>rV h λQ q h=>rB h λa d w h=>rB h λR U y h=>rB h λT r b h=>⟨_,ZaM (m:=84) K (sC E (sC F (sC G (sC H (sC I (sC J (sC f (sC g (sC j (sC n (sC p (sC q sN)))))))))))) (bC w (bC y (bC b bN))),.trans (by delta j5Z j2W jdX;refine gz j3B λ_ C=>gz jgw λ_ D=> ?_;rewrite [<-C,<-D];kernel_rfl) h⟩
def j2p (l:List qP) (g:List qP) (j:Int) (f:List Int) (h:List Int) (b:Int) (d:qF×List qR) (rec:(List Int)->(List Int)->Int->qD->Res) (m:qD->Res) (i:Unit->Res):Res:=bif decide (b<j) then bif inb b (List.length g) then j4W (nth (0,0,0,eS,[],[],0,eS,[],[],eS,eS) g b) λr=>bif !r then i () else bif ((nth (0,0,0,eS,[],[],0,eS,[],[],eS,eS) g b).1==1) then j0m h (nth (0,0,0,eS,[],[],0,eS,[],[],eS,eS) g b).2.1 λn=>bif n then i () else bif lim ((List.length h)+1) then bif lim ((List.length f)+1) then rec (f++[(nth (0,0,0,eS,[],[],0,eS,[],[],eS,eS) g b).2.1]) (h++[(nth (0,0,0,eS,[],[],0,eS,[],[],eS,eS) g b).2.1]) (Z9K (b+1)) d else none else none else j0m f (nth (0,0,0,eS,[],[],0,eS,[],[],eS,eS) g b).2.1 λp=>bif !p then i () else j5Z l b ((nth (0,0,0,eS,[],[],0,eS,[],[],eS,eS) g b).1==3) d (nth (0,0,0,eS,[],[],0,eS,[],[],eS,eS) g b) (λk=>bif ((nth (0,0,0,eS,[],[],0,eS,[],[],eS,eS) g b).1 != 2) then j0F f (nth (0,0,0,eS,[],[],0,eS,[],[],eS,eS) g b) λq w=>rec q h (Z9K (b+1)) k else rec f h (Z9K (b+1)) k) (λ_=>i ()) else none else m d
def j6J (l:List qP) (g:List qP) (h:Int):((List Int)×(List Int)×Int×qD)->((List Int)×(List Int)×Int×qD->Res)->((qD->Res)×(Unit->Res))->Res:=λv rec q=>j2p l g h v.1 v.2.1 v.2.2.1 v.2.2.2 (λb f i d=>rec (b,f,i,d)) q.1 q.2
def jfZ (l:List qP) (g:List qP) (h:Int) (n:Nat) (b:List Int) (f:List Int) (i:Int) (d:qF×List qR) (j:qD->Res) (k:Unit->Res):Res:=Z1f (j6J l g h) n (b,f,i,d) (j,k)
def jbb:Z1d Unit:=NdL 84 84 [.R 1 y20 .S,.t 2 (.clos 233 []),.t 3 (pB 3),.t 6 (pB 6),.R 8 y21 .O,.R 9 y21 .O,.R 17 y20 .S,.I 18,.I 19] [(3,y33,[.S,.S]),(6,y33,[.O,.O])] (λb d=>(b.2.1,b.2.2.1,b.2.2.2.2.2.1,d.1.2)) (λb v=>(b.1,v.1,v.2.1,b.2.2.2.1,b.2.2.2.2.1,v.2.2.1,())) (λd v=>((d.1.1,v.2.2.2),(d.2.1.1,d.2.1.2),())) (λb d=>j6J b.1 b.2.2.2.1 b.2.2.2.2.1) λb d f=>((λg=>f (.exit 0) [(3,pB 3),(6,pB 6)] [(3,⟨y33,d.1.1,g,[.S,.S]⟩),(6,⟨y33,d.2.1.1,d.2.1.2,[.O,.O]⟩)]),(λ_=>f .ret [(6,pB 6),(7,vB false)] [(6,⟨y33,d.2.1.1,([],[]),[.O,.O]⟩)]))
theorem jkH:CN 0 58 Tryz.f170 jbb:=lK j76 [j2W,j5o] (oI 1853 1 @jkJ oN) ([],[]) [(0,[3,6],[3,6])] ([6,7],[6]) λ_ _ _ _ _=>by delta j6J j2p j80 j1F j5o j1b;refine gz j4W λ_ b=>gz j0m λ_ d=>gz j5Z λ_ f=>gz j0F λ_ g=> ?_;rewrite [<-b,<-d,<-f,<-g];kernel_rfl
def jbG (l:List qP) (d:qF×List qR) (b:Bool->qD->Res):Res:=jfZ l l (nI (List.length l)) Z1c [] [] 0 d (λf=>b true f) (λ_=>b false ([],[]))
def jeS:Z1d Unit:=λσ k=>rdN σ 84<|rd1 σ 1 y20 .S λl=>rdT σ 2 (.clos 233 [])<|rdT σ 3 (pB 3)<|rdT σ 6 (pB 6)<|rdB σ 3 y33 [.S,.S] λa d=>rdB σ 6 y33 [.O,.O] λf h=>jbG l d (λg b=>k .ret (mkS 84 84 [(6,pB 6),(7,vB g)] [(6,⟨y33,f,b,[.S,.S]⟩)]))
theorem jkK:CN 0 3 Tryz.f170 jeS:=λg=>jkz follows j1v j76 g [j2W,j5o,jbb] (oI 26 2 @jkH oN) ([],[]) [] ([6,7],[6]) [(1,[],[(6,[.S,.S])])] λσ k _ h=>rN h λq h=>rV h λl i h=>rT h λj h=>rT h λn h=>rT h λp h=>rB h λa d b h=>rB h λr w f h=>⟨_,ZaM (m:=84) q (sC i (sC j (sC n (sC p sN)))) (bC b (bC f bN)),.trans (by kernel_rfl) h⟩
def jcd (d:qF×List qR) (l:List qP) (b:qD->Bool->Res):Res:=jbG l d λt f=>b f t
def jnk:Sig Unit:=sg [.borrow y33 true,.borrow y20 false,.clos 233 []] [true,false] [(y33,none),(y20,none)] [] λb g k=>jcd b.1 b.2.1 (λd f=>k [⟨y33,true,d,[.S,.S]⟩,wB f] [] [])
theorem jmG:SO 170 jnk:=fK (np:=0) j76 [j2W,j5o,jbb,jeS] (oI 3 3 @jkK oN) false Tryz.func170 λ_ _ _ _=>by kernel_rfl
def jci (l:List qP) (b:Int) (d:qD->Res):Res:=bif Z8e 0 b (List.length l) then jcd ([],[]) (sub l 0 b) λr f=>d r else none
def jjb:Sig Unit:=sg [.borrow y20 false,.borrow tI false] [true] [(y20,none),(tI,none)] [] λb f k=>jci b.1 b.2.1 (λd=>k [⟨y33,true,d,[.S,.S]⟩] [] [])
theorem joS:SO 175 jjb:=fK (np:=0) (Za6 jmG Zas) [] oN false Tryz.func175 λ_ _ _ _=>by kernel_rfl
def jab (l:List qP) (d:Int) (b:qD->Bool->Res):Res:=jaz l λr=>bif !r then b ([],[]) false else j0a d 0 (nI (List.length l)) λf=>bif !f then b ([],[]) false else jci l d λg=>j0Q g λh=>b h true
def jja:Sig Unit:=sg [.borrow y20 false,.borrow tI false] [true,false] [(y20,none),(tI,none)] [] λb g k=>jab b.1 b.2.1 (λd f=>k [⟨y33,true,d,[.O,.O]⟩,wB f] [] [])
theorem joQ:SO 116 jja:=fK (np:=0) (Za6 jnz (Za6 j28 (Za6 j9p (Za6 joS Zas)))) [] oN false Tryz.func116 λ_ _ _ _=>by delta jab jia j1p jjb j2a;refine gz jaz λ_ b=>gz j0a λ_ d=>gz jci λ_ f=>gz j0Q λ_ g=> ?_;rewrite [<-b,<-d,<-f,<-g];kernel_rfl
end
end Go.PI.G
namespace Go.PI.G
open Go Go.PI Go.Proofs
open Go.Code (pl pr)
end Go.PI.G
namespace Go.PI.G
noncomputable section
open Go Go.PI Go.Proofs
open Go.Code (pl pr)
def j6r (l:List qP) (d:qB) (g:List qV) (place:Int) (f:qW->Bool->Res):Res:=jai l place λr i=>j1t r.1 d λb=>bif !i then f [] false else bif decide (b<0) then f [] false else bif inb b (List.length r.1) then bif inb b (List.length r.2) then j19 (nth (eS,[],[]) r.1 b) (nth [] r.2 b) g λh=>bif decide (h<0) then f [] false else bif inb b (List.length r.2) then bif inb h (List.length (nth [] r.2 b)) then j0h (nth [] (nth [] r.2 b) h) λj=>f j true else none else none else none else none
def jbS:Sig Unit:=sg [.borrow y20 false,.borrow .str false,.borrow y3 false,.borrow tI false] [true,false] [(y20,none),(.str,none),(y3,none),(tI,none)] [] λb g k=>j6r b.1 b.2.1 b.2.2.1 b.2.2.2.1 (λd f=>k [⟨y3,true,d,[.O]⟩,wB f] [] [])
theorem jlv:SO 48 jbS:=fK (np:=0) (Za6 joV (Za6 jas (Za6 jar (Za6 j2X Zas)))) [] oN false Tryz.func48 λ_ _ _ _=>by delta j6r jjc j2F j84 j4I;refine gz jai λ_ b=>gz j1t λ_ d=>gz j19 λ_ f=>gz j0h λ_ g=> ?_;rewrite [<-b,<-d,<-f,<-g];kernel_rfl
def j8s (d:qF×List qR) (b:qB) (g:List qV) (f:qW->Bool->Res):Res:=j0g d.1 b λr=>bif decide (r<0) then f [] false else bif inb r (List.length d.1) then bif inb r (List.length d.2) then j0J (nth (eS,[],[]) d.1 r) (nth [] d.2 r) g λh=>bif decide (h<0) then f [] false else bif inb r (List.length d.2) then bif inb h (List.length (nth [] d.2 r)) then j0u (nth [] (nth [] d.2 r) h) λi=>f i true else none else none else none else none
def jib:Sig Unit:=sg [.borrow y33 true,.borrow .str false,.borrow y3 false] [true,false] [(y33,none),(.str,none),(y3,none)] [] λb g k=>j8s b.1 b.2.1 b.2.2.1 (λd f=>k [⟨y3,true,d,[.O]⟩,wB f] [] [])
theorem jnB:SO 117 jib:=fK (np:=0) (Za6 j77 (Za6 jap (Za6 j4N Zas))) [] oN false Tryz.func117 λ_ _ _ _=>by delta j8s j0N j4c j57;refine gz j0g λ_ b=>gz j0J λ_ d=>gz j0u λ_ f=> ?_;rewrite [<-b,<-d,<-f];kernel_rfl
def j2y (l:List qP) (b:qB) (d:List qV) (place:Int) (f:qW->Bool->Res):Res:=jab l place λr g=>bif !g then f [] false else j8s r b d λh i=>f h i
def j8A:Sig Unit:=sg [.borrow y20 false,.borrow .str false,.borrow y3 false,.borrow tI false] [true,false] [(y20,none),(.str,none),(y3,none),(tI,none)] [] λb g k=>j2y b.1 b.2.1 b.2.2.1 b.2.2.2.1 (λd f=>k [⟨y3,true,d,[.O]⟩,wB f] [] [])
theorem jln:SO 49 j8A:=fK (np:=0) (Za6 joQ (Za6 jnB Zas)) [] oN false Tryz.func49 λ_ _ _ _=>by delta j2y jja jib;refine gz jab λ_ b=>gz j8s λ_ d=> ?_;rewrite [<-b,<-d];kernel_rfl
end
end Go.PI.G
namespace Go.PI.G
noncomputable section
open Go Go.PI Go.Proofs
open Go.Code (pl pr)
def jaH (a:Int×Int×qB) (left:Int) (b:Int->Res):Res:=bif decide ((Z9K (left-(nI (ByteArray.size a.2.2))))<0) then b (-1) else b (Z9K (left-(nI (ByteArray.size a.2.2))))
def jov:Sig Unit:=sg [.look y2 true,.look tI false] [false] [(y2,none),(tI,none)] [] λb f k=>jaH b.1 b.2.1 (λd=>k [wI d] [] [])
theorem jdv:SO 105 jov:=fK (np:=0) Zas [] oN false Tryz.func105 λ_ _ _ _=>by kernel_rfl
def jaJ (a:Int×Int×qB) (b:qV->Res):Res:=b (a.1,a.2.1,a.2.2)
def joy:Sig Unit:=sg [.look y2 true] [true] [(y2,none)] [] λd f k=>jaJ d.1 (λb=>k [⟨y2,true,b,[]⟩] [] [])
theorem jdw:SO 106 joy:=fK (np:=0) Zas [] oN false Tryz.func106 λ_ _ _ _=>by kernel_rfl
def jaF (a:Int×Int×qB) (b:Int×Int×qB) (d:Bool->Res):Res:=bif (a.1 != b.1) then d false else bif (a.2.1 != b.2.1) then d false else bif sNe a.2.2 b.2.2 then d false else d true
def jos:Sig Unit:=sg [.look y2 true,.look y2 true] [false] [(y2,none),(y2,none)] [] λb f k=>jaF b.1 b.2.1 (λd=>k [wB d] [] [])
theorem jdu:SO 107 jos:=fK (np:=0) Zas [] oN false Tryz.func107 λ_ _ _ _=>by kernel_rfl
end
end Go.PI.G
namespace Go.PI.G
noncomputable section
open Go Go.PI Go.Proofs
open Go.Code (pl pr)
def jdb (a:qB×Int×Bool×Bool×Int×Int×qB) (left:Int) (b:Int->Res):Res:=bif decide ((Z9K (left-(nI (ByteArray.size a.1))))<0) then b (-1) else jaH a.2.2.2.2 (Z9K (left-(nI (ByteArray.size a.1)))) λr=>bif decide (r<0) then b (-1) else b r
def jot:Sig Unit:=sg [.look y7 true,.look tI false] [false] [(y7,none),(tI,none)] [] λb f k=>jdb b.1 b.2.1 (λd=>k [wI d] [] [])
theorem jhE:SO 285 jot:=fK (np:=0) (Za6 jdv Zas) [] oN false Tryz.func285 λ_ _ _ _=>by kernel_rfl
def jdd (a:qB×Int×Bool×Bool×Int×Int×qB) (b:qC->Res):Res:=jaJ a.2.2.2.2 λr=>b (a.1,a.2.1,a.2.2.1,a.2.2.2.1,r)
def jow:Sig Unit:=sg [.look y7 true] [true] [(y7,none)] [] λd f k=>jdd d.1 (λb=>k [⟨y7,true,b,[]⟩] [] [])
theorem jhG:SO 292 jow:=fK (np:=0) (Za6 jdw Zas) [] oN false Tryz.func292 λ_ _ _ _=>by kernel_rfl
def jd9 (a:qB×Int×Bool×Bool×Int×Int×qB) (b:qB×Int×Bool×Bool×Int×Int×qB) (d:Bool->Res):Res:=bif sNe a.1 b.1 then d false else bif (a.2.1 != b.2.1) then d false else bif !(a.2.2.1==b.2.2.1) then d false else bif !(a.2.2.2.1==b.2.2.2.1) then d false else jaF a.2.2.2.2 b.2.2.2.2 λr=>bif !r then d false else d true
def joq:Sig Unit:=sg [.look y7 true,.look y7 true] [false] [(y7,none),(y7,none)] [] λb f k=>jd9 b.1 b.2.1 (λd=>k [wB d] [] [])
theorem jhA:SO 302 joq:=fK (np:=0) (Za6 jdu Zas) [] oN false Tryz.func302 λ_ _ _ _=>by kernel_rfl
end
end Go.PI.G
namespace Go.PI.G
noncomputable section
open Go Go.PI Go.Proofs
open Go.Code (pl pr)
def j2C (d:Int) (b:qB) (rec:Int->qB->Res) (f:qB->Res):Res:=bif decide (d>0) then bif lim ((ByteArray.size (Z3B [wu8 (Z9K (48+(Int.tmod d 10)))]))+(ByteArray.size b)) then rec (Z9K (Int.tdiv d 10)) ((Z3B [wu8 (Z9K (48+(Int.tmod d 10)))])++b) else none else f b
def j55:(Int×qB)->(Int×qB->Res)->((qB->Res))->Res:=λv rec q=>j2C v.1 v.2 (λd b=>rec (d,b)) q
def jdO (n:Nat) (f:Int) (b:qB) (d:qB->Res):Res:=Z1f (j55) n (f,b) (d)
def jd3:Z1d Unit:=NdL 20 20 [.I 0,.S 3] [] (λd f=>(d.1,d.2.1)) (λd v=>(v.1,v.2,())) (λf v=>()) (λd f=>j55) λd f g=>((λb=>g (.exit 0) [(3,vS b)] []))
theorem jiS:CN 0 60 Tryz.f110 jd3:=lK Zas [] oN ([],[]) [(0,[3],[])] ([],[]) λ_ _ _ _ _=>by kernel_rfl
def j0k (f:Int) (d:qB->Res):Res:=bif decide (f<=0) then d jsr else jdO Z1c f eS λb=>bif lim (1+(ByteArray.size b)) then d (z_m++b) else none
def j7D:Sig Unit:=sg [.look tI false] [false] [(tI,none)] [] λd f k=>j0k d.1 (λb=>k [wS b] [] [])
theorem j0j:SO 110 j7D:=fK (np:=0) Zas [jd3] (oI 60 0 @jiS oN) false Tryz.func110 λ_ _ _ _=>by kernel_rfl
end
end Go.PI.G
namespace Go.PI.G
noncomputable section
open Go Go.PI Go.Proofs
open Go.Code (pl pr)
def j45 (a:List qC) (left:Int) (i:Int) (rec:Int->Int->Res) (b:Int->Res) (d:Unit->Res):Res:=bif decide (i<(nI (List.length a))) then bif inb i (List.length a) then jdb (nth (eS,0,false,false,0,0,eS) a i) left λr=>bif decide (r<0) then d () else rec r (Z9K (i+1)) else none else b left
def jdQ (a:List qC):(Int×Int)->(Int×Int->Res)->((Int->Res)×(Unit->Res))->Res:=λv rec q=>j45 a v.1 v.2 (λleft i=>rec (left,i)) q.1 q.2
def jbH (a:List qC) (n:Nat) (left:Int) (i:Int) (b:Int->Res) (d:Unit->Res):Res:=Z1f (jdQ a) n (left,i) (b,d)
def jeW:Z1d Unit:=NdL 27 27 [.R 0 y8 .S,.I 1,.I 5] [] (λd f=>(d.2.1,d.2.2.1)) (λd v=>(d.1,v.1,v.2,())) (λf v=>()) (λd f=>jdQ d.1) λd f g=>((λb=>g (.exit 0) [(1,vI b)] []),(λ_=>g .ret [(4,vI (-1))] []))
theorem jkO:CN 0 122 Tryz.f241 jeW:=lK (Za6 jhE Zas) [] oN ([],[]) [(0,[1],[])] ([4],[]) λ_ _ _ _ _=>by kernel_rfl
def j9e (a:List qC) (left:Int) (d:Int->Res):Res:=bif decide ((Z9K (left-(nI (List.length a))))<0) then d (-1) else jbH a Z1c (Z9K (left-(nI (List.length a)))) 0 (λb=>d b) (λ_=>d (-1))
def jhb:Sig Unit:=sg [.look y8 false,.look tI false] [false] [(y8,none),(tI,none)] [] λb f k=>j9e b.1 b.2.1 (λd=>k [wI d] [] [])
theorem jmK:SO 241 jhb:=fK (np:=0) (Za6 jhE Zas) [jeW] (oI 122 0 @jkO oN) false Tryz.func241 λ_ _ _ _=>by kernel_rfl
def j48 (a:List qC) (b:List qC) (i:Int) (rec:qE->Int->Res) (d:qE->Res):Res:=bif decide (i<(nI (List.length a))) then bif inb i (List.length a) then jdd (nth (eS,0,false,false,0,0,eS) a i) λr=>bif inb i (List.length b) then rec (upd b i r) (Z9K (i+1)) else none else none else d b
def j9J (a:List qC):(qE×Int)->(qE×Int->Res)->((qE->Res))->Res:=λv rec q=>j48 a v.1 v.2 (λb i=>rec (b,i)) q
def jlF (a:List qC) (n:Nat) (b:List qC) (i:Int) (d:qE->Res):Res:=Z1f (j9J a) n (b,i) (d)
def jeZ:Z1d Unit:=NdL 23 23 [.R 0 y8 .S,.R 3 y8 .O,.I 4] [] (λb f=>(b.2.1,b.2.2.1)) (λb v=>(b.1,v.1,v.2,())) (λf v=>()) (λb f=>j9J b.1) λb f g=>((λd=>g (.exit 0) [(3,v1 y8 d .O)] []))
theorem jkR:CN 0 58 Tryz.f249 jeZ:=lK (Za6 jhG Zas) [] oN ([],[]) [(0,[3],[])] ([],[]) λ_ _ _ _ _=>by kernel_rfl
def j9h (a:List qC) (d:qE->Res):Res:=bif Z9I (nI (List.length a)) (nI (List.length a)) then jlF a Z1c (Z9h (nI (List.length a)) (eS,0,false,false,0,0,eS)) 0 λb=>d b else none
def jhc:Sig Unit:=sg [.borrow y8 false] [false] [(y8,none)] [] λd f k=>j9h d.1 (λb=>k [w1 y8 b .O] [] [])
theorem jmN:SO 249 jhc:=fK (np:=0) (Za6 jhG Zas) [jeZ] (oI 58 0 @jkR oN) false Tryz.func249 λ_ _ _ _=>by kernel_rfl
def j3R (a:List qC) (b:List qC) (i:Int) (rec:Int->Res) (d:Unit->Res) (f:Unit->Res):Res:=bif decide (i<(nI (List.length a))) then bif inb i (List.length a) then bif inb i (List.length b) then jd9 (nth (eS,0,false,false,0,0,eS) a i) (nth (eS,0,false,false,0,0,eS) b i) λr=>bif !r then f () else rec (Z9K (i+1)) else none else none else d ()
def jdI (a:List qC) (b:List qC):Int->(Int->Res)->((Unit->Res)×(Unit->Res))->Res:=λv rec q=>j3R a b v (λi=>rec (i)) q.1 q.2
def jg1 (a:List qC) (b:List qC) (n:Nat) (i:Int) (d:Unit->Res) (f:Unit->Res):Res:=Z1f (jdI a b) n (i) (d,f)
def jeT:Z1d Unit:=NdL 27 27 [.R 0 y8 .S,.R 1 y8 .S,.I 5] [] (λb d=>(b.2.2.1)) (λb v=>(b.1,b.2.1,v,())) (λd v=>()) (λb d=>jdI b.1 b.2.1) λb d f=>((λ_=>f (.exit 0) [] []),(λ_=>f .ret [(4,vB false)] []))
theorem jkL:CN 0 58 Tryz.f258 jeT:=lK (Za6 jhA Zas) [] oN ([],[]) [(0,[],[])] ([4],[]) λ_ _ _ _ _=>by kernel_rfl
def j9b (a:List qC) (b:List qC) (d:Bool->Res):Res:=bif ((nI (List.length a)) != (nI (List.length b))) then d false else jg1 a b Z1c 0 (λ_=>d true) (λ_=>d false)
def jha:Sig Unit:=sg [.look y8 false,.look y8 false] [false] [(y8,none),(y8,none)] [] λb f k=>j9b b.1 b.2.1 (λd=>k [wB d] [] [])
theorem jmH:SO 258 jha:=fK (np:=0) (Za6 jhA Zas) [jeT] (oI 58 0 @jkL oN) false Tryz.func258 λ_ _ _ _=>by kernel_rfl
def j3V (a:List qC) (d:Int) (i:Int) (b:qE->Res):Res:=bif inb i (List.length a) then b (upd a i ((nth (eS,0,false,false,0,0,eS) a i).1,(nth (eS,0,false,false,0,0,eS) a i).2.1,((Int.tmod d 3)==0),(nth (eS,0,false,false,0,0,eS) a i).2.2.2)) else none
def j26:Z1d Unit:=Nd 71 71 [.R 0 y8 .O,.I 1,.I 5] [] λb g f=>j3V b.1 b.2.1 b.2.2.1 (λd=>f .normal [(0,v1 y8 d .O),(1,vI b.2.1),(5,vI b.2.2.1)] [])
theorem jiH:CN 1 13470 Tryz.f111 j26:=nK (Za6 j0j Zas) [] oN ([0,1,5],[]) [] ([],[]) λ_ _ _=>by kernel_rfl
def j3W (a:List qC) (d:Int) (i:Int) (b:qE->Res):Res:=bif inb i (List.length a) then b (upd a i ((nth (eS,0,false,false,0,0,eS) a i).1,(nth (eS,0,false,false,0,0,eS) a i).2.1,(nth (eS,0,false,false,0,0,eS) a i).2.2.1,(nth (eS,0,false,false,0,0,eS) a i).2.2.2.1,d,(nth (eS,0,false,false,0,0,eS) a i).2.2.2.2.2)) else none
def j3l:Z1d Unit:=Nd 71 71 [.R 0 y8 .O,.I 1,.I 5] [] λb g f=>j3W b.1 b.2.1 b.2.2.1 (λd=>f .normal [(0,v1 y8 d .O),(1,vI b.2.1),(5,vI b.2.2.1)] [])
theorem jiI:CN 1 215550 Tryz.f111 j3l:=nK (Za6 j0j Zas) [j26] oN ([0,1,5],[]) [] ([],[]) λ_ _ _=>by kernel_rfl
def j3X (a:List qC) (d:Int) (i:Int) (b:qE->Res):Res:=j0k d λr=>bif inb i (List.length a) then b (upd a i ((nth (eS,0,false,false,0,0,eS) a i).1,(nth (eS,0,false,false,0,0,eS) a i).2.1,(nth (eS,0,false,false,0,0,eS) a i).2.2.1,(nth (eS,0,false,false,0,0,eS) a i).2.2.2.1,(nth (eS,0,false,false,0,0,eS) a i).2.2.2.2.1,(nth (eS,0,false,false,0,0,eS) a i).2.2.2.2.2.1,r)) else none
def j5M:Z1d Unit:=Nd 71 71 [.R 0 y8 .O,.I 1,.I 5] [] λb g f=>j3X b.1 b.2.1 b.2.2.1 (λd=>f .normal [(0,v1 y8 d .O),(1,vI b.2.1),(5,vI b.2.2.1)] [])
theorem jiJ:CN 1 3448830 Tryz.f111 j5M:=nK (Za6 j0j Zas) [j26,j3l] oN ([0,1,5],[]) [] ([],[]) λ_ _ _=>by kernel_rfl
def j1B (a:List qC) (b:Int) (i:Int) (rec:qE->Int->Int->Res) (h:qE->Int->Res):Res:=bif decide (i<(nI (List.length a))) then j0k b λr=>bif inb i (List.length a) then bif inb i (List.length (upd a i (r,(nth (eS,0,false,false,0,0,eS) a i).2))) then j3V (upd (upd a i (r,(nth (eS,0,false,false,0,0,eS) a i).2)) i ((nth (eS,0,false,false,0,0,eS) (upd a i (r,(nth (eS,0,false,false,0,0,eS) a i).2)) i).1,Z9K (b+1),(nth (eS,0,false,false,0,0,eS) (upd a i (r,(nth (eS,0,false,false,0,0,eS) a i).2)) i).2.2)) (Z9K ((Z9K (b+1))+1)) i λf=>bif inb i (List.length f) then j3W (upd f i ((nth (eS,0,false,false,0,0,eS) f i).1,(nth (eS,0,false,false,0,0,eS) f i).2.1,(nth (eS,0,false,false,0,0,eS) f i).2.2.1,((Int.tmod (Z9K ((Z9K ((Z9K (b+1))+1))+1)) 3)==0),(nth (eS,0,false,false,0,0,eS) f i).2.2.2.2)) (Z9K ((Z9K ((Z9K ((Z9K (b+1))+1))+1))+1)) i λd=>bif inb i (List.length d) then j3X (upd d i ((nth (eS,0,false,false,0,0,eS) d i).1,(nth (eS,0,false,false,0,0,eS) d i).2.1,(nth (eS,0,false,false,0,0,eS) d i).2.2.1,(nth (eS,0,false,false,0,0,eS) d i).2.2.2.1,(nth (eS,0,false,false,0,0,eS) d i).2.2.2.2.1,Z9K ((Z9K ((Z9K ((Z9K ((Z9K (b+1))+1))+1))+1))+1),(nth (eS,0,false,false,0,0,eS) d i).2.2.2.2.2.2)) (Z9K ((Z9K ((Z9K ((Z9K ((Z9K ((Z9K (b+1))+1))+1))+1))+1))+1)) i λg=>rec g (Z9K ((Z9K ((Z9K ((Z9K ((Z9K ((Z9K ((Z9K (b+1))+1))+1))+1))+1))+1))+1)) (Z9K (i+1)) else none else none else none else none else h a b
def j53:(qE×Int×Int)->(qE×Int×Int->Res)->((qE->Int->Res))->Res:=λv rec q=>j1B v.1 v.2.1 v.2.2 (λa b i=>rec (a,b,i)) q
def jdM (n:Nat) (a:List qC) (d:Int) (i:Int) (b:qE->Int->Res):Res:=Z1f (j53) n (a,d,i) (b)
def jd1:Z1d Unit:=NdL 71 71 [.R 0 y8 .O,.I 1,.I 5] [] (λb f=>(b.1,b.2.1,b.2.2.1)) (λb v=>(v.1,v.2.1,v.2.2,())) (λf v=>()) (λb f=>j53) λb f h=>((λg d=>h (.exit 0) [(0,v1 y8 g .O),(1,vI d)] []))
theorem jiG:CN 1 26 Tryz.f111 jd1:=lK (Za6 j0j Zas) [j26,j3l,j5M] (oI 414 0 @jiH (oI 6654 1 @jiI (oI 106494 2 @jiJ oN))) ([],[]) [(0,[0,1],[])] ([],[]) λ_ _ _ _ _=>by delta j53 j1B j7D j26 j3l j5M;refine gz j0k λ_ b=>gz j3V λ_ d=>gz j3W λ_ f=>gz j3X λ_ g=> ?_;rewrite [<-b,<-d,<-f,<-g];kernel_rfl
def j9s (a:List qC) (g:Int) (f:Int->qE->Res):Res:=jdM Z1c a g 0 λd b=>f b d
def jeI:Sig Unit:=sg [.inout y8 false,.borrow tI false] [false] [(y8,some [.O]),(tI,none)] [] λb g k=>j9s b.1 b.2.1 (λf d=>k [wI f] [w1 y8 d .O] [])
theorem jkf:SO 111 jeI:=fK (np:=1) (Za6 j0j Zas) [j26,j3l,j5M,jd1] (oI 26 3 @jiG oN) false Tryz.func111 λ_ _ _ _=>by kernel_rfl
end
end Go.PI.G
namespace Go.PI.G
noncomputable section
open Go Go.PI Go.Proofs
open Go.Code (pl pr)
def j2h (a:qL) (left:Int) (i:Int) (rec:Int->Int->Res) (b:Int->Res) (d:Unit->Res):Res:=bif decide (i<(nI (List.length a))) then bif inb i (List.length a) then bif decide ((Z9K (left-(nI (ByteArray.size (nth eS a i)))))<0) then d () else rec (Z9K (left-(nI (ByteArray.size (nth eS a i))))) (Z9K (i+1)) else none else b left
def jbo (a:qL):(Int×Int)->(Int×Int->Res)->((Int->Res)×(Unit->Res))->Res:=λv rec q=>j2h a v.1 v.2 (λleft i=>rec (left,i)) q.1 q.2
def j8U (a:qL) (n:Nat) (left:Int) (i:Int) (b:Int->Res) (d:Unit->Res):Res:=Z1f (jbo a) n (left,i) (b,d)
def jcr:Z1d Unit:=NdL 28 28 [.R 0 y0 .S,.I 1,.I 5] [] (λd f=>(d.2.1,d.2.2.1)) (λd v=>(d.1,v.1,v.2,())) (λf v=>()) (λd f=>jbo d.1) λd f g=>((λb=>g (.exit 0) [(1,vI b)] []),(λ_=>g .ret [(4,vI (-1))] []))
theorem jhW:CN 0 122 Tryz.f82 jcr:=lK Zas [] oN ([],[]) [(0,[1],[])] ([4],[]) λ_ _ _ _ _=>by kernel_rfl
def j63 (a:qL) (left:Int) (d:Int->Res):Res:=bif decide ((Z9K (left-(nI (List.length a))))<0) then d (-1) else j8U a Z1c (Z9K (left-(nI (List.length a)))) 0 (λb=>d b) (λ_=>d (-1))
def jdZ:Sig Unit:=sg [.look y0 false,.look tI false] [false] [(y0,none),(tI,none)] [] λb f k=>j63 b.1 b.2.1 (λd=>k [wI d] [] [])
theorem jjr:SO 82 jdZ:=fK (np:=0) Zas [jcr] (oI 122 0 @jhW oN) false Tryz.func82 λ_ _ _ _=>by kernel_rfl
def j2i (a:qL) (b:qL) (i:Int) (rec:qL->Int->Res) (d:qL->Res):Res:=bif decide (i<(nI (List.length a))) then bif inb i (List.length a) then bif inb i (List.length b) then rec (upd b i (nth eS a i)) (Z9K (i+1)) else none else none else d b
def j7s (a:qL):(qL×Int)->(qL×Int->Res)->((qL->Res))->Res:=λv rec q=>j2i a v.1 v.2 (λb i=>rec (b,i)) q
def jiB (a:qL) (n:Nat) (b:qL) (i:Int) (d:qL->Res):Res:=Z1f (j7s a) n (b,i) (d)
def jcs:Z1d Unit:=NdL 22 22 [.R 0 y0 .S,.R 3 y0 .O,.I 4] [] (λb f=>(b.2.1,b.2.2.1)) (λb v=>(b.1,v.1,v.2,())) (λf v=>()) (λb f=>j7s b.1) λb f g=>((λd=>g (.exit 0) [(3,v1 y0 d .O)] []))
theorem jhX:CN 0 58 Tryz.f88 jcs:=lK Zas [] oN ([],[]) [(0,[3],[])] ([],[]) λ_ _ _ _ _=>by kernel_rfl
def j64 (a:qL) (d:qL->Res):Res:=bif Z9I (nI (List.length a)) (nI (List.length a)) then jiB a Z1c (Z9h (nI (List.length a)) eS) 0 λb=>d b else none
def je0:Sig Unit:=sg [.borrow y0 false] [false] [(y0,none)] [] λd f k=>j64 d.1 (λb=>k [w1 y0 b .O] [] [])
theorem jjs:SO 88 je0:=fK (np:=0) Zas [jcs] (oI 58 0 @jhX oN) false Tryz.func88 λ_ _ _ _=>by kernel_rfl
def j2g (a:qL) (b:qL) (i:Int) (rec:Int->Res) (d:Unit->Res) (f:Unit->Res):Res:=bif decide (i<(nI (List.length a))) then bif inb i (List.length a) then bif inb i (List.length b) then bif sNe (nth eS a i) (nth eS b i) then f () else rec (Z9K (i+1)) else none else none else d ()
def jbm (a:qL) (b:qL):Int->(Int->Res)->((Unit->Res)×(Unit->Res))->Res:=λv rec q=>j2g a b v (λi=>rec (i)) q.1 q.2
def jcY (a:qL) (b:qL) (n:Nat) (i:Int) (d:Unit->Res) (f:Unit->Res):Res:=Z1f (jbm a b) n (i) (d,f)
def jcq:Z1d Unit:=NdL 26 26 [.R 0 y0 .S,.R 1 y0 .S,.I 5] [] (λb d=>(b.2.2.1)) (λb v=>(b.1,b.2.1,v,())) (λd v=>()) (λb d=>jbm b.1 b.2.1) λb d f=>((λ_=>f (.exit 0) [] []),(λ_=>f .ret [(4,vB false)] []))
theorem jhV:CN 0 58 Tryz.f97 jcq:=lK Zas [] oN ([],[]) [(0,[],[])] ([4],[]) λ_ _ _ _ _=>by kernel_rfl
def j61 (a:qL) (b:qL) (d:Bool->Res):Res:=bif ((nI (List.length a)) != (nI (List.length b))) then d false else jcY a b Z1c 0 (λ_=>d true) (λ_=>d false)
def jdY:Sig Unit:=sg [.look y0 false,.look y0 false] [false] [(y0,none),(y0,none)] [] λb f k=>j61 b.1 b.2.1 (λd=>k [wB d] [] [])
theorem jjq:SO 97 jdY:=fK (np:=0) Zas [jcq] (oI 58 0 @jhV oN) false Tryz.func97 λ_ _ _ _=>by kernel_rfl
def j1D (a:qL) (b:Int) (i:Int) (rec:qL->Int->Int->Res) (d:qL->Int->Res):Res:=bif decide (i<(nI (List.length a))) then j0k b λr=>bif inb i (List.length a) then rec (upd a i r) (Z9K (b+1)) (Z9K (i+1)) else none else d a b
def j62:(qL×Int×Int)->(qL×Int×Int->Res)->((qL->Int->Res))->Res:=λv rec q=>j1D v.1 v.2.1 v.2.2 (λa b i=>rec (a,b,i)) q
def jbn (n:Nat) (a:qL) (d:Int) (i:Int) (b:qL->Int->Res):Res:=Z1f (j62) n (a,d,i) (b)
def jbc:Z1d Unit:=NdL 20 20 [.R 0 y0 .O,.I 1,.I 5] [] (λb f=>(b.1,b.2.1,b.2.2.1)) (λb v=>(v.1,v.2.1,v.2.2,())) (λf v=>()) (λb f=>j62) λb f h=>((λg d=>h (.exit 0) [(0,v1 y0 g .O),(1,vI d)] []))
theorem jgB:CN 1 26 Tryz.f98 jbc:=lK (Za6 j0j Zas) [] oN ([],[]) [(0,[0,1],[])] ([],[]) λ_ _ _ _ _=>by kernel_rfl
def j6K (a:qL) (g:Int) (f:Int->qL->Res):Res:=jbn Z1c a g 0 λd b=>f b d
def jcm:Sig Unit:=sg [.inout y0 false,.borrow tI false] [false] [(y0,some [.O]),(tI,none)] [] λb g k=>j6K b.1 b.2.1 (λf d=>k [wI f] [w1 y0 d .O] [])
theorem jhD:SO 98 jcm:=fK (np:=1) (Za6 j0j Zas) [jbc] (oI 26 0 @jgB oN) false Tryz.func98 λ_ _ _ _=>by kernel_rfl
end
end Go.PI.G
namespace Go.PI.G
noncomputable section
open Go Go.PI Go.Proofs
open Go.Code (pl pr)
def j8w (a:qG) (left:Int) (b:Int->Res):Res:=bif decide ((Z9K (left-(nI (ByteArray.size a.2.1))))<0) then b (-1) else j9e a.2.2.1 (Z9K (left-(nI (ByteArray.size a.2.1)))) λr=>bif decide (r<0) then b (-1) else j63 a.2.2.2.1 r λd=>bif decide (d<0) then b (-1) else bif decide ((Z9K (d-(nI (ByteArray.size a.2.2.2.2.1))))<0) then b (-1) else bif decide ((Z9K ((Z9K (d-(nI (ByteArray.size a.2.2.2.2.1))))-(nI (ByteArray.size a.2.2.2.2.2))))<0) then b (-1) else b (Z9K ((Z9K (d-(nI (ByteArray.size a.2.2.2.2.1))))-(nI (ByteArray.size a.2.2.2.2.2))))
def jid:Sig Unit:=sg [.look y13 true,.look tI false] [false] [(y13,none),(tI,none)] [] λb f k=>j8w b.1 b.2.1 (λd=>k [wI d] [] [])
theorem jnE:SO 185 jid:=fK (np:=0) (Za6 jjr (Za6 jmK Zas)) [] oN false Tryz.func185 λ_ _ _ _=>by delta j8w jhb jdZ;refine gz j9e λ_ b=>gz j63 λ_ d=> ?_;rewrite [<-b,<-d];kernel_rfl
def j8x (a:qG) (b:qG->Res):Res:=j9h a.2.2.1 λr=>j64 a.2.2.2.1 λd=>b (a.1,a.2.1,r,d,a.2.2.2.2.1,a.2.2.2.2.2)
def jif:Sig Unit:=sg [.borrow y13 true] [true] [(y13,none)] [] λd f k=>j8x d.1 (λb=>k [⟨y13,true,b,[.O,.O]⟩] [] [])
theorem jnG:SO 194 jif:=fK (np:=0) (Za6 jjs (Za6 jmN Zas)) [] oN false Tryz.func194 λ_ _ _ _=>by delta j8x jhc je0;refine gz j9h λ_ b=>gz j64 λ_ d=> ?_;rewrite [<-b,<-d];kernel_rfl
def j8v (a:qG) (b:qG) (d:Bool->Res):Res:=bif (a.1 != b.1) then d false else bif sNe a.2.1 b.2.1 then d false else j9b a.2.2.1 b.2.2.1 λr=>bif !r then d false else j61 a.2.2.2.1 b.2.2.2.1 λf=>bif !f then d false else bif sNe a.2.2.2.2.1 b.2.2.2.2.1 then d false else bif sNe a.2.2.2.2.2 b.2.2.2.2.2 then d false else d true
def jic:Sig Unit:=sg [.look y13 true,.look y13 true] [false] [(y13,none),(y13,none)] [] λb f k=>j8v b.1 b.2.1 (λd=>k [wB d] [] [])
theorem jnD:SO 200 jic:=fK (np:=0) (Za6 jjq (Za6 jmH Zas)) [] oN false Tryz.func200 λ_ _ _ _=>by delta j8v jha jdY;refine gz j9b λ_ b=>gz j61 λ_ d=> ?_;rewrite [<-b,<-d];kernel_rfl
end
end Go.PI.G
