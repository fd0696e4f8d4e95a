/-
  Program's code interpreted over typed values; printed texts; plain laws. No conditions.
-/
import Derived.Test.YtiaipepkkjlccaaGreatWOd
set_option linter.unusedVariables false
set_option maxRecDepth 100000
namespace Go.PI.G
noncomputable section
open Go Go.PI Go.Proofs
open Go.Code (pl pr)
def j4F (c:qB×Int×Bool×Bool×Int×Int×qB)(b:Bool->Res):Res:=j0t c.1 λr=>bif !r then b false else bif decide (c.2.1<1) then b false else bif decide (c.2.1>3) then b false else bif !c.2.2.2.1 then b ((c.2.2.2.2.1==0)&&((c.2.2.2.2.2.1==0)&&(sEq c.2.2.2.2.2.2 eS))) else j1a c.2.2.2.2 λd=>bif d then bif ((c.2.2.2.2.1==0)&&((c.2.2.2.2.2.1==0)&&(sEq c.2.2.2.2.2.2 eS))) then bif ((c.2.2.2.2.1==0)&&((c.2.2.2.2.2.1==0)&&(sEq c.2.2.2.2.2.2 eS))) then b (!c.2.2.1) else b true else bif (c.2.2.2.2.1==c.2.1) then bif ((c.2.2.2.2.1==0)&&((c.2.2.2.2.2.1==0)&&(sEq c.2.2.2.2.2.2 eS))) then b (!c.2.2.1) else b true else b false else b false
def j7o:Sig Unit:=sg [.look y6 true] [false] [(y6,none)] [] λd f k=>j4F d.1 (λb=>k [wB b] [] [])
theorem jhS:SO 189 j7o:=fK (np:=0) (Za5 j4e (Za5 j76 Zar)) [] oN false Tryz.func189 λ_ _ _ _=>by delta j4F j2y jaj;refine gz j0t λ_ b=>gz j1a λ_ d=> ?_;rewrite[<-b,<-d];kernel_rfl
def j4E (name:qB)(d:List qC)(h:Int)(b:Int)(rec:Int->Res)(f:Unit->Res)(g:Int->Res):Res:=bif decide (b<h) then bif inb b d.length then bif sEq (nth (eS,0,false,false,0,0,eS) d b).1 name then g b else rec (Z9J (b+1)) else none else f ()
def jap (name:qB)(d:List qC)(f:Int):Int->(Int->Res)->((Unit->Res)×(Int->Res))->Res:=λv rec q=>j4E name d f v (λb=>rec (b)) q.1 q.2
def jhq (name:qB)(g:List qC)(h:Int)(n:Nat)(b:Int)(d:Unit->Res)(f:Int->Res):Res:=Z1e (jap name g h) n (b) (d,f)
def jge:Z1c Unit:=NdL 21 21 [.S 1,.R 8 y7 .S,.I 9,.I 10] [] (λb d=>(b.2.2.2.1)) (λb v=>(b.1,b.2.1,b.2.2.1,v,())) (λd v=>()) (λb d=>jap b.1 b.2.1 b.2.2.1) λb d f=>((λ_=>f (.exit 0) [] []),(λg=>f .ret [(4,vI g)] []))
theorem jmg:CN 0 26 Tryz.f190 jge:=lK Zar [] oN ([],[]) [(0,[],[])] ([4],[]) λ_ _ _ _ _=>by kernel_rfl
def j0E (t:qB×qE×qL)(name:qB)(b:Int->Res):Res:=jhq name t.2.1 (nI t.2.1.length) Z1b 0 (λ_=>b (-1)) (λd=>b d)
def j2d:Sig Unit:=sg [.look y22 true,.look .str false] [false] [(y22,none),(.str,none)] [] λb f k=>j0E b.1 b.2.1 (λd=>k [wI d] [] [])
theorem j5g:SO 190 j2d:=fK (np:=0) Zar [jge] (oI 26 0 @jmg oN) false Tryz.func190 λ_ _ _ _=>by kernel_rfl
theorem j7D:FS [(60,j2y),(189,j7o),(190,j2d)]:=(Za5 j4e (Za5 jhS (Za5 j5g Zar)))
def j4N (t:qB×qE×qL)(b:Bool->Res):Res:=j0t t.1 λr=>bif !r then b true else bif decide ((nI t.2.1.length)<1) then b true else bif decide ((nI t.2.1.length)>8) then b true else b (decide ((nI t.2.2.length)<1))
def j44:Z1c Unit:=Nd 75 75 [.t 1 (pB 1)] [(1,y22,[.S,.S])] λg d f=>j4N d.1.2 (λb=>f .normal [(1,pB 1),(30,vB b)] [(1,⟨y22,d.1.1,d.1.2,[.S,.S]⟩)])
theorem jk4:CN 0 12 Tryz.f144 j44:=nK j7D [] oN ([1,30],[1]) [] ([],[]) λ_ _ _=>by kernel_rfl
def j1E (d:List qC)(f:Int)(t:qB×qE×qL)(b:Int)(rec:Int->Res)(h:Unit->Res)(g:Unit->Res):Res:=bif decide (b<f) then bif inb b d.length then j4F (nth (eS,0,false,false,0,0,eS) d b) λr=>bif !r then g () else j0E t (nth (eS,0,false,false,0,0,eS) d b).1 λi=>bif (i != b) then g () else rec (Z9J (b+1)) else none else h ()
def j2U (b:List qC)(d:Int)(t:qB×qE×qL):Int->(Int->Res)->((Unit->Res)×(Unit->Res))->Res:=λv rec q=>j1E b d t v (λf=>rec (f)) q.1 q.2
def j70 (b:List qC)(d:Int)(t:qB×qE×qL)(n:Nat)(f:Int)(g:Unit->Res)(h:Unit->Res):Res:=Z1e (j2U b d t) n (f) (g,h)
def j6k:Z1c Unit:=NdL 75 75 [.t 1 (pB 1),.R 32 y7 .S,.I 33,.I 34] [(1,y22,[.S,.S])] (λb d=>(b.2.2.1)) (λb v=>(b.1,b.2.1,v,())) (λd v=>((d.1.1,d.1.2),())) (λb d=>j2U b.1 b.2.1 d.1.2) λb d f=>((λ_=>f (.exit 0) [(1,pB 1)] [(1,⟨y22,d.1.1,d.1.2,[.S,.S]⟩)]),(λ_=>f .ret [(2,vB false)] []))
theorem jk2:CN 0 58 Tryz.f144 j6k:=lK j7D [j44] oN ([],[]) [(0,[1],[1])] ([2],[]) λ_ _ _ _ _=>by delta j2U j1E j7o j2d;refine gz j4F λ_ b=>gz j0E λ_ d=> ?_;rewrite[<-b,<-d];kernel_rfl
def j2V (f:qL)(g:Int)(t:qB×qE×qL)(d:Int)(b:Int)(rec:Int->Int->Res)(i:Unit->Res)(h:Unit->Res):Res:=bif decide (b<g) then bif inb b f.length then j0E t (nth eS f b) λr=>bif decide (r<=d) then h () else bif inb r t.2.1.length then bif !(nth (eS,0,false,false,0,0,eS) t.2.1 r).2.2.1 then h () else rec r (Z9J (b+1)) else none else none else i ()
def j53 (d:qL)(f:Int)(t:qB×qE×qL):(Int×Int)->(Int×Int->Res)->((Unit->Res)×(Unit->Res))->Res:=λv rec q=>j2V d f t v.1 v.2 (λb g=>rec (b,g)) q.1 q.2
def j71 (d:qL)(f:Int)(t:qB×qE×qL)(n:Nat)(b:Int)(g:Int)(h:Unit->Res)(i:Unit->Res):Res:=Z1e (j53 d f t) n (b,g) (h,i)
def j9v:Z1c Unit:=NdL 75 75 [.t 1 (pB 1),.I 5,.R 52 y8 .S,.I 53,.I 54] [(1,y22,[.S,.S])] (λb d=>(b.1,b.2.2.2.1)) (λb v=>(v.1,b.2.1,b.2.2.1,v.2,())) (λd v=>((d.1.1,d.1.2),())) (λb d=>j53 b.2.1 b.2.2.1 d.1.2) λb d f=>((λ_=>f (.exit 2) [] []),(λ_=>f .ret [(2,vB false)] []))
theorem jk3:CN 0 250 Tryz.f144 j9v:=lK j7D [j44,j6k] oN ([],[]) [(2,[],[])] ([2],[]) λ_ _ _ _ _=>by kernel_rfl
def j0q (t:qB×qE×qL)(b:Bool->Res):Res:=j4N t λd=>bif d then b false else j70 t.2.1 (nI t.2.1.length) t Z1b 0 (λ_=>j71 t.2.2 (nI t.2.2.length) t Z1b (-1) 0 (λ_=>b true) (λ_=>b false)) (λ_=>b false)
def j0X:Sig Unit:=sg [.look y22 true] [false] [(y22,none)] [] λd f k=>j0q d.1 (λb=>k [wB b] [] [])
theorem j3c:SO 144 j0X:=fK (np:=0) j7D [j44,j6k,j9v] (oI 12 0 @jk4 (oI 58 1 @jk2 (oI 250 2 @jk3 oN))) false Tryz.func144 λ_ _ _ _=>by delta j0q j44 j6k j9v j70 j71;refine gz j4N λ_ b=>gz j2U λ_ d=>gz j53 λ_ f=> ?_;rewrite[<-b,<-d,<-f];kernel_rfl
theorem jhB:FS [(60,j2y),(144,j0X),(189,j7o)]:=(Za5 j4e (Za5 j3c (Za5 jhS Zar)))
def j6t (d:qG)(b:Bool->Res):Res:=bif ((nI d.2.2.1.length)==0) then b ((nI d.2.2.2.1.length)==0) else b false
def jbq:Z1c Unit:=Nd 123 123 [.t 1 (pB 1)] [(1,y13,[.S,.S])] λf b d=>j6t b.1.2 (λplain=>d .normal [(1,pB 1),(3,vB plain)] [(1,⟨y13,b.1.1,b.1.2,[.S,.S]⟩)])
theorem jmh:CN 0 14 Tryz.f169 jbq:=nK jhB [] oN ([1,3],[1]) [] ([],[]) λ_ _ _=>by kernel_rfl
def j22 (d:qG)(b:Bool->Res):Res:=j0t d.2.1 λr=>bif !r then b false else j6t d λplain=>bif (d.1==1) then bif sEq d.2.2.2.2.1 eS then bif sEq d.2.2.2.2.2 eS then j0q (d.2.1,d.2.2.1,d.2.2.2.1) λf=>b f else b false else b false else bif (d.1==2) then bif plain then bif sEq d.2.2.2.2.1 eS then b (sEq d.2.2.2.2.2 eS) else b false else b false else bif (d.1==3) then bif ((nI d.2.2.1.length)==1) then bif inb 0 d.2.2.1.length then j4F (nth (eS,0,false,false,0,0,eS) d.2.2.1 0) λg=>bif g then bif inb 0 d.2.2.1.length then bif (nth (eS,0,false,false,0,0,eS) d.2.2.1 0).2.2.2.1 then bif ((nI d.2.2.2.1.length)==0) then bif sEq d.2.2.2.2.1 eS then b (sEq d.2.2.2.2.2 eS) else b false else b false else bif inb 0 d.2.2.1.length then bif !(nth (eS,0,false,false,0,0,eS) d.2.2.1 0).2.2.1 then bif ((nI d.2.2.2.1.length)==0) then bif sEq d.2.2.2.2.1 eS then b (sEq d.2.2.2.2.2 eS) else b false else b false else b false else none else none else b false else none else b false else bif (d.1==4) then bif plain then j0t d.2.2.2.2.1 λh=>bif h then b (sEq d.2.2.2.2.2 eS) else b false else b false else bif (d.1==5) then bif plain then j0t d.2.2.2.2.1 λi=>bif i then j0t d.2.2.2.2.2 λj=>b j else b false else b false else b false
def j3M:Sig Unit:=sg [.look y13 true] [false] [(y13,none)] [] λd f k=>j22 d.1 (λb=>k [wB b] [] [])
theorem jda:SO 169 j3M:=fK (np:=0) jhB [jbq] (oI 14 0 @jmh oN) false Tryz.func169 λ_ _ _ _=>by delta j22 j2y jbq j0X j7o;refine gz j0t λ_ b=>gz j6t λ_ d=>gz j0q λ_ f=>gz j4F λ_ g=> ?_;rewrite[<-b,<-d,<-f,<-g];kernel_rfl
def j4D (d:List qT)(f:Int)(c:List qT)(b:Int)(rec:Int->Res)(h:Unit->Res)(g:Unit->Res):Res:=bif decide (b<f) then bif inb b d.length then j0q (nth (eS,[],[]) d b) λr=>bif !r then g () else bif decide (b>0) then bif inb (Z9J (b-1)) c.length then bif sGe (nth (eS,[],[]) c (Z9J (b-1))).1 (nth (eS,[],[]) d b).1 then g () else rec (Z9J (b+1)) else none else rec (Z9J (b+1)) else none else h ()
def jao (b:List qT)(d:Int)(c:List qT):Int->(Int->Res)->((Unit->Res)×(Unit->Res))->Res:=λv rec q=>j4D b d c v (λf=>rec (f)) q.1 q.2
def jch (b:List qT)(d:Int)(c:List qT)(n:Nat)(f:Int)(g:Unit->Res)(h:Unit->Res):Res:=Z1e (jao b d c) n (f) (g,h)
def jgd:Z1c Unit:=NdL 37 37 [.t 1 (pB 1),.R 10 y23 .S,.I 11,.I 12] [(1,y23,[.S])] (λb d=>(b.2.2.1)) (λb v=>(b.1,b.2.1,v,())) (λd v=>((d.1.1,d.1.2),())) (λb d=>jao b.1 b.2.1 d.1.2) λb d f=>((λ_=>f (.exit 0) [] []),(λ_=>f .ret [(2,vB false)] []))
theorem jmf:CN 0 58 Tryz.f98 jgd:=lK (Za5 j3c Zar) [] oN ([],[]) [(0,[],[])] ([2],[]) λ_ _ _ _ _=>by kernel_rfl
def j6a (c:List qT)(b:Bool->Res):Res:=bif decide ((nI c.length)>6) then b false else jch c (nI c.length) c Z1b 0 (λ_=>b true) (λ_=>b false)
def j7n:Sig Unit:=sg [.look y23 true] [false] [(y23,none)] [] λd f k=>j6a d.1 (λb=>k [wB b] [] [])
theorem jhR:SO 98 j7n:=fK (np:=0) (Za5 j3c Zar) [jgd] (oI 58 0 @jmf oN) false Tryz.func98 λ_ _ _ _=>by kernel_rfl
def j4i (t:qB×qE×qL)(b:qT->Res):Res:=Z86 (Z86 (bif lim (0+t.2.1.length) then bif lim (0+t.2.2.length) then b (t.1,t.2.1,t.2.2) else none else none) (bif lim (0+t.2.1.length) then bif lim (0+t.2.2.length) then b (t.1,t.2.1,t.2.2) else none else none)) (bif lim (0+t.2.1.length) then bif lim (0+t.2.2.length) then b (t.1,t.2.1,t.2.2) else none else none)
def jal:Sig Unit:=sg [.borrow y22 true] [true] [(y22,none)] [] λd f k=>j4i d.1 (λb=>k [⟨y22,true,b,[.O,.O]⟩] [] [])
theorem j9G:SO 223 jal:=fK (np:=0) Zar [] oN false Tryz.func223 λ_ _ _ _=>by kernel_rfl
def j2W (f:List qT)(h:Int)(b:Int)(d:List qT)(rec:Int->qF->Res)(g:qF->Res):Res:=bif decide (b<h) then bif inb b f.length then j4i (nth (eS,[],[]) f b) λr=>bif lim (d.length+1) then rec (Z9J (b+1)) (d++[r]) else none else none else g d
def j8j (f:List qT)(g:Int):(Int×qF)->(Int×qF->Res)->((qF->Res))->Res:=λv rec q=>j2W f g v.1 v.2 (λd b=>rec (d,b)) q
def jew (g:List qT)(h:Int)(n:Nat)(d:Int)(b:List qT)(f:qF->Res):Res:=Z1e (j8j g h) n (d,b) (f)
def jdW:Z1c Unit:=NdL 23 23 [.t 2 (pB 2),.t 3 (pB 3),.R 8 y23 .S,.I 9,.I 10] [(2,y23,[.O]),(3,y23,[.O])] (λd b=>(d.2.2.1,b.2.1.2)) (λd v=>(d.1,d.2.1,v.1,())) (λb v=>((b.1.1,b.1.2),(b.2.1.1,v.2),())) (λd b=>j8j d.1 d.2.1) λd b g=>((λf=>g (.exit 0) [(2,pB 2),(3,pB 3)] [(2,⟨y23,b.1.1,b.1.2,[.O]⟩),(3,⟨y23,b.2.1.1,f,[.O]⟩)]))
theorem jk5:CN 0 58 Tryz.f184 jdW:=lK (Za5 j9G Zar) [] oN ([],[]) [(0,[2,3],[2,3])] ([],[]) λ_ _ _ _ _=>by kernel_rfl
def j3S (c:List qT)(d:qF->Res):Res:=jew c (nI c.length) Z1b 0 [] λb=>d b
def j5F:Sig Unit:=sg [.borrow y23 true] [true] [(y23,none)] [] λd f k=>j3S d.1 (λb=>k [⟨y23,true,b,[.O]⟩] [] [])
theorem jfy:SO 184 j5F:=fK (np:=0) (Za5 j9G Zar) [jdW] (oI 58 0 @jk5 oN) false Tryz.func184 λ_ _ _ _=>by kernel_rfl
def j4O (name:qB)(d:List qT)(h:Int)(b:Int)(rec:Int->Res)(f:Unit->Res)(g:Int->Res):Res:=bif decide (b<h) then bif inb b d.length then bif sEq (nth (eS,[],[]) d b).1 name then g b else rec (Z9J (b+1)) else none else f ()
def jav (name:qB)(d:List qT)(f:Int):Int->(Int->Res)->((Unit->Res)×(Int->Res))->Res:=λv rec q=>j4O name d f v (λb=>rec (b)) q.1 q.2
def jhs (name:qB)(g:List qT)(h:Int)(n:Nat)(b:Int)(d:Unit->Res)(f:Int->Res):Res:=Z1e (jav name g h) n (b) (d,f)
def jgg:Z1c Unit:=NdL 21 21 [.S 1,.R 8 y23 .S,.I 9,.I 10] [] (λb d=>(b.2.2.2.1)) (λb v=>(b.1,b.2.1,b.2.2.1,v,())) (λd v=>()) (λb d=>jav b.1 b.2.1 b.2.2.1) λb d f=>((λ_=>f (.exit 0) [] []),(λg=>f .ret [(4,vI g)] []))
theorem jmn:CN 0 26 Tryz.f186 jgg:=lK Zar [] oN ([],[]) [(0,[],[])] ([4],[]) λ_ _ _ _ _=>by kernel_rfl
def j24 (c:List qT)(name:qB)(b:Int->Res):Res:=jhs name c (nI c.length) Z1b 0 (λ_=>b (-1)) (λt=>b t)
def j3N:Sig Unit:=sg [.look y23 true,.look .str false] [false] [(y23,none),(.str,none)] [] λb f k=>j24 b.1 b.2.1 (λd=>k [wI d] [] [])
theorem jdd:SO 186 j3N:=fK (np:=0) Zar [jgg] (oI 26 0 @jmn oN) false Tryz.func186 λ_ _ _ _=>by kernel_rfl
def jbm (done:Bool)(t:qB×qE×qL)(b:List qT)(x:qB×qE×qL)(d:Bool->qF->Res):Res:=bif !done then bif sLt t.1 x.1 then bif lim (b.length+1) then d true (b++[t]) else none else d done b else d done b
def jaL:Z1c Unit:=Nd 48 48 [.t 3 (pB 3),.t 4 (pB 4),.t 5 (pB 5),.B 6,.t 8 (pB 8),.R 11 y23 .S,.I 12,.I 13] [(3,y22,[.S,.S]),(4,y23,[.O]),(5,y23,[.PS]),(8,y22,[.S,.S])] λg b h=>jbm g.1 b.1.2 b.2.2.1.2 b.2.2.2.1.2 (λd f=>h .normal [(3,pB 3),(4,pB 4),(5,pB 5),(6,vB d),(8,pB 8),(11,v1 y23 g.2.1 .S),(12,vI g.2.2.1),(13,vI g.2.2.2.1)] [(3,⟨y22,b.1.1,b.1.2,[.S,.S]⟩),(4,⟨y23,b.2.1.1,b.2.1.2,[.O]⟩),(5,⟨y23,b.2.2.1.1,f,[.PS]⟩),(8,⟨y22,b.2.2.2.1.1,b.2.2.2.1.2,[.S,.S]⟩)])
theorem jla:CN 0 15666 Tryz.f245 jaL:=nK Zar [] oN ([3,4,5,6,8,11,12,13],[3,4,5,8]) [] ([],[]) λ_ _ _=>by kernel_rfl
def j3U (g:List qT)(i:Int)(t:qB×qE×qL)(done:Bool)(b:Int)(h:List qT)(rec:Bool->Int->qF->Res)(j:Bool->qF->Res):Res:=bif decide (b<i) then bif inb b g.length then jbm done t h (nth (eS,[],[]) g b) λf d=>bif lim (d.length+1) then rec f (Z9J (b+1)) (d++[nth (eS,[],[]) g b]) else none else none else j done h
def j9j (d:List qT)(f:Int)(t:qB×qE×qL):(Bool×Int×qF)->(Bool×Int×qF->Res)->((Bool->qF->Res))->Res:=λv rec q=>j3U d f t v.1 v.2.1 v.2.2 (λdone g b=>rec (done,g,b)) q
def jbl (d:List qT)(f:Int)(t:qB×qE×qL)(n:Nat)(done:Bool)(g:Int)(b:List qT)(h:Bool->qF->Res):Res:=Z1e (j9j d f t) n (done,g,b) (h)
def jeA:Z1c Unit:=λσ k=>rdN σ 48<|rdT σ 3 (pB 3)<|rdT σ 4 (pB 4)<|rdT σ 5 (pB 5)<|rdO σ 6 λdone=>rd1 σ 11 y23 .S λg=>rdI σ 12 λh=>rdI σ 13 λi=>rdB σ 3 y22 [.S,.S] λa t=>rdB σ 4 y23 [.O] λj m=>rdB σ 5 y23 [.PS] λl f=>jbl g h t Z1b done i f (λb d=>k (.exit 0) (mkS 48 48 [(3,pB 3),(4,pB 4),(5,pB 5),(6,vB b)] [(3,⟨y22,a,t,[.S,.S]⟩),(4,⟨y23,j,m,[.O]⟩),(5,⟨y23,l,d,[.PS]⟩)]))
def jeR:Z1c Unit:=λσ k=>jeA (σ.wk [] [(5,[.PS])]) k
theorem jl9:CN 0 122 Tryz.f245 jeR:=λr=>ZaI [] [(5,[.PS])] (joh follows j2t Zar r [jaL] (oI 114 0 @jla oN) [3,4,5,6,11,12,13] [3,4,5] ([],[]) [(0,[3,4,5,6],[3,4,5])] ([],[]) (y:=jeA) λσ k _ h=>rN h λH h=>rT h λD h=>rT h λE h=>rT h λF h=>rV h λdone G h=>rV h λf i h=>rV h λg j h=>rV h λz l h=>rB h λa t n h=>rB h λA C p h=>rB h λB w q h=>⟨_,ZaL (m:=48) H (sC D (sC E (sC F (sC G (sC i (sC j (sC l sN))))))) (bC n (bC p (bC q bN))),.trans (Z9t (λv:Bool×Int×qF=>(mkS 48 48 [(3,pB 3),(4,pB 4),(5,pB 5),(6,vB v.1),(11,v1 y23 f .S),(12,vI g),(13,vI v.2.1)] [(3,⟨y22,a,t,[.S,.S]⟩),(4,⟨y23,A,C,[.O]⟩),(5,⟨y23,B,v.2.2,[.PS]⟩)])) (j9j f g t) (λ(k:Z82 Unit)=>(((λb d=>k (.exit 0) (mkS 48 48 [(3,pB 3),(4,pB 4),(5,pB 5),(6,vB b)] [(3,⟨y22,a,t,[.S,.S]⟩),(4,⟨y23,A,C,[.O]⟩),(5,⟨y23,B,d,[.PS]⟩)]))):(Bool->qF->Res))) (λv rec k=>by kernel_rfl) Z1b (done,z,w) k) h⟩)
def j8F (c:List qT)(t:qB×qE×qL)(d:qF->Res):Res:=jbl c (nI c.length) t Z1b false 0 [] λdone b=>bif !done then bif lim (b.length+1) then d (b++[t]) else none else d b
def jce:Sig Unit:=sg [.borrow y23 true,.borrow y22 true] [true] [(y23,none),(y22,none)] [] λb f k=>j8F b.1 b.2.1 (λd=>k [⟨y23,true,d,[.PS]⟩] [] [])
theorem jnz:SO 245 jce:=fK (np:=0) Zar [jaL,jeR] (oI 122 1 @jl9 oN) false Tryz.func245 λ_ _ _ _=>by kernel_rfl
def j3T (s:qB)(d:qL)(h:Int)(b:Int)(rec:Int->Res)(f:Unit->Res)(g:Unit->Res):Res:=bif decide (b<h) then bif inb b d.length then bif sEq (nth eS d b) s then g () else rec (Z9J (b+1)) else none else f ()
def j9i (s:qB)(b:qL)(d:Int):Int->(Int->Res)->((Unit->Res)×(Unit->Res))->Res:=λv rec q=>j3T s b d v (λf=>rec (f)) q.1 q.2
def jg3 (s:qB)(f:qL)(g:Int)(n:Nat)(h:Int)(b:Unit->Res)(d:Unit->Res):Res:=Z1e (j9i s f g) n (h) (b,d)
def jeQ:Z1c Unit:=NdL 17 17 [.S 1,.R 7 y8 .S,.I 8,.I 9] [] (λb d=>(b.2.2.2.1)) (λb v=>(b.1,b.2.1,b.2.2.1,v,())) (λd v=>()) (λb d=>j9i b.1 b.2.1 b.2.2.1) λb d f=>((λ_=>f (.exit 0) [] []),(λ_=>f .ret [(4,vB true)] []))
theorem jl8:CN 0 26 Tryz.f121 jeQ:=lK Zar [] oN ([],[]) [(0,[],[])] ([4],[]) λ_ _ _ _ _=>by kernel_rfl
def j8E (l:qL)(s:qB)(b:Bool->Res):Res:=jg3 s l (nI l.length) Z1b 0 (λ_=>b false) (λ_=>b true)
def jhp:Sig Unit:=sg [.look y8 false,.look .str false] [false] [(y8,none),(.str,none)] [] λb f k=>j8E b.1 b.2.1 (λd=>k [wB d] [] [])
theorem jny:SO 121 jhp:=fK (np:=0) Zar [jeQ] (oI 26 0 @jl8 oN) false Tryz.func121 λ_ _ _ _=>by kernel_rfl
def j4h (t:qB×qE×qL)(d:qG)(b:Int->Res):Res:=j0E t d.2.2.2.2.1 λr=>bif (d.1==3) then bif inb 0 d.2.2.1.length then j0E t (nth (eS,0,false,false,0,0,eS) d.2.2.1 0).1 λf=>bif decide (f>=0) then b 5 else bif ((nI t.2.1.length)==8) then b 6 else b 0 else none else bif (d.1==4) then bif decide (r<0) then b 7 else j8E t.2.2 d.2.2.2.2.1 λg=>bif g then b 8 else b 0 else bif (d.1==5) then j0E t d.2.2.2.2.2 λh=>bif decide (h>=0) then b 5 else bif decide (r<0) then b 7 else b 0 else b 0
def jak:Sig Unit:=sg [.look y22 true,.look y13 true] [false] [(y22,none),(y13,none)] [] λb f k=>j4h b.1 b.2.1 (λd=>k [wI d] [] [])
theorem jko:SO 246 jak:=fK (np:=0) (Za5 jny (Za5 j5g Zar)) [] oN false Tryz.func246 λ_ _ _ _=>by delta j4h j2d jhp;refine gz j0E λ_ b=>gz j8E λ_ d=> ?_;rewrite[<-b,<-d];kernel_rfl
def j56 (t:qB×qE×qL)(b:Unit->Res):Res:=Z86 (Z86 (bif lim (0+t.2.2.length) then Z86 (b ()) (b ()) else none) (bif lim (0+t.2.2.length) then b () else none)) (bif lim (0+t.2.2.length) then b () else none)
def j0P:Z1c Unit:=Nd 92 92 [.t 2 (pB 2),.t 3 (pB 3),.t 4 (pB 4)] [(2,y22,[.S,.S]),(3,y13,[.S,.S]),(4,y22,[.O,.O])] λf b d=>j56 b.1.2 (λ_=>d .normal [(2,pB 2),(3,pB 3),(4,pB 4),(5,pB 5)] [(2,⟨y22,b.1.1,b.1.2,[.S,.S]⟩),(3,⟨y13,b.2.1.1,b.2.1.2,[.S,.S]⟩),(4,⟨y22,b.2.2.1.1,b.2.2.1.2,[.O,.O]⟩),(5,⟨y22,false,(b.1.2.1,[],b.1.2.2.2),[.O,.O]⟩)])
theorem ji7:CN 0 6 Tryz.f247 j0P:=nK Zar [] oN ([2,3,4,5],[2,3,4,5]) [] ([],[]) λ_ _ _=>by kernel_rfl
def j57 (d:qG)(c:qB×Int×Bool×Bool×Int×Int×qB)(b:Unit->Res)(f:Unit->Res):Res:=bif (d.1==4) then bif sEq c.1 d.2.2.2.2.1 then f () else b () else b ()
def j1p:Z1c Unit:=Nd 92 92 [.t 3 (pB 3),.t 4 (pB 4),.t 5 (pB 5),.t 7 (pB 7),.R 17 y7 .S,.I 18,.I 19] [(3,y13,[.S,.S]),(4,y22,[.O,.O]),(5,y22,[.O,.O]),(7,y6,[])] λd b f=>j57 b.1.2 b.2.2.2.1.2 (λ_=>f .normal [(3,pB 3),(4,pB 4),(5,pB 5),(7,pB 7),(17,v1 y7 d.1 .S),(18,vI d.2.1),(19,vI d.2.2.1)] [(3,⟨y13,b.1.1,b.1.2,[.S,.S]⟩),(4,⟨y22,b.2.1.1,b.2.1.2,[.O,.O]⟩),(5,⟨y22,b.2.2.1.1,b.2.2.1.2,[.O,.O]⟩),(7,⟨y6,b.2.2.2.1.1,b.2.2.2.1.2,[]⟩)]) (λ_=>f (.exit 1) [(3,pB 3),(4,pB 4),(5,pB 5),(17,v1 y7 d.1 .S),(18,vI d.2.1),(19,vI d.2.2.1),(27,.ptr ⟨true,7,[.fst]⟩),(28,vS b.2.2.2.1.2.1),(29,.ptr ⟨true,3,[.snd,.snd,.snd,.snd,.fst]⟩),(30,vS b.1.2.2.2.2.2.1),(31,vB (sEq b.2.2.2.1.2.1 b.1.2.2.2.2.2.1))] [(3,⟨y13,b.1.1,b.1.2,[.S,.S]⟩),(4,⟨y22,b.2.1.1,b.2.1.2,[.O,.O]⟩),(5,⟨y22,b.2.2.1.1,b.2.2.1.2,[.O,.O]⟩),(7,⟨y6,b.2.2.2.1.1,b.2.2.2.1.2,[]⟩)])
theorem ji8:CN 0 7474 Tryz.f247 j1p:=nK Zar [j0P] oN ([3,4,5,7,17,18,19],[3,4,5,7]) [(1,[3,4,5,17,18,19,27,28,29,30,31],[3,4,5,7])] ([],[]) λ_ _ _=>by kernel_rfl
def j58 (d:qG)(c:qB×Int×Bool×Bool×Int×Int×qB)(b:qC->Res):Res:=bif (d.1==5) then bif sEq c.1 d.2.2.2.2.1 then b (d.2.2.2.2.2,c.2) else b c else b c
def j2i:Z1c Unit:=Nd 92 92 [.t 3 (pB 3),.t 4 (pB 4),.t 5 (pB 5),.t 7 (pB 7),.R 17 y7 .S,.I 18,.I 19] [(3,y13,[.S,.S]),(4,y22,[.O,.O]),(5,y22,[.O,.O]),(7,y6,[])] λd b f=>j58 b.1.2 b.2.2.2.1.2 (λc1=>f .normal [(3,pB 3),(4,pB 4),(5,pB 5),(7,pB 7),(17,v1 y7 d.1 .S),(18,vI d.2.1),(19,vI d.2.2.1)] [(3,⟨y13,b.1.1,b.1.2,[.S,.S]⟩),(4,⟨y22,b.2.1.1,b.2.1.2,[.O,.O]⟩),(5,⟨y22,b.2.2.1.1,b.2.2.1.2,[.O,.O]⟩),(7,⟨y6,b.2.2.2.1.1,c1,[]⟩)])
theorem ji9:CN 0 14950 Tryz.f247 j2i:=nK Zar [j0P,j1p] oN ([3,4,5,7,17,18,19],[3,4,5,7]) [] ([],[]) λ_ _ _=>by kernel_rfl
def j0Z (g:List qC)(h:Int)(d:qG)(f:Int)(b:qB×qE×qL)(rec:Int->qT->Res)(i:qT->Res):Res:=bif decide (f<h) then bif inb f g.length then j57 d (nth (eS,0,false,false,0,0,eS) g f) (λ_=>j58 d (nth (eS,0,false,false,0,0,eS) g f) λc=>bif lim (b.2.1.length+1) then rec (Z9J (f+1)) (b.1,(b.2.1++[c]),b.2.2) else none) (λ_=>rec (Z9J (f+1)) b) else none else i b
def j1R (f:List qC)(g:Int)(d:qG):(Int×qT)->(Int×qT->Res)->((qT->Res))->Res:=λv rec q=>j0Z f g d v.1 v.2 (λh b=>rec (h,b)) q
def j54 (f:List qC)(g:Int)(d:qG)(n:Nat)(h:Int)(b:qB×qE×qL)(i:qT->Res):Res:=Z1e (j1R f g d) n (h,b) (i)
def j4Q:Z1c Unit:=NdL 92 92 [.t 3 (pB 3),.t 4 (pB 4),.t 5 (pB 5),.R 17 y7 .S,.I 18,.I 19] [(3,y13,[.S,.S]),(4,y22,[.O,.O]),(5,y22,[.O,.O])] (λd b=>(d.2.2.1,b.2.2.1.2)) (λd v=>(d.1,d.2.1,v.1,())) (λb v=>((b.1.1,b.1.2),(b.2.1.1,b.2.1.2),(b.2.2.1.1,v.2),())) (λd b=>j1R d.1 d.2.1 b.1.2) λd b g=>((λf=>g (.exit 0) [(3,pB 3),(4,pB 4),(5,pB 5)] [(3,⟨y13,b.1.1,b.1.2,[.S,.S]⟩),(4,⟨y22,b.2.1.1,b.2.1.2,[.O,.O]⟩),(5,⟨y22,b.2.2.1.1,f,[.O,.O]⟩)]))
theorem ji5:CN 0 58 Tryz.f247 j4Q:=lK Zar [j0P,j1p,j2i] (oI 114 1 @ji8 (oI 230 2 @ji9 oN)) ([],[]) [(0,[3,4,5],[3,4,5])] ([],[]) λ_ _ _ _ _=>by delta j1R j0Z j1p j2i;refine gz j57 λ_ b=>gz j58 λ_ d=> ?_;rewrite[<-b,<-d];kernel_rfl
def j0j (g:Int)(d:qG)(f:Int)(b:qB×qE×qL)(rec:Int->qT->Res)(h:qT->Res):Res:=bif decide (f<g) then bif (d.1==5) then bif inb f b.2.2.length then bif sEq (nth eS b.2.2 f) d.2.2.2.2.1 then bif inb f b.2.2.length then rec (Z9J (f+1)) (b.1,b.2.1,upd b.2.2 f d.2.2.2.2.2) else none else rec (Z9J (f+1)) b else none else rec (Z9J (f+1)) b else h b
def j49 (f:Int)(d:qG):(Int×qT)->(Int×qT->Res)->((qT->Res))->Res:=λv rec q=>j0j f d v.1 v.2 (λg b=>rec (g,b)) q
def j55 (f:Int)(d:qG)(n:Nat)(g:Int)(b:qB×qE×qL)(h:qT->Res):Res:=Z1e (j49 f d) n (g,b) (h)
def j7z:Z1c Unit:=NdL 92 92 [.t 3 (pB 3),.t 4 (pB 4),.t 5 (pB 5),.I 55,.I 56] [(3,y13,[.S,.S]),(4,y22,[.O,.O]),(5,y22,[.O,.O])] (λd b=>(d.2.1,b.2.2.1.2)) (λd v=>(d.1,v.1,())) (λb v=>((b.1.1,b.1.2),(b.2.1.1,b.2.1.2),(b.2.2.1.1,v.2),())) (λd b=>j49 d.1 b.1.2) λd b g=>((λf=>g (.exit 2) [(3,pB 3),(4,pB 4),(5,pB 5)] [(3,⟨y13,b.1.1,b.1.2,[.S,.S]⟩),(4,⟨y22,b.2.1.1,b.2.1.2,[.O,.O]⟩),(5,⟨y22,b.2.2.1.1,f,[.O,.O]⟩)]))
theorem ji6:CN 0 122 Tryz.f247 j7z:=lK Zar [j0P,j1p,j2i,j4Q] oN ([],[]) [(2,[3,4,5],[3,4,5])] ([],[]) λ_ _ _ _ _=>by kernel_rfl
def j3j (t:qB×qE×qL)(d:qG)(g:qT->Res):Res:=j56 t λ_=>j54 t.2.1 (nI t.2.1.length) d Z1b 0 (t.1,[],t.2.2) λf=>j55 (nI f.2.2.length) d Z1b 0 f λb=>bif (d.1==3) then bif inb 0 d.2.2.1.length then bif lim (b.2.1.length+1) then g (b.1,(b.2.1++[nth (eS,0,false,false,0,0,eS) d.2.2.1 0]),b.2.2) else none else none else g b
def j9d:Sig Unit:=sg [.borrow y22 true,.borrow y13 true] [true] [(y22,none),(y13,none)] [] λb f k=>j3j b.1 b.2.1 (λd=>k [⟨y22,true,d,[.O,.O]⟩] [] [])
theorem jjo:SO 247 j9d:=fK (np:=0) Zar [j0P,j1p,j2i,j4Q,j7z] (oI 6 0 @ji7 (oI 58 3 @ji5 (oI 122 4 @ji6 oN))) false Tryz.func247 λ_ _ _ _=>by delta j3j j0P j4Q j7z j54 j55;refine gz j56 λ_ b=>gz j1R λ_ d=>gz j49 λ_ f=> ?_;rewrite[<-b,<-d,<-f];kernel_rfl
theorem j9E:FS [(98,j7n),(169,j3M),(184,j5F),(186,j3N),(223,jal),(245,jce),(246,jak),(247,j9d)]:=(Za5 jhR (Za5 jda (Za5 jfy (Za5 jdd (Za5 j9G (Za5 jnz (Za5 jko (Za5 jjo Zar))))))))
def j3O (d:qG)(b:List qT)(f:qF->Res):Res:=j4i (d.2.1,d.2.2.1,d.2.2.2.1) λr=>j8F b r λg=>f g
def j8m:Z1c Unit:=λσ k=>rdN σ 88<|rdT σ 3 (pB 3)<|rdT σ 4 (pB 4)<|rdT σ 7 (pB 7)<|rdB σ 3 y13 [.S,.S] λa d=>rdB σ 4 y23 [.O] λg i=>rdB σ 7 y23 [.S] λh b=>j3O d b (λf=>k .ret (mkS 88 88 [(4,pB 4),(5,vI 0)] [(4,⟨y23,g,f,[.PS]⟩)]))
def j5d:Z1c Unit:=λσ k=>j8m (σ.wk [] [(7,[.S])]) k
theorem jiZ:CN 0 1003 Tryz.f224 j5d:=λi=>ZaI [] [(7,[.S])] (jqW follows j2t j9E i [] oN ([],[]) [] ([4,5],[4]) (y:=j8m) λσ k _ h=>rN h λr h=>rT h λn h=>rT h λp h=>rT h λq h=>rB h λa d b h=>rB h λz B f h=>rB h λA w g h=>⟨_,ZaL (m:=88) r (sC n (sC p (sC q sN))) (bC b (bC f (bC g bN))),.trans (by delta j3O jal jce;refine gz j4i λ_ j=>gz j8F λ_ l=> ?_;rewrite[<-j,<-l];kernel_rfl) h⟩)
def j6b (d:Int)(b:List qT)(f:Unit->Res):Res:=bif Z8d 0 d b.length then bif Z8d (Z9J (d+1)) (nI b.length) b.length then bif lim (0+(List.length (sub b 0 d))) then bif lim ((List.length (sub b 0 d))+(List.length (sub b (Z9J (d+1)) (nI b.length)))) then f () else none else none else none else none
def j8n:Z1c Unit:=λσ k=>rdN σ 88<|rdT σ 4 (pB 4)<|rdI σ 6 λd=>rdT σ 7 (pB 7)<|rdB σ 4 y23 [.O] λa g=>rdB σ 7 y23 [.S] λf b=>j6b d b (λ_=>k .ret (mkS 88 88 [(4,pB 4),(5,vI 0)] [(4,⟨y23,a,((sub b 0 d)++(sub b (Z9J (d+1)) (nI b.length))),[.PS]⟩)]))
def j8p:Z1c Unit:=λσ k=>j8n (σ.wk [] [(7,[.S])]) k
theorem jj0:CN 0 4090 Tryz.f224 j8p:=λf=>ZaI [] [(7,[.S])] (jqW follows j2t j9E f [j5d] oN ([],[]) [] ([4,5],[4]) (y:=j8n) λσ k _ h=>rN h λn h=>rT h λi h=>rV h λg j h=>rT h λl h=>rB h λa r b h=>rB h λq p d h=>⟨_,ZaL (m:=88) n (sC i (sC j (sC l sN))) (bC b (bC d bN)),.trans (by kernel_rfl) h⟩)
def j1J (c:List qT)(d:qG)(f:qF->Int->Res):Res:=j6a c λr=>bif !r then f [] 1 else j22 d λi=>bif !i then f [] 1 else j24 c d.2.1 λb=>j3S c λg=>bif (d.1==1) then bif decide (b>=0) then f [] 2 else bif ((nI c.length)==6) then f [] 3 else j3O d g λt=>f t 0 else bif decide (b<0) then f [] 4 else bif inb b c.length then j4h (nth (eS,[],[]) c b) d λh=>bif (h != 0) then f [] h else bif (d.1==2) then j6b b g λ_=>f ((sub g 0 b)++(sub g (Z9J (b+1)) (nI g.length))) 0 else bif inb b c.length then j3j (nth (eS,[],[]) c b) d λj=>bif inb b g.length then f (upd g b j) 0 else none else none else none
def j4B:Sig Unit:=sg [.borrow y23 true,.borrow y13 true] [true,false] [(y23,none),(y13,none)] [] λb g k=>j1J b.1 b.2.1 (λd f=>k [⟨y23,true,d,[.S]⟩,wI f] [] [])
theorem je7:SO 224 j4B:=fK (np:=0) j9E [j5d,j8p] (oI 1003 0 @jiZ (oI 4090 1 @jj0 oN)) true Tryz.func224 λ_ _ _ _=>by delta j1J j7n j3M j3N j5F j5d jak j8p j9d;delta j8m j8n;refine gz j6a λ_ b=>gz j22 λ_ d=>gz j24 λ_ f=>gz j3S λ_ g=>gz j3O λ_ h=>gz j4h λ_ i=>gz j6b λ_ j=>gz j3j λ_ k=> ?_;rewrite[<-b,<-d,<-f,<-g,<-h,<-i,<-j,<-k];kernel_rfl
def j3e (l:qL)(b:qL->Res):Res:=bif lim (0+l.length) then b l else none
def jkg:Sig Unit:=sg [.borrow y8 false] [false] [(y8,none)] [] λd f k=>j3e d.1 (λb=>k [w1 y8 b .O] [] [])
theorem jcZ:SO 179 jkg:=fK (np:=0) Zar [] oN false Tryz.func179 λ_ _ _ _=>by kernel_rfl
def j3d (t:qB×qE×qL)(b:qT->Res):Res:=bif lim (0+t.2.1.length) then j3e t.2.2 λr=>b (t.1,t.2.1,r) else none
def jkf:Sig Unit:=sg [.borrow y22 true] [true] [(y22,none)] [] λd f k=>j3d d.1 (λb=>k [⟨y22,true,b,[.O,.O]⟩] [] [])
theorem j8T:SO 229 jkf:=fK (np:=0) (Za5 jcZ Zar) [] oN false Tryz.func229 λ_ _ _ _=>by kernel_rfl
def j2v (d:qG)(b:qT->Res):Res:=j3d (d.2.1,d.2.2.1,d.2.2.2.1) λr=>b r
def j6R:Sig Unit:=sg [.borrow y13 true] [true] [(y13,none)] [] λd f k=>j2v d.1 (λb=>k [⟨y22,true,b,[.O,.O]⟩] [] [])
theorem je4:SO 215 j6R:=fK (np:=0) (Za5 j8T Zar) [] oN false Tryz.func215 λ_ _ _ _=>by kernel_rfl
def j4p (c:qB×Int×Bool×Bool×Int×Int×qB)(b:Bool->Res):Res:=j0l c.1 λr=>bif !r then b false else j0a c.2.1 1 3 λd=>bif !d then b false else j0V c.2.2.2.2 λf=>bif !f then b false else bif !c.2.2.2.1 then b ((c.2.2.2.2.1==0)&&((c.2.2.2.2.2.1==0)&&(sEq c.2.2.2.2.2.2 eS))) else bif (c.2.2.2.2.1==c.2.1) then b true else bif (c.2.2.2.2.1==0) then b (!c.2.2.1) else b false
def jaf:Sig Unit:=sg [.look y6 true] [false] [(y6,none)] [] λd f k=>j4p d.1 (λb=>k [wB b] [] [])
theorem jhH:SO 204 jaf:=fK (np:=0) (Za5 j4c (Za5 j1H (Za5 j74 Zar))) [] oN false Tryz.func204 λ_ _ _ _=>by delta j4p j2w j17 j7m;refine gz j0l λ_ b=>gz j0a λ_ d=>gz j0V λ_ f=> ?_;rewrite[<-b,<-d,<-f];kernel_rfl
def jf4 (c:qB×Int×Bool×Bool×Int×Int×qB)(d:qB)(b:Bool->Res):Res:=b (sEq c.1 d)
def jnT:Sig Unit:=sg [.look y6 true,.rptr .str] [false] [(y6,none),(.str,none)] [] λb f k=>jf4 b.1 b.2.1 (λd=>k [wB d] [] [])
theorem jgO:SO 242 jnT:=fK (np:=0) Zar [] oN false Tryz.func242 λ_ _ _ _=>by kernel_rfl
def j0M (s:List qC)(f:qB)(h:Int)(b:Int)(rec:Int->Res)(d:Unit->Res)(g:Int->Res):Res:=bif decide (b<h) then bif inb b s.length then jf4 (nth (eS,0,false,false,0,0,eS) s b) f λr=>bif r then g b else rec (Z9J (b+1)) else none else d ()
def j34 (s:List qC)(f:qB)(b:Int):Int->(Int->Res)->((Unit->Res)×(Int->Res))->Res:=λv rec q=>j0M s f b v (λd=>rec (d)) q.1 q.2
def j82 (s:List qC)(f:qB)(g:Int)(n:Nat)(h:Int)(b:Unit->Res)(d:Int->Res):Res:=Z1e (j34 s f g) n (h) (b,d)
def j7w:Z1c Unit:=NdL 19 19 [.R 0 y7 .S,.c 1 242 [.str] .str [],.I 7,.I 8] [] (λb d=>(b.2.2.2.1)) (λb v=>(b.1,b.2.1,b.2.2.1,v,())) (λd v=>()) (λb d=>j34 b.1 b.2.1 b.2.2.1) λb d f=>((λ_=>f (.exit 0) [] []),(λg=>f .ret [(4,vI g)] []))
theorem jdv:CN 0 26 Tryz.f241 j7w:=lK (Za5 jgO Zar) [] oN ([],[]) [(0,[],[])] ([4],[]) λ_ _ _ _ _=>by kernel_rfl
def j66 (s:List qC)(f:qB)(b:Int->Res):Res:=j82 s f (nI s.length) Z1b 0 (λ_=>b (-1)) (λt=>b t)
def jf8:Sig Unit:=sg [.look y7 false,.rclos 242 [.str]] [false] [(y7,none),(.str,none)] [] λb f k=>j66 b.1 b.2.1 (λd=>k [wI d] [] [])
theorem jeW:SO 241 jf8:=fK (np:=0) (Za5 jgO Zar) [j7w] (oI 26 0 @jdv oN) false Tryz.func241 λ_ _ _ _=>by kernel_rfl
def j0g (t:qB×qE×qL)(name:qB)(b:Int->Res):Res:=j66 t.2.1 name λr=>b r
def j0G:Sig Unit:=sg [.look y22 true,.look .str false] [false] [(y22,none),(.str,none)] [] λb f k=>j0g b.1 b.2.1 (λd=>k [wI d] [] [])
theorem j3m:SO 205 j0G:=fK (np:=0) (Za5 jeW Zar) [] oN false Tryz.func205 λ_ _ _ _=>by kernel_rfl
theorem jaW:FS [(66,j2w),(68,j17),(204,jaf),(205,j0G)]:=(Za5 j4c (Za5 j1H (Za5 jhH (Za5 j3m Zar))))
def j1C (d:List qC)(f:Int)(t:qB×qE×qL)(b:Int)(rec:Int->Res)(h:Unit->Res)(g:Unit->Res):Res:=bif decide (b<f) then bif inb b d.length then j4p (nth (eS,0,false,false,0,0,eS) d b) λr=>bif !r then g () else j0g t (nth (eS,0,false,false,0,0,eS) d b).1 λi=>bif (i != b) then g () else rec (Z9J (b+1)) else none else h ()
def j2E (b:List qC)(d:Int)(t:qB×qE×qL):Int->(Int->Res)->((Unit->Res)×(Unit->Res))->Res:=λv rec q=>j1C b d t v (λf=>rec (f)) q.1 q.2
def j6O (b:List qC)(d:Int)(t:qB×qE×qL)(n:Nat)(f:Int)(g:Unit->Res)(h:Unit->Res):Res:=Z1e (j2E b d t) n (f) (g,h)
def j6h:Z1c Unit:=NdL 68 68 [.t 1 (pB 1),.R 10 y7 .S,.I 11,.I 12] [(1,y22,[.S,.S])] (λb d=>(b.2.2.1)) (λb v=>(b.1,b.2.1,v,())) (λd v=>((d.1.1,d.1.2),())) (λb d=>j2E b.1 b.2.1 d.1.2) λb d f=>((λ_=>f (.exit 0) [(1,pB 1)] [(1,⟨y22,d.1.1,d.1.2,[.S,.S]⟩)]),(λ_=>f .ret [(2,vB false)] []))
theorem jjG:CN 0 26 Tryz.f157 j6h:=lK jaW [] oN ([],[]) [(0,[1],[1])] ([2],[]) λ_ _ _ _ _=>by delta j2E j1C jaf j0G;refine gz j4p λ_ b=>gz j0g λ_ d=> ?_;rewrite[<-b,<-d];kernel_rfl
def j2F (f:qL)(g:Int)(t:qB×qE×qL)(d:Int)(b:Int)(rec:Int->Int->Res)(i:Unit->Res)(h:Unit->Res):Res:=bif decide (b<g) then bif inb b f.length then j0g t (nth eS f b) λr=>bif decide (r<=d) then h () else bif inb r t.2.1.length then bif !(nth (eS,0,false,false,0,0,eS) t.2.1 r).2.2.1 then h () else rec r (Z9J (b+1)) else none else none else i ()
def j50 (d:qL)(f:Int)(t:qB×qE×qL):(Int×Int)->(Int×Int->Res)->((Unit->Res)×(Unit->Res))->Res:=λv rec q=>j2F d f t v.1 v.2 (λb g=>rec (b,g)) q.1 q.2
def j6P (d:qL)(f:Int)(t:qB×qE×qL)(n:Nat)(b:Int)(g:Int)(h:Unit->Res)(i:Unit->Res):Res:=Z1e (j50 d f t) n (b,g) (h,i)
def j9q:Z1c Unit:=NdL 68 68 [.t 1 (pB 1),.I 5,.R 30 y8 .S,.I 31,.I 32] [(1,y22,[.S,.S])] (λb d=>(b.1,b.2.2.2.1)) (λb v=>(v.1,b.2.1,b.2.2.1,v.2,())) (λd v=>((d.1.1,d.1.2),())) (λb d=>j50 b.2.1 b.2.2.1 d.1.2) λb d f=>((λ_=>f (.exit 2) [(1,pB 1)] [(1,⟨y22,d.1.1,d.1.2,[.S,.S]⟩)]),(λ_=>f .ret [(2,vB false)] []))
theorem jjH:CN 0 122 Tryz.f157 j9q:=lK jaW [j6h] oN ([],[]) [(2,[1],[1])] ([2],[]) λ_ _ _ _ _=>by kernel_rfl
def j0F (t:qB×qE×qL)(b:Bool->Res):Res:=j6O t.2.1 (nI t.2.1.length) t Z1b 0 (λ_=>j6P t.2.2 (nI t.2.2.length) t Z1b (-1) 0 (λ_=>j0l t.1 λr=>bif r then j0a (nI t.2.1.length) 1 8 λd=>bif d then b (decide ((nI t.2.2.length)>0)) else b false else b false) (λ_=>b false)) (λ_=>b false)
def j3h:Sig Unit:=sg [.look y22 true] [false] [(y22,none)] [] λd f k=>j0F d.1 (λb=>k [wB b] [] [])
theorem j5f:SO 157 j3h:=fK (np:=0) jaW [j6h,j9q] (oI 26 0 @jjG (oI 122 1 @jjH oN)) false Tryz.func157 λ_ _ _ _=>by delta j0F j6h j9q j2w j17 j6O j6P;refine gz j2E λ_ b=>gz j50 λ_ d=>gz j0l λ_ f=>gz j0a λ_ g=> ?_;rewrite[<-b,<-d,<-f,<-g];kernel_rfl
def j0f (a:qG)(b:qG)(d:Bool->Res):Res:=bif (a.1==b.1) then bif sEq a.2.1 b.2.1 then j1d a.2.2.1 b.2.2.1 λr=>bif r then j1Q a.2.2.2.1 b.2.2.2.1 λf=>bif f then bif sEq a.2.2.2.2.1 b.2.2.2.2.1 then d (sEq a.2.2.2.2.2 b.2.2.2.2.2) else d false else d false else d false else d false else d false
def j6T:Sig Unit:=sg [.look y13 true,.look y13 true] [false] [(y13,none),(y13,none)] [] λb f k=>j0f b.1 b.2.1 (λd=>k [wB d] [] [])
theorem j9F:SO 175 j6T:=fK (np:=0) (Za5 jhP (Za5 jfu Zar)) [] oN false Tryz.func175 λ_ _ _ _=>by delta j0f jbU j9B;refine gz j1d λ_ b=>gz j1Q λ_ d=> ?_;rewrite[<-b,<-d];kernel_rfl
def j20 (d:qG)(b:Bool->Res):Res:=j0l d.2.1 λr=>bif !r then b false else bif (d.1==1) then j2v d λg=>j0F g λh=>bif h then bif sEq d.2.2.2.2.1 eS then b (sEq d.2.2.2.2.2 eS) else b false else b false else bif (d.1==2) then j0f d (d.1,d.2.1,[],[],eS,eS) λi=>b i else bif (d.1==3) then j0f d (d.1,d.2.1,d.2.2.1,[],eS,eS) λj=>bif j then bif ((nI d.2.2.1.length)==1) then bif inb 0 d.2.2.1.length then j4p (nth (eS,0,false,false,0,0,eS) d.2.2.1 0) λk=>bif k then bif inb 0 d.2.2.1.length then bif (nth (eS,0,false,false,0,0,eS) d.2.2.1 0).2.2.2.1 then b true else bif inb 0 d.2.2.1.length then b (!(nth (eS,0,false,false,0,0,eS) d.2.2.1 0).2.2.1) else none else none else b false else none else b false else b false else bif (d.1==4) then j0f d (d.1,d.2.1,[],[],d.2.2.2.2.1,eS) λl=>bif l then j0l d.2.2.2.2.1 λm=>b m else b false else bif (d.1==5) then j0f d (d.1,d.2.1,[],[],d.2.2.2.2.1,d.2.2.2.2.2) λn=>bif n then j0l d.2.2.2.2.1 λp=>bif p then j0l d.2.2.2.2.2 λf=>b f else b false else b false else b false
def j3K:Sig Unit:=sg [.look y13 true] [false] [(y13,none)] [] λd f k=>j20 d.1 (λb=>k [wB b] [] [])
theorem jcY:SO 174 j3K:=fK (np:=0) (Za5 j4c (Za5 j5f (Za5 j9F (Za5 jhH (Za5 je4 Zar))))) [] oN false Tryz.func174 λ_ _ _ _=>by delta j20 j2w j6R j3h j6T jaf;refine gz j0l λ_ b=>gz j2v λ_ d=>gz j0F λ_ f=>gz j0f λ_ g=>gz j4p λ_ h=> ?_;rewrite[<-b,<-d,<-f,<-g,<-h];kernel_rfl
def j9O (d:qG)(b:qG->Res):Res:=bif lim (0+d.2.2.1.length) then j3e d.2.2.2.1 λr=>b (d.1,d.2.1,d.2.2.1,r,d.2.2.2.2) else none
def jfR:Sig Unit:=sg [.borrow y13 true] [true] [(y13,none)] [] λd f k=>j9O d.1 (λb=>k [⟨y13,true,b,[.O,.O]⟩] [] [])
theorem jlC:SO 203 jfR:=fK (np:=0) (Za5 jcZ Zar) [] oN false Tryz.func203 λ_ _ _ _=>by kernel_rfl
def j4o (d:List qT)(h:Int)(c:List qT)(b:Int)(rec:Int->Res)(g:Unit->Res)(f:Unit->Res):Res:=bif decide (b<h) then bif inb b d.length then j0F (nth (eS,[],[]) d b) λr=>bif !r then f () else bif decide (b>0) then bif inb (Z9J (b-1)) c.length then bif sGe (nth (eS,[],[]) c (Z9J (b-1))).1 (nth (eS,[],[]) d b).1 then f () else rec (Z9J (b+1)) else none else rec (Z9J (b+1)) else none else g ()
def j9J (b:List qT)(d:Int)(c:List qT):Int->(Int->Res)->((Unit->Res)×(Unit->Res))->Res:=λv rec q=>j4o b d c v (λf=>rec (f)) q.1 q.2
def jc2 (f:List qT)(g:Int)(c:List qT)(n:Nat)(h:Int)(b:Unit->Res)(d:Unit->Res):Res:=Z1e (j9J f g c) n (h) (b,d)
def jg9:Z1c Unit:=NdL 37 37 [.t 1 (pB 1),.R 6 y23 .S,.I 7,.I 8] [(1,y23,[.S])] (λb d=>(b.2.2.1)) (λb v=>(b.1,b.2.1,v,())) (λd v=>((d.1.1,d.1.2),())) (λb d=>j9J b.1 b.2.1 d.1.2) λb d f=>((λ_=>f (.exit 0) [(1,pB 1)] [(1,⟨y23,d.1.1,d.1.2,[.S]⟩)]),(λ_=>f .ret [(2,vB false)] []))
theorem jma:CN 0 26 Tryz.f109 jg9:=lK (Za5 j5f Zar) [] oN ([],[]) [(0,[1],[1])] ([2],[]) λ_ _ _ _ _=>by kernel_rfl
def j60 (c:List qT)(b:Bool->Res):Res:=jc2 c (nI c.length) c Z1b 0 (λ_=>b (decide ((nI c.length)<=6))) (λ_=>b false)
def j7l:Sig Unit:=sg [.look y23 true] [false] [(y23,none)] [] λd f k=>j60 d.1 (λb=>k [wB b] [] [])
theorem jhG:SO 109 j7l:=fK (np:=0) (Za5 j5f Zar) [jg9] (oI 26 0 @jma oN) false Tryz.func109 λ_ _ _ _=>by kernel_rfl
def j2G (f:List qT)(h:Int)(b:Int)(d:List qT)(rec:Int->qF->Res)(g:qF->Res):Res:=bif decide (b<h) then bif inb b f.length then j3d (nth (eS,[],[]) f b) λr=>bif lim (d.length+1) then rec (Z9J (b+1)) (d++[r]) else none else none else g d
def j89 (f:List qT)(g:Int):(Int×qF)->(Int×qF->Res)->((qF->Res))->Res:=λv rec q=>j2G f g v.1 v.2 (λd b=>rec (d,b)) q
def jeh (g:List qT)(h:Int)(n:Nat)(d:Int)(b:List qT)(f:qF->Res):Res:=Z1e (j89 g h) n (d,b) (f)
def jdL:Z1c Unit:=NdL 23 23 [.t 2 (pB 2),.t 3 (pB 3),.R 8 y23 .S,.I 9,.I 10] [(2,y23,[.O]),(3,y23,[.O])] (λd b=>(d.2.2.1,b.2.1.2)) (λd v=>(d.1,d.2.1,v.1,())) (λb v=>((b.1.1,b.1.2),(b.2.1.1,v.2),())) (λd b=>j89 d.1 d.2.1) λd b g=>((λf=>g (.exit 0) [(2,pB 2),(3,pB 3)] [(2,⟨y23,b.1.1,b.1.2,[.O]⟩),(3,⟨y23,b.2.1.1,f,[.O]⟩)]))
theorem jjJ:CN 0 58 Tryz.f195 jdL:=lK (Za5 j8T Zar) [] oN ([],[]) [(0,[2,3],[2,3])] ([],[]) λ_ _ _ _ _=>by kernel_rfl
def j3t (c:List qT)(d:qF->Res):Res:=jeh c (nI c.length) Z1b 0 [] λb=>d b
def j5w:Sig Unit:=sg [.borrow y23 true] [true] [(y23,none)] [] λd f k=>j3t d.1 (λb=>k [⟨y23,true,b,[.O]⟩] [] [])
theorem jfm:SO 195 j5w:=fK (np:=0) (Za5 j8T Zar) [jdL] (oI 58 0 @jjJ oN) false Tryz.func195 λ_ _ _ _=>by kernel_rfl
def jdh (t:qB×qE×qL)(d:qB)(b:Bool->Res):Res:=b (sEq t.1 d)
def jms:Sig Unit:=sg [.look y22 true,.rptr .str] [false] [(y22,none),(.str,none)] [] λb f k=>jdh b.1 b.2.1 (λd=>k [wB d] [] [])
theorem jfj:SO 231 jms:=fK (np:=0) Zar [] oN false Tryz.func231 λ_ _ _ _=>by kernel_rfl
def j0C (s:List qT)(f:qB)(h:Int)(b:Int)(rec:Int->Res)(d:Unit->Res)(g:Int->Res):Res:=bif decide (b<h) then bif inb b s.length then jdh (nth (eS,[],[]) s b) f λr=>bif r then g b else rec (Z9J (b+1)) else none else d ()
def j2e (s:List qT)(f:qB)(b:Int):Int->(Int->Res)->((Unit->Res)×(Int->Res))->Res:=λv rec q=>j0C s f b v (λd=>rec (d)) q.1 q.2
def j6V (s:List qT)(f:qB)(g:Int)(n:Nat)(h:Int)(b:Unit->Res)(d:Int->Res):Res:=Z1e (j2e s f g) n (h) (b,d)
def j6w:Z1c Unit:=NdL 19 19 [.R 0 y23 .S,.c 1 231 [.str] .str [],.I 7,.I 8] [] (λb d=>(b.2.2.2.1)) (λb v=>(b.1,b.2.1,b.2.2.1,v,())) (λd v=>()) (λb d=>j2e b.1 b.2.1 b.2.2.1) λb d f=>((λ_=>f (.exit 0) [] []),(λg=>f .ret [(4,vI g)] []))
theorem jc5:CN 0 26 Tryz.f230 j6w:=lK (Za5 jfj Zar) [] oN ([],[]) [(0,[],[])] ([4],[]) λ_ _ _ _ _=>by kernel_rfl
def j4V (s:List qT)(f:qB)(b:Int->Res):Res:=j6V s f (nI s.length) Z1b 0 (λ_=>b (-1)) (λt=>b t)
def jdA:Sig Unit:=sg [.look y23 false,.rclos 231 [.str]] [false] [(y23,none),(.str,none)] [] λb f k=>j4V b.1 b.2.1 (λd=>k [wI d] [] [])
theorem jd9:SO 230 jdA:=fK (np:=0) (Za5 jfj Zar) [j6w] (oI 26 0 @jc5 oN) false Tryz.func230 λ_ _ _ _=>by kernel_rfl
def j0k (c:List qT)(name:qB)(b:Int->Res):Res:=j4V c name λr=>b r
def j0R:Sig Unit:=sg [.look y23 true,.look .str false] [false] [(y23,none),(.str,none)] [] λb f k=>j0k b.1 b.2.1 (λd=>k [wI d] [] [])
theorem j8H:SO 197 j0R:=fK (np:=0) (Za5 jd9 Zar) [] oN false Tryz.func197 λ_ _ _ _=>by kernel_rfl
theorem j7C:FS [(83,j3L),(197,j0R),(205,j0G)]:=(Za5 jd8 (Za5 j8H (Za5 j3m Zar)))
def j4v (d:qG)(t:qB×qE×qL)(b:Bool->Res):Res:=bif (d.1==3) then bif inb 0 d.2.2.1.length then j0g t (nth (eS,0,false,false,0,0,eS) d.2.2.1 0).1 λr=>bif decide (r>=0) then b true else bif (d.1==5) then j0g t d.2.2.2.2.2 λf=>b (decide (f>=0)) else b false else none else bif (d.1==5) then j0g t d.2.2.2.2.2 λg=>b (decide (g>=0)) else b false
def j42:Z1c Unit:=Nd 92 92 [.t 3 (pB 3),.t 6 (pB 6)] [(3,y13,[.S,.S]),(6,y22,[.S,.S])] λg b f=>j4v b.1.2 b.2.1.2 (λd=>f .normal [(3,pB 3),(6,pB 6),(29,vB d)] [(3,⟨y13,b.1.1,b.1.2,[.S,.S]⟩),(6,⟨y22,b.2.1.1,b.2.1.2,[.S,.S]⟩)])
theorem jjK:CN 0 504 Tryz.f252 j42:=nK j7C [] oN ([3,6,29],[3,6]) [] ([],[]) λ_ _ _=>by delta j4v j0G;refine gz j0g λ_ b=> ?_;rewrite[<-b];kernel_rfl
def j6Q (d:qG)(t:qB×qE×qL)(b:Bool->Res):Res:=bif (d.1==3) then b ((nI t.2.1.length)==8) else b false
def j6i:Z1c Unit:=Nd 92 92 [.t 3 (pB 3),.t 6 (pB 6)] [(3,y13,[.S,.S]),(6,y22,[.S,.S])] λg b f=>j6Q b.1.2 b.2.1.2 (λd=>f .normal [(3,pB 3),(6,pB 6),(55,vB d)] [(3,⟨y13,b.1.1,b.1.2,[.S,.S]⟩),(6,⟨y22,b.2.1.1,b.2.1.2,[.S,.S]⟩)])
theorem jjL:CN 0 2022 Tryz.f252 j6i:=nK j7C [j42] oN ([3,6,55],[3,6]) [] ([],[]) λ_ _ _=>by kernel_rfl
def j4w (d:qG)(t:qB×qE×qL)(b:Bool->Res):Res:=bif (d.1==4) then j0g t d.2.2.2.2.1 λr=>b (decide (r<0)) else bif (d.1==5) then j0g t d.2.2.2.2.1 λf=>b (decide (f<0)) else b false
def j9s:Z1c Unit:=Nd 92 92 [.t 3 (pB 3),.t 6 (pB 6)] [(3,y13,[.S,.S]),(6,y22,[.S,.S])] λg b f=>j4w b.1.2 b.2.1.2 (λd=>f .normal [(3,pB 3),(6,pB 6),(65,vB d)] [(3,⟨y13,b.1.1,b.1.2,[.S,.S]⟩),(6,⟨y22,b.2.1.1,b.2.1.2,[.S,.S]⟩)])
theorem jjM:CN 0 8094 Tryz.f252 j9s:=nK j7C [j42,j6i] oN ([3,6,65],[3,6]) [] ([],[]) λ_ _ _=>by delta j4w j0G;refine gz j0g λ_ b=> ?_;rewrite[<-b];kernel_rfl
def j28 (c:List qT)(d:qG)(b:Int->Res):Res:=j0k c d.2.1 λr=>bif (d.1==1) then bif decide (r>=0) then b 2 else bif ((nI c.length)==6) then b 3 else b 0 else bif decide (r<0) then b 4 else bif inb r c.length then j4v d (nth (eS,[],[]) c r) λt=>bif t then b 5 else j6Q d (nth (eS,[],[]) c r) λg=>bif g then b 6 else j4w d (nth (eS,[],[]) c r) λh=>bif h then b 7 else bif (d.1==4) then j15 (nth (eS,[],[]) c r).2.2 d.2.2.2.2.1 λf=>bif f then b 8 else b 0 else b 0 else none
def j5x:Sig Unit:=sg [.look y23 true,.look y13 true] [false] [(y23,none),(y13,none)] [] λb f k=>j28 b.1 b.2.1 (λd=>k [wI d] [] [])
theorem jfn:SO 252 j5x:=fK (np:=0) j7C [j42,j6i,j9s] (oI 504 0 @jjK (oI 2022 1 @jjL (oI 8094 2 @jjM oN))) false Tryz.func252 λ_ _ _ _=>by delta j28 j0R j42 j6i j9s j3L;refine gz j0k λ_ b=>gz j4v λ_ d=>gz j6Q λ_ f=>gz j4w λ_ g=>gz j15 λ_ h=> ?_;rewrite[<-b,<-d,<-f,<-g,<-h];kernel_rfl
def jb0 (x:qB×Int×Bool×Bool×Int×Int×qB)(d:qG)(b:Bool->Res):Res:=b (sEq x.1 d.2.2.2.2.1)
def jke:Sig Unit:=sg [.look y6 true,.rptr y13] [false] [(y6,none),(y13,none)] [] λb f k=>jb0 b.1 b.2.1 (λd=>k [wB d] [] [])
theorem jjn:SO 256 jke:=fK (np:=0) Zar [] oN false Tryz.func256 λ_ _ _ _=>by kernel_rfl
def j2o (s:List qC)(b:qG)(d:qE->qG->Res):Res:=bif lim s.length then dgE (λe k=>jb0 e b k) s [] (λr=>d r b) else none
def j4a:Sig Unit:=⟨[.eat y7 false,.clos 256 [y13]],[false],λvals ext k=>ao vals y7 [.O] λs vals=>nl vals<|ab ext y13 [.S,.S] λa0 f ext=>nl ext<|j2o s f (λd b=>k [w1 y7 d .O] [] [⟨y13,a0,b,[.S,.S]⟩])⟩
theorem je0:Z16 Tryz.prog 255 j4a:=gS (jtN (U:=0) (T:=246) (e:=y6) (ag:=true) (τ:=y13) (tg:=[.S,.S]) (fl:=[9,3,4,4,155]) (S:=107) (E:=157) (I:=3) (B:=4) follows j2t (by kernel_rfl) Tryz.underlying107 (by kernel_rfl) (by kernel_rfl) (by kernel_rfl) (by kernel_rfl) Tryz.isAgg246 Tryz.sizeOf246 (by kernel_rfl) (by kernel_rfl) (by kernel_rfl) Tryz.func241 (by kernel_rfl) (by kernel_rfl) (by kernel_rfl) (by kernel_rfl) jjn (by kernel_rfl) Tryz.func255 (by kernel_rfl) (by kernel_rfl) (by kernel_rfl) (by kernel_rfl)) (by kernel_rfl)
theorem j9D:FS [(109,j7l),(132,j5C),(174,j3K),(195,j5w),(197,j0R),(205,j0G),(215,j6R),(252,j5x),(253,j5D),(254,j5B),(255,j4a)]:=(Za5 jhG (Za5 j9x (Za5 jcY (Za5 jfm (Za5 j8H (Za5 j3m (Za5 je4 (Za5 jfn (Za5 jfv (Za5 jft (Za5 je0 Zar)))))))))))
def j25 (d:qG)(f:List qT)(b:Int)(rec:Int->Res)(g:Int->Res):Res:=bif decide (b<(nI f.length)) then bif inb b f.length then bif sLt (nth (eS,[],[]) f b).1 d.2.1 then rec (Z9J (b+1)) else g b else none else g b
def j4q (d:qG)(f:List qT):Int->(Int->Res)->((Int->Res))->Res:=λv rec q=>j25 d f v (λb=>rec (b)) q
def j91 (d:qG)(f:List qT)(n:Nat)(b:Int)(g:Int->Res):Res:=Z1e (j4q d f) n (b) (g)
def j5c:Z1c Unit:=NdL 146 146 [.t 3 (pB 3),.t 4 (pB 4),.t 7 (pB 7),.I 9] [(3,y13,[.S,.S]),(4,y23,[.O]),(7,y23,[.O])] (λf b=>(f.1)) (λf v=>(v,())) (λb v=>((b.1.1,b.1.2),(b.2.1.1,b.2.1.2),(b.2.2.1.1,b.2.2.1.2),())) (λf b=>j4q b.1.2 b.2.2.1.2) λf b g=>((λd=>g (.exit 1) [(3,pB 3),(4,pB 4),(7,pB 7),(9,vI d)] [(3,⟨y13,b.1.1,b.1.2,[.S,.S]⟩),(4,⟨y23,b.2.1.1,b.2.1.2,[.O]⟩),(7,⟨y23,b.2.2.1.1,b.2.2.1.2,[.O]⟩)]))
theorem jiT:CN 0 16212 Tryz.f232 j5c:=lK j9D [] oN ([],[]) [(1,[3,4,7,9],[3,4,7])] ([],[]) λ_ _ _ _ _=>by kernel_rfl
def j1c (f:Int)(h:Int)(d:qG)(b:List qT)(i:qF->Res):Res:=bif (h==1) then j91 d b Z1b 0 λj=>j2v d λr=>j48 b j [r] λl=>i l else bif (h==2) then j47 b f (Z9J (f+1)) λm=>i m else bif (h==3) then bif inb f b.length then bif inb 0 d.2.2.1.length then bif lim ((List.length (nth (eS,[],[]) b f).2.1)+1) then bif inb f (List.length (upd b f ((nth (eS,[],[]) b f).1,((nth (eS,[],[]) b f).2.1++[nth (eS,0,false,false,0,0,eS) d.2.2.1 0]),(nth (eS,[],[]) b f).2.2))) then bif (Z9n (Int.toNat f) (Int.toNat f)&&true) then i (upd b f ((nth (eS,[],[]) b f).1,((nth (eS,[],[]) b f).2.1++[nth (eS,0,false,false,0,0,eS) d.2.2.1 0]),(nth (eS,[],[]) b f).2.2)) else none else none else none else none else none else bif (h==4) then bif inb f b.length then j2o (nth (eS,[],[]) b f).2.1 d λn p=>bif (Z9n (Int.toNat f) (Int.toNat f)&&true) then i (upd b f ((nth (eS,[],[]) b f).1,n,(nth (eS,[],[]) b f).2.2)) else none else none else bif (h==5) then bif inb f b.length then j0g (nth (eS,[],[]) b f) d.2.2.2.2.1 λg=>bif inb g (List.length (nth (eS,[],[]) b f).2.1) then j0K (nth (eS,[],[]) (upd b f ((nth (eS,[],[]) b f).1,upd (nth (eS,[],[]) b f).2.1 g (d.2.2.2.2.2,(nth (eS,0,false,false,0,0,eS) (nth (eS,[],[]) b f).2.1 g).2),(nth (eS,[],[]) b f).2.2)) f).2.2 d.2.2.2.2.1 λk=>bif decide (k>=0) then bif inb k (List.length (nth (eS,[],[]) (upd b f ((nth (eS,[],[]) b f).1,upd (nth (eS,[],[]) b f).2.1 g (d.2.2.2.2.2,(nth (eS,0,false,false,0,0,eS) (nth (eS,[],[]) b f).2.1 g).2),(nth (eS,[],[]) b f).2.2)) f).2.2) then i (upd (upd b f ((nth (eS,[],[]) b f).1,upd (nth (eS,[],[]) b f).2.1 g (d.2.2.2.2.2,(nth (eS,0,false,false,0,0,eS) (nth (eS,[],[]) b f).2.1 g).2),(nth (eS,[],[]) b f).2.2)) f ((nth (eS,[],[]) (upd b f ((nth (eS,[],[]) b f).1,upd (nth (eS,[],[]) b f).2.1 g (d.2.2.2.2.2,(nth (eS,0,false,false,0,0,eS) (nth (eS,[],[]) b f).2.1 g).2),(nth (eS,[],[]) b f).2.2)) f).1,(nth (eS,[],[]) (upd b f ((nth (eS,[],[]) b f).1,upd (nth (eS,[],[]) b f).2.1 g (d.2.2.2.2.2,(nth (eS,0,false,false,0,0,eS) (nth (eS,[],[]) b f).2.1 g).2),(nth (eS,[],[]) b f).2.2)) f).2.1,upd (nth (eS,[],[]) (upd b f ((nth (eS,[],[]) b f).1,upd (nth (eS,[],[]) b f).2.1 g (d.2.2.2.2.2,(nth (eS,0,false,false,0,0,eS) (nth (eS,[],[]) b f).2.1 g).2),(nth (eS,[],[]) b f).2.2)) f).2.2 k d.2.2.2.2.2)) else none else i (upd b f ((nth (eS,[],[]) b f).1,upd (nth (eS,[],[]) b f).2.1 g (d.2.2.2.2.2,(nth (eS,0,false,false,0,0,eS) (nth (eS,[],[]) b f).2.1 g).2),(nth (eS,[],[]) b f).2.2)) else none else none else i b
def j8o:Z1c Unit:=Nd 146 146 [.t 3 (pB 3),.t 4 (pB 4),.t 7 (pB 7),.I 8,.I 36] [(3,y13,[.S,.S]),(4,y23,[.O]),(7,y23,[.O])] λf d g=>j1c f.1 f.2.1 d.1.2 d.2.2.1.2 (λb=>g .normal [(4,pB 4),(7,pB 7)] [(4,⟨y23,d.2.1.1,d.2.1.2,[.O]⟩),(7,⟨y23,d.2.2.1.1,b,[.O]⟩)])
theorem jiU:CN 0 253 Tryz.f232 j8o:=nK j9D [j5c] (oI 84 0 @jiT oN) ([4,7],[4,7]) [] ([],[]) λ_ _ _=>by delta j1c j5c j6R j5D j5B j4a j0G j5C j91;refine gz j4q λ_ b=>gz j2v λ_ d=>gz j48 λ_ f=>gz j47 λ_ g=>gz j2o λ_ h=>gz j0g λ_ i=>gz j0K λ_ j=> ?_;rewrite[<-b,<-d,<-f,<-g,<-h,<-i,<-j];kernel_rfl
def j4g (c:List qT)(d:qG)(b:qF->Int->Res):Res:=j60 c λr=>bif !r then b [] 1 else j20 d λh=>bif !h then b [] 1 else j28 c d λg=>bif (g != 0) then b [] g else j3t c λi=>j0k c d.2.1 λj=>j1c j d.1 d i λf=>b f 0
def jag:Sig Unit:=sg [.borrow y23 true,.borrow y13 true] [true,false] [(y23,none),(y13,none)] [] λb g k=>j4g b.1 b.2.1 (λd f=>k [⟨y23,true,d,[.O]⟩,wI f] [] [])
theorem jkj:SO 232 jag:=fK (np:=0) j9D [j5c,j8o] (oI 253 1 @jiU oN) false Tryz.func232 λ_ _ _ _=>by delta j4g j7l j3K j5x j5w j0R j8o;refine gz j60 λ_ b=>gz j20 λ_ d=>gz j28 λ_ f=>gz j3t λ_ g=>gz j0k λ_ h=>gz j1c λ_ i=> ?_;rewrite[<-b,<-d,<-f,<-g,<-h,<-i];kernel_rfl
end
end Go.PI.G
