/-
  Program's code interpreted over typed values; printed texts; plain laws. No conditions.
-/
import Derived.Test.YtiaipepkkjlccaaGreatPDd
set_option linter.unusedVariables false
set_option maxRecDepth 100000
set_option linter.unusedSimpArgs false
namespace Go.PI.G
noncomputable section
open Go Go.PI Go.Proofs
open Go.Code (pl pr)
def j6E (c:qB×Int×Bool×Bool×Int×Int×qB)(b:Bool->Res):Res:=j0x c.1 λr=>bif !r then b false else bif decide (c.2.1<1) then b false else bif decide (c.2.1>3) then b false else bif !c.2.2.2.1 then b ((c.2.2.2.2.1==0)&&((c.2.2.2.2.2.1==0)&&(sEq c.2.2.2.2.2.2 eS))) else j1L c.2.2.2.2 λd=>bif d then bif ((c.2.2.2.2.1==0)&&((c.2.2.2.2.2.1==0)&&(sEq c.2.2.2.2.2.2 eS))) then bif ((c.2.2.2.2.1==0)&&((c.2.2.2.2.2.1==0)&&(sEq c.2.2.2.2.2.2 eS))) then b (!c.2.2.1) else b true else bif (c.2.2.2.2.1==c.2.1) then bif ((c.2.2.2.2.1==0)&&((c.2.2.2.2.2.1==0)&&(sEq c.2.2.2.2.2.2 eS))) then b (!c.2.2.1) else b true else b false else b false
def ja4:Sig Unit:=sg [.look y6 true] [false] [(y6,none)] [] λd f k=>j6E d.1 (λb=>k [wB b] [] [])
theorem jlO:SO 189 ja4:=fK (np:=0) (Za5 j2H (Za5 j9O Zar)) [] oN false Tryz.func189 λ_ _ _ _=>by delta j6E j3V jdc;refine gz j0x λ_ b=>gz j1L λ_ d=> ?_;rewrite[<-b,<-d];kernel_rfl
def j6D (name:qB)(d:List qC)(h:Int)(b:Int)(rec:Int->Res)(f:Unit->Res)(g:Int->Res):Res:=bif decide (b<h) then bif inb b d.length then bif sEq (nth (eS,0,false,false,0,0,eS) d b).1 name then g b else rec (Z9J (b+1)) else none else f ()
def jdk (name:qB)(d:List qC)(f:Int):Int->(Int->Res)->((Unit->Res)×(Int->Res))->Res:=λv rec q=>j6D name d f v (λb=>rec (b)) q.1 q.2
def jlk (name:qB)(g:List qC)(h:Int)(n:Nat)(b:Int)(d:Unit->Res)(f:Int->Res):Res:=Z1e (jdk name g h) n (b) (d,f)
def jk4:Z1c Unit:=NdL 21 21 [.S 1,.R 8 y7 .S,.I 9,.I 10] [] (λb d=>(b.2.2.2.1)) (λb v=>(b.1,b.2.1,b.2.2.1,v,())) (λd v=>()) (λb d=>jdk b.1 b.2.1 b.2.2.1) λb d f=>((λ_=>f (.exit 0) [] []),(λg=>f .ret [(4,vI g)] []))
theorem jqQ:CN 0 26 Tryz.f190 jk4:=lK Zar [] oN ([],[]) [(0,[],[])] ([4],[]) λ_ _ _ _ _=>by kernel_rfl
def j0Q (t:qB×qE×qL)(name:qB)(b:Int->Res):Res:=jlk name t.2.1 (nI t.2.1.length) Z1b 0 (λ_=>b (-1)) (λd=>b d)
def j3s:Sig Unit:=sg [.look y22 true,.look .str false] [false] [(y22,none),(.str,none)] [] λb f k=>j0Q b.1 b.2.1 (λd=>k [wI d] [] [])
theorem j7m:SO 190 j3s:=fK (np:=0) Zar [jk4] (oI 26 0 @jqQ oN) false Tryz.func190 λ_ _ _ _=>by kernel_rfl
theorem jap:FS [(60,j3V),(189,ja4),(190,j3s)]:=(Za5 j2H (Za5 jlO (Za5 j7m Zar)))
def j6N (t:qB×qE×qL)(b:Bool->Res):Res:=j0x t.1 λr=>bif !r then b true else bif decide ((nI t.2.1.length)<1) then b true else bif decide ((nI t.2.1.length)>8) then b true else b (decide ((nI t.2.2.length)<1))
def j5L:Z1c Unit:=Nd 75 75 [.t 1 (pB 1)] [(1,y22,[.S,.S])] λg d f=>j6N d.1.2 (λb=>f .normal [(1,pB 1),(30,vB b)] [(1,⟨y22,d.1.1,d.1.2,[.S,.S]⟩)])
theorem jou:CN 0 12 Tryz.f144 j5L:=nK jap [] oN ([1,30],[1]) [] ([],[]) λ_ _ _=>by kernel_rfl
def j2B (d:List qC)(f:Int)(t:qB×qE×qL)(b:Int)(rec:Int->Res)(h:Unit->Res)(g:Unit->Res):Res:=bif decide (b<f) then bif inb b d.length then j6E (nth (eS,0,false,false,0,0,eS) d b) λr=>bif !r then g () else j0Q t (nth (eS,0,false,false,0,0,eS) d b).1 λi=>bif (i != b) then g () else rec (Z9J (b+1)) else none else h ()
def j4p (b:List qC)(d:Int)(t:qB×qE×qL):Int->(Int->Res)->((Unit->Res)×(Unit->Res))->Res:=λv rec q=>j2B b d t v (λf=>rec (f)) q.1 q.2
def j9G (b:List qC)(d:Int)(t:qB×qE×qL)(n:Nat)(f:Int)(g:Unit->Res)(h:Unit->Res):Res:=Z1e (j4p b d t) n (f) (g,h)
def j8I:Z1c Unit:=NdL 75 75 [.t 1 (pB 1),.R 32 y7 .S,.I 33,.I 34] [(1,y22,[.S,.S])] (λb d=>(b.2.2.1)) (λb v=>(b.1,b.2.1,v,())) (λd v=>((d.1.1,d.1.2),())) (λb d=>j4p b.1 b.2.1 d.1.2) λb d f=>((λ_=>f (.exit 0) [(1,pB 1)] [(1,⟨y22,d.1.1,d.1.2,[.S,.S]⟩)]),(λ_=>f .ret [(2,vB false)] []))
theorem jos:CN 0 58 Tryz.f144 j8I:=lK jap [j5L] oN ([],[]) [(0,[1],[1])] ([2],[]) λ_ _ _ _ _=>by delta j4p j2B ja4 j3s;refine gz j6E λ_ b=>gz j0Q λ_ d=> ?_;rewrite[<-b,<-d];kernel_rfl
def j4q (f:qL)(g:Int)(t:qB×qE×qL)(d:Int)(b:Int)(rec:Int->Int->Res)(i:Unit->Res)(h:Unit->Res):Res:=bif decide (b<g) then bif inb b f.length then j0Q t (nth eS f b) λr=>bif decide (r<=d) then h () else bif inb r t.2.1.length then bif !(nth (eS,0,false,false,0,0,eS) t.2.1 r).2.2.1 then h () else rec r (Z9J (b+1)) else none else none else i ()
def j77 (d:qL)(f:Int)(t:qB×qE×qL):(Int×Int)->(Int×Int->Res)->((Unit->Res)×(Unit->Res))->Res:=λv rec q=>j4q d f t v.1 v.2 (λb g=>rec (b,g)) q.1 q.2
def j9H (d:qL)(f:Int)(t:qB×qE×qL)(n:Nat)(b:Int)(g:Int)(h:Unit->Res)(i:Unit->Res):Res:=Z1e (j77 d f t) n (b,g) (h,i)
def jck:Z1c Unit:=NdL 75 75 [.t 1 (pB 1),.I 5,.R 52 y8 .S,.I 53,.I 54] [(1,y22,[.S,.S])] (λb d=>(b.1,b.2.2.2.1)) (λb v=>(v.1,b.2.1,b.2.2.1,v.2,())) (λd v=>((d.1.1,d.1.2),())) (λb d=>j77 b.2.1 b.2.2.1 d.1.2) λb d f=>((λ_=>f (.exit 2) [] []),(λ_=>f .ret [(2,vB false)] []))
theorem jot:CN 0 250 Tryz.f144 jck:=lK jap [j5L,j8I] oN ([],[]) [(2,[],[])] ([2],[]) λ_ _ _ _ _=>by kernel_rfl
def j0C (t:qB×qE×qL)(b:Bool->Res):Res:=j6N t λd=>bif d then b false else j9G t.2.1 (nI t.2.1.length) t Z1b 0 (λ_=>j9H t.2.2 (nI t.2.2.length) t Z1b (-1) 0 (λ_=>b true) (λ_=>b false)) (λ_=>b false)
def j1s:Sig Unit:=sg [.look y22 true] [false] [(y22,none)] [] λd f k=>j0C d.1 (λb=>k [wB b] [] [])
theorem j4K:SO 144 j1s:=fK (np:=0) jap [j5L,j8I,jck] (oI 12 0 @jou (oI 58 1 @jos (oI 250 2 @jot oN))) false Tryz.func144 λ_ _ _ _=>by delta j0C j5L j8I jck j9G j9H;refine gz j6N λ_ b=>gz j4p λ_ d=>gz j77 λ_ f=> ?_;rewrite[<-b,<-d,<-f];kernel_rfl
theorem jlw:FS [(60,j3V),(144,j1s),(189,ja4)]:=(Za5 j2H (Za5 j4K (Za5 jlO Zar)))
def j8W (d:qG)(b:Bool->Res):Res:=bif ((nI d.2.2.1.length)==0) then b ((nI d.2.2.2.1.length)==0) else b false
def jeM:Z1c Unit:=Nd 123 123 [.t 1 (pB 1)] [(1,y13,[.S,.S])] λf b d=>j8W b.1.2 (λplain=>d .normal [(1,pB 1),(3,vB plain)] [(1,⟨y13,b.1.1,b.1.2,[.S,.S]⟩)])
theorem jqR:CN 0 14 Tryz.f169 jeM:=nK jlw [] oN ([1,3],[1]) [] ([],[]) λ_ _ _=>by kernel_rfl
def j3f (d:qG)(b:Bool->Res):Res:=j0x d.2.1 λr=>bif !r then b false else j8W d λplain=>bif (d.1==1) then bif sEq d.2.2.2.2.1 eS then bif sEq d.2.2.2.2.2 eS then j0C (d.2.1,d.2.2.1,d.2.2.2.1) λf=>b f else b false else b false else bif (d.1==2) then bif plain then bif sEq d.2.2.2.2.1 eS then b (sEq d.2.2.2.2.2 eS) else b false else b false else bif (d.1==3) then bif ((nI d.2.2.1.length)==1) then bif inb 0 d.2.2.1.length then j6E (nth (eS,0,false,false,0,0,eS) d.2.2.1 0) λg=>bif g then bif inb 0 d.2.2.1.length then bif (nth (eS,0,false,false,0,0,eS) d.2.2.1 0).2.2.2.1 then bif ((nI d.2.2.2.1.length)==0) then bif sEq d.2.2.2.2.1 eS then b (sEq d.2.2.2.2.2 eS) else b false else b false else bif inb 0 d.2.2.1.length then bif !(nth (eS,0,false,false,0,0,eS) d.2.2.1 0).2.2.1 then bif ((nI d.2.2.2.1.length)==0) then bif sEq d.2.2.2.2.1 eS then b (sEq d.2.2.2.2.2 eS) else b false else b false else b false else none else none else b false else none else b false else bif (d.1==4) then bif plain then j0x d.2.2.2.2.1 λh=>bif h then b (sEq d.2.2.2.2.2 eS) else b false else b false else bif (d.1==5) then bif plain then j0x d.2.2.2.2.1 λi=>bif i then j0x d.2.2.2.2.2 λj=>b j else b false else b false else b false
def j5s:Sig Unit:=sg [.look y13 true] [false] [(y13,none)] [] λd f k=>j3f d.1 (λb=>k [wB b] [] [])
theorem jgJ:SO 169 j5s:=fK (np:=0) jlw [jeM] (oI 14 0 @jqR oN) false Tryz.func169 λ_ _ _ _=>by delta j3f j3V jeM j1s ja4;refine gz j0x λ_ b=>gz j8W λ_ d=>gz j0C λ_ f=>gz j6E λ_ g=> ?_;rewrite[<-b,<-d,<-f,<-g];kernel_rfl
def j6C (d:List qT)(f:Int)(c:List qT)(b:Int)(rec:Int->Res)(h:Unit->Res)(g:Unit->Res):Res:=bif decide (b<f) then bif inb b d.length then j0C (nth (eS,[],[]) d b) λr=>bif !r then g () else bif decide (b>0) then bif inb (Z9J (b-1)) c.length then bif sGe (nth (eS,[],[]) c (Z9J (b-1))).1 (nth (eS,[],[]) d b).1 then g () else rec (Z9J (b+1)) else none else rec (Z9J (b+1)) else none else h ()
def jdj (b:List qT)(d:Int)(c:List qT):Int->(Int->Res)->((Unit->Res)×(Unit->Res))->Res:=λv rec q=>j6C b d c v (λf=>rec (f)) q.1 q.2
def jfE (b:List qT)(d:Int)(c:List qT)(n:Nat)(f:Int)(g:Unit->Res)(h:Unit->Res):Res:=Z1e (jdj b d c) n (f) (g,h)
def jk3:Z1c Unit:=NdL 37 37 [.t 1 (pB 1),.R 10 y23 .S,.I 11,.I 12] [(1,y23,[.S])] (λb d=>(b.2.2.1)) (λb v=>(b.1,b.2.1,v,())) (λd v=>((d.1.1,d.1.2),())) (λb d=>jdj b.1 b.2.1 d.1.2) λb d f=>((λ_=>f (.exit 0) [] []),(λ_=>f .ret [(2,vB false)] []))
theorem jqP:CN 0 58 Tryz.f98 jk3:=lK (Za5 j4K Zar) [] oN ([],[]) [(0,[],[])] ([2],[]) λ_ _ _ _ _=>by kernel_rfl
def j4F (c:List qT)(b:Bool->Res):Res:=bif decide ((nI c.length)>6) then b false else jfE c (nI c.length) c Z1b 0 (λ_=>b true) (λ_=>b false)
def j7N:Sig Unit:=sg [.look y23 true] [false] [(y23,none)] [] λd f k=>j4F d.1 (λb=>k [wB b] [] [])
theorem jgI:SO 98 j7N:=fK (np:=0) (Za5 j4K Zar) [jk3] (oI 58 0 @jqP oN) false Tryz.func98 λ_ _ _ _=>by kernel_rfl
def j1l (t:qB×qE×qL)(b:qT->Res):Res:=Z86 (Z86 (bif lim (0+t.2.1.length) then bif lim (0+t.2.2.length) then b (t.1,t.2.1,t.2.2) else none else none) (bif lim (0+t.2.1.length) then bif lim (0+t.2.2.length) then b (t.1,t.2.1,t.2.2) else none else none)) (bif lim (0+t.2.1.length) then bif lim (0+t.2.2.length) then b (t.1,t.2.1,t.2.2) else none else none)
def j9y:Sig Unit:=sg [.borrow y22 true] [true] [(y22,none)] [] λd f k=>j1l d.1 (λb=>k [⟨y22,true,b,[.O,.O]⟩] [] [])
theorem j9j:SO 223 j9y:=fK (np:=0) Zar [] oN false Tryz.func223 λ_ _ _ _=>by kernel_rfl
def j4r (f:List qT)(h:Int)(b:Int)(d:List qT)(rec:Int->qF->Res)(g:qF->Res):Res:=bif decide (b<h) then bif inb b f.length then j1l (nth (eS,[],[]) f b) λr=>bif lim (d.length+1) then rec (Z9J (b+1)) (d++[r]) else none else none else g d
def jb7 (f:List qT)(g:Int):(Int×qF)->(Int×qF->Res)->((qF->Res))->Res:=λv rec q=>j4r f g v.1 v.2 (λd b=>rec (d,b)) q
def jij (g:List qT)(h:Int)(n:Nat)(d:Int)(b:List qT)(f:qF->Res):Res:=Z1e (jb7 g h) n (d,b) (f)
def jhC:Z1c Unit:=NdL 23 23 [.t 2 (pB 2),.t 3 (pB 3),.R 8 y23 .S,.I 9,.I 10] [(2,y23,[.O]),(3,y23,[.O])] (λd b=>(d.2.2.1,b.2.1.2)) (λd v=>(d.1,d.2.1,v.1,())) (λb v=>((b.1.1,b.1.2),(b.2.1.1,v.2),())) (λd b=>jb7 d.1 d.2.1) λd b g=>((λf=>g (.exit 0) [(2,pB 2),(3,pB 3)] [(2,⟨y23,b.1.1,b.1.2,[.O]⟩),(3,⟨y23,b.2.1.1,f,[.O]⟩)]))
theorem jov:CN 0 58 Tryz.f184 jhC:=lK (Za5 j9j Zar) [] oN ([],[]) [(0,[2,3],[2,3])] ([],[]) λ_ _ _ _ _=>by kernel_rfl
def j5y (c:List qT)(d:qF->Res):Res:=jij c (nI c.length) Z1b 0 [] λb=>d b
def j7S:Sig Unit:=sg [.borrow y23 true] [true] [(y23,none)] [] λd f k=>j5y d.1 (λb=>k [⟨y23,true,b,[.O]⟩] [] [])
theorem jjn:SO 184 j7S:=fK (np:=0) (Za5 j9j Zar) [jhC] (oI 58 0 @jov oN) false Tryz.func184 λ_ _ _ _=>by kernel_rfl
def j6O (name:qB)(d:List qT)(h:Int)(b:Int)(rec:Int->Res)(f:Unit->Res)(g:Int->Res):Res:=bif decide (b<h) then bif inb b d.length then bif sEq (nth (eS,[],[]) d b).1 name then g b else rec (Z9J (b+1)) else none else f ()
def jdq (name:qB)(d:List qT)(f:Int):Int->(Int->Res)->((Unit->Res)×(Int->Res))->Res:=λv rec q=>j6O name d f v (λb=>rec (b)) q.1 q.2
def jlm (name:qB)(g:List qT)(h:Int)(n:Nat)(b:Int)(d:Unit->Res)(f:Int->Res):Res:=Z1e (jdq name g h) n (b) (d,f)
def jk6:Z1c Unit:=NdL 21 21 [.S 1,.R 8 y23 .S,.I 9,.I 10] [] (λb d=>(b.2.2.2.1)) (λb v=>(b.1,b.2.1,b.2.2.1,v,())) (λd v=>()) (λb d=>jdq b.1 b.2.1 b.2.2.1) λb d f=>((λ_=>f (.exit 0) [] []),(λg=>f .ret [(4,vI g)] []))
theorem jqX:CN 0 26 Tryz.f186 jk6:=lK Zar [] oN ([],[]) [(0,[],[])] ([4],[]) λ_ _ _ _ _=>by kernel_rfl
def j1M (c:List qT)(name:qB)(b:Int->Res):Res:=jlm name c (nI c.length) Z1b 0 (λ_=>b (-1)) (λt=>b t)
def j3t:Sig Unit:=sg [.look y23 true,.look .str false] [false] [(y23,none),(.str,none)] [] λb f k=>j1M b.1 b.2.1 (λd=>k [wI d] [] [])
theorem jcv:SO 186 j3t:=fK (np:=0) Zar [jk6] (oI 26 0 @jqX oN) false Tryz.func186 λ_ _ _ _=>by kernel_rfl
def jeI (done:Bool)(t:qB×qE×qL)(b:List qT)(x:qB×qE×qL)(d:Bool->qF->Res):Res:=bif !done then bif sLt t.1 x.1 then bif lim (b.length+1) then d true (b++[t]) else none else d done b else d done b
def jdL:Z1c Unit:=Nd 48 48 [.t 3 (pB 3),.t 4 (pB 4),.t 5 (pB 5),.B 6,.t 8 (pB 8),.R 11 y23 .S,.I 12,.I 13] [(3,y22,[.S,.S]),(4,y23,[.O]),(5,y23,[.PS]),(8,y22,[.S,.S])] λg b h=>jeI g.1 b.1.2 b.2.2.1.2 b.2.2.2.1.2 (λd f=>h .normal [(3,pB 3),(4,pB 4),(5,pB 5),(6,vB d),(8,pB 8),(11,v1 y23 g.2.1 .S),(12,vI g.2.2.1),(13,vI g.2.2.2.1)] [(3,⟨y22,b.1.1,b.1.2,[.S,.S]⟩),(4,⟨y23,b.2.1.1,b.2.1.2,[.O]⟩),(5,⟨y23,b.2.2.1.1,f,[.PS]⟩),(8,⟨y22,b.2.2.2.1.1,b.2.2.2.1.2,[.S,.S]⟩)])
theorem jpK:CN 0 15666 Tryz.f245 jdL:=nK Zar [] oN ([3,4,5,6,8,11,12,13],[3,4,5,8]) [] ([],[]) λ_ _ _=>by kernel_rfl
def j5A (g:List qT)(i:Int)(t:qB×qE×qL)(done:Bool)(b:Int)(h:List qT)(rec:Bool->Int->qF->Res)(j:Bool->qF->Res):Res:=bif decide (b<i) then bif inb b g.length then jeI done t h (nth (eS,[],[]) g b) λf d=>bif lim (d.length+1) then rec f (Z9J (b+1)) (d++[nth (eS,[],[]) g b]) else none else none else j done h
def jc1 (d:List qT)(f:Int)(t:qB×qE×qL):(Bool×Int×qF)->(Bool×Int×qF->Res)->((Bool->qF->Res))->Res:=λv rec q=>j5A d f t v.1 v.2.1 v.2.2 (λdone g b=>rec (done,g,b)) q
def jeH (d:List qT)(f:Int)(t:qB×qE×qL)(n:Nat)(done:Bool)(g:Int)(b:List qT)(h:Bool->qF->Res):Res:=Z1e (jc1 d f t) n (done,g,b) (h)
def jip:Z1c Unit:=λσ k=>rdN σ 48<|rdT σ 3 (pB 3)<|rdT σ 4 (pB 4)<|rdT σ 5 (pB 5)<|rdO σ 6 λdone=>rd1 σ 11 y23 .S λg=>rdI σ 12 λh=>rdI σ 13 λi=>rdB σ 3 y22 [.S,.S] λa t=>rdB σ 4 y23 [.O] λj m=>rdB σ 5 y23 [.PS] λl f=>jeH g h t Z1b done i f (λb d=>k (.exit 0) (mkS 48 48 [(3,pB 3),(4,pB 4),(5,pB 5),(6,vB b)] [(3,⟨y22,a,t,[.S,.S]⟩),(4,⟨y23,j,m,[.O]⟩),(5,⟨y23,l,d,[.PS]⟩)]))
def jiC:Z1c Unit:=λσ k=>jip (σ.wk [] [(5,[.PS])]) k
theorem jpJ:CN 0 122 Tryz.f245 jiC:=λr=>ZaI [] [(5,[.PS])] (jph follows j2e Zar r [jdL] (oI 114 0 @jpK oN) [3,4,5,6,11,12,13] [3,4,5] ([],[]) [(0,[3,4,5,6],[3,4,5])] ([],[]) (y:=jip) λσ k _ h=>rN h λH h=>rT h λD h=>rT h λE h=>rT h λF h=>rV h λdone G h=>rV h λf i h=>rV h λg j h=>rV h λz l h=>rB h λa t n h=>rB h λA C p h=>rB h λB w q h=>⟨_,ZaL (m:=48) H (sC D (sC E (sC F (sC G (sC i (sC j (sC l sN))))))) (bC n (bC p (bC q bN))),.trans (Z9t (λv:Bool×Int×qF=>(mkS 48 48 [(3,pB 3),(4,pB 4),(5,pB 5),(6,vB v.1),(11,v1 y23 f .S),(12,vI g),(13,vI v.2.1)] [(3,⟨y22,a,t,[.S,.S]⟩),(4,⟨y23,A,C,[.O]⟩),(5,⟨y23,B,v.2.2,[.PS]⟩)])) (jc1 f g t) (λ(k:Z82 Unit)=>(((λb d=>k (.exit 0) (mkS 48 48 [(3,pB 3),(4,pB 4),(5,pB 5),(6,vB b)] [(3,⟨y22,a,t,[.S,.S]⟩),(4,⟨y23,A,C,[.O]⟩),(5,⟨y23,B,d,[.PS]⟩)]))):(Bool->qF->Res))) (λv rec k=>by kernel_rfl) Z1b (done,z,w) k) h⟩)
def jbw (c:List qT)(t:qB×qE×qL)(d:qF->Res):Res:=jeH c (nI c.length) t Z1b false 0 [] λdone b=>bif !done then bif lim (b.length+1) then d (b++[t]) else none else d b
def jfB:Sig Unit:=sg [.borrow y23 true,.borrow y22 true] [true] [(y23,none),(y22,none)] [] λb f k=>jbw b.1 b.2.1 (λd=>k [⟨y23,true,d,[.PS]⟩] [] [])
theorem js8:SO 245 jfB:=fK (np:=0) Zar [jdL,jiC] (oI 122 1 @jpJ oN) false Tryz.func245 λ_ _ _ _=>by kernel_rfl
def j5z (s:qB)(d:qL)(h:Int)(b:Int)(rec:Int->Res)(f:Unit->Res)(g:Unit->Res):Res:=bif decide (b<h) then bif inb b d.length then bif sEq (nth eS d b) s then g () else rec (Z9J (b+1)) else none else f ()
def jc0 (s:qB)(b:qL)(d:Int):Int->(Int->Res)->((Unit->Res)×(Unit->Res))->Res:=λv rec q=>j5z s b d v (λf=>rec (f)) q.1 q.2
def jjS (s:qB)(f:qL)(g:Int)(n:Nat)(h:Int)(b:Unit->Res)(d:Unit->Res):Res:=Z1e (jc0 s f g) n (h) (b,d)
def jiB:Z1c Unit:=NdL 17 17 [.S 1,.R 7 y8 .S,.I 8,.I 9] [] (λb d=>(b.2.2.2.1)) (λb v=>(b.1,b.2.1,b.2.2.1,v,())) (λd v=>()) (λb d=>jc0 b.1 b.2.1 b.2.2.1) λb d f=>((λ_=>f (.exit 0) [] []),(λ_=>f .ret [(4,vB true)] []))
theorem jpI:CN 0 26 Tryz.f121 jiB:=lK Zar [] oN ([],[]) [(0,[],[])] ([4],[]) λ_ _ _ _ _=>by kernel_rfl
def j6X (l:qL)(s:qB)(b:Bool->Res):Res:=jjS s l (nI l.length) Z1b 0 (λ_=>b false) (λ_=>b true)
def jfA:Sig Unit:=sg [.look y8 false,.look .str false] [false] [(y8,none),(.str,none)] [] λb f k=>j6X b.1 b.2.1 (λd=>k [wB d] [] [])
theorem jkZ:SO 121 jfA:=fK (np:=0) Zar [jiB] (oI 26 0 @jpI oN) false Tryz.func121 λ_ _ _ _=>by kernel_rfl
def j66 (t:qB×qE×qL)(d:qG)(b:Int->Res):Res:=j0Q t d.2.2.2.2.1 λr=>bif (d.1==3) then bif inb 0 d.2.2.1.length then j0Q t (nth (eS,0,false,false,0,0,eS) d.2.2.1 0).1 λf=>bif decide (f>=0) then b 5 else bif ((nI t.2.1.length)==8) then b 6 else b 0 else none else bif (d.1==4) then bif decide (r<0) then b 7 else j6X t.2.2 d.2.2.2.2.1 λg=>bif g then b 8 else b 0 else bif (d.1==5) then j0Q t d.2.2.2.2.2 λh=>bif decide (h>=0) then b 5 else bif decide (r<0) then b 7 else b 0 else b 0
def jdd:Sig Unit:=sg [.look y22 true,.look y13 true] [false] [(y22,none),(y13,none)] [] λb f k=>j66 b.1 b.2.1 (λd=>k [wI d] [] [])
theorem joX:SO 246 jdd:=fK (np:=0) (Za5 jkZ (Za5 j7m Zar)) [] oN false Tryz.func246 λ_ _ _ _=>by delta j66 j3s jfA;refine gz j0Q λ_ b=>gz j6X λ_ d=> ?_;rewrite[<-b,<-d];kernel_rfl
def j7a (t:qB×qE×qL)(b:Unit->Res):Res:=Z86 (Z86 (bif lim (0+t.2.2.length) then Z86 (b ()) (b ()) else none) (bif lim (0+t.2.2.length) then b () else none)) (bif lim (0+t.2.2.length) then b () else none)
def j1g:Z1c Unit:=Nd 92 92 [.t 2 (pB 2),.t 3 (pB 3),.t 4 (pB 4)] [(2,y22,[.S,.S]),(3,y13,[.S,.S]),(4,y22,[.O,.O])] λf b d=>j7a b.1.2 (λ_=>d .normal [(2,pB 2),(3,pB 3),(4,pB 4),(5,pB 5)] [(2,⟨y22,b.1.1,b.1.2,[.S,.S]⟩),(3,⟨y13,b.2.1.1,b.2.1.2,[.S,.S]⟩),(4,⟨y22,b.2.2.1.1,b.2.2.1.2,[.O,.O]⟩),(5,⟨y22,false,(b.1.2.1,[],b.1.2.2.2),[.O,.O]⟩)])
theorem jmd:CN 0 6 Tryz.f247 j1g:=nK Zar [] oN ([2,3,4,5],[2,3,4,5]) [] ([],[]) λ_ _ _=>by kernel_rfl
def j7b (d:qG)(c:qB×Int×Bool×Bool×Int×Int×qB)(b:Unit->Res)(f:Unit->Res):Res:=bif (d.1==4) then bif sEq c.1 d.2.2.2.2.1 then f () else b () else b ()
def j2b:Z1c Unit:=Nd 92 92 [.t 3 (pB 3),.t 4 (pB 4),.t 5 (pB 5),.t 7 (pB 7),.R 17 y7 .S,.I 18,.I 19] [(3,y13,[.S,.S]),(4,y22,[.O,.O]),(5,y22,[.O,.O]),(7,y6,[])] λd b f=>j7b b.1.2 b.2.2.2.1.2 (λ_=>f .normal [(3,pB 3),(4,pB 4),(5,pB 5),(7,pB 7),(17,v1 y7 d.1 .S),(18,vI d.2.1),(19,vI d.2.2.1)] [(3,⟨y13,b.1.1,b.1.2,[.S,.S]⟩),(4,⟨y22,b.2.1.1,b.2.1.2,[.O,.O]⟩),(5,⟨y22,b.2.2.1.1,b.2.2.1.2,[.O,.O]⟩),(7,⟨y6,b.2.2.2.1.1,b.2.2.2.1.2,[]⟩)]) (λ_=>f (.exit 1) [(3,pB 3),(4,pB 4),(5,pB 5),(17,v1 y7 d.1 .S),(18,vI d.2.1),(19,vI d.2.2.1),(27,.ptr ⟨true,7,[.fst]⟩),(28,vS b.2.2.2.1.2.1),(29,.ptr ⟨true,3,[.snd,.snd,.snd,.snd,.fst]⟩),(30,vS b.1.2.2.2.2.2.1),(31,vB (sEq b.2.2.2.1.2.1 b.1.2.2.2.2.2.1))] [(3,⟨y13,b.1.1,b.1.2,[.S,.S]⟩),(4,⟨y22,b.2.1.1,b.2.1.2,[.O,.O]⟩),(5,⟨y22,b.2.2.1.1,b.2.2.1.2,[.O,.O]⟩),(7,⟨y6,b.2.2.2.1.1,b.2.2.2.1.2,[]⟩)])
theorem jme:CN 0 7474 Tryz.f247 j2b:=nK Zar [j1g] oN ([3,4,5,7,17,18,19],[3,4,5,7]) [(1,[3,4,5,17,18,19,27,28,29,30,31],[3,4,5,7])] ([],[]) λ_ _ _=>by kernel_rfl
def j7c (d:qG)(c:qB×Int×Bool×Bool×Int×Int×qB)(b:qC->Res):Res:=bif (d.1==5) then bif sEq c.1 d.2.2.2.2.1 then b (d.2.2.2.2.2,c.2) else b c else b c
def j3C:Z1c Unit:=Nd 92 92 [.t 3 (pB 3),.t 4 (pB 4),.t 5 (pB 5),.t 7 (pB 7),.R 17 y7 .S,.I 18,.I 19] [(3,y13,[.S,.S]),(4,y22,[.O,.O]),(5,y22,[.O,.O]),(7,y6,[])] λd b f=>j7c b.1.2 b.2.2.2.1.2 (λc1=>f .normal [(3,pB 3),(4,pB 4),(5,pB 5),(7,pB 7),(17,v1 y7 d.1 .S),(18,vI d.2.1),(19,vI d.2.2.1)] [(3,⟨y13,b.1.1,b.1.2,[.S,.S]⟩),(4,⟨y22,b.2.1.1,b.2.1.2,[.O,.O]⟩),(5,⟨y22,b.2.2.1.1,b.2.2.1.2,[.O,.O]⟩),(7,⟨y6,b.2.2.2.1.1,c1,[]⟩)])
theorem jmf:CN 0 14950 Tryz.f247 j3C:=nK Zar [j1g,j2b] oN ([3,4,5,7,17,18,19],[3,4,5,7]) [] ([],[]) λ_ _ _=>by kernel_rfl
def j1A (g:List qC)(h:Int)(d:qG)(f:Int)(b:qB×qE×qL)(rec:Int->qT->Res)(i:qT->Res):Res:=bif decide (f<h) then bif inb f g.length then j7b d (nth (eS,0,false,false,0,0,eS) g f) (λ_=>j7c d (nth (eS,0,false,false,0,0,eS) g f) λc=>bif lim (b.2.1.length+1) then rec (Z9J (f+1)) (b.1,(b.2.1++[c]),b.2.2) else none) (λ_=>rec (Z9J (f+1)) b) else none else i b
def j2X (f:List qC)(g:Int)(d:qG):(Int×qT)->(Int×qT->Res)->((qT->Res))->Res:=λv rec q=>j1A f g d v.1 v.2 (λh b=>rec (h,b)) q
def j78 (f:List qC)(g:Int)(d:qG)(n:Nat)(h:Int)(b:qB×qE×qL)(i:qT->Res):Res:=Z1e (j2X f g d) n (h,b) (i)
def j6S:Z1c Unit:=NdL 92 92 [.t 3 (pB 3),.t 4 (pB 4),.t 5 (pB 5),.R 17 y7 .S,.I 18,.I 19] [(3,y13,[.S,.S]),(4,y22,[.O,.O]),(5,y22,[.O,.O])] (λd b=>(d.2.2.1,b.2.2.1.2)) (λd v=>(d.1,d.2.1,v.1,())) (λb v=>((b.1.1,b.1.2),(b.2.1.1,b.2.1.2),(b.2.2.1.1,v.2),())) (λd b=>j2X d.1 d.2.1 b.1.2) λd b g=>((λf=>g (.exit 0) [(3,pB 3),(4,pB 4),(5,pB 5)] [(3,⟨y13,b.1.1,b.1.2,[.S,.S]⟩),(4,⟨y22,b.2.1.1,b.2.1.2,[.O,.O]⟩),(5,⟨y22,b.2.2.1.1,f,[.O,.O]⟩)]))
theorem jmb:CN 0 58 Tryz.f247 j6S:=lK Zar [j1g,j2b,j3C] (oI 114 1 @jme (oI 230 2 @jmf oN)) ([],[]) [(0,[3,4,5],[3,4,5])] ([],[]) λ_ _ _ _ _=>by delta j2X j1A j2b j3C;refine gz j7b λ_ b=>gz j7c λ_ d=> ?_;rewrite[<-b,<-d];kernel_rfl
def j0v (g:Int)(d:qG)(f:Int)(b:qB×qE×qL)(rec:Int->qT->Res)(h:qT->Res):Res:=bif decide (f<g) then bif (d.1==5) then bif inb f b.2.2.length then bif sEq (nth eS b.2.2 f) d.2.2.2.2.1 then bif inb f b.2.2.length then rec (Z9J (f+1)) (b.1,b.2.1,upd b.2.2 f d.2.2.2.2.2) else none else rec (Z9J (f+1)) b else none else rec (Z9J (f+1)) b else h b
def j5U (f:Int)(d:qG):(Int×qT)->(Int×qT->Res)->((qT->Res))->Res:=λv rec q=>j0v f d v.1 v.2 (λg b=>rec (g,b)) q
def j79 (f:Int)(d:qG)(n:Nat)(g:Int)(b:qB×qE×qL)(h:qT->Res):Res:=Z1e (j5U f d) n (g,b) (h)
def jal:Z1c Unit:=NdL 92 92 [.t 3 (pB 3),.t 4 (pB 4),.t 5 (pB 5),.I 55,.I 56] [(3,y13,[.S,.S]),(4,y22,[.O,.O]),(5,y22,[.O,.O])] (λd b=>(d.2.1,b.2.2.1.2)) (λd v=>(d.1,v.1,())) (λb v=>((b.1.1,b.1.2),(b.2.1.1,b.2.1.2),(b.2.2.1.1,v.2),())) (λd b=>j5U d.1 b.1.2) λd b g=>((λf=>g (.exit 2) [(3,pB 3),(4,pB 4),(5,pB 5)] [(3,⟨y13,b.1.1,b.1.2,[.S,.S]⟩),(4,⟨y22,b.2.1.1,b.2.1.2,[.O,.O]⟩),(5,⟨y22,b.2.2.1.1,f,[.O,.O]⟩)]))
theorem jmc:CN 0 122 Tryz.f247 jal:=lK Zar [j1g,j2b,j3C,j6S] oN ([],[]) [(2,[3,4,5],[3,4,5])] ([],[]) λ_ _ _ _ _=>by kernel_rfl
def j4U (t:qB×qE×qL)(d:qG)(g:qT->Res):Res:=j7a t λ_=>j78 t.2.1 (nI t.2.1.length) d Z1b 0 (t.1,[],t.2.2) λf=>j79 (nI f.2.2.length) d Z1b 0 f λb=>bif (d.1==3) then bif inb 0 d.2.2.1.length then bif lim (b.2.1.length+1) then g (b.1,(b.2.1++[nth (eS,0,false,false,0,0,eS) d.2.2.1 0]),b.2.2) else none else none else g b
def jbU:Sig Unit:=sg [.borrow y22 true,.borrow y13 true] [true] [(y22,none),(y13,none)] [] λb f k=>j4U b.1 b.2.1 (λd=>k [⟨y22,true,d,[.O,.O]⟩] [] [])
theorem jnM:SO 247 jbU:=fK (np:=0) Zar [j1g,j2b,j3C,j6S,jal] (oI 6 0 @jmd (oI 58 3 @jmb (oI 122 4 @jmc oN))) false Tryz.func247 λ_ _ _ _=>by delta j4U j1g j6S jal j78 j79;refine gz j7a λ_ b=>gz j2X λ_ d=>gz j5U λ_ f=> ?_;rewrite[<-b,<-d,<-f];kernel_rfl
theorem jct:FS [(98,j7N),(169,j5s),(184,j7S),(186,j3t),(223,j9y),(245,jfB),(246,jdd),(247,jbU)]:=(Za5 jgI (Za5 jgJ (Za5 jjn (Za5 jcv (Za5 j9j (Za5 js8 (Za5 joX (Za5 jnM Zar))))))))
def j5t (d:qG)(b:List qT)(f:qF->Res):Res:=j1l (d.2.1,d.2.2.1,d.2.2.2.1) λr=>jbw b r λg=>f g
def jbb:Z1c Unit:=λσ k=>rdN σ 88<|rdT σ 3 (pB 3)<|rdT σ 4 (pB 4)<|rdT σ 7 (pB 7)<|rdB σ 3 y13 [.S,.S] λa d=>rdB σ 4 y23 [.O] λg i=>rdB σ 7 y23 [.S] λh b=>j5t d b (λf=>k .ret (mkS 88 88 [(4,pB 4),(5,vI 0)] [(4,⟨y23,g,f,[.PS]⟩)]))
def j7j:Z1c Unit:=λσ k=>jbb (σ.wk [] [(7,[.S])]) k
theorem jn8:CN 0 1003 Tryz.f224 j7j:=λi=>ZaI [] [(7,[.S])] (jsK follows j2e jct i [] oN ([],[]) [] ([4,5],[4]) (y:=jbb) λσ k _ h=>rN h λr h=>rT h λn h=>rT h λp h=>rT h λq h=>rB h λa d b h=>rB h λz B f h=>rB h λA w g h=>⟨_,ZaL (m:=88) r (sC n (sC p (sC q sN))) (bC b (bC f (bC g bN))),.trans (by delta j5t j9y jfB;refine gz j1l λ_ j=>gz jbw λ_ l=> ?_;rewrite[<-j,<-l];kernel_rfl) h⟩)
def j8y (d:Int)(b:List qT)(f:Unit->Res):Res:=bif Z8d 0 d b.length then bif Z8d (Z9J (d+1)) (nI b.length) b.length then bif lim (0+(List.length (sub b 0 d))) then bif lim ((List.length (sub b 0 d))+(List.length (sub b (Z9J (d+1)) (nI b.length)))) then f () else none else none else none else none
def jbc:Z1c Unit:=λσ k=>rdN σ 88<|rdT σ 4 (pB 4)<|rdI σ 6 λd=>rdT σ 7 (pB 7)<|rdB σ 4 y23 [.O] λa g=>rdB σ 7 y23 [.S] λf b=>j8y d b (λ_=>k .ret (mkS 88 88 [(4,pB 4),(5,vI 0)] [(4,⟨y23,a,((sub b 0 d)++(sub b (Z9J (d+1)) (nI b.length))),[.PS]⟩)]))
def jbe:Z1c Unit:=λσ k=>jbc (σ.wk [] [(7,[.S])]) k
theorem jn9:CN 0 4090 Tryz.f224 jbe:=λf=>ZaI [] [(7,[.S])] (jsK follows j2e jct f [j7j] oN ([],[]) [] ([4,5],[4]) (y:=jbc) λσ k _ h=>rN h λn h=>rT h λi h=>rV h λg j h=>rT h λl h=>rB h λa r b h=>rB h λq p d h=>⟨_,ZaL (m:=88) n (sC i (sC j (sC l sN))) (bC b (bC d bN)),.trans (by kernel_rfl) h⟩)
def j2M (c:List qT)(d:qG)(f:qF->Int->Res):Res:=j4F c λr=>bif !r then f [] 1 else j3f d λi=>bif !i then f [] 1 else j1M c d.2.1 λb=>j5y c λg=>bif (d.1==1) then bif decide (b>=0) then f [] 2 else bif ((nI c.length)==6) then f [] 3 else j5t d g λt=>f t 0 else bif decide (b<0) then f [] 4 else bif inb b c.length then j66 (nth (eS,[],[]) c b) d λh=>bif (h != 0) then f [] h else bif (d.1==2) then j8y b g λ_=>f ((sub g 0 b)++(sub g (Z9J (b+1)) (nI g.length))) 0 else bif inb b c.length then j4U (nth (eS,[],[]) c b) d λj=>bif inb b g.length then f (upd g b j) 0 else none else none else none
def j6z:Sig Unit:=sg [.borrow y23 true,.borrow y13 true] [true,false] [(y23,none),(y13,none)] [] λb g k=>j2M b.1 b.2.1 (λd f=>k [⟨y23,true,d,[.S]⟩,wI f] [] [])
theorem jhR:SO 224 j6z:=fK (np:=0) jct [j7j,jbe] (oI 1003 0 @jn8 (oI 4090 1 @jn9 oN)) true Tryz.func224 λ_ _ _ _=>by delta j2M j7N j5s j3t j7S j7j jdd jbe jbU;delta jbb jbc;refine gz j4F λ_ b=>gz j3f λ_ d=>gz j1M λ_ f=>gz j5y λ_ g=>gz j5t λ_ h=>gz j66 λ_ i=>gz j8y λ_ j=>gz j4U λ_ k=> ?_;rewrite[<-b,<-d,<-f,<-g,<-h,<-i,<-j,<-k];kernel_rfl
def j0t (l:qL)(b:qL->Res):Res:=bif lim (0+l.length) then b l else none
def jbR:Sig Unit:=sg [.borrow y8 false] [false] [(y8,none)] [] λd f k=>j0t d.1 (λb=>k [w1 y8 b .O] [] [])
theorem j8g:SO 179 jbR:=fK (np:=0) Zar [] oN false Tryz.func179 λ_ _ _ _=>by kernel_rfl
def j4L (t:qB×qE×qL)(b:qT->Res):Res:=bif lim (0+t.2.1.length) then j0t t.2.2 λr=>b (t.1,t.2.1,r) else none
def joH:Sig Unit:=sg [.borrow y22 true] [true] [(y22,none)] [] λd f k=>j4L d.1 (λb=>k [⟨y22,true,b,[.O,.O]⟩] [] [])
theorem jbF:SO 229 joH:=fK (np:=0) (Za5 j8g Zar) [] oN false Tryz.func229 λ_ _ _ _=>by kernel_rfl
def j3Q (d:qG)(b:qT->Res):Res:=j4L (d.2.1,d.2.2.1,d.2.2.2.1) λr=>b r
def j9r:Sig Unit:=sg [.borrow y13 true] [true] [(y13,none)] [] λd f k=>j3Q d.1 (λb=>k [⟨y22,true,b,[.O,.O]⟩] [] [])
theorem jhM:SO 215 j9r:=fK (np:=0) (Za5 jbF Zar) [] oN false Tryz.func215 λ_ _ _ _=>by kernel_rfl
def j6e (c:qB×Int×Bool×Bool×Int×Int×qB)(b:Bool->Res):Res:=j0r c.1 λr=>bif !r then b false else j0d c.2.1 1 3 λd=>bif !d then b false else j1p c.2.2.2.2 λf=>bif !f then b false else bif !c.2.2.2.1 then b ((c.2.2.2.2.1==0)&&((c.2.2.2.2.2.1==0)&&(sEq c.2.2.2.2.2.2 eS))) else bif (c.2.2.2.2.1==c.2.1) then b true else bif (c.2.2.2.2.1==0) then b (!c.2.2.1) else b false
def jd1:Sig Unit:=sg [.look y6 true] [false] [(y6,none)] [] λd f k=>j6e d.1 (λb=>k [wB b] [] [])
theorem jlC:SO 204 jd1:=fK (np:=0) (Za5 j3P (Za5 j2G (Za5 j9K Zar))) [] oN false Tryz.func204 λ_ _ _ _=>by delta j6e j3S j1k ja1;refine gz j0r λ_ b=>gz j0d λ_ d=>gz j1p λ_ f=> ?_;rewrite[<-b,<-d,<-f];kernel_rfl
def jiO (c:qB×Int×Bool×Bool×Int×Int×qB)(d:qB)(b:Bool->Res):Res:=b (sEq c.1 d)
def jsr:Sig Unit:=sg [.look y6 true,.rptr .str] [false] [(y6,none),(.str,none)] [] λb f k=>jiO b.1 b.2.1 (λd=>k [wB d] [] [])
theorem jkQ:SO 242 jsr:=fK (np:=0) Zar [] oN false Tryz.func242 λ_ _ _ _=>by kernel_rfl
def j15 (s:List qC)(f:qB)(h:Int)(b:Int)(rec:Int->Res)(d:Unit->Res)(g:Int->Res):Res:=bif decide (b<h) then bif inb b s.length then jiO (nth (eS,0,false,false,0,0,eS) s b) f λr=>bif r then g b else rec (Z9J (b+1)) else none else d ()
def j4C (s:List qC)(f:qB)(b:Int):Int->(Int->Res)->((Unit->Res)×(Int->Res))->Res:=λv rec q=>j15 s f b v (λd=>rec (d)) q.1 q.2
def jaP (s:List qC)(f:qB)(g:Int)(n:Nat)(h:Int)(b:Unit->Res)(d:Int->Res):Res:=Z1e (j4C s f g) n (h) (b,d)
def jah:Z1c Unit:=NdL 19 19 [.R 0 y7 .S,.c 1 242 [.str] .str [],.I 7,.I 8] [] (λb d=>(b.2.2.2.1)) (λb v=>(b.1,b.2.1,b.2.2.1,v,())) (λd v=>()) (λb d=>j4C b.1 b.2.1 b.2.2.1) λb d f=>((λ_=>f (.exit 0) [] []),(λg=>f .ret [(4,vI g)] []))
theorem jhd:CN 0 26 Tryz.f241 jah:=lK (Za5 jkQ Zar) [] oN ([],[]) [(0,[],[])] ([4],[]) λ_ _ _ _ _=>by kernel_rfl
def j8u (s:List qC)(f:qB)(b:Int->Res):Res:=jaP s f (nI s.length) Z1b 0 (λ_=>b (-1)) (λt=>b t)
def jiQ:Sig Unit:=sg [.look y7 false,.rclos 242 [.str]] [false] [(y7,none),(.str,none)] [] λb f k=>j8u b.1 b.2.1 (λd=>k [wI d] [] [])
theorem jiH:SO 241 jiQ:=fK (np:=0) (Za5 jkQ Zar) [jah] (oI 26 0 @jhd oN) false Tryz.func241 λ_ _ _ _=>by kernel_rfl
def j0n (t:qB×qE×qL)(name:qB)(b:Int->Res):Res:=j8u t.2.1 name λr=>b r
def j0T:Sig Unit:=sg [.look y22 true,.look .str false] [false] [(y22,none),(.str,none)] [] λb f k=>j0n b.1 b.2.1 (λd=>k [wI d] [] [])
theorem j4X:SO 205 j0T:=fK (np:=0) (Za5 jiH Zar) [] oN false Tryz.func205 λ_ _ _ _=>by kernel_rfl
theorem je1:FS [(66,j3S),(68,j1k),(204,jd1),(205,j0T)]:=(Za5 j3P (Za5 j2G (Za5 jlC (Za5 j4X Zar))))
def j2x (d:List qC)(f:Int)(t:qB×qE×qL)(b:Int)(rec:Int->Res)(h:Unit->Res)(g:Unit->Res):Res:=bif decide (b<f) then bif inb b d.length then j6e (nth (eS,0,false,false,0,0,eS) d b) λr=>bif !r then g () else j0n t (nth (eS,0,false,false,0,0,eS) d b).1 λi=>bif (i != b) then g () else rec (Z9J (b+1)) else none else h ()
def j45 (b:List qC)(d:Int)(t:qB×qE×qL):Int->(Int->Res)->((Unit->Res)×(Unit->Res))->Res:=λv rec q=>j2x b d t v (λf=>rec (f)) q.1 q.2
def j9n (b:List qC)(d:Int)(t:qB×qE×qL)(n:Nat)(f:Int)(g:Unit->Res)(h:Unit->Res):Res:=Z1e (j45 b d t) n (f) (g,h)
def j8D:Z1c Unit:=NdL 68 68 [.t 1 (pB 1),.R 10 y7 .S,.I 11,.I 12] [(1,y22,[.S,.S])] (λb d=>(b.2.2.1)) (λb v=>(b.1,b.2.1,v,())) (λd v=>((d.1.1,d.1.2),())) (λb d=>j45 b.1 b.2.1 d.1.2) λb d f=>((λ_=>f (.exit 0) [(1,pB 1)] [(1,⟨y22,d.1.1,d.1.2,[.S,.S]⟩)]),(λ_=>f .ret [(2,vB false)] []))
theorem jo6:CN 0 26 Tryz.f157 j8D:=lK je1 [] oN ([],[]) [(0,[1],[1])] ([2],[]) λ_ _ _ _ _=>by delta j45 j2x jd1 j0T;refine gz j6e λ_ b=>gz j0n λ_ d=> ?_;rewrite[<-b,<-d];kernel_rfl
def j46 (f:qL)(g:Int)(t:qB×qE×qL)(d:Int)(b:Int)(rec:Int->Int->Res)(i:Unit->Res)(h:Unit->Res):Res:=bif decide (b<g) then bif inb b f.length then j0n t (nth eS f b) λr=>bif decide (r<=d) then h () else bif inb r t.2.1.length then bif !(nth (eS,0,false,false,0,0,eS) t.2.1 r).2.2.1 then h () else rec r (Z9J (b+1)) else none else none else i ()
def j71 (d:qL)(f:Int)(t:qB×qE×qL):(Int×Int)->(Int×Int->Res)->((Unit->Res)×(Unit->Res))->Res:=λv rec q=>j46 d f t v.1 v.2 (λb g=>rec (b,g)) q.1 q.2
def j9o (d:qL)(f:Int)(t:qB×qE×qL)(n:Nat)(b:Int)(g:Int)(h:Unit->Res)(i:Unit->Res):Res:=Z1e (j71 d f t) n (b,g) (h,i)
def jca:Z1c Unit:=NdL 68 68 [.t 1 (pB 1),.I 5,.R 30 y8 .S,.I 31,.I 32] [(1,y22,[.S,.S])] (λb d=>(b.1,b.2.2.2.1)) (λb v=>(v.1,b.2.1,b.2.2.1,v.2,())) (λd v=>((d.1.1,d.1.2),())) (λb d=>j71 b.2.1 b.2.2.1 d.1.2) λb d f=>((λ_=>f (.exit 2) [(1,pB 1)] [(1,⟨y22,d.1.1,d.1.2,[.S,.S]⟩)]),(λ_=>f .ret [(2,vB false)] []))
theorem jo7:CN 0 122 Tryz.f157 jca:=lK je1 [j8D] oN ([],[]) [(2,[1],[1])] ([2],[]) λ_ _ _ _ _=>by kernel_rfl
def j0R (t:qB×qE×qL)(b:Bool->Res):Res:=j9n t.2.1 (nI t.2.1.length) t Z1b 0 (λ_=>j9o t.2.2 (nI t.2.2.length) t Z1b (-1) 0 (λ_=>j0r t.1 λr=>bif r then j0d (nI t.2.1.length) 1 8 λd=>bif d then b (decide ((nI t.2.2.length)>0)) else b false else b false) (λ_=>b false)) (λ_=>b false)
def j4R:Sig Unit:=sg [.look y22 true] [false] [(y22,none)] [] λd f k=>j0R d.1 (λb=>k [wB b] [] [])
theorem j7l:SO 157 j4R:=fK (np:=0) je1 [j8D,jca] (oI 26 0 @jo6 (oI 122 1 @jo7 oN)) false Tryz.func157 λ_ _ _ _=>by delta j0R j8D jca j3S j1k j9n j9o;refine gz j45 λ_ b=>gz j71 λ_ d=>gz j0r λ_ f=>gz j0d λ_ g=> ?_;rewrite[<-b,<-d,<-f,<-g];kernel_rfl
def j0m (a:qG)(b:qG)(d:Bool->Res):Res:=bif (a.1==b.1) then bif sEq a.2.1 b.2.1 then j1Q a.2.2.1 b.2.2.1 λr=>bif r then j2V a.2.2.2.1 b.2.2.2.1 λf=>bif f then bif sEq a.2.2.2.2.1 b.2.2.2.2.1 then d (sEq a.2.2.2.2.2 b.2.2.2.2.2) else d false else d false else d false else d false else d false
def j9u:Sig Unit:=sg [.look y13 true,.look y13 true] [false] [(y13,none),(y13,none)] [] λb f k=>j0m b.1 b.2.1 (λd=>k [wB d] [] [])
theorem jcu:SO 175 j9u:=fK (np:=0) (Za5 jlM (Za5 jjh Zar)) [] oN false Tryz.func175 λ_ _ _ _=>by delta j0m jfa jco;refine gz j1Q λ_ b=>gz j2V λ_ d=> ?_;rewrite[<-b,<-d];kernel_rfl
def j38 (d:qG)(b:Bool->Res):Res:=j0r d.2.1 λr=>bif !r then b false else bif (d.1==1) then j3Q d λg=>j0R g λh=>bif h then bif sEq d.2.2.2.2.1 eS then b (sEq d.2.2.2.2.2 eS) else b false else b false else bif (d.1==2) then j0m d (d.1,d.2.1,[],[],eS,eS) λi=>b i else bif (d.1==3) then j0m d (d.1,d.2.1,d.2.2.1,[],eS,eS) λj=>bif j then bif ((nI d.2.2.1.length)==1) then bif inb 0 d.2.2.1.length then j6e (nth (eS,0,false,false,0,0,eS) d.2.2.1 0) λk=>bif k then bif inb 0 d.2.2.1.length then bif (nth (eS,0,false,false,0,0,eS) d.2.2.1 0).2.2.2.1 then b true else bif inb 0 d.2.2.1.length then b (!(nth (eS,0,false,false,0,0,eS) d.2.2.1 0).2.2.1) else none else none else b false else none else b false else b false else bif (d.1==4) then j0m d (d.1,d.2.1,[],[],d.2.2.2.2.1,eS) λl=>bif l then j0r d.2.2.2.2.1 λm=>b m else b false else bif (d.1==5) then j0m d (d.1,d.2.1,[],[],d.2.2.2.2.1,d.2.2.2.2.2) λn=>bif n then j0r d.2.2.2.2.1 λp=>bif p then j0r d.2.2.2.2.2 λf=>b f else b false else b false else b false
def j5q:Sig Unit:=sg [.look y13 true] [false] [(y13,none)] [] λd f k=>j38 d.1 (λb=>k [wB b] [] [])
theorem jgv:SO 174 j5q:=fK (np:=0) (Za5 j3P (Za5 j7l (Za5 jcu (Za5 jlC (Za5 jhM Zar))))) [] oN false Tryz.func174 λ_ _ _ _=>by delta j38 j3S j9r j4R j9u jd1;refine gz j0r λ_ b=>gz j3Q λ_ d=>gz j0R λ_ f=>gz j0m λ_ g=>gz j6e λ_ h=> ?_;rewrite[<-b,<-d,<-f,<-g,<-h];kernel_rfl
def jcF (d:qG)(b:qG->Res):Res:=bif lim (0+d.2.2.1.length) then j0t d.2.2.2.1 λr=>b (d.1,d.2.1,d.2.2.1,r,d.2.2.2.2) else none
def jjJ:Sig Unit:=sg [.borrow y13 true] [true] [(y13,none)] [] λd f k=>jcF d.1 (λb=>k [⟨y13,true,b,[.O,.O]⟩] [] [])
theorem jqg:SO 203 jjJ:=fK (np:=0) (Za5 j8g Zar) [] oN false Tryz.func203 λ_ _ _ _=>by kernel_rfl
def j6d (d:List qT)(h:Int)(c:List qT)(b:Int)(rec:Int->Res)(g:Unit->Res)(f:Unit->Res):Res:=bif decide (b<h) then bif inb b d.length then j0R (nth (eS,[],[]) d b) λr=>bif !r then f () else bif decide (b>0) then bif inb (Z9J (b-1)) c.length then bif sGe (nth (eS,[],[]) c (Z9J (b-1))).1 (nth (eS,[],[]) d b).1 then f () else rec (Z9J (b+1)) else none else rec (Z9J (b+1)) else none else g ()
def jcB (b:List qT)(d:Int)(c:List qT):Int->(Int->Res)->((Unit->Res)×(Unit->Res))->Res:=λv rec q=>j6d b d c v (λf=>rec (f)) q.1 q.2
def jfo (f:List qT)(g:Int)(c:List qT)(n:Nat)(h:Int)(b:Unit->Res)(d:Unit->Res):Res:=Z1e (jcB f g c) n (h) (b,d)
def jjY:Z1c Unit:=NdL 37 37 [.t 1 (pB 1),.R 6 y23 .S,.I 7,.I 8] [(1,y23,[.S])] (λb d=>(b.2.2.1)) (λb v=>(b.1,b.2.1,v,())) (λd v=>((d.1.1,d.1.2),())) (λb d=>jcB b.1 b.2.1 d.1.2) λb d f=>((λ_=>f (.exit 0) [(1,pB 1)] [(1,⟨y23,d.1.1,d.1.2,[.S]⟩)]),(λ_=>f .ret [(2,vB false)] []))
theorem jqJ:CN 0 26 Tryz.f109 jjY:=lK (Za5 j7l Zar) [] oN ([],[]) [(0,[1],[1])] ([2],[]) λ_ _ _ _ _=>by kernel_rfl
def j8i (c:List qT)(b:Bool->Res):Res:=jfo c (nI c.length) c Z1b 0 (λ_=>b (decide ((nI c.length)<=6))) (λ_=>b false)
def ja0:Sig Unit:=sg [.look y23 true] [false] [(y23,none)] [] λd f k=>j8i d.1 (λb=>k [wB b] [] [])
theorem jlB:SO 109 ja0:=fK (np:=0) (Za5 j7l Zar) [jjY] (oI 26 0 @jqJ oN) false Tryz.func109 λ_ _ _ _=>by kernel_rfl
def j47 (f:List qT)(h:Int)(b:Int)(d:List qT)(rec:Int->qF->Res)(g:qF->Res):Res:=bif decide (b<h) then bif inb b f.length then j4L (nth (eS,[],[]) f b) λr=>bif lim (d.length+1) then rec (Z9J (b+1)) (d++[r]) else none else none else g d
def jaX (f:List qT)(g:Int):(Int×qF)->(Int×qF->Res)->((qF->Res))->Res:=λv rec q=>j47 f g v.1 v.2 (λd b=>rec (d,b)) q
def ji3 (g:List qT)(h:Int)(n:Nat)(d:Int)(b:List qT)(f:qF->Res):Res:=Z1e (jaX g h) n (d,b) (f)
def jhy:Z1c Unit:=NdL 23 23 [.t 2 (pB 2),.t 3 (pB 3),.R 8 y23 .S,.I 9,.I 10] [(2,y23,[.O]),(3,y23,[.O])] (λd b=>(d.2.2.1,b.2.1.2)) (λd v=>(d.1,d.2.1,v.1,())) (λb v=>((b.1.1,b.1.2),(b.2.1.1,v.2),())) (λd b=>jaX d.1 d.2.1) λd b g=>((λf=>g (.exit 0) [(2,pB 2),(3,pB 3)] [(2,⟨y23,b.1.1,b.1.2,[.O]⟩),(3,⟨y23,b.2.1.1,f,[.O]⟩)]))
theorem jo9:CN 0 58 Tryz.f195 jhy:=lK (Za5 jbF Zar) [] oN ([],[]) [(0,[2,3],[2,3])] ([],[]) λ_ _ _ _ _=>by kernel_rfl
def j54 (c:List qT)(d:qF->Res):Res:=ji3 c (nI c.length) Z1b 0 [] λb=>d b
def j7F:Sig Unit:=sg [.borrow y23 true] [true] [(y23,none)] [] λd f k=>j54 d.1 (λb=>k [⟨y23,true,b,[.O]⟩] [] [])
theorem jjc:SO 195 j7F:=fK (np:=0) (Za5 jbF Zar) [jhy] (oI 58 0 @jo9 oN) false Tryz.func195 λ_ _ _ _=>by kernel_rfl
def jgW (t:qB×qE×qL)(d:qB)(b:Bool->Res):Res:=b (sEq t.1 d)
def jr2:Sig Unit:=sg [.look y22 true,.rptr .str] [false] [(y22,none),(.str,none)] [] λb f k=>jgW b.1 b.2.1 (λd=>k [wB d] [] [])
theorem jj7:SO 231 jr2:=fK (np:=0) Zar [] oN false Tryz.func231 λ_ _ _ _=>by kernel_rfl
def j0M (s:List qT)(f:qB)(h:Int)(b:Int)(rec:Int->Res)(d:Unit->Res)(g:Int->Res):Res:=bif decide (b<h) then bif inb b s.length then jgW (nth (eS,[],[]) s b) f λr=>bif r then g b else rec (Z9J (b+1)) else none else d ()
def j3u (s:List qT)(f:qB)(b:Int):Int->(Int->Res)->((Unit->Res)×(Int->Res))->Res:=λv rec q=>j0M s f b v (λd=>rec (d)) q.1 q.2
def j9z (s:List qT)(f:qB)(g:Int)(n:Nat)(h:Int)(b:Unit->Res)(d:Int->Res):Res:=Z1e (j3u s f g) n (h) (b,d)
def j8Z:Z1c Unit:=NdL 19 19 [.R 0 y23 .S,.c 1 231 [.str] .str [],.I 7,.I 8] [] (λb d=>(b.2.2.2.1)) (λb v=>(b.1,b.2.1,b.2.2.1,v,())) (λd v=>()) (λb d=>j3u b.1 b.2.1 b.2.2.1) λb d f=>((λ_=>f (.exit 0) [] []),(λg=>f .ret [(4,vI g)] []))
theorem jfs:CN 0 26 Tryz.f230 j8Z:=lK (Za5 jj7 Zar) [] oN ([],[]) [(0,[],[])] ([4],[]) λ_ _ _ _ _=>by kernel_rfl
def j6V (s:List qT)(f:qB)(b:Int->Res):Res:=j9z s f (nI s.length) Z1b 0 (λ_=>b (-1)) (λt=>b t)
def jhn:Sig Unit:=sg [.look y23 false,.rclos 231 [.str]] [false] [(y23,none),(.str,none)] [] λb f k=>j6V b.1 b.2.1 (λd=>k [wI d] [] [])
theorem jgH:SO 230 jhn:=fK (np:=0) (Za5 jj7 Zar) [j8Z] (oI 26 0 @jfs oN) false Tryz.func230 λ_ _ _ _=>by kernel_rfl
def j0o (c:List qT)(name:qB)(b:Int->Res):Res:=j6V c name λr=>b r
def j0S:Sig Unit:=sg [.look y23 true,.look .str false] [false] [(y23,none),(.str,none)] [] λb f k=>j0o b.1 b.2.1 (λd=>k [wI d] [] [])
theorem j8L:SO 197 j0S:=fK (np:=0) (Za5 jgH Zar) [] oN false Tryz.func197 λ_ _ _ _=>by kernel_rfl
theorem jao:FS [(83,j5r),(197,j0S),(205,j0T)]:=(Za5 j9N (Za5 j8L (Za5 j4X Zar)))
def j6l (d:qG)(t:qB×qE×qL)(b:Bool->Res):Res:=bif (d.1==3) then bif inb 0 d.2.2.1.length then j0n t (nth (eS,0,false,false,0,0,eS) d.2.2.1 0).1 λr=>bif decide (r>=0) then b true else bif (d.1==5) then j0n t d.2.2.2.2.2 λf=>b (decide (f>=0)) else b false else none else bif (d.1==5) then j0n t d.2.2.2.2.2 λg=>b (decide (g>=0)) else b false
def j5J:Z1c Unit:=Nd 92 92 [.t 3 (pB 3),.t 6 (pB 6)] [(3,y13,[.S,.S]),(6,y22,[.S,.S])] λg b f=>j6l b.1.2 b.2.1.2 (λd=>f .normal [(3,pB 3),(6,pB 6),(29,vB d)] [(3,⟨y13,b.1.1,b.1.2,[.S,.S]⟩),(6,⟨y22,b.2.1.1,b.2.1.2,[.S,.S]⟩)])
theorem joa:CN 0 504 Tryz.f252 j5J:=nK jao [] oN ([3,6,29],[3,6]) [] ([],[]) λ_ _ _=>by delta j6l j0T;refine gz j0n λ_ b=> ?_;rewrite[<-b];kernel_rfl
def j9p (d:qG)(t:qB×qE×qL)(b:Bool->Res):Res:=bif (d.1==3) then b ((nI t.2.1.length)==8) else b false
def j8E:Z1c Unit:=Nd 92 92 [.t 3 (pB 3),.t 6 (pB 6)] [(3,y13,[.S,.S]),(6,y22,[.S,.S])] λg b f=>j9p b.1.2 b.2.1.2 (λd=>f .normal [(3,pB 3),(6,pB 6),(55,vB d)] [(3,⟨y13,b.1.1,b.1.2,[.S,.S]⟩),(6,⟨y22,b.2.1.1,b.2.1.2,[.S,.S]⟩)])
theorem job:CN 0 2022 Tryz.f252 j8E:=nK jao [j5J] oN ([3,6,55],[3,6]) [] ([],[]) λ_ _ _=>by kernel_rfl
def j6m (d:qG)(t:qB×qE×qL)(b:Bool->Res):Res:=bif (d.1==4) then j0n t d.2.2.2.2.1 λr=>b (decide (r<0)) else bif (d.1==5) then j0n t d.2.2.2.2.1 λf=>b (decide (f<0)) else b false
def jcc:Z1c Unit:=Nd 92 92 [.t 3 (pB 3),.t 6 (pB 6)] [(3,y13,[.S,.S]),(6,y22,[.S,.S])] λg b f=>j6m b.1.2 b.2.1.2 (λd=>f .normal [(3,pB 3),(6,pB 6),(65,vB d)] [(3,⟨y13,b.1.1,b.1.2,[.S,.S]⟩),(6,⟨y22,b.2.1.1,b.2.1.2,[.S,.S]⟩)])
theorem joc:CN 0 8094 Tryz.f252 jcc:=nK jao [j5J,j8E] oN ([3,6,65],[3,6]) [] ([],[]) λ_ _ _=>by delta j6m j0T;refine gz j0n λ_ b=> ?_;rewrite[<-b];kernel_rfl
def j3l (c:List qT)(d:qG)(b:Int->Res):Res:=j0o c d.2.1 λr=>bif (d.1==1) then bif decide (r>=0) then b 2 else bif ((nI c.length)==6) then b 3 else b 0 else bif decide (r<0) then b 4 else bif inb r c.length then j6l d (nth (eS,[],[]) c r) λt=>bif t then b 5 else j9p d (nth (eS,[],[]) c r) λg=>bif g then b 6 else j6m d (nth (eS,[],[]) c r) λh=>bif h then b 7 else bif (d.1==4) then j0X (nth (eS,[],[]) c r).2.2 d.2.2.2.2.1 λf=>bif f then b 8 else b 0 else b 0 else none
def j7G:Sig Unit:=sg [.look y23 true,.look y13 true] [false] [(y23,none),(y13,none)] [] λb f k=>j3l b.1 b.2.1 (λd=>k [wI d] [] [])
theorem jjd:SO 252 j7G:=fK (np:=0) jao [j5J,j8E,jcc] (oI 504 0 @joa (oI 2022 1 @job (oI 8094 2 @joc oN))) false Tryz.func252 λ_ _ _ _=>by delta j3l j0S j5J j8E jcc j5r;refine gz j0o λ_ b=>gz j6l λ_ d=>gz j9p λ_ f=>gz j6m λ_ g=>gz j0X λ_ h=> ?_;rewrite[<-b,<-d,<-f,<-g,<-h];kernel_rfl
def jeb (x:qB×Int×Bool×Bool×Int×Int×qB)(d:qG)(b:Bool->Res):Res:=b (sEq x.1 d.2.2.2.2.1)
def joE:Sig Unit:=sg [.look y6 true,.rptr y13] [false] [(y6,none),(y13,none)] [] λb f k=>jeb b.1 b.2.1 (λd=>k [wB d] [] [])
theorem jnH:SO 256 joE:=fK (np:=0) Zar [] oN false Tryz.func256 λ_ _ _ _=>by kernel_rfl
def j3I (s:List qC)(b:qG)(d:qE->qG->Res):Res:=bif lim s.length then dgE (λe k=>jeb e b k) s [] (λr=>d r b) else none
def j5W:Sig Unit:=⟨[.eat y7 false,.clos 256 [y13]],[false],λvals ext k=>ao vals y7 [.O] λs vals=>nl vals<|ab ext y13 [.S,.S] λa0 f ext=>nl ext<|j3I s f (λd b=>k [w1 y7 d .O] [] [⟨y13,a0,b,[.S,.S]⟩])⟩
theorem jhH:Z16 Tryz.prog 255 j5W:=gS (jw3 (U:=0) (T:=246) (e:=y6) (ag:=true) (τ:=y13) (tg:=[.S,.S]) (fl:=[9,3,4,4,155]) (S:=107) (E:=157) (I:=3) (B:=4) follows j2e (by kernel_rfl) Tryz.underlying107 (by kernel_rfl) (by kernel_rfl) (by kernel_rfl) (by kernel_rfl) Tryz.isAgg246 Tryz.sizeOf246 (by kernel_rfl) (by kernel_rfl) (by kernel_rfl) Tryz.func241 (by kernel_rfl) (by kernel_rfl) (by kernel_rfl) (by kernel_rfl) jnH (by kernel_rfl) Tryz.func255 (by kernel_rfl) (by kernel_rfl) (by kernel_rfl) (by kernel_rfl)) (by kernel_rfl)
theorem jcs:FS [(109,ja0),(132,j7L),(174,j5q),(195,j7F),(197,j0S),(205,j0T),(215,j9r),(252,j7G),(253,j7M),(254,j7K),(255,j5W)]:=(Za5 jlB (Za5 jcm (Za5 jgv (Za5 jjc (Za5 j8L (Za5 j4X (Za5 jhM (Za5 jjd (Za5 jji (Za5 jjg (Za5 jhH Zar)))))))))))
def j3h (d:qG)(f:List qT)(b:Int)(rec:Int->Res)(g:Int->Res):Res:=bif decide (b<(nI f.length)) then bif inb b f.length then bif sLt (nth (eS,[],[]) f b).1 d.2.1 then rec (Z9J (b+1)) else g b else none else g b
def j6f (d:qG)(f:List qT):Int->(Int->Res)->((Int->Res))->Res:=λv rec q=>j3h d f v (λb=>rec (b)) q
def jbL (d:qG)(f:List qT)(n:Nat)(b:Int)(g:Int->Res):Res:=Z1e (j6f d f) n (b) (g)
def j7g:Z1c Unit:=NdL 146 146 [.t 3 (pB 3),.t 4 (pB 4),.t 7 (pB 7),.I 9] [(3,y13,[.S,.S]),(4,y23,[.O]),(7,y23,[.O])] (λf b=>(f.1)) (λf v=>(v,())) (λb v=>((b.1.1,b.1.2),(b.2.1.1,b.2.1.2),(b.2.2.1.1,b.2.2.1.2),())) (λf b=>j6f b.1.2 b.2.2.1.2) λf b g=>((λd=>g (.exit 1) [(3,pB 3),(4,pB 4),(7,pB 7),(9,vI d)] [(3,⟨y13,b.1.1,b.1.2,[.S,.S]⟩),(4,⟨y23,b.2.1.1,b.2.1.2,[.O]⟩),(7,⟨y23,b.2.2.1.1,b.2.2.1.2,[.O]⟩)]))
theorem jmO:CN 0 16212 Tryz.f232 j7g:=lK jcs [] oN ([],[]) [(1,[3,4,7,9],[3,4,7])] ([],[]) λ_ _ _ _ _=>by kernel_rfl
def j1O (f:Int)(h:Int)(d:qG)(b:List qT)(i:qF->Res):Res:=bif (h==1) then jbL d b Z1b 0 λj=>j3Q d λr=>j5S b j [r] λl=>i l else bif (h==2) then j5R b f (Z9J (f+1)) λm=>i m else bif (h==3) then bif inb f b.length then bif inb 0 d.2.2.1.length then bif lim ((List.length (nth (eS,[],[]) b f).2.1)+1) then bif inb f (List.length (upd b f ((nth (eS,[],[]) b f).1,((nth (eS,[],[]) b f).2.1++[nth (eS,0,false,false,0,0,eS) d.2.2.1 0]),(nth (eS,[],[]) b f).2.2))) then bif (Z9n (Int.toNat f) (Int.toNat f)&&true) then i (upd b f ((nth (eS,[],[]) b f).1,((nth (eS,[],[]) b f).2.1++[nth (eS,0,false,false,0,0,eS) d.2.2.1 0]),(nth (eS,[],[]) b f).2.2)) else none else none else none else none else none else bif (h==4) then bif inb f b.length then j3I (nth (eS,[],[]) b f).2.1 d λn p=>bif (Z9n (Int.toNat f) (Int.toNat f)&&true) then i (upd b f ((nth (eS,[],[]) b f).1,n,(nth (eS,[],[]) b f).2.2)) else none else none else bif (h==5) then bif inb f b.length then j0n (nth (eS,[],[]) b f) d.2.2.2.2.1 λg=>bif inb g (List.length (nth (eS,[],[]) b f).2.1) then j11 (nth (eS,[],[]) (upd b f ((nth (eS,[],[]) b f).1,upd (nth (eS,[],[]) b f).2.1 g (d.2.2.2.2.2,(nth (eS,0,false,false,0,0,eS) (nth (eS,[],[]) b f).2.1 g).2),(nth (eS,[],[]) b f).2.2)) f).2.2 d.2.2.2.2.1 λk=>bif decide (k>=0) then bif inb k (List.length (nth (eS,[],[]) (upd b f ((nth (eS,[],[]) b f).1,upd (nth (eS,[],[]) b f).2.1 g (d.2.2.2.2.2,(nth (eS,0,false,false,0,0,eS) (nth (eS,[],[]) b f).2.1 g).2),(nth (eS,[],[]) b f).2.2)) f).2.2) then i (upd (upd b f ((nth (eS,[],[]) b f).1,upd (nth (eS,[],[]) b f).2.1 g (d.2.2.2.2.2,(nth (eS,0,false,false,0,0,eS) (nth (eS,[],[]) b f).2.1 g).2),(nth (eS,[],[]) b f).2.2)) f ((nth (eS,[],[]) (upd b f ((nth (eS,[],[]) b f).1,upd (nth (eS,[],[]) b f).2.1 g (d.2.2.2.2.2,(nth (eS,0,false,false,0,0,eS) (nth (eS,[],[]) b f).2.1 g).2),(nth (eS,[],[]) b f).2.2)) f).1,(nth (eS,[],[]) (upd b f ((nth (eS,[],[]) b f).1,upd (nth (eS,[],[]) b f).2.1 g (d.2.2.2.2.2,(nth (eS,0,false,false,0,0,eS) (nth (eS,[],[]) b f).2.1 g).2),(nth (eS,[],[]) b f).2.2)) f).2.1,upd (nth (eS,[],[]) (upd b f ((nth (eS,[],[]) b f).1,upd (nth (eS,[],[]) b f).2.1 g (d.2.2.2.2.2,(nth (eS,0,false,false,0,0,eS) (nth (eS,[],[]) b f).2.1 g).2),(nth (eS,[],[]) b f).2.2)) f).2.2 k d.2.2.2.2.2)) else none else i (upd b f ((nth (eS,[],[]) b f).1,upd (nth (eS,[],[]) b f).2.1 g (d.2.2.2.2.2,(nth (eS,0,false,false,0,0,eS) (nth (eS,[],[]) b f).2.1 g).2),(nth (eS,[],[]) b f).2.2)) else none else none else i b
def jbd:Z1c Unit:=Nd 146 146 [.t 3 (pB 3),.t 4 (pB 4),.t 7 (pB 7),.I 8,.I 36] [(3,y13,[.S,.S]),(4,y23,[.O]),(7,y23,[.O])] λf d g=>j1O f.1 f.2.1 d.1.2 d.2.2.1.2 (λb=>g .normal [(4,pB 4),(7,pB 7)] [(4,⟨y23,d.2.1.1,d.2.1.2,[.O]⟩),(7,⟨y23,d.2.2.1.1,b,[.O]⟩)])
theorem jmP:CN 0 253 Tryz.f232 jbd:=nK jcs [j7g] (oI 84 0 @jmO oN) ([4,7],[4,7]) [] ([],[]) λ_ _ _=>by delta j1O j7g j9r j7M j7K j5W j0T j7L jbL;refine gz j6f λ_ b=>gz j3Q λ_ d=>gz j5S λ_ f=>gz j5R λ_ g=>gz j3I λ_ h=>gz j0n λ_ i=>gz j11 λ_ j=> ?_;rewrite[<-b,<-d,<-f,<-g,<-h,<-i,<-j];kernel_rfl
def j61 (c:List qT)(d:qG)(b:qF->Int->Res):Res:=j8i c λr=>bif !r then b [] 1 else j38 d λh=>bif !h then b [] 1 else j3l c d λg=>bif (g != 0) then b [] g else j54 c λi=>j0o c d.2.1 λj=>j1O j d.1 d i λf=>b f 0
def jd2:Sig Unit:=sg [.borrow y23 true,.borrow y13 true] [true,false] [(y23,none),(y13,none)] [] λb g k=>j61 b.1 b.2.1 (λd f=>k [⟨y23,true,d,[.O]⟩,wI f] [] [])
theorem joN:SO 232 jd2:=fK (np:=0) jcs [j7g,jbd] (oI 253 1 @jmP oN) false Tryz.func232 λ_ _ _ _=>by delta j61 ja0 j5q j7G j7F j0S jbd;refine gz j8i λ_ b=>gz j38 λ_ d=>gz j3l λ_ f=>gz j54 λ_ g=>gz j0o λ_ h=>gz j1O λ_ i=> ?_;rewrite[<-b,<-d,<-f,<-g,<-h,<-i];kernel_rfl
def jac (c:List qT)(name:qB)(b:qT->Bool->Res):Res:=j1M c name λr=>j4F c λd=>bif !d then b (eS,[],[]) false else bif decide (r<0) then b (eS,[],[]) false else bif inb r c.length then j1l (nth (eS,[],[]) c r) λf=>b f true else none
def jeA:Sig Unit:=sg [.borrow y23 true,.borrow .str false] [true,false] [(y23,none),(.str,none)] [] λb g k=>jac b.1 b.2.1 (λd f=>k [⟨y22,true,d,[.O,.O]⟩,wB f] [] [])
theorem jqq:SO 211 jeA:=fK (np:=0) (Za5 jgI (Za5 jcv (Za5 j9j Zar))) [] oN false Tryz.func211 λ_ _ _ _=>by delta jac j3t j7N j9y;refine gz j1M λ_ b=>gz j4F λ_ d=>gz j1l λ_ f=> ?_;rewrite[<-b,<-d,<-f];kernel_rfl
end
end Go.PI.G
