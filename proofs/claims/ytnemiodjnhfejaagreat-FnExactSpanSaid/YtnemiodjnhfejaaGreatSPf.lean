/-
  Program's code interpreted over typed values; printed texts; plain laws. No conditions.
-/
import Derived.Test.YtnemiodjnhfejaaGreatSPd
import Derived.Test.YtnemiodjnhfejaaGreatSPe
set_option linter.unusedVariables false
set_option maxRecDepth 100000
namespace Go.PI.G
noncomputable section
open Go Go.PI Go.Proofs
open Go.Code (pl pr)
def j4j (c:qB×Int×Bool×Bool×Int×Int×qB) (b:Bool->Res):Res:=j0y c.1 λr=>bif !r then b false else bif decide (c.2.1<1) then b false else bif decide (c.2.1>3) then b false else bif !c.2.2.2.1 then b ((c.2.2.2.2.1==0)&&((c.2.2.2.2.2.1==0)&&(sEq c.2.2.2.2.2.2 eS))) else j18 c.2.2.2.2 λd=>bif d then bif ((c.2.2.2.2.1==0)&&((c.2.2.2.2.2.1==0)&&(sEq c.2.2.2.2.2.2 eS))) then bif ((c.2.2.2.2.1==0)&&((c.2.2.2.2.2.1==0)&&(sEq c.2.2.2.2.2.2 eS))) then b (!c.2.2.1) else b true else bif (c.2.2.2.2.1==c.2.1) then bif ((c.2.2.2.2.1==0)&&((c.2.2.2.2.2.1==0)&&(sEq c.2.2.2.2.2.2 eS))) then b (!c.2.2.1) else b true else b false else b false
def j6X:Sig Unit:=sg [.look y7 true] [false] [(y7,none)] [] λd f k=>j4j d.1 (λb=>k [wB b] [] [])
theorem jfL:SO 267 j6X:=fK (np:=0) (Z9H j88 (Z9H j6L Za2)) [] oN false Tryz.func267 λ_ _ _ _=>by delta j4j j2r j9k;refine gz j0y λ_ b=>gz j18 λ_ d=> ?_;rewrite [<-b,<-d];kernel_rfl
def j4i (name:qB) (d:List qC) (h:Int) (b:Int) (rec:Int->Res) (f:Unit->Res) (g:Int->Res):Res:=bif decide (b<h) then bif inb b (List.length d) then bif sEq (nth (eS,0,false,false,0,0,eS) d b).1 name then g b else rec (Z9x (b+1)) else none else f ()
def j9q (name:qB) (d:List qC) (f:Int):Int->(Int->Res)->((Unit->Res)×(Int->Res))->Res:=λv rec q=>j4i name d f v (λb=>rec (b)) q.1 q.2
def jfj (name:qB) (g:List qC) (h:Int) (n:Nat) (b:Int) (d:Unit->Res) (f:Int->Res):Res:=Z1N (j9q name g h) n (b) (d,f)
def jem:Z1q Unit:=NdL 21 21 [.S 1,.R 8 y8 .S,.I 9,.I 10] [] (λb d=>(b.2.2.2.1)) (λb v=>(b.1,b.2.1,b.2.2.1,v,())) (λd v=>()) (λb d=>j9q b.1 b.2.1 b.2.2.1) λb d f=>((λ_=>f (.exit 0) [] []),(λg=>f .ret [(4,vI g)] []))
theorem jjk:CN 0 26 Tryz.f230 jem:=lK Za2 [] oN ([],[]) [(0,[],[])] ([4],[]) λ_ _ _ _ _=>by kernel_rfl
def j0B (t:qB×qE×qL) (name:qB) (b:Int->Res):Res:=jfj name t.2.1 (nI (List.length t.2.1)) Z1Y 0 (λ_=>b (-1)) (λd=>b d)
def j26:Sig Unit:=sg [.look y24 true,.look .str false] [false] [(y24,none),(.str,none)] [] λb f k=>j0B b.1 b.2.1 (λd=>k [wI d] [] [])
theorem j4V:SO 230 j26:=fK (np:=0) Za2 [jem] (oI 26 0 @jjk oN) false Tryz.func230 λ_ _ _ _=>by kernel_rfl
theorem j7d:FS [(154,j2r),(230,j26),(267,j6X)]:=(Z9H j88 (Z9H j4V (Z9H jfL Za2)))
def j4p (t:qB×qE×qL) (b:Bool->Res):Res:=j0y t.1 λr=>bif !r then b true else bif decide ((nI (List.length t.2.1))<1) then b true else bif decide ((nI (List.length t.2.1))>8) then b true else b (decide ((nI (List.length t.2.2))<1))
def j3K:Z1q Unit:=Nd 75 75 [.t 1 (pB 1)] [(1,y24,[.S,.S])] λg d f=>j4p d.1.2 (λb=>f .normal [(1,pB 1),(30,vB b)] [(1,⟨y24,d.1.1,d.1.2,[.S,.S]⟩)])
theorem jhC:CN 0 12 Tryz.f227 j3K:=nK j7d [] oN ([1,30],[1]) [] ([],[]) λ_ _ _=>by kernel_rfl
def j1z (d:List qC) (f:Int) (t:qB×qE×qL) (b:Int) (rec:Int->Res) (h:Unit->Res) (g:Unit->Res):Res:=bif decide (b<f) then bif inb b (List.length d) then j4j (nth (eS,0,false,false,0,0,eS) d b) λr=>bif !r then g () else j0B t (nth (eS,0,false,false,0,0,eS) d b).1 λi=>bif (i != b) then g () else rec (Z9x (b+1)) else none else h ()
def j2G (b:List qC) (d:Int) (t:qB×qE×qL):Int->(Int->Res)->((Unit->Res)×(Unit->Res))->Res:=λv rec q=>j1z b d t v (λf=>rec (f)) q.1 q.2
def j6F (b:List qC) (d:Int) (t:qB×qE×qL) (n:Nat) (f:Int) (g:Unit->Res) (h:Unit->Res):Res:=Z1N (j2G b d t) n (f) (g,h)
def j5Z:Z1q Unit:=NdL 75 75 [.t 1 (pB 1),.R 32 y8 .S,.I 33,.I 34] [(1,y24,[.S,.S])] (λb d=>(b.2.2.1)) (λb v=>(b.1,b.2.1,v,())) (λd v=>((d.1.1,d.1.2),())) (λb d=>j2G b.1 b.2.1 d.1.2) λb d f=>((λ_=>f (.exit 0) [(1,pB 1)] [(1,⟨y24,d.1.1,d.1.2,[.S,.S]⟩)]),(λ_=>f .ret [(2,vB false)] []))
theorem jhA:CN 0 58 Tryz.f227 j5Z:=lK j7d [j3K] oN ([],[]) [(0,[1],[1])] ([2],[]) λ_ _ _ _ _=>by delta j2G j1z j6X j26;refine gz j4j λ_ b=>gz j0B λ_ d=> ?_;rewrite [<-b,<-d];kernel_rfl
def j2H (f:qL) (g:Int) (t:qB×qE×qL) (d:Int) (b:Int) (rec:Int->Int->Res) (i:Unit->Res) (h:Unit->Res):Res:=bif decide (b<g) then bif inb b (List.length f) then j0B t (nth eS f b) λr=>bif decide (r<=d) then h () else bif inb r (List.length t.2.1) then bif !(nth (eS,0,false,false,0,0,eS) t.2.1 r).2.2.1 then h () else rec r (Z9x (b+1)) else none else none else i ()
def j4G (d:qL) (f:Int) (t:qB×qE×qL):(Int×Int)->(Int×Int->Res)->((Unit->Res)×(Unit->Res))->Res:=λv rec q=>j2H d f t v.1 v.2 (λb g=>rec (b,g)) q.1 q.2
def j6G (d:qL) (f:Int) (t:qB×qE×qL) (n:Nat) (b:Int) (g:Int) (h:Unit->Res) (i:Unit->Res):Res:=Z1N (j4G d f t) n (b,g) (h,i)
def j8K:Z1q Unit:=NdL 75 75 [.t 1 (pB 1),.I 5,.R 52 y0 .S,.I 53,.I 54] [(1,y24,[.S,.S])] (λb d=>(b.1,b.2.2.2.1)) (λb v=>(v.1,b.2.1,b.2.2.1,v.2,())) (λd v=>((d.1.1,d.1.2),())) (λb d=>j4G b.2.1 b.2.2.1 d.1.2) λb d f=>((λ_=>f (.exit 2) [] []),(λ_=>f .ret [(2,vB false)] []))
theorem jhB:CN 0 250 Tryz.f227 j8K:=lK j7d [j3K,j5Z] oN ([],[]) [(2,[],[])] ([2],[]) λ_ _ _ _ _=>by kernel_rfl
def j0o (t:qB×qE×qL) (b:Bool->Res):Res:=j4p t λd=>bif d then b false else j6F t.2.1 (nI (List.length t.2.1)) t Z1Y 0 (λ_=>j6G t.2.2 (nI (List.length t.2.2)) t Z1Y (-1) 0 (λ_=>b true) (λ_=>b false)) (λ_=>b false)
def j0W:Sig Unit:=sg [.look y24 true] [false] [(y24,none)] [] λd f k=>j0o d.1 (λb=>k [wB b] [] [])
theorem j2X:SO 227 j0W:=fK (np:=0) j7d [j3K,j5Z,j8K] (oI 12 0 @jhC (oI 58 1 @jhA (oI 250 2 @jhB oN))) false Tryz.func227 λ_ _ _ _=>by delta j0o j3K j5Z j8K j6F j6G;refine gz j4p λ_ b=>gz j2G λ_ d=>gz j4G λ_ f=> ?_;rewrite [<-b,<-d,<-f];kernel_rfl
theorem jft:FS [(154,j2r),(227,j0W),(267,j6X)]:=(Z9H j88 (Z9H j2X (Z9H jfL Za2)))
def j68 (d:qG) (b:Bool->Res):Res:=bif ((nI (List.length d.2.2.1))==0) then b ((nI (List.length d.2.2.2.1))==0) else b false
def jat:Z1q Unit:=Nd 123 123 [.t 1 (pB 1)] [(1,y13,[.S,.S])] λf b d=>j68 b.1.2 (λplain=>d .normal [(1,pB 1),(3,vB plain)] [(1,⟨y13,b.1.1,b.1.2,[.S,.S]⟩)])
theorem jjl:CN 0 14 Tryz.f210 jat:=nK jft [] oN ([1,3],[1]) [] ([],[]) λ_ _ _=>by kernel_rfl
def j1X (d:qG) (b:Bool->Res):Res:=j0y d.2.1 λr=>bif !r then b false else j68 d λplain=>bif (d.1==1) then bif sEq d.2.2.2.2.1 eS then bif sEq d.2.2.2.2.2 eS then j0o (d.2.1,d.2.2.1,d.2.2.2.1) λf=>b f else b false else b false else bif (d.1==2) then bif plain then bif sEq d.2.2.2.2.1 eS then b (sEq d.2.2.2.2.2 eS) else b false else b false else bif (d.1==3) then bif ((nI (List.length d.2.2.1))==1) then bif inb 0 (List.length d.2.2.1) then j4j (nth (eS,0,false,false,0,0,eS) d.2.2.1 0) λg=>bif g then bif inb 0 (List.length d.2.2.1) then bif (nth (eS,0,false,false,0,0,eS) d.2.2.1 0).2.2.2.1 then bif ((nI (List.length d.2.2.2.1))==0) then bif sEq d.2.2.2.2.1 eS then b (sEq d.2.2.2.2.2 eS) else b false else b false else bif inb 0 (List.length d.2.2.1) then bif !(nth (eS,0,false,false,0,0,eS) d.2.2.1 0).2.2.1 then bif ((nI (List.length d.2.2.2.1))==0) then bif sEq d.2.2.2.2.1 eS then b (sEq d.2.2.2.2.2 eS) else b false else b false else b false else none else none else b false else none else b false else bif (d.1==4) then bif plain then j0y d.2.2.2.2.1 λh=>bif h then b (sEq d.2.2.2.2.2 eS) else b false else b false else bif (d.1==5) then bif plain then j0y d.2.2.2.2.1 λi=>bif i then j0y d.2.2.2.2.2 λj=>b j else b false else b false else b false
def j3s:Sig Unit:=sg [.look y13 true] [false] [(y13,none)] [] λd f k=>j1X d.1 (λb=>k [wB b] [] [])
theorem jbN:SO 210 j3s:=fK (np:=0) jft [jat] (oI 14 0 @jjl oN) false Tryz.func210 λ_ _ _ _=>by delta j1X j2r jat j0W j6X;refine gz j0y λ_ b=>gz j68 λ_ d=>gz j0o λ_ f=>gz j4j λ_ g=> ?_;rewrite [<-b,<-d,<-f,<-g];kernel_rfl
def j4h (d:List qT) (f:Int) (c:List qT) (b:Int) (rec:Int->Res) (h:Unit->Res) (g:Unit->Res):Res:=bif decide (b<f) then bif inb b (List.length d) then j0o (nth (eS,[],[]) d b) λr=>bif !r then g () else bif decide (b>0) then bif inb (Z9x (b-1)) (List.length c) then bif sGe (nth (eS,[],[]) c (Z9x (b-1))).1 (nth (eS,[],[]) d b).1 then g () else rec (Z9x (b+1)) else none else rec (Z9x (b+1)) else none else h ()
def j9p (b:List qT) (d:Int) (c:List qT):Int->(Int->Res)->((Unit->Res)×(Unit->Res))->Res:=λv rec q=>j4h b d c v (λf=>rec (f)) q.1 q.2
def jb5 (b:List qT) (d:Int) (c:List qT) (n:Nat) (f:Int) (g:Unit->Res) (h:Unit->Res):Res:=Z1N (j9p b d c) n (f) (g,h)
def jel:Z1q Unit:=NdL 37 37 [.t 1 (pB 1),.R 10 y25 .S,.I 11,.I 12] [(1,y25,[.S])] (λb d=>(b.2.2.1)) (λb v=>(b.1,b.2.1,v,())) (λd v=>((d.1.1,d.1.2),())) (λb d=>j9p b.1 b.2.1 d.1.2) λb d f=>((λ_=>f (.exit 0) [] []),(λ_=>f .ret [(2,vB false)] []))
theorem jjj:CN 0 58 Tryz.f242 jel:=lK (Z9H j2X Za2) [] oN ([],[]) [(0,[],[])] ([2],[]) λ_ _ _ _ _=>by kernel_rfl
def j5Q (c:List qT) (b:Bool->Res):Res:=bif decide ((nI (List.length c))>6) then b false else jb5 c (nI (List.length c)) c Z1Y 0 (λ_=>b true) (λ_=>b false)
def j6W:Sig Unit:=sg [.look y25 true] [false] [(y25,none)] [] λd f k=>j5Q d.1 (λb=>k [wB b] [] [])
theorem jfK:SO 242 j6W:=fK (np:=0) (Z9H j2X Za2) [jel] (oI 58 0 @jjj oN) false Tryz.func242 λ_ _ _ _=>by kernel_rfl
def j3X (t:qB×qE×qL) (b:qT->Res):Res:=Z80 (Z80 (bif lim (0+(List.length t.2.1)) then bif lim (0+(List.length t.2.2)) then b (t.1,t.2.1,t.2.2) else none else none) (bif lim (0+(List.length t.2.1)) then bif lim (0+(List.length t.2.2)) then b (t.1,t.2.1,t.2.2) else none else none)) (bif lim (0+(List.length t.2.1)) then bif lim (0+(List.length t.2.2)) then b (t.1,t.2.1,t.2.2) else none else none)
def j9m:Sig Unit:=sg [.borrow y24 true] [true] [(y24,none)] [] λd f k=>j3X d.1 (λb=>k [⟨y24,true,b,[.O,.O]⟩] [] [])
theorem j8Y:SO 286 j9m:=fK (np:=0) Za2 [] oN false Tryz.func286 λ_ _ _ _=>by kernel_rfl
def j2I (f:List qT) (h:Int) (b:Int) (d:List qT) (rec:Int->qF->Res) (g:qF->Res):Res:=bif decide (b<h) then bif inb b (List.length f) then j3X (nth (eS,[],[]) f b) λr=>bif lim ((List.length d)+1) then rec (Z9x (b+1)) (d++[r]) else none else none else g d
def j7K (f:List qT) (g:Int):(Int×qF)->(Int×qF->Res)->((qF->Res))->Res:=λv rec q=>j2I f g v.1 v.2 (λd b=>rec (d,b)) q
def jcV (g:List qT) (h:Int) (n:Nat) (d:Int) (b:List qT) (f:qF->Res):Res:=Z1N (j7K g h) n (d,b) (f)
def jcq:Z1q Unit:=NdL 23 23 [.t 2 (pB 2),.t 3 (pB 3),.R 8 y25 .S,.I 9,.I 10] [(2,y25,[.O]),(3,y25,[.O])] (λd b=>(d.2.2.1,b.2.1.2)) (λd v=>(d.1,d.2.1,v.1,())) (λb v=>((b.1.1,b.1.2),(b.2.1.1,v.2),())) (λd b=>j7K d.1 d.2.1) λd b g=>((λf=>g (.exit 0) [(2,pB 2),(3,pB 3)] [(2,⟨y25,b.1.1,b.1.2,[.O]⟩),(3,⟨y25,b.2.1.1,f,[.O]⟩)]))
theorem jhD:CN 0 58 Tryz.f243 jcq:=lK (Z9H j8Y Za2) [] oN ([],[]) [(0,[2,3],[2,3])] ([],[]) λ_ _ _ _ _=>by kernel_rfl
def j3y (c:List qT) (d:qF->Res):Res:=jcV c (nI (List.length c)) Z1Y 0 [] λb=>d b
def j5l:Sig Unit:=sg [.borrow y25 true] [true] [(y25,none)] [] λd f k=>j3y d.1 (λb=>k [⟨y25,true,b,[.O]⟩] [] [])
theorem jdQ:SO 243 j5l:=fK (np:=0) (Z9H j8Y Za2) [jcq] (oI 58 0 @jhD oN) false Tryz.func243 λ_ _ _ _=>by kernel_rfl
def j4q (name:qB) (d:List qT) (h:Int) (b:Int) (rec:Int->Res) (f:Unit->Res) (g:Int->Res):Res:=bif decide (b<h) then bif inb b (List.length d) then bif sEq (nth (eS,[],[]) d b).1 name then g b else rec (Z9x (b+1)) else none else f ()
def j9v (name:qB) (d:List qT) (f:Int):Int->(Int->Res)->((Unit->Res)×(Int->Res))->Res:=λv rec q=>j4q name d f v (λb=>rec (b)) q.1 q.2
def jfk (name:qB) (g:List qT) (h:Int) (n:Nat) (b:Int) (d:Unit->Res) (f:Int->Res):Res:=Z1N (j9v name g h) n (b) (d,f)
def jen:Z1q Unit:=NdL 21 21 [.S 1,.R 8 y25 .S,.I 9,.I 10] [] (λb d=>(b.2.2.2.1)) (λb v=>(b.1,b.2.1,b.2.2.1,v,())) (λd v=>()) (λb d=>j9v b.1 b.2.1 b.2.2.1) λb d f=>((λ_=>f (.exit 0) [] []),(λg=>f .ret [(4,vI g)] []))
theorem jjq:CN 0 26 Tryz.f113 jen:=lK Za2 [] oN ([],[]) [(0,[],[])] ([4],[]) λ_ _ _ _ _=>by kernel_rfl
def j1Z (c:List qT) (name:qB) (b:Int->Res):Res:=jfk name c (nI (List.length c)) Z1Y 0 (λ_=>b (-1)) (λt=>b t)
def j3t:Sig Unit:=sg [.look y25 true,.look .str false] [false] [(y25,none),(.str,none)] [] λb f k=>j1Z b.1 b.2.1 (λd=>k [wI d] [] [])
theorem jbQ:SO 113 j3t:=fK (np:=0) Za2 [jen] (oI 26 0 @jjq oN) false Tryz.func113 λ_ _ _ _=>by kernel_rfl
def jap (done:Bool) (t:qB×qE×qL) (b:List qT) (x:qB×qE×qL) (d:Bool->qF->Res):Res:=bif !done then bif sLt t.1 x.1 then bif lim ((List.length b)+1) then d true (b++[t]) else none else d done b else d done b
def j9M:Z1q Unit:=Nd 48 48 [.t 3 (pB 3),.t 4 (pB 4),.t 5 (pB 5),.B 6,.t 8 (pB 8),.R 11 y25 .S,.I 12,.I 13] [(3,y24,[.S,.S]),(4,y25,[.O]),(5,y25,[.PS]),(8,y24,[.S,.S])] λg b h=>jap g.1 b.1.2 b.2.2.1.2 b.2.2.2.1.2 (λd f=>h .normal [(3,pB 3),(4,pB 4),(5,pB 5),(6,vB d),(8,pB 8),(11,v1 y25 g.2.1 .S),(12,vI g.2.2.1),(13,vI g.2.2.2.1)] [(3,⟨y24,b.1.1,b.1.2,[.S,.S]⟩),(4,⟨y25,b.2.1.1,b.2.1.2,[.O]⟩),(5,⟨y25,b.2.2.1.1,f,[.PS]⟩),(8,⟨y24,b.2.2.2.1.1,b.2.2.2.1.2,[.S,.S]⟩)])
theorem jix:CN 0 15666 Tryz.f309 j9M:=nK Za2 [] oN ([3,4,5,6,8,11,12,13],[3,4,5,8]) [] ([],[]) λ_ _ _=>by kernel_rfl
def j3A (g:List qT) (i:Int) (t:qB×qE×qL) (done:Bool) (b:Int) (h:List qT) (rec:Bool->Int->qF->Res) (j:Bool->qF->Res):Res:=bif decide (b<i) then bif inb b (List.length g) then jap done t h (nth (eS,[],[]) g b) λf d=>bif lim ((List.length d)+1) then rec f (Z9x (b+1)) (d++[nth (eS,[],[]) g b]) else none else none else j done h
def j8x (d:List qT) (f:Int) (t:qB×qE×qL):(Bool×Int×qF)->(Bool×Int×qF->Res)->((Bool->qF->Res))->Res:=λv rec q=>j3A d f t v.1 v.2.1 v.2.2 (λdone g b=>rec (done,g,b)) q
def jao (d:List qT) (f:Int) (t:qB×qE×qL) (n:Nat) (done:Bool) (g:Int) (b:List qT) (h:Bool->qF->Res):Res:=Z1N (j8x d f t) n (done,g,b) (h)
def jcZ:Z1q Unit:=λσ k=>rdN σ 48<|rdT σ 3 (pB 3)<|rdT σ 4 (pB 4)<|rdT σ 5 (pB 5)<|rdO σ 6 λdone=>rd1 σ 11 y25 .S λg=>rdI σ 12 λh=>rdI σ 13 λi=>rdB σ 3 y24 [.S,.S] λa t=>rdB σ 4 y25 [.O] λj m=>rdB σ 5 y25 [.PS] λl f=>jao g h t Z1Y done i f (λb d=>k (.exit 0) (mkS 48 48 [(3,pB 3),(4,pB 4),(5,pB 5),(6,vB b)] [(3,⟨y24,a,t,[.S,.S]⟩),(4,⟨y25,j,m,[.O]⟩),(5,⟨y25,l,d,[.PS]⟩)]))
def jdb:Z1q Unit:=λσ k=>jcZ (σ.wk [] [(5,[.PS])]) k
theorem jiw:CN 0 122 Tryz.f309 jdb:=λr=>Zag [] [(5,[.PS])] (jl2 follows j2m Za2 r [j9M] (oI 114 0 @jix oN) [3,4,5,6,11,12,13] [3,4,5] ([],[]) [(0,[3,4,5,6],[3,4,5])] ([],[]) (y:=jcZ) λσ k _ h=>rN h λH h=>rT h λD h=>rT h λE h=>rT h λF h=>rV h λdone G h=>rV h λf i h=>rV h λg j h=>rV h λz l h=>rB h λa t n h=>rB h λA C p h=>rB h λB w q h=>⟨_,Zaj (m:=48) H (sC D (sC E (sC F (sC G (sC i (sC j (sC l sN))))))) (bC n (bC p (bC q bN))),.trans (Z9j (λv:Bool×Int×qF=>(mkS 48 48 [(3,pB 3),(4,pB 4),(5,pB 5),(6,vB v.1),(11,v1 y25 f .S),(12,vI g),(13,vI v.2.1)] [(3,⟨y24,a,t,[.S,.S]⟩),(4,⟨y25,A,C,[.O]⟩),(5,⟨y25,B,v.2.2,[.PS]⟩)])) (j8x f g t) (λ(k:Z7W Unit)=>(((λb d=>k (.exit 0) (mkS 48 48 [(3,pB 3),(4,pB 4),(5,pB 5),(6,vB b)] [(3,⟨y24,a,t,[.S,.S]⟩),(4,⟨y25,A,C,[.O]⟩),(5,⟨y25,B,d,[.PS]⟩)]))):(Bool->qF->Res))) (λv rec k=>by kernel_rfl) Z1Y (done,z,w) k) h⟩)
def j85 (c:List qT) (t:qB×qE×qL) (d:qF->Res):Res:=jao c (nI (List.length c)) t Z1Y false 0 [] λdone b=>bif !done then bif lim ((List.length b)+1) then d (b++[t]) else none else d b
def jb2:Sig Unit:=sg [.borrow y25 true,.borrow y24 true] [true] [(y25,none),(y24,none)] [] λb f k=>j85 b.1 b.2.1 (λd=>k [⟨y25,true,d,[.PS]⟩] [] [])
theorem jks:SO 309 jb2:=fK (np:=0) Za2 [j9M,jdb] (oI 122 1 @jiw oN) false Tryz.func309 λ_ _ _ _=>by kernel_rfl
def j3z (s:qB) (d:qL) (h:Int) (b:Int) (rec:Int->Res) (f:Unit->Res) (g:Unit->Res):Res:=bif decide (b<h) then bif inb b (List.length d) then bif sEq (nth eS d b) s then g () else rec (Z9x (b+1)) else none else f ()
def j8w (s:qB) (b:qL) (d:Int):Int->(Int->Res)->((Unit->Res)×(Unit->Res))->Res:=λv rec q=>j3z s b d v (λf=>rec (f)) q.1 q.2
def jeb (s:qB) (f:qL) (g:Int) (n:Nat) (h:Int) (b:Unit->Res) (d:Unit->Res):Res:=Z1N (j8w s f g) n (h) (b,d)
def jda:Z1q Unit:=NdL 17 17 [.S 1,.R 7 y0 .S,.I 8,.I 9] [] (λb d=>(b.2.2.2.1)) (λb v=>(b.1,b.2.1,b.2.2.1,v,())) (λd v=>()) (λb d=>j8w b.1 b.2.1 b.2.2.1) λb d f=>((λ_=>f (.exit 0) [] []),(λ_=>f .ret [(4,vB true)] []))
theorem jiv:CN 0 26 Tryz.f157 jda:=lK Za2 [] oN ([],[]) [(0,[],[])] ([4],[]) λ_ _ _ _ _=>by kernel_rfl
def j84 (l:qL) (s:qB) (b:Bool->Res):Res:=jeb s l (nI (List.length l)) Z1Y 0 (λ_=>b false) (λ_=>b true)
def jfi:Sig Unit:=sg [.look y0 false,.look .str false] [false] [(y0,none),(.str,none)] [] λb f k=>j84 b.1 b.2.1 (λd=>k [wB d] [] [])
theorem jkr:SO 157 jfi:=fK (np:=0) Za2 [jda] (oI 26 0 @jiv oN) false Tryz.func157 λ_ _ _ _=>by kernel_rfl
def j3W (t:qB×qE×qL) (d:qG) (b:Int->Res):Res:=j0B t d.2.2.2.2.1 λr=>bif (d.1==3) then bif inb 0 (List.length d.2.2.1) then j0B t (nth (eS,0,false,false,0,0,eS) d.2.2.1 0).1 λf=>bif decide (f>=0) then b 5 else bif ((nI (List.length t.2.1))==8) then b 6 else b 0 else none else bif (d.1==4) then bif decide (r<0) then b 7 else j84 t.2.2 d.2.2.2.2.1 λg=>bif g then b 8 else b 0 else bif (d.1==5) then j0B t d.2.2.2.2.2 λh=>bif decide (h>=0) then b 5 else bif decide (r<0) then b 7 else b 0 else b 0
def j9l:Sig Unit:=sg [.look y24 true,.look y13 true] [false] [(y24,none),(y13,none)] [] λb f k=>j3W b.1 b.2.1 (λd=>k [wI d] [] [])
theorem jhU:SO 310 j9l:=fK (np:=0) (Z9H jkr (Z9H j4V Za2)) [] oN false Tryz.func310 λ_ _ _ _=>by delta j3W j26 jfi;refine gz j0B λ_ b=>gz j84 λ_ d=> ?_;rewrite [<-b,<-d];kernel_rfl
def j4J (t:qB×qE×qL) (b:Unit->Res):Res:=Z80 (Z80 (bif lim (0+(List.length t.2.2)) then Z80 (b ()) (b ()) else none) (bif lim (0+(List.length t.2.2)) then b () else none)) (bif lim (0+(List.length t.2.2)) then b () else none)
def j0N:Z1q Unit:=Nd 92 92 [.t 2 (pB 2),.t 3 (pB 3),.t 4 (pB 4)] [(2,y24,[.S,.S]),(3,y13,[.S,.S]),(4,y24,[.O,.O])] λf b d=>j4J b.1.2 (λ_=>d .normal [(2,pB 2),(3,pB 3),(4,pB 4),(5,pB 5)] [(2,⟨y24,b.1.1,b.1.2,[.S,.S]⟩),(3,⟨y13,b.2.1.1,b.2.1.2,[.S,.S]⟩),(4,⟨y24,b.2.2.1.1,b.2.2.1.2,[.O,.O]⟩),(5,⟨y24,false,(b.1.2.1,[],b.1.2.2.2),[.O,.O]⟩)])
theorem jg2:CN 0 6 Tryz.f311 j0N:=nK Za2 [] oN ([2,3,4,5],[2,3,4,5]) [] ([],[]) λ_ _ _=>by kernel_rfl
def j4K (d:qG) (c:qB×Int×Bool×Bool×Int×Int×qB) (b:Unit->Res) (f:Unit->Res):Res:=bif (d.1==4) then bif sEq c.1 d.2.2.2.2.1 then f () else b () else b ()
def j1k:Z1q Unit:=Nd 92 92 [.t 3 (pB 3),.t 4 (pB 4),.t 5 (pB 5),.t 7 (pB 7),.R 17 y8 .S,.I 18,.I 19] [(3,y13,[.S,.S]),(4,y24,[.O,.O]),(5,y24,[.O,.O]),(7,y7,[])] λd b f=>j4K b.1.2 b.2.2.2.1.2 (λ_=>f .normal [(3,pB 3),(4,pB 4),(5,pB 5),(7,pB 7),(17,v1 y8 d.1 .S),(18,vI d.2.1),(19,vI d.2.2.1)] [(3,⟨y13,b.1.1,b.1.2,[.S,.S]⟩),(4,⟨y24,b.2.1.1,b.2.1.2,[.O,.O]⟩),(5,⟨y24,b.2.2.1.1,b.2.2.1.2,[.O,.O]⟩),(7,⟨y7,b.2.2.2.1.1,b.2.2.2.1.2,[]⟩)]) (λ_=>f (.exit 1) [(3,pB 3),(4,pB 4),(5,pB 5),(17,v1 y8 d.1 .S),(18,vI d.2.1),(19,vI d.2.2.1),(27,.ptr ⟨true,7,[.fst]⟩),(28,vS b.2.2.2.1.2.1),(29,.ptr ⟨true,3,[.snd,.snd,.snd,.snd,.fst]⟩),(30,vS b.1.2.2.2.2.2.1),(31,vB (sEq b.2.2.2.1.2.1 b.1.2.2.2.2.2.1))] [(3,⟨y13,b.1.1,b.1.2,[.S,.S]⟩),(4,⟨y24,b.2.1.1,b.2.1.2,[.O,.O]⟩),(5,⟨y24,b.2.2.1.1,b.2.2.1.2,[.O,.O]⟩),(7,⟨y7,b.2.2.2.1.1,b.2.2.2.1.2,[]⟩)])
theorem jg3:CN 0 7474 Tryz.f311 j1k:=nK Za2 [j0N] oN ([3,4,5,7,17,18,19],[3,4,5,7]) [(1,[3,4,5,17,18,19,27,28,29,30,31],[3,4,5,7])] ([],[]) λ_ _ _=>by kernel_rfl
def j4L (d:qG) (c:qB×Int×Bool×Bool×Int×Int×qB) (b:qC->Res):Res:=bif (d.1==5) then bif sEq c.1 d.2.2.2.2.1 then b (d.2.2.2.2.2,c.2) else b c else b c
def j2a:Z1q Unit:=Nd 92 92 [.t 3 (pB 3),.t 4 (pB 4),.t 5 (pB 5),.t 7 (pB 7),.R 17 y8 .S,.I 18,.I 19] [(3,y13,[.S,.S]),(4,y24,[.O,.O]),(5,y24,[.O,.O]),(7,y7,[])] λd b f=>j4L b.1.2 b.2.2.2.1.2 (λc1=>f .normal [(3,pB 3),(4,pB 4),(5,pB 5),(7,pB 7),(17,v1 y8 d.1 .S),(18,vI d.2.1),(19,vI d.2.2.1)] [(3,⟨y13,b.1.1,b.1.2,[.S,.S]⟩),(4,⟨y24,b.2.1.1,b.2.1.2,[.O,.O]⟩),(5,⟨y24,b.2.2.1.1,b.2.2.1.2,[.O,.O]⟩),(7,⟨y7,b.2.2.2.1.1,c1,[]⟩)])
theorem jg4:CN 0 14950 Tryz.f311 j2a:=nK Za2 [j0N,j1k] oN ([3,4,5,7,17,18,19],[3,4,5,7]) [] ([],[]) λ_ _ _=>by kernel_rfl
def j0Y (g:List qC) (h:Int) (d:qG) (f:Int) (b:qB×qE×qL) (rec:Int->qT->Res) (i:qT->Res):Res:=bif decide (f<h) then bif inb f (List.length g) then j4K d (nth (eS,0,false,false,0,0,eS) g f) (λ_=>j4L d (nth (eS,0,false,false,0,0,eS) g f) λc=>bif lim ((List.length b.2.1)+1) then rec (Z9x (f+1)) (b.1,(b.2.1++[c]),b.2.2) else none) (λ_=>rec (Z9x (f+1)) b) else none else i b
def j1L (f:List qC) (g:Int) (d:qG):(Int×qT)->(Int×qT->Res)->((qT->Res))->Res:=λv rec q=>j0Y f g d v.1 v.2 (λh b=>rec (h,b)) q
def j4H (f:List qC) (g:Int) (d:qG) (n:Nat) (h:Int) (b:qB×qE×qL) (i:qT->Res):Res:=Z1N (j1L f g d) n (h,b) (i)
def j4s:Z1q Unit:=NdL 92 92 [.t 3 (pB 3),.t 4 (pB 4),.t 5 (pB 5),.R 17 y8 .S,.I 18,.I 19] [(3,y13,[.S,.S]),(4,y24,[.O,.O]),(5,y24,[.O,.O])] (λd b=>(d.2.2.1,b.2.2.1.2)) (λd v=>(d.1,d.2.1,v.1,())) (λb v=>((b.1.1,b.1.2),(b.2.1.1,b.2.1.2),(b.2.2.1.1,v.2),())) (λd b=>j1L d.1 d.2.1 b.1.2) λd b g=>((λf=>g (.exit 0) [(3,pB 3),(4,pB 4),(5,pB 5)] [(3,⟨y13,b.1.1,b.1.2,[.S,.S]⟩),(4,⟨y24,b.2.1.1,b.2.1.2,[.O,.O]⟩),(5,⟨y24,b.2.2.1.1,f,[.O,.O]⟩)]))
theorem jg0:CN 0 58 Tryz.f311 j4s:=lK Za2 [j0N,j1k,j2a] (oI 114 1 @jg3 (oI 230 2 @jg4 oN)) ([],[]) [(0,[3,4,5],[3,4,5])] ([],[]) λ_ _ _ _ _=>by delta j1L j0Y j1k j2a;refine gz j4K λ_ b=>gz j4L λ_ d=> ?_;rewrite [<-b,<-d];kernel_rfl
def j0h (g:Int) (d:qG) (f:Int) (b:qB×qE×qL) (rec:Int->qT->Res) (h:qT->Res):Res:=bif decide (f<g) then bif (d.1==5) then bif inb f (List.length b.2.2) then bif sEq (nth eS b.2.2 f) d.2.2.2.2.1 then bif inb f (List.length b.2.2) then rec (Z9x (f+1)) (b.1,b.2.1,upd b.2.2 f d.2.2.2.2.2) else none else rec (Z9x (f+1)) b else none else rec (Z9x (f+1)) b else h b
def j3P (f:Int) (d:qG):(Int×qT)->(Int×qT->Res)->((qT->Res))->Res:=λv rec q=>j0h f d v.1 v.2 (λg b=>rec (g,b)) q
def j4I (f:Int) (d:qG) (n:Nat) (g:Int) (b:qB×qE×qL) (h:qT->Res):Res:=Z1N (j3P f d) n (g,b) (h)
def j79:Z1q Unit:=NdL 92 92 [.t 3 (pB 3),.t 4 (pB 4),.t 5 (pB 5),.I 55,.I 56] [(3,y13,[.S,.S]),(4,y24,[.O,.O]),(5,y24,[.O,.O])] (λd b=>(d.2.1,b.2.2.1.2)) (λd v=>(d.1,v.1,())) (λb v=>((b.1.1,b.1.2),(b.2.1.1,b.2.1.2),(b.2.2.1.1,v.2),())) (λd b=>j3P d.1 b.1.2) λd b g=>((λf=>g (.exit 2) [(3,pB 3),(4,pB 4),(5,pB 5)] [(3,⟨y13,b.1.1,b.1.2,[.S,.S]⟩),(4,⟨y24,b.2.1.1,b.2.1.2,[.O,.O]⟩),(5,⟨y24,b.2.2.1.1,f,[.O,.O]⟩)]))
theorem jg1:CN 0 122 Tryz.f311 j79:=lK Za2 [j0N,j1k,j2a,j4s] oN ([],[]) [(2,[3,4,5],[3,4,5])] ([],[]) λ_ _ _ _ _=>by kernel_rfl
def j34 (t:qB×qE×qL) (d:qG) (g:qT->Res):Res:=j4J t λ_=>j4H t.2.1 (nI (List.length t.2.1)) d Z1Y 0 (t.1,[],t.2.2) λf=>j4I (nI (List.length f.2.2)) d Z1Y 0 f λb=>bif (d.1==3) then bif inb 0 (List.length d.2.2.1) then bif lim ((List.length b.2.1)+1) then g (b.1,(b.2.1++[nth (eS,0,false,false,0,0,eS) d.2.2.1 0]),b.2.2) else none else none else g b
def j8r:Sig Unit:=sg [.borrow y24 true,.borrow y13 true] [true] [(y24,none),(y13,none)] [] λb f k=>j34 b.1 b.2.1 (λd=>k [⟨y24,true,d,[.O,.O]⟩] [] [])
theorem jh5:SO 311 j8r:=fK (np:=0) Za2 [j0N,j1k,j2a,j4s,j79] (oI 6 0 @jg2 (oI 58 3 @jg0 (oI 122 4 @jg1 oN))) false Tryz.func311 λ_ _ _ _=>by delta j34 j0N j4s j79 j4H j4I;refine gz j4J λ_ b=>gz j1L λ_ d=>gz j3P λ_ f=> ?_;rewrite [<-b,<-d,<-f];kernel_rfl
theorem j8W:FS [(113,j3t),(210,j3s),(242,j6W),(243,j5l),(286,j9m),(309,jb2),(310,j9l),(311,j8r)]:=(Z9H jbQ (Z9H jbN (Z9H jfK (Z9H jdQ (Z9H j8Y (Z9H jks (Z9H jhU (Z9H jh5 Za2))))))))
def j3u (d:qG) (b:List qT) (f:qF->Res):Res:=j3X (d.2.1,d.2.2.1,d.2.2.2.1) λr=>j85 b r λg=>f g
def j7N:Z1q Unit:=λσ k=>rdN σ 88<|rdT σ 3 (pB 3)<|rdT σ 4 (pB 4)<|rdT σ 7 (pB 7)<|rdB σ 3 y13 [.S,.S] λa d=>rdB σ 4 y25 [.O] λg i=>rdB σ 7 y25 [.S] λh b=>j3u d b (λf=>k .ret (mkS 88 88 [(4,pB 4),(5,vI 0)] [(4,⟨y25,g,f,[.PS]⟩)]))
def j4S:Z1q Unit:=λσ k=>j7N (σ.wk [] [(7,[.S])]) k
theorem jgA:CN 0 1003 Tryz.f287 j4S:=λi=>Zag [] [(7,[.S])] (jnm follows j2m j8W i [] oN ([],[]) [] ([4,5],[4]) (y:=j7N) λσ k _ h=>rN h λr h=>rT h λn h=>rT h λp h=>rT h λq h=>rB h λa d b h=>rB h λz B f h=>rB h λA w g h=>⟨_,Zaj (m:=88) r (sC n (sC p (sC q sN))) (bC b (bC f (bC g bN))),.trans (by delta j3u j9m jb2;refine gz j3X λ_ j=>gz j85 λ_ l=> ?_;rewrite [<-j,<-l];kernel_rfl) h⟩)
def j5R (d:Int) (b:List qT) (f:Unit->Res):Res:=bif Z87 0 d (List.length b) then bif Z87 (Z9x (d+1)) (nI (List.length b)) (List.length b) then bif lim (0+(List.length (sub b 0 d))) then bif lim ((List.length (sub b 0 d))+(List.length (sub b (Z9x (d+1)) (nI (List.length b))))) then f () else none else none else none else none
def j7O:Z1q Unit:=λσ k=>rdN σ 88<|rdT σ 4 (pB 4)<|rdI σ 6 λd=>rdT σ 7 (pB 7)<|rdB σ 4 y25 [.O] λa g=>rdB σ 7 y25 [.S] λf b=>j5R d b (λ_=>k .ret (mkS 88 88 [(4,pB 4),(5,vI 0)] [(4,⟨y25,a,((sub b 0 d)++(sub b (Z9x (d+1)) (nI (List.length b)))),[.PS]⟩)]))
def j7Q:Z1q Unit:=λσ k=>j7O (σ.wk [] [(7,[.S])]) k
theorem jgB:CN 0 4090 Tryz.f287 j7Q:=λf=>Zag [] [(7,[.S])] (jnm follows j2m j8W f [j4S] oN ([],[]) [] ([4,5],[4]) (y:=j7O) λσ k _ h=>rN h λn h=>rT h λi h=>rV h λg j h=>rT h λl h=>rB h λa r b h=>rB h λq p d h=>⟨_,Zaj (m:=88) n (sC i (sC j (sC l sN))) (bC b (bC d bN)),.trans (by kernel_rfl) h⟩)
def j1E (c:List qT) (d:qG) (f:qF->Int->Res):Res:=j5Q c λr=>bif !r then f [] 1 else j1X d λi=>bif !i then f [] 1 else j1Z c d.2.1 λb=>j3y c λg=>bif (d.1==1) then bif decide (b>=0) then f [] 2 else bif ((nI (List.length c))==6) then f [] 3 else j3u d g λt=>f t 0 else bif decide (b<0) then f [] 4 else bif inb b (List.length c) then j3W (nth (eS,[],[]) c b) d λh=>bif (h != 0) then f [] h else bif (d.1==2) then j5R b g λ_=>f ((sub g 0 b)++(sub g (Z9x (b+1)) (nI (List.length g)))) 0 else bif inb b (List.length c) then j34 (nth (eS,[],[]) c b) d λj=>bif inb b (List.length g) then f (upd g b j) 0 else none else none else none
def j4f:Sig Unit:=sg [.borrow y25 true,.borrow y13 true] [true,false] [(y25,none),(y13,none)] [] λb g k=>j1E b.1 b.2.1 (λd f=>k [⟨y25,true,d,[.S]⟩,wI f] [] [])
theorem jcB:SO 287 j4f:=fK (np:=0) j8W [j4S,j7Q] (oI 1003 0 @jgA (oI 4090 1 @jgB oN)) true Tryz.func287 λ_ _ _ _=>by delta j1E j6W j3s j3t j5l j4S j9l j7Q j8r;delta j7N j7O;refine gz j5Q λ_ b=>gz j1X λ_ d=>gz j1Z λ_ f=>gz j3y λ_ g=>gz j3u λ_ h=>gz j3W λ_ i=>gz j5R λ_ j=>gz j34 λ_ k=> ?_;rewrite [<-b,<-d,<-f,<-g,<-h,<-i,<-j,<-k];kernel_rfl
def j2Z (l:qL) (b:qL->Res):Res:=bif lim (0+(List.length l)) then b l else none
def jhP:Sig Unit:=sg [.borrow y0 false] [false] [(y0,none)] [] λd f k=>j2Z d.1 (λb=>k [w1 y0 b .O] [] [])
theorem jbF:SO 217 jhP:=fK (np:=0) Za2 [] oN false Tryz.func217 λ_ _ _ _=>by kernel_rfl
def j2Y (t:qB×qE×qL) (b:qT->Res):Res:=bif lim (0+(List.length t.2.1)) then j2Z t.2.2 λr=>b (t.1,t.2.1,r) else none
def jhO:Sig Unit:=sg [.borrow y24 true] [true] [(y24,none)] [] λd f k=>j2Y d.1 (λb=>k [⟨y24,true,b,[.O,.O]⟩] [] [])
theorem j8g:SO 283 jhO:=fK (np:=0) (Z9H jbF Za2) [] oN false Tryz.func283 λ_ _ _ _=>by kernel_rfl
def j2o (d:qG) (b:qT->Res):Res:=j2Y (d.2.1,d.2.2.1,d.2.2.2.1) λr=>b r
def j6w:Sig Unit:=sg [.borrow y13 true] [true] [(y13,none)] [] λd f k=>j2o d.1 (λb=>k [⟨y24,true,b,[.O,.O]⟩] [] [])
theorem jcy:SO 269 j6w:=fK (np:=0) (Z9H j8g Za2) [] oN false Tryz.func269 λ_ _ _ _=>by kernel_rfl
def j44 (c:qB×Int×Bool×Bool×Int×Int×qB) (b:Bool->Res):Res:=j0p c.1 λr=>bif !r then b false else j0a c.2.1 1 3 λd=>bif !d then b false else j0U c.2.2.2.2 λf=>bif !f then b false else bif !c.2.2.2.1 then b ((c.2.2.2.2.1==0)&&((c.2.2.2.2.2.1==0)&&(sEq c.2.2.2.2.2.2 eS))) else bif (c.2.2.2.2.1==c.2.1) then b true else bif (c.2.2.2.2.1==0) then b (!c.2.2.1) else b false
def j9g:Sig Unit:=sg [.look y7 true] [false] [(y7,none)] [] λd f k=>j44 d.1 (λb=>k [wB b] [] [])
theorem jfz:SO 270 j9g:=fK (np:=0) (Z9H j87 (Z9H j1C (Z9H j6J Za2))) [] oN false Tryz.func270 λ_ _ _ _=>by delta j44 j2p j0Q j6V;refine gz j0p λ_ b=>gz j0a λ_ d=>gz j0U λ_ f=> ?_;rewrite [<-b,<-d,<-f];kernel_rfl
def jdn (c:qB×Int×Bool×Bool×Int×Int×qB) (d:qB) (b:Bool->Res):Res:=b (sEq c.1 d)
def jkN:Sig Unit:=sg [.look y7 true,.rptr .str] [false] [(y7,none),(.str,none)] [] λb f k=>jdn b.1 b.2.1 (λd=>k [wB d] [] [])
theorem jeS:SO 308 jkN:=fK (np:=0) Za2 [] oN false Tryz.func308 λ_ _ _ _=>by kernel_rfl
def j0J (s:List qC) (f:qB) (h:Int) (b:Int) (rec:Int->Res) (d:Unit->Res) (g:Int->Res):Res:=bif decide (b<h) then bif inb b (List.length s) then jdn (nth (eS,0,false,false,0,0,eS) s b) f λr=>bif r then g b else rec (Z9x (b+1)) else none else d ()
def j2R (s:List qC) (f:qB) (b:Int):Int->(Int->Res)->((Unit->Res)×(Int->Res))->Res:=λv rec q=>j0J s f b v (λd=>rec (d)) q.1 q.2
def j7w (s:List qC) (f:qB) (g:Int) (n:Nat) (h:Int) (b:Unit->Res) (d:Int->Res):Res:=Z1N (j2R s f g) n (h) (b,d)
def j76:Z1q Unit:=NdL 19 19 [.R 0 y8 .S,.c 1 308 [.str] .str [],.I 7,.I 8] [] (λb d=>(b.2.2.2.1)) (λb v=>(b.1,b.2.1,b.2.2.1,v,())) (λd v=>()) (λb d=>j2R b.1 b.2.1 b.2.2.1) λb d f=>((λ_=>f (.exit 0) [] []),(λg=>f .ret [(4,vI g)] []))
theorem jc5:CN 0 26 Tryz.f307 j76:=lK (Z9H jeS Za2) [] oN ([],[]) [(0,[],[])] ([4],[]) λ_ _ _ _ _=>by kernel_rfl
def j5M (s:List qC) (f:qB) (b:Int->Res):Res:=j7w s f (nI (List.length s)) Z1Y 0 (λ_=>b (-1)) (λt=>b t)
def jds:Sig Unit:=sg [.look y8 false,.rclos 308 [.str]] [false] [(y8,none),(.str,none)] [] λb f k=>j5M b.1 b.2.1 (λd=>k [wI d] [] [])
theorem jdg:SO 307 jds:=fK (np:=0) (Z9H jeS Za2) [j76] (oI 26 0 @jc5 oN) false Tryz.func307 λ_ _ _ _=>by kernel_rfl
def j0f (t:qB×qE×qL) (name:qB) (b:Int->Res):Res:=j5M t.2.1 name λr=>b r
def j0D:Sig Unit:=sg [.look y24 true,.look .str false] [false] [(y24,none),(.str,none)] [] λb f k=>j0f b.1 b.2.1 (λd=>k [wI d] [] [])
theorem j37:SO 284 j0D:=fK (np:=0) (Z9H jdg Za2) [] oN false Tryz.func284 λ_ _ _ _=>by kernel_rfl
theorem j9X:FS [(160,j2p),(163,j0Q),(270,j9g),(284,j0D)]:=(Z9H j87 (Z9H j1C (Z9H jfz (Z9H j37 Za2))))
def j1x (d:List qC) (f:Int) (t:qB×qE×qL) (b:Int) (rec:Int->Res) (h:Unit->Res) (g:Unit->Res):Res:=bif decide (b<f) then bif inb b (List.length d) then j44 (nth (eS,0,false,false,0,0,eS) d b) λr=>bif !r then g () else j0f t (nth (eS,0,false,false,0,0,eS) d b).1 λi=>bif (i != b) then g () else rec (Z9x (b+1)) else none else h ()
def j2x (b:List qC) (d:Int) (t:qB×qE×qL):Int->(Int->Res)->((Unit->Res)×(Unit->Res))->Res:=λv rec q=>j1x b d t v (λf=>rec (f)) q.1 q.2
def j6t (b:List qC) (d:Int) (t:qB×qE×qL) (n:Nat) (f:Int) (g:Unit->Res) (h:Unit->Res):Res:=Z1N (j2x b d t) n (f) (g,h)
def j5W:Z1q Unit:=NdL 68 68 [.t 1 (pB 1),.R 10 y8 .S,.I 11,.I 12] [(1,y24,[.S,.S])] (λb d=>(b.2.2.1)) (λb v=>(b.1,b.2.1,v,())) (λd v=>((d.1.1,d.1.2),())) (λb d=>j2x b.1 b.2.1 d.1.2) λb d f=>((λ_=>f (.exit 0) [(1,pB 1)] [(1,⟨y24,d.1.1,d.1.2,[.S,.S]⟩)]),(λ_=>f .ret [(2,vB false)] []))
theorem jhl:CN 0 26 Tryz.f268 j5W:=lK j9X [] oN ([],[]) [(0,[1],[1])] ([2],[]) λ_ _ _ _ _=>by delta j2x j1x j9g j0D;refine gz j44 λ_ b=>gz j0f λ_ d=> ?_;rewrite [<-b,<-d];kernel_rfl
def j2y (f:qL) (g:Int) (t:qB×qE×qL) (d:Int) (b:Int) (rec:Int->Int->Res) (i:Unit->Res) (h:Unit->Res):Res:=bif decide (b<g) then bif inb b (List.length f) then j0f t (nth eS f b) λr=>bif decide (r<=d) then h () else bif inb r (List.length t.2.1) then bif !(nth (eS,0,false,false,0,0,eS) t.2.1 r).2.2.1 then h () else rec r (Z9x (b+1)) else none else none else i ()
def j4B (d:qL) (f:Int) (t:qB×qE×qL):(Int×Int)->(Int×Int->Res)->((Unit->Res)×(Unit->Res))->Res:=λv rec q=>j2y d f t v.1 v.2 (λb g=>rec (b,g)) q.1 q.2
def j6u (d:qL) (f:Int) (t:qB×qE×qL) (n:Nat) (b:Int) (g:Int) (h:Unit->Res) (i:Unit->Res):Res:=Z1N (j4B d f t) n (b,g) (h,i)
def j8E:Z1q Unit:=NdL 68 68 [.t 1 (pB 1),.I 5,.R 30 y0 .S,.I 31,.I 32] [(1,y24,[.S,.S])] (λb d=>(b.1,b.2.2.2.1)) (λb v=>(v.1,b.2.1,b.2.2.1,v.2,())) (λd v=>((d.1.1,d.1.2),())) (λb d=>j4B b.2.1 b.2.2.1 d.1.2) λb d f=>((λ_=>f (.exit 2) [(1,pB 1)] [(1,⟨y24,d.1.1,d.1.2,[.S,.S]⟩)]),(λ_=>f .ret [(2,vB false)] []))
theorem jhm:CN 0 122 Tryz.f268 j8E:=lK j9X [j5W] oN ([],[]) [(2,[1],[1])] ([2],[]) λ_ _ _ _ _=>by kernel_rfl
def j0C (t:qB×qE×qL) (b:Bool->Res):Res:=j6t t.2.1 (nI (List.length t.2.1)) t Z1Y 0 (λ_=>j6u t.2.2 (nI (List.length t.2.2)) t Z1Y (-1) 0 (λ_=>j0p t.1 λr=>bif r then j0a (nI (List.length t.2.1)) 1 8 λd=>bif d then b (decide ((nI (List.length t.2.2))>0)) else b false else b false) (λ_=>b false)) (λ_=>b false)
def j32:Sig Unit:=sg [.look y24 true] [false] [(y24,none)] [] λd f k=>j0C d.1 (λb=>k [wB b] [] [])
theorem j4U:SO 268 j32:=fK (np:=0) j9X [j5W,j8E] (oI 26 0 @jhl (oI 122 1 @jhm oN)) false Tryz.func268 λ_ _ _ _=>by delta j0C j5W j8E j2p j0Q j6t j6u;refine gz j2x λ_ b=>gz j4B λ_ d=>gz j0p λ_ f=>gz j0a λ_ g=> ?_;rewrite [<-b,<-d,<-f,<-g];kernel_rfl
def j0e (a:qG) (b:qG) (d:Bool->Res):Res:=bif (a.1==b.1) then bif sEq a.2.1 b.2.1 then j1b a.2.2.1 b.2.2.1 λr=>bif r then j1K a.2.2.2.1 b.2.2.2.1 λf=>bif f then bif sEq a.2.2.2.2.1 b.2.2.2.2.1 then d (sEq a.2.2.2.2.2 b.2.2.2.2.2) else d false else d false else d false else d false else d false
def j6y:Sig Unit:=sg [.look y13 true,.look y13 true] [false] [(y13,none),(y13,none)] [] λb f k=>j0e b.1 b.2.1 (λd=>k [wB d] [] [])
theorem j8X:SO 212 j6y:=fK (np:=0) (Z9H jfI (Z9H jdM Za2)) [] oN false Tryz.func212 λ_ _ _ _=>by delta j0e jaK j8T;refine gz j1b λ_ b=>gz j1K λ_ d=> ?_;rewrite [<-b,<-d];kernel_rfl
def j1V (d:qG) (b:Bool->Res):Res:=j0p d.2.1 λr=>bif !r then b false else bif (d.1==1) then j2o d λg=>j0C g λh=>bif h then bif sEq d.2.2.2.2.1 eS then b (sEq d.2.2.2.2.2 eS) else b false else b false else bif (d.1==2) then j0e d (d.1,d.2.1,[],[],eS,eS) λi=>b i else bif (d.1==3) then j0e d (d.1,d.2.1,d.2.2.1,[],eS,eS) λj=>bif j then bif ((nI (List.length d.2.2.1))==1) then bif inb 0 (List.length d.2.2.1) then j44 (nth (eS,0,false,false,0,0,eS) d.2.2.1 0) λk=>bif k then bif inb 0 (List.length d.2.2.1) then bif (nth (eS,0,false,false,0,0,eS) d.2.2.1 0).2.2.2.1 then b true else bif inb 0 (List.length d.2.2.1) then b (!(nth (eS,0,false,false,0,0,eS) d.2.2.1 0).2.2.1) else none else none else b false else none else b false else b false else bif (d.1==4) then j0e d (d.1,d.2.1,[],[],d.2.2.2.2.1,eS) λl=>bif l then j0p d.2.2.2.2.1 λm=>b m else b false else bif (d.1==5) then j0e d (d.1,d.2.1,[],[],d.2.2.2.2.1,d.2.2.2.2.2) λn=>bif n then j0p d.2.2.2.2.1 λp=>bif p then j0p d.2.2.2.2.2 λf=>b f else b false else b false else b false
def j3q:Sig Unit:=sg [.look y13 true] [false] [(y13,none)] [] λd f k=>j1V d.1 (λb=>k [wB b] [] [])
theorem jbE:SO 211 j3q:=fK (np:=0) (Z9H j87 (Z9H j8X (Z9H j4U (Z9H jcy (Z9H jfz Za2))))) [] oN false Tryz.func211 λ_ _ _ _=>by delta j1V j2p j6w j32 j6y j9g;refine gz j0p λ_ b=>gz j2o λ_ d=>gz j0C λ_ f=>gz j0e λ_ g=>gz j44 λ_ h=> ?_;rewrite [<-b,<-d,<-f,<-g,<-h];kernel_rfl
def j93 (d:qG) (b:qG->Res):Res:=bif lim (0+(List.length d.2.2.1)) then j2Z d.2.2.2.1 λr=>b (d.1,d.2.1,d.2.2.1,r,d.2.2.2.2) else none
def je6:Sig Unit:=sg [.borrow y13 true] [true] [(y13,none)] [] λd f k=>j93 d.1 (λb=>k [⟨y13,true,b,[.O,.O]⟩] [] [])
theorem jiU:SO 275 je6:=fK (np:=0) (Z9H jbF Za2) [] oN false Tryz.func275 λ_ _ _ _=>by kernel_rfl
def j43 (d:List qT) (h:Int) (c:List qT) (b:Int) (rec:Int->Res) (g:Unit->Res) (f:Unit->Res):Res:=bif decide (b<h) then bif inb b (List.length d) then j0C (nth (eS,[],[]) d b) λr=>bif !r then f () else bif decide (b>0) then bif inb (Z9x (b-1)) (List.length c) then bif sGe (nth (eS,[],[]) c (Z9x (b-1))).1 (nth (eS,[],[]) d b).1 then f () else rec (Z9x (b+1)) else none else rec (Z9x (b+1)) else none else g ()
def j90 (b:List qT) (d:Int) (c:List qT):Int->(Int->Res)->((Unit->Res)×(Unit->Res))->Res:=λv rec q=>j43 b d c v (λf=>rec (f)) q.1 q.2
def jaU (f:List qT) (g:Int) (c:List qT) (n:Nat) (h:Int) (b:Unit->Res) (d:Unit->Res):Res:=Z1N (j90 f g c) n (h) (b,d)
def jei:Z1q Unit:=NdL 37 37 [.t 1 (pB 1),.R 6 y25 .S,.I 7,.I 8] [(1,y25,[.S])] (λb d=>(b.2.2.1)) (λb v=>(b.1,b.2.1,v,())) (λd v=>((d.1.1,d.1.2),())) (λb d=>j90 b.1 b.2.1 d.1.2) λb d f=>((λ_=>f (.exit 0) [(1,pB 1)] [(1,⟨y25,d.1.1,d.1.2,[.S]⟩)]),(λ_=>f .ret [(2,vB false)] []))
theorem jjf:CN 0 26 Tryz.f250 jei:=lK (Z9H j4U Za2) [] oN ([],[]) [(0,[1],[1])] ([2],[]) λ_ _ _ _ _=>by kernel_rfl
def j5H (c:List qT) (b:Bool->Res):Res:=jaU c (nI (List.length c)) c Z1Y 0 (λ_=>b (decide ((nI (List.length c))<=6))) (λ_=>b false)
def j6U:Sig Unit:=sg [.look y25 true] [false] [(y25,none)] [] λd f k=>j5H d.1 (λb=>k [wB b] [] [])
theorem jfy:SO 250 j6U:=fK (np:=0) (Z9H j4U Za2) [jei] (oI 26 0 @jjf oN) false Tryz.func250 λ_ _ _ _=>by kernel_rfl
def j2z (f:List qT) (h:Int) (b:Int) (d:List qT) (rec:Int->qF->Res) (g:qF->Res):Res:=bif decide (b<h) then bif inb b (List.length f) then j2Y (nth (eS,[],[]) f b) λr=>bif lim ((List.length d)+1) then rec (Z9x (b+1)) (d++[r]) else none else none else g d
def j7D (f:List qT) (g:Int):(Int×qF)->(Int×qF->Res)->((qF->Res))->Res:=λv rec q=>j2z f g v.1 v.2 (λd b=>rec (d,b)) q
def jcL (g:List qT) (h:Int) (n:Nat) (d:Int) (b:List qT) (f:qF->Res):Res:=Z1N (j7D g h) n (d,b) (f)
def jcn:Z1q Unit:=NdL 23 23 [.t 2 (pB 2),.t 3 (pB 3),.R 8 y25 .S,.I 9,.I 10] [(2,y25,[.O]),(3,y25,[.O])] (λd b=>(d.2.2.1,b.2.1.2)) (λd v=>(d.1,d.2.1,v.1,())) (λb v=>((b.1.1,b.1.2),(b.2.1.1,v.2),())) (λd b=>j7D d.1 d.2.1) λd b g=>((λf=>g (.exit 0) [(2,pB 2),(3,pB 3)] [(2,⟨y25,b.1.1,b.1.2,[.O]⟩),(3,⟨y25,b.2.1.1,f,[.O]⟩)]))
theorem jho:CN 0 58 Tryz.f231 jcn:=lK (Z9H j8g Za2) [] oN ([],[]) [(0,[2,3],[2,3])] ([],[]) λ_ _ _ _ _=>by kernel_rfl
def j3d (c:List qT) (d:qF->Res):Res:=jcL c (nI (List.length c)) Z1Y 0 [] λb=>d b
def j5c:Sig Unit:=sg [.borrow y25 true] [true] [(y25,none)] [] λd f k=>j3d d.1 (λb=>k [⟨y25,true,b,[.O]⟩] [] [])
theorem jdI:SO 231 j5c:=fK (np:=0) (Z9H j8g Za2) [jcn] (oI 58 0 @jho oN) false Tryz.func231 λ_ _ _ _=>by kernel_rfl
def jbU (t:qB×qE×qL) (d:qB) (b:Bool->Res):Res:=b (sEq t.1 d)
def jjv:Sig Unit:=sg [.look y24 true,.rptr .str] [false] [(y24,none),(.str,none)] [] λb f k=>jbU b.1 b.2.1 (λd=>k [wB d] [] [])
theorem jdF:SO 235 jjv:=fK (np:=0) Za2 [] oN false Tryz.func235 λ_ _ _ _=>by kernel_rfl
def j0z (s:List qT) (f:qB) (h:Int) (b:Int) (rec:Int->Res) (d:Unit->Res) (g:Int->Res):Res:=bif decide (b<h) then bif inb b (List.length s) then jbU (nth (eS,[],[]) s b) f λr=>bif r then g b else rec (Z9x (b+1)) else none else d ()
def j27 (s:List qT) (f:qB) (b:Int):Int->(Int->Res)->((Unit->Res)×(Int->Res))->Res:=λv rec q=>j0z s f b v (λd=>rec (d)) q.1 q.2
def j6A (s:List qT) (f:qB) (g:Int) (n:Nat) (h:Int) (b:Unit->Res) (d:Int->Res):Res:=Z1N (j27 s f g) n (h) (b,d)
def j6b:Z1q Unit:=NdL 19 19 [.R 0 y25 .S,.c 1 235 [.str] .str [],.I 7,.I 8] [] (λb d=>(b.2.2.2.1)) (λb v=>(b.1,b.2.1,b.2.2.1,v,())) (λd v=>()) (λb d=>j27 b.1 b.2.1 b.2.2.1) λb d f=>((λ_=>f (.exit 0) [] []),(λg=>f .ret [(4,vI g)] []))
theorem jaX:CN 0 26 Tryz.f234 j6b:=lK (Z9H jdF Za2) [] oN ([],[]) [(0,[],[])] ([4],[]) λ_ _ _ _ _=>by kernel_rfl
def j4w (s:List qT) (f:qB) (b:Int->Res):Res:=j6A s f (nI (List.length s)) Z1Y 0 (λ_=>b (-1)) (λt=>b t)
def jce:Sig Unit:=sg [.look y25 false,.rclos 235 [.str]] [false] [(y25,none),(.str,none)] [] λb f k=>j4w b.1 b.2.1 (λd=>k [wI d] [] [])
theorem jbM:SO 234 jce:=fK (np:=0) (Z9H jdF Za2) [j6b] (oI 26 0 @jaX oN) false Tryz.func234 λ_ _ _ _=>by kernel_rfl
def j0i (c:List qT) (name:qB) (b:Int->Res):Res:=j4w c name λr=>b r
def j0P:Sig Unit:=sg [.look y25 true,.look .str false] [false] [(y25,none),(.str,none)] [] λb f k=>j0i b.1 b.2.1 (λd=>k [wI d] [] [])
theorem j86:SO 176 j0P:=fK (np:=0) (Z9H jbM Za2) [] oN false Tryz.func176 λ_ _ _ _=>by kernel_rfl
theorem j7c:FS [(95,j3r),(176,j0P),(284,j0D)]:=(Z9H jbL (Z9H j86 (Z9H j37 Za2)))
def j49 (d:qG) (t:qB×qE×qL) (b:Bool->Res):Res:=bif (d.1==3) then bif inb 0 (List.length d.2.2.1) then j0f t (nth (eS,0,false,false,0,0,eS) d.2.2.1 0).1 λr=>bif decide (r>=0) then b true else bif (d.1==5) then j0f t d.2.2.2.2.2 λf=>b (decide (f>=0)) else b false else none else bif (d.1==5) then j0f t d.2.2.2.2.2 λg=>b (decide (g>=0)) else b false
def j3I:Z1q Unit:=Nd 92 92 [.t 3 (pB 3),.t 6 (pB 6)] [(3,y13,[.S,.S]),(6,y24,[.S,.S])] λg b f=>j49 b.1.2 b.2.1.2 (λd=>f .normal [(3,pB 3),(6,pB 6),(29,vB d)] [(3,⟨y13,b.1.1,b.1.2,[.S,.S]⟩),(6,⟨y24,b.2.1.1,b.2.1.2,[.S,.S]⟩)])
theorem jhp:CN 0 504 Tryz.f317 j3I:=nK j7c [] oN ([3,6,29],[3,6]) [] ([],[]) λ_ _ _=>by delta j49 j0D;refine gz j0f λ_ b=> ?_;rewrite [<-b];kernel_rfl
def j6v (d:qG) (t:qB×qE×qL) (b:Bool->Res):Res:=bif (d.1==3) then b ((nI (List.length t.2.1))==8) else b false
def j5X:Z1q Unit:=Nd 92 92 [.t 3 (pB 3),.t 6 (pB 6)] [(3,y13,[.S,.S]),(6,y24,[.S,.S])] λg b f=>j6v b.1.2 b.2.1.2 (λd=>f .normal [(3,pB 3),(6,pB 6),(55,vB d)] [(3,⟨y13,b.1.1,b.1.2,[.S,.S]⟩),(6,⟨y24,b.2.1.1,b.2.1.2,[.S,.S]⟩)])
theorem jhq:CN 0 2022 Tryz.f317 j5X:=nK j7c [j3I] oN ([3,6,55],[3,6]) [] ([],[]) λ_ _ _=>by kernel_rfl
def j4a (d:qG) (t:qB×qE×qL) (b:Bool->Res):Res:=bif (d.1==4) then j0f t d.2.2.2.2.1 λr=>b (decide (r<0)) else bif (d.1==5) then j0f t d.2.2.2.2.1 λf=>b (decide (f<0)) else b false
def j8G:Z1q Unit:=Nd 92 92 [.t 3 (pB 3),.t 6 (pB 6)] [(3,y13,[.S,.S]),(6,y24,[.S,.S])] λg b f=>j4a b.1.2 b.2.1.2 (λd=>f .normal [(3,pB 3),(6,pB 6),(65,vB d)] [(3,⟨y13,b.1.1,b.1.2,[.S,.S]⟩),(6,⟨y24,b.2.1.1,b.2.1.2,[.S,.S]⟩)])
theorem jhr:CN 0 8094 Tryz.f317 j8G:=nK j7c [j3I,j5X] oN ([3,6,65],[3,6]) [] ([],[]) λ_ _ _=>by delta j4a j0D;refine gz j0f λ_ b=> ?_;rewrite [<-b];kernel_rfl
def j24 (c:List qT) (d:qG) (b:Int->Res):Res:=j0i c d.2.1 λr=>bif (d.1==1) then bif decide (r>=0) then b 2 else bif ((nI (List.length c))==6) then b 3 else b 0 else bif decide (r<0) then b 4 else bif inb r (List.length c) then j49 d (nth (eS,[],[]) c r) λt=>bif t then b 5 else j6v d (nth (eS,[],[]) c r) λg=>bif g then b 6 else j4a d (nth (eS,[],[]) c r) λh=>bif h then b 7 else bif (d.1==4) then j14 (nth (eS,[],[]) c r).2.2 d.2.2.2.2.1 λf=>bif f then b 8 else b 0 else b 0 else none
def j5d:Sig Unit:=sg [.look y25 true,.look y13 true] [false] [(y25,none),(y13,none)] [] λb f k=>j24 b.1 b.2.1 (λd=>k [wI d] [] [])
theorem jdJ:SO 317 j5d:=fK (np:=0) j7c [j3I,j5X,j8G] (oI 504 0 @jhp (oI 2022 1 @jhq (oI 8094 2 @jhr oN))) false Tryz.func317 λ_ _ _ _=>by delta j24 j0P j3I j5X j8G j3r;refine gz j0i λ_ b=>gz j49 λ_ d=>gz j6v λ_ f=>gz j4a λ_ g=>gz j14 λ_ h=> ?_;rewrite [<-b,<-d,<-f,<-g,<-h];kernel_rfl
def ja2 (x:qB×Int×Bool×Bool×Int×Int×qB) (d:qG) (b:Bool->Res):Res:=b (sEq x.1 d.2.2.2.2.1)
def jhN:Sig Unit:=sg [.look y7 true,.rptr y13] [false] [(y7,none),(y13,none)] [] λb f k=>ja2 b.1 b.2.1 (λd=>k [wB d] [] [])
theorem jh1:SO 321 jhN:=fK (np:=0) Za2 [] oN false Tryz.func321 λ_ _ _ _=>by kernel_rfl
def j2h (s:List qC) (b:qG) (d:qE->qG->Res):Res:=bif lim (List.length s) then dgE (λe k=>ja2 e b k) s [] (λr=>d r b) else none
def j3Q:Sig Unit:=⟨[.eat y8 false,.clos 321 [y13]],[false],λvals ext k=>ao vals y8 [.O] λs vals=>nl vals<|ab ext y13 [.S,.S] λa0 f ext=>nl ext<|j2h s f (λd b=>k [w1 y8 d .O] [] [⟨y13,a0,b,[.S,.S]⟩])⟩
theorem jcu:Z1d Tryz.prog 320 j3Q:=gS (jpR (U:=0) (T:=280) (e:=y7) (ag:=true) (τ:=y13) (tg:=[.S,.S]) (fl:=[9,3,4,4,151]) (S:=116) (E:=213) (I:=3) (B:=4) follows j2m (by kernel_rfl) Tryz.underlying116 (by kernel_rfl) (by kernel_rfl) (by kernel_rfl) (by kernel_rfl) Tryz.isAgg280 Tryz.sizeOf280 (by kernel_rfl) (by kernel_rfl) (by kernel_rfl) Tryz.func307 (by kernel_rfl) (by kernel_rfl) (by kernel_rfl) (by kernel_rfl) jh1 (by kernel_rfl) Tryz.func320 (by kernel_rfl) (by kernel_rfl) (by kernel_rfl) (by kernel_rfl)) (by kernel_rfl)
theorem j8V:FS [(166,j5i),(176,j0P),(211,j3q),(231,j5c),(250,j6U),(269,j6w),(284,j0D),(317,j5d),(318,j5j),(319,j5h),(320,j3Q)]:=(Z9H j8N (Z9H j86 (Z9H jbE (Z9H jdI (Z9H jfy (Z9H jcy (Z9H j37 (Z9H jdJ (Z9H jdN (Z9H jdL (Z9H jcu Za2)))))))))))
def j21 (d:qG) (f:List qT) (b:Int) (rec:Int->Res) (g:Int->Res):Res:=bif decide (b<(nI (List.length f))) then bif inb b (List.length f) then bif sLt (nth (eS,[],[]) f b).1 d.2.1 then rec (Z9x (b+1)) else g b else none else g b
def j45 (d:qG) (f:List qT):Int->(Int->Res)->((Int->Res))->Res:=λv rec q=>j21 d f v (λb=>rec (b)) q
def j8k (d:qG) (f:List qT) (n:Nat) (b:Int) (g:Int->Res):Res:=Z1N (j45 d f) n (b) (g)
def j4R:Z1q Unit:=NdL 146 146 [.t 3 (pB 3),.t 4 (pB 4),.t 7 (pB 7),.I 9] [(3,y13,[.S,.S]),(4,y25,[.O]),(7,y25,[.O])] (λf b=>(f.1)) (λf v=>(v,())) (λb v=>((b.1.1,b.1.2),(b.2.1.1,b.2.1.2),(b.2.2.1.1,b.2.2.1.2),())) (λf b=>j45 b.1.2 b.2.2.1.2) λf b g=>((λd=>g (.exit 1) [(3,pB 3),(4,pB 4),(7,pB 7),(9,vI d)] [(3,⟨y13,b.1.1,b.1.2,[.S,.S]⟩),(4,⟨y25,b.2.1.1,b.2.1.2,[.O]⟩),(7,⟨y25,b.2.2.1.1,b.2.2.1.2,[.O]⟩)]))
theorem jgx:CN 0 16212 Tryz.f295 j4R:=lK j8V [] oN ([],[]) [(1,[3,4,7,9],[3,4,7])] ([],[]) λ_ _ _ _ _=>by kernel_rfl
def j1a (f:Int) (h:Int) (d:qG) (b:List qT) (i:qF->Res):Res:=bif (h==1) then j8k d b Z1Y 0 λj=>j2o d λr=>j3O b j [r] λl=>i l else bif (h==2) then j3N b f (Z9x (f+1)) λm=>i m else bif (h==3) then bif inb f (List.length b) then bif inb 0 (List.length d.2.2.1) then bif lim ((List.length (nth (eS,[],[]) b f).2.1)+1) then bif inb f (List.length (upd b f ((nth (eS,[],[]) b f).1,((nth (eS,[],[]) b f).2.1++[nth (eS,0,false,false,0,0,eS) d.2.2.1 0]),(nth (eS,[],[]) b f).2.2))) then bif (Z9e (Int.toNat f) (Int.toNat f)&&true) then i (upd b f ((nth (eS,[],[]) b f).1,((nth (eS,[],[]) b f).2.1++[nth (eS,0,false,false,0,0,eS) d.2.2.1 0]),(nth (eS,[],[]) b f).2.2)) else none else none else none else none else none else bif (h==4) then bif inb f (List.length b) then j2h (nth (eS,[],[]) b f).2.1 d λn p=>bif (Z9e (Int.toNat f) (Int.toNat f)&&true) then i (upd b f ((nth (eS,[],[]) b f).1,n,(nth (eS,[],[]) b f).2.2)) else none else none else bif (h==5) then bif inb f (List.length b) then j0f (nth (eS,[],[]) b f) d.2.2.2.2.1 λg=>bif inb g (List.length (nth (eS,[],[]) b f).2.1) then j0H (nth (eS,[],[]) (upd b f ((nth (eS,[],[]) b f).1,upd (nth (eS,[],[]) b f).2.1 g (d.2.2.2.2.2,(nth (eS,0,false,false,0,0,eS) (nth (eS,[],[]) b f).2.1 g).2),(nth (eS,[],[]) b f).2.2)) f).2.2 d.2.2.2.2.1 λk=>bif decide (k>=0) then bif inb k (List.length (nth (eS,[],[]) (upd b f ((nth (eS,[],[]) b f).1,upd (nth (eS,[],[]) b f).2.1 g (d.2.2.2.2.2,(nth (eS,0,false,false,0,0,eS) (nth (eS,[],[]) b f).2.1 g).2),(nth (eS,[],[]) b f).2.2)) f).2.2) then i (upd (upd b f ((nth (eS,[],[]) b f).1,upd (nth (eS,[],[]) b f).2.1 g (d.2.2.2.2.2,(nth (eS,0,false,false,0,0,eS) (nth (eS,[],[]) b f).2.1 g).2),(nth (eS,[],[]) b f).2.2)) f ((nth (eS,[],[]) (upd b f ((nth (eS,[],[]) b f).1,upd (nth (eS,[],[]) b f).2.1 g (d.2.2.2.2.2,(nth (eS,0,false,false,0,0,eS) (nth (eS,[],[]) b f).2.1 g).2),(nth (eS,[],[]) b f).2.2)) f).1,(nth (eS,[],[]) (upd b f ((nth (eS,[],[]) b f).1,upd (nth (eS,[],[]) b f).2.1 g (d.2.2.2.2.2,(nth (eS,0,false,false,0,0,eS) (nth (eS,[],[]) b f).2.1 g).2),(nth (eS,[],[]) b f).2.2)) f).2.1,upd (nth (eS,[],[]) (upd b f ((nth (eS,[],[]) b f).1,upd (nth (eS,[],[]) b f).2.1 g (d.2.2.2.2.2,(nth (eS,0,false,false,0,0,eS) (nth (eS,[],[]) b f).2.1 g).2),(nth (eS,[],[]) b f).2.2)) f).2.2 k d.2.2.2.2.2)) else none else i (upd b f ((nth (eS,[],[]) b f).1,upd (nth (eS,[],[]) b f).2.1 g (d.2.2.2.2.2,(nth (eS,0,false,false,0,0,eS) (nth (eS,[],[]) b f).2.1 g).2),(nth (eS,[],[]) b f).2.2)) else none else none else i b
def j7P:Z1q Unit:=Nd 146 146 [.t 3 (pB 3),.t 4 (pB 4),.t 7 (pB 7),.I 8,.I 36] [(3,y13,[.S,.S]),(4,y25,[.O]),(7,y25,[.O])] λf d g=>j1a f.1 f.2.1 d.1.2 d.2.2.1.2 (λb=>g .normal [(4,pB 4),(7,pB 7)] [(4,⟨y25,d.2.1.1,d.2.1.2,[.O]⟩),(7,⟨y25,d.2.2.1.1,b,[.O]⟩)])
theorem jgy:CN 0 253 Tryz.f295 j7P:=nK j8V [j4R] (oI 84 0 @jgx oN) ([4,7],[4,7]) [] ([],[]) λ_ _ _=>by delta j1a j4R j6w j5j j5h j3Q j0D j5i j8k;refine gz j45 λ_ b=>gz j2o λ_ d=>gz j3O λ_ f=>gz j3N λ_ g=>gz j2h λ_ h=>gz j0f λ_ i=>gz j0H λ_ j=> ?_;rewrite [<-b,<-d,<-f,<-g,<-h,<-i,<-j];kernel_rfl
def j3U (c:List qT) (d:qG) (b:qF->Int->Res):Res:=j5H c λr=>bif !r then b [] 1 else j1V d λh=>bif !h then b [] 1 else j24 c d λg=>bif (g != 0) then b [] g else j3d c λi=>j0i c d.2.1 λj=>j1a j d.1 d i λf=>b f 0
def j9h:Sig Unit:=sg [.borrow y25 true,.borrow y13 true] [true,false] [(y25,none),(y13,none)] [] λb g k=>j3U b.1 b.2.1 (λd f=>k [⟨y25,true,d,[.O]⟩,wI f] [] [])
theorem jhS:SO 295 j9h:=fK (np:=0) j8V [j4R,j7P] (oI 253 1 @jgy oN) false Tryz.func295 λ_ _ _ _=>by delta j3U j6U j3q j5d j5c j0P j7P;refine gz j5H λ_ b=>gz j1V λ_ d=>gz j24 λ_ f=>gz j3d λ_ g=>gz j0i λ_ h=>gz j1a λ_ i=> ?_;rewrite [<-b,<-d,<-f,<-g,<-h,<-i];kernel_rfl
end
end Go.PI.G
