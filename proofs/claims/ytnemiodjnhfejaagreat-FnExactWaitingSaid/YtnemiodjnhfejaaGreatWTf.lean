/-
  Program's code interpreted over typed values; printed texts; plain laws. No conditions.
-/
import Derived.Test.YtnemiodjnhfejaaGreatWTd
import Derived.Test.YtnemiodjnhfejaaGreatWTe
set_option linter.unusedVariables false
set_option maxRecDepth 100000
namespace Go.PI.G
noncomputable section
open Go Go.PI Go.Proofs
open Go.Code (pl pr)
def j51 (c:qB×Int×Bool×Bool×Int×Int×qB) (b:Bool->Res):Res:=j0D c.1 λr=>bif !r then b false else bif decide (c.2.1<1) then b false else bif decide (c.2.1>3) then b false else bif !c.2.2.2.1 then b ((c.2.2.2.2.1==0)&&((c.2.2.2.2.2.1==0)&&(sEq c.2.2.2.2.2.2 eS))) else j1g c.2.2.2.2 λd=>bif d then bif ((c.2.2.2.2.1==0)&&((c.2.2.2.2.2.1==0)&&(sEq c.2.2.2.2.2.2 eS))) then bif ((c.2.2.2.2.1==0)&&((c.2.2.2.2.2.1==0)&&(sEq c.2.2.2.2.2.2 eS))) then b (!c.2.2.1) else b true else bif (c.2.2.2.2.1==c.2.1) then bif ((c.2.2.2.2.1==0)&&((c.2.2.2.2.2.1==0)&&(sEq c.2.2.2.2.2.2 eS))) then b (!c.2.2.1) else b true else b false else b false
def j7W:Sig Unit:=sg [.look y7 true] [false] [(y7,none)] [] λd f k=>j51 d.1 (λb=>k [wB b] [] [])
theorem jhn:SO 267 j7W:=fK (np:=0) (Za6 j96 (Za6 j7G Zas)) [] oN false Tryz.func267 λ_ _ _ _=>by delta j51 j2I jax;refine gz j0D λ_ b=>gz j1g λ_ d=> ?_;rewrite [<-b,<-d];kernel_rfl
def j50 (name:qB) (d:List qC) (h:Int) (b:Int) (rec:Int->Res) (f:Unit->Res) (g:Int->Res):Res:=bif decide (b<h) then bif inb b (List.length d) then bif sEq (nth (eS,0,false,false,0,0,eS) d b).1 name then g b else rec (Z9K (b+1)) else none else f ()
def jaD (name:qB) (d:List qC) (f:Int):Int->(Int->Res)->((Unit->Res)×(Int->Res))->Res:=λv rec q=>j50 name d f v (λb=>rec (b)) q.1 q.2
def jgU (name:qB) (g:List qC) (h:Int) (n:Nat) (b:Int) (d:Unit->Res) (f:Int->Res):Res:=Z1f (jaD name g h) n (b) (d,f)
def jfT:Z1d Unit:=NdL 21 21 [.S 1,.R 8 y8 .S,.I 9,.I 10] [] (λb d=>(b.2.2.2.1)) (λb v=>(b.1,b.2.1,b.2.2.1,v,())) (λd v=>()) (λb d=>jaD b.1 b.2.1 b.2.2.1) λb d f=>((λ_=>f (.exit 0) [] []),(λg=>f .ret [(4,vI g)] []))
theorem jlr:CN 0 26 Tryz.f230 jfT:=lK Zas [] oN ([],[]) [(0,[],[])] ([4],[]) λ_ _ _ _ _=>by kernel_rfl
def j0G (t:qB×qE×qL) (name:qB) (b:Int->Res):Res:=jgU name t.2.1 (nI (List.length t.2.1)) Z1c 0 (λ_=>b (-1)) (λd=>b d)
def j2o:Sig Unit:=sg [.look y29 true,.look .str false] [false] [(y29,none),(.str,none)] [] λb f k=>j0G b.1 b.2.1 (λd=>k [wI d] [] [])
theorem j5E:SO 230 j2o:=fK (np:=0) Zas [jfT] (oI 26 0 @jlr oN) false Tryz.func230 λ_ _ _ _=>by kernel_rfl
theorem j8b:FS [(154,j2I),(230,j2o),(267,j7W)]:=(Za6 j96 (Za6 j5E (Za6 jhn Zas)))
def j57 (t:qB×qE×qL) (b:Bool->Res):Res:=j0D t.1 λr=>bif !r then b true else bif decide ((nI (List.length t.2.1))<1) then b true else bif decide ((nI (List.length t.2.1))>8) then b true else b (decide ((nI (List.length t.2.2))<1))
def j4l:Z1d Unit:=Nd 75 75 [.t 1 (pB 1)] [(1,y29,[.S,.S])] λg d f=>j57 d.1.2 (λb=>f .normal [(1,pB 1),(30,vB b)] [(1,⟨y29,d.1.1,d.1.2,[.S,.S]⟩)])
theorem jjA:CN 0 12 Tryz.f227 j4l:=nK j8b [] oN ([1,30],[1]) [] ([],[]) λ_ _ _=>by kernel_rfl
def j1L (d:List qC) (f:Int) (t:qB×qE×qL) (b:Int) (rec:Int->Res) (h:Unit->Res) (g:Unit->Res):Res:=bif decide (b<f) then bif inb b (List.length d) then j51 (nth (eS,0,false,false,0,0,eS) d b) λr=>bif !r then g () else j0G t (nth (eS,0,false,false,0,0,eS) d b).1 λi=>bif (i != b) then g () else rec (Z9K (b+1)) else none else h ()
def j2Z (b:List qC) (d:Int) (t:qB×qE×qL):Int->(Int->Res)->((Unit->Res)×(Unit->Res))->Res:=λv rec q=>j1L b d t v (λf=>rec (f)) q.1 q.2
def j7A (b:List qC) (d:Int) (t:qB×qE×qL) (n:Nat) (f:Int) (g:Unit->Res) (h:Unit->Res):Res:=Z1f (j2Z b d t) n (f) (g,h)
def j6Q:Z1d Unit:=NdL 75 75 [.t 1 (pB 1),.R 32 y8 .S,.I 33,.I 34] [(1,y29,[.S,.S])] (λb d=>(b.2.2.1)) (λb v=>(b.1,b.2.1,v,())) (λd v=>((d.1.1,d.1.2),())) (λb d=>j2Z b.1 b.2.1 d.1.2) λb d f=>((λ_=>f (.exit 0) [(1,pB 1)] [(1,⟨y29,d.1.1,d.1.2,[.S,.S]⟩)]),(λ_=>f .ret [(2,vB false)] []))
theorem jjy:CN 0 58 Tryz.f227 j6Q:=lK j8b [j4l] oN ([],[]) [(0,[1],[1])] ([2],[]) λ_ _ _ _ _=>by delta j2Z j1L j7W j2o;refine gz j51 λ_ b=>gz j0G λ_ d=> ?_;rewrite [<-b,<-d];kernel_rfl
def j30 (f:qL) (g:Int) (t:qB×qE×qL) (d:Int) (b:Int) (rec:Int->Int->Res) (i:Unit->Res) (h:Unit->Res):Res:=bif decide (b<g) then bif inb b (List.length f) then j0G t (nth eS f b) λr=>bif decide (r<=d) then h () else bif inb r (List.length t.2.1) then bif !(nth (eS,0,false,false,0,0,eS) t.2.1 r).2.2.1 then h () else rec r (Z9K (b+1)) else none else none else i ()
def j5o (d:qL) (f:Int) (t:qB×qE×qL):(Int×Int)->(Int×Int->Res)->((Unit->Res)×(Unit->Res))->Res:=λv rec q=>j30 d f t v.1 v.2 (λb g=>rec (b,g)) q.1 q.2
def j7B (d:qL) (f:Int) (t:qB×qE×qL) (n:Nat) (b:Int) (g:Int) (h:Unit->Res) (i:Unit->Res):Res:=Z1f (j5o d f t) n (b,g) (h,i)
def j9P:Z1d Unit:=NdL 75 75 [.t 1 (pB 1),.I 5,.R 52 y0 .S,.I 53,.I 54] [(1,y29,[.S,.S])] (λb d=>(b.1,b.2.2.2.1)) (λb v=>(v.1,b.2.1,b.2.2.1,v.2,())) (λd v=>((d.1.1,d.1.2),())) (λb d=>j5o b.2.1 b.2.2.1 d.1.2) λb d f=>((λ_=>f (.exit 2) [] []),(λ_=>f .ret [(2,vB false)] []))
theorem jjz:CN 0 250 Tryz.f227 j9P:=lK j8b [j4l,j6Q] oN ([],[]) [(2,[],[])] ([2],[]) λ_ _ _ _ _=>by kernel_rfl
def j0r (t:qB×qE×qL) (b:Bool->Res):Res:=j57 t λd=>bif d then b false else j7A t.2.1 (nI (List.length t.2.1)) t Z1c 0 (λ_=>j7B t.2.2 (nI (List.length t.2.2)) t Z1c (-1) 0 (λ_=>b true) (λ_=>b false)) (λ_=>b false)
def j12:Sig Unit:=sg [.look y29 true] [false] [(y29,none)] [] λd f k=>j0r d.1 (λb=>k [wB b] [] [])
theorem j3j:SO 227 j12:=fK (np:=0) j8b [j4l,j6Q,j9P] (oI 12 0 @jjA (oI 58 1 @jjy (oI 250 2 @jjz oN))) false Tryz.func227 λ_ _ _ _=>by delta j0r j4l j6Q j9P j7A j7B;refine gz j57 λ_ b=>gz j2Z λ_ d=>gz j5o λ_ f=> ?_;rewrite [<-b,<-d,<-f];kernel_rfl
theorem jh4:FS [(154,j2I),(227,j12),(267,j7W)]:=(Za6 j96 (Za6 j3j (Za6 jhn Zas)))
def j71 (d:qG) (b:Bool->Res):Res:=bif ((nI (List.length d.2.2.1))==0) then b ((nI (List.length d.2.2.2.1))==0) else b false
def jbG:Z1d Unit:=Nd 123 123 [.t 1 (pB 1)] [(1,y13,[.S,.S])] λf b d=>j71 b.1.2 (λplain=>d .normal [(1,pB 1),(3,vB plain)] [(1,⟨y13,b.1.1,b.1.2,[.S,.S]⟩)])
theorem jls:CN 0 14 Tryz.f210 jbG:=nK jh4 [] oN ([1,3],[1]) [] ([],[]) λ_ _ _=>by kernel_rfl
def j2b (d:qG) (b:Bool->Res):Res:=j0D d.2.1 λr=>bif !r then b false else j71 d λplain=>bif (d.1==1) then bif sEq d.2.2.2.2.1 eS then bif sEq d.2.2.2.2.2 eS then j0r (d.2.1,d.2.2.1,d.2.2.2.1) λf=>b f else b false else b false else bif (d.1==2) then bif plain then bif sEq d.2.2.2.2.1 eS then b (sEq d.2.2.2.2.2 eS) else b false else b false else bif (d.1==3) then bif ((nI (List.length d.2.2.1))==1) then bif inb 0 (List.length d.2.2.1) then j51 (nth (eS,0,false,false,0,0,eS) d.2.2.1 0) λg=>bif g then bif inb 0 (List.length d.2.2.1) then bif (nth (eS,0,false,false,0,0,eS) d.2.2.1 0).2.2.2.1 then bif ((nI (List.length d.2.2.2.1))==0) then bif sEq d.2.2.2.2.1 eS then b (sEq d.2.2.2.2.2 eS) else b false else b false else bif inb 0 (List.length d.2.2.1) then bif !(nth (eS,0,false,false,0,0,eS) d.2.2.1 0).2.2.1 then bif ((nI (List.length d.2.2.2.1))==0) then bif sEq d.2.2.2.2.1 eS then b (sEq d.2.2.2.2.2 eS) else b false else b false else b false else none else none else b false else none else b false else bif (d.1==4) then bif plain then j0D d.2.2.2.2.1 λh=>bif h then b (sEq d.2.2.2.2.2 eS) else b false else b false else bif (d.1==5) then bif plain then j0D d.2.2.2.2.1 λi=>bif i then j0D d.2.2.2.2.2 λj=>b j else b false else b false else b false
def j41:Sig Unit:=sg [.look y13 true] [false] [(y13,none)] [] λd f k=>j2b d.1 (λb=>k [wB b] [] [])
theorem jd4:SO 210 j41:=fK (np:=0) jh4 [jbG] (oI 14 0 @jls oN) false Tryz.func210 λ_ _ _ _=>by delta j2b j2I jbG j12 j7W;refine gz j0D λ_ b=>gz j71 λ_ d=>gz j0r λ_ f=>gz j51 λ_ g=> ?_;rewrite [<-b,<-d,<-f,<-g];kernel_rfl
def j4Z (d:List qT) (f:Int) (c:List qT) (b:Int) (rec:Int->Res) (h:Unit->Res) (g:Unit->Res):Res:=bif decide (b<f) then bif inb b (List.length d) then j0r (nth (eS,[],[]) d b) λr=>bif !r then g () else bif decide (b>0) then bif inb (Z9K (b-1)) (List.length c) then bif sGe (nth (eS,[],[]) c (Z9K (b-1))).1 (nth (eS,[],[]) d b).1 then g () else rec (Z9K (b+1)) else none else rec (Z9K (b+1)) else none else h ()
def jaC (b:List qT) (d:Int) (c:List qT):Int->(Int->Res)->((Unit->Res)×(Unit->Res))->Res:=λv rec q=>j4Z b d c v (λf=>rec (f)) q.1 q.2
def jci (b:List qT) (d:Int) (c:List qT) (n:Nat) (f:Int) (g:Unit->Res) (h:Unit->Res):Res:=Z1f (jaC b d c) n (f) (g,h)
def jfS:Z1d Unit:=NdL 37 37 [.t 1 (pB 1),.R 10 y30 .S,.I 11,.I 12] [(1,y30,[.S])] (λb d=>(b.2.2.1)) (λb v=>(b.1,b.2.1,v,())) (λd v=>((d.1.1,d.1.2),())) (λb d=>jaC b.1 b.2.1 d.1.2) λb d f=>((λ_=>f (.exit 0) [] []),(λ_=>f .ret [(2,vB false)] []))
theorem jlq:CN 0 58 Tryz.f242 jfS:=lK (Za6 j3j Zas) [] oN ([],[]) [(0,[],[])] ([2],[]) λ_ _ _ _ _=>by kernel_rfl
def j6G (c:List qT) (b:Bool->Res):Res:=bif decide ((nI (List.length c))>6) then b false else jci c (nI (List.length c)) c Z1c 0 (λ_=>b true) (λ_=>b false)
def j7V:Sig Unit:=sg [.look y30 true] [false] [(y30,none)] [] λd f k=>j6G d.1 (λb=>k [wB b] [] [])
theorem jhm:SO 242 j7V:=fK (np:=0) (Za6 j3j Zas) [jfS] (oI 58 0 @jlq oN) false Tryz.func242 λ_ _ _ _=>by kernel_rfl
def j4C (t:qB×qE×qL) (b:qT->Res):Res:=Z87 (Z87 (bif lim (0+(List.length t.2.1)) then bif lim (0+(List.length t.2.2)) then b (t.1,t.2.1,t.2.2) else none else none) (bif lim (0+(List.length t.2.1)) then bif lim (0+(List.length t.2.2)) then b (t.1,t.2.1,t.2.2) else none else none)) (bif lim (0+(List.length t.2.1)) then bif lim (0+(List.length t.2.2)) then b (t.1,t.2.1,t.2.2) else none else none)
def jaz:Sig Unit:=sg [.borrow y29 true] [true] [(y29,none)] [] λd f k=>j4C d.1 (λb=>k [⟨y29,true,b,[.O,.O]⟩] [] [])
theorem ja3:SO 286 jaz:=fK (np:=0) Zas [] oN false Tryz.func286 λ_ _ _ _=>by kernel_rfl
def j32 (f:List qT) (h:Int) (b:Int) (d:List qT) (rec:Int->qF->Res) (g:qF->Res):Res:=bif decide (b<h) then bif inb b (List.length f) then j4C (nth (eS,[],[]) f b) λr=>bif lim ((List.length d)+1) then rec (Z9K (b+1)) (d++[r]) else none else none else g d
def j8I (f:List qT) (g:Int):(Int×qF)->(Int×qF->Res)->((qF->Res))->Res:=λv rec q=>j32 f g v.1 v.2 (λd b=>rec (d,b)) q
def jek (g:List qT) (h:Int) (n:Nat) (d:Int) (b:List qT) (f:qF->Res):Res:=Z1f (j8I g h) n (d,b) (f)
def jdN:Z1d Unit:=NdL 23 23 [.t 2 (pB 2),.t 3 (pB 3),.R 8 y30 .S,.I 9,.I 10] [(2,y30,[.O]),(3,y30,[.O])] (λd b=>(d.2.2.1,b.2.1.2)) (λd v=>(d.1,d.2.1,v.1,())) (λb v=>((b.1.1,b.1.2),(b.2.1.1,v.2),())) (λd b=>j8I d.1 d.2.1) λd b g=>((λf=>g (.exit 0) [(2,pB 2),(3,pB 3)] [(2,⟨y30,b.1.1,b.1.2,[.O]⟩),(3,⟨y30,b.2.1.1,f,[.O]⟩)]))
theorem jjC:CN 0 58 Tryz.f243 jdN:=lK (Za6 ja3 Zas) [] oN ([],[]) [(0,[2,3],[2,3])] ([],[]) λ_ _ _ _ _=>by kernel_rfl
def j47 (c:List qT) (d:qF->Res):Res:=jek c (nI (List.length c)) Z1c 0 [] λb=>d b
def j67:Sig Unit:=sg [.borrow y30 true] [true] [(y30,none)] [] λd f k=>j47 d.1 (λb=>k [⟨y30,true,b,[.O]⟩] [] [])
theorem jfh:SO 243 j67:=fK (np:=0) (Za6 ja3 Zas) [jdN] (oI 58 0 @jjC oN) false Tryz.func243 λ_ _ _ _=>by kernel_rfl
def j58 (name:qB) (d:List qT) (h:Int) (b:Int) (rec:Int->Res) (f:Unit->Res) (g:Int->Res):Res:=bif decide (b<h) then bif inb b (List.length d) then bif sEq (nth (eS,[],[]) d b).1 name then g b else rec (Z9K (b+1)) else none else f ()
def jaJ (name:qB) (d:List qT) (f:Int):Int->(Int->Res)->((Unit->Res)×(Int->Res))->Res:=λv rec q=>j58 name d f v (λb=>rec (b)) q.1 q.2
def jgV (name:qB) (g:List qT) (h:Int) (n:Nat) (b:Int) (d:Unit->Res) (f:Int->Res):Res:=Z1f (jaJ name g h) n (b) (d,f)
def jfU:Z1d Unit:=NdL 21 21 [.S 1,.R 8 y30 .S,.I 9,.I 10] [] (λb d=>(b.2.2.2.1)) (λb v=>(b.1,b.2.1,b.2.2.1,v,())) (λd v=>()) (λb d=>jaJ b.1 b.2.1 b.2.2.1) λb d f=>((λ_=>f (.exit 0) [] []),(λg=>f .ret [(4,vI g)] []))
theorem jlx:CN 0 26 Tryz.f113 jfU:=lK Zas [] oN ([],[]) [(0,[],[])] ([4],[]) λ_ _ _ _ _=>by kernel_rfl
def j2d (c:List qT) (name:qB) (b:Int->Res):Res:=jgV name c (nI (List.length c)) Z1c 0 (λ_=>b (-1)) (λt=>b t)
def j42:Sig Unit:=sg [.look y30 true,.look .str false] [false] [(y30,none),(.str,none)] [] λb f k=>j2d b.1 b.2.1 (λd=>k [wI d] [] [])
theorem jd7:SO 113 j42:=fK (np:=0) Zas [jfU] (oI 26 0 @jlx oN) false Tryz.func113 λ_ _ _ _=>by kernel_rfl
def jbC (done:Bool) (t:qB×qE×qL) (b:List qT) (x:qB×qE×qL) (d:Bool->qF->Res):Res:=bif !done then bif sLt t.1 x.1 then bif lim ((List.length b)+1) then d true (b++[t]) else none else d done b else d done b
def jb0:Z1d Unit:=Nd 48 48 [.t 3 (pB 3),.t 4 (pB 4),.t 5 (pB 5),.B 6,.t 8 (pB 8),.R 11 y30 .S,.I 12,.I 13] [(3,y29,[.S,.S]),(4,y30,[.O]),(5,y30,[.PS]),(8,y29,[.S,.S])] λg b h=>jbC g.1 b.1.2 b.2.2.1.2 b.2.2.2.1.2 (λd f=>h .normal [(3,pB 3),(4,pB 4),(5,pB 5),(6,vB d),(8,pB 8),(11,v1 y30 g.2.1 .S),(12,vI g.2.2.1),(13,vI g.2.2.2.1)] [(3,⟨y29,b.1.1,b.1.2,[.S,.S]⟩),(4,⟨y30,b.2.1.1,b.2.1.2,[.O]⟩),(5,⟨y30,b.2.2.1.1,f,[.PS]⟩),(8,⟨y29,b.2.2.2.1.1,b.2.2.2.1.2,[.S,.S]⟩)])
theorem jkA:CN 0 15666 Tryz.f309 jb0:=nK Zas [] oN ([3,4,5,6,8,11,12,13],[3,4,5,8]) [] ([],[]) λ_ _ _=>by kernel_rfl
def j49 (g:List qT) (i:Int) (t:qB×qE×qL) (done:Bool) (b:Int) (h:List qT) (rec:Bool->Int->qF->Res) (j:Bool->qF->Res):Res:=bif decide (b<i) then bif inb b (List.length g) then jbC done t h (nth (eS,[],[]) g b) λf d=>bif lim ((List.length d)+1) then rec f (Z9K (b+1)) (d++[nth (eS,[],[]) g b]) else none else none else j done h
def j9z (d:List qT) (f:Int) (t:qB×qE×qL):(Bool×Int×qF)->(Bool×Int×qF->Res)->((Bool->qF->Res))->Res:=λv rec q=>j49 d f t v.1 v.2.1 v.2.2 (λdone g b=>rec (done,g,b)) q
def jbB (d:List qT) (f:Int) (t:qB×qE×qL) (n:Nat) (done:Bool) (g:Int) (b:List qT) (h:Bool->qF->Res):Res:=Z1f (j9z d f t) n (done,g,b) (h)
def jep:Z1d Unit:=λσ k=>rdN σ 48<|rdT σ 3 (pB 3)<|rdT σ 4 (pB 4)<|rdT σ 5 (pB 5)<|rdO σ 6 λdone=>rd1 σ 11 y30 .S λg=>rdI σ 12 λh=>rdI σ 13 λi=>rdB σ 3 y29 [.S,.S] λa t=>rdB σ 4 y30 [.O] λj m=>rdB σ 5 y30 [.PS] λl f=>jbB g h t Z1c done i f (λb d=>k (.exit 0) (mkS 48 48 [(3,pB 3),(4,pB 4),(5,pB 5),(6,vB b)] [(3,⟨y29,a,t,[.S,.S]⟩),(4,⟨y30,j,m,[.O]⟩),(5,⟨y30,l,d,[.PS]⟩)]))
def jeC:Z1d Unit:=λσ k=>jep (σ.wk [] [(5,[.PS])]) k
theorem jkz:CN 0 122 Tryz.f309 jeC:=λr=>ZaJ [] [(5,[.PS])] (jn5 follows j2e Zas r [jb0] (oI 114 0 @jkA oN) [3,4,5,6,11,12,13] [3,4,5] ([],[]) [(0,[3,4,5,6],[3,4,5])] ([],[]) (y:=jep) λσ k _ h=>rN h λH h=>rT h λD h=>rT h λE h=>rT h λF h=>rV h λdone G h=>rV h λf i h=>rV h λg j h=>rV h λz l h=>rB h λa t n h=>rB h λA C p h=>rB h λB w q h=>⟨_,ZaM (m:=48) H (sC D (sC E (sC F (sC G (sC i (sC j (sC l sN))))))) (bC n (bC p (bC q bN))),.trans (Z9u (λv:Bool×Int×qF=>(mkS 48 48 [(3,pB 3),(4,pB 4),(5,pB 5),(6,vB v.1),(11,v1 y30 f .S),(12,vI g),(13,vI v.2.1)] [(3,⟨y29,a,t,[.S,.S]⟩),(4,⟨y30,A,C,[.O]⟩),(5,⟨y30,B,v.2.2,[.PS]⟩)])) (j9z f g t) (λ(k:Z83 Unit)=>(((λb d=>k (.exit 0) (mkS 48 48 [(3,pB 3),(4,pB 4),(5,pB 5),(6,vB b)] [(3,⟨y29,a,t,[.S,.S]⟩),(4,⟨y30,A,C,[.O]⟩),(5,⟨y30,B,d,[.PS]⟩)]))):(Bool->qF->Res))) (λv rec k=>by kernel_rfl) Z1c (done,z,w) k) h⟩)
def j93 (c:List qT) (t:qB×qE×qL) (d:qF->Res):Res:=jbB c (nI (List.length c)) t Z1c false 0 [] λdone b=>bif !done then bif lim ((List.length b)+1) then d (b++[t]) else none else d b
def jcf:Sig Unit:=sg [.borrow y30 true,.borrow y29 true] [true] [(y30,none),(y29,none)] [] λb f k=>j93 b.1 b.2.1 (λd=>k [⟨y30,true,d,[.PS]⟩] [] [])
theorem jmw:SO 309 jcf:=fK (np:=0) Zas [jb0,jeC] (oI 122 1 @jkz oN) false Tryz.func309 λ_ _ _ _=>by kernel_rfl
def j48 (s:qB) (d:qL) (h:Int) (b:Int) (rec:Int->Res) (f:Unit->Res) (g:Unit->Res):Res:=bif decide (b<h) then bif inb b (List.length d) then bif sEq (nth eS d b) s then g () else rec (Z9K (b+1)) else none else f ()
def j9y (s:qB) (b:qL) (d:Int):Int->(Int->Res)->((Unit->Res)×(Unit->Res))->Res:=λv rec q=>j48 s b d v (λf=>rec (f)) q.1 q.2
def jfG (s:qB) (f:qL) (g:Int) (n:Nat) (h:Int) (b:Unit->Res) (d:Unit->Res):Res:=Z1f (j9y s f g) n (h) (b,d)
def jeB:Z1d Unit:=NdL 17 17 [.S 1,.R 7 y0 .S,.I 8,.I 9] [] (λb d=>(b.2.2.2.1)) (λb v=>(b.1,b.2.1,b.2.2.1,v,())) (λd v=>()) (λb d=>j9y b.1 b.2.1 b.2.2.1) λb d f=>((λ_=>f (.exit 0) [] []),(λ_=>f .ret [(4,vB true)] []))
theorem jky:CN 0 26 Tryz.f157 jeB:=lK Zas [] oN ([],[]) [(0,[],[])] ([4],[]) λ_ _ _ _ _=>by kernel_rfl
def j92 (l:qL) (s:qB) (b:Bool->Res):Res:=jfG s l (nI (List.length l)) Z1c 0 (λ_=>b false) (λ_=>b true)
def jgT:Sig Unit:=sg [.look y0 false,.look .str false] [false] [(y0,none),(.str,none)] [] λb f k=>j92 b.1 b.2.1 (λd=>k [wB d] [] [])
theorem jmv:SO 157 jgT:=fK (np:=0) Zas [jeB] (oI 26 0 @jky oN) false Tryz.func157 λ_ _ _ _=>by kernel_rfl
def j4B (t:qB×qE×qL) (d:qG) (b:Int->Res):Res:=j0G t d.2.2.2.2.1 λr=>bif (d.1==3) then bif inb 0 (List.length d.2.2.1) then j0G t (nth (eS,0,false,false,0,0,eS) d.2.2.1 0).1 λf=>bif decide (f>=0) then b 5 else bif ((nI (List.length t.2.1))==8) then b 6 else b 0 else none else bif (d.1==4) then bif decide (r<0) then b 7 else j92 t.2.2 d.2.2.2.2.1 λg=>bif g then b 8 else b 0 else bif (d.1==5) then j0G t d.2.2.2.2.2 λh=>bif decide (h>=0) then b 5 else bif decide (r<0) then b 7 else b 0 else b 0
def jay:Sig Unit:=sg [.look y29 true,.look y13 true] [false] [(y29,none),(y13,none)] [] λb f k=>j4B b.1 b.2.1 (λd=>k [wI d] [] [])
theorem jjW:SO 310 jay:=fK (np:=0) (Za6 jmv (Za6 j5E Zas)) [] oN false Tryz.func310 λ_ _ _ _=>by delta j4B j2o jgT;refine gz j0G λ_ b=>gz j92 λ_ d=> ?_;rewrite [<-b,<-d];kernel_rfl
def j5s (t:qB×qE×qL) (b:Unit->Res):Res:=Z87 (Z87 (bif lim (0+(List.length t.2.2)) then Z87 (b ()) (b ()) else none) (bif lim (0+(List.length t.2.2)) then b () else none)) (bif lim (0+(List.length t.2.2)) then b () else none)
def j0T:Z1d Unit:=Nd 92 92 [.t 2 (pB 2),.t 3 (pB 3),.t 4 (pB 4)] [(2,y29,[.S,.S]),(3,y13,[.S,.S]),(4,y29,[.O,.O])] λf b d=>j5s b.1.2 (λ_=>d .normal [(2,pB 2),(3,pB 3),(4,pB 4),(5,pB 5)] [(2,⟨y29,b.1.1,b.1.2,[.S,.S]⟩),(3,⟨y13,b.2.1.1,b.2.1.2,[.S,.S]⟩),(4,⟨y29,b.2.2.1.1,b.2.2.1.2,[.O,.O]⟩),(5,⟨y29,false,(b.1.2.1,[],b.1.2.2.2),[.O,.O]⟩)])
theorem jhG:CN 0 6 Tryz.f311 j0T:=nK Zas [] oN ([2,3,4,5],[2,3,4,5]) [] ([],[]) λ_ _ _=>by kernel_rfl
def j5t (d:qG) (c:qB×Int×Bool×Bool×Int×Int×qB) (b:Unit->Res) (f:Unit->Res):Res:=bif (d.1==4) then bif sEq c.1 d.2.2.2.2.1 then f () else b () else b ()
def j1v:Z1d Unit:=Nd 92 92 [.t 3 (pB 3),.t 4 (pB 4),.t 5 (pB 5),.t 7 (pB 7),.R 17 y8 .S,.I 18,.I 19] [(3,y13,[.S,.S]),(4,y29,[.O,.O]),(5,y29,[.O,.O]),(7,y7,[])] λd b f=>j5t b.1.2 b.2.2.2.1.2 (λ_=>f .normal [(3,pB 3),(4,pB 4),(5,pB 5),(7,pB 7),(17,v1 y8 d.1 .S),(18,vI d.2.1),(19,vI d.2.2.1)] [(3,⟨y13,b.1.1,b.1.2,[.S,.S]⟩),(4,⟨y29,b.2.1.1,b.2.1.2,[.O,.O]⟩),(5,⟨y29,b.2.2.1.1,b.2.2.1.2,[.O,.O]⟩),(7,⟨y7,b.2.2.2.1.1,b.2.2.2.1.2,[]⟩)]) (λ_=>f (.exit 1) [(3,pB 3),(4,pB 4),(5,pB 5),(17,v1 y8 d.1 .S),(18,vI d.2.1),(19,vI d.2.2.1),(27,.ptr ⟨true,7,[.fst]⟩),(28,vS b.2.2.2.1.2.1),(29,.ptr ⟨true,3,[.snd,.snd,.snd,.snd,.fst]⟩),(30,vS b.1.2.2.2.2.2.1),(31,vB (sEq b.2.2.2.1.2.1 b.1.2.2.2.2.2.1))] [(3,⟨y13,b.1.1,b.1.2,[.S,.S]⟩),(4,⟨y29,b.2.1.1,b.2.1.2,[.O,.O]⟩),(5,⟨y29,b.2.2.1.1,b.2.2.1.2,[.O,.O]⟩),(7,⟨y7,b.2.2.2.1.1,b.2.2.2.1.2,[]⟩)])
theorem jhH:CN 0 7474 Tryz.f311 j1v:=nK Zas [j0T] oN ([3,4,5,7,17,18,19],[3,4,5,7]) [(1,[3,4,5,17,18,19,27,28,29,30,31],[3,4,5,7])] ([],[]) λ_ _ _=>by kernel_rfl
def j5u (d:qG) (c:qB×Int×Bool×Bool×Int×Int×qB) (b:qC->Res):Res:=bif (d.1==5) then bif sEq c.1 d.2.2.2.2.1 then b (d.2.2.2.2.2,c.2) else b c else b c
def j2s:Z1d Unit:=Nd 92 92 [.t 3 (pB 3),.t 4 (pB 4),.t 5 (pB 5),.t 7 (pB 7),.R 17 y8 .S,.I 18,.I 19] [(3,y13,[.S,.S]),(4,y29,[.O,.O]),(5,y29,[.O,.O]),(7,y7,[])] λd b f=>j5u b.1.2 b.2.2.2.1.2 (λc1=>f .normal [(3,pB 3),(4,pB 4),(5,pB 5),(7,pB 7),(17,v1 y8 d.1 .S),(18,vI d.2.1),(19,vI d.2.2.1)] [(3,⟨y13,b.1.1,b.1.2,[.S,.S]⟩),(4,⟨y29,b.2.1.1,b.2.1.2,[.O,.O]⟩),(5,⟨y29,b.2.2.1.1,b.2.2.1.2,[.O,.O]⟩),(7,⟨y7,b.2.2.2.1.1,c1,[]⟩)])
theorem jhI:CN 0 14950 Tryz.f311 j2s:=nK Zas [j0T,j1v] oN ([3,4,5,7,17,18,19],[3,4,5,7]) [] ([],[]) λ_ _ _=>by kernel_rfl
def j15 (g:List qC) (h:Int) (d:qG) (f:Int) (b:qB×qE×qL) (rec:Int->qT->Res) (i:qT->Res):Res:=bif decide (f<h) then bif inb f (List.length g) then j5t d (nth (eS,0,false,false,0,0,eS) g f) (λ_=>j5u d (nth (eS,0,false,false,0,0,eS) g f) λc=>bif lim ((List.length b.2.1)+1) then rec (Z9K (f+1)) (b.1,(b.2.1++[c]),b.2.2) else none) (λ_=>rec (Z9K (f+1)) b) else none else i b
def j20 (f:List qC) (g:Int) (d:qG):(Int×qT)->(Int×qT->Res)->((qT->Res))->Res:=λv rec q=>j15 f g d v.1 v.2 (λh b=>rec (h,b)) q
def j5q (f:List qC) (g:Int) (d:qG) (n:Nat) (h:Int) (b:qB×qE×qL) (i:qT->Res):Res:=Z1f (j20 f g d) n (h,b) (i)
def j59:Z1d Unit:=NdL 92 92 [.t 3 (pB 3),.t 4 (pB 4),.t 5 (pB 5),.R 17 y8 .S,.I 18,.I 19] [(3,y13,[.S,.S]),(4,y29,[.O,.O]),(5,y29,[.O,.O])] (λd b=>(d.2.2.1,b.2.2.1.2)) (λd v=>(d.1,d.2.1,v.1,())) (λb v=>((b.1.1,b.1.2),(b.2.1.1,b.2.1.2),(b.2.2.1.1,v.2),())) (λd b=>j20 d.1 d.2.1 b.1.2) λd b g=>((λf=>g (.exit 0) [(3,pB 3),(4,pB 4),(5,pB 5)] [(3,⟨y13,b.1.1,b.1.2,[.S,.S]⟩),(4,⟨y29,b.2.1.1,b.2.1.2,[.O,.O]⟩),(5,⟨y29,b.2.2.1.1,f,[.O,.O]⟩)]))
theorem jhE:CN 0 58 Tryz.f311 j59:=lK Zas [j0T,j1v,j2s] (oI 114 1 @jhH (oI 230 2 @jhI oN)) ([],[]) [(0,[3,4,5],[3,4,5])] ([],[]) λ_ _ _ _ _=>by delta j20 j15 j1v j2s;refine gz j5t λ_ b=>gz j5u λ_ d=> ?_;rewrite [<-b,<-d];kernel_rfl
def j0i (g:Int) (d:qG) (f:Int) (b:qB×qE×qL) (rec:Int->qT->Res) (h:qT->Res):Res:=bif decide (f<g) then bif (d.1==5) then bif inb f (List.length b.2.2) then bif sEq (nth eS b.2.2 f) d.2.2.2.2.1 then bif inb f (List.length b.2.2) then rec (Z9K (f+1)) (b.1,b.2.1,upd b.2.2 f d.2.2.2.2.2) else none else rec (Z9K (f+1)) b else none else rec (Z9K (f+1)) b else h b
def j4q (f:Int) (d:qG):(Int×qT)->(Int×qT->Res)->((qT->Res))->Res:=λv rec q=>j0i f d v.1 v.2 (λg b=>rec (g,b)) q
def j5r (f:Int) (d:qG) (n:Nat) (g:Int) (b:qB×qE×qL) (h:qT->Res):Res:=Z1f (j4q f d) n (g,b) (h)
def j87:Z1d Unit:=NdL 92 92 [.t 3 (pB 3),.t 4 (pB 4),.t 5 (pB 5),.I 55,.I 56] [(3,y13,[.S,.S]),(4,y29,[.O,.O]),(5,y29,[.O,.O])] (λd b=>(d.2.1,b.2.2.1.2)) (λd v=>(d.1,v.1,())) (λb v=>((b.1.1,b.1.2),(b.2.1.1,b.2.1.2),(b.2.2.1.1,v.2),())) (λd b=>j4q d.1 b.1.2) λd b g=>((λf=>g (.exit 2) [(3,pB 3),(4,pB 4),(5,pB 5)] [(3,⟨y13,b.1.1,b.1.2,[.S,.S]⟩),(4,⟨y29,b.2.1.1,b.2.1.2,[.O,.O]⟩),(5,⟨y29,b.2.2.1.1,f,[.O,.O]⟩)]))
theorem jhF:CN 0 122 Tryz.f311 j87:=lK Zas [j0T,j1v,j2s,j59] oN ([],[]) [(2,[3,4,5],[3,4,5])] ([],[]) λ_ _ _ _ _=>by kernel_rfl
def j3q (t:qB×qE×qL) (d:qG) (g:qT->Res):Res:=j5s t λ_=>j5q t.2.1 (nI (List.length t.2.1)) d Z1c 0 (t.1,[],t.2.2) λf=>j5r (nI (List.length f.2.2)) d Z1c 0 f λb=>bif (d.1==3) then bif inb 0 (List.length d.2.2.1) then bif lim ((List.length b.2.1)+1) then g (b.1,(b.2.1++[nth (eS,0,false,false,0,0,eS) d.2.2.1 0]),b.2.2) else none else none else g b
def j9t:Sig Unit:=sg [.borrow y29 true,.borrow y13 true] [true] [(y29,none),(y13,none)] [] λb f k=>j3q b.1 b.2.1 (λd=>k [⟨y29,true,d,[.O,.O]⟩] [] [])
theorem jiZ:SO 311 j9t:=fK (np:=0) Zas [j0T,j1v,j2s,j59,j87] (oI 6 0 @jhG (oI 58 3 @jhE (oI 122 4 @jhF oN))) false Tryz.func311 λ_ _ _ _=>by delta j3q j0T j59 j87 j5q j5r;refine gz j5s λ_ b=>gz j20 λ_ d=>gz j4q λ_ f=> ?_;rewrite [<-b,<-d,<-f];kernel_rfl
theorem ja1:FS [(113,j42),(210,j41),(242,j7V),(243,j67),(286,jaz),(309,jcf),(310,jay),(311,j9t)]:=(Za6 jd7 (Za6 jd4 (Za6 jhm (Za6 jfh (Za6 ja3 (Za6 jmw (Za6 jjW (Za6 jiZ Zas))))))))
def j43 (d:qG) (b:List qT) (f:qF->Res):Res:=j4C (d.2.1,d.2.2.1,d.2.2.2.1) λr=>j93 b r λg=>f g
def j8L:Z1d Unit:=λσ k=>rdN σ 88<|rdT σ 3 (pB 3)<|rdT σ 4 (pB 4)<|rdT σ 7 (pB 7)<|rdB σ 3 y13 [.S,.S] λa d=>rdB σ 4 y30 [.O] λg i=>rdB σ 7 y30 [.S] λh b=>j43 d b (λf=>k .ret (mkS 88 88 [(4,pB 4),(5,vI 0)] [(4,⟨y30,g,f,[.PS]⟩)]))
def j5B:Z1d Unit:=λσ k=>j8L (σ.wk [] [(7,[.S])]) k
theorem jiv:CN 0 1003 Tryz.f287 j5B:=λi=>ZaJ [] [(7,[.S])] (jn6 follows j2e ja1 i [] oN ([],[]) [] ([4,5],[4]) (y:=j8L) λσ k _ h=>rN h λr h=>rT h λn h=>rT h λp h=>rT h λq h=>rB h λa d b h=>rB h λz B f h=>rB h λA w g h=>⟨_,ZaM (m:=88) r (sC n (sC p (sC q sN))) (bC b (bC f (bC g bN))),.trans (by delta j43 jaz jcf;refine gz j4C λ_ j=>gz j93 λ_ l=> ?_;rewrite [<-j,<-l];kernel_rfl) h⟩)
def j6H (d:Int) (b:List qT) (f:Unit->Res):Res:=bif Z8e 0 d (List.length b) then bif Z8e (Z9K (d+1)) (nI (List.length b)) (List.length b) then bif lim (0+(List.length (sub b 0 d))) then bif lim ((List.length (sub b 0 d))+(List.length (sub b (Z9K (d+1)) (nI (List.length b))))) then f () else none else none else none else none
def j8M:Z1d Unit:=λσ k=>rdN σ 88<|rdT σ 4 (pB 4)<|rdI σ 6 λd=>rdT σ 7 (pB 7)<|rdB σ 4 y30 [.O] λa g=>rdB σ 7 y30 [.S] λf b=>j6H d b (λ_=>k .ret (mkS 88 88 [(4,pB 4),(5,vI 0)] [(4,⟨y30,a,((sub b 0 d)++(sub b (Z9K (d+1)) (nI (List.length b)))),[.PS]⟩)]))
def j8O:Z1d Unit:=λσ k=>j8M (σ.wk [] [(7,[.S])]) k
theorem jiw:CN 0 4090 Tryz.f287 j8O:=λf=>ZaJ [] [(7,[.S])] (jn6 follows j2e ja1 f [j5B] oN ([],[]) [] ([4,5],[4]) (y:=j8M) λσ k _ h=>rN h λn h=>rT h λi h=>rV h λg j h=>rT h λl h=>rB h λa r b h=>rB h λq p d h=>⟨_,ZaM (m:=88) n (sC i (sC j (sC l sN))) (bC b (bC d bN)),.trans (by kernel_rfl) h⟩)
def j1S (c:List qT) (d:qG) (f:qF->Int->Res):Res:=j6G c λr=>bif !r then f [] 1 else j2b d λi=>bif !i then f [] 1 else j2d c d.2.1 λb=>j47 c λg=>bif (d.1==1) then bif decide (b>=0) then f [] 2 else bif ((nI (List.length c))==6) then f [] 3 else j43 d g λt=>f t 0 else bif decide (b<0) then f [] 4 else bif inb b (List.length c) then j4B (nth (eS,[],[]) c b) d λh=>bif (h != 0) then f [] h else bif (d.1==2) then j6H b g λ_=>f ((sub g 0 b)++(sub g (Z9K (b+1)) (nI (List.length g)))) 0 else bif inb b (List.length c) then j3q (nth (eS,[],[]) c b) d λj=>bif inb b (List.length g) then f (upd g b j) 0 else none else none else none
def j4X:Sig Unit:=sg [.borrow y30 true,.borrow y13 true] [true,false] [(y30,none),(y13,none)] [] λb g k=>j1S b.1 b.2.1 (λd f=>k [⟨y30,true,d,[.S]⟩,wI f] [] [])
theorem jdZ:SO 287 j4X:=fK (np:=0) ja1 [j5B,j8O] (oI 1003 0 @jiv (oI 4090 1 @jiw oN)) true Tryz.func287 λ_ _ _ _=>by delta j1S j7V j41 j42 j67 j5B jay j8O j9t;delta j8L j8M;refine gz j6G λ_ b=>gz j2b λ_ d=>gz j2d λ_ f=>gz j47 λ_ g=>gz j43 λ_ h=>gz j4B λ_ i=>gz j6H λ_ j=>gz j3q λ_ k=> ?_;rewrite [<-b,<-d,<-f,<-g,<-h,<-i,<-j,<-k];kernel_rfl
def j3l (l:qL) (b:qL->Res):Res:=bif lim (0+(List.length l)) then b l else none
def jjM:Sig Unit:=sg [.borrow y0 false] [false] [(y0,none)] [] λd f k=>j3l d.1 (λb=>k [w1 y0 b .O] [] [])
theorem jcW:SO 217 jjM:=fK (np:=0) Zas [] oN false Tryz.func217 λ_ _ _ _=>by kernel_rfl
def j3k (t:qB×qE×qL) (b:qT->Res):Res:=bif lim (0+(List.length t.2.1)) then j3l t.2.2 λr=>b (t.1,t.2.1,r) else none
def jjL:Sig Unit:=sg [.borrow y29 true] [true] [(y29,none)] [] λd f k=>j3k d.1 (λb=>k [⟨y29,true,b,[.O,.O]⟩] [] [])
theorem j9i:SO 283 jjL:=fK (np:=0) (Za6 jcW Zas) [] oN false Tryz.func283 λ_ _ _ _=>by kernel_rfl
def j2F (d:qG) (b:qT->Res):Res:=j3k (d.2.1,d.2.2.1,d.2.2.2.1) λr=>b r
def j7q:Sig Unit:=sg [.borrow y13 true] [true] [(y13,none)] [] λd f k=>j2F d.1 (λb=>k [⟨y29,true,b,[.O,.O]⟩] [] [])
theorem jdW:SO 269 j7q:=fK (np:=0) (Za6 j9i Zas) [] oN false Tryz.func269 λ_ _ _ _=>by kernel_rfl
def j4J (c:qB×Int×Bool×Bool×Int×Int×qB) (b:Bool->Res):Res:=j0s c.1 λr=>bif !r then b false else j0f c.2.1 1 3 λd=>bif !d then b false else j0Z c.2.2.2.2 λf=>bif !f then b false else bif !c.2.2.2.1 then b ((c.2.2.2.2.1==0)&&((c.2.2.2.2.2.1==0)&&(sEq c.2.2.2.2.2.2 eS))) else bif (c.2.2.2.2.1==c.2.1) then b true else bif (c.2.2.2.2.1==0) then b (!c.2.2.1) else b false
def jap:Sig Unit:=sg [.look y7 true] [false] [(y7,none)] [] λd f k=>j4J d.1 (λb=>k [wB b] [] [])
theorem jha:SO 270 jap:=fK (np:=0) (Za6 j95 (Za6 j2E (Za6 j7E Zas))) [] oN false Tryz.func270 λ_ _ _ _=>by delta j4J j2G j1R j7U;refine gz j0s λ_ b=>gz j0f λ_ d=>gz j0Z λ_ f=> ?_;rewrite [<-b,<-d,<-f];kernel_rfl
def jeN (c:qB×Int×Bool×Bool×Int×Int×qB) (d:qB) (b:Bool->Res):Res:=b (sEq c.1 d)
def jmQ:Sig Unit:=sg [.look y7 true,.rptr .str] [false] [(y7,none),(.str,none)] [] λb f k=>jeN b.1 b.2.1 (λd=>k [wB d] [] [])
theorem jgu:SO 308 jmQ:=fK (np:=0) Zas [] oN false Tryz.func308 λ_ _ _ _=>by kernel_rfl
def j0Q (s:List qC) (f:qB) (h:Int) (b:Int) (rec:Int->Res) (d:Unit->Res) (g:Int->Res):Res:=bif decide (b<h) then bif inb b (List.length s) then jeN (nth (eS,0,false,false,0,0,eS) s b) f λr=>bif r then g b else rec (Z9K (b+1)) else none else d ()
def j3c (s:List qC) (f:qB) (b:Int):Int->(Int->Res)->((Unit->Res)×(Int->Res))->Res:=λv rec q=>j0Q s f b v (λd=>rec (d)) q.1 q.2
def j8u (s:List qC) (f:qB) (g:Int) (n:Nat) (h:Int) (b:Unit->Res) (d:Int->Res):Res:=Z1f (j3c s f g) n (h) (b,d)
def j84:Z1d Unit:=NdL 19 19 [.R 0 y8 .S,.c 1 308 [.str] .str [],.I 7,.I 8] [] (λb d=>(b.2.2.2.1)) (λb v=>(b.1,b.2.1,b.2.2.1,v,())) (λd v=>()) (λb d=>j3c b.1 b.2.1 b.2.2.1) λb d f=>((λ_=>f (.exit 0) [] []),(λg=>f .ret [(4,vI g)] []))
theorem jdt:CN 0 26 Tryz.f307 j84:=lK (Za6 jgu Zas) [] oN ([],[]) [(0,[],[])] ([4],[]) λ_ _ _ _ _=>by kernel_rfl
def j6C (s:List qC) (f:qB) (b:Int->Res):Res:=j8u s f (nI (List.length s)) Z1c 0 (λ_=>b (-1)) (λt=>b t)
def jeS:Sig Unit:=sg [.look y8 false,.rclos 308 [.str]] [false] [(y8,none),(.str,none)] [] λb f k=>j6C b.1 b.2.1 (λd=>k [wI d] [] [])
theorem jeH:SO 307 jeS:=fK (np:=0) (Za6 jgu Zas) [j84] (oI 26 0 @jdt oN) false Tryz.func307 λ_ _ _ _=>by kernel_rfl
def j0e (t:qB×qE×qL) (name:qB) (b:Int->Res):Res:=j6C t.2.1 name λr=>b r
def j0I:Sig Unit:=sg [.look y29 true,.look .str false] [false] [(y29,none),(.str,none)] [] λb f k=>j0e b.1 b.2.1 (λd=>k [wI d] [] [])
theorem j3t:SO 284 j0I:=fK (np:=0) (Za6 jeH Zas) [] oN false Tryz.func284 λ_ _ _ _=>by kernel_rfl
theorem jbc:FS [(160,j2G),(163,j1R),(270,jap),(284,j0I)]:=(Za6 j95 (Za6 j2E (Za6 jha (Za6 j3t Zas))))
def j1J (d:List qC) (f:Int) (t:qB×qE×qL) (b:Int) (rec:Int->Res) (h:Unit->Res) (g:Unit->Res):Res:=bif decide (b<f) then bif inb b (List.length d) then j4J (nth (eS,0,false,false,0,0,eS) d b) λr=>bif !r then g () else j0e t (nth (eS,0,false,false,0,0,eS) d b).1 λi=>bif (i != b) then g () else rec (Z9K (b+1)) else none else h ()
def j2P (b:List qC) (d:Int) (t:qB×qE×qL):Int->(Int->Res)->((Unit->Res)×(Unit->Res))->Res:=λv rec q=>j1J b d t v (λf=>rec (f)) q.1 q.2
def j7n (b:List qC) (d:Int) (t:qB×qE×qL) (n:Nat) (f:Int) (g:Unit->Res) (h:Unit->Res):Res:=Z1f (j2P b d t) n (f) (g,h)
def j6N:Z1d Unit:=NdL 68 68 [.t 1 (pB 1),.R 10 y8 .S,.I 11,.I 12] [(1,y29,[.S,.S])] (λb d=>(b.2.2.1)) (λb v=>(b.1,b.2.1,v,())) (λd v=>((d.1.1,d.1.2),())) (λb d=>j2P b.1 b.2.1 d.1.2) λb d f=>((λ_=>f (.exit 0) [(1,pB 1)] [(1,⟨y29,d.1.1,d.1.2,[.S,.S]⟩)]),(λ_=>f .ret [(2,vB false)] []))
theorem jji:CN 0 26 Tryz.f268 j6N:=lK jbc [] oN ([],[]) [(0,[1],[1])] ([2],[]) λ_ _ _ _ _=>by delta j2P j1J jap j0I;refine gz j4J λ_ b=>gz j0e λ_ d=> ?_;rewrite [<-b,<-d];kernel_rfl
def j2Q (f:qL) (g:Int) (t:qB×qE×qL) (d:Int) (b:Int) (rec:Int->Int->Res) (i:Unit->Res) (h:Unit->Res):Res:=bif decide (b<g) then bif inb b (List.length f) then j0e t (nth eS f b) λr=>bif decide (r<=d) then h () else bif inb r (List.length t.2.1) then bif !(nth (eS,0,false,false,0,0,eS) t.2.1 r).2.2.1 then h () else rec r (Z9K (b+1)) else none else none else i ()
def j5j (d:qL) (f:Int) (t:qB×qE×qL):(Int×Int)->(Int×Int->Res)->((Unit->Res)×(Unit->Res))->Res:=λv rec q=>j2Q d f t v.1 v.2 (λb g=>rec (b,g)) q.1 q.2
def j7o (d:qL) (f:Int) (t:qB×qE×qL) (n:Nat) (b:Int) (g:Int) (h:Unit->Res) (i:Unit->Res):Res:=Z1f (j5j d f t) n (b,g) (h,i)
def j9I:Z1d Unit:=NdL 68 68 [.t 1 (pB 1),.I 5,.R 30 y0 .S,.I 31,.I 32] [(1,y29,[.S,.S])] (λb d=>(b.1,b.2.2.2.1)) (λb v=>(v.1,b.2.1,b.2.2.1,v.2,())) (λd v=>((d.1.1,d.1.2),())) (λb d=>j5j b.2.1 b.2.2.1 d.1.2) λb d f=>((λ_=>f (.exit 2) [(1,pB 1)] [(1,⟨y29,d.1.1,d.1.2,[.S,.S]⟩)]),(λ_=>f .ret [(2,vB false)] []))
theorem jjj:CN 0 122 Tryz.f268 j9I:=lK jbc [j6N] oN ([],[]) [(2,[1],[1])] ([2],[]) λ_ _ _ _ _=>by kernel_rfl
def j0H (t:qB×qE×qL) (b:Bool->Res):Res:=j7n t.2.1 (nI (List.length t.2.1)) t Z1c 0 (λ_=>j7o t.2.2 (nI (List.length t.2.2)) t Z1c (-1) 0 (λ_=>j0s t.1 λr=>bif r then j0f (nI (List.length t.2.1)) 1 8 λd=>bif d then b (decide ((nI (List.length t.2.2))>0)) else b false else b false) (λ_=>b false)) (λ_=>b false)
def j3o:Sig Unit:=sg [.look y29 true] [false] [(y29,none)] [] λd f k=>j0H d.1 (λb=>k [wB b] [] [])
theorem j5D:SO 268 j3o:=fK (np:=0) jbc [j6N,j9I] (oI 26 0 @jji (oI 122 1 @jjj oN)) false Tryz.func268 λ_ _ _ _=>by delta j0H j6N j9I j2G j1R j7n j7o;refine gz j2P λ_ b=>gz j5j λ_ d=>gz j0s λ_ f=>gz j0f λ_ g=> ?_;rewrite [<-b,<-d,<-f,<-g];kernel_rfl
def j0d (a:qG) (b:qG) (d:Bool->Res):Res:=bif (a.1==b.1) then bif sEq a.2.1 b.2.1 then j1j a.2.2.1 b.2.2.1 λr=>bif r then j1Z a.2.2.2.1 b.2.2.2.1 λf=>bif f then bif sEq a.2.2.2.2.1 b.2.2.2.2.1 then d (sEq a.2.2.2.2.2 b.2.2.2.2.2) else d false else d false else d false else d false else d false
def j7s:Sig Unit:=sg [.look y13 true,.look y13 true] [false] [(y13,none),(y13,none)] [] λb f k=>j0d b.1 b.2.1 (λd=>k [wB d] [] [])
theorem ja2:SO 212 j7s:=fK (np:=0) (Za6 jhk (Za6 jfc Zas)) [] oN false Tryz.func212 λ_ _ _ _=>by delta j0d jbW j9Y;refine gz j1j λ_ b=>gz j1Z λ_ d=> ?_;rewrite [<-b,<-d];kernel_rfl
def j28 (d:qG) (b:Bool->Res):Res:=j0s d.2.1 λr=>bif !r then b false else bif (d.1==1) then j2F d λg=>j0H g λh=>bif h then bif sEq d.2.2.2.2.1 eS then b (sEq d.2.2.2.2.2 eS) else b false else b false else bif (d.1==2) then j0d d (d.1,d.2.1,[],[],eS,eS) λi=>b i else bif (d.1==3) then j0d d (d.1,d.2.1,d.2.2.1,[],eS,eS) λj=>bif j then bif ((nI (List.length d.2.2.1))==1) then bif inb 0 (List.length d.2.2.1) then j4J (nth (eS,0,false,false,0,0,eS) d.2.2.1 0) λk=>bif k then bif inb 0 (List.length d.2.2.1) then bif (nth (eS,0,false,false,0,0,eS) d.2.2.1 0).2.2.2.1 then b true else bif inb 0 (List.length d.2.2.1) then b (!(nth (eS,0,false,false,0,0,eS) d.2.2.1 0).2.2.1) else none else none else b false else none else b false else b false else bif (d.1==4) then j0d d (d.1,d.2.1,[],[],d.2.2.2.2.1,eS) λl=>bif l then j0s d.2.2.2.2.1 λm=>b m else b false else bif (d.1==5) then j0d d (d.1,d.2.1,[],[],d.2.2.2.2.1,d.2.2.2.2.2) λn=>bif n then j0s d.2.2.2.2.1 λp=>bif p then j0s d.2.2.2.2.2 λf=>b f else b false else b false else b false
def j3Z:Sig Unit:=sg [.look y13 true] [false] [(y13,none)] [] λd f k=>j28 d.1 (λb=>k [wB b] [] [])
theorem jcV:SO 211 j3Z:=fK (np:=0) (Za6 j95 (Za6 ja2 (Za6 j5D (Za6 jdW (Za6 jha Zas))))) [] oN false Tryz.func211 λ_ _ _ _=>by delta j28 j2G j7q j3o j7s jap;refine gz j0s λ_ b=>gz j2F λ_ d=>gz j0H λ_ f=>gz j0d λ_ g=>gz j4J λ_ h=> ?_;rewrite [<-b,<-d,<-f,<-g,<-h];kernel_rfl
def jab (d:qG) (b:qG->Res):Res:=bif lim (0+(List.length d.2.2.1)) then j3l d.2.2.2.1 λr=>b (d.1,d.2.1,d.2.2.1,r,d.2.2.2.2) else none
def jfA:Sig Unit:=sg [.borrow y13 true] [true] [(y13,none)] [] λd f k=>jab d.1 (λb=>k [⟨y13,true,b,[.O,.O]⟩] [] [])
theorem jl0:SO 275 jfA:=fK (np:=0) (Za6 jcW Zas) [] oN false Tryz.func275 λ_ _ _ _=>by kernel_rfl
def j4I (d:List qT) (h:Int) (c:List qT) (b:Int) (rec:Int->Res) (g:Unit->Res) (f:Unit->Res):Res:=bif decide (b<h) then bif inb b (List.length d) then j0H (nth (eS,[],[]) d b) λr=>bif !r then f () else bif decide (b>0) then bif inb (Z9K (b-1)) (List.length c) then bif sGe (nth (eS,[],[]) c (Z9K (b-1))).1 (nth (eS,[],[]) d b).1 then f () else rec (Z9K (b+1)) else none else rec (Z9K (b+1)) else none else g ()
def ja6 (b:List qT) (d:Int) (c:List qT):Int->(Int->Res)->((Unit->Res)×(Unit->Res))->Res:=λv rec q=>j4I b d c v (λf=>rec (f)) q.1 q.2
def jc4 (f:List qT) (g:Int) (c:List qT) (n:Nat) (h:Int) (b:Unit->Res) (d:Unit->Res):Res:=Z1f (ja6 f g c) n (h) (b,d)
def jfP:Z1d Unit:=NdL 37 37 [.t 1 (pB 1),.R 6 y30 .S,.I 7,.I 8] [(1,y30,[.S])] (λb d=>(b.2.2.1)) (λb v=>(b.1,b.2.1,v,())) (λd v=>((d.1.1,d.1.2),())) (λb d=>ja6 b.1 b.2.1 d.1.2) λb d f=>((λ_=>f (.exit 0) [(1,pB 1)] [(1,⟨y30,d.1.1,d.1.2,[.S]⟩)]),(λ_=>f .ret [(2,vB false)] []))
theorem jlm:CN 0 26 Tryz.f250 jfP:=lK (Za6 j5D Zas) [] oN ([],[]) [(0,[1],[1])] ([2],[]) λ_ _ _ _ _=>by kernel_rfl
def j6w (c:List qT) (b:Bool->Res):Res:=jc4 c (nI (List.length c)) c Z1c 0 (λ_=>b (decide ((nI (List.length c))<=6))) (λ_=>b false)
def j7T:Sig Unit:=sg [.look y30 true] [false] [(y30,none)] [] λd f k=>j6w d.1 (λb=>k [wB b] [] [])
theorem jh9:SO 250 j7T:=fK (np:=0) (Za6 j5D Zas) [jfP] (oI 26 0 @jlm oN) false Tryz.func250 λ_ _ _ _=>by kernel_rfl
def j2S (f:List qT) (h:Int) (b:Int) (d:List qT) (rec:Int->qF->Res) (g:qF->Res):Res:=bif decide (b<h) then bif inb b (List.length f) then j3k (nth (eS,[],[]) f b) λr=>bif lim ((List.length d)+1) then rec (Z9K (b+1)) (d++[r]) else none else none else g d
def j8B (f:List qT) (g:Int):(Int×qF)->(Int×qF->Res)->((qF->Res))->Res:=λv rec q=>j2S f g v.1 v.2 (λd b=>rec (d,b)) q
def je9 (g:List qT) (h:Int) (n:Nat) (d:Int) (b:List qT) (f:qF->Res):Res:=Z1f (j8B g h) n (d,b) (f)
def jdK:Z1d Unit:=NdL 23 23 [.t 2 (pB 2),.t 3 (pB 3),.R 8 y30 .S,.I 9,.I 10] [(2,y30,[.O]),(3,y30,[.O])] (λd b=>(d.2.2.1,b.2.1.2)) (λd v=>(d.1,d.2.1,v.1,())) (λb v=>((b.1.1,b.1.2),(b.2.1.1,v.2),())) (λd b=>j8B d.1 d.2.1) λd b g=>((λf=>g (.exit 0) [(2,pB 2),(3,pB 3)] [(2,⟨y30,b.1.1,b.1.2,[.O]⟩),(3,⟨y30,b.2.1.1,f,[.O]⟩)]))
theorem jjm:CN 0 58 Tryz.f231 jdK:=lK (Za6 j9i Zas) [] oN ([],[]) [(0,[2,3],[2,3])] ([],[]) λ_ _ _ _ _=>by kernel_rfl
def j3B (c:List qT) (d:qF->Res):Res:=je9 c (nI (List.length c)) Z1c 0 [] λb=>d b
def j5Y:Sig Unit:=sg [.borrow y30 true] [true] [(y30,none)] [] λd f k=>j3B d.1 (λb=>k [⟨y30,true,b,[.O]⟩] [] [])
theorem jf7:SO 231 j5Y:=fK (np:=0) (Za6 j9i Zas) [jdK] (oI 58 0 @jjm oN) false Tryz.func231 λ_ _ _ _=>by kernel_rfl
def jdc (t:qB×qE×qL) (d:qB) (b:Bool->Res):Res:=b (sEq t.1 d)
def jlC:Sig Unit:=sg [.look y29 true,.rptr .str] [false] [(y29,none),(.str,none)] [] λb f k=>jdc b.1 b.2.1 (λd=>k [wB d] [] [])
theorem jf3:SO 235 jlC:=fK (np:=0) Zas [] oN false Tryz.func235 λ_ _ _ _=>by kernel_rfl
def j0E (s:List qT) (f:qB) (h:Int) (b:Int) (rec:Int->Res) (d:Unit->Res) (g:Int->Res):Res:=bif decide (b<h) then bif inb b (List.length s) then jdc (nth (eS,[],[]) s b) f λr=>bif r then g b else rec (Z9K (b+1)) else none else d ()
def j2p (s:List qT) (f:qB) (b:Int):Int->(Int->Res)->((Unit->Res)×(Int->Res))->Res:=λv rec q=>j0E s f b v (λd=>rec (d)) q.1 q.2
def j7v (s:List qT) (f:qB) (g:Int) (n:Nat) (h:Int) (b:Unit->Res) (d:Int->Res):Res:=Z1f (j2p s f g) n (h) (b,d)
def j74:Z1d Unit:=NdL 19 19 [.R 0 y30 .S,.c 1 235 [.str] .str [],.I 7,.I 8] [] (λb d=>(b.2.2.2.1)) (λb v=>(b.1,b.2.1,b.2.2.1,v,())) (λd v=>()) (λb d=>j2p b.1 b.2.1 b.2.2.1) λb d f=>((λ_=>f (.exit 0) [] []),(λg=>f .ret [(4,vI g)] []))
theorem jc7:CN 0 26 Tryz.f234 j74:=lK (Za6 jf3 Zas) [] oN ([],[]) [(0,[],[])] ([4],[]) λ_ _ _ _ _=>by kernel_rfl
def j5c (s:List qT) (f:qB) (b:Int->Res):Res:=j7v s f (nI (List.length s)) Z1c 0 (λ_=>b (-1)) (λt=>b t)
def jdB:Sig Unit:=sg [.look y30 false,.rclos 235 [.str]] [false] [(y30,none),(.str,none)] [] λb f k=>j5c b.1 b.2.1 (λd=>k [wI d] [] [])
theorem jd3:SO 234 jdB:=fK (np:=0) (Za6 jf3 Zas) [j74] (oI 26 0 @jc7 oN) false Tryz.func234 λ_ _ _ _=>by kernel_rfl
def j0j (c:List qT) (name:qB) (b:Int->Res):Res:=j5c c name λr=>b r
def j0V:Sig Unit:=sg [.look y30 true,.look .str false] [false] [(y30,none),(.str,none)] [] λb f k=>j0j b.1 b.2.1 (λd=>k [wI d] [] [])
theorem j94:SO 176 j0V:=fK (np:=0) (Za6 jd3 Zas) [] oN false Tryz.func176 λ_ _ _ _=>by kernel_rfl
theorem j8a:FS [(95,j40),(176,j0V),(284,j0I)]:=(Za6 jd2 (Za6 j94 (Za6 j3t Zas)))
def j4O (d:qG) (t:qB×qE×qL) (b:Bool->Res):Res:=bif (d.1==3) then bif inb 0 (List.length d.2.2.1) then j0e t (nth (eS,0,false,false,0,0,eS) d.2.2.1 0).1 λr=>bif decide (r>=0) then b true else bif (d.1==5) then j0e t d.2.2.2.2.2 λf=>b (decide (f>=0)) else b false else none else bif (d.1==5) then j0e t d.2.2.2.2.2 λg=>b (decide (g>=0)) else b false
def j4j:Z1d Unit:=Nd 92 92 [.t 3 (pB 3),.t 6 (pB 6)] [(3,y13,[.S,.S]),(6,y29,[.S,.S])] λg b f=>j4O b.1.2 b.2.1.2 (λd=>f .normal [(3,pB 3),(6,pB 6),(29,vB d)] [(3,⟨y13,b.1.1,b.1.2,[.S,.S]⟩),(6,⟨y29,b.2.1.1,b.2.1.2,[.S,.S]⟩)])
theorem jjn:CN 0 504 Tryz.f317 j4j:=nK j8a [] oN ([3,6,29],[3,6]) [] ([],[]) λ_ _ _=>by delta j4O j0I;refine gz j0e λ_ b=> ?_;rewrite [<-b];kernel_rfl
def j7p (d:qG) (t:qB×qE×qL) (b:Bool->Res):Res:=bif (d.1==3) then b ((nI (List.length t.2.1))==8) else b false
def j6O:Z1d Unit:=Nd 92 92 [.t 3 (pB 3),.t 6 (pB 6)] [(3,y13,[.S,.S]),(6,y29,[.S,.S])] λg b f=>j7p b.1.2 b.2.1.2 (λd=>f .normal [(3,pB 3),(6,pB 6),(55,vB d)] [(3,⟨y13,b.1.1,b.1.2,[.S,.S]⟩),(6,⟨y29,b.2.1.1,b.2.1.2,[.S,.S]⟩)])
theorem jjo:CN 0 2022 Tryz.f317 j6O:=nK j8a [j4j] oN ([3,6,55],[3,6]) [] ([],[]) λ_ _ _=>by kernel_rfl
def j4P (d:qG) (t:qB×qE×qL) (b:Bool->Res):Res:=bif (d.1==4) then j0e t d.2.2.2.2.1 λr=>b (decide (r<0)) else bif (d.1==5) then j0e t d.2.2.2.2.1 λf=>b (decide (f<0)) else b false
def j9L:Z1d Unit:=Nd 92 92 [.t 3 (pB 3),.t 6 (pB 6)] [(3,y13,[.S,.S]),(6,y29,[.S,.S])] λg b f=>j4P b.1.2 b.2.1.2 (λd=>f .normal [(3,pB 3),(6,pB 6),(65,vB d)] [(3,⟨y13,b.1.1,b.1.2,[.S,.S]⟩),(6,⟨y29,b.2.1.1,b.2.1.2,[.S,.S]⟩)])
theorem jjp:CN 0 8094 Tryz.f317 j9L:=nK j8a [j4j,j6O] oN ([3,6,65],[3,6]) [] ([],[]) λ_ _ _=>by delta j4P j0I;refine gz j0e λ_ b=> ?_;rewrite [<-b];kernel_rfl
def j2j (c:List qT) (d:qG) (b:Int->Res):Res:=j0j c d.2.1 λr=>bif (d.1==1) then bif decide (r>=0) then b 2 else bif ((nI (List.length c))==6) then b 3 else b 0 else bif decide (r<0) then b 4 else bif inb r (List.length c) then j4O d (nth (eS,[],[]) c r) λt=>bif t then b 5 else j7p d (nth (eS,[],[]) c r) λg=>bif g then b 6 else j4P d (nth (eS,[],[]) c r) λh=>bif h then b 7 else bif (d.1==4) then j1c (nth (eS,[],[]) c r).2.2 d.2.2.2.2.1 λf=>bif f then b 8 else b 0 else b 0 else none
def j5Z:Sig Unit:=sg [.look y30 true,.look y13 true] [false] [(y30,none),(y13,none)] [] λb f k=>j2j b.1 b.2.1 (λd=>k [wI d] [] [])
theorem jf8:SO 317 j5Z:=fK (np:=0) j8a [j4j,j6O,j9L] (oI 504 0 @jjn (oI 2022 1 @jjo (oI 8094 2 @jjp oN))) false Tryz.func317 λ_ _ _ _=>by delta j2j j0V j4j j6O j9L j40;refine gz j0j λ_ b=>gz j4O λ_ d=>gz j7p λ_ f=>gz j4P λ_ g=>gz j1c λ_ h=> ?_;rewrite [<-b,<-d,<-f,<-g,<-h];kernel_rfl
def jbg (x:qB×Int×Bool×Bool×Int×Int×qB) (d:qG) (b:Bool->Res):Res:=b (sEq x.1 d.2.2.2.2.1)
def jjK:Sig Unit:=sg [.look y7 true,.rptr y13] [false] [(y7,none),(y13,none)] [] λb f k=>jbg b.1 b.2.1 (λd=>k [wB d] [] [])
theorem jiV:SO 321 jjK:=fK (np:=0) Zas [] oN false Tryz.func321 λ_ _ _ _=>by kernel_rfl
def j2y (s:List qC) (b:qG) (d:qE->qG->Res):Res:=bif lim (List.length s) then dgE (λe k=>jbg e b k) s [] (λr=>d r b) else none
def j4s:Sig Unit:=⟨[.eat y8 false,.clos 321 [y13]],[false],λvals ext k=>ao vals y8 [.O] λs vals=>nl vals<|ab ext y13 [.S,.S] λa0 f ext=>nl ext<|j2y s f (λd b=>k [w1 y8 d .O] [] [⟨y13,a0,b,[.S,.S]⟩])⟩
theorem jdR:Z17 Tryz.prog 320 j4s:=gS (jrI (U:=0) (T:=280) (e:=y7) (ag:=true) (τ:=y13) (tg:=[.S,.S]) (fl:=[9,3,4,4,151]) (S:=116) (E:=213) (I:=3) (B:=4) follows j2e (by kernel_rfl) Tryz.underlying116 (by kernel_rfl) (by kernel_rfl) (by kernel_rfl) (by kernel_rfl) Tryz.isAgg280 Tryz.sizeOf280 (by kernel_rfl) (by kernel_rfl) (by kernel_rfl) Tryz.func307 (by kernel_rfl) (by kernel_rfl) (by kernel_rfl) (by kernel_rfl) jiV (by kernel_rfl) Tryz.func320 (by kernel_rfl) (by kernel_rfl) (by kernel_rfl) (by kernel_rfl)) (by kernel_rfl)
theorem ja0:FS [(166,j64),(176,j0V),(211,j3Z),(231,j5Y),(250,j7T),(269,j7q),(284,j0I),(317,j5Z),(318,j65),(319,j63),(320,j4s)]:=(Za6 j9T (Za6 j94 (Za6 jcV (Za6 jf7 (Za6 jh9 (Za6 jdW (Za6 j3t (Za6 jf8 (Za6 jfd (Za6 jfb (Za6 jdR Zas)))))))))))
def j2f (d:qG) (f:List qT) (b:Int) (rec:Int->Res) (g:Int->Res):Res:=bif decide (b<(nI (List.length f))) then bif inb b (List.length f) then bif sLt (nth (eS,[],[]) f b).1 d.2.1 then rec (Z9K (b+1)) else g b else none else g b
def j4K (d:qG) (f:List qT):Int->(Int->Res)->((Int->Res))->Res:=λv rec q=>j2f d f v (λb=>rec (b)) q
def j9n (d:qG) (f:List qT) (n:Nat) (b:Int) (g:Int->Res):Res:=Z1f (j4K d f) n (b) (g)
def j5y:Z1d Unit:=NdL 146 146 [.t 3 (pB 3),.t 4 (pB 4),.t 7 (pB 7),.I 9] [(3,y13,[.S,.S]),(4,y30,[.O]),(7,y30,[.O])] (λf b=>(f.1)) (λf v=>(v,())) (λb v=>((b.1.1,b.1.2),(b.2.1.1,b.2.1.2),(b.2.2.1.1,b.2.2.1.2),())) (λf b=>j4K b.1.2 b.2.2.1.2) λf b g=>((λd=>g (.exit 1) [(3,pB 3),(4,pB 4),(7,pB 7),(9,vI d)] [(3,⟨y13,b.1.1,b.1.2,[.S,.S]⟩),(4,⟨y30,b.2.1.1,b.2.1.2,[.O]⟩),(7,⟨y30,b.2.2.1.1,b.2.2.1.2,[.O]⟩)]))
theorem jic:CN 0 16212 Tryz.f295 j5y:=lK ja0 [] oN ([],[]) [(1,[3,4,7,9],[3,4,7])] ([],[]) λ_ _ _ _ _=>by kernel_rfl
def j1i (f:Int) (h:Int) (d:qG) (b:List qT) (i:qF->Res):Res:=bif (h==1) then j9n d b Z1c 0 λj=>j2F d λr=>j4p b j [r] λl=>i l else bif (h==2) then j4o b f (Z9K (f+1)) λm=>i m else bif (h==3) then bif inb f (List.length b) then bif inb 0 (List.length d.2.2.1) then bif lim ((List.length (nth (eS,[],[]) b f).2.1)+1) then bif inb f (List.length (upd b f ((nth (eS,[],[]) b f).1,((nth (eS,[],[]) b f).2.1++[nth (eS,0,false,false,0,0,eS) d.2.2.1 0]),(nth (eS,[],[]) b f).2.2))) then bif (Z9o (Int.toNat f) (Int.toNat f)&&true) then i (upd b f ((nth (eS,[],[]) b f).1,((nth (eS,[],[]) b f).2.1++[nth (eS,0,false,false,0,0,eS) d.2.2.1 0]),(nth (eS,[],[]) b f).2.2)) else none else none else none else none else none else bif (h==4) then bif inb f (List.length b) then j2y (nth (eS,[],[]) b f).2.1 d λn p=>bif (Z9o (Int.toNat f) (Int.toNat f)&&true) then i (upd b f ((nth (eS,[],[]) b f).1,n,(nth (eS,[],[]) b f).2.2)) else none else none else bif (h==5) then bif inb f (List.length b) then j0e (nth (eS,[],[]) b f) d.2.2.2.2.1 λg=>bif inb g (List.length (nth (eS,[],[]) b f).2.1) then j0N (nth (eS,[],[]) (upd b f ((nth (eS,[],[]) b f).1,upd (nth (eS,[],[]) b f).2.1 g (d.2.2.2.2.2,(nth (eS,0,false,false,0,0,eS) (nth (eS,[],[]) b f).2.1 g).2),(nth (eS,[],[]) b f).2.2)) f).2.2 d.2.2.2.2.1 λk=>bif decide (k>=0) then bif inb k (List.length (nth (eS,[],[]) (upd b f ((nth (eS,[],[]) b f).1,upd (nth (eS,[],[]) b f).2.1 g (d.2.2.2.2.2,(nth (eS,0,false,false,0,0,eS) (nth (eS,[],[]) b f).2.1 g).2),(nth (eS,[],[]) b f).2.2)) f).2.2) then i (upd (upd b f ((nth (eS,[],[]) b f).1,upd (nth (eS,[],[]) b f).2.1 g (d.2.2.2.2.2,(nth (eS,0,false,false,0,0,eS) (nth (eS,[],[]) b f).2.1 g).2),(nth (eS,[],[]) b f).2.2)) f ((nth (eS,[],[]) (upd b f ((nth (eS,[],[]) b f).1,upd (nth (eS,[],[]) b f).2.1 g (d.2.2.2.2.2,(nth (eS,0,false,false,0,0,eS) (nth (eS,[],[]) b f).2.1 g).2),(nth (eS,[],[]) b f).2.2)) f).1,(nth (eS,[],[]) (upd b f ((nth (eS,[],[]) b f).1,upd (nth (eS,[],[]) b f).2.1 g (d.2.2.2.2.2,(nth (eS,0,false,false,0,0,eS) (nth (eS,[],[]) b f).2.1 g).2),(nth (eS,[],[]) b f).2.2)) f).2.1,upd (nth (eS,[],[]) (upd b f ((nth (eS,[],[]) b f).1,upd (nth (eS,[],[]) b f).2.1 g (d.2.2.2.2.2,(nth (eS,0,false,false,0,0,eS) (nth (eS,[],[]) b f).2.1 g).2),(nth (eS,[],[]) b f).2.2)) f).2.2 k d.2.2.2.2.2)) else none else i (upd b f ((nth (eS,[],[]) b f).1,upd (nth (eS,[],[]) b f).2.1 g (d.2.2.2.2.2,(nth (eS,0,false,false,0,0,eS) (nth (eS,[],[]) b f).2.1 g).2),(nth (eS,[],[]) b f).2.2)) else none else none else i b
def j8N:Z1d Unit:=Nd 146 146 [.t 3 (pB 3),.t 4 (pB 4),.t 7 (pB 7),.I 8,.I 36] [(3,y13,[.S,.S]),(4,y30,[.O]),(7,y30,[.O])] λf d g=>j1i f.1 f.2.1 d.1.2 d.2.2.1.2 (λb=>g .normal [(4,pB 4),(7,pB 7)] [(4,⟨y30,d.2.1.1,d.2.1.2,[.O]⟩),(7,⟨y30,d.2.2.1.1,b,[.O]⟩)])
theorem jid:CN 0 253 Tryz.f295 j8N:=nK ja0 [j5y] (oI 84 0 @jic oN) ([4,7],[4,7]) [] ([],[]) λ_ _ _=>by delta j1i j5y j7q j65 j63 j4s j0I j64 j9n;refine gz j4K λ_ b=>gz j2F λ_ d=>gz j4p λ_ f=>gz j4o λ_ g=>gz j2y λ_ h=>gz j0e λ_ i=>gz j0N λ_ j=> ?_;rewrite [<-b,<-d,<-f,<-g,<-h,<-i,<-j];kernel_rfl
def j4x (c:List qT) (d:qG) (b:qF->Int->Res):Res:=j6w c λr=>bif !r then b [] 1 else j28 d λh=>bif !h then b [] 1 else j2j c d λg=>bif (g != 0) then b [] g else j3B c λi=>j0j c d.2.1 λj=>j1i j d.1 d i λf=>b f 0
def jaq:Sig Unit:=sg [.borrow y30 true,.borrow y13 true] [true,false] [(y30,none),(y13,none)] [] λb g k=>j4x b.1 b.2.1 (λd f=>k [⟨y30,true,d,[.O]⟩,wI f] [] [])
theorem jjP:SO 295 jaq:=fK (np:=0) ja0 [j5y,j8N] (oI 253 1 @jid oN) false Tryz.func295 λ_ _ _ _=>by delta j4x j7T j3Z j5Z j5Y j0V j8N;refine gz j6w λ_ b=>gz j28 λ_ d=>gz j2j λ_ f=>gz j3B λ_ g=>gz j0j λ_ h=>gz j1i λ_ i=> ?_;rewrite [<-b,<-d,<-f,<-g,<-h,<-i];kernel_rfl
end
end Go.PI.G
