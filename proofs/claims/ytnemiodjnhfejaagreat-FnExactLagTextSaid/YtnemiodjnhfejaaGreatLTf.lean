/-
  Program's code interpreted over typed values; printed texts; plain laws. No conditions.
-/
import Derived.Test.YtnemiodjnhfejaaGreatLTd
import Derived.Test.YtnemiodjnhfejaaGreatLTe
set_option linter.unusedVariables false
set_option maxRecDepth 100000
namespace Go.PI.G
noncomputable section
open Go Go.PI Go.Proofs
open Go.Code (pl pr)
def j4D (c:qB×Int×Bool×Bool×Int×Int×qB) (b:Bool->Res):Res:=j0m c.1 λr=>bif !r then b false else bif decide (c.2.1<1) then b false else bif decide (c.2.1>3) then b false else bif !c.2.2.2.1 then b ((c.2.2.2.2.1==0)&&((c.2.2.2.2.2.1==0)&&(sEq c.2.2.2.2.2.2 eS))) else j1g c.2.2.2.2 λd=>bif d then bif ((c.2.2.2.2.1==0)&&((c.2.2.2.2.2.1==0)&&(sEq c.2.2.2.2.2.2 eS))) then bif ((c.2.2.2.2.1==0)&&((c.2.2.2.2.2.1==0)&&(sEq c.2.2.2.2.2.2 eS))) then b (!c.2.2.1) else b true else bif (c.2.2.2.2.1==c.2.1) then bif ((c.2.2.2.2.1==0)&&((c.2.2.2.2.2.1==0)&&(sEq c.2.2.2.2.2.2 eS))) then b (!c.2.2.1) else b true else b false else b false
def j7v:Sig Unit:=sg [.look y7 true] [false] [(y7,none)] [] λd f k=>j4D d.1 (λb=>k [wB b] [] [])
theorem jhh:SO 267 j7v:=fK (np:=0) (Za6 j6s (Za6 j7g Zas)) [] oN false Tryz.func267 λ_ _ _ _=>by delta j4D j1e jad;refine gz j0m λ_ b=>gz j1g λ_ d=> ?_;rewrite [<-b,<-d];kernel_rfl
def j4C (name:qB) (d:List qC) (h:Int) (b:Int) (rec:Int->Res) (f:Unit->Res) (g:Int->Res):Res:=bif decide (b<h) then bif inb b (List.length d) then bif sEq (nth (eS,0,false,false,0,0,eS) d b).1 name then g b else rec (Z9K (b+1)) else none else f ()
def jak (name:qB) (d:List qC) (f:Int):Int->(Int->Res)->((Unit->Res)×(Int->Res))->Res:=λv rec q=>j4C name d f v (λb=>rec (b)) q.1 q.2
def jgQ (name:qB) (g:List qC) (h:Int) (n:Nat) (b:Int) (d:Unit->Res) (f:Int->Res):Res:=Z1f (jak name g h) n (b) (d,f)
def jfI:Z1d Unit:=NdL 21 21 [.S 1,.R 8 y8 .S,.I 9,.I 10] [] (λb d=>(b.2.2.2.1)) (λb v=>(b.1,b.2.1,b.2.2.1,v,())) (λd v=>()) (λb d=>jak b.1 b.2.1 b.2.2.1) λb d f=>((λ_=>f (.exit 0) [] []),(λg=>f .ret [(4,vI g)] []))
theorem jlg:CN 0 26 Tryz.f230 jfI:=lK Zas [] oN ([],[]) [(0,[],[])] ([4],[]) λ_ _ _ _ _=>by kernel_rfl
def j0F (t:qB×qE×qL) (name:qB) (b:Int->Res):Res:=jgQ name t.2.1 (nI (List.length t.2.1)) Z1c 0 (λ_=>b (-1)) (λd=>b d)
def j2h:Sig Unit:=sg [.look y29 true,.look .str false] [false] [(y29,none),(.str,none)] [] λb f k=>j0F b.1 b.2.1 (λd=>k [wI d] [] [])
theorem j5e:SO 230 j2h:=fK (np:=0) Zas [jfI] (oI 26 0 @jlg oN) false Tryz.func230 λ_ _ _ _=>by kernel_rfl
theorem j7M:FS [(154,j1e),(230,j2h),(267,j7v)]:=(Za6 j6s (Za6 j5e (Za6 jhh Zas)))
def j4J (t:qB×qE×qL) (b:Bool->Res):Res:=j0m t.1 λr=>bif !r then b true else bif decide ((nI (List.length t.2.1))<1) then b true else bif decide ((nI (List.length t.2.1))>8) then b true else b (decide ((nI (List.length t.2.2))<1))
def j45:Z1d Unit:=Nd 75 75 [.t 1 (pB 1)] [(1,y29,[.S,.S])] λg d f=>j4J d.1.2 (λb=>f .normal [(1,pB 1),(30,vB b)] [(1,⟨y29,d.1.1,d.1.2,[.S,.S]⟩)])
theorem jjl:CN 0 12 Tryz.f227 j45:=nK j7M [] oN ([1,30],[1]) [] ([],[]) λ_ _ _=>by kernel_rfl
def j1M (d:List qC) (f:Int) (t:qB×qE×qL) (b:Int) (rec:Int->Res) (h:Unit->Res) (g:Unit->Res):Res:=bif decide (b<f) then bif inb b (List.length d) then j4D (nth (eS,0,false,false,0,0,eS) d b) λr=>bif !r then g () else j0F t (nth (eS,0,false,false,0,0,eS) d b).1 λi=>bif (i != b) then g () else rec (Z9K (b+1)) else none else h ()
def j2V (b:List qC) (d:Int) (t:qB×qE×qL):Int->(Int->Res)->((Unit->Res)×(Unit->Res))->Res:=λv rec q=>j1M b d t v (λf=>rec (f)) q.1 q.2
def j7a (b:List qC) (d:Int) (t:qB×qE×qL) (n:Nat) (f:Int) (g:Unit->Res) (h:Unit->Res):Res:=Z1f (j2V b d t) n (f) (g,h)
def j6o:Z1d Unit:=NdL 75 75 [.t 1 (pB 1),.R 32 y8 .S,.I 33,.I 34] [(1,y29,[.S,.S])] (λb d=>(b.2.2.1)) (λb v=>(b.1,b.2.1,v,())) (λd v=>((d.1.1,d.1.2),())) (λb d=>j2V b.1 b.2.1 d.1.2) λb d f=>((λ_=>f (.exit 0) [(1,pB 1)] [(1,⟨y29,d.1.1,d.1.2,[.S,.S]⟩)]),(λ_=>f .ret [(2,vB false)] []))
theorem jjj:CN 0 58 Tryz.f227 j6o:=lK j7M [j45] oN ([],[]) [(0,[1],[1])] ([2],[]) λ_ _ _ _ _=>by delta j2V j1M j7v j2h;refine gz j4D λ_ b=>gz j0F λ_ d=> ?_;rewrite [<-b,<-d];kernel_rfl
def j2W (f:qL) (g:Int) (t:qB×qE×qL) (d:Int) (b:Int) (rec:Int->Int->Res) (i:Unit->Res) (h:Unit->Res):Res:=bif decide (b<g) then bif inb b (List.length f) then j0F t (nth eS f b) λr=>bif decide (r<=d) then h () else bif inb r (List.length t.2.1) then bif !(nth (eS,0,false,false,0,0,eS) t.2.1 r).2.2.1 then h () else rec r (Z9K (b+1)) else none else none else i ()
def j50 (d:qL) (f:Int) (t:qB×qE×qL):(Int×Int)->(Int×Int->Res)->((Unit->Res)×(Unit->Res))->Res:=λv rec q=>j2W d f t v.1 v.2 (λb g=>rec (b,g)) q.1 q.2
def j7b (d:qL) (f:Int) (t:qB×qE×qL) (n:Nat) (b:Int) (g:Int) (h:Unit->Res) (i:Unit->Res):Res:=Z1f (j50 d f t) n (b,g) (h,i)
def j9v:Z1d Unit:=NdL 75 75 [.t 1 (pB 1),.I 5,.R 52 y0 .S,.I 53,.I 54] [(1,y29,[.S,.S])] (λb d=>(b.1,b.2.2.2.1)) (λb v=>(v.1,b.2.1,b.2.2.1,v.2,())) (λd v=>((d.1.1,d.1.2),())) (λb d=>j50 b.2.1 b.2.2.1 d.1.2) λb d f=>((λ_=>f (.exit 2) [] []),(λ_=>f .ret [(2,vB false)] []))
theorem jjk:CN 0 250 Tryz.f227 j9v:=lK j7M [j45,j6o] oN ([],[]) [(2,[],[])] ([2],[]) λ_ _ _ _ _=>by kernel_rfl
def j0s (t:qB×qE×qL) (b:Bool->Res):Res:=j4J t λd=>bif d then b false else j7a t.2.1 (nI (List.length t.2.1)) t Z1c 0 (λ_=>j7b t.2.2 (nI (List.length t.2.2)) t Z1c (-1) 0 (λ_=>b true) (λ_=>b false)) (λ_=>b false)
def j0Z:Sig Unit:=sg [.look y29 true] [false] [(y29,none)] [] λd f k=>j0s d.1 (λb=>k [wB b] [] [])
theorem j3g:SO 227 j0Z:=fK (np:=0) j7M [j45,j6o,j9v] (oI 12 0 @jjl (oI 58 1 @jjj (oI 250 2 @jjk oN))) false Tryz.func227 λ_ _ _ _=>by delta j0s j45 j6o j9v j7a j7b;refine gz j4J λ_ b=>gz j2V λ_ d=>gz j50 λ_ f=> ?_;rewrite [<-b,<-d,<-f];kernel_rfl
theorem jh0:FS [(154,j1e),(227,j0Z),(267,j7v)]:=(Za6 j6s (Za6 j3g (Za6 jhh Zas)))
def j6z (d:qG) (b:Bool->Res):Res:=bif ((nI (List.length d.2.2.1))==0) then b ((nI (List.length d.2.2.2.1))==0) else b false
def jbp:Z1d Unit:=Nd 123 123 [.t 1 (pB 1)] [(1,y13,[.S,.S])] λf b d=>j6z b.1.2 (λplain=>d .normal [(1,pB 1),(3,vB plain)] [(1,⟨y13,b.1.1,b.1.2,[.S,.S]⟩)])
theorem jlh:CN 0 14 Tryz.f210 jbp:=nK jh0 [] oN ([1,3],[1]) [] ([],[]) λ_ _ _=>by kernel_rfl
def j2a (d:qG) (b:Bool->Res):Res:=j0m d.2.1 λr=>bif !r then b false else j6z d λplain=>bif (d.1==1) then bif sEq d.2.2.2.2.1 eS then bif sEq d.2.2.2.2.2 eS then j0s (d.2.1,d.2.2.1,d.2.2.2.1) λf=>b f else b false else b false else bif (d.1==2) then bif plain then bif sEq d.2.2.2.2.1 eS then b (sEq d.2.2.2.2.2 eS) else b false else b false else bif (d.1==3) then bif ((nI (List.length d.2.2.1))==1) then bif inb 0 (List.length d.2.2.1) then j4D (nth (eS,0,false,false,0,0,eS) d.2.2.1 0) λg=>bif g then bif inb 0 (List.length d.2.2.1) then bif (nth (eS,0,false,false,0,0,eS) d.2.2.1 0).2.2.2.1 then bif ((nI (List.length d.2.2.2.1))==0) then bif sEq d.2.2.2.2.1 eS then b (sEq d.2.2.2.2.2 eS) else b false else b false else bif inb 0 (List.length d.2.2.1) then bif !(nth (eS,0,false,false,0,0,eS) d.2.2.1 0).2.2.1 then bif ((nI (List.length d.2.2.2.1))==0) then bif sEq d.2.2.2.2.1 eS then b (sEq d.2.2.2.2.2 eS) else b false else b false else b false else none else none else b false else none else b false else bif (d.1==4) then bif plain then j0m d.2.2.2.2.1 λh=>bif h then b (sEq d.2.2.2.2.2 eS) else b false else b false else bif (d.1==5) then bif plain then j0m d.2.2.2.2.1 λi=>bif i then j0m d.2.2.2.2.2 λj=>b j else b false else b false else b false
def j3N:Sig Unit:=sg [.look y13 true] [false] [(y13,none)] [] λd f k=>j2a d.1 (λb=>k [wB b] [] [])
theorem jcL:SO 210 j3N:=fK (np:=0) jh0 [jbp] (oI 14 0 @jlh oN) false Tryz.func210 λ_ _ _ _=>by delta j2a j1e jbp j0Z j7v;refine gz j0m λ_ b=>gz j6z λ_ d=>gz j0s λ_ f=>gz j4D λ_ g=> ?_;rewrite [<-b,<-d,<-f,<-g];kernel_rfl
def j4B (d:List qT) (f:Int) (c:List qT) (b:Int) (rec:Int->Res) (h:Unit->Res) (g:Unit->Res):Res:=bif decide (b<f) then bif inb b (List.length d) then j0s (nth (eS,[],[]) d b) λr=>bif !r then g () else bif decide (b>0) then bif inb (Z9K (b-1)) (List.length c) then bif sGe (nth (eS,[],[]) c (Z9K (b-1))).1 (nth (eS,[],[]) d b).1 then g () else rec (Z9K (b+1)) else none else rec (Z9K (b+1)) else none else h ()
def jaj (b:List qT) (d:Int) (c:List qT):Int->(Int->Res)->((Unit->Res)×(Unit->Res))->Res:=λv rec q=>j4B b d c v (λf=>rec (f)) q.1 q.2
def jc3 (b:List qT) (d:Int) (c:List qT) (n:Nat) (f:Int) (g:Unit->Res) (h:Unit->Res):Res:=Z1f (jaj b d c) n (f) (g,h)
def jfH:Z1d Unit:=NdL 37 37 [.t 1 (pB 1),.R 10 y30 .S,.I 11,.I 12] [(1,y30,[.S])] (λb d=>(b.2.2.1)) (λb v=>(b.1,b.2.1,v,())) (λd v=>((d.1.1,d.1.2),())) (λb d=>jaj b.1 b.2.1 d.1.2) λb d f=>((λ_=>f (.exit 0) [] []),(λ_=>f .ret [(2,vB false)] []))
theorem jlf:CN 0 58 Tryz.f242 jfH:=lK (Za6 j3g Zas) [] oN ([],[]) [(0,[],[])] ([2],[]) λ_ _ _ _ _=>by kernel_rfl
def j6e (c:List qT) (b:Bool->Res):Res:=bif decide ((nI (List.length c))>6) then b false else jc3 c (nI (List.length c)) c Z1c 0 (λ_=>b true) (λ_=>b false)
def j7u:Sig Unit:=sg [.look y30 true] [false] [(y30,none)] [] λd f k=>j6e d.1 (λb=>k [wB b] [] [])
theorem jhg:SO 242 j7u:=fK (np:=0) (Za6 j3g Zas) [jfH] (oI 58 0 @jlf oN) false Tryz.func242 λ_ _ _ _=>by kernel_rfl
def j4h (t:qB×qE×qL) (b:qT->Res):Res:=Z87 (Z87 (bif lim (0+(List.length t.2.1)) then bif lim (0+(List.length t.2.2)) then b (t.1,t.2.1,t.2.2) else none else none) (bif lim (0+(List.length t.2.1)) then bif lim (0+(List.length t.2.2)) then b (t.1,t.2.1,t.2.2) else none else none)) (bif lim (0+(List.length t.2.1)) then bif lim (0+(List.length t.2.2)) then b (t.1,t.2.1,t.2.2) else none else none)
def jaf:Sig Unit:=sg [.borrow y29 true] [true] [(y29,none)] [] λd f k=>j4h d.1 (λb=>k [⟨y29,true,b,[.O,.O]⟩] [] [])
theorem j9L:SO 286 jaf:=fK (np:=0) Zas [] oN false Tryz.func286 λ_ _ _ _=>by kernel_rfl
def j2Y (f:List qT) (h:Int) (b:Int) (d:List qT) (rec:Int->qF->Res) (g:qF->Res):Res:=bif decide (b<h) then bif inb b (List.length f) then j4h (nth (eS,[],[]) f b) λr=>bif lim ((List.length d)+1) then rec (Z9K (b+1)) (d++[r]) else none else none else g d
def j8o (f:List qT) (g:Int):(Int×qF)->(Int×qF->Res)->((qF->Res))->Res:=λv rec q=>j2Y f g v.1 v.2 (λd b=>rec (d,b)) q
def je4 (g:List qT) (h:Int) (n:Nat) (d:Int) (b:List qT) (f:qF->Res):Res:=Z1f (j8o g h) n (d,b) (f)
def jdu:Z1d Unit:=NdL 23 23 [.t 2 (pB 2),.t 3 (pB 3),.R 8 y30 .S,.I 9,.I 10] [(2,y30,[.O]),(3,y30,[.O])] (λd b=>(d.2.2.1,b.2.1.2)) (λd v=>(d.1,d.2.1,v.1,())) (λb v=>((b.1.1,b.1.2),(b.2.1.1,v.2),())) (λd b=>j8o d.1 d.2.1) λd b g=>((λf=>g (.exit 0) [(2,pB 2),(3,pB 3)] [(2,⟨y30,b.1.1,b.1.2,[.O]⟩),(3,⟨y30,b.2.1.1,f,[.O]⟩)]))
theorem jjn:CN 0 58 Tryz.f243 jdu:=lK (Za6 j9L Zas) [] oN ([],[]) [(0,[2,3],[2,3])] ([],[]) λ_ _ _ _ _=>by kernel_rfl
def j3T (c:List qT) (d:qF->Res):Res:=je4 c (nI (List.length c)) Z1c 0 [] λb=>d b
def j5H:Sig Unit:=sg [.borrow y30 true] [true] [(y30,none)] [] λd f k=>j3T d.1 (λb=>k [⟨y30,true,b,[.O]⟩] [] [])
theorem jf4:SO 243 j5H:=fK (np:=0) (Za6 j9L Zas) [jdu] (oI 58 0 @jjn oN) false Tryz.func243 λ_ _ _ _=>by kernel_rfl
def j4K (name:qB) (d:List qT) (h:Int) (b:Int) (rec:Int->Res) (f:Unit->Res) (g:Int->Res):Res:=bif decide (b<h) then bif inb b (List.length d) then bif sEq (nth (eS,[],[]) d b).1 name then g b else rec (Z9K (b+1)) else none else f ()
def jaq (name:qB) (d:List qT) (f:Int):Int->(Int->Res)->((Unit->Res)×(Int->Res))->Res:=λv rec q=>j4K name d f v (λb=>rec (b)) q.1 q.2
def jgR (name:qB) (g:List qT) (h:Int) (n:Nat) (b:Int) (d:Unit->Res) (f:Int->Res):Res:=Z1f (jaq name g h) n (b) (d,f)
def jfJ:Z1d Unit:=NdL 21 21 [.S 1,.R 8 y30 .S,.I 9,.I 10] [] (λb d=>(b.2.2.2.1)) (λb v=>(b.1,b.2.1,b.2.2.1,v,())) (λd v=>()) (λb d=>jaq b.1 b.2.1 b.2.2.1) λb d f=>((λ_=>f (.exit 0) [] []),(λg=>f .ret [(4,vI g)] []))
theorem jlm:CN 0 26 Tryz.f113 jfJ:=lK Zas [] oN ([],[]) [(0,[],[])] ([4],[]) λ_ _ _ _ _=>by kernel_rfl
def j2c (c:List qT) (name:qB) (b:Int->Res):Res:=jgR name c (nI (List.length c)) Z1c 0 (λ_=>b (-1)) (λt=>b t)
def j3O:Sig Unit:=sg [.look y30 true,.look .str false] [false] [(y30,none),(.str,none)] [] λb f k=>j2c b.1 b.2.1 (λd=>k [wI d] [] [])
theorem jcO:SO 113 j3O:=fK (np:=0) Zas [jfJ] (oI 26 0 @jlm oN) false Tryz.func113 λ_ _ _ _=>by kernel_rfl
def jbl (done:Bool) (t:qB×qE×qL) (b:List qT) (x:qB×qE×qL) (d:Bool->qF->Res):Res:=bif !done then bif sLt t.1 x.1 then bif lim ((List.length b)+1) then d true (b++[t]) else none else d done b else d done b
def jaG:Z1d Unit:=Nd 48 48 [.t 3 (pB 3),.t 4 (pB 4),.t 5 (pB 5),.B 6,.t 8 (pB 8),.R 11 y30 .S,.I 12,.I 13] [(3,y29,[.S,.S]),(4,y30,[.O]),(5,y30,[.PS]),(8,y29,[.S,.S])] λg b h=>jbl g.1 b.1.2 b.2.2.1.2 b.2.2.2.1.2 (λd f=>h .normal [(3,pB 3),(4,pB 4),(5,pB 5),(6,vB d),(8,pB 8),(11,v1 y30 g.2.1 .S),(12,vI g.2.2.1),(13,vI g.2.2.2.1)] [(3,⟨y29,b.1.1,b.1.2,[.S,.S]⟩),(4,⟨y30,b.2.1.1,b.2.1.2,[.O]⟩),(5,⟨y30,b.2.2.1.1,f,[.PS]⟩),(8,⟨y29,b.2.2.2.1.1,b.2.2.2.1.2,[.S,.S]⟩)])
theorem jkj:CN 0 15666 Tryz.f309 jaG:=nK Zas [] oN ([3,4,5,6,8,11,12,13],[3,4,5,8]) [] ([],[]) λ_ _ _=>by kernel_rfl
def j3V (g:List qT) (i:Int) (t:qB×qE×qL) (done:Bool) (b:Int) (h:List qT) (rec:Bool->Int->qF->Res) (j:Bool->qF->Res):Res:=bif decide (b<i) then bif inb b (List.length g) then jbl done t h (nth (eS,[],[]) g b) λf d=>bif lim ((List.length d)+1) then rec f (Z9K (b+1)) (d++[nth (eS,[],[]) g b]) else none else none else j done h
def j9c (d:List qT) (f:Int) (t:qB×qE×qL):(Bool×Int×qF)->(Bool×Int×qF->Res)->((Bool->qF->Res))->Res:=λv rec q=>j3V d f t v.1 v.2.1 v.2.2 (λdone g b=>rec (done,g,b)) q
def jbk (d:List qT) (f:Int) (t:qB×qE×qL) (n:Nat) (done:Bool) (g:Int) (b:List qT) (h:Bool->qF->Res):Res:=Z1f (j9c d f t) n (done,g,b) (h)
def je8:Z1d Unit:=λσ k=>rdN σ 48<|rdT σ 3 (pB 3)<|rdT σ 4 (pB 4)<|rdT σ 5 (pB 5)<|rdO σ 6 λdone=>rd1 σ 11 y30 .S λg=>rdI σ 12 λh=>rdI σ 13 λi=>rdB σ 3 y29 [.S,.S] λa t=>rdB σ 4 y30 [.O] λj m=>rdB σ 5 y30 [.PS] λl f=>jbk g h t Z1c done i f (λb d=>k (.exit 0) (mkS 48 48 [(3,pB 3),(4,pB 4),(5,pB 5),(6,vB b)] [(3,⟨y29,a,t,[.S,.S]⟩),(4,⟨y30,j,m,[.O]⟩),(5,⟨y30,l,d,[.PS]⟩)]))
def jek:Z1d Unit:=λσ k=>je8 (σ.wk [] [(5,[.PS])]) k
theorem jki:CN 0 122 Tryz.f309 jek:=λr=>ZaJ [] [(5,[.PS])] (jjW follows j1D Zas r [jaG] (oI 114 0 @jkj oN) [3,4,5,6,11,12,13] [3,4,5] ([],[]) [(0,[3,4,5,6],[3,4,5])] ([],[]) (y:=je8) λσ k _ h=>rN h λH h=>rT h λD h=>rT h λE h=>rT h λF h=>rV h λdone G h=>rV h λf i h=>rV h λg j h=>rV h λz l h=>rB h λa t n h=>rB h λA C p h=>rB h λB w q h=>⟨_,ZaM (m:=48) H (sC D (sC E (sC F (sC G (sC i (sC j (sC l sN))))))) (bC n (bC p (bC q bN))),.trans (Z9u (λv:Bool×Int×qF=>(mkS 48 48 [(3,pB 3),(4,pB 4),(5,pB 5),(6,vB v.1),(11,v1 y30 f .S),(12,vI g),(13,vI v.2.1)] [(3,⟨y29,a,t,[.S,.S]⟩),(4,⟨y30,A,C,[.O]⟩),(5,⟨y30,B,v.2.2,[.PS]⟩)])) (j9c f g t) (λ(k:Z83 Unit)=>(((λb d=>k (.exit 0) (mkS 48 48 [(3,pB 3),(4,pB 4),(5,pB 5),(6,vB b)] [(3,⟨y29,a,t,[.S,.S]⟩),(4,⟨y30,A,C,[.O]⟩),(5,⟨y30,B,d,[.PS]⟩)]))):(Bool->qF->Res))) (λv rec k=>by kernel_rfl) Z1c (done,z,w) k) h⟩)
def j8L (c:List qT) (t:qB×qE×qL) (d:qF->Res):Res:=jbk c (nI (List.length c)) t Z1c false 0 [] λdone b=>bif !done then bif lim ((List.length b)+1) then d (b++[t]) else none else d b
def jc0:Sig Unit:=sg [.borrow y30 true,.borrow y29 true] [true] [(y30,none),(y29,none)] [] λb f k=>j8L b.1 b.2.1 (λd=>k [⟨y30,true,d,[.PS]⟩] [] [])
theorem jmp:SO 309 jc0:=fK (np:=0) Zas [jaG,jek] (oI 122 1 @jki oN) false Tryz.func309 λ_ _ _ _=>by kernel_rfl
def j3U (s:qB) (d:qL) (h:Int) (b:Int) (rec:Int->Res) (f:Unit->Res) (g:Unit->Res):Res:=bif decide (b<h) then bif inb b (List.length d) then bif sEq (nth eS d b) s then g () else rec (Z9K (b+1)) else none else f ()
def j9b (s:qB) (b:qL) (d:Int):Int->(Int->Res)->((Unit->Res)×(Unit->Res))->Res:=λv rec q=>j3U s b d v (λf=>rec (f)) q.1 q.2
def jfy (s:qB) (f:qL) (g:Int) (n:Nat) (h:Int) (b:Unit->Res) (d:Unit->Res):Res:=Z1f (j9b s f g) n (h) (b,d)
def jej:Z1d Unit:=NdL 17 17 [.S 1,.R 7 y0 .S,.I 8,.I 9] [] (λb d=>(b.2.2.2.1)) (λb v=>(b.1,b.2.1,b.2.2.1,v,())) (λd v=>()) (λb d=>j9b b.1 b.2.1 b.2.2.1) λb d f=>((λ_=>f (.exit 0) [] []),(λ_=>f .ret [(4,vB true)] []))
theorem jkh:CN 0 26 Tryz.f157 jej:=lK Zas [] oN ([],[]) [(0,[],[])] ([4],[]) λ_ _ _ _ _=>by kernel_rfl
def j8K (l:qL) (s:qB) (b:Bool->Res):Res:=jfy s l (nI (List.length l)) Z1c 0 (λ_=>b false) (λ_=>b true)
def jgP:Sig Unit:=sg [.look y0 false,.look .str false] [false] [(y0,none),(.str,none)] [] λb f k=>j8K b.1 b.2.1 (λd=>k [wB d] [] [])
theorem jmo:SO 157 jgP:=fK (np:=0) Zas [jej] (oI 26 0 @jkh oN) false Tryz.func157 λ_ _ _ _=>by kernel_rfl
def j4g (t:qB×qE×qL) (d:qG) (b:Int->Res):Res:=j0F t d.2.2.2.2.1 λr=>bif (d.1==3) then bif inb 0 (List.length d.2.2.1) then j0F t (nth (eS,0,false,false,0,0,eS) d.2.2.1 0).1 λf=>bif decide (f>=0) then b 5 else bif ((nI (List.length t.2.1))==8) then b 6 else b 0 else none else bif (d.1==4) then bif decide (r<0) then b 7 else j8K t.2.2 d.2.2.2.2.1 λg=>bif g then b 8 else b 0 else bif (d.1==5) then j0F t d.2.2.2.2.2 λh=>bif decide (h>=0) then b 5 else bif decide (r<0) then b 7 else b 0 else b 0
def jae:Sig Unit:=sg [.look y29 true,.look y13 true] [false] [(y29,none),(y13,none)] [] λb f k=>j4g b.1 b.2.1 (λd=>k [wI d] [] [])
theorem jjE:SO 310 jae:=fK (np:=0) (Za6 jmo (Za6 j5e Zas)) [] oN false Tryz.func310 λ_ _ _ _=>by delta j4g j2h jgP;refine gz j0F λ_ b=>gz j8K λ_ d=> ?_;rewrite [<-b,<-d];kernel_rfl
def j54 (t:qB×qE×qL) (b:Unit->Res):Res:=Z87 (Z87 (bif lim (0+(List.length t.2.2)) then Z87 (b ()) (b ()) else none) (bif lim (0+(List.length t.2.2)) then b () else none)) (bif lim (0+(List.length t.2.2)) then b () else none)
def j0R:Z1d Unit:=Nd 92 92 [.t 2 (pB 2),.t 3 (pB 3),.t 4 (pB 4)] [(2,y29,[.S,.S]),(3,y13,[.S,.S]),(4,y29,[.O,.O])] λf b d=>j54 b.1.2 (λ_=>d .normal [(2,pB 2),(3,pB 3),(4,pB 4),(5,pB 5)] [(2,⟨y29,b.1.1,b.1.2,[.S,.S]⟩),(3,⟨y13,b.2.1.1,b.2.1.2,[.S,.S]⟩),(4,⟨y29,b.2.2.1.1,b.2.2.1.2,[.O,.O]⟩),(5,⟨y29,false,(b.1.2.1,[],b.1.2.2.2),[.O,.O]⟩)])
theorem jhy:CN 0 6 Tryz.f311 j0R:=nK Zas [] oN ([2,3,4,5],[2,3,4,5]) [] ([],[]) λ_ _ _=>by kernel_rfl
def j55 (d:qG) (c:qB×Int×Bool×Bool×Int×Int×qB) (b:Unit->Res) (f:Unit->Res):Res:=bif (d.1==4) then bif sEq c.1 d.2.2.2.2.1 then f () else b () else b ()
def j1s:Z1d Unit:=Nd 92 92 [.t 3 (pB 3),.t 4 (pB 4),.t 5 (pB 5),.t 7 (pB 7),.R 17 y8 .S,.I 18,.I 19] [(3,y13,[.S,.S]),(4,y29,[.O,.O]),(5,y29,[.O,.O]),(7,y7,[])] λd b f=>j55 b.1.2 b.2.2.2.1.2 (λ_=>f .normal [(3,pB 3),(4,pB 4),(5,pB 5),(7,pB 7),(17,v1 y8 d.1 .S),(18,vI d.2.1),(19,vI d.2.2.1)] [(3,⟨y13,b.1.1,b.1.2,[.S,.S]⟩),(4,⟨y29,b.2.1.1,b.2.1.2,[.O,.O]⟩),(5,⟨y29,b.2.2.1.1,b.2.2.1.2,[.O,.O]⟩),(7,⟨y7,b.2.2.2.1.1,b.2.2.2.1.2,[]⟩)]) (λ_=>f (.exit 1) [(3,pB 3),(4,pB 4),(5,pB 5),(17,v1 y8 d.1 .S),(18,vI d.2.1),(19,vI d.2.2.1),(27,.ptr ⟨true,7,[.fst]⟩),(28,vS b.2.2.2.1.2.1),(29,.ptr ⟨true,3,[.snd,.snd,.snd,.snd,.fst]⟩),(30,vS b.1.2.2.2.2.2.1),(31,vB (sEq b.2.2.2.1.2.1 b.1.2.2.2.2.2.1))] [(3,⟨y13,b.1.1,b.1.2,[.S,.S]⟩),(4,⟨y29,b.2.1.1,b.2.1.2,[.O,.O]⟩),(5,⟨y29,b.2.2.1.1,b.2.2.1.2,[.O,.O]⟩),(7,⟨y7,b.2.2.2.1.1,b.2.2.2.1.2,[]⟩)])
theorem jhz:CN 0 7474 Tryz.f311 j1s:=nK Zas [j0R] oN ([3,4,5,7,17,18,19],[3,4,5,7]) [(1,[3,4,5,17,18,19,27,28,29,30,31],[3,4,5,7])] ([],[]) λ_ _ _=>by kernel_rfl
def j56 (d:qG) (c:qB×Int×Bool×Bool×Int×Int×qB) (b:qC->Res):Res:=bif (d.1==5) then bif sEq c.1 d.2.2.2.2.1 then b (d.2.2.2.2.2,c.2) else b c else b c
def j2l:Z1d Unit:=Nd 92 92 [.t 3 (pB 3),.t 4 (pB 4),.t 5 (pB 5),.t 7 (pB 7),.R 17 y8 .S,.I 18,.I 19] [(3,y13,[.S,.S]),(4,y29,[.O,.O]),(5,y29,[.O,.O]),(7,y7,[])] λd b f=>j56 b.1.2 b.2.2.2.1.2 (λc1=>f .normal [(3,pB 3),(4,pB 4),(5,pB 5),(7,pB 7),(17,v1 y8 d.1 .S),(18,vI d.2.1),(19,vI d.2.2.1)] [(3,⟨y13,b.1.1,b.1.2,[.S,.S]⟩),(4,⟨y29,b.2.1.1,b.2.1.2,[.O,.O]⟩),(5,⟨y29,b.2.2.1.1,b.2.2.1.2,[.O,.O]⟩),(7,⟨y7,b.2.2.2.1.1,c1,[]⟩)])
theorem jhA:CN 0 14950 Tryz.f311 j2l:=nK Zas [j0R,j1s] oN ([3,4,5,7,17,18,19],[3,4,5,7]) [] ([],[]) λ_ _ _=>by kernel_rfl
def j13 (g:List qC) (h:Int) (d:qG) (f:Int) (b:qB×qE×qL) (rec:Int->qT->Res) (i:qT->Res):Res:=bif decide (f<h) then bif inb f (List.length g) then j55 d (nth (eS,0,false,false,0,0,eS) g f) (λ_=>j56 d (nth (eS,0,false,false,0,0,eS) g f) λc=>bif lim ((List.length b.2.1)+1) then rec (Z9K (f+1)) (b.1,(b.2.1++[c]),b.2.2) else none) (λ_=>rec (Z9K (f+1)) b) else none else i b
def j1Z (f:List qC) (g:Int) (d:qG):(Int×qT)->(Int×qT->Res)->((qT->Res))->Res:=λv rec q=>j13 f g d v.1 v.2 (λh b=>rec (h,b)) q
def j52 (f:List qC) (g:Int) (d:qG) (n:Nat) (h:Int) (b:qB×qE×qL) (i:qT->Res):Res:=Z1f (j1Z f g d) n (h,b) (i)
def j4L:Z1d Unit:=NdL 92 92 [.t 3 (pB 3),.t 4 (pB 4),.t 5 (pB 5),.R 17 y8 .S,.I 18,.I 19] [(3,y13,[.S,.S]),(4,y29,[.O,.O]),(5,y29,[.O,.O])] (λd b=>(d.2.2.1,b.2.2.1.2)) (λd v=>(d.1,d.2.1,v.1,())) (λb v=>((b.1.1,b.1.2),(b.2.1.1,b.2.1.2),(b.2.2.1.1,v.2),())) (λd b=>j1Z d.1 d.2.1 b.1.2) λd b g=>((λf=>g (.exit 0) [(3,pB 3),(4,pB 4),(5,pB 5)] [(3,⟨y13,b.1.1,b.1.2,[.S,.S]⟩),(4,⟨y29,b.2.1.1,b.2.1.2,[.O,.O]⟩),(5,⟨y29,b.2.2.1.1,f,[.O,.O]⟩)]))
theorem jhw:CN 0 58 Tryz.f311 j4L:=lK Zas [j0R,j1s,j2l] (oI 114 1 @jhz (oI 230 2 @jhA oN)) ([],[]) [(0,[3,4,5],[3,4,5])] ([],[]) λ_ _ _ _ _=>by delta j1Z j13 j1s j2l;refine gz j55 λ_ b=>gz j56 λ_ d=> ?_;rewrite [<-b,<-d];kernel_rfl
def j0k (g:Int) (d:qG) (f:Int) (b:qB×qE×qL) (rec:Int->qT->Res) (h:qT->Res):Res:=bif decide (f<g) then bif (d.1==5) then bif inb f (List.length b.2.2) then bif sEq (nth eS b.2.2 f) d.2.2.2.2.1 then bif inb f (List.length b.2.2) then rec (Z9K (f+1)) (b.1,b.2.1,upd b.2.2 f d.2.2.2.2.2) else none else rec (Z9K (f+1)) b else none else rec (Z9K (f+1)) b else h b
def j4a (f:Int) (d:qG):(Int×qT)->(Int×qT->Res)->((qT->Res))->Res:=λv rec q=>j0k f d v.1 v.2 (λg b=>rec (g,b)) q
def j53 (f:Int) (d:qG) (n:Nat) (g:Int) (b:qB×qE×qL) (h:qT->Res):Res:=Z1f (j4a f d) n (g,b) (h)
def j7I:Z1d Unit:=NdL 92 92 [.t 3 (pB 3),.t 4 (pB 4),.t 5 (pB 5),.I 55,.I 56] [(3,y13,[.S,.S]),(4,y29,[.O,.O]),(5,y29,[.O,.O])] (λd b=>(d.2.1,b.2.2.1.2)) (λd v=>(d.1,v.1,())) (λb v=>((b.1.1,b.1.2),(b.2.1.1,b.2.1.2),(b.2.2.1.1,v.2),())) (λd b=>j4a d.1 b.1.2) λd b g=>((λf=>g (.exit 2) [(3,pB 3),(4,pB 4),(5,pB 5)] [(3,⟨y13,b.1.1,b.1.2,[.S,.S]⟩),(4,⟨y29,b.2.1.1,b.2.1.2,[.O,.O]⟩),(5,⟨y29,b.2.2.1.1,f,[.O,.O]⟩)]))
theorem jhx:CN 0 122 Tryz.f311 j7I:=lK Zas [j0R,j1s,j2l,j4L] oN ([],[]) [(2,[3,4,5],[3,4,5])] ([],[]) λ_ _ _ _ _=>by kernel_rfl
def j3n (t:qB×qE×qL) (d:qG) (g:qT->Res):Res:=j54 t λ_=>j52 t.2.1 (nI (List.length t.2.1)) d Z1c 0 (t.1,[],t.2.2) λf=>j53 (nI (List.length f.2.2)) d Z1c 0 f λb=>bif (d.1==3) then bif inb 0 (List.length d.2.2.1) then bif lim ((List.length b.2.1)+1) then g (b.1,(b.2.1++[nth (eS,0,false,false,0,0,eS) d.2.2.1 0]),b.2.2) else none else none else g b
def j96:Sig Unit:=sg [.borrow y29 true,.borrow y13 true] [true] [(y29,none),(y13,none)] [] λb f k=>j3n b.1 b.2.1 (λd=>k [⟨y29,true,d,[.O,.O]⟩] [] [])
theorem jiA:SO 311 j96:=fK (np:=0) Zas [j0R,j1s,j2l,j4L,j7I] (oI 6 0 @jhy (oI 58 3 @jhw (oI 122 4 @jhx oN))) false Tryz.func311 λ_ _ _ _=>by delta j3n j0R j4L j7I j52 j53;refine gz j54 λ_ b=>gz j1Z λ_ d=>gz j4a λ_ f=> ?_;rewrite [<-b,<-d,<-f];kernel_rfl
theorem j9H:FS [(113,j3O),(210,j3N),(242,j7u),(243,j5H),(286,jaf),(309,jc0),(310,jae),(311,j96)]:=(Za6 jcO (Za6 jcL (Za6 jhg (Za6 jf4 (Za6 j9L (Za6 jmp (Za6 jjE (Za6 jiA Zas))))))))
def j3P (d:qG) (b:List qT) (f:qF->Res):Res:=j4h (d.2.1,d.2.2.1,d.2.2.2.1) λr=>j8L b r λg=>f g
def j8r:Z1d Unit:=λσ k=>rdN σ 88<|rdT σ 3 (pB 3)<|rdT σ 4 (pB 4)<|rdT σ 7 (pB 7)<|rdB σ 3 y13 [.S,.S] λa d=>rdB σ 4 y30 [.O] λg i=>rdB σ 7 y30 [.S] λh b=>j3P d b (λf=>k .ret (mkS 88 88 [(4,pB 4),(5,vI 0)] [(4,⟨y30,g,f,[.PS]⟩)]))
def j5b:Z1d Unit:=λσ k=>j8r (σ.wk [] [(7,[.S])]) k
theorem ji8:CN 0 1003 Tryz.f287 j5b:=λi=>ZaJ [] [(7,[.S])] (jpi follows j1D j9H i [] oN ([],[]) [] ([4,5],[4]) (y:=j8r) λσ k _ h=>rN h λr h=>rT h λn h=>rT h λp h=>rT h λq h=>rB h λa d b h=>rB h λz B f h=>rB h λA w g h=>⟨_,ZaM (m:=88) r (sC n (sC p (sC q sN))) (bC b (bC f (bC g bN))),.trans (by delta j3P jaf jc0;refine gz j4h λ_ j=>gz j8L λ_ l=> ?_;rewrite [<-j,<-l];kernel_rfl) h⟩)
def j6f (d:Int) (b:List qT) (f:Unit->Res):Res:=bif Z8e 0 d (List.length b) then bif Z8e (Z9K (d+1)) (nI (List.length b)) (List.length b) then bif lim (0+(List.length (sub b 0 d))) then bif lim ((List.length (sub b 0 d))+(List.length (sub b (Z9K (d+1)) (nI (List.length b))))) then f () else none else none else none else none
def j8s:Z1d Unit:=λσ k=>rdN σ 88<|rdT σ 4 (pB 4)<|rdI σ 6 λd=>rdT σ 7 (pB 7)<|rdB σ 4 y30 [.O] λa g=>rdB σ 7 y30 [.S] λf b=>j6f d b (λ_=>k .ret (mkS 88 88 [(4,pB 4),(5,vI 0)] [(4,⟨y30,a,((sub b 0 d)++(sub b (Z9K (d+1)) (nI (List.length b)))),[.PS]⟩)]))
def j8u:Z1d Unit:=λσ k=>j8s (σ.wk [] [(7,[.S])]) k
theorem ji9:CN 0 4090 Tryz.f287 j8u:=λf=>ZaJ [] [(7,[.S])] (jpi follows j1D j9H f [j5b] oN ([],[]) [] ([4,5],[4]) (y:=j8s) λσ k _ h=>rN h λn h=>rT h λi h=>rV h λg j h=>rT h λl h=>rB h λa r b h=>rB h λq p d h=>⟨_,ZaM (m:=88) n (sC i (sC j (sC l sN))) (bC b (bC d bN)),.trans (by kernel_rfl) h⟩)
def j1Q (c:List qT) (d:qG) (f:qF->Int->Res):Res:=j6e c λr=>bif !r then f [] 1 else j2a d λi=>bif !i then f [] 1 else j2c c d.2.1 λb=>j3T c λg=>bif (d.1==1) then bif decide (b>=0) then f [] 2 else bif ((nI (List.length c))==6) then f [] 3 else j3P d g λt=>f t 0 else bif decide (b<0) then f [] 4 else bif inb b (List.length c) then j4g (nth (eS,[],[]) c b) d λh=>bif (h != 0) then f [] h else bif (d.1==2) then j6f b g λ_=>f ((sub g 0 b)++(sub g (Z9K (b+1)) (nI (List.length g)))) 0 else bif inb b (List.length c) then j3n (nth (eS,[],[]) c b) d λj=>bif inb b (List.length g) then f (upd g b j) 0 else none else none else none
def j4z:Sig Unit:=sg [.borrow y30 true,.borrow y13 true] [true,false] [(y30,none),(y13,none)] [] λb g k=>j1Q b.1 b.2.1 (λd f=>k [⟨y30,true,d,[.S]⟩,wI f] [] [])
theorem jdF:SO 287 j4z:=fK (np:=0) j9H [j5b,j8u] (oI 1003 0 @ji8 (oI 4090 1 @ji9 oN)) true Tryz.func287 λ_ _ _ _=>by delta j1Q j7u j3N j3O j5H j5b jae j8u j96;delta j8r j8s;refine gz j6e λ_ b=>gz j2a λ_ d=>gz j2c λ_ f=>gz j3T λ_ g=>gz j3P λ_ h=>gz j4g λ_ i=>gz j6f λ_ j=>gz j3n λ_ k=> ?_;rewrite [<-b,<-d,<-f,<-g,<-h,<-i,<-j,<-k];kernel_rfl
def j3i (l:qL) (b:qL->Res):Res:=bif lim (0+(List.length l)) then b l else none
def jjx:Sig Unit:=sg [.borrow y0 false] [false] [(y0,none)] [] λd f k=>j3i d.1 (λb=>k [w1 y0 b .O] [] [])
theorem jcD:SO 217 jjx:=fK (np:=0) Zas [] oN false Tryz.func217 λ_ _ _ _=>by kernel_rfl
def j3h (t:qB×qE×qL) (b:qT->Res):Res:=bif lim (0+(List.length t.2.1)) then j3i t.2.2 λr=>b (t.1,t.2.1,r) else none
def jjw:Sig Unit:=sg [.borrow y29 true] [true] [(y29,none)] [] λd f k=>j3h d.1 (λb=>k [⟨y29,true,b,[.O,.O]⟩] [] [])
theorem j8V:SO 283 jjw:=fK (np:=0) (Za6 jcD Zas) [] oN false Tryz.func283 λ_ _ _ _=>by kernel_rfl
def j2x (d:qG) (b:qT->Res):Res:=j3h (d.2.1,d.2.2.1,d.2.2.2.1) λr=>b r
def j70:Sig Unit:=sg [.borrow y13 true] [true] [(y13,none)] [] λd f k=>j2x d.1 (λb=>k [⟨y29,true,b,[.O,.O]⟩] [] [])
theorem jdC:SO 269 j70:=fK (np:=0) (Za6 j8V Zas) [] oN false Tryz.func269 λ_ _ _ _=>by kernel_rfl
def j4o (c:qB×Int×Bool×Bool×Int×Int×qB) (b:Bool->Res):Res:=j0h c.1 λr=>bif !r then b false else j09 c.2.1 1 3 λd=>bif !d then b false else j0X c.2.2.2.2 λf=>bif !f then b false else bif !c.2.2.2.1 then b ((c.2.2.2.2.1==0)&&((c.2.2.2.2.2.1==0)&&(sEq c.2.2.2.2.2.2 eS))) else bif (c.2.2.2.2.1==c.2.1) then b true else bif (c.2.2.2.2.1==0) then b (!c.2.2.1) else b false
def ja9:Sig Unit:=sg [.look y7 true] [false] [(y7,none)] [] λd f k=>j4o d.1 (λb=>k [wB b] [] [])
theorem jh6:SO 270 ja9:=fK (np:=0) (Za6 j6r (Za6 j1b (Za6 j7e Zas))) [] oN false Tryz.func270 λ_ _ _ _=>by delta j4o j1c j0A j7t;refine gz j0h λ_ b=>gz j09 λ_ d=>gz j0X λ_ f=> ?_;rewrite [<-b,<-d,<-f];kernel_rfl
def jew (c:qB×Int×Bool×Bool×Int×Int×qB) (d:qB) (b:Bool->Res):Res:=b (sEq c.1 d)
def jmK:Sig Unit:=sg [.look y7 true,.rptr .str] [false] [(y7,none),(.str,none)] [] λb f k=>jew b.1 b.2.1 (λd=>k [wB d] [] [])
theorem jgj:SO 308 jmK:=fK (np:=0) Zas [] oN false Tryz.func308 λ_ _ _ _=>by kernel_rfl
def j0O (s:List qC) (f:qB) (h:Int) (b:Int) (rec:Int->Res) (d:Unit->Res) (g:Int->Res):Res:=bif decide (b<h) then bif inb b (List.length s) then jew (nth (eS,0,false,false,0,0,eS) s b) f λr=>bif r then g b else rec (Z9K (b+1)) else none else d ()
def j37 (s:List qC) (f:qB) (b:Int):Int->(Int->Res)->((Unit->Res)×(Int->Res))->Res:=λv rec q=>j0O s f b v (λd=>rec (d)) q.1 q.2
def j86 (s:List qC) (f:qB) (g:Int) (n:Nat) (h:Int) (b:Unit->Res) (d:Int->Res):Res:=Z1f (j37 s f g) n (h) (b,d)
def j7F:Z1d Unit:=NdL 19 19 [.R 0 y8 .S,.c 1 308 [.str] .str [],.I 7,.I 8] [] (λb d=>(b.2.2.2.1)) (λb v=>(b.1,b.2.1,b.2.2.1,v,())) (λd v=>()) (λb d=>j37 b.1 b.2.1 b.2.2.1) λb d f=>((λ_=>f (.exit 0) [] []),(λg=>f .ret [(4,vI g)] []))
theorem jd2:CN 0 26 Tryz.f307 j7F:=lK (Za6 jgj Zas) [] oN ([],[]) [(0,[],[])] ([4],[]) λ_ _ _ _ _=>by kernel_rfl
def j6a (s:List qC) (f:qB) (b:Int->Res):Res:=j86 s f (nI (List.length s)) Z1c 0 (λ_=>b (-1)) (λt=>b t)
def jeB:Sig Unit:=sg [.look y8 false,.rclos 308 [.str]] [false] [(y8,none),(.str,none)] [] λb f k=>j6a b.1 b.2.1 (λd=>k [wI d] [] [])
theorem jeq:SO 307 jeB:=fK (np:=0) (Za6 jgj Zas) [j7F] (oI 26 0 @jd2 oN) false Tryz.func307 λ_ _ _ _=>by kernel_rfl
def j0f (t:qB×qE×qL) (name:qB) (b:Int->Res):Res:=j6a t.2.1 name λr=>b r
def j0H:Sig Unit:=sg [.look y29 true,.look .str false] [false] [(y29,none),(.str,none)] [] λb f k=>j0f b.1 b.2.1 (λd=>k [wI d] [] [])
theorem j3q:SO 284 j0H:=fK (np:=0) (Za6 jeq Zas) [] oN false Tryz.func284 λ_ _ _ _=>by kernel_rfl
theorem jaR:FS [(160,j1c),(163,j0A),(270,ja9),(284,j0H)]:=(Za6 j6r (Za6 j1b (Za6 jh6 (Za6 j3q Zas))))
def j1J (d:List qC) (f:Int) (t:qB×qE×qL) (b:Int) (rec:Int->Res) (h:Unit->Res) (g:Unit->Res):Res:=bif decide (b<f) then bif inb b (List.length d) then j4o (nth (eS,0,false,false,0,0,eS) d b) λr=>bif !r then g () else j0f t (nth (eS,0,false,false,0,0,eS) d b).1 λi=>bif (i != b) then g () else rec (Z9K (b+1)) else none else h ()
def j2G (b:List qC) (d:Int) (t:qB×qE×qL):Int->(Int->Res)->((Unit->Res)×(Unit->Res))->Res:=λv rec q=>j1J b d t v (λf=>rec (f)) q.1 q.2
def j6X (b:List qC) (d:Int) (t:qB×qE×qL) (n:Nat) (f:Int) (g:Unit->Res) (h:Unit->Res):Res:=Z1f (j2G b d t) n (f) (g,h)
def j6l:Z1d Unit:=NdL 68 68 [.t 1 (pB 1),.R 10 y8 .S,.I 11,.I 12] [(1,y29,[.S,.S])] (λb d=>(b.2.2.1)) (λb v=>(b.1,b.2.1,v,())) (λd v=>((d.1.1,d.1.2),())) (λb d=>j2G b.1 b.2.1 d.1.2) λb d f=>((λ_=>f (.exit 0) [(1,pB 1)] [(1,⟨y29,d.1.1,d.1.2,[.S,.S]⟩)]),(λ_=>f .ret [(2,vB false)] []))
theorem jiX:CN 0 26 Tryz.f268 j6l:=lK jaR [] oN ([],[]) [(0,[1],[1])] ([2],[]) λ_ _ _ _ _=>by delta j2G j1J ja9 j0H;refine gz j4o λ_ b=>gz j0f λ_ d=> ?_;rewrite [<-b,<-d];kernel_rfl
def j2H (f:qL) (g:Int) (t:qB×qE×qL) (d:Int) (b:Int) (rec:Int->Int->Res) (i:Unit->Res) (h:Unit->Res):Res:=bif decide (b<g) then bif inb b (List.length f) then j0f t (nth eS f b) λr=>bif decide (r<=d) then h () else bif inb r (List.length t.2.1) then bif !(nth (eS,0,false,false,0,0,eS) t.2.1 r).2.2.1 then h () else rec r (Z9K (b+1)) else none else none else i ()
def j4V (d:qL) (f:Int) (t:qB×qE×qL):(Int×Int)->(Int×Int->Res)->((Unit->Res)×(Unit->Res))->Res:=λv rec q=>j2H d f t v.1 v.2 (λb g=>rec (b,g)) q.1 q.2
def j6Y (d:qL) (f:Int) (t:qB×qE×qL) (n:Nat) (b:Int) (g:Int) (h:Unit->Res) (i:Unit->Res):Res:=Z1f (j4V d f t) n (b,g) (h,i)
def j9m:Z1d Unit:=NdL 68 68 [.t 1 (pB 1),.I 5,.R 30 y0 .S,.I 31,.I 32] [(1,y29,[.S,.S])] (λb d=>(b.1,b.2.2.2.1)) (λb v=>(v.1,b.2.1,b.2.2.1,v.2,())) (λd v=>((d.1.1,d.1.2),())) (λb d=>j4V b.2.1 b.2.2.1 d.1.2) λb d f=>((λ_=>f (.exit 2) [(1,pB 1)] [(1,⟨y29,d.1.1,d.1.2,[.S,.S]⟩)]),(λ_=>f .ret [(2,vB false)] []))
theorem jiY:CN 0 122 Tryz.f268 j9m:=lK jaR [j6l] oN ([],[]) [(2,[1],[1])] ([2],[]) λ_ _ _ _ _=>by kernel_rfl
def j0G (t:qB×qE×qL) (b:Bool->Res):Res:=j6X t.2.1 (nI (List.length t.2.1)) t Z1c 0 (λ_=>j6Y t.2.2 (nI (List.length t.2.2)) t Z1c (-1) 0 (λ_=>j0h t.1 λr=>bif r then j09 (nI (List.length t.2.1)) 1 8 λd=>bif d then b (decide ((nI (List.length t.2.2))>0)) else b false else b false) (λ_=>b false)) (λ_=>b false)
def j3l:Sig Unit:=sg [.look y29 true] [false] [(y29,none)] [] λd f k=>j0G d.1 (λb=>k [wB b] [] [])
theorem j5d:SO 268 j3l:=fK (np:=0) jaR [j6l,j9m] (oI 26 0 @jiX (oI 122 1 @jiY oN)) false Tryz.func268 λ_ _ _ _=>by delta j0G j6l j9m j1c j0A j6X j6Y;refine gz j2G λ_ b=>gz j4V λ_ d=>gz j0h λ_ f=>gz j09 λ_ g=> ?_;rewrite [<-b,<-d,<-f,<-g];kernel_rfl
def j0e (a:qG) (b:qG) (d:Bool->Res):Res:=bif (a.1==b.1) then bif sEq a.2.1 b.2.1 then j1j a.2.2.1 b.2.2.1 λr=>bif r then j1Y a.2.2.2.1 b.2.2.2.1 λf=>bif f then bif sEq a.2.2.2.2.1 b.2.2.2.2.1 then d (sEq a.2.2.2.2.2 b.2.2.2.2.2) else d false else d false else d false else d false else d false
def j72:Sig Unit:=sg [.look y13 true,.look y13 true] [false] [(y13,none),(y13,none)] [] λb f k=>j0e b.1 b.2.1 (λd=>k [wB d] [] [])
theorem j9J:SO 212 j72:=fK (np:=0) (Za6 jhe (Za6 jeZ Zas)) [] oN false Tryz.func212 λ_ _ _ _=>by delta j0e jbH j9E;refine gz j1j λ_ b=>gz j1Y λ_ d=> ?_;rewrite [<-b,<-d];kernel_rfl
def j28 (d:qG) (b:Bool->Res):Res:=j0h d.2.1 λr=>bif !r then b false else bif (d.1==1) then j2x d λg=>j0G g λh=>bif h then bif sEq d.2.2.2.2.1 eS then b (sEq d.2.2.2.2.2 eS) else b false else b false else bif (d.1==2) then j0e d (d.1,d.2.1,[],[],eS,eS) λi=>b i else bif (d.1==3) then j0e d (d.1,d.2.1,d.2.2.1,[],eS,eS) λj=>bif j then bif ((nI (List.length d.2.2.1))==1) then bif inb 0 (List.length d.2.2.1) then j4o (nth (eS,0,false,false,0,0,eS) d.2.2.1 0) λk=>bif k then bif inb 0 (List.length d.2.2.1) then bif (nth (eS,0,false,false,0,0,eS) d.2.2.1 0).2.2.2.1 then b true else bif inb 0 (List.length d.2.2.1) then b (!(nth (eS,0,false,false,0,0,eS) d.2.2.1 0).2.2.1) else none else none else b false else none else b false else b false else bif (d.1==4) then j0e d (d.1,d.2.1,[],[],d.2.2.2.2.1,eS) λl=>bif l then j0h d.2.2.2.2.1 λm=>b m else b false else bif (d.1==5) then j0e d (d.1,d.2.1,[],[],d.2.2.2.2.1,d.2.2.2.2.2) λn=>bif n then j0h d.2.2.2.2.1 λp=>bif p then j0h d.2.2.2.2.2 λf=>b f else b false else b false else b false
def j3L:Sig Unit:=sg [.look y13 true] [false] [(y13,none)] [] λd f k=>j28 d.1 (λb=>k [wB b] [] [])
theorem jcC:SO 211 j3L:=fK (np:=0) (Za6 j6r (Za6 j9J (Za6 j5d (Za6 jdC (Za6 jh6 Zas))))) [] oN false Tryz.func211 λ_ _ _ _=>by delta j28 j1c j70 j3l j72 ja9;refine gz j0h λ_ b=>gz j2x λ_ d=>gz j0G λ_ f=>gz j0e λ_ g=>gz j4o λ_ h=> ?_;rewrite [<-b,<-d,<-f,<-g,<-h];kernel_rfl
def j9U (d:qG) (b:qG->Res):Res:=bif lim (0+(List.length d.2.2.1)) then j3i d.2.2.2.1 λr=>b (d.1,d.2.1,d.2.2.1,r,d.2.2.2.2) else none
def jfn:Sig Unit:=sg [.borrow y13 true] [true] [(y13,none)] [] λd f k=>j9U d.1 (λb=>k [⟨y13,true,b,[.O,.O]⟩] [] [])
theorem jkJ:SO 275 jfn:=fK (np:=0) (Za6 jcD Zas) [] oN false Tryz.func275 λ_ _ _ _=>by kernel_rfl
def j4n (d:List qT) (h:Int) (c:List qT) (b:Int) (rec:Int->Res) (g:Unit->Res) (f:Unit->Res):Res:=bif decide (b<h) then bif inb b (List.length d) then j0G (nth (eS,[],[]) d b) λr=>bif !r then f () else bif decide (b>0) then bif inb (Z9K (b-1)) (List.length c) then bif sGe (nth (eS,[],[]) c (Z9K (b-1))).1 (nth (eS,[],[]) d b).1 then f () else rec (Z9K (b+1)) else none else rec (Z9K (b+1)) else none else g ()
def j9P (b:List qT) (d:Int) (c:List qT):Int->(Int->Res)->((Unit->Res)×(Unit->Res))->Res:=λv rec q=>j4n b d c v (λf=>rec (f)) q.1 q.2
def jbP (f:List qT) (g:Int) (c:List qT) (n:Nat) (h:Int) (b:Unit->Res) (d:Unit->Res):Res:=Z1f (j9P f g c) n (h) (b,d)
def jfE:Z1d Unit:=NdL 37 37 [.t 1 (pB 1),.R 6 y30 .S,.I 7,.I 8] [(1,y30,[.S])] (λb d=>(b.2.2.1)) (λb v=>(b.1,b.2.1,v,())) (λd v=>((d.1.1,d.1.2),())) (λb d=>j9P b.1 b.2.1 d.1.2) λb d f=>((λ_=>f (.exit 0) [(1,pB 1)] [(1,⟨y30,d.1.1,d.1.2,[.S]⟩)]),(λ_=>f .ret [(2,vB false)] []))
theorem jla:CN 0 26 Tryz.f250 jfE:=lK (Za6 j5d Zas) [] oN ([],[]) [(0,[1],[1])] ([2],[]) λ_ _ _ _ _=>by kernel_rfl
def j65 (c:List qT) (b:Bool->Res):Res:=jbP c (nI (List.length c)) c Z1c 0 (λ_=>b (decide ((nI (List.length c))<=6))) (λ_=>b false)
def j7r:Sig Unit:=sg [.look y30 true] [false] [(y30,none)] [] λd f k=>j65 d.1 (λb=>k [wB b] [] [])
theorem jh5:SO 250 j7r:=fK (np:=0) (Za6 j5d Zas) [jfE] (oI 26 0 @jla oN) false Tryz.func250 λ_ _ _ _=>by kernel_rfl
def j2J (f:List qT) (h:Int) (b:Int) (d:List qT) (rec:Int->qF->Res) (g:qF->Res):Res:=bif decide (b<h) then bif inb b (List.length f) then j3h (nth (eS,[],[]) f b) λr=>bif lim ((List.length d)+1) then rec (Z9K (b+1)) (d++[r]) else none else none else g d
def j8f (f:List qT) (g:Int):(Int×qF)->(Int×qF->Res)->((qF->Res))->Res:=λv rec q=>j2J f g v.1 v.2 (λd b=>rec (d,b)) q
def jdQ (g:List qT) (h:Int) (n:Nat) (d:Int) (b:List qT) (f:qF->Res):Res:=Z1f (j8f g h) n (d,b) (f)
def jdn:Z1d Unit:=NdL 23 23 [.t 2 (pB 2),.t 3 (pB 3),.R 8 y30 .S,.I 9,.I 10] [(2,y30,[.O]),(3,y30,[.O])] (λd b=>(d.2.2.1,b.2.1.2)) (λd v=>(d.1,d.2.1,v.1,())) (λb v=>((b.1.1,b.1.2),(b.2.1.1,v.2),())) (λd b=>j8f d.1 d.2.1) λd b g=>((λf=>g (.exit 0) [(2,pB 2),(3,pB 3)] [(2,⟨y30,b.1.1,b.1.2,[.O]⟩),(3,⟨y30,b.2.1.1,f,[.O]⟩)]))
theorem jj1:CN 0 58 Tryz.f231 jdn:=lK (Za6 j8V Zas) [] oN ([],[]) [(0,[2,3],[2,3])] ([],[]) λ_ _ _ _ _=>by kernel_rfl
def j3y (c:List qT) (d:qF->Res):Res:=jdQ c (nI (List.length c)) Z1c 0 [] λb=>d b
def j5y:Sig Unit:=sg [.borrow y30 true] [true] [(y30,none)] [] λd f k=>j3y d.1 (λb=>k [⟨y30,true,b,[.O]⟩] [] [])
theorem jeU:SO 231 j5y:=fK (np:=0) (Za6 j8V Zas) [jdn] (oI 58 0 @jj1 oN) false Tryz.func231 λ_ _ _ _=>by kernel_rfl
def jcR (t:qB×qE×qL) (d:qB) (b:Bool->Res):Res:=b (sEq t.1 d)
def jlr:Sig Unit:=sg [.look y29 true,.rptr .str] [false] [(y29,none),(.str,none)] [] λb f k=>jcR b.1 b.2.1 (λd=>k [wB d] [] [])
theorem jeQ:SO 235 jlr:=fK (np:=0) Zas [] oN false Tryz.func235 λ_ _ _ _=>by kernel_rfl
def j0D (s:List qT) (f:qB) (h:Int) (b:Int) (rec:Int->Res) (d:Unit->Res) (g:Int->Res):Res:=bif decide (b<h) then bif inb b (List.length s) then jcR (nth (eS,[],[]) s b) f λr=>bif r then g b else rec (Z9K (b+1)) else none else d ()
def j2i (s:List qT) (f:qB) (b:Int):Int->(Int->Res)->((Unit->Res)×(Int->Res))->Res:=λv rec q=>j0D s f b v (λd=>rec (d)) q.1 q.2
def j74 (s:List qT) (f:qB) (g:Int) (n:Nat) (h:Int) (b:Unit->Res) (d:Int->Res):Res:=Z1f (j2i s f g) n (h) (b,d)
def j6C:Z1d Unit:=NdL 19 19 [.R 0 y30 .S,.c 1 235 [.str] .str [],.I 7,.I 8] [] (λb d=>(b.2.2.2.1)) (λb v=>(b.1,b.2.1,b.2.2.1,v,())) (λd v=>()) (λb d=>j2i b.1 b.2.1 b.2.2.1) λb d f=>((λ_=>f (.exit 0) [] []),(λg=>f .ret [(4,vI g)] []))
theorem jbS:CN 0 26 Tryz.f234 j6C:=lK (Za6 jeQ Zas) [] oN ([],[]) [(0,[],[])] ([4],[]) λ_ _ _ _ _=>by kernel_rfl
def j4O (s:List qT) (f:qB) (b:Int->Res):Res:=j74 s f (nI (List.length s)) Z1c 0 (λ_=>b (-1)) (λt=>b t)
def jda:Sig Unit:=sg [.look y30 false,.rclos 235 [.str]] [false] [(y30,none),(.str,none)] [] λb f k=>j4O b.1 b.2.1 (λd=>k [wI d] [] [])
theorem jcK:SO 234 jda:=fK (np:=0) (Za6 jeQ Zas) [j6C] (oI 26 0 @jbS oN) false Tryz.func234 λ_ _ _ _=>by kernel_rfl
def j0l (c:List qT) (name:qB) (b:Int->Res):Res:=j4O c name λr=>b r
def j0T:Sig Unit:=sg [.look y30 true,.look .str false] [false] [(y30,none),(.str,none)] [] λb f k=>j0l b.1 b.2.1 (λd=>k [wI d] [] [])
theorem j8M:SO 176 j0T:=fK (np:=0) (Za6 jcK Zas) [] oN false Tryz.func176 λ_ _ _ _=>by kernel_rfl
theorem j7L:FS [(95,j3M),(176,j0T),(284,j0H)]:=(Za6 jcJ (Za6 j8M (Za6 j3q Zas)))
def j4t (d:qG) (t:qB×qE×qL) (b:Bool->Res):Res:=bif (d.1==3) then bif inb 0 (List.length d.2.2.1) then j0f t (nth (eS,0,false,false,0,0,eS) d.2.2.1 0).1 λr=>bif decide (r>=0) then b true else bif (d.1==5) then j0f t d.2.2.2.2.2 λf=>b (decide (f>=0)) else b false else none else bif (d.1==5) then j0f t d.2.2.2.2.2 λg=>b (decide (g>=0)) else b false
def j43:Z1d Unit:=Nd 92 92 [.t 3 (pB 3),.t 6 (pB 6)] [(3,y13,[.S,.S]),(6,y29,[.S,.S])] λg b f=>j4t b.1.2 b.2.1.2 (λd=>f .normal [(3,pB 3),(6,pB 6),(29,vB d)] [(3,⟨y13,b.1.1,b.1.2,[.S,.S]⟩),(6,⟨y29,b.2.1.1,b.2.1.2,[.S,.S]⟩)])
theorem jj2:CN 0 504 Tryz.f317 j43:=nK j7L [] oN ([3,6,29],[3,6]) [] ([],[]) λ_ _ _=>by delta j4t j0H;refine gz j0f λ_ b=> ?_;rewrite [<-b];kernel_rfl
def j6Z (d:qG) (t:qB×qE×qL) (b:Bool->Res):Res:=bif (d.1==3) then b ((nI (List.length t.2.1))==8) else b false
def j6m:Z1d Unit:=Nd 92 92 [.t 3 (pB 3),.t 6 (pB 6)] [(3,y13,[.S,.S]),(6,y29,[.S,.S])] λg b f=>j6Z b.1.2 b.2.1.2 (λd=>f .normal [(3,pB 3),(6,pB 6),(55,vB d)] [(3,⟨y13,b.1.1,b.1.2,[.S,.S]⟩),(6,⟨y29,b.2.1.1,b.2.1.2,[.S,.S]⟩)])
theorem jj3:CN 0 2022 Tryz.f317 j6m:=nK j7L [j43] oN ([3,6,55],[3,6]) [] ([],[]) λ_ _ _=>by kernel_rfl
def j4u (d:qG) (t:qB×qE×qL) (b:Bool->Res):Res:=bif (d.1==4) then j0f t d.2.2.2.2.1 λr=>b (decide (r<0)) else bif (d.1==5) then j0f t d.2.2.2.2.1 λf=>b (decide (f<0)) else b false
def j9p:Z1d Unit:=Nd 92 92 [.t 3 (pB 3),.t 6 (pB 6)] [(3,y13,[.S,.S]),(6,y29,[.S,.S])] λg b f=>j4u b.1.2 b.2.1.2 (λd=>f .normal [(3,pB 3),(6,pB 6),(65,vB d)] [(3,⟨y13,b.1.1,b.1.2,[.S,.S]⟩),(6,⟨y29,b.2.1.1,b.2.1.2,[.S,.S]⟩)])
theorem jj4:CN 0 8094 Tryz.f317 j9p:=nK j7L [j43,j6m] oN ([3,6,65],[3,6]) [] ([],[]) λ_ _ _=>by delta j4u j0H;refine gz j0f λ_ b=> ?_;rewrite [<-b];kernel_rfl
def j2g (c:List qT) (d:qG) (b:Int->Res):Res:=j0l c d.2.1 λr=>bif (d.1==1) then bif decide (r>=0) then b 2 else bif ((nI (List.length c))==6) then b 3 else b 0 else bif decide (r<0) then b 4 else bif inb r (List.length c) then j4t d (nth (eS,[],[]) c r) λt=>bif t then b 5 else j6Z d (nth (eS,[],[]) c r) λg=>bif g then b 6 else j4u d (nth (eS,[],[]) c r) λh=>bif h then b 7 else bif (d.1==4) then j19 (nth (eS,[],[]) c r).2.2 d.2.2.2.2.1 λf=>bif f then b 8 else b 0 else b 0 else none
def j5z:Sig Unit:=sg [.look y30 true,.look y13 true] [false] [(y30,none),(y13,none)] [] λb f k=>j2g b.1 b.2.1 (λd=>k [wI d] [] [])
theorem jeV:SO 317 j5z:=fK (np:=0) j7L [j43,j6m,j9p] (oI 504 0 @jj2 (oI 2022 1 @jj3 (oI 8094 2 @jj4 oN))) false Tryz.func317 λ_ _ _ _=>by delta j2g j0T j43 j6m j9p j3M;refine gz j0l λ_ b=>gz j4t λ_ d=>gz j6Z λ_ f=>gz j4u λ_ g=>gz j19 λ_ h=> ?_;rewrite [<-b,<-d,<-f,<-g,<-h];kernel_rfl
def jaX (x:qB×Int×Bool×Bool×Int×Int×qB) (d:qG) (b:Bool->Res):Res:=b (sEq x.1 d.2.2.2.2.1)
def jjv:Sig Unit:=sg [.look y7 true,.rptr y13] [false] [(y7,none),(y13,none)] [] λb f k=>jaX b.1 b.2.1 (λd=>k [wB d] [] [])
theorem jiw:SO 321 jjv:=fK (np:=0) Zas [] oN false Tryz.func321 λ_ _ _ _=>by kernel_rfl
def j2r (s:List qC) (b:qG) (d:qE->qG->Res):Res:=bif lim (List.length s) then dgE (λe k=>jaX e b k) s [] (λr=>d r b) else none
def j4b:Sig Unit:=⟨[.eat y8 false,.clos 321 [y13]],[false],λvals ext k=>ao vals y8 [.O] λs vals=>nl vals<|ab ext y13 [.S,.S] λa0 f ext=>nl ext<|j2r s f (λd b=>k [w1 y8 d .O] [] [⟨y13,a0,b,[.S,.S]⟩])⟩
theorem jdy:Z17 Tryz.prog 320 j4b:=gS (jrK (U:=0) (T:=280) (e:=y7) (ag:=true) (τ:=y13) (tg:=[.S,.S]) (fl:=[9,3,4,4,151]) (S:=116) (E:=213) (I:=3) (B:=4) follows j1D (by kernel_rfl) Tryz.underlying116 (by kernel_rfl) (by kernel_rfl) (by kernel_rfl) (by kernel_rfl) Tryz.isAgg280 Tryz.sizeOf280 (by kernel_rfl) (by kernel_rfl) (by kernel_rfl) Tryz.func307 (by kernel_rfl) (by kernel_rfl) (by kernel_rfl) (by kernel_rfl) jiw (by kernel_rfl) Tryz.func320 (by kernel_rfl) (by kernel_rfl) (by kernel_rfl) (by kernel_rfl)) (by kernel_rfl)
theorem j9G:FS [(166,j5E),(176,j0T),(211,j3L),(231,j5y),(250,j7r),(269,j70),(284,j0H),(317,j5z),(318,j5F),(319,j5D),(320,j4b)]:=(Za6 j9y (Za6 j8M (Za6 jcC (Za6 jeU (Za6 jh5 (Za6 jdC (Za6 j3q (Za6 jeV (Za6 jf0 (Za6 jeY (Za6 jdy Zas)))))))))))
def j2d (d:qG) (f:List qT) (b:Int) (rec:Int->Res) (g:Int->Res):Res:=bif decide (b<(nI (List.length f))) then bif inb b (List.length f) then bif sLt (nth (eS,[],[]) f b).1 d.2.1 then rec (Z9K (b+1)) else g b else none else g b
def j4p (d:qG) (f:List qT):Int->(Int->Res)->((Int->Res))->Res:=λv rec q=>j2d d f v (λb=>rec (b)) q
def j90 (d:qG) (f:List qT) (n:Nat) (b:Int) (g:Int->Res):Res:=Z1f (j4p d f) n (b) (g)
def j5a:Z1d Unit:=NdL 146 146 [.t 3 (pB 3),.t 4 (pB 4),.t 7 (pB 7),.I 9] [(3,y13,[.S,.S]),(4,y30,[.O]),(7,y30,[.O])] (λf b=>(f.1)) (λf v=>(v,())) (λb v=>((b.1.1,b.1.2),(b.2.1.1,b.2.1.2),(b.2.2.1.1,b.2.2.1.2),())) (λf b=>j4p b.1.2 b.2.2.1.2) λf b g=>((λd=>g (.exit 1) [(3,pB 3),(4,pB 4),(7,pB 7),(9,vI d)] [(3,⟨y13,b.1.1,b.1.2,[.S,.S]⟩),(4,⟨y30,b.2.1.1,b.2.1.2,[.O]⟩),(7,⟨y30,b.2.2.1.1,b.2.2.1.2,[.O]⟩)]))
theorem ji5:CN 0 16212 Tryz.f295 j5a:=lK j9G [] oN ([],[]) [(1,[3,4,7,9],[3,4,7])] ([],[]) λ_ _ _ _ _=>by kernel_rfl
def j1i (f:Int) (h:Int) (d:qG) (b:List qT) (i:qF->Res):Res:=bif (h==1) then j90 d b Z1c 0 λj=>j2x d λr=>j49 b j [r] λl=>i l else bif (h==2) then j48 b f (Z9K (f+1)) λm=>i m else bif (h==3) then bif inb f (List.length b) then bif inb 0 (List.length d.2.2.1) then bif lim ((List.length (nth (eS,[],[]) b f).2.1)+1) then bif inb f (List.length (upd b f ((nth (eS,[],[]) b f).1,((nth (eS,[],[]) b f).2.1++[nth (eS,0,false,false,0,0,eS) d.2.2.1 0]),(nth (eS,[],[]) b f).2.2))) then bif (Z9o (Int.toNat f) (Int.toNat f)&&true) then i (upd b f ((nth (eS,[],[]) b f).1,((nth (eS,[],[]) b f).2.1++[nth (eS,0,false,false,0,0,eS) d.2.2.1 0]),(nth (eS,[],[]) b f).2.2)) else none else none else none else none else none else bif (h==4) then bif inb f (List.length b) then j2r (nth (eS,[],[]) b f).2.1 d λn p=>bif (Z9o (Int.toNat f) (Int.toNat f)&&true) then i (upd b f ((nth (eS,[],[]) b f).1,n,(nth (eS,[],[]) b f).2.2)) else none else none else bif (h==5) then bif inb f (List.length b) then j0f (nth (eS,[],[]) b f) d.2.2.2.2.1 λg=>bif inb g (List.length (nth (eS,[],[]) b f).2.1) then j0M (nth (eS,[],[]) (upd b f ((nth (eS,[],[]) b f).1,upd (nth (eS,[],[]) b f).2.1 g (d.2.2.2.2.2,(nth (eS,0,false,false,0,0,eS) (nth (eS,[],[]) b f).2.1 g).2),(nth (eS,[],[]) b f).2.2)) f).2.2 d.2.2.2.2.1 λk=>bif decide (k>=0) then bif inb k (List.length (nth (eS,[],[]) (upd b f ((nth (eS,[],[]) b f).1,upd (nth (eS,[],[]) b f).2.1 g (d.2.2.2.2.2,(nth (eS,0,false,false,0,0,eS) (nth (eS,[],[]) b f).2.1 g).2),(nth (eS,[],[]) b f).2.2)) f).2.2) then i (upd (upd b f ((nth (eS,[],[]) b f).1,upd (nth (eS,[],[]) b f).2.1 g (d.2.2.2.2.2,(nth (eS,0,false,false,0,0,eS) (nth (eS,[],[]) b f).2.1 g).2),(nth (eS,[],[]) b f).2.2)) f ((nth (eS,[],[]) (upd b f ((nth (eS,[],[]) b f).1,upd (nth (eS,[],[]) b f).2.1 g (d.2.2.2.2.2,(nth (eS,0,false,false,0,0,eS) (nth (eS,[],[]) b f).2.1 g).2),(nth (eS,[],[]) b f).2.2)) f).1,(nth (eS,[],[]) (upd b f ((nth (eS,[],[]) b f).1,upd (nth (eS,[],[]) b f).2.1 g (d.2.2.2.2.2,(nth (eS,0,false,false,0,0,eS) (nth (eS,[],[]) b f).2.1 g).2),(nth (eS,[],[]) b f).2.2)) f).2.1,upd (nth (eS,[],[]) (upd b f ((nth (eS,[],[]) b f).1,upd (nth (eS,[],[]) b f).2.1 g (d.2.2.2.2.2,(nth (eS,0,false,false,0,0,eS) (nth (eS,[],[]) b f).2.1 g).2),(nth (eS,[],[]) b f).2.2)) f).2.2 k d.2.2.2.2.2)) else none else i (upd b f ((nth (eS,[],[]) b f).1,upd (nth (eS,[],[]) b f).2.1 g (d.2.2.2.2.2,(nth (eS,0,false,false,0,0,eS) (nth (eS,[],[]) b f).2.1 g).2),(nth (eS,[],[]) b f).2.2)) else none else none else i b
def j8t:Z1d Unit:=Nd 146 146 [.t 3 (pB 3),.t 4 (pB 4),.t 7 (pB 7),.I 8,.I 36] [(3,y13,[.S,.S]),(4,y30,[.O]),(7,y30,[.O])] λf d g=>j1i f.1 f.2.1 d.1.2 d.2.2.1.2 (λb=>g .normal [(4,pB 4),(7,pB 7)] [(4,⟨y30,d.2.1.1,d.2.1.2,[.O]⟩),(7,⟨y30,d.2.2.1.1,b,[.O]⟩)])
theorem ji6:CN 0 253 Tryz.f295 j8t:=nK j9G [j5a] (oI 84 0 @ji5 oN) ([4,7],[4,7]) [] ([],[]) λ_ _ _=>by delta j1i j5a j70 j5F j5D j4b j0H j5E j90;refine gz j4p λ_ b=>gz j2x λ_ d=>gz j49 λ_ f=>gz j48 λ_ g=>gz j2r λ_ h=>gz j0f λ_ i=>gz j0M λ_ j=> ?_;rewrite [<-b,<-d,<-f,<-g,<-h,<-i,<-j];kernel_rfl
def j4f (c:List qT) (d:qG) (b:qF->Int->Res):Res:=j65 c λr=>bif !r then b [] 1 else j28 d λh=>bif !h then b [] 1 else j2g c d λg=>bif (g != 0) then b [] g else j3y c λi=>j0l c d.2.1 λj=>j1i j d.1 d i λf=>b f 0
def jaa:Sig Unit:=sg [.borrow y30 true,.borrow y13 true] [true,false] [(y30,none),(y13,none)] [] λb g k=>j4f b.1 b.2.1 (λd f=>k [⟨y30,true,d,[.O]⟩,wI f] [] [])
theorem jjC:SO 295 jaa:=fK (np:=0) j9G [j5a,j8t] (oI 253 1 @ji6 oN) false Tryz.func295 λ_ _ _ _=>by delta j4f j7r j3L j5z j5y j0T j8t;refine gz j65 λ_ b=>gz j28 λ_ d=>gz j2g λ_ f=>gz j3y λ_ g=>gz j0l λ_ h=>gz j1i λ_ i=> ?_;rewrite [<-b,<-d,<-f,<-g,<-h,<-i];kernel_rfl
end
end Go.PI.G
