/-
  Program's code interpreted over typed values; printed texts; plain laws. No conditions.
-/
import Derived.Test.YtnemiodjnhfejaaGreatSQc
import Derived.Test.YtnemiodjnhfejaaGreatSQd
set_option linter.unusedVariables false
set_option maxRecDepth 100000
namespace Go.PI.G
noncomputable section
open Go Go.PI Go.Proofs
open Go.Code (pl pr)
def j5N (c:qB×Int×Bool×Bool×Int×Int×qB) (b:Bool->Res):Res:=j0M c.1 λr=>bif !r then b false else bif decide (c.2.1<1) then b false else bif decide (c.2.1>3) then b false else bif !c.2.2.2.1 then b ((c.2.2.2.2.1==0)&&((c.2.2.2.2.2.1==0)&&(sEq c.2.2.2.2.2.2 eS))) else j1H c.2.2.2.2 λd=>bif d then bif ((c.2.2.2.2.1==0)&&((c.2.2.2.2.2.1==0)&&(sEq c.2.2.2.2.2.2 eS))) then bif ((c.2.2.2.2.1==0)&&((c.2.2.2.2.2.1==0)&&(sEq c.2.2.2.2.2.2 eS))) then b (!c.2.2.1) else b true else bif (c.2.2.2.2.1==c.2.1) then bif ((c.2.2.2.2.1==0)&&((c.2.2.2.2.2.1==0)&&(sEq c.2.2.2.2.2.2 eS))) then b (!c.2.2.1) else b true else b false else b false
def j8R:Sig Unit:=sg [.look y7 true] [false] [(y7,none)] [] λd f k=>j5N d.1 (λb=>k [wB b] [] [])
theorem jil:SO 267 j8R:=fK (np:=0) (Za6 ja6 (Za6 j8p Zas)) [] oN false Tryz.func267 λ_ _ _ _=>by delta j5N j3z jbq;refine gz j0M λ_ b=>gz j1H λ_ d=> ?_;rewrite [<-b,<-d];kernel_rfl
def j5M (name:qB) (d:List qC) (h:Int) (b:Int) (rec:Int->Res) (f:Unit->Res) (g:Int->Res):Res:=bif decide (b<h) then bif inb b (List.length d) then bif sEq (nth (eS,0,false,false,0,0,eS) d b).1 name then g b else rec (Z9K (b+1)) else none else f ()
def jbv (name:qB) (d:List qC) (f:Int):Int->(Int->Res)->((Unit->Res)×(Int->Res))->Res:=λv rec q=>j5M name d f v (λb=>rec (b)) q.1 q.2
def ji1 (name:qB) (g:List qC) (h:Int) (n:Nat) (b:Int) (d:Unit->Res) (f:Int->Res):Res:=Z1f (jbv name g h) n (b) (d,f)
def jgY:Z1d Unit:=NdL 21 21 [.S 1,.R 8 y8 .S,.I 9,.I 10] [] (λb d=>(b.2.2.2.1)) (λb v=>(b.1,b.2.1,b.2.2.1,v,())) (λd v=>()) (λb d=>jbv b.1 b.2.1 b.2.2.1) λb d f=>((λ_=>f (.exit 0) [] []),(λg=>f .ret [(4,vI g)] []))
theorem jmG:CN 0 26 Tryz.f230 jgY:=lK Zas [] oN ([],[]) [(0,[],[])] ([4],[]) λ_ _ _ _ _=>by kernel_rfl
def j0Q (t:qB×qE×qL) (name:qB) (b:Int->Res):Res:=ji1 name t.2.1 (nI (List.length t.2.1)) Z1c 0 (λ_=>b (-1)) (λd=>b d)
def j37:Sig Unit:=sg [.look y10 true,.look .str false] [false] [(y10,none),(.str,none)] [] λb f k=>j0Q b.1 b.2.1 (λd=>k [wI d] [] [])
theorem j6w:SO 230 j37:=fK (np:=0) Zas [jgY] (oI 26 0 @jmG oN) false Tryz.func230 λ_ _ _ _=>by kernel_rfl
theorem j97:FS [(154,j3z),(230,j37),(267,j8R)]:=(Za6 ja6 (Za6 j6w (Za6 jil Zas)))
def j5T (t:qB×qE×qL) (b:Bool->Res):Res:=j0M t.1 λr=>bif !r then b true else bif decide ((nI (List.length t.2.1))<1) then b true else bif decide ((nI (List.length t.2.1))>8) then b true else b (decide ((nI (List.length t.2.2))<1))
def j54:Z1d Unit:=Nd 75 75 [.t 1 (pB 1)] [(1,y10,[.S,.S])] λg d f=>j5T d.1.2 (λb=>f .normal [(1,pB 1),(30,vB b)] [(1,⟨y10,d.1.1,d.1.2,[.S,.S]⟩)])
theorem jkV:CN 0 12 Tryz.f227 j54:=nK j97 [] oN ([1,30],[1]) [] ([],[]) λ_ _ _=>by kernel_rfl
def j2g (d:List qC) (f:Int) (t:qB×qE×qL) (b:Int) (rec:Int->Res) (h:Unit->Res) (g:Unit->Res):Res:=bif decide (b<f) then bif inb b (List.length d) then j5N (nth (eS,0,false,false,0,0,eS) d b) λr=>bif !r then g () else j0Q t (nth (eS,0,false,false,0,0,eS) d b).1 λi=>bif (i != b) then g () else rec (Z9K (b+1)) else none else h ()
def j3X (b:List qC) (d:Int) (t:qB×qE×qL):Int->(Int->Res)->((Unit->Res)×(Unit->Res))->Res:=λv rec q=>j2g b d t v (λf=>rec (f)) q.1 q.2
def j8k (b:List qC) (d:Int) (t:qB×qE×qL) (n:Nat) (f:Int) (g:Unit->Res) (h:Unit->Res):Res:=Z1f (j3X b d t) n (f) (g,h)
def j7C:Z1d Unit:=NdL 75 75 [.t 1 (pB 1),.R 32 y8 .S,.I 33,.I 34] [(1,y10,[.S,.S])] (λb d=>(b.2.2.1)) (λb v=>(b.1,b.2.1,v,())) (λd v=>((d.1.1,d.1.2),())) (λb d=>j3X b.1 b.2.1 d.1.2) λb d f=>((λ_=>f (.exit 0) [(1,pB 1)] [(1,⟨y10,d.1.1,d.1.2,[.S,.S]⟩)]),(λ_=>f .ret [(2,vB false)] []))
theorem jkT:CN 0 58 Tryz.f227 j7C:=lK j97 [j54] oN ([],[]) [(0,[1],[1])] ([2],[]) λ_ _ _ _ _=>by delta j3X j2g j8R j37;refine gz j5N λ_ b=>gz j0Q λ_ d=> ?_;rewrite [<-b,<-d];kernel_rfl
def j3Y (f:qL) (g:Int) (t:qB×qE×qL) (d:Int) (b:Int) (rec:Int->Int->Res) (i:Unit->Res) (h:Unit->Res):Res:=bif decide (b<g) then bif inb b (List.length f) then j0Q t (nth eS f b) λr=>bif decide (r<=d) then h () else bif inb r (List.length t.2.1) then bif !(nth (eS,0,false,false,0,0,eS) t.2.1 r).2.2.1 then h () else rec r (Z9K (b+1)) else none else none else i ()
def j6g (d:qL) (f:Int) (t:qB×qE×qL):(Int×Int)->(Int×Int->Res)->((Unit->Res)×(Unit->Res))->Res:=λv rec q=>j3Y d f t v.1 v.2 (λb g=>rec (b,g)) q.1 q.2
def j8l (d:qL) (f:Int) (t:qB×qE×qL) (n:Nat) (b:Int) (g:Int) (h:Unit->Res) (i:Unit->Res):Res:=Z1f (j6g d f t) n (b,g) (h,i)
def jaI:Z1d Unit:=NdL 75 75 [.t 1 (pB 1),.I 5,.R 52 y0 .S,.I 53,.I 54] [(1,y10,[.S,.S])] (λb d=>(b.1,b.2.2.2.1)) (λb v=>(v.1,b.2.1,b.2.2.1,v.2,())) (λd v=>((d.1.1,d.1.2),())) (λb d=>j6g b.2.1 b.2.2.1 d.1.2) λb d f=>((λ_=>f (.exit 2) [] []),(λ_=>f .ret [(2,vB false)] []))
theorem jkU:CN 0 250 Tryz.f227 jaI:=lK j97 [j54,j7C] oN ([],[]) [(2,[],[])] ([2],[]) λ_ _ _ _ _=>by kernel_rfl
def j0o (t:qB×qE×qL) (b:Bool->Res):Res:=j5T t λd=>bif d then b false else j8k t.2.1 (nI (List.length t.2.1)) t Z1c 0 (λ_=>j8l t.2.2 (nI (List.length t.2.2)) t Z1c (-1) 0 (λ_=>b true) (λ_=>b false)) (λ_=>b false)
def j0W:Sig Unit:=sg [.look y10 true] [false] [(y10,none)] [] λd f k=>j0o d.1 (λb=>k [wB b] [] [])
theorem j0J:SO 227 j0W:=fK (np:=0) j97 [j54,j7C,jaI] (oI 12 0 @jkV (oI 58 1 @jkT (oI 250 2 @jkU oN))) false Tryz.func227 λ_ _ _ _=>by delta j0o j54 j7C jaI j8k j8l;refine gz j5T λ_ b=>gz j3X λ_ d=>gz j6g λ_ f=> ?_;rewrite [<-b,<-d,<-f];kernel_rfl
def j5L (d:List qT) (f:Int) (c:List qT) (b:Int) (rec:Int->Res) (h:Unit->Res) (g:Unit->Res):Res:=bif decide (b<f) then bif inb b (List.length d) then j0o (nth (eS,[],[]) d b) λr=>bif !r then g () else bif decide (b>0) then bif inb (Z9K (b-1)) (List.length c) then bif sGe (nth (eS,[],[]) c (Z9K (b-1))).1 (nth (eS,[],[]) d b).1 then g () else rec (Z9K (b+1)) else none else rec (Z9K (b+1)) else none else h ()
def jbu (b:List qT) (d:Int) (c:List qT):Int->(Int->Res)->((Unit->Res)×(Unit->Res))->Res:=λv rec q=>j5L b d c v (λf=>rec (f)) q.1 q.2
def jdn (b:List qT) (d:Int) (c:List qT) (n:Nat) (f:Int) (g:Unit->Res) (h:Unit->Res):Res:=Z1f (jbu b d c) n (f) (g,h)
def jgX:Z1d Unit:=NdL 37 37 [.t 1 (pB 1),.R 10 y11 .S,.I 11,.I 12] [(1,y11,[.S])] (λb d=>(b.2.2.1)) (λb v=>(b.1,b.2.1,v,())) (λd v=>((d.1.1,d.1.2),())) (λb d=>jbu b.1 b.2.1 d.1.2) λb d f=>((λ_=>f (.exit 0) [] []),(λ_=>f .ret [(2,vB false)] []))
theorem jmF:CN 0 58 Tryz.f242 jgX:=lK (Za6 j0J Zas) [] oN ([],[]) [(0,[],[])] ([2],[]) λ_ _ _ _ _=>by kernel_rfl
def j7r (c:List qT) (b:Bool->Res):Res:=bif decide ((nI (List.length c))>6) then b false else jdn c (nI (List.length c)) c Z1c 0 (λ_=>b true) (λ_=>b false)
def j8Q:Sig Unit:=sg [.look y11 true] [false] [(y11,none)] [] λd f k=>j7r d.1 (λb=>k [wB b] [] [])
theorem jik:SO 242 j8Q:=fK (np:=0) (Za6 j0J Zas) [jgX] (oI 58 0 @jmF oN) false Tryz.func242 λ_ _ _ _=>by kernel_rfl
def j5q (t:qB×qE×qL) (b:qT->Res):Res:=Z87 (Z87 (bif lim (0+(List.length t.2.1)) then bif lim (0+(List.length t.2.2)) then b (t.1,t.2.1,t.2.2) else none else none) (bif lim (0+(List.length t.2.1)) then bif lim (0+(List.length t.2.2)) then b (t.1,t.2.1,t.2.2) else none else none)) (bif lim (0+(List.length t.2.1)) then bif lim (0+(List.length t.2.2)) then b (t.1,t.2.1,t.2.2) else none else none)
def jbs:Sig Unit:=sg [.borrow y10 true] [true] [(y10,none)] [] λd f k=>j5q d.1 (λb=>k [⟨y10,true,b,[.O,.O]⟩] [] [])
theorem jaZ:SO 286 jbs:=fK (np:=0) Zas [] oN false Tryz.func286 λ_ _ _ _=>by kernel_rfl
def j3Z (f:List qT) (h:Int) (b:Int) (d:List qT) (rec:Int->qF->Res) (g:qF->Res):Res:=bif decide (b<h) then bif inb b (List.length f) then j5q (nth (eS,[],[]) f b) λr=>bif lim ((List.length d)+1) then rec (Z9K (b+1)) (d++[r]) else none else none else g d
def j9K (f:List qT) (g:Int):(Int×qF)->(Int×qF->Res)->((qF->Res))->Res:=λv rec q=>j3Z f g v.1 v.2 (λd b=>rec (d,b)) q
def jfA (g:List qT) (h:Int) (n:Nat) (d:Int) (b:List qT) (f:qF->Res):Res:=Z1f (j9K g h) n (d,b) (f)
def jf5:Z1d Unit:=NdL 23 23 [.t 2 (pB 2),.t 3 (pB 3),.R 8 y11 .S,.I 9,.I 10] [(2,y11,[.O]),(3,y11,[.O])] (λd b=>(d.2.2.1,b.2.1.2)) (λd v=>(d.1,d.2.1,v.1,())) (λb v=>((b.1.1,b.1.2),(b.2.1.1,v.2),())) (λd b=>j9K d.1 d.2.1) λd b g=>((λf=>g (.exit 0) [(2,pB 2),(3,pB 3)] [(2,⟨y11,b.1.1,b.1.2,[.O]⟩),(3,⟨y11,b.2.1.1,f,[.O]⟩)]))
theorem jkW:CN 0 58 Tryz.f243 jf5:=lK (Za6 jaZ Zas) [] oN ([],[]) [(0,[2,3],[2,3])] ([],[]) λ_ _ _ _ _=>by kernel_rfl
def j4V (c:List qT) (d:qF->Res):Res:=jfA c (nI (List.length c)) Z1c 0 [] λb=>d b
def j6W:Sig Unit:=sg [.borrow y11 true] [true] [(y11,none)] [] λd f k=>j4V d.1 (λb=>k [⟨y11,true,b,[.O]⟩] [] [])
theorem jgt:SO 243 j6W:=fK (np:=0) (Za6 jaZ Zas) [jf5] (oI 58 0 @jkW oN) false Tryz.func243 λ_ _ _ _=>by kernel_rfl
theorem ji9:FS [(154,j3z),(227,j0W),(267,j8R)]:=(Za6 ja6 (Za6 j0J (Za6 jil Zas)))
def j7G (d:qG) (b:Bool->Res):Res:=bif ((nI (List.length d.2.2.1))==0) then b ((nI (List.length d.2.2.2.1))==0) else b false
def jcs:Z1d Unit:=Nd 123 123 [.t 1 (pB 1)] [(1,y19,[.S,.S])] λf b d=>j7G b.1.2 (λplain=>d .normal [(1,pB 1),(3,vB plain)] [(1,⟨y19,b.1.1,b.1.2,[.S,.S]⟩)])
theorem jmH:CN 0 14 Tryz.f210 jcs:=nK ji9 [] oN ([1,3],[1]) [] ([],[]) λ_ _ _=>by kernel_rfl
def j2M (d:qG) (b:Bool->Res):Res:=j0M d.2.1 λr=>bif !r then b false else j7G d λplain=>bif (d.1==1) then bif sEq d.2.2.2.2.1 eS then bif sEq d.2.2.2.2.2 eS then j0o (d.2.1,d.2.2.1,d.2.2.2.1) λf=>b f else b false else b false else bif (d.1==2) then bif plain then bif sEq d.2.2.2.2.1 eS then b (sEq d.2.2.2.2.2 eS) else b false else b false else bif (d.1==3) then bif ((nI (List.length d.2.2.1))==1) then bif inb 0 (List.length d.2.2.1) then j5N (nth (eS,0,false,false,0,0,eS) d.2.2.1 0) λg=>bif g then bif inb 0 (List.length d.2.2.1) then bif (nth (eS,0,false,false,0,0,eS) d.2.2.1 0).2.2.2.1 then bif ((nI (List.length d.2.2.2.1))==0) then bif sEq d.2.2.2.2.1 eS then b (sEq d.2.2.2.2.2 eS) else b false else b false else bif inb 0 (List.length d.2.2.1) then bif !(nth (eS,0,false,false,0,0,eS) d.2.2.1 0).2.2.1 then bif ((nI (List.length d.2.2.2.1))==0) then bif sEq d.2.2.2.2.1 eS then b (sEq d.2.2.2.2.2 eS) else b false else b false else b false else none else none else b false else none else b false else bif (d.1==4) then bif plain then j0M d.2.2.2.2.1 λh=>bif h then b (sEq d.2.2.2.2.2 eS) else b false else b false else bif (d.1==5) then bif plain then j0M d.2.2.2.2.1 λi=>bif i then j0M d.2.2.2.2.2 λj=>b j else b false else b false else b false
def j4N:Sig Unit:=sg [.look y19 true] [false] [(y19,none)] [] λd f k=>j2M d.1 (λb=>k [wB b] [] [])
theorem jem:SO 210 j4N:=fK (np:=0) ji9 [jcs] (oI 14 0 @jmH oN) false Tryz.func210 λ_ _ _ _=>by delta j2M j3z jcs j0W j8R;refine gz j0M λ_ b=>gz j7G λ_ d=>gz j0o λ_ f=>gz j5N λ_ g=> ?_;rewrite [<-b,<-d,<-f,<-g];kernel_rfl
def j5U (name:qB) (d:List qT) (h:Int) (b:Int) (rec:Int->Res) (f:Unit->Res) (g:Int->Res):Res:=bif decide (b<h) then bif inb b (List.length d) then bif sEq (nth (eS,[],[]) d b).1 name then g b else rec (Z9K (b+1)) else none else f ()
def jbx (name:qB) (d:List qT) (f:Int):Int->(Int->Res)->((Unit->Res)×(Int->Res))->Res:=λv rec q=>j5U name d f v (λb=>rec (b)) q.1 q.2
def ji2 (name:qB) (g:List qT) (h:Int) (n:Nat) (b:Int) (d:Unit->Res) (f:Int->Res):Res:=Z1f (jbx name g h) n (b) (d,f)
def jgZ:Z1d Unit:=NdL 21 21 [.S 1,.R 8 y11 .S,.I 9,.I 10] [] (λb d=>(b.2.2.2.1)) (λb v=>(b.1,b.2.1,b.2.2.1,v,())) (λd v=>()) (λb d=>jbx b.1 b.2.1 b.2.2.1) λb d f=>((λ_=>f (.exit 0) [] []),(λg=>f .ret [(4,vI g)] []))
theorem jmL:CN 0 26 Tryz.f113 jgZ:=lK Zas [] oN ([],[]) [(0,[],[])] ([4],[]) λ_ _ _ _ _=>by kernel_rfl
def j2O (c:List qT) (name:qB) (b:Int->Res):Res:=ji2 name c (nI (List.length c)) Z1c 0 (λ_=>b (-1)) (λt=>b t)
def j4O:Sig Unit:=sg [.look y11 true,.look .str false] [false] [(y11,none),(.str,none)] [] λb f k=>j2O b.1 b.2.1 (λd=>k [wI d] [] [])
theorem jeo:SO 113 j4O:=fK (np:=0) Zas [jgZ] (oI 26 0 @jmL oN) false Tryz.func113 λ_ _ _ _=>by kernel_rfl
def jcn (done:Bool) (t:qB×qE×qL) (b:List qT) (x:qB×qE×qL) (d:Bool->qF->Res):Res:=bif !done then bif sLt t.1 x.1 then bif lim ((List.length b)+1) then d true (b++[t]) else none else d done b else d done b
def jbN:Z1d Unit:=Nd 48 48 [.t 3 (pB 3),.t 4 (pB 4),.t 5 (pB 5),.B 6,.t 8 (pB 8),.R 11 y11 .S,.I 12,.I 13] [(3,y10,[.S,.S]),(4,y11,[.O]),(5,y11,[.PS]),(8,y10,[.S,.S])] λg b h=>jcn g.1 b.1.2 b.2.2.1.2 b.2.2.2.1.2 (λd f=>h .normal [(3,pB 3),(4,pB 4),(5,pB 5),(6,vB d),(8,pB 8),(11,v1 y11 g.2.1 .S),(12,vI g.2.2.1),(13,vI g.2.2.2.1)] [(3,⟨y10,b.1.1,b.1.2,[.S,.S]⟩),(4,⟨y11,b.2.1.1,b.2.1.2,[.O]⟩),(5,⟨y11,b.2.2.1.1,f,[.PS]⟩),(8,⟨y10,b.2.2.2.1.1,b.2.2.2.1.2,[.S,.S]⟩)])
theorem jlO:CN 0 15666 Tryz.f309 jbN:=nK Zas [] oN ([3,4,5,6,8,11,12,13],[3,4,5,8]) [] ([],[]) λ_ _ _=>by kernel_rfl
def j4X (g:List qT) (i:Int) (t:qB×qE×qL) (done:Bool) (b:Int) (h:List qT) (rec:Bool->Int->qF->Res) (j:Bool->qF->Res):Res:=bif decide (b<i) then bif inb b (List.length g) then jcn done t h (nth (eS,[],[]) g b) λf d=>bif lim ((List.length d)+1) then rec f (Z9K (b+1)) (d++[nth (eS,[],[]) g b]) else none else none else j done h
def jay (d:List qT) (f:Int) (t:qB×qE×qL):(Bool×Int×qF)->(Bool×Int×qF->Res)->((Bool->qF->Res))->Res:=λv rec q=>j4X d f t v.1 v.2.1 v.2.2 (λdone g b=>rec (done,g,b)) q
def jcm (d:List qT) (f:Int) (t:qB×qE×qL) (n:Nat) (done:Bool) (g:Int) (b:List qT) (h:Bool->qF->Res):Res:=Z1f (jay d f t) n (done,g,b) (h)
def jfE:Z1d Unit:=λσ k=>rdN σ 48<|rdT σ 3 (pB 3)<|rdT σ 4 (pB 4)<|rdT σ 5 (pB 5)<|rdO σ 6 λdone=>rd1 σ 11 y11 .S λg=>rdI σ 12 λh=>rdI σ 13 λi=>rdB σ 3 y10 [.S,.S] λa t=>rdB σ 4 y11 [.O] λj m=>rdB σ 5 y11 [.PS] λl f=>jcm g h t Z1c done i f (λb d=>k (.exit 0) (mkS 48 48 [(3,pB 3),(4,pB 4),(5,pB 5),(6,vB b)] [(3,⟨y10,a,t,[.S,.S]⟩),(4,⟨y11,j,m,[.O]⟩),(5,⟨y11,l,d,[.PS]⟩)]))
def jfQ:Z1d Unit:=λσ k=>jfE (σ.wk [] [(5,[.PS])]) k
theorem jlN:CN 0 122 Tryz.f309 jfQ:=λr=>ZaJ [] [(5,[.PS])] (jqq follows j4e Zas r [jbN] (oI 114 0 @jlO oN) [3,4,5,6,11,12,13] [3,4,5] ([],[]) [(0,[3,4,5,6],[3,4,5])] ([],[]) (y:=jfE) λσ k _ h=>rN h λH h=>rT h λD h=>rT h λE h=>rT h λF h=>rV h λdone G h=>rV h λf i h=>rV h λg j h=>rV h λz l h=>rB h λa t n h=>rB h λA C p h=>rB h λB w q h=>⟨_,ZaM (m:=48) H (sC D (sC E (sC F (sC G (sC i (sC j (sC l sN))))))) (bC n (bC p (bC q bN))),.trans (Z9u (λv:Bool×Int×qF=>(mkS 48 48 [(3,pB 3),(4,pB 4),(5,pB 5),(6,vB v.1),(11,v1 y11 f .S),(12,vI g),(13,vI v.2.1)] [(3,⟨y10,a,t,[.S,.S]⟩),(4,⟨y11,A,C,[.O]⟩),(5,⟨y11,B,v.2.2,[.PS]⟩)])) (jay f g t) (λ(k:Z83 Unit)=>(((λb d=>k (.exit 0) (mkS 48 48 [(3,pB 3),(4,pB 4),(5,pB 5),(6,vB b)] [(3,⟨y10,a,t,[.S,.S]⟩),(4,⟨y11,A,C,[.O]⟩),(5,⟨y11,B,d,[.PS]⟩)]))):(Bool->qF->Res))) (λv rec k=>by kernel_rfl) Z1c (done,z,w) k) h⟩)
def ja3 (c:List qT) (t:qB×qE×qL) (d:qF->Res):Res:=jcm c (nI (List.length c)) t Z1c false 0 [] λdone b=>bif !done then bif lim ((List.length b)+1) then d (b++[t]) else none else d b
def jdl:Sig Unit:=sg [.borrow y11 true,.borrow y10 true] [true] [(y11,none),(y10,none)] [] λb f k=>ja3 b.1 b.2.1 (λd=>k [⟨y11,true,d,[.PS]⟩] [] [])
theorem jnJ:SO 309 jdl:=fK (np:=0) Zas [jbN,jfQ] (oI 122 1 @jlN oN) false Tryz.func309 λ_ _ _ _=>by kernel_rfl
def j4W (s:qB) (d:qL) (h:Int) (b:Int) (rec:Int->Res) (f:Unit->Res) (g:Unit->Res):Res:=bif decide (b<h) then bif inb b (List.length d) then bif sEq (nth eS d b) s then g () else rec (Z9K (b+1)) else none else f ()
def jax (s:qB) (b:qL) (d:Int):Int->(Int->Res)->((Unit->Res)×(Unit->Res))->Res:=λv rec q=>j4W s b d v (λf=>rec (f)) q.1 q.2
def jgQ (s:qB) (f:qL) (g:Int) (n:Nat) (h:Int) (b:Unit->Res) (d:Unit->Res):Res:=Z1f (jax s f g) n (h) (b,d)
def jfP:Z1d Unit:=NdL 17 17 [.S 1,.R 7 y0 .S,.I 8,.I 9] [] (λb d=>(b.2.2.2.1)) (λb v=>(b.1,b.2.1,b.2.2.1,v,())) (λd v=>()) (λb d=>jax b.1 b.2.1 b.2.2.1) λb d f=>((λ_=>f (.exit 0) [] []),(λ_=>f .ret [(4,vB true)] []))
theorem jlM:CN 0 26 Tryz.f157 jfP:=lK Zas [] oN ([],[]) [(0,[],[])] ([4],[]) λ_ _ _ _ _=>by kernel_rfl
def ja2 (l:qL) (s:qB) (b:Bool->Res):Res:=jgQ s l (nI (List.length l)) Z1c 0 (λ_=>b false) (λ_=>b true)
def ji0:Sig Unit:=sg [.look y0 false,.look .str false] [false] [(y0,none),(.str,none)] [] λb f k=>ja2 b.1 b.2.1 (λd=>k [wB d] [] [])
theorem jnI:SO 157 ji0:=fK (np:=0) Zas [jfP] (oI 26 0 @jlM oN) false Tryz.func157 λ_ _ _ _=>by kernel_rfl
def j5p (t:qB×qE×qL) (d:qG) (b:Int->Res):Res:=j0Q t d.2.2.2.2.1 λr=>bif (d.1==3) then bif inb 0 (List.length d.2.2.1) then j0Q t (nth (eS,0,false,false,0,0,eS) d.2.2.1 0).1 λf=>bif decide (f>=0) then b 5 else bif ((nI (List.length t.2.1))==8) then b 6 else b 0 else none else bif (d.1==4) then bif decide (r<0) then b 7 else ja2 t.2.2 d.2.2.2.2.1 λg=>bif g then b 8 else b 0 else bif (d.1==5) then j0Q t d.2.2.2.2.2 λh=>bif decide (h>=0) then b 5 else bif decide (r<0) then b 7 else b 0 else b 0
def jbr:Sig Unit:=sg [.look y10 true,.look y19 true] [false] [(y10,none),(y19,none)] [] λb f k=>j5p b.1 b.2.1 (λd=>k [wI d] [] [])
theorem jlf:SO 310 jbr:=fK (np:=0) (Za6 jnI (Za6 j6w Zas)) [] oN false Tryz.func310 λ_ _ _ _=>by delta j5p j37 ji0;refine gz j0Q λ_ b=>gz ja2 λ_ d=> ?_;rewrite [<-b,<-d];kernel_rfl
def j6j (t:qB×qE×qL) (b:Unit->Res):Res:=Z87 (Z87 (bif lim (0+(List.length t.2.2)) then Z87 (b ()) (b ()) else none) (bif lim (0+(List.length t.2.2)) then b () else none)) (bif lim (0+(List.length t.2.2)) then b () else none)
def j1c:Z1d Unit:=Nd 92 92 [.t 2 (pB 2),.t 3 (pB 3),.t 4 (pB 4)] [(2,y10,[.S,.S]),(3,y19,[.S,.S]),(4,y10,[.O,.O])] λf b d=>j6j b.1.2 (λ_=>d .normal [(2,pB 2),(3,pB 3),(4,pB 4),(5,pB 5)] [(2,⟨y10,b.1.1,b.1.2,[.S,.S]⟩),(3,⟨y19,b.2.1.1,b.2.1.2,[.S,.S]⟩),(4,⟨y10,b.2.2.1.1,b.2.2.1.2,[.O,.O]⟩),(5,⟨y10,false,(b.1.2.1,[],b.1.2.2.2),[.O,.O]⟩)])
theorem jiN:CN 0 6 Tryz.f311 j1c:=nK Zas [] oN ([2,3,4,5],[2,3,4,5]) [] ([],[]) λ_ _ _=>by kernel_rfl
def j6k (d:qG) (c:qB×Int×Bool×Bool×Int×Int×qB) (b:Unit->Res) (f:Unit->Res):Res:=bif (d.1==4) then bif sEq c.1 d.2.2.2.2.1 then f () else b () else b ()
def j24:Z1d Unit:=Nd 92 92 [.t 3 (pB 3),.t 4 (pB 4),.t 5 (pB 5),.t 7 (pB 7),.R 17 y8 .S,.I 18,.I 19] [(3,y19,[.S,.S]),(4,y10,[.O,.O]),(5,y10,[.O,.O]),(7,y7,[])] λd b f=>j6k b.1.2 b.2.2.2.1.2 (λ_=>f .normal [(3,pB 3),(4,pB 4),(5,pB 5),(7,pB 7),(17,v1 y8 d.1 .S),(18,vI d.2.1),(19,vI d.2.2.1)] [(3,⟨y19,b.1.1,b.1.2,[.S,.S]⟩),(4,⟨y10,b.2.1.1,b.2.1.2,[.O,.O]⟩),(5,⟨y10,b.2.2.1.1,b.2.2.1.2,[.O,.O]⟩),(7,⟨y7,b.2.2.2.1.1,b.2.2.2.1.2,[]⟩)]) (λ_=>f (.exit 1) [(3,pB 3),(4,pB 4),(5,pB 5),(17,v1 y8 d.1 .S),(18,vI d.2.1),(19,vI d.2.2.1),(27,.ptr ⟨true,7,[.fst]⟩),(28,vS b.2.2.2.1.2.1),(29,.ptr ⟨true,3,[.snd,.snd,.snd,.snd,.fst]⟩),(30,vS b.1.2.2.2.2.2.1),(31,vB (sEq b.2.2.2.1.2.1 b.1.2.2.2.2.2.1))] [(3,⟨y19,b.1.1,b.1.2,[.S,.S]⟩),(4,⟨y10,b.2.1.1,b.2.1.2,[.O,.O]⟩),(5,⟨y10,b.2.2.1.1,b.2.2.1.2,[.O,.O]⟩),(7,⟨y7,b.2.2.2.1.1,b.2.2.2.1.2,[]⟩)])
theorem jiO:CN 0 7474 Tryz.f311 j24:=nK Zas [j1c] oN ([3,4,5,7,17,18,19],[3,4,5,7]) [(1,[3,4,5,17,18,19,27,28,29,30,31],[3,4,5,7])] ([],[]) λ_ _ _=>by kernel_rfl
def j6l (d:qG) (c:qB×Int×Bool×Bool×Int×Int×qB) (b:qC->Res):Res:=bif (d.1==5) then bif sEq c.1 d.2.2.2.2.1 then b (d.2.2.2.2.2,c.2) else b c else b c
def j3i:Z1d Unit:=Nd 92 92 [.t 3 (pB 3),.t 4 (pB 4),.t 5 (pB 5),.t 7 (pB 7),.R 17 y8 .S,.I 18,.I 19] [(3,y19,[.S,.S]),(4,y10,[.O,.O]),(5,y10,[.O,.O]),(7,y7,[])] λd b f=>j6l b.1.2 b.2.2.2.1.2 (λc1=>f .normal [(3,pB 3),(4,pB 4),(5,pB 5),(7,pB 7),(17,v1 y8 d.1 .S),(18,vI d.2.1),(19,vI d.2.2.1)] [(3,⟨y19,b.1.1,b.1.2,[.S,.S]⟩),(4,⟨y10,b.2.1.1,b.2.1.2,[.O,.O]⟩),(5,⟨y10,b.2.2.1.1,b.2.2.1.2,[.O,.O]⟩),(7,⟨y7,b.2.2.2.1.1,c1,[]⟩)])
theorem jiP:CN 0 14950 Tryz.f311 j3i:=nK Zas [j1c,j24] oN ([3,4,5,7,17,18,19],[3,4,5,7]) [] ([],[]) λ_ _ _=>by kernel_rfl
def j1q (g:List qC) (h:Int) (d:qG) (f:Int) (b:qB×qE×qL) (rec:Int->qT->Res) (i:qT->Res):Res:=bif decide (f<h) then bif inb f (List.length g) then j6k d (nth (eS,0,false,false,0,0,eS) g f) (λ_=>j6l d (nth (eS,0,false,false,0,0,eS) g f) λc=>bif lim ((List.length b.2.1)+1) then rec (Z9K (f+1)) (b.1,(b.2.1++[c]),b.2.2) else none) (λ_=>rec (Z9K (f+1)) b) else none else i b
def j2y (f:List qC) (g:Int) (d:qG):(Int×qT)->(Int×qT->Res)->((qT->Res))->Res:=λv rec q=>j1q f g d v.1 v.2 (λh b=>rec (h,b)) q
def j6h (f:List qC) (g:Int) (d:qG) (n:Nat) (h:Int) (b:qB×qE×qL) (i:qT->Res):Res:=Z1f (j2y f g d) n (h,b) (i)
def j5Y:Z1d Unit:=NdL 92 92 [.t 3 (pB 3),.t 4 (pB 4),.t 5 (pB 5),.R 17 y8 .S,.I 18,.I 19] [(3,y19,[.S,.S]),(4,y10,[.O,.O]),(5,y10,[.O,.O])] (λd b=>(d.2.2.1,b.2.2.1.2)) (λd v=>(d.1,d.2.1,v.1,())) (λb v=>((b.1.1,b.1.2),(b.2.1.1,b.2.1.2),(b.2.2.1.1,v.2),())) (λd b=>j2y d.1 d.2.1 b.1.2) λd b g=>((λf=>g (.exit 0) [(3,pB 3),(4,pB 4),(5,pB 5)] [(3,⟨y19,b.1.1,b.1.2,[.S,.S]⟩),(4,⟨y10,b.2.1.1,b.2.1.2,[.O,.O]⟩),(5,⟨y10,b.2.2.1.1,f,[.O,.O]⟩)]))
theorem jiL:CN 0 58 Tryz.f311 j5Y:=lK Zas [j1c,j24,j3i] (oI 114 1 @jiO (oI 230 2 @jiP oN)) ([],[]) [(0,[3,4,5],[3,4,5])] ([],[]) λ_ _ _ _ _=>by delta j2y j1q j24 j3i;refine gz j6k λ_ b=>gz j6l λ_ d=> ?_;rewrite [<-b,<-d];kernel_rfl
def j0y (g:Int) (d:qG) (f:Int) (b:qB×qE×qL) (rec:Int->qT->Res) (h:qT->Res):Res:=bif decide (f<g) then bif (d.1==5) then bif inb f (List.length b.2.2) then bif sEq (nth eS b.2.2 f) d.2.2.2.2.1 then bif inb f (List.length b.2.2) then rec (Z9K (f+1)) (b.1,b.2.1,upd b.2.2 f d.2.2.2.2.2) else none else rec (Z9K (f+1)) b else none else rec (Z9K (f+1)) b else h b
def j5e (f:Int) (d:qG):(Int×qT)->(Int×qT->Res)->((qT->Res))->Res:=λv rec q=>j0y f d v.1 v.2 (λg b=>rec (g,b)) q
def j6i (f:Int) (d:qG) (n:Nat) (g:Int) (b:qB×qE×qL) (h:qT->Res):Res:=Z1f (j5e f d) n (g,b) (h)
def j93:Z1d Unit:=NdL 92 92 [.t 3 (pB 3),.t 4 (pB 4),.t 5 (pB 5),.I 55,.I 56] [(3,y19,[.S,.S]),(4,y10,[.O,.O]),(5,y10,[.O,.O])] (λd b=>(d.2.1,b.2.2.1.2)) (λd v=>(d.1,v.1,())) (λb v=>((b.1.1,b.1.2),(b.2.1.1,b.2.1.2),(b.2.2.1.1,v.2),())) (λd b=>j5e d.1 b.1.2) λd b g=>((λf=>g (.exit 2) [(3,pB 3),(4,pB 4),(5,pB 5)] [(3,⟨y19,b.1.1,b.1.2,[.S,.S]⟩),(4,⟨y10,b.2.1.1,b.2.1.2,[.O,.O]⟩),(5,⟨y10,b.2.2.1.1,f,[.O,.O]⟩)]))
theorem jiM:CN 0 122 Tryz.f311 j93:=lK Zas [j1c,j24,j3i,j5Y] oN ([],[]) [(2,[3,4,5],[3,4,5])] ([],[]) λ_ _ _ _ _=>by kernel_rfl
def j4n (t:qB×qE×qL) (d:qG) (g:qT->Res):Res:=j6j t λ_=>j6h t.2.1 (nI (List.length t.2.1)) d Z1c 0 (t.1,[],t.2.2) λf=>j6i (nI (List.length f.2.2)) d Z1c 0 f λb=>bif (d.1==3) then bif inb 0 (List.length d.2.2.1) then bif lim ((List.length b.2.1)+1) then g (b.1,(b.2.1++[nth (eS,0,false,false,0,0,eS) d.2.2.1 0]),b.2.2) else none else none else g b
def jau:Sig Unit:=sg [.borrow y10 true,.borrow y19 true] [true] [(y10,none),(y19,none)] [] λb f k=>j4n b.1 b.2.1 (λd=>k [⟨y10,true,d,[.O,.O]⟩] [] [])
theorem jkk:SO 311 jau:=fK (np:=0) Zas [j1c,j24,j3i,j5Y,j93] (oI 6 0 @jiN (oI 58 3 @jiL (oI 122 4 @jiM oN))) false Tryz.func311 λ_ _ _ _=>by delta j4n j1c j5Y j93 j6h j6i;refine gz j6j λ_ b=>gz j2y λ_ d=>gz j5e λ_ f=> ?_;rewrite [<-b,<-d,<-f];kernel_rfl
theorem jaV:FS [(113,j4O),(210,j4N),(242,j8Q),(243,j6W),(286,jbs),(309,jdl),(310,jbr),(311,jau)]:=(Za6 jeo (Za6 jem (Za6 jik (Za6 jgt (Za6 jaZ (Za6 jnJ (Za6 jlf (Za6 jkk Zas))))))))
def j4R (d:qG) (b:List qT) (f:qF->Res):Res:=j5q (d.2.1,d.2.2.1,d.2.2.2.1) λr=>ja3 b r λg=>f g
def j9N:Z1d Unit:=λσ k=>rdN σ 88<|rdT σ 3 (pB 3)<|rdT σ 4 (pB 4)<|rdT σ 7 (pB 7)<|rdB σ 3 y19 [.S,.S] λa d=>rdB σ 4 y11 [.O] λg i=>rdB σ 7 y11 [.S] λh b=>j4R d b (λf=>k .ret (mkS 88 88 [(4,pB 4),(5,vI 0)] [(4,⟨y11,g,f,[.PS]⟩)]))
def j6r:Z1d Unit:=λσ k=>j9N (σ.wk [] [(7,[.S])]) k
theorem jjG:CN 0 1003 Tryz.f287 j6r:=λi=>ZaJ [] [(7,[.S])] (jjh follows j4e jaV i [] oN ([],[]) [] ([4,5],[4]) (y:=j9N) λσ k _ h=>rN h λr h=>rT h λn h=>rT h λp h=>rT h λq h=>rB h λa d b h=>rB h λz B f h=>rB h λA w g h=>⟨_,ZaM (m:=88) r (sC n (sC p (sC q sN))) (bC b (bC f (bC g bN))),.trans (by delta j4R jbs jdl;refine gz j5q λ_ j=>gz ja3 λ_ l=> ?_;rewrite [<-j,<-l];kernel_rfl) h⟩)
def j7s (d:Int) (b:List qT) (f:Unit->Res):Res:=bif Z8e 0 d (List.length b) then bif Z8e (Z9K (d+1)) (nI (List.length b)) (List.length b) then bif lim (0+(List.length (sub b 0 d))) then bif lim ((List.length (sub b 0 d))+(List.length (sub b (Z9K (d+1)) (nI (List.length b))))) then f () else none else none else none else none
def j9O:Z1d Unit:=λσ k=>rdN σ 88<|rdT σ 4 (pB 4)<|rdI σ 6 λd=>rdT σ 7 (pB 7)<|rdB σ 4 y11 [.O] λa g=>rdB σ 7 y11 [.S] λf b=>j7s d b (λ_=>k .ret (mkS 88 88 [(4,pB 4),(5,vI 0)] [(4,⟨y11,a,((sub b 0 d)++(sub b (Z9K (d+1)) (nI (List.length b)))),[.PS]⟩)]))
def j9R:Z1d Unit:=λσ k=>j9O (σ.wk [] [(7,[.S])]) k
theorem jjH:CN 0 4090 Tryz.f287 j9R:=λf=>ZaJ [] [(7,[.S])] (jjh follows j4e jaV f [j6r] oN ([],[]) [] ([4,5],[4]) (y:=j9O) λσ k _ h=>rN h λn h=>rT h λi h=>rV h λg j h=>rT h λl h=>rB h λa r b h=>rB h λq p d h=>⟨_,ZaM (m:=88) n (sC i (sC j (sC l sN))) (bC b (bC d bN)),.trans (by kernel_rfl) h⟩)
def j2l (c:List qT) (d:qG) (f:qF->Int->Res):Res:=j7r c λr=>bif !r then f [] 1 else j2M d λi=>bif !i then f [] 1 else j2O c d.2.1 λb=>j4V c λg=>bif (d.1==1) then bif decide (b>=0) then f [] 2 else bif ((nI (List.length c))==6) then f [] 3 else j4R d g λt=>f t 0 else bif decide (b<0) then f [] 4 else bif inb b (List.length c) then j5p (nth (eS,[],[]) c b) d λh=>bif (h != 0) then f [] h else bif (d.1==2) then j7s b g λ_=>f ((sub g 0 b)++(sub g (Z9K (b+1)) (nI (List.length g)))) 0 else bif inb b (List.length c) then j4n (nth (eS,[],[]) c b) d λj=>bif inb b (List.length g) then f (upd g b j) 0 else none else none else none
def j5J:Sig Unit:=sg [.borrow y11 true,.borrow y19 true] [true,false] [(y11,none),(y19,none)] [] λb g k=>j2l b.1 b.2.1 (λd f=>k [⟨y11,true,d,[.S]⟩,wI f] [] [])
theorem jfg:SO 287 j5J:=fK (np:=0) jaV [j6r,j9R] (oI 1003 0 @jjG (oI 4090 1 @jjH oN)) true Tryz.func287 λ_ _ _ _=>by delta j2l j8Q j4N j4O j6W j6r jbr j9R jau;delta j9N j9O;refine gz j7r λ_ b=>gz j2M λ_ d=>gz j2O λ_ f=>gz j4V λ_ g=>gz j4R λ_ h=>gz j5p λ_ i=>gz j7s λ_ j=>gz j4n λ_ k=> ?_;rewrite [<-b,<-d,<-f,<-g,<-h,<-i,<-j,<-k];kernel_rfl
def j3W (a:qB×qE×qL) (b:qB×qE×qL) (d:Bool->Res):Res:=j0o a λr=>bif !r then d true else j0o b λf=>bif !f then d true else bif sNe a.1 b.1 then d true else bif ((nI (List.length a.2.1)) != (nI (List.length b.2.1))) then d true else d ((nI (List.length a.2.2)) != (nI (List.length b.2.2)))
def j23:Z1d Unit:=Nd 76 76 [.t 2 (pB 2),.t 3 (pB 3)] [(2,y10,[.S,.S]),(3,y10,[.S,.S])] λg b f=>j3W b.1.2 b.2.1.2 (λd=>f .normal [(2,pB 2),(3,pB 3),(39,vB d)] [(2,⟨y10,b.1.1,b.1.2,[.S,.S]⟩),(3,⟨y10,b.2.1.1,b.2.1.2,[.S,.S]⟩)])
theorem jiJ:CN 0 12 Tryz.f189 j23:=nK (Za6 j0J Zas) [] oN ([2,3,39],[2,3]) [] ([],[]) λ_ _ _=>by delta j3W j0W;refine gz j0o λ_ b=> ?_;rewrite [<-b];kernel_rfl
def j9J (i:Int) (a:qB×qE×qL) (b:qB×qE×qL) (d:Bool->Res):Res:=bif inb i (List.length a.2.1) then bif inb i (List.length b.2.1) then d (!((sEq (nth (eS,0,false,false,0,0,eS) a.2.1 i).1 (nth (eS,0,false,false,0,0,eS) b.2.1 i).1)&&(((nth (eS,0,false,false,0,0,eS) a.2.1 i).2.1==(nth (eS,0,false,false,0,0,eS) b.2.1 i).2.1)&&(((nth (eS,0,false,false,0,0,eS) a.2.1 i).2.2.1==(nth (eS,0,false,false,0,0,eS) b.2.1 i).2.2.1)&&(((nth (eS,0,false,false,0,0,eS) a.2.1 i).2.2.2.1==(nth (eS,0,false,false,0,0,eS) b.2.1 i).2.2.2.1)&&(((nth (eS,0,false,false,0,0,eS) a.2.1 i).2.2.2.2.1==(nth (eS,0,false,false,0,0,eS) b.2.1 i).2.2.2.2.1)&&(((nth (eS,0,false,false,0,0,eS) a.2.1 i).2.2.2.2.2.1==(nth (eS,0,false,false,0,0,eS) b.2.1 i).2.2.2.2.2.1)&&(sEq (nth (eS,0,false,false,0,0,eS) a.2.1 i).2.2.2.2.2.2 (nth (eS,0,false,false,0,0,eS) b.2.1 i).2.2.2.2.2.2)))))))) else none else none
def j5X:Z1d Unit:=Nd 76 76 [.t 2 (pB 2),.t 3 (pB 3),.I 5,.I 42,.I 43] [(2,y10,[.S,.S]),(3,y10,[.S,.S])] λf b g=>j9J f.1 b.1.2 b.2.1.2 (λd=>g .normal [(2,pB 2),(3,pB 3),(42,vI f.2.1),(43,vI f.2.2.1),(56,vB d)] [(2,⟨y10,b.1.1,b.1.2,[.S,.S]⟩),(3,⟨y10,b.2.1.1,b.2.1.2,[.S,.S]⟩)])
theorem jiK:CN 0 7474 Tryz.f189 j5X:=nK (Za6 j0J Zas) [j23] oN ([2,3,42,43,56],[2,3]) [] ([],[]) λ_ _ _=>by kernel_rfl
def j2w (f:Int) (a:qB×qE×qL) (b:qB×qE×qL) (d:Int) (rec:Int->Res) (g:Unit->Res) (h:Unit->Res):Res:=bif decide (d<f) then j9J d a b λt=>bif t then h () else rec (Z9K (d+1)) else g ()
def j5c (d:Int) (a:qB×qE×qL) (b:qB×qE×qL):Int->(Int->Res)->((Unit->Res)×(Unit->Res))->Res:=λv rec q=>j2w d a b v (λf=>rec (f)) q.1 q.2
def j9I (d:Int) (a:qB×qE×qL) (b:qB×qE×qL) (n:Nat) (f:Int) (g:Unit->Res) (h:Unit->Res):Res:=Z1f (j5c d a b) n (f) (g,h)
def j5W:Z1d Unit:=NdL 76 76 [.t 2 (pB 2),.t 3 (pB 3),.I 42,.I 43] [(2,y10,[.S,.S]),(3,y10,[.S,.S])] (λd b=>(d.2.1)) (λd v=>(d.1,v,())) (λb v=>((b.1.1,b.1.2),(b.2.1.1,b.2.1.2),())) (λd b=>j5c d.1 b.1.2 b.2.1.2) λd b f=>((λ_=>f (.exit 0) [(2,pB 2),(3,pB 3)] [(2,⟨y10,b.1.1,b.1.2,[.S,.S]⟩),(3,⟨y10,b.2.1.1,b.2.1.2,[.S,.S]⟩)]),(λ_=>f .ret [(4,vB false)] []))
theorem jiH:CN 0 58 Tryz.f189 j5W:=lK (Za6 j0J Zas) [j23,j5X] (oI 114 1 @jiK oN) ([],[]) [(0,[2,3],[2,3])] ([4],[]) λ_ _ _ _ _=>by kernel_rfl
def j2x (f:Int) (a:qB×qE×qL) (b:qB×qE×qL) (d:Int) (rec:Int->Res) (g:Unit->Res) (h:Unit->Res):Res:=bif decide (d<f) then bif inb d (List.length a.2.2) then bif inb d (List.length b.2.2) then bif sNe (nth eS a.2.2 d) (nth eS b.2.2 d) then h () else rec (Z9K (d+1)) else none else none else g ()
def j5d (d:Int) (a:qB×qE×qL) (b:qB×qE×qL):Int->(Int->Res)->((Unit->Res)×(Unit->Res))->Res:=λv rec q=>j2x d a b v (λf=>rec (f)) q.1 q.2
def j3V (d:Int) (a:qB×qE×qL) (b:qB×qE×qL) (n:Nat) (f:Int) (g:Unit->Res) (h:Unit->Res):Res:=Z1f (j5d d a b) n (f) (g,h)
def j92:Z1d Unit:=NdL 76 76 [.t 2 (pB 2),.t 3 (pB 3),.I 60,.I 61] [(2,y10,[.S,.S]),(3,y10,[.S,.S])] (λd b=>(d.2.1)) (λd v=>(d.1,v,())) (λb v=>((b.1.1,b.1.2),(b.2.1.1,b.2.1.2),())) (λd b=>j5d d.1 b.1.2 b.2.1.2) λd b f=>((λ_=>f (.exit 2) [] []),(λ_=>f .ret [(4,vB false)] []))
theorem jiI:CN 0 122 Tryz.f189 j92:=lK (Za6 j0J Zas) [j23,j5X,j5W] oN ([],[]) [(2,[],[])] ([4],[]) λ_ _ _ _ _=>by kernel_rfl
def j4m (a:qB×qE×qL) (b:qB×qE×qL) (d:Bool->Res):Res:=j3W a b λt=>bif t then d false else j9I (nI (List.length a.2.1)) a b Z1c 0 (λ_=>j3V (nI (List.length a.2.2)) a b Z1c 0 (λ_=>d true) (λ_=>d false)) (λ_=>d false)
def jat:Sig Unit:=sg [.look y10 true,.look y10 true] [false] [(y10,none),(y10,none)] [] λb f k=>j4m b.1 b.2.1 (λd=>k [wB d] [] [])
theorem jkj:SO 189 jat:=fK (np:=0) (Za6 j0J Zas) [j23,j5X,j5W,j92] (oI 12 0 @jiJ (oI 58 2 @jiH (oI 122 3 @jiI oN))) false Tryz.func189 λ_ _ _ _=>by delta j4m j23 j5W j92 j9I j3V;refine gz j3W λ_ b=>gz j5c λ_ d=>gz j5d λ_ f=> ?_;rewrite [<-b,<-d,<-f];kernel_rfl
def j5v (c:qB×Int×Bool×Bool×Int×Int×qB) (b:Bool->Res):Res:=j0F c.1 λr=>bif !r then b false else j0A c.2.1 1 3 λd=>bif !d then b false else j1h c.2.2.2.2 λf=>bif !f then b false else bif !c.2.2.2.1 then b ((c.2.2.2.2.1==0)&&((c.2.2.2.2.2.1==0)&&(sEq c.2.2.2.2.2.2 eS))) else bif (c.2.2.2.2.1==c.2.1) then b true else bif (c.2.2.2.2.1==0) then b (!c.2.2.1) else b false
def jbj:Sig Unit:=sg [.look y7 true] [false] [(y7,none)] [] λd f k=>j5v d.1 (λb=>k [wB b] [] [])
theorem jie:SO 270 jbj:=fK (np:=0) (Za6 ja5 (Za6 j5i (Za6 j8n Zas))) [] oN false Tryz.func270 λ_ _ _ _=>by delta j5v j3w j3y j8N;refine gz j0F λ_ b=>gz j0A λ_ d=>gz j1h λ_ f=> ?_;rewrite [<-b,<-d,<-f];kernel_rfl
def jfZ (c:qB×Int×Bool×Bool×Int×Int×qB) (d:qB) (b:Bool->Res):Res:=b (sEq c.1 d)
def jnZ:Sig Unit:=sg [.look y7 true,.rptr .str] [false] [(y7,none),(.str,none)] [] λb f k=>jfZ b.1 b.2.1 (λd=>k [wB d] [] [])
theorem jhy:SO 308 jnZ:=fK (np:=0) Zas [] oN false Tryz.func308 λ_ _ _ _=>by kernel_rfl
def j15 (s:List qC) (f:qB) (h:Int) (b:Int) (rec:Int->Res) (d:Unit->Res) (g:Int->Res):Res:=bif decide (b<h) then bif inb b (List.length s) then jfZ (nth (eS,0,false,false,0,0,eS) s b) f λr=>bif r then g b else rec (Z9K (b+1)) else none else d ()
def j4b (s:List qC) (f:qB) (b:Int):Int->(Int->Res)->((Unit->Res)×(Int->Res))->Res:=λv rec q=>j15 s f b v (λd=>rec (d)) q.1 q.2
def j9u (s:List qC) (f:qB) (g:Int) (n:Nat) (h:Int) (b:Unit->Res) (d:Int->Res):Res:=Z1f (j4b s f g) n (h) (b,d)
def j8Z:Z1d Unit:=NdL 19 19 [.R 0 y8 .S,.c 1 308 [.str] .str [],.I 7,.I 8] [] (λb d=>(b.2.2.2.1)) (λb v=>(b.1,b.2.1,b.2.2.1,v,())) (λd v=>()) (λb d=>j4b b.1 b.2.1 b.2.2.1) λb d f=>((λ_=>f (.exit 0) [] []),(λg=>f .ret [(4,vI g)] []))
theorem jeK:CN 0 26 Tryz.f307 j8Z:=lK (Za6 jhy Zas) [] oN ([],[]) [(0,[],[])] ([4],[]) λ_ _ _ _ _=>by kernel_rfl
def j7o (s:List qC) (f:qB) (b:Int->Res):Res:=j9u s f (nI (List.length s)) Z1c 0 (λ_=>b (-1)) (λt=>b t)
def jg8:Sig Unit:=sg [.look y8 false,.rclos 308 [.str]] [false] [(y8,none),(.str,none)] [] λb f k=>j7o b.1 b.2.1 (λd=>k [wI d] [] [])
theorem jfS:SO 307 jg8:=fK (np:=0) (Za6 jhy Zas) [j8Z] (oI 26 0 @jeK oN) false Tryz.func307 λ_ _ _ _=>by kernel_rfl
def j0l (t:qB×qE×qL) (name:qB) (b:Int->Res):Res:=j7o t.2.1 name λr=>b r
def j0T:Sig Unit:=sg [.look y10 true,.look .str false] [false] [(y10,none),(.str,none)] [] λb f k=>j0l b.1 b.2.1 (λd=>k [wI d] [] [])
theorem j4p:SO 284 j0T:=fK (np:=0) (Za6 jfS Zas) [] oN false Tryz.func284 λ_ _ _ _=>by kernel_rfl
theorem jc0:FS [(160,j3w),(163,j3y),(270,jbj),(284,j0T)]:=(Za6 ja5 (Za6 j5i (Za6 jie (Za6 j4p Zas))))
def j2e (d:List qC) (f:Int) (t:qB×qE×qL) (b:Int) (rec:Int->Res) (h:Unit->Res) (g:Unit->Res):Res:=bif decide (b<f) then bif inb b (List.length d) then j5v (nth (eS,0,false,false,0,0,eS) d b) λr=>bif !r then g () else j0l t (nth (eS,0,false,false,0,0,eS) d b).1 λi=>bif (i != b) then g () else rec (Z9K (b+1)) else none else h ()
def j3E (b:List qC) (d:Int) (t:qB×qE×qL):Int->(Int->Res)->((Unit->Res)×(Unit->Res))->Res:=λv rec q=>j2e b d t v (λf=>rec (f)) q.1 q.2
def j86 (b:List qC) (d:Int) (t:qB×qE×qL) (n:Nat) (f:Int) (g:Unit->Res) (h:Unit->Res):Res:=Z1f (j3E b d t) n (f) (g,h)
def j7z:Z1d Unit:=NdL 68 68 [.t 1 (pB 1),.R 10 y8 .S,.I 11,.I 12] [(1,y10,[.S,.S])] (λb d=>(b.2.2.1)) (λb v=>(b.1,b.2.1,v,())) (λd v=>((d.1.1,d.1.2),())) (λb d=>j3E b.1 b.2.1 d.1.2) λb d f=>((λ_=>f (.exit 0) [(1,pB 1)] [(1,⟨y10,d.1.1,d.1.2,[.S,.S]⟩)]),(λ_=>f .ret [(2,vB false)] []))
theorem jkA:CN 0 26 Tryz.f268 j7z:=lK jc0 [] oN ([],[]) [(0,[1],[1])] ([2],[]) λ_ _ _ _ _=>by delta j3E j2e jbj j0T;refine gz j5v λ_ b=>gz j0l λ_ d=> ?_;rewrite [<-b,<-d];kernel_rfl
def j3F (f:qL) (g:Int) (t:qB×qE×qL) (d:Int) (b:Int) (rec:Int->Int->Res) (i:Unit->Res) (h:Unit->Res):Res:=bif decide (b<g) then bif inb b (List.length f) then j0l t (nth eS f b) λr=>bif decide (r<=d) then h () else bif inb r (List.length t.2.1) then bif !(nth (eS,0,false,false,0,0,eS) t.2.1 r).2.2.1 then h () else rec r (Z9K (b+1)) else none else none else i ()
def j6d (d:qL) (f:Int) (t:qB×qE×qL):(Int×Int)->(Int×Int->Res)->((Unit->Res)×(Unit->Res))->Res:=λv rec q=>j3F d f t v.1 v.2 (λb g=>rec (b,g)) q.1 q.2
def j87 (d:qL) (f:Int) (t:qB×qE×qL) (n:Nat) (b:Int) (g:Int) (h:Unit->Res) (i:Unit->Res):Res:=Z1f (j6d d f t) n (b,g) (h,i)
def jaD:Z1d Unit:=NdL 68 68 [.t 1 (pB 1),.I 5,.R 30 y0 .S,.I 31,.I 32] [(1,y10,[.S,.S])] (λb d=>(b.1,b.2.2.2.1)) (λb v=>(v.1,b.2.1,b.2.2.1,v.2,())) (λd v=>((d.1.1,d.1.2),())) (λb d=>j6d b.2.1 b.2.2.1 d.1.2) λb d f=>((λ_=>f (.exit 2) [(1,pB 1)] [(1,⟨y10,d.1.1,d.1.2,[.S,.S]⟩)]),(λ_=>f .ret [(2,vB false)] []))
theorem jkB:CN 0 122 Tryz.f268 jaD:=lK jc0 [j7z] oN ([],[]) [(2,[1],[1])] ([2],[]) λ_ _ _ _ _=>by kernel_rfl
def j0S (t:qB×qE×qL) (b:Bool->Res):Res:=j86 t.2.1 (nI (List.length t.2.1)) t Z1c 0 (λ_=>j87 t.2.2 (nI (List.length t.2.2)) t Z1c (-1) 0 (λ_=>j0F t.1 λr=>bif r then j0A (nI (List.length t.2.1)) 1 8 λd=>bif d then b (decide ((nI (List.length t.2.2))>0)) else b false else b false) (λ_=>b false)) (λ_=>b false)
def j4k:Sig Unit:=sg [.look y10 true] [false] [(y10,none)] [] λd f k=>j0S d.1 (λb=>k [wB b] [] [])
theorem j6u:SO 268 j4k:=fK (np:=0) jc0 [j7z,jaD] (oI 26 0 @jkA (oI 122 1 @jkB oN)) false Tryz.func268 λ_ _ _ _=>by delta j0S j7z jaD j3w j3y j86 j87;refine gz j3E λ_ b=>gz j6d λ_ d=>gz j0F λ_ f=>gz j0A λ_ g=> ?_;rewrite [<-b,<-d,<-f,<-g];kernel_rfl
def j5u (d:List qT) (h:Int) (c:List qT) (b:Int) (rec:Int->Res) (g:Unit->Res) (f:Unit->Res):Res:=bif decide (b<h) then bif inb b (List.length d) then j0S (nth (eS,[],[]) d b) λr=>bif !r then f () else bif decide (b>0) then bif inb (Z9K (b-1)) (List.length c) then bif sGe (nth (eS,[],[]) c (Z9K (b-1))).1 (nth (eS,[],[]) d b).1 then f () else rec (Z9K (b+1)) else none else rec (Z9K (b+1)) else none else g ()
def jb3 (b:List qT) (d:Int) (c:List qT):Int->(Int->Res)->((Unit->Res)×(Unit->Res))->Res:=λv rec q=>j5u b d c v (λf=>rec (f)) q.1 q.2
def jd6 (f:List qT) (g:Int) (c:List qT) (n:Nat) (h:Int) (b:Unit->Res) (d:Unit->Res):Res:=Z1f (jb3 f g c) n (h) (b,d)
def jgU:Z1d Unit:=NdL 37 37 [.t 1 (pB 1),.R 6 y11 .S,.I 7,.I 8] [(1,y11,[.S])] (λb d=>(b.2.2.1)) (λb v=>(b.1,b.2.1,v,())) (λd v=>((d.1.1,d.1.2),())) (λb d=>jb3 b.1 b.2.1 d.1.2) λb d f=>((λ_=>f (.exit 0) [(1,pB 1)] [(1,⟨y11,d.1.1,d.1.2,[.S]⟩)]),(λ_=>f .ret [(2,vB false)] []))
theorem jmB:CN 0 26 Tryz.f250 jgU:=lK (Za6 j6u Zas) [] oN ([],[]) [(0,[1],[1])] ([2],[]) λ_ _ _ _ _=>by kernel_rfl
def j7f (c:List qT) (b:Bool->Res):Res:=jd6 c (nI (List.length c)) c Z1c 0 (λ_=>b (decide ((nI (List.length c))<=6))) (λ_=>b false)
def j8M:Sig Unit:=sg [.look y11 true] [false] [(y11,none)] [] λd f k=>j7f d.1 (λb=>k [wB b] [] [])
theorem jid:SO 250 j8M:=fK (np:=0) (Za6 j6u Zas) [jgU] (oI 26 0 @jmB oN) false Tryz.func250 λ_ _ _ _=>by kernel_rfl
def j9d (l:qL) (b:qL->Res):Res:=bif lim (0+(List.length l)) then b l else none
def jl4:Sig Unit:=sg [.borrow y0 false] [false] [(y0,none)] [] λd f k=>j9d d.1 (λb=>k [w1 y0 b .O] [] [])
theorem jkf:SO 217 jl4:=fK (np:=0) Zas [] oN false Tryz.func217 λ_ _ _ _=>by kernel_rfl
def j4i (t:qB×qE×qL) (b:qT->Res):Res:=bif lim (0+(List.length t.2.1)) then j9d t.2.2 λr=>b (t.1,t.2.1,r) else none
def jl3:Sig Unit:=sg [.borrow y10 true] [true] [(y10,none)] [] λd f k=>j4i d.1 (λb=>k [⟨y10,true,b,[.O,.O]⟩] [] [])
theorem jaf:SO 283 jl3:=fK (np:=0) (Za6 jkf Zas) [] oN false Tryz.func283 λ_ _ _ _=>by kernel_rfl
def j3G (f:List qT) (h:Int) (b:Int) (d:List qT) (rec:Int->qF->Res) (g:qF->Res):Res:=bif decide (b<h) then bif inb b (List.length f) then j4i (nth (eS,[],[]) f b) λr=>bif lim ((List.length d)+1) then rec (Z9K (b+1)) (d++[r]) else none else none else g d
def j9A (f:List qT) (g:Int):(Int×qF)->(Int×qF->Res)->((qF->Res))->Res:=λv rec q=>j3G f g v.1 v.2 (λd b=>rec (d,b)) q
def jfo (g:List qT) (h:Int) (n:Nat) (d:Int) (b:List qT) (f:qF->Res):Res:=Z1f (j9A g h) n (d,b) (f)
def jeX:Z1d Unit:=NdL 23 23 [.t 2 (pB 2),.t 3 (pB 3),.R 8 y11 .S,.I 9,.I 10] [(2,y11,[.O]),(3,y11,[.O])] (λd b=>(d.2.2.1,b.2.1.2)) (λd v=>(d.1,d.2.1,v.1,())) (λb v=>((b.1.1,b.1.2),(b.2.1.1,v.2),())) (λd b=>j9A d.1 d.2.1) λd b g=>((λf=>g (.exit 0) [(2,pB 2),(3,pB 3)] [(2,⟨y11,b.1.1,b.1.2,[.O]⟩),(3,⟨y11,b.2.1.1,f,[.O]⟩)]))
theorem jkD:CN 0 58 Tryz.f231 jeX:=lK (Za6 jaf Zas) [] oN ([],[]) [(0,[2,3],[2,3])] ([],[]) λ_ _ _ _ _=>by kernel_rfl
def j4t (c:List qT) (d:qF->Res):Res:=jfo c (nI (List.length c)) Z1c 0 [] λb=>d b
def j6M:Sig Unit:=sg [.borrow y11 true] [true] [(y11,none)] [] λd f k=>j4t d.1 (λb=>k [⟨y11,true,b,[.O]⟩] [] [])
theorem jgk:SO 231 j6M:=fK (np:=0) (Za6 jaf Zas) [jeX] (oI 58 0 @jkD oN) false Tryz.func231 λ_ _ _ _=>by kernel_rfl
def j3u (d:qG) (b:qT->Res):Res:=j4i (d.2.1,d.2.2.1,d.2.2.2.1) λr=>b r
def j8a:Sig Unit:=sg [.borrow y19 true] [true] [(y19,none)] [] λd f k=>j3u d.1 (λb=>k [⟨y10,true,b,[.O,.O]⟩] [] [])
theorem jfb:SO 269 j8a:=fK (np:=0) (Za6 jaf Zas) [] oN false Tryz.func269 λ_ _ _ _=>by kernel_rfl
def j0r (a:qG) (b:qG) (d:Bool->Res):Res:=bif (a.1==b.1) then bif sEq a.2.1 b.2.1 then j0v a.2.2.1 b.2.2.1 λr=>bif r then j0x a.2.2.2.1 b.2.2.2.1 λf=>bif f then bif sEq a.2.2.2.2.1 b.2.2.2.2.1 then d (sEq a.2.2.2.2.2 b.2.2.2.2.2) else d false else d false else d false else d false else d false
def j8b:Sig Unit:=sg [.look y19 true,.look y19 true] [false] [(y19,none),(y19,none)] [] λb f k=>j0r b.1 b.2.1 (λd=>k [wB d] [] [])
theorem jfd:SO 212 j8b:=fK (np:=0) (Za6 jcM (Za6 jaK Zas)) [] oN false Tryz.func212 λ_ _ _ _=>by delta j0r j8P j6S;refine gz j0v λ_ b=>gz j0x λ_ d=> ?_;rewrite [<-b,<-d];kernel_rfl
def j2K (d:qG) (b:Bool->Res):Res:=j0F d.2.1 λr=>bif !r then b false else bif (d.1==1) then j3u d λg=>j0S g λh=>bif h then bif sEq d.2.2.2.2.1 eS then b (sEq d.2.2.2.2.2 eS) else b false else b false else bif (d.1==2) then j0r d (d.1,d.2.1,[],[],eS,eS) λi=>b i else bif (d.1==3) then j0r d (d.1,d.2.1,d.2.2.1,[],eS,eS) λj=>bif j then bif ((nI (List.length d.2.2.1))==1) then bif inb 0 (List.length d.2.2.1) then j5v (nth (eS,0,false,false,0,0,eS) d.2.2.1 0) λk=>bif k then bif inb 0 (List.length d.2.2.1) then bif (nth (eS,0,false,false,0,0,eS) d.2.2.1 0).2.2.2.1 then b true else bif inb 0 (List.length d.2.2.1) then b (!(nth (eS,0,false,false,0,0,eS) d.2.2.1 0).2.2.1) else none else none else b false else none else b false else b false else bif (d.1==4) then j0r d (d.1,d.2.1,[],[],d.2.2.2.2.1,eS) λl=>bif l then j0F d.2.2.2.2.1 λm=>b m else b false else bif (d.1==5) then j0r d (d.1,d.2.1,[],[],d.2.2.2.2.1,d.2.2.2.2.2) λn=>bif n then j0F d.2.2.2.2.1 λp=>bif p then j0F d.2.2.2.2.2 λf=>b f else b false else b false else b false
def j4K:Sig Unit:=sg [.look y19 true] [false] [(y19,none)] [] λd f k=>j2K d.1 (λb=>k [wB b] [] [])
theorem je8:SO 211 j4K:=fK (np:=0) (Za6 ja5 (Za6 jfd (Za6 j6u (Za6 jfb (Za6 jie Zas))))) [] oN false Tryz.func211 λ_ _ _ _=>by delta j2K j3w j8a j4k j8b jbj;refine gz j0F λ_ b=>gz j3u λ_ d=>gz j0S λ_ f=>gz j0r λ_ g=>gz j5v λ_ h=> ?_;rewrite [<-b,<-d,<-f,<-g,<-h];kernel_rfl
def jes (t:qB×qE×qL) (d:qB) (b:Bool->Res):Res:=b (sEq t.1 d)
def jmQ:Sig Unit:=sg [.look y10 true,.rptr .str] [false] [(y10,none),(.str,none)] [] λb f k=>jes b.1 b.2.1 (λd=>k [wB d] [] [])
theorem jgh:SO 235 jmQ:=fK (np:=0) Zas [] oN false Tryz.func235 λ_ _ _ _=>by kernel_rfl
def j0O (s:List qT) (f:qB) (h:Int) (b:Int) (rec:Int->Res) (d:Unit->Res) (g:Int->Res):Res:=bif decide (b<h) then bif inb b (List.length s) then jes (nth (eS,[],[]) s b) f λr=>bif r then g b else rec (Z9K (b+1)) else none else d ()
def j3b (s:List qT) (f:qB) (b:Int):Int->(Int->Res)->((Unit->Res)×(Int->Res))->Res:=λv rec q=>j0O s f b v (λd=>rec (d)) q.1 q.2
def j8f (s:List qT) (f:qB) (g:Int) (n:Nat) (h:Int) (b:Unit->Res) (d:Int->Res):Res:=Z1f (j3b s f g) n (h) (b,d)
def j7J:Z1d Unit:=NdL 19 19 [.R 0 y11 .S,.c 1 235 [.str] .str [],.I 7,.I 8] [] (λb d=>(b.2.2.2.1)) (λb v=>(b.1,b.2.1,b.2.2.1,v,())) (λd v=>()) (λb d=>j3b b.1 b.2.1 b.2.2.1) λb d f=>((λ_=>f (.exit 0) [] []),(λg=>f .ret [(4,vI g)] []))
theorem jda:CN 0 26 Tryz.f234 j7J:=lK (Za6 jgh Zas) [] oN ([],[]) [(0,[],[])] ([4],[]) λ_ _ _ _ _=>by kernel_rfl
def j67 (s:List qT) (f:qB) (b:Int->Res):Res:=j8f s f (nI (List.length s)) Z1c 0 (λ_=>b (-1)) (λt=>b t)
def jeQ:Sig Unit:=sg [.look y11 false,.rclos 235 [.str]] [false] [(y11,none),(.str,none)] [] λb f k=>j67 b.1 b.2.1 (λd=>k [wI d] [] [])
theorem jel:SO 234 jeQ:=fK (np:=0) (Za6 jgh Zas) [j7J] (oI 26 0 @jda oN) false Tryz.func234 λ_ _ _ _=>by kernel_rfl
def j0z (c:List qT) (name:qB) (b:Int->Res):Res:=j67 c name λr=>b r
def j1d:Sig Unit:=sg [.look y11 true,.look .str false] [false] [(y11,none),(.str,none)] [] λb f k=>j0z b.1 b.2.1 (λd=>k [wI d] [] [])
theorem ja4:SO 176 j1d:=fK (np:=0) (Za6 jel Zas) [] oN false Tryz.func176 λ_ _ _ _=>by kernel_rfl
theorem j96:FS [(95,j4L),(176,j1d),(284,j0T)]:=(Za6 jej (Za6 ja4 (Za6 j4p Zas)))
def j5B (d:qG) (t:qB×qE×qL) (b:Bool->Res):Res:=bif (d.1==3) then bif inb 0 (List.length d.2.2.1) then j0l t (nth (eS,0,false,false,0,0,eS) d.2.2.1 0).1 λr=>bif decide (r>=0) then b true else bif (d.1==5) then j0l t d.2.2.2.2.2 λf=>b (decide (f>=0)) else b false else none else bif (d.1==5) then j0l t d.2.2.2.2.2 λg=>b (decide (g>=0)) else b false
def j52:Z1d Unit:=Nd 92 92 [.t 3 (pB 3),.t 6 (pB 6)] [(3,y19,[.S,.S]),(6,y10,[.S,.S])] λg b f=>j5B b.1.2 b.2.1.2 (λd=>f .normal [(3,pB 3),(6,pB 6),(29,vB d)] [(3,⟨y19,b.1.1,b.1.2,[.S,.S]⟩),(6,⟨y10,b.2.1.1,b.2.1.2,[.S,.S]⟩)])
theorem jkE:CN 0 504 Tryz.f317 j52:=nK j96 [] oN ([3,6,29],[3,6]) [] ([],[]) λ_ _ _=>by delta j5B j0T;refine gz j0l λ_ b=> ?_;rewrite [<-b];kernel_rfl
def j88 (d:qG) (t:qB×qE×qL) (b:Bool->Res):Res:=bif (d.1==3) then b ((nI (List.length t.2.1))==8) else b false
def j7A:Z1d Unit:=Nd 92 92 [.t 3 (pB 3),.t 6 (pB 6)] [(3,y19,[.S,.S]),(6,y10,[.S,.S])] λg b f=>j88 b.1.2 b.2.1.2 (λd=>f .normal [(3,pB 3),(6,pB 6),(55,vB d)] [(3,⟨y19,b.1.1,b.1.2,[.S,.S]⟩),(6,⟨y10,b.2.1.1,b.2.1.2,[.S,.S]⟩)])
theorem jkF:CN 0 2022 Tryz.f317 j7A:=nK j96 [j52] oN ([3,6,55],[3,6]) [] ([],[]) λ_ _ _=>by kernel_rfl
def j5C (d:qG) (t:qB×qE×qL) (b:Bool->Res):Res:=bif (d.1==4) then j0l t d.2.2.2.2.1 λr=>b (decide (r<0)) else bif (d.1==5) then j0l t d.2.2.2.2.1 λf=>b (decide (f<0)) else b false
def jaF:Z1d Unit:=Nd 92 92 [.t 3 (pB 3),.t 6 (pB 6)] [(3,y19,[.S,.S]),(6,y10,[.S,.S])] λg b f=>j5C b.1.2 b.2.1.2 (λd=>f .normal [(3,pB 3),(6,pB 6),(65,vB d)] [(3,⟨y19,b.1.1,b.1.2,[.S,.S]⟩),(6,⟨y10,b.2.1.1,b.2.1.2,[.S,.S]⟩)])
theorem jkG:CN 0 8094 Tryz.f317 jaF:=nK j96 [j52,j7A] oN ([3,6,65],[3,6]) [] ([],[]) λ_ _ _=>by delta j5C j0T;refine gz j0l λ_ b=> ?_;rewrite [<-b];kernel_rfl
def j2S (c:List qT) (d:qG) (b:Int->Res):Res:=j0z c d.2.1 λr=>bif (d.1==1) then bif decide (r>=0) then b 2 else bif ((nI (List.length c))==6) then b 3 else b 0 else bif decide (r<0) then b 4 else bif inb r (List.length c) then j5B d (nth (eS,[],[]) c r) λt=>bif t then b 5 else j88 d (nth (eS,[],[]) c r) λg=>bif g then b 6 else j5C d (nth (eS,[],[]) c r) λh=>bif h then b 7 else bif (d.1==4) then j1B (nth (eS,[],[]) c r).2.2 d.2.2.2.2.1 λf=>bif f then b 8 else b 0 else b 0 else none
def j6N:Sig Unit:=sg [.look y11 true,.look y19 true] [false] [(y11,none),(y19,none)] [] λb f k=>j2S b.1 b.2.1 (λd=>k [wI d] [] [])
theorem jgl:SO 317 j6N:=fK (np:=0) j96 [j52,j7A,jaF] (oI 504 0 @jkE (oI 2022 1 @jkF (oI 8094 2 @jkG oN))) false Tryz.func317 λ_ _ _ _=>by delta j2S j1d j52 j7A jaF j4L;refine gz j0z λ_ b=>gz j5B λ_ d=>gz j88 λ_ f=>gz j5C λ_ g=>gz j1B λ_ h=> ?_;rewrite [<-b,<-d,<-f,<-g,<-h];kernel_rfl
def jc5 (x:qB×Int×Bool×Bool×Int×Int×qB) (d:qG) (b:Bool->Res):Res:=b (sEq x.1 d.2.2.2.2.1)
def jl2:Sig Unit:=sg [.look y7 true,.rptr y19] [false] [(y7,none),(y19,none)] [] λb f k=>jc5 b.1 b.2.1 (λd=>k [wB d] [] [])
theorem jke:SO 321 jl2:=fK (np:=0) Zas [] oN false Tryz.func321 λ_ _ _ _=>by kernel_rfl
def j3o (s:List qC) (b:qG) (d:qE->qG->Res):Res:=bif lim (List.length s) then dgE (λe k=>jc5 e b k) s [] (λr=>d r b) else none
def j5g:Sig Unit:=⟨[.eat y8 false,.clos 321 [y19]],[false],λvals ext k=>ao vals y8 [.O] λs vals=>nl vals<|ab ext y19 [.S,.S] λa0 f ext=>nl ext<|j3o s f (λd b=>k [w1 y8 d .O] [] [⟨y19,a0,b,[.S,.S]⟩])⟩
theorem jf8:Z17 Tryz.prog 320 j5g:=gS (jsM (U:=0) (T:=280) (e:=y7) (ag:=true) (τ:=y19) (tg:=[.S,.S]) (fl:=[9,3,4,4,151]) (S:=116) (E:=213) (I:=3) (B:=4) follows j4e (by kernel_rfl) Tryz.underlying116 (by kernel_rfl) (by kernel_rfl) (by kernel_rfl) (by kernel_rfl) Tryz.isAgg280 Tryz.sizeOf280 (by kernel_rfl) (by kernel_rfl) (by kernel_rfl) Tryz.func307 (by kernel_rfl) (by kernel_rfl) (by kernel_rfl) (by kernel_rfl) jke (by kernel_rfl) Tryz.func320 (by kernel_rfl) (by kernel_rfl) (by kernel_rfl) (by kernel_rfl)) (by kernel_rfl)
theorem jaU:FS [(166,j6T),(176,j1d),(211,j4K),(231,j6M),(250,j8M),(269,j8a),(284,j0T),(317,j6N),(318,j6U),(319,j6R),(320,j5g)]:=(Za6 jaL (Za6 ja4 (Za6 je8 (Za6 jgk (Za6 jid (Za6 jfb (Za6 j4p (Za6 jgl (Za6 jgq (Za6 jgp (Za6 jf8 Zas)))))))))))
def j2Q (d:qG) (f:List qT) (b:Int) (rec:Int->Res) (g:Int->Res):Res:=bif decide (b<(nI (List.length f))) then bif inb b (List.length f) then bif sLt (nth (eS,[],[]) f b).1 d.2.1 then rec (Z9K (b+1)) else g b else none else g b
def j5x (d:qG) (f:List qT):Int->(Int->Res)->((Int->Res))->Res:=λv rec q=>j2Q d f v (λb=>rec (b)) q
def jaj (d:qG) (f:List qT) (n:Nat) (b:Int) (g:Int->Res):Res:=Z1f (j5x d f) n (b) (g)
def j6o:Z1d Unit:=NdL 146 146 [.t 3 (pB 3),.t 4 (pB 4),.t 7 (pB 7),.I 9] [(3,y19,[.S,.S]),(4,y11,[.O]),(7,y11,[.O])] (λf b=>(f.1)) (λf v=>(v,())) (λb v=>((b.1.1,b.1.2),(b.2.1.1,b.2.1.2),(b.2.2.1.1,b.2.2.1.2),())) (λf b=>j5x b.1.2 b.2.2.1.2) λf b g=>((λd=>g (.exit 1) [(3,pB 3),(4,pB 4),(7,pB 7),(9,vI d)] [(3,⟨y19,b.1.1,b.1.2,[.S,.S]⟩),(4,⟨y11,b.2.1.1,b.2.1.2,[.O]⟩),(7,⟨y11,b.2.2.1.1,b.2.2.1.2,[.O]⟩)]))
theorem jjo:CN 0 16212 Tryz.f295 j6o:=lK jaU [] oN ([],[]) [(1,[3,4,7,9],[3,4,7])] ([],[]) λ_ _ _ _ _=>by kernel_rfl
def j1I (f:Int) (h:Int) (d:qG) (b:List qT) (i:qF->Res):Res:=bif (h==1) then jaj d b Z1c 0 λj=>j3u d λr=>j5b b j [r] λl=>i l else bif (h==2) then j59 b f (Z9K (f+1)) λm=>i m else bif (h==3) then bif inb f (List.length b) then bif inb 0 (List.length d.2.2.1) then bif lim ((List.length (nth (eS,[],[]) b f).2.1)+1) then bif inb f (List.length (upd b f ((nth (eS,[],[]) b f).1,((nth (eS,[],[]) b f).2.1++[nth (eS,0,false,false,0,0,eS) d.2.2.1 0]),(nth (eS,[],[]) b f).2.2))) then bif (Z9o (Int.toNat f) (Int.toNat f)&&true) then i (upd b f ((nth (eS,[],[]) b f).1,((nth (eS,[],[]) b f).2.1++[nth (eS,0,false,false,0,0,eS) d.2.2.1 0]),(nth (eS,[],[]) b f).2.2)) else none else none else none else none else none else bif (h==4) then bif inb f (List.length b) then j3o (nth (eS,[],[]) b f).2.1 d λn p=>bif (Z9o (Int.toNat f) (Int.toNat f)&&true) then i (upd b f ((nth (eS,[],[]) b f).1,n,(nth (eS,[],[]) b f).2.2)) else none else none else bif (h==5) then bif inb f (List.length b) then j0l (nth (eS,[],[]) b f) d.2.2.2.2.1 λg=>bif inb g (List.length (nth (eS,[],[]) b f).2.1) then j10 (nth (eS,[],[]) (upd b f ((nth (eS,[],[]) b f).1,upd (nth (eS,[],[]) b f).2.1 g (d.2.2.2.2.2,(nth (eS,0,false,false,0,0,eS) (nth (eS,[],[]) b f).2.1 g).2),(nth (eS,[],[]) b f).2.2)) f).2.2 d.2.2.2.2.1 λk=>bif decide (k>=0) then bif inb k (List.length (nth (eS,[],[]) (upd b f ((nth (eS,[],[]) b f).1,upd (nth (eS,[],[]) b f).2.1 g (d.2.2.2.2.2,(nth (eS,0,false,false,0,0,eS) (nth (eS,[],[]) b f).2.1 g).2),(nth (eS,[],[]) b f).2.2)) f).2.2) then i (upd (upd b f ((nth (eS,[],[]) b f).1,upd (nth (eS,[],[]) b f).2.1 g (d.2.2.2.2.2,(nth (eS,0,false,false,0,0,eS) (nth (eS,[],[]) b f).2.1 g).2),(nth (eS,[],[]) b f).2.2)) f ((nth (eS,[],[]) (upd b f ((nth (eS,[],[]) b f).1,upd (nth (eS,[],[]) b f).2.1 g (d.2.2.2.2.2,(nth (eS,0,false,false,0,0,eS) (nth (eS,[],[]) b f).2.1 g).2),(nth (eS,[],[]) b f).2.2)) f).1,(nth (eS,[],[]) (upd b f ((nth (eS,[],[]) b f).1,upd (nth (eS,[],[]) b f).2.1 g (d.2.2.2.2.2,(nth (eS,0,false,false,0,0,eS) (nth (eS,[],[]) b f).2.1 g).2),(nth (eS,[],[]) b f).2.2)) f).2.1,upd (nth (eS,[],[]) (upd b f ((nth (eS,[],[]) b f).1,upd (nth (eS,[],[]) b f).2.1 g (d.2.2.2.2.2,(nth (eS,0,false,false,0,0,eS) (nth (eS,[],[]) b f).2.1 g).2),(nth (eS,[],[]) b f).2.2)) f).2.2 k d.2.2.2.2.2)) else none else i (upd b f ((nth (eS,[],[]) b f).1,upd (nth (eS,[],[]) b f).2.1 g (d.2.2.2.2.2,(nth (eS,0,false,false,0,0,eS) (nth (eS,[],[]) b f).2.1 g).2),(nth (eS,[],[]) b f).2.2)) else none else none else i b
def j9P:Z1d Unit:=Nd 146 146 [.t 3 (pB 3),.t 4 (pB 4),.t 7 (pB 7),.I 8,.I 36] [(3,y19,[.S,.S]),(4,y11,[.O]),(7,y11,[.O])] λf d g=>j1I f.1 f.2.1 d.1.2 d.2.2.1.2 (λb=>g .normal [(4,pB 4),(7,pB 7)] [(4,⟨y11,d.2.1.1,d.2.1.2,[.O]⟩),(7,⟨y11,d.2.2.1.1,b,[.O]⟩)])
theorem jjp:CN 0 253 Tryz.f295 j9P:=nK jaU [j6o] (oI 84 0 @jjo oN) ([4,7],[4,7]) [] ([],[]) λ_ _ _=>by delta j1I j6o j8a j6U j6R j5g j0T j6T jaj;refine gz j5x λ_ b=>gz j3u λ_ d=>gz j5b λ_ f=>gz j59 λ_ g=>gz j3o λ_ h=>gz j0l λ_ i=>gz j10 λ_ j=> ?_;rewrite [<-b,<-d,<-f,<-g,<-h,<-i,<-j];kernel_rfl
def j5l (c:List qT) (d:qG) (b:qF->Int->Res):Res:=j7f c λr=>bif !r then b [] 1 else j2K d λh=>bif !h then b [] 1 else j2S c d λg=>bif (g != 0) then b [] g else j4t c λi=>j0z c d.2.1 λj=>j1I j d.1 d i λf=>b f 0
def jbk:Sig Unit:=sg [.borrow y11 true,.borrow y19 true] [true,false] [(y11,none),(y19,none)] [] λb g k=>j5l b.1 b.2.1 (λd f=>k [⟨y11,true,d,[.O]⟩,wI f] [] [])
theorem jl7:SO 295 jbk:=fK (np:=0) jaU [j6o,j9P] (oI 253 1 @jjp oN) false Tryz.func295 λ_ _ _ _=>by delta j5l j8M j4K j6N j6M j1d j9P;refine gz j7f λ_ b=>gz j2K λ_ d=>gz j2S λ_ f=>gz j4t λ_ g=>gz j0z λ_ h=>gz j1I λ_ i=> ?_;rewrite [<-b,<-d,<-f,<-g,<-h,<-i];kernel_rfl
def j4v (a:qB×qE×qL) (b:qB×qE×qL) (d:Bool->Res):Res:=bif sEq a.1 b.1 then j0v a.2.1 b.2.1 λr=>bif r then j0x a.2.2 b.2.2 λf=>d f else d false else d false
def jiW:Sig Unit:=sg [.look y10 true,.look y10 true] [false] [(y10,none),(y10,none)] [] λb f k=>j4v b.1 b.2.1 (λd=>k [wB d] [] [])
theorem jcK:SO 198 jiW:=fK (np:=0) (Za6 jcM (Za6 jaK Zas)) [] oN false Tryz.func198 λ_ _ _ _=>by delta j4v j8P j6S;refine gz j0v λ_ b=>gz j0x λ_ d=> ?_;rewrite [<-b,<-d];kernel_rfl
def j0N (g:List qT) (d:List qT) (f:Int) (b:Int) (rec:Int->Res) (h:Unit->Res) (i:Unit->Res):Res:=bif decide (b<f) then bif inb b (List.length d) then bif inb b (List.length g) then j4v (nth (eS,[],[]) d b) (nth (eS,[],[]) g b) λr=>bif !r then i () else rec (Z9K (b+1)) else none else none else h ()
def j3a (g:List qT) (b:List qT) (d:Int):Int->(Int->Res)->((Unit->Res)×(Unit->Res))->Res:=λv rec q=>j0N g b d v (λf=>rec (f)) q.1 q.2
def j8e (i:List qT) (b:List qT) (d:Int) (n:Nat) (f:Int) (g:Unit->Res) (h:Unit->Res):Res:=Z1f (j3a i b d) n (f) (g,h)
def j7I:Z1d Unit:=NdL 32 32 [.R 1 y11 .S,.c 2 198 [] .unit [],.R 15 y11 .S,.I 16,.I 17] [] (λb d=>(b.2.2.2.2.1)) (λb v=>(b.1,b.2.1,b.2.2.1,b.2.2.2.1,v,())) (λd v=>()) (λb d=>j3a b.1 b.2.2.1 b.2.2.2.1) λb d f=>((λ_=>f (.exit 0) [] []),(λ_=>f .ret [(6,vB false)] []))
theorem jd9:CN 0 58 Tryz.f197 j7I:=lK (Za6 jcK Zas) [] oN ([],[]) [(0,[],[])] ([6],[]) λ_ _ _ _ _=>by kernel_rfl
def j1C (d:List qT) (f:List qT) (g:Unit) (b:Bool->Res):Res:=bif ((nI (List.length d)) != (nI (List.length f))) then b false else j8e f d (nI (List.length d)) Z1c 0 (λ_=>b true) (λ_=>b false)
def j4M:Sig Unit:=sg [.look y11 false,.look y11 false,.rclos 198 []] [false] [(y11,none),(y11,none),(.unit,none)] [] λb f k=>j1C b.1 b.2.1 b.2.2.1 (λd=>k [wB d] [] [])
theorem jek:SO 197 j4M:=fK (np:=0) (Za6 jcK Zas) [j7I] (oI 58 0 @jd9 oN) false Tryz.func197 λ_ _ _ _=>by kernel_rfl
end
end Go.PI.G
