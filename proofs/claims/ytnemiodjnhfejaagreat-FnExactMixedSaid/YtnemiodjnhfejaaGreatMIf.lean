/-
  Program's code interpreted over typed values; printed texts; plain laws. No conditions.
-/
import Derived.Test.YtnemiodjnhfejaaGreatMId
import Derived.Test.YtnemiodjnhfejaaGreatMIe
set_option linter.unusedVariables false
set_option maxRecDepth 100000
namespace Go.PI.G
noncomputable section
open Go Go.PI Go.Proofs
open Go.Code (pl pr)
def j4l (c:qB×Int×Bool×Bool×Int×Int×qB) (b:Bool->Res):Res:=j0y c.1 λr=>bif !r then b false else bif decide (c.2.1<1) then b false else bif decide (c.2.1>3) then b false else bif !c.2.2.2.1 then b ((c.2.2.2.2.1==0)&&((c.2.2.2.2.2.1==0)&&(sEq c.2.2.2.2.2.2 eS))) else j18 c.2.2.2.2 λd=>bif d then bif ((c.2.2.2.2.1==0)&&((c.2.2.2.2.2.1==0)&&(sEq c.2.2.2.2.2.2 eS))) then bif ((c.2.2.2.2.1==0)&&((c.2.2.2.2.2.1==0)&&(sEq c.2.2.2.2.2.2 eS))) then b (!c.2.2.1) else b true else bif (c.2.2.2.2.1==c.2.1) then bif ((c.2.2.2.2.1==0)&&((c.2.2.2.2.2.1==0)&&(sEq c.2.2.2.2.2.2 eS))) then b (!c.2.2.1) else b true else b false else b false
def j73:Sig Unit:=sg [.look y7 true] [false] [(y7,none)] [] λd f k=>j4l d.1 (λb=>k [wB b] [] [])
theorem jfY:SO 267 j73:=fK (np:=0) (Za6 j8f (Za6 j6Q Zas)) [] oN false Tryz.func267 λ_ _ _ _=>by delta j4l j2t j9t;refine gz j0y λ_ b=>gz j18 λ_ d=> ?_;rewrite [<-b,<-d];kernel_rfl
def j4k (name:qB) (d:List qC) (h:Int) (b:Int) (rec:Int->Res) (f:Unit->Res) (g:Int->Res):Res:=bif decide (b<h) then bif inb b (List.length d) then bif sEq (nth (eS,0,false,false,0,0,eS) d b).1 name then g b else rec (Z9K (b+1)) else none else f ()
def j9z (name:qB) (d:List qC) (f:Int):Int->(Int->Res)->((Unit->Res)×(Int->Res))->Res:=λv rec q=>j4k name d f v (λb=>rec (b)) q.1 q.2
def jfw (name:qB) (g:List qC) (h:Int) (n:Nat) (b:Int) (d:Unit->Res) (f:Int->Res):Res:=Z1f (j9z name g h) n (b) (d,f)
def jey:Z1d Unit:=NdL 21 21 [.S 1,.R 8 y8 .S,.I 9,.I 10] [] (λb d=>(b.2.2.2.1)) (λb v=>(b.1,b.2.1,b.2.2.1,v,())) (λd v=>()) (λb d=>j9z b.1 b.2.1 b.2.2.1) λb d f=>((λ_=>f (.exit 0) [] []),(λg=>f .ret [(4,vI g)] []))
theorem jjz:CN 0 26 Tryz.f230 jey:=lK Zas [] oN ([],[]) [(0,[],[])] ([4],[]) λ_ _ _ _ _=>by kernel_rfl
def j0B (t:qB×qE×qL) (name:qB) (b:Int->Res):Res:=jfw name t.2.1 (nI (List.length t.2.1)) Z1c 0 (λ_=>b (-1)) (λd=>b d)
def j28:Sig Unit:=sg [.look y29 true,.look .str false] [false] [(y29,none),(.str,none)] [] λb f k=>j0B b.1 b.2.1 (λd=>k [wI d] [] [])
theorem j4X:SO 230 j28:=fK (np:=0) Zas [jey] (oI 26 0 @jjz oN) false Tryz.func230 λ_ _ _ _=>by kernel_rfl
theorem j7i:FS [(154,j2t),(230,j28),(267,j73)]:=(Za6 j8f (Za6 j4X (Za6 jfY Zas)))
def j4r (t:qB×qE×qL) (b:Bool->Res):Res:=j0y t.1 λr=>bif !r then b true else bif decide ((nI (List.length t.2.1))<1) then b true else bif decide ((nI (List.length t.2.1))>8) then b true else b (decide ((nI (List.length t.2.2))<1))
def j3M:Z1d Unit:=Nd 75 75 [.t 1 (pB 1)] [(1,y29,[.S,.S])] λg d f=>j4r d.1.2 (λb=>f .normal [(1,pB 1),(30,vB b)] [(1,⟨y29,d.1.1,d.1.2,[.S,.S]⟩)])
theorem jhR:CN 0 12 Tryz.f227 j3M:=nK j7i [] oN ([1,30],[1]) [] ([],[]) λ_ _ _=>by kernel_rfl
def j1B (d:List qC) (f:Int) (t:qB×qE×qL) (b:Int) (rec:Int->Res) (h:Unit->Res) (g:Unit->Res):Res:=bif decide (b<f) then bif inb b (List.length d) then j4l (nth (eS,0,false,false,0,0,eS) d b) λr=>bif !r then g () else j0B t (nth (eS,0,false,false,0,0,eS) d b).1 λi=>bif (i != b) then g () else rec (Z9K (b+1)) else none else h ()
def j2J (b:List qC) (d:Int) (t:qB×qE×qL):Int->(Int->Res)->((Unit->Res)×(Unit->Res))->Res:=λv rec q=>j1B b d t v (λf=>rec (f)) q.1 q.2
def j6K (b:List qC) (d:Int) (t:qB×qE×qL) (n:Nat) (f:Int) (g:Unit->Res) (h:Unit->Res):Res:=Z1f (j2J b d t) n (f) (g,h)
def j62:Z1d Unit:=NdL 75 75 [.t 1 (pB 1),.R 32 y8 .S,.I 33,.I 34] [(1,y29,[.S,.S])] (λb d=>(b.2.2.1)) (λb v=>(b.1,b.2.1,v,())) (λd v=>((d.1.1,d.1.2),())) (λb d=>j2J b.1 b.2.1 d.1.2) λb d f=>((λ_=>f (.exit 0) [(1,pB 1)] [(1,⟨y29,d.1.1,d.1.2,[.S,.S]⟩)]),(λ_=>f .ret [(2,vB false)] []))
theorem jhP:CN 0 58 Tryz.f227 j62:=lK j7i [j3M] oN ([],[]) [(0,[1],[1])] ([2],[]) λ_ _ _ _ _=>by delta j2J j1B j73 j28;refine gz j4l λ_ b=>gz j0B λ_ d=> ?_;rewrite [<-b,<-d];kernel_rfl
def j2K (f:qL) (g:Int) (t:qB×qE×qL) (d:Int) (b:Int) (rec:Int->Int->Res) (i:Unit->Res) (h:Unit->Res):Res:=bif decide (b<g) then bif inb b (List.length f) then j0B t (nth eS f b) λr=>bif decide (r<=d) then h () else bif inb r (List.length t.2.1) then bif !(nth (eS,0,false,false,0,0,eS) t.2.1 r).2.2.1 then h () else rec r (Z9K (b+1)) else none else none else i ()
def j4I (d:qL) (f:Int) (t:qB×qE×qL):(Int×Int)->(Int×Int->Res)->((Unit->Res)×(Unit->Res))->Res:=λv rec q=>j2K d f t v.1 v.2 (λb g=>rec (b,g)) q.1 q.2
def j6L (d:qL) (f:Int) (t:qB×qE×qL) (n:Nat) (b:Int) (g:Int) (h:Unit->Res) (i:Unit->Res):Res:=Z1f (j4I d f t) n (b,g) (h,i)
def j8S:Z1d Unit:=NdL 75 75 [.t 1 (pB 1),.I 5,.R 52 y0 .S,.I 53,.I 54] [(1,y29,[.S,.S])] (λb d=>(b.1,b.2.2.2.1)) (λb v=>(v.1,b.2.1,b.2.2.1,v.2,())) (λd v=>((d.1.1,d.1.2),())) (λb d=>j4I b.2.1 b.2.2.1 d.1.2) λb d f=>((λ_=>f (.exit 2) [] []),(λ_=>f .ret [(2,vB false)] []))
theorem jhQ:CN 0 250 Tryz.f227 j8S:=lK j7i [j3M,j62] oN ([],[]) [(2,[],[])] ([2],[]) λ_ _ _ _ _=>by kernel_rfl
def j0o (t:qB×qE×qL) (b:Bool->Res):Res:=j4r t λd=>bif d then b false else j6K t.2.1 (nI (List.length t.2.1)) t Z1c 0 (λ_=>j6L t.2.2 (nI (List.length t.2.2)) t Z1c (-1) 0 (λ_=>b true) (λ_=>b false)) (λ_=>b false)
def j0W:Sig Unit:=sg [.look y29 true] [false] [(y29,none)] [] λd f k=>j0o d.1 (λb=>k [wB b] [] [])
theorem j30:SO 227 j0W:=fK (np:=0) j7i [j3M,j62,j8S] (oI 12 0 @jhR (oI 58 1 @jhP (oI 250 2 @jhQ oN))) false Tryz.func227 λ_ _ _ _=>by delta j0o j3M j62 j8S j6K j6L;refine gz j4r λ_ b=>gz j2J λ_ d=>gz j4I λ_ f=> ?_;rewrite [<-b,<-d,<-f];kernel_rfl
theorem jfH:FS [(154,j2t),(227,j0W),(267,j73)]:=(Za6 j8f (Za6 j30 (Za6 jfY Zas)))
def j6b (d:qG) (b:Bool->Res):Res:=bif ((nI (List.length d.2.2.1))==0) then b ((nI (List.length d.2.2.2.1))==0) else b false
def jaD:Z1d Unit:=Nd 123 123 [.t 1 (pB 1)] [(1,y13,[.S,.S])] λf b d=>j6b b.1.2 (λplain=>d .normal [(1,pB 1),(3,vB plain)] [(1,⟨y13,b.1.1,b.1.2,[.S,.S]⟩)])
theorem jjA:CN 0 14 Tryz.f210 jaD:=nK jfH [] oN ([1,3],[1]) [] ([],[]) λ_ _ _=>by kernel_rfl
def j20 (d:qG) (b:Bool->Res):Res:=j0y d.2.1 λr=>bif !r then b false else j6b d λplain=>bif (d.1==1) then bif sEq d.2.2.2.2.1 eS then bif sEq d.2.2.2.2.2 eS then j0o (d.2.1,d.2.2.1,d.2.2.2.1) λf=>b f else b false else b false else bif (d.1==2) then bif plain then bif sEq d.2.2.2.2.1 eS then b (sEq d.2.2.2.2.2 eS) else b false else b false else bif (d.1==3) then bif ((nI (List.length d.2.2.1))==1) then bif inb 0 (List.length d.2.2.1) then j4l (nth (eS,0,false,false,0,0,eS) d.2.2.1 0) λg=>bif g then bif inb 0 (List.length d.2.2.1) then bif (nth (eS,0,false,false,0,0,eS) d.2.2.1 0).2.2.2.1 then bif ((nI (List.length d.2.2.2.1))==0) then bif sEq d.2.2.2.2.1 eS then b (sEq d.2.2.2.2.2 eS) else b false else b false else bif inb 0 (List.length d.2.2.1) then bif !(nth (eS,0,false,false,0,0,eS) d.2.2.1 0).2.2.1 then bif ((nI (List.length d.2.2.2.1))==0) then bif sEq d.2.2.2.2.1 eS then b (sEq d.2.2.2.2.2 eS) else b false else b false else b false else none else none else b false else none else b false else bif (d.1==4) then bif plain then j0y d.2.2.2.2.1 λh=>bif h then b (sEq d.2.2.2.2.2 eS) else b false else b false else bif (d.1==5) then bif plain then j0y d.2.2.2.2.1 λi=>bif i then j0y d.2.2.2.2.2 λj=>b j else b false else b false else b false
def j3u:Sig Unit:=sg [.look y13 true] [false] [(y13,none)] [] λd f k=>j20 d.1 (λb=>k [wB b] [] [])
theorem jbW:SO 210 j3u:=fK (np:=0) jfH [jaD] (oI 14 0 @jjA oN) false Tryz.func210 λ_ _ _ _=>by delta j20 j2t jaD j0W j73;refine gz j0y λ_ b=>gz j6b λ_ d=>gz j0o λ_ f=>gz j4l λ_ g=> ?_;rewrite [<-b,<-d,<-f,<-g];kernel_rfl
def j4j (d:List qT) (f:Int) (c:List qT) (b:Int) (rec:Int->Res) (h:Unit->Res) (g:Unit->Res):Res:=bif decide (b<f) then bif inb b (List.length d) then j0o (nth (eS,[],[]) d b) λr=>bif !r then g () else bif decide (b>0) then bif inb (Z9K (b-1)) (List.length c) then bif sGe (nth (eS,[],[]) c (Z9K (b-1))).1 (nth (eS,[],[]) d b).1 then g () else rec (Z9K (b+1)) else none else rec (Z9K (b+1)) else none else h ()
def j9y (b:List qT) (d:Int) (c:List qT):Int->(Int->Res)->((Unit->Res)×(Unit->Res))->Res:=λv rec q=>j4j b d c v (λf=>rec (f)) q.1 q.2
def jbe (b:List qT) (d:Int) (c:List qT) (n:Nat) (f:Int) (g:Unit->Res) (h:Unit->Res):Res:=Z1f (j9y b d c) n (f) (g,h)
def jex:Z1d Unit:=NdL 37 37 [.t 1 (pB 1),.R 10 y30 .S,.I 11,.I 12] [(1,y30,[.S])] (λb d=>(b.2.2.1)) (λb v=>(b.1,b.2.1,v,())) (λd v=>((d.1.1,d.1.2),())) (λb d=>j9y b.1 b.2.1 d.1.2) λb d f=>((λ_=>f (.exit 0) [] []),(λ_=>f .ret [(2,vB false)] []))
theorem jjy:CN 0 58 Tryz.f242 jex:=lK (Za6 j30 Zas) [] oN ([],[]) [(0,[],[])] ([2],[]) λ_ _ _ _ _=>by kernel_rfl
def j5T (c:List qT) (b:Bool->Res):Res:=bif decide ((nI (List.length c))>6) then b false else jbe c (nI (List.length c)) c Z1c 0 (λ_=>b true) (λ_=>b false)
def j72:Sig Unit:=sg [.look y30 true] [false] [(y30,none)] [] λd f k=>j5T d.1 (λb=>k [wB b] [] [])
theorem jfX:SO 242 j72:=fK (np:=0) (Za6 j30 Zas) [jex] (oI 58 0 @jjy oN) false Tryz.func242 λ_ _ _ _=>by kernel_rfl
def j3Z (t:qB×qE×qL) (b:qT->Res):Res:=Z87 (Z87 (bif lim (0+(List.length t.2.1)) then bif lim (0+(List.length t.2.2)) then b (t.1,t.2.1,t.2.2) else none else none) (bif lim (0+(List.length t.2.1)) then bif lim (0+(List.length t.2.2)) then b (t.1,t.2.1,t.2.2) else none else none)) (bif lim (0+(List.length t.2.1)) then bif lim (0+(List.length t.2.2)) then b (t.1,t.2.1,t.2.2) else none else none)
def j9v:Sig Unit:=sg [.borrow y29 true] [true] [(y29,none)] [] λd f k=>j3Z d.1 (λb=>k [⟨y29,true,b,[.O,.O]⟩] [] [])
theorem j97:SO 286 j9v:=fK (np:=0) Zas [] oN false Tryz.func286 λ_ _ _ _=>by kernel_rfl
def j2L (f:List qT) (h:Int) (b:Int) (d:List qT) (rec:Int->qF->Res) (g:qF->Res):Res:=bif decide (b<h) then bif inb b (List.length f) then j3Z (nth (eS,[],[]) f b) λr=>bif lim ((List.length d)+1) then rec (Z9K (b+1)) (d++[r]) else none else none else g d
def j7R (f:List qT) (g:Int):(Int×qF)->(Int×qF->Res)->((qF->Res))->Res:=λv rec q=>j2L f g v.1 v.2 (λd b=>rec (d,b)) q
def jd4 (g:List qT) (h:Int) (n:Nat) (d:Int) (b:List qT) (f:qF->Res):Res:=Z1f (j7R g h) n (d,b) (f)
def jcz:Z1d Unit:=NdL 23 23 [.t 2 (pB 2),.t 3 (pB 3),.R 8 y30 .S,.I 9,.I 10] [(2,y30,[.O]),(3,y30,[.O])] (λd b=>(d.2.2.1,b.2.1.2)) (λd v=>(d.1,d.2.1,v.1,())) (λb v=>((b.1.1,b.1.2),(b.2.1.1,v.2),())) (λd b=>j7R d.1 d.2.1) λd b g=>((λf=>g (.exit 0) [(2,pB 2),(3,pB 3)] [(2,⟨y30,b.1.1,b.1.2,[.O]⟩),(3,⟨y30,b.2.1.1,f,[.O]⟩)]))
theorem jhS:CN 0 58 Tryz.f243 jcz:=lK (Za6 j97 Zas) [] oN ([],[]) [(0,[2,3],[2,3])] ([],[]) λ_ _ _ _ _=>by kernel_rfl
def j3A (c:List qT) (d:qF->Res):Res:=jd4 c (nI (List.length c)) Z1c 0 [] λb=>d b
def j5n:Sig Unit:=sg [.borrow y30 true] [true] [(y30,none)] [] λd f k=>j3A d.1 (λb=>k [⟨y30,true,b,[.O]⟩] [] [])
theorem jdZ:SO 243 j5n:=fK (np:=0) (Za6 j97 Zas) [jcz] (oI 58 0 @jhS oN) false Tryz.func243 λ_ _ _ _=>by kernel_rfl
def j4s (name:qB) (d:List qT) (h:Int) (b:Int) (rec:Int->Res) (f:Unit->Res) (g:Int->Res):Res:=bif decide (b<h) then bif inb b (List.length d) then bif sEq (nth (eS,[],[]) d b).1 name then g b else rec (Z9K (b+1)) else none else f ()
def j9E (name:qB) (d:List qT) (f:Int):Int->(Int->Res)->((Unit->Res)×(Int->Res))->Res:=λv rec q=>j4s name d f v (λb=>rec (b)) q.1 q.2
def jfx (name:qB) (g:List qT) (h:Int) (n:Nat) (b:Int) (d:Unit->Res) (f:Int->Res):Res:=Z1f (j9E name g h) n (b) (d,f)
def jez:Z1d Unit:=NdL 21 21 [.S 1,.R 8 y30 .S,.I 9,.I 10] [] (λb d=>(b.2.2.2.1)) (λb v=>(b.1,b.2.1,b.2.2.1,v,())) (λd v=>()) (λb d=>j9E b.1 b.2.1 b.2.2.1) λb d f=>((λ_=>f (.exit 0) [] []),(λg=>f .ret [(4,vI g)] []))
theorem jjG:CN 0 26 Tryz.f113 jez:=lK Zas [] oN ([],[]) [(0,[],[])] ([4],[]) λ_ _ _ _ _=>by kernel_rfl
def j22 (c:List qT) (name:qB) (b:Int->Res):Res:=jfx name c (nI (List.length c)) Z1c 0 (λ_=>b (-1)) (λt=>b t)
def j3v:Sig Unit:=sg [.look y30 true,.look .str false] [false] [(y30,none),(.str,none)] [] λb f k=>j22 b.1 b.2.1 (λd=>k [wI d] [] [])
theorem jbZ:SO 113 j3v:=fK (np:=0) Zas [jez] (oI 26 0 @jjG oN) false Tryz.func113 λ_ _ _ _=>by kernel_rfl
def jay (done:Bool) (t:qB×qE×qL) (b:List qT) (x:qB×qE×qL) (d:Bool->qF->Res):Res:=bif !done then bif sLt t.1 x.1 then bif lim ((List.length b)+1) then d true (b++[t]) else none else d done b else d done b
def j9V:Z1d Unit:=Nd 48 48 [.t 3 (pB 3),.t 4 (pB 4),.t 5 (pB 5),.B 6,.t 8 (pB 8),.R 11 y30 .S,.I 12,.I 13] [(3,y29,[.S,.S]),(4,y30,[.O]),(5,y30,[.PS]),(8,y29,[.S,.S])] λg b h=>jay g.1 b.1.2 b.2.2.1.2 b.2.2.2.1.2 (λd f=>h .normal [(3,pB 3),(4,pB 4),(5,pB 5),(6,vB d),(8,pB 8),(11,v1 y30 g.2.1 .S),(12,vI g.2.2.1),(13,vI g.2.2.2.1)] [(3,⟨y29,b.1.1,b.1.2,[.S,.S]⟩),(4,⟨y30,b.2.1.1,b.2.1.2,[.O]⟩),(5,⟨y30,b.2.2.1.1,f,[.PS]⟩),(8,⟨y29,b.2.2.2.1.1,b.2.2.2.1.2,[.S,.S]⟩)])
theorem jiM:CN 0 15666 Tryz.f309 j9V:=nK Zas [] oN ([3,4,5,6,8,11,12,13],[3,4,5,8]) [] ([],[]) λ_ _ _=>by kernel_rfl
def j3C (g:List qT) (i:Int) (t:qB×qE×qL) (done:Bool) (b:Int) (h:List qT) (rec:Bool->Int->qF->Res) (j:Bool->qF->Res):Res:=bif decide (b<i) then bif inb b (List.length g) then jay done t h (nth (eS,[],[]) g b) λf d=>bif lim ((List.length d)+1) then rec f (Z9K (b+1)) (d++[nth (eS,[],[]) g b]) else none else none else j done h
def j8F (d:List qT) (f:Int) (t:qB×qE×qL):(Bool×Int×qF)->(Bool×Int×qF->Res)->((Bool->qF->Res))->Res:=λv rec q=>j3C d f t v.1 v.2.1 v.2.2 (λdone g b=>rec (done,g,b)) q
def jax (d:List qT) (f:Int) (t:qB×qE×qL) (n:Nat) (done:Bool) (g:Int) (b:List qT) (h:Bool->qF->Res):Res:=Z1f (j8F d f t) n (done,g,b) (h)
def jd8:Z1d Unit:=λσ k=>rdN σ 48<|rdT σ 3 (pB 3)<|rdT σ 4 (pB 4)<|rdT σ 5 (pB 5)<|rdO σ 6 λdone=>rd1 σ 11 y30 .S λg=>rdI σ 12 λh=>rdI σ 13 λi=>rdB σ 3 y29 [.S,.S] λa t=>rdB σ 4 y30 [.O] λj m=>rdB σ 5 y30 [.PS] λl f=>jax g h t Z1c done i f (λb d=>k (.exit 0) (mkS 48 48 [(3,pB 3),(4,pB 4),(5,pB 5),(6,vB b)] [(3,⟨y29,a,t,[.S,.S]⟩),(4,⟨y30,j,m,[.O]⟩),(5,⟨y30,l,d,[.PS]⟩)]))
def jdk:Z1d Unit:=λσ k=>jd8 (σ.wk [] [(5,[.PS])]) k
theorem jiL:CN 0 122 Tryz.f309 jdk:=λr=>ZaJ [] [(5,[.PS])] (jlj follows j2o Zas r [j9V] (oI 114 0 @jiM oN) [3,4,5,6,11,12,13] [3,4,5] ([],[]) [(0,[3,4,5,6],[3,4,5])] ([],[]) (y:=jd8) λσ k _ h=>rN h λH h=>rT h λD h=>rT h λE h=>rT h λF h=>rV h λdone G h=>rV h λf i h=>rV h λg j h=>rV h λz l h=>rB h λa t n h=>rB h λA C p h=>rB h λB w q h=>⟨_,ZaM (m:=48) H (sC D (sC E (sC F (sC G (sC i (sC j (sC l sN))))))) (bC n (bC p (bC q bN))),.trans (Z9u (λv:Bool×Int×qF=>(mkS 48 48 [(3,pB 3),(4,pB 4),(5,pB 5),(6,vB v.1),(11,v1 y30 f .S),(12,vI g),(13,vI v.2.1)] [(3,⟨y29,a,t,[.S,.S]⟩),(4,⟨y30,A,C,[.O]⟩),(5,⟨y30,B,v.2.2,[.PS]⟩)])) (j8F f g t) (λ(k:Z83 Unit)=>(((λb d=>k (.exit 0) (mkS 48 48 [(3,pB 3),(4,pB 4),(5,pB 5),(6,vB b)] [(3,⟨y29,a,t,[.S,.S]⟩),(4,⟨y30,A,C,[.O]⟩),(5,⟨y30,B,d,[.PS]⟩)]))):(Bool->qF->Res))) (λv rec k=>by kernel_rfl) Z1c (done,z,w) k) h⟩)
def j8c (c:List qT) (t:qB×qE×qL) (d:qF->Res):Res:=jax c (nI (List.length c)) t Z1c false 0 [] λdone b=>bif !done then bif lim ((List.length b)+1) then d (b++[t]) else none else d b
def jbb:Sig Unit:=sg [.borrow y30 true,.borrow y29 true] [true] [(y30,none),(y29,none)] [] λb f k=>j8c b.1 b.2.1 (λd=>k [⟨y30,true,d,[.PS]⟩] [] [])
theorem jkJ:SO 309 jbb:=fK (np:=0) Zas [j9V,jdk] (oI 122 1 @jiL oN) false Tryz.func309 λ_ _ _ _=>by kernel_rfl
def j3B (s:qB) (d:qL) (h:Int) (b:Int) (rec:Int->Res) (f:Unit->Res) (g:Unit->Res):Res:=bif decide (b<h) then bif inb b (List.length d) then bif sEq (nth eS d b) s then g () else rec (Z9K (b+1)) else none else f ()
def j8E (s:qB) (b:qL) (d:Int):Int->(Int->Res)->((Unit->Res)×(Unit->Res))->Res:=λv rec q=>j3B s b d v (λf=>rec (f)) q.1 q.2
def jen (s:qB) (f:qL) (g:Int) (n:Nat) (h:Int) (b:Unit->Res) (d:Unit->Res):Res:=Z1f (j8E s f g) n (h) (b,d)
def jdj:Z1d Unit:=NdL 17 17 [.S 1,.R 7 y0 .S,.I 8,.I 9] [] (λb d=>(b.2.2.2.1)) (λb v=>(b.1,b.2.1,b.2.2.1,v,())) (λd v=>()) (λb d=>j8E b.1 b.2.1 b.2.2.1) λb d f=>((λ_=>f (.exit 0) [] []),(λ_=>f .ret [(4,vB true)] []))
theorem jiK:CN 0 26 Tryz.f157 jdj:=lK Zas [] oN ([],[]) [(0,[],[])] ([4],[]) λ_ _ _ _ _=>by kernel_rfl
def j8b (l:qL) (s:qB) (b:Bool->Res):Res:=jen s l (nI (List.length l)) Z1c 0 (λ_=>b false) (λ_=>b true)
def jfv:Sig Unit:=sg [.look y0 false,.look .str false] [false] [(y0,none),(.str,none)] [] λb f k=>j8b b.1 b.2.1 (λd=>k [wB d] [] [])
theorem jkI:SO 157 jfv:=fK (np:=0) Zas [jdj] (oI 26 0 @jiK oN) false Tryz.func157 λ_ _ _ _=>by kernel_rfl
def j3Y (t:qB×qE×qL) (d:qG) (b:Int->Res):Res:=j0B t d.2.2.2.2.1 λr=>bif (d.1==3) then bif inb 0 (List.length d.2.2.1) then j0B t (nth (eS,0,false,false,0,0,eS) d.2.2.1 0).1 λf=>bif decide (f>=0) then b 5 else bif ((nI (List.length t.2.1))==8) then b 6 else b 0 else none else bif (d.1==4) then bif decide (r<0) then b 7 else j8b t.2.2 d.2.2.2.2.1 λg=>bif g then b 8 else b 0 else bif (d.1==5) then j0B t d.2.2.2.2.2 λh=>bif decide (h>=0) then b 5 else bif decide (r<0) then b 7 else b 0 else b 0
def j9u:Sig Unit:=sg [.look y29 true,.look y13 true] [false] [(y29,none),(y13,none)] [] λb f k=>j3Y b.1 b.2.1 (λd=>k [wI d] [] [])
theorem ji9:SO 310 j9u:=fK (np:=0) (Za6 jkI (Za6 j4X Zas)) [] oN false Tryz.func310 λ_ _ _ _=>by delta j3Y j28 jfv;refine gz j0B λ_ b=>gz j8b λ_ d=> ?_;rewrite [<-b,<-d];kernel_rfl
def j4L (t:qB×qE×qL) (b:Unit->Res):Res:=Z87 (Z87 (bif lim (0+(List.length t.2.2)) then Z87 (b ()) (b ()) else none) (bif lim (0+(List.length t.2.2)) then b () else none)) (bif lim (0+(List.length t.2.2)) then b () else none)
def j0N:Z1d Unit:=Nd 92 92 [.t 2 (pB 2),.t 3 (pB 3),.t 4 (pB 4)] [(2,y29,[.S,.S]),(3,y13,[.S,.S]),(4,y29,[.O,.O])] λf b d=>j4L b.1.2 (λ_=>d .normal [(2,pB 2),(3,pB 3),(4,pB 4),(5,pB 5)] [(2,⟨y29,b.1.1,b.1.2,[.S,.S]⟩),(3,⟨y13,b.2.1.1,b.2.1.2,[.S,.S]⟩),(4,⟨y29,b.2.2.1.1,b.2.2.1.2,[.O,.O]⟩),(5,⟨y29,false,(b.1.2.1,[],b.1.2.2.2),[.O,.O]⟩)])
theorem jgf:CN 0 6 Tryz.f311 j0N:=nK Zas [] oN ([2,3,4,5],[2,3,4,5]) [] ([],[]) λ_ _ _=>by kernel_rfl
def j4M (d:qG) (c:qB×Int×Bool×Bool×Int×Int×qB) (b:Unit->Res) (f:Unit->Res):Res:=bif (d.1==4) then bif sEq c.1 d.2.2.2.2.1 then f () else b () else b ()
def j1k:Z1d Unit:=Nd 92 92 [.t 3 (pB 3),.t 4 (pB 4),.t 5 (pB 5),.t 7 (pB 7),.R 17 y8 .S,.I 18,.I 19] [(3,y13,[.S,.S]),(4,y29,[.O,.O]),(5,y29,[.O,.O]),(7,y7,[])] λd b f=>j4M b.1.2 b.2.2.2.1.2 (λ_=>f .normal [(3,pB 3),(4,pB 4),(5,pB 5),(7,pB 7),(17,v1 y8 d.1 .S),(18,vI d.2.1),(19,vI d.2.2.1)] [(3,⟨y13,b.1.1,b.1.2,[.S,.S]⟩),(4,⟨y29,b.2.1.1,b.2.1.2,[.O,.O]⟩),(5,⟨y29,b.2.2.1.1,b.2.2.1.2,[.O,.O]⟩),(7,⟨y7,b.2.2.2.1.1,b.2.2.2.1.2,[]⟩)]) (λ_=>f (.exit 1) [(3,pB 3),(4,pB 4),(5,pB 5),(17,v1 y8 d.1 .S),(18,vI d.2.1),(19,vI d.2.2.1),(27,.ptr ⟨true,7,[.fst]⟩),(28,vS b.2.2.2.1.2.1),(29,.ptr ⟨true,3,[.snd,.snd,.snd,.snd,.fst]⟩),(30,vS b.1.2.2.2.2.2.1),(31,vB (sEq b.2.2.2.1.2.1 b.1.2.2.2.2.2.1))] [(3,⟨y13,b.1.1,b.1.2,[.S,.S]⟩),(4,⟨y29,b.2.1.1,b.2.1.2,[.O,.O]⟩),(5,⟨y29,b.2.2.1.1,b.2.2.1.2,[.O,.O]⟩),(7,⟨y7,b.2.2.2.1.1,b.2.2.2.1.2,[]⟩)])
theorem jgg:CN 0 7474 Tryz.f311 j1k:=nK Zas [j0N] oN ([3,4,5,7,17,18,19],[3,4,5,7]) [(1,[3,4,5,17,18,19,27,28,29,30,31],[3,4,5,7])] ([],[]) λ_ _ _=>by kernel_rfl
def j4N (d:qG) (c:qB×Int×Bool×Bool×Int×Int×qB) (b:qC->Res):Res:=bif (d.1==5) then bif sEq c.1 d.2.2.2.2.1 then b (d.2.2.2.2.2,c.2) else b c else b c
def j2c:Z1d Unit:=Nd 92 92 [.t 3 (pB 3),.t 4 (pB 4),.t 5 (pB 5),.t 7 (pB 7),.R 17 y8 .S,.I 18,.I 19] [(3,y13,[.S,.S]),(4,y29,[.O,.O]),(5,y29,[.O,.O]),(7,y7,[])] λd b f=>j4N b.1.2 b.2.2.2.1.2 (λc1=>f .normal [(3,pB 3),(4,pB 4),(5,pB 5),(7,pB 7),(17,v1 y8 d.1 .S),(18,vI d.2.1),(19,vI d.2.2.1)] [(3,⟨y13,b.1.1,b.1.2,[.S,.S]⟩),(4,⟨y29,b.2.1.1,b.2.1.2,[.O,.O]⟩),(5,⟨y29,b.2.2.1.1,b.2.2.1.2,[.O,.O]⟩),(7,⟨y7,b.2.2.2.1.1,c1,[]⟩)])
theorem jgh:CN 0 14950 Tryz.f311 j2c:=nK Zas [j0N,j1k] oN ([3,4,5,7,17,18,19],[3,4,5,7]) [] ([],[]) λ_ _ _=>by kernel_rfl
def j0Y (g:List qC) (h:Int) (d:qG) (f:Int) (b:qB×qE×qL) (rec:Int->qT->Res) (i:qT->Res):Res:=bif decide (f<h) then bif inb f (List.length g) then j4M d (nth (eS,0,false,false,0,0,eS) g f) (λ_=>j4N d (nth (eS,0,false,false,0,0,eS) g f) λc=>bif lim ((List.length b.2.1)+1) then rec (Z9K (f+1)) (b.1,(b.2.1++[c]),b.2.2) else none) (λ_=>rec (Z9K (f+1)) b) else none else i b
def j1O (f:List qC) (g:Int) (d:qG):(Int×qT)->(Int×qT->Res)->((qT->Res))->Res:=λv rec q=>j0Y f g d v.1 v.2 (λh b=>rec (h,b)) q
def j4J (f:List qC) (g:Int) (d:qG) (n:Nat) (h:Int) (b:qB×qE×qL) (i:qT->Res):Res:=Z1f (j1O f g d) n (h,b) (i)
def j4u:Z1d Unit:=NdL 92 92 [.t 3 (pB 3),.t 4 (pB 4),.t 5 (pB 5),.R 17 y8 .S,.I 18,.I 19] [(3,y13,[.S,.S]),(4,y29,[.O,.O]),(5,y29,[.O,.O])] (λd b=>(d.2.2.1,b.2.2.1.2)) (λd v=>(d.1,d.2.1,v.1,())) (λb v=>((b.1.1,b.1.2),(b.2.1.1,b.2.1.2),(b.2.2.1.1,v.2),())) (λd b=>j1O d.1 d.2.1 b.1.2) λd b g=>((λf=>g (.exit 0) [(3,pB 3),(4,pB 4),(5,pB 5)] [(3,⟨y13,b.1.1,b.1.2,[.S,.S]⟩),(4,⟨y29,b.2.1.1,b.2.1.2,[.O,.O]⟩),(5,⟨y29,b.2.2.1.1,f,[.O,.O]⟩)]))
theorem jgd:CN 0 58 Tryz.f311 j4u:=lK Zas [j0N,j1k,j2c] (oI 114 1 @jgg (oI 230 2 @jgh oN)) ([],[]) [(0,[3,4,5],[3,4,5])] ([],[]) λ_ _ _ _ _=>by delta j1O j0Y j1k j2c;refine gz j4M λ_ b=>gz j4N λ_ d=> ?_;rewrite [<-b,<-d];kernel_rfl
def j0h (g:Int) (d:qG) (f:Int) (b:qB×qE×qL) (rec:Int->qT->Res) (h:qT->Res):Res:=bif decide (f<g) then bif (d.1==5) then bif inb f (List.length b.2.2) then bif sEq (nth eS b.2.2 f) d.2.2.2.2.1 then bif inb f (List.length b.2.2) then rec (Z9K (f+1)) (b.1,b.2.1,upd b.2.2 f d.2.2.2.2.2) else none else rec (Z9K (f+1)) b else none else rec (Z9K (f+1)) b else h b
def j3R (f:Int) (d:qG):(Int×qT)->(Int×qT->Res)->((qT->Res))->Res:=λv rec q=>j0h f d v.1 v.2 (λg b=>rec (g,b)) q
def j4K (f:Int) (d:qG) (n:Nat) (g:Int) (b:qB×qE×qL) (h:qT->Res):Res:=Z1f (j3R f d) n (g,b) (h)
def j7e:Z1d Unit:=NdL 92 92 [.t 3 (pB 3),.t 4 (pB 4),.t 5 (pB 5),.I 55,.I 56] [(3,y13,[.S,.S]),(4,y29,[.O,.O]),(5,y29,[.O,.O])] (λd b=>(d.2.1,b.2.2.1.2)) (λd v=>(d.1,v.1,())) (λb v=>((b.1.1,b.1.2),(b.2.1.1,b.2.1.2),(b.2.2.1.1,v.2),())) (λd b=>j3R d.1 b.1.2) λd b g=>((λf=>g (.exit 2) [(3,pB 3),(4,pB 4),(5,pB 5)] [(3,⟨y13,b.1.1,b.1.2,[.S,.S]⟩),(4,⟨y29,b.2.1.1,b.2.1.2,[.O,.O]⟩),(5,⟨y29,b.2.2.1.1,f,[.O,.O]⟩)]))
theorem jge:CN 0 122 Tryz.f311 j7e:=lK Zas [j0N,j1k,j2c,j4u] oN ([],[]) [(2,[3,4,5],[3,4,5])] ([],[]) λ_ _ _ _ _=>by kernel_rfl
def j37 (t:qB×qE×qL) (d:qG) (g:qT->Res):Res:=j4L t λ_=>j4J t.2.1 (nI (List.length t.2.1)) d Z1c 0 (t.1,[],t.2.2) λf=>j4K (nI (List.length f.2.2)) d Z1c 0 f λb=>bif (d.1==3) then bif inb 0 (List.length d.2.2.1) then bif lim ((List.length b.2.1)+1) then g (b.1,(b.2.1++[nth (eS,0,false,false,0,0,eS) d.2.2.1 0]),b.2.2) else none else none else g b
def j8z:Sig Unit:=sg [.borrow y29 true,.borrow y13 true] [true] [(y29,none),(y13,none)] [] λb f k=>j37 b.1 b.2.1 (λd=>k [⟨y29,true,d,[.O,.O]⟩] [] [])
theorem jhk:SO 311 j8z:=fK (np:=0) Zas [j0N,j1k,j2c,j4u,j7e] (oI 6 0 @jgf (oI 58 3 @jgd (oI 122 4 @jge oN))) false Tryz.func311 λ_ _ _ _=>by delta j37 j0N j4u j7e j4J j4K;refine gz j4L λ_ b=>gz j1O λ_ d=>gz j3R λ_ f=> ?_;rewrite [<-b,<-d,<-f];kernel_rfl
theorem j95:FS [(113,j3v),(210,j3u),(242,j72),(243,j5n),(286,j9v),(309,jbb),(310,j9u),(311,j8z)]:=(Za6 jbZ (Za6 jbW (Za6 jfX (Za6 jdZ (Za6 j97 (Za6 jkJ (Za6 ji9 (Za6 jhk Zas))))))))
def j3w (d:qG) (b:List qT) (f:qF->Res):Res:=j3Z (d.2.1,d.2.2.1,d.2.2.2.1) λr=>j8c b r λg=>f g
def j7U:Z1d Unit:=λσ k=>rdN σ 88<|rdT σ 3 (pB 3)<|rdT σ 4 (pB 4)<|rdT σ 7 (pB 7)<|rdB σ 3 y13 [.S,.S] λa d=>rdB σ 4 y30 [.O] λg i=>rdB σ 7 y30 [.S] λh b=>j3w d b (λf=>k .ret (mkS 88 88 [(4,pB 4),(5,vI 0)] [(4,⟨y30,g,f,[.PS]⟩)]))
def j4U:Z1d Unit:=λσ k=>j7U (σ.wk [] [(7,[.S])]) k
theorem jgP:CN 0 1003 Tryz.f287 j4U:=λi=>ZaJ [] [(7,[.S])] (jnC follows j2o j95 i [] oN ([],[]) [] ([4,5],[4]) (y:=j7U) λσ k _ h=>rN h λr h=>rT h λn h=>rT h λp h=>rT h λq h=>rB h λa d b h=>rB h λz B f h=>rB h λA w g h=>⟨_,ZaM (m:=88) r (sC n (sC p (sC q sN))) (bC b (bC f (bC g bN))),.trans (by delta j3w j9v jbb;refine gz j3Z λ_ j=>gz j8c λ_ l=> ?_;rewrite [<-j,<-l];kernel_rfl) h⟩)
def j5U (d:Int) (b:List qT) (f:Unit->Res):Res:=bif Z8e 0 d (List.length b) then bif Z8e (Z9K (d+1)) (nI (List.length b)) (List.length b) then bif lim (0+(List.length (sub b 0 d))) then bif lim ((List.length (sub b 0 d))+(List.length (sub b (Z9K (d+1)) (nI (List.length b))))) then f () else none else none else none else none
def j7V:Z1d Unit:=λσ k=>rdN σ 88<|rdT σ 4 (pB 4)<|rdI σ 6 λd=>rdT σ 7 (pB 7)<|rdB σ 4 y30 [.O] λa g=>rdB σ 7 y30 [.S] λf b=>j5U d b (λ_=>k .ret (mkS 88 88 [(4,pB 4),(5,vI 0)] [(4,⟨y30,a,((sub b 0 d)++(sub b (Z9K (d+1)) (nI (List.length b)))),[.PS]⟩)]))
def j7X:Z1d Unit:=λσ k=>j7V (σ.wk [] [(7,[.S])]) k
theorem jgQ:CN 0 4090 Tryz.f287 j7X:=λf=>ZaJ [] [(7,[.S])] (jnC follows j2o j95 f [j4U] oN ([],[]) [] ([4,5],[4]) (y:=j7V) λσ k _ h=>rN h λn h=>rT h λi h=>rV h λg j h=>rT h λl h=>rB h λa r b h=>rB h λq p d h=>⟨_,ZaM (m:=88) n (sC i (sC j (sC l sN))) (bC b (bC d bN)),.trans (by kernel_rfl) h⟩)
def j1G (c:List qT) (d:qG) (f:qF->Int->Res):Res:=j5T c λr=>bif !r then f [] 1 else j20 d λi=>bif !i then f [] 1 else j22 c d.2.1 λb=>j3A c λg=>bif (d.1==1) then bif decide (b>=0) then f [] 2 else bif ((nI (List.length c))==6) then f [] 3 else j3w d g λt=>f t 0 else bif decide (b<0) then f [] 4 else bif inb b (List.length c) then j3Y (nth (eS,[],[]) c b) d λh=>bif (h != 0) then f [] h else bif (d.1==2) then j5U b g λ_=>f ((sub g 0 b)++(sub g (Z9K (b+1)) (nI (List.length g)))) 0 else bif inb b (List.length c) then j37 (nth (eS,[],[]) c b) d λj=>bif inb b (List.length g) then f (upd g b j) 0 else none else none else none
def j4h:Sig Unit:=sg [.borrow y30 true,.borrow y13 true] [true,false] [(y30,none),(y13,none)] [] λb g k=>j1G b.1 b.2.1 (λd f=>k [⟨y30,true,d,[.S]⟩,wI f] [] [])
theorem jcK:SO 287 j4h:=fK (np:=0) j95 [j4U,j7X] (oI 1003 0 @jgP (oI 4090 1 @jgQ oN)) true Tryz.func287 λ_ _ _ _=>by delta j1G j72 j3u j3v j5n j4U j9u j7X j8z;delta j7U j7V;refine gz j5T λ_ b=>gz j20 λ_ d=>gz j22 λ_ f=>gz j3A λ_ g=>gz j3w λ_ h=>gz j3Y λ_ i=>gz j5U λ_ j=>gz j37 λ_ k=> ?_;rewrite [<-b,<-d,<-f,<-g,<-h,<-i,<-j,<-k];kernel_rfl
def j32 (l:qL) (b:qL->Res):Res:=bif lim (0+(List.length l)) then b l else none
def ji4:Sig Unit:=sg [.borrow y0 false] [false] [(y0,none)] [] λd f k=>j32 d.1 (λb=>k [w1 y0 b .O] [] [])
theorem jbO:SO 217 ji4:=fK (np:=0) Zas [] oN false Tryz.func217 λ_ _ _ _=>by kernel_rfl
def j31 (t:qB×qE×qL) (b:qT->Res):Res:=bif lim (0+(List.length t.2.1)) then j32 t.2.2 λr=>b (t.1,t.2.1,r) else none
def ji3:Sig Unit:=sg [.borrow y29 true] [true] [(y29,none)] [] λd f k=>j31 d.1 (λb=>k [⟨y29,true,b,[.O,.O]⟩] [] [])
theorem j8o:SO 283 ji3:=fK (np:=0) (Za6 jbO Zas) [] oN false Tryz.func283 λ_ _ _ _=>by kernel_rfl
def j2q (d:qG) (b:qT->Res):Res:=j31 (d.2.1,d.2.2.1,d.2.2.2.1) λr=>b r
def j6A:Sig Unit:=sg [.borrow y13 true] [true] [(y13,none)] [] λd f k=>j2q d.1 (λb=>k [⟨y29,true,b,[.O,.O]⟩] [] [])
theorem jcH:SO 269 j6A:=fK (np:=0) (Za6 j8o Zas) [] oN false Tryz.func269 λ_ _ _ _=>by kernel_rfl
def j46 (c:qB×Int×Bool×Bool×Int×Int×qB) (b:Bool->Res):Res:=j0p c.1 λr=>bif !r then b false else j0a c.2.1 1 3 λd=>bif !d then b false else j0U c.2.2.2.2 λf=>bif !f then b false else bif !c.2.2.2.1 then b ((c.2.2.2.2.1==0)&&((c.2.2.2.2.2.1==0)&&(sEq c.2.2.2.2.2.2 eS))) else bif (c.2.2.2.2.1==c.2.1) then b true else bif (c.2.2.2.2.1==0) then b (!c.2.2.1) else b false
def j9p:Sig Unit:=sg [.look y7 true] [false] [(y7,none)] [] λd f k=>j46 d.1 (λb=>k [wB b] [] [])
theorem jfN:SO 270 j9p:=fK (np:=0) (Za6 j8e (Za6 j1E (Za6 j6O Zas))) [] oN false Tryz.func270 λ_ _ _ _=>by delta j46 j2r j0Q j71;refine gz j0p λ_ b=>gz j0a λ_ d=>gz j0U λ_ f=> ?_;rewrite [<-b,<-d,<-f];kernel_rfl
def jdw (c:qB×Int×Bool×Bool×Int×Int×qB) (d:qB) (b:Bool->Res):Res:=b (sEq c.1 d)
def jl4:Sig Unit:=sg [.look y7 true,.rptr .str] [false] [(y7,none),(.str,none)] [] λb f k=>jdw b.1 b.2.1 (λd=>k [wB d] [] [])
theorem jf5:SO 308 jl4:=fK (np:=0) Zas [] oN false Tryz.func308 λ_ _ _ _=>by kernel_rfl
def j0J (s:List qC) (f:qB) (h:Int) (b:Int) (rec:Int->Res) (d:Unit->Res) (g:Int->Res):Res:=bif decide (b<h) then bif inb b (List.length s) then jdw (nth (eS,0,false,false,0,0,eS) s b) f λr=>bif r then g b else rec (Z9K (b+1)) else none else d ()
def j2U (s:List qC) (f:qB) (b:Int):Int->(Int->Res)->((Unit->Res)×(Int->Res))->Res:=λv rec q=>j0J s f b v (λd=>rec (d)) q.1 q.2
def j7D (s:List qC) (f:qB) (g:Int) (n:Nat) (h:Int) (b:Unit->Res) (d:Int->Res):Res:=Z1f (j2U s f g) n (h) (b,d)
def j7b:Z1d Unit:=NdL 19 19 [.R 0 y8 .S,.c 1 308 [.str] .str [],.I 7,.I 8] [] (λb d=>(b.2.2.2.1)) (λb v=>(b.1,b.2.1,b.2.2.1,v,())) (λd v=>()) (λb d=>j2U b.1 b.2.1 b.2.2.1) λb d f=>((λ_=>f (.exit 0) [] []),(λg=>f .ret [(4,vI g)] []))
theorem jce:CN 0 26 Tryz.f307 j7b:=lK (Za6 jf5 Zas) [] oN ([],[]) [(0,[],[])] ([4],[]) λ_ _ _ _ _=>by kernel_rfl
def j5P (s:List qC) (f:qB) (b:Int->Res):Res:=j7D s f (nI (List.length s)) Z1c 0 (λ_=>b (-1)) (λt=>b t)
def jdB:Sig Unit:=sg [.look y8 false,.rclos 308 [.str]] [false] [(y8,none),(.str,none)] [] λb f k=>j5P b.1 b.2.1 (λd=>k [wI d] [] [])
theorem jdp:SO 307 jdB:=fK (np:=0) (Za6 jf5 Zas) [j7b] (oI 26 0 @jce oN) false Tryz.func307 λ_ _ _ _=>by kernel_rfl
def j0f (t:qB×qE×qL) (name:qB) (b:Int->Res):Res:=j5P t.2.1 name λr=>b r
def j0D:Sig Unit:=sg [.look y29 true,.look .str false] [false] [(y29,none),(.str,none)] [] λb f k=>j0f b.1 b.2.1 (λd=>k [wI d] [] [])
theorem j3a:SO 284 j0D:=fK (np:=0) (Za6 jdp Zas) [] oN false Tryz.func284 λ_ _ _ _=>by kernel_rfl
theorem ja6:FS [(160,j2r),(163,j0Q),(270,j9p),(284,j0D)]:=(Za6 j8e (Za6 j1E (Za6 jfN (Za6 j3a Zas))))
def j1z (d:List qC) (f:Int) (t:qB×qE×qL) (b:Int) (rec:Int->Res) (h:Unit->Res) (g:Unit->Res):Res:=bif decide (b<f) then bif inb b (List.length d) then j46 (nth (eS,0,false,false,0,0,eS) d b) λr=>bif !r then g () else j0f t (nth (eS,0,false,false,0,0,eS) d b).1 λi=>bif (i != b) then g () else rec (Z9K (b+1)) else none else h ()
def j2z (b:List qC) (d:Int) (t:qB×qE×qL):Int->(Int->Res)->((Unit->Res)×(Unit->Res))->Res:=λv rec q=>j1z b d t v (λf=>rec (f)) q.1 q.2
def j6x (b:List qC) (d:Int) (t:qB×qE×qL) (n:Nat) (f:Int) (g:Unit->Res) (h:Unit->Res):Res:=Z1f (j2z b d t) n (f) (g,h)
def j5Z:Z1d Unit:=NdL 68 68 [.t 1 (pB 1),.R 10 y8 .S,.I 11,.I 12] [(1,y29,[.S,.S])] (λb d=>(b.2.2.1)) (λb v=>(b.1,b.2.1,v,())) (λd v=>((d.1.1,d.1.2),())) (λb d=>j2z b.1 b.2.1 d.1.2) λb d f=>((λ_=>f (.exit 0) [(1,pB 1)] [(1,⟨y29,d.1.1,d.1.2,[.S,.S]⟩)]),(λ_=>f .ret [(2,vB false)] []))
theorem jhA:CN 0 26 Tryz.f268 j5Z:=lK ja6 [] oN ([],[]) [(0,[1],[1])] ([2],[]) λ_ _ _ _ _=>by delta j2z j1z j9p j0D;refine gz j46 λ_ b=>gz j0f λ_ d=> ?_;rewrite [<-b,<-d];kernel_rfl
def j2A (f:qL) (g:Int) (t:qB×qE×qL) (d:Int) (b:Int) (rec:Int->Int->Res) (i:Unit->Res) (h:Unit->Res):Res:=bif decide (b<g) then bif inb b (List.length f) then j0f t (nth eS f b) λr=>bif decide (r<=d) then h () else bif inb r (List.length t.2.1) then bif !(nth (eS,0,false,false,0,0,eS) t.2.1 r).2.2.1 then h () else rec r (Z9K (b+1)) else none else none else i ()
def j4D (d:qL) (f:Int) (t:qB×qE×qL):(Int×Int)->(Int×Int->Res)->((Unit->Res)×(Unit->Res))->Res:=λv rec q=>j2A d f t v.1 v.2 (λb g=>rec (b,g)) q.1 q.2
def j6y (d:qL) (f:Int) (t:qB×qE×qL) (n:Nat) (b:Int) (g:Int) (h:Unit->Res) (i:Unit->Res):Res:=Z1f (j4D d f t) n (b,g) (h,i)
def j8M:Z1d Unit:=NdL 68 68 [.t 1 (pB 1),.I 5,.R 30 y0 .S,.I 31,.I 32] [(1,y29,[.S,.S])] (λb d=>(b.1,b.2.2.2.1)) (λb v=>(v.1,b.2.1,b.2.2.1,v.2,())) (λd v=>((d.1.1,d.1.2),())) (λb d=>j4D b.2.1 b.2.2.1 d.1.2) λb d f=>((λ_=>f (.exit 2) [(1,pB 1)] [(1,⟨y29,d.1.1,d.1.2,[.S,.S]⟩)]),(λ_=>f .ret [(2,vB false)] []))
theorem jhB:CN 0 122 Tryz.f268 j8M:=lK ja6 [j5Z] oN ([],[]) [(2,[1],[1])] ([2],[]) λ_ _ _ _ _=>by kernel_rfl
def j0C (t:qB×qE×qL) (b:Bool->Res):Res:=j6x t.2.1 (nI (List.length t.2.1)) t Z1c 0 (λ_=>j6y t.2.2 (nI (List.length t.2.2)) t Z1c (-1) 0 (λ_=>j0p t.1 λr=>bif r then j0a (nI (List.length t.2.1)) 1 8 λd=>bif d then b (decide ((nI (List.length t.2.2))>0)) else b false else b false) (λ_=>b false)) (λ_=>b false)
def j35:Sig Unit:=sg [.look y29 true] [false] [(y29,none)] [] λd f k=>j0C d.1 (λb=>k [wB b] [] [])
theorem j4W:SO 268 j35:=fK (np:=0) ja6 [j5Z,j8M] (oI 26 0 @jhA (oI 122 1 @jhB oN)) false Tryz.func268 λ_ _ _ _=>by delta j0C j5Z j8M j2r j0Q j6x j6y;refine gz j2z λ_ b=>gz j4D λ_ d=>gz j0p λ_ f=>gz j0a λ_ g=> ?_;rewrite [<-b,<-d,<-f,<-g];kernel_rfl
def j0e (a:qG) (b:qG) (d:Bool->Res):Res:=bif (a.1==b.1) then bif sEq a.2.1 b.2.1 then j1b a.2.2.1 b.2.2.1 λr=>bif r then j1N a.2.2.2.1 b.2.2.2.1 λf=>bif f then bif sEq a.2.2.2.2.1 b.2.2.2.2.1 then d (sEq a.2.2.2.2.2 b.2.2.2.2.2) else d false else d false else d false else d false else d false
def j6C:Sig Unit:=sg [.look y13 true,.look y13 true] [false] [(y13,none),(y13,none)] [] λb f k=>j0e b.1 b.2.1 (λd=>k [wB d] [] [])
theorem j96:SO 212 j6C:=fK (np:=0) (Za6 jfV (Za6 jdV Zas)) [] oN false Tryz.func212 λ_ _ _ _=>by delta j0e jaU j92;refine gz j1b λ_ b=>gz j1N λ_ d=> ?_;rewrite [<-b,<-d];kernel_rfl
def j1Y (d:qG) (b:Bool->Res):Res:=j0p d.2.1 λr=>bif !r then b false else bif (d.1==1) then j2q d λg=>j0C g λh=>bif h then bif sEq d.2.2.2.2.1 eS then b (sEq d.2.2.2.2.2 eS) else b false else b false else bif (d.1==2) then j0e d (d.1,d.2.1,[],[],eS,eS) λi=>b i else bif (d.1==3) then j0e d (d.1,d.2.1,d.2.2.1,[],eS,eS) λj=>bif j then bif ((nI (List.length d.2.2.1))==1) then bif inb 0 (List.length d.2.2.1) then j46 (nth (eS,0,false,false,0,0,eS) d.2.2.1 0) λk=>bif k then bif inb 0 (List.length d.2.2.1) then bif (nth (eS,0,false,false,0,0,eS) d.2.2.1 0).2.2.2.1 then b true else bif inb 0 (List.length d.2.2.1) then b (!(nth (eS,0,false,false,0,0,eS) d.2.2.1 0).2.2.1) else none else none else b false else none else b false else b false else bif (d.1==4) then j0e d (d.1,d.2.1,[],[],d.2.2.2.2.1,eS) λl=>bif l then j0p d.2.2.2.2.1 λm=>b m else b false else bif (d.1==5) then j0e d (d.1,d.2.1,[],[],d.2.2.2.2.1,d.2.2.2.2.2) λn=>bif n then j0p d.2.2.2.2.1 λp=>bif p then j0p d.2.2.2.2.2 λf=>b f else b false else b false else b false
def j3s:Sig Unit:=sg [.look y13 true] [false] [(y13,none)] [] λd f k=>j1Y d.1 (λb=>k [wB b] [] [])
theorem jbN:SO 211 j3s:=fK (np:=0) (Za6 j8e (Za6 j96 (Za6 j4W (Za6 jcH (Za6 jfN Zas))))) [] oN false Tryz.func211 λ_ _ _ _=>by delta j1Y j2r j6A j35 j6C j9p;refine gz j0p λ_ b=>gz j2q λ_ d=>gz j0C λ_ f=>gz j0e λ_ g=>gz j46 λ_ h=> ?_;rewrite [<-b,<-d,<-f,<-g,<-h];kernel_rfl
def j9c (d:qG) (b:qG->Res):Res:=bif lim (0+(List.length d.2.2.1)) then j32 d.2.2.2.1 λr=>b (d.1,d.2.1,d.2.2.1,r,d.2.2.2.2) else none
def jeh:Sig Unit:=sg [.borrow y13 true] [true] [(y13,none)] [] λd f k=>j9c d.1 (λb=>k [⟨y13,true,b,[.O,.O]⟩] [] [])
theorem jj9:SO 275 jeh:=fK (np:=0) (Za6 jbO Zas) [] oN false Tryz.func275 λ_ _ _ _=>by kernel_rfl
def j45 (d:List qT) (h:Int) (c:List qT) (b:Int) (rec:Int->Res) (g:Unit->Res) (f:Unit->Res):Res:=bif decide (b<h) then bif inb b (List.length d) then j0C (nth (eS,[],[]) d b) λr=>bif !r then f () else bif decide (b>0) then bif inb (Z9K (b-1)) (List.length c) then bif sGe (nth (eS,[],[]) c (Z9K (b-1))).1 (nth (eS,[],[]) d b).1 then f () else rec (Z9K (b+1)) else none else rec (Z9K (b+1)) else none else g ()
def j99 (b:List qT) (d:Int) (c:List qT):Int->(Int->Res)->((Unit->Res)×(Unit->Res))->Res:=λv rec q=>j45 b d c v (λf=>rec (f)) q.1 q.2
def jb3 (f:List qT) (g:Int) (c:List qT) (n:Nat) (h:Int) (b:Unit->Res) (d:Unit->Res):Res:=Z1f (j99 f g c) n (h) (b,d)
def jeu:Z1d Unit:=NdL 37 37 [.t 1 (pB 1),.R 6 y30 .S,.I 7,.I 8] [(1,y30,[.S])] (λb d=>(b.2.2.1)) (λb v=>(b.1,b.2.1,v,())) (λd v=>((d.1.1,d.1.2),())) (λb d=>j99 b.1 b.2.1 d.1.2) λb d f=>((λ_=>f (.exit 0) [(1,pB 1)] [(1,⟨y30,d.1.1,d.1.2,[.S]⟩)]),(λ_=>f .ret [(2,vB false)] []))
theorem jjt:CN 0 26 Tryz.f250 jeu:=lK (Za6 j4W Zas) [] oN ([],[]) [(0,[1],[1])] ([2],[]) λ_ _ _ _ _=>by kernel_rfl
def j5K (c:List qT) (b:Bool->Res):Res:=jb3 c (nI (List.length c)) c Z1c 0 (λ_=>b (decide ((nI (List.length c))<=6))) (λ_=>b false)
def j70:Sig Unit:=sg [.look y30 true] [false] [(y30,none)] [] λd f k=>j5K d.1 (λb=>k [wB b] [] [])
theorem jfM:SO 250 j70:=fK (np:=0) (Za6 j4W Zas) [jeu] (oI 26 0 @jjt oN) false Tryz.func250 λ_ _ _ _=>by kernel_rfl
def j2B (f:List qT) (h:Int) (b:Int) (d:List qT) (rec:Int->qF->Res) (g:qF->Res):Res:=bif decide (b<h) then bif inb b (List.length f) then j31 (nth (eS,[],[]) f b) λr=>bif lim ((List.length d)+1) then rec (Z9K (b+1)) (d++[r]) else none else none else g d
def j7K (f:List qT) (g:Int):(Int×qF)->(Int×qF->Res)->((qF->Res))->Res:=λv rec q=>j2B f g v.1 v.2 (λd b=>rec (d,b)) q
def jcU (g:List qT) (h:Int) (n:Nat) (d:Int) (b:List qT) (f:qF->Res):Res:=Z1f (j7K g h) n (d,b) (f)
def jcw:Z1d Unit:=NdL 23 23 [.t 2 (pB 2),.t 3 (pB 3),.R 8 y30 .S,.I 9,.I 10] [(2,y30,[.O]),(3,y30,[.O])] (λd b=>(d.2.2.1,b.2.1.2)) (λd v=>(d.1,d.2.1,v.1,())) (λb v=>((b.1.1,b.1.2),(b.2.1.1,v.2),())) (λd b=>j7K d.1 d.2.1) λd b g=>((λf=>g (.exit 0) [(2,pB 2),(3,pB 3)] [(2,⟨y30,b.1.1,b.1.2,[.O]⟩),(3,⟨y30,b.2.1.1,f,[.O]⟩)]))
theorem jhD:CN 0 58 Tryz.f231 jcw:=lK (Za6 j8o Zas) [] oN ([],[]) [(0,[2,3],[2,3])] ([],[]) λ_ _ _ _ _=>by kernel_rfl
def j3g (c:List qT) (d:qF->Res):Res:=jcU c (nI (List.length c)) Z1c 0 [] λb=>d b
def j5e:Sig Unit:=sg [.borrow y30 true] [true] [(y30,none)] [] λd f k=>j3g d.1 (λb=>k [⟨y30,true,b,[.O]⟩] [] [])
theorem jdR:SO 231 j5e:=fK (np:=0) (Za6 j8o Zas) [jcw] (oI 58 0 @jhD oN) false Tryz.func231 λ_ _ _ _=>by kernel_rfl
def jc3 (t:qB×qE×qL) (d:qB) (b:Bool->Res):Res:=b (sEq t.1 d)
def jjL:Sig Unit:=sg [.look y29 true,.rptr .str] [false] [(y29,none),(.str,none)] [] λb f k=>jc3 b.1 b.2.1 (λd=>k [wB d] [] [])
theorem jdO:SO 235 jjL:=fK (np:=0) Zas [] oN false Tryz.func235 λ_ _ _ _=>by kernel_rfl
def j0z (s:List qT) (f:qB) (h:Int) (b:Int) (rec:Int->Res) (d:Unit->Res) (g:Int->Res):Res:=bif decide (b<h) then bif inb b (List.length s) then jc3 (nth (eS,[],[]) s b) f λr=>bif r then g b else rec (Z9K (b+1)) else none else d ()
def j29 (s:List qT) (f:qB) (b:Int):Int->(Int->Res)->((Unit->Res)×(Int->Res))->Res:=λv rec q=>j0z s f b v (λd=>rec (d)) q.1 q.2
def j6E (s:List qT) (f:qB) (g:Int) (n:Nat) (h:Int) (b:Unit->Res) (d:Int->Res):Res:=Z1f (j29 s f g) n (h) (b,d)
def j6e:Z1d Unit:=NdL 19 19 [.R 0 y30 .S,.c 1 235 [.str] .str [],.I 7,.I 8] [] (λb d=>(b.2.2.2.1)) (λb v=>(b.1,b.2.1,b.2.2.1,v,())) (λd v=>()) (λb d=>j29 b.1 b.2.1 b.2.2.1) λb d f=>((λ_=>f (.exit 0) [] []),(λg=>f .ret [(4,vI g)] []))
theorem jb6:CN 0 26 Tryz.f234 j6e:=lK (Za6 jdO Zas) [] oN ([],[]) [(0,[],[])] ([4],[]) λ_ _ _ _ _=>by kernel_rfl
def j4y (s:List qT) (f:qB) (b:Int->Res):Res:=j6E s f (nI (List.length s)) Z1c 0 (λ_=>b (-1)) (λt=>b t)
def jcn:Sig Unit:=sg [.look y30 false,.rclos 235 [.str]] [false] [(y30,none),(.str,none)] [] λb f k=>j4y b.1 b.2.1 (λd=>k [wI d] [] [])
theorem jbV:SO 234 jcn:=fK (np:=0) (Za6 jdO Zas) [j6e] (oI 26 0 @jb6 oN) false Tryz.func234 λ_ _ _ _=>by kernel_rfl
def j0i (c:List qT) (name:qB) (b:Int->Res):Res:=j4y c name λr=>b r
def j0P:Sig Unit:=sg [.look y30 true,.look .str false] [false] [(y30,none),(.str,none)] [] λb f k=>j0i b.1 b.2.1 (λd=>k [wI d] [] [])
theorem j8d:SO 176 j0P:=fK (np:=0) (Za6 jbV Zas) [] oN false Tryz.func176 λ_ _ _ _=>by kernel_rfl
theorem j7h:FS [(95,j3t),(176,j0P),(284,j0D)]:=(Za6 jbU (Za6 j8d (Za6 j3a Zas)))
def j4b (d:qG) (t:qB×qE×qL) (b:Bool->Res):Res:=bif (d.1==3) then bif inb 0 (List.length d.2.2.1) then j0f t (nth (eS,0,false,false,0,0,eS) d.2.2.1 0).1 λr=>bif decide (r>=0) then b true else bif (d.1==5) then j0f t d.2.2.2.2.2 λf=>b (decide (f>=0)) else b false else none else bif (d.1==5) then j0f t d.2.2.2.2.2 λg=>b (decide (g>=0)) else b false
def j3K:Z1d Unit:=Nd 92 92 [.t 3 (pB 3),.t 6 (pB 6)] [(3,y13,[.S,.S]),(6,y29,[.S,.S])] λg b f=>j4b b.1.2 b.2.1.2 (λd=>f .normal [(3,pB 3),(6,pB 6),(29,vB d)] [(3,⟨y13,b.1.1,b.1.2,[.S,.S]⟩),(6,⟨y29,b.2.1.1,b.2.1.2,[.S,.S]⟩)])
theorem jhE:CN 0 504 Tryz.f317 j3K:=nK j7h [] oN ([3,6,29],[3,6]) [] ([],[]) λ_ _ _=>by delta j4b j0D;refine gz j0f λ_ b=> ?_;rewrite [<-b];kernel_rfl
def j6z (d:qG) (t:qB×qE×qL) (b:Bool->Res):Res:=bif (d.1==3) then b ((nI (List.length t.2.1))==8) else b false
def j60:Z1d Unit:=Nd 92 92 [.t 3 (pB 3),.t 6 (pB 6)] [(3,y13,[.S,.S]),(6,y29,[.S,.S])] λg b f=>j6z b.1.2 b.2.1.2 (λd=>f .normal [(3,pB 3),(6,pB 6),(55,vB d)] [(3,⟨y13,b.1.1,b.1.2,[.S,.S]⟩),(6,⟨y29,b.2.1.1,b.2.1.2,[.S,.S]⟩)])
theorem jhF:CN 0 2022 Tryz.f317 j60:=nK j7h [j3K] oN ([3,6,55],[3,6]) [] ([],[]) λ_ _ _=>by kernel_rfl
def j4c (d:qG) (t:qB×qE×qL) (b:Bool->Res):Res:=bif (d.1==4) then j0f t d.2.2.2.2.1 λr=>b (decide (r<0)) else bif (d.1==5) then j0f t d.2.2.2.2.1 λf=>b (decide (f<0)) else b false
def j8O:Z1d Unit:=Nd 92 92 [.t 3 (pB 3),.t 6 (pB 6)] [(3,y13,[.S,.S]),(6,y29,[.S,.S])] λg b f=>j4c b.1.2 b.2.1.2 (λd=>f .normal [(3,pB 3),(6,pB 6),(65,vB d)] [(3,⟨y13,b.1.1,b.1.2,[.S,.S]⟩),(6,⟨y29,b.2.1.1,b.2.1.2,[.S,.S]⟩)])
theorem jhG:CN 0 8094 Tryz.f317 j8O:=nK j7h [j3K,j60] oN ([3,6,65],[3,6]) [] ([],[]) λ_ _ _=>by delta j4c j0D;refine gz j0f λ_ b=> ?_;rewrite [<-b];kernel_rfl
def j27 (c:List qT) (d:qG) (b:Int->Res):Res:=j0i c d.2.1 λr=>bif (d.1==1) then bif decide (r>=0) then b 2 else bif ((nI (List.length c))==6) then b 3 else b 0 else bif decide (r<0) then b 4 else bif inb r (List.length c) then j4b d (nth (eS,[],[]) c r) λt=>bif t then b 5 else j6z d (nth (eS,[],[]) c r) λg=>bif g then b 6 else j4c d (nth (eS,[],[]) c r) λh=>bif h then b 7 else bif (d.1==4) then j14 (nth (eS,[],[]) c r).2.2 d.2.2.2.2.1 λf=>bif f then b 8 else b 0 else b 0 else none
def j5f:Sig Unit:=sg [.look y30 true,.look y13 true] [false] [(y30,none),(y13,none)] [] λb f k=>j27 b.1 b.2.1 (λd=>k [wI d] [] [])
theorem jdS:SO 317 j5f:=fK (np:=0) j7h [j3K,j60,j8O] (oI 504 0 @jhE (oI 2022 1 @jhF (oI 8094 2 @jhG oN))) false Tryz.func317 λ_ _ _ _=>by delta j27 j0P j3K j60 j8O j3t;refine gz j0i λ_ b=>gz j4b λ_ d=>gz j6z λ_ f=>gz j4c λ_ g=>gz j14 λ_ h=> ?_;rewrite [<-b,<-d,<-f,<-g,<-h];kernel_rfl
def jab (x:qB×Int×Bool×Bool×Int×Int×qB) (d:qG) (b:Bool->Res):Res:=b (sEq x.1 d.2.2.2.2.1)
def ji2:Sig Unit:=sg [.look y7 true,.rptr y13] [false] [(y7,none),(y13,none)] [] λb f k=>jab b.1 b.2.1 (λd=>k [wB d] [] [])
theorem jhg:SO 321 ji2:=fK (np:=0) Zas [] oN false Tryz.func321 λ_ _ _ _=>by kernel_rfl
def j2j (s:List qC) (b:qG) (d:qE->qG->Res):Res:=bif lim (List.length s) then dgE (λe k=>jab e b k) s [] (λr=>d r b) else none
def j3S:Sig Unit:=⟨[.eat y8 false,.clos 321 [y13]],[false],λvals ext k=>ao vals y8 [.O] λs vals=>nl vals<|ab ext y13 [.S,.S] λa0 f ext=>nl ext<|j2j s f (λd b=>k [w1 y8 d .O] [] [⟨y13,a0,b,[.S,.S]⟩])⟩
theorem jcD:Z17 Tryz.prog 320 j3S:=gS (jq7 (U:=0) (T:=280) (e:=y7) (ag:=true) (τ:=y13) (tg:=[.S,.S]) (fl:=[9,3,4,4,151]) (S:=116) (E:=213) (I:=3) (B:=4) follows j2o (by kernel_rfl) Tryz.underlying116 (by kernel_rfl) (by kernel_rfl) (by kernel_rfl) (by kernel_rfl) Tryz.isAgg280 Tryz.sizeOf280 (by kernel_rfl) (by kernel_rfl) (by kernel_rfl) Tryz.func307 (by kernel_rfl) (by kernel_rfl) (by kernel_rfl) (by kernel_rfl) jhg (by kernel_rfl) Tryz.func320 (by kernel_rfl) (by kernel_rfl) (by kernel_rfl) (by kernel_rfl)) (by kernel_rfl)
theorem j94:FS [(166,j5k),(176,j0P),(211,j3s),(231,j5e),(250,j70),(269,j6A),(284,j0D),(317,j5f),(318,j5l),(319,j5j),(320,j3S)]:=(Za6 j8V (Za6 j8d (Za6 jbN (Za6 jdR (Za6 jfM (Za6 jcH (Za6 j3a (Za6 jdS (Za6 jdW (Za6 jdU (Za6 jcD Zas)))))))))))
def j24 (d:qG) (f:List qT) (b:Int) (rec:Int->Res) (g:Int->Res):Res:=bif decide (b<(nI (List.length f))) then bif inb b (List.length f) then bif sLt (nth (eS,[],[]) f b).1 d.2.1 then rec (Z9K (b+1)) else g b else none else g b
def j47 (d:qG) (f:List qT):Int->(Int->Res)->((Int->Res))->Res:=λv rec q=>j24 d f v (λb=>rec (b)) q
def j8s (d:qG) (f:List qT) (n:Nat) (b:Int) (g:Int->Res):Res:=Z1f (j47 d f) n (b) (g)
def j4T:Z1d Unit:=NdL 146 146 [.t 3 (pB 3),.t 4 (pB 4),.t 7 (pB 7),.I 9] [(3,y13,[.S,.S]),(4,y30,[.O]),(7,y30,[.O])] (λf b=>(f.1)) (λf v=>(v,())) (λb v=>((b.1.1,b.1.2),(b.2.1.1,b.2.1.2),(b.2.2.1.1,b.2.2.1.2),())) (λf b=>j47 b.1.2 b.2.2.1.2) λf b g=>((λd=>g (.exit 1) [(3,pB 3),(4,pB 4),(7,pB 7),(9,vI d)] [(3,⟨y13,b.1.1,b.1.2,[.S,.S]⟩),(4,⟨y30,b.2.1.1,b.2.1.2,[.O]⟩),(7,⟨y30,b.2.2.1.1,b.2.2.1.2,[.O]⟩)]))
theorem jgM:CN 0 16212 Tryz.f295 j4T:=lK j94 [] oN ([],[]) [(1,[3,4,7,9],[3,4,7])] ([],[]) λ_ _ _ _ _=>by kernel_rfl
def j1a (f:Int) (h:Int) (d:qG) (b:List qT) (i:qF->Res):Res:=bif (h==1) then j8s d b Z1c 0 λj=>j2q d λr=>j3Q b j [r] λl=>i l else bif (h==2) then j3P b f (Z9K (f+1)) λm=>i m else bif (h==3) then bif inb f (List.length b) then bif inb 0 (List.length d.2.2.1) then bif lim ((List.length (nth (eS,[],[]) b f).2.1)+1) then bif inb f (List.length (upd b f ((nth (eS,[],[]) b f).1,((nth (eS,[],[]) b f).2.1++[nth (eS,0,false,false,0,0,eS) d.2.2.1 0]),(nth (eS,[],[]) b f).2.2))) then bif (Z9o (Int.toNat f) (Int.toNat f)&&true) then i (upd b f ((nth (eS,[],[]) b f).1,((nth (eS,[],[]) b f).2.1++[nth (eS,0,false,false,0,0,eS) d.2.2.1 0]),(nth (eS,[],[]) b f).2.2)) else none else none else none else none else none else bif (h==4) then bif inb f (List.length b) then j2j (nth (eS,[],[]) b f).2.1 d λn p=>bif (Z9o (Int.toNat f) (Int.toNat f)&&true) then i (upd b f ((nth (eS,[],[]) b f).1,n,(nth (eS,[],[]) b f).2.2)) else none else none else bif (h==5) then bif inb f (List.length b) then j0f (nth (eS,[],[]) b f) d.2.2.2.2.1 λg=>bif inb g (List.length (nth (eS,[],[]) b f).2.1) then j0H (nth (eS,[],[]) (upd b f ((nth (eS,[],[]) b f).1,upd (nth (eS,[],[]) b f).2.1 g (d.2.2.2.2.2,(nth (eS,0,false,false,0,0,eS) (nth (eS,[],[]) b f).2.1 g).2),(nth (eS,[],[]) b f).2.2)) f).2.2 d.2.2.2.2.1 λk=>bif decide (k>=0) then bif inb k (List.length (nth (eS,[],[]) (upd b f ((nth (eS,[],[]) b f).1,upd (nth (eS,[],[]) b f).2.1 g (d.2.2.2.2.2,(nth (eS,0,false,false,0,0,eS) (nth (eS,[],[]) b f).2.1 g).2),(nth (eS,[],[]) b f).2.2)) f).2.2) then i (upd (upd b f ((nth (eS,[],[]) b f).1,upd (nth (eS,[],[]) b f).2.1 g (d.2.2.2.2.2,(nth (eS,0,false,false,0,0,eS) (nth (eS,[],[]) b f).2.1 g).2),(nth (eS,[],[]) b f).2.2)) f ((nth (eS,[],[]) (upd b f ((nth (eS,[],[]) b f).1,upd (nth (eS,[],[]) b f).2.1 g (d.2.2.2.2.2,(nth (eS,0,false,false,0,0,eS) (nth (eS,[],[]) b f).2.1 g).2),(nth (eS,[],[]) b f).2.2)) f).1,(nth (eS,[],[]) (upd b f ((nth (eS,[],[]) b f).1,upd (nth (eS,[],[]) b f).2.1 g (d.2.2.2.2.2,(nth (eS,0,false,false,0,0,eS) (nth (eS,[],[]) b f).2.1 g).2),(nth (eS,[],[]) b f).2.2)) f).2.1,upd (nth (eS,[],[]) (upd b f ((nth (eS,[],[]) b f).1,upd (nth (eS,[],[]) b f).2.1 g (d.2.2.2.2.2,(nth (eS,0,false,false,0,0,eS) (nth (eS,[],[]) b f).2.1 g).2),(nth (eS,[],[]) b f).2.2)) f).2.2 k d.2.2.2.2.2)) else none else i (upd b f ((nth (eS,[],[]) b f).1,upd (nth (eS,[],[]) b f).2.1 g (d.2.2.2.2.2,(nth (eS,0,false,false,0,0,eS) (nth (eS,[],[]) b f).2.1 g).2),(nth (eS,[],[]) b f).2.2)) else none else none else i b
def j7W:Z1d Unit:=Nd 146 146 [.t 3 (pB 3),.t 4 (pB 4),.t 7 (pB 7),.I 8,.I 36] [(3,y13,[.S,.S]),(4,y30,[.O]),(7,y30,[.O])] λf d g=>j1a f.1 f.2.1 d.1.2 d.2.2.1.2 (λb=>g .normal [(4,pB 4),(7,pB 7)] [(4,⟨y30,d.2.1.1,d.2.1.2,[.O]⟩),(7,⟨y30,d.2.2.1.1,b,[.O]⟩)])
theorem jgN:CN 0 253 Tryz.f295 j7W:=nK j94 [j4T] (oI 84 0 @jgM oN) ([4,7],[4,7]) [] ([],[]) λ_ _ _=>by delta j1a j4T j6A j5l j5j j3S j0D j5k j8s;refine gz j47 λ_ b=>gz j2q λ_ d=>gz j3Q λ_ f=>gz j3P λ_ g=>gz j2j λ_ h=>gz j0f λ_ i=>gz j0H λ_ j=> ?_;rewrite [<-b,<-d,<-f,<-g,<-h,<-i,<-j];kernel_rfl
def j3W (c:List qT) (d:qG) (b:qF->Int->Res):Res:=j5K c λr=>bif !r then b [] 1 else j1Y d λh=>bif !h then b [] 1 else j27 c d λg=>bif (g != 0) then b [] g else j3g c λi=>j0i c d.2.1 λj=>j1a j d.1 d i λf=>b f 0
def j9q:Sig Unit:=sg [.borrow y30 true,.borrow y13 true] [true,false] [(y30,none),(y13,none)] [] λb g k=>j3W b.1 b.2.1 (λd f=>k [⟨y30,true,d,[.O]⟩,wI f] [] [])
theorem ji7:SO 295 j9q:=fK (np:=0) j94 [j4T,j7W] (oI 253 1 @jgN oN) false Tryz.func295 λ_ _ _ _=>by delta j3W j70 j3s j5f j5e j0P j7W;refine gz j5K λ_ b=>gz j1Y λ_ d=>gz j27 λ_ f=>gz j3g λ_ g=>gz j0i λ_ h=>gz j1a λ_ i=> ?_;rewrite [<-b,<-d,<-f,<-g,<-h,<-i];kernel_rfl
end
end Go.PI.G
