/-
  Program's code interpreted over typed values; printed texts; plain laws. No conditions.
-/
import Derived.Test.YtnemiodjnhfejaaGreatPTd
set_option linter.unusedVariables false
set_option maxRecDepth 100000
namespace Go.PI.G
noncomputable section
open Go Go.PI Go.Proofs
open Go.Code (pl pr)
def j4x (s:qB) (i:Int) (rec:Int->Res) (d:Unit->Res) (b:Unit->Res):Res:=bif decide (i<(nI (ByteArray.size s))) then bif inb i (ByteArray.size s) then bif decide ((bt s i)<97) then b () else bif inb i (ByteArray.size s) then bif decide ((bt s i)>122) then b () else rec (Z9K (i+1)) else none else none else d ()
def jal (s:qB):Int->(Int->Res)->((Unit->Res)×(Unit->Res))->Res:=λv rec q=>j4x s v (λi=>rec (i)) q.1 q.2
def jgX (s:qB) (n:Nat) (i:Int) (b:Unit->Res) (d:Unit->Res):Res:=Z1f (jal s) n (i) (b,d)
def jfO:Z1d Unit:=NdL 28 28 [.S 0,.I 3] [] (λb d=>(b.2.1)) (λb v=>(b.1,v,())) (λd v=>()) (λb d=>jal b.1) λb d f=>((λ_=>f (.exit 0) [(0,vS b.1)] []),(λ_=>f .ret [(2,vB false)] []))
theorem jlZ:CN 0 26 Tryz.f154 jfO:=lK Zas [] oN ([],[]) [(0,[0],[])] ([2],[]) λ_ _ _ _ _=>by kernel_rfl
def j0K (s:qB) (b:Bool->Res):Res:=jgX s Z1c 0 (λ_=>bif decide ((nI (ByteArray.size s))>=1) then b (decide ((nI (ByteArray.size s))<=8)) else b false) (λ_=>b false)
def j38:Sig Unit:=sg [.look .str false] [false] [(.str,none)] [] λd f k=>j0K d.1 (λb=>k [wB b] [] [])
theorem j9M:SO 154 j38:=fK (np:=0) Zas [jfO] (oI 26 0 @jlZ oN) false Tryz.func154 λ_ _ _ _=>by kernel_rfl
def jgf (d:Int) (b:Bool->Res):Res:=bif decide (d>=(-1099511627775)) then b (decide (d<=1099511627775)) else b false
def joA:Sig Unit:=sg [.look tI false] [false] [(tI,none)] [] λd f k=>jgf d.1 (λb=>k [wB b] [] [])
theorem jnZ:SO 180 joA:=fK (np:=0) Zas [] oN false Tryz.func180 λ_ _ _ _=>by kernel_rfl
def j1u (b:Int×Int×qB) (d:Bool->Res):Res:=bif (b.1==0) then bif (b.2.1==0) then d (sEq b.2.2 eS) else d false else bif (b.1==1) then bif (b.2.1==0) then d (sEq b.2.2 eS) else bif (b.2.1==1) then d (sEq b.2.2 eS) else d false else bif (b.1==2) then jgf b.2.1 λr=>bif r then d (sEq b.2.2 eS) else d false else bif (b.1==3) then bif (b.2.1==0) then d (decide ((nI (ByteArray.size b.2.2))<=30)) else d false else d false
def jbn:Sig Unit:=sg [.look y2 true] [false] [(y2,none)] [] λd f k=>j1u d.1 (λb=>k [wB b] [] [])
theorem j8f:SO 266 jbn:=fK (np:=0) (Za6 jnZ Zas) [] oN false Tryz.func266 λ_ _ _ _=>by kernel_rfl
def j8D (a:Int×Int×qB) (b:Int×Int×qB) (d:Bool->Res):Res:=j1u a λr=>bif !r then d false else j1u b λf=>bif !f then d false else bif (a.1 != b.1) then d (decide (a.1<b.1)) else bif decide (a.2.1<b.2.1) then d true else bif (a.2.1==b.2.1) then d (sLt a.2.2 b.2.2) else d false
def jn7:Sig Unit:=sg [.look y2 true,.look y2 true] [false] [(y2,none),(y2,none)] [] λb f k=>j8D b.1 b.2.1 (λd=>k [wB d] [] [])
theorem jgx:SO 282 jn7:=fK (np:=0) (Za6 j8f Zas) [] oN false Tryz.func282 λ_ _ _ _=>by delta j8D jbn;refine gz j1u λ_ b=> ?_;rewrite [<-b];kernel_rfl
def j0i (x:Int) (f:Int) (d:Int) (b:Bool->Res):Res:=bif decide (x>=f) then b (decide (x<=d)) else b false
def j26:Sig Unit:=sg [.look tI false,.look tI false,.look tI false] [false] [(tI,none),(tI,none),(tI,none)] [] λb f k=>j0i b.1 b.2.1 b.2.2.1 (λd=>k [wB d] [] [])
theorem j33:SO 163 j26:=fK (np:=0) Zas [] oN false Tryz.func163 λ_ _ _ _=>by kernel_rfl
def j42 (s:qB) (i:Int) (rec:Int->Res) (d:Unit->Res) (b:Unit->Res):Res:=bif decide (i<(nI (ByteArray.size s))) then bif inb i (ByteArray.size s) then bif decide ((bt s i)<97) then b () else bif inb i (ByteArray.size s) then bif decide ((bt s i)>122) then b () else rec (Z9K (i+1)) else none else none else d ()
def j74 (s:qB):Int->(Int->Res)->((Unit->Res)×(Unit->Res))->Res:=λv rec q=>j42 s v (λi=>rec (i)) q.1 q.2
def jc6 (s:qB) (n:Nat) (i:Int) (b:Unit->Res) (d:Unit->Res):Res:=Z1f (j74 s) n (i) (b,d)
def jbD:Z1d Unit:=NdL 23 23 [.S 0,.I 3] [] (λb d=>(b.2.1)) (λb v=>(b.1,v,())) (λd v=>()) (λb d=>j74 b.1) λb d f=>((λ_=>f (.exit 0) [(0,vS b.1)] []),(λ_=>f .ret [(2,vB false)] []))
theorem jlF:CN 0 26 Tryz.f160 jbD:=lK (Za6 j33 Zas) [] oN ([],[]) [(0,[0],[])] ([2],[]) λ_ _ _ _ _=>by kernel_rfl
def j0C (s:qB) (b:Bool->Res):Res:=jc6 s Z1c 0 (λ_=>j0i (nI (ByteArray.size s)) 1 8 λr=>b r) (λ_=>b false)
def j36:Sig Unit:=sg [.look .str false] [false] [(.str,none)] [] λd f k=>j0C d.1 (λb=>k [wB b] [] [])
theorem j9L:SO 160 j36:=fK (np:=0) (Za6 j33 Zas) [jbD] (oI 26 0 @jlF oN) false Tryz.func160 λ_ _ _ _=>by delta j0C jbD j26 jc6;refine gz j74 λ_ b=>gz j0i λ_ d=> ?_;rewrite [<-b,<-d];kernel_rfl
def j1d (b:Int×Int×qB) (d:Bool->Res):Res:=bif (b.1==0) then d ((b.1==0)&&((b.2.1==0)&&(sEq b.2.2 eS))) else bif (b.1==1) then j0i b.2.1 0 1 λr=>bif r then d (sEq b.2.2 eS) else d false else bif (b.1==2) then j0i b.2.1 (-1099511627775) 1099511627775 λf=>bif f then d (sEq b.2.2 eS) else d false else bif (b.1==3) then bif (b.2.1==0) then d (decide ((nI (ByteArray.size b.2.2))<=30)) else d false else d false
def j8s:Sig Unit:=sg [.look y2 true] [false] [(y2,none)] [] λd f k=>j1d d.1 (λb=>k [wB b] [] [])
theorem j8c:SO 273 j8s:=fK (np:=0) (Za6 j33 Zas) [] oN false Tryz.func273 λ_ _ _ _=>by delta j1d j26;refine gz j0i λ_ b=> ?_;rewrite [<-b];kernel_rfl
def j8j (a:Int×Int×qB) (b:Int×Int×qB) (d:Bool->Res):Res:=j1d a λr=>bif !r then d false else j1d b λf=>bif !f then d false else bif (a.1 != b.1) then d (decide (a.1<b.1)) else bif (a.2.1 != b.2.1) then d (decide (a.2.1<b.2.1)) else d (sLt a.2.2 b.2.2)
def jn6:Sig Unit:=sg [.look y2 true,.look y2 true] [false] [(y2,none),(y2,none)] [] λb f k=>j8j b.1 b.2.1 (λd=>k [wB d] [] [])
theorem jgq:SO 316 jn6:=fK (np:=0) (Za6 j8c Zas) [] oN false Tryz.func316 λ_ _ _ _=>by delta j8j j8s;refine gz j1d λ_ b=> ?_;rewrite [<-b];kernel_rfl
end
end Go.PI.G
namespace Go.PI.G
noncomputable section
open Go Go.PI Go.Proofs
open Go.Code (pl pr)
def j5s (c:qB×Int×Bool×Bool×Int×Int×qB) (b:Bool->Res):Res:=j0K c.1 λr=>bif !r then b false else bif decide (c.2.1<1) then b false else bif decide (c.2.1>3) then b false else bif !c.2.2.2.1 then b ((c.2.2.2.2.1==0)&&((c.2.2.2.2.2.1==0)&&(sEq c.2.2.2.2.2.2 eS))) else j1u c.2.2.2.2 λd=>bif d then bif ((c.2.2.2.2.1==0)&&((c.2.2.2.2.2.1==0)&&(sEq c.2.2.2.2.2.2 eS))) then bif ((c.2.2.2.2.1==0)&&((c.2.2.2.2.2.1==0)&&(sEq c.2.2.2.2.2.2 eS))) then b (!c.2.2.1) else b true else bif (c.2.2.2.2.1==c.2.1) then bif ((c.2.2.2.2.1==0)&&((c.2.2.2.2.2.1==0)&&(sEq c.2.2.2.2.2.2 eS))) then b (!c.2.2.1) else b true else b false else b false
def j8u:Sig Unit:=sg [.look y7 true] [false] [(y7,none)] [] λd f k=>j5s d.1 (λb=>k [wB b] [] [])
theorem jiG:SO 267 j8u:=fK (np:=0) (Za6 j9M (Za6 j8f Zas)) [] oN false Tryz.func267 λ_ _ _ _=>by delta j5s j38 jbn;refine gz j0K λ_ b=>gz j1u λ_ d=> ?_;rewrite [<-b,<-d];kernel_rfl
def j5r (name:qB) (d:List qC) (h:Int) (b:Int) (rec:Int->Res) (f:Unit->Res) (g:Int->Res):Res:=bif decide (b<h) then bif inb b (List.length d) then bif sEq (nth (eS,0,false,false,0,0,eS) d b).1 name then g b else rec (Z9K (b+1)) else none else f ()
def jbs (name:qB) (d:List qC) (f:Int):Int->(Int->Res)->((Unit->Res)×(Int->Res))->Res:=λv rec q=>j5r name d f v (λb=>rec (b)) q.1 q.2
def jib (name:qB) (g:List qC) (h:Int) (n:Nat) (b:Int) (d:Unit->Res) (f:Int->Res):Res:=Z1f (jbs name g h) n (b) (d,f)
def jhc:Z1d Unit:=NdL 21 21 [.S 1,.R 8 y8 .S,.I 9,.I 10] [] (λb d=>(b.2.2.2.1)) (λb v=>(b.1,b.2.1,b.2.2.1,v,())) (λd v=>()) (λb d=>jbs b.1 b.2.1 b.2.2.1) λb d f=>((λ_=>f (.exit 0) [] []),(λg=>f .ret [(4,vI g)] []))
theorem jmT:CN 0 26 Tryz.f230 jhc:=lK Zas [] oN ([],[]) [(0,[],[])] ([4],[]) λ_ _ _ _ _=>by kernel_rfl
def j0Q (t:qB×qE×qL) (name:qB) (b:Int->Res):Res:=jib name t.2.1 (nI (List.length t.2.1)) Z1c 0 (λ_=>b (-1)) (λd=>b d)
def j2L:Sig Unit:=sg [.look y29 true,.look .str false] [false] [(y29,none),(.str,none)] [] λb f k=>j0Q b.1 b.2.1 (λd=>k [wI d] [] [])
theorem j68:SO 230 j2L:=fK (np:=0) Zas [jhc] (oI 26 0 @jmT oN) false Tryz.func230 λ_ _ _ _=>by kernel_rfl
theorem j8M:FS [(154,j38),(230,j2L),(267,j8u)]:=(Za6 j9M (Za6 j68 (Za6 jiG Zas)))
def j5y (t:qB×qE×qL) (b:Bool->Res):Res:=j0K t.1 λr=>bif !r then b true else bif decide ((nI (List.length t.2.1))<1) then b true else bif decide ((nI (List.length t.2.1))>8) then b true else b (decide ((nI (List.length t.2.2))<1))
def j4J:Z1d Unit:=Nd 75 75 [.t 1 (pB 1)] [(1,y29,[.S,.S])] λg d f=>j5y d.1.2 (λb=>f .normal [(1,pB 1),(30,vB b)] [(1,⟨y29,d.1.1,d.1.2,[.S,.S]⟩)])
theorem jkT:CN 0 12 Tryz.f227 j4J:=nK j8M [] oN ([1,30],[1]) [] ([],[]) λ_ _ _=>by kernel_rfl
def j1Z (d:List qC) (f:Int) (t:qB×qE×qL) (b:Int) (rec:Int->Res) (h:Unit->Res) (g:Unit->Res):Res:=bif decide (b<f) then bif inb b (List.length d) then j5s (nth (eS,0,false,false,0,0,eS) d b) λr=>bif !r then g () else j0Q t (nth (eS,0,false,false,0,0,eS) d b).1 λi=>bif (i != b) then g () else rec (Z9K (b+1)) else none else h ()
def j3r (b:List qC) (d:Int) (t:qB×qE×qL):Int->(Int->Res)->((Unit->Res)×(Unit->Res))->Res:=λv rec q=>j1Z b d t v (λf=>rec (f)) q.1 q.2
def j89 (b:List qC) (d:Int) (t:qB×qE×qL) (n:Nat) (f:Int) (g:Unit->Res) (h:Unit->Res):Res:=Z1f (j3r b d t) n (f) (g,h)
def j7n:Z1d Unit:=NdL 75 75 [.t 1 (pB 1),.R 32 y8 .S,.I 33,.I 34] [(1,y29,[.S,.S])] (λb d=>(b.2.2.1)) (λb v=>(b.1,b.2.1,v,())) (λd v=>((d.1.1,d.1.2),())) (λb d=>j3r b.1 b.2.1 d.1.2) λb d f=>((λ_=>f (.exit 0) [(1,pB 1)] [(1,⟨y29,d.1.1,d.1.2,[.S,.S]⟩)]),(λ_=>f .ret [(2,vB false)] []))
theorem jkR:CN 0 58 Tryz.f227 j7n:=lK j8M [j4J] oN ([],[]) [(0,[1],[1])] ([2],[]) λ_ _ _ _ _=>by delta j3r j1Z j8u j2L;refine gz j5s λ_ b=>gz j0Q λ_ d=> ?_;rewrite [<-b,<-d];kernel_rfl
def j3s (f:qL) (g:Int) (t:qB×qE×qL) (d:Int) (b:Int) (rec:Int->Int->Res) (i:Unit->Res) (h:Unit->Res):Res:=bif decide (b<g) then bif inb b (List.length f) then j0Q t (nth eS f b) λr=>bif decide (r<=d) then h () else bif inb r (List.length t.2.1) then bif !(nth (eS,0,false,false,0,0,eS) t.2.1 r).2.2.1 then h () else rec r (Z9K (b+1)) else none else none else i ()
def j5T (d:qL) (f:Int) (t:qB×qE×qL):(Int×Int)->(Int×Int->Res)->((Unit->Res)×(Unit->Res))->Res:=λv rec q=>j3s d f t v.1 v.2 (λb g=>rec (b,g)) q.1 q.2
def j8a (d:qL) (f:Int) (t:qB×qE×qL) (n:Nat) (b:Int) (g:Int) (h:Unit->Res) (i:Unit->Res):Res:=Z1f (j5T d f t) n (b,g) (h,i)
def jaB:Z1d Unit:=NdL 75 75 [.t 1 (pB 1),.I 5,.R 52 y0 .S,.I 53,.I 54] [(1,y29,[.S,.S])] (λb d=>(b.1,b.2.2.2.1)) (λb v=>(v.1,b.2.1,b.2.2.1,v.2,())) (λd v=>((d.1.1,d.1.2),())) (λb d=>j5T b.2.1 b.2.2.1 d.1.2) λb d f=>((λ_=>f (.exit 2) [] []),(λ_=>f .ret [(2,vB false)] []))
theorem jkS:CN 0 250 Tryz.f227 jaB:=lK j8M [j4J,j7n] oN ([],[]) [(2,[],[])] ([2],[]) λ_ _ _ _ _=>by kernel_rfl
def j0B (t:qB×qE×qL) (b:Bool->Res):Res:=j5y t λd=>bif d then b false else j89 t.2.1 (nI (List.length t.2.1)) t Z1c 0 (λ_=>j8a t.2.2 (nI (List.length t.2.2)) t Z1c (-1) 0 (λ_=>b true) (λ_=>b false)) (λ_=>b false)
def j1e:Sig Unit:=sg [.look y29 true] [false] [(y29,none)] [] λd f k=>j0B d.1 (λb=>k [wB b] [] [])
theorem j3K:SO 227 j1e:=fK (np:=0) j8M [j4J,j7n,jaB] (oI 12 0 @jkT (oI 58 1 @jkR (oI 250 2 @jkS oN))) false Tryz.func227 λ_ _ _ _=>by delta j0B j4J j7n jaB j89 j8a;refine gz j5y λ_ b=>gz j3r λ_ d=>gz j5T λ_ f=> ?_;rewrite [<-b,<-d,<-f];kernel_rfl
theorem jil:FS [(154,j38),(227,j1e),(267,j8u)]:=(Za6 j9M (Za6 j3K (Za6 jiG Zas)))
def j7B (d:qG) (b:Bool->Res):Res:=bif ((nI (List.length d.2.2.1))==0) then b ((nI (List.length d.2.2.2.1))==0) else b false
def jcy:Z1d Unit:=Nd 123 123 [.t 1 (pB 1)] [(1,y13,[.S,.S])] λf b d=>j7B b.1.2 (λplain=>d .normal [(1,pB 1),(3,vB plain)] [(1,⟨y13,b.1.1,b.1.2,[.S,.S]⟩)])
theorem jmU:CN 0 14 Tryz.f210 jcy:=nK jil [] oN ([1,3],[1]) [] ([],[]) λ_ _ _=>by kernel_rfl
def j2z (d:qG) (b:Bool->Res):Res:=j0K d.2.1 λr=>bif !r then b false else j7B d λplain=>bif (d.1==1) then bif sEq d.2.2.2.2.1 eS then bif sEq d.2.2.2.2.2 eS then j0B (d.2.1,d.2.2.1,d.2.2.2.1) λf=>b f else b false else b false else bif (d.1==2) then bif plain then bif sEq d.2.2.2.2.1 eS then b (sEq d.2.2.2.2.2 eS) else b false else b false else bif (d.1==3) then bif ((nI (List.length d.2.2.1))==1) then bif inb 0 (List.length d.2.2.1) then j5s (nth (eS,0,false,false,0,0,eS) d.2.2.1 0) λg=>bif g then bif inb 0 (List.length d.2.2.1) then bif (nth (eS,0,false,false,0,0,eS) d.2.2.1 0).2.2.2.1 then bif ((nI (List.length d.2.2.2.1))==0) then bif sEq d.2.2.2.2.1 eS then b (sEq d.2.2.2.2.2 eS) else b false else b false else bif inb 0 (List.length d.2.2.1) then bif !(nth (eS,0,false,false,0,0,eS) d.2.2.1 0).2.2.1 then bif ((nI (List.length d.2.2.2.1))==0) then bif sEq d.2.2.2.2.1 eS then b (sEq d.2.2.2.2.2 eS) else b false else b false else b false else none else none else b false else none else b false else bif (d.1==4) then bif plain then j0K d.2.2.2.2.1 λh=>bif h then b (sEq d.2.2.2.2.2 eS) else b false else b false else bif (d.1==5) then bif plain then j0K d.2.2.2.2.1 λi=>bif i then j0K d.2.2.2.2.2 λj=>b j else b false else b false else b false
def j4t:Sig Unit:=sg [.look y13 true] [false] [(y13,none)] [] λd f k=>j2z d.1 (λb=>k [wB b] [] [])
theorem jed:SO 210 j4t:=fK (np:=0) jil [jcy] (oI 14 0 @jmU oN) false Tryz.func210 λ_ _ _ _=>by delta j2z j38 jcy j1e j8u;refine gz j0K λ_ b=>gz j7B λ_ d=>gz j0B λ_ f=>gz j5s λ_ g=> ?_;rewrite [<-b,<-d,<-f,<-g];kernel_rfl
def j5q (d:List qT) (f:Int) (c:List qT) (b:Int) (rec:Int->Res) (h:Unit->Res) (g:Unit->Res):Res:=bif decide (b<f) then bif inb b (List.length d) then j0B (nth (eS,[],[]) d b) λr=>bif !r then g () else bif decide (b>0) then bif inb (Z9K (b-1)) (List.length c) then bif sGe (nth (eS,[],[]) c (Z9K (b-1))).1 (nth (eS,[],[]) d b).1 then g () else rec (Z9K (b+1)) else none else rec (Z9K (b+1)) else none else h ()
def jbr (b:List qT) (d:Int) (c:List qT):Int->(Int->Res)->((Unit->Res)×(Unit->Res))->Res:=λv rec q=>j5q b d c v (λf=>rec (f)) q.1 q.2
def jdl (b:List qT) (d:Int) (c:List qT) (n:Nat) (f:Int) (g:Unit->Res) (h:Unit->Res):Res:=Z1f (jbr b d c) n (f) (g,h)
def jhb:Z1d Unit:=NdL 37 37 [.t 1 (pB 1),.R 10 y30 .S,.I 11,.I 12] [(1,y30,[.S])] (λb d=>(b.2.2.1)) (λb v=>(b.1,b.2.1,v,())) (λd v=>((d.1.1,d.1.2),())) (λb d=>jbr b.1 b.2.1 d.1.2) λb d f=>((λ_=>f (.exit 0) [] []),(λ_=>f .ret [(2,vB false)] []))
theorem jmS:CN 0 58 Tryz.f242 jhb:=lK (Za6 j3K Zas) [] oN ([],[]) [(0,[],[])] ([2],[]) λ_ _ _ _ _=>by kernel_rfl
def j7e (c:List qT) (b:Bool->Res):Res:=bif decide ((nI (List.length c))>6) then b false else jdl c (nI (List.length c)) c Z1c 0 (λ_=>b true) (λ_=>b false)
def j8t:Sig Unit:=sg [.look y30 true] [false] [(y30,none)] [] λd f k=>j7e d.1 (λb=>k [wB b] [] [])
theorem jiF:SO 242 j8t:=fK (np:=0) (Za6 j3K Zas) [jhb] (oI 58 0 @jmS oN) false Tryz.func242 λ_ _ _ _=>by kernel_rfl
def j4W (t:qB×qE×qL) (b:qT->Res):Res:=Z87 (Z87 (bif lim (0+(List.length t.2.1)) then bif lim (0+(List.length t.2.2)) then b (t.1,t.2.1,t.2.2) else none else none) (bif lim (0+(List.length t.2.1)) then bif lim (0+(List.length t.2.2)) then b (t.1,t.2.1,t.2.2) else none else none)) (bif lim (0+(List.length t.2.1)) then bif lim (0+(List.length t.2.2)) then b (t.1,t.2.1,t.2.2) else none else none)
def jbp:Sig Unit:=sg [.borrow y29 true] [true] [(y29,none)] [] λd f k=>j4W d.1 (λb=>k [⟨y29,true,b,[.O,.O]⟩] [] [])
theorem jaU:SO 286 jbp:=fK (np:=0) Zas [] oN false Tryz.func286 λ_ _ _ _=>by kernel_rfl
def j3t (f:List qT) (h:Int) (b:Int) (d:List qT) (rec:Int->qF->Res) (g:qF->Res):Res:=bif decide (b<h) then bif inb b (List.length f) then j4W (nth (eS,[],[]) f b) λr=>bif lim ((List.length d)+1) then rec (Z9K (b+1)) (d++[r]) else none else none else g d
def j9n (f:List qT) (g:Int):(Int×qF)->(Int×qF->Res)->((qF->Res))->Res:=λv rec q=>j3t f g v.1 v.2 (λd b=>rec (d,b)) q
def jfw (g:List qT) (h:Int) (n:Nat) (d:Int) (b:List qT) (f:qF->Res):Res:=Z1f (j9n g h) n (d,b) (f)
def jeY:Z1d Unit:=NdL 23 23 [.t 2 (pB 2),.t 3 (pB 3),.R 8 y30 .S,.I 9,.I 10] [(2,y30,[.O]),(3,y30,[.O])] (λd b=>(d.2.2.1,b.2.1.2)) (λd v=>(d.1,d.2.1,v.1,())) (λb v=>((b.1.1,b.1.2),(b.2.1.1,v.2),())) (λd b=>j9n d.1 d.2.1) λd b g=>((λf=>g (.exit 0) [(2,pB 2),(3,pB 3)] [(2,⟨y30,b.1.1,b.1.2,[.O]⟩),(3,⟨y30,b.2.1.1,f,[.O]⟩)]))
theorem jkU:CN 0 58 Tryz.f243 jeY:=lK (Za6 jaU Zas) [] oN ([],[]) [(0,[2,3],[2,3])] ([],[]) λ_ _ _ _ _=>by kernel_rfl
def j4y (c:List qT) (d:qF->Res):Res:=jfw c (nI (List.length c)) Z1c 0 [] λb=>d b
def j6C:Sig Unit:=sg [.borrow y30 true] [true] [(y30,none)] [] λd f k=>j4y d.1 (λb=>k [⟨y30,true,b,[.O]⟩] [] [])
theorem jgy:SO 243 j6C:=fK (np:=0) (Za6 jaU Zas) [jeY] (oI 58 0 @jkU oN) false Tryz.func243 λ_ _ _ _=>by kernel_rfl
def j5z (name:qB) (d:List qT) (h:Int) (b:Int) (rec:Int->Res) (f:Unit->Res) (g:Int->Res):Res:=bif decide (b<h) then bif inb b (List.length d) then bif sEq (nth (eS,[],[]) d b).1 name then g b else rec (Z9K (b+1)) else none else f ()
def jbw (name:qB) (d:List qT) (f:Int):Int->(Int->Res)->((Unit->Res)×(Int->Res))->Res:=λv rec q=>j5z name d f v (λb=>rec (b)) q.1 q.2
def jic (name:qB) (g:List qT) (h:Int) (n:Nat) (b:Int) (d:Unit->Res) (f:Int->Res):Res:=Z1f (jbw name g h) n (b) (d,f)
def jhd:Z1d Unit:=NdL 21 21 [.S 1,.R 8 y30 .S,.I 9,.I 10] [] (λb d=>(b.2.2.2.1)) (λb v=>(b.1,b.2.1,b.2.2.1,v,())) (λd v=>()) (λb d=>jbw b.1 b.2.1 b.2.2.1) λb d f=>((λ_=>f (.exit 0) [] []),(λg=>f .ret [(4,vI g)] []))
theorem jmZ:CN 0 26 Tryz.f113 jhd:=lK Zas [] oN ([],[]) [(0,[],[])] ([4],[]) λ_ _ _ _ _=>by kernel_rfl
def j1v (c:List qT) (name:qB) (b:Int->Res):Res:=jic name c (nI (List.length c)) Z1c 0 (λ_=>b (-1)) (λt=>b t)
def j2M:Sig Unit:=sg [.look y30 true,.look .str false] [false] [(y30,none),(.str,none)] [] λb f k=>j1v b.1 b.2.1 (λd=>k [wI d] [] [])
theorem jaT:SO 113 j2M:=fK (np:=0) Zas [jhd] (oI 26 0 @jmZ oN) false Tryz.func113 λ_ _ _ _=>by kernel_rfl
def jct (done:Bool) (t:qB×qE×qL) (b:List qT) (x:qB×qE×qL) (d:Bool->qF->Res):Res:=bif !done then bif sLt t.1 x.1 then bif lim ((List.length b)+1) then d true (b++[t]) else none else d done b else d done b
def jbN:Z1d Unit:=Nd 48 48 [.t 3 (pB 3),.t 4 (pB 4),.t 5 (pB 5),.B 6,.t 8 (pB 8),.R 11 y30 .S,.I 12,.I 13] [(3,y29,[.S,.S]),(4,y30,[.O]),(5,y30,[.PS]),(8,y29,[.S,.S])] λg b h=>jct g.1 b.1.2 b.2.2.1.2 b.2.2.2.1.2 (λd f=>h .normal [(3,pB 3),(4,pB 4),(5,pB 5),(6,vB d),(8,pB 8),(11,v1 y30 g.2.1 .S),(12,vI g.2.2.1),(13,vI g.2.2.2.1)] [(3,⟨y29,b.1.1,b.1.2,[.S,.S]⟩),(4,⟨y30,b.2.1.1,b.2.1.2,[.O]⟩),(5,⟨y30,b.2.2.1.1,f,[.PS]⟩),(8,⟨y29,b.2.2.2.1.1,b.2.2.2.1.2,[.S,.S]⟩)])
theorem jm2:CN 0 15666 Tryz.f309 jbN:=nK Zas [] oN ([3,4,5,6,8,11,12,13],[3,4,5,8]) [] ([],[]) λ_ _ _=>by kernel_rfl
def j4A (g:List qT) (i:Int) (t:qB×qE×qL) (done:Bool) (b:Int) (h:List qT) (rec:Bool->Int->qF->Res) (j:Bool->qF->Res):Res:=bif decide (b<i) then bif inb b (List.length g) then jct done t h (nth (eS,[],[]) g b) λf d=>bif lim ((List.length d)+1) then rec f (Z9K (b+1)) (d++[nth (eS,[],[]) g b]) else none else none else j done h
def jan (d:List qT) (f:Int) (t:qB×qE×qL):(Bool×Int×qF)->(Bool×Int×qF->Res)->((Bool->qF->Res))->Res:=λv rec q=>j4A d f t v.1 v.2.1 v.2.2 (λdone g b=>rec (done,g,b)) q
def jcs (d:List qT) (f:Int) (t:qB×qE×qL) (n:Nat) (done:Bool) (g:Int) (b:List qT) (h:Bool->qF->Res):Res:=Z1f (jan d f t) n (done,g,b) (h)
def jfC:Z1d Unit:=λσ k=>rdN σ 48<|rdT σ 3 (pB 3)<|rdT σ 4 (pB 4)<|rdT σ 5 (pB 5)<|rdO σ 6 λdone=>rd1 σ 11 y30 .S λg=>rdI σ 12 λh=>rdI σ 13 λi=>rdB σ 3 y29 [.S,.S] λa t=>rdB σ 4 y30 [.O] λj m=>rdB σ 5 y30 [.PS] λl f=>jcs g h t Z1c done i f (λb d=>k (.exit 0) (mkS 48 48 [(3,pB 3),(4,pB 4),(5,pB 5),(6,vB b)] [(3,⟨y29,a,t,[.S,.S]⟩),(4,⟨y30,j,m,[.O]⟩),(5,⟨y30,l,d,[.PS]⟩)]))
def jfQ:Z1d Unit:=λσ k=>jfC (σ.wk [] [(5,[.PS])]) k
theorem jm1:CN 0 122 Tryz.f309 jfQ:=λr=>ZaJ [] [(5,[.PS])] (jly follows j1y Zas r [jbN] (oI 114 0 @jm2 oN) [3,4,5,6,11,12,13] [3,4,5] ([],[]) [(0,[3,4,5,6],[3,4,5])] ([],[]) (y:=jfC) λσ k _ h=>rN h λH h=>rT h λD h=>rT h λE h=>rT h λF h=>rV h λdone G h=>rV h λf i h=>rV h λg j h=>rV h λz l h=>rB h λa t n h=>rB h λA C p h=>rB h λB w q h=>⟨_,ZaM (m:=48) H (sC D (sC E (sC F (sC G (sC i (sC j (sC l sN))))))) (bC n (bC p (bC q bN))),.trans (Z9u (λv:Bool×Int×qF=>(mkS 48 48 [(3,pB 3),(4,pB 4),(5,pB 5),(6,vB v.1),(11,v1 y30 f .S),(12,vI g),(13,vI v.2.1)] [(3,⟨y29,a,t,[.S,.S]⟩),(4,⟨y30,A,C,[.O]⟩),(5,⟨y30,B,v.2.2,[.PS]⟩)])) (jan f g t) (λ(k:Z83 Unit)=>(((λb d=>k (.exit 0) (mkS 48 48 [(3,pB 3),(4,pB 4),(5,pB 5),(6,vB b)] [(3,⟨y29,a,t,[.S,.S]⟩),(4,⟨y30,A,C,[.O]⟩),(5,⟨y30,B,d,[.PS]⟩)]))):(Bool->qF->Res))) (λv rec k=>by kernel_rfl) Z1c (done,z,w) k) h⟩)
def j9K (c:List qT) (t:qB×qE×qL) (d:qF->Res):Res:=jcs c (nI (List.length c)) t Z1c false 0 [] λdone b=>bif !done then bif lim ((List.length b)+1) then d (b++[t]) else none else d b
def jdi:Sig Unit:=sg [.borrow y30 true,.borrow y29 true] [true] [(y30,none),(y29,none)] [] λb f k=>j9K b.1 b.2.1 (λd=>k [⟨y30,true,d,[.PS]⟩] [] [])
theorem jo1:SO 309 jdi:=fK (np:=0) Zas [jbN,jfQ] (oI 122 1 @jm1 oN) false Tryz.func309 λ_ _ _ _=>by kernel_rfl
def j4z (s:qB) (d:qL) (h:Int) (b:Int) (rec:Int->Res) (f:Unit->Res) (g:Unit->Res):Res:=bif decide (b<h) then bif inb b (List.length d) then bif sEq (nth eS d b) s then g () else rec (Z9K (b+1)) else none else f ()
def jam (s:qB) (b:qL) (d:Int):Int->(Int->Res)->((Unit->Res)×(Unit->Res))->Res:=λv rec q=>j4z s b d v (λf=>rec (f)) q.1 q.2
def jgY (s:qB) (f:qL) (g:Int) (n:Nat) (h:Int) (b:Unit->Res) (d:Unit->Res):Res:=Z1f (jam s f g) n (h) (b,d)
def jfP:Z1d Unit:=NdL 17 17 [.S 1,.R 7 y0 .S,.I 8,.I 9] [] (λb d=>(b.2.2.2.1)) (λb v=>(b.1,b.2.1,b.2.2.1,v,())) (λd v=>()) (λb d=>jam b.1 b.2.1 b.2.2.1) λb d f=>((λ_=>f (.exit 0) [] []),(λ_=>f .ret [(4,vB true)] []))
theorem jm0:CN 0 26 Tryz.f157 jfP:=lK Zas [] oN ([],[]) [(0,[],[])] ([4],[]) λ_ _ _ _ _=>by kernel_rfl
def j9J (l:qL) (s:qB) (b:Bool->Res):Res:=jgY s l (nI (List.length l)) Z1c 0 (λ_=>b false) (λ_=>b true)
def jia:Sig Unit:=sg [.look y0 false,.look .str false] [false] [(y0,none),(.str,none)] [] λb f k=>j9J b.1 b.2.1 (λd=>k [wB d] [] [])
theorem jo0:SO 157 jia:=fK (np:=0) Zas [jfP] (oI 26 0 @jm0 oN) false Tryz.func157 λ_ _ _ _=>by kernel_rfl
def j4V (t:qB×qE×qL) (d:qG) (b:Int->Res):Res:=j0Q t d.2.2.2.2.1 λr=>bif (d.1==3) then bif inb 0 (List.length d.2.2.1) then j0Q t (nth (eS,0,false,false,0,0,eS) d.2.2.1 0).1 λf=>bif decide (f>=0) then b 5 else bif ((nI (List.length t.2.1))==8) then b 6 else b 0 else none else bif (d.1==4) then bif decide (r<0) then b 7 else j9J t.2.2 d.2.2.2.2.1 λg=>bif g then b 8 else b 0 else bif (d.1==5) then j0Q t d.2.2.2.2.2 λh=>bif decide (h>=0) then b 5 else bif decide (r<0) then b 7 else b 0 else b 0
def jbo:Sig Unit:=sg [.look y29 true,.look y13 true] [false] [(y29,none),(y13,none)] [] λb f k=>j4V b.1 b.2.1 (λd=>k [wI d] [] [])
theorem jld:SO 310 jbo:=fK (np:=0) (Za6 jo0 (Za6 j68 Zas)) [] oN false Tryz.func310 λ_ _ _ _=>by delta j4V j2L jia;refine gz j0Q λ_ b=>gz j9J λ_ d=> ?_;rewrite [<-b,<-d];kernel_rfl
def j5W (t:qB×qE×qL) (b:Unit->Res):Res:=Z87 (Z87 (bif lim (0+(List.length t.2.2)) then Z87 (b ()) (b ()) else none) (bif lim (0+(List.length t.2.2)) then b () else none)) (bif lim (0+(List.length t.2.2)) then b () else none)
def j17:Z1d Unit:=Nd 92 92 [.t 2 (pB 2),.t 3 (pB 3),.t 4 (pB 4)] [(2,y29,[.S,.S]),(3,y13,[.S,.S]),(4,y29,[.O,.O])] λf b d=>j5W b.1.2 (λ_=>d .normal [(2,pB 2),(3,pB 3),(4,pB 4),(5,pB 5)] [(2,⟨y29,b.1.1,b.1.2,[.S,.S]⟩),(3,⟨y13,b.2.1.1,b.2.1.2,[.S,.S]⟩),(4,⟨y29,b.2.2.1.1,b.2.2.1.2,[.O,.O]⟩),(5,⟨y29,false,(b.1.2.1,[],b.1.2.2.2),[.O,.O]⟩)])
theorem jiZ:CN 0 6 Tryz.f311 j17:=nK Zas [] oN ([2,3,4,5],[2,3,4,5]) [] ([],[]) λ_ _ _=>by kernel_rfl
def j5X (d:qG) (c:qB×Int×Bool×Bool×Int×Int×qB) (b:Unit->Res) (f:Unit->Res):Res:=bif (d.1==4) then bif sEq c.1 d.2.2.2.2.1 then f () else b () else b ()
def j1L:Z1d Unit:=Nd 92 92 [.t 3 (pB 3),.t 4 (pB 4),.t 5 (pB 5),.t 7 (pB 7),.R 17 y8 .S,.I 18,.I 19] [(3,y13,[.S,.S]),(4,y29,[.O,.O]),(5,y29,[.O,.O]),(7,y7,[])] λd b f=>j5X b.1.2 b.2.2.2.1.2 (λ_=>f .normal [(3,pB 3),(4,pB 4),(5,pB 5),(7,pB 7),(17,v1 y8 d.1 .S),(18,vI d.2.1),(19,vI d.2.2.1)] [(3,⟨y13,b.1.1,b.1.2,[.S,.S]⟩),(4,⟨y29,b.2.1.1,b.2.1.2,[.O,.O]⟩),(5,⟨y29,b.2.2.1.1,b.2.2.1.2,[.O,.O]⟩),(7,⟨y7,b.2.2.2.1.1,b.2.2.2.1.2,[]⟩)]) (λ_=>f (.exit 1) [(3,pB 3),(4,pB 4),(5,pB 5),(17,v1 y8 d.1 .S),(18,vI d.2.1),(19,vI d.2.2.1),(27,.ptr ⟨true,7,[.fst]⟩),(28,vS b.2.2.2.1.2.1),(29,.ptr ⟨true,3,[.snd,.snd,.snd,.snd,.fst]⟩),(30,vS b.1.2.2.2.2.2.1),(31,vB (sEq b.2.2.2.1.2.1 b.1.2.2.2.2.2.1))] [(3,⟨y13,b.1.1,b.1.2,[.S,.S]⟩),(4,⟨y29,b.2.1.1,b.2.1.2,[.O,.O]⟩),(5,⟨y29,b.2.2.1.1,b.2.2.1.2,[.O,.O]⟩),(7,⟨y7,b.2.2.2.1.1,b.2.2.2.1.2,[]⟩)])
theorem jj0:CN 0 7474 Tryz.f311 j1L:=nK Zas [j17] oN ([3,4,5,7,17,18,19],[3,4,5,7]) [(1,[3,4,5,17,18,19,27,28,29,30,31],[3,4,5,7])] ([],[]) λ_ _ _=>by kernel_rfl
def j5Y (d:qG) (c:qB×Int×Bool×Bool×Int×Int×qB) (b:qC->Res):Res:=bif (d.1==5) then bif sEq c.1 d.2.2.2.2.1 then b (d.2.2.2.2.2,c.2) else b c else b c
def j2Q:Z1d Unit:=Nd 92 92 [.t 3 (pB 3),.t 4 (pB 4),.t 5 (pB 5),.t 7 (pB 7),.R 17 y8 .S,.I 18,.I 19] [(3,y13,[.S,.S]),(4,y29,[.O,.O]),(5,y29,[.O,.O]),(7,y7,[])] λd b f=>j5Y b.1.2 b.2.2.2.1.2 (λc1=>f .normal [(3,pB 3),(4,pB 4),(5,pB 5),(7,pB 7),(17,v1 y8 d.1 .S),(18,vI d.2.1),(19,vI d.2.2.1)] [(3,⟨y13,b.1.1,b.1.2,[.S,.S]⟩),(4,⟨y29,b.2.1.1,b.2.1.2,[.O,.O]⟩),(5,⟨y29,b.2.2.1.1,b.2.2.1.2,[.O,.O]⟩),(7,⟨y7,b.2.2.2.1.1,c1,[]⟩)])
theorem jj1:CN 0 14950 Tryz.f311 j2Q:=nK Zas [j17,j1L] oN ([3,4,5,7,17,18,19],[3,4,5,7]) [] ([],[]) λ_ _ _=>by kernel_rfl
def j1i (g:List qC) (h:Int) (d:qG) (f:Int) (b:qB×qE×qL) (rec:Int->qT->Res) (i:qT->Res):Res:=bif decide (f<h) then bif inb f (List.length g) then j5X d (nth (eS,0,false,false,0,0,eS) g f) (λ_=>j5Y d (nth (eS,0,false,false,0,0,eS) g f) λc=>bif lim ((List.length b.2.1)+1) then rec (Z9K (f+1)) (b.1,(b.2.1++[c]),b.2.2) else none) (λ_=>rec (Z9K (f+1)) b) else none else i b
def j2k (f:List qC) (g:Int) (d:qG):(Int×qT)->(Int×qT->Res)->((qT->Res))->Res:=λv rec q=>j1i f g d v.1 v.2 (λh b=>rec (h,b)) q
def j5U (f:List qC) (g:Int) (d:qG) (n:Nat) (h:Int) (b:qB×qE×qL) (i:qT->Res):Res:=Z1f (j2k f g d) n (h,b) (i)
def j5C:Z1d Unit:=NdL 92 92 [.t 3 (pB 3),.t 4 (pB 4),.t 5 (pB 5),.R 17 y8 .S,.I 18,.I 19] [(3,y13,[.S,.S]),(4,y29,[.O,.O]),(5,y29,[.O,.O])] (λd b=>(d.2.2.1,b.2.2.1.2)) (λd v=>(d.1,d.2.1,v.1,())) (λb v=>((b.1.1,b.1.2),(b.2.1.1,b.2.1.2),(b.2.2.1.1,v.2),())) (λd b=>j2k d.1 d.2.1 b.1.2) λd b g=>((λf=>g (.exit 0) [(3,pB 3),(4,pB 4),(5,pB 5)] [(3,⟨y13,b.1.1,b.1.2,[.S,.S]⟩),(4,⟨y29,b.2.1.1,b.2.1.2,[.O,.O]⟩),(5,⟨y29,b.2.2.1.1,f,[.O,.O]⟩)]))
theorem jiX:CN 0 58 Tryz.f311 j5C:=lK Zas [j17,j1L,j2Q] (oI 114 1 @jj0 (oI 230 2 @jj1 oN)) ([],[]) [(0,[3,4,5],[3,4,5])] ([],[]) λ_ _ _ _ _=>by delta j2k j1i j1L j2Q;refine gz j5X λ_ b=>gz j5Y λ_ d=> ?_;rewrite [<-b,<-d];kernel_rfl
def j0r (g:Int) (d:qG) (f:Int) (b:qB×qE×qL) (rec:Int->qT->Res) (h:qT->Res):Res:=bif decide (f<g) then bif (d.1==5) then bif inb f (List.length b.2.2) then bif sEq (nth eS b.2.2 f) d.2.2.2.2.1 then bif inb f (List.length b.2.2) then rec (Z9K (f+1)) (b.1,b.2.1,upd b.2.2 f d.2.2.2.2.2) else none else rec (Z9K (f+1)) b else none else rec (Z9K (f+1)) b else h b
def j4O (f:Int) (d:qG):(Int×qT)->(Int×qT->Res)->((qT->Res))->Res:=λv rec q=>j0r f d v.1 v.2 (λg b=>rec (g,b)) q
def j5V (f:Int) (d:qG) (n:Nat) (g:Int) (b:qB×qE×qL) (h:qT->Res):Res:=Z1f (j4O f d) n (g,b) (h)
def j8I:Z1d Unit:=NdL 92 92 [.t 3 (pB 3),.t 4 (pB 4),.t 5 (pB 5),.I 55,.I 56] [(3,y13,[.S,.S]),(4,y29,[.O,.O]),(5,y29,[.O,.O])] (λd b=>(d.2.1,b.2.2.1.2)) (λd v=>(d.1,v.1,())) (λb v=>((b.1.1,b.1.2),(b.2.1.1,b.2.1.2),(b.2.2.1.1,v.2),())) (λd b=>j4O d.1 b.1.2) λd b g=>((λf=>g (.exit 2) [(3,pB 3),(4,pB 4),(5,pB 5)] [(3,⟨y13,b.1.1,b.1.2,[.S,.S]⟩),(4,⟨y29,b.2.1.1,b.2.1.2,[.O,.O]⟩),(5,⟨y29,b.2.2.1.1,f,[.O,.O]⟩)]))
theorem jiY:CN 0 122 Tryz.f311 j8I:=lK Zas [j17,j1L,j2Q,j5C] oN ([],[]) [(2,[3,4,5],[3,4,5])] ([],[]) λ_ _ _ _ _=>by kernel_rfl
def j3V (t:qB×qE×qL) (d:qG) (g:qT->Res):Res:=j5W t λ_=>j5U t.2.1 (nI (List.length t.2.1)) d Z1c 0 (t.1,[],t.2.2) λf=>j5V (nI (List.length f.2.2)) d Z1c 0 f λb=>bif (d.1==3) then bif inb 0 (List.length d.2.2.1) then bif lim ((List.length b.2.1)+1) then g (b.1,(b.2.1++[nth (eS,0,false,false,0,0,eS) d.2.2.1 0]),b.2.2) else none else none else g b
def jah:Sig Unit:=sg [.borrow y29 true,.borrow y13 true] [true] [(y29,none),(y13,none)] [] λb f k=>j3V b.1 b.2.1 (λd=>k [⟨y29,true,d,[.O,.O]⟩] [] [])
theorem jkl:SO 311 jah:=fK (np:=0) Zas [j17,j1L,j2Q,j5C,j8I] (oI 6 0 @jiZ (oI 58 3 @jiX (oI 122 4 @jiY oN))) false Tryz.func311 λ_ _ _ _=>by delta j3V j17 j5C j8I j5U j5V;refine gz j5W λ_ b=>gz j2k λ_ d=>gz j4O λ_ f=> ?_;rewrite [<-b,<-d,<-f];kernel_rfl
theorem jaP:FS [(113,j2M),(210,j4t),(242,j8t),(243,j6C),(286,jbp),(309,jdi),(310,jbo),(311,jah)]:=(Za6 jaT (Za6 jed (Za6 jiF (Za6 jgy (Za6 jaU (Za6 jo1 (Za6 jld (Za6 jkl Zas))))))))
def j4u (d:qG) (b:List qT) (f:qF->Res):Res:=j4W (d.2.1,d.2.2.1,d.2.2.2.1) λr=>j9K b r λg=>f g
def j9q:Z1d Unit:=λσ k=>rdN σ 88<|rdT σ 3 (pB 3)<|rdT σ 4 (pB 4)<|rdT σ 7 (pB 7)<|rdB σ 3 y13 [.S,.S] λa d=>rdB σ 4 y30 [.O] λg i=>rdB σ 7 y30 [.S] λh b=>j4u d b (λf=>k .ret (mkS 88 88 [(4,pB 4),(5,vI 0)] [(4,⟨y30,g,f,[.PS]⟩)]))
def j65:Z1d Unit:=λσ k=>j9q (σ.wk [] [(7,[.S])]) k
theorem jjM:CN 0 1003 Tryz.f287 j65:=λi=>ZaJ [] [(7,[.S])] (jlz follows j1y jaP i [] oN ([],[]) [] ([4,5],[4]) (y:=j9q) λσ k _ h=>rN h λr h=>rT h λn h=>rT h λp h=>rT h λq h=>rB h λa d b h=>rB h λz B f h=>rB h λA w g h=>⟨_,ZaM (m:=88) r (sC n (sC p (sC q sN))) (bC b (bC f (bC g bN))),.trans (by delta j4u jbp jdi;refine gz j4W λ_ j=>gz j9K λ_ l=> ?_;rewrite [<-j,<-l];kernel_rfl) h⟩)
def j7f (d:Int) (b:List qT) (f:Unit->Res):Res:=bif Z8e 0 d (List.length b) then bif Z8e (Z9K (d+1)) (nI (List.length b)) (List.length b) then bif lim (0+(List.length (sub b 0 d))) then bif lim ((List.length (sub b 0 d))+(List.length (sub b (Z9K (d+1)) (nI (List.length b))))) then f () else none else none else none else none
def j9r:Z1d Unit:=λσ k=>rdN σ 88<|rdT σ 4 (pB 4)<|rdI σ 6 λd=>rdT σ 7 (pB 7)<|rdB σ 4 y30 [.O] λa g=>rdB σ 7 y30 [.S] λf b=>j7f d b (λ_=>k .ret (mkS 88 88 [(4,pB 4),(5,vI 0)] [(4,⟨y30,a,((sub b 0 d)++(sub b (Z9K (d+1)) (nI (List.length b)))),[.PS]⟩)]))
def j9t:Z1d Unit:=λσ k=>j9r (σ.wk [] [(7,[.S])]) k
theorem jjN:CN 0 4090 Tryz.f287 j9t:=λf=>ZaJ [] [(7,[.S])] (jlz follows j1y jaP f [j65] oN ([],[]) [] ([4,5],[4]) (y:=j9r) λσ k _ h=>rN h λn h=>rT h λi h=>rV h λg j h=>rT h λl h=>rB h λa r b h=>rB h λq p d h=>⟨_,ZaM (m:=88) n (sC i (sC j (sC l sN))) (bC b (bC d bN)),.trans (by kernel_rfl) h⟩)
def j28 (c:List qT) (d:qG) (f:qF->Int->Res):Res:=j7e c λr=>bif !r then f [] 1 else j2z d λi=>bif !i then f [] 1 else j1v c d.2.1 λb=>j4y c λg=>bif (d.1==1) then bif decide (b>=0) then f [] 2 else bif ((nI (List.length c))==6) then f [] 3 else j4u d g λt=>f t 0 else bif decide (b<0) then f [] 4 else bif inb b (List.length c) then j4V (nth (eS,[],[]) c b) d λh=>bif (h != 0) then f [] h else bif (d.1==2) then j7f b g λ_=>f ((sub g 0 b)++(sub g (Z9K (b+1)) (nI (List.length g)))) 0 else bif inb b (List.length c) then j3V (nth (eS,[],[]) c b) d λj=>bif inb b (List.length g) then f (upd g b j) 0 else none else none else none
def j5n:Sig Unit:=sg [.borrow y30 true,.borrow y13 true] [true,false] [(y30,none),(y13,none)] [] λb g k=>j28 b.1 b.2.1 (λd f=>k [⟨y30,true,d,[.S]⟩,wI f] [] [])
theorem jf9:SO 287 j5n:=fK (np:=0) jaP [j65,j9t] (oI 1003 0 @jjM (oI 4090 1 @jjN oN)) true Tryz.func287 λ_ _ _ _=>by delta j28 j8t j4t j2M j6C j65 jbo j9t jah;delta j9q j9r;refine gz j7e λ_ b=>gz j2z λ_ d=>gz j1v λ_ f=>gz j4y λ_ g=>gz j4u λ_ h=>gz j4V λ_ i=>gz j7f λ_ j=>gz j3V λ_ k=> ?_;rewrite [<-b,<-d,<-f,<-g,<-h,<-i,<-j,<-k];kernel_rfl
def j3N (l:qL) (b:qL->Res):Res:=bif lim (0+(List.length l)) then b l else none
def jl6:Sig Unit:=sg [.borrow y0 false] [false] [(y0,none)] [] λd f k=>j3N d.1 (λb=>k [w1 y0 b .O] [] [])
theorem je6:SO 217 jl6:=fK (np:=0) Zas [] oN false Tryz.func217 λ_ _ _ _=>by kernel_rfl
def j3M (t:qB×qE×qL) (b:qT->Res):Res:=bif lim (0+(List.length t.2.1)) then j3N t.2.2 λr=>b (t.1,t.2.1,r) else none
def jl5:Sig Unit:=sg [.borrow y29 true] [true] [(y29,none)] [] λd f k=>j3M d.1 (λb=>k [⟨y29,true,b,[.O,.O]⟩] [] [])
theorem ja4:SO 283 jl5:=fK (np:=0) (Za6 je6 Zas) [] oN false Tryz.func283 λ_ _ _ _=>by kernel_rfl
def j34 (d:qG) (b:qT->Res):Res:=j3M (d.2.1,d.2.2.1,d.2.2.2.1) λr=>b r
def j80:Sig Unit:=sg [.borrow y13 true] [true] [(y13,none)] [] λd f k=>j34 d.1 (λb=>k [⟨y29,true,b,[.O,.O]⟩] [] [])
theorem jf5:SO 269 j80:=fK (np:=0) (Za6 ja4 Zas) [] oN false Tryz.func269 λ_ _ _ _=>by kernel_rfl
def j56 (c:qB×Int×Bool×Bool×Int×Int×qB) (b:Bool->Res):Res:=j0C c.1 λr=>bif !r then b false else j0i c.2.1 1 3 λd=>bif !d then b false else j1d c.2.2.2.2 λf=>bif !f then b false else bif !c.2.2.2.1 then b ((c.2.2.2.2.1==0)&&((c.2.2.2.2.2.1==0)&&(sEq c.2.2.2.2.2.2 eS))) else bif (c.2.2.2.2.1==c.2.1) then b true else bif (c.2.2.2.2.1==0) then b (!c.2.2.1) else b false
def jbi:Sig Unit:=sg [.look y7 true] [false] [(y7,none)] [] λd f k=>j56 d.1 (λb=>k [wB b] [] [])
theorem jir:SO 270 jbi:=fK (np:=0) (Za6 j9L (Za6 j33 (Za6 j8c Zas))) [] oN false Tryz.func270 λ_ _ _ _=>by delta j56 j36 j26 j8s;refine gz j0C λ_ b=>gz j0i λ_ d=>gz j1d λ_ f=> ?_;rewrite [<-b,<-d,<-f];kernel_rfl
def jg3 (c:qB×Int×Bool×Bool×Int×Int×qB) (d:qB) (b:Bool->Res):Res:=b (sEq c.1 d)
def jos:Sig Unit:=sg [.look y7 true,.rptr .str] [false] [(y7,none),(.str,none)] [] λb f k=>jg3 b.1 b.2.1 (λd=>k [wB d] [] [])
theorem jhP:SO 308 jos:=fK (np:=0) Zas [] oN false Tryz.func308 λ_ _ _ _=>by kernel_rfl
def j12 (s:List qC) (f:qB) (h:Int) (b:Int) (rec:Int->Res) (d:Unit->Res) (g:Int->Res):Res:=bif decide (b<h) then bif inb b (List.length s) then jg3 (nth (eS,0,false,false,0,0,eS) s b) f λr=>bif r then g b else rec (Z9K (b+1)) else none else d ()
def j3C (s:List qC) (f:qB) (b:Int):Int->(Int->Res)->((Unit->Res)×(Int->Res))->Res:=λv rec q=>j12 s f b v (λd=>rec (d)) q.1 q.2
def j99 (s:List qC) (f:qB) (g:Int) (n:Nat) (h:Int) (b:Unit->Res) (d:Int->Res):Res:=Z1f (j3C s f g) n (h) (b,d)
def j8F:Z1d Unit:=NdL 19 19 [.R 0 y8 .S,.c 1 308 [.str] .str [],.I 7,.I 8] [] (λb d=>(b.2.2.2.1)) (λb v=>(b.1,b.2.1,b.2.2.1,v,())) (λd v=>()) (λb d=>j3C b.1 b.2.1 b.2.2.1) λb d f=>((λ_=>f (.exit 0) [] []),(λg=>f .ret [(4,vI g)] []))
theorem jeC:CN 0 26 Tryz.f307 j8F:=lK (Za6 jhP Zas) [] oN ([],[]) [(0,[],[])] ([4],[]) λ_ _ _ _ _=>by kernel_rfl
def j7a (s:List qC) (f:qB) (b:Int->Res):Res:=j99 s f (nI (List.length s)) Z1c 0 (λ_=>b (-1)) (λt=>b t)
def jg9:Sig Unit:=sg [.look y8 false,.rclos 308 [.str]] [false] [(y8,none),(.str,none)] [] λb f k=>j7a b.1 b.2.1 (λd=>k [wI d] [] [])
theorem jfX:SO 307 jg9:=fK (np:=0) (Za6 jhP Zas) [j8F] (oI 26 0 @jeC oN) false Tryz.func307 λ_ _ _ _=>by kernel_rfl
def j0h (t:qB×qE×qL) (name:qB) (b:Int->Res):Res:=j7a t.2.1 name λr=>b r
def j0U:Sig Unit:=sg [.look y29 true,.look .str false] [false] [(y29,none),(.str,none)] [] λb f k=>j0h b.1 b.2.1 (λd=>k [wI d] [] [])
theorem j3Y:SO 284 j0U:=fK (np:=0) (Za6 jfX Zas) [] oN false Tryz.func284 λ_ _ _ _=>by kernel_rfl
theorem jbZ:FS [(160,j36),(163,j26),(270,jbi),(284,j0U)]:=(Za6 j9L (Za6 j33 (Za6 jir (Za6 j3Y Zas))))
def j1X (d:List qC) (f:Int) (t:qB×qE×qL) (b:Int) (rec:Int->Res) (h:Unit->Res) (g:Unit->Res):Res:=bif decide (b<f) then bif inb b (List.length d) then j56 (nth (eS,0,false,false,0,0,eS) d b) λr=>bif !r then g () else j0h t (nth (eS,0,false,false,0,0,eS) d b).1 λi=>bif (i != b) then g () else rec (Z9K (b+1)) else none else h ()
def j3h (b:List qC) (d:Int) (t:qB×qE×qL):Int->(Int->Res)->((Unit->Res)×(Unit->Res))->Res:=λv rec q=>j1X b d t v (λf=>rec (f)) q.1 q.2
def j7X (b:List qC) (d:Int) (t:qB×qE×qL) (n:Nat) (f:Int) (g:Unit->Res) (h:Unit->Res):Res:=Z1f (j3h b d t) n (f) (g,h)
def j7j:Z1d Unit:=NdL 68 68 [.t 1 (pB 1),.R 10 y8 .S,.I 11,.I 12] [(1,y29,[.S,.S])] (λb d=>(b.2.2.1)) (λb v=>(b.1,b.2.1,v,())) (λd v=>((d.1.1,d.1.2),())) (λb d=>j3h b.1 b.2.1 d.1.2) λb d f=>((λ_=>f (.exit 0) [(1,pB 1)] [(1,⟨y29,d.1.1,d.1.2,[.S,.S]⟩)]),(λ_=>f .ret [(2,vB false)] []))
theorem jkB:CN 0 26 Tryz.f268 j7j:=lK jbZ [] oN ([],[]) [(0,[1],[1])] ([2],[]) λ_ _ _ _ _=>by delta j3h j1X jbi j0U;refine gz j56 λ_ b=>gz j0h λ_ d=> ?_;rewrite [<-b,<-d];kernel_rfl
def j3i (f:qL) (g:Int) (t:qB×qE×qL) (d:Int) (b:Int) (rec:Int->Int->Res) (i:Unit->Res) (h:Unit->Res):Res:=bif decide (b<g) then bif inb b (List.length f) then j0h t (nth eS f b) λr=>bif decide (r<=d) then h () else bif inb r (List.length t.2.1) then bif !(nth (eS,0,false,false,0,0,eS) t.2.1 r).2.2.1 then h () else rec r (Z9K (b+1)) else none else none else i ()
def j5N (d:qL) (f:Int) (t:qB×qE×qL):(Int×Int)->(Int×Int->Res)->((Unit->Res)×(Unit->Res))->Res:=λv rec q=>j3i d f t v.1 v.2 (λb g=>rec (b,g)) q.1 q.2
def j7Y (d:qL) (f:Int) (t:qB×qE×qL) (n:Nat) (b:Int) (g:Int) (h:Unit->Res) (i:Unit->Res):Res:=Z1f (j5N d f t) n (b,g) (h,i)
def jav:Z1d Unit:=NdL 68 68 [.t 1 (pB 1),.I 5,.R 30 y0 .S,.I 31,.I 32] [(1,y29,[.S,.S])] (λb d=>(b.1,b.2.2.2.1)) (λb v=>(v.1,b.2.1,b.2.2.1,v.2,())) (λd v=>((d.1.1,d.1.2),())) (λb d=>j5N b.2.1 b.2.2.1 d.1.2) λb d f=>((λ_=>f (.exit 2) [(1,pB 1)] [(1,⟨y29,d.1.1,d.1.2,[.S,.S]⟩)]),(λ_=>f .ret [(2,vB false)] []))
theorem jkC:CN 0 122 Tryz.f268 jav:=lK jbZ [j7j] oN ([],[]) [(2,[1],[1])] ([2],[]) λ_ _ _ _ _=>by kernel_rfl
def j0S (t:qB×qE×qL) (b:Bool->Res):Res:=j7X t.2.1 (nI (List.length t.2.1)) t Z1c 0 (λ_=>j7Y t.2.2 (nI (List.length t.2.2)) t Z1c (-1) 0 (λ_=>j0C t.1 λr=>bif r then j0i (nI (List.length t.2.1)) 1 8 λd=>bif d then b (decide ((nI (List.length t.2.2))>0)) else b false else b false) (λ_=>b false)) (λ_=>b false)
def j3S:Sig Unit:=sg [.look y29 true] [false] [(y29,none)] [] λd f k=>j0S d.1 (λb=>k [wB b] [] [])
theorem j67:SO 268 j3S:=fK (np:=0) jbZ [j7j,jav] (oI 26 0 @jkB (oI 122 1 @jkC oN)) false Tryz.func268 λ_ _ _ _=>by delta j0S j7j jav j36 j26 j7X j7Y;refine gz j3h λ_ b=>gz j5N λ_ d=>gz j0C λ_ f=>gz j0i λ_ g=> ?_;rewrite [<-b,<-d,<-f,<-g];kernel_rfl
def j0g (a:qG) (b:qG) (d:Bool->Res):Res:=bif (a.1==b.1) then bif sEq a.2.1 b.2.1 then j1A a.2.2.1 b.2.2.1 λr=>bif r then j2j a.2.2.2.1 b.2.2.2.1 λf=>bif f then bif sEq a.2.2.2.2.1 b.2.2.2.2.1 then d (sEq a.2.2.2.2.2 b.2.2.2.2.2) else d false else d false else d false else d false else d false
def j81:Sig Unit:=sg [.look y13 true,.look y13 true] [false] [(y13,none),(y13,none)] [] λb f k=>j0g b.1 b.2.1 (λd=>k [wB d] [] [])
theorem jaQ:SO 212 j81:=fK (np:=0) (Za6 jiD (Za6 jgu Zas)) [] oN false Tryz.func212 λ_ _ _ _=>by delta j0g jcU jaJ;refine gz j1A λ_ b=>gz j2j λ_ d=> ?_;rewrite [<-b,<-d];kernel_rfl
def j2w (d:qG) (b:Bool->Res):Res:=j0C d.2.1 λr=>bif !r then b false else bif (d.1==1) then j34 d λg=>j0S g λh=>bif h then bif sEq d.2.2.2.2.1 eS then b (sEq d.2.2.2.2.2 eS) else b false else b false else bif (d.1==2) then j0g d (d.1,d.2.1,[],[],eS,eS) λi=>b i else bif (d.1==3) then j0g d (d.1,d.2.1,d.2.2.1,[],eS,eS) λj=>bif j then bif ((nI (List.length d.2.2.1))==1) then bif inb 0 (List.length d.2.2.1) then j56 (nth (eS,0,false,false,0,0,eS) d.2.2.1 0) λk=>bif k then bif inb 0 (List.length d.2.2.1) then bif (nth (eS,0,false,false,0,0,eS) d.2.2.1 0).2.2.2.1 then b true else bif inb 0 (List.length d.2.2.1) then b (!(nth (eS,0,false,false,0,0,eS) d.2.2.1 0).2.2.1) else none else none else b false else none else b false else b false else bif (d.1==4) then j0g d (d.1,d.2.1,[],[],d.2.2.2.2.1,eS) λl=>bif l then j0C d.2.2.2.2.1 λm=>b m else b false else bif (d.1==5) then j0g d (d.1,d.2.1,[],[],d.2.2.2.2.1,d.2.2.2.2.2) λn=>bif n then j0C d.2.2.2.2.1 λp=>bif p then j0C d.2.2.2.2.2 λf=>b f else b false else b false else b false
def j4q:Sig Unit:=sg [.look y13 true] [false] [(y13,none)] [] λd f k=>j2w d.1 (λb=>k [wB b] [] [])
theorem je4:SO 211 j4q:=fK (np:=0) (Za6 j9L (Za6 jaQ (Za6 j67 (Za6 jf5 (Za6 jir Zas))))) [] oN false Tryz.func211 λ_ _ _ _=>by delta j2w j36 j80 j3S j81 jbi;refine gz j0C λ_ b=>gz j34 λ_ d=>gz j0S λ_ f=>gz j0g λ_ g=>gz j56 λ_ h=> ?_;rewrite [<-b,<-d,<-f,<-g,<-h];kernel_rfl
def jb2 (d:qG) (b:qG->Res):Res:=bif lim (0+(List.length d.2.2.1)) then j3N d.2.2.2.1 λr=>b (d.1,d.2.1,d.2.2.1,r,d.2.2.2.2) else none
def jgT:Sig Unit:=sg [.borrow y13 true] [true] [(y13,none)] [] λd f k=>jb2 d.1 (λb=>k [⟨y13,true,b,[.O,.O]⟩] [] [])
theorem jms:SO 275 jgT:=fK (np:=0) (Za6 je6 Zas) [] oN false Tryz.func275 λ_ _ _ _=>by kernel_rfl
def j55 (d:List qT) (h:Int) (c:List qT) (b:Int) (rec:Int->Res) (g:Unit->Res) (f:Unit->Res):Res:=bif decide (b<h) then bif inb b (List.length d) then j0S (nth (eS,[],[]) d b) λr=>bif !r then f () else bif decide (b>0) then bif inb (Z9K (b-1)) (List.length c) then bif sGe (nth (eS,[],[]) c (Z9K (b-1))).1 (nth (eS,[],[]) d b).1 then f () else rec (Z9K (b+1)) else none else rec (Z9K (b+1)) else none else g ()
def jaY (b:List qT) (d:Int) (c:List qT):Int->(Int->Res)->((Unit->Res)×(Unit->Res))->Res:=λv rec q=>j55 b d c v (λf=>rec (f)) q.1 q.2
def jd7 (f:List qT) (g:Int) (c:List qT) (n:Nat) (h:Int) (b:Unit->Res) (d:Unit->Res):Res:=Z1f (jaY f g c) n (h) (b,d)
def jh8:Z1d Unit:=NdL 37 37 [.t 1 (pB 1),.R 6 y30 .S,.I 7,.I 8] [(1,y30,[.S])] (λb d=>(b.2.2.1)) (λb v=>(b.1,b.2.1,v,())) (λd v=>((d.1.1,d.1.2),())) (λb d=>jaY b.1 b.2.1 d.1.2) λb d f=>((λ_=>f (.exit 0) [(1,pB 1)] [(1,⟨y30,d.1.1,d.1.2,[.S]⟩)]),(λ_=>f .ret [(2,vB false)] []))
theorem jmO:CN 0 26 Tryz.f250 jh8:=lK (Za6 j67 Zas) [] oN ([],[]) [(0,[1],[1])] ([2],[]) λ_ _ _ _ _=>by kernel_rfl
def j72 (c:List qT) (b:Bool->Res):Res:=jd7 c (nI (List.length c)) c Z1c 0 (λ_=>b (decide ((nI (List.length c))<=6))) (λ_=>b false)
def j8q:Sig Unit:=sg [.look y30 true] [false] [(y30,none)] [] λd f k=>j72 d.1 (λb=>k [wB b] [] [])
theorem jiq:SO 250 j8q:=fK (np:=0) (Za6 j67 Zas) [jh8] (oI 26 0 @jmO oN) false Tryz.func250 λ_ _ _ _=>by kernel_rfl
def j3j (f:List qT) (h:Int) (b:Int) (d:List qT) (rec:Int->qF->Res) (g:qF->Res):Res:=bif decide (b<h) then bif inb b (List.length f) then j3M (nth (eS,[],[]) f b) λr=>bif lim ((List.length d)+1) then rec (Z9K (b+1)) (d++[r]) else none else none else g d
def j9g (f:List qT) (g:Int):(Int×qF)->(Int×qF->Res)->((qF->Res))->Res:=λv rec q=>j3j f g v.1 v.2 (λd b=>rec (d,b)) q
def jfi (g:List qT) (h:Int) (n:Nat) (d:Int) (b:List qT) (f:qF->Res):Res:=Z1f (j9g g h) n (d,b) (f)
def jeU:Z1d Unit:=NdL 23 23 [.t 2 (pB 2),.t 3 (pB 3),.R 8 y30 .S,.I 9,.I 10] [(2,y30,[.O]),(3,y30,[.O])] (λd b=>(d.2.2.1,b.2.1.2)) (λd v=>(d.1,d.2.1,v.1,())) (λb v=>((b.1.1,b.1.2),(b.2.1.1,v.2),())) (λd b=>j9g d.1 d.2.1) λd b g=>((λf=>g (.exit 0) [(2,pB 2),(3,pB 3)] [(2,⟨y30,b.1.1,b.1.2,[.O]⟩),(3,⟨y30,b.2.1.1,f,[.O]⟩)]))
theorem jkE:CN 0 58 Tryz.f231 jeU:=lK (Za6 ja4 Zas) [] oN ([],[]) [(0,[2,3],[2,3])] ([],[]) λ_ _ _ _ _=>by kernel_rfl
def j43 (c:List qT) (d:qF->Res):Res:=jfi c (nI (List.length c)) Z1c 0 [] λb=>d b
def j6v:Sig Unit:=sg [.borrow y30 true] [true] [(y30,none)] [] λd f k=>j43 d.1 (λb=>k [⟨y30,true,b,[.O]⟩] [] [])
theorem jgr:SO 231 j6v:=fK (np:=0) (Za6 ja4 Zas) [jeU] (oI 58 0 @jkE oN) false Tryz.func231 λ_ _ _ _=>by kernel_rfl
def jem (t:qB×qE×qL) (d:qB) (b:Bool->Res):Res:=b (sEq t.1 d)
def jn5:Sig Unit:=sg [.look y29 true,.rptr .str] [false] [(y29,none),(.str,none)] [] λb f k=>jem b.1 b.2.1 (λd=>k [wB d] [] [])
theorem jgm:SO 235 jn5:=fK (np:=0) Zas [] oN false Tryz.func235 λ_ _ _ _=>by kernel_rfl
def j0L (s:List qT) (f:qB) (h:Int) (b:Int) (rec:Int->Res) (d:Unit->Res) (g:Int->Res):Res:=bif decide (b<h) then bif inb b (List.length s) then jem (nth (eS,[],[]) s b) f λr=>bif r then g b else rec (Z9K (b+1)) else none else d ()
def j2N (s:List qT) (f:qB) (b:Int):Int->(Int->Res)->((Unit->Res)×(Int->Res))->Res:=λv rec q=>j0L s f b v (λd=>rec (d)) q.1 q.2
def j84 (s:List qT) (f:qB) (g:Int) (n:Nat) (h:Int) (b:Unit->Res) (d:Int->Res):Res:=Z1f (j2N s f g) n (h) (b,d)
def j7E:Z1d Unit:=NdL 19 19 [.R 0 y30 .S,.c 1 235 [.str] .str [],.I 7,.I 8] [] (λb d=>(b.2.2.2.1)) (λb v=>(b.1,b.2.1,b.2.2.1,v,())) (λd v=>()) (λb d=>j2N b.1 b.2.1 b.2.2.1) λb d f=>((λ_=>f (.exit 0) [] []),(λg=>f .ret [(4,vI g)] []))
theorem jda:CN 0 26 Tryz.f234 j7E:=lK (Za6 jgm Zas) [] oN ([],[]) [(0,[],[])] ([4],[]) λ_ _ _ _ _=>by kernel_rfl
def j5G (s:List qT) (f:qB) (b:Int->Res):Res:=j84 s f (nI (List.length s)) Z1c 0 (λ_=>b (-1)) (λt=>b t)
def jeK:Sig Unit:=sg [.look y30 false,.rclos 235 [.str]] [false] [(y30,none),(.str,none)] [] λb f k=>j5G b.1 b.2.1 (λd=>k [wI d] [] [])
theorem jec:SO 234 jeK:=fK (np:=0) (Za6 jgm Zas) [j7E] (oI 26 0 @jda oN) false Tryz.func234 λ_ _ _ _=>by kernel_rfl
def j0j (c:List qT) (name:qB) (b:Int->Res):Res:=j5G c name λr=>b r
def j0T:Sig Unit:=sg [.look y30 true,.look .str false] [false] [(y30,none),(.str,none)] [] λb f k=>j0j b.1 b.2.1 (λd=>k [wI d] [] [])
theorem j7q:SO 176 j0T:=fK (np:=0) (Za6 jec Zas) [] oN false Tryz.func176 λ_ _ _ _=>by kernel_rfl
theorem j8L:FS [(95,j4s),(176,j0T),(284,j0U)]:=(Za6 jeb (Za6 j7q (Za6 j3Y Zas)))
def j5c (d:qG) (t:qB×qE×qL) (b:Bool->Res):Res:=bif (d.1==3) then bif inb 0 (List.length d.2.2.1) then j0h t (nth (eS,0,false,false,0,0,eS) d.2.2.1 0).1 λr=>bif decide (r>=0) then b true else bif (d.1==5) then j0h t d.2.2.2.2.2 λf=>b (decide (f>=0)) else b false else none else bif (d.1==5) then j0h t d.2.2.2.2.2 λg=>b (decide (g>=0)) else b false
def j4H:Z1d Unit:=Nd 92 92 [.t 3 (pB 3),.t 6 (pB 6)] [(3,y13,[.S,.S]),(6,y29,[.S,.S])] λg b f=>j5c b.1.2 b.2.1.2 (λd=>f .normal [(3,pB 3),(6,pB 6),(29,vB d)] [(3,⟨y13,b.1.1,b.1.2,[.S,.S]⟩),(6,⟨y29,b.2.1.1,b.2.1.2,[.S,.S]⟩)])
theorem jkF:CN 0 504 Tryz.f317 j4H:=nK j8L [] oN ([3,6,29],[3,6]) [] ([],[]) λ_ _ _=>by delta j5c j0U;refine gz j0h λ_ b=> ?_;rewrite [<-b];kernel_rfl
def j7Z (d:qG) (t:qB×qE×qL) (b:Bool->Res):Res:=bif (d.1==3) then b ((nI (List.length t.2.1))==8) else b false
def j7k:Z1d Unit:=Nd 92 92 [.t 3 (pB 3),.t 6 (pB 6)] [(3,y13,[.S,.S]),(6,y29,[.S,.S])] λg b f=>j7Z b.1.2 b.2.1.2 (λd=>f .normal [(3,pB 3),(6,pB 6),(55,vB d)] [(3,⟨y13,b.1.1,b.1.2,[.S,.S]⟩),(6,⟨y29,b.2.1.1,b.2.1.2,[.S,.S]⟩)])
theorem jkG:CN 0 2022 Tryz.f317 j7k:=nK j8L [j4H] oN ([3,6,55],[3,6]) [] ([],[]) λ_ _ _=>by kernel_rfl
def j5d (d:qG) (t:qB×qE×qL) (b:Bool->Res):Res:=bif (d.1==4) then j0h t d.2.2.2.2.1 λr=>b (decide (r<0)) else bif (d.1==5) then j0h t d.2.2.2.2.1 λf=>b (decide (f<0)) else b false
def jax:Z1d Unit:=Nd 92 92 [.t 3 (pB 3),.t 6 (pB 6)] [(3,y13,[.S,.S]),(6,y29,[.S,.S])] λg b f=>j5d b.1.2 b.2.1.2 (λd=>f .normal [(3,pB 3),(6,pB 6),(65,vB d)] [(3,⟨y13,b.1.1,b.1.2,[.S,.S]⟩),(6,⟨y29,b.2.1.1,b.2.1.2,[.S,.S]⟩)])
theorem jkH:CN 0 8094 Tryz.f317 jax:=nK j8L [j4H,j7k] oN ([3,6,65],[3,6]) [] ([],[]) λ_ _ _=>by delta j5d j0U;refine gz j0h λ_ b=> ?_;rewrite [<-b];kernel_rfl
def j2E (c:List qT) (d:qG) (b:Int->Res):Res:=j0j c d.2.1 λr=>bif (d.1==1) then bif decide (r>=0) then b 2 else bif ((nI (List.length c))==6) then b 3 else b 0 else bif decide (r<0) then b 4 else bif inb r (List.length c) then j5c d (nth (eS,[],[]) c r) λt=>bif t then b 5 else j7Z d (nth (eS,[],[]) c r) λg=>bif g then b 6 else j5d d (nth (eS,[],[]) c r) λh=>bif h then b 7 else bif (d.1==4) then j1o (nth (eS,[],[]) c r).2.2 d.2.2.2.2.1 λf=>bif f then b 8 else b 0 else b 0 else none
def j6w:Sig Unit:=sg [.look y30 true,.look y13 true] [false] [(y30,none),(y13,none)] [] λb f k=>j2E b.1 b.2.1 (λd=>k [wI d] [] [])
theorem jgs:SO 317 j6w:=fK (np:=0) j8L [j4H,j7k,jax] (oI 504 0 @jkF (oI 2022 1 @jkG (oI 8094 2 @jkH oN))) false Tryz.func317 λ_ _ _ _=>by delta j2E j0T j4H j7k jax j4s;refine gz j0j λ_ b=>gz j5c λ_ d=>gz j7Z λ_ f=>gz j5d λ_ g=>gz j1o λ_ h=> ?_;rewrite [<-b,<-d,<-f,<-g,<-h];kernel_rfl
def jc4 (x:qB×Int×Bool×Bool×Int×Int×qB) (d:qG) (b:Bool->Res):Res:=b (sEq x.1 d.2.2.2.2.1)
def jl4:Sig Unit:=sg [.look y7 true,.rptr y13] [false] [(y7,none),(y13,none)] [] λb f k=>jc4 b.1 b.2.1 (λd=>k [wB d] [] [])
theorem jkf:SO 321 jl4:=fK (np:=0) Zas [] oN false Tryz.func321 λ_ _ _ _=>by kernel_rfl
def j2W (s:List qC) (b:qG) (d:qE->qG->Res):Res:=bif lim (List.length s) then dgE (λe k=>jc4 e b k) s [] (λr=>d r b) else none
def j4Q:Sig Unit:=⟨[.eat y8 false,.clos 321 [y13]],[false],λvals ext k=>ao vals y8 [.O] λs vals=>nl vals<|ab ext y13 [.S,.S] λa0 f ext=>nl ext<|j2W s f (λd b=>k [w1 y8 d .O] [] [⟨y13,a0,b,[.S,.S]⟩])⟩
theorem jf2:Z17 Tryz.prog 320 j4Q:=gS (jtF (U:=0) (T:=280) (e:=y7) (ag:=true) (τ:=y13) (tg:=[.S,.S]) (fl:=[9,3,4,4,151]) (S:=116) (E:=213) (I:=3) (B:=4) follows j1y (by kernel_rfl) Tryz.underlying116 (by kernel_rfl) (by kernel_rfl) (by kernel_rfl) (by kernel_rfl) Tryz.isAgg280 Tryz.sizeOf280 (by kernel_rfl) (by kernel_rfl) (by kernel_rfl) Tryz.func307 (by kernel_rfl) (by kernel_rfl) (by kernel_rfl) (by kernel_rfl) jkf (by kernel_rfl) Tryz.func320 (by kernel_rfl) (by kernel_rfl) (by kernel_rfl) (by kernel_rfl)) (by kernel_rfl)
theorem jaO:FS [(166,j6z),(176,j0T),(211,j4q),(231,j6v),(250,j8q),(269,j80),(284,j0U),(317,j6w),(318,j6A),(319,j6y),(320,j4Q)]:=(Za6 jaE (Za6 j7q (Za6 je4 (Za6 jgr (Za6 jiq (Za6 jf5 (Za6 j3Y (Za6 jgs (Za6 jgv (Za6 jgt (Za6 jf2 Zas)))))))))))
def j2C (d:qG) (f:List qT) (b:Int) (rec:Int->Res) (g:Int->Res):Res:=bif decide (b<(nI (List.length f))) then bif inb b (List.length f) then bif sLt (nth (eS,[],[]) f b).1 d.2.1 then rec (Z9K (b+1)) else g b else none else g b
def j57 (d:qG) (f:List qT):Int->(Int->Res)->((Int->Res))->Res:=λv rec q=>j2C d f v (λb=>rec (b)) q
def jaa (d:qG) (f:List qT) (n:Nat) (b:Int) (g:Int->Res):Res:=Z1f (j57 d f) n (b) (g)
def j62:Z1d Unit:=NdL 146 146 [.t 3 (pB 3),.t 4 (pB 4),.t 7 (pB 7),.I 9] [(3,y13,[.S,.S]),(4,y30,[.O]),(7,y30,[.O])] (λf b=>(f.1)) (λf v=>(v,())) (λb v=>((b.1.1,b.1.2),(b.2.1.1,b.2.1.2),(b.2.2.1.1,b.2.2.1.2),())) (λf b=>j57 b.1.2 b.2.2.1.2) λf b g=>((λd=>g (.exit 1) [(3,pB 3),(4,pB 4),(7,pB 7),(9,vI d)] [(3,⟨y13,b.1.1,b.1.2,[.S,.S]⟩),(4,⟨y30,b.2.1.1,b.2.1.2,[.O]⟩),(7,⟨y30,b.2.2.1.1,b.2.2.1.2,[.O]⟩)]))
theorem jju:CN 0 16212 Tryz.f295 j62:=lK jaO [] oN ([],[]) [(1,[3,4,7,9],[3,4,7])] ([],[]) λ_ _ _ _ _=>by kernel_rfl
def j1z (f:Int) (h:Int) (d:qG) (b:List qT) (i:qF->Res):Res:=bif (h==1) then jaa d b Z1c 0 λj=>j34 d λr=>j4N b j [r] λl=>i l else bif (h==2) then j4M b f (Z9K (f+1)) λm=>i m else bif (h==3) then bif inb f (List.length b) then bif inb 0 (List.length d.2.2.1) then bif lim ((List.length (nth (eS,[],[]) b f).2.1)+1) then bif inb f (List.length (upd b f ((nth (eS,[],[]) b f).1,((nth (eS,[],[]) b f).2.1++[nth (eS,0,false,false,0,0,eS) d.2.2.1 0]),(nth (eS,[],[]) b f).2.2))) then bif (Z9o (Int.toNat f) (Int.toNat f)&&true) then i (upd b f ((nth (eS,[],[]) b f).1,((nth (eS,[],[]) b f).2.1++[nth (eS,0,false,false,0,0,eS) d.2.2.1 0]),(nth (eS,[],[]) b f).2.2)) else none else none else none else none else none else bif (h==4) then bif inb f (List.length b) then j2W (nth (eS,[],[]) b f).2.1 d λn p=>bif (Z9o (Int.toNat f) (Int.toNat f)&&true) then i (upd b f ((nth (eS,[],[]) b f).1,n,(nth (eS,[],[]) b f).2.2)) else none else none else bif (h==5) then bif inb f (List.length b) then j0h (nth (eS,[],[]) b f) d.2.2.2.2.1 λg=>bif inb g (List.length (nth (eS,[],[]) b f).2.1) then j0Z (nth (eS,[],[]) (upd b f ((nth (eS,[],[]) b f).1,upd (nth (eS,[],[]) b f).2.1 g (d.2.2.2.2.2,(nth (eS,0,false,false,0,0,eS) (nth (eS,[],[]) b f).2.1 g).2),(nth (eS,[],[]) b f).2.2)) f).2.2 d.2.2.2.2.1 λk=>bif decide (k>=0) then bif inb k (List.length (nth (eS,[],[]) (upd b f ((nth (eS,[],[]) b f).1,upd (nth (eS,[],[]) b f).2.1 g (d.2.2.2.2.2,(nth (eS,0,false,false,0,0,eS) (nth (eS,[],[]) b f).2.1 g).2),(nth (eS,[],[]) b f).2.2)) f).2.2) then i (upd (upd b f ((nth (eS,[],[]) b f).1,upd (nth (eS,[],[]) b f).2.1 g (d.2.2.2.2.2,(nth (eS,0,false,false,0,0,eS) (nth (eS,[],[]) b f).2.1 g).2),(nth (eS,[],[]) b f).2.2)) f ((nth (eS,[],[]) (upd b f ((nth (eS,[],[]) b f).1,upd (nth (eS,[],[]) b f).2.1 g (d.2.2.2.2.2,(nth (eS,0,false,false,0,0,eS) (nth (eS,[],[]) b f).2.1 g).2),(nth (eS,[],[]) b f).2.2)) f).1,(nth (eS,[],[]) (upd b f ((nth (eS,[],[]) b f).1,upd (nth (eS,[],[]) b f).2.1 g (d.2.2.2.2.2,(nth (eS,0,false,false,0,0,eS) (nth (eS,[],[]) b f).2.1 g).2),(nth (eS,[],[]) b f).2.2)) f).2.1,upd (nth (eS,[],[]) (upd b f ((nth (eS,[],[]) b f).1,upd (nth (eS,[],[]) b f).2.1 g (d.2.2.2.2.2,(nth (eS,0,false,false,0,0,eS) (nth (eS,[],[]) b f).2.1 g).2),(nth (eS,[],[]) b f).2.2)) f).2.2 k d.2.2.2.2.2)) else none else i (upd b f ((nth (eS,[],[]) b f).1,upd (nth (eS,[],[]) b f).2.1 g (d.2.2.2.2.2,(nth (eS,0,false,false,0,0,eS) (nth (eS,[],[]) b f).2.1 g).2),(nth (eS,[],[]) b f).2.2)) else none else none else i b
def j9s:Z1d Unit:=Nd 146 146 [.t 3 (pB 3),.t 4 (pB 4),.t 7 (pB 7),.I 8,.I 36] [(3,y13,[.S,.S]),(4,y30,[.O]),(7,y30,[.O])] λf d g=>j1z f.1 f.2.1 d.1.2 d.2.2.1.2 (λb=>g .normal [(4,pB 4),(7,pB 7)] [(4,⟨y30,d.2.1.1,d.2.1.2,[.O]⟩),(7,⟨y30,d.2.2.1.1,b,[.O]⟩)])
theorem jjv:CN 0 253 Tryz.f295 j9s:=nK jaO [j62] (oI 84 0 @jju oN) ([4,7],[4,7]) [] ([],[]) λ_ _ _=>by delta j1z j62 j80 j6A j6y j4Q j0U j6z jaa;refine gz j57 λ_ b=>gz j34 λ_ d=>gz j4N λ_ f=>gz j4M λ_ g=>gz j2W λ_ h=>gz j0h λ_ i=>gz j0Z λ_ j=> ?_;rewrite [<-b,<-d,<-f,<-g,<-h,<-i,<-j];kernel_rfl
def j4S (c:List qT) (d:qG) (b:qF->Int->Res):Res:=j72 c λr=>bif !r then b [] 1 else j2w d λh=>bif !h then b [] 1 else j2E c d λg=>bif (g != 0) then b [] g else j43 c λi=>j0j c d.2.1 λj=>j1z j d.1 d i λf=>b f 0
def jbj:Sig Unit:=sg [.borrow y30 true,.borrow y13 true] [true,false] [(y30,none),(y13,none)] [] λb g k=>j4S b.1 b.2.1 (λd f=>k [⟨y30,true,d,[.O]⟩,wI f] [] [])
theorem jl9:SO 295 jbj:=fK (np:=0) jaO [j62,j9s] (oI 253 1 @jjv oN) false Tryz.func295 λ_ _ _ _=>by delta j4S j8q j4q j6w j6v j0T j9s;refine gz j72 λ_ b=>gz j2w λ_ d=>gz j2E λ_ f=>gz j43 λ_ g=>gz j0j λ_ h=>gz j1z λ_ i=> ?_;rewrite [<-b,<-d,<-f,<-g,<-h,<-i];kernel_rfl
end
end Go.PI.G
