/-
  Program's code interpreted over typed values; printed texts; plain laws. No conditions.
-/
import Derived.Test.YtnemiodjnhfejaaGreatDAd
set_option linter.unusedVariables false
set_option maxRecDepth 100000
namespace Go.PI.G
noncomputable section
open Go Go.PI Go.Proofs
open Go.Code (pl pr)
def j4O (s:qB) (i:Int) (rec:Int->Res) (d:Unit->Res) (b:Unit->Res):Res:=bif decide (i<(nI (ByteArray.size s))) then bif inb i (ByteArray.size s) then bif decide ((bt s i)<97) then b () else bif inb i (ByteArray.size s) then bif decide ((bt s i)>122) then b () else rec (Z9K (i+1)) else none else none else d ()
def jaM (s:qB):Int->(Int->Res)->((Unit->Res)×(Unit->Res))->Res:=λv rec q=>j4O s v (λi=>rec (i)) q.1 q.2
def jhw (s:qB) (n:Nat) (i:Int) (b:Unit->Res) (d:Unit->Res):Res:=Z1f (jaM s) n (i) (b,d)
def jgm:Z1d Unit:=NdL 28 28 [.S 0,.I 3] [] (λb d=>(b.2.1)) (λb v=>(b.1,v,())) (λd v=>()) (λb d=>jaM b.1) λb d f=>((λ_=>f (.exit 0) [(0,vS b.1)] []),(λ_=>f .ret [(2,vB false)] []))
theorem jmM:CN 0 26 Tryz.f154 jgm:=lK Zas [] oN ([],[]) [(0,[0],[])] ([2],[]) λ_ _ _ _ _=>by kernel_rfl
def j0S (s:qB) (b:Bool->Res):Res:=jhw s Z1c 0 (λ_=>bif decide ((nI (ByteArray.size s))>=1) then b (decide ((nI (ByteArray.size s))<=8)) else b false) (λ_=>b false)
def j3m:Sig Unit:=sg [.look .str false] [false] [(.str,none)] [] λd f k=>j0S d.1 (λb=>k [wB b] [] [])
theorem jal:SO 154 j3m:=fK (np:=0) Zas [jgm] (oI 26 0 @jmM oN) false Tryz.func154 λ_ _ _ _=>by kernel_rfl
def jgN (d:Int) (b:Bool->Res):Res:=bif decide (d>=(-1099511627775)) then b (decide (d<=1099511627775)) else b false
def jps:Sig Unit:=sg [.look tI false] [false] [(tI,none)] [] λd f k=>jgN d.1 (λb=>k [wB b] [] [])
theorem joX:SO 180 jps:=fK (np:=0) Zas [] oN false Tryz.func180 λ_ _ _ _=>by kernel_rfl
def j1A (b:Int×Int×qB) (d:Bool->Res):Res:=bif (b.1==0) then bif (b.2.1==0) then d (sEq b.2.2 eS) else d false else bif (b.1==1) then bif (b.2.1==0) then d (sEq b.2.2 eS) else bif (b.2.1==1) then d (sEq b.2.2 eS) else d false else bif (b.1==2) then jgN b.2.1 λr=>bif r then d (sEq b.2.2 eS) else d false else bif (b.1==3) then bif (b.2.1==0) then d (decide ((nI (ByteArray.size b.2.2))<=30)) else d false else d false
def jbJ:Sig Unit:=sg [.look y2 true] [false] [(y2,none)] [] λd f k=>j1A d.1 (λb=>k [wB b] [] [])
theorem j8G:SO 266 jbJ:=fK (np:=0) (Za6 joX Zas) [] oN false Tryz.func266 λ_ _ _ _=>by kernel_rfl
def j98 (a:Int×Int×qB) (b:Int×Int×qB) (d:Bool->Res):Res:=j1A a λr=>bif !r then d false else j1A b λf=>bif !f then d false else bif (a.1 != b.1) then d (decide (a.1<b.1)) else bif decide (a.2.1<b.2.1) then d true else bif (a.2.1==b.2.1) then d (sLt a.2.2 b.2.2) else d false
def jo2:Sig Unit:=sg [.look y2 true,.look y2 true] [false] [(y2,none),(y2,none)] [] λb f k=>j98 b.1 b.2.1 (λd=>k [wB d] [] [])
theorem jh3:SO 282 jo2:=fK (np:=0) (Za6 j8G Zas) [] oN false Tryz.func282 λ_ _ _ _=>by delta j98 jbJ;refine gz j1A λ_ b=> ?_;rewrite [<-b];kernel_rfl
def j0k (x:Int) (f:Int) (d:Int) (b:Bool->Res):Res:=bif decide (x>=f) then b (decide (x<=d)) else b false
def j2n:Sig Unit:=sg [.look tI false,.look tI false,.look tI false] [false] [(tI,none),(tI,none),(tI,none)] [] λb f k=>j0k b.1 b.2.1 b.2.2.1 (λd=>k [wB d] [] [])
theorem j3g:SO 163 j2n:=fK (np:=0) Zas [] oN false Tryz.func163 λ_ _ _ _=>by kernel_rfl
def j4i (s:qB) (i:Int) (rec:Int->Res) (d:Unit->Res) (b:Unit->Res):Res:=bif decide (i<(nI (ByteArray.size s))) then bif inb i (ByteArray.size s) then bif decide ((bt s i)<97) then b () else bif inb i (ByteArray.size s) then bif decide ((bt s i)>122) then b () else rec (Z9K (i+1)) else none else none else d ()
def j7o (s:qB):Int->(Int->Res)->((Unit->Res)×(Unit->Res))->Res:=λv rec q=>j4i s v (λi=>rec (i)) q.1 q.2
def jcA (s:qB) (n:Nat) (i:Int) (b:Unit->Res) (d:Unit->Res):Res:=Z1f (j7o s) n (i) (b,d)
def jbZ:Z1d Unit:=NdL 23 23 [.S 0,.I 3] [] (λb d=>(b.2.1)) (λb v=>(b.1,v,())) (λd v=>()) (λb d=>j7o b.1) λb d f=>((λ_=>f (.exit 0) [(0,vS b.1)] []),(λ_=>f .ret [(2,vB false)] []))
theorem jms:CN 0 26 Tryz.f160 jbZ:=lK (Za6 j3g Zas) [] oN ([],[]) [(0,[0],[])] ([2],[]) λ_ _ _ _ _=>by kernel_rfl
def j0E (s:qB) (b:Bool->Res):Res:=jcA s Z1c 0 (λ_=>j0k (nI (ByteArray.size s)) 1 8 λr=>b r) (λ_=>b false)
def j3k:Sig Unit:=sg [.look .str false] [false] [(.str,none)] [] λd f k=>j0E d.1 (λb=>k [wB b] [] [])
theorem jak:SO 160 j3k:=fK (np:=0) (Za6 j3g Zas) [jbZ] (oI 26 0 @jms oN) false Tryz.func160 λ_ _ _ _=>by delta j0E jbZ j2n jcA;refine gz j7o λ_ b=>gz j0k λ_ d=> ?_;rewrite [<-b,<-d];kernel_rfl
def j1j (b:Int×Int×qB) (d:Bool->Res):Res:=bif (b.1==0) then d ((b.1==0)&&((b.2.1==0)&&(sEq b.2.2 eS))) else bif (b.1==1) then j0k b.2.1 0 1 λr=>bif r then d (sEq b.2.2 eS) else d false else bif (b.1==2) then j0k b.2.1 (-1099511627775) 1099511627775 λf=>bif f then d (sEq b.2.2 eS) else d false else bif (b.1==3) then bif (b.2.1==0) then d (decide ((nI (ByteArray.size b.2.2))<=30)) else d false else d false
def j8W:Sig Unit:=sg [.look y2 true] [false] [(y2,none)] [] λd f k=>j1j d.1 (λb=>k [wB b] [] [])
theorem j8E:SO 273 j8W:=fK (np:=0) (Za6 j3g Zas) [] oN false Tryz.func273 λ_ _ _ _=>by delta j1j j2n;refine gz j0k λ_ b=> ?_;rewrite [<-b];kernel_rfl
def j8L (a:Int×Int×qB) (b:Int×Int×qB) (d:Bool->Res):Res:=j1j a λr=>bif !r then d false else j1j b λf=>bif !f then d false else bif (a.1 != b.1) then d (decide (a.1<b.1)) else bif (a.2.1 != b.2.1) then d (decide (a.2.1<b.2.1)) else d (sLt a.2.2 b.2.2)
def jo1:Sig Unit:=sg [.look y2 true,.look y2 true] [false] [(y2,none),(y2,none)] [] λb f k=>j8L b.1 b.2.1 (λd=>k [wB d] [] [])
theorem jgW:SO 316 jo1:=fK (np:=0) (Za6 j8E Zas) [] oN false Tryz.func316 λ_ _ _ _=>by delta j8L j8W;refine gz j1j λ_ b=> ?_;rewrite [<-b];kernel_rfl
end
end Go.PI.G
namespace Go.PI.G
noncomputable section
open Go Go.PI Go.Proofs
open Go.Code (pl pr)
def j5R (c:qB×Int×Bool×Bool×Int×Int×qB) (b:Bool->Res):Res:=j0S c.1 λr=>bif !r then b false else bif decide (c.2.1<1) then b false else bif decide (c.2.1>3) then b false else bif !c.2.2.2.1 then b ((c.2.2.2.2.1==0)&&((c.2.2.2.2.2.1==0)&&(sEq c.2.2.2.2.2.2 eS))) else j1A c.2.2.2.2 λd=>bif d then bif ((c.2.2.2.2.1==0)&&((c.2.2.2.2.2.1==0)&&(sEq c.2.2.2.2.2.2 eS))) then bif ((c.2.2.2.2.1==0)&&((c.2.2.2.2.2.1==0)&&(sEq c.2.2.2.2.2.2 eS))) then b (!c.2.2.1) else b true else bif (c.2.2.2.2.1==c.2.1) then bif ((c.2.2.2.2.1==0)&&((c.2.2.2.2.2.1==0)&&(sEq c.2.2.2.2.2.2 eS))) then b (!c.2.2.1) else b true else b false else b false
def j91:Sig Unit:=sg [.look y7 true] [false] [(y7,none)] [] λd f k=>j5R d.1 (λb=>k [wB b] [] [])
theorem jjh:SO 267 j91:=fK (np:=0) (Za6 jal (Za6 j8G Zas)) [] oN false Tryz.func267 λ_ _ _ _=>by delta j5R j3m jbJ;refine gz j0S λ_ b=>gz j1A λ_ d=> ?_;rewrite [<-b,<-d];kernel_rfl
def j5Q (name:qB) (d:List qC) (h:Int) (b:Int) (rec:Int->Res) (f:Unit->Res) (g:Int->Res):Res:=bif decide (b<h) then bif inb b (List.length d) then bif sEq (nth (eS,0,false,false,0,0,eS) d b).1 name then g b else rec (Z9K (b+1)) else none else f ()
def jbP (name:qB) (d:List qC) (f:Int):Int->(Int->Res)->((Unit->Res)×(Int->Res))->Res:=λv rec q=>j5Q name d f v (λb=>rec (b)) q.1 q.2
def jiO (name:qB) (g:List qC) (h:Int) (n:Nat) (b:Int) (d:Unit->Res) (f:Int->Res):Res:=Z1f (jbP name g h) n (b) (d,f)
def jhJ:Z1d Unit:=NdL 21 21 [.S 1,.R 8 y8 .S,.I 9,.I 10] [] (λb d=>(b.2.2.2.1)) (λb v=>(b.1,b.2.1,b.2.2.1,v,())) (λd v=>()) (λb d=>jbP b.1 b.2.1 b.2.2.1) λb d f=>((λ_=>f (.exit 0) [] []),(λg=>f .ret [(4,vI g)] []))
theorem jnP:CN 0 26 Tryz.f230 jhJ:=lK Zas [] oN ([],[]) [(0,[],[])] ([4],[]) λ_ _ _ _ _=>by kernel_rfl
def j0W (t:qB×qE×qL) (name:qB) (b:Int->Res):Res:=jiO name t.2.1 (nI (List.length t.2.1)) Z1c 0 (λ_=>b (-1)) (λd=>b d)
def j2X:Sig Unit:=sg [.look y29 true,.look .str false] [false] [(y29,none),(.str,none)] [] λb f k=>j0W b.1 b.2.1 (λd=>k [wI d] [] [])
theorem j6u:SO 230 j2X:=fK (np:=0) Zas [jhJ] (oI 26 0 @jnP oN) false Tryz.func230 λ_ _ _ _=>by kernel_rfl
theorem j9k:FS [(154,j3m),(230,j2X),(267,j91)]:=(Za6 jal (Za6 j6u (Za6 jjh Zas)))
def j5Y (t:qB×qE×qL) (b:Bool->Res):Res:=j0S t.1 λr=>bif !r then b true else bif decide ((nI (List.length t.2.1))<1) then b true else bif decide ((nI (List.length t.2.1))>8) then b true else b (decide ((nI (List.length t.2.2))<1))
def j51:Z1d Unit:=Nd 75 75 [.t 1 (pB 1)] [(1,y29,[.S,.S])] λg d f=>j5Y d.1.2 (λb=>f .normal [(1,pB 1),(30,vB b)] [(1,⟨y29,d.1.1,d.1.2,[.S,.S]⟩)])
theorem jlI:CN 0 12 Tryz.f227 j51:=nK j9k [] oN ([1,30],[1]) [] ([],[]) λ_ _ _=>by kernel_rfl
def j2g (d:List qC) (f:Int) (t:qB×qE×qL) (b:Int) (rec:Int->Res) (h:Unit->Res) (g:Unit->Res):Res:=bif decide (b<f) then bif inb b (List.length d) then j5R (nth (eS,0,false,false,0,0,eS) d b) λr=>bif !r then g () else j0W t (nth (eS,0,false,false,0,0,eS) d b).1 λi=>bif (i != b) then g () else rec (Z9K (b+1)) else none else h ()
def j3D (b:List qC) (d:Int) (t:qB×qE×qL):Int->(Int->Res)->((Unit->Res)×(Unit->Res))->Res:=λv rec q=>j2g b d t v (λf=>rec (f)) q.1 q.2
def j8z (b:List qC) (d:Int) (t:qB×qE×qL) (n:Nat) (f:Int) (g:Unit->Res) (h:Unit->Res):Res:=Z1f (j3D b d t) n (f) (g,h)
def j7H:Z1d Unit:=NdL 75 75 [.t 1 (pB 1),.R 32 y8 .S,.I 33,.I 34] [(1,y29,[.S,.S])] (λb d=>(b.2.2.1)) (λb v=>(b.1,b.2.1,v,())) (λd v=>((d.1.1,d.1.2),())) (λb d=>j3D b.1 b.2.1 d.1.2) λb d f=>((λ_=>f (.exit 0) [(1,pB 1)] [(1,⟨y29,d.1.1,d.1.2,[.S,.S]⟩)]),(λ_=>f .ret [(2,vB false)] []))
theorem jlG:CN 0 58 Tryz.f227 j7H:=lK j9k [j51] oN ([],[]) [(0,[1],[1])] ([2],[]) λ_ _ _ _ _=>by delta j3D j2g j91 j2X;refine gz j5R λ_ b=>gz j0W λ_ d=> ?_;rewrite [<-b,<-d];kernel_rfl
def j3E (f:qL) (g:Int) (t:qB×qE×qL) (d:Int) (b:Int) (rec:Int->Int->Res) (i:Unit->Res) (h:Unit->Res):Res:=bif decide (b<g) then bif inb b (List.length f) then j0W t (nth eS f b) λr=>bif decide (r<=d) then h () else bif inb r (List.length t.2.1) then bif !(nth (eS,0,false,false,0,0,eS) t.2.1 r).2.2.1 then h () else rec r (Z9K (b+1)) else none else none else i ()
def j6f (d:qL) (f:Int) (t:qB×qE×qL):(Int×Int)->(Int×Int->Res)->((Unit->Res)×(Unit->Res))->Res:=λv rec q=>j3E d f t v.1 v.2 (λb g=>rec (b,g)) q.1 q.2
def j8A (d:qL) (f:Int) (t:qB×qE×qL) (n:Nat) (b:Int) (g:Int) (h:Unit->Res) (i:Unit->Res):Res:=Z1f (j6f d f t) n (b,g) (h,i)
def jb0:Z1d Unit:=NdL 75 75 [.t 1 (pB 1),.I 5,.R 52 y0 .S,.I 53,.I 54] [(1,y29,[.S,.S])] (λb d=>(b.1,b.2.2.2.1)) (λb v=>(v.1,b.2.1,b.2.2.1,v.2,())) (λd v=>((d.1.1,d.1.2),())) (λb d=>j6f b.2.1 b.2.2.1 d.1.2) λb d f=>((λ_=>f (.exit 2) [] []),(λ_=>f .ret [(2,vB false)] []))
theorem jlH:CN 0 250 Tryz.f227 jb0:=lK j9k [j51,j7H] oN ([],[]) [(2,[],[])] ([2],[]) λ_ _ _ _ _=>by kernel_rfl
def j0C (t:qB×qE×qL) (b:Bool->Res):Res:=j5Y t λd=>bif d then b false else j8z t.2.1 (nI (List.length t.2.1)) t Z1c 0 (λ_=>j8A t.2.2 (nI (List.length t.2.2)) t Z1c (-1) 0 (λ_=>b true) (λ_=>b false)) (λ_=>b false)
def j1l:Sig Unit:=sg [.look y29 true] [false] [(y29,none)] [] λd f k=>j0C d.1 (λb=>k [wB b] [] [])
theorem j40:SO 227 j1l:=fK (np:=0) j9k [j51,j7H,jb0] (oI 12 0 @jlI (oI 58 1 @jlG (oI 250 2 @jlH oN))) false Tryz.func227 λ_ _ _ _=>by delta j0C j51 j7H jb0 j8z j8A;refine gz j5Y λ_ b=>gz j3D λ_ d=>gz j6f λ_ f=> ?_;rewrite [<-b,<-d,<-f];kernel_rfl
theorem jj0:FS [(154,j3m),(227,j1l),(267,j91)]:=(Za6 jal (Za6 j40 (Za6 jjh Zas)))
def j7Y (d:qG) (b:Bool->Res):Res:=bif ((nI (List.length d.2.2.1))==0) then b ((nI (List.length d.2.2.2.1))==0) else b false
def jd2:Z1d Unit:=Nd 123 123 [.t 1 (pB 1)] [(1,y13,[.S,.S])] λf b d=>j7Y b.1.2 (λplain=>d .normal [(1,pB 1),(3,vB plain)] [(1,⟨y13,b.1.1,b.1.2,[.S,.S]⟩)])
theorem jnQ:CN 0 14 Tryz.f210 jd2:=nK jj0 [] oN ([1,3],[1]) [] ([],[]) λ_ _ _=>by kernel_rfl
def j2M (d:qG) (b:Bool->Res):Res:=j0S d.2.1 λr=>bif !r then b false else j7Y d λplain=>bif (d.1==1) then bif sEq d.2.2.2.2.1 eS then bif sEq d.2.2.2.2.2 eS then j0C (d.2.1,d.2.2.1,d.2.2.2.1) λf=>b f else b false else b false else bif (d.1==2) then bif plain then bif sEq d.2.2.2.2.1 eS then b (sEq d.2.2.2.2.2 eS) else b false else b false else bif (d.1==3) then bif ((nI (List.length d.2.2.1))==1) then bif inb 0 (List.length d.2.2.1) then j5R (nth (eS,0,false,false,0,0,eS) d.2.2.1 0) λg=>bif g then bif inb 0 (List.length d.2.2.1) then bif (nth (eS,0,false,false,0,0,eS) d.2.2.1 0).2.2.2.1 then bif ((nI (List.length d.2.2.2.1))==0) then bif sEq d.2.2.2.2.1 eS then b (sEq d.2.2.2.2.2 eS) else b false else b false else bif inb 0 (List.length d.2.2.1) then bif !(nth (eS,0,false,false,0,0,eS) d.2.2.1 0).2.2.1 then bif ((nI (List.length d.2.2.2.1))==0) then bif sEq d.2.2.2.2.1 eS then b (sEq d.2.2.2.2.2 eS) else b false else b false else b false else none else none else b false else none else b false else bif (d.1==4) then bif plain then j0S d.2.2.2.2.1 λh=>bif h then b (sEq d.2.2.2.2.2 eS) else b false else b false else bif (d.1==5) then bif plain then j0S d.2.2.2.2.1 λi=>bif i then j0S d.2.2.2.2.2 λj=>b j else b false else b false else b false
def j4J:Sig Unit:=sg [.look y13 true] [false] [(y13,none)] [] λd f k=>j2M d.1 (λb=>k [wB b] [] [])
theorem jeG:SO 210 j4J:=fK (np:=0) jj0 [jd2] (oI 14 0 @jnQ oN) false Tryz.func210 λ_ _ _ _=>by delta j2M j3m jd2 j1l j91;refine gz j0S λ_ b=>gz j7Y λ_ d=>gz j0C λ_ f=>gz j5R λ_ g=> ?_;rewrite [<-b,<-d,<-f,<-g];kernel_rfl
def j5P (d:List qT) (f:Int) (c:List qT) (b:Int) (rec:Int->Res) (h:Unit->Res) (g:Unit->Res):Res:=bif decide (b<f) then bif inb b (List.length d) then j0C (nth (eS,[],[]) d b) λr=>bif !r then g () else bif decide (b>0) then bif inb (Z9K (b-1)) (List.length c) then bif sGe (nth (eS,[],[]) c (Z9K (b-1))).1 (nth (eS,[],[]) d b).1 then g () else rec (Z9K (b+1)) else none else rec (Z9K (b+1)) else none else h ()
def jbO (b:List qT) (d:Int) (c:List qT):Int->(Int->Res)->((Unit->Res)×(Unit->Res))->Res:=λv rec q=>j5P b d c v (λf=>rec (f)) q.1 q.2
def jdL (b:List qT) (d:Int) (c:List qT) (n:Nat) (f:Int) (g:Unit->Res) (h:Unit->Res):Res:=Z1f (jbO b d c) n (f) (g,h)
def jhI:Z1d Unit:=NdL 37 37 [.t 1 (pB 1),.R 10 y30 .S,.I 11,.I 12] [(1,y30,[.S])] (λb d=>(b.2.2.1)) (λb v=>(b.1,b.2.1,v,())) (λd v=>((d.1.1,d.1.2),())) (λb d=>jbO b.1 b.2.1 d.1.2) λb d f=>((λ_=>f (.exit 0) [] []),(λ_=>f .ret [(2,vB false)] []))
theorem jnO:CN 0 58 Tryz.f242 jhI:=lK (Za6 j40 Zas) [] oN ([],[]) [(0,[],[])] ([2],[]) λ_ _ _ _ _=>by kernel_rfl
def j7y (c:List qT) (b:Bool->Res):Res:=bif decide ((nI (List.length c))>6) then b false else jdL c (nI (List.length c)) c Z1c 0 (λ_=>b true) (λ_=>b false)
def j90:Sig Unit:=sg [.look y30 true] [false] [(y30,none)] [] λd f k=>j7y d.1 (λb=>k [wB b] [] [])
theorem jjg:SO 242 j90:=fK (np:=0) (Za6 j40 Zas) [jhI] (oI 58 0 @jnO oN) false Tryz.func242 λ_ _ _ _=>by kernel_rfl
def j5m (t:qB×qE×qL) (b:qT->Res):Res:=Z87 (Z87 (bif lim (0+(List.length t.2.1)) then bif lim (0+(List.length t.2.2)) then b (t.1,t.2.1,t.2.2) else none else none) (bif lim (0+(List.length t.2.1)) then bif lim (0+(List.length t.2.2)) then b (t.1,t.2.1,t.2.2) else none else none)) (bif lim (0+(List.length t.2.1)) then bif lim (0+(List.length t.2.2)) then b (t.1,t.2.1,t.2.2) else none else none)
def jbL:Sig Unit:=sg [.borrow y29 true] [true] [(y29,none)] [] λd f k=>j5m d.1 (λb=>k [⟨y29,true,b,[.O,.O]⟩] [] [])
theorem jbf:SO 286 jbL:=fK (np:=0) Zas [] oN false Tryz.func286 λ_ _ _ _=>by kernel_rfl
def j3F (f:List qT) (h:Int) (b:Int) (d:List qT) (rec:Int->qF->Res) (g:qF->Res):Res:=bif decide (b<h) then bif inb b (List.length f) then j5m (nth (eS,[],[]) f b) λr=>bif lim ((List.length d)+1) then rec (Z9K (b+1)) (d++[r]) else none else none else g d
def j9W (f:List qT) (g:Int):(Int×qF)->(Int×qF->Res)->((qF->Res))->Res:=λv rec q=>j3F f g v.1 v.2 (λd b=>rec (d,b)) q
def jg5 (g:List qT) (h:Int) (n:Nat) (d:Int) (b:List qT) (f:qF->Res):Res:=Z1f (j9W g h) n (d,b) (f)
def jfw:Z1d Unit:=NdL 23 23 [.t 2 (pB 2),.t 3 (pB 3),.R 8 y30 .S,.I 9,.I 10] [(2,y30,[.O]),(3,y30,[.O])] (λd b=>(d.2.2.1,b.2.1.2)) (λd v=>(d.1,d.2.1,v.1,())) (λb v=>((b.1.1,b.1.2),(b.2.1.1,v.2),())) (λd b=>j9W d.1 d.2.1) λd b g=>((λf=>g (.exit 0) [(2,pB 2),(3,pB 3)] [(2,⟨y30,b.1.1,b.1.2,[.O]⟩),(3,⟨y30,b.2.1.1,f,[.O]⟩)]))
theorem jlJ:CN 0 58 Tryz.f243 jfw:=lK (Za6 jbf Zas) [] oN ([],[]) [(0,[2,3],[2,3])] ([],[]) λ_ _ _ _ _=>by kernel_rfl
def j4P (c:List qT) (d:qF->Res):Res:=jg5 c (nI (List.length c)) Z1c 0 [] λb=>d b
def j6W:Sig Unit:=sg [.borrow y30 true] [true] [(y30,none)] [] λd f k=>j4P d.1 (λb=>k [⟨y30,true,b,[.O]⟩] [] [])
theorem jh4:SO 243 j6W:=fK (np:=0) (Za6 jbf Zas) [jfw] (oI 58 0 @jlJ oN) false Tryz.func243 λ_ _ _ _=>by kernel_rfl
def j5Z (name:qB) (d:List qT) (h:Int) (b:Int) (rec:Int->Res) (f:Unit->Res) (g:Int->Res):Res:=bif decide (b<h) then bif inb b (List.length d) then bif sEq (nth (eS,[],[]) d b).1 name then g b else rec (Z9K (b+1)) else none else f ()
def jbS (name:qB) (d:List qT) (f:Int):Int->(Int->Res)->((Unit->Res)×(Int->Res))->Res:=λv rec q=>j5Z name d f v (λb=>rec (b)) q.1 q.2
def jiP (name:qB) (g:List qT) (h:Int) (n:Nat) (b:Int) (d:Unit->Res) (f:Int->Res):Res:=Z1f (jbS name g h) n (b) (d,f)
def jhK:Z1d Unit:=NdL 21 21 [.S 1,.R 8 y30 .S,.I 9,.I 10] [] (λb d=>(b.2.2.2.1)) (λb v=>(b.1,b.2.1,b.2.2.1,v,())) (λd v=>()) (λb d=>jbS b.1 b.2.1 b.2.2.1) λb d f=>((λ_=>f (.exit 0) [] []),(λg=>f .ret [(4,vI g)] []))
theorem jnV:CN 0 26 Tryz.f113 jhK:=lK Zas [] oN ([],[]) [(0,[],[])] ([4],[]) λ_ _ _ _ _=>by kernel_rfl
def j2O (c:List qT) (name:qB) (b:Int->Res):Res:=jiP name c (nI (List.length c)) Z1c 0 (λ_=>b (-1)) (λt=>b t)
def j4K:Sig Unit:=sg [.look y30 true,.look .str false] [false] [(y30,none),(.str,none)] [] λb f k=>j2O b.1 b.2.1 (λd=>k [wI d] [] [])
theorem jeJ:SO 113 j4K:=fK (np:=0) Zas [jhK] (oI 26 0 @jnV oN) false Tryz.func113 λ_ _ _ _=>by kernel_rfl
def jcU (done:Bool) (t:qB×qE×qL) (b:List qT) (x:qB×qE×qL) (d:Bool->qF->Res):Res:=bif !done then bif sLt t.1 x.1 then bif lim ((List.length b)+1) then d true (b++[t]) else none else d done b else d done b
def jca:Z1d Unit:=Nd 48 48 [.t 3 (pB 3),.t 4 (pB 4),.t 5 (pB 5),.B 6,.t 8 (pB 8),.R 11 y30 .S,.I 12,.I 13] [(3,y29,[.S,.S]),(4,y30,[.O]),(5,y30,[.PS]),(8,y29,[.S,.S])] λg b h=>jcU g.1 b.1.2 b.2.2.1.2 b.2.2.2.1.2 (λd f=>h .normal [(3,pB 3),(4,pB 4),(5,pB 5),(6,vB d),(8,pB 8),(11,v1 y30 g.2.1 .S),(12,vI g.2.2.1),(13,vI g.2.2.2.1)] [(3,⟨y29,b.1.1,b.1.2,[.S,.S]⟩),(4,⟨y30,b.2.1.1,b.2.1.2,[.O]⟩),(5,⟨y30,b.2.2.1.1,f,[.PS]⟩),(8,⟨y29,b.2.2.2.1.1,b.2.2.2.1.2,[.S,.S]⟩)])
theorem jmP:CN 0 15666 Tryz.f309 jca:=nK Zas [] oN ([3,4,5,6,8,11,12,13],[3,4,5,8]) [] ([],[]) λ_ _ _=>by kernel_rfl
def j4R (g:List qT) (i:Int) (t:qB×qE×qL) (done:Bool) (b:Int) (h:List qT) (rec:Bool->Int->qF->Res) (j:Bool->qF->Res):Res:=bif decide (b<i) then bif inb b (List.length g) then jcU done t h (nth (eS,[],[]) g b) λf d=>bif lim ((List.length d)+1) then rec f (Z9K (b+1)) (d++[nth (eS,[],[]) g b]) else none else none else j done h
def jaO (d:List qT) (f:Int) (t:qB×qE×qL):(Bool×Int×qF)->(Bool×Int×qF->Res)->((Bool->qF->Res))->Res:=λv rec q=>j4R d f t v.1 v.2.1 v.2.2 (λdone g b=>rec (done,g,b)) q
def jcT (d:List qT) (f:Int) (t:qB×qE×qL) (n:Nat) (done:Bool) (g:Int) (b:List qT) (h:Bool->qF->Res):Res:=Z1f (jaO d f t) n (done,g,b) (h)
def jgb:Z1d Unit:=λσ k=>rdN σ 48<|rdT σ 3 (pB 3)<|rdT σ 4 (pB 4)<|rdT σ 5 (pB 5)<|rdO σ 6 λdone=>rd1 σ 11 y30 .S λg=>rdI σ 12 λh=>rdI σ 13 λi=>rdB σ 3 y29 [.S,.S] λa t=>rdB σ 4 y30 [.O] λj m=>rdB σ 5 y30 [.PS] λl f=>jcT g h t Z1c done i f (λb d=>k (.exit 0) (mkS 48 48 [(3,pB 3),(4,pB 4),(5,pB 5),(6,vB b)] [(3,⟨y29,a,t,[.S,.S]⟩),(4,⟨y30,j,m,[.O]⟩),(5,⟨y30,l,d,[.PS]⟩)]))
def jgo:Z1d Unit:=λσ k=>jgb (σ.wk [] [(5,[.PS])]) k
theorem jmO:CN 0 122 Tryz.f309 jgo:=λr=>ZaJ [] [(5,[.PS])] (jpC follows j1m Zas r [jca] (oI 114 0 @jmP oN) [3,4,5,6,11,12,13] [3,4,5] ([],[]) [(0,[3,4,5,6],[3,4,5])] ([],[]) (y:=jgb) λσ k _ h=>rN h λH h=>rT h λD h=>rT h λE h=>rT h λF h=>rV h λdone G h=>rV h λf i h=>rV h λg j h=>rV h λz l h=>rB h λa t n h=>rB h λA C p h=>rB h λB w q h=>⟨_,ZaM (m:=48) H (sC D (sC E (sC F (sC G (sC i (sC j (sC l sN))))))) (bC n (bC p (bC q bN))),.trans (Z9u (λv:Bool×Int×qF=>(mkS 48 48 [(3,pB 3),(4,pB 4),(5,pB 5),(6,vB v.1),(11,v1 y30 f .S),(12,vI g),(13,vI v.2.1)] [(3,⟨y29,a,t,[.S,.S]⟩),(4,⟨y30,A,C,[.O]⟩),(5,⟨y30,B,v.2.2,[.PS]⟩)])) (jaO f g t) (λ(k:Z83 Unit)=>(((λb d=>k (.exit 0) (mkS 48 48 [(3,pB 3),(4,pB 4),(5,pB 5),(6,vB b)] [(3,⟨y29,a,t,[.S,.S]⟩),(4,⟨y30,A,C,[.O]⟩),(5,⟨y30,B,d,[.PS]⟩)]))):(Bool->qF->Res))) (λv rec k=>by kernel_rfl) Z1c (done,z,w) k) h⟩)
def jai (c:List qT) (t:qB×qE×qL) (d:qF->Res):Res:=jcT c (nI (List.length c)) t Z1c false 0 [] λdone b=>bif !done then bif lim ((List.length b)+1) then d (b++[t]) else none else d b
def jdH:Sig Unit:=sg [.borrow y30 true,.borrow y29 true] [true] [(y30,none),(y29,none)] [] λb f k=>jai b.1 b.2.1 (λd=>k [⟨y30,true,d,[.PS]⟩] [] [])
theorem joZ:SO 309 jdH:=fK (np:=0) Zas [jca,jgo] (oI 122 1 @jmO oN) false Tryz.func309 λ_ _ _ _=>by kernel_rfl
def j4Q (s:qB) (d:qL) (h:Int) (b:Int) (rec:Int->Res) (f:Unit->Res) (g:Unit->Res):Res:=bif decide (b<h) then bif inb b (List.length d) then bif sEq (nth eS d b) s then g () else rec (Z9K (b+1)) else none else f ()
def jaN (s:qB) (b:qL) (d:Int):Int->(Int->Res)->((Unit->Res)×(Unit->Res))->Res:=λv rec q=>j4Q s b d v (λf=>rec (f)) q.1 q.2
def jhx (s:qB) (f:qL) (g:Int) (n:Nat) (h:Int) (b:Unit->Res) (d:Unit->Res):Res:=Z1f (jaN s f g) n (h) (b,d)
def jgn:Z1d Unit:=NdL 17 17 [.S 1,.R 7 y0 .S,.I 8,.I 9] [] (λb d=>(b.2.2.2.1)) (λb v=>(b.1,b.2.1,b.2.2.1,v,())) (λd v=>()) (λb d=>jaN b.1 b.2.1 b.2.2.1) λb d f=>((λ_=>f (.exit 0) [] []),(λ_=>f .ret [(4,vB true)] []))
theorem jmN:CN 0 26 Tryz.f157 jgn:=lK Zas [] oN ([],[]) [(0,[],[])] ([4],[]) λ_ _ _ _ _=>by kernel_rfl
def jah (l:qL) (s:qB) (b:Bool->Res):Res:=jhx s l (nI (List.length l)) Z1c 0 (λ_=>b false) (λ_=>b true)
def jiN:Sig Unit:=sg [.look y0 false,.look .str false] [false] [(y0,none),(.str,none)] [] λb f k=>jah b.1 b.2.1 (λd=>k [wB d] [] [])
theorem joY:SO 157 jiN:=fK (np:=0) Zas [jgn] (oI 26 0 @jmN oN) false Tryz.func157 λ_ _ _ _=>by kernel_rfl
def j5l (t:qB×qE×qL) (d:qG) (b:Int->Res):Res:=j0W t d.2.2.2.2.1 λr=>bif (d.1==3) then bif inb 0 (List.length d.2.2.1) then j0W t (nth (eS,0,false,false,0,0,eS) d.2.2.1 0).1 λf=>bif decide (f>=0) then b 5 else bif ((nI (List.length t.2.1))==8) then b 6 else b 0 else none else bif (d.1==4) then bif decide (r<0) then b 7 else jah t.2.2 d.2.2.2.2.1 λg=>bif g then b 8 else b 0 else bif (d.1==5) then j0W t d.2.2.2.2.2 λh=>bif decide (h>=0) then b 5 else bif decide (r<0) then b 7 else b 0 else b 0
def jbK:Sig Unit:=sg [.look y29 true,.look y13 true] [false] [(y29,none),(y13,none)] [] λb f k=>j5l b.1 b.2.1 (λd=>k [wI d] [] [])
theorem jm5:SO 310 jbK:=fK (np:=0) (Za6 joY (Za6 j6u Zas)) [] oN false Tryz.func310 λ_ _ _ _=>by delta j5l j2X jiN;refine gz j0W λ_ b=>gz jah λ_ d=> ?_;rewrite [<-b,<-d];kernel_rfl
def j6i (t:qB×qE×qL) (b:Unit->Res):Res:=Z87 (Z87 (bif lim (0+(List.length t.2.2)) then Z87 (b ()) (b ()) else none) (bif lim (0+(List.length t.2.2)) then b () else none)) (bif lim (0+(List.length t.2.2)) then b () else none)
def j1d:Z1d Unit:=Nd 92 92 [.t 2 (pB 2),.t 3 (pB 3),.t 4 (pB 4)] [(2,y29,[.S,.S]),(3,y13,[.S,.S]),(4,y29,[.O,.O])] λf b d=>j6i b.1.2 (λ_=>d .normal [(2,pB 2),(3,pB 3),(4,pB 4),(5,pB 5)] [(2,⟨y29,b.1.1,b.1.2,[.S,.S]⟩),(3,⟨y13,b.2.1.1,b.2.1.2,[.S,.S]⟩),(4,⟨y29,b.2.2.1.1,b.2.2.1.2,[.O,.O]⟩),(5,⟨y29,false,(b.1.2.1,[],b.1.2.2.2),[.O,.O]⟩)])
theorem jjC:CN 0 6 Tryz.f311 j1d:=nK Zas [] oN ([2,3,4,5],[2,3,4,5]) [] ([],[]) λ_ _ _=>by kernel_rfl
def j6j (d:qG) (c:qB×Int×Bool×Bool×Int×Int×qB) (b:Unit->Res) (f:Unit->Res):Res:=bif (d.1==4) then bif sEq c.1 d.2.2.2.2.1 then f () else b () else b ()
def j1R:Z1d Unit:=Nd 92 92 [.t 3 (pB 3),.t 4 (pB 4),.t 5 (pB 5),.t 7 (pB 7),.R 17 y8 .S,.I 18,.I 19] [(3,y13,[.S,.S]),(4,y29,[.O,.O]),(5,y29,[.O,.O]),(7,y7,[])] λd b f=>j6j b.1.2 b.2.2.2.1.2 (λ_=>f .normal [(3,pB 3),(4,pB 4),(5,pB 5),(7,pB 7),(17,v1 y8 d.1 .S),(18,vI d.2.1),(19,vI d.2.2.1)] [(3,⟨y13,b.1.1,b.1.2,[.S,.S]⟩),(4,⟨y29,b.2.1.1,b.2.1.2,[.O,.O]⟩),(5,⟨y29,b.2.2.1.1,b.2.2.1.2,[.O,.O]⟩),(7,⟨y7,b.2.2.2.1.1,b.2.2.2.1.2,[]⟩)]) (λ_=>f (.exit 1) [(3,pB 3),(4,pB 4),(5,pB 5),(17,v1 y8 d.1 .S),(18,vI d.2.1),(19,vI d.2.2.1),(27,.ptr ⟨true,7,[.fst]⟩),(28,vS b.2.2.2.1.2.1),(29,.ptr ⟨true,3,[.snd,.snd,.snd,.snd,.fst]⟩),(30,vS b.1.2.2.2.2.2.1),(31,vB (sEq b.2.2.2.1.2.1 b.1.2.2.2.2.2.1))] [(3,⟨y13,b.1.1,b.1.2,[.S,.S]⟩),(4,⟨y29,b.2.1.1,b.2.1.2,[.O,.O]⟩),(5,⟨y29,b.2.2.1.1,b.2.2.1.2,[.O,.O]⟩),(7,⟨y7,b.2.2.2.1.1,b.2.2.2.1.2,[]⟩)])
theorem jjD:CN 0 7474 Tryz.f311 j1R:=nK Zas [j1d] oN ([3,4,5,7,17,18,19],[3,4,5,7]) [(1,[3,4,5,17,18,19,27,28,29,30,31],[3,4,5,7])] ([],[]) λ_ _ _=>by kernel_rfl
def j6k (d:qG) (c:qB×Int×Bool×Bool×Int×Int×qB) (b:qC->Res):Res:=bif (d.1==5) then bif sEq c.1 d.2.2.2.2.1 then b (d.2.2.2.2.2,c.2) else b c else b c
def j31:Z1d Unit:=Nd 92 92 [.t 3 (pB 3),.t 4 (pB 4),.t 5 (pB 5),.t 7 (pB 7),.R 17 y8 .S,.I 18,.I 19] [(3,y13,[.S,.S]),(4,y29,[.O,.O]),(5,y29,[.O,.O]),(7,y7,[])] λd b f=>j6k b.1.2 b.2.2.2.1.2 (λc1=>f .normal [(3,pB 3),(4,pB 4),(5,pB 5),(7,pB 7),(17,v1 y8 d.1 .S),(18,vI d.2.1),(19,vI d.2.2.1)] [(3,⟨y13,b.1.1,b.1.2,[.S,.S]⟩),(4,⟨y29,b.2.1.1,b.2.1.2,[.O,.O]⟩),(5,⟨y29,b.2.2.1.1,b.2.2.1.2,[.O,.O]⟩),(7,⟨y7,b.2.2.2.1.1,c1,[]⟩)])
theorem jjE:CN 0 14950 Tryz.f311 j31:=nK Zas [j1d,j1R] oN ([3,4,5,7,17,18,19],[3,4,5,7]) [] ([],[]) λ_ _ _=>by kernel_rfl
def j1p (g:List qC) (h:Int) (d:qG) (f:Int) (b:qB×qE×qL) (rec:Int->qT->Res) (i:qT->Res):Res:=bif decide (f<h) then bif inb f (List.length g) then j6j d (nth (eS,0,false,false,0,0,eS) g f) (λ_=>j6k d (nth (eS,0,false,false,0,0,eS) g f) λc=>bif lim ((List.length b.2.1)+1) then rec (Z9K (f+1)) (b.1,(b.2.1++[c]),b.2.2) else none) (λ_=>rec (Z9K (f+1)) b) else none else i b
def j2x (f:List qC) (g:Int) (d:qG):(Int×qT)->(Int×qT->Res)->((qT->Res))->Res:=λv rec q=>j1p f g d v.1 v.2 (λh b=>rec (h,b)) q
def j6g (f:List qC) (g:Int) (d:qG) (n:Nat) (h:Int) (b:qB×qE×qL) (i:qT->Res):Res:=Z1f (j2x f g d) n (h,b) (i)
def j63:Z1d Unit:=NdL 92 92 [.t 3 (pB 3),.t 4 (pB 4),.t 5 (pB 5),.R 17 y8 .S,.I 18,.I 19] [(3,y13,[.S,.S]),(4,y29,[.O,.O]),(5,y29,[.O,.O])] (λd b=>(d.2.2.1,b.2.2.1.2)) (λd v=>(d.1,d.2.1,v.1,())) (λb v=>((b.1.1,b.1.2),(b.2.1.1,b.2.1.2),(b.2.2.1.1,v.2),())) (λd b=>j2x d.1 d.2.1 b.1.2) λd b g=>((λf=>g (.exit 0) [(3,pB 3),(4,pB 4),(5,pB 5)] [(3,⟨y13,b.1.1,b.1.2,[.S,.S]⟩),(4,⟨y29,b.2.1.1,b.2.1.2,[.O,.O]⟩),(5,⟨y29,b.2.2.1.1,f,[.O,.O]⟩)]))
theorem jjA:CN 0 58 Tryz.f311 j63:=lK Zas [j1d,j1R,j31] (oI 114 1 @jjD (oI 230 2 @jjE oN)) ([],[]) [(0,[3,4,5],[3,4,5])] ([],[]) λ_ _ _ _ _=>by delta j2x j1p j1R j31;refine gz j6j λ_ b=>gz j6k λ_ d=> ?_;rewrite [<-b,<-d];kernel_rfl
def j0r (g:Int) (d:qG) (f:Int) (b:qB×qE×qL) (rec:Int->qT->Res) (h:qT->Res):Res:=bif decide (f<g) then bif (d.1==5) then bif inb f (List.length b.2.2) then bif sEq (nth eS b.2.2 f) d.2.2.2.2.1 then bif inb f (List.length b.2.2) then rec (Z9K (f+1)) (b.1,b.2.1,upd b.2.2 f d.2.2.2.2.2) else none else rec (Z9K (f+1)) b else none else rec (Z9K (f+1)) b else h b
def j57 (f:Int) (d:qG):(Int×qT)->(Int×qT->Res)->((qT->Res))->Res:=λv rec q=>j0r f d v.1 v.2 (λg b=>rec (g,b)) q
def j6h (f:Int) (d:qG) (n:Nat) (g:Int) (b:qB×qE×qL) (h:qT->Res):Res:=Z1f (j57 f d) n (g,b) (h)
def j9g:Z1d Unit:=NdL 92 92 [.t 3 (pB 3),.t 4 (pB 4),.t 5 (pB 5),.I 55,.I 56] [(3,y13,[.S,.S]),(4,y29,[.O,.O]),(5,y29,[.O,.O])] (λd b=>(d.2.1,b.2.2.1.2)) (λd v=>(d.1,v.1,())) (λb v=>((b.1.1,b.1.2),(b.2.1.1,b.2.1.2),(b.2.2.1.1,v.2),())) (λd b=>j57 d.1 b.1.2) λd b g=>((λf=>g (.exit 2) [(3,pB 3),(4,pB 4),(5,pB 5)] [(3,⟨y13,b.1.1,b.1.2,[.S,.S]⟩),(4,⟨y29,b.2.1.1,b.2.1.2,[.O,.O]⟩),(5,⟨y29,b.2.2.1.1,f,[.O,.O]⟩)]))
theorem jjB:CN 0 122 Tryz.f311 j9g:=lK Zas [j1d,j1R,j31,j63] oN ([],[]) [(2,[3,4,5],[3,4,5])] ([],[]) λ_ _ _ _ _=>by kernel_rfl
def j49 (t:qB×qE×qL) (d:qG) (g:qT->Res):Res:=j6i t λ_=>j6g t.2.1 (nI (List.length t.2.1)) d Z1c 0 (t.1,[],t.2.2) λf=>j6h (nI (List.length f.2.2)) d Z1c 0 f λb=>bif (d.1==3) then bif inb 0 (List.length d.2.2.1) then bif lim ((List.length b.2.1)+1) then g (b.1,(b.2.1++[nth (eS,0,false,false,0,0,eS) d.2.2.1 0]),b.2.2) else none else none else g b
def jaI:Sig Unit:=sg [.borrow y29 true,.borrow y13 true] [true] [(y29,none),(y13,none)] [] λb f k=>j49 b.1 b.2.1 (λd=>k [⟨y29,true,d,[.O,.O]⟩] [] [])
theorem jlc:SO 311 jaI:=fK (np:=0) Zas [j1d,j1R,j31,j63,j9g] (oI 6 0 @jjC (oI 58 3 @jjA (oI 122 4 @jjB oN))) false Tryz.func311 λ_ _ _ _=>by delta j49 j1d j63 j9g j6g j6h;refine gz j6i λ_ b=>gz j2x λ_ d=>gz j57 λ_ f=> ?_;rewrite [<-b,<-d,<-f];kernel_rfl
theorem jbc:FS [(113,j4K),(210,j4J),(242,j90),(243,j6W),(286,jbL),(309,jdH),(310,jbK),(311,jaI)]:=(Za6 jeJ (Za6 jeG (Za6 jjg (Za6 jh4 (Za6 jbf (Za6 joZ (Za6 jm5 (Za6 jlc Zas))))))))
def j4L (d:qG) (b:List qT) (f:qF->Res):Res:=j5m (d.2.1,d.2.2.1,d.2.2.2.1) λr=>jai b r λg=>f g
def ja0:Z1d Unit:=λσ k=>rdN σ 88<|rdT σ 3 (pB 3)<|rdT σ 4 (pB 4)<|rdT σ 7 (pB 7)<|rdB σ 3 y13 [.S,.S] λa d=>rdB σ 4 y30 [.O] λg i=>rdB σ 7 y30 [.S] λh b=>j4L d b (λf=>k .ret (mkS 88 88 [(4,pB 4),(5,vI 0)] [(4,⟨y30,g,f,[.PS]⟩)]))
def j6r:Z1d Unit:=λσ k=>ja0 (σ.wk [] [(7,[.S])]) k
theorem jkA:CN 0 1003 Tryz.f287 j6r:=λi=>ZaJ [] [(7,[.S])] (jk7 follows j1m jbc i [] oN ([],[]) [] ([4,5],[4]) (y:=ja0) λσ k _ h=>rN h λr h=>rT h λn h=>rT h λp h=>rT h λq h=>rB h λa d b h=>rB h λz B f h=>rB h λA w g h=>⟨_,ZaM (m:=88) r (sC n (sC p (sC q sN))) (bC b (bC f (bC g bN))),.trans (by delta j4L jbL jdH;refine gz j5m λ_ j=>gz jai λ_ l=> ?_;rewrite [<-j,<-l];kernel_rfl) h⟩)
def j7z (d:Int) (b:List qT) (f:Unit->Res):Res:=bif Z8e 0 d (List.length b) then bif Z8e (Z9K (d+1)) (nI (List.length b)) (List.length b) then bif lim (0+(List.length (sub b 0 d))) then bif lim ((List.length (sub b 0 d))+(List.length (sub b (Z9K (d+1)) (nI (List.length b))))) then f () else none else none else none else none
def ja1:Z1d Unit:=λσ k=>rdN σ 88<|rdT σ 4 (pB 4)<|rdI σ 6 λd=>rdT σ 7 (pB 7)<|rdB σ 4 y30 [.O] λa g=>rdB σ 7 y30 [.S] λf b=>j7z d b (λ_=>k .ret (mkS 88 88 [(4,pB 4),(5,vI 0)] [(4,⟨y30,a,((sub b 0 d)++(sub b (Z9K (d+1)) (nI (List.length b)))),[.PS]⟩)]))
def ja3:Z1d Unit:=λσ k=>ja1 (σ.wk [] [(7,[.S])]) k
theorem jkB:CN 0 4090 Tryz.f287 ja3:=λf=>ZaJ [] [(7,[.S])] (jk7 follows j1m jbc f [j6r] oN ([],[]) [] ([4,5],[4]) (y:=ja1) λσ k _ h=>rN h λn h=>rT h λi h=>rV h λg j h=>rT h λl h=>rB h λa r b h=>rB h λq p d h=>⟨_,ZaM (m:=88) n (sC i (sC j (sC l sN))) (bC b (bC d bN)),.trans (by kernel_rfl) h⟩)
def j2o (c:List qT) (d:qG) (f:qF->Int->Res):Res:=j7y c λr=>bif !r then f [] 1 else j2M d λi=>bif !i then f [] 1 else j2O c d.2.1 λb=>j4P c λg=>bif (d.1==1) then bif decide (b>=0) then f [] 2 else bif ((nI (List.length c))==6) then f [] 3 else j4L d g λt=>f t 0 else bif decide (b<0) then f [] 4 else bif inb b (List.length c) then j5l (nth (eS,[],[]) c b) d λh=>bif (h != 0) then f [] h else bif (d.1==2) then j7z b g λ_=>f ((sub g 0 b)++(sub g (Z9K (b+1)) (nI (List.length g)))) 0 else bif inb b (List.length c) then j49 (nth (eS,[],[]) c b) d λj=>bif inb b (List.length g) then f (upd g b j) 0 else none else none else none
def j5N:Sig Unit:=sg [.borrow y30 true,.borrow y13 true] [true,false] [(y30,none),(y13,none)] [] λb g k=>j2o b.1 b.2.1 (λd f=>k [⟨y30,true,d,[.S]⟩,wI f] [] [])
theorem jfI:SO 287 j5N:=fK (np:=0) jbc [j6r,ja3] (oI 1003 0 @jkA (oI 4090 1 @jkB oN)) true Tryz.func287 λ_ _ _ _=>by delta j2o j90 j4J j4K j6W j6r jbK ja3 jaI;delta ja0 ja1;refine gz j7y λ_ b=>gz j2M λ_ d=>gz j2O λ_ f=>gz j4P λ_ g=>gz j4L λ_ h=>gz j5l λ_ i=>gz j7z λ_ j=>gz j49 λ_ k=> ?_;rewrite [<-b,<-d,<-f,<-g,<-h,<-i,<-j,<-k];kernel_rfl
def j43 (l:qL) (b:qL->Res):Res:=bif lim (0+(List.length l)) then b l else none
def jlU:Sig Unit:=sg [.borrow y0 false] [false] [(y0,none)] [] λd f k=>j43 d.1 (λb=>k [w1 y0 b .O] [] [])
theorem jev:SO 217 jlU:=fK (np:=0) Zas [] oN false Tryz.func217 λ_ _ _ _=>by kernel_rfl
def j42 (t:qB×qE×qL) (b:qT->Res):Res:=bif lim (0+(List.length t.2.1)) then j43 t.2.2 λr=>b (t.1,t.2.1,r) else none
def jlT:Sig Unit:=sg [.borrow y29 true] [true] [(y29,none)] [] λd f k=>j42 d.1 (λb=>k [⟨y29,true,b,[.O,.O]⟩] [] [])
theorem jax:SO 283 jlT:=fK (np:=0) (Za6 jev Zas) [] oN false Tryz.func283 λ_ _ _ _=>by kernel_rfl
def j3h (d:qG) (b:qT->Res):Res:=j42 (d.2.1,d.2.2.1,d.2.2.2.1) λr=>b r
def j8o:Sig Unit:=sg [.borrow y13 true] [true] [(y13,none)] [] λd f k=>j3h d.1 (λb=>k [⟨y29,true,b,[.O,.O]⟩] [] [])
theorem jfF:SO 269 j8o:=fK (np:=0) (Za6 jax Zas) [] oN false Tryz.func269 λ_ _ _ _=>by kernel_rfl
def j5w (c:qB×Int×Bool×Bool×Int×Int×qB) (b:Bool->Res):Res:=j0E c.1 λr=>bif !r then b false else j0k c.2.1 1 3 λd=>bif !d then b false else j1j c.2.2.2.2 λf=>bif !f then b false else bif !c.2.2.2.1 then b ((c.2.2.2.2.1==0)&&((c.2.2.2.2.2.1==0)&&(sEq c.2.2.2.2.2.2 eS))) else bif (c.2.2.2.2.1==c.2.1) then b true else bif (c.2.2.2.2.1==0) then b (!c.2.2.1) else b false
def jby:Sig Unit:=sg [.look y7 true] [false] [(y7,none)] [] λd f k=>j5w d.1 (λb=>k [wB b] [] [])
theorem jj6:SO 270 jby:=fK (np:=0) (Za6 jak (Za6 j3g (Za6 j8E Zas))) [] oN false Tryz.func270 λ_ _ _ _=>by delta j5w j3k j2n j8W;refine gz j0E λ_ b=>gz j0k λ_ d=>gz j1j λ_ f=> ?_;rewrite [<-b,<-d,<-f];kernel_rfl
def jgA (c:qB×Int×Bool×Bool×Int×Int×qB) (d:qB) (b:Bool->Res):Res:=b (sEq c.1 d)
def jpl:Sig Unit:=sg [.look y7 true,.rptr .str] [false] [(y7,none),(.str,none)] [] λb f k=>jgA b.1 b.2.1 (λd=>k [wB d] [] [])
theorem jio:SO 308 jpl:=fK (np:=0) Zas [] oN false Tryz.func308 λ_ _ _ _=>by kernel_rfl
def j17 (s:List qC) (f:qB) (h:Int) (b:Int) (rec:Int->Res) (d:Unit->Res) (g:Int->Res):Res:=bif decide (b<h) then bif inb b (List.length s) then jgA (nth (eS,0,false,false,0,0,eS) s b) f λr=>bif r then g b else rec (Z9K (b+1)) else none else d ()
def j3R (s:List qC) (f:qB) (b:Int):Int->(Int->Res)->((Unit->Res)×(Int->Res))->Res:=λv rec q=>j17 s f b v (λd=>rec (d)) q.1 q.2
def j9H (s:List qC) (f:qB) (g:Int) (n:Nat) (h:Int) (b:Unit->Res) (d:Int->Res):Res:=Z1f (j3R s f g) n (h) (b,d)
def j9c:Z1d Unit:=NdL 19 19 [.R 0 y8 .S,.c 1 308 [.str] .str [],.I 7,.I 8] [] (λb d=>(b.2.2.2.1)) (λb v=>(b.1,b.2.1,b.2.2.1,v,())) (λd v=>()) (λb d=>j3R b.1 b.2.1 b.2.2.1) λb d f=>((λ_=>f (.exit 0) [] []),(λg=>f .ret [(4,vI g)] []))
theorem jf7:CN 0 26 Tryz.f307 j9c:=lK (Za6 jio Zas) [] oN ([],[]) [(0,[],[])] ([4],[]) λ_ _ _ _ _=>by kernel_rfl
def j7t (s:List qC) (f:qB) (b:Int->Res):Res:=j9H s f (nI (List.length s)) Z1c 0 (λ_=>b (-1)) (λt=>b t)
def jgI:Sig Unit:=sg [.look y8 false,.rclos 308 [.str]] [false] [(y8,none),(.str,none)] [] λb f k=>j7t b.1 b.2.1 (λd=>k [wI d] [] [])
theorem jgt:SO 307 jgI:=fK (np:=0) (Za6 jio Zas) [j9c] (oI 26 0 @jf7 oN) false Tryz.func307 λ_ _ _ _=>by kernel_rfl
def j0j (t:qB×qE×qL) (name:qB) (b:Int->Res):Res:=j7t t.2.1 name λr=>b r
def j0Y:Sig Unit:=sg [.look y29 true,.look .str false] [false] [(y29,none),(.str,none)] [] λb f k=>j0j b.1 b.2.1 (λd=>k [wI d] [] [])
theorem j4d:SO 284 j0Y:=fK (np:=0) (Za6 jgt Zas) [] oN false Tryz.func284 λ_ _ _ _=>by kernel_rfl
theorem jco:FS [(160,j3k),(163,j2n),(270,jby),(284,j0Y)]:=(Za6 jak (Za6 j3g (Za6 jj6 (Za6 j4d Zas))))
def j2e (d:List qC) (f:Int) (t:qB×qE×qL) (b:Int) (rec:Int->Res) (h:Unit->Res) (g:Unit->Res):Res:=bif decide (b<f) then bif inb b (List.length d) then j5w (nth (eS,0,false,false,0,0,eS) d b) λr=>bif !r then g () else j0j t (nth (eS,0,false,false,0,0,eS) d b).1 λi=>bif (i != b) then g () else rec (Z9K (b+1)) else none else h ()
def j3u (b:List qC) (d:Int) (t:qB×qE×qL):Int->(Int->Res)->((Unit->Res)×(Unit->Res))->Res:=λv rec q=>j2e b d t v (λf=>rec (f)) q.1 q.2
def j8l (b:List qC) (d:Int) (t:qB×qE×qL) (n:Nat) (f:Int) (g:Unit->Res) (h:Unit->Res):Res:=Z1f (j3u b d t) n (f) (g,h)
def j7E:Z1d Unit:=NdL 68 68 [.t 1 (pB 1),.R 10 y8 .S,.I 11,.I 12] [(1,y29,[.S,.S])] (λb d=>(b.2.2.1)) (λb v=>(b.1,b.2.1,v,())) (λd v=>((d.1.1,d.1.2),())) (λb d=>j3u b.1 b.2.1 d.1.2) λb d f=>((λ_=>f (.exit 0) [(1,pB 1)] [(1,⟨y29,d.1.1,d.1.2,[.S,.S]⟩)]),(λ_=>f .ret [(2,vB false)] []))
theorem jls:CN 0 26 Tryz.f268 j7E:=lK jco [] oN ([],[]) [(0,[1],[1])] ([2],[]) λ_ _ _ _ _=>by delta j3u j2e jby j0Y;refine gz j5w λ_ b=>gz j0j λ_ d=> ?_;rewrite [<-b,<-d];kernel_rfl
def j3v (f:qL) (g:Int) (t:qB×qE×qL) (d:Int) (b:Int) (rec:Int->Int->Res) (i:Unit->Res) (h:Unit->Res):Res:=bif decide (b<g) then bif inb b (List.length f) then j0j t (nth eS f b) λr=>bif decide (r<=d) then h () else bif inb r (List.length t.2.1) then bif !(nth (eS,0,false,false,0,0,eS) t.2.1 r).2.2.1 then h () else rec r (Z9K (b+1)) else none else none else i ()
def j6b (d:qL) (f:Int) (t:qB×qE×qL):(Int×Int)->(Int×Int->Res)->((Unit->Res)×(Unit->Res))->Res:=λv rec q=>j3v d f t v.1 v.2 (λb g=>rec (b,g)) q.1 q.2
def j8m (d:qL) (f:Int) (t:qB×qE×qL) (n:Nat) (b:Int) (g:Int) (h:Unit->Res) (i:Unit->Res):Res:=Z1f (j6b d f t) n (b,g) (h,i)
def jaV:Z1d Unit:=NdL 68 68 [.t 1 (pB 1),.I 5,.R 30 y0 .S,.I 31,.I 32] [(1,y29,[.S,.S])] (λb d=>(b.1,b.2.2.2.1)) (λb v=>(v.1,b.2.1,b.2.2.1,v.2,())) (λd v=>((d.1.1,d.1.2),())) (λb d=>j6b b.2.1 b.2.2.1 d.1.2) λb d f=>((λ_=>f (.exit 2) [(1,pB 1)] [(1,⟨y29,d.1.1,d.1.2,[.S,.S]⟩)]),(λ_=>f .ret [(2,vB false)] []))
theorem jlt:CN 0 122 Tryz.f268 jaV:=lK jco [j7E] oN ([],[]) [(2,[1],[1])] ([2],[]) λ_ _ _ _ _=>by kernel_rfl
def j0X (t:qB×qE×qL) (b:Bool->Res):Res:=j8l t.2.1 (nI (List.length t.2.1)) t Z1c 0 (λ_=>j8m t.2.2 (nI (List.length t.2.2)) t Z1c (-1) 0 (λ_=>j0E t.1 λr=>bif r then j0k (nI (List.length t.2.1)) 1 8 λd=>bif d then b (decide ((nI (List.length t.2.2))>0)) else b false else b false) (λ_=>b false)) (λ_=>b false)
def j47:Sig Unit:=sg [.look y29 true] [false] [(y29,none)] [] λd f k=>j0X d.1 (λb=>k [wB b] [] [])
theorem j6t:SO 268 j47:=fK (np:=0) jco [j7E,jaV] (oI 26 0 @jls (oI 122 1 @jlt oN)) false Tryz.func268 λ_ _ _ _=>by delta j0X j7E jaV j3k j2n j8l j8m;refine gz j3u λ_ b=>gz j6b λ_ d=>gz j0E λ_ f=>gz j0k λ_ g=> ?_;rewrite [<-b,<-d,<-f,<-g];kernel_rfl
def j0i (a:qG) (b:qG) (d:Bool->Res):Res:=bif (a.1==b.1) then bif sEq a.2.1 b.2.1 then j1D a.2.2.1 b.2.2.1 λr=>bif r then j2w a.2.2.2.1 b.2.2.2.1 λf=>bif f then bif sEq a.2.2.2.2.1 b.2.2.2.2.1 then d (sEq a.2.2.2.2.2 b.2.2.2.2.2) else d false else d false else d false else d false else d false
def j8q:Sig Unit:=sg [.look y13 true,.look y13 true] [false] [(y13,none),(y13,none)] [] λb f k=>j0i b.1 b.2.1 (λd=>k [wB d] [] [])
theorem jbd:SO 212 j8q:=fK (np:=0) (Za6 jje (Za6 jh0 Zas)) [] oN false Tryz.func212 λ_ _ _ _=>by delta j0i jdn jb9;refine gz j1D λ_ b=>gz j2w λ_ d=> ?_;rewrite [<-b,<-d];kernel_rfl
def j2J (d:qG) (b:Bool->Res):Res:=j0E d.2.1 λr=>bif !r then b false else bif (d.1==1) then j3h d λg=>j0X g λh=>bif h then bif sEq d.2.2.2.2.1 eS then b (sEq d.2.2.2.2.2 eS) else b false else b false else bif (d.1==2) then j0i d (d.1,d.2.1,[],[],eS,eS) λi=>b i else bif (d.1==3) then j0i d (d.1,d.2.1,d.2.2.1,[],eS,eS) λj=>bif j then bif ((nI (List.length d.2.2.1))==1) then bif inb 0 (List.length d.2.2.1) then j5w (nth (eS,0,false,false,0,0,eS) d.2.2.1 0) λk=>bif k then bif inb 0 (List.length d.2.2.1) then bif (nth (eS,0,false,false,0,0,eS) d.2.2.1 0).2.2.2.1 then b true else bif inb 0 (List.length d.2.2.1) then b (!(nth (eS,0,false,false,0,0,eS) d.2.2.1 0).2.2.1) else none else none else b false else none else b false else b false else bif (d.1==4) then j0i d (d.1,d.2.1,[],[],d.2.2.2.2.1,eS) λl=>bif l then j0E d.2.2.2.2.1 λm=>b m else b false else bif (d.1==5) then j0i d (d.1,d.2.1,[],[],d.2.2.2.2.1,d.2.2.2.2.2) λn=>bif n then j0E d.2.2.2.2.1 λp=>bif p then j0E d.2.2.2.2.2 λf=>b f else b false else b false else b false
def j4G:Sig Unit:=sg [.look y13 true] [false] [(y13,none)] [] λd f k=>j2J d.1 (λb=>k [wB b] [] [])
theorem jet:SO 211 j4G:=fK (np:=0) (Za6 jak (Za6 jbd (Za6 j6t (Za6 jfF (Za6 jj6 Zas))))) [] oN false Tryz.func211 λ_ _ _ _=>by delta j2J j3k j8o j47 j8q jby;refine gz j0E λ_ b=>gz j3h λ_ d=>gz j0X λ_ f=>gz j0i λ_ g=>gz j5w λ_ h=> ?_;rewrite [<-b,<-d,<-f,<-g,<-h];kernel_rfl
def jbl (d:qG) (b:qG->Res):Res:=bif lim (0+(List.length d.2.2.1)) then j43 d.2.2.2.1 λr=>b (d.1,d.2.1,d.2.2.1,r,d.2.2.2.2) else none
def jhq:Sig Unit:=sg [.borrow y13 true] [true] [(y13,none)] [] λd f k=>jbl d.1 (λb=>k [⟨y13,true,b,[.O,.O]⟩] [] [])
theorem jni:SO 275 jhq:=fK (np:=0) (Za6 jev Zas) [] oN false Tryz.func275 λ_ _ _ _=>by kernel_rfl
def j5v (d:List qT) (h:Int) (c:List qT) (b:Int) (rec:Int->Res) (g:Unit->Res) (f:Unit->Res):Res:=bif decide (b<h) then bif inb b (List.length d) then j0X (nth (eS,[],[]) d b) λr=>bif !r then f () else bif decide (b>0) then bif inb (Z9K (b-1)) (List.length c) then bif sGe (nth (eS,[],[]) c (Z9K (b-1))).1 (nth (eS,[],[]) d b).1 then f () else rec (Z9K (b+1)) else none else rec (Z9K (b+1)) else none else g ()
def jbi (b:List qT) (d:Int) (c:List qT):Int->(Int->Res)->((Unit->Res)×(Unit->Res))->Res:=λv rec q=>j5v b d c v (λf=>rec (f)) q.1 q.2
def jdy (f:List qT) (g:Int) (c:List qT) (n:Nat) (h:Int) (b:Unit->Res) (d:Unit->Res):Res:=Z1f (jbi f g c) n (h) (b,d)
def jhF:Z1d Unit:=NdL 37 37 [.t 1 (pB 1),.R 6 y30 .S,.I 7,.I 8] [(1,y30,[.S])] (λb d=>(b.2.2.1)) (λb v=>(b.1,b.2.1,v,())) (λd v=>((d.1.1,d.1.2),())) (λb d=>jbi b.1 b.2.1 d.1.2) λb d f=>((λ_=>f (.exit 0) [(1,pB 1)] [(1,⟨y30,d.1.1,d.1.2,[.S]⟩)]),(λ_=>f .ret [(2,vB false)] []))
theorem jnF:CN 0 26 Tryz.f250 jhF:=lK (Za6 j6t Zas) [] oN ([],[]) [(0,[1],[1])] ([2],[]) λ_ _ _ _ _=>by kernel_rfl
def j7n (c:List qT) (b:Bool->Res):Res:=jdy c (nI (List.length c)) c Z1c 0 (λ_=>b (decide ((nI (List.length c))<=6))) (λ_=>b false)
def j8V:Sig Unit:=sg [.look y30 true] [false] [(y30,none)] [] λd f k=>j7n d.1 (λb=>k [wB b] [] [])
theorem jj5:SO 250 j8V:=fK (np:=0) (Za6 j6t Zas) [jhF] (oI 26 0 @jnF oN) false Tryz.func250 λ_ _ _ _=>by kernel_rfl
def j3w (f:List qT) (h:Int) (b:Int) (d:List qT) (rec:Int->qF->Res) (g:qF->Res):Res:=bif decide (b<h) then bif inb b (List.length f) then j42 (nth (eS,[],[]) f b) λr=>bif lim ((List.length d)+1) then rec (Z9K (b+1)) (d++[r]) else none else none else g d
def j9P (f:List qT) (g:Int):(Int×qF)->(Int×qF->Res)->((qF->Res))->Res:=λv rec q=>j3w f g v.1 v.2 (λd b=>rec (d,b)) q
def jfU (g:List qT) (h:Int) (n:Nat) (d:Int) (b:List qT) (f:qF->Res):Res:=Z1f (j9P g h) n (d,b) (f)
def jft:Z1d Unit:=NdL 23 23 [.t 2 (pB 2),.t 3 (pB 3),.R 8 y30 .S,.I 9,.I 10] [(2,y30,[.O]),(3,y30,[.O])] (λd b=>(d.2.2.1,b.2.1.2)) (λd v=>(d.1,d.2.1,v.1,())) (λb v=>((b.1.1,b.1.2),(b.2.1.1,v.2),())) (λd b=>j9P d.1 d.2.1) λd b g=>((λf=>g (.exit 0) [(2,pB 2),(3,pB 3)] [(2,⟨y30,b.1.1,b.1.2,[.O]⟩),(3,⟨y30,b.2.1.1,f,[.O]⟩)]))
theorem jlv:CN 0 58 Tryz.f231 jft:=lK (Za6 jax Zas) [] oN ([],[]) [(0,[2,3],[2,3])] ([],[]) λ_ _ _ _ _=>by kernel_rfl
def j4j (c:List qT) (d:qF->Res):Res:=jfU c (nI (List.length c)) Z1c 0 [] λb=>d b
def j6O:Sig Unit:=sg [.borrow y30 true] [true] [(y30,none)] [] λd f k=>j4j d.1 (λb=>k [⟨y30,true,b,[.O]⟩] [] [])
theorem jgX:SO 231 j6O:=fK (np:=0) (Za6 jax Zas) [jft] (oI 58 0 @jlv oN) false Tryz.func231 λ_ _ _ _=>by kernel_rfl
def jeO (t:qB×qE×qL) (d:qB) (b:Bool->Res):Res:=b (sEq t.1 d)
def jo0:Sig Unit:=sg [.look y29 true,.rptr .str] [false] [(y29,none),(.str,none)] [] λb f k=>jeO b.1 b.2.1 (λd=>k [wB d] [] [])
theorem jgU:SO 235 jo0:=fK (np:=0) Zas [] oN false Tryz.func235 λ_ _ _ _=>by kernel_rfl
def j0T (s:List qT) (f:qB) (h:Int) (b:Int) (rec:Int->Res) (d:Unit->Res) (g:Int->Res):Res:=bif decide (b<h) then bif inb b (List.length s) then jeO (nth (eS,[],[]) s b) f λr=>bif r then g b else rec (Z9K (b+1)) else none else d ()
def j2Y (s:List qT) (f:qB) (b:Int):Int->(Int->Res)->((Unit->Res)×(Int->Res))->Res:=λv rec q=>j0T s f b v (λd=>rec (d)) q.1 q.2
def j8u (s:List qT) (f:qB) (g:Int) (n:Nat) (h:Int) (b:Unit->Res) (d:Int->Res):Res:=Z1f (j2Y s f g) n (h) (b,d)
def j81:Z1d Unit:=NdL 19 19 [.R 0 y30 .S,.c 1 235 [.str] .str [],.I 7,.I 8] [] (λb d=>(b.2.2.2.1)) (λb v=>(b.1,b.2.1,b.2.2.1,v,())) (λd v=>()) (λb d=>j2Y b.1 b.2.1 b.2.2.1) λb d f=>((λ_=>f (.exit 0) [] []),(λg=>f .ret [(4,vI g)] []))
theorem jdB:CN 0 26 Tryz.f234 j81:=lK (Za6 jgU Zas) [] oN ([],[]) [(0,[],[])] ([4],[]) λ_ _ _ _ _=>by kernel_rfl
def j66 (s:List qT) (f:qB) (b:Int->Res):Res:=j8u s f (nI (List.length s)) Z1c 0 (λ_=>b (-1)) (λt=>b t)
def jfi:Sig Unit:=sg [.look y30 false,.rclos 235 [.str]] [false] [(y30,none),(.str,none)] [] λb f k=>j66 b.1 b.2.1 (λd=>k [wI d] [] [])
theorem jeF:SO 234 jfi:=fK (np:=0) (Za6 jgU Zas) [j81] (oI 26 0 @jdB oN) false Tryz.func234 λ_ _ _ _=>by kernel_rfl
def j0v (c:List qT) (name:qB) (b:Int->Res):Res:=j66 c name λr=>b r
def j1f:Sig Unit:=sg [.look y30 true,.look .str false] [false] [(y30,none),(.str,none)] [] λb f k=>j0v b.1 b.2.1 (λd=>k [wI d] [] [])
theorem jaj:SO 176 j1f:=fK (np:=0) (Za6 jeF Zas) [] oN false Tryz.func176 λ_ _ _ _=>by kernel_rfl
theorem j9j:FS [(95,j4I),(176,j1f),(284,j0Y)]:=(Za6 jeE (Za6 jaj (Za6 j4d Zas)))
def j5C (d:qG) (t:qB×qE×qL) (b:Bool->Res):Res:=bif (d.1==3) then bif inb 0 (List.length d.2.2.1) then j0j t (nth (eS,0,false,false,0,0,eS) d.2.2.1 0).1 λr=>bif decide (r>=0) then b true else bif (d.1==5) then j0j t d.2.2.2.2.2 λf=>b (decide (f>=0)) else b false else none else bif (d.1==5) then j0j t d.2.2.2.2.2 λg=>b (decide (g>=0)) else b false
def j4Z:Z1d Unit:=Nd 92 92 [.t 3 (pB 3),.t 6 (pB 6)] [(3,y13,[.S,.S]),(6,y29,[.S,.S])] λg b f=>j5C b.1.2 b.2.1.2 (λd=>f .normal [(3,pB 3),(6,pB 6),(29,vB d)] [(3,⟨y13,b.1.1,b.1.2,[.S,.S]⟩),(6,⟨y29,b.2.1.1,b.2.1.2,[.S,.S]⟩)])
theorem jlw:CN 0 504 Tryz.f317 j4Z:=nK j9j [] oN ([3,6,29],[3,6]) [] ([],[]) λ_ _ _=>by delta j5C j0Y;refine gz j0j λ_ b=> ?_;rewrite [<-b];kernel_rfl
def j8n (d:qG) (t:qB×qE×qL) (b:Bool->Res):Res:=bif (d.1==3) then b ((nI (List.length t.2.1))==8) else b false
def j7F:Z1d Unit:=Nd 92 92 [.t 3 (pB 3),.t 6 (pB 6)] [(3,y13,[.S,.S]),(6,y29,[.S,.S])] λg b f=>j8n b.1.2 b.2.1.2 (λd=>f .normal [(3,pB 3),(6,pB 6),(55,vB d)] [(3,⟨y13,b.1.1,b.1.2,[.S,.S]⟩),(6,⟨y29,b.2.1.1,b.2.1.2,[.S,.S]⟩)])
theorem jlx:CN 0 2022 Tryz.f317 j7F:=nK j9j [j4Z] oN ([3,6,55],[3,6]) [] ([],[]) λ_ _ _=>by kernel_rfl
def j5D (d:qG) (t:qB×qE×qL) (b:Bool->Res):Res:=bif (d.1==4) then j0j t d.2.2.2.2.1 λr=>b (decide (r<0)) else bif (d.1==5) then j0j t d.2.2.2.2.1 λf=>b (decide (f<0)) else b false
def jaX:Z1d Unit:=Nd 92 92 [.t 3 (pB 3),.t 6 (pB 6)] [(3,y13,[.S,.S]),(6,y29,[.S,.S])] λg b f=>j5D b.1.2 b.2.1.2 (λd=>f .normal [(3,pB 3),(6,pB 6),(65,vB d)] [(3,⟨y13,b.1.1,b.1.2,[.S,.S]⟩),(6,⟨y29,b.2.1.1,b.2.1.2,[.S,.S]⟩)])
theorem jly:CN 0 8094 Tryz.f317 jaX:=nK j9j [j4Z,j7F] oN ([3,6,65],[3,6]) [] ([],[]) λ_ _ _=>by delta j5D j0Y;refine gz j0j λ_ b=> ?_;rewrite [<-b];kernel_rfl
def j2T (c:List qT) (d:qG) (b:Int->Res):Res:=j0v c d.2.1 λr=>bif (d.1==1) then bif decide (r>=0) then b 2 else bif ((nI (List.length c))==6) then b 3 else b 0 else bif decide (r<0) then b 4 else bif inb r (List.length c) then j5C d (nth (eS,[],[]) c r) λt=>bif t then b 5 else j8n d (nth (eS,[],[]) c r) λg=>bif g then b 6 else j5D d (nth (eS,[],[]) c r) λh=>bif h then b 7 else bif (d.1==4) then j1v (nth (eS,[],[]) c r).2.2 d.2.2.2.2.1 λf=>bif f then b 8 else b 0 else b 0 else none
def j6P:Sig Unit:=sg [.look y30 true,.look y13 true] [false] [(y30,none),(y13,none)] [] λb f k=>j2T b.1 b.2.1 (λd=>k [wI d] [] [])
theorem jgY:SO 317 j6P:=fK (np:=0) j9j [j4Z,j7F,jaX] (oI 504 0 @jlw (oI 2022 1 @jlx (oI 8094 2 @jly oN))) false Tryz.func317 λ_ _ _ _=>by delta j2T j1f j4Z j7F jaX j4I;refine gz j0v λ_ b=>gz j5C λ_ d=>gz j8n λ_ f=>gz j5D λ_ g=>gz j1v λ_ h=> ?_;rewrite [<-b,<-d,<-f,<-g,<-h];kernel_rfl
def jcy (x:qB×Int×Bool×Bool×Int×Int×qB) (d:qG) (b:Bool->Res):Res:=b (sEq x.1 d.2.2.2.2.1)
def jlS:Sig Unit:=sg [.look y7 true,.rptr y13] [false] [(y7,none),(y13,none)] [] λb f k=>jcy b.1 b.2.1 (λd=>k [wB d] [] [])
theorem jl8:SO 321 jlS:=fK (np:=0) Zas [] oN false Tryz.func321 λ_ _ _ _=>by kernel_rfl
def j39 (s:List qC) (b:qG) (d:qE->qG->Res):Res:=bif lim (List.length s) then dgE (λe k=>jcy e b k) s [] (λr=>d r b) else none
def j59:Sig Unit:=⟨[.eat y8 false,.clos 321 [y13]],[false],λvals ext k=>ao vals y8 [.O] λs vals=>nl vals<|ab ext y13 [.S,.S] λa0 f ext=>nl ext<|j39 s f (λd b=>k [w1 y8 d .O] [] [⟨y13,a0,b,[.S,.S]⟩])⟩
theorem jfB:Z17 Tryz.prog 320 j59:=gS (jur (U:=0) (T:=280) (e:=y7) (ag:=true) (τ:=y13) (tg:=[.S,.S]) (fl:=[9,3,4,4,151]) (S:=116) (E:=213) (I:=3) (B:=4) follows j1m (by kernel_rfl) Tryz.underlying116 (by kernel_rfl) (by kernel_rfl) (by kernel_rfl) (by kernel_rfl) Tryz.isAgg280 Tryz.sizeOf280 (by kernel_rfl) (by kernel_rfl) (by kernel_rfl) Tryz.func307 (by kernel_rfl) (by kernel_rfl) (by kernel_rfl) (by kernel_rfl) jl8 (by kernel_rfl) Tryz.func320 (by kernel_rfl) (by kernel_rfl) (by kernel_rfl) (by kernel_rfl)) (by kernel_rfl)
theorem jbb:FS [(166,j6T),(176,j1f),(211,j4G),(231,j6O),(250,j8V),(269,j8o),(284,j0Y),(317,j6P),(318,j6U),(319,j6S),(320,j59)]:=(Za6 jb2 (Za6 jaj (Za6 jet (Za6 jgX (Za6 jj5 (Za6 jfF (Za6 j4d (Za6 jgY (Za6 jh1 (Za6 jgZ (Za6 jfB Zas)))))))))))
def j2Q (d:qG) (f:List qT) (b:Int) (rec:Int->Res) (g:Int->Res):Res:=bif decide (b<(nI (List.length f))) then bif inb b (List.length f) then bif sLt (nth (eS,[],[]) f b).1 d.2.1 then rec (Z9K (b+1)) else g b else none else g b
def j5x (d:qG) (f:List qT):Int->(Int->Res)->((Int->Res))->Res:=λv rec q=>j2Q d f v (λb=>rec (b)) q
def jaC (d:qG) (f:List qT) (n:Nat) (b:Int) (g:Int->Res):Res:=Z1f (j5x d f) n (b) (g)
def j6o:Z1d Unit:=NdL 146 146 [.t 3 (pB 3),.t 4 (pB 4),.t 7 (pB 7),.I 9] [(3,y13,[.S,.S]),(4,y30,[.O]),(7,y30,[.O])] (λf b=>(f.1)) (λf v=>(v,())) (λb v=>((b.1.1,b.1.2),(b.2.1.1,b.2.1.2),(b.2.2.1.1,b.2.2.1.2),())) (λf b=>j5x b.1.2 b.2.2.1.2) λf b g=>((λd=>g (.exit 1) [(3,pB 3),(4,pB 4),(7,pB 7),(9,vI d)] [(3,⟨y13,b.1.1,b.1.2,[.S,.S]⟩),(4,⟨y30,b.2.1.1,b.2.1.2,[.O]⟩),(7,⟨y30,b.2.2.1.1,b.2.2.1.2,[.O]⟩)]))
theorem jkf:CN 0 16212 Tryz.f295 j6o:=lK jbb [] oN ([],[]) [(1,[3,4,7,9],[3,4,7])] ([],[]) λ_ _ _ _ _=>by kernel_rfl
def j1C (f:Int) (h:Int) (d:qG) (b:List qT) (i:qF->Res):Res:=bif (h==1) then jaC d b Z1c 0 λj=>j3h d λr=>j56 b j [r] λl=>i l else bif (h==2) then j55 b f (Z9K (f+1)) λm=>i m else bif (h==3) then bif inb f (List.length b) then bif inb 0 (List.length d.2.2.1) then bif lim ((List.length (nth (eS,[],[]) b f).2.1)+1) then bif inb f (List.length (upd b f ((nth (eS,[],[]) b f).1,((nth (eS,[],[]) b f).2.1++[nth (eS,0,false,false,0,0,eS) d.2.2.1 0]),(nth (eS,[],[]) b f).2.2))) then bif (Z9o (Int.toNat f) (Int.toNat f)&&true) then i (upd b f ((nth (eS,[],[]) b f).1,((nth (eS,[],[]) b f).2.1++[nth (eS,0,false,false,0,0,eS) d.2.2.1 0]),(nth (eS,[],[]) b f).2.2)) else none else none else none else none else none else bif (h==4) then bif inb f (List.length b) then j39 (nth (eS,[],[]) b f).2.1 d λn p=>bif (Z9o (Int.toNat f) (Int.toNat f)&&true) then i (upd b f ((nth (eS,[],[]) b f).1,n,(nth (eS,[],[]) b f).2.2)) else none else none else bif (h==5) then bif inb f (List.length b) then j0j (nth (eS,[],[]) b f) d.2.2.2.2.1 λg=>bif inb g (List.length (nth (eS,[],[]) b f).2.1) then j13 (nth (eS,[],[]) (upd b f ((nth (eS,[],[]) b f).1,upd (nth (eS,[],[]) b f).2.1 g (d.2.2.2.2.2,(nth (eS,0,false,false,0,0,eS) (nth (eS,[],[]) b f).2.1 g).2),(nth (eS,[],[]) b f).2.2)) f).2.2 d.2.2.2.2.1 λk=>bif decide (k>=0) then bif inb k (List.length (nth (eS,[],[]) (upd b f ((nth (eS,[],[]) b f).1,upd (nth (eS,[],[]) b f).2.1 g (d.2.2.2.2.2,(nth (eS,0,false,false,0,0,eS) (nth (eS,[],[]) b f).2.1 g).2),(nth (eS,[],[]) b f).2.2)) f).2.2) then i (upd (upd b f ((nth (eS,[],[]) b f).1,upd (nth (eS,[],[]) b f).2.1 g (d.2.2.2.2.2,(nth (eS,0,false,false,0,0,eS) (nth (eS,[],[]) b f).2.1 g).2),(nth (eS,[],[]) b f).2.2)) f ((nth (eS,[],[]) (upd b f ((nth (eS,[],[]) b f).1,upd (nth (eS,[],[]) b f).2.1 g (d.2.2.2.2.2,(nth (eS,0,false,false,0,0,eS) (nth (eS,[],[]) b f).2.1 g).2),(nth (eS,[],[]) b f).2.2)) f).1,(nth (eS,[],[]) (upd b f ((nth (eS,[],[]) b f).1,upd (nth (eS,[],[]) b f).2.1 g (d.2.2.2.2.2,(nth (eS,0,false,false,0,0,eS) (nth (eS,[],[]) b f).2.1 g).2),(nth (eS,[],[]) b f).2.2)) f).2.1,upd (nth (eS,[],[]) (upd b f ((nth (eS,[],[]) b f).1,upd (nth (eS,[],[]) b f).2.1 g (d.2.2.2.2.2,(nth (eS,0,false,false,0,0,eS) (nth (eS,[],[]) b f).2.1 g).2),(nth (eS,[],[]) b f).2.2)) f).2.2 k d.2.2.2.2.2)) else none else i (upd b f ((nth (eS,[],[]) b f).1,upd (nth (eS,[],[]) b f).2.1 g (d.2.2.2.2.2,(nth (eS,0,false,false,0,0,eS) (nth (eS,[],[]) b f).2.1 g).2),(nth (eS,[],[]) b f).2.2)) else none else none else i b
def ja2:Z1d Unit:=Nd 146 146 [.t 3 (pB 3),.t 4 (pB 4),.t 7 (pB 7),.I 8,.I 36] [(3,y13,[.S,.S]),(4,y30,[.O]),(7,y30,[.O])] λf d g=>j1C f.1 f.2.1 d.1.2 d.2.2.1.2 (λb=>g .normal [(4,pB 4),(7,pB 7)] [(4,⟨y30,d.2.1.1,d.2.1.2,[.O]⟩),(7,⟨y30,d.2.2.1.1,b,[.O]⟩)])
theorem jkg:CN 0 253 Tryz.f295 ja2:=nK jbb [j6o] (oI 84 0 @jkf oN) ([4,7],[4,7]) [] ([],[]) λ_ _ _=>by delta j1C j6o j8o j6U j6S j59 j0Y j6T jaC;refine gz j5x λ_ b=>gz j3h λ_ d=>gz j56 λ_ f=>gz j55 λ_ g=>gz j39 λ_ h=>gz j0j λ_ i=>gz j13 λ_ j=> ?_;rewrite [<-b,<-d,<-f,<-g,<-h,<-i,<-j];kernel_rfl
def j5d (c:List qT) (d:qG) (b:qF->Int->Res):Res:=j7n c λr=>bif !r then b [] 1 else j2J d λh=>bif !h then b [] 1 else j2T c d λg=>bif (g != 0) then b [] g else j4j c λi=>j0v c d.2.1 λj=>j1C j d.1 d i λf=>b f 0
def jbz:Sig Unit:=sg [.borrow y30 true,.borrow y13 true] [true,false] [(y30,none),(y13,none)] [] λb g k=>j5d b.1 b.2.1 (λd f=>k [⟨y30,true,d,[.O]⟩,wI f] [] [])
theorem jlX:SO 295 jbz:=fK (np:=0) jbb [j6o,ja2] (oI 253 1 @jkg oN) false Tryz.func295 λ_ _ _ _=>by delta j5d j8V j4G j6P j6O j1f ja2;refine gz j7n λ_ b=>gz j2J λ_ d=>gz j2T λ_ f=>gz j4j λ_ g=>gz j0v λ_ h=>gz j1C λ_ i=> ?_;rewrite [<-b,<-d,<-f,<-g,<-h,<-i];kernel_rfl
end
end Go.PI.G
