/-
  Program's code interpreted over typed values; printed texts; plain laws. No conditions.
-/
import Derived.Test.YtnemiodjnhfejaaGreatRWd
set_option linter.unusedVariables false
set_option maxRecDepth 100000
namespace Go.PI.G
noncomputable section
open Go Go.PI Go.Proofs
open Go.Code (pl pr)
def j4i (s:qB) (i:Int) (rec:Int->Res) (d:Unit->Res) (b:Unit->Res):Res:=bif decide (i<(nI (ByteArray.size s))) then bif inb i (ByteArray.size s) then bif decide ((bt s i)<97) then b () else bif inb i (ByteArray.size s) then bif decide ((bt s i)>122) then b () else rec (Z9K (i+1)) else none else none else d ()
def j9R (s:qB):Int->(Int->Res)->((Unit->Res)×(Unit->Res))->Res:=λv rec q=>j4i s v (λi=>rec (i)) q.1 q.2
def jga (s:qB) (n:Nat) (i:Int) (b:Unit->Res) (d:Unit->Res):Res:=Z1f (j9R s) n (i) (b,d)
def jf2:Z1d Unit:=NdL 28 28 [.S 0,.I 3] [] (λb d=>(b.2.1)) (λb v=>(b.1,v,())) (λd v=>()) (λb d=>j9R b.1) λb d f=>((λ_=>f (.exit 0) [(0,vS b.1)] []),(λ_=>f .ret [(2,vB false)] []))
theorem jkY:CN 0 26 Tryz.f154 jf2:=lK Zas [] oN ([],[]) [(0,[0],[])] ([2],[]) λ_ _ _ _ _=>by kernel_rfl
def j0G (s:qB) (b:Bool->Res):Res:=jga s Z1c 0 (λ_=>bif decide ((nI (ByteArray.size s))>=1) then b (decide ((nI (ByteArray.size s))<=8)) else b false) (λ_=>b false)
def j30:Sig Unit:=sg [.look .str false] [false] [(.str,none)] [] λd f k=>j0G d.1 (λb=>k [wB b] [] [])
theorem j9q:SO 154 j30:=fK (np:=0) Zas [jf2] (oI 26 0 @jkY oN) false Tryz.func154 λ_ _ _ _=>by kernel_rfl
def jfr (d:Int) (b:Bool->Res):Res:=bif decide (d>=(-1099511627775)) then b (decide (d<=1099511627775)) else b false
def jno:Sig Unit:=sg [.look tI false] [false] [(tI,none)] [] λd f k=>jfr d.1 (λb=>k [wB b] [] [])
theorem jmT:SO 180 jno:=fK (np:=0) Zas [] oN false Tryz.func180 λ_ _ _ _=>by kernel_rfl
def j1s (b:Int×Int×qB) (d:Bool->Res):Res:=bif (b.1==0) then bif (b.2.1==0) then d (sEq b.2.2 eS) else d false else bif (b.1==1) then bif (b.2.1==0) then d (sEq b.2.2 eS) else bif (b.2.1==1) then d (sEq b.2.2 eS) else d false else bif (b.1==2) then jfr b.2.1 λr=>bif r then d (sEq b.2.2 eS) else d false else bif (b.1==3) then bif (b.2.1==0) then d (decide ((nI (ByteArray.size b.2.2))<=30)) else d false else d false
def jaT:Sig Unit:=sg [.look y2 true] [false] [(y2,none)] [] λd f k=>j1s d.1 (λb=>k [wB b] [] [])
theorem j7P:SO 266 jaT:=fK (np:=0) (Za6 jmT Zas) [] oN false Tryz.func266 λ_ _ _ _=>by kernel_rfl
def j8c (a:Int×Int×qB) (b:Int×Int×qB) (d:Bool->Res):Res:=j1s a λr=>bif !r then d false else j1s b λf=>bif !f then d false else bif (a.1 != b.1) then d (decide (a.1<b.1)) else bif decide (a.2.1<b.2.1) then d true else bif (a.2.1==b.2.1) then d (sLt a.2.2 b.2.2) else d false
def jm6:Sig Unit:=sg [.look y2 true,.look y2 true] [false] [(y2,none),(y2,none)] [] λb f k=>j8c b.1 b.2.1 (λd=>k [wB d] [] [])
theorem jfK:SO 282 jm6:=fK (np:=0) (Za6 j7P Zas) [] oN false Tryz.func282 λ_ _ _ _=>by delta j8c jaT;refine gz j1s λ_ b=> ?_;rewrite [<-b];kernel_rfl
def j0a (x:Int) (f:Int) (d:Int) (b:Bool->Res):Res:=bif decide (x>=f) then b (decide (x<=d)) else b false
def j1p:Sig Unit:=sg [.look tI false,.look tI false,.look tI false] [false] [(tI,none),(tI,none),(tI,none)] [] λb f k=>j0a b.1 b.2.1 b.2.2.1 (λd=>k [wB d] [] [])
theorem j28:SO 163 j1p:=fK (np:=0) Zas [] oN false Tryz.func163 λ_ _ _ _=>by kernel_rfl
def j3N (s:qB) (i:Int) (rec:Int->Res) (d:Unit->Res) (b:Unit->Res):Res:=bif decide (i<(nI (ByteArray.size s))) then bif inb i (ByteArray.size s) then bif decide ((bt s i)<97) then b () else bif inb i (ByteArray.size s) then bif decide ((bt s i)>122) then b () else rec (Z9K (i+1)) else none else none else d ()
def j6H (s:qB):Int->(Int->Res)->((Unit->Res)×(Unit->Res))->Res:=λv rec q=>j3N s v (λi=>rec (i)) q.1 q.2
def jbD (s:qB) (n:Nat) (i:Int) (b:Unit->Res) (d:Unit->Res):Res:=Z1f (j6H s) n (i) (b,d)
def jb8:Z1d Unit:=NdL 23 23 [.S 0,.I 3] [] (λb d=>(b.2.1)) (λb v=>(b.1,v,())) (λd v=>()) (λb d=>j6H b.1) λb d f=>((λ_=>f (.exit 0) [(0,vS b.1)] []),(λ_=>f .ret [(2,vB false)] []))
theorem jkE:CN 0 26 Tryz.f160 jb8:=lK (Za6 j28 Zas) [] oN ([],[]) [(0,[0],[])] ([2],[]) λ_ _ _ _ _=>by kernel_rfl
def j0y (s:qB) (b:Bool->Res):Res:=jbD s Z1c 0 (λ_=>j0a (nI (ByteArray.size s)) 1 8 λr=>b r) (λ_=>b false)
def j2Z:Sig Unit:=sg [.look .str false] [false] [(.str,none)] [] λd f k=>j0y d.1 (λb=>k [wB b] [] [])
theorem j9o:SO 160 j2Z:=fK (np:=0) (Za6 j28 Zas) [jb8] (oI 26 0 @jkE oN) false Tryz.func160 λ_ _ _ _=>by delta j0y jb8 j1p jbD;refine gz j6H λ_ b=>gz j0a λ_ d=> ?_;rewrite [<-b,<-d];kernel_rfl
def j16 (b:Int×Int×qB) (d:Bool->Res):Res:=bif (b.1==0) then d ((b.1==0)&&((b.2.1==0)&&(sEq b.2.2 eS))) else bif (b.1==1) then j0a b.2.1 0 1 λr=>bif r then d (sEq b.2.2 eS) else d false else bif (b.1==2) then j0a b.2.1 (-1099511627775) 1099511627775 λf=>bif f then d (sEq b.2.2 eS) else d false else bif (b.1==3) then bif (b.2.1==0) then d (decide ((nI (ByteArray.size b.2.2))<=30)) else d false else d false
def j81:Sig Unit:=sg [.look y2 true] [false] [(y2,none)] [] λd f k=>j16 d.1 (λb=>k [wB b] [] [])
theorem j7N:SO 273 j81:=fK (np:=0) (Za6 j28 Zas) [] oN false Tryz.func273 λ_ _ _ _=>by delta j16 j1p;refine gz j0a λ_ b=> ?_;rewrite [<-b];kernel_rfl
def j7S (a:Int×Int×qB) (b:Int×Int×qB) (d:Bool->Res):Res:=j16 a λr=>bif !r then d false else j16 b λf=>bif !f then d false else bif (a.1 != b.1) then d (decide (a.1<b.1)) else bif (a.2.1 != b.2.1) then d (decide (a.2.1<b.2.1)) else d (sLt a.2.2 b.2.2)
def jm5:Sig Unit:=sg [.look y2 true,.look y2 true] [false] [(y2,none),(y2,none)] [] λb f k=>j7S b.1 b.2.1 (λd=>k [wB d] [] [])
theorem jfC:SO 316 jm5:=fK (np:=0) (Za6 j7N Zas) [] oN false Tryz.func316 λ_ _ _ _=>by delta j7S j81;refine gz j16 λ_ b=> ?_;rewrite [<-b];kernel_rfl
end
end Go.PI.G
namespace Go.PI.G
noncomputable section
open Go Go.PI Go.Proofs
open Go.Code (pl pr)
def j5e (c:qB×Int×Bool×Bool×Int×Int×qB) (b:Bool->Res):Res:=j0G c.1 λr=>bif !r then b false else bif decide (c.2.1<1) then b false else bif decide (c.2.1>3) then b false else bif !c.2.2.2.1 then b ((c.2.2.2.2.1==0)&&((c.2.2.2.2.2.1==0)&&(sEq c.2.2.2.2.2.2 eS))) else j1s c.2.2.2.2 λd=>bif d then bif ((c.2.2.2.2.1==0)&&((c.2.2.2.2.2.1==0)&&(sEq c.2.2.2.2.2.2 eS))) then bif ((c.2.2.2.2.1==0)&&((c.2.2.2.2.2.1==0)&&(sEq c.2.2.2.2.2.2 eS))) then b (!c.2.2.1) else b true else bif (c.2.2.2.2.1==c.2.1) then bif ((c.2.2.2.2.1==0)&&((c.2.2.2.2.2.1==0)&&(sEq c.2.2.2.2.2.2 eS))) then b (!c.2.2.1) else b true else b false else b false
def j83:Sig Unit:=sg [.look y7 true] [false] [(y7,none)] [] λd f k=>j5e d.1 (λb=>k [wB b] [] [])
theorem jhL:SO 267 j83:=fK (np:=0) (Za6 j9q (Za6 j7P Zas)) [] oN false Tryz.func267 λ_ _ _ _=>by delta j5e j30 jaT;refine gz j0G λ_ b=>gz j1s λ_ d=> ?_;rewrite [<-b,<-d];kernel_rfl
def j5d (name:qB) (d:List qC) (h:Int) (b:Int) (rec:Int->Res) (f:Unit->Res) (g:Int->Res):Res:=bif decide (b<h) then bif inb b (List.length d) then bif sEq (nth (eS,0,false,false,0,0,eS) d b).1 name then g b else rec (Z9K (b+1)) else none else f ()
def jaY (name:qB) (d:List qC) (f:Int):Int->(Int->Res)->((Unit->Res)×(Int->Res))->Res:=λv rec q=>j5d name d f v (λb=>rec (b)) q.1 q.2
def jhh (name:qB) (g:List qC) (h:Int) (n:Nat) (b:Int) (d:Unit->Res) (f:Int->Res):Res:=Z1f (jaY name g h) n (b) (d,f)
def jgm:Z1d Unit:=NdL 21 21 [.S 1,.R 8 y8 .S,.I 9,.I 10] [] (λb d=>(b.2.2.2.1)) (λb v=>(b.1,b.2.1,b.2.2.1,v,())) (λd v=>()) (λb d=>jaY b.1 b.2.1 b.2.2.1) λb d f=>((λ_=>f (.exit 0) [] []),(λg=>f .ret [(4,vI g)] []))
theorem jlT:CN 0 26 Tryz.f230 jgm:=lK Zas [] oN ([],[]) [(0,[],[])] ([4],[]) λ_ _ _ _ _=>by kernel_rfl
def j0K (t:qB×qE×qL) (name:qB) (b:Int->Res):Res:=jhh name t.2.1 (nI (List.length t.2.1)) Z1c 0 (λ_=>b (-1)) (λd=>b d)
def j2E:Sig Unit:=sg [.look y29 true,.look .str false] [false] [(y29,none),(.str,none)] [] λb f k=>j0K b.1 b.2.1 (λd=>k [wI d] [] [])
theorem j5R:SO 230 j2E:=fK (np:=0) Zas [jgm] (oI 26 0 @jlT oN) false Tryz.func230 λ_ _ _ _=>by kernel_rfl
theorem j8m:FS [(154,j30),(230,j2E),(267,j83)]:=(Za6 j9q (Za6 j5R (Za6 jhL Zas)))
def j5k (t:qB×qE×qL) (b:Bool->Res):Res:=j0G t.1 λr=>bif !r then b true else bif decide ((nI (List.length t.2.1))<1) then b true else bif decide ((nI (List.length t.2.1))>8) then b true else b (decide ((nI (List.length t.2.2))<1))
def j4v:Z1d Unit:=Nd 75 75 [.t 1 (pB 1)] [(1,y29,[.S,.S])] λg d f=>j5k d.1.2 (λb=>f .normal [(1,pB 1),(30,vB b)] [(1,⟨y29,d.1.1,d.1.2,[.S,.S]⟩)])
theorem jjY:CN 0 12 Tryz.f227 j4v:=nK j8m [] oN ([1,30],[1]) [] ([],[]) λ_ _ _=>by kernel_rfl
def j23 (d:List qC) (f:Int) (t:qB×qE×qL) (b:Int) (rec:Int->Res) (h:Unit->Res) (g:Unit->Res):Res:=bif decide (b<f) then bif inb b (List.length d) then j5e (nth (eS,0,false,false,0,0,eS) d b) λr=>bif !r then g () else j0K t (nth (eS,0,false,false,0,0,eS) d b).1 λi=>bif (i != b) then g () else rec (Z9K (b+1)) else none else h ()
def j3e (b:List qC) (d:Int) (t:qB×qE×qL):Int->(Int->Res)->((Unit->Res)×(Unit->Res))->Res:=λv rec q=>j23 b d t v (λf=>rec (f)) q.1 q.2
def j7K (b:List qC) (d:Int) (t:qB×qE×qL) (n:Nat) (f:Int) (g:Unit->Res) (h:Unit->Res):Res:=Z1f (j3e b d t) n (f) (g,h)
def j74:Z1d Unit:=NdL 75 75 [.t 1 (pB 1),.R 32 y8 .S,.I 33,.I 34] [(1,y29,[.S,.S])] (λb d=>(b.2.2.1)) (λb v=>(b.1,b.2.1,v,())) (λd v=>((d.1.1,d.1.2),())) (λb d=>j3e b.1 b.2.1 d.1.2) λb d f=>((λ_=>f (.exit 0) [(1,pB 1)] [(1,⟨y29,d.1.1,d.1.2,[.S,.S]⟩)]),(λ_=>f .ret [(2,vB false)] []))
theorem jjW:CN 0 58 Tryz.f227 j74:=lK j8m [j4v] oN ([],[]) [(0,[1],[1])] ([2],[]) λ_ _ _ _ _=>by delta j3e j23 j83 j2E;refine gz j5e λ_ b=>gz j0K λ_ d=> ?_;rewrite [<-b,<-d];kernel_rfl
def j3f (f:qL) (g:Int) (t:qB×qE×qL) (d:Int) (b:Int) (rec:Int->Int->Res) (i:Unit->Res) (h:Unit->Res):Res:=bif decide (b<g) then bif inb b (List.length f) then j0K t (nth eS f b) λr=>bif decide (r<=d) then h () else bif inb r (List.length t.2.1) then bif !(nth (eS,0,false,false,0,0,eS) t.2.1 r).2.2.1 then h () else rec r (Z9K (b+1)) else none else none else i ()
def j5B (d:qL) (f:Int) (t:qB×qE×qL):(Int×Int)->(Int×Int->Res)->((Unit->Res)×(Unit->Res))->Res:=λv rec q=>j3f d f t v.1 v.2 (λb g=>rec (b,g)) q.1 q.2
def j7L (d:qL) (f:Int) (t:qB×qE×qL) (n:Nat) (b:Int) (g:Int) (h:Unit->Res) (i:Unit->Res):Res:=Z1f (j5B d f t) n (b,g) (h,i)
def ja7:Z1d Unit:=NdL 75 75 [.t 1 (pB 1),.I 5,.R 52 y0 .S,.I 53,.I 54] [(1,y29,[.S,.S])] (λb d=>(b.1,b.2.2.2.1)) (λb v=>(v.1,b.2.1,b.2.2.1,v.2,())) (λd v=>((d.1.1,d.1.2),())) (λb d=>j5B b.2.1 b.2.2.1 d.1.2) λb d f=>((λ_=>f (.exit 2) [] []),(λ_=>f .ret [(2,vB false)] []))
theorem jjX:CN 0 250 Tryz.f227 ja7:=lK j8m [j4v,j74] oN ([],[]) [(2,[],[])] ([2],[]) λ_ _ _ _ _=>by kernel_rfl
def j0x (t:qB×qE×qL) (b:Bool->Res):Res:=j5k t λd=>bif d then b false else j7K t.2.1 (nI (List.length t.2.1)) t Z1c 0 (λ_=>j7L t.2.2 (nI (List.length t.2.2)) t Z1c (-1) 0 (λ_=>b true) (λ_=>b false)) (λ_=>b false)
def j18:Sig Unit:=sg [.look y29 true] [false] [(y29,none)] [] λd f k=>j0x d.1 (λb=>k [wB b] [] [])
theorem j3y:SO 227 j18:=fK (np:=0) j8m [j4v,j74,ja7] (oI 12 0 @jjY (oI 58 1 @jjW (oI 250 2 @jjX oN))) false Tryz.func227 λ_ _ _ _=>by delta j0x j4v j74 ja7 j7K j7L;refine gz j5k λ_ b=>gz j3e λ_ d=>gz j5B λ_ f=> ?_;rewrite [<-b,<-d,<-f];kernel_rfl
theorem jhr:FS [(154,j30),(227,j18),(267,j83)]:=(Za6 j9q (Za6 j3y (Za6 jhL Zas)))
def j7g (d:qG) (b:Bool->Res):Res:=bif ((nI (List.length d.2.2.1))==0) then b ((nI (List.length d.2.2.2.1))==0) else b false
def jc3:Z1d Unit:=Nd 123 123 [.t 1 (pB 1)] [(1,y13,[.S,.S])] λf b d=>j7g b.1.2 (λplain=>d .normal [(1,pB 1),(3,vB plain)] [(1,⟨y13,b.1.1,b.1.2,[.S,.S]⟩)])
theorem jlU:CN 0 14 Tryz.f210 jc3:=nK jhr [] oN ([1,3],[1]) [] ([],[]) λ_ _ _=>by kernel_rfl
def j2v (d:qG) (b:Bool->Res):Res:=j0G d.2.1 λr=>bif !r then b false else j7g d λplain=>bif (d.1==1) then bif sEq d.2.2.2.2.1 eS then bif sEq d.2.2.2.2.2 eS then j0x (d.2.1,d.2.2.1,d.2.2.2.1) λf=>b f else b false else b false else bif (d.1==2) then bif plain then bif sEq d.2.2.2.2.1 eS then b (sEq d.2.2.2.2.2 eS) else b false else b false else bif (d.1==3) then bif ((nI (List.length d.2.2.1))==1) then bif inb 0 (List.length d.2.2.1) then j5e (nth (eS,0,false,false,0,0,eS) d.2.2.1 0) λg=>bif g then bif inb 0 (List.length d.2.2.1) then bif (nth (eS,0,false,false,0,0,eS) d.2.2.1 0).2.2.2.1 then bif ((nI (List.length d.2.2.2.1))==0) then bif sEq d.2.2.2.2.1 eS then b (sEq d.2.2.2.2.2 eS) else b false else b false else bif inb 0 (List.length d.2.2.1) then bif !(nth (eS,0,false,false,0,0,eS) d.2.2.1 0).2.2.1 then bif ((nI (List.length d.2.2.2.1))==0) then bif sEq d.2.2.2.2.1 eS then b (sEq d.2.2.2.2.2 eS) else b false else b false else b false else none else none else b false else none else b false else bif (d.1==4) then bif plain then j0G d.2.2.2.2.1 λh=>bif h then b (sEq d.2.2.2.2.2 eS) else b false else b false else bif (d.1==5) then bif plain then j0G d.2.2.2.2.1 λi=>bif i then j0G d.2.2.2.2.2 λj=>b j else b false else b false else b false
def j4e:Sig Unit:=sg [.look y13 true] [false] [(y13,none)] [] λd f k=>j2v d.1 (λb=>k [wB b] [] [])
theorem jdz:SO 210 j4e:=fK (np:=0) jhr [jc3] (oI 14 0 @jlU oN) false Tryz.func210 λ_ _ _ _=>by delta j2v j30 jc3 j18 j83;refine gz j0G λ_ b=>gz j7g λ_ d=>gz j0x λ_ f=>gz j5e λ_ g=> ?_;rewrite [<-b,<-d,<-f,<-g];kernel_rfl
def j5c (d:List qT) (f:Int) (c:List qT) (b:Int) (rec:Int->Res) (h:Unit->Res) (g:Unit->Res):Res:=bif decide (b<f) then bif inb b (List.length d) then j0x (nth (eS,[],[]) d b) λr=>bif !r then g () else bif decide (b>0) then bif inb (Z9K (b-1)) (List.length c) then bif sGe (nth (eS,[],[]) c (Z9K (b-1))).1 (nth (eS,[],[]) d b).1 then g () else rec (Z9K (b+1)) else none else rec (Z9K (b+1)) else none else h ()
def jaX (b:List qT) (d:Int) (c:List qT):Int->(Int->Res)->((Unit->Res)×(Unit->Res))->Res:=λv rec q=>j5c b d c v (λf=>rec (f)) q.1 q.2
def jcK (b:List qT) (d:Int) (c:List qT) (n:Nat) (f:Int) (g:Unit->Res) (h:Unit->Res):Res:=Z1f (jaX b d c) n (f) (g,h)
def jgl:Z1d Unit:=NdL 37 37 [.t 1 (pB 1),.R 10 y30 .S,.I 11,.I 12] [(1,y30,[.S])] (λb d=>(b.2.2.1)) (λb v=>(b.1,b.2.1,v,())) (λd v=>((d.1.1,d.1.2),())) (λb d=>jaX b.1 b.2.1 d.1.2) λb d f=>((λ_=>f (.exit 0) [] []),(λ_=>f .ret [(2,vB false)] []))
theorem jlS:CN 0 58 Tryz.f242 jgl:=lK (Za6 j3y Zas) [] oN ([],[]) [(0,[],[])] ([2],[]) λ_ _ _ _ _=>by kernel_rfl
def j6T (c:List qT) (b:Bool->Res):Res:=bif decide ((nI (List.length c))>6) then b false else jcK c (nI (List.length c)) c Z1c 0 (λ_=>b true) (λ_=>b false)
def j82:Sig Unit:=sg [.look y30 true] [false] [(y30,none)] [] λd f k=>j6T d.1 (λb=>k [wB b] [] [])
theorem jhK:SO 242 j82:=fK (np:=0) (Za6 j3y Zas) [jgl] (oI 58 0 @jlS oN) false Tryz.func242 λ_ _ _ _=>by kernel_rfl
def j4K (t:qB×qE×qL) (b:qT->Res):Res:=Z87 (Z87 (bif lim (0+(List.length t.2.1)) then bif lim (0+(List.length t.2.2)) then b (t.1,t.2.1,t.2.2) else none else none) (bif lim (0+(List.length t.2.1)) then bif lim (0+(List.length t.2.2)) then b (t.1,t.2.1,t.2.2) else none else none)) (bif lim (0+(List.length t.2.1)) then bif lim (0+(List.length t.2.2)) then b (t.1,t.2.1,t.2.2) else none else none)
def jaV:Sig Unit:=sg [.borrow y29 true] [true] [(y29,none)] [] λd f k=>j4K d.1 (λb=>k [⟨y29,true,b,[.O,.O]⟩] [] [])
theorem jat:SO 286 jaV:=fK (np:=0) Zas [] oN false Tryz.func286 λ_ _ _ _=>by kernel_rfl
def j3g (f:List qT) (h:Int) (b:Int) (d:List qT) (rec:Int->qF->Res) (g:qF->Res):Res:=bif decide (b<h) then bif inb b (List.length f) then j4K (nth (eS,[],[]) f b) λr=>bif lim ((List.length d)+1) then rec (Z9K (b+1)) (d++[r]) else none else none else g d
def j90 (f:List qT) (g:Int):(Int×qF)->(Int×qF->Res)->((qF->Res))->Res:=λv rec q=>j3g f g v.1 v.2 (λd b=>rec (d,b)) q
def jeL (g:List qT) (h:Int) (n:Nat) (d:Int) (b:List qT) (f:qF->Res):Res:=Z1f (j90 g h) n (d,b) (f)
def jec:Z1d Unit:=NdL 23 23 [.t 2 (pB 2),.t 3 (pB 3),.R 8 y30 .S,.I 9,.I 10] [(2,y30,[.O]),(3,y30,[.O])] (λd b=>(d.2.2.1,b.2.1.2)) (λd v=>(d.1,d.2.1,v.1,())) (λb v=>((b.1.1,b.1.2),(b.2.1.1,v.2),())) (λd b=>j90 d.1 d.2.1) λd b g=>((λf=>g (.exit 0) [(2,pB 2),(3,pB 3)] [(2,⟨y30,b.1.1,b.1.2,[.O]⟩),(3,⟨y30,b.2.1.1,f,[.O]⟩)]))
theorem jjZ:CN 0 58 Tryz.f243 jec:=lK (Za6 jat Zas) [] oN ([],[]) [(0,[2,3],[2,3])] ([],[]) λ_ _ _ _ _=>by kernel_rfl
def j4j (c:List qT) (d:qF->Res):Res:=jeL c (nI (List.length c)) Z1c 0 [] λb=>d b
def j6j:Sig Unit:=sg [.borrow y30 true] [true] [(y30,none)] [] λd f k=>j4j d.1 (λb=>k [⟨y30,true,b,[.O]⟩] [] [])
theorem jfL:SO 243 j6j:=fK (np:=0) (Za6 jat Zas) [jec] (oI 58 0 @jjZ oN) false Tryz.func243 λ_ _ _ _=>by kernel_rfl
def j5l (name:qB) (d:List qT) (h:Int) (b:Int) (rec:Int->Res) (f:Unit->Res) (g:Int->Res):Res:=bif decide (b<h) then bif inb b (List.length d) then bif sEq (nth (eS,[],[]) d b).1 name then g b else rec (Z9K (b+1)) else none else f ()
def jb1 (name:qB) (d:List qT) (f:Int):Int->(Int->Res)->((Unit->Res)×(Int->Res))->Res:=λv rec q=>j5l name d f v (λb=>rec (b)) q.1 q.2
def jhi (name:qB) (g:List qT) (h:Int) (n:Nat) (b:Int) (d:Unit->Res) (f:Int->Res):Res:=Z1f (jb1 name g h) n (b) (d,f)
def jgn:Z1d Unit:=NdL 21 21 [.S 1,.R 8 y30 .S,.I 9,.I 10] [] (λb d=>(b.2.2.2.1)) (λb v=>(b.1,b.2.1,b.2.2.1,v,())) (λd v=>()) (λb d=>jb1 b.1 b.2.1 b.2.2.1) λb d f=>((λ_=>f (.exit 0) [] []),(λg=>f .ret [(4,vI g)] []))
theorem jlZ:CN 0 26 Tryz.f113 jgn:=lK Zas [] oN ([],[]) [(0,[],[])] ([4],[]) λ_ _ _ _ _=>by kernel_rfl
def j1t (c:List qT) (name:qB) (b:Int->Res):Res:=jhi name c (nI (List.length c)) Z1c 0 (λ_=>b (-1)) (λt=>b t)
def j2F:Sig Unit:=sg [.look y30 true,.look .str false] [false] [(y30,none),(.str,none)] [] λb f k=>j1t b.1 b.2.1 (λd=>k [wI d] [] [])
theorem jas:SO 113 j2F:=fK (np:=0) Zas [jgn] (oI 26 0 @jlZ oN) false Tryz.func113 λ_ _ _ _=>by kernel_rfl
def jbZ (done:Bool) (t:qB×qE×qL) (b:List qT) (x:qB×qE×qL) (d:Bool->qF->Res):Res:=bif !done then bif sLt t.1 x.1 then bif lim ((List.length b)+1) then d true (b++[t]) else none else d done b else d done b
def jbi:Z1d Unit:=Nd 48 48 [.t 3 (pB 3),.t 4 (pB 4),.t 5 (pB 5),.B 6,.t 8 (pB 8),.R 11 y30 .S,.I 12,.I 13] [(3,y29,[.S,.S]),(4,y30,[.O]),(5,y30,[.PS]),(8,y29,[.S,.S])] λg b h=>jbZ g.1 b.1.2 b.2.2.1.2 b.2.2.2.1.2 (λd f=>h .normal [(3,pB 3),(4,pB 4),(5,pB 5),(6,vB d),(8,pB 8),(11,v1 y30 g.2.1 .S),(12,vI g.2.2.1),(13,vI g.2.2.2.1)] [(3,⟨y29,b.1.1,b.1.2,[.S,.S]⟩),(4,⟨y30,b.2.1.1,b.2.1.2,[.O]⟩),(5,⟨y30,b.2.2.1.1,f,[.PS]⟩),(8,⟨y29,b.2.2.2.1.1,b.2.2.2.1.2,[.S,.S]⟩)])
theorem jl1:CN 0 15666 Tryz.f309 jbi:=nK Zas [] oN ([3,4,5,6,8,11,12,13],[3,4,5,8]) [] ([],[]) λ_ _ _=>by kernel_rfl
def j4l (g:List qT) (i:Int) (t:qB×qE×qL) (done:Bool) (b:Int) (h:List qT) (rec:Bool->Int->qF->Res) (j:Bool->qF->Res):Res:=bif decide (b<i) then bif inb b (List.length g) then jbZ done t h (nth (eS,[],[]) g b) λf d=>bif lim ((List.length d)+1) then rec f (Z9K (b+1)) (d++[nth (eS,[],[]) g b]) else none else none else j done h
def j9T (d:List qT) (f:Int) (t:qB×qE×qL):(Bool×Int×qF)->(Bool×Int×qF->Res)->((Bool->qF->Res))->Res:=λv rec q=>j4l d f t v.1 v.2.1 v.2.2 (λdone g b=>rec (done,g,b)) q
def jbY (d:List qT) (f:Int) (t:qB×qE×qL) (n:Nat) (done:Bool) (g:Int) (b:List qT) (h:Bool->qF->Res):Res:=Z1f (j9T d f t) n (done,g,b) (h)
def jeR:Z1d Unit:=λσ k=>rdN σ 48<|rdT σ 3 (pB 3)<|rdT σ 4 (pB 4)<|rdT σ 5 (pB 5)<|rdO σ 6 λdone=>rd1 σ 11 y30 .S λg=>rdI σ 12 λh=>rdI σ 13 λi=>rdB σ 3 y29 [.S,.S] λa t=>rdB σ 4 y30 [.O] λj m=>rdB σ 5 y30 [.PS] λl f=>jbY g h t Z1c done i f (λb d=>k (.exit 0) (mkS 48 48 [(3,pB 3),(4,pB 4),(5,pB 5),(6,vB b)] [(3,⟨y29,a,t,[.S,.S]⟩),(4,⟨y30,j,m,[.O]⟩),(5,⟨y30,l,d,[.PS]⟩)]))
def jf4:Z1d Unit:=λσ k=>jeR (σ.wk [] [(5,[.PS])]) k
theorem jl0:CN 0 122 Tryz.f309 jf4:=λr=>ZaJ [] [(5,[.PS])] (jnx follows j1v Zas r [jbi] (oI 114 0 @jl1 oN) [3,4,5,6,11,12,13] [3,4,5] ([],[]) [(0,[3,4,5,6],[3,4,5])] ([],[]) (y:=jeR) λσ k _ h=>rN h λH h=>rT h λD h=>rT h λE h=>rT h λF h=>rV h λdone G h=>rV h λf i h=>rV h λg j h=>rV h λz l h=>rB h λa t n h=>rB h λA C p h=>rB h λB w q h=>⟨_,ZaM (m:=48) H (sC D (sC E (sC F (sC G (sC i (sC j (sC l sN))))))) (bC n (bC p (bC q bN))),.trans (Z9u (λv:Bool×Int×qF=>(mkS 48 48 [(3,pB 3),(4,pB 4),(5,pB 5),(6,vB v.1),(11,v1 y30 f .S),(12,vI g),(13,vI v.2.1)] [(3,⟨y29,a,t,[.S,.S]⟩),(4,⟨y30,A,C,[.O]⟩),(5,⟨y30,B,v.2.2,[.PS]⟩)])) (j9T f g t) (λ(k:Z83 Unit)=>(((λb d=>k (.exit 0) (mkS 48 48 [(3,pB 3),(4,pB 4),(5,pB 5),(6,vB b)] [(3,⟨y29,a,t,[.S,.S]⟩),(4,⟨y30,A,C,[.O]⟩),(5,⟨y30,B,d,[.PS]⟩)]))):(Bool->qF->Res))) (λv rec k=>by kernel_rfl) Z1c (done,z,w) k) h⟩)
def j9n (c:List qT) (t:qB×qE×qL) (d:qF->Res):Res:=jbY c (nI (List.length c)) t Z1c false 0 [] λdone b=>bif !done then bif lim ((List.length b)+1) then d (b++[t]) else none else d b
def jcH:Sig Unit:=sg [.borrow y30 true,.borrow y29 true] [true] [(y30,none),(y29,none)] [] λb f k=>j9n b.1 b.2.1 (λd=>k [⟨y30,true,d,[.PS]⟩] [] [])
theorem jmV:SO 309 jcH:=fK (np:=0) Zas [jbi,jf4] (oI 122 1 @jl0 oN) false Tryz.func309 λ_ _ _ _=>by kernel_rfl
def j4k (s:qB) (d:qL) (h:Int) (b:Int) (rec:Int->Res) (f:Unit->Res) (g:Unit->Res):Res:=bif decide (b<h) then bif inb b (List.length d) then bif sEq (nth eS d b) s then g () else rec (Z9K (b+1)) else none else f ()
def j9S (s:qB) (b:qL) (d:Int):Int->(Int->Res)->((Unit->Res)×(Unit->Res))->Res:=λv rec q=>j4k s b d v (λf=>rec (f)) q.1 q.2
def jgb (s:qB) (f:qL) (g:Int) (n:Nat) (h:Int) (b:Unit->Res) (d:Unit->Res):Res:=Z1f (j9S s f g) n (h) (b,d)
def jf3:Z1d Unit:=NdL 17 17 [.S 1,.R 7 y0 .S,.I 8,.I 9] [] (λb d=>(b.2.2.2.1)) (λb v=>(b.1,b.2.1,b.2.2.1,v,())) (λd v=>()) (λb d=>j9S b.1 b.2.1 b.2.2.1) λb d f=>((λ_=>f (.exit 0) [] []),(λ_=>f .ret [(4,vB true)] []))
theorem jkZ:CN 0 26 Tryz.f157 jf3:=lK Zas [] oN ([],[]) [(0,[],[])] ([4],[]) λ_ _ _ _ _=>by kernel_rfl
def j9m (l:qL) (s:qB) (b:Bool->Res):Res:=jgb s l (nI (List.length l)) Z1c 0 (λ_=>b false) (λ_=>b true)
def jhg:Sig Unit:=sg [.look y0 false,.look .str false] [false] [(y0,none),(.str,none)] [] λb f k=>j9m b.1 b.2.1 (λd=>k [wB d] [] [])
theorem jmU:SO 157 jhg:=fK (np:=0) Zas [jf3] (oI 26 0 @jkZ oN) false Tryz.func157 λ_ _ _ _=>by kernel_rfl
def j4J (t:qB×qE×qL) (d:qG) (b:Int->Res):Res:=j0K t d.2.2.2.2.1 λr=>bif (d.1==3) then bif inb 0 (List.length d.2.2.1) then j0K t (nth (eS,0,false,false,0,0,eS) d.2.2.1 0).1 λf=>bif decide (f>=0) then b 5 else bif ((nI (List.length t.2.1))==8) then b 6 else b 0 else none else bif (d.1==4) then bif decide (r<0) then b 7 else j9m t.2.2 d.2.2.2.2.1 λg=>bif g then b 8 else b 0 else bif (d.1==5) then j0K t d.2.2.2.2.2 λh=>bif decide (h>=0) then b 5 else bif decide (r<0) then b 7 else b 0 else b 0
def jaU:Sig Unit:=sg [.look y29 true,.look y13 true] [false] [(y29,none),(y13,none)] [] λb f k=>j4J b.1 b.2.1 (λd=>k [wI d] [] [])
theorem jkh:SO 310 jaU:=fK (np:=0) (Za6 jmU (Za6 j5R Zas)) [] oN false Tryz.func310 λ_ _ _ _=>by delta j4J j2E jhg;refine gz j0K λ_ b=>gz j9m λ_ d=> ?_;rewrite [<-b,<-d];kernel_rfl
def j5E (t:qB×qE×qL) (b:Unit->Res):Res:=Z87 (Z87 (bif lim (0+(List.length t.2.2)) then Z87 (b ()) (b ()) else none) (bif lim (0+(List.length t.2.2)) then b () else none)) (bif lim (0+(List.length t.2.2)) then b () else none)
def j12:Z1d Unit:=Nd 92 92 [.t 2 (pB 2),.t 3 (pB 3),.t 4 (pB 4)] [(2,y29,[.S,.S]),(3,y13,[.S,.S]),(4,y29,[.O,.O])] λf b d=>j5E b.1.2 (λ_=>d .normal [(2,pB 2),(3,pB 3),(4,pB 4),(5,pB 5)] [(2,⟨y29,b.1.1,b.1.2,[.S,.S]⟩),(3,⟨y13,b.2.1.1,b.2.1.2,[.S,.S]⟩),(4,⟨y29,b.2.2.1.1,b.2.2.1.2,[.O,.O]⟩),(5,⟨y29,false,(b.1.2.1,[],b.1.2.2.2),[.O,.O]⟩)])
theorem ji1:CN 0 6 Tryz.f311 j12:=nK Zas [] oN ([2,3,4,5],[2,3,4,5]) [] ([],[]) λ_ _ _=>by kernel_rfl
def j5F (d:qG) (c:qB×Int×Bool×Bool×Int×Int×qB) (b:Unit->Res) (f:Unit->Res):Res:=bif (d.1==4) then bif sEq c.1 d.2.2.2.2.1 then f () else b () else b ()
def j1L:Z1d Unit:=Nd 92 92 [.t 3 (pB 3),.t 4 (pB 4),.t 5 (pB 5),.t 7 (pB 7),.R 17 y8 .S,.I 18,.I 19] [(3,y13,[.S,.S]),(4,y29,[.O,.O]),(5,y29,[.O,.O]),(7,y7,[])] λd b f=>j5F b.1.2 b.2.2.2.1.2 (λ_=>f .normal [(3,pB 3),(4,pB 4),(5,pB 5),(7,pB 7),(17,v1 y8 d.1 .S),(18,vI d.2.1),(19,vI d.2.2.1)] [(3,⟨y13,b.1.1,b.1.2,[.S,.S]⟩),(4,⟨y29,b.2.1.1,b.2.1.2,[.O,.O]⟩),(5,⟨y29,b.2.2.1.1,b.2.2.1.2,[.O,.O]⟩),(7,⟨y7,b.2.2.2.1.1,b.2.2.2.1.2,[]⟩)]) (λ_=>f (.exit 1) [(3,pB 3),(4,pB 4),(5,pB 5),(17,v1 y8 d.1 .S),(18,vI d.2.1),(19,vI d.2.2.1),(27,.ptr ⟨true,7,[.fst]⟩),(28,vS b.2.2.2.1.2.1),(29,.ptr ⟨true,3,[.snd,.snd,.snd,.snd,.fst]⟩),(30,vS b.1.2.2.2.2.2.1),(31,vB (sEq b.2.2.2.1.2.1 b.1.2.2.2.2.2.1))] [(3,⟨y13,b.1.1,b.1.2,[.S,.S]⟩),(4,⟨y29,b.2.1.1,b.2.1.2,[.O,.O]⟩),(5,⟨y29,b.2.2.1.1,b.2.2.1.2,[.O,.O]⟩),(7,⟨y7,b.2.2.2.1.1,b.2.2.2.1.2,[]⟩)])
theorem ji2:CN 0 7474 Tryz.f311 j1L:=nK Zas [j12] oN ([3,4,5,7,17,18,19],[3,4,5,7]) [(1,[3,4,5,17,18,19,27,28,29,30,31],[3,4,5,7])] ([],[]) λ_ _ _=>by kernel_rfl
def j5G (d:qG) (c:qB×Int×Bool×Bool×Int×Int×qB) (b:qC->Res):Res:=bif (d.1==5) then bif sEq c.1 d.2.2.2.2.1 then b (d.2.2.2.2.2,c.2) else b c else b c
def j2J:Z1d Unit:=Nd 92 92 [.t 3 (pB 3),.t 4 (pB 4),.t 5 (pB 5),.t 7 (pB 7),.R 17 y8 .S,.I 18,.I 19] [(3,y13,[.S,.S]),(4,y29,[.O,.O]),(5,y29,[.O,.O]),(7,y7,[])] λd b f=>j5G b.1.2 b.2.2.2.1.2 (λc1=>f .normal [(3,pB 3),(4,pB 4),(5,pB 5),(7,pB 7),(17,v1 y8 d.1 .S),(18,vI d.2.1),(19,vI d.2.2.1)] [(3,⟨y13,b.1.1,b.1.2,[.S,.S]⟩),(4,⟨y29,b.2.1.1,b.2.1.2,[.O,.O]⟩),(5,⟨y29,b.2.2.1.1,b.2.2.1.2,[.O,.O]⟩),(7,⟨y7,b.2.2.2.1.1,c1,[]⟩)])
theorem ji3:CN 0 14950 Tryz.f311 j2J:=nK Zas [j12,j1L] oN ([3,4,5,7,17,18,19],[3,4,5,7]) [] ([],[]) λ_ _ _=>by kernel_rfl
def j1e (g:List qC) (h:Int) (d:qG) (f:Int) (b:qB×qE×qL) (rec:Int->qT->Res) (i:qT->Res):Res:=bif decide (f<h) then bif inb f (List.length g) then j5F d (nth (eS,0,false,false,0,0,eS) g f) (λ_=>j5G d (nth (eS,0,false,false,0,0,eS) g f) λc=>bif lim ((List.length b.2.1)+1) then rec (Z9K (f+1)) (b.1,(b.2.1++[c]),b.2.2) else none) (λ_=>rec (Z9K (f+1)) b) else none else i b
def j2k (f:List qC) (g:Int) (d:qG):(Int×qT)->(Int×qT->Res)->((qT->Res))->Res:=λv rec q=>j1e f g d v.1 v.2 (λh b=>rec (h,b)) q
def j5C (f:List qC) (g:Int) (d:qG) (n:Nat) (h:Int) (b:qB×qE×qL) (i:qT->Res):Res:=Z1f (j2k f g d) n (h,b) (i)
def j5p:Z1d Unit:=NdL 92 92 [.t 3 (pB 3),.t 4 (pB 4),.t 5 (pB 5),.R 17 y8 .S,.I 18,.I 19] [(3,y13,[.S,.S]),(4,y29,[.O,.O]),(5,y29,[.O,.O])] (λd b=>(d.2.2.1,b.2.2.1.2)) (λd v=>(d.1,d.2.1,v.1,())) (λb v=>((b.1.1,b.1.2),(b.2.1.1,b.2.1.2),(b.2.2.1.1,v.2),())) (λd b=>j2k d.1 d.2.1 b.1.2) λd b g=>((λf=>g (.exit 0) [(3,pB 3),(4,pB 4),(5,pB 5)] [(3,⟨y13,b.1.1,b.1.2,[.S,.S]⟩),(4,⟨y29,b.2.1.1,b.2.1.2,[.O,.O]⟩),(5,⟨y29,b.2.2.1.1,f,[.O,.O]⟩)]))
theorem jhZ:CN 0 58 Tryz.f311 j5p:=lK Zas [j12,j1L,j2J] (oI 114 1 @ji2 (oI 230 2 @ji3 oN)) ([],[]) [(0,[3,4,5],[3,4,5])] ([],[]) λ_ _ _ _ _=>by delta j2k j1e j1L j2J;refine gz j5F λ_ b=>gz j5G λ_ d=> ?_;rewrite [<-b,<-d];kernel_rfl
def j0n (g:Int) (d:qG) (f:Int) (b:qB×qE×qL) (rec:Int->qT->Res) (h:qT->Res):Res:=bif decide (f<g) then bif (d.1==5) then bif inb f (List.length b.2.2) then bif sEq (nth eS b.2.2 f) d.2.2.2.2.1 then bif inb f (List.length b.2.2) then rec (Z9K (f+1)) (b.1,b.2.1,upd b.2.2 f d.2.2.2.2.2) else none else rec (Z9K (f+1)) b else none else rec (Z9K (f+1)) b else h b
def j4A (f:Int) (d:qG):(Int×qT)->(Int×qT->Res)->((qT->Res))->Res:=λv rec q=>j0n f d v.1 v.2 (λg b=>rec (g,b)) q
def j5D (f:Int) (d:qG) (n:Nat) (g:Int) (b:qB×qE×qL) (h:qT->Res):Res:=Z1f (j4A f d) n (g,b) (h)
def j8i:Z1d Unit:=NdL 92 92 [.t 3 (pB 3),.t 4 (pB 4),.t 5 (pB 5),.I 55,.I 56] [(3,y13,[.S,.S]),(4,y29,[.O,.O]),(5,y29,[.O,.O])] (λd b=>(d.2.1,b.2.2.1.2)) (λd v=>(d.1,v.1,())) (λb v=>((b.1.1,b.1.2),(b.2.1.1,b.2.1.2),(b.2.2.1.1,v.2),())) (λd b=>j4A d.1 b.1.2) λd b g=>((λf=>g (.exit 2) [(3,pB 3),(4,pB 4),(5,pB 5)] [(3,⟨y13,b.1.1,b.1.2,[.S,.S]⟩),(4,⟨y29,b.2.1.1,b.2.1.2,[.O,.O]⟩),(5,⟨y29,b.2.2.1.1,f,[.O,.O]⟩)]))
theorem ji0:CN 0 122 Tryz.f311 j8i:=lK Zas [j12,j1L,j2J,j5p] oN ([],[]) [(2,[3,4,5],[3,4,5])] ([],[]) λ_ _ _ _ _=>by kernel_rfl
def j3G (t:qB×qE×qL) (d:qG) (g:qT->Res):Res:=j5E t λ_=>j5C t.2.1 (nI (List.length t.2.1)) d Z1c 0 (t.1,[],t.2.2) λf=>j5D (nI (List.length f.2.2)) d Z1c 0 f λb=>bif (d.1==3) then bif inb 0 (List.length d.2.2.1) then bif lim ((List.length b.2.1)+1) then g (b.1,(b.2.1++[nth (eS,0,false,false,0,0,eS) d.2.2.1 0]),b.2.2) else none else none else g b
def j9N:Sig Unit:=sg [.borrow y29 true,.borrow y13 true] [true] [(y29,none),(y13,none)] [] λb f k=>j3G b.1 b.2.1 (λd=>k [⟨y29,true,d,[.O,.O]⟩] [] [])
theorem jjt:SO 311 j9N:=fK (np:=0) Zas [j12,j1L,j2J,j5p,j8i] (oI 6 0 @ji1 (oI 58 3 @jhZ (oI 122 4 @ji0 oN))) false Tryz.func311 λ_ _ _ _=>by delta j3G j12 j5p j8i j5C j5D;refine gz j5E λ_ b=>gz j2k λ_ d=>gz j4A λ_ f=> ?_;rewrite [<-b,<-d,<-f];kernel_rfl
theorem jan:FS [(113,j2F),(210,j4e),(242,j82),(243,j6j),(286,jaV),(309,jcH),(310,jaU),(311,j9N)]:=(Za6 jas (Za6 jdz (Za6 jhK (Za6 jfL (Za6 jat (Za6 jmV (Za6 jkh (Za6 jjt Zas))))))))
def j4f (d:qG) (b:List qT) (f:qF->Res):Res:=j4K (d.2.1,d.2.2.1,d.2.2.2.1) λr=>j9n b r λg=>f g
def j93:Z1d Unit:=λσ k=>rdN σ 88<|rdT σ 3 (pB 3)<|rdT σ 4 (pB 4)<|rdT σ 7 (pB 7)<|rdB σ 3 y13 [.S,.S] λa d=>rdB σ 4 y30 [.O] λg i=>rdB σ 7 y30 [.S] λh b=>j4f d b (λf=>k .ret (mkS 88 88 [(4,pB 4),(5,vI 0)] [(4,⟨y30,g,f,[.PS]⟩)]))
def j5O:Z1d Unit:=λσ k=>j93 (σ.wk [] [(7,[.S])]) k
theorem jiU:CN 0 1003 Tryz.f287 j5O:=λi=>ZaJ [] [(7,[.S])] (jiu follows j1v jan i [] oN ([],[]) [] ([4,5],[4]) (y:=j93) λσ k _ h=>rN h λr h=>rT h λn h=>rT h λp h=>rT h λq h=>rB h λa d b h=>rB h λz B f h=>rB h λA w g h=>⟨_,ZaM (m:=88) r (sC n (sC p (sC q sN))) (bC b (bC f (bC g bN))),.trans (by delta j4f jaV jcH;refine gz j4K λ_ j=>gz j9n λ_ l=> ?_;rewrite [<-j,<-l];kernel_rfl) h⟩)
def j6U (d:Int) (b:List qT) (f:Unit->Res):Res:=bif Z8e 0 d (List.length b) then bif Z8e (Z9K (d+1)) (nI (List.length b)) (List.length b) then bif lim (0+(List.length (sub b 0 d))) then bif lim ((List.length (sub b 0 d))+(List.length (sub b (Z9K (d+1)) (nI (List.length b))))) then f () else none else none else none else none
def j94:Z1d Unit:=λσ k=>rdN σ 88<|rdT σ 4 (pB 4)<|rdI σ 6 λd=>rdT σ 7 (pB 7)<|rdB σ 4 y30 [.O] λa g=>rdB σ 7 y30 [.S] λf b=>j6U d b (λ_=>k .ret (mkS 88 88 [(4,pB 4),(5,vI 0)] [(4,⟨y30,a,((sub b 0 d)++(sub b (Z9K (d+1)) (nI (List.length b)))),[.PS]⟩)]))
def j96:Z1d Unit:=λσ k=>j94 (σ.wk [] [(7,[.S])]) k
theorem jiV:CN 0 4090 Tryz.f287 j96:=λf=>ZaJ [] [(7,[.S])] (jiu follows j1v jan f [j5O] oN ([],[]) [] ([4,5],[4]) (y:=j94) λσ k _ h=>rN h λn h=>rT h λi h=>rV h λg j h=>rT h λl h=>rB h λa r b h=>rB h λq p d h=>⟨_,ZaM (m:=88) n (sC i (sC j (sC l sN))) (bC b (bC d bN)),.trans (by kernel_rfl) h⟩)
def j2b (c:List qT) (d:qG) (f:qF->Int->Res):Res:=j6T c λr=>bif !r then f [] 1 else j2v d λi=>bif !i then f [] 1 else j1t c d.2.1 λb=>j4j c λg=>bif (d.1==1) then bif decide (b>=0) then f [] 2 else bif ((nI (List.length c))==6) then f [] 3 else j4f d g λt=>f t 0 else bif decide (b<0) then f [] 4 else bif inb b (List.length c) then j4J (nth (eS,[],[]) c b) d λh=>bif (h != 0) then f [] h else bif (d.1==2) then j6U b g λ_=>f ((sub g 0 b)++(sub g (Z9K (b+1)) (nI (List.length g)))) 0 else bif inb b (List.length c) then j3G (nth (eS,[],[]) c b) d λj=>bif inb b (List.length g) then f (upd g b j) 0 else none else none else none
def j5a:Sig Unit:=sg [.borrow y30 true,.borrow y13 true] [true,false] [(y30,none),(y13,none)] [] λb g k=>j2b b.1 b.2.1 (λd f=>k [⟨y30,true,d,[.S]⟩,wI f] [] [])
theorem jep:SO 287 j5a:=fK (np:=0) jan [j5O,j96] (oI 1003 0 @jiU (oI 4090 1 @jiV oN)) true Tryz.func287 λ_ _ _ _=>by delta j2b j82 j4e j2F j6j j5O jaU j96 j9N;delta j93 j94;refine gz j6T λ_ b=>gz j2v λ_ d=>gz j1t λ_ f=>gz j4j λ_ g=>gz j4f λ_ h=>gz j4J λ_ i=>gz j6U λ_ j=>gz j3G λ_ k=> ?_;rewrite [<-b,<-d,<-f,<-g,<-h,<-i,<-j,<-k];kernel_rfl
def j3A (l:qL) (b:qL->Res):Res:=bif lim (0+(List.length l)) then b l else none
def jk9:Sig Unit:=sg [.borrow y0 false] [false] [(y0,none)] [] λd f k=>j3A d.1 (λb=>k [w1 y0 b .O] [] [])
theorem jds:SO 217 jk9:=fK (np:=0) Zas [] oN false Tryz.func217 λ_ _ _ _=>by kernel_rfl
def j3z (t:qB×qE×qL) (b:qT->Res):Res:=bif lim (0+(List.length t.2.1)) then j3A t.2.2 λr=>b (t.1,t.2.1,r) else none
def jk8:Sig Unit:=sg [.borrow y29 true] [true] [(y29,none)] [] λd f k=>j3z d.1 (λb=>k [⟨y29,true,b,[.O,.O]⟩] [] [])
theorem j9C:SO 283 jk8:=fK (np:=0) (Za6 jds Zas) [] oN false Tryz.func283 λ_ _ _ _=>by kernel_rfl
def j2Y (d:qG) (b:qT->Res):Res:=j3z (d.2.1,d.2.2.1,d.2.2.2.1) λr=>b r
def j7B:Sig Unit:=sg [.borrow y13 true] [true] [(y13,none)] [] λd f k=>j2Y d.1 (λb=>k [⟨y29,true,b,[.O,.O]⟩] [] [])
theorem jem:SO 269 j7B:=fK (np:=0) (Za6 j9C Zas) [] oN false Tryz.func269 λ_ _ _ _=>by kernel_rfl
def j4S (c:qB×Int×Bool×Bool×Int×Int×qB) (b:Bool->Res):Res:=j0y c.1 λr=>bif !r then b false else j0a c.2.1 1 3 λd=>bif !d then b false else j16 c.2.2.2.2 λf=>bif !f then b false else bif !c.2.2.2.1 then b ((c.2.2.2.2.1==0)&&((c.2.2.2.2.2.1==0)&&(sEq c.2.2.2.2.2.2 eS))) else bif (c.2.2.2.2.1==c.2.1) then b true else bif (c.2.2.2.2.1==0) then b (!c.2.2.1) else b false
def jaP:Sig Unit:=sg [.look y7 true] [false] [(y7,none)] [] λd f k=>j4S d.1 (λb=>k [wB b] [] [])
theorem jhx:SO 270 jaP:=fK (np:=0) (Za6 j9o (Za6 j28 (Za6 j7N Zas))) [] oN false Tryz.func270 λ_ _ _ _=>by delta j4S j2Z j1p j81;refine gz j0y λ_ b=>gz j0a λ_ d=>gz j16 λ_ f=> ?_;rewrite [<-b,<-d,<-f];kernel_rfl
def jff (c:qB×Int×Bool×Bool×Int×Int×qB) (d:qB) (b:Bool->Res):Res:=b (sEq c.1 d)
def jnh:Sig Unit:=sg [.look y7 true,.rptr .str] [false] [(y7,none),(.str,none)] [] λb f k=>jff b.1 b.2.1 (λd=>k [wB d] [] [])
theorem jgX:SO 308 jnh:=fK (np:=0) Zas [] oN false Tryz.func308 λ_ _ _ _=>by kernel_rfl
def j0Z (s:List qC) (f:qB) (h:Int) (b:Int) (rec:Int->Res) (d:Unit->Res) (g:Int->Res):Res:=bif decide (b<h) then bif inb b (List.length s) then jff (nth (eS,0,false,false,0,0,eS) s b) f λr=>bif r then g b else rec (Z9K (b+1)) else none else d ()
def j3q (s:List qC) (f:qB) (b:Int):Int->(Int->Res)->((Unit->Res)×(Int->Res))->Res:=λv rec q=>j0Z s f b v (λd=>rec (d)) q.1 q.2
def j8M (s:List qC) (f:qB) (g:Int) (n:Nat) (h:Int) (b:Unit->Res) (d:Int->Res):Res:=Z1f (j3q s f g) n (h) (b,d)
def j8f:Z1d Unit:=NdL 19 19 [.R 0 y8 .S,.c 1 308 [.str] .str [],.I 7,.I 8] [] (λb d=>(b.2.2.2.1)) (λb v=>(b.1,b.2.1,b.2.2.1,v,())) (λd v=>()) (λb d=>j3q b.1 b.2.1 b.2.2.1) λb d f=>((λ_=>f (.exit 0) [] []),(λg=>f .ret [(4,vI g)] []))
theorem jdT:CN 0 26 Tryz.f307 j8f:=lK (Za6 jgX Zas) [] oN ([],[]) [(0,[],[])] ([4],[]) λ_ _ _ _ _=>by kernel_rfl
def j6P (s:List qC) (f:qB) (b:Int->Res):Res:=j8M s f (nI (List.length s)) Z1c 0 (λ_=>b (-1)) (λt=>b t)
def jfm:Sig Unit:=sg [.look y8 false,.rclos 308 [.str]] [false] [(y8,none),(.str,none)] [] λb f k=>j6P b.1 b.2.1 (λd=>k [wI d] [] [])
theorem jf9:SO 307 jfm:=fK (np:=0) (Za6 jgX Zas) [j8f] (oI 26 0 @jdT oN) false Tryz.func307 λ_ _ _ _=>by kernel_rfl
def j0f (t:qB×qE×qL) (name:qB) (b:Int->Res):Res:=j6P t.2.1 name λr=>b r
def j0O:Sig Unit:=sg [.look y29 true,.look .str false] [false] [(y29,none),(.str,none)] [] λb f k=>j0f b.1 b.2.1 (λd=>k [wI d] [] [])
theorem j3J:SO 284 j0O:=fK (np:=0) (Za6 jf9 Zas) [] oN false Tryz.func284 λ_ _ _ _=>by kernel_rfl
theorem jbu:FS [(160,j2Z),(163,j1p),(270,jaP),(284,j0O)]:=(Za6 j9o (Za6 j28 (Za6 jhx (Za6 j3J Zas))))
def j21 (d:List qC) (f:Int) (t:qB×qE×qL) (b:Int) (rec:Int->Res) (h:Unit->Res) (g:Unit->Res):Res:=bif decide (b<f) then bif inb b (List.length d) then j4S (nth (eS,0,false,false,0,0,eS) d b) λr=>bif !r then g () else j0f t (nth (eS,0,false,false,0,0,eS) d b).1 λi=>bif (i != b) then g () else rec (Z9K (b+1)) else none else h ()
def j36 (b:List qC) (d:Int) (t:qB×qE×qL):Int->(Int->Res)->((Unit->Res)×(Unit->Res))->Res:=λv rec q=>j21 b d t v (λf=>rec (f)) q.1 q.2
def j7x (b:List qC) (d:Int) (t:qB×qE×qL) (n:Nat) (f:Int) (g:Unit->Res) (h:Unit->Res):Res:=Z1f (j36 b d t) n (f) (g,h)
def j71:Z1d Unit:=NdL 68 68 [.t 1 (pB 1),.R 10 y8 .S,.I 11,.I 12] [(1,y29,[.S,.S])] (λb d=>(b.2.2.1)) (λb v=>(b.1,b.2.1,v,())) (λd v=>((d.1.1,d.1.2),())) (λb d=>j36 b.1 b.2.1 d.1.2) λb d f=>((λ_=>f (.exit 0) [(1,pB 1)] [(1,⟨y29,d.1.1,d.1.2,[.S,.S]⟩)]),(λ_=>f .ret [(2,vB false)] []))
theorem jjI:CN 0 26 Tryz.f268 j71:=lK jbu [] oN ([],[]) [(0,[1],[1])] ([2],[]) λ_ _ _ _ _=>by delta j36 j21 jaP j0O;refine gz j4S λ_ b=>gz j0f λ_ d=> ?_;rewrite [<-b,<-d];kernel_rfl
def j37 (f:qL) (g:Int) (t:qB×qE×qL) (d:Int) (b:Int) (rec:Int->Int->Res) (i:Unit->Res) (h:Unit->Res):Res:=bif decide (b<g) then bif inb b (List.length f) then j0f t (nth eS f b) λr=>bif decide (r<=d) then h () else bif inb r (List.length t.2.1) then bif !(nth (eS,0,false,false,0,0,eS) t.2.1 r).2.2.1 then h () else rec r (Z9K (b+1)) else none else none else i ()
def j5y (d:qL) (f:Int) (t:qB×qE×qL):(Int×Int)->(Int×Int->Res)->((Unit->Res)×(Unit->Res))->Res:=λv rec q=>j37 d f t v.1 v.2 (λb g=>rec (b,g)) q.1 q.2
def j7y (d:qL) (f:Int) (t:qB×qE×qL) (n:Nat) (b:Int) (g:Int) (h:Unit->Res) (i:Unit->Res):Res:=Z1f (j5y d f t) n (b,g) (h,i)
def ja2:Z1d Unit:=NdL 68 68 [.t 1 (pB 1),.I 5,.R 30 y0 .S,.I 31,.I 32] [(1,y29,[.S,.S])] (λb d=>(b.1,b.2.2.2.1)) (λb v=>(v.1,b.2.1,b.2.2.1,v.2,())) (λd v=>((d.1.1,d.1.2),())) (λb d=>j5y b.2.1 b.2.2.1 d.1.2) λb d f=>((λ_=>f (.exit 2) [(1,pB 1)] [(1,⟨y29,d.1.1,d.1.2,[.S,.S]⟩)]),(λ_=>f .ret [(2,vB false)] []))
theorem jjJ:CN 0 122 Tryz.f268 ja2:=lK jbu [j71] oN ([],[]) [(2,[1],[1])] ([2],[]) λ_ _ _ _ _=>by kernel_rfl
def j0M (t:qB×qE×qL) (b:Bool->Res):Res:=j7x t.2.1 (nI (List.length t.2.1)) t Z1c 0 (λ_=>j7y t.2.2 (nI (List.length t.2.2)) t Z1c (-1) 0 (λ_=>j0y t.1 λr=>bif r then j0a (nI (List.length t.2.1)) 1 8 λd=>bif d then b (decide ((nI (List.length t.2.2))>0)) else b false else b false) (λ_=>b false)) (λ_=>b false)
def j3E:Sig Unit:=sg [.look y29 true] [false] [(y29,none)] [] λd f k=>j0M d.1 (λb=>k [wB b] [] [])
theorem j5Q:SO 268 j3E:=fK (np:=0) jbu [j71,ja2] (oI 26 0 @jjI (oI 122 1 @jjJ oN)) false Tryz.func268 λ_ _ _ _=>by delta j0M j71 ja2 j2Z j1p j7x j7y;refine gz j36 λ_ b=>gz j5y λ_ d=>gz j0y λ_ f=>gz j0a λ_ g=> ?_;rewrite [<-b,<-d,<-f,<-g];kernel_rfl
def j0e (a:qG) (b:qG) (d:Bool->Res):Res:=bif (a.1==b.1) then bif sEq a.2.1 b.2.1 then j1x a.2.2.1 b.2.2.1 λr=>bif r then j2j a.2.2.2.1 b.2.2.2.1 λf=>bif f then bif sEq a.2.2.2.2.1 b.2.2.2.2.1 then d (sEq a.2.2.2.2.2 b.2.2.2.2.2) else d false else d false else d false else d false else d false
def j7C:Sig Unit:=sg [.look y13 true,.look y13 true] [false] [(y13,none),(y13,none)] [] λb f k=>j0e b.1 b.2.1 (λd=>k [wB d] [] [])
theorem jao:SO 212 j7C:=fK (np:=0) (Za6 jhI (Za6 jfH Zas)) [] oN false Tryz.func212 λ_ _ _ _=>by delta j0e jcn jah;refine gz j1x λ_ b=>gz j2j λ_ d=> ?_;rewrite [<-b,<-d];kernel_rfl
def j2t (d:qG) (b:Bool->Res):Res:=j0y d.2.1 λr=>bif !r then b false else bif (d.1==1) then j2Y d λg=>j0M g λh=>bif h then bif sEq d.2.2.2.2.1 eS then b (sEq d.2.2.2.2.2 eS) else b false else b false else bif (d.1==2) then j0e d (d.1,d.2.1,[],[],eS,eS) λi=>b i else bif (d.1==3) then j0e d (d.1,d.2.1,d.2.2.1,[],eS,eS) λj=>bif j then bif ((nI (List.length d.2.2.1))==1) then bif inb 0 (List.length d.2.2.1) then j4S (nth (eS,0,false,false,0,0,eS) d.2.2.1 0) λk=>bif k then bif inb 0 (List.length d.2.2.1) then bif (nth (eS,0,false,false,0,0,eS) d.2.2.1 0).2.2.2.1 then b true else bif inb 0 (List.length d.2.2.1) then b (!(nth (eS,0,false,false,0,0,eS) d.2.2.1 0).2.2.1) else none else none else b false else none else b false else b false else bif (d.1==4) then j0e d (d.1,d.2.1,[],[],d.2.2.2.2.1,eS) λl=>bif l then j0y d.2.2.2.2.1 λm=>b m else b false else bif (d.1==5) then j0e d (d.1,d.2.1,[],[],d.2.2.2.2.1,d.2.2.2.2.2) λn=>bif n then j0y d.2.2.2.2.1 λp=>bif p then j0y d.2.2.2.2.2 λf=>b f else b false else b false else b false
def j4b:Sig Unit:=sg [.look y13 true] [false] [(y13,none)] [] λd f k=>j2t d.1 (λb=>k [wB b] [] [])
theorem jdr:SO 211 j4b:=fK (np:=0) (Za6 j9o (Za6 jao (Za6 j5Q (Za6 jem (Za6 jhx Zas))))) [] oN false Tryz.func211 λ_ _ _ _=>by delta j2t j2Z j7B j3E j7C jaP;refine gz j0y λ_ b=>gz j2Y λ_ d=>gz j0M λ_ f=>gz j0e λ_ g=>gz j4S λ_ h=> ?_;rewrite [<-b,<-d,<-f,<-g,<-h];kernel_rfl
def jaA (d:qG) (b:qG->Res):Res:=bif lim (0+(List.length d.2.2.1)) then j3A d.2.2.2.1 λr=>b (d.1,d.2.1,d.2.2.1,r,d.2.2.2.2) else none
def jg6:Sig Unit:=sg [.borrow y13 true] [true] [(y13,none)] [] λd f k=>jaA d.1 (λb=>k [⟨y13,true,b,[.O,.O]⟩] [] [])
theorem jlr:SO 275 jg6:=fK (np:=0) (Za6 jds Zas) [] oN false Tryz.func275 λ_ _ _ _=>by kernel_rfl
def j4R (d:List qT) (h:Int) (c:List qT) (b:Int) (rec:Int->Res) (g:Unit->Res) (f:Unit->Res):Res:=bif decide (b<h) then bif inb b (List.length d) then j0M (nth (eS,[],[]) d b) λr=>bif !r then f () else bif decide (b>0) then bif inb (Z9K (b-1)) (List.length c) then bif sGe (nth (eS,[],[]) c (Z9K (b-1))).1 (nth (eS,[],[]) d b).1 then f () else rec (Z9K (b+1)) else none else rec (Z9K (b+1)) else none else g ()
def jax (b:List qT) (d:Int) (c:List qT):Int->(Int->Res)->((Unit->Res)×(Unit->Res))->Res:=λv rec q=>j4R b d c v (λf=>rec (f)) q.1 q.2
def jcx (f:List qT) (g:Int) (c:List qT) (n:Nat) (h:Int) (b:Unit->Res) (d:Unit->Res):Res:=Z1f (jax f g c) n (h) (b,d)
def jgi:Z1d Unit:=NdL 37 37 [.t 1 (pB 1),.R 6 y30 .S,.I 7,.I 8] [(1,y30,[.S])] (λb d=>(b.2.2.1)) (λb v=>(b.1,b.2.1,v,())) (λd v=>((d.1.1,d.1.2),())) (λb d=>jax b.1 b.2.1 d.1.2) λb d f=>((λ_=>f (.exit 0) [(1,pB 1)] [(1,⟨y30,d.1.1,d.1.2,[.S]⟩)]),(λ_=>f .ret [(2,vB false)] []))
theorem jlO:CN 0 26 Tryz.f250 jgi:=lK (Za6 j5Q Zas) [] oN ([],[]) [(0,[1],[1])] ([2],[]) λ_ _ _ _ _=>by kernel_rfl
def j6G (c:List qT) (b:Bool->Res):Res:=jcx c (nI (List.length c)) c Z1c 0 (λ_=>b (decide ((nI (List.length c))<=6))) (λ_=>b false)
def j7Z:Sig Unit:=sg [.look y30 true] [false] [(y30,none)] [] λd f k=>j6G d.1 (λb=>k [wB b] [] [])
theorem jhw:SO 250 j7Z:=fK (np:=0) (Za6 j5Q Zas) [jgi] (oI 26 0 @jlO oN) false Tryz.func250 λ_ _ _ _=>by kernel_rfl
def j38 (f:List qT) (h:Int) (b:Int) (d:List qT) (rec:Int->qF->Res) (g:qF->Res):Res:=bif decide (b<h) then bif inb b (List.length f) then j3z (nth (eS,[],[]) f b) λr=>bif lim ((List.length d)+1) then rec (Z9K (b+1)) (d++[r]) else none else none else g d
def j8T (f:List qT) (g:Int):(Int×qF)->(Int×qF->Res)->((qF->Res))->Res:=λv rec q=>j38 f g v.1 v.2 (λd b=>rec (d,b)) q
def jez (g:List qT) (h:Int) (n:Nat) (d:Int) (b:List qT) (f:qF->Res):Res:=Z1f (j8T g h) n (d,b) (f)
def je9:Z1d Unit:=NdL 23 23 [.t 2 (pB 2),.t 3 (pB 3),.R 8 y30 .S,.I 9,.I 10] [(2,y30,[.O]),(3,y30,[.O])] (λd b=>(d.2.2.1,b.2.1.2)) (λd v=>(d.1,d.2.1,v.1,())) (λb v=>((b.1.1,b.1.2),(b.2.1.1,v.2),())) (λd b=>j8T d.1 d.2.1) λd b g=>((λf=>g (.exit 0) [(2,pB 2),(3,pB 3)] [(2,⟨y30,b.1.1,b.1.2,[.O]⟩),(3,⟨y30,b.2.1.1,f,[.O]⟩)]))
theorem jjL:CN 0 58 Tryz.f231 je9:=lK (Za6 j9C Zas) [] oN ([],[]) [(0,[2,3],[2,3])] ([],[]) λ_ _ _ _ _=>by kernel_rfl
def j3O (c:List qT) (d:qF->Res):Res:=jez c (nI (List.length c)) Z1c 0 [] λb=>d b
def j6b:Sig Unit:=sg [.borrow y30 true] [true] [(y30,none)] [] λd f k=>j3O d.1 (λb=>k [⟨y30,true,b,[.O]⟩] [] [])
theorem jfD:SO 231 j6b:=fK (np:=0) (Za6 j9C Zas) [je9] (oI 58 0 @jjL oN) false Tryz.func231 λ_ _ _ _=>by kernel_rfl
def jdE (t:qB×qE×qL) (d:qB) (b:Bool->Res):Res:=b (sEq t.1 d)
def jm4:Sig Unit:=sg [.look y29 true,.rptr .str] [false] [(y29,none),(.str,none)] [] λb f k=>jdE b.1 b.2.1 (λd=>k [wB d] [] [])
theorem jfy:SO 235 jm4:=fK (np:=0) Zas [] oN false Tryz.func235 λ_ _ _ _=>by kernel_rfl
def j0H (s:List qT) (f:qB) (h:Int) (b:Int) (rec:Int->Res) (d:Unit->Res) (g:Int->Res):Res:=bif decide (b<h) then bif inb b (List.length s) then jdE (nth (eS,[],[]) s b) f λr=>bif r then g b else rec (Z9K (b+1)) else none else d ()
def j2G (s:List qT) (f:qB) (b:Int):Int->(Int->Res)->((Unit->Res)×(Int->Res))->Res:=λv rec q=>j0H s f b v (λd=>rec (d)) q.1 q.2
def j7F (s:List qT) (f:qB) (g:Int) (n:Nat) (h:Int) (b:Unit->Res) (d:Int->Res):Res:=Z1f (j2G s f g) n (h) (b,d)
def j7j:Z1d Unit:=NdL 19 19 [.R 0 y30 .S,.c 1 235 [.str] .str [],.I 7,.I 8] [] (λb d=>(b.2.2.2.1)) (λb v=>(b.1,b.2.1,b.2.2.1,v,())) (λd v=>()) (λb d=>j2G b.1 b.2.1 b.2.2.1) λb d f=>((λ_=>f (.exit 0) [] []),(λg=>f .ret [(4,vI g)] []))
theorem jcA:CN 0 26 Tryz.f234 j7j:=lK (Za6 jfy Zas) [] oN ([],[]) [(0,[],[])] ([4],[]) λ_ _ _ _ _=>by kernel_rfl
def j5s (s:List qT) (f:qB) (b:Int->Res):Res:=j7F s f (nI (List.length s)) Z1c 0 (λ_=>b (-1)) (λt=>b t)
def je1:Sig Unit:=sg [.look y30 false,.rclos 235 [.str]] [false] [(y30,none),(.str,none)] [] λb f k=>j5s b.1 b.2.1 (λd=>k [wI d] [] [])
theorem jdy:SO 234 je1:=fK (np:=0) (Za6 jfy Zas) [j7j] (oI 26 0 @jcA oN) false Tryz.func234 λ_ _ _ _=>by kernel_rfl
def j0g (c:List qT) (name:qB) (b:Int->Res):Res:=j5s c name λr=>b r
def j0N:Sig Unit:=sg [.look y30 true,.look .str false] [false] [(y30,none),(.str,none)] [] λb f k=>j0g b.1 b.2.1 (λd=>k [wI d] [] [])
theorem j77:SO 176 j0N:=fK (np:=0) (Za6 jdy Zas) [] oN false Tryz.func176 λ_ _ _ _=>by kernel_rfl
theorem j8l:FS [(95,j4d),(176,j0N),(284,j0O)]:=(Za6 jdx (Za6 j77 (Za6 j3J Zas)))
def j4Y (d:qG) (t:qB×qE×qL) (b:Bool->Res):Res:=bif (d.1==3) then bif inb 0 (List.length d.2.2.1) then j0f t (nth (eS,0,false,false,0,0,eS) d.2.2.1 0).1 λr=>bif decide (r>=0) then b true else bif (d.1==5) then j0f t d.2.2.2.2.2 λf=>b (decide (f>=0)) else b false else none else bif (d.1==5) then j0f t d.2.2.2.2.2 λg=>b (decide (g>=0)) else b false
def j4t:Z1d Unit:=Nd 92 92 [.t 3 (pB 3),.t 6 (pB 6)] [(3,y13,[.S,.S]),(6,y29,[.S,.S])] λg b f=>j4Y b.1.2 b.2.1.2 (λd=>f .normal [(3,pB 3),(6,pB 6),(29,vB d)] [(3,⟨y13,b.1.1,b.1.2,[.S,.S]⟩),(6,⟨y29,b.2.1.1,b.2.1.2,[.S,.S]⟩)])
theorem jjM:CN 0 504 Tryz.f317 j4t:=nK j8l [] oN ([3,6,29],[3,6]) [] ([],[]) λ_ _ _=>by delta j4Y j0O;refine gz j0f λ_ b=> ?_;rewrite [<-b];kernel_rfl
def j7z (d:qG) (t:qB×qE×qL) (b:Bool->Res):Res:=bif (d.1==3) then b ((nI (List.length t.2.1))==8) else b false
def j72:Z1d Unit:=Nd 92 92 [.t 3 (pB 3),.t 6 (pB 6)] [(3,y13,[.S,.S]),(6,y29,[.S,.S])] λg b f=>j7z b.1.2 b.2.1.2 (λd=>f .normal [(3,pB 3),(6,pB 6),(55,vB d)] [(3,⟨y13,b.1.1,b.1.2,[.S,.S]⟩),(6,⟨y29,b.2.1.1,b.2.1.2,[.S,.S]⟩)])
theorem jjN:CN 0 2022 Tryz.f317 j72:=nK j8l [j4t] oN ([3,6,55],[3,6]) [] ([],[]) λ_ _ _=>by kernel_rfl
def j4Z (d:qG) (t:qB×qE×qL) (b:Bool->Res):Res:=bif (d.1==4) then j0f t d.2.2.2.2.1 λr=>b (decide (r<0)) else bif (d.1==5) then j0f t d.2.2.2.2.1 λf=>b (decide (f<0)) else b false
def ja4:Z1d Unit:=Nd 92 92 [.t 3 (pB 3),.t 6 (pB 6)] [(3,y13,[.S,.S]),(6,y29,[.S,.S])] λg b f=>j4Z b.1.2 b.2.1.2 (λd=>f .normal [(3,pB 3),(6,pB 6),(65,vB d)] [(3,⟨y13,b.1.1,b.1.2,[.S,.S]⟩),(6,⟨y29,b.2.1.1,b.2.1.2,[.S,.S]⟩)])
theorem jjO:CN 0 8094 Tryz.f317 ja4:=nK j8l [j4t,j72] oN ([3,6,65],[3,6]) [] ([],[]) λ_ _ _=>by delta j4Z j0O;refine gz j0f λ_ b=> ?_;rewrite [<-b];kernel_rfl
def j2A (c:List qT) (d:qG) (b:Int->Res):Res:=j0g c d.2.1 λr=>bif (d.1==1) then bif decide (r>=0) then b 2 else bif ((nI (List.length c))==6) then b 3 else b 0 else bif decide (r<0) then b 4 else bif inb r (List.length c) then j4Y d (nth (eS,[],[]) c r) λt=>bif t then b 5 else j7z d (nth (eS,[],[]) c r) λg=>bif g then b 6 else j4Z d (nth (eS,[],[]) c r) λh=>bif h then b 7 else bif (d.1==4) then j1m (nth (eS,[],[]) c r).2.2 d.2.2.2.2.1 λf=>bif f then b 8 else b 0 else b 0 else none
def j6c:Sig Unit:=sg [.look y30 true,.look y13 true] [false] [(y30,none),(y13,none)] [] λb f k=>j2A b.1 b.2.1 (λd=>k [wI d] [] [])
theorem jfE:SO 317 j6c:=fK (np:=0) j8l [j4t,j72,ja4] (oI 504 0 @jjM (oI 2022 1 @jjN (oI 8094 2 @jjO oN))) false Tryz.func317 λ_ _ _ _=>by delta j2A j0N j4t j72 ja4 j4d;refine gz j0g λ_ b=>gz j4Y λ_ d=>gz j7z λ_ f=>gz j4Z λ_ g=>gz j1m λ_ h=> ?_;rewrite [<-b,<-d,<-f,<-g,<-h];kernel_rfl
def jbB (x:qB×Int×Bool×Bool×Int×Int×qB) (d:qG) (b:Bool->Res):Res:=b (sEq x.1 d.2.2.2.2.1)
def jk7:Sig Unit:=sg [.look y7 true,.rptr y13] [false] [(y7,none),(y13,none)] [] λb f k=>jbB b.1 b.2.1 (λd=>k [wB d] [] [])
theorem jjp:SO 321 jk7:=fK (np:=0) Zas [] oN false Tryz.func321 λ_ _ _ _=>by kernel_rfl
def j2Q (s:List qC) (b:qG) (d:qE->qG->Res):Res:=bif lim (List.length s) then dgE (λe k=>jbB e b k) s [] (λr=>d r b) else none
def j4C:Sig Unit:=⟨[.eat y8 false,.clos 321 [y13]],[false],λvals ext k=>ao vals y8 [.O] λs vals=>nl vals<|ab ext y13 [.S,.S] λa0 f ext=>nl ext<|j2Q s f (λd b=>k [w1 y8 d .O] [] [⟨y13,a0,b,[.S,.S]⟩])⟩
theorem jeg:Z17 Tryz.prog 320 j4C:=gS (jsf (U:=0) (T:=280) (e:=y7) (ag:=true) (τ:=y13) (tg:=[.S,.S]) (fl:=[9,3,4,4,151]) (S:=116) (E:=213) (I:=3) (B:=4) follows j1v (by kernel_rfl) Tryz.underlying116 (by kernel_rfl) (by kernel_rfl) (by kernel_rfl) (by kernel_rfl) Tryz.isAgg280 Tryz.sizeOf280 (by kernel_rfl) (by kernel_rfl) (by kernel_rfl) Tryz.func307 (by kernel_rfl) (by kernel_rfl) (by kernel_rfl) (by kernel_rfl) jjp (by kernel_rfl) Tryz.func320 (by kernel_rfl) (by kernel_rfl) (by kernel_rfl) (by kernel_rfl)) (by kernel_rfl)
theorem jam:FS [(166,j6g),(176,j0N),(211,j4b),(231,j6b),(250,j7Z),(269,j7B),(284,j0O),(317,j6c),(318,j6h),(319,j6f),(320,j4C)]:=(Za6 jaa (Za6 j77 (Za6 jdr (Za6 jfD (Za6 jhw (Za6 jem (Za6 j3J (Za6 jfE (Za6 jfI (Za6 jfG (Za6 jeg Zas)))))))))))
def j2x (d:qG) (f:List qT) (b:Int) (rec:Int->Res) (g:Int->Res):Res:=bif decide (b<(nI (List.length f))) then bif inb b (List.length f) then bif sLt (nth (eS,[],[]) f b).1 d.2.1 then rec (Z9K (b+1)) else g b else none else g b
def j4T (d:qG) (f:List qT):Int->(Int->Res)->((Int->Res))->Res:=λv rec q=>j2x d f v (λb=>rec (b)) q
def j9H (d:qG) (f:List qT) (n:Nat) (b:Int) (g:Int->Res):Res:=Z1f (j4T d f) n (b) (g)
def j5L:Z1d Unit:=NdL 146 146 [.t 3 (pB 3),.t 4 (pB 4),.t 7 (pB 7),.I 9] [(3,y13,[.S,.S]),(4,y30,[.O]),(7,y30,[.O])] (λf b=>(f.1)) (λf v=>(v,())) (λb v=>((b.1.1,b.1.2),(b.2.1.1,b.2.1.2),(b.2.2.1.1,b.2.2.1.2),())) (λf b=>j4T b.1.2 b.2.2.1.2) λf b g=>((λd=>g (.exit 1) [(3,pB 3),(4,pB 4),(7,pB 7),(9,vI d)] [(3,⟨y13,b.1.1,b.1.2,[.S,.S]⟩),(4,⟨y30,b.2.1.1,b.2.1.2,[.O]⟩),(7,⟨y30,b.2.2.1.1,b.2.2.1.2,[.O]⟩)]))
theorem jiC:CN 0 16212 Tryz.f295 j5L:=lK jam [] oN ([],[]) [(1,[3,4,7,9],[3,4,7])] ([],[]) λ_ _ _ _ _=>by kernel_rfl
def j1w (f:Int) (h:Int) (d:qG) (b:List qT) (i:qF->Res):Res:=bif (h==1) then j9H d b Z1c 0 λj=>j2Y d λr=>j4z b j [r] λl=>i l else bif (h==2) then j4y b f (Z9K (f+1)) λm=>i m else bif (h==3) then bif inb f (List.length b) then bif inb 0 (List.length d.2.2.1) then bif lim ((List.length (nth (eS,[],[]) b f).2.1)+1) then bif inb f (List.length (upd b f ((nth (eS,[],[]) b f).1,((nth (eS,[],[]) b f).2.1++[nth (eS,0,false,false,0,0,eS) d.2.2.1 0]),(nth (eS,[],[]) b f).2.2))) then bif (Z9o (Int.toNat f) (Int.toNat f)&&true) then i (upd b f ((nth (eS,[],[]) b f).1,((nth (eS,[],[]) b f).2.1++[nth (eS,0,false,false,0,0,eS) d.2.2.1 0]),(nth (eS,[],[]) b f).2.2)) else none else none else none else none else none else bif (h==4) then bif inb f (List.length b) then j2Q (nth (eS,[],[]) b f).2.1 d λn p=>bif (Z9o (Int.toNat f) (Int.toNat f)&&true) then i (upd b f ((nth (eS,[],[]) b f).1,n,(nth (eS,[],[]) b f).2.2)) else none else none else bif (h==5) then bif inb f (List.length b) then j0f (nth (eS,[],[]) b f) d.2.2.2.2.1 λg=>bif inb g (List.length (nth (eS,[],[]) b f).2.1) then j0W (nth (eS,[],[]) (upd b f ((nth (eS,[],[]) b f).1,upd (nth (eS,[],[]) b f).2.1 g (d.2.2.2.2.2,(nth (eS,0,false,false,0,0,eS) (nth (eS,[],[]) b f).2.1 g).2),(nth (eS,[],[]) b f).2.2)) f).2.2 d.2.2.2.2.1 λk=>bif decide (k>=0) then bif inb k (List.length (nth (eS,[],[]) (upd b f ((nth (eS,[],[]) b f).1,upd (nth (eS,[],[]) b f).2.1 g (d.2.2.2.2.2,(nth (eS,0,false,false,0,0,eS) (nth (eS,[],[]) b f).2.1 g).2),(nth (eS,[],[]) b f).2.2)) f).2.2) then i (upd (upd b f ((nth (eS,[],[]) b f).1,upd (nth (eS,[],[]) b f).2.1 g (d.2.2.2.2.2,(nth (eS,0,false,false,0,0,eS) (nth (eS,[],[]) b f).2.1 g).2),(nth (eS,[],[]) b f).2.2)) f ((nth (eS,[],[]) (upd b f ((nth (eS,[],[]) b f).1,upd (nth (eS,[],[]) b f).2.1 g (d.2.2.2.2.2,(nth (eS,0,false,false,0,0,eS) (nth (eS,[],[]) b f).2.1 g).2),(nth (eS,[],[]) b f).2.2)) f).1,(nth (eS,[],[]) (upd b f ((nth (eS,[],[]) b f).1,upd (nth (eS,[],[]) b f).2.1 g (d.2.2.2.2.2,(nth (eS,0,false,false,0,0,eS) (nth (eS,[],[]) b f).2.1 g).2),(nth (eS,[],[]) b f).2.2)) f).2.1,upd (nth (eS,[],[]) (upd b f ((nth (eS,[],[]) b f).1,upd (nth (eS,[],[]) b f).2.1 g (d.2.2.2.2.2,(nth (eS,0,false,false,0,0,eS) (nth (eS,[],[]) b f).2.1 g).2),(nth (eS,[],[]) b f).2.2)) f).2.2 k d.2.2.2.2.2)) else none else i (upd b f ((nth (eS,[],[]) b f).1,upd (nth (eS,[],[]) b f).2.1 g (d.2.2.2.2.2,(nth (eS,0,false,false,0,0,eS) (nth (eS,[],[]) b f).2.1 g).2),(nth (eS,[],[]) b f).2.2)) else none else none else i b
def j95:Z1d Unit:=Nd 146 146 [.t 3 (pB 3),.t 4 (pB 4),.t 7 (pB 7),.I 8,.I 36] [(3,y13,[.S,.S]),(4,y30,[.O]),(7,y30,[.O])] λf d g=>j1w f.1 f.2.1 d.1.2 d.2.2.1.2 (λb=>g .normal [(4,pB 4),(7,pB 7)] [(4,⟨y30,d.2.1.1,d.2.1.2,[.O]⟩),(7,⟨y30,d.2.2.1.1,b,[.O]⟩)])
theorem jiD:CN 0 253 Tryz.f295 j95:=nK jam [j5L] (oI 84 0 @jiC oN) ([4,7],[4,7]) [] ([],[]) λ_ _ _=>by delta j1w j5L j7B j6h j6f j4C j0O j6g j9H;refine gz j4T λ_ b=>gz j2Y λ_ d=>gz j4z λ_ f=>gz j4y λ_ g=>gz j2Q λ_ h=>gz j0f λ_ i=>gz j0W λ_ j=> ?_;rewrite [<-b,<-d,<-f,<-g,<-h,<-i,<-j];kernel_rfl
def j4F (c:List qT) (d:qG) (b:qF->Int->Res):Res:=j6G c λr=>bif !r then b [] 1 else j2t d λh=>bif !h then b [] 1 else j2A c d λg=>bif (g != 0) then b [] g else j3O c λi=>j0g c d.2.1 λj=>j1w j d.1 d i λf=>b f 0
def jaQ:Sig Unit:=sg [.borrow y30 true,.borrow y13 true] [true,false] [(y30,none),(y13,none)] [] λb g k=>j4F b.1 b.2.1 (λd f=>k [⟨y30,true,d,[.O]⟩,wI f] [] [])
theorem jkc:SO 295 jaQ:=fK (np:=0) jam [j5L,j95] (oI 253 1 @jiD oN) false Tryz.func295 λ_ _ _ _=>by delta j4F j7Z j4b j6c j6b j0N j95;refine gz j6G λ_ b=>gz j2t λ_ d=>gz j2A λ_ f=>gz j3O λ_ g=>gz j0g λ_ h=>gz j1w λ_ i=> ?_;rewrite [<-b,<-d,<-f,<-g,<-h,<-i];kernel_rfl
end
end Go.PI.G
