/-
  Program's code interpreted over typed values; printed texts; plain laws. No conditions.
-/
import Derived.Test.YtnemiodjnhfejaaGreatBOd
set_option linter.unusedVariables false
set_option maxRecDepth 100000
namespace Go.PI.G
noncomputable section
open Go Go.PI Go.Proofs
open Go.Code (pl pr)
def j3U (s:qB) (i:Int) (rec:Int->Res) (d:Unit->Res) (b:Unit->Res):Res:=bif decide (i<(nI (ByteArray.size s))) then bif inb i (ByteArray.size s) then bif decide ((bt s i)<97) then b () else bif inb i (ByteArray.size s) then bif decide ((bt s i)>122) then b () else rec (Z9K (i+1)) else none else none else d ()
def j93 (s:qB):Int->(Int->Res)->((Unit->Res)×(Unit->Res))->Res:=λv rec q=>j3U s v (λi=>rec (i)) q.1 q.2
def jfk (s:qB) (n:Nat) (i:Int) (b:Unit->Res) (d:Unit->Res):Res:=Z1f (j93 s) n (i) (b,d)
def jed:Z1d Unit:=NdL 28 28 [.S 0,.I 3] [] (λb d=>(b.2.1)) (λb v=>(b.1,v,())) (λd v=>()) (λb d=>j93 b.1) λb d f=>((λ_=>f (.exit 0) [(0,vS b.1)] []),(λ_=>f .ret [(2,vB false)] []))
theorem jjR:CN 0 26 Tryz.f154 jed:=lK Zas [] oN ([],[]) [(0,[0],[])] ([2],[]) λ_ _ _ _ _=>by kernel_rfl
def j0F (s:qB) (b:Bool->Res):Res:=jfk s Z1c 0 (λ_=>bif decide ((nI (ByteArray.size s))>=1) then b (decide ((nI (ByteArray.size s))<=8)) else b false) (λ_=>b false)
def j2L:Sig Unit:=sg [.look .str false] [false] [(.str,none)] [] λd f k=>j0F d.1 (λb=>k [wB b] [] [])
theorem j8D:SO 154 j2L:=fK (np:=0) Zas [jed] (oI 26 0 @jjR oN) false Tryz.func154 λ_ _ _ _=>by kernel_rfl
def jeD (d:Int) (b:Bool->Res):Res:=bif decide (d>=(-1099511627775)) then b (decide (d<=1099511627775)) else b false
def jmi:Sig Unit:=sg [.look tI false] [false] [(tI,none)] [] λd f k=>jeD d.1 (λb=>k [wB b] [] [])
theorem jlI:SO 180 jmi:=fK (np:=0) Zas [] oN false Tryz.func180 λ_ _ _ _=>by kernel_rfl
def j1k (b:Int×Int×qB) (d:Bool->Res):Res:=bif (b.1==0) then bif (b.2.1==0) then d (sEq b.2.2 eS) else d false else bif (b.1==1) then bif (b.2.1==0) then d (sEq b.2.2 eS) else bif (b.2.1==1) then d (sEq b.2.2 eS) else d false else bif (b.1==2) then jeD b.2.1 λr=>bif r then d (sEq b.2.2 eS) else d false else bif (b.1==3) then bif (b.2.1==0) then d (decide ((nI (ByteArray.size b.2.2))<=30)) else d false else d false
def ja6:Sig Unit:=sg [.look y2 true] [false] [(y2,none)] [] λd f k=>j1k d.1 (λb=>k [wB b] [] [])
theorem j7d:SO 266 ja6:=fK (np:=0) (Za6 jlI Zas) [] oN false Tryz.func266 λ_ _ _ _=>by kernel_rfl
def j7y (a:Int×Int×qB) (b:Int×Int×qB) (d:Bool->Res):Res:=j1k a λr=>bif !r then d false else j1k b λf=>bif !f then d false else bif (a.1 != b.1) then d (decide (a.1<b.1)) else bif decide (a.2.1<b.2.1) then d true else bif (a.2.1==b.2.1) then d (sLt a.2.2 b.2.2) else d false
def jkT:Sig Unit:=sg [.look y2 true,.look y2 true] [false] [(y2,none),(y2,none)] [] λb f k=>j7y b.1 b.2.1 (λd=>k [wB d] [] [])
theorem jeV:SO 282 jkT:=fK (np:=0) (Za6 j7d Zas) [] oN false Tryz.func282 λ_ _ _ _=>by delta j7y ja6;refine gz j1k λ_ b=> ?_;rewrite [<-b];kernel_rfl
def j0i (x:Int) (f:Int) (d:Int) (b:Bool->Res):Res:=bif decide (x>=f) then b (decide (x<=d)) else b false
def j1S:Sig Unit:=sg [.look tI false,.look tI false,.look tI false] [false] [(tI,none),(tI,none),(tI,none)] [] λb f k=>j0i b.1 b.2.1 b.2.2.1 (λd=>k [wB d] [] [])
theorem j2H:SO 163 j1S:=fK (np:=0) Zas [] oN false Tryz.func163 λ_ _ _ _=>by kernel_rfl
def j3z (s:qB) (i:Int) (rec:Int->Res) (d:Unit->Res) (b:Unit->Res):Res:=bif decide (i<(nI (ByteArray.size s))) then bif inb i (ByteArray.size s) then bif decide ((bt s i)<97) then b () else bif inb i (ByteArray.size s) then bif decide ((bt s i)>122) then b () else rec (Z9K (i+1)) else none else none else d ()
def j6d (s:qB):Int->(Int->Res)->((Unit->Res)×(Unit->Res))->Res:=λv rec q=>j3z s v (λi=>rec (i)) q.1 q.2
def jaN (s:qB) (n:Nat) (i:Int) (b:Unit->Res) (d:Unit->Res):Res:=Z1f (j6d s) n (i) (b,d)
def jam:Z1d Unit:=NdL 23 23 [.S 0,.I 3] [] (λb d=>(b.2.1)) (λb v=>(b.1,v,())) (λd v=>()) (λb d=>j6d b.1) λb d f=>((λ_=>f (.exit 0) [(0,vS b.1)] []),(λ_=>f .ret [(2,vB false)] []))
theorem jjx:CN 0 26 Tryz.f160 jam:=lK (Za6 j2H Zas) [] oN ([],[]) [(0,[0],[])] ([2],[]) λ_ _ _ _ _=>by kernel_rfl
def j0w (s:qB) (b:Bool->Res):Res:=jaN s Z1c 0 (λ_=>j0i (nI (ByteArray.size s)) 1 8 λr=>b r) (λ_=>b false)
def j2J:Sig Unit:=sg [.look .str false] [false] [(.str,none)] [] λd f k=>j0w d.1 (λb=>k [wB b] [] [])
theorem j8C:SO 160 j2J:=fK (np:=0) (Za6 j2H Zas) [jam] (oI 26 0 @jjx oN) false Tryz.func160 λ_ _ _ _=>by delta j0w jam j1S jaN;refine gz j6d λ_ b=>gz j0i λ_ d=> ?_;rewrite [<-b,<-d];kernel_rfl
def j15 (b:Int×Int×qB) (d:Bool->Res):Res:=bif (b.1==0) then d ((b.1==0)&&((b.2.1==0)&&(sEq b.2.2 eS))) else bif (b.1==1) then j0i b.2.1 0 1 λr=>bif r then d (sEq b.2.2 eS) else d false else bif (b.1==2) then j0i b.2.1 (-1099511627775) 1099511627775 λf=>bif f then d (sEq b.2.2 eS) else d false else bif (b.1==3) then bif (b.2.1==0) then d (decide ((nI (ByteArray.size b.2.2))<=30)) else d false else d false
def j7n:Sig Unit:=sg [.look y2 true] [false] [(y2,none)] [] λd f k=>j15 d.1 (λb=>k [wB b] [] [])
theorem j7a:SO 273 j7n:=fK (np:=0) (Za6 j2H Zas) [] oN false Tryz.func273 λ_ _ _ _=>by delta j15 j1S;refine gz j0i λ_ b=> ?_;rewrite [<-b];kernel_rfl
def j7h (a:Int×Int×qB) (b:Int×Int×qB) (d:Bool->Res):Res:=j15 a λr=>bif !r then d false else j15 b λf=>bif !f then d false else bif (a.1 != b.1) then d (decide (a.1<b.1)) else bif (a.2.1 != b.2.1) then d (decide (a.2.1<b.2.1)) else d (sLt a.2.2 b.2.2)
def jkS:Sig Unit:=sg [.look y2 true,.look y2 true] [false] [(y2,none),(y2,none)] [] λb f k=>j7h b.1 b.2.1 (λd=>k [wB d] [] [])
theorem jeO:SO 316 jkS:=fK (np:=0) (Za6 j7a Zas) [] oN false Tryz.func316 λ_ _ _ _=>by delta j7h j7n;refine gz j15 λ_ b=> ?_;rewrite [<-b];kernel_rfl
end
end Go.PI.G
namespace Go.PI.G
noncomputable section
open Go Go.PI Go.Proofs
open Go.Code (pl pr)
def j4F (c:qB×Int×Bool×Bool×Int×Int×qB) (b:Bool->Res):Res:=j0F c.1 λr=>bif !r then b false else bif decide (c.2.1<1) then b false else bif decide (c.2.1>3) then b false else bif !c.2.2.2.1 then b ((c.2.2.2.2.1==0)&&((c.2.2.2.2.2.1==0)&&(sEq c.2.2.2.2.2.2 eS))) else j1k c.2.2.2.2 λd=>bif d then bif ((c.2.2.2.2.1==0)&&((c.2.2.2.2.2.1==0)&&(sEq c.2.2.2.2.2.2 eS))) then bif ((c.2.2.2.2.1==0)&&((c.2.2.2.2.2.1==0)&&(sEq c.2.2.2.2.2.2 eS))) then b (!c.2.2.1) else b true else bif (c.2.2.2.2.1==c.2.1) then bif ((c.2.2.2.2.1==0)&&((c.2.2.2.2.2.1==0)&&(sEq c.2.2.2.2.2.2 eS))) then b (!c.2.2.1) else b true else b false else b false
def j7p:Sig Unit:=sg [.look y7 true] [false] [(y7,none)] [] λd f k=>j4F d.1 (λb=>k [wB b] [] [])
theorem jgW:SO 267 j7p:=fK (np:=0) (Za6 j8D (Za6 j7d Zas)) [] oN false Tryz.func267 λ_ _ _ _=>by delta j4F j2L ja6;refine gz j0F λ_ b=>gz j1k λ_ d=> ?_;rewrite [<-b,<-d];kernel_rfl
def j4E (name:qB) (d:List qC) (h:Int) (b:Int) (rec:Int->Res) (f:Unit->Res) (g:Int->Res):Res:=bif decide (b<h) then bif inb b (List.length d) then bif sEq (nth (eS,0,false,false,0,0,eS) d b).1 name then g b else rec (Z9K (b+1)) else none else f ()
def jab (name:qB) (d:List qC) (f:Int):Int->(Int->Res)->((Unit->Res)×(Int->Res))->Res:=λv rec q=>j4E name d f v (λb=>rec (b)) q.1 q.2
def jgt (name:qB) (g:List qC) (h:Int) (n:Nat) (b:Int) (d:Unit->Res) (f:Int->Res):Res:=Z1f (jab name g h) n (b) (d,f)
def jfx:Z1d Unit:=NdL 21 21 [.S 1,.R 8 y8 .S,.I 9,.I 10] [] (λb d=>(b.2.2.2.1)) (λb v=>(b.1,b.2.1,b.2.2.1,v,())) (λd v=>()) (λb d=>jab b.1 b.2.1 b.2.2.1) λb d f=>((λ_=>f (.exit 0) [] []),(λg=>f .ret [(4,vI g)] []))
theorem jkF:CN 0 26 Tryz.f230 jfx:=lK Zas [] oN ([],[]) [(0,[],[])] ([4],[]) λ_ _ _ _ _=>by kernel_rfl
def j0K (t:qB×qE×qL) (name:qB) (b:Int->Res):Res:=jgt name t.2.1 (nI (List.length t.2.1)) Z1c 0 (λ_=>b (-1)) (λd=>b d)
def j2p:Sig Unit:=sg [.look y29 true,.look .str false] [false] [(y29,none),(.str,none)] [] λb f k=>j0K b.1 b.2.1 (λd=>k [wI d] [] [])
theorem j5j:SO 230 j2p:=fK (np:=0) Zas [jfx] (oI 26 0 @jkF oN) false Tryz.func230 λ_ _ _ _=>by kernel_rfl
theorem j7H:FS [(154,j2L),(230,j2p),(267,j7p)]:=(Za6 j8D (Za6 j5j (Za6 jgW Zas)))
def j4L (t:qB×qE×qL) (b:Bool->Res):Res:=j0F t.1 λr=>bif !r then b true else bif decide ((nI (List.length t.2.1))<1) then b true else bif decide ((nI (List.length t.2.1))>8) then b true else b (decide ((nI (List.length t.2.2))<1))
def j46:Z1d Unit:=Nd 75 75 [.t 1 (pB 1)] [(1,y29,[.S,.S])] λg d f=>j4L d.1.2 (λb=>f .normal [(1,pB 1),(30,vB b)] [(1,⟨y29,d.1.1,d.1.2,[.S,.S]⟩)])
theorem jiP:CN 0 12 Tryz.f227 j46:=nK j7H [] oN ([1,30],[1]) [] ([],[]) λ_ _ _=>by kernel_rfl
def j1N (d:List qC) (f:Int) (t:qB×qE×qL) (b:Int) (rec:Int->Res) (h:Unit->Res) (g:Unit->Res):Res:=bif decide (b<f) then bif inb b (List.length d) then j4F (nth (eS,0,false,false,0,0,eS) d b) λr=>bif !r then g () else j0K t (nth (eS,0,false,false,0,0,eS) d b).1 λi=>bif (i != b) then g () else rec (Z9K (b+1)) else none else h ()
def j31 (b:List qC) (d:Int) (t:qB×qE×qL):Int->(Int->Res)->((Unit->Res)×(Unit->Res))->Res:=λv rec q=>j1N b d t v (λf=>rec (f)) q.1 q.2
def j77 (b:List qC) (d:Int) (t:qB×qE×qL) (n:Nat) (f:Int) (g:Unit->Res) (h:Unit->Res):Res:=Z1f (j31 b d t) n (f) (g,h)
def j6u:Z1d Unit:=NdL 75 75 [.t 1 (pB 1),.R 32 y8 .S,.I 33,.I 34] [(1,y29,[.S,.S])] (λb d=>(b.2.2.1)) (λb v=>(b.1,b.2.1,v,())) (λd v=>((d.1.1,d.1.2),())) (λb d=>j31 b.1 b.2.1 d.1.2) λb d f=>((λ_=>f (.exit 0) [(1,pB 1)] [(1,⟨y29,d.1.1,d.1.2,[.S,.S]⟩)]),(λ_=>f .ret [(2,vB false)] []))
theorem jiN:CN 0 58 Tryz.f227 j6u:=lK j7H [j46] oN ([],[]) [(0,[1],[1])] ([2],[]) λ_ _ _ _ _=>by delta j31 j1N j7p j2p;refine gz j4F λ_ b=>gz j0K λ_ d=> ?_;rewrite [<-b,<-d];kernel_rfl
def j32 (f:qL) (g:Int) (t:qB×qE×qL) (d:Int) (b:Int) (rec:Int->Int->Res) (i:Unit->Res) (h:Unit->Res):Res:=bif decide (b<g) then bif inb b (List.length f) then j0K t (nth eS f b) λr=>bif decide (r<=d) then h () else bif inb r (List.length t.2.1) then bif !(nth (eS,0,false,false,0,0,eS) t.2.1 r).2.2.1 then h () else rec r (Z9K (b+1)) else none else none else i ()
def j56 (d:qL) (f:Int) (t:qB×qE×qL):(Int×Int)->(Int×Int->Res)->((Unit->Res)×(Unit->Res))->Res:=λv rec q=>j32 d f t v.1 v.2 (λb g=>rec (b,g)) q.1 q.2
def j78 (d:qL) (f:Int) (t:qB×qE×qL) (n:Nat) (b:Int) (g:Int) (h:Unit->Res) (i:Unit->Res):Res:=Z1f (j56 d f t) n (b,g) (h,i)
def j9j:Z1d Unit:=NdL 75 75 [.t 1 (pB 1),.I 5,.R 52 y0 .S,.I 53,.I 54] [(1,y29,[.S,.S])] (λb d=>(b.1,b.2.2.2.1)) (λb v=>(v.1,b.2.1,b.2.2.1,v.2,())) (λd v=>((d.1.1,d.1.2),())) (λb d=>j56 b.2.1 b.2.2.1 d.1.2) λb d f=>((λ_=>f (.exit 2) [] []),(λ_=>f .ret [(2,vB false)] []))
theorem jiO:CN 0 250 Tryz.f227 j9j:=lK j7H [j46,j6u] oN ([],[]) [(2,[],[])] ([2],[]) λ_ _ _ _ _=>by kernel_rfl
def j0v (t:qB×qE×qL) (b:Bool->Res):Res:=j4L t λd=>bif d then b false else j77 t.2.1 (nI (List.length t.2.1)) t Z1c 0 (λ_=>j78 t.2.2 (nI (List.length t.2.2)) t Z1c (-1) 0 (λ_=>b true) (λ_=>b false)) (λ_=>b false)
def j16:Sig Unit:=sg [.look y29 true] [false] [(y29,none)] [] λd f k=>j0v d.1 (λb=>k [wB b] [] [])
theorem j3i:SO 227 j16:=fK (np:=0) j7H [j46,j6u,j9j] (oI 12 0 @jiP (oI 58 1 @jiN (oI 250 2 @jiO oN))) false Tryz.func227 λ_ _ _ _=>by delta j0v j46 j6u j9j j77 j78;refine gz j4L λ_ b=>gz j31 λ_ d=>gz j56 λ_ f=> ?_;rewrite [<-b,<-d,<-f];kernel_rfl
theorem jgD:FS [(154,j2L),(227,j16),(267,j7p)]:=(Za6 j8D (Za6 j3i (Za6 jgW Zas)))
def j6E (d:qG) (b:Bool->Res):Res:=bif ((nI (List.length d.2.2.1))==0) then b ((nI (List.length d.2.2.2.1))==0) else b false
def jbf:Z1d Unit:=Nd 123 123 [.t 1 (pB 1)] [(1,y13,[.S,.S])] λf b d=>j6E b.1.2 (λplain=>d .normal [(1,pB 1),(3,vB plain)] [(1,⟨y13,b.1.1,b.1.2,[.S,.S]⟩)])
theorem jkG:CN 0 14 Tryz.f210 jbf:=nK jgD [] oN ([1,3],[1]) [] ([],[]) λ_ _ _=>by kernel_rfl
def j2h (d:qG) (b:Bool->Res):Res:=j0F d.2.1 λr=>bif !r then b false else j6E d λplain=>bif (d.1==1) then bif sEq d.2.2.2.2.1 eS then bif sEq d.2.2.2.2.2 eS then j0v (d.2.1,d.2.2.1,d.2.2.2.1) λf=>b f else b false else b false else bif (d.1==2) then bif plain then bif sEq d.2.2.2.2.1 eS then b (sEq d.2.2.2.2.2 eS) else b false else b false else bif (d.1==3) then bif ((nI (List.length d.2.2.1))==1) then bif inb 0 (List.length d.2.2.1) then j4F (nth (eS,0,false,false,0,0,eS) d.2.2.1 0) λg=>bif g then bif inb 0 (List.length d.2.2.1) then bif (nth (eS,0,false,false,0,0,eS) d.2.2.1 0).2.2.2.1 then bif ((nI (List.length d.2.2.2.1))==0) then bif sEq d.2.2.2.2.1 eS then b (sEq d.2.2.2.2.2 eS) else b false else b false else bif inb 0 (List.length d.2.2.1) then bif !(nth (eS,0,false,false,0,0,eS) d.2.2.1 0).2.2.1 then bif ((nI (List.length d.2.2.2.1))==0) then bif sEq d.2.2.2.2.1 eS then b (sEq d.2.2.2.2.2 eS) else b false else b false else b false else none else none else b false else none else b false else bif (d.1==4) then bif plain then j0F d.2.2.2.2.1 λh=>bif h then b (sEq d.2.2.2.2.2 eS) else b false else b false else bif (d.1==5) then bif plain then j0F d.2.2.2.2.1 λi=>bif i then j0F d.2.2.2.2.2 λj=>b j else b false else b false else b false
def j3Q:Sig Unit:=sg [.look y13 true] [false] [(y13,none)] [] λd f k=>j2h d.1 (λb=>k [wB b] [] [])
theorem jcM:SO 210 j3Q:=fK (np:=0) jgD [jbf] (oI 14 0 @jkG oN) false Tryz.func210 λ_ _ _ _=>by delta j2h j2L jbf j16 j7p;refine gz j0F λ_ b=>gz j6E λ_ d=>gz j0v λ_ f=>gz j4F λ_ g=> ?_;rewrite [<-b,<-d,<-f,<-g];kernel_rfl
def j4D (d:List qT) (f:Int) (c:List qT) (b:Int) (rec:Int->Res) (h:Unit->Res) (g:Unit->Res):Res:=bif decide (b<f) then bif inb b (List.length d) then j0v (nth (eS,[],[]) d b) λr=>bif !r then g () else bif decide (b>0) then bif inb (Z9K (b-1)) (List.length c) then bif sGe (nth (eS,[],[]) c (Z9K (b-1))).1 (nth (eS,[],[]) d b).1 then g () else rec (Z9K (b+1)) else none else rec (Z9K (b+1)) else none else h ()
def jaa (b:List qT) (d:Int) (c:List qT):Int->(Int->Res)->((Unit->Res)×(Unit->Res))->Res:=λv rec q=>j4D b d c v (λf=>rec (f)) q.1 q.2
def jc1 (b:List qT) (d:Int) (c:List qT) (n:Nat) (f:Int) (g:Unit->Res) (h:Unit->Res):Res:=Z1f (jaa b d c) n (f) (g,h)
def jfw:Z1d Unit:=NdL 37 37 [.t 1 (pB 1),.R 10 y30 .S,.I 11,.I 12] [(1,y30,[.S])] (λb d=>(b.2.2.1)) (λb v=>(b.1,b.2.1,v,())) (λd v=>((d.1.1,d.1.2),())) (λb d=>jaa b.1 b.2.1 d.1.2) λb d f=>((λ_=>f (.exit 0) [] []),(λ_=>f .ret [(2,vB false)] []))
theorem jkE:CN 0 58 Tryz.f242 jfw:=lK (Za6 j3i Zas) [] oN ([],[]) [(0,[],[])] ([2],[]) λ_ _ _ _ _=>by kernel_rfl
def j6m (c:List qT) (b:Bool->Res):Res:=bif decide ((nI (List.length c))>6) then b false else jc1 c (nI (List.length c)) c Z1c 0 (λ_=>b true) (λ_=>b false)
def j7o:Sig Unit:=sg [.look y30 true] [false] [(y30,none)] [] λd f k=>j6m d.1 (λb=>k [wB b] [] [])
theorem jgV:SO 242 j7o:=fK (np:=0) (Za6 j3i Zas) [jfw] (oI 58 0 @jkE oN) false Tryz.func242 λ_ _ _ _=>by kernel_rfl
def j4g (t:qB×qE×qL) (b:qT->Res):Res:=Z87 (Z87 (bif lim (0+(List.length t.2.1)) then bif lim (0+(List.length t.2.2)) then b (t.1,t.2.1,t.2.2) else none else none) (bif lim (0+(List.length t.2.1)) then bif lim (0+(List.length t.2.2)) then b (t.1,t.2.1,t.2.2) else none else none)) (bif lim (0+(List.length t.2.1)) then bif lim (0+(List.length t.2.2)) then b (t.1,t.2.1,t.2.2) else none else none)
def ja8:Sig Unit:=sg [.borrow y29 true] [true] [(y29,none)] [] λd f k=>j4g d.1 (λb=>k [⟨y29,true,b,[.O,.O]⟩] [] [])
theorem j9D:SO 286 ja8:=fK (np:=0) Zas [] oN false Tryz.func286 λ_ _ _ _=>by kernel_rfl
def j33 (f:List qT) (h:Int) (b:Int) (d:List qT) (rec:Int->qF->Res) (g:qF->Res):Res:=bif decide (b<h) then bif inb b (List.length f) then j4g (nth (eS,[],[]) f b) λr=>bif lim ((List.length d)+1) then rec (Z9K (b+1)) (d++[r]) else none else none else g d
def j8f (f:List qT) (g:Int):(Int×qF)->(Int×qF->Res)->((qF->Res))->Res:=λv rec q=>j33 f g v.1 v.2 (λd b=>rec (d,b)) q
def jdW (g:List qT) (h:Int) (n:Nat) (d:Int) (b:List qT) (f:qF->Res):Res:=Z1f (j8f g h) n (d,b) (f)
def jdq:Z1d Unit:=NdL 23 23 [.t 2 (pB 2),.t 3 (pB 3),.R 8 y30 .S,.I 9,.I 10] [(2,y30,[.O]),(3,y30,[.O])] (λd b=>(d.2.2.1,b.2.1.2)) (λd v=>(d.1,d.2.1,v.1,())) (λb v=>((b.1.1,b.1.2),(b.2.1.1,v.2),())) (λd b=>j8f d.1 d.2.1) λd b g=>((λf=>g (.exit 0) [(2,pB 2),(3,pB 3)] [(2,⟨y30,b.1.1,b.1.2,[.O]⟩),(3,⟨y30,b.2.1.1,f,[.O]⟩)]))
theorem jiQ:CN 0 58 Tryz.f243 jdq:=lK (Za6 j9D Zas) [] oN ([],[]) [(0,[2,3],[2,3])] ([],[]) λ_ _ _ _ _=>by kernel_rfl
def j3V (c:List qT) (d:qF->Res):Res:=jdW c (nI (List.length c)) Z1c 0 [] λb=>d b
def j5L:Sig Unit:=sg [.borrow y30 true] [true] [(y30,none)] [] λd f k=>j3V d.1 (λb=>k [⟨y30,true,b,[.O]⟩] [] [])
theorem jeW:SO 243 j5L:=fK (np:=0) (Za6 j9D Zas) [jdq] (oI 58 0 @jiQ oN) false Tryz.func243 λ_ _ _ _=>by kernel_rfl
def j4M (name:qB) (d:List qT) (h:Int) (b:Int) (rec:Int->Res) (f:Unit->Res) (g:Int->Res):Res:=bif decide (b<h) then bif inb b (List.length d) then bif sEq (nth (eS,[],[]) d b).1 name then g b else rec (Z9K (b+1)) else none else f ()
def jaf (name:qB) (d:List qT) (f:Int):Int->(Int->Res)->((Unit->Res)×(Int->Res))->Res:=λv rec q=>j4M name d f v (λb=>rec (b)) q.1 q.2
def jgu (name:qB) (g:List qT) (h:Int) (n:Nat) (b:Int) (d:Unit->Res) (f:Int->Res):Res:=Z1f (jaf name g h) n (b) (d,f)
def jfy:Z1d Unit:=NdL 21 21 [.S 1,.R 8 y30 .S,.I 9,.I 10] [] (λb d=>(b.2.2.2.1)) (λb v=>(b.1,b.2.1,b.2.2.1,v,())) (λd v=>()) (λb d=>jaf b.1 b.2.1 b.2.2.1) λb d f=>((λ_=>f (.exit 0) [] []),(λg=>f .ret [(4,vI g)] []))
theorem jkL:CN 0 26 Tryz.f113 jfy:=lK Zas [] oN ([],[]) [(0,[],[])] ([4],[]) λ_ _ _ _ _=>by kernel_rfl
def j1l (c:List qT) (name:qB) (b:Int->Res):Res:=jgu name c (nI (List.length c)) Z1c 0 (λ_=>b (-1)) (λt=>b t)
def j2q:Sig Unit:=sg [.look y30 true,.look .str false] [false] [(y30,none),(.str,none)] [] λb f k=>j1l b.1 b.2.1 (λd=>k [wI d] [] [])
theorem j9C:SO 113 j2q:=fK (np:=0) Zas [jfy] (oI 26 0 @jkL oN) false Tryz.func113 λ_ _ _ _=>by kernel_rfl
def jba (done:Bool) (t:qB×qE×qL) (b:List qT) (x:qB×qE×qL) (d:Bool->qF->Res):Res:=bif !done then bif sLt t.1 x.1 then bif lim ((List.length b)+1) then d true (b++[t]) else none else d done b else d done b
def jav:Z1d Unit:=Nd 48 48 [.t 3 (pB 3),.t 4 (pB 4),.t 5 (pB 5),.B 6,.t 8 (pB 8),.R 11 y30 .S,.I 12,.I 13] [(3,y29,[.S,.S]),(4,y30,[.O]),(5,y30,[.PS]),(8,y29,[.S,.S])] λg b h=>jba g.1 b.1.2 b.2.2.1.2 b.2.2.2.1.2 (λd f=>h .normal [(3,pB 3),(4,pB 4),(5,pB 5),(6,vB d),(8,pB 8),(11,v1 y30 g.2.1 .S),(12,vI g.2.2.1),(13,vI g.2.2.2.1)] [(3,⟨y29,b.1.1,b.1.2,[.S,.S]⟩),(4,⟨y30,b.2.1.1,b.2.1.2,[.O]⟩),(5,⟨y30,b.2.2.1.1,f,[.PS]⟩),(8,⟨y29,b.2.2.2.1.1,b.2.2.2.1.2,[.S,.S]⟩)])
theorem jjU:CN 0 15666 Tryz.f309 jav:=nK Zas [] oN ([3,4,5,6,8,11,12,13],[3,4,5,8]) [] ([],[]) λ_ _ _=>by kernel_rfl
def j3X (g:List qT) (i:Int) (t:qB×qE×qL) (done:Bool) (b:Int) (h:List qT) (rec:Bool->Int->qF->Res) (j:Bool->qF->Res):Res:=bif decide (b<i) then bif inb b (List.length g) then jba done t h (nth (eS,[],[]) g b) λf d=>bif lim ((List.length d)+1) then rec f (Z9K (b+1)) (d++[nth (eS,[],[]) g b]) else none else none else j done h
def j95 (d:List qT) (f:Int) (t:qB×qE×qL):(Bool×Int×qF)->(Bool×Int×qF->Res)->((Bool->qF->Res))->Res:=λv rec q=>j3X d f t v.1 v.2.1 v.2.2 (λdone g b=>rec (done,g,b)) q
def jb9 (d:List qT) (f:Int) (t:qB×qE×qL) (n:Nat) (done:Bool) (g:Int) (b:List qT) (h:Bool->qF->Res):Res:=Z1f (j95 d f t) n (done,g,b) (h)
def je1:Z1d Unit:=λσ k=>rdN σ 48<|rdT σ 3 (pB 3)<|rdT σ 4 (pB 4)<|rdT σ 5 (pB 5)<|rdO σ 6 λdone=>rd1 σ 11 y30 .S λg=>rdI σ 12 λh=>rdI σ 13 λi=>rdB σ 3 y29 [.S,.S] λa t=>rdB σ 4 y30 [.O] λj m=>rdB σ 5 y30 [.PS] λl f=>jb9 g h t Z1c done i f (λb d=>k (.exit 0) (mkS 48 48 [(3,pB 3),(4,pB 4),(5,pB 5),(6,vB b)] [(3,⟨y29,a,t,[.S,.S]⟩),(4,⟨y30,j,m,[.O]⟩),(5,⟨y30,l,d,[.PS]⟩)]))
def jef:Z1d Unit:=λσ k=>je1 (σ.wk [] [(5,[.PS])]) k
theorem jjT:CN 0 122 Tryz.f309 jef:=λr=>ZaJ [] [(5,[.PS])] (jjr follows j1x Zas r [jav] (oI 114 0 @jjU oN) [3,4,5,6,11,12,13] [3,4,5] ([],[]) [(0,[3,4,5,6],[3,4,5])] ([],[]) (y:=je1) λσ k _ h=>rN h λH h=>rT h λD h=>rT h λE h=>rT h λF h=>rV h λdone G h=>rV h λf i h=>rV h λg j h=>rV h λz l h=>rB h λa t n h=>rB h λA C p h=>rB h λB w q h=>⟨_,ZaM (m:=48) H (sC D (sC E (sC F (sC G (sC i (sC j (sC l sN))))))) (bC n (bC p (bC q bN))),.trans (Z9u (λv:Bool×Int×qF=>(mkS 48 48 [(3,pB 3),(4,pB 4),(5,pB 5),(6,vB v.1),(11,v1 y30 f .S),(12,vI g),(13,vI v.2.1)] [(3,⟨y29,a,t,[.S,.S]⟩),(4,⟨y30,A,C,[.O]⟩),(5,⟨y30,B,v.2.2,[.PS]⟩)])) (j95 f g t) (λ(k:Z83 Unit)=>(((λb d=>k (.exit 0) (mkS 48 48 [(3,pB 3),(4,pB 4),(5,pB 5),(6,vB b)] [(3,⟨y29,a,t,[.S,.S]⟩),(4,⟨y30,A,C,[.O]⟩),(5,⟨y30,B,d,[.PS]⟩)]))):(Bool->qF->Res))) (λv rec k=>by kernel_rfl) Z1c (done,z,w) k) h⟩)
def j8B (c:List qT) (t:qB×qE×qL) (d:qF->Res):Res:=jb9 c (nI (List.length c)) t Z1c false 0 [] λdone b=>bif !done then bif lim ((List.length b)+1) then d (b++[t]) else none else d b
def jbY:Sig Unit:=sg [.borrow y30 true,.borrow y29 true] [true] [(y30,none),(y29,none)] [] λb f k=>j8B b.1 b.2.1 (λd=>k [⟨y30,true,d,[.PS]⟩] [] [])
theorem jlK:SO 309 jbY:=fK (np:=0) Zas [jav,jef] (oI 122 1 @jjT oN) false Tryz.func309 λ_ _ _ _=>by kernel_rfl
def j3W (s:qB) (d:qL) (h:Int) (b:Int) (rec:Int->Res) (f:Unit->Res) (g:Unit->Res):Res:=bif decide (b<h) then bif inb b (List.length d) then bif sEq (nth eS d b) s then g () else rec (Z9K (b+1)) else none else f ()
def j94 (s:qB) (b:qL) (d:Int):Int->(Int->Res)->((Unit->Res)×(Unit->Res))->Res:=λv rec q=>j3W s b d v (λf=>rec (f)) q.1 q.2
def jfl (s:qB) (f:qL) (g:Int) (n:Nat) (h:Int) (b:Unit->Res) (d:Unit->Res):Res:=Z1f (j94 s f g) n (h) (b,d)
def jee:Z1d Unit:=NdL 17 17 [.S 1,.R 7 y0 .S,.I 8,.I 9] [] (λb d=>(b.2.2.2.1)) (λb v=>(b.1,b.2.1,b.2.2.1,v,())) (λd v=>()) (λb d=>j94 b.1 b.2.1 b.2.2.1) λb d f=>((λ_=>f (.exit 0) [] []),(λ_=>f .ret [(4,vB true)] []))
theorem jjS:CN 0 26 Tryz.f157 jee:=lK Zas [] oN ([],[]) [(0,[],[])] ([4],[]) λ_ _ _ _ _=>by kernel_rfl
def j8A (l:qL) (s:qB) (b:Bool->Res):Res:=jfl s l (nI (List.length l)) Z1c 0 (λ_=>b false) (λ_=>b true)
def jgs:Sig Unit:=sg [.look y0 false,.look .str false] [false] [(y0,none),(.str,none)] [] λb f k=>j8A b.1 b.2.1 (λd=>k [wB d] [] [])
theorem jlJ:SO 157 jgs:=fK (np:=0) Zas [jee] (oI 26 0 @jjS oN) false Tryz.func157 λ_ _ _ _=>by kernel_rfl
def j4f (t:qB×qE×qL) (d:qG) (b:Int->Res):Res:=j0K t d.2.2.2.2.1 λr=>bif (d.1==3) then bif inb 0 (List.length d.2.2.1) then j0K t (nth (eS,0,false,false,0,0,eS) d.2.2.1 0).1 λf=>bif decide (f>=0) then b 5 else bif ((nI (List.length t.2.1))==8) then b 6 else b 0 else none else bif (d.1==4) then bif decide (r<0) then b 7 else j8A t.2.2 d.2.2.2.2.1 λg=>bif g then b 8 else b 0 else bif (d.1==5) then j0K t d.2.2.2.2.2 λh=>bif decide (h>=0) then b 5 else bif decide (r<0) then b 7 else b 0 else b 0
def ja7:Sig Unit:=sg [.look y29 true,.look y13 true] [false] [(y29,none),(y13,none)] [] λb f k=>j4f b.1 b.2.1 (λd=>k [wI d] [] [])
theorem jj6:SO 310 ja7:=fK (np:=0) (Za6 jlJ (Za6 j5j Zas)) [] oN false Tryz.func310 λ_ _ _ _=>by delta j4f j2p jgs;refine gz j0K λ_ b=>gz j8A λ_ d=> ?_;rewrite [<-b,<-d];kernel_rfl
def j59 (t:qB×qE×qL) (b:Unit->Res):Res:=Z87 (Z87 (bif lim (0+(List.length t.2.2)) then Z87 (b ()) (b ()) else none) (bif lim (0+(List.length t.2.2)) then b () else none)) (bif lim (0+(List.length t.2.2)) then b () else none)
def j10:Z1d Unit:=Nd 92 92 [.t 2 (pB 2),.t 3 (pB 3),.t 4 (pB 4)] [(2,y29,[.S,.S]),(3,y13,[.S,.S]),(4,y29,[.O,.O])] λf b d=>j59 b.1.2 (λ_=>d .normal [(2,pB 2),(3,pB 3),(4,pB 4),(5,pB 5)] [(2,⟨y29,b.1.1,b.1.2,[.S,.S]⟩),(3,⟨y13,b.2.1.1,b.2.1.2,[.S,.S]⟩),(4,⟨y29,b.2.2.1.1,b.2.2.1.2,[.O,.O]⟩),(5,⟨y29,false,(b.1.2.1,[],b.1.2.2.2),[.O,.O]⟩)])
theorem jhd:CN 0 6 Tryz.f311 j10:=nK Zas [] oN ([2,3,4,5],[2,3,4,5]) [] ([],[]) λ_ _ _=>by kernel_rfl
def j5a (d:qG) (c:qB×Int×Bool×Bool×Int×Int×qB) (b:Unit->Res) (f:Unit->Res):Res:=bif (d.1==4) then bif sEq c.1 d.2.2.2.2.1 then f () else b () else b ()
def j1w:Z1d Unit:=Nd 92 92 [.t 3 (pB 3),.t 4 (pB 4),.t 5 (pB 5),.t 7 (pB 7),.R 17 y8 .S,.I 18,.I 19] [(3,y13,[.S,.S]),(4,y29,[.O,.O]),(5,y29,[.O,.O]),(7,y7,[])] λd b f=>j5a b.1.2 b.2.2.2.1.2 (λ_=>f .normal [(3,pB 3),(4,pB 4),(5,pB 5),(7,pB 7),(17,v1 y8 d.1 .S),(18,vI d.2.1),(19,vI d.2.2.1)] [(3,⟨y13,b.1.1,b.1.2,[.S,.S]⟩),(4,⟨y29,b.2.1.1,b.2.1.2,[.O,.O]⟩),(5,⟨y29,b.2.2.1.1,b.2.2.1.2,[.O,.O]⟩),(7,⟨y7,b.2.2.2.1.1,b.2.2.2.1.2,[]⟩)]) (λ_=>f (.exit 1) [(3,pB 3),(4,pB 4),(5,pB 5),(17,v1 y8 d.1 .S),(18,vI d.2.1),(19,vI d.2.2.1),(27,.ptr ⟨true,7,[.fst]⟩),(28,vS b.2.2.2.1.2.1),(29,.ptr ⟨true,3,[.snd,.snd,.snd,.snd,.fst]⟩),(30,vS b.1.2.2.2.2.2.1),(31,vB (sEq b.2.2.2.1.2.1 b.1.2.2.2.2.2.1))] [(3,⟨y13,b.1.1,b.1.2,[.S,.S]⟩),(4,⟨y29,b.2.1.1,b.2.1.2,[.O,.O]⟩),(5,⟨y29,b.2.2.1.1,b.2.2.1.2,[.O,.O]⟩),(7,⟨y7,b.2.2.2.1.1,b.2.2.2.1.2,[]⟩)])
theorem jhe:CN 0 7474 Tryz.f311 j1w:=nK Zas [j10] oN ([3,4,5,7,17,18,19],[3,4,5,7]) [(1,[3,4,5,17,18,19,27,28,29,30,31],[3,4,5,7])] ([],[]) λ_ _ _=>by kernel_rfl
def j5b (d:qG) (c:qB×Int×Bool×Bool×Int×Int×qB) (b:qC->Res):Res:=bif (d.1==5) then bif sEq c.1 d.2.2.2.2.1 then b (d.2.2.2.2.2,c.2) else b c else b c
def j2u:Z1d Unit:=Nd 92 92 [.t 3 (pB 3),.t 4 (pB 4),.t 5 (pB 5),.t 7 (pB 7),.R 17 y8 .S,.I 18,.I 19] [(3,y13,[.S,.S]),(4,y29,[.O,.O]),(5,y29,[.O,.O]),(7,y7,[])] λd b f=>j5b b.1.2 b.2.2.2.1.2 (λc1=>f .normal [(3,pB 3),(4,pB 4),(5,pB 5),(7,pB 7),(17,v1 y8 d.1 .S),(18,vI d.2.1),(19,vI d.2.2.1)] [(3,⟨y13,b.1.1,b.1.2,[.S,.S]⟩),(4,⟨y29,b.2.1.1,b.2.1.2,[.O,.O]⟩),(5,⟨y29,b.2.2.1.1,b.2.2.1.2,[.O,.O]⟩),(7,⟨y7,b.2.2.2.1.1,c1,[]⟩)])
theorem jhf:CN 0 14950 Tryz.f311 j2u:=nK Zas [j10,j1w] oN ([3,4,5,7,17,18,19],[3,4,5,7]) [] ([],[]) λ_ _ _=>by kernel_rfl
def j19 (g:List qC) (h:Int) (d:qG) (f:Int) (b:qB×qE×qL) (rec:Int->qT->Res) (i:qT->Res):Res:=bif decide (f<h) then bif inb f (List.length g) then j5a d (nth (eS,0,false,false,0,0,eS) g f) (λ_=>j5b d (nth (eS,0,false,false,0,0,eS) g f) λc=>bif lim ((List.length b.2.1)+1) then rec (Z9K (f+1)) (b.1,(b.2.1++[c]),b.2.2) else none) (λ_=>rec (Z9K (f+1)) b) else none else i b
def j22 (f:List qC) (g:Int) (d:qG):(Int×qT)->(Int×qT->Res)->((qT->Res))->Res:=λv rec q=>j19 f g d v.1 v.2 (λh b=>rec (h,b)) q
def j57 (f:List qC) (g:Int) (d:qG) (n:Nat) (h:Int) (b:qB×qE×qL) (i:qT->Res):Res:=Z1f (j22 f g d) n (h,b) (i)
def j4P:Z1d Unit:=NdL 92 92 [.t 3 (pB 3),.t 4 (pB 4),.t 5 (pB 5),.R 17 y8 .S,.I 18,.I 19] [(3,y13,[.S,.S]),(4,y29,[.O,.O]),(5,y29,[.O,.O])] (λd b=>(d.2.2.1,b.2.2.1.2)) (λd v=>(d.1,d.2.1,v.1,())) (λb v=>((b.1.1,b.1.2),(b.2.1.1,b.2.1.2),(b.2.2.1.1,v.2),())) (λd b=>j22 d.1 d.2.1 b.1.2) λd b g=>((λf=>g (.exit 0) [(3,pB 3),(4,pB 4),(5,pB 5)] [(3,⟨y13,b.1.1,b.1.2,[.S,.S]⟩),(4,⟨y29,b.2.1.1,b.2.1.2,[.O,.O]⟩),(5,⟨y29,b.2.2.1.1,f,[.O,.O]⟩)]))
theorem jhb:CN 0 58 Tryz.f311 j4P:=lK Zas [j10,j1w,j2u] (oI 114 1 @jhe (oI 230 2 @jhf oN)) ([],[]) [(0,[3,4,5],[3,4,5])] ([],[]) λ_ _ _ _ _=>by delta j22 j19 j1w j2u;refine gz j5a λ_ b=>gz j5b λ_ d=> ?_;rewrite [<-b,<-d];kernel_rfl
def j0n (g:Int) (d:qG) (f:Int) (b:qB×qE×qL) (rec:Int->qT->Res) (h:qT->Res):Res:=bif decide (f<g) then bif (d.1==5) then bif inb f (List.length b.2.2) then bif sEq (nth eS b.2.2 f) d.2.2.2.2.1 then bif inb f (List.length b.2.2) then rec (Z9K (f+1)) (b.1,b.2.1,upd b.2.2 f d.2.2.2.2.2) else none else rec (Z9K (f+1)) b else none else rec (Z9K (f+1)) b else h b
def j4b (f:Int) (d:qG):(Int×qT)->(Int×qT->Res)->((qT->Res))->Res:=λv rec q=>j0n f d v.1 v.2 (λg b=>rec (g,b)) q
def j58 (f:Int) (d:qG) (n:Nat) (g:Int) (b:qB×qE×qL) (h:qT->Res):Res:=Z1f (j4b f d) n (g,b) (h)
def j7D:Z1d Unit:=NdL 92 92 [.t 3 (pB 3),.t 4 (pB 4),.t 5 (pB 5),.I 55,.I 56] [(3,y13,[.S,.S]),(4,y29,[.O,.O]),(5,y29,[.O,.O])] (λd b=>(d.2.1,b.2.2.1.2)) (λd v=>(d.1,v.1,())) (λb v=>((b.1.1,b.1.2),(b.2.1.1,b.2.1.2),(b.2.2.1.1,v.2),())) (λd b=>j4b d.1 b.1.2) λd b g=>((λf=>g (.exit 2) [(3,pB 3),(4,pB 4),(5,pB 5)] [(3,⟨y13,b.1.1,b.1.2,[.S,.S]⟩),(4,⟨y29,b.2.1.1,b.2.1.2,[.O,.O]⟩),(5,⟨y29,b.2.2.1.1,f,[.O,.O]⟩)]))
theorem jhc:CN 0 122 Tryz.f311 j7D:=lK Zas [j10,j1w,j2u,j4P] oN ([],[]) [(2,[3,4,5],[3,4,5])] ([],[]) λ_ _ _ _ _=>by kernel_rfl
def j3s (t:qB×qE×qL) (d:qG) (g:qT->Res):Res:=j59 t λ_=>j57 t.2.1 (nI (List.length t.2.1)) d Z1c 0 (t.1,[],t.2.2) λf=>j58 (nI (List.length f.2.2)) d Z1c 0 f λb=>bif (d.1==3) then bif inb 0 (List.length d.2.2.1) then bif lim ((List.length b.2.1)+1) then g (b.1,(b.2.1++[nth (eS,0,false,false,0,0,eS) d.2.2.1 0]),b.2.2) else none else none else g b
def j8Z:Sig Unit:=sg [.borrow y29 true,.borrow y13 true] [true] [(y29,none),(y13,none)] [] λb f k=>j3s b.1 b.2.1 (λd=>k [⟨y29,true,d,[.O,.O]⟩] [] [])
theorem jij:SO 311 j8Z:=fK (np:=0) Zas [j10,j1w,j2u,j4P,j7D] (oI 6 0 @jhd (oI 58 3 @jhb (oI 122 4 @jhc oN))) false Tryz.func311 λ_ _ _ _=>by delta j3s j10 j4P j7D j57 j58;refine gz j59 λ_ b=>gz j22 λ_ d=>gz j4b λ_ f=> ?_;rewrite [<-b,<-d,<-f];kernel_rfl
theorem j9y:FS [(113,j2q),(210,j3Q),(242,j7o),(243,j5L),(286,ja8),(309,jbY),(310,ja7),(311,j8Z)]:=(Za6 j9C (Za6 jcM (Za6 jgV (Za6 jeW (Za6 j9D (Za6 jlK (Za6 jj6 (Za6 jij Zas))))))))
def j3R (d:qG) (b:List qT) (f:qF->Res):Res:=j4g (d.2.1,d.2.2.1,d.2.2.2.1) λr=>j8B b r λg=>f g
def j8i:Z1d Unit:=λσ k=>rdN σ 88<|rdT σ 3 (pB 3)<|rdT σ 4 (pB 4)<|rdT σ 7 (pB 7)<|rdB σ 3 y13 [.S,.S] λa d=>rdB σ 4 y30 [.O] λg i=>rdB σ 7 y30 [.S] λh b=>j3R d b (λf=>k .ret (mkS 88 88 [(4,pB 4),(5,vI 0)] [(4,⟨y30,g,f,[.PS]⟩)]))
def j5g:Z1d Unit:=λσ k=>j8i (σ.wk [] [(7,[.S])]) k
theorem jhL:CN 0 1003 Tryz.f287 j5g:=λi=>ZaJ [] [(7,[.S])] (jms follows j1x j9y i [] oN ([],[]) [] ([4,5],[4]) (y:=j8i) λσ k _ h=>rN h λr h=>rT h λn h=>rT h λp h=>rT h λq h=>rB h λa d b h=>rB h λz B f h=>rB h λA w g h=>⟨_,ZaM (m:=88) r (sC n (sC p (sC q sN))) (bC b (bC f (bC g bN))),.trans (by delta j3R ja8 jbY;refine gz j4g λ_ j=>gz j8B λ_ l=> ?_;rewrite [<-j,<-l];kernel_rfl) h⟩)
def j6n (d:Int) (b:List qT) (f:Unit->Res):Res:=bif Z8e 0 d (List.length b) then bif Z8e (Z9K (d+1)) (nI (List.length b)) (List.length b) then bif lim (0+(List.length (sub b 0 d))) then bif lim ((List.length (sub b 0 d))+(List.length (sub b (Z9K (d+1)) (nI (List.length b))))) then f () else none else none else none else none
def j8j:Z1d Unit:=λσ k=>rdN σ 88<|rdT σ 4 (pB 4)<|rdI σ 6 λd=>rdT σ 7 (pB 7)<|rdB σ 4 y30 [.O] λa g=>rdB σ 7 y30 [.S] λf b=>j6n d b (λ_=>k .ret (mkS 88 88 [(4,pB 4),(5,vI 0)] [(4,⟨y30,a,((sub b 0 d)++(sub b (Z9K (d+1)) (nI (List.length b)))),[.PS]⟩)]))
def j8l:Z1d Unit:=λσ k=>j8j (σ.wk [] [(7,[.S])]) k
theorem jhM:CN 0 4090 Tryz.f287 j8l:=λf=>ZaJ [] [(7,[.S])] (jms follows j1x j9y f [j5g] oN ([],[]) [] ([4,5],[4]) (y:=j8j) λσ k _ h=>rN h λn h=>rT h λi h=>rV h λg j h=>rT h λl h=>rB h λa r b h=>rB h λq p d h=>⟨_,ZaM (m:=88) n (sC i (sC j (sC l sN))) (bC b (bC d bN)),.trans (by kernel_rfl) h⟩)
def j1U (c:List qT) (d:qG) (f:qF->Int->Res):Res:=j6m c λr=>bif !r then f [] 1 else j2h d λi=>bif !i then f [] 1 else j1l c d.2.1 λb=>j3V c λg=>bif (d.1==1) then bif decide (b>=0) then f [] 2 else bif ((nI (List.length c))==6) then f [] 3 else j3R d g λt=>f t 0 else bif decide (b<0) then f [] 4 else bif inb b (List.length c) then j4f (nth (eS,[],[]) c b) d λh=>bif (h != 0) then f [] h else bif (d.1==2) then j6n b g λ_=>f ((sub g 0 b)++(sub g (Z9K (b+1)) (nI (List.length g)))) 0 else bif inb b (List.length c) then j3s (nth (eS,[],[]) c b) d λj=>bif inb b (List.length g) then f (upd g b j) 0 else none else none else none
def j4A:Sig Unit:=sg [.borrow y30 true,.borrow y13 true] [true,false] [(y30,none),(y13,none)] [] λb g k=>j1U b.1 b.2.1 (λd f=>k [⟨y30,true,d,[.S]⟩,wI f] [] [])
theorem jdA:SO 287 j4A:=fK (np:=0) j9y [j5g,j8l] (oI 1003 0 @jhL (oI 4090 1 @jhM oN)) true Tryz.func287 λ_ _ _ _=>by delta j1U j7o j3Q j2q j5L j5g ja7 j8l j8Z;delta j8i j8j;refine gz j6m λ_ b=>gz j2h λ_ d=>gz j1l λ_ f=>gz j3V λ_ g=>gz j3R λ_ h=>gz j4f λ_ i=>gz j6n λ_ j=>gz j3s λ_ k=> ?_;rewrite [<-b,<-d,<-f,<-g,<-h,<-i,<-j,<-k];kernel_rfl
def j3l (l:qL) (b:qL->Res):Res:=bif lim (0+(List.length l)) then b l else none
def jj1:Sig Unit:=sg [.borrow y0 false] [false] [(y0,none)] [] λd f k=>j3l d.1 (λb=>k [w1 y0 b .O] [] [])
theorem jcF:SO 217 jj1:=fK (np:=0) Zas [] oN false Tryz.func217 λ_ _ _ _=>by kernel_rfl
def j3k (t:qB×qE×qL) (b:qT->Res):Res:=bif lim (0+(List.length t.2.1)) then j3l t.2.2 λr=>b (t.1,t.2.1,r) else none
def jj0:Sig Unit:=sg [.borrow y29 true] [true] [(y29,none)] [] λd f k=>j3k d.1 (λb=>k [⟨y29,true,b,[.O,.O]⟩] [] [])
theorem j8N:SO 283 jj0:=fK (np:=0) (Za6 jcF Zas) [] oN false Tryz.func283 λ_ _ _ _=>by kernel_rfl
def j2I (d:qG) (b:qT->Res):Res:=j3k (d.2.1,d.2.2.1,d.2.2.2.1) λr=>b r
def j6Z:Sig Unit:=sg [.borrow y13 true] [true] [(y13,none)] [] λd f k=>j2I d.1 (λb=>k [⟨y29,true,b,[.O,.O]⟩] [] [])
theorem jdx:SO 269 j6Z:=fK (np:=0) (Za6 j8N Zas) [] oN false Tryz.func269 λ_ _ _ _=>by kernel_rfl
def j4o (c:qB×Int×Bool×Bool×Int×Int×qB) (b:Bool->Res):Res:=j0w c.1 λr=>bif !r then b false else j0i c.2.1 1 3 λd=>bif !d then b false else j15 c.2.2.2.2 λf=>bif !f then b false else bif !c.2.2.2.1 then b ((c.2.2.2.2.1==0)&&((c.2.2.2.2.2.1==0)&&(sEq c.2.2.2.2.2.2 eS))) else bif (c.2.2.2.2.1==c.2.1) then b true else bif (c.2.2.2.2.1==0) then b (!c.2.2.1) else b false
def ja2:Sig Unit:=sg [.look y7 true] [false] [(y7,none)] [] λd f k=>j4o d.1 (λb=>k [wB b] [] [])
theorem jgJ:SO 270 ja2:=fK (np:=0) (Za6 j8C (Za6 j2H (Za6 j7a Zas))) [] oN false Tryz.func270 λ_ _ _ _=>by delta j4o j2J j1S j7n;refine gz j0w λ_ b=>gz j0i λ_ d=>gz j15 λ_ f=> ?_;rewrite [<-b,<-d,<-f];kernel_rfl
def jet (c:qB×Int×Bool×Bool×Int×Int×qB) (d:qB) (b:Bool->Res):Res:=b (sEq c.1 d)
def jmb:Sig Unit:=sg [.look y7 true,.rptr .str] [false] [(y7,none),(.str,none)] [] λb f k=>jet b.1 b.2.1 (λd=>k [wB d] [] [])
theorem jg6:SO 308 jmb:=fK (np:=0) Zas [] oN false Tryz.func308 λ_ _ _ _=>by kernel_rfl
def j0V (s:List qC) (f:qB) (h:Int) (b:Int) (rec:Int->Res) (d:Unit->Res) (g:Int->Res):Res:=bif decide (b<h) then bif inb b (List.length s) then jet (nth (eS,0,false,false,0,0,eS) s b) f λr=>bif r then g b else rec (Z9K (b+1)) else none else d ()
def j3a (s:List qC) (f:qB) (b:Int):Int->(Int->Res)->((Unit->Res)×(Int->Res))->Res:=λv rec q=>j0V s f b v (λd=>rec (d)) q.1 q.2
def j81 (s:List qC) (f:qB) (g:Int) (n:Nat) (h:Int) (b:Unit->Res) (d:Int->Res):Res:=Z1f (j3a s f g) n (h) (b,d)
def j7A:Z1d Unit:=NdL 19 19 [.R 0 y8 .S,.c 1 308 [.str] .str [],.I 7,.I 8] [] (λb d=>(b.2.2.2.1)) (λb v=>(b.1,b.2.1,b.2.2.1,v,())) (λd v=>()) (λb d=>j3a b.1 b.2.1 b.2.2.1) λb d f=>((λ_=>f (.exit 0) [] []),(λg=>f .ret [(4,vI g)] []))
theorem jd4:CN 0 26 Tryz.f307 j7A:=lK (Za6 jg6 Zas) [] oN ([],[]) [(0,[],[])] ([4],[]) λ_ _ _ _ _=>by kernel_rfl
def j6i (s:List qC) (f:qB) (b:Int->Res):Res:=j81 s f (nI (List.length s)) Z1c 0 (λ_=>b (-1)) (λt=>b t)
def jey:Sig Unit:=sg [.look y8 false,.rclos 308 [.str]] [false] [(y8,none),(.str,none)] [] λb f k=>j6i b.1 b.2.1 (λd=>k [wI d] [] [])
theorem jem:SO 307 jey:=fK (np:=0) (Za6 jg6 Zas) [j7A] (oI 26 0 @jd4 oN) false Tryz.func307 λ_ _ _ _=>by kernel_rfl
def j0h (t:qB×qE×qL) (name:qB) (b:Int->Res):Res:=j6i t.2.1 name λr=>b r
def j0O:Sig Unit:=sg [.look y29 true,.look .str false] [false] [(y29,none),(.str,none)] [] λb f k=>j0h b.1 b.2.1 (λd=>k [wI d] [] [])
theorem j3v:SO 284 j0O:=fK (np:=0) (Za6 jem Zas) [] oN false Tryz.func284 λ_ _ _ _=>by kernel_rfl
theorem jaG:FS [(160,j2J),(163,j1S),(270,ja2),(284,j0O)]:=(Za6 j8C (Za6 j2H (Za6 jgJ (Za6 j3v Zas))))
def j1L (d:List qC) (f:Int) (t:qB×qE×qL) (b:Int) (rec:Int->Res) (h:Unit->Res) (g:Unit->Res):Res:=bif decide (b<f) then bif inb b (List.length d) then j4o (nth (eS,0,false,false,0,0,eS) d b) λr=>bif !r then g () else j0h t (nth (eS,0,false,false,0,0,eS) d b).1 λi=>bif (i != b) then g () else rec (Z9K (b+1)) else none else h ()
def j2S (b:List qC) (d:Int) (t:qB×qE×qL):Int->(Int->Res)->((Unit->Res)×(Unit->Res))->Res:=λv rec q=>j1L b d t v (λf=>rec (f)) q.1 q.2
def j6W (b:List qC) (d:Int) (t:qB×qE×qL) (n:Nat) (f:Int) (g:Unit->Res) (h:Unit->Res):Res:=Z1f (j2S b d t) n (f) (g,h)
def j6r:Z1d Unit:=NdL 68 68 [.t 1 (pB 1),.R 10 y8 .S,.I 11,.I 12] [(1,y29,[.S,.S])] (λb d=>(b.2.2.1)) (λb v=>(b.1,b.2.1,v,())) (λd v=>((d.1.1,d.1.2),())) (λb d=>j2S b.1 b.2.1 d.1.2) λb d f=>((λ_=>f (.exit 0) [(1,pB 1)] [(1,⟨y29,d.1.1,d.1.2,[.S,.S]⟩)]),(λ_=>f .ret [(2,vB false)] []))
theorem jiy:CN 0 26 Tryz.f268 j6r:=lK jaG [] oN ([],[]) [(0,[1],[1])] ([2],[]) λ_ _ _ _ _=>by delta j2S j1L ja2 j0O;refine gz j4o λ_ b=>gz j0h λ_ d=> ?_;rewrite [<-b,<-d];kernel_rfl
def j2T (f:qL) (g:Int) (t:qB×qE×qL) (d:Int) (b:Int) (rec:Int->Int->Res) (i:Unit->Res) (h:Unit->Res):Res:=bif decide (b<g) then bif inb b (List.length f) then j0h t (nth eS f b) λr=>bif decide (r<=d) then h () else bif inb r (List.length t.2.1) then bif !(nth (eS,0,false,false,0,0,eS) t.2.1 r).2.2.1 then h () else rec r (Z9K (b+1)) else none else none else i ()
def j50 (d:qL) (f:Int) (t:qB×qE×qL):(Int×Int)->(Int×Int->Res)->((Unit->Res)×(Unit->Res))->Res:=λv rec q=>j2T d f t v.1 v.2 (λb g=>rec (b,g)) q.1 q.2
def j6X (d:qL) (f:Int) (t:qB×qE×qL) (n:Nat) (b:Int) (g:Int) (h:Unit->Res) (i:Unit->Res):Res:=Z1f (j50 d f t) n (b,g) (h,i)
def j9d:Z1d Unit:=NdL 68 68 [.t 1 (pB 1),.I 5,.R 30 y0 .S,.I 31,.I 32] [(1,y29,[.S,.S])] (λb d=>(b.1,b.2.2.2.1)) (λb v=>(v.1,b.2.1,b.2.2.1,v.2,())) (λd v=>((d.1.1,d.1.2),())) (λb d=>j50 b.2.1 b.2.2.1 d.1.2) λb d f=>((λ_=>f (.exit 2) [(1,pB 1)] [(1,⟨y29,d.1.1,d.1.2,[.S,.S]⟩)]),(λ_=>f .ret [(2,vB false)] []))
theorem jiz:CN 0 122 Tryz.f268 j9d:=lK jaG [j6r] oN ([],[]) [(2,[1],[1])] ([2],[]) λ_ _ _ _ _=>by kernel_rfl
def j0M (t:qB×qE×qL) (b:Bool->Res):Res:=j6W t.2.1 (nI (List.length t.2.1)) t Z1c 0 (λ_=>j6X t.2.2 (nI (List.length t.2.2)) t Z1c (-1) 0 (λ_=>j0w t.1 λr=>bif r then j0i (nI (List.length t.2.1)) 1 8 λd=>bif d then b (decide ((nI (List.length t.2.2))>0)) else b false else b false) (λ_=>b false)) (λ_=>b false)
def j3p:Sig Unit:=sg [.look y29 true] [false] [(y29,none)] [] λd f k=>j0M d.1 (λb=>k [wB b] [] [])
theorem j5i:SO 268 j3p:=fK (np:=0) jaG [j6r,j9d] (oI 26 0 @jiy (oI 122 1 @jiz oN)) false Tryz.func268 λ_ _ _ _=>by delta j0M j6r j9d j2J j1S j6W j6X;refine gz j2S λ_ b=>gz j50 λ_ d=>gz j0w λ_ f=>gz j0i λ_ g=> ?_;rewrite [<-b,<-d,<-f,<-g];kernel_rfl
def j0g (a:qG) (b:qG) (d:Bool->Res):Res:=bif (a.1==b.1) then bif sEq a.2.1 b.2.1 then j1o a.2.2.1 b.2.2.1 λr=>bif r then j21 a.2.2.2.1 b.2.2.2.1 λf=>bif f then bif sEq a.2.2.2.2.1 b.2.2.2.2.1 then d (sEq a.2.2.2.2.2 b.2.2.2.2.2) else d false else d false else d false else d false else d false
def j70:Sig Unit:=sg [.look y13 true,.look y13 true] [false] [(y13,none),(y13,none)] [] λb f k=>j0g b.1 b.2.1 (λd=>k [wB d] [] [])
theorem j9z:SO 212 j70:=fK (np:=0) (Za6 jgT (Za6 jeS Zas)) [] oN false Tryz.func212 λ_ _ _ _=>by delta j0g jby j9u;refine gz j1o λ_ b=>gz j21 λ_ d=> ?_;rewrite [<-b,<-d];kernel_rfl
def j2f (d:qG) (b:Bool->Res):Res:=j0w d.2.1 λr=>bif !r then b false else bif (d.1==1) then j2I d λg=>j0M g λh=>bif h then bif sEq d.2.2.2.2.1 eS then b (sEq d.2.2.2.2.2 eS) else b false else b false else bif (d.1==2) then j0g d (d.1,d.2.1,[],[],eS,eS) λi=>b i else bif (d.1==3) then j0g d (d.1,d.2.1,d.2.2.1,[],eS,eS) λj=>bif j then bif ((nI (List.length d.2.2.1))==1) then bif inb 0 (List.length d.2.2.1) then j4o (nth (eS,0,false,false,0,0,eS) d.2.2.1 0) λk=>bif k then bif inb 0 (List.length d.2.2.1) then bif (nth (eS,0,false,false,0,0,eS) d.2.2.1 0).2.2.2.1 then b true else bif inb 0 (List.length d.2.2.1) then b (!(nth (eS,0,false,false,0,0,eS) d.2.2.1 0).2.2.1) else none else none else b false else none else b false else b false else bif (d.1==4) then j0g d (d.1,d.2.1,[],[],d.2.2.2.2.1,eS) λl=>bif l then j0w d.2.2.2.2.1 λm=>b m else b false else bif (d.1==5) then j0g d (d.1,d.2.1,[],[],d.2.2.2.2.1,d.2.2.2.2.2) λn=>bif n then j0w d.2.2.2.2.1 λp=>bif p then j0w d.2.2.2.2.2 λf=>b f else b false else b false else b false
def j3N:Sig Unit:=sg [.look y13 true] [false] [(y13,none)] [] λd f k=>j2f d.1 (λb=>k [wB b] [] [])
theorem jcD:SO 211 j3N:=fK (np:=0) (Za6 j8C (Za6 j9z (Za6 j5i (Za6 jdx (Za6 jgJ Zas))))) [] oN false Tryz.func211 λ_ _ _ _=>by delta j2f j2J j6Z j3p j70 ja2;refine gz j0w λ_ b=>gz j2I λ_ d=>gz j0M λ_ f=>gz j0g λ_ g=>gz j4o λ_ h=> ?_;rewrite [<-b,<-d,<-f,<-g,<-h];kernel_rfl
def j9L (d:qG) (b:qG->Res):Res:=bif lim (0+(List.length d.2.2.1)) then j3l d.2.2.2.1 λr=>b (d.1,d.2.1,d.2.2.1,r,d.2.2.2.2) else none
def jfg:Sig Unit:=sg [.borrow y13 true] [true] [(y13,none)] [] λd f k=>j9L d.1 (λb=>k [⟨y13,true,b,[.O,.O]⟩] [] [])
theorem jkh:SO 275 jfg:=fK (np:=0) (Za6 jcF Zas) [] oN false Tryz.func275 λ_ _ _ _=>by kernel_rfl
def j4n (d:List qT) (h:Int) (c:List qT) (b:Int) (rec:Int->Res) (g:Unit->Res) (f:Unit->Res):Res:=bif decide (b<h) then bif inb b (List.length d) then j0M (nth (eS,[],[]) d b) λr=>bif !r then f () else bif decide (b>0) then bif inb (Z9K (b-1)) (List.length c) then bif sGe (nth (eS,[],[]) c (Z9K (b-1))).1 (nth (eS,[],[]) d b).1 then f () else rec (Z9K (b+1)) else none else rec (Z9K (b+1)) else none else g ()
def j9H (b:List qT) (d:Int) (c:List qT):Int->(Int->Res)->((Unit->Res)×(Unit->Res))->Res:=λv rec q=>j4n b d c v (λf=>rec (f)) q.1 q.2
def jbM (f:List qT) (g:Int) (c:List qT) (n:Nat) (h:Int) (b:Unit->Res) (d:Unit->Res):Res:=Z1f (j9H f g c) n (h) (b,d)
def jft:Z1d Unit:=NdL 37 37 [.t 1 (pB 1),.R 6 y30 .S,.I 7,.I 8] [(1,y30,[.S])] (λb d=>(b.2.2.1)) (λb v=>(b.1,b.2.1,v,())) (λd v=>((d.1.1,d.1.2),())) (λb d=>j9H b.1 b.2.1 d.1.2) λb d f=>((λ_=>f (.exit 0) [(1,pB 1)] [(1,⟨y30,d.1.1,d.1.2,[.S]⟩)]),(λ_=>f .ret [(2,vB false)] []))
theorem jkA:CN 0 26 Tryz.f250 jft:=lK (Za6 j5i Zas) [] oN ([],[]) [(0,[1],[1])] ([2],[]) λ_ _ _ _ _=>by kernel_rfl
def j6b (c:List qT) (b:Bool->Res):Res:=jbM c (nI (List.length c)) c Z1c 0 (λ_=>b (decide ((nI (List.length c))<=6))) (λ_=>b false)
def j7l:Sig Unit:=sg [.look y30 true] [false] [(y30,none)] [] λd f k=>j6b d.1 (λb=>k [wB b] [] [])
theorem jgI:SO 250 j7l:=fK (np:=0) (Za6 j5i Zas) [jft] (oI 26 0 @jkA oN) false Tryz.func250 λ_ _ _ _=>by kernel_rfl
def j2U (f:List qT) (h:Int) (b:Int) (d:List qT) (rec:Int->qF->Res) (g:qF->Res):Res:=bif decide (b<h) then bif inb b (List.length f) then j3k (nth (eS,[],[]) f b) λr=>bif lim ((List.length d)+1) then rec (Z9K (b+1)) (d++[r]) else none else none else g d
def j88 (f:List qT) (g:Int):(Int×qF)->(Int×qF->Res)->((qF->Res))->Res:=λv rec q=>j2U f g v.1 v.2 (λd b=>rec (d,b)) q
def jdJ (g:List qT) (h:Int) (n:Nat) (d:Int) (b:List qT) (f:qF->Res):Res:=Z1f (j88 g h) n (d,b) (f)
def jdn:Z1d Unit:=NdL 23 23 [.t 2 (pB 2),.t 3 (pB 3),.R 8 y30 .S,.I 9,.I 10] [(2,y30,[.O]),(3,y30,[.O])] (λd b=>(d.2.2.1,b.2.1.2)) (λd v=>(d.1,d.2.1,v.1,())) (λb v=>((b.1.1,b.1.2),(b.2.1.1,v.2),())) (λd b=>j88 d.1 d.2.1) λd b g=>((λf=>g (.exit 0) [(2,pB 2),(3,pB 3)] [(2,⟨y30,b.1.1,b.1.2,[.O]⟩),(3,⟨y30,b.2.1.1,f,[.O]⟩)]))
theorem jiB:CN 0 58 Tryz.f231 jdn:=lK (Za6 j8N Zas) [] oN ([],[]) [(0,[2,3],[2,3])] ([],[]) λ_ _ _ _ _=>by kernel_rfl
def j3A (c:List qT) (d:qF->Res):Res:=jdJ c (nI (List.length c)) Z1c 0 [] λb=>d b
def j5E:Sig Unit:=sg [.borrow y30 true] [true] [(y30,none)] [] λd f k=>j3A d.1 (λb=>k [⟨y30,true,b,[.O]⟩] [] [])
theorem jeP:SO 231 j5E:=fK (np:=0) (Za6 j8N Zas) [jdn] (oI 58 0 @jiB oN) false Tryz.func231 λ_ _ _ _=>by kernel_rfl
def jcT (t:qB×qE×qL) (d:qB) (b:Bool->Res):Res:=b (sEq t.1 d)
def jkR:Sig Unit:=sg [.look y29 true,.rptr .str] [false] [(y29,none),(.str,none)] [] λb f k=>jcT b.1 b.2.1 (λd=>k [wB d] [] [])
theorem jeK:SO 235 jkR:=fK (np:=0) Zas [] oN false Tryz.func235 λ_ _ _ _=>by kernel_rfl
def j0G (s:List qT) (f:qB) (h:Int) (b:Int) (rec:Int->Res) (d:Unit->Res) (g:Int->Res):Res:=bif decide (b<h) then bif inb b (List.length s) then jcT (nth (eS,[],[]) s b) f λr=>bif r then g b else rec (Z9K (b+1)) else none else d ()
def j2r (s:List qT) (f:qB) (b:Int):Int->(Int->Res)->((Unit->Res)×(Int->Res))->Res:=λv rec q=>j0G s f b v (λd=>rec (d)) q.1 q.2
def j72 (s:List qT) (f:qB) (g:Int) (n:Nat) (h:Int) (b:Unit->Res) (d:Int->Res):Res:=Z1f (j2r s f g) n (h) (b,d)
def j6H:Z1d Unit:=NdL 19 19 [.R 0 y30 .S,.c 1 235 [.str] .str [],.I 7,.I 8] [] (λb d=>(b.2.2.2.1)) (λb v=>(b.1,b.2.1,b.2.2.1,v,())) (λd v=>()) (λb d=>j2r b.1 b.2.1 b.2.2.1) λb d f=>((λ_=>f (.exit 0) [] []),(λg=>f .ret [(4,vI g)] []))
theorem jbP:CN 0 26 Tryz.f234 j6H:=lK (Za6 jeK Zas) [] oN ([],[]) [(0,[],[])] ([4],[]) λ_ _ _ _ _=>by kernel_rfl
def j4T (s:List qT) (f:qB) (b:Int->Res):Res:=j72 s f (nI (List.length s)) Z1c 0 (λ_=>b (-1)) (λt=>b t)
def jdd:Sig Unit:=sg [.look y30 false,.rclos 235 [.str]] [false] [(y30,none),(.str,none)] [] λb f k=>j4T b.1 b.2.1 (λd=>k [wI d] [] [])
theorem jcL:SO 234 jdd:=fK (np:=0) (Za6 jeK Zas) [j6H] (oI 26 0 @jbP oN) false Tryz.func234 λ_ _ _ _=>by kernel_rfl
def j0j (c:List qT) (name:qB) (b:Int->Res):Res:=j4T c name λr=>b r
def j0N:Sig Unit:=sg [.look y30 true,.look .str false] [false] [(y30,none),(.str,none)] [] λb f k=>j0j b.1 b.2.1 (λd=>k [wI d] [] [])
theorem j6x:SO 176 j0N:=fK (np:=0) (Za6 jcL Zas) [] oN false Tryz.func176 λ_ _ _ _=>by kernel_rfl
theorem j7G:FS [(95,j3P),(176,j0N),(284,j0O)]:=(Za6 jcK (Za6 j6x (Za6 j3v Zas)))
def j4u (d:qG) (t:qB×qE×qL) (b:Bool->Res):Res:=bif (d.1==3) then bif inb 0 (List.length d.2.2.1) then j0h t (nth (eS,0,false,false,0,0,eS) d.2.2.1 0).1 λr=>bif decide (r>=0) then b true else bif (d.1==5) then j0h t d.2.2.2.2.2 λf=>b (decide (f>=0)) else b false else none else bif (d.1==5) then j0h t d.2.2.2.2.2 λg=>b (decide (g>=0)) else b false
def j44:Z1d Unit:=Nd 92 92 [.t 3 (pB 3),.t 6 (pB 6)] [(3,y13,[.S,.S]),(6,y29,[.S,.S])] λg b f=>j4u b.1.2 b.2.1.2 (λd=>f .normal [(3,pB 3),(6,pB 6),(29,vB d)] [(3,⟨y13,b.1.1,b.1.2,[.S,.S]⟩),(6,⟨y29,b.2.1.1,b.2.1.2,[.S,.S]⟩)])
theorem jiC:CN 0 504 Tryz.f317 j44:=nK j7G [] oN ([3,6,29],[3,6]) [] ([],[]) λ_ _ _=>by delta j4u j0O;refine gz j0h λ_ b=> ?_;rewrite [<-b];kernel_rfl
def j6Y (d:qG) (t:qB×qE×qL) (b:Bool->Res):Res:=bif (d.1==3) then b ((nI (List.length t.2.1))==8) else b false
def j6s:Z1d Unit:=Nd 92 92 [.t 3 (pB 3),.t 6 (pB 6)] [(3,y13,[.S,.S]),(6,y29,[.S,.S])] λg b f=>j6Y b.1.2 b.2.1.2 (λd=>f .normal [(3,pB 3),(6,pB 6),(55,vB d)] [(3,⟨y13,b.1.1,b.1.2,[.S,.S]⟩),(6,⟨y29,b.2.1.1,b.2.1.2,[.S,.S]⟩)])
theorem jiD:CN 0 2022 Tryz.f317 j6s:=nK j7G [j44] oN ([3,6,55],[3,6]) [] ([],[]) λ_ _ _=>by kernel_rfl
def j4v (d:qG) (t:qB×qE×qL) (b:Bool->Res):Res:=bif (d.1==4) then j0h t d.2.2.2.2.1 λr=>b (decide (r<0)) else bif (d.1==5) then j0h t d.2.2.2.2.1 λf=>b (decide (f<0)) else b false
def j9f:Z1d Unit:=Nd 92 92 [.t 3 (pB 3),.t 6 (pB 6)] [(3,y13,[.S,.S]),(6,y29,[.S,.S])] λg b f=>j4v b.1.2 b.2.1.2 (λd=>f .normal [(3,pB 3),(6,pB 6),(65,vB d)] [(3,⟨y13,b.1.1,b.1.2,[.S,.S]⟩),(6,⟨y29,b.2.1.1,b.2.1.2,[.S,.S]⟩)])
theorem jiE:CN 0 8094 Tryz.f317 j9f:=nK j7G [j44,j6s] oN ([3,6,65],[3,6]) [] ([],[]) λ_ _ _=>by delta j4v j0O;refine gz j0h λ_ b=> ?_;rewrite [<-b];kernel_rfl
def j2m (c:List qT) (d:qG) (b:Int->Res):Res:=j0j c d.2.1 λr=>bif (d.1==1) then bif decide (r>=0) then b 2 else bif ((nI (List.length c))==6) then b 3 else b 0 else bif decide (r<0) then b 4 else bif inb r (List.length c) then j4u d (nth (eS,[],[]) c r) λt=>bif t then b 5 else j6Y d (nth (eS,[],[]) c r) λg=>bif g then b 6 else j4v d (nth (eS,[],[]) c r) λh=>bif h then b 7 else bif (d.1==4) then j1f (nth (eS,[],[]) c r).2.2 d.2.2.2.2.1 λf=>bif f then b 8 else b 0 else b 0 else none
def j5F:Sig Unit:=sg [.look y30 true,.look y13 true] [false] [(y30,none),(y13,none)] [] λb f k=>j2m b.1 b.2.1 (λd=>k [wI d] [] [])
theorem jeQ:SO 317 j5F:=fK (np:=0) j7G [j44,j6s,j9f] (oI 504 0 @jiC (oI 2022 1 @jiD (oI 8094 2 @jiE oN))) false Tryz.func317 λ_ _ _ _=>by delta j2m j0N j44 j6s j9f j3P;refine gz j0j λ_ b=>gz j4u λ_ d=>gz j6Y λ_ f=>gz j4v λ_ g=>gz j1f λ_ h=> ?_;rewrite [<-b,<-d,<-f,<-g,<-h];kernel_rfl
def jaL (x:qB×Int×Bool×Bool×Int×Int×qB) (d:qG) (b:Bool->Res):Res:=b (sEq x.1 d.2.2.2.2.1)
def jiZ:Sig Unit:=sg [.look y7 true,.rptr y13] [false] [(y7,none),(y13,none)] [] λb f k=>jaL b.1 b.2.1 (λd=>k [wB d] [] [])
theorem jif:SO 321 jiZ:=fK (np:=0) Zas [] oN false Tryz.func321 λ_ _ _ _=>by kernel_rfl
def j2A (s:List qC) (b:qG) (d:qE->qG->Res):Res:=bif lim (List.length s) then dgE (λe k=>jaL e b k) s [] (λr=>d r b) else none
def j4c:Sig Unit:=⟨[.eat y8 false,.clos 321 [y13]],[false],λvals ext k=>ao vals y8 [.O] λs vals=>nl vals<|ab ext y13 [.S,.S] λa0 f ext=>nl ext<|j2A s f (λd b=>k [w1 y8 d .O] [] [⟨y13,a0,b,[.S,.S]⟩])⟩
theorem jdu:Z17 Tryz.prog 320 j4c:=gS (jro (U:=0) (T:=280) (e:=y7) (ag:=true) (τ:=y13) (tg:=[.S,.S]) (fl:=[9,3,4,4,151]) (S:=116) (E:=213) (I:=3) (B:=4) follows j1x (by kernel_rfl) Tryz.underlying116 (by kernel_rfl) (by kernel_rfl) (by kernel_rfl) (by kernel_rfl) Tryz.isAgg280 Tryz.sizeOf280 (by kernel_rfl) (by kernel_rfl) (by kernel_rfl) Tryz.func307 (by kernel_rfl) (by kernel_rfl) (by kernel_rfl) (by kernel_rfl) jif (by kernel_rfl) Tryz.func320 (by kernel_rfl) (by kernel_rfl) (by kernel_rfl) (by kernel_rfl)) (by kernel_rfl)
theorem j9x:FS [(166,j5I),(176,j0N),(211,j3N),(231,j5E),(250,j7l),(269,j6Z),(284,j0O),(317,j5F),(318,j5J),(319,j5H),(320,j4c)]:=(Za6 j9m (Za6 j6x (Za6 jcD (Za6 jeP (Za6 jgI (Za6 jdx (Za6 j3v (Za6 jeQ (Za6 jeT (Za6 jeR (Za6 jdu Zas)))))))))))
def j2k (d:qG) (f:List qT) (b:Int) (rec:Int->Res) (g:Int->Res):Res:=bif decide (b<(nI (List.length f))) then bif inb b (List.length f) then bif sLt (nth (eS,[],[]) f b).1 d.2.1 then rec (Z9K (b+1)) else g b else none else g b
def j4p (d:qG) (f:List qT):Int->(Int->Res)->((Int->Res))->Res:=λv rec q=>j2k d f v (λb=>rec (b)) q
def j8T (d:qG) (f:List qT) (n:Nat) (b:Int) (g:Int->Res):Res:=Z1f (j4p d f) n (b) (g)
def j5f:Z1d Unit:=NdL 146 146 [.t 3 (pB 3),.t 4 (pB 4),.t 7 (pB 7),.I 9] [(3,y13,[.S,.S]),(4,y30,[.O]),(7,y30,[.O])] (λf b=>(f.1)) (λf v=>(v,())) (λb v=>((b.1.1,b.1.2),(b.2.1.1,b.2.1.2),(b.2.2.1.1,b.2.2.1.2),())) (λf b=>j4p b.1.2 b.2.2.1.2) λf b g=>((λd=>g (.exit 1) [(3,pB 3),(4,pB 4),(7,pB 7),(9,vI d)] [(3,⟨y13,b.1.1,b.1.2,[.S,.S]⟩),(4,⟨y30,b.2.1.1,b.2.1.2,[.O]⟩),(7,⟨y30,b.2.2.1.1,b.2.2.1.2,[.O]⟩)]))
theorem jhI:CN 0 16212 Tryz.f295 j5f:=lK j9x [] oN ([],[]) [(1,[3,4,7,9],[3,4,7])] ([],[]) λ_ _ _ _ _=>by kernel_rfl
def j1n (f:Int) (h:Int) (d:qG) (b:List qT) (i:qF->Res):Res:=bif (h==1) then j8T d b Z1c 0 λj=>j2I d λr=>j4a b j [r] λl=>i l else bif (h==2) then j49 b f (Z9K (f+1)) λm=>i m else bif (h==3) then bif inb f (List.length b) then bif inb 0 (List.length d.2.2.1) then bif lim ((List.length (nth (eS,[],[]) b f).2.1)+1) then bif inb f (List.length (upd b f ((nth (eS,[],[]) b f).1,((nth (eS,[],[]) b f).2.1++[nth (eS,0,false,false,0,0,eS) d.2.2.1 0]),(nth (eS,[],[]) b f).2.2))) then bif (Z9o (Int.toNat f) (Int.toNat f)&&true) then i (upd b f ((nth (eS,[],[]) b f).1,((nth (eS,[],[]) b f).2.1++[nth (eS,0,false,false,0,0,eS) d.2.2.1 0]),(nth (eS,[],[]) b f).2.2)) else none else none else none else none else none else bif (h==4) then bif inb f (List.length b) then j2A (nth (eS,[],[]) b f).2.1 d λn p=>bif (Z9o (Int.toNat f) (Int.toNat f)&&true) then i (upd b f ((nth (eS,[],[]) b f).1,n,(nth (eS,[],[]) b f).2.2)) else none else none else bif (h==5) then bif inb f (List.length b) then j0h (nth (eS,[],[]) b f) d.2.2.2.2.1 λg=>bif inb g (List.length (nth (eS,[],[]) b f).2.1) then j0T (nth (eS,[],[]) (upd b f ((nth (eS,[],[]) b f).1,upd (nth (eS,[],[]) b f).2.1 g (d.2.2.2.2.2,(nth (eS,0,false,false,0,0,eS) (nth (eS,[],[]) b f).2.1 g).2),(nth (eS,[],[]) b f).2.2)) f).2.2 d.2.2.2.2.1 λk=>bif decide (k>=0) then bif inb k (List.length (nth (eS,[],[]) (upd b f ((nth (eS,[],[]) b f).1,upd (nth (eS,[],[]) b f).2.1 g (d.2.2.2.2.2,(nth (eS,0,false,false,0,0,eS) (nth (eS,[],[]) b f).2.1 g).2),(nth (eS,[],[]) b f).2.2)) f).2.2) then i (upd (upd b f ((nth (eS,[],[]) b f).1,upd (nth (eS,[],[]) b f).2.1 g (d.2.2.2.2.2,(nth (eS,0,false,false,0,0,eS) (nth (eS,[],[]) b f).2.1 g).2),(nth (eS,[],[]) b f).2.2)) f ((nth (eS,[],[]) (upd b f ((nth (eS,[],[]) b f).1,upd (nth (eS,[],[]) b f).2.1 g (d.2.2.2.2.2,(nth (eS,0,false,false,0,0,eS) (nth (eS,[],[]) b f).2.1 g).2),(nth (eS,[],[]) b f).2.2)) f).1,(nth (eS,[],[]) (upd b f ((nth (eS,[],[]) b f).1,upd (nth (eS,[],[]) b f).2.1 g (d.2.2.2.2.2,(nth (eS,0,false,false,0,0,eS) (nth (eS,[],[]) b f).2.1 g).2),(nth (eS,[],[]) b f).2.2)) f).2.1,upd (nth (eS,[],[]) (upd b f ((nth (eS,[],[]) b f).1,upd (nth (eS,[],[]) b f).2.1 g (d.2.2.2.2.2,(nth (eS,0,false,false,0,0,eS) (nth (eS,[],[]) b f).2.1 g).2),(nth (eS,[],[]) b f).2.2)) f).2.2 k d.2.2.2.2.2)) else none else i (upd b f ((nth (eS,[],[]) b f).1,upd (nth (eS,[],[]) b f).2.1 g (d.2.2.2.2.2,(nth (eS,0,false,false,0,0,eS) (nth (eS,[],[]) b f).2.1 g).2),(nth (eS,[],[]) b f).2.2)) else none else none else i b
def j8k:Z1d Unit:=Nd 146 146 [.t 3 (pB 3),.t 4 (pB 4),.t 7 (pB 7),.I 8,.I 36] [(3,y13,[.S,.S]),(4,y30,[.O]),(7,y30,[.O])] λf d g=>j1n f.1 f.2.1 d.1.2 d.2.2.1.2 (λb=>g .normal [(4,pB 4),(7,pB 7)] [(4,⟨y30,d.2.1.1,d.2.1.2,[.O]⟩),(7,⟨y30,d.2.2.1.1,b,[.O]⟩)])
theorem jhJ:CN 0 253 Tryz.f295 j8k:=nK j9x [j5f] (oI 84 0 @jhI oN) ([4,7],[4,7]) [] ([],[]) λ_ _ _=>by delta j1n j5f j6Z j5J j5H j4c j0O j5I j8T;refine gz j4p λ_ b=>gz j2I λ_ d=>gz j4a λ_ f=>gz j49 λ_ g=>gz j2A λ_ h=>gz j0h λ_ i=>gz j0T λ_ j=> ?_;rewrite [<-b,<-d,<-f,<-g,<-h,<-i,<-j];kernel_rfl
def j4e (c:List qT) (d:qG) (b:qF->Int->Res):Res:=j6b c λr=>bif !r then b [] 1 else j2f d λh=>bif !h then b [] 1 else j2m c d λg=>bif (g != 0) then b [] g else j3A c λi=>j0j c d.2.1 λj=>j1n j d.1 d i λf=>b f 0
def ja3:Sig Unit:=sg [.borrow y30 true,.borrow y13 true] [true,false] [(y30,none),(y13,none)] [] λb g k=>j4e b.1 b.2.1 (λd f=>k [⟨y30,true,d,[.O]⟩,wI f] [] [])
theorem jj4:SO 295 ja3:=fK (np:=0) j9x [j5f,j8k] (oI 253 1 @jhJ oN) false Tryz.func295 λ_ _ _ _=>by delta j4e j7l j3N j5F j5E j0N j8k;refine gz j6b λ_ b=>gz j2f λ_ d=>gz j2m λ_ f=>gz j3A λ_ g=>gz j0j λ_ h=>gz j1n λ_ i=> ?_;rewrite [<-b,<-d,<-f,<-g,<-h,<-i];kernel_rfl
end
end Go.PI.G
