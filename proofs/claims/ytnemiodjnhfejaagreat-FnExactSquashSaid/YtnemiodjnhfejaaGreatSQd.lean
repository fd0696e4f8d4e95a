/-
  Program's code interpreted over typed values; printed texts; plain laws. No conditions.
-/
import Derived.Test.YtnemiodjnhfejaaGreatSQc
set_option linter.unusedVariables false
set_option maxRecDepth 100000
namespace Go.PI.G
noncomputable section
open Go Go.PI Go.Proofs
open Go.Code (pl pr)
def j0p (d:List qC) (f:List qC) (g:Int) (b:Int) (rec:Int->Res) (h:Unit->Res) (i:Unit->Res):Res:=bif decide (b<g) then bif inb b (List.length d) then bif inb b (List.length f) then bif !((sEq (nth (eS,0,false,false,0,0,eS) d b).1 (nth (eS,0,false,false,0,0,eS) f b).1)&&(((nth (eS,0,false,false,0,0,eS) d b).2.1==(nth (eS,0,false,false,0,0,eS) f b).2.1)&&(((nth (eS,0,false,false,0,0,eS) d b).2.2.1==(nth (eS,0,false,false,0,0,eS) f b).2.2.1)&&(((nth (eS,0,false,false,0,0,eS) d b).2.2.2.1==(nth (eS,0,false,false,0,0,eS) f b).2.2.2.1)&&(((nth (eS,0,false,false,0,0,eS) d b).2.2.2.2.1==(nth (eS,0,false,false,0,0,eS) f b).2.2.2.2.1)&&(((nth (eS,0,false,false,0,0,eS) d b).2.2.2.2.2.1==(nth (eS,0,false,false,0,0,eS) f b).2.2.2.2.2.1)&&(sEq (nth (eS,0,false,false,0,0,eS) d b).2.2.2.2.2.2 (nth (eS,0,false,false,0,0,eS) f b).2.2.2.2.2.2))))))) then i () else rec (Z9K (b+1)) else none else none else h ()
def j3p (f:List qC) (g:List qC) (b:Int):Int->(Int->Res)->((Unit->Res)×(Unit->Res))->Res:=λv rec q=>j0p f g b v (λd=>rec (d)) q.1 q.2
def j5a (h:List qC) (i:List qC) (b:Int) (n:Nat) (d:Int) (f:Unit->Res) (g:Unit->Res):Res:=Z1f (j3p h i b) n (d) (f,g)
def jbJ:Z1d Unit:=NdL 26 26 [.R 0 y8 .S,.R 1 y8 .S,.I 12,.I 13] [] (λb d=>(b.2.2.2.1)) (λb v=>(b.1,b.2.1,b.2.2.1,v,())) (λd v=>()) (λb d=>j3p b.1 b.2.1 b.2.2.1) λb d f=>((λ_=>f (.exit 0) [] []),(λ_=>f .ret [(4,vB false)] []))
theorem jhh:CN 0 58 Tryz.f256 jbJ:=lK Zas [] oN ([],[]) [(0,[],[])] ([4],[]) λ_ _ _ _ _=>by kernel_rfl
def j0v (d:List qC) (f:List qC) (b:Bool->Res):Res:=bif ((nI (List.length d)) != (nI (List.length f))) then b false else j5a d f (nI (List.length d)) Z1c 0 (λ_=>b true) (λ_=>b false)
def j8P:Sig Unit:=sg [.look y8 false,.look y8 false] [false] [(y8,none),(y8,none)] [] λb f k=>j0v b.1 b.2.1 (λd=>k [wB d] [] [])
theorem jcM:SO 256 j8P:=fK (np:=0) Zas [jbJ] (oI 58 0 @jhh oN) false Tryz.func256 λ_ _ _ _=>by kernel_rfl
def j1a (f:qL) (g:qL) (d:Int) (b:Int) (rec:Int->Res) (h:Unit->Res) (i:Unit->Res):Res:=bif decide (b<d) then bif inb b (List.length f) then bif inb b (List.length g) then bif sNe (nth eS f b) (nth eS g b) then i () else rec (Z9K (b+1)) else none else none else h ()
def j4P (f:qL) (g:qL) (b:Int):Int->(Int->Res)->((Unit->Res)×(Unit->Res))->Res:=λv rec q=>j1a f g b v (λd=>rec (d)) q.1 q.2
def j66 (h:qL) (i:qL) (b:Int) (n:Nat) (d:Int) (f:Unit->Res) (g:Unit->Res):Res:=Z1f (j4P h i b) n (d) (f,g)
def j9x:Z1d Unit:=NdL 26 26 [.R 0 y0 .S,.R 1 y0 .S,.I 12,.I 13] [] (λb d=>(b.2.2.2.1)) (λb v=>(b.1,b.2.1,b.2.2.1,v,())) (λd v=>()) (λb d=>j4P b.1 b.2.1 b.2.2.1) λb d f=>((λ_=>f (.exit 0) [] []),(λ_=>f .ret [(4,vB false)] []))
theorem jf9:CN 0 58 Tryz.f257 j9x:=lK Zas [] oN ([],[]) [(0,[],[])] ([4],[]) λ_ _ _ _ _=>by kernel_rfl
def j0x (d:qL) (f:qL) (b:Bool->Res):Res:=bif ((nI (List.length d)) != (nI (List.length f))) then b false else j66 d f (nI (List.length d)) Z1c 0 (λ_=>b true) (λ_=>b false)
def j6S:Sig Unit:=sg [.look y0 false,.look y0 false] [false] [(y0,none),(y0,none)] [] λb f k=>j0x b.1 b.2.1 (λd=>k [wB d] [] [])
theorem jaK:SO 257 j6S:=fK (np:=0) Zas [j9x] (oI 58 0 @jf9 oN) false Tryz.func257 λ_ _ _ _=>by kernel_rfl
def j0j (s:qL) (h:qB) (g:Int) (b:Int) (rec:Int->Res) (d:Unit->Res) (f:Int->Res):Res:=bif decide (b<g) then bif inb b (List.length s) then bif sEq h (nth eS s b) then f b else rec (Z9K (b+1)) else none else d ()
def j28 (s:qL) (f:qB) (b:Int):Int->(Int->Res)->((Unit->Res)×(Int->Res))->Res:=λv rec q=>j0j s f b v (λd=>rec (d)) q.1 q.2
def j68 (s:qL) (h:qB) (f:Int) (n:Nat) (g:Int) (b:Unit->Res) (d:Int->Res):Res:=Z1f (j28 s h f) n (g) (b,d)
def j9y:Z1d Unit:=NdL 19 19 [.R 0 y0 .S,.S 1,.I 7,.I 8] [] (λb d=>(b.2.2.2.1)) (λb v=>(b.1,b.2.1,b.2.2.1,v,())) (λd v=>()) (λb d=>j28 b.1 b.2.1 b.2.2.1) λb d f=>((λ_=>f (.exit 0) [] []),(λg=>f .ret [(4,vI g)] []))
theorem jfa:CN 0 26 Tryz.f166 j9y:=lK Zas [] oN ([],[]) [(0,[],[])] ([4],[]) λ_ _ _ _ _=>by kernel_rfl
def j10 (s:qL) (d:qB) (b:Int->Res):Res:=j68 s d (nI (List.length s)) Z1c 0 (λ_=>b (-1)) (λt=>b t)
def j6T:Sig Unit:=sg [.look y0 false,.look .str false] [false] [(y0,none),(.str,none)] [] λb f k=>j10 b.1 b.2.1 (λd=>k [wI d] [] [])
theorem jaL:SO 166 j6T:=fK (np:=0) Zas [j9y] (oI 26 0 @jfa oN) false Tryz.func166 λ_ _ _ _=>by kernel_rfl
def j1B (s:qL) (d:qB) (b:Bool->Res):Res:=j10 s d λr=>b (decide (r>=0))
def j4L:Sig Unit:=sg [.look y0 false,.look .str false] [false] [(y0,none),(.str,none)] [] λb f k=>j1B b.1 b.2.1 (λd=>k [wB d] [] [])
theorem jej:SO 95 j4L:=fK (np:=0) (Za6 jaL Zas) [] oN false Tryz.func95 λ_ _ _ _=>by kernel_rfl
def j5b (s:List qT) (i:Int) (v:List qT) (b:qF->Res):Res:=bif jks i (List.length s) (List.length v) then b (jg0 s i v) else none
def j6U:Sig Unit:=⟨[.eat y11 false,.borrow tI false,.eat y11 false],[false],λvals ext k=>ao vals y11 [.O] λs vals=>av vals tI λi vals=>ao vals y11 [.O] λv vals=>nl vals<|nl ext<|j5b s i v (λb=>k [w1 y11 b .O] [] [])⟩
theorem jgq:Z17 Tryz.prog 318 j6U:=gS (joL (U:=0) (fr:=328) (e:=y10) (fl:=[9,116,22]) (S:=91) (E:=162) (I:=3) (B:=4) follows j4e (by kernel_rfl) Tryz.underlying91 (by kernel_rfl) (by kernel_rfl) (by kernel_rfl) (by kernel_rfl) (by kernel_rfl) Tryz.func318 (by kernel_rfl) (by kernel_rfl) (by kernel_rfl) (by kernel_rfl) Tryz.func327 (by kernel_rfl) (by kernel_rfl) (by kernel_rfl) (by kernel_rfl)) (by kernel_rfl)
def j59 (s:List qT) (i:Int) (j:Int) (b:qF->Res):Res:=bif Z8e i j (List.length s) then b (jc2 s i j) else none
def j6R:Sig Unit:=⟨[.eat y11 false,.borrow tI false,.borrow tI false],[false],λvals ext k=>ao vals y11 [.O] λs vals=>av vals tI λi vals=>av vals tI λj vals=>nl vals<|nl ext<|j59 s i j (λb=>k [w1 y11 b .O] [] [])⟩
theorem jgp:Z17 Tryz.prog 319 j6R:=gS (jlj (U:=0) (e:=y10) (fl:=[9,116,22]) (S:=91) (E:=162) (I:=3) (B:=4) follows j4e (by kernel_rfl) Tryz.underlying91 (by kernel_rfl) (by kernel_rfl) (by kernel_rfl) Tryz.func319 (by kernel_rfl) (by kernel_rfl) (by kernel_rfl) (by kernel_rfl)) (by kernel_rfl)
def j1X (s:List qR) (i:Int) (v:List qR) (b:qX->Res):Res:=bif jks i (List.length s) (List.length v) then b (jg0 s i v) else none
def j7n:Sig Unit:=⟨[.eat y13 false,.borrow tI false,.eat y13 false],[false],λvals ext k=>ao vals y13 [.O] λs vals=>av vals tI λi vals=>ao vals y13 [.O] λv vals=>nl vals<|nl ext<|j1X s i v (λb=>k [w1 y13 b .O] [] [])⟩
theorem jh2:Z17 Tryz.prog 296 j7n:=gS (joL (U:=0) (fr:=323) (e:=y12) (fl:=[163]) (S:=94) (E:=165) (I:=3) (B:=4) follows j4e (by kernel_rfl) Tryz.underlying94 (by kernel_rfl) (by kernel_rfl) (by kernel_rfl) (by kernel_rfl) (by kernel_rfl) Tryz.func296 (by kernel_rfl) (by kernel_rfl) (by kernel_rfl) (by kernel_rfl) Tryz.func322 (by kernel_rfl) (by kernel_rfl) (by kernel_rfl) (by kernel_rfl)) (by kernel_rfl)
def j5K (s:List qR) (i:Int) (j:Int) (b:qX->Res):Res:=bif Z8e i j (List.length s) then b (jc2 s i j) else none
def j7m:Sig Unit:=⟨[.eat y13 false,.borrow tI false,.borrow tI false],[false],λvals ext k=>ao vals y13 [.O] λs vals=>av vals tI λi vals=>av vals tI λj vals=>nl vals<|nl ext<|j5K s i j (λb=>k [w1 y13 b .O] [] [])⟩
theorem jh1:Z17 Tryz.prog 297 j7m:=gS (jlj (U:=0) (e:=y12) (fl:=[163]) (S:=94) (E:=165) (I:=3) (B:=4) follows j4e (by kernel_rfl) Tryz.underlying94 (by kernel_rfl) (by kernel_rfl) (by kernel_rfl) Tryz.func297 (by kernel_rfl) (by kernel_rfl) (by kernel_rfl) (by kernel_rfl)) (by kernel_rfl)
def j9G (s:List qV) (i:Int) (j:Int) (b:qW->Res):Res:=bif Z8e i j (List.length s) then b (jc2 s i j) else none
def jbV:Sig Unit:=⟨[.eat y3 false,.borrow tI false,.borrow tI false],[false],λvals ext k=>ao vals y3 [.O] λs vals=>av vals tI λi vals=>av vals tI λj vals=>nl vals<|nl ext<|j9G s i j (λb=>k [w1 y3 b .O] [] [])⟩
theorem ji4:Z17 Tryz.prog 324 jbV:=gS (jlj (U:=0) (e:=y2) (fl:=[3,3,9]) (S:=52) (E:=151) (I:=3) (B:=4) follows j4e (by kernel_rfl) Tryz.underlying52 (by kernel_rfl) (by kernel_rfl) (by kernel_rfl) Tryz.func324 (by kernel_rfl) (by kernel_rfl) (by kernel_rfl) (by kernel_rfl)) (by kernel_rfl)
def j1W (d:List qV) (f:List qV) (g:Int) (b:Int) (rec:Int->Res) (h:Unit->Res) (i:Unit->Res):Res:=bif decide (b<g) then bif inb b (List.length d) then bif inb b (List.length f) then bif !(((nth (0,0,eS) d b).1==(nth (0,0,eS) f b).1)&&(((nth (0,0,eS) d b).2.1==(nth (0,0,eS) f b).2.1)&&(sEq (nth (0,0,eS) d b).2.2 (nth (0,0,eS) f b).2.2))) then i () else rec (Z9K (b+1)) else none else none else h ()
def j6Z (f:List qV) (g:List qV) (b:Int):Int->(Int->Res)->((Unit->Res)×(Unit->Res))->Res:=λv rec q=>j1W f g b v (λd=>rec (d)) q.1 q.2
def jbW (h:List qV) (i:List qV) (b:Int) (n:Nat) (d:Int) (f:Unit->Res) (g:Unit->Res):Res:=Z1f (j6Z h i b) n (d) (f,g)
def jbK:Z1d Unit:=NdL 26 26 [.R 0 y3 .S,.R 1 y3 .S,.I 12,.I 13] [] (λb d=>(b.2.2.2.1)) (λb v=>(b.1,b.2.1,b.2.2.1,v,())) (λd v=>()) (λb d=>j6Z b.1 b.2.1 b.2.2.1) λb d f=>((λ_=>f (.exit 0) [] []),(λ_=>f .ret [(4,vB false)] []))
theorem jhi:CN 0 58 Tryz.f128 jbK:=lK Zas [] oN ([],[]) [(0,[],[])] ([4],[]) λ_ _ _ _ _=>by kernel_rfl
def j0P (d:List qV) (f:List qV) (b:Bool->Res):Res:=bif ((nI (List.length d)) != (nI (List.length f))) then b false else jbW d f (nI (List.length d)) Z1c 0 (λ_=>b true) (λ_=>b false)
def j1V:Sig Unit:=sg [.look y3 false,.look y3 false] [false] [(y3,none),(y3,none)] [] λb f k=>j0P b.1 b.2.1 (λd=>k [wB d] [] [])
theorem j8o:SO 128 j1V:=fK (np:=0) Zas [jbK] (oI 58 0 @jhi oN) false Tryz.func128 λ_ _ _ _=>by kernel_rfl
def j6e (s:List qW) (i:Int) (v:List qW) (b:qR->Res):Res:=bif jks i (List.length s) (List.length v) then b (jg0 s i v) else none
def j80:Sig Unit:=⟨[.eat y12 false,.borrow tI false,.eat y12 false],[false],λvals ext k=>ao vals y12 [.O] λs vals=>av vals tI λi vals=>ao vals y12 [.O] λv vals=>nl vals<|nl ext<|j6e s i v (λb=>k [w1 y12 b .O] [] [])⟩
theorem ji5:Z17 Tryz.prog 325 j80:=gS (joL (U:=0) (fr:=331) (e:=y3) (fl:=[52]) (S:=163) (E:=61) (I:=3) (B:=4) follows j4e (by kernel_rfl) Tryz.underlying163 (by kernel_rfl) (by kernel_rfl) (by kernel_rfl) (by kernel_rfl) (by kernel_rfl) Tryz.func325 (by kernel_rfl) (by kernel_rfl) (by kernel_rfl) (by kernel_rfl) Tryz.func330 (by kernel_rfl) (by kernel_rfl) (by kernel_rfl) (by kernel_rfl)) (by kernel_rfl)
def j0Y (s:List qW) (i:Int) (j:Int) (b:qR->Res):Res:=bif Z8e i j (List.length s) then b (jc2 s i j) else none
def j58:Sig Unit:=⟨[.eat y12 false,.borrow tI false,.borrow tI false],[false],λvals ext k=>ao vals y12 [.O] λs vals=>av vals tI λi vals=>av vals tI λj vals=>nl vals<|nl ext<|j0Y s i j (λb=>k [w1 y12 b .O] [] [])⟩
theorem jbQ:Z17 Tryz.prog 301 j58:=gS (jlj (U:=0) (e:=y3) (fl:=[52]) (S:=163) (E:=61) (I:=3) (B:=4) follows j4e (by kernel_rfl) Tryz.underlying163 (by kernel_rfl) (by kernel_rfl) (by kernel_rfl) Tryz.func301 (by kernel_rfl) (by kernel_rfl) (by kernel_rfl) (by kernel_rfl)) (by kernel_rfl)
end
end Go.PI.G
namespace Go.PI.G
noncomputable section
open Go Go.PI Go.Proofs
open Go.Code (pl pr)
def j4U (s:qB) (i:Int) (rec:Int->Res) (d:Unit->Res) (b:Unit->Res):Res:=bif decide (i<(nI (ByteArray.size s))) then bif inb i (ByteArray.size s) then bif decide ((bt s i)<97) then b () else bif inb i (ByteArray.size s) then bif decide ((bt s i)>122) then b () else rec (Z9K (i+1)) else none else none else d ()
def jaw (s:qB):Int->(Int->Res)->((Unit->Res)×(Unit->Res))->Res:=λv rec q=>j4U s v (λi=>rec (i)) q.1 q.2
def jgP (s:qB) (n:Nat) (i:Int) (b:Unit->Res) (d:Unit->Res):Res:=Z1f (jaw s) n (i) (b,d)
def jfO:Z1d Unit:=NdL 28 28 [.S 0,.I 3] [] (λb d=>(b.2.1)) (λb v=>(b.1,v,())) (λd v=>()) (λb d=>jaw b.1) λb d f=>((λ_=>f (.exit 0) [(0,vS b.1)] []),(λ_=>f .ret [(2,vB false)] []))
theorem jlL:CN 0 26 Tryz.f154 jfO:=lK Zas [] oN ([],[]) [(0,[0],[])] ([2],[]) λ_ _ _ _ _=>by kernel_rfl
def j0M (s:qB) (b:Bool->Res):Res:=jgP s Z1c 0 (λ_=>bif decide ((nI (ByteArray.size s))>=1) then b (decide ((nI (ByteArray.size s))<=8)) else b false) (λ_=>b false)
def j3z:Sig Unit:=sg [.look .str false] [false] [(.str,none)] [] λd f k=>j0M d.1 (λb=>k [wB b] [] [])
theorem ja6:SO 154 j3z:=fK (np:=0) Zas [jfO] (oI 26 0 @jlL oN) false Tryz.func154 λ_ _ _ _=>by kernel_rfl
def jgb (d:Int) (b:Bool->Res):Res:=bif decide (d>=(-1099511627775)) then b (decide (d<=1099511627775)) else b false
def job:Sig Unit:=sg [.look tI false] [false] [(tI,none)] [] λd f k=>jgb d.1 (λb=>k [wB b] [] [])
theorem jnH:SO 180 job:=fK (np:=0) Zas [] oN false Tryz.func180 λ_ _ _ _=>by kernel_rfl
def j1H (b:Int×Int×qB) (d:Bool->Res):Res:=bif (b.1==0) then bif (b.2.1==0) then d (sEq b.2.2 eS) else d false else bif (b.1==1) then bif (b.2.1==0) then d (sEq b.2.2 eS) else bif (b.2.1==1) then d (sEq b.2.2 eS) else d false else bif (b.1==2) then jgb b.2.1 λr=>bif r then d (sEq b.2.2 eS) else d false else bif (b.1==3) then bif (b.2.1==0) then d (decide ((nI (ByteArray.size b.2.2))<=30)) else d false else d false
def jbq:Sig Unit:=sg [.look y2 true] [false] [(y2,none)] [] λd f k=>j1H d.1 (λb=>k [wB b] [] [])
theorem j8p:SO 266 jbq:=fK (np:=0) (Za6 jnH Zas) [] oN false Tryz.func266 λ_ _ _ _=>by kernel_rfl
def j8W (a:Int×Int×qB) (b:Int×Int×qB) (d:Bool->Res):Res:=j1H a λr=>bif !r then d false else j1H b λf=>bif !f then d false else bif (a.1 != b.1) then d (decide (a.1<b.1)) else bif decide (a.2.1<b.2.1) then d true else bif (a.2.1==b.2.1) then d (sLt a.2.2 b.2.2) else d false
def jmV:Sig Unit:=sg [.look y2 true,.look y2 true] [false] [(y2,none),(y2,none)] [] λb f k=>j8W b.1 b.2.1 (λd=>k [wB d] [] [])
theorem jgs:SO 282 jmV:=fK (np:=0) (Za6 j8p Zas) [] oN false Tryz.func282 λ_ _ _ _=>by delta j8W jbq;refine gz j1H λ_ b=> ?_;rewrite [<-b];kernel_rfl
def j0A (x:Int) (f:Int) (d:Int) (b:Bool->Res):Res:=bif decide (x>=f) then b (decide (x<=d)) else b false
def j3y:Sig Unit:=sg [.look tI false,.look tI false,.look tI false] [false] [(tI,none),(tI,none),(tI,none)] [] λb f k=>j0A b.1 b.2.1 b.2.2.1 (λd=>k [wB d] [] [])
theorem j5i:SO 163 j3y:=fK (np:=0) Zas [] oN false Tryz.func163 λ_ _ _ _=>by kernel_rfl
def j4s (s:qB) (i:Int) (rec:Int->Res) (d:Unit->Res) (b:Unit->Res):Res:=bif decide (i<(nI (ByteArray.size s))) then bif inb i (ByteArray.size s) then bif decide ((bt s i)<97) then b () else bif inb i (ByteArray.size s) then bif decide ((bt s i)>122) then b () else rec (Z9K (i+1)) else none else none else d ()
def j7g (s:qB):Int->(Int->Res)->((Unit->Res)×(Unit->Res))->Res:=λv rec q=>j4s s v (λi=>rec (i)) q.1 q.2
def jc7 (s:qB) (n:Nat) (i:Int) (b:Unit->Res) (d:Unit->Res):Res:=Z1f (j7g s) n (i) (b,d)
def jbE:Z1d Unit:=NdL 23 23 [.S 0,.I 3] [] (λb d=>(b.2.1)) (λb v=>(b.1,v,())) (λd v=>()) (λb d=>j7g b.1) λb d f=>((λ_=>f (.exit 0) [(0,vS b.1)] []),(λ_=>f .ret [(2,vB false)] []))
theorem jlx:CN 0 26 Tryz.f160 jbE:=lK (Za6 j5i Zas) [] oN ([],[]) [(0,[0],[])] ([2],[]) λ_ _ _ _ _=>by kernel_rfl
def j0F (s:qB) (b:Bool->Res):Res:=jc7 s Z1c 0 (λ_=>j0A (nI (ByteArray.size s)) 1 8 λr=>b r) (λ_=>b false)
def j3w:Sig Unit:=sg [.look .str false] [false] [(.str,none)] [] λd f k=>j0F d.1 (λb=>k [wB b] [] [])
theorem ja5:SO 160 j3w:=fK (np:=0) (Za6 j5i Zas) [jbE] (oI 26 0 @jlx oN) false Tryz.func160 λ_ _ _ _=>by delta j0F jbE j3y jc7;refine gz j7g λ_ b=>gz j0A λ_ d=> ?_;rewrite [<-b,<-d];kernel_rfl
def j1h (b:Int×Int×qB) (d:Bool->Res):Res:=bif (b.1==0) then d ((b.1==0)&&((b.2.1==0)&&(sEq b.2.2 eS))) else bif (b.1==1) then j0A b.2.1 0 1 λr=>bif r then d (sEq b.2.2 eS) else d false else bif (b.1==2) then j0A b.2.1 (-1099511627775) 1099511627775 λf=>bif f then d (sEq b.2.2 eS) else d false else bif (b.1==3) then bif (b.2.1==0) then d (decide ((nI (ByteArray.size b.2.2))<=30)) else d false else d false
def j8N:Sig Unit:=sg [.look y2 true] [false] [(y2,none)] [] λd f k=>j1h d.1 (λb=>k [wB b] [] [])
theorem j8n:SO 273 j8N:=fK (np:=0) (Za6 j5i Zas) [] oN false Tryz.func273 λ_ _ _ _=>by delta j1h j3y;refine gz j0A λ_ b=> ?_;rewrite [<-b];kernel_rfl
def j8w (a:Int×Int×qB) (b:Int×Int×qB) (d:Bool->Res):Res:=j1h a λr=>bif !r then d false else j1h b λf=>bif !f then d false else bif (a.1 != b.1) then d (decide (a.1<b.1)) else bif (a.2.1 != b.2.1) then d (decide (a.2.1<b.2.1)) else d (sLt a.2.2 b.2.2)
def jmR:Sig Unit:=sg [.look y2 true,.look y2 true] [false] [(y2,none),(y2,none)] [] λb f k=>j8w b.1 b.2.1 (λd=>k [wB d] [] [])
theorem jgj:SO 316 jmR:=fK (np:=0) (Za6 j8n Zas) [] oN false Tryz.func316 λ_ _ _ _=>by delta j8w j8N;refine gz j1h λ_ b=> ?_;rewrite [<-b];kernel_rfl
end
end Go.PI.G
