/-
  Program's code interpreted over typed values; printed texts; plain laws. No conditions.
-/
import Derived.Test.YtnemiodjnhfejaaGreatSPd
set_option linter.unusedVariables false
set_option maxRecDepth 100000
namespace Go.PI.G
noncomputable section
open Go Go.PI Go.Proofs
open Go.Code (pl pr)
def j1f (d:List qC) (f:List qC) (g:Int) (b:Int) (rec:Int->Res) (h:Unit->Res) (i:Unit->Res):Res:=bif decide (b<g) then bif inb b (List.length d) then bif inb b (List.length f) then bif !((sEq (nth (eS,0,false,false,0,0,eS) d b).1 (nth (eS,0,false,false,0,0,eS) f b).1)&&(((nth (eS,0,false,false,0,0,eS) d b).2.1==(nth (eS,0,false,false,0,0,eS) f b).2.1)&&(((nth (eS,0,false,false,0,0,eS) d b).2.2.1==(nth (eS,0,false,false,0,0,eS) f b).2.2.1)&&(((nth (eS,0,false,false,0,0,eS) d b).2.2.2.1==(nth (eS,0,false,false,0,0,eS) f b).2.2.2.1)&&(((nth (eS,0,false,false,0,0,eS) d b).2.2.2.2.1==(nth (eS,0,false,false,0,0,eS) f b).2.2.2.2.1)&&(((nth (eS,0,false,false,0,0,eS) d b).2.2.2.2.2.1==(nth (eS,0,false,false,0,0,eS) f b).2.2.2.2.2.1)&&(sEq (nth (eS,0,false,false,0,0,eS) d b).2.2.2.2.2.2 (nth (eS,0,false,false,0,0,eS) f b).2.2.2.2.2.2))))))) then i () else rec (Z9x (b+1)) else none else none else h ()
def j5o (f:List qC) (g:List qC) (b:Int):Int->(Int->Res)->((Unit->Res)×(Unit->Res))->Res:=λv rec q=>j1f f g b v (λd=>rec (d)) q.1 q.2
def j6p (h:List qC) (i:List qC) (b:Int) (n:Nat) (d:Int) (f:Unit->Res) (g:Unit->Res):Res:=Z1N (j5o h i b) n (d) (f,g)
def j9H:Z1q Unit:=NdL 26 26 [.R 0 y8 .S,.R 1 y8 .S,.I 12,.I 13] [] (λb d=>(b.2.2.2.1)) (λb v=>(b.1,b.2.1,b.2.2.1,v,())) (λd v=>()) (λb d=>j5o b.1 b.2.1 b.2.2.1) λb d f=>((λ_=>f (.exit 0) [] []),(λ_=>f .ret [(4,vB false)] []))
theorem jez:CN 0 58 Tryz.f256 j9H:=lK Za2 [] oN ([],[]) [(0,[],[])] ([4],[]) λ_ _ _ _ _=>by kernel_rfl
def j1b (d:List qC) (f:List qC) (b:Bool->Res):Res:=bif ((nI (List.length d)) != (nI (List.length f))) then b false else j6p d f (nI (List.length d)) Z1Y 0 (λ_=>b true) (λ_=>b false)
def jaK:Sig Unit:=sg [.look y8 false,.look y8 false] [false] [(y8,none),(y8,none)] [] λb f k=>j1b b.1 b.2.1 (λd=>k [wB d] [] [])
theorem jfI:SO 256 jaK:=fK (np:=0) Za2 [j9H] (oI 58 0 @jez oN) false Tryz.func256 λ_ _ _ _=>by kernel_rfl
def jch (f:qL) (g:qL) (d:Int) (b:Int) (rec:Int->Res) (h:Unit->Res) (i:Unit->Res):Res:=bif decide (b<d) then bif inb b (List.length f) then bif inb b (List.length g) then bif sNe (nth eS f b) (nth eS g b) then i () else rec (Z9x (b+1)) else none else none else h ()
def j70 (f:qL) (g:qL) (b:Int):Int->(Int->Res)->((Unit->Res)×(Unit->Res))->Res:=λv rec q=>jch f g b v (λd=>rec (d)) q.1 q.2
def j83 (h:qL) (i:qL) (b:Int) (n:Nat) (d:Int) (f:Unit->Res) (g:Unit->Res):Res:=Z1N (j70 h i b) n (d) (f,g)
def j7z:Z1q Unit:=NdL 26 26 [.R 0 y0 .S,.R 1 y0 .S,.I 12,.I 13] [] (λb d=>(b.2.2.2.1)) (λb v=>(b.1,b.2.1,b.2.2.1,v,())) (λd v=>()) (λb d=>j70 b.1 b.2.1 b.2.2.1) λb d f=>((λ_=>f (.exit 0) [] []),(λ_=>f .ret [(4,vB false)] []))
theorem jcw:CN 0 58 Tryz.f257 j7z:=lK Za2 [] oN ([],[]) [(0,[],[])] ([4],[]) λ_ _ _ _ _=>by kernel_rfl
def j1K (d:qL) (f:qL) (b:Bool->Res):Res:=bif ((nI (List.length d)) != (nI (List.length f))) then b false else j83 d f (nI (List.length d)) Z1Y 0 (λ_=>b true) (λ_=>b false)
def j8T:Sig Unit:=sg [.look y0 false,.look y0 false] [false] [(y0,none),(y0,none)] [] λb f k=>j1K b.1 b.2.1 (λd=>k [wB d] [] [])
theorem jdM:SO 257 j8T:=fK (np:=0) Za2 [j7z] (oI 58 0 @jcw oN) false Tryz.func257 λ_ _ _ _=>by kernel_rfl
def j1h (s:List Int) (h:Int) (g:Int) (b:Int) (rec:Int->Res) (d:Unit->Res) (f:Int->Res):Res:=bif decide (b<g) then bif inb b (List.length s) then bif (h==(nth 0 s b)) then f b else rec (Z9x (b+1)) else none else d ()
def j5q (s:List Int) (f:Int) (b:Int):Int->(Int->Res)->((Unit->Res)×(Int->Res))->Res:=λv rec q=>j1h s f b v (λd=>rec (d)) q.1 q.2
def j9U (s:List Int) (h:Int) (f:Int) (n:Nat) (g:Int) (b:Unit->Res) (d:Int->Res):Res:=Z1N (j5q s h f) n (g) (b,d)
def j9J:Z1q Unit:=NdL 19 19 [.R 0 y21 .S,.I 1,.I 7,.I 8] [] (λb d=>(b.2.2.2.1)) (λb v=>(b.1,b.2.1,b.2.2.1,v,())) (λd v=>()) (λb d=>j5q b.1 b.2.1 b.2.2.1) λb d f=>((λ_=>f (.exit 0) [] []),(λg=>f .ret [(4,vI g)] []))
theorem jeB:CN 0 26 Tryz.f279 j9J:=lK Za2 [] oN ([],[]) [(0,[],[])] ([4],[]) λ_ _ _ _ _=>by kernel_rfl
def j8u (s:List Int) (d:Int) (b:Int->Res):Res:=j9U s d (nI (List.length s)) Z1Y 0 (λ_=>b (-1)) (λt=>b t)
def jgh:Sig Unit:=sg [.look y21 false,.look tI false] [false] [(y21,none),(tI,none)] [] λb f k=>j8u b.1 b.2.1 (λd=>k [wI d] [] [])
theorem jfJ:SO 279 jgh:=fK (np:=0) Za2 [j9J] (oI 26 0 @jeB oN) false Tryz.func279 λ_ _ _ _=>by kernel_rfl
def j0X (s:List Int) (d:Int) (b:Bool->Res):Res:=j8u s d λr=>b (decide (r>=0))
def j5g:Sig Unit:=sg [.look y21 false,.look tI false] [false] [(y21,none),(tI,none)] [] λb f k=>j0X b.1 b.2.1 (λd=>k [wB d] [] [])
theorem jdK:SO 223 j5g:=fK (np:=0) (Z9H jfJ Za2) [] oN false Tryz.func223 λ_ _ _ _=>by kernel_rfl
def j0c (s:qL) (h:qB) (g:Int) (b:Int) (rec:Int->Res) (d:Unit->Res) (f:Int->Res):Res:=bif decide (b<g) then bif inb b (List.length s) then bif sEq h (nth eS s b) then f b else rec (Z9x (b+1)) else none else d ()
def j1p (s:qL) (f:qB) (b:Int):Int->(Int->Res)->((Unit->Res)×(Int->Res))->Res:=λv rec q=>j0c s f b v (λd=>rec (d)) q.1 q.2
def j4x (s:qL) (h:qB) (f:Int) (n:Nat) (g:Int) (b:Unit->Res) (d:Int->Res):Res:=Z1N (j1p s h f) n (g) (b,d)
def j7A:Z1q Unit:=NdL 19 19 [.R 0 y0 .S,.S 1,.I 7,.I 8] [] (λb d=>(b.2.2.2.1)) (λb v=>(b.1,b.2.1,b.2.2.1,v,())) (λd v=>()) (λb d=>j1p b.1 b.2.1 b.2.2.1) λb d f=>((λ_=>f (.exit 0) [] []),(λg=>f .ret [(4,vI g)] []))
theorem jcx:CN 0 26 Tryz.f166 j7A:=lK Za2 [] oN ([],[]) [(0,[],[])] ([4],[]) λ_ _ _ _ _=>by kernel_rfl
def j0H (s:qL) (d:qB) (b:Int->Res):Res:=j4x s d (nI (List.length s)) Z1Y 0 (λ_=>b (-1)) (λt=>b t)
def j5i:Sig Unit:=sg [.look y0 false,.look .str false] [false] [(y0,none),(.str,none)] [] λb f k=>j0H b.1 b.2.1 (λd=>k [wI d] [] [])
theorem j8N:SO 166 j5i:=fK (np:=0) Za2 [j7A] (oI 26 0 @jcx oN) false Tryz.func166 λ_ _ _ _=>by kernel_rfl
def j14 (s:qL) (d:qB) (b:Bool->Res):Res:=j0H s d λr=>b (decide (r>=0))
def j3r:Sig Unit:=sg [.look y0 false,.look .str false] [false] [(y0,none),(.str,none)] [] λb f k=>j14 b.1 b.2.1 (λd=>k [wB d] [] [])
theorem jbL:SO 95 j3r:=fK (np:=0) (Z9H j8N Za2) [] oN false Tryz.func95 λ_ _ _ _=>by kernel_rfl
def j3O (s:List qT) (i:Int) (v:List qT) (b:qF->Res):Res:=bif jhd i (List.length s) (List.length v) then b (jdp s i v) else none
def j5j:Sig Unit:=⟨[.eat y25 false,.borrow tI false,.eat y25 false],[false],λvals ext k=>ao vals y25 [.O] λs vals=>av vals tI λi vals=>ao vals y25 [.O] λv vals=>nl vals<|nl ext<|j3O s i v (λb=>k [w1 y25 b .O] [] [])⟩
theorem jdN:Z1d Tryz.prog 318 j5j:=gS (jlE (U:=0) (fr:=328) (e:=y24) (fl:=[9,116,22]) (S:=91) (E:=162) (I:=3) (B:=4) follows j2m (by kernel_rfl) Tryz.underlying91 (by kernel_rfl) (by kernel_rfl) (by kernel_rfl) (by kernel_rfl) (by kernel_rfl) Tryz.func318 (by kernel_rfl) (by kernel_rfl) (by kernel_rfl) (by kernel_rfl) Tryz.func327 (by kernel_rfl) (by kernel_rfl) (by kernel_rfl) (by kernel_rfl)) (by kernel_rfl)
def j3N (s:List qT) (i:Int) (j:Int) (b:qF->Res):Res:=bif Z87 i j (List.length s) then b (j9Z s i j) else none
def j5h:Sig Unit:=⟨[.eat y25 false,.borrow tI false,.borrow tI false],[false],λvals ext k=>ao vals y25 [.O] λs vals=>av vals tI λi vals=>av vals tI λj vals=>nl vals<|nl ext<|j3N s i j (λb=>k [w1 y25 b .O] [] [])⟩
theorem jdL:Z1d Tryz.prog 319 j5h:=gS (ji1 (U:=0) (e:=y24) (fl:=[9,116,22]) (S:=91) (E:=162) (I:=3) (B:=4) follows j2m (by kernel_rfl) Tryz.underlying91 (by kernel_rfl) (by kernel_rfl) (by kernel_rfl) Tryz.func319 (by kernel_rfl) (by kernel_rfl) (by kernel_rfl) (by kernel_rfl)) (by kernel_rfl)
def j1i (s:List qR) (i:Int) (v:List qR) (b:qX->Res):Res:=bif jhd i (List.length s) (List.length v) then b (jdp s i v) else none
def j5L:Sig Unit:=⟨[.eat y27 false,.borrow tI false,.eat y27 false],[false],λvals ext k=>ao vals y27 [.O] λs vals=>av vals tI λi vals=>ao vals y27 [.O] λv vals=>nl vals<|nl ext<|j1i s i v (λb=>k [w1 y27 b .O] [] [])⟩
theorem jep:Z1d Tryz.prog 296 j5L:=gS (jlE (U:=0) (fr:=323) (e:=y26) (fl:=[163]) (S:=94) (E:=165) (I:=3) (B:=4) follows j2m (by kernel_rfl) Tryz.underlying94 (by kernel_rfl) (by kernel_rfl) (by kernel_rfl) (by kernel_rfl) (by kernel_rfl) Tryz.func296 (by kernel_rfl) (by kernel_rfl) (by kernel_rfl) (by kernel_rfl) Tryz.func322 (by kernel_rfl) (by kernel_rfl) (by kernel_rfl) (by kernel_rfl)) (by kernel_rfl)
def j4g (s:List qR) (i:Int) (j:Int) (b:qX->Res):Res:=bif Z87 i j (List.length s) then b (j9Z s i j) else none
def j5K:Sig Unit:=⟨[.eat y27 false,.borrow tI false,.borrow tI false],[false],λvals ext k=>ao vals y27 [.O] λs vals=>av vals tI λi vals=>av vals tI λj vals=>nl vals<|nl ext<|j4g s i j (λb=>k [w1 y27 b .O] [] [])⟩
theorem jeo:Z1d Tryz.prog 297 j5K:=gS (ji1 (U:=0) (e:=y26) (fl:=[163]) (S:=94) (E:=165) (I:=3) (B:=4) follows j2m (by kernel_rfl) Tryz.underlying94 (by kernel_rfl) (by kernel_rfl) (by kernel_rfl) Tryz.func297 (by kernel_rfl) (by kernel_rfl) (by kernel_rfl) (by kernel_rfl)) (by kernel_rfl)
def j7H (s:List qV) (i:Int) (j:Int) (b:qW->Res):Res:=bif Z87 i j (List.length s) then b (j9Z s i j) else none
def j9S:Sig Unit:=⟨[.eat y3 false,.borrow tI false,.borrow tI false],[false],λvals ext k=>ao vals y3 [.O] λs vals=>av vals tI λi vals=>av vals tI λj vals=>nl vals<|nl ext<|j7H s i j (λb=>k [w1 y3 b .O] [] [])⟩
theorem jfo:Z1d Tryz.prog 324 j9S:=gS (ji1 (U:=0) (e:=y2) (fl:=[3,3,9]) (S:=52) (E:=151) (I:=3) (B:=4) follows j2m (by kernel_rfl) Tryz.underlying52 (by kernel_rfl) (by kernel_rfl) (by kernel_rfl) Tryz.func324 (by kernel_rfl) (by kernel_rfl) (by kernel_rfl) (by kernel_rfl)) (by kernel_rfl)
def j1g (d:List qV) (f:List qV) (g:Int) (b:Int) (rec:Int->Res) (h:Unit->Res) (i:Unit->Res):Res:=bif decide (b<g) then bif inb b (List.length d) then bif inb b (List.length f) then bif !(((nth (0,0,eS) d b).1==(nth (0,0,eS) f b).1)&&(((nth (0,0,eS) d b).2.1==(nth (0,0,eS) f b).2.1)&&(sEq (nth (0,0,eS) d b).2.2 (nth (0,0,eS) f b).2.2))) then i () else rec (Z9x (b+1)) else none else none else h ()
def j5p (f:List qV) (g:List qV) (b:Int):Int->(Int->Res)->((Unit->Res)×(Unit->Res))->Res:=λv rec q=>j1g f g b v (λd=>rec (d)) q.1 q.2
def j9T (h:List qV) (i:List qV) (b:Int) (n:Nat) (d:Int) (f:Unit->Res) (g:Unit->Res):Res:=Z1N (j5p h i b) n (d) (f,g)
def j9I:Z1q Unit:=NdL 26 26 [.R 0 y3 .S,.R 1 y3 .S,.I 12,.I 13] [] (λb d=>(b.2.2.2.1)) (λb v=>(b.1,b.2.1,b.2.2.1,v,())) (λd v=>()) (λb d=>j5p b.1 b.2.1 b.2.2.1) λb d f=>((λ_=>f (.exit 0) [] []),(λ_=>f .ret [(4,vB false)] []))
theorem jeA:CN 0 58 Tryz.f128 j9I:=lK Za2 [] oN ([],[]) [(0,[],[])] ([4],[]) λ_ _ _ _ _=>by kernel_rfl
def j1c (d:List qV) (f:List qV) (b:Bool->Res):Res:=bif ((nI (List.length d)) != (nI (List.length f))) then b false else j9T d f (nI (List.length d)) Z1Y 0 (λ_=>b true) (λ_=>b false)
def j4e:Sig Unit:=sg [.look y3 false,.look y3 false] [false] [(y3,none),(y3,none)] [] λb f k=>j1c b.1 b.2.1 (λd=>k [wB d] [] [])
theorem jaE:SO 128 j4e:=fK (np:=0) Za2 [j9I] (oI 58 0 @jeA oN) false Tryz.func128 λ_ _ _ _=>by kernel_rfl
def j4D (s:List qW) (i:Int) (v:List qW) (b:qR->Res):Res:=bif jhd i (List.length s) (List.length v) then b (jdp s i v) else none
def j6o:Sig Unit:=⟨[.eat y26 false,.borrow tI false,.eat y26 false],[false],λvals ext k=>ao vals y26 [.O] λs vals=>av vals tI λi vals=>ao vals y26 [.O] λv vals=>nl vals<|nl ext<|j4D s i v (λb=>k [w1 y26 b .O] [] [])⟩
theorem jfp:Z1d Tryz.prog 325 j6o:=gS (jlE (U:=0) (fr:=331) (e:=y3) (fl:=[52]) (S:=163) (E:=61) (I:=3) (B:=4) follows j2m (by kernel_rfl) Tryz.underlying163 (by kernel_rfl) (by kernel_rfl) (by kernel_rfl) (by kernel_rfl) (by kernel_rfl) Tryz.func325 (by kernel_rfl) (by kernel_rfl) (by kernel_rfl) (by kernel_rfl) Tryz.func330 (by kernel_rfl) (by kernel_rfl) (by kernel_rfl) (by kernel_rfl)) (by kernel_rfl)
def j0G (s:List qW) (i:Int) (j:Int) (b:qR->Res):Res:=bif Z87 i j (List.length s) then b (j9Z s i j) else none
def j3M:Sig Unit:=⟨[.eat y26 false,.borrow tI false,.borrow tI false],[false],λvals ext k=>ao vals y26 [.O] λs vals=>av vals tI λi vals=>av vals tI λj vals=>nl vals<|nl ext<|j0G s i j (λb=>k [w1 y26 b .O] [] [])⟩
theorem j9P:Z1d Tryz.prog 301 j3M:=gS (ji1 (U:=0) (e:=y3) (fl:=[52]) (S:=163) (E:=61) (I:=3) (B:=4) follows j2m (by kernel_rfl) Tryz.underlying163 (by kernel_rfl) (by kernel_rfl) (by kernel_rfl) Tryz.func301 (by kernel_rfl) (by kernel_rfl) (by kernel_rfl) (by kernel_rfl)) (by kernel_rfl)
end
end Go.PI.G
