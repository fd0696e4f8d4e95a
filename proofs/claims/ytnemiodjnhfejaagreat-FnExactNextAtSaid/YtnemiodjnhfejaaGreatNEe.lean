/-
  Program's code interpreted over typed values; printed texts; plain laws. No conditions.
-/
import Derived.Test.YtnemiodjnhfejaaGreatNEd
set_option linter.unusedVariables false
set_option maxRecDepth 100000
namespace Go.PI.G
noncomputable section
open Go Go.PI Go.Proofs
open Go.Code (pl pr)
def j1e (d:List qC) (f:List qC) (g:Int) (b:Int) (rec:Int->Res) (h:Unit->Res) (i:Unit->Res):Res:=bif decide (b<g) then bif inb b (List.length d) then bif inb b (List.length f) then bif !((sEq (nth (eS,0,false,false,0,0,eS) d b).1 (nth (eS,0,false,false,0,0,eS) f b).1)&&(((nth (eS,0,false,false,0,0,eS) d b).2.1==(nth (eS,0,false,false,0,0,eS) f b).2.1)&&(((nth (eS,0,false,false,0,0,eS) d b).2.2.1==(nth (eS,0,false,false,0,0,eS) f b).2.2.1)&&(((nth (eS,0,false,false,0,0,eS) d b).2.2.2.1==(nth (eS,0,false,false,0,0,eS) f b).2.2.2.1)&&(((nth (eS,0,false,false,0,0,eS) d b).2.2.2.2.1==(nth (eS,0,false,false,0,0,eS) f b).2.2.2.2.1)&&(((nth (eS,0,false,false,0,0,eS) d b).2.2.2.2.2.1==(nth (eS,0,false,false,0,0,eS) f b).2.2.2.2.2.1)&&(sEq (nth (eS,0,false,false,0,0,eS) d b).2.2.2.2.2.2 (nth (eS,0,false,false,0,0,eS) f b).2.2.2.2.2.2))))))) then i () else rec (Z9K (b+1)) else none else none else h ()
def j5o (f:List qC) (g:List qC) (b:Int):Int->(Int->Res)->((Unit->Res)×(Unit->Res))->Res:=λv rec q=>j1e f g b v (λd=>rec (d)) q.1 q.2
def j6q (h:List qC) (i:List qC) (b:Int) (n:Nat) (d:Int) (f:Unit->Res) (g:Unit->Res):Res:=Z1f (j5o h i b) n (d) (f,g)
def j9Q:Z1d Unit:=NdL 26 26 [.R 0 y8 .S,.R 1 y8 .S,.I 12,.I 13] [] (λb d=>(b.2.2.2.1)) (λb v=>(b.1,b.2.1,b.2.2.1,v,())) (λd v=>()) (λb d=>j5o b.1 b.2.1 b.2.2.1) λb d f=>((λ_=>f (.exit 0) [] []),(λ_=>f .ret [(4,vB false)] []))
theorem jeA:CN 0 58 Tryz.f256 j9Q:=lK Zas [] oN ([],[]) [(0,[],[])] ([4],[]) λ_ _ _ _ _=>by kernel_rfl
def j1b (d:List qC) (f:List qC) (b:Bool->Res):Res:=bif ((nI (List.length d)) != (nI (List.length f))) then b false else j6q d f (nI (List.length d)) Z1c 0 (λ_=>b true) (λ_=>b false)
def jaO:Sig Unit:=sg [.look y8 false,.look y8 false] [false] [(y8,none),(y8,none)] [] λb f k=>j1b b.1 b.2.1 (λd=>k [wB d] [] [])
theorem jfO:SO 256 jaO:=fK (np:=0) Zas [j9Q] (oI 58 0 @jeA oN) false Tryz.func256 λ_ _ _ _=>by kernel_rfl
def jcf (f:qL) (g:qL) (d:Int) (b:Int) (rec:Int->Res) (h:Unit->Res) (i:Unit->Res):Res:=bif decide (b<d) then bif inb b (List.length f) then bif inb b (List.length g) then bif sNe (nth eS f b) (nth eS g b) then i () else rec (Z9K (b+1)) else none else none else h ()
def j71 (f:qL) (g:qL) (b:Int):Int->(Int->Res)->((Unit->Res)×(Unit->Res))->Res:=λv rec q=>jcf f g b v (λd=>rec (d)) q.1 q.2
def j85 (h:qL) (i:qL) (b:Int) (n:Nat) (d:Int) (f:Unit->Res) (g:Unit->Res):Res:=Z1f (j71 h i b) n (d) (f,g)
def j7A:Z1d Unit:=NdL 26 26 [.R 0 y0 .S,.R 1 y0 .S,.I 12,.I 13] [] (λb d=>(b.2.2.2.1)) (λb v=>(b.1,b.2.1,b.2.2.1,v,())) (λd v=>()) (λb d=>j71 b.1 b.2.1 b.2.2.1) λb d f=>((λ_=>f (.exit 0) [] []),(λ_=>f .ret [(4,vB false)] []))
theorem jcu:CN 0 58 Tryz.f257 j7A:=lK Zas [] oN ([],[]) [(0,[],[])] ([4],[]) λ_ _ _ _ _=>by kernel_rfl
def j1K (d:qL) (f:qL) (b:Bool->Res):Res:=bif ((nI (List.length d)) != (nI (List.length f))) then b false else j85 d f (nI (List.length d)) Z1c 0 (λ_=>b true) (λ_=>b false)
def j8Z:Sig Unit:=sg [.look y0 false,.look y0 false] [false] [(y0,none),(y0,none)] [] λb f k=>j1K b.1 b.2.1 (λd=>k [wB d] [] [])
theorem jdI:SO 257 j8Z:=fK (np:=0) Zas [j7A] (oI 58 0 @jcu oN) false Tryz.func257 λ_ _ _ _=>by kernel_rfl
def j1g (s:List Int) (h:Int) (g:Int) (b:Int) (rec:Int->Res) (d:Unit->Res) (f:Int->Res):Res:=bif decide (b<g) then bif inb b (List.length s) then bif (h==(nth 0 s b)) then f b else rec (Z9K (b+1)) else none else d ()
def j5q (s:List Int) (f:Int) (b:Int):Int->(Int->Res)->((Unit->Res)×(Int->Res))->Res:=λv rec q=>j1g s f b v (λd=>rec (d)) q.1 q.2
def ja3 (s:List Int) (h:Int) (f:Int) (n:Nat) (g:Int) (b:Unit->Res) (d:Int->Res):Res:=Z1f (j5q s h f) n (g) (b,d)
def j9S:Z1d Unit:=NdL 19 19 [.R 0 y21 .S,.I 1,.I 7,.I 8] [] (λb d=>(b.2.2.2.1)) (λb v=>(b.1,b.2.1,b.2.2.1,v,())) (λd v=>()) (λb d=>j5q b.1 b.2.1 b.2.2.1) λb d f=>((λ_=>f (.exit 0) [] []),(λg=>f .ret [(4,vI g)] []))
theorem jeC:CN 0 26 Tryz.f279 j9S:=lK Zas [] oN ([],[]) [(0,[],[])] ([4],[]) λ_ _ _ _ _=>by kernel_rfl
def j8y (s:List Int) (d:Int) (b:Int->Res):Res:=ja3 s d (nI (List.length s)) Z1c 0 (λ_=>b (-1)) (λt=>b t)
def jgp:Sig Unit:=sg [.look y21 false,.look tI false] [false] [(y21,none),(tI,none)] [] λb f k=>j8y b.1 b.2.1 (λd=>k [wI d] [] [])
theorem jfP:SO 279 jgp:=fK (np:=0) Zas [j9S] (oI 26 0 @jeC oN) false Tryz.func279 λ_ _ _ _=>by kernel_rfl
def j0W (s:List Int) (d:Int) (b:Bool->Res):Res:=j8y s d λr=>b (decide (r>=0))
def j5g:Sig Unit:=sg [.look y21 false,.look tI false] [false] [(y21,none),(tI,none)] [] λb f k=>j0W b.1 b.2.1 (λd=>k [wB d] [] [])
theorem jdG:SO 223 j5g:=fK (np:=0) (Za6 jfP Zas) [] oN false Tryz.func223 λ_ _ _ _=>by kernel_rfl
def j0b (s:qL) (h:qB) (g:Int) (b:Int) (rec:Int->Res) (d:Unit->Res) (f:Int->Res):Res:=bif decide (b<g) then bif inb b (List.length s) then bif sEq h (nth eS s b) then f b else rec (Z9K (b+1)) else none else d ()
def j1p (s:qL) (f:qB) (b:Int):Int->(Int->Res)->((Unit->Res)×(Int->Res))->Res:=λv rec q=>j0b s f b v (λd=>rec (d)) q.1 q.2
def j4w (s:qL) (h:qB) (f:Int) (n:Nat) (g:Int) (b:Unit->Res) (d:Int->Res):Res:=Z1f (j1p s h f) n (g) (b,d)
def j7B:Z1d Unit:=NdL 19 19 [.R 0 y0 .S,.S 1,.I 7,.I 8] [] (λb d=>(b.2.2.2.1)) (λb v=>(b.1,b.2.1,b.2.2.1,v,())) (λd v=>()) (λb d=>j1p b.1 b.2.1 b.2.2.1) λb d f=>((λ_=>f (.exit 0) [] []),(λg=>f .ret [(4,vI g)] []))
theorem jcv:CN 0 26 Tryz.f166 j7B:=lK Zas [] oN ([],[]) [(0,[],[])] ([4],[]) λ_ _ _ _ _=>by kernel_rfl
def j0H (s:qL) (d:qB) (b:Int->Res):Res:=j4w s d (nI (List.length s)) Z1c 0 (λ_=>b (-1)) (λt=>b t)
def j5i:Sig Unit:=sg [.look y0 false,.look .str false] [false] [(y0,none),(.str,none)] [] λb f k=>j0H b.1 b.2.1 (λd=>k [wI d] [] [])
theorem j8T:SO 166 j5i:=fK (np:=0) Zas [j7B] (oI 26 0 @jcv oN) false Tryz.func166 λ_ _ _ _=>by kernel_rfl
def j13 (s:qL) (d:qB) (b:Bool->Res):Res:=j0H s d λr=>b (decide (r>=0))
def j3s:Sig Unit:=sg [.look y0 false,.look .str false] [false] [(y0,none),(.str,none)] [] λb f k=>j13 b.1 b.2.1 (λd=>k [wB d] [] [])
theorem jbM:SO 95 j3s:=fK (np:=0) (Za6 j8T Zas) [] oN false Tryz.func95 λ_ _ _ _=>by kernel_rfl
def j3P (s:List qT) (i:Int) (v:List qT) (b:qF->Res):Res:=bif jhl i (List.length s) (List.length v) then b (jdm s i v) else none
def j5j:Sig Unit:=⟨[.eat y30 false,.borrow tI false,.eat y30 false],[false],λvals ext k=>ao vals y30 [.O] λs vals=>av vals tI λi vals=>ao vals y30 [.O] λv vals=>nl vals<|nl ext<|j3P s i v (λb=>k [w1 y30 b .O] [] [])⟩
theorem jdJ:Z17 Tryz.prog 318 j5j:=gS (jlF (U:=0) (fr:=328) (e:=y29) (fl:=[9,116,22]) (S:=91) (E:=162) (I:=3) (B:=4) follows j2j (by kernel_rfl) Tryz.underlying91 (by kernel_rfl) (by kernel_rfl) (by kernel_rfl) (by kernel_rfl) (by kernel_rfl) Tryz.func318 (by kernel_rfl) (by kernel_rfl) (by kernel_rfl) (by kernel_rfl) Tryz.func327 (by kernel_rfl) (by kernel_rfl) (by kernel_rfl) (by kernel_rfl)) (by kernel_rfl)
def j3O (s:List qT) (i:Int) (j:Int) (b:qF->Res):Res:=bif Z8e i j (List.length s) then b (ja7 s i j) else none
def j5h:Sig Unit:=⟨[.eat y30 false,.borrow tI false,.borrow tI false],[false],λvals ext k=>ao vals y30 [.O] λs vals=>av vals tI λi vals=>av vals tI λj vals=>nl vals<|nl ext<|j3O s i j (λb=>k [w1 y30 b .O] [] [])⟩
theorem jdH:Z17 Tryz.prog 319 j5h:=gS (jia (U:=0) (e:=y29) (fl:=[9,116,22]) (S:=91) (E:=162) (I:=3) (B:=4) follows j2j (by kernel_rfl) Tryz.underlying91 (by kernel_rfl) (by kernel_rfl) (by kernel_rfl) Tryz.func319 (by kernel_rfl) (by kernel_rfl) (by kernel_rfl) (by kernel_rfl)) (by kernel_rfl)
def j1h (s:List qR) (i:Int) (v:List qR) (b:qX->Res):Res:=bif jhl i (List.length s) (List.length v) then b (jdm s i v) else none
def j5L:Sig Unit:=⟨[.eat y32 false,.borrow tI false,.eat y32 false],[false],λvals ext k=>ao vals y32 [.O] λs vals=>av vals tI λi vals=>ao vals y32 [.O] λv vals=>nl vals<|nl ext<|j1h s i v (λb=>k [w1 y32 b .O] [] [])⟩
theorem jep:Z17 Tryz.prog 296 j5L:=gS (jlF (U:=0) (fr:=323) (e:=y31) (fl:=[163]) (S:=94) (E:=165) (I:=3) (B:=4) follows j2j (by kernel_rfl) Tryz.underlying94 (by kernel_rfl) (by kernel_rfl) (by kernel_rfl) (by kernel_rfl) (by kernel_rfl) Tryz.func296 (by kernel_rfl) (by kernel_rfl) (by kernel_rfl) (by kernel_rfl) Tryz.func322 (by kernel_rfl) (by kernel_rfl) (by kernel_rfl) (by kernel_rfl)) (by kernel_rfl)
def j4g (s:List qR) (i:Int) (j:Int) (b:qX->Res):Res:=bif Z8e i j (List.length s) then b (ja7 s i j) else none
def j5K:Sig Unit:=⟨[.eat y32 false,.borrow tI false,.borrow tI false],[false],λvals ext k=>ao vals y32 [.O] λs vals=>av vals tI λi vals=>av vals tI λj vals=>nl vals<|nl ext<|j4g s i j (λb=>k [w1 y32 b .O] [] [])⟩
theorem jeo:Z17 Tryz.prog 297 j5K:=gS (jia (U:=0) (e:=y31) (fl:=[163]) (S:=94) (E:=165) (I:=3) (B:=4) follows j2j (by kernel_rfl) Tryz.underlying94 (by kernel_rfl) (by kernel_rfl) (by kernel_rfl) Tryz.func297 (by kernel_rfl) (by kernel_rfl) (by kernel_rfl) (by kernel_rfl)) (by kernel_rfl)
def j7I (s:List qV) (i:Int) (j:Int) (b:qW->Res):Res:=bif Z8e i j (List.length s) then b (ja7 s i j) else none
def ja1:Sig Unit:=⟨[.eat y3 false,.borrow tI false,.borrow tI false],[false],λvals ext k=>ao vals y3 [.O] λs vals=>av vals tI λi vals=>av vals tI λj vals=>nl vals<|nl ext<|j7I s i j (λb=>k [w1 y3 b .O] [] [])⟩
theorem jfu:Z17 Tryz.prog 324 ja1:=gS (jia (U:=0) (e:=y2) (fl:=[3,3,9]) (S:=52) (E:=151) (I:=3) (B:=4) follows j2j (by kernel_rfl) Tryz.underlying52 (by kernel_rfl) (by kernel_rfl) (by kernel_rfl) Tryz.func324 (by kernel_rfl) (by kernel_rfl) (by kernel_rfl) (by kernel_rfl)) (by kernel_rfl)
def j1f (d:List qV) (f:List qV) (g:Int) (b:Int) (rec:Int->Res) (h:Unit->Res) (i:Unit->Res):Res:=bif decide (b<g) then bif inb b (List.length d) then bif inb b (List.length f) then bif !(((nth (0,0,eS) d b).1==(nth (0,0,eS) f b).1)&&(((nth (0,0,eS) d b).2.1==(nth (0,0,eS) f b).2.1)&&(sEq (nth (0,0,eS) d b).2.2 (nth (0,0,eS) f b).2.2))) then i () else rec (Z9K (b+1)) else none else none else h ()
def j5p (f:List qV) (g:List qV) (b:Int):Int->(Int->Res)->((Unit->Res)×(Unit->Res))->Res:=λv rec q=>j1f f g b v (λd=>rec (d)) q.1 q.2
def ja2 (h:List qV) (i:List qV) (b:Int) (n:Nat) (d:Int) (f:Unit->Res) (g:Unit->Res):Res:=Z1f (j5p h i b) n (d) (f,g)
def j9R:Z1d Unit:=NdL 26 26 [.R 0 y3 .S,.R 1 y3 .S,.I 12,.I 13] [] (λb d=>(b.2.2.2.1)) (λb v=>(b.1,b.2.1,b.2.2.1,v,())) (λd v=>()) (λb d=>j5p b.1 b.2.1 b.2.2.1) λb d f=>((λ_=>f (.exit 0) [] []),(λ_=>f .ret [(4,vB false)] []))
theorem jeB:CN 0 58 Tryz.f128 j9R:=lK Zas [] oN ([],[]) [(0,[],[])] ([4],[]) λ_ _ _ _ _=>by kernel_rfl
def j1c (d:List qV) (f:List qV) (b:Bool->Res):Res:=bif ((nI (List.length d)) != (nI (List.length f))) then b false else ja2 d f (nI (List.length d)) Z1c 0 (λ_=>b true) (λ_=>b false)
def j4e:Sig Unit:=sg [.look y3 false,.look y3 false] [false] [(y3,none),(y3,none)] [] λb f k=>j1c b.1 b.2.1 (λd=>k [wB d] [] [])
theorem jaK:SO 128 j4e:=fK (np:=0) Zas [j9R] (oI 58 0 @jeB oN) false Tryz.func128 λ_ _ _ _=>by kernel_rfl
def j4E (s:List qW) (i:Int) (v:List qW) (b:qR->Res):Res:=bif jhl i (List.length s) (List.length v) then b (jdm s i v) else none
def j6p:Sig Unit:=⟨[.eat y31 false,.borrow tI false,.eat y31 false],[false],λvals ext k=>ao vals y31 [.O] λs vals=>av vals tI λi vals=>ao vals y31 [.O] λv vals=>nl vals<|nl ext<|j4E s i v (λb=>k [w1 y31 b .O] [] [])⟩
theorem jfv:Z17 Tryz.prog 325 j6p:=gS (jlF (U:=0) (fr:=331) (e:=y3) (fl:=[52]) (S:=163) (E:=61) (I:=3) (B:=4) follows j2j (by kernel_rfl) Tryz.underlying163 (by kernel_rfl) (by kernel_rfl) (by kernel_rfl) (by kernel_rfl) (by kernel_rfl) Tryz.func325 (by kernel_rfl) (by kernel_rfl) (by kernel_rfl) (by kernel_rfl) Tryz.func330 (by kernel_rfl) (by kernel_rfl) (by kernel_rfl) (by kernel_rfl)) (by kernel_rfl)
def j0G (s:List qW) (i:Int) (j:Int) (b:qR->Res):Res:=bif Z8e i j (List.length s) then b (ja7 s i j) else none
def j3N:Sig Unit:=⟨[.eat y31 false,.borrow tI false,.borrow tI false],[false],λvals ext k=>ao vals y31 [.O] λs vals=>av vals tI λi vals=>av vals tI λj vals=>nl vals<|nl ext<|j0G s i j (λb=>k [w1 y31 b .O] [] [])⟩
theorem j9Y:Z17 Tryz.prog 301 j3N:=gS (jia (U:=0) (e:=y3) (fl:=[52]) (S:=163) (E:=61) (I:=3) (B:=4) follows j2j (by kernel_rfl) Tryz.underlying163 (by kernel_rfl) (by kernel_rfl) (by kernel_rfl) Tryz.func301 (by kernel_rfl) (by kernel_rfl) (by kernel_rfl) (by kernel_rfl)) (by kernel_rfl)
end
end Go.PI.G
