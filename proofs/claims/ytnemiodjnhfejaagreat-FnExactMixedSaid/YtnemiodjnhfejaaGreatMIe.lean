/-
  Program's code interpreted over typed values; printed texts; plain laws. No conditions.
-/
import Derived.Test.YtnemiodjnhfejaaGreatMId
set_option linter.unusedVariables false
set_option maxRecDepth 100000
namespace Go.PI.G
noncomputable section
open Go Go.PI Go.Proofs
open Go.Code (pl pr)
def j1f (d:List qC) (f:List qC) (g:Int) (b:Int) (rec:Int->Res) (h:Unit->Res) (i:Unit->Res):Res:=bif decide (b<g) then bif inb b (List.length d) then bif inb b (List.length f) then bif !((sEq (nth (eS,0,false,false,0,0,eS) d b).1 (nth (eS,0,false,false,0,0,eS) f b).1)&&(((nth (eS,0,false,false,0,0,eS) d b).2.1==(nth (eS,0,false,false,0,0,eS) f b).2.1)&&(((nth (eS,0,false,false,0,0,eS) d b).2.2.1==(nth (eS,0,false,false,0,0,eS) f b).2.2.1)&&(((nth (eS,0,false,false,0,0,eS) d b).2.2.2.1==(nth (eS,0,false,false,0,0,eS) f b).2.2.2.1)&&(((nth (eS,0,false,false,0,0,eS) d b).2.2.2.2.1==(nth (eS,0,false,false,0,0,eS) f b).2.2.2.2.1)&&(((nth (eS,0,false,false,0,0,eS) d b).2.2.2.2.2.1==(nth (eS,0,false,false,0,0,eS) f b).2.2.2.2.2.1)&&(sEq (nth (eS,0,false,false,0,0,eS) d b).2.2.2.2.2.2 (nth (eS,0,false,false,0,0,eS) f b).2.2.2.2.2.2))))))) then i () else rec (Z9K (b+1)) else none else none else h ()
def j5q (f:List qC) (g:List qC) (b:Int):Int->(Int->Res)->((Unit->Res)×(Unit->Res))->Res:=λv rec q=>j1f f g b v (λd=>rec (d)) q.1 q.2
def j6s (h:List qC) (i:List qC) (b:Int) (n:Nat) (d:Int) (f:Unit->Res) (g:Unit->Res):Res:=Z1f (j5q h i b) n (d) (f,g)
def j9Q:Z1d Unit:=NdL 26 26 [.R 0 y8 .S,.R 1 y8 .S,.I 12,.I 13] [] (λb d=>(b.2.2.2.1)) (λb v=>(b.1,b.2.1,b.2.2.1,v,())) (λd v=>()) (λb d=>j5q b.1 b.2.1 b.2.2.1) λb d f=>((λ_=>f (.exit 0) [] []),(λ_=>f .ret [(4,vB false)] []))
theorem jeM:CN 0 58 Tryz.f256 j9Q:=lK Zas [] oN ([],[]) [(0,[],[])] ([4],[]) λ_ _ _ _ _=>by kernel_rfl
def j1b (d:List qC) (f:List qC) (b:Bool->Res):Res:=bif ((nI (List.length d)) != (nI (List.length f))) then b false else j6s d f (nI (List.length d)) Z1c 0 (λ_=>b true) (λ_=>b false)
def jaU:Sig Unit:=sg [.look y8 false,.look y8 false] [false] [(y8,none),(y8,none)] [] λb f k=>j1b b.1 b.2.1 (λd=>k [wB d] [] [])
theorem jfV:SO 256 jaU:=fK (np:=0) Zas [j9Q] (oI 58 0 @jeM oN) false Tryz.func256 λ_ _ _ _=>by kernel_rfl
def jcq (f:qL) (g:qL) (d:Int) (b:Int) (rec:Int->Res) (h:Unit->Res) (i:Unit->Res):Res:=bif decide (b<d) then bif inb b (List.length f) then bif inb b (List.length g) then bif sNe (nth eS f b) (nth eS g b) then i () else rec (Z9K (b+1)) else none else none else h ()
def j76 (f:qL) (g:qL) (b:Int):Int->(Int->Res)->((Unit->Res)×(Unit->Res))->Res:=λv rec q=>jcq f g b v (λd=>rec (d)) q.1 q.2
def j8a (h:qL) (i:qL) (b:Int) (n:Nat) (d:Int) (f:Unit->Res) (g:Unit->Res):Res:=Z1f (j76 h i b) n (d) (f,g)
def j7G:Z1d Unit:=NdL 26 26 [.R 0 y0 .S,.R 1 y0 .S,.I 12,.I 13] [] (λb d=>(b.2.2.2.1)) (λb v=>(b.1,b.2.1,b.2.2.1,v,())) (λd v=>()) (λb d=>j76 b.1 b.2.1 b.2.2.1) λb d f=>((λ_=>f (.exit 0) [] []),(λ_=>f .ret [(4,vB false)] []))
theorem jcF:CN 0 58 Tryz.f257 j7G:=lK Zas [] oN ([],[]) [(0,[],[])] ([4],[]) λ_ _ _ _ _=>by kernel_rfl
def j1N (d:qL) (f:qL) (b:Bool->Res):Res:=bif ((nI (List.length d)) != (nI (List.length f))) then b false else j8a d f (nI (List.length d)) Z1c 0 (λ_=>b true) (λ_=>b false)
def j92:Sig Unit:=sg [.look y0 false,.look y0 false] [false] [(y0,none),(y0,none)] [] λb f k=>j1N b.1 b.2.1 (λd=>k [wB d] [] [])
theorem jdV:SO 257 j92:=fK (np:=0) Zas [j7G] (oI 58 0 @jcF oN) false Tryz.func257 λ_ _ _ _=>by kernel_rfl
def j1h (s:List Int) (h:Int) (g:Int) (b:Int) (rec:Int->Res) (d:Unit->Res) (f:Int->Res):Res:=bif decide (b<g) then bif inb b (List.length s) then bif (h==(nth 0 s b)) then f b else rec (Z9K (b+1)) else none else d ()
def j5s (s:List Int) (f:Int) (b:Int):Int->(Int->Res)->((Unit->Res)×(Int->Res))->Res:=λv rec q=>j1h s f b v (λd=>rec (d)) q.1 q.2
def ja3 (s:List Int) (h:Int) (f:Int) (n:Nat) (g:Int) (b:Unit->Res) (d:Int->Res):Res:=Z1f (j5s s h f) n (g) (b,d)
def j9S:Z1d Unit:=NdL 19 19 [.R 0 y21 .S,.I 1,.I 7,.I 8] [] (λb d=>(b.2.2.2.1)) (λb v=>(b.1,b.2.1,b.2.2.1,v,())) (λd v=>()) (λb d=>j5s b.1 b.2.1 b.2.2.1) λb d f=>((λ_=>f (.exit 0) [] []),(λg=>f .ret [(4,vI g)] []))
theorem jeO:CN 0 26 Tryz.f279 j9S:=lK Zas [] oN ([],[]) [(0,[],[])] ([4],[]) λ_ _ _ _ _=>by kernel_rfl
def j8C (s:List Int) (d:Int) (b:Int->Res):Res:=ja3 s d (nI (List.length s)) Z1c 0 (λ_=>b (-1)) (λt=>b t)
def jgv:Sig Unit:=sg [.look y21 false,.look tI false] [false] [(y21,none),(tI,none)] [] λb f k=>j8C b.1 b.2.1 (λd=>k [wI d] [] [])
theorem jfW:SO 279 jgv:=fK (np:=0) Zas [j9S] (oI 26 0 @jeO oN) false Tryz.func279 λ_ _ _ _=>by kernel_rfl
def j0X (s:List Int) (d:Int) (b:Bool->Res):Res:=j8C s d λr=>b (decide (r>=0))
def j5i:Sig Unit:=sg [.look y21 false,.look tI false] [false] [(y21,none),(tI,none)] [] λb f k=>j0X b.1 b.2.1 (λd=>k [wB d] [] [])
theorem jdT:SO 223 j5i:=fK (np:=0) (Za6 jfW Zas) [] oN false Tryz.func223 λ_ _ _ _=>by kernel_rfl
def j0c (s:qL) (h:qB) (g:Int) (b:Int) (rec:Int->Res) (d:Unit->Res) (f:Int->Res):Res:=bif decide (b<g) then bif inb b (List.length s) then bif sEq h (nth eS s b) then f b else rec (Z9K (b+1)) else none else d ()
def j1q (s:qL) (f:qB) (b:Int):Int->(Int->Res)->((Unit->Res)×(Int->Res))->Res:=λv rec q=>j0c s f b v (λd=>rec (d)) q.1 q.2
def j4z (s:qL) (h:qB) (f:Int) (n:Nat) (g:Int) (b:Unit->Res) (d:Int->Res):Res:=Z1f (j1q s h f) n (g) (b,d)
def j7H:Z1d Unit:=NdL 19 19 [.R 0 y0 .S,.S 1,.I 7,.I 8] [] (λb d=>(b.2.2.2.1)) (λb v=>(b.1,b.2.1,b.2.2.1,v,())) (λd v=>()) (λb d=>j1q b.1 b.2.1 b.2.2.1) λb d f=>((λ_=>f (.exit 0) [] []),(λg=>f .ret [(4,vI g)] []))
theorem jcG:CN 0 26 Tryz.f166 j7H:=lK Zas [] oN ([],[]) [(0,[],[])] ([4],[]) λ_ _ _ _ _=>by kernel_rfl
def j0H (s:qL) (d:qB) (b:Int->Res):Res:=j4z s d (nI (List.length s)) Z1c 0 (λ_=>b (-1)) (λt=>b t)
def j5k:Sig Unit:=sg [.look y0 false,.look .str false] [false] [(y0,none),(.str,none)] [] λb f k=>j0H b.1 b.2.1 (λd=>k [wI d] [] [])
theorem j8V:SO 166 j5k:=fK (np:=0) Zas [j7H] (oI 26 0 @jcG oN) false Tryz.func166 λ_ _ _ _=>by kernel_rfl
def j14 (s:qL) (d:qB) (b:Bool->Res):Res:=j0H s d λr=>b (decide (r>=0))
def j3t:Sig Unit:=sg [.look y0 false,.look .str false] [false] [(y0,none),(.str,none)] [] λb f k=>j14 b.1 b.2.1 (λd=>k [wB d] [] [])
theorem jbU:SO 95 j3t:=fK (np:=0) (Za6 j8V Zas) [] oN false Tryz.func95 λ_ _ _ _=>by kernel_rfl
def j3Q (s:List qT) (i:Int) (v:List qT) (b:qF->Res):Res:=bif jhs i (List.length s) (List.length v) then b (jdy s i v) else none
def j5l:Sig Unit:=⟨[.eat y30 false,.borrow tI false,.eat y30 false],[false],λvals ext k=>ao vals y30 [.O] λs vals=>av vals tI λi vals=>ao vals y30 [.O] λv vals=>nl vals<|nl ext<|j3Q s i v (λb=>k [w1 y30 b .O] [] [])⟩
theorem jdW:Z17 Tryz.prog 318 j5l:=gS (jlW (U:=0) (fr:=328) (e:=y29) (fl:=[9,116,22]) (S:=91) (E:=162) (I:=3) (B:=4) follows j2o (by kernel_rfl) Tryz.underlying91 (by kernel_rfl) (by kernel_rfl) (by kernel_rfl) (by kernel_rfl) (by kernel_rfl) Tryz.func318 (by kernel_rfl) (by kernel_rfl) (by kernel_rfl) (by kernel_rfl) Tryz.func327 (by kernel_rfl) (by kernel_rfl) (by kernel_rfl) (by kernel_rfl)) (by kernel_rfl)
def j3P (s:List qT) (i:Int) (j:Int) (b:qF->Res):Res:=bif Z8e i j (List.length s) then b (ja8 s i j) else none
def j5j:Sig Unit:=⟨[.eat y30 false,.borrow tI false,.borrow tI false],[false],λvals ext k=>ao vals y30 [.O] λs vals=>av vals tI λi vals=>av vals tI λj vals=>nl vals<|nl ext<|j3P s i j (λb=>k [w1 y30 b .O] [] [])⟩
theorem jdU:Z17 Tryz.prog 319 j5j:=gS (jig (U:=0) (e:=y29) (fl:=[9,116,22]) (S:=91) (E:=162) (I:=3) (B:=4) follows j2o (by kernel_rfl) Tryz.underlying91 (by kernel_rfl) (by kernel_rfl) (by kernel_rfl) Tryz.func319 (by kernel_rfl) (by kernel_rfl) (by kernel_rfl) (by kernel_rfl)) (by kernel_rfl)
def j1i (s:List qR) (i:Int) (v:List qR) (b:qX->Res):Res:=bif jhs i (List.length s) (List.length v) then b (jdy s i v) else none
def j5O:Sig Unit:=⟨[.eat y32 false,.borrow tI false,.eat y32 false],[false],λvals ext k=>ao vals y32 [.O] λs vals=>av vals tI λi vals=>ao vals y32 [.O] λv vals=>nl vals<|nl ext<|j1i s i v (λb=>k [w1 y32 b .O] [] [])⟩
theorem jeC:Z17 Tryz.prog 296 j5O:=gS (jlW (U:=0) (fr:=323) (e:=y31) (fl:=[163]) (S:=94) (E:=165) (I:=3) (B:=4) follows j2o (by kernel_rfl) Tryz.underlying94 (by kernel_rfl) (by kernel_rfl) (by kernel_rfl) (by kernel_rfl) (by kernel_rfl) Tryz.func296 (by kernel_rfl) (by kernel_rfl) (by kernel_rfl) (by kernel_rfl) Tryz.func322 (by kernel_rfl) (by kernel_rfl) (by kernel_rfl) (by kernel_rfl)) (by kernel_rfl)
def j4i (s:List qR) (i:Int) (j:Int) (b:qX->Res):Res:=bif Z8e i j (List.length s) then b (ja8 s i j) else none
def j5N:Sig Unit:=⟨[.eat y32 false,.borrow tI false,.borrow tI false],[false],λvals ext k=>ao vals y32 [.O] λs vals=>av vals tI λi vals=>av vals tI λj vals=>nl vals<|nl ext<|j4i s i j (λb=>k [w1 y32 b .O] [] [])⟩
theorem jeB:Z17 Tryz.prog 297 j5N:=gS (jig (U:=0) (e:=y31) (fl:=[163]) (S:=94) (E:=165) (I:=3) (B:=4) follows j2o (by kernel_rfl) Tryz.underlying94 (by kernel_rfl) (by kernel_rfl) (by kernel_rfl) Tryz.func297 (by kernel_rfl) (by kernel_rfl) (by kernel_rfl) (by kernel_rfl)) (by kernel_rfl)
def j7O (s:List qV) (i:Int) (j:Int) (b:qW->Res):Res:=bif Z8e i j (List.length s) then b (ja8 s i j) else none
def ja1:Sig Unit:=⟨[.eat y3 false,.borrow tI false,.borrow tI false],[false],λvals ext k=>ao vals y3 [.O] λs vals=>av vals tI λi vals=>av vals tI λj vals=>nl vals<|nl ext<|j7O s i j (λb=>k [w1 y3 b .O] [] [])⟩
theorem jfC:Z17 Tryz.prog 324 ja1:=gS (jig (U:=0) (e:=y2) (fl:=[3,3,9]) (S:=52) (E:=151) (I:=3) (B:=4) follows j2o (by kernel_rfl) Tryz.underlying52 (by kernel_rfl) (by kernel_rfl) (by kernel_rfl) Tryz.func324 (by kernel_rfl) (by kernel_rfl) (by kernel_rfl) (by kernel_rfl)) (by kernel_rfl)
def j1g (d:List qV) (f:List qV) (g:Int) (b:Int) (rec:Int->Res) (h:Unit->Res) (i:Unit->Res):Res:=bif decide (b<g) then bif inb b (List.length d) then bif inb b (List.length f) then bif !(((nth (0,0,eS) d b).1==(nth (0,0,eS) f b).1)&&(((nth (0,0,eS) d b).2.1==(nth (0,0,eS) f b).2.1)&&(sEq (nth (0,0,eS) d b).2.2 (nth (0,0,eS) f b).2.2))) then i () else rec (Z9K (b+1)) else none else none else h ()
def j5r (f:List qV) (g:List qV) (b:Int):Int->(Int->Res)->((Unit->Res)×(Unit->Res))->Res:=λv rec q=>j1g f g b v (λd=>rec (d)) q.1 q.2
def ja2 (h:List qV) (i:List qV) (b:Int) (n:Nat) (d:Int) (f:Unit->Res) (g:Unit->Res):Res:=Z1f (j5r h i b) n (d) (f,g)
def j9R:Z1d Unit:=NdL 26 26 [.R 0 y3 .S,.R 1 y3 .S,.I 12,.I 13] [] (λb d=>(b.2.2.2.1)) (λb v=>(b.1,b.2.1,b.2.2.1,v,())) (λd v=>()) (λb d=>j5r b.1 b.2.1 b.2.2.1) λb d f=>((λ_=>f (.exit 0) [] []),(λ_=>f .ret [(4,vB false)] []))
theorem jeN:CN 0 58 Tryz.f128 j9R:=lK Zas [] oN ([],[]) [(0,[],[])] ([4],[]) λ_ _ _ _ _=>by kernel_rfl
def j1c (d:List qV) (f:List qV) (b:Bool->Res):Res:=bif ((nI (List.length d)) != (nI (List.length f))) then b false else ja2 d f (nI (List.length d)) Z1c 0 (λ_=>b true) (λ_=>b false)
def j4g:Sig Unit:=sg [.look y3 false,.look y3 false] [false] [(y3,none),(y3,none)] [] λb f k=>j1c b.1 b.2.1 (λd=>k [wB d] [] [])
theorem jaQ:SO 128 j4g:=fK (np:=0) Zas [j9R] (oI 58 0 @jeN oN) false Tryz.func128 λ_ _ _ _=>by kernel_rfl
def j4F (s:List qW) (i:Int) (v:List qW) (b:qR->Res):Res:=bif jhs i (List.length s) (List.length v) then b (jdy s i v) else none
def j6r:Sig Unit:=⟨[.eat y31 false,.borrow tI false,.eat y31 false],[false],λvals ext k=>ao vals y31 [.O] λs vals=>av vals tI λi vals=>ao vals y31 [.O] λv vals=>nl vals<|nl ext<|j4F s i v (λb=>k [w1 y31 b .O] [] [])⟩
theorem jfD:Z17 Tryz.prog 325 j6r:=gS (jlW (U:=0) (fr:=331) (e:=y3) (fl:=[52]) (S:=163) (E:=61) (I:=3) (B:=4) follows j2o (by kernel_rfl) Tryz.underlying163 (by kernel_rfl) (by kernel_rfl) (by kernel_rfl) (by kernel_rfl) (by kernel_rfl) Tryz.func325 (by kernel_rfl) (by kernel_rfl) (by kernel_rfl) (by kernel_rfl) Tryz.func330 (by kernel_rfl) (by kernel_rfl) (by kernel_rfl) (by kernel_rfl)) (by kernel_rfl)
def j0G (s:List qW) (i:Int) (j:Int) (b:qR->Res):Res:=bif Z8e i j (List.length s) then b (ja8 s i j) else none
def j3O:Sig Unit:=⟨[.eat y31 false,.borrow tI false,.borrow tI false],[false],λvals ext k=>ao vals y31 [.O] λs vals=>av vals tI λi vals=>av vals tI λj vals=>nl vals<|nl ext<|j0G s i j (λb=>k [w1 y31 b .O] [] [])⟩
theorem j9Y:Z17 Tryz.prog 301 j3O:=gS (jig (U:=0) (e:=y3) (fl:=[52]) (S:=163) (E:=61) (I:=3) (B:=4) follows j2o (by kernel_rfl) Tryz.underlying163 (by kernel_rfl) (by kernel_rfl) (by kernel_rfl) Tryz.func301 (by kernel_rfl) (by kernel_rfl) (by kernel_rfl) (by kernel_rfl)) (by kernel_rfl)
end
end Go.PI.G
