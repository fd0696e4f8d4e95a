/-
  Program's code interpreted over typed values; printed texts; plain laws. No conditions.
-/
import Derived.Test.YtnemiodjnhfejaaGreatLTd
set_option linter.unusedVariables false
set_option maxRecDepth 100000
namespace Go.PI.G
noncomputable section
open Go Go.PI Go.Proofs
open Go.Code (pl pr)
def j1n (d:List qC) (f:List qC) (g:Int) (b:Int) (rec:Int->Res) (h:Unit->Res) (i:Unit->Res):Res:=bif decide (b<g) then bif inb b (List.length d) then bif inb b (List.length f) then bif !((sEq (nth (eS,0,false,false,0,0,eS) d b).1 (nth (eS,0,false,false,0,0,eS) f b).1)&&(((nth (eS,0,false,false,0,0,eS) d b).2.1==(nth (eS,0,false,false,0,0,eS) f b).2.1)&&(((nth (eS,0,false,false,0,0,eS) d b).2.2.1==(nth (eS,0,false,false,0,0,eS) f b).2.2.1)&&(((nth (eS,0,false,false,0,0,eS) d b).2.2.2.1==(nth (eS,0,false,false,0,0,eS) f b).2.2.2.1)&&(((nth (eS,0,false,false,0,0,eS) d b).2.2.2.2.1==(nth (eS,0,false,false,0,0,eS) f b).2.2.2.2.1)&&(((nth (eS,0,false,false,0,0,eS) d b).2.2.2.2.2.1==(nth (eS,0,false,false,0,0,eS) f b).2.2.2.2.2.1)&&(sEq (nth (eS,0,false,false,0,0,eS) d b).2.2.2.2.2.2 (nth (eS,0,false,false,0,0,eS) f b).2.2.2.2.2.2))))))) then i () else rec (Z9K (b+1)) else none else none else h ()
def j5K (f:List qC) (g:List qC) (b:Int):Int->(Int->Res)->((Unit->Res)×(Unit->Res))->Res:=λv rec q=>j1n f g b v (λd=>rec (d)) q.1 q.2
def j6S (h:List qC) (i:List qC) (b:Int) (n:Nat) (d:Int) (f:Unit->Res) (g:Unit->Res):Res:=Z1f (j5K h i b) n (d) (f,g)
def jaB:Z1d Unit:=NdL 26 26 [.R 0 y8 .S,.R 1 y8 .S,.I 12,.I 13] [] (λb d=>(b.2.2.2.1)) (λb v=>(b.1,b.2.1,b.2.2.1,v,())) (λd v=>()) (λb d=>j5K b.1 b.2.1 b.2.2.1) λb d f=>((λ_=>f (.exit 0) [] []),(λ_=>f .ret [(4,vB false)] []))
theorem jfX:CN 0 58 Tryz.f256 jaB:=lK Zas [] oN ([],[]) [(0,[],[])] ([4],[]) λ_ _ _ _ _=>by kernel_rfl
def j1j (d:List qC) (f:List qC) (b:Bool->Res):Res:=bif ((nI (List.length d)) != (nI (List.length f))) then b false else j6S d f (nI (List.length d)) Z1c 0 (λ_=>b true) (λ_=>b false)
def jbH:Sig Unit:=sg [.look y8 false,.look y8 false] [false] [(y8,none),(y8,none)] [] λb f k=>j1j b.1 b.2.1 (λd=>k [wB d] [] [])
theorem jhe:SO 256 jbH:=fK (np:=0) Zas [jaB] (oI 58 0 @jfX oN) false Tryz.func256 λ_ _ _ _=>by kernel_rfl
def jde (f:qL) (g:qL) (d:Int) (b:Int) (rec:Int->Res) (h:Unit->Res) (i:Unit->Res):Res:=bif decide (b<d) then bif inb b (List.length f) then bif inb b (List.length g) then bif sNe (nth eS f b) (nth eS g b) then i () else rec (Z9K (b+1)) else none else none else h ()
def j7z (f:qL) (g:qL) (b:Int):Int->(Int->Res)->((Unit->Res)×(Unit->Res))->Res:=λv rec q=>jde f g b v (λd=>rec (d)) q.1 q.2
def j8I (h:qL) (i:qL) (b:Int) (n:Nat) (d:Int) (f:Unit->Res) (g:Unit->Res):Res:=Z1f (j7z h i b) n (d) (f,g)
def j89:Z1d Unit:=NdL 26 26 [.R 0 y0 .S,.R 1 y0 .S,.I 12,.I 13] [] (λb d=>(b.2.2.2.1)) (λb v=>(b.1,b.2.1,b.2.2.1,v,())) (λd v=>()) (λb d=>j7z b.1 b.2.1 b.2.2.1) λb d f=>((λ_=>f (.exit 0) [] []),(λ_=>f .ret [(4,vB false)] []))
theorem jdA:CN 0 58 Tryz.f257 j89:=lK Zas [] oN ([],[]) [(0,[],[])] ([4],[]) λ_ _ _ _ _=>by kernel_rfl
def j1Y (d:qL) (f:qL) (b:Bool->Res):Res:=bif ((nI (List.length d)) != (nI (List.length f))) then b false else j8I d f (nI (List.length d)) Z1c 0 (λ_=>b true) (λ_=>b false)
def j9E:Sig Unit:=sg [.look y0 false,.look y0 false] [false] [(y0,none),(y0,none)] [] λb f k=>j1Y b.1 b.2.1 (λd=>k [wB d] [] [])
theorem jeZ:SO 257 j9E:=fK (np:=0) Zas [j89] (oI 58 0 @jdA oN) false Tryz.func257 λ_ _ _ _=>by kernel_rfl
def j1p (s:List Int) (h:Int) (g:Int) (b:Int) (rec:Int->Res) (d:Unit->Res) (f:Int->Res):Res:=bif decide (b<g) then bif inb b (List.length s) then bif (h==(nth 0 s b)) then f b else rec (Z9K (b+1)) else none else d ()
def j5M (s:List Int) (f:Int) (b:Int):Int->(Int->Res)->((Unit->Res)×(Int->Res))->Res:=λv rec q=>j1p s f b v (λd=>rec (d)) q.1 q.2
def jaO (s:List Int) (h:Int) (f:Int) (n:Nat) (g:Int) (b:Unit->Res) (d:Int->Res):Res:=Z1f (j5M s h f) n (g) (b,d)
def jaD:Z1d Unit:=NdL 19 19 [.R 0 y21 .S,.I 1,.I 7,.I 8] [] (λb d=>(b.2.2.2.1)) (λb v=>(b.1,b.2.1,b.2.2.1,v,())) (λd v=>()) (λb d=>j5M b.1 b.2.1 b.2.2.1) λb d f=>((λ_=>f (.exit 0) [] []),(λg=>f .ret [(4,vI g)] []))
theorem jfZ:CN 0 26 Tryz.f279 jaD:=lK Zas [] oN ([],[]) [(0,[],[])] ([4],[]) λ_ _ _ _ _=>by kernel_rfl
def j99 (s:List Int) (d:Int) (b:Int->Res):Res:=jaO s d (nI (List.length s)) Z1c 0 (λ_=>b (-1)) (λt=>b t)
def jhN:Sig Unit:=sg [.look y21 false,.look tI false] [false] [(y21,none),(tI,none)] [] λb f k=>j99 b.1 b.2.1 (λd=>k [wI d] [] [])
theorem jhf:SO 279 jhN:=fK (np:=0) Zas [jaD] (oI 26 0 @jfZ oN) false Tryz.func279 λ_ _ _ _=>by kernel_rfl
def j12 (s:List Int) (d:Int) (b:Bool->Res):Res:=j99 s d λr=>b (decide (r>=0))
def j5C:Sig Unit:=sg [.look y21 false,.look tI false] [false] [(y21,none),(tI,none)] [] λb f k=>j12 b.1 b.2.1 (λd=>k [wB d] [] [])
theorem jeX:SO 223 j5C:=fK (np:=0) (Za6 jhf Zas) [] oN false Tryz.func223 λ_ _ _ _=>by kernel_rfl
def j0c (s:qL) (h:qB) (g:Int) (b:Int) (rec:Int->Res) (d:Unit->Res) (f:Int->Res):Res:=bif decide (b<g) then bif inb b (List.length s) then bif sEq h (nth eS s b) then f b else rec (Z9K (b+1)) else none else d ()
def j1x (s:qL) (f:qB) (b:Int):Int->(Int->Res)->((Unit->Res)×(Int->Res))->Res:=λv rec q=>j0c s f b v (λd=>rec (d)) q.1 q.2
def j4P (s:qL) (h:qB) (f:Int) (n:Nat) (g:Int) (b:Unit->Res) (d:Int->Res):Res:=Z1f (j1x s h f) n (g) (b,d)
def j8a:Z1d Unit:=NdL 19 19 [.R 0 y0 .S,.S 1,.I 7,.I 8] [] (λb d=>(b.2.2.2.1)) (λb v=>(b.1,b.2.1,b.2.2.1,v,())) (λd v=>()) (λb d=>j1x b.1 b.2.1 b.2.2.1) λb d f=>((λ_=>f (.exit 0) [] []),(λg=>f .ret [(4,vI g)] []))
theorem jdB:CN 0 26 Tryz.f166 j8a:=lK Zas [] oN ([],[]) [(0,[],[])] ([4],[]) λ_ _ _ _ _=>by kernel_rfl
def j0M (s:qL) (d:qB) (b:Int->Res):Res:=j4P s d (nI (List.length s)) Z1c 0 (λ_=>b (-1)) (λt=>b t)
def j5E:Sig Unit:=sg [.look y0 false,.look .str false] [false] [(y0,none),(.str,none)] [] λb f k=>j0M b.1 b.2.1 (λd=>k [wI d] [] [])
theorem j9y:SO 166 j5E:=fK (np:=0) Zas [j8a] (oI 26 0 @jdB oN) false Tryz.func166 λ_ _ _ _=>by kernel_rfl
def j19 (s:qL) (d:qB) (b:Bool->Res):Res:=j0M s d λr=>b (decide (r>=0))
def j3M:Sig Unit:=sg [.look y0 false,.look .str false] [false] [(y0,none),(.str,none)] [] λb f k=>j19 b.1 b.2.1 (λd=>k [wB d] [] [])
theorem jcJ:SO 95 j3M:=fK (np:=0) (Za6 j9y Zas) [] oN false Tryz.func95 λ_ _ _ _=>by kernel_rfl
def j49 (s:List qT) (i:Int) (v:List qT) (b:qF->Res):Res:=bif jiK i (List.length s) (List.length v) then b (jey s i v) else none
def j5F:Sig Unit:=⟨[.eat y30 false,.borrow tI false,.eat y30 false],[false],λvals ext k=>ao vals y30 [.O] λs vals=>av vals tI λi vals=>ao vals y30 [.O] λv vals=>nl vals<|nl ext<|j49 s i v (λb=>k [w1 y30 b .O] [] [])⟩
theorem jf0:Z17 Tryz.prog 318 j5F:=gS (jnB (U:=0) (fr:=328) (e:=y29) (fl:=[9,116,22]) (S:=91) (E:=162) (I:=3) (B:=4) follows j1D (by kernel_rfl) Tryz.underlying91 (by kernel_rfl) (by kernel_rfl) (by kernel_rfl) (by kernel_rfl) (by kernel_rfl) Tryz.func318 (by kernel_rfl) (by kernel_rfl) (by kernel_rfl) (by kernel_rfl) Tryz.func327 (by kernel_rfl) (by kernel_rfl) (by kernel_rfl) (by kernel_rfl)) (by kernel_rfl)
def j48 (s:List qT) (i:Int) (j:Int) (b:qF->Res):Res:=bif Z8e i j (List.length s) then b (jaT s i j) else none
def j5D:Sig Unit:=⟨[.eat y30 false,.borrow tI false,.borrow tI false],[false],λvals ext k=>ao vals y30 [.O] λs vals=>av vals tI λi vals=>av vals tI λj vals=>nl vals<|nl ext<|j48 s i j (λb=>k [w1 y30 b .O] [] [])⟩
theorem jeY:Z17 Tryz.prog 319 j5D:=gS (jjL (U:=0) (e:=y29) (fl:=[9,116,22]) (S:=91) (E:=162) (I:=3) (B:=4) follows j1D (by kernel_rfl) Tryz.underlying91 (by kernel_rfl) (by kernel_rfl) (by kernel_rfl) Tryz.func319 (by kernel_rfl) (by kernel_rfl) (by kernel_rfl) (by kernel_rfl)) (by kernel_rfl)
def j1q (s:List qR) (i:Int) (v:List qR) (b:qX->Res):Res:=bif jiK i (List.length s) (List.length v) then b (jey s i v) else none
def j69:Sig Unit:=⟨[.eat y32 false,.borrow tI false,.eat y32 false],[false],λvals ext k=>ao vals y32 [.O] λs vals=>av vals tI λi vals=>ao vals y32 [.O] λv vals=>nl vals<|nl ext<|j1q s i v (λb=>k [w1 y32 b .O] [] [])⟩
theorem jfL:Z17 Tryz.prog 296 j69:=gS (jnB (U:=0) (fr:=323) (e:=y31) (fl:=[163]) (S:=94) (E:=165) (I:=3) (B:=4) follows j1D (by kernel_rfl) Tryz.underlying94 (by kernel_rfl) (by kernel_rfl) (by kernel_rfl) (by kernel_rfl) (by kernel_rfl) Tryz.func296 (by kernel_rfl) (by kernel_rfl) (by kernel_rfl) (by kernel_rfl) Tryz.func322 (by kernel_rfl) (by kernel_rfl) (by kernel_rfl) (by kernel_rfl)) (by kernel_rfl)
def j4A (s:List qR) (i:Int) (j:Int) (b:qX->Res):Res:=bif Z8e i j (List.length s) then b (jaT s i j) else none
def j68:Sig Unit:=⟨[.eat y32 false,.borrow tI false,.borrow tI false],[false],λvals ext k=>ao vals y32 [.O] λs vals=>av vals tI λi vals=>av vals tI λj vals=>nl vals<|nl ext<|j4A s i j (λb=>k [w1 y32 b .O] [] [])⟩
theorem jfK:Z17 Tryz.prog 297 j68:=gS (jjL (U:=0) (e:=y31) (fl:=[163]) (S:=94) (E:=165) (I:=3) (B:=4) follows j1D (by kernel_rfl) Tryz.underlying94 (by kernel_rfl) (by kernel_rfl) (by kernel_rfl) Tryz.func297 (by kernel_rfl) (by kernel_rfl) (by kernel_rfl) (by kernel_rfl)) (by kernel_rfl)
def j8k (s:List qV) (i:Int) (j:Int) (b:qW->Res):Res:=bif Z8e i j (List.length s) then b (jaT s i j) else none
def jaM:Sig Unit:=⟨[.eat y3 false,.borrow tI false,.borrow tI false],[false],λvals ext k=>ao vals y3 [.O] λs vals=>av vals tI λi vals=>av vals tI λj vals=>nl vals<|nl ext<|j8k s i j (λb=>k [w1 y3 b .O] [] [])⟩
theorem jgV:Z17 Tryz.prog 324 jaM:=gS (jjL (U:=0) (e:=y2) (fl:=[3,3,9]) (S:=52) (E:=151) (I:=3) (B:=4) follows j1D (by kernel_rfl) Tryz.underlying52 (by kernel_rfl) (by kernel_rfl) (by kernel_rfl) Tryz.func324 (by kernel_rfl) (by kernel_rfl) (by kernel_rfl) (by kernel_rfl)) (by kernel_rfl)
def j1o (d:List qV) (f:List qV) (g:Int) (b:Int) (rec:Int->Res) (h:Unit->Res) (i:Unit->Res):Res:=bif decide (b<g) then bif inb b (List.length d) then bif inb b (List.length f) then bif !(((nth (0,0,eS) d b).1==(nth (0,0,eS) f b).1)&&(((nth (0,0,eS) d b).2.1==(nth (0,0,eS) f b).2.1)&&(sEq (nth (0,0,eS) d b).2.2 (nth (0,0,eS) f b).2.2))) then i () else rec (Z9K (b+1)) else none else none else h ()
def j5L (f:List qV) (g:List qV) (b:Int):Int->(Int->Res)->((Unit->Res)×(Unit->Res))->Res:=λv rec q=>j1o f g b v (λd=>rec (d)) q.1 q.2
def jaN (h:List qV) (i:List qV) (b:Int) (n:Nat) (d:Int) (f:Unit->Res) (g:Unit->Res):Res:=Z1f (j5L h i b) n (d) (f,g)
def jaC:Z1d Unit:=NdL 26 26 [.R 0 y3 .S,.R 1 y3 .S,.I 12,.I 13] [] (λb d=>(b.2.2.2.1)) (λb v=>(b.1,b.2.1,b.2.2.1,v,())) (λd v=>()) (λb d=>j5L b.1 b.2.1 b.2.2.1) λb d f=>((λ_=>f (.exit 0) [] []),(λ_=>f .ret [(4,vB false)] []))
theorem jfY:CN 0 58 Tryz.f128 jaC:=lK Zas [] oN ([],[]) [(0,[],[])] ([4],[]) λ_ _ _ _ _=>by kernel_rfl
def j1k (d:List qV) (f:List qV) (b:Bool->Res):Res:=bif ((nI (List.length d)) != (nI (List.length f))) then b false else jaN d f (nI (List.length d)) Z1c 0 (λ_=>b true) (λ_=>b false)
def j4y:Sig Unit:=sg [.look y3 false,.look y3 false] [false] [(y3,none),(y3,none)] [] λb f k=>j1k b.1 b.2.1 (λd=>k [wB d] [] [])
theorem jbD:SO 128 j4y:=fK (np:=0) Zas [jaC] (oI 58 0 @jfY oN) false Tryz.func128 λ_ _ _ _=>by kernel_rfl
def j4X (s:List qW) (i:Int) (v:List qW) (b:qR->Res):Res:=bif jiK i (List.length s) (List.length v) then b (jey s i v) else none
def j6R:Sig Unit:=⟨[.eat y31 false,.borrow tI false,.eat y31 false],[false],λvals ext k=>ao vals y31 [.O] λs vals=>av vals tI λi vals=>ao vals y31 [.O] λv vals=>nl vals<|nl ext<|j4X s i v (λb=>k [w1 y31 b .O] [] [])⟩
theorem jgW:Z17 Tryz.prog 325 j6R:=gS (jnB (U:=0) (fr:=331) (e:=y3) (fl:=[52]) (S:=163) (E:=61) (I:=3) (B:=4) follows j1D (by kernel_rfl) Tryz.underlying163 (by kernel_rfl) (by kernel_rfl) (by kernel_rfl) (by kernel_rfl) (by kernel_rfl) Tryz.func325 (by kernel_rfl) (by kernel_rfl) (by kernel_rfl) (by kernel_rfl) Tryz.func330 (by kernel_rfl) (by kernel_rfl) (by kernel_rfl) (by kernel_rfl)) (by kernel_rfl)
def j0L (s:List qW) (i:Int) (j:Int) (b:qR->Res):Res:=bif Z8e i j (List.length s) then b (jaT s i j) else none
def j47:Sig Unit:=⟨[.eat y31 false,.borrow tI false,.borrow tI false],[false],λvals ext k=>ao vals y31 [.O] λs vals=>av vals tI λi vals=>av vals tI λj vals=>nl vals<|nl ext<|j0L s i j (λb=>k [w1 y31 b .O] [] [])⟩
theorem jaJ:Z17 Tryz.prog 301 j47:=gS (jjL (U:=0) (e:=y3) (fl:=[52]) (S:=163) (E:=61) (I:=3) (B:=4) follows j1D (by kernel_rfl) Tryz.underlying163 (by kernel_rfl) (by kernel_rfl) (by kernel_rfl) Tryz.func301 (by kernel_rfl) (by kernel_rfl) (by kernel_rfl) (by kernel_rfl)) (by kernel_rfl)
end
end Go.PI.G
