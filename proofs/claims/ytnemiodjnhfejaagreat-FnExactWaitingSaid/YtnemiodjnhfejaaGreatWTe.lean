/-
  Program's code interpreted over typed values; printed texts; plain laws. No conditions.
-/
import Derived.Test.YtnemiodjnhfejaaGreatWTd
set_option linter.unusedVariables false
set_option maxRecDepth 100000
namespace Go.PI.G
noncomputable section
open Go Go.PI Go.Proofs
open Go.Code (pl pr)
def j1q (d:List qC) (f:List qC) (g:Int) (b:Int) (rec:Int->Res) (h:Unit->Res) (i:Unit->Res):Res:=bif decide (b<g) then bif inb b (List.length d) then bif inb b (List.length f) then bif !((sEq (nth (eS,0,false,false,0,0,eS) d b).1 (nth (eS,0,false,false,0,0,eS) f b).1)&&(((nth (eS,0,false,false,0,0,eS) d b).2.1==(nth (eS,0,false,false,0,0,eS) f b).2.1)&&(((nth (eS,0,false,false,0,0,eS) d b).2.2.1==(nth (eS,0,false,false,0,0,eS) f b).2.2.1)&&(((nth (eS,0,false,false,0,0,eS) d b).2.2.2.1==(nth (eS,0,false,false,0,0,eS) f b).2.2.2.1)&&(((nth (eS,0,false,false,0,0,eS) d b).2.2.2.2.1==(nth (eS,0,false,false,0,0,eS) f b).2.2.2.2.1)&&(((nth (eS,0,false,false,0,0,eS) d b).2.2.2.2.2.1==(nth (eS,0,false,false,0,0,eS) f b).2.2.2.2.2.1)&&(sEq (nth (eS,0,false,false,0,0,eS) d b).2.2.2.2.2.2 (nth (eS,0,false,false,0,0,eS) f b).2.2.2.2.2.2))))))) then i () else rec (Z9K (b+1)) else none else none else h ()
def j6a (f:List qC) (g:List qC) (b:Int):Int->(Int->Res)->((Unit->Res)×(Unit->Res))->Res:=λv rec q=>j1q f g b v (λd=>rec (d)) q.1 q.2
def j7j (h:List qC) (i:List qC) (b:Int) (n:Nat) (d:Int) (f:Unit->Res) (g:Unit->Res):Res:=Z1f (j6a h i b) n (d) (f,g)
def jaV:Z1d Unit:=NdL 26 26 [.R 0 y8 .S,.R 1 y8 .S,.I 12,.I 13] [] (λb d=>(b.2.2.2.1)) (λb v=>(b.1,b.2.1,b.2.2.1,v,())) (λd v=>()) (λb d=>j6a b.1 b.2.1 b.2.2.1) λb d f=>((λ_=>f (.exit 0) [] []),(λ_=>f .ret [(4,vB false)] []))
theorem jg9:CN 0 58 Tryz.f256 jaV:=lK Zas [] oN ([],[]) [(0,[],[])] ([4],[]) λ_ _ _ _ _=>by kernel_rfl
def j1j (d:List qC) (f:List qC) (b:Bool->Res):Res:=bif ((nI (List.length d)) != (nI (List.length f))) then b false else j7j d f (nI (List.length d)) Z1c 0 (λ_=>b true) (λ_=>b false)
def jbW:Sig Unit:=sg [.look y8 false,.look y8 false] [false] [(y8,none),(y8,none)] [] λb f k=>j1j b.1 b.2.1 (λd=>k [wB d] [] [])
theorem jhk:SO 256 jbW:=fK (np:=0) Zas [jaV] (oI 58 0 @jg9 oN) false Tryz.func256 λ_ _ _ _=>by kernel_rfl
def jdE (f:qL) (g:qL) (d:Int) (b:Int) (rec:Int->Res) (h:Unit->Res) (i:Unit->Res):Res:=bif decide (b<d) then bif inb b (List.length f) then bif inb b (List.length g) then bif sNe (nth eS f b) (nth eS g b) then i () else rec (Z9K (b+1)) else none else none else h ()
def j7Z (f:qL) (g:qL) (b:Int):Int->(Int->Res)->((Unit->Res)×(Unit->Res))->Res:=λv rec q=>jdE f g b v (λd=>rec (d)) q.1 q.2
def j91 (h:qL) (i:qL) (b:Int) (n:Nat) (d:Int) (f:Unit->Res) (g:Unit->Res):Res:=Z1f (j7Z h i b) n (d) (f,g)
def j8x:Z1d Unit:=NdL 26 26 [.R 0 y0 .S,.R 1 y0 .S,.I 12,.I 13] [] (λb d=>(b.2.2.2.1)) (λb v=>(b.1,b.2.1,b.2.2.1,v,())) (λd v=>()) (λb d=>j7Z b.1 b.2.1 b.2.2.1) λb d f=>((λ_=>f (.exit 0) [] []),(λ_=>f .ret [(4,vB false)] []))
theorem jdU:CN 0 58 Tryz.f257 j8x:=lK Zas [] oN ([],[]) [(0,[],[])] ([4],[]) λ_ _ _ _ _=>by kernel_rfl
def j1Z (d:qL) (f:qL) (b:Bool->Res):Res:=bif ((nI (List.length d)) != (nI (List.length f))) then b false else j91 d f (nI (List.length d)) Z1c 0 (λ_=>b true) (λ_=>b false)
def j9Y:Sig Unit:=sg [.look y0 false,.look y0 false] [false] [(y0,none),(y0,none)] [] λb f k=>j1Z b.1 b.2.1 (λd=>k [wB d] [] [])
theorem jfc:SO 257 j9Y:=fK (np:=0) Zas [j8x] (oI 58 0 @jdU oN) false Tryz.func257 λ_ _ _ _=>by kernel_rfl
def j1s (s:List Int) (h:Int) (g:Int) (b:Int) (rec:Int->Res) (d:Unit->Res) (f:Int->Res):Res:=bif decide (b<g) then bif inb b (List.length s) then bif (h==(nth 0 s b)) then f b else rec (Z9K (b+1)) else none else d ()
def j6c (s:List Int) (f:Int) (b:Int):Int->(Int->Res)->((Unit->Res)×(Int->Res))->Res:=λv rec q=>j1s s f b v (λd=>rec (d)) q.1 q.2
def jb9 (s:List Int) (h:Int) (f:Int) (n:Nat) (g:Int) (b:Unit->Res) (d:Int->Res):Res:=Z1f (j6c s h f) n (g) (b,d)
def jaX:Z1d Unit:=NdL 19 19 [.R 0 y21 .S,.I 1,.I 7,.I 8] [] (λb d=>(b.2.2.2.1)) (λb v=>(b.1,b.2.1,b.2.2.1,v,())) (λd v=>()) (λb d=>j6c b.1 b.2.1 b.2.2.1) λb d f=>((λ_=>f (.exit 0) [] []),(λg=>f .ret [(4,vI g)] []))
theorem jgb:CN 0 26 Tryz.f279 jaX:=lK Zas [] oN ([],[]) [(0,[],[])] ([4],[]) λ_ _ _ _ _=>by kernel_rfl
def j9w (s:List Int) (d:Int) (b:Int->Res):Res:=jb9 s d (nI (List.length s)) Z1c 0 (λ_=>b (-1)) (λt=>b t)
def jhW:Sig Unit:=sg [.look y21 false,.look tI false] [false] [(y21,none),(tI,none)] [] λb f k=>j9w b.1 b.2.1 (λd=>k [wI d] [] [])
theorem jhl:SO 279 jhW:=fK (np:=0) Zas [jaX] (oI 26 0 @jgb oN) false Tryz.func279 λ_ _ _ _=>by kernel_rfl
def j14 (s:List Int) (d:Int) (b:Bool->Res):Res:=j9w s d λr=>b (decide (r>=0))
def j62:Sig Unit:=sg [.look y21 false,.look tI false] [false] [(y21,none),(tI,none)] [] λb f k=>j14 b.1 b.2.1 (λd=>k [wB d] [] [])
theorem jfa:SO 223 j62:=fK (np:=0) (Za6 jhl Zas) [] oN false Tryz.func223 λ_ _ _ _=>by kernel_rfl
def j0b (s:qL) (h:qB) (g:Int) (b:Int) (rec:Int->Res) (d:Unit->Res) (f:Int->Res):Res:=bif decide (b<g) then bif inb b (List.length s) then bif sEq h (nth eS s b) then f b else rec (Z9K (b+1)) else none else d ()
def j1B (s:qL) (f:qB) (b:Int):Int->(Int->Res)->((Unit->Res)×(Int->Res))->Res:=λv rec q=>j0b s f b v (λd=>rec (d)) q.1 q.2
def j5d (s:qL) (h:qB) (f:Int) (n:Nat) (g:Int) (b:Unit->Res) (d:Int->Res):Res:=Z1f (j1B s h f) n (g) (b,d)
def j8y:Z1d Unit:=NdL 19 19 [.R 0 y0 .S,.S 1,.I 7,.I 8] [] (λb d=>(b.2.2.2.1)) (λb v=>(b.1,b.2.1,b.2.2.1,v,())) (λd v=>()) (λb d=>j1B b.1 b.2.1 b.2.2.1) λb d f=>((λ_=>f (.exit 0) [] []),(λg=>f .ret [(4,vI g)] []))
theorem jdV:CN 0 26 Tryz.f166 j8y:=lK Zas [] oN ([],[]) [(0,[],[])] ([4],[]) λ_ _ _ _ _=>by kernel_rfl
def j0N (s:qL) (d:qB) (b:Int->Res):Res:=j5d s d (nI (List.length s)) Z1c 0 (λ_=>b (-1)) (λt=>b t)
def j64:Sig Unit:=sg [.look y0 false,.look .str false] [false] [(y0,none),(.str,none)] [] λb f k=>j0N b.1 b.2.1 (λd=>k [wI d] [] [])
theorem j9T:SO 166 j64:=fK (np:=0) Zas [j8y] (oI 26 0 @jdV oN) false Tryz.func166 λ_ _ _ _=>by kernel_rfl
def j1c (s:qL) (d:qB) (b:Bool->Res):Res:=j0N s d λr=>b (decide (r>=0))
def j40:Sig Unit:=sg [.look y0 false,.look .str false] [false] [(y0,none),(.str,none)] [] λb f k=>j1c b.1 b.2.1 (λd=>k [wB d] [] [])
theorem jd2:SO 95 j40:=fK (np:=0) (Za6 j9T Zas) [] oN false Tryz.func95 λ_ _ _ _=>by kernel_rfl
def j4p (s:List qT) (i:Int) (v:List qT) (b:qF->Res):Res:=bif jj9 i (List.length s) (List.length v) then b (jeP s i v) else none
def j65:Sig Unit:=⟨[.eat y30 false,.borrow tI false,.eat y30 false],[false],λvals ext k=>ao vals y30 [.O] λs vals=>av vals tI λi vals=>ao vals y30 [.O] λv vals=>nl vals<|nl ext<|j4p s i v (λb=>k [w1 y30 b .O] [] [])⟩
theorem jfd:Z17 Tryz.prog 318 j65:=gS (jnB (U:=0) (fr:=328) (e:=y29) (fl:=[9,116,22]) (S:=91) (E:=162) (I:=3) (B:=4) follows j2e (by kernel_rfl) Tryz.underlying91 (by kernel_rfl) (by kernel_rfl) (by kernel_rfl) (by kernel_rfl) (by kernel_rfl) Tryz.func318 (by kernel_rfl) (by kernel_rfl) (by kernel_rfl) (by kernel_rfl) Tryz.func327 (by kernel_rfl) (by kernel_rfl) (by kernel_rfl) (by kernel_rfl)) (by kernel_rfl)
def j4o (s:List qT) (i:Int) (j:Int) (b:qF->Res):Res:=bif Z8e i j (List.length s) then b (jbd s i j) else none
def j63:Sig Unit:=⟨[.eat y30 false,.borrow tI false,.borrow tI false],[false],λvals ext k=>ao vals y30 [.O] λs vals=>av vals tI λi vals=>av vals tI λj vals=>nl vals<|nl ext<|j4o s i j (λb=>k [w1 y30 b .O] [] [])⟩
theorem jfb:Z17 Tryz.prog 319 j63:=gS (jk3 (U:=0) (e:=y29) (fl:=[9,116,22]) (S:=91) (E:=162) (I:=3) (B:=4) follows j2e (by kernel_rfl) Tryz.underlying91 (by kernel_rfl) (by kernel_rfl) (by kernel_rfl) Tryz.func319 (by kernel_rfl) (by kernel_rfl) (by kernel_rfl) (by kernel_rfl)) (by kernel_rfl)
def j1t (s:List qR) (i:Int) (v:List qR) (b:qX->Res):Res:=bif jj9 i (List.length s) (List.length v) then b (jeP s i v) else none
def j6B:Sig Unit:=⟨[.eat y32 false,.borrow tI false,.eat y32 false],[false],λvals ext k=>ao vals y32 [.O] λs vals=>av vals tI λi vals=>ao vals y32 [.O] λv vals=>nl vals<|nl ext<|j1t s i v (λb=>k [w1 y32 b .O] [] [])⟩
theorem jfW:Z17 Tryz.prog 296 j6B:=gS (jnB (U:=0) (fr:=323) (e:=y31) (fl:=[163]) (S:=94) (E:=165) (I:=3) (B:=4) follows j2e (by kernel_rfl) Tryz.underlying94 (by kernel_rfl) (by kernel_rfl) (by kernel_rfl) (by kernel_rfl) (by kernel_rfl) Tryz.func296 (by kernel_rfl) (by kernel_rfl) (by kernel_rfl) (by kernel_rfl) Tryz.func322 (by kernel_rfl) (by kernel_rfl) (by kernel_rfl) (by kernel_rfl)) (by kernel_rfl)
def j4Y (s:List qR) (i:Int) (j:Int) (b:qX->Res):Res:=bif Z8e i j (List.length s) then b (jbd s i j) else none
def j6A:Sig Unit:=⟨[.eat y32 false,.borrow tI false,.borrow tI false],[false],λvals ext k=>ao vals y32 [.O] λs vals=>av vals tI λi vals=>av vals tI λj vals=>nl vals<|nl ext<|j4Y s i j (λb=>k [w1 y32 b .O] [] [])⟩
theorem jfV:Z17 Tryz.prog 297 j6A:=gS (jk3 (U:=0) (e:=y31) (fl:=[163]) (S:=94) (E:=165) (I:=3) (B:=4) follows j2e (by kernel_rfl) Tryz.underlying94 (by kernel_rfl) (by kernel_rfl) (by kernel_rfl) Tryz.func297 (by kernel_rfl) (by kernel_rfl) (by kernel_rfl) (by kernel_rfl)) (by kernel_rfl)
def j8F (s:List qV) (i:Int) (j:Int) (b:qW->Res):Res:=bif Z8e i j (List.length s) then b (jbd s i j) else none
def jb7:Sig Unit:=⟨[.eat y3 false,.borrow tI false,.borrow tI false],[false],λvals ext k=>ao vals y3 [.O] λs vals=>av vals tI λi vals=>av vals tI λj vals=>nl vals<|nl ext<|j8F s i j (λb=>k [w1 y3 b .O] [] [])⟩
theorem jgZ:Z17 Tryz.prog 324 jb7:=gS (jk3 (U:=0) (e:=y2) (fl:=[3,3,9]) (S:=52) (E:=151) (I:=3) (B:=4) follows j2e (by kernel_rfl) Tryz.underlying52 (by kernel_rfl) (by kernel_rfl) (by kernel_rfl) Tryz.func324 (by kernel_rfl) (by kernel_rfl) (by kernel_rfl) (by kernel_rfl)) (by kernel_rfl)
def j1r (d:List qV) (f:List qV) (g:Int) (b:Int) (rec:Int->Res) (h:Unit->Res) (i:Unit->Res):Res:=bif decide (b<g) then bif inb b (List.length d) then bif inb b (List.length f) then bif !(((nth (0,0,eS) d b).1==(nth (0,0,eS) f b).1)&&(((nth (0,0,eS) d b).2.1==(nth (0,0,eS) f b).2.1)&&(sEq (nth (0,0,eS) d b).2.2 (nth (0,0,eS) f b).2.2))) then i () else rec (Z9K (b+1)) else none else none else h ()
def j6b (f:List qV) (g:List qV) (b:Int):Int->(Int->Res)->((Unit->Res)×(Unit->Res))->Res:=λv rec q=>j1r f g b v (λd=>rec (d)) q.1 q.2
def jb8 (h:List qV) (i:List qV) (b:Int) (n:Nat) (d:Int) (f:Unit->Res) (g:Unit->Res):Res:=Z1f (j6b h i b) n (d) (f,g)
def jaW:Z1d Unit:=NdL 26 26 [.R 0 y3 .S,.R 1 y3 .S,.I 12,.I 13] [] (λb d=>(b.2.2.2.1)) (λb v=>(b.1,b.2.1,b.2.2.1,v,())) (λd v=>()) (λb d=>j6b b.1 b.2.1 b.2.2.1) λb d f=>((λ_=>f (.exit 0) [] []),(λ_=>f .ret [(4,vB false)] []))
theorem jga:CN 0 58 Tryz.f128 jaW:=lK Zas [] oN ([],[]) [(0,[],[])] ([4],[]) λ_ _ _ _ _=>by kernel_rfl
def j1k (d:List qV) (f:List qV) (b:Bool->Res):Res:=bif ((nI (List.length d)) != (nI (List.length f))) then b false else jb8 d f (nI (List.length d)) Z1c 0 (λ_=>b true) (λ_=>b false)
def j4W:Sig Unit:=sg [.look y3 false,.look y3 false] [false] [(y3,none),(y3,none)] [] λb f k=>j1k b.1 b.2.1 (λd=>k [wB d] [] [])
theorem jbR:SO 128 j4W:=fK (np:=0) Zas [jaW] (oI 58 0 @jga oN) false Tryz.func128 λ_ _ _ _=>by kernel_rfl
def j5l (s:List qW) (i:Int) (v:List qW) (b:qR->Res):Res:=bif jj9 i (List.length s) (List.length v) then b (jeP s i v) else none
def j7i:Sig Unit:=⟨[.eat y31 false,.borrow tI false,.eat y31 false],[false],λvals ext k=>ao vals y31 [.O] λs vals=>av vals tI λi vals=>ao vals y31 [.O] λv vals=>nl vals<|nl ext<|j5l s i v (λb=>k [w1 y31 b .O] [] [])⟩
theorem jh0:Z17 Tryz.prog 325 j7i:=gS (jnB (U:=0) (fr:=331) (e:=y3) (fl:=[52]) (S:=163) (E:=61) (I:=3) (B:=4) follows j2e (by kernel_rfl) Tryz.underlying163 (by kernel_rfl) (by kernel_rfl) (by kernel_rfl) (by kernel_rfl) (by kernel_rfl) Tryz.func325 (by kernel_rfl) (by kernel_rfl) (by kernel_rfl) (by kernel_rfl) Tryz.func330 (by kernel_rfl) (by kernel_rfl) (by kernel_rfl) (by kernel_rfl)) (by kernel_rfl)
def j0L (s:List qW) (i:Int) (j:Int) (b:qR->Res):Res:=bif Z8e i j (List.length s) then b (jbd s i j) else none
def j4n:Sig Unit:=⟨[.eat y31 false,.borrow tI false,.borrow tI false],[false],λvals ext k=>ao vals y31 [.O] λs vals=>av vals tI λi vals=>av vals tI λj vals=>nl vals<|nl ext<|j0L s i j (λb=>k [w1 y31 b .O] [] [])⟩
theorem jb3:Z17 Tryz.prog 301 j4n:=gS (jk3 (U:=0) (e:=y3) (fl:=[52]) (S:=163) (E:=61) (I:=3) (B:=4) follows j2e (by kernel_rfl) Tryz.underlying163 (by kernel_rfl) (by kernel_rfl) (by kernel_rfl) Tryz.func301 (by kernel_rfl) (by kernel_rfl) (by kernel_rfl) (by kernel_rfl)) (by kernel_rfl)
end
end Go.PI.G
