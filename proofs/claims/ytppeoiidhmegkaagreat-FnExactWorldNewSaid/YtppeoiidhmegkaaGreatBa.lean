/-
  Program's code interpreted over typed values; printed texts; plain laws. No conditions.
-/
import Derived.Test.YtppeoiidhmegkaaGreatPc
import Derived.Test.YtppeoiidhmegkaaGreatProg
set_option linter.unusedVariables false
namespace Go.PI
abbrev Fns {R:Type} (P:Program) (l:List (FuncId×Sig R)):Prop:=∀ (g:Nat) (sig:Sig R),Z0s l g=some sig->Z1p P g sig
abbrev tI:Ty:= .int .i64
abbrev vI (x:Int):TV:= .val ⟨.int .i64,false,x,[]⟩
abbrev vB (x:Bool):TV:= .val ⟨.bool,false,x,[]⟩
abbrev vS (x:ByteArray):TV:= .val ⟨.str,false,x,[]⟩
abbrev v1 (τ:Ty) (x:El τ) (t:Tag):TV:= .val ⟨τ,false,x,[t]⟩
abbrev wI (x:Int):TVal:=⟨.int .i64,false,x,[]⟩
abbrev wB (x:Bool):TVal:=⟨.bool,false,x,[]⟩
abbrev wS (x:ByteArray):TVal:=⟨.str,false,x,[]⟩
abbrev w1 (τ:Ty) (x:El τ) (t:Tag):TVal:=⟨τ,false,x,[t]⟩
abbrev pB (i:Nat):TV:= .ptr ⟨true,i,[]⟩
section
variable {R:Type} {r:R}
noncomputable abbrev rdI (σ:State) (i:Nat) (f:Int->Option R):Option R:=rdV σ i (.int .i64) false [] f
noncomputable abbrev rdO (σ:State) (i:Nat) (f:Bool->Option R):Option R:=rdV σ i .bool false [] f
noncomputable abbrev rdS (σ:State) (i:Nat) (f:ByteArray->Option R):Option R:=rdV σ i .str false [] f
noncomputable abbrev rd1 (σ:State) (i:Nat) (τ:Ty) (t:Tag) (f:El τ->Option R):Option R:=rdV σ i τ false [t] f
theorem aV {l:List TVal} {τ:Ty} {f:El τ->List TVal->Option R} {C:Prop} (h:av l τ f=some r) (c:∀ x a t l',l=⟨τ,a,x,t⟩::l'->f x l'=some r->C):C:=
 have ⟨x,a,t,l',e,h2⟩:=Z91 h;c x a t l' e h2
theorem aO {l:List TVal} {τ:Ty} {tg:List Tag} {f:El τ->List TVal->Option R} {C:Prop} (h:ao l τ tg f=some r) (c:∀ a x l',l=⟨τ,a,x,tg⟩::l'->f x l'=some r->C):C:=
 have ⟨a,x,l',e,h2⟩:=Z90 h;c a x l' e h2
theorem nL {l:List TVal} {f:Option R} {C:Prop} (h:nl l f=some r) (c:l=[]->f=some r->C):C:=
 have ⟨e,h2⟩:=Z98 h;c e h2
variable {σ:State} {C:Prop}
theorem rN {n:Nat} {f:Option R} (h:rdN σ n f=some r) (c:σ.slots.length=n->f=some r->C):C:=
 have h:=Z8O h;c h.1 h.2
theorem rV {i:Nat} {τ:Ty} {ag:Bool} {tg:List Tag} {f:El τ->Option R} (h:rdV σ i τ ag tg f=some r) (c:∀ x,σ.slot i= .val ⟨τ,ag,x,tg⟩->f x=some r->C):C:=
 have ⟨x,h1,h2⟩:=Z8R h;c x h1 h2
theorem rC {i:Nat} {f:FuncId} {τs:List Ty} {τ:Ty} {tg:List Tag} {k:El τ->Option R} (h:rdC σ i f τs τ tg k=some r) (c:∀ x,σ.slot i= .sclos f τs ⟨τ,false,x,tg⟩->k x=some r->C):C:=
 have ⟨x,h1,h2⟩:=Z8M h;c x h1 h2
theorem rB {i:Nat} {τ:Ty} {tg:List Tag} {f:Bool->El τ->Option R} (h:rdB σ i τ tg f=some r) (c:∀ a x,σ.boxAt i=some ⟨τ,a,x,tg⟩->f a x=some r->C):C:=
 have ⟨a,x,h1,h2⟩:=Z8L h;c a x h1 h2
theorem rT {i:Nat} {p:TV} {f:Option R} (h:rdT σ i p f=some r) (c:σ.slot i=p->f=some r->C):C:=
 have h:=Z8P h;c h.1 h.2
theorem sC {i:Nat} {v:TV} {l:List (Nat×TV)} (h:σ.slot i=v) (t:Z3E σ l):Z3E σ ((i,v)::l):=⟨h,t⟩
theorem sN:Z3E σ []:=trivial
theorem bC {i:Nat} {v:TVal} {l:List (Nat×TVal)} (h:σ.boxAt i=some v) (t:Z3C σ l):Z3C σ ((i,v)::l):=⟨h,t⟩
theorem bN:Z3C σ []:=trivial
end
theorem gz {α:Type} {C:Prop} (a:α) (h:∀ F,F=a->C):C:=h a rfl
def jhq:Nat->Nat->List Bool->List Bool
 | 0,_,l=>l
 | f+1,n,l=>bif Nat.ble n 1 then l else jhq f (n / 2) (Nat.beq (n % 2) 1::l)
def bits (n:Nat):List Bool:=jhq 300 n []
noncomputable def jgg:List Bool->Code->Code
 | [],c=>c
 | b::p,c=>jgg p (bif b then c.pr else c.pl)
noncomputable def cAt (n:Nat) (c:Code):Code:=jgg (bits n) c
def bo (f:Func):Code:=f.body.getD .skip
noncomputable def HT.ins:List Bool->Nat->HT->HT
 | [],i,_=> .x i
 | false::p,i,h=> .t (HT.ins p i h.l) h.r
 | true::p,i,h=> .t h.l (HT.ins p i h.r)
section
variable {R:Type} {r:R} {P:Program} {np:Nat} {X:List (Z1q R)}
theorem Z1F.lr' {t:HT} {c:Code} (h:Z1F P np X t c):(Z1F P np X t.l c.pl)/\(Z1F P np X t.r c.pr):=by
 cases t with
 | o=>exact ⟨trivial,trivial⟩
 | x i=>exact ⟨trivial,trivial⟩
 | t a b=>exact h
theorem jfv {i:Nat}:(p:List Bool)->(t:HT)->(c:Code)->Z1F P np X t c->(∀ (W0:Base) (M:Nat->Prop),W0.np<=np->Z22 P W0 M (jgg p c) (Z0t (λ_ _=>none) X i))->Z1F P np X (HT.ins p i t) c
 | [],_,_,_,hx=>hx
 | false::p,t,c,h,hx=>⟨jfv p t.l c.pl h.lr'.1 hx,h.lr'.2⟩
 | true::p,t,c,h,hx=>⟨h.lr'.1,jfv p t.r c.pr h.lr'.2 hx⟩
theorem oI (p i:Nat) {t:HT} {c c':Code} {y:Z1q R} (hx:∀ {W0:Base} {M:Nat->Prop},W0.np<=np->Z22 P W0 M c' y) (h:Z1F P np X t c)
  (e:jgg (bits p) c=c':=by kernel_rfl) (e2:Z0t (λ_ _=>none) X i=y:=by kernel_rfl):Z1F P np X (HT.ins (bits p) i t) c:=
 jfv (bits p) t c h λW0 M hn=>by rw [e,e2];exact hx hn
theorem oN {c:Code}:Z1F P np X .o c:=trivial
variable {ty:List (TypeId×Ty×List TypeId)} {l:List (FuncId×Sig R)} [Subsingleton R]
theorem j3O (hm:P.follows .mixedOrders=true) (hT:Z0d P ty) (hS:∀ g sig,Z0s l g=some sig->Z1p P g sig) {W0:Base} {M:Nat->Prop} (hnp:W0.np<=np) (X:List (Z1q R)) {c:Code} {ht:HT} (hO:Z1F P np X ht c)
  (n:List Nat×List Nat) (x:List (Nat×List Nat×List Nat)) (rr:List Nat×List Nat) {y:Z1q R}
  (h:∀ σ k r',y σ k=some r'->∃ σ',Z2R σ' σ/\Z0V ⟨ty,l,np⟩ X ht c σ' (λe σ''=>k e (Z8i n x rr e σ''))=some r'):Z22 P W0 M c y:=
 Z99 (Z6Y (Γ:=⟨ty,l,np⟩) hm hT (Z7S hS) hnp X c ht hO) (Z92 _ _ _) h
theorem j0a (hm:P.follows .mixedOrders=true) (hT:Z0d P ty) (hS:∀ g sig,Z0s l g=some sig->Z1p P g sig) {W0:Base} {M:Nat->Prop} (hnp:W0.np<=np) (X:List (Z1q R)) {c:Code} {ht:HT} (hO:Z1F P np X ht c.pl)
  (ks bs:List Nat) (n:List Nat×List Nat) (x:List (Nat×List Nat×List Nat)) (rr:List Nat×List Nat) {y:Z1q R}
  (h:∀ σ k r',y σ k=some r'->∃ σ',Z2R σ' σ/\Z44 (Z0V ⟨ty,l,np⟩ X ht c.pl) (λσ=>σ.forget ks bs) (Z8i n x rr) Z12 σ' k=some r')
  (hc:c= .loop c.pl:=by kernel_rfl):Z22 P W0 M c y:=by
 rw [hc]
 exact Z95 (Z6Y (Γ:=⟨ty,l,np⟩) hm hT (Z7S hS) hnp X c.pl ht hO) (Z92 _ _ _) Z12 h
theorem j02 (hm:P.follows .mixedOrders=true) (hT:Z0d P ty) (hS:∀ g sig,Z0s l g=some sig->Z1p P g sig) {f:FuncId} {fn:Func} (X:List (Z1q R)) {ht:HT} (hO:Z1F P np X ht (bo fn)) (fz:Bool) (hf:P.funcs[f]? = some fn)
  {modes:List Mode} {ags:List Bool} {run:List TVal->List TVal->(List TVal->List TVal->List TVal->Option R)->Option R}
  (h:∀ vals ext k r',run vals ext k=some r'->Z75 ⟨ty,l,np⟩ X ht fz fn modes ags vals ext k=some r')
  (hname : (fn.name == "runtime.NumGoroutine") = false := by kernel_rfl) (hb : fn.body = some (bo fn) := by kernel_rfl) (hn : Nat.ble modes.length fn.ntmps = true := by kernel_rfl) : Z1p P f (⟨modes, ags, run⟩ : Sig R) :=
 Z8V (Γ:=⟨ty,l,np⟩) hm hT hS hO hf hname hb (Nat.le_of_ble_eq_true hn) h
end
end Go.PI
set_option maxRecDepth 100000
namespace Go.PI.G
open Go Go.PI Go.Proofs
open Go.Code (pl pr)
abbrev qV:=Int×Int×ByteArray
abbrev qW:=List qV
abbrev qC:=ByteArray×Int×Bool×Bool×Int×Int×ByteArray
abbrev qE:=List qC
abbrev qT:=ByteArray×qE×List ByteArray
abbrev qF:=List qT
abbrev qR:=List qW
abbrev qX:=List qR
abbrev qD:=qF×List qR
abbrev qB:=ByteArray
abbrev qL:=List ByteArray
abbrev qS:=Int×ByteArray×qW×qW×Int×ByteArray×qE×List ByteArray×ByteArray×ByteArray
abbrev qG:=Int×ByteArray×qE×List ByteArray×ByteArray×ByteArray
abbrev qP:=Int×Int×qS
abbrev qQ:=Int×qP×Int×Int×Int
abbrev qU:=List qS
abbrev y0:Ty:= .slice (.int .u8)
abbrev y1:Ty:= .slice .str
abbrev y2:Ty:= .pair tI .str
abbrev y3:Ty:= .pair tI y2
abbrev y4:Ty:= .slice y3
abbrev y5:Ty:= .pair .bool y3
abbrev y6:Ty:= .pair .bool y5
abbrev y7:Ty:= .pair tI y6
abbrev y8:Ty:= .pair .str y7
abbrev y9:Ty:= .slice y8
abbrev y10:Ty:= .pair .str .str
abbrev y11:Ty:= .pair y1 y10
abbrev y12:Ty:= .pair y9 y11
abbrev y13:Ty:= .pair .str y12
abbrev y14:Ty:= .pair tI y13
abbrev y15:Ty:= .pair y4 y14
abbrev y16:Ty:= .pair y4 y15
abbrev y17:Ty:= .pair .str y16
abbrev y18:Ty:= .pair tI y17
abbrev y19:Ty:= .pair tI y18
abbrev y20:Ty:= .pair tI y19
abbrev y21:Ty:= .pair y9 y1
abbrev y22:Ty:= .pair .str y21
abbrev y23:Ty:= .slice y22
abbrev y24:Ty:= .slice y4
abbrev y25:Ty:= .slice y24
abbrev y26:Ty:= .pair y23 y25
abbrev y27:Ty:= .slice y20
abbrev y28:Ty:= .pair tI tI
abbrev y29:Ty:= .pair y26 y28
abbrev y30:Ty:= .slice y0
abbrev y31:Ty:= .slice tI
abbrev y32:Ty:= .pair y30 y31
abbrev y33:Ty:= .pair y29 y32
abbrev y34:Ty:= .pair y29 y33
abbrev y35:Ty:= .pair y1 y34
abbrev y36:Ty:= .pair y27 y35
def jhz:qB:=⟨#[109,48]⟩
def z_m:qB:=⟨#[109]⟩
def tys:List (TypeId×Ty×List TypeId):=[(3,tI,[]),
 (4,.bool,[]),
 (5,(.int .u8),[]),
 (9,.str,[]),
 (22,y0,[]),
 (31,y0,[22]),
 (38,y1,[]),
 (40,y1,[38]),
 (47,y1,[38]),
 (53,y4,[]),
 (55,y4,[53]),
 (56,y9,[]),
 (58,y14,[3,9,56,38,9,9]),
 (60,y18,[3,9,53,55,58]),
 (71,y20,[3,3,60]),
 (88,y23,[]),
 (90,y23,[88]),
 (91,y25,[]),
 (93,y26,[90,91]),
 (95,y27,[]),
 (96,y23,[]),
 (98,y23,[96]),
 (99,y25,[]),
 (101,y26,[98,99]),
 (103,y29,[101,3,3]),
 (104,y30,[]),
 (106,y30,[104]),
 (107,y31,[]),
 (109,y36,[95,47,103,103,106,107]),
 (163,y3,[3,3,9]),
 (165,y8,[9,3,4,4,163]),
 (220,y4,[]),
 (222,y4,[220]),
 (223,y9,[]),
 (253,y22,[9,56,38]),
 (254,y24,[]),
 (257,y24,[254]),
 (274,y24,[]),
 (276,y24,[274]),
 (317,y22,[9,223,38]),
 (368,y3,[3,3,9]),
 (386,y8,[9,3,4,4,368])]
theorem follows:Tryz.prog.follows .mixedOrders=true:=by kernel_rfl
theorem j01:Z0d Tryz.prog tys:=Z9f (by kernel_rfl)
end Go.PI.G
namespace Go.PI.G
open Go Go.PI Go.Proofs
open Go.Code (pl pr)
noncomputable def j2r (s:qB) (i:Int) (rec:Int->Res) (k0:Unit->Res) (k1:Unit->Res):Res:=
 bif decide (i<(nI (ByteArray.size s))) then
  bif inb i (ByteArray.size s) then
   bif decide ((bt s i)<97) then
    k1 ()
   else
    bif inb i (ByteArray.size s) then
     bif decide ((bt s i)>122) then
      k1 ()
     else
      rec (Z8o (i+1))
    else none
  else none
 else
  k0 ()
noncomputable def j5V (s:qB):Int->(Int->Res)->((Unit->Res)×(Unit->Res))->Res:=λv rec q=>j2r s v (λi=>rec (i)) q.1 q.2
noncomputable def j7e (s:qB) (n:Nat) (i:Int) (k0:Unit->Res) (k1:Unit->Res):Res:=Z14 (j5V s) n (i) (k0,k1)
noncomputable def j9J:Z1q Unit:=λσ k=>rdN σ 28<|rdS σ 0 λs=>rdI σ 3 λi=>j7e s Z12 i (λ(_:Unit)=>k (.exit 0) (mkS 28 28 [(0,vS s)] [])) (λ(_:Unit)=>k .ret (mkS 28 28 [(2,vB false)] []))
theorem jdj {W0:Base} {M:Nat->Prop} (hnp:W0.np<=0):Z22 Tryz.prog W0 M (cAt 26 (bo Tryz.f104)) j9J:=j0a follows j01 Z94 hnp [] oN [0,3] [] ([],[]) [(0,[0],[])] ([2],[]) λσ k _ h=>rN h λhn h=>rV h λs h0 h=>rV h λi h3 h=>⟨_,Z9m (m:=28) hn (sC h0 (sC h3 sN)) bN,.trans (Z88 (λv:Int=>(mkS 28 28 [(0,vS s),(3,vI v)] [])) (j5V s) (λ(k:Z6O Unit)=>(((λ(_:Unit)=>k (.exit 0) (mkS 28 28 [(0,vS s)] [])),(λ(_:Unit)=>k .ret (mkS 28 28 [(2,vB false)] []))):(Unit->Res)×(Unit->Res))) (λv rec k=>by kernel_rfl) Z12 (i) k) h⟩
noncomputable def j1Y (s:qB) (k0:Bool->Res):Res:=
 j7e s Z12 0
  (λ(_:Unit)=>
   bif decide ((nI (ByteArray.size s))>=1) then
    k0 (decide ((nI (ByteArray.size s))<=8))
   else
    k0 false)
  (λ(_:Unit)=>
   k0 false)
noncomputable def j7N:Sig Unit:=⟨[.look .str false],[false],λvals ext k=>av vals .str λs vals=>nl vals<|nl ext<|j1Y s (λ(r0:Bool)=>k [wB r0] [] [])⟩
theorem j5j:Z1p Tryz.prog 104 j7N:=j02 (np:=0) follows j01 Z94 [j9J] (oI 26 0 (jdj) oN) false Tryz.func104 λ_ _ k _ h=>aV h λ_ _ _ _ _ h=>nL h λ_ h=>nL h λ_ h=>by subst_vars;exact .trans (by kernel_rfl) h
noncomputable def j9U (n_:Int) (k0:Bool->Res):Res:=
 bif decide (n_>=(-1099511627775)) then
  k0 (decide (n_<=1099511627775))
 else
  k0 false
noncomputable def jeU:Sig Unit:=⟨[.look tI false],[false],λvals ext k=>av vals tI λn_ vals=>nl vals<|nl ext<|j9U n_ (λ(r0:Bool)=>k [wB r0] [] [])⟩
theorem jex:Z1p Tryz.prog 262 jeU:=j02 (np:=0) follows j01 Z94 [] oN false Tryz.func262 λ_ _ k _ h=>aV h λ_ _ _ _ _ h=>nL h λ_ h=>nL h λ_ h=>by subst_vars;exact .trans (by kernel_rfl) h
noncomputable def j12 (v_:Int×Int×qB) (k0:Bool->Res):Res:=
 bif (v_.1==0) then
  bif (v_.2.1==0) then
   k0 (sEq v_.2.2 eS)
  else
   k0 false
 else
  bif (v_.1==1) then
   bif (v_.2.1==0) then
    k0 (sEq v_.2.2 eS)
   else
    bif (v_.2.1==1) then
     k0 (sEq v_.2.2 eS)
    else
     k0 false
  else
   bif (v_.1==2) then
    j9U v_.2.1 λ(r:Bool)=>
     bif r then
      k0 (sEq v_.2.2 eS)
     else
      k0 false
   else
    bif (v_.1==3) then
     bif (v_.2.1==0) then
      k0 (decide ((nI (ByteArray.size v_.2.2))<=30))
     else
      k0 false
    else
     k0 false
noncomputable def j6z:Sig Unit:=⟨[.look y3 true],[false],λvals ext k=>av vals y3 λv_ vals=>nl vals<|nl ext<|j12 v_ (λ(r0:Bool)=>k [wB r0] [] [])⟩
theorem j8E:Z1p Tryz.prog 201 j6z:=j02 (np:=0) follows j01 (Z8K jex Z94) [] oN false Tryz.func201 λ_ _ k _ h=>aV h λ_ _ _ _ _ h=>nL h λ_ h=>nL h λ_ h=>by subst_vars;exact .trans (by kernel_rfl) h
noncomputable def j4m (a:Int×Int×qB) (b:Int×Int×qB) (k0:Bool->Res):Res:=
 j12 a λ(r:Bool)=>
  bif !r then
   k0 false
  else
   j12 b λ(r1:Bool)=>
    bif !r1 then
     k0 false
    else
     bif (a.1 != b.1) then
      k0 (decide (a.1<b.1))
     else
      bif decide (a.2.1<b.2.1) then
       k0 true
      else
       bif (a.2.1==b.2.1) then
        k0 (sLt a.2.2 b.2.2)
       else
        k0 false
noncomputable def je8:Sig Unit:=⟨[.look y3 true,.look y3 true],[false],λvals ext k=>av vals y3 λa vals=>av vals y3 λb vals=>nl vals<|nl ext<|j4m a b (λ(r0:Bool)=>k [wB r0] [] [])⟩
theorem ja3:Z1p Tryz.prog 370 je8:=j02 (np:=0) follows j01 (Z8K j8E Z94) [] oN false Tryz.func370 λ_ _ k _ h=>aV h λ_ _ _ _ _ h=>aV h λ_ _ _ _ _ h=>nL h λ_ h=>nL h λ_ h=>by subst_vars;exact .trans (by delta j4m j6z;refine gz j12 λ_ e=> ?_;rewrite [<-e];kernel_rfl) h
noncomputable def j0w (x:Int) (lo:Int) (hi:Int) (k0:Bool->Res):Res:=
 bif decide (x>=lo) then
  k0 (decide (x<=hi))
 else
  k0 false
noncomputable def j2z:Sig Unit:=⟨[.look tI false,.look tI false,.look tI false],[false],λvals ext k=>av vals tI λx vals=>av vals tI λlo vals=>av vals tI λhi vals=>nl vals<|nl ext<|j0w x lo hi (λ(r0:Bool)=>k [wB r0] [] [])⟩
theorem j3q:Z1p Tryz.prog 187 j2z:=j02 (np:=0) follows j01 Z94 [] oN false Tryz.func187 λ_ _ k _ h=>aV h λ_ _ _ _ _ h=>aV h λ_ _ _ _ _ h=>aV h λ_ _ _ _ _ h=>nL h λ_ h=>nL h λ_ h=>by subst_vars;exact .trans (by kernel_rfl) h
noncomputable def j23 (s:qB) (i:Int) (rec:Int->Res) (k0:Unit->Res) (k1:Unit->Res):Res:=
 bif decide (i<(nI (ByteArray.size s))) then
  bif inb i (ByteArray.size s) then
   bif decide ((bt s i)<97) then
    k1 ()
   else
    bif inb i (ByteArray.size s) then
     bif decide ((bt s i)>122) then
      k1 ()
     else
      rec (Z8o (i+1))
    else none
  else none
 else
  k0 ()
noncomputable def j5z (s:qB):Int->(Int->Res)->((Unit->Res)×(Unit->Res))->Res:=λv rec q=>j23 s v (λi=>rec (i)) q.1 q.2
noncomputable def j4v (s:qB) (n:Nat) (i:Int) (k0:Unit->Res) (k1:Unit->Res):Res:=Z14 (j5z s) n (i) (k0,k1)
noncomputable def j6P:Z1q Unit:=λσ k=>rdN σ 23<|rdS σ 0 λs=>rdI σ 3 λi=>j4v s Z12 i (λ(_:Unit)=>k (.exit 0) (mkS 23 23 [(0,vS s)] [])) (λ(_:Unit)=>k .ret (mkS 23 23 [(2,vB false)] []))
theorem jd5 {W0:Base} {M:Nat->Prop} (hnp:W0.np<=0):Z22 Tryz.prog W0 M (cAt 26 (bo Tryz.f185)) j6P:=j0a follows j01 (Z8K j3q Z94) hnp [] oN [0,3] [] ([],[]) [(0,[0],[])] ([2],[]) λσ k _ h=>rN h λhn h=>rV h λs h0 h=>rV h λi h3 h=>⟨_,Z9m (m:=23) hn (sC h0 (sC h3 sN)) bN,.trans (Z88 (λv:Int=>(mkS 23 23 [(0,vS s),(3,vI v)] [])) (j5z s) (λ(k:Z6O Unit)=>(((λ(_:Unit)=>k (.exit 0) (mkS 23 23 [(0,vS s)] [])),(λ(_:Unit)=>k .ret (mkS 23 23 [(2,vB false)] []))):(Unit->Res)×(Unit->Res))) (λv rec k=>by kernel_rfl) Z12 (i) k) h⟩
noncomputable def j1m (s:qB) (k0:Bool->Res):Res:=
 j4v s Z12 0
  (λ(_:Unit)=>
   j0w (nI (ByteArray.size s)) 1 8 λ(r:Bool)=>
    k0 r)
  (λ(_:Unit)=>
   k0 false)
noncomputable def j5s:Sig Unit:=⟨[.look .str false],[false],λvals ext k=>av vals .str λs vals=>nl vals<|nl ext<|j1m s (λ(r0:Bool)=>k [wB r0] [] [])⟩
theorem j5i:Z1p Tryz.prog 185 j5s:=j02 (np:=0) follows j01 (Z8K j3q Z94) [j6P] (oI 26 0 (jd5) oN) false Tryz.func185 λ_ _ k _ h=>aV h λ_ _ _ _ _ h=>nL h λ_ h=>nL h λ_ h=>by subst_vars;exact .trans (by delta j1m j6P j2z;refine gz j4v λ_ e=> ?_;rewrite [<-e];refine gz j0w λ_ e=> ?_;rewrite [<-e];kernel_rfl) h
noncomputable def j1l (v_:Int×Int×qB) (k0:Bool->Res):Res:=
 bif (v_.1==0) then
  k0 ((v_.1==0)&&((v_.2.1==0)&&(sEq v_.2.2 eS)))
 else
  bif (v_.1==1) then
   j0w v_.2.1 0 1 λ(r:Bool)=>
    bif r then
     k0 (sEq v_.2.2 eS)
    else
     k0 false
  else
   bif (v_.1==2) then
    j0w v_.2.1 (-1099511627775) 1099511627775 λ(r1:Bool)=>
     bif r1 then
      k0 (sEq v_.2.2 eS)
     else
      k0 false
   else
    bif (v_.1==3) then
     bif (v_.2.1==0) then
      k0 (decide ((nI (ByteArray.size v_.2.2))<=30))
     else
      k0 false
    else
     k0 false
noncomputable def j8Y:Sig Unit:=⟨[.look y3 true],[false],λvals ext k=>av vals y3 λv_ vals=>nl vals<|nl ext<|j1l v_ (λ(r0:Bool)=>k [wB r0] [] [])⟩
theorem j8s:Z1p Tryz.prog 259 j8Y:=j02 (np:=0) follows j01 (Z8K j3q Z94) [] oN false Tryz.func259 λ_ _ k _ h=>aV h λ_ _ _ _ _ h=>nL h λ_ h=>nL h λ_ h=>by subst_vars;exact .trans (by delta j1l j2z;refine gz j0w λ_ e=> ?_;rewrite [<-e];kernel_rfl) h
noncomputable def j3V (a:Int×Int×qB) (b:Int×Int×qB) (k0:Bool->Res):Res:=
 j1l a λ(r:Bool)=>
  bif !r then
   k0 false
  else
   j1l b λ(r1:Bool)=>
    bif !r1 then
     k0 false
    else
     bif (a.1 != b.1) then
      k0 (decide (a.1<b.1))
     else
      bif (a.2.1 != b.2.1) then
       k0 (decide (a.2.1<b.2.1))
      else
       k0 (sLt a.2.2 b.2.2)
noncomputable def je2:Sig Unit:=⟨[.look y3 true,.look y3 true],[false],λvals ext k=>av vals y3 λa vals=>av vals y3 λb vals=>nl vals<|nl ext<|j3V a b (λ(r0:Bool)=>k [wB r0] [] [])⟩
theorem j9Y:Z1p Tryz.prog 380 je2:=j02 (np:=0) follows j01 (Z8K j8s Z94) [] oN false Tryz.func380 λ_ _ k _ h=>aV h λ_ _ _ _ _ h=>aV h λ_ _ _ _ _ h=>nL h λ_ h=>nL h λ_ h=>by subst_vars;exact .trans (by delta j3V j8Y;refine gz j1l λ_ e=> ?_;rewrite [<-e];kernel_rfl) h
end Go.PI.G
namespace Go.PI.G
open Go Go.PI Go.Proofs
open Go.Code (pl pr)
noncomputable def j4M (c:qB×Int×Bool×Bool×Int×Int×qB) (k0:Bool->Res):Res:=
 j1Y c.1 λ(r:Bool)=>
  bif !r then
   k0 false
  else
   bif decide (c.2.1<1) then
    k0 false
   else
    bif decide (c.2.1>3) then
     k0 false
    else
     bif !c.2.2.2.1 then
      k0 ((c.2.2.2.2.1==0)&&((c.2.2.2.2.2.1==0)&&(sEq c.2.2.2.2.2.2 eS)))
     else
      j12 c.2.2.2.2 λ(r1:Bool)=>
       bif r1 then
        bif ((c.2.2.2.2.1==0)&&((c.2.2.2.2.2.1==0)&&(sEq c.2.2.2.2.2.2 eS))) then
         bif ((c.2.2.2.2.1==0)&&((c.2.2.2.2.2.1==0)&&(sEq c.2.2.2.2.2.2 eS))) then
          k0 (!c.2.2.1)
         else
          k0 true
        else
         bif (c.2.2.2.2.1==c.2.1) then
          bif ((c.2.2.2.2.1==0)&&((c.2.2.2.2.2.1==0)&&(sEq c.2.2.2.2.2.2 eS))) then
           k0 (!c.2.2.1)
          else
           k0 true
         else
          k0 false
       else
        k0 false
noncomputable def j99:Sig Unit:=⟨[.look y8 true],[false],λvals ext k=>av vals y8 λc vals=>nl vals<|nl ext<|j4M c (λ(r0:Bool)=>k [wB r0] [] [])⟩
theorem jfe:Z1p Tryz.prog 203 j99:=j02 (np:=0) follows j01 (Z8K j5j (Z8K j8E Z94)) [] oN false Tryz.func203 λ_ _ k _ h=>aV h λ_ _ _ _ _ h=>nL h λ_ h=>nL h λ_ h=>by subst_vars;exact .trans (by delta j4M j7N j6z;refine gz j1Y λ_ e=> ?_;rewrite [<-e];refine gz j12 λ_ e=> ?_;rewrite [<-e];kernel_rfl) h
noncomputable def j2R (name:qB) (t8:List qC) (t9:Int) (t10:Int) (rec:Int->Res) (k0:Unit->Res) (k1:Int->Res):Res:=
 bif decide (t10<t9) then
  bif inb t10 (List.length t8) then
   bif sEq (nth (eS,0,false,false,0,0,eS) t8 t10).1 name then
    k1 t10
   else
    rec (Z8o (t10+1))
  else none
 else
  k0 ()
noncomputable def j6E (name:qB) (t8:List qC) (t9:Int):Int->(Int->Res)->((Unit->Res)×(Int->Res))->Res:=λv rec q=>j2R name t8 t9 v (λt10=>rec (t10)) q.1 q.2
noncomputable def j7P (name:qB) (t8:List qC) (t9:Int) (n:Nat) (t10:Int) (k0:Unit->Res) (k1:Int->Res):Res:=Z14 (j6E name t8 t9) n (t10) (k0,k1)
noncomputable def jau:Z1q Unit:=λσ k=>rdN σ 21<|rdS σ 1 λname=>rd1 σ 8 y9 .S λt8=>rdI σ 9 λt9=>rdI σ 10 λt10=>j7P name t8 t9 Z12 t10 (λ(_:Unit)=>k (.exit 0) (mkS 21 21 [] [])) (λ(t4:Int)=>k .ret (mkS 21 21 [(4,vI t4)] []))
theorem jdY {W0:Base} {M:Nat->Prop} (hnp:W0.np<=0):Z22 Tryz.prog W0 M (cAt 26 (bo Tryz.f263)) jau:=j0a follows j01 Z94 hnp [] oN [1,8,9,10] [] ([],[]) [(0,[],[])] ([4],[]) λσ k _ h=>rN h λhn h=>rV h λname h1 h=>rV h λt8 h8 h=>rV h λt9 h9 h=>rV h λt10 h10 h=>⟨_,Z9m (m:=21) hn (sC h1 (sC h8 (sC h9 (sC h10 sN)))) bN,.trans (Z88 (λv:Int=>(mkS 21 21 [(1,vS name),(8,v1 y9 t8 .S),(9,vI t9),(10,vI v)] [])) (j6E name t8 t9) (λ(k:Z6O Unit)=>(((λ(_:Unit)=>k (.exit 0) (mkS 21 21 [] [])),(λ(t4:Int)=>k .ret (mkS 21 21 [(4,vI t4)] []))):(Unit->Res)×(Int->Res))) (λv rec k=>by kernel_rfl) Z12 (t10) k) h⟩
noncomputable def j3m (t:qB×qE×qL) (name:qB) (k0:Int->Res):Res:=
 j7P name t.2.1 (nI (List.length t.2.1)) Z12 0
  (λ(_:Unit)=>
   k0 (-1))
  (λ(t1:Int)=>
   k0 t1)
noncomputable def j98:Sig Unit:=⟨[.look y22 true,.look .str false],[false],λvals ext k=>av vals y22 λt vals=>av vals .str λname vals=>nl vals<|nl ext<|j3m t name (λ(r0:Int)=>k [wI r0] [] [])⟩
theorem j8D:Z1p Tryz.prog 263 j98:=j02 (np:=0) follows j01 Z94 [jau] (oI 26 0 (jdY) oN) false Tryz.func263 λ_ _ k _ h=>aV h λ_ _ _ _ _ h=>aV h λ_ _ _ _ _ h=>nL h λ_ h=>nL h λ_ h=>by subst_vars;exact .trans (by kernel_rfl) h
theorem j4q:Fns Tryz.prog [(104,j7N),(203,j99),(263,j98)]:=(Z8K j5j (Z8K jfe (Z8K j8D Z94)))
noncomputable def j2X (t:qB×qE×qL) (k0:Bool->Res):Res:=
 j1Y t.1 λ(r:Bool)=>
  bif !r then
   k0 true
  else
   bif decide ((nI (List.length t.2.1))<1) then
    k0 true
   else
    bif decide ((nI (List.length t.2.1))>8) then
     k0 true
    else
     k0 (decide ((nI (List.length t.2.2))<1))
noncomputable def j2v:Z1q Unit:=λσ k=>rdN σ 75<|rdT σ 1 (pB 1)<|rdB σ 1 y22 [.S,.S] λa t=>j2X t (λ(t30:Bool)=>k .normal (mkS 75 75 [(1,pB 1),(30,vB t30)] [(1,⟨y22,a,t,[.S,.S]⟩)]))
theorem jcG {W0:Base} {M:Nat->Prop} (hnp:W0.np<=0):Z22 Tryz.prog W0 M (cAt 12 (bo Tryz.f202)) j2v:=j3O follows j01 j4q hnp [] oN ([1,30],[1]) [] ([],[]) λσ k _ h=>rN h λhn h=>rT h λh1 h=>rB h λa t hb1 h=>⟨_,Z9m (m:=75) hn (sC h1 sN) (bC hb1 bN),.trans (by kernel_rfl) h⟩
noncomputable def j15 (t32:List qC) (t33:Int) (t:qB×qE×qL) (t34:Int) (rec:Int->Res) (k0:Unit->Res) (k1:Unit->Res):Res:=
 bif decide (t34<t33) then
  bif inb t34 (List.length t32) then
   j4M (nth (eS,0,false,false,0,0,eS) t32 t34) λ(r:Bool)=>
    bif !r then
     k1 ()
    else
     j3m t (nth (eS,0,false,false,0,0,eS) t32 t34).1 λ(r1:Int)=>
      bif (r1 != t34) then
       k1 ()
      else
       rec (Z8o (t34+1))
  else none
 else
  k0 ()
noncomputable def j33 (t32:List qC) (t33:Int) (t:qB×qE×qL):Int->(Int->Res)->((Unit->Res)×(Unit->Res))->Res:=λv rec q=>j15 t32 t33 t v (λt34=>rec (t34)) q.1 q.2
noncomputable def j2V (t32:List qC) (t33:Int) (t:qB×qE×qL) (n:Nat) (t34:Int) (k0:Unit->Res) (k1:Unit->Res):Res:=Z14 (j33 t32 t33 t) n (t34) (k0,k1)
noncomputable def j3p:Z1q Unit:=λσ k=>rdN σ 75<|rdT σ 1 (pB 1)<|rd1 σ 32 y9 .S λt32=>rdI σ 33 λt33=>rdI σ 34 λt34=>rdB σ 1 y22 [.S,.S] λa t=>j2V t32 t33 t Z12 t34 (λ(_:Unit)=>k (.exit 0) (mkS 75 75 [(1,pB 1)] [(1,⟨y22,a,t,[.S,.S]⟩)])) (λ(_:Unit)=>k .ret (mkS 75 75 [(2,vB false)] []))
theorem jcE {W0:Base} {M:Nat->Prop} (hnp:W0.np<=0):Z22 Tryz.prog W0 M (cAt 58 (bo Tryz.f202)) j3p:=j0a follows j01 j4q hnp [j2v] oN [1,32,33,34] [1] ([],[]) [(0,[1],[1])] ([2],[]) λσ k _ h=>rN h λhn h=>rT h λh1 h=>rV h λt32 h32 h=>rV h λt33 h33 h=>rV h λt34 h34 h=>rB h λa t hb1 h=>⟨_,Z9m (m:=75) hn (sC h1 (sC h32 (sC h33 (sC h34 sN)))) (bC hb1 bN),.trans (Z88 (λv:Int=>(mkS 75 75 [(1,pB 1),(32,v1 y9 t32 .S),(33,vI t33),(34,vI v)] [(1,⟨y22,a,t,[.S,.S]⟩)])) (j33 t32 t33 t) (λ(k:Z6O Unit)=>(((λ(_:Unit)=>k (.exit 0) (mkS 75 75 [(1,pB 1)] [(1,⟨y22,a,t,[.S,.S]⟩)])),(λ(_:Unit)=>k .ret (mkS 75 75 [(2,vB false)] []))):(Unit->Res)×(Unit->Res))) (λv rec k=>by delta j33 j15 j99 j98;refine gz j4M λ_ e=> ?_;rewrite [<-e];refine gz j3m λ_ e=> ?_;rewrite [<-e];kernel_rfl) Z12 (t34) k) h⟩
noncomputable def j1N (t52:qL) (t53:Int) (t:qB×qE×qL) (last:Int) (t54:Int) (rec:Int->Int->Res) (k0:Unit->Res) (k1:Unit->Res):Res:=
 bif decide (t54<t53) then
  bif inb t54 (List.length t52) then
   j3m t (nth eS t52 t54) λ(r:Int)=>
    bif decide (r<=last) then
     k1 ()
    else
     bif inb r (List.length t.2.1) then
      bif !(nth (eS,0,false,false,0,0,eS) t.2.1 r).2.2.1 then
       k1 ()
      else
       rec r (Z8o (t54+1))
     else none
  else none
 else
  k0 ()
noncomputable def j52 (t52:qL) (t53:Int) (t:qB×qE×qL):(Int×Int)->(Int×Int->Res)->((Unit->Res)×(Unit->Res))->Res:=λv rec q=>j1N t52 t53 t v.1 v.2 (λlast t54=>rec (last,t54)) q.1 q.2
noncomputable def j2W (t52:qL) (t53:Int) (t:qB×qE×qL) (n:Nat) (last:Int) (t54:Int) (k0:Unit->Res) (k1:Unit->Res):Res:=Z14 (j52 t52 t53 t) n (last,t54) (k0,k1)
noncomputable def j5Y:Z1q Unit:=λσ k=>rdN σ 75<|rdT σ 1 (pB 1)<|rdI σ 5 λlast=>rd1 σ 52 y1 .S λt52=>rdI σ 53 λt53=>rdI σ 54 λt54=>rdB σ 1 y22 [.S,.S] λa t=>j2W t52 t53 t Z12 last t54 (λ(_:Unit)=>k (.exit 2) (mkS 75 75 [] [])) (λ(_:Unit)=>k .ret (mkS 75 75 [(2,vB false)] []))
theorem jcF {W0:Base} {M:Nat->Prop} (hnp:W0.np<=0):Z22 Tryz.prog W0 M (cAt 250 (bo Tryz.f202)) j5Y:=j0a follows j01 j4q hnp [j2v,j3p] oN [1,5,52,53,54] [1] ([],[]) [(2,[],[])] ([2],[]) λσ k _ h=>rN h λhn h=>rT h λh1 h=>rV h λlast h5 h=>rV h λt52 h52 h=>rV h λt53 h53 h=>rV h λt54 h54 h=>rB h λa t hb1 h=>⟨_,Z9m (m:=75) hn (sC h1 (sC h5 (sC h52 (sC h53 (sC h54 sN))))) (bC hb1 bN),.trans (Z88 (λv:Int×Int=>(mkS 75 75 [(1,pB 1),(5,vI v.1),(52,v1 y1 t52 .S),(53,vI t53),(54,vI v.2)] [(1,⟨y22,a,t,[.S,.S]⟩)])) (j52 t52 t53 t) (λ(k:Z6O Unit)=>(((λ(_:Unit)=>k (.exit 2) (mkS 75 75 [] [])),(λ(_:Unit)=>k .ret (mkS 75 75 [(2,vB false)] []))):(Unit->Res)×(Unit->Res))) (λv rec k=>by kernel_rfl) Z12 (last,t54) k) h⟩
noncomputable def j0P (t:qB×qE×qL) (k0:Bool->Res):Res:=
 j2X t λ(t1:Bool)=>
  bif t1 then
   k0 false
  else
   j2V t.2.1 (nI (List.length t.2.1)) t Z12 0
    (λ(_:Unit)=>
     j2W t.2.2 (nI (List.length t.2.2)) t Z12 (-1) 0
      (λ(_:Unit)=>
       k0 true)
      (λ(_:Unit)=>
       k0 false))
    (λ(_:Unit)=>
     k0 false)
noncomputable def j3f:Sig Unit:=⟨[.look y22 true],[false],λvals ext k=>av vals y22 λt vals=>nl vals<|nl ext<|j0P t (λ(r0:Bool)=>k [wB r0] [] [])⟩
theorem j4r:Z1p Tryz.prog 202 j3f:=j02 (np:=0) follows j01 j4q [j2v,j3p,j5Y] (oI 12 0 (jcG) (oI 58 1 (jcE) (oI 250 2 (jcF) oN))) false Tryz.func202 λ_ _ k _ h=>aV h λ_ _ _ _ _ h=>nL h λ_ h=>nL h λ_ h=>by subst_vars;exact .trans (by delta j0P j2v j3p j5Y;refine gz j2X λ_ e=> ?_;rewrite [<-e];refine gz j2V λ_ e=> ?_;rewrite [<-e];refine gz j2W λ_ e=> ?_;rewrite [<-e];kernel_rfl) h
noncomputable def j2Q (t10:List qT) (t11:Int) (c:List qT) (t12:Int) (rec:Int->Res) (k0:Unit->Res) (k1:Unit->Res):Res:=
 bif decide (t12<t11) then
  bif inb t12 (List.length t10) then
   j0P (nth (eS,[],[]) t10 t12) λ(r:Bool)=>
    bif !r then
     k1 ()
    else
     bif decide (t12>0) then
      bif inb (Z8o (t12-1)) (List.length c) then
       bif sGe (nth (eS,[],[]) c (Z8o (t12-1))).1 (nth (eS,[],[]) t10 t12).1 then
        k1 ()
       else
        rec (Z8o (t12+1))
      else none
     else
      rec (Z8o (t12+1))
  else none
 else
  k0 ()
noncomputable def j6D (t10:List qT) (t11:Int) (c:List qT):Int->(Int->Res)->((Unit->Res)×(Unit->Res))->Res:=λv rec q=>j2Q t10 t11 c v (λt12=>rec (t12)) q.1 q.2
noncomputable def j5t (t10:List qT) (t11:Int) (c:List qT) (n:Nat) (t12:Int) (k0:Unit->Res) (k1:Unit->Res):Res:=Z14 (j6D t10 t11 c) n (t12) (k0,k1)
noncomputable def jat:Z1q Unit:=λσ k=>rdN σ 37<|rdT σ 1 (pB 1)<|rd1 σ 10 y23 .S λt10=>rdI σ 11 λt11=>rdI σ 12 λt12=>rdB σ 1 y23 [.S] λa c=>j5t t10 t11 c Z12 t12 (λ(_:Unit)=>k (.exit 0) (mkS 37 37 [] [])) (λ(_:Unit)=>k .ret (mkS 37 37 [(2,vB false)] []))
theorem jdX {W0:Base} {M:Nat->Prop} (hnp:W0.np<=0):Z22 Tryz.prog W0 M (cAt 58 (bo Tryz.f328)) jat:=j0a follows j01 (Z8K j4r Z94) hnp [] oN [1,10,11,12] [1] ([],[]) [(0,[],[])] ([2],[]) λσ k _ h=>rN h λhn h=>rT h λh1 h=>rV h λt10 h10 h=>rV h λt11 h11 h=>rV h λt12 h12 h=>rB h λa c hb1 h=>⟨_,Z9m (m:=37) hn (sC h1 (sC h10 (sC h11 (sC h12 sN)))) (bC hb1 bN),.trans (Z88 (λv:Int=>(mkS 37 37 [(1,pB 1),(10,v1 y23 t10 .S),(11,vI t11),(12,vI v)] [(1,⟨y23,a,c,[.S]⟩)])) (j6D t10 t11 c) (λ(k:Z6O Unit)=>(((λ(_:Unit)=>k (.exit 0) (mkS 37 37 [] [])),(λ(_:Unit)=>k .ret (mkS 37 37 [(2,vB false)] []))):(Unit->Res)×(Unit->Res))) (λv rec k=>by kernel_rfl) Z12 (t12) k) h⟩
noncomputable def j6C (c:List qT) (k0:Bool->Res):Res:=
 bif decide ((nI (List.length c))>6) then
  k0 false
 else
  j5t c (nI (List.length c)) c Z12 0
   (λ(_:Unit)=>
    k0 true)
   (λ(_:Unit)=>
    k0 false)
noncomputable def j97:Sig Unit:=⟨[.look y23 true],[false],λvals ext k=>av vals y23 λc vals=>nl vals<|nl ext<|j6C c (λ(r0:Bool)=>k [wB r0] [] [])⟩
theorem jfd:Z1p Tryz.prog 328 j97:=j02 (np:=0) follows j01 (Z8K j4r Z94) [jat] (oI 58 0 (jdX) oN) false Tryz.func328 λ_ _ k _ h=>aV h λ_ _ _ _ _ h=>nL h λ_ h=>nL h λ_ h=>by subst_vars;exact .trans (by kernel_rfl) h
noncomputable def j5w (t:qB×qE×qL) (k0:qT->Res):Res:=
 Z6T
  (Z6T
   (bif lim (0+(List.length t.2.1)) then
    bif lim (0+(List.length t.2.2)) then
     k0 (t.1,t.2.1,t.2.2)
    else none
   else none)
   (bif lim (0+(List.length t.2.1)) then
    bif lim (0+(List.length t.2.2)) then
     k0 (t.1,t.2.1,t.2.2)
    else none
   else none))
  (bif lim (0+(List.length t.2.1)) then
   bif lim (0+(List.length t.2.2)) then
    k0 (t.1,t.2.1,t.2.2)
   else none
  else none)
noncomputable def jdr:Sig Unit:=⟨[.borrow y22 true],[true],λvals ext k=>av vals y22 λt vals=>nl vals<|nl ext<|j5w t (λ(r0:qB×qE×qL)=>k [⟨y22,true,r0,[.O,.O]⟩] [] [])⟩
theorem j9r:Z1p Tryz.prog 329 jdr:=j02 (np:=0) follows j01 Z94 [] oN false Tryz.func329 λ_ _ k _ h=>aV h λ_ _ _ _ _ h=>nL h λ_ h=>nL h λ_ h=>by subst_vars;exact .trans (by kernel_rfl) h
noncomputable def j1O (t8:List qT) (t9:Int) (t10:Int) (out:List qT) (rec:Int->qF->Res) (k0:qF->Res):Res:=
 bif decide (t10<t9) then
  bif inb t10 (List.length t8) then
   j5w (nth (eS,[],[]) t8 t10) λ(r:qB×qE×qL)=>
    bif lim ((List.length out)+1) then
     rec (Z8o (t10+1)) (out++[r])
    else none
  else none
 else
  k0 out
noncomputable def j53 (t8:List qT) (t9:Int):(Int×qF)->(Int×qF->Res)->((qF->Res))->Res:=λv rec q=>j1O t8 t9 v.1 v.2 (λt10 out=>rec (t10,out)) q
noncomputable def j6L (t8:List qT) (t9:Int) (n:Nat) (t10:Int) (out:List qT) (k0:qF->Res):Res:=Z14 (j53 t8 t9) n (t10,out) (k0)
noncomputable def j9j:Z1q Unit:=λσ k=>rdN σ 23<|rdT σ 2 (pB 2)<|rdT σ 3 (pB 3)<|rd1 σ 8 y23 .S λt8=>rdI σ 9 λt9=>rdI σ 10 λt10=>rdB σ 2 y23 [.O] λa t2=>rdB σ 3 y23 [.O] λa1 out=>j6L t8 t9 Z12 t10 out (λ(out1:List qT)=>k (.exit 0) (mkS 23 23 [(2,pB 2),(3,pB 3)] [(2,⟨y23,a,t2,[.O]⟩),(3,⟨y23,a1,out1,[.O]⟩)]))
theorem jcH {W0:Base} {M:Nat->Prop} (hnp:W0.np<=0):Z22 Tryz.prog W0 M (cAt 58 (bo Tryz.f273)) j9j:=j0a follows j01 (Z8K j9r Z94) hnp [] oN [2,3,8,9,10] [2,3] ([],[]) [(0,[2,3],[2,3])] ([],[]) λσ k _ h=>rN h λhn h=>rT h λh2 h=>rT h λh3 h=>rV h λt8 h8 h=>rV h λt9 h9 h=>rV h λt10 h10 h=>rB h λa t2 hb2 h=>rB h λa1 out hb3 h=>⟨_,Z9m (m:=23) hn (sC h2 (sC h3 (sC h8 (sC h9 (sC h10 sN))))) (bC hb2 (bC hb3 bN)),.trans (Z88 (λv:Int×qF=>(mkS 23 23 [(2,pB 2),(3,pB 3),(8,v1 y23 t8 .S),(9,vI t9),(10,vI v.1)] [(2,⟨y23,a,t2,[.O]⟩),(3,⟨y23,a1,v.2,[.O]⟩)])) (j53 t8 t9) (λ(k:Z6O Unit)=>(((λ(out1:List qT)=>k (.exit 0) (mkS 23 23 [(2,pB 2),(3,pB 3)] [(2,⟨y23,a,t2,[.O]⟩),(3,⟨y23,a1,out1,[.O]⟩)]))):(qF->Res))) (λv rec k=>by kernel_rfl) Z12 (t10,out) k) h⟩
noncomputable def j4n (c:List qT) (k0:qF->Res):Res:=
 j6L c (nI (List.length c)) Z12 0 [] λ(out:List qT)=>
  k0 out
noncomputable def j7c:Sig Unit:=⟨[.borrow y23 true],[true],λvals ext k=>av vals y23 λc vals=>nl vals<|nl ext<|j4n c (λ(r0:List qT)=>k [⟨y23,true,r0,[.O]⟩] [] [])⟩
theorem jdN:Z1p Tryz.prog 273 j7c:=j02 (np:=0) follows j01 (Z8K j9r Z94) [j9j] (oI 58 0 (jcH) oN) false Tryz.func273 λ_ _ k _ h=>aV h λ_ _ _ _ _ h=>nL h λ_ h=>nL h λ_ h=>by subst_vars;exact .trans (by kernel_rfl) h
noncomputable def j4s (c:qB×Int×Bool×Bool×Int×Int×qB) (k0:Bool->Res):Res:=
 j1m c.1 λ(r:Bool)=>
  bif !r then
   k0 false
  else
   j0w c.2.1 1 3 λ(r1:Bool)=>
    bif !r1 then
     k0 false
    else
     j1l c.2.2.2.2 λ(r2:Bool)=>
      bif !r2 then
       k0 false
      else
       bif !c.2.2.2.1 then
        k0 ((c.2.2.2.2.1==0)&&((c.2.2.2.2.2.1==0)&&(sEq c.2.2.2.2.2.2 eS)))
       else
        bif (c.2.2.2.2.1==c.2.1) then
         k0 true
        else
         bif (c.2.2.2.2.1==0) then
          k0 (!c.2.2.1)
         else
          k0 false
noncomputable def j8X:Sig Unit:=⟨[.look y8 true],[false],λvals ext k=>av vals y8 λc vals=>nl vals<|nl ext<|j4s c (λ(r0:Bool)=>k [wB r0] [] [])⟩
theorem jf0:Z1p Tryz.prog 255 j8X:=j02 (np:=0) follows j01 (Z8K j5i (Z8K j3q (Z8K j8s Z94))) [] oN false Tryz.func255 λ_ _ k _ h=>aV h λ_ _ _ _ _ h=>nL h λ_ h=>nL h λ_ h=>by subst_vars;exact .trans (by delta j4s j5s j2z j8Y;refine gz j1m λ_ e=> ?_;rewrite [<-e];refine gz j0w λ_ e=> ?_;rewrite [<-e];refine gz j1l λ_ e=> ?_;rewrite [<-e];kernel_rfl) h
noncomputable def j9P (c:qB×Int×Bool×Bool×Int×Int×qB) (t1:qB) (k0:Bool->Res):Res:=
 k0 (sEq c.1 t1)
noncomputable def jeH:Sig Unit:=⟨[.look y8 true,.rptr .str],[false],λvals ext k=>av vals y8 λc vals=>av vals .str λt1 vals=>nl vals<|nl ext<|j9P c t1 (λ(r0:Bool)=>k [wB r0] [] [])⟩
theorem jaH:Z1p Tryz.prog 349 jeH:=j02 (np:=0) follows j01 Z94 [] oN false Tryz.func349 λ_ _ k _ h=>aV h λ_ _ _ _ _ h=>aV h λ_ _ _ _ _ h=>nL h λ_ h=>nL h λ_ h=>by subst_vars;exact .trans (by kernel_rfl) h
noncomputable def j0E (s:List qC) (f:qB) (t7:Int) (t8:Int) (rec:Int->Res) (k0:Unit->Res) (k1:Int->Res):Res:=
 bif decide (t8<t7) then
  bif inb t8 (List.length s) then
   j9P (nth (eS,0,false,false,0,0,eS) s t8) f λ(r:Bool)=>
    bif r then
     k1 t8
    else
     rec (Z8o (t8+1))
  else none
 else
  k0 ()
noncomputable def j1V (s:List qC) (f:qB) (t7:Int):Int->(Int->Res)->((Unit->Res)×(Int->Res))->Res:=λv rec q=>j0E s f t7 v (λt8=>rec (t8)) q.1 q.2
noncomputable def j2x (s:List qC) (f:qB) (t7:Int) (n:Nat) (t8:Int) (k0:Unit->Res) (k1:Int->Res):Res:=Z14 (j1V s f t7) n (t8) (k0,k1)
noncomputable def j4p:Z1q Unit:=λσ k=>rdN σ 19<|rd1 σ 0 y9 .S λs=>rdC σ 1 349 [.str] .str [] λf=>rdI σ 7 λt7=>rdI σ 8 λt8=>j2x s f t7 Z12 t8 (λ(_:Unit)=>k (.exit 0) (mkS 19 19 [] [])) (λ(t4:Int)=>k .ret (mkS 19 19 [(4,vI t4)] []))
theorem j8T {W0:Base} {M:Nat->Prop} (hnp:W0.np<=0):Z22 Tryz.prog W0 M (cAt 26 (bo Tryz.f348)) j4p:=j0a follows j01 (Z8K jaH Z94) hnp [] oN [0,1,7,8] [] ([],[]) [(0,[],[])] ([4],[]) λσ k _ h=>rN h λhn h=>rV h λs h0 h=>rC h λf h1 h=>rV h λt7 h7 h=>rV h λt8 h8 h=>⟨_,Z9m (m:=19) hn (sC h0 (sC h1 (sC h7 (sC h8 sN)))) bN,.trans (Z88 (λv:Int=>(mkS 19 19 [(0,v1 y9 s .S),(1,.sclos 349 [.str] ⟨.str,false,f,[]⟩),(7,vI t7),(8,vI v)] [])) (j1V s f t7) (λ(k:Z6O Unit)=>(((λ(_:Unit)=>k (.exit 0) (mkS 19 19 [] [])),(λ(t4:Int)=>k .ret (mkS 19 19 [(4,vI t4)] []))):(Unit->Res)×(Int->Res))) (λv rec k=>by kernel_rfl) Z12 (t8) k) h⟩
noncomputable def j3l (s:List qC) (f:qB) (k0:Int->Res):Res:=
 j2x s f (nI (List.length s)) Z12 0
  (λ(_:Unit)=>
   k0 (-1))
  (λ(t:Int)=>
   k0 t)
noncomputable def j9S:Sig Unit:=⟨[.look y9 false,.rclos 349 [.str]],[false],λvals ext k=>av vals y9 λs vals=>av vals .str λf vals=>nl vals<|nl ext<|j3l s f (λ(r0:Int)=>k [wI r0] [] [])⟩
theorem j9M:Z1p Tryz.prog 348 j9S:=j02 (np:=0) follows j01 (Z8K jaH Z94) [j4p] (oI 26 0 (j8T) oN) false Tryz.func348 λ_ _ k _ h=>aV h λ_ _ _ _ _ h=>aV h λ_ _ _ _ _ h=>nL h λ_ h=>nL h λ_ h=>by subst_vars;exact .trans (by kernel_rfl) h
noncomputable def j3h (t:qB×qE×qL) (name:qB) (k0:Int->Res):Res:=
 j3l t.2.1 name λ(r:Int)=>
  k0 r
noncomputable def j8W:Sig Unit:=⟨[.look y22 true,.look .str false],[false],λvals ext k=>av vals y22 λt vals=>av vals .str λname vals=>nl vals<|nl ext<|j3h t name (λ(r0:Int)=>k [wI r0] [] [])⟩
theorem j8r:Z1p Tryz.prog 311 j8W:=j02 (np:=0) follows j01 (Z8K j9M Z94) [] oN false Tryz.func311 λ_ _ k _ h=>aV h λ_ _ _ _ _ h=>aV h λ_ _ _ _ _ h=>nL h λ_ h=>nL h λ_ h=>by subst_vars;exact .trans (by kernel_rfl) h
theorem j6Y:Fns Tryz.prog [(185,j5s),(187,j2z),(255,j8X),(311,j8W)]:=(Z8K j5i (Z8K j3q (Z8K jf0 (Z8K j8r Z94))))
noncomputable def j14 (t10:List qC) (t11:Int) (t:qB×qE×qL) (t12:Int) (rec:Int->Res) (k0:Unit->Res) (k1:Unit->Res):Res:=
 bif decide (t12<t11) then
  bif inb t12 (List.length t10) then
   j4s (nth (eS,0,false,false,0,0,eS) t10 t12) λ(r:Bool)=>
    bif !r then
     k1 ()
    else
     j3h t (nth (eS,0,false,false,0,0,eS) t10 t12).1 λ(r1:Int)=>
      bif (r1 != t12) then
       k1 ()
      else
       rec (Z8o (t12+1))
  else none
 else
  k0 ()
noncomputable def j31 (t10:List qC) (t11:Int) (t:qB×qE×qL):Int->(Int->Res)->((Unit->Res)×(Unit->Res))->Res:=λv rec q=>j14 t10 t11 t v (λt12=>rec (t12)) q.1 q.2
noncomputable def j2E (t10:List qC) (t11:Int) (t:qB×qE×qL) (n:Nat) (t12:Int) (k0:Unit->Res) (k1:Unit->Res):Res:=Z14 (j31 t10 t11 t) n (t12) (k0,k1)
noncomputable def j3o:Z1q Unit:=λσ k=>rdN σ 68<|rdT σ 1 (pB 1)<|rd1 σ 10 y9 .S λt10=>rdI σ 11 λt11=>rdI σ 12 λt12=>rdB σ 1 y22 [.S,.S] λa t=>j2E t10 t11 t Z12 t12 (λ(_:Unit)=>k (.exit 0) (mkS 68 68 [(1,pB 1)] [(1,⟨y22,a,t,[.S,.S]⟩)])) (λ(_:Unit)=>k .ret (mkS 68 68 [(2,vB false)] []))
theorem jcv {W0:Base} {M:Nat->Prop} (hnp:W0.np<=0):Z22 Tryz.prog W0 M (cAt 26 (bo Tryz.f253)) j3o:=j0a follows j01 j6Y hnp [] oN [1,10,11,12] [1] ([],[]) [(0,[1],[1])] ([2],[]) λσ k _ h=>rN h λhn h=>rT h λh1 h=>rV h λt10 h10 h=>rV h λt11 h11 h=>rV h λt12 h12 h=>rB h λa t hb1 h=>⟨_,Z9m (m:=68) hn (sC h1 (sC h10 (sC h11 (sC h12 sN)))) (bC hb1 bN),.trans (Z88 (λv:Int=>(mkS 68 68 [(1,pB 1),(10,v1 y9 t10 .S),(11,vI t11),(12,vI v)] [(1,⟨y22,a,t,[.S,.S]⟩)])) (j31 t10 t11 t) (λ(k:Z6O Unit)=>(((λ(_:Unit)=>k (.exit 0) (mkS 68 68 [(1,pB 1)] [(1,⟨y22,a,t,[.S,.S]⟩)])),(λ(_:Unit)=>k .ret (mkS 68 68 [(2,vB false)] []))):(Unit->Res)×(Unit->Res))) (λv rec k=>by delta j31 j14 j8X j8W;refine gz j4s λ_ e=> ?_;rewrite [<-e];refine gz j3h λ_ e=> ?_;rewrite [<-e];kernel_rfl) Z12 (t12) k) h⟩
noncomputable def j1F (t30:qL) (t31:Int) (t:qB×qE×qL) (last:Int) (t32:Int) (rec:Int->Int->Res) (k0:Unit->Res) (k1:Unit->Res):Res:=
 bif decide (t32<t31) then
  bif inb t32 (List.length t30) then
   j3h t (nth eS t30 t32) λ(r:Int)=>
    bif decide (r<=last) then
     k1 ()
    else
     bif inb r (List.length t.2.1) then
      bif !(nth (eS,0,false,false,0,0,eS) t.2.1 r).2.2.1 then
       k1 ()
      else
       rec r (Z8o (t32+1))
     else none
  else none
 else
  k0 ()
noncomputable def j4R (t30:qL) (t31:Int) (t:qB×qE×qL):(Int×Int)->(Int×Int->Res)->((Unit->Res)×(Unit->Res))->Res:=λv rec q=>j1F t30 t31 t v.1 v.2 (λlast t32=>rec (last,t32)) q.1 q.2
noncomputable def j2F (t30:qL) (t31:Int) (t:qB×qE×qL) (n:Nat) (last:Int) (t32:Int) (k0:Unit->Res) (k1:Unit->Res):Res:=Z14 (j4R t30 t31 t) n (last,t32) (k0,k1)
noncomputable def j5X:Z1q Unit:=λσ k=>rdN σ 68<|rdT σ 1 (pB 1)<|rdI σ 5 λlast=>rd1 σ 30 y1 .S λt30=>rdI σ 31 λt31=>rdI σ 32 λt32=>rdB σ 1 y22 [.S,.S] λa t=>j2F t30 t31 t Z12 last t32 (λ(_:Unit)=>k (.exit 2) (mkS 68 68 [(1,pB 1)] [(1,⟨y22,a,t,[.S,.S]⟩)])) (λ(_:Unit)=>k .ret (mkS 68 68 [(2,vB false)] []))
theorem jcw {W0:Base} {M:Nat->Prop} (hnp:W0.np<=0):Z22 Tryz.prog W0 M (cAt 122 (bo Tryz.f253)) j5X:=j0a follows j01 j6Y hnp [j3o] oN [1,5,30,31,32] [1] ([],[]) [(2,[1],[1])] ([2],[]) λσ k _ h=>rN h λhn h=>rT h λh1 h=>rV h λlast h5 h=>rV h λt30 h30 h=>rV h λt31 h31 h=>rV h λt32 h32 h=>rB h λa t hb1 h=>⟨_,Z9m (m:=68) hn (sC h1 (sC h5 (sC h30 (sC h31 (sC h32 sN))))) (bC hb1 bN),.trans (Z88 (λv:Int×Int=>(mkS 68 68 [(1,pB 1),(5,vI v.1),(30,v1 y1 t30 .S),(31,vI t31),(32,vI v.2)] [(1,⟨y22,a,t,[.S,.S]⟩)])) (j4R t30 t31 t) (λ(k:Z6O Unit)=>(((λ(_:Unit)=>k (.exit 2) (mkS 68 68 [(1,pB 1)] [(1,⟨y22,a,t,[.S,.S]⟩)])),(λ(_:Unit)=>k .ret (mkS 68 68 [(2,vB false)] []))):(Unit->Res)×(Unit->Res))) (λv rec k=>by kernel_rfl) Z12 (last,t32) k) h⟩
noncomputable def j1n (t:qB×qE×qL) (k0:Bool->Res):Res:=
 j2E t.2.1 (nI (List.length t.2.1)) t Z12 0
  (λ(_:Unit)=>
   j2F t.2.2 (nI (List.length t.2.2)) t Z12 (-1) 0
    (λ(_:Unit)=>
     j1m t.1 λ(r:Bool)=>
      bif r then
       j0w (nI (List.length t.2.1)) 1 8 λ(r1:Bool)=>
        bif r1 then
         k0 (decide ((nI (List.length t.2.2))>0))
        else
         k0 false
      else
       k0 false)
    (λ(_:Unit)=>
     k0 false))
  (λ(_:Unit)=>
   k0 false)
noncomputable def j79:Sig Unit:=⟨[.look y22 true],[false],λvals ext k=>av vals y22 λt vals=>nl vals<|nl ext<|j1n t (λ(r0:Bool)=>k [wB r0] [] [])⟩
theorem j6Z:Z1p Tryz.prog 253 j79:=j02 (np:=0) follows j01 j6Y [j3o,j5X] (oI 26 0 (jcv) (oI 122 1 (jcw) oN)) false Tryz.func253 λ_ _ k _ h=>aV h λ_ _ _ _ _ h=>nL h λ_ h=>nL h λ_ h=>by subst_vars;exact .trans (by delta j1n j3o j5X j5s j2z;refine gz j2E λ_ e=> ?_;rewrite [<-e];refine gz j2F λ_ e=> ?_;rewrite [<-e];refine gz j1m λ_ e=> ?_;rewrite [<-e];refine gz j0w λ_ e=> ?_;rewrite [<-e];kernel_rfl) h
noncomputable def j2B (t6:List qT) (t7:Int) (c:List qT) (t8:Int) (rec:Int->Res) (k0:Unit->Res) (k1:Unit->Res):Res:=
 bif decide (t8<t7) then
  bif inb t8 (List.length t6) then
   j1n (nth (eS,[],[]) t6 t8) λ(r:Bool)=>
    bif !r then
     k1 ()
    else
     bif decide (t8>0) then
      bif inb (Z8o (t8-1)) (List.length c) then
       bif sGe (nth (eS,[],[]) c (Z8o (t8-1))).1 (nth (eS,[],[]) t6 t8).1 then
        k1 ()
       else
        rec (Z8o (t8+1))
      else none
     else
      rec (Z8o (t8+1))
  else none
 else
  k0 ()
noncomputable def j67 (t6:List qT) (t7:Int) (c:List qT):Int->(Int->Res)->((Unit->Res)×(Unit->Res))->Res:=λv rec q=>j2B t6 t7 c v (λt8=>rec (t8)) q.1 q.2
noncomputable def j5k (t6:List qT) (t7:Int) (c:List qT) (n:Nat) (t8:Int) (k0:Unit->Res) (k1:Unit->Res):Res:=Z14 (j67 t6 t7 c) n (t8) (k0,k1)
noncomputable def jap:Z1q Unit:=λσ k=>rdN σ 37<|rdT σ 1 (pB 1)<|rd1 σ 6 y23 .S λt6=>rdI σ 7 λt7=>rdI σ 8 λt8=>rdB σ 1 y23 [.S] λa c=>j5k t6 t7 c Z12 t8 (λ(_:Unit)=>k (.exit 0) (mkS 37 37 [(1,pB 1)] [(1,⟨y23,a,c,[.S]⟩)])) (λ(_:Unit)=>k .ret (mkS 37 37 [(2,vB false)] []))
theorem jdS {W0:Base} {M:Nat->Prop} (hnp:W0.np<=0):Z22 Tryz.prog W0 M (cAt 26 (bo Tryz.f331)) jap:=j0a follows j01 (Z8K j6Z Z94) hnp [] oN [1,6,7,8] [1] ([],[]) [(0,[1],[1])] ([2],[]) λσ k _ h=>rN h λhn h=>rT h λh1 h=>rV h λt6 h6 h=>rV h λt7 h7 h=>rV h λt8 h8 h=>rB h λa c hb1 h=>⟨_,Z9m (m:=37) hn (sC h1 (sC h6 (sC h7 (sC h8 sN)))) (bC hb1 bN),.trans (Z88 (λv:Int=>(mkS 37 37 [(1,pB 1),(6,v1 y23 t6 .S),(7,vI t7),(8,vI v)] [(1,⟨y23,a,c,[.S]⟩)])) (j67 t6 t7 c) (λ(k:Z6O Unit)=>(((λ(_:Unit)=>k (.exit 0) (mkS 37 37 [(1,pB 1)] [(1,⟨y23,a,c,[.S]⟩)])),(λ(_:Unit)=>k .ret (mkS 37 37 [(2,vB false)] []))):(Unit->Res)×(Unit->Res))) (λv rec k=>by kernel_rfl) Z12 (t8) k) h⟩
noncomputable def j66 (c:List qT) (k0:Bool->Res):Res:=
 j5k c (nI (List.length c)) c Z12 0
  (λ(_:Unit)=>
   k0 (decide ((nI (List.length c))<=6)))
  (λ(_:Unit)=>
   k0 false)
noncomputable def j8V:Sig Unit:=⟨[.look y23 true],[false],λvals ext k=>av vals y23 λc vals=>nl vals<|nl ext<|j66 c (λ(r0:Bool)=>k [wB r0] [] [])⟩
theorem jeZ:Z1p Tryz.prog 331 j8V:=j02 (np:=0) follows j01 (Z8K j6Z Z94) [jap] (oI 26 0 (jdS) oN) false Tryz.func331 λ_ _ k _ h=>aV h λ_ _ _ _ _ h=>nL h λ_ h=>nL h λ_ h=>by subst_vars;exact .trans (by kernel_rfl) h
noncomputable def j1Z (l:qL) (k0:qL->Res):Res:=
 bif lim (0+(List.length l)) then
  k0 l
 else none
noncomputable def j8Z:Sig Unit:=⟨[.borrow y1 false],[false],λvals ext k=>av vals y1 λl vals=>nl vals<|nl ext<|j1Z l (λ(r0:qL)=>k [w1 y1 r0 .O] [] [])⟩
theorem j8u:Z1p Tryz.prog 143 j8Z:=j02 (np:=0) follows j01 Z94 [] oN false Tryz.func143 λ_ _ k _ h=>aV h λ_ _ _ _ _ h=>nL h λ_ h=>nL h λ_ h=>by subst_vars;exact .trans (by kernel_rfl) h
noncomputable def j4x (t:qB×qE×qL) (k0:qT->Res):Res:=
 bif lim (0+(List.length t.2.1)) then
  j1Z t.2.2 λ(r:qL)=>
   k0 (t.1,t.2.1,r)
 else none
noncomputable def jcK:Sig Unit:=⟨[.borrow y22 true],[true],λvals ext k=>av vals y22 λt vals=>nl vals<|nl ext<|j4x t (λ(r0:qB×qE×qL)=>k [⟨y22,true,r0,[.O,.O]⟩] [] [])⟩
theorem j8t:Z1p Tryz.prog 312 jcK:=j02 (np:=0) follows j01 (Z8K j8u Z94) [] oN false Tryz.func312 λ_ _ k _ h=>aV h λ_ _ _ _ _ h=>nL h λ_ h=>nL h λ_ h=>by subst_vars;exact .trans (by kernel_rfl) h
noncomputable def j1G (t8:List qT) (t9:Int) (t10:Int) (out:List qT) (rec:Int->qF->Res) (k0:qF->Res):Res:=
 bif decide (t10<t9) then
  bif inb t10 (List.length t8) then
   j4x (nth (eS,[],[]) t8 t10) λ(r:qB×qE×qL)=>
    bif lim ((List.length out)+1) then
     rec (Z8o (t10+1)) (out++[r])
    else none
  else none
 else
  k0 out
noncomputable def j4S (t8:List qT) (t9:Int):(Int×qF)->(Int×qF->Res)->((qF->Res))->Res:=λv rec q=>j1G t8 t9 v.1 v.2 (λt10 out=>rec (t10,out)) q
noncomputable def j6d (t8:List qT) (t9:Int) (n:Nat) (t10:Int) (out:List qT) (k0:qF->Res):Res:=Z14 (j4S t8 t9) n (t10,out) (k0)
noncomputable def j9c:Z1q Unit:=λσ k=>rdN σ 23<|rdT σ 2 (pB 2)<|rdT σ 3 (pB 3)<|rd1 σ 8 y23 .S λt8=>rdI σ 9 λt9=>rdI σ 10 λt10=>rdB σ 2 y23 [.O] λa t2=>rdB σ 3 y23 [.O] λa1 out=>j6d t8 t9 Z12 t10 out (λ(out1:List qT)=>k (.exit 0) (mkS 23 23 [(2,pB 2),(3,pB 3)] [(2,⟨y23,a,t2,[.O]⟩),(3,⟨y23,a1,out1,[.O]⟩)]))
theorem jcx {W0:Base} {M:Nat->Prop} (hnp:W0.np<=0):Z22 Tryz.prog W0 M (cAt 58 (bo Tryz.f278)) j9c:=j0a follows j01 (Z8K j8t Z94) hnp [] oN [2,3,8,9,10] [2,3] ([],[]) [(0,[2,3],[2,3])] ([],[]) λσ k _ h=>rN h λhn h=>rT h λh2 h=>rT h λh3 h=>rV h λt8 h8 h=>rV h λt9 h9 h=>rV h λt10 h10 h=>rB h λa t2 hb2 h=>rB h λa1 out hb3 h=>⟨_,Z9m (m:=23) hn (sC h2 (sC h3 (sC h8 (sC h9 (sC h10 sN))))) (bC hb2 (bC hb3 bN)),.trans (Z88 (λv:Int×qF=>(mkS 23 23 [(2,pB 2),(3,pB 3),(8,v1 y23 t8 .S),(9,vI t9),(10,vI v.1)] [(2,⟨y23,a,t2,[.O]⟩),(3,⟨y23,a1,v.2,[.O]⟩)])) (j4S t8 t9) (λ(k:Z6O Unit)=>(((λ(out1:List qT)=>k (.exit 0) (mkS 23 23 [(2,pB 2),(3,pB 3)] [(2,⟨y23,a,t2,[.O]⟩),(3,⟨y23,a1,out1,[.O]⟩)]))):(qF->Res))) (λv rec k=>by kernel_rfl) Z12 (t10,out) k) h⟩
noncomputable def j3W (c:List qT) (k0:qF->Res):Res:=
 j6d c (nI (List.length c)) Z12 0 [] λ(out:List qT)=>
  k0 out
noncomputable def j7a:Sig Unit:=⟨[.borrow y23 true],[true],λvals ext k=>av vals y23 λc vals=>nl vals<|nl ext<|j3W c (λ(r0:List qT)=>k [⟨y23,true,r0,[.O]⟩] [] [])⟩
theorem jdx:Z1p Tryz.prog 278 j7a:=j02 (np:=0) follows j01 (Z8K j8t Z94) [j9c] (oI 58 0 (jcx) oN) false Tryz.func278 λ_ _ k _ h=>aV h λ_ _ _ _ _ h=>nL h λ_ h=>nL h λ_ h=>by subst_vars;exact .trans (by kernel_rfl) h
end Go.PI.G
