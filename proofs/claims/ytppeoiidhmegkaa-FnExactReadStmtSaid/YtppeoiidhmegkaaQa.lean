/-
  Program's code interpreted over typed values; printed texts; plain laws. No conditions.
-/
import Derived.Test.YtppeoiidhmegkaaPc
import Derived.Test.YtppeoiidhmegkaaProg
set_option linter.unusedVariables false
namespace Go.PI
abbrev Fns {R:Type} (P:Program) (l:List (FuncId×Sig R)):Prop:=∀ (g:Nat) (sig:Sig R),Z0s l g=some sig->Z1p P g sig
abbrev tI:Ty:= .int .i64
abbrev vI (x:Int):TV:= .val ⟨.int .i64,false,x,[]⟩
abbrev vB (x:Bool):TV:= .val ⟨.bool,false,x,[]⟩
abbrev vS (x:ByteArray):TV:= .val ⟨.str,false,x,[]⟩
abbrev v1 (τ:Ty) (x:El τ) (t:Tag):TV:= .val ⟨τ,false,x,[t]⟩
abbrev wI (x:Int):TVal:=⟨.int .i64,false,x,[]⟩
abbrev wB (x:Bool):TVal:=⟨.bool,false,x,[]⟩
abbrev wS (x:ByteArray):TVal:=⟨.str,false,x,[]⟩
abbrev w1 (τ:Ty) (x:El τ) (t:Tag):TVal:=⟨τ,false,x,[t]⟩
abbrev pB (i:Nat):TV:= .ptr ⟨true,i,[]⟩
section
variable {R:Type} {r:R}
noncomputable abbrev rdI (σ:State) (i:Nat) (f:Int->Option R):Option R:=rdV σ i (.int .i64) false [] f
noncomputable abbrev rdO (σ:State) (i:Nat) (f:Bool->Option R):Option R:=rdV σ i .bool false [] f
noncomputable abbrev rdS (σ:State) (i:Nat) (f:ByteArray->Option R):Option R:=rdV σ i .str false [] f
noncomputable abbrev rd1 (σ:State) (i:Nat) (τ:Ty) (t:Tag) (f:El τ->Option R):Option R:=rdV σ i τ false [t] f
theorem aV {l:List TVal} {τ:Ty} {f:El τ->List TVal->Option R} {C:Prop} (h:av l τ f=some r) (c:∀ x a t l',l=⟨τ,a,x,t⟩::l'->f x l'=some r->C):C:=
 have ⟨x,a,t,l',e,h2⟩:=Z91 h;c x a t l' e h2
theorem aB {l:List TVal} {τ:Ty} {tg:List Tag} {f:Bool->El τ->List TVal->Option R} {C:Prop} (h:ab l τ tg f=some r) (c:∀ a x l',l=⟨τ,a,x,tg⟩::l'->f a x l'=some r->C):C:=
 have ⟨a,x,l',e,h2⟩:=Z8Z h;c a x l' e h2
theorem aO {l:List TVal} {τ:Ty} {tg:List Tag} {f:El τ->List TVal->Option R} {C:Prop} (h:ao l τ tg f=some r) (c:∀ a x l',l=⟨τ,a,x,tg⟩::l'->f x l'=some r->C):C:=
 have ⟨a,x,l',e,h2⟩:=Z90 h;c a x l' e h2
theorem nL {l:List TVal} {f:Option R} {C:Prop} (h:nl l f=some r) (c:l=[]->f=some r->C):C:=
 have ⟨e,h2⟩:=Z98 h;c e h2
variable {σ:State} {C:Prop}
theorem rN {n:Nat} {f:Option R} (h:rdN σ n f=some r) (c:σ.slots.length=n->f=some r->C):C:=
 have h:=Z8O h;c h.1 h.2
theorem rV {i:Nat} {τ:Ty} {ag:Bool} {tg:List Tag} {f:El τ->Option R} (h:rdV σ i τ ag tg f=some r) (c:∀ x,σ.slot i= .val ⟨τ,ag,x,tg⟩->f x=some r->C):C:=
 have ⟨x,h1,h2⟩:=Z8R h;c x h1 h2
theorem rC {i:Nat} {f:FuncId} {τs:List Ty} {τ:Ty} {tg:List Tag} {k:El τ->Option R} (h:rdC σ i f τs τ tg k=some r) (c:∀ x,σ.slot i= .sclos f τs ⟨τ,false,x,tg⟩->k x=some r->C):C:=
 have ⟨x,h1,h2⟩:=Z8M h;c x h1 h2
theorem rB {i:Nat} {τ:Ty} {tg:List Tag} {f:Bool->El τ->Option R} (h:rdB σ i τ tg f=some r) (c:∀ a x,σ.boxAt i=some ⟨τ,a,x,tg⟩->f a x=some r->C):C:=
 have ⟨a,x,h1,h2⟩:=Z8L h;c a x h1 h2
theorem rT {i:Nat} {p:TV} {f:Option R} (h:rdT σ i p f=some r) (c:σ.slot i=p->f=some r->C):C:=
 have h:=Z8P h;c h.1 h.2
theorem sC {i:Nat} {v:TV} {l:List (Nat×TV)} (h:σ.slot i=v) (t:Z3E σ l):Z3E σ ((i,v)::l):=⟨h,t⟩
theorem sN:Z3E σ []:=trivial
theorem bC {i:Nat} {v:TVal} {l:List (Nat×TVal)} (h:σ.boxAt i=some v) (t:Z3C σ l):Z3C σ ((i,v)::l):=⟨h,t⟩
theorem bN:Z3C σ []:=trivial
end
theorem gz {α:Type} {C:Prop} (a:α) (h:∀ F,F=a->C):C:=h a rfl
def jcM:Nat->Nat->List Bool->List Bool
 | 0,_,l=>l
 | f+1,n,l=>bif Nat.ble n 1 then l else jcM f (n / 2) (Nat.beq (n % 2) 1::l)
def bits (n:Nat):List Bool:=jcM 300 n []
noncomputable def jbG:List Bool->Code->Code
 | [],c=>c
 | b::p,c=>jbG p (bif b then c.pr else c.pl)
noncomputable def cAt (n:Nat) (c:Code):Code:=jbG (bits n) c
def bo (f:Func):Code:=f.body.getD .skip
noncomputable def HT.ins:List Bool->Nat->HT->HT
 | [],i,_=> .x i
 | false::p,i,h=> .t (HT.ins p i h.l) h.r
 | true::p,i,h=> .t h.l (HT.ins p i h.r)
section
variable {R:Type} {r:R} {P:Program} {np:Nat} {X:List (Z1q R)}
theorem Z1F.lr' {t:HT} {c:Code} (h:Z1F P np X t c):(Z1F P np X t.l c.pl)/\(Z1F P np X t.r c.pr):=by
 cases t with
 | o=>exact ⟨trivial,trivial⟩
 | x i=>exact ⟨trivial,trivial⟩
 | t a b=>exact h
theorem jbh {i:Nat}:(p:List Bool)->(t:HT)->(c:Code)->Z1F P np X t c->(∀ (W0:Base) (M:Nat->Prop),W0.np<=np->Z22 P W0 M (jbG p c) (Z0t (λ_ _=>none) X i))->Z1F P np X (HT.ins p i t) c
 | [],_,_,_,hx=>hx
 | false::p,t,c,h,hx=>⟨jbh p t.l c.pl h.lr'.1 hx,h.lr'.2⟩
 | true::p,t,c,h,hx=>⟨h.lr'.1,jbh p t.r c.pr h.lr'.2 hx⟩
theorem oI (p i:Nat) {t:HT} {c c':Code} {y:Z1q R} (hx:∀ {W0:Base} {M:Nat->Prop},W0.np<=np->Z22 P W0 M c' y) (h:Z1F P np X t c)
  (e:jbG (bits p) c=c':=by kernel_rfl) (e2:Z0t (λ_ _=>none) X i=y:=by kernel_rfl):Z1F P np X (HT.ins (bits p) i t) c:=
 jbh (bits p) t c h λW0 M hn=>by rw [e,e2];exact hx hn
theorem oN {c:Code}:Z1F P np X .o c:=trivial
variable {ty:List (TypeId×Ty×List TypeId)} {l:List (FuncId×Sig R)} [Subsingleton R]
theorem j1J (hm:P.follows .mixedOrders=true) (hT:Z0d P ty) (hS:∀ g sig,Z0s l g=some sig->Z1p P g sig) {W0:Base} {M:Nat->Prop} (hnp:W0.np<=np) (X:List (Z1q R)) {c:Code} {ht:HT} (hO:Z1F P np X ht c)
  (n:List Nat×List Nat) (x:List (Nat×List Nat×List Nat)) (rr:List Nat×List Nat) {y:Z1q R}
  (h:∀ σ k r',y σ k=some r'->∃ σ',Z2R σ' σ/\Z0V ⟨ty,l,np⟩ X ht c σ' (λe σ''=>k e (Z8i n x rr e σ''))=some r'):Z22 P W0 M c y:=
 Z99 (Z6Y (Γ:=⟨ty,l,np⟩) hm hT (Z7S hS) hnp X c ht hO) (Z92 _ _ _) h
theorem j0f (hm:P.follows .mixedOrders=true) (hT:Z0d P ty) (hS:∀ g sig,Z0s l g=some sig->Z1p P g sig) {W0:Base} {M:Nat->Prop} (hnp:W0.np<=np) (X:List (Z1q R)) {c:Code} {ht:HT} (hO:Z1F P np X ht c.pl)
  (ks bs:List Nat) (n:List Nat×List Nat) (x:List (Nat×List Nat×List Nat)) (rr:List Nat×List Nat) {y:Z1q R}
  (h:∀ σ k r',y σ k=some r'->∃ σ',Z2R σ' σ/\Z44 (Z0V ⟨ty,l,np⟩ X ht c.pl) (λσ=>σ.forget ks bs) (Z8i n x rr) Z12 σ' k=some r')
  (hc:c= .loop c.pl:=by kernel_rfl):Z22 P W0 M c y:=by
 rw [hc]
 exact Z95 (Z6Y (Γ:=⟨ty,l,np⟩) hm hT (Z7S hS) hnp X c.pl ht hO) (Z92 _ _ _) Z12 h
theorem j05 (hm:P.follows .mixedOrders=true) (hT:Z0d P ty) (hS:∀ g sig,Z0s l g=some sig->Z1p P g sig) {f:FuncId} {fn:Func} (X:List (Z1q R)) {ht:HT} (hO:Z1F P np X ht (bo fn)) (fz:Bool) (hf:P.funcs[f]? = some fn)
  {modes:List Mode} {ags:List Bool} {run:List TVal->List TVal->(List TVal->List TVal->List TVal->Option R)->Option R}
  (h:∀ vals ext k r',run vals ext k=some r'->Z75 ⟨ty,l,np⟩ X ht fz fn modes ags vals ext k=some r')
  (hname : (fn.name == "runtime.NumGoroutine") = false := by kernel_rfl) (hb : fn.body = some (bo fn) := by kernel_rfl) (hn : Nat.ble modes.length fn.ntmps = true := by kernel_rfl) : Z1p P f (⟨modes, ags, run⟩ : Sig R) :=
 Z8V (Γ:=⟨ty,l,np⟩) hm hT hS hO hf hname hb (Nat.le_of_ble_eq_true hn) h
end
end Go.PI
set_option maxRecDepth 100000
namespace Go.PI.G
open Go Go.PI Go.Proofs
open Go.Code (pl pr)
abbrev qV:=Int×Int×ByteArray
abbrev qW:=List qV
abbrev qC:=ByteArray×Int×Bool×Bool×Int×Int×ByteArray
abbrev qE:=List qC
abbrev qT:=ByteArray×qE×List ByteArray
abbrev qB:=ByteArray
abbrev qL:=List ByteArray
abbrev qS:=Int×ByteArray×qW×qW×Int×ByteArray×qE×List ByteArray×ByteArray×ByteArray
abbrev qG:=Int×ByteArray×qE×List ByteArray×ByteArray×ByteArray
abbrev qP:=Int×Int×qS
abbrev qQ:=Int×qP×Int×Int×Int
abbrev qU:=List qS
abbrev y0:Ty:= .slice (.int .u8)
abbrev y1:Ty:= .pair tI .str
abbrev y2:Ty:= .pair tI y1
abbrev y3:Ty:= .slice y2
abbrev y4:Ty:= .pair .bool y2
abbrev y5:Ty:= .pair .bool y4
abbrev y6:Ty:= .pair tI y5
abbrev y7:Ty:= .pair .str y6
abbrev y8:Ty:= .slice y7
abbrev y9:Ty:= .slice .str
abbrev y10:Ty:= .pair .str .str
abbrev y11:Ty:= .pair y9 y10
abbrev y12:Ty:= .pair y8 y11
abbrev y13:Ty:= .pair .str y12
abbrev y14:Ty:= .pair tI y13
abbrev y15:Ty:= .pair y3 y14
abbrev y16:Ty:= .pair y3 y15
abbrev y17:Ty:= .pair .str y16
abbrev y18:Ty:= .pair tI y17
abbrev y19:Ty:= .pair y8 y9
abbrev y20:Ty:= .pair .str y19
abbrev y21:Ty:= .pair y0 tI
abbrev y22:Ty:= .pair tI .bool
abbrev y23:Ty:= .pair y0 y22
def jdi:qB:=⟨#[109,48]⟩
def z_m:qB:=⟨#[109]⟩
def tys:List (TypeId×Ty×List TypeId):=[(3,tI,[]),
 (4,.bool,[]),
 (5,(.int .u8),[]),
 (9,.str,[]),
 (22,y0,[]),
 (23,y3,[]),
 (25,y3,[23]),
 (26,y8,[]),
 (27,y9,[]),
 (29,y14,[3,9,26,27,9,9]),
 (31,y18,[3,9,23,25,29]),
 (76,y20,[9,26,27]),
 (85,y21,[22,3]),
 (94,y23,[22,3,4]),
 (99,y2,[3,3,9]),
 (101,y7,[9,3,4,4,99])]
theorem follows:Try.prog.follows .mixedOrders=true:=by kernel_rfl
theorem j01:Z0d Try.prog tys:=Z9f (by kernel_rfl)
end Go.PI.G
namespace Go.PI.G
open Go Go.PI Go.Proofs
open Go.Code (pl pr)
noncomputable def j27 (s:qB) (i:Int) (rec:Int->Res) (k0:Unit->Res) (k1:Unit->Res):Res:=
 bif decide (i<(nI (ByteArray.size s))) then
  bif inb i (ByteArray.size s) then
   bif decide ((bt s i)<97) then
    k1 ()
   else
    bif inb i (ByteArray.size s) then
     bif decide ((bt s i)>122) then
      k1 ()
     else
      rec (Z8o (i+1))
    else none
  else none
 else
  k0 ()
noncomputable def j5b (s:qB):Int->(Int->Res)->((Unit->Res)×(Unit->Res))->Res:=λv rec q=>j27 s v (λi=>rec (i)) q.1 q.2
noncomputable def j6b (s:qB) (n:Nat) (i:Int) (k0:Unit->Res) (k1:Unit->Res):Res:=Z14 (j5b s) n (i) (k0,k1)
noncomputable def j7q:Z1q Unit:=λσ k=>rdN σ 28<|rdS σ 0 λs=>rdI σ 3 λi=>j6b s Z12 i (λ(_:Unit)=>k (.exit 0) (mkS 28 28 [(0,vS s)] [])) (λ(_:Unit)=>k .ret (mkS 28 28 [(2,vB false)] []))
theorem ja0 {W0:Base} {M:Nat->Prop} (hnp:W0.np<=0):Z22 Try.prog W0 M (cAt 26 (bo Try.f72)) j7q:=j0f follows j01 Z94 hnp [] oN [0,3] [] ([],[]) [(0,[0],[])] ([2],[]) λσ k _ h=>rN h λhn h=>rV h λs h0 h=>rV h λi h3 h=>⟨_,Z9m (m:=28) hn (sC h0 (sC h3 sN)) bN,.trans (Z88 (λv:Int=>(mkS 28 28 [(0,vS s),(3,vI v)] [])) (j5b s) (λ(k:Z6O Unit)=>(((λ(_:Unit)=>k (.exit 0) (mkS 28 28 [(0,vS s)] [])),(λ(_:Unit)=>k .ret (mkS 28 28 [(2,vB false)] []))):(Unit->Res)×(Unit->Res))) (λv rec k=>by kernel_rfl) Z12 (i) k) h⟩
noncomputable def j0q (s:qB) (k0:Bool->Res):Res:=
 j6b s Z12 0
  (λ(_:Unit)=>
   bif decide ((nI (ByteArray.size s))>=1) then
    k0 (decide ((nI (ByteArray.size s))<=8))
   else
    k0 false)
  (λ(_:Unit)=>
   k0 false)
noncomputable def j1x:Sig Unit:=⟨[.look .str false],[false],λvals ext k=>av vals .str λs vals=>nl vals<|nl ext<|j0q s (λ(r0:Bool)=>k [wB r0] [] [])⟩
theorem j3s:Z1p Try.prog 72 j1x:=j05 (np:=0) follows j01 Z94 [j7q] (oI 26 0 (ja0) oN) false Try.func72 λ_ _ k _ h=>aV h λ_ _ _ _ _ h=>nL h λ_ h=>nL h λ_ h=>by subst_vars;exact .trans (by kernel_rfl) h
noncomputable def j7B (n_:Int) (k0:Bool->Res):Res:=
 bif decide (n_>=(-1099511627775)) then
  k0 (decide (n_<=1099511627775))
 else
  k0 false
noncomputable def jaZ:Sig Unit:=⟨[.look tI false],[false],λvals ext k=>av vals tI λn_ vals=>nl vals<|nl ext<|j7B n_ (λ(r0:Bool)=>k [wB r0] [] [])⟩
theorem jaR:Z1p Try.prog 213 jaZ:=j05 (np:=0) follows j01 Z94 [] oN false Try.func213 λ_ _ k _ h=>aV h λ_ _ _ _ _ h=>nL h λ_ h=>nL h λ_ h=>by subst_vars;exact .trans (by kernel_rfl) h
noncomputable def j2H (v_:Int×Int×qB) (k0:Bool->Res):Res:=
 bif (v_.1==0) then
  bif (v_.2.1==0) then
   k0 (sEq v_.2.2 eS)
  else
   k0 false
 else
  bif (v_.1==1) then
   bif (v_.2.1==0) then
    k0 (sEq v_.2.2 eS)
   else
    bif (v_.2.1==1) then
     k0 (sEq v_.2.2 eS)
    else
     k0 false
  else
   bif (v_.1==2) then
    j7B v_.2.1 λ(r:Bool)=>
     bif r then
      k0 (sEq v_.2.2 eS)
     else
      k0 false
   else
    bif (v_.1==3) then
     bif (v_.2.1==0) then
      k0 (decide ((nI (ByteArray.size v_.2.2))<=30))
     else
      k0 false
    else
     k0 false
noncomputable def j5C:Sig Unit:=⟨[.look y2 true],[false],λvals ext k=>av vals y2 λv_ vals=>nl vals<|nl ext<|j2H v_ (λ(r0:Bool)=>k [wB r0] [] [])⟩
theorem j5n:Z1p Try.prog 190 j5C:=j05 (np:=0) follows j01 (Z8K jaR Z94) [] oN false Try.func190 λ_ _ k _ h=>aV h λ_ _ _ _ _ h=>nL h λ_ h=>nL h λ_ h=>by subst_vars;exact .trans (by kernel_rfl) h
noncomputable def j0e (x:Int) (lo:Int) (hi:Int) (k0:Bool->Res):Res:=
 bif decide (x>=lo) then
  k0 (decide (x<=hi))
 else
  k0 false
noncomputable def j1d:Sig Unit:=⟨[.look tI false,.look tI false,.look tI false],[false],λvals ext k=>av vals tI λx vals=>av vals tI λlo vals=>av vals tI λhi vals=>nl vals<|nl ext<|j0e x lo hi (λ(r0:Bool)=>k [wB r0] [] [])⟩
theorem j1c:Z1p Try.prog 127 j1d:=j05 (np:=0) follows j01 Z94 [] oN false Try.func127 λ_ _ k _ h=>aV h λ_ _ _ _ _ h=>aV h λ_ _ _ _ _ h=>aV h λ_ _ _ _ _ h=>nL h λ_ h=>nL h λ_ h=>by subst_vars;exact .trans (by kernel_rfl) h
noncomputable def j1U (s:qB) (i:Int) (rec:Int->Res) (k0:Unit->Res) (k1:Unit->Res):Res:=
 bif decide (i<(nI (ByteArray.size s))) then
  bif inb i (ByteArray.size s) then
   bif decide ((bt s i)<97) then
    k1 ()
   else
    bif inb i (ByteArray.size s) then
     bif decide ((bt s i)>122) then
      k1 ()
     else
      rec (Z8o (i+1))
    else none
  else none
 else
  k0 ()
noncomputable def j4X (s:qB):Int->(Int->Res)->((Unit->Res)×(Unit->Res))->Res:=λv rec q=>j1U s v (λi=>rec (i)) q.1 q.2
noncomputable def j4f (s:qB) (n:Nat) (i:Int) (k0:Unit->Res) (k1:Unit->Res):Res:=Z14 (j4X s) n (i) (k0,k1)
noncomputable def j5L:Z1q Unit:=λσ k=>rdN σ 23<|rdS σ 0 λs=>rdI σ 3 λi=>j4f s Z12 i (λ(_:Unit)=>k (.exit 0) (mkS 23 23 [(0,vS s)] [])) (λ(_:Unit)=>k .ret (mkS 23 23 [(2,vB false)] []))
theorem j9S {W0:Base} {M:Nat->Prop} (hnp:W0.np<=0):Z22 Try.prog W0 M (cAt 26 (bo Try.f75)) j5L:=j0f follows j01 (Z8K j1c Z94) hnp [] oN [0,3] [] ([],[]) [(0,[0],[])] ([2],[]) λσ k _ h=>rN h λhn h=>rV h λs h0 h=>rV h λi h3 h=>⟨_,Z9m (m:=23) hn (sC h0 (sC h3 sN)) bN,.trans (Z88 (λv:Int=>(mkS 23 23 [(0,vS s),(3,vI v)] [])) (j4X s) (λ(k:Z6O Unit)=>(((λ(_:Unit)=>k (.exit 0) (mkS 23 23 [(0,vS s)] [])),(λ(_:Unit)=>k .ret (mkS 23 23 [(2,vB false)] []))):(Unit->Res)×(Unit->Res))) (λv rec k=>by kernel_rfl) Z12 (i) k) h⟩
noncomputable def j0p (s:qB) (k0:Bool->Res):Res:=
 j4f s Z12 0
  (λ(_:Unit)=>
   j0e (nI (ByteArray.size s)) 1 8 λ(r:Bool)=>
    k0 r)
  (λ(_:Unit)=>
   k0 false)
noncomputable def j1w:Sig Unit:=⟨[.look .str false],[false],λvals ext k=>av vals .str λs vals=>nl vals<|nl ext<|j0p s (λ(r0:Bool)=>k [wB r0] [] [])⟩
theorem j4Q:Z1p Try.prog 75 j1w:=j05 (np:=0) follows j01 (Z8K j1c Z94) [j5L] (oI 26 0 (j9S) oN) false Try.func75 λ_ _ k _ h=>aV h λ_ _ _ _ _ h=>nL h λ_ h=>nL h λ_ h=>by subst_vars;exact .trans (by delta j0p j5L j1d;refine gz j4f λ_ e=> ?_;rewrite [<-e];refine gz j0e λ_ e=> ?_;rewrite [<-e];kernel_rfl) h
noncomputable def j3i (v_:Int×Int×qB) (k0:Bool->Res):Res:=
 bif (v_.1==0) then
  k0 ((v_.1==0)&&((v_.2.1==0)&&(sEq v_.2.2 eS)))
 else
  bif (v_.1==1) then
   j0e v_.2.1 0 1 λ(r:Bool)=>
    bif r then
     k0 (sEq v_.2.2 eS)
    else
     k0 false
  else
   bif (v_.1==2) then
    j0e v_.2.1 (-1099511627775) 1099511627775 λ(r1:Bool)=>
     bif r1 then
      k0 (sEq v_.2.2 eS)
     else
      k0 false
   else
    bif (v_.1==3) then
     bif (v_.2.1==0) then
      k0 (decide ((nI (ByteArray.size v_.2.2))<=30))
     else
      k0 false
    else
     k0 false
noncomputable def j8x:Sig Unit:=⟨[.look y2 true],[false],λvals ext k=>av vals y2 λv_ vals=>nl vals<|nl ext<|j3i v_ (λ(r0:Bool)=>k [wB r0] [] [])⟩
theorem j8h:Z1p Try.prog 148 j8x:=j05 (np:=0) follows j01 (Z8K j1c Z94) [] oN false Try.func148 λ_ _ k _ h=>aV h λ_ _ _ _ _ h=>nL h λ_ h=>nL h λ_ h=>by subst_vars;exact .trans (by delta j3i j1d;refine gz j0e λ_ e=> ?_;rewrite [<-e];kernel_rfl) h
end Go.PI.G
namespace Go.PI.G
open Go Go.PI Go.Proofs
open Go.Code (pl pr)
noncomputable def j0Y (s1:List qC) (s2:List qC) (t12:Int) (t13:Int) (rec:Int->Res) (k0:Unit->Res) (k1:Unit->Res):Res:=
 bif decide (t13<t12) then
  bif inb t13 (List.length s1) then
   bif inb t13 (List.length s2) then
    bif !((sEq (nth (eS,0,false,false,0,0,eS) s1 t13).1 (nth (eS,0,false,false,0,0,eS) s2 t13).1)&&(((nth (eS,0,false,false,0,0,eS) s1 t13).2.1==(nth (eS,0,false,false,0,0,eS) s2 t13).2.1)&&(((nth (eS,0,false,false,0,0,eS) s1 t13).2.2.1==(nth (eS,0,false,false,0,0,eS) s2 t13).2.2.1)&&(((nth (eS,0,false,false,0,0,eS) s1 t13).2.2.2.1==(nth (eS,0,false,false,0,0,eS) s2 t13).2.2.2.1)&&(((nth (eS,0,false,false,0,0,eS) s1 t13).2.2.2.2.1==(nth (eS,0,false,false,0,0,eS) s2 t13).2.2.2.2.1)&&(((nth (eS,0,false,false,0,0,eS) s1 t13).2.2.2.2.2.1==(nth (eS,0,false,false,0,0,eS) s2 t13).2.2.2.2.2.1)&&(sEq (nth (eS,0,false,false,0,0,eS) s1 t13).2.2.2.2.2.2 (nth (eS,0,false,false,0,0,eS) s2 t13).2.2.2.2.2.2))))))) then
     k1 ()
    else
     rec (Z8o (t13+1))
   else none
  else none
 else
  k0 ()
noncomputable def j37 (s1:List qC) (s2:List qC) (t12:Int):Int->(Int->Res)->((Unit->Res)×(Unit->Res))->Res:=λv rec q=>j0Y s1 s2 t12 v (λt13=>rec (t13)) q.1 q.2
noncomputable def j2f (s1:List qC) (s2:List qC) (t12:Int) (n:Nat) (t13:Int) (k0:Unit->Res) (k1:Unit->Res):Res:=Z14 (j37 s1 s2 t12) n (t13) (k0,k1)
noncomputable def j5O:Z1q Unit:=λσ k=>rdN σ 26<|rd1 σ 0 y8 .S λs1=>rd1 σ 1 y8 .S λs2=>rdI σ 12 λt12=>rdI σ 13 λt13=>j2f s1 s2 t12 Z12 t13 (λ(_:Unit)=>k (.exit 0) (mkS 26 26 [] [])) (λ(_:Unit)=>k .ret (mkS 26 26 [(4,vB false)] []))
theorem j7V {W0:Base} {M:Nat->Prop} (hnp:W0.np<=0):Z22 Try.prog W0 M (cAt 58 (bo Try.f193)) j5O:=j0f follows j01 Z94 hnp [] oN [0,1,12,13] [] ([],[]) [(0,[],[])] ([4],[]) λσ k _ h=>rN h λhn h=>rV h λs1 h0 h=>rV h λs2 h1 h=>rV h λt12 h12 h=>rV h λt13 h13 h=>⟨_,Z9m (m:=26) hn (sC h0 (sC h1 (sC h12 (sC h13 sN)))) bN,.trans (Z88 (λv:Int=>(mkS 26 26 [(0,v1 y8 s1 .S),(1,v1 y8 s2 .S),(12,vI t12),(13,vI v)] [])) (j37 s1 s2 t12) (λ(k:Z6O Unit)=>(((λ(_:Unit)=>k (.exit 0) (mkS 26 26 [] [])),(λ(_:Unit)=>k .ret (mkS 26 26 [(4,vB false)] []))):(Unit->Res)×(Unit->Res))) (λv rec k=>by kernel_rfl) Z12 (t13) k) h⟩
noncomputable def j0S (s1:List qC) (s2:List qC) (k0:Bool->Res):Res:=
 bif ((nI (List.length s1)) != (nI (List.length s2))) then
  k0 false
 else
  j2f s1 s2 (nI (List.length s1)) Z12 0
   (λ(_:Unit)=>
    k0 true)
   (λ(_:Unit)=>
    k0 false)
noncomputable def j6k:Sig Unit:=⟨[.look y8 false,.look y8 false],[false],λvals ext k=>av vals y8 λs1 vals=>av vals y8 λs2 vals=>nl vals<|nl ext<|j0S s1 s2 (λ(r0:Bool)=>k [wB r0] [] [])⟩
theorem j8l:Z1p Try.prog 193 j6k:=j05 (np:=0) follows j01 Z94 [j5O] (oI 58 0 (j7V) oN) false Try.func193 λ_ _ k _ h=>aV h λ_ _ _ _ _ h=>aV h λ_ _ _ _ _ h=>nL h λ_ h=>nL h λ_ h=>by subst_vars;exact .trans (by kernel_rfl) h
noncomputable def j71 (s1:qL) (s2:qL) (t12:Int) (t13:Int) (rec:Int->Res) (k0:Unit->Res) (k1:Unit->Res):Res:=
 bif decide (t13<t12) then
  bif inb t13 (List.length s1) then
   bif inb t13 (List.length s2) then
    bif sNe (nth eS s1 t13) (nth eS s2 t13) then
     k1 ()
    else
     rec (Z8o (t13+1))
   else none
  else none
 else
  k0 ()
noncomputable def j43 (s1:qL) (s2:qL) (t12:Int):Int->(Int->Res)->((Unit->Res)×(Unit->Res))->Res:=λv rec q=>j71 s1 s2 t12 v (λt13=>rec (t13)) q.1 q.2
noncomputable def j2P (s1:qL) (s2:qL) (t12:Int) (n:Nat) (t13:Int) (k0:Unit->Res) (k1:Unit->Res):Res:=Z14 (j43 s1 s2 t12) n (t13) (k0,k1)
noncomputable def j4t:Z1q Unit:=λσ k=>rdN σ 26<|rd1 σ 0 y9 .S λs1=>rd1 σ 1 y9 .S λs2=>rdI σ 12 λt12=>rdI σ 13 λt13=>j2P s1 s2 t12 Z12 t13 (λ(_:Unit)=>k (.exit 0) (mkS 26 26 [] [])) (λ(_:Unit)=>k .ret (mkS 26 26 [(4,vB false)] []))
theorem j76 {W0:Base} {M:Nat->Prop} (hnp:W0.np<=0):Z22 Try.prog W0 M (cAt 58 (bo Try.f194)) j4t:=j0f follows j01 Z94 hnp [] oN [0,1,12,13] [] ([],[]) [(0,[],[])] ([4],[]) λσ k _ h=>rN h λhn h=>rV h λs1 h0 h=>rV h λs2 h1 h=>rV h λt12 h12 h=>rV h λt13 h13 h=>⟨_,Z9m (m:=26) hn (sC h0 (sC h1 (sC h12 (sC h13 sN)))) bN,.trans (Z88 (λv:Int=>(mkS 26 26 [(0,v1 y9 s1 .S),(1,v1 y9 s2 .S),(12,vI t12),(13,vI v)] [])) (j43 s1 s2 t12) (λ(k:Z6O Unit)=>(((λ(_:Unit)=>k (.exit 0) (mkS 26 26 [] [])),(λ(_:Unit)=>k .ret (mkS 26 26 [(4,vB false)] []))):(Unit->Res)×(Unit->Res))) (λv rec k=>by kernel_rfl) Z12 (t13) k) h⟩
noncomputable def j1k (s1:qL) (s2:qL) (k0:Bool->Res):Res:=
 bif ((nI (List.length s1)) != (nI (List.length s2))) then
  k0 false
 else
  j2P s1 s2 (nI (List.length s1)) Z12 0
   (λ(_:Unit)=>
    k0 true)
   (λ(_:Unit)=>
    k0 false)
noncomputable def j5j:Sig Unit:=⟨[.look y9 false,.look y9 false],[false],λvals ext k=>av vals y9 λs1 vals=>av vals y9 λs2 vals=>nl vals<|nl ext<|j1k s1 s2 (λ(r0:Bool)=>k [wB r0] [] [])⟩
theorem j7F:Z1p Try.prog 194 j5j:=j05 (np:=0) follows j01 Z94 [j4t] (oI 58 0 (j76) oN) false Try.func194 λ_ _ k _ h=>aV h λ_ _ _ _ _ h=>aV h λ_ _ _ _ _ h=>nL h λ_ h=>nL h λ_ h=>by subst_vars;exact .trans (by kernel_rfl) h
end Go.PI.G
namespace Go.PI.G
open Go Go.PI Go.Proofs
open Go.Code (pl pr)
noncomputable def j2D (c:qB×Int×Bool×Bool×Int×Int×qB) (k0:Bool->Res):Res:=
 j0q c.1 λ(r:Bool)=>
  bif !r then
   k0 false
  else
   bif decide (c.2.1<1) then
    k0 false
   else
    bif decide (c.2.1>3) then
     k0 false
    else
     bif !c.2.2.2.1 then
      k0 ((c.2.2.2.2.1==0)&&((c.2.2.2.2.2.1==0)&&(sEq c.2.2.2.2.2.2 eS)))
     else
      j2H c.2.2.2.2 λ(r1:Bool)=>
       bif r1 then
        bif ((c.2.2.2.2.1==0)&&((c.2.2.2.2.2.1==0)&&(sEq c.2.2.2.2.2.2 eS))) then
         bif ((c.2.2.2.2.1==0)&&((c.2.2.2.2.2.1==0)&&(sEq c.2.2.2.2.2.2 eS))) then
          k0 (!c.2.2.1)
         else
          k0 true
        else
         bif (c.2.2.2.2.1==c.2.1) then
          bif ((c.2.2.2.2.1==0)&&((c.2.2.2.2.2.1==0)&&(sEq c.2.2.2.2.2.2 eS))) then
           k0 (!c.2.2.1)
          else
           k0 true
         else
          k0 false
       else
        k0 false
noncomputable def j42:Sig Unit:=⟨[.look y7 true],[false],λvals ext k=>av vals y7 λc vals=>nl vals<|nl ext<|j2D c (λ(r0:Bool)=>k [wB r0] [] [])⟩
theorem j8m:Z1p Try.prog 191 j42:=j05 (np:=0) follows j01 (Z8K j3s (Z8K j5n Z94)) [] oN false Try.func191 λ_ _ k _ h=>aV h λ_ _ _ _ _ h=>nL h λ_ h=>nL h λ_ h=>by subst_vars;exact .trans (by delta j2D j1x j5C;refine gz j0q λ_ e=> ?_;rewrite [<-e];refine gz j2H λ_ e=> ?_;rewrite [<-e];kernel_rfl) h
noncomputable def j2C (name:qB) (t8:List qC) (t9:Int) (t10:Int) (rec:Int->Res) (k0:Unit->Res) (k1:Int->Res):Res:=
 bif decide (t10<t9) then
  bif inb t10 (List.length t8) then
   bif sEq (nth (eS,0,false,false,0,0,eS) t8 t10).1 name then
    k1 t10
   else
    rec (Z8o (t10+1))
  else none
 else
  k0 ()
noncomputable def j5E (name:qB) (t8:List qC) (t9:Int):Int->(Int->Res)->((Unit->Res)×(Int->Res))->Res:=λv rec q=>j2C name t8 t9 v (λt10=>rec (t10)) q.1 q.2
noncomputable def j6t (name:qB) (t8:List qC) (t9:Int) (n:Nat) (t10:Int) (k0:Unit->Res) (k1:Int->Res):Res:=Z14 (j5E name t8 t9) n (t10) (k0,k1)
noncomputable def j7R:Z1q Unit:=λσ k=>rdN σ 21<|rdS σ 1 λname=>rd1 σ 8 y8 .S λt8=>rdI σ 9 λt9=>rdI σ 10 λt10=>j6t name t8 t9 Z12 t10 (λ(_:Unit)=>k (.exit 0) (mkS 21 21 [] [])) (λ(t4:Int)=>k .ret (mkS 21 21 [(4,vI t4)] []))
theorem jas {W0:Base} {M:Nat->Prop} (hnp:W0.np<=0):Z22 Try.prog W0 M (cAt 26 (bo Try.f141)) j7R:=j0f follows j01 Z94 hnp [] oN [1,8,9,10] [] ([],[]) [(0,[],[])] ([4],[]) λσ k _ h=>rN h λhn h=>rV h λname h1 h=>rV h λt8 h8 h=>rV h λt9 h9 h=>rV h λt10 h10 h=>⟨_,Z9m (m:=21) hn (sC h1 (sC h8 (sC h9 (sC h10 sN)))) bN,.trans (Z88 (λv:Int=>(mkS 21 21 [(1,vS name),(8,v1 y8 t8 .S),(9,vI t9),(10,vI v)] [])) (j5E name t8 t9) (λ(k:Z6O Unit)=>(((λ(_:Unit)=>k (.exit 0) (mkS 21 21 [] [])),(λ(t4:Int)=>k .ret (mkS 21 21 [(4,vI t4)] []))):(Unit->Res)×(Int->Res))) (λv rec k=>by kernel_rfl) Z12 (t10) k) h⟩
noncomputable def j4n (t:qB×qE×qL) (name:qB) (k0:Int->Res):Res:=
 j6t name t.2.1 (nI (List.length t.2.1)) Z12 0
  (λ(_:Unit)=>
   k0 (-1))
  (λ(t1:Int)=>
   k0 t1)
noncomputable def j6Z:Sig Unit:=⟨[.look y20 true,.look .str false],[false],λvals ext k=>av vals y20 λt vals=>av vals .str λname vals=>nl vals<|nl ext<|j4n t name (λ(r0:Int)=>k [wI r0] [] [])⟩
theorem jba:Z1p Try.prog 141 j6Z:=j05 (np:=0) follows j01 Z94 [j7R] (oI 26 0 (jas) oN) false Try.func141 λ_ _ k _ h=>aV h λ_ _ _ _ _ h=>aV h λ_ _ _ _ _ h=>nL h λ_ h=>nL h λ_ h=>by subst_vars;exact .trans (by kernel_rfl) h
theorem j4a:Fns Try.prog [(72,j1x),(141,j6Z),(191,j42)]:=(Z8K j3s (Z8K jba (Z8K j8m Z94)))
noncomputable def j2G (t:qB×qE×qL) (k0:Bool->Res):Res:=
 j0q t.1 λ(r:Bool)=>
  bif !r then
   k0 true
  else
   bif decide ((nI (List.length t.2.1))<1) then
    k0 true
   else
    bif decide ((nI (List.length t.2.1))>8) then
     k0 true
    else
     k0 (decide ((nI (List.length t.2.2))<1))
noncomputable def j2d:Z1q Unit:=λσ k=>rdN σ 75<|rdT σ 1 (pB 1)<|rdB σ 1 y20 [.S,.S] λa t=>j2G t (λ(t30:Bool)=>k .normal (mkS 75 75 [(1,pB 1),(30,vB t30)] [(1,⟨y20,a,t,[.S,.S]⟩)]))
theorem j9s {W0:Base} {M:Nat->Prop} (hnp:W0.np<=0):Z22 Try.prog W0 M (cAt 12 (bo Try.f185)) j2d:=j1J follows j01 j4a hnp [] oN ([1,30],[1]) [] ([],[]) λσ k _ h=>rN h λhn h=>rT h λh1 h=>rB h λa t hb1 h=>⟨_,Z9m (m:=75) hn (sC h1 sN) (bC hb1 bN),.trans (by kernel_rfl) h⟩
noncomputable def j19 (t32:List qC) (t33:Int) (t:qB×qE×qL) (t34:Int) (rec:Int->Res) (k0:Unit->Res) (k1:Unit->Res):Res:=
 bif decide (t34<t33) then
  bif inb t34 (List.length t32) then
   j2D (nth (eS,0,false,false,0,0,eS) t32 t34) λ(r:Bool)=>
    bif !r then
     k1 ()
    else
     j4n t (nth (eS,0,false,false,0,0,eS) t32 t34).1 λ(r1:Int)=>
      bif (r1 != t34) then
       k1 ()
      else
       rec (Z8o (t34+1))
  else none
 else
  k0 ()
noncomputable def j2S (t32:List qC) (t33:Int) (t:qB×qE×qL):Int->(Int->Res)->((Unit->Res)×(Unit->Res))->Res:=λv rec q=>j19 t32 t33 t v (λt34=>rec (t34)) q.1 q.2
noncomputable def j2E (t32:List qC) (t33:Int) (t:qB×qE×qL) (n:Nat) (t34:Int) (k0:Unit->Res) (k1:Unit->Res):Res:=Z14 (j2S t32 t33 t) n (t34) (k0,k1)
noncomputable def j3r:Z1q Unit:=λσ k=>rdN σ 75<|rdT σ 1 (pB 1)<|rd1 σ 32 y8 .S λt32=>rdI σ 33 λt33=>rdI σ 34 λt34=>rdB σ 1 y20 [.S,.S] λa t=>j2E t32 t33 t Z12 t34 (λ(_:Unit)=>k (.exit 0) (mkS 75 75 [(1,pB 1)] [(1,⟨y20,a,t,[.S,.S]⟩)])) (λ(_:Unit)=>k .ret (mkS 75 75 [(2,vB false)] []))
theorem j9q {W0:Base} {M:Nat->Prop} (hnp:W0.np<=0):Z22 Try.prog W0 M (cAt 58 (bo Try.f185)) j3r:=j0f follows j01 j4a hnp [j2d] oN [1,32,33,34] [1] ([],[]) [(0,[1],[1])] ([2],[]) λσ k _ h=>rN h λhn h=>rT h λh1 h=>rV h λt32 h32 h=>rV h λt33 h33 h=>rV h λt34 h34 h=>rB h λa t hb1 h=>⟨_,Z9m (m:=75) hn (sC h1 (sC h32 (sC h33 (sC h34 sN)))) (bC hb1 bN),.trans (Z88 (λv:Int=>(mkS 75 75 [(1,pB 1),(32,v1 y8 t32 .S),(33,vI t33),(34,vI v)] [(1,⟨y20,a,t,[.S,.S]⟩)])) (j2S t32 t33 t) (λ(k:Z6O Unit)=>(((λ(_:Unit)=>k (.exit 0) (mkS 75 75 [(1,pB 1)] [(1,⟨y20,a,t,[.S,.S]⟩)])),(λ(_:Unit)=>k .ret (mkS 75 75 [(2,vB false)] []))):(Unit->Res)×(Unit->Res))) (λv rec k=>by delta j2S j19 j42 j6Z;refine gz j2D λ_ e=> ?_;rewrite [<-e];refine gz j4n λ_ e=> ?_;rewrite [<-e];kernel_rfl) Z12 (t34) k) h⟩
noncomputable def j1D (t52:qL) (t53:Int) (t:qB×qE×qL) (last:Int) (t54:Int) (rec:Int->Int->Res) (k0:Unit->Res) (k1:Unit->Res):Res:=
 bif decide (t54<t53) then
  bif inb t54 (List.length t52) then
   j4n t (nth eS t52 t54) λ(r:Int)=>
    bif decide (r<=last) then
     k1 ()
    else
     bif inb r (List.length t.2.1) then
      bif !(nth (eS,0,false,false,0,0,eS) t.2.1 r).2.2.1 then
       k1 ()
      else
       rec r (Z8o (t54+1))
     else none
  else none
 else
  k0 ()
noncomputable def j4A (t52:qL) (t53:Int) (t:qB×qE×qL):(Int×Int)->(Int×Int->Res)->((Unit->Res)×(Unit->Res))->Res:=λv rec q=>j1D t52 t53 t v.1 v.2 (λlast t54=>rec (last,t54)) q.1 q.2
noncomputable def j2F (t52:qL) (t53:Int) (t:qB×qE×qL) (n:Nat) (last:Int) (t54:Int) (k0:Unit->Res) (k1:Unit->Res):Res:=Z14 (j4A t52 t53 t) n (last,t54) (k0,k1)
noncomputable def j5f:Z1q Unit:=λσ k=>rdN σ 75<|rdT σ 1 (pB 1)<|rdI σ 5 λlast=>rd1 σ 52 y9 .S λt52=>rdI σ 53 λt53=>rdI σ 54 λt54=>rdB σ 1 y20 [.S,.S] λa t=>j2F t52 t53 t Z12 last t54 (λ(_:Unit)=>k (.exit 2) (mkS 75 75 [] [])) (λ(_:Unit)=>k .ret (mkS 75 75 [(2,vB false)] []))
theorem j9r {W0:Base} {M:Nat->Prop} (hnp:W0.np<=0):Z22 Try.prog W0 M (cAt 250 (bo Try.f185)) j5f:=j0f follows j01 j4a hnp [j2d,j3r] oN [1,5,52,53,54] [1] ([],[]) [(2,[],[])] ([2],[]) λσ k _ h=>rN h λhn h=>rT h λh1 h=>rV h λlast h5 h=>rV h λt52 h52 h=>rV h λt53 h53 h=>rV h λt54 h54 h=>rB h λa t hb1 h=>⟨_,Z9m (m:=75) hn (sC h1 (sC h5 (sC h52 (sC h53 (sC h54 sN))))) (bC hb1 bN),.trans (Z88 (λv:Int×Int=>(mkS 75 75 [(1,pB 1),(5,vI v.1),(52,v1 y9 t52 .S),(53,vI t53),(54,vI v.2)] [(1,⟨y20,a,t,[.S,.S]⟩)])) (j4A t52 t53 t) (λ(k:Z6O Unit)=>(((λ(_:Unit)=>k (.exit 2) (mkS 75 75 [] [])),(λ(_:Unit)=>k .ret (mkS 75 75 [(2,vB false)] []))):(Unit->Res)×(Unit->Res))) (λv rec k=>by kernel_rfl) Z12 (last,t54) k) h⟩
noncomputable def j39 (t:qB×qE×qL) (k0:Bool->Res):Res:=
 j2G t λ(t1:Bool)=>
  bif t1 then
   k0 false
  else
   j2E t.2.1 (nI (List.length t.2.1)) t Z12 0
    (λ(_:Unit)=>
     j2F t.2.2 (nI (List.length t.2.2)) t Z12 (-1) 0
      (λ(_:Unit)=>
       k0 true)
      (λ(_:Unit)=>
       k0 false))
    (λ(_:Unit)=>
     k0 false)
noncomputable def j65:Sig Unit:=⟨[.look y20 true],[false],λvals ext k=>av vals y20 λt vals=>nl vals<|nl ext<|j39 t (λ(r0:Bool)=>k [wB r0] [] [])⟩
theorem jak:Z1p Try.prog 185 j65:=j05 (np:=0) follows j01 j4a [j2d,j3r,j5f] (oI 12 0 (j9s) (oI 58 1 (j9q) (oI 250 2 (j9r) oN))) false Try.func185 λ_ _ k _ h=>aV h λ_ _ _ _ _ h=>nL h λ_ h=>nL h λ_ h=>by subst_vars;exact .trans (by delta j39 j2d j3r j5f;refine gz j2G λ_ e=> ?_;rewrite [<-e];refine gz j2E λ_ e=> ?_;rewrite [<-e];refine gz j2F λ_ e=> ?_;rewrite [<-e];kernel_rfl) h
theorem j8f:Fns Try.prog [(72,j1x),(185,j65),(191,j42)]:=(Z8K j3s (Z8K jak (Z8K j8m Z94)))
noncomputable def j3x (d:qG) (k0:Bool->Res):Res:=
 bif ((nI (List.length d.2.2.1))==0) then
  k0 ((nI (List.length d.2.2.2.1))==0)
 else
  k0 false
noncomputable def j6e:Z1q Unit:=λσ k=>rdN σ 123<|rdT σ 1 (pB 1)<|rdB σ 1 y14 [.S,.S] λa d=>j3x d (λ(plain:Bool)=>k .normal (mkS 123 123 [(1,pB 1),(3,vB plain)] [(1,⟨y14,a,d,[.S,.S]⟩)]))
theorem jat {W0:Base} {M:Nat->Prop} (hnp:W0.np<=0):Z22 Try.prog W0 M (cAt 14 (bo Try.f151)) j6e:=j1J follows j01 j8f hnp [] oN ([1,3],[1]) [] ([],[]) λσ k _ h=>rN h λhn h=>rT h λh1 h=>rB h λa d hb1 h=>⟨_,Z9m (m:=123) hn (sC h1 sN) (bC hb1 bN),.trans (by kernel_rfl) h⟩
noncomputable def j4o (d:qG) (k0:Bool->Res):Res:=
 j0q d.2.1 λ(r:Bool)=>
  bif !r then
   k0 false
  else
   j3x d λ(plain:Bool)=>
    bif (d.1==1) then
     bif sEq d.2.2.2.2.1 eS then
      bif sEq d.2.2.2.2.2 eS then
       j39 (d.2.1,d.2.2.1,d.2.2.2.1) λ(r1:Bool)=>
        k0 r1
      else
       k0 false
     else
      k0 false
    else
     bif (d.1==2) then
      bif plain then
       bif sEq d.2.2.2.2.1 eS then
        k0 (sEq d.2.2.2.2.2 eS)
       else
        k0 false
      else
       k0 false
     else
      bif (d.1==3) then
       bif ((nI (List.length d.2.2.1))==1) then
        bif inb 0 (List.length d.2.2.1) then
         j2D (nth (eS,0,false,false,0,0,eS) d.2.2.1 0) λ(r2:Bool)=>
          bif r2 then
           bif inb 0 (List.length d.2.2.1) then
            bif (nth (eS,0,false,false,0,0,eS) d.2.2.1 0).2.2.2.1 then
             bif ((nI (List.length d.2.2.2.1))==0) then
              bif sEq d.2.2.2.2.1 eS then
               k0 (sEq d.2.2.2.2.2 eS)
              else
               k0 false
             else
              k0 false
            else
             bif inb 0 (List.length d.2.2.1) then
              bif !(nth (eS,0,false,false,0,0,eS) d.2.2.1 0).2.2.1 then
               bif ((nI (List.length d.2.2.2.1))==0) then
                bif sEq d.2.2.2.2.1 eS then
                 k0 (sEq d.2.2.2.2.2 eS)
                else
                 k0 false
               else
                k0 false
              else
               k0 false
             else none
           else none
          else
           k0 false
        else none
       else
        k0 false
      else
       bif (d.1==4) then
        bif plain then
         j0q d.2.2.2.2.1 λ(r3:Bool)=>
          bif r3 then
           k0 (sEq d.2.2.2.2.2 eS)
          else
           k0 false
        else
         k0 false
       else
        bif (d.1==5) then
         bif plain then
          j0q d.2.2.2.2.1 λ(r4:Bool)=>
           bif r4 then
            j0q d.2.2.2.2.2 λ(r5:Bool)=>
             k0 r5
           else
            k0 false
         else
          k0 false
        else
         k0 false
noncomputable def j70:Sig Unit:=⟨[.look y14 true],[false],λvals ext k=>av vals y14 λd vals=>nl vals<|nl ext<|j4o d (λ(r0:Bool)=>k [wB r0] [] [])⟩
theorem jbb:Z1p Try.prog 151 j70:=j05 (np:=0) follows j01 j8f [j6e] (oI 14 0 (jat) oN) false Try.func151 λ_ _ k _ h=>aV h λ_ _ _ _ _ h=>nL h λ_ h=>nL h λ_ h=>by subst_vars;exact .trans (by delta j4o j1x j6e j65 j42;refine gz j0q λ_ e=> ?_;rewrite [<-e];refine gz j3x λ_ e=> ?_;rewrite [<-e];refine gz j39 λ_ e=> ?_;rewrite [<-e];refine gz j2D λ_ e=> ?_;rewrite [<-e];kernel_rfl) h
noncomputable def j5Y (l:qL) (k0:qL->Res):Res:=
 bif lim (0+(List.length l)) then
  k0 l
 else none
noncomputable def j9x:Sig Unit:=⟨[.borrow y9 false],[false],λvals ext k=>av vals y9 λl vals=>nl vals<|nl ext<|j5Y l (λ(r0:qL)=>k [w1 y9 r0 .O] [] [])⟩
theorem j9f:Z1p Try.prog 78 j9x:=j05 (np:=0) follows j01 Z94 [] oN false Try.func78 λ_ _ k _ h=>aV h λ_ _ _ _ _ h=>nL h λ_ h=>nL h λ_ h=>by subst_vars;exact .trans (by kernel_rfl) h
noncomputable def j5X (t:qB×qE×qL) (k0:qT->Res):Res:=
 bif lim (0+(List.length t.2.1)) then
  j5Y t.2.2 λ(r:qL)=>
   k0 (t.1,t.2.1,r)
 else none
noncomputable def j9w:Sig Unit:=⟨[.borrow y20 true],[true],λvals ext k=>av vals y20 λt vals=>nl vals<|nl ext<|j5X t (λ(r0:qB×qE×qL)=>k [⟨y20,true,r0,[.O,.O]⟩] [] [])⟩
theorem j9e:Z1p Try.prog 96 j9w:=j05 (np:=0) follows j01 (Z8K j9f Z94) [] oN false Try.func96 λ_ _ k _ h=>aV h λ_ _ _ _ _ h=>nL h λ_ h=>nL h λ_ h=>by subst_vars;exact .trans (by kernel_rfl) h
noncomputable def j3t (d:qG) (k0:qT->Res):Res:=
 j5X (d.2.1,d.2.2.1,d.2.2.2.1) λ(r:qB×qE×qL)=>
  k0 r
noncomputable def j7i:Sig Unit:=⟨[.borrow y14 true],[true],λvals ext k=>av vals y14 λd vals=>nl vals<|nl ext<|j3t d (λ(r0:qB×qE×qL)=>k [⟨y20,true,r0,[.O,.O]⟩] [] [])⟩
theorem j9z:Z1p Try.prog 192 j7i:=j05 (np:=0) follows j01 (Z8K j9e Z94) [] oN false Try.func192 λ_ _ k _ h=>aV h λ_ _ _ _ _ h=>nL h λ_ h=>nL h λ_ h=>by subst_vars;exact .trans (by kernel_rfl) h
noncomputable def j2r (c:qB×Int×Bool×Bool×Int×Int×qB) (k0:Bool->Res):Res:=
 j0p c.1 λ(r:Bool)=>
  bif !r then
   k0 false
  else
   j0e c.2.1 1 3 λ(r1:Bool)=>
    bif !r1 then
     k0 false
    else
     j3i c.2.2.2.2 λ(r2:Bool)=>
      bif !r2 then
       k0 false
      else
       bif !c.2.2.2.1 then
        k0 ((c.2.2.2.2.1==0)&&((c.2.2.2.2.2.1==0)&&(sEq c.2.2.2.2.2.2 eS)))
       else
        bif (c.2.2.2.2.1==c.2.1) then
         k0 true
        else
         bif (c.2.2.2.2.1==0) then
          k0 (!c.2.2.1)
         else
          k0 false
noncomputable def j5w:Sig Unit:=⟨[.look y7 true],[false],λvals ext k=>av vals y7 λc vals=>nl vals<|nl ext<|j2r c (λ(r0:Bool)=>k [wB r0] [] [])⟩
theorem j8g:Z1p Try.prog 188 j5w:=j05 (np:=0) follows j01 (Z8K j4Q (Z8K j1c (Z8K j8h Z94))) [] oN false Try.func188 λ_ _ k _ h=>aV h λ_ _ _ _ _ h=>nL h λ_ h=>nL h λ_ h=>by subst_vars;exact .trans (by delta j2r j1w j1d j8x;refine gz j0p λ_ e=> ?_;rewrite [<-e];refine gz j0e λ_ e=> ?_;rewrite [<-e];refine gz j3i λ_ e=> ?_;rewrite [<-e];kernel_rfl) h
noncomputable def j7w (c:qB×Int×Bool×Bool×Int×Int×qB) (t1:qB) (k0:Bool->Res):Res:=
 k0 (sEq c.1 t1)
noncomputable def jaW:Sig Unit:=⟨[.look y7 true,.rptr .str],[false],λvals ext k=>av vals y7 λc vals=>av vals .str λt1 vals=>nl vals<|nl ext<|j7w c t1 (λ(r0:Bool)=>k [wB r0] [] [])⟩
theorem j82:Z1p Try.prog 184 jaW:=j05 (np:=0) follows j01 Z94 [] oN false Try.func184 λ_ _ k _ h=>aV h λ_ _ _ _ _ h=>aV h λ_ _ _ _ _ h=>nL h λ_ h=>nL h λ_ h=>by subst_vars;exact .trans (by kernel_rfl) h
noncomputable def j0y (s:List qC) (f:qB) (t7:Int) (t8:Int) (rec:Int->Res) (k0:Unit->Res) (k1:Int->Res):Res:=
 bif decide (t8<t7) then
  bif inb t8 (List.length s) then
   j7w (nth (eS,0,false,false,0,0,eS) s t8) f λ(r:Bool)=>
    bif r then
     k1 t8
    else
     rec (Z8o (t8+1))
  else none
 else
  k0 ()
noncomputable def j1L (s:List qC) (f:qB) (t7:Int):Int->(Int->Res)->((Unit->Res)×(Int->Res))->Res:=λv rec q=>j0y s f t7 v (λt8=>rec (t8)) q.1 q.2
noncomputable def j2h (s:List qC) (f:qB) (t7:Int) (n:Nat) (t8:Int) (k0:Unit->Res) (k1:Int->Res):Res:=Z14 (j1L s f t7) n (t8) (k0,k1)
noncomputable def j48:Z1q Unit:=λσ k=>rdN σ 19<|rd1 σ 0 y8 .S λs=>rdC σ 1 184 [.str] .str [] λf=>rdI σ 7 λt7=>rdI σ 8 λt8=>j2h s f t7 Z12 t8 (λ(_:Unit)=>k (.exit 0) (mkS 19 19 [] [])) (λ(t4:Int)=>k .ret (mkS 19 19 [(4,vI t4)] []))
theorem j6R {W0:Base} {M:Nat->Prop} (hnp:W0.np<=0):Z22 Try.prog W0 M (cAt 26 (bo Try.f183)) j48:=j0f follows j01 (Z8K j82 Z94) hnp [] oN [0,1,7,8] [] ([],[]) [(0,[],[])] ([4],[]) λσ k _ h=>rN h λhn h=>rV h λs h0 h=>rC h λf h1 h=>rV h λt7 h7 h=>rV h λt8 h8 h=>⟨_,Z9m (m:=19) hn (sC h0 (sC h1 (sC h7 (sC h8 sN)))) bN,.trans (Z88 (λv:Int=>(mkS 19 19 [(0,v1 y8 s .S),(1,.sclos 184 [.str] ⟨.str,false,f,[]⟩),(7,vI t7),(8,vI v)] [])) (j1L s f t7) (λ(k:Z6O Unit)=>(((λ(_:Unit)=>k (.exit 0) (mkS 19 19 [] [])),(λ(t4:Int)=>k .ret (mkS 19 19 [(4,vI t4)] []))):(Unit->Res)×(Int->Res))) (λv rec k=>by kernel_rfl) Z12 (t8) k) h⟩
noncomputable def j3m (s:List qC) (f:qB) (k0:Int->Res):Res:=
 j2h s f (nI (List.length s)) Z12 0
  (λ(_:Unit)=>
   k0 (-1))
  (λ(t:Int)=>
   k0 t)
noncomputable def j7z:Sig Unit:=⟨[.look y8 false,.rclos 184 [.str]],[false],λvals ext k=>av vals y8 λs vals=>av vals .str λf vals=>nl vals<|nl ext<|j3m s f (λ(r0:Int)=>k [wI r0] [] [])⟩
theorem j7u:Z1p Try.prog 183 j7z:=j05 (np:=0) follows j01 (Z8K j82 Z94) [j48] (oI 26 0 (j6R) oN) false Try.func183 λ_ _ k _ h=>aV h λ_ _ _ _ _ h=>aV h λ_ _ _ _ _ h=>nL h λ_ h=>nL h λ_ h=>by subst_vars;exact .trans (by kernel_rfl) h
noncomputable def j4c (t:qB×qE×qL) (name:qB) (k0:Int->Res):Res:=
 j3m t.2.1 name λ(r:Int)=>
  k0 r
noncomputable def j6U:Sig Unit:=⟨[.look y20 true,.look .str false],[false],λvals ext k=>av vals y20 λt vals=>av vals .str λname vals=>nl vals<|nl ext<|j4c t name (λ(r0:Int)=>k [wI r0] [] [])⟩
theorem jb5:Z1p Try.prog 138 j6U:=j05 (np:=0) follows j01 (Z8K j7u Z94) [] oN false Try.func138 λ_ _ k _ h=>aV h λ_ _ _ _ _ h=>aV h λ_ _ _ _ _ h=>nL h λ_ h=>nL h λ_ h=>by subst_vars;exact .trans (by kernel_rfl) h
theorem j5V:Fns Try.prog [(75,j1w),(127,j1d),(138,j6U),(188,j5w)]:=(Z8K j4Q (Z8K j1c (Z8K jb5 (Z8K j8g Z94))))
noncomputable def j18 (t10:List qC) (t11:Int) (t:qB×qE×qL) (t12:Int) (rec:Int->Res) (k0:Unit->Res) (k1:Unit->Res):Res:=
 bif decide (t12<t11) then
  bif inb t12 (List.length t10) then
   j2r (nth (eS,0,false,false,0,0,eS) t10 t12) λ(r:Bool)=>
    bif !r then
     k1 ()
    else
     j4c t (nth (eS,0,false,false,0,0,eS) t10 t12).1 λ(r1:Int)=>
      bif (r1 != t12) then
       k1 ()
      else
       rec (Z8o (t12+1))
  else none
 else
  k0 ()
noncomputable def j2R (t10:List qC) (t11:Int) (t:qB×qE×qL):Int->(Int->Res)->((Unit->Res)×(Unit->Res))->Res:=λv rec q=>j18 t10 t11 t v (λt12=>rec (t12)) q.1 q.2
noncomputable def j2t (t10:List qC) (t11:Int) (t:qB×qE×qL) (n:Nat) (t12:Int) (k0:Unit->Res) (k1:Unit->Res):Res:=Z14 (j2R t10 t11 t) n (t12) (k0,k1)
noncomputable def j3q:Z1q Unit:=λσ k=>rdN σ 68<|rdT σ 1 (pB 1)<|rd1 σ 10 y8 .S λt10=>rdI σ 11 λt11=>rdI σ 12 λt12=>rdB σ 1 y20 [.S,.S] λa t=>j2t t10 t11 t Z12 t12 (λ(_:Unit)=>k (.exit 0) (mkS 68 68 [(1,pB 1)] [(1,⟨y20,a,t,[.S,.S]⟩)])) (λ(_:Unit)=>k .ret (mkS 68 68 [(2,vB false)] []))
theorem j9m {W0:Base} {M:Nat->Prop} (hnp:W0.np<=0):Z22 Try.prog W0 M (cAt 26 (bo Try.f142)) j3q:=j0f follows j01 j5V hnp [] oN [1,10,11,12] [1] ([],[]) [(0,[1],[1])] ([2],[]) λσ k _ h=>rN h λhn h=>rT h λh1 h=>rV h λt10 h10 h=>rV h λt11 h11 h=>rV h λt12 h12 h=>rB h λa t hb1 h=>⟨_,Z9m (m:=68) hn (sC h1 (sC h10 (sC h11 (sC h12 sN)))) (bC hb1 bN),.trans (Z88 (λv:Int=>(mkS 68 68 [(1,pB 1),(10,v1 y8 t10 .S),(11,vI t11),(12,vI v)] [(1,⟨y20,a,t,[.S,.S]⟩)])) (j2R t10 t11 t) (λ(k:Z6O Unit)=>(((λ(_:Unit)=>k (.exit 0) (mkS 68 68 [(1,pB 1)] [(1,⟨y20,a,t,[.S,.S]⟩)])),(λ(_:Unit)=>k .ret (mkS 68 68 [(2,vB false)] []))):(Unit->Res)×(Unit->Res))) (λv rec k=>by delta j2R j18 j5w j6U;refine gz j2r λ_ e=> ?_;rewrite [<-e];refine gz j4c λ_ e=> ?_;rewrite [<-e];kernel_rfl) Z12 (t12) k) h⟩
noncomputable def j1A (t30:qL) (t31:Int) (t:qB×qE×qL) (last:Int) (t32:Int) (rec:Int->Int->Res) (k0:Unit->Res) (k1:Unit->Res):Res:=
 bif decide (t32<t31) then
  bif inb t32 (List.length t30) then
   j4c t (nth eS t30 t32) λ(r:Int)=>
    bif decide (r<=last) then
     k1 ()
    else
     bif inb r (List.length t.2.1) then
      bif !(nth (eS,0,false,false,0,0,eS) t.2.1 r).2.2.1 then
       k1 ()
      else
       rec r (Z8o (t32+1))
     else none
  else none
 else
  k0 ()
noncomputable def j4u (t30:qL) (t31:Int) (t:qB×qE×qL):(Int×Int)->(Int×Int->Res)->((Unit->Res)×(Unit->Res))->Res:=λv rec q=>j1A t30 t31 t v.1 v.2 (λlast t32=>rec (last,t32)) q.1 q.2
noncomputable def j2u (t30:qL) (t31:Int) (t:qB×qE×qL) (n:Nat) (last:Int) (t32:Int) (k0:Unit->Res) (k1:Unit->Res):Res:=Z14 (j4u t30 t31 t) n (last,t32) (k0,k1)
noncomputable def j5e:Z1q Unit:=λσ k=>rdN σ 68<|rdT σ 1 (pB 1)<|rdI σ 5 λlast=>rd1 σ 30 y9 .S λt30=>rdI σ 31 λt31=>rdI σ 32 λt32=>rdB σ 1 y20 [.S,.S] λa t=>j2u t30 t31 t Z12 last t32 (λ(_:Unit)=>k (.exit 2) (mkS 68 68 [(1,pB 1)] [(1,⟨y20,a,t,[.S,.S]⟩)])) (λ(_:Unit)=>k .ret (mkS 68 68 [(2,vB false)] []))
theorem j9n {W0:Base} {M:Nat->Prop} (hnp:W0.np<=0):Z22 Try.prog W0 M (cAt 122 (bo Try.f142)) j5e:=j0f follows j01 j5V hnp [j3q] oN [1,5,30,31,32] [1] ([],[]) [(2,[1],[1])] ([2],[]) λσ k _ h=>rN h λhn h=>rT h λh1 h=>rV h λlast h5 h=>rV h λt30 h30 h=>rV h λt31 h31 h=>rV h λt32 h32 h=>rB h λa t hb1 h=>⟨_,Z9m (m:=68) hn (sC h1 (sC h5 (sC h30 (sC h31 (sC h32 sN))))) (bC hb1 bN),.trans (Z88 (λv:Int×Int=>(mkS 68 68 [(1,pB 1),(5,vI v.1),(30,v1 y9 t30 .S),(31,vI t31),(32,vI v.2)] [(1,⟨y20,a,t,[.S,.S]⟩)])) (j4u t30 t31 t) (λ(k:Z6O Unit)=>(((λ(_:Unit)=>k (.exit 2) (mkS 68 68 [(1,pB 1)] [(1,⟨y20,a,t,[.S,.S]⟩)])),(λ(_:Unit)=>k .ret (mkS 68 68 [(2,vB false)] []))):(Unit->Res)×(Unit->Res))) (λv rec k=>by kernel_rfl) Z12 (last,t32) k) h⟩
noncomputable def j2W (t:qB×qE×qL) (k0:Bool->Res):Res:=
 j2t t.2.1 (nI (List.length t.2.1)) t Z12 0
  (λ(_:Unit)=>
   j2u t.2.2 (nI (List.length t.2.2)) t Z12 (-1) 0
    (λ(_:Unit)=>
     j0p t.1 λ(r:Bool)=>
      bif r then
       j0e (nI (List.length t.2.1)) 1 8 λ(r1:Bool)=>
        bif r1 then
         k0 (decide ((nI (List.length t.2.2))>0))
        else
         k0 false
      else
       k0 false)
    (λ(_:Unit)=>
     k0 false))
  (λ(_:Unit)=>
   k0 false)
noncomputable def j7L:Sig Unit:=⟨[.look y20 true],[false],λvals ext k=>av vals y20 λt vals=>nl vals<|nl ext<|j2W t (λ(r0:Bool)=>k [wB r0] [] [])⟩
theorem jac:Z1p Try.prog 142 j7L:=j05 (np:=0) follows j01 j5V [j3q,j5e] (oI 26 0 (j9m) (oI 122 1 (j9n) oN)) false Try.func142 λ_ _ k _ h=>aV h λ_ _ _ _ _ h=>nL h λ_ h=>nL h λ_ h=>by subst_vars;exact .trans (by delta j2W j3q j5e j1w j1d;refine gz j2t λ_ e=> ?_;rewrite [<-e];refine gz j2u λ_ e=> ?_;rewrite [<-e];refine gz j0p λ_ e=> ?_;rewrite [<-e];refine gz j0e λ_ e=> ?_;rewrite [<-e];kernel_rfl) h
noncomputable def j0i (a:qG) (b:qG) (k0:Bool->Res):Res:=
 bif (a.1==b.1) then
  bif sEq a.2.1 b.2.1 then
   j0S a.2.2.1 b.2.2.1 λ(r:Bool)=>
    bif r then
     j1k a.2.2.2.1 b.2.2.2.1 λ(r1:Bool)=>
      bif r1 then
       bif sEq a.2.2.2.2.1 b.2.2.2.2.1 then
        k0 (sEq a.2.2.2.2.2 b.2.2.2.2.2)
       else
        k0 false
      else
       k0 false
    else
     k0 false
  else
   k0 false
 else
  k0 false
noncomputable def j3L:Sig Unit:=⟨[.look y14 true,.look y14 true],[false],λvals ext k=>av vals y14 λa vals=>av vals y14 λb vals=>nl vals<|nl ext<|j0i a b (λ(r0:Bool)=>k [wB r0] [] [])⟩
theorem j7b:Z1p Try.prog 156 j3L:=j05 (np:=0) follows j01 (Z8K j8l (Z8K j7F Z94)) [] oN false Try.func156 λ_ _ k _ h=>aV h λ_ _ _ _ _ h=>aV h λ_ _ _ _ _ h=>nL h λ_ h=>nL h λ_ h=>by subst_vars;exact .trans (by delta j0i j6k j5j;refine gz j0S λ_ e=> ?_;rewrite [<-e];refine gz j1k λ_ e=> ?_;rewrite [<-e];kernel_rfl) h
noncomputable def j4d (d:qG) (k0:Bool->Res):Res:=
 j0p d.2.1 λ(r:Bool)=>
  bif !r then
   k0 false
  else
   bif (d.1==1) then
    j3t d λ(r1:qB×qE×qL)=>
     j2W r1 λ(r2:Bool)=>
      bif r2 then
       bif sEq d.2.2.2.2.1 eS then
        k0 (sEq d.2.2.2.2.2 eS)
       else
        k0 false
      else
       k0 false
   else
    bif (d.1==2) then
     j0i d (d.1,d.2.1,[],[],eS,eS) λ(r3:Bool)=>
      k0 r3
    else
     bif (d.1==3) then
      j0i d (d.1,d.2.1,d.2.2.1,[],eS,eS) λ(r4:Bool)=>
       bif r4 then
        bif ((nI (List.length d.2.2.1))==1) then
         bif inb 0 (List.length d.2.2.1) then
          j2r (nth (eS,0,false,false,0,0,eS) d.2.2.1 0) λ(r5:Bool)=>
           bif r5 then
            bif inb 0 (List.length d.2.2.1) then
             bif (nth (eS,0,false,false,0,0,eS) d.2.2.1 0).2.2.2.1 then
              k0 true
             else
              bif inb 0 (List.length d.2.2.1) then
               k0 (!(nth (eS,0,false,false,0,0,eS) d.2.2.1 0).2.2.1)
              else none
            else none
           else
            k0 false
         else none
        else
         k0 false
       else
        k0 false
     else
      bif (d.1==4) then
       j0i d (d.1,d.2.1,[],[],d.2.2.2.2.1,eS) λ(r6:Bool)=>
        bif r6 then
         j0p d.2.2.2.2.1 λ(r7:Bool)=>
          k0 r7
        else
         k0 false
      else
       bif (d.1==5) then
        j0i d (d.1,d.2.1,[],[],d.2.2.2.2.1,d.2.2.2.2.2) λ(r8:Bool)=>
         bif r8 then
          j0p d.2.2.2.2.1 λ(r9:Bool)=>
           bif r9 then
            j0p d.2.2.2.2.2 λ(r10:Bool)=>
             k0 r10
           else
            k0 false
         else
          k0 false
       else
        k0 false
noncomputable def j6V:Sig Unit:=⟨[.look y14 true],[false],λvals ext k=>av vals y14 λd vals=>nl vals<|nl ext<|j4d d (λ(r0:Bool)=>k [wB r0] [] [])⟩
theorem jb6:Z1p Try.prog 155 j6V:=j05 (np:=0) follows j01 (Z8K j4Q (Z8K jac (Z8K j7b (Z8K j8g (Z8K j9z Z94))))) [] oN false Try.func155 λ_ _ k _ h=>aV h λ_ _ _ _ _ h=>nL h λ_ h=>nL h λ_ h=>by subst_vars;exact .trans (by delta j4d j1w j7i j7L j3L j5w;refine gz j0p λ_ e=> ?_;rewrite [<-e];refine gz j3t λ_ e=> ?_;rewrite [<-e];refine gz j2W λ_ e=> ?_;rewrite [<-e];refine gz j0i λ_ e=> ?_;rewrite [<-e];refine gz j2r λ_ e=> ?_;rewrite [<-e];kernel_rfl) h
end Go.PI.G
namespace Go.PI.G
open Go Go.PI Go.Proofs
open Go.Code (pl pr)
noncomputable def j1E (t5:List qV) (t6:Int) (t7:Int) (rec:Int->Res) (k0:Unit->Res) (k1:Unit->Res):Res:=
 bif decide (t7<t6) then
  bif inb t7 (List.length t5) then
   j2H (nth (0,0,eS) t5 t7) λ(r:Bool)=>
    bif !r then
     k1 ()
    else
     rec (Z8o (t7+1))
  else none
 else
  k0 ()
noncomputable def j4B (t5:List qV) (t6:Int):Int->(Int->Res)->((Unit->Res)×(Unit->Res))->Res:=λv rec q=>j1E t5 t6 v (λt7=>rec (t7)) q.1 q.2
noncomputable def j5F (t5:List qV) (t6:Int) (n:Nat) (t7:Int) (k0:Unit->Res) (k1:Unit->Res):Res:=Z14 (j4B t5 t6) n (t7) (k0,k1)
noncomputable def j74:Z1q Unit:=λσ k=>rdN σ 23<|rd1 σ 0 y3 .S λl=>rd1 σ 5 y3 .S λt5=>rdI σ 6 λt6=>rdI σ 7 λt7=>j5F t5 t6 Z12 t7 (λ(_:Unit)=>k (.exit 0) (mkS 23 23 [(0,v1 y3 l .S)] [])) (λ(_:Unit)=>k .ret (mkS 23 23 [(2,vB false)] []))
theorem j9t {W0:Base} {M:Nat->Prop} (hnp:W0.np<=0):Z22 Try.prog W0 M (cAt 26 (bo Try.f149)) j74:=j0f follows j01 (Z8K j5n Z94) hnp [] oN [0,5,6,7] [] ([],[]) [(0,[0],[])] ([2],[]) λσ k _ h=>rN h λhn h=>rV h λl h0 h=>rV h λt5 h5 h=>rV h λt6 h6 h=>rV h λt7 h7 h=>⟨_,Z9m (m:=23) hn (sC h0 (sC h5 (sC h6 (sC h7 sN)))) bN,.trans (Z88 (λv:Int=>(mkS 23 23 [(0,v1 y3 l .S),(5,v1 y3 t5 .S),(6,vI t6),(7,vI v)] [])) (j4B t5 t6) (λ(k:Z6O Unit)=>(((λ(_:Unit)=>k (.exit 0) (mkS 23 23 [(0,v1 y3 l .S)] [])),(λ(_:Unit)=>k .ret (mkS 23 23 [(2,vB false)] []))):(Unit->Res)×(Unit->Res))) (λv rec k=>by kernel_rfl) Z12 (t7) k) h⟩
noncomputable def j1u (l:List qV) (k0:Bool->Res):Res:=
 j5F l (nI (List.length l)) Z12 0
  (λ(_:Unit)=>
   bif decide ((nI (List.length l))>=1) then
    k0 (decide ((nI (List.length l))<=8))
   else
    k0 false)
  (λ(_:Unit)=>
   k0 false)
noncomputable def j66:Sig Unit:=⟨[.look y3 false],[false],λvals ext k=>av vals y3 λl vals=>nl vals<|nl ext<|j1u l (λ(r0:Bool)=>k [wB r0] [] [])⟩
theorem jal:Z1p Try.prog 149 j66:=j05 (np:=0) follows j01 (Z8K j5n Z94) [j74] (oI 26 0 (j9t) oN) false Try.func149 λ_ _ k _ h=>aV h λ_ _ _ _ _ h=>nL h λ_ h=>nL h λ_ h=>by subst_vars;exact .trans (by kernel_rfl) h
noncomputable def j1f (d:qG) (k0:Bool->Res):Res:=
 bif (d.1==0) then
  bif sEq d.2.1 eS then
   bif ((nI (List.length d.2.2.1))==0) then
    bif ((nI (List.length d.2.2.2.1))==0) then
     bif sEq d.2.2.2.2.1 eS then
      k0 (sEq d.2.2.2.2.2 eS)
     else
      k0 false
    else
     k0 false
   else
    k0 false
  else
   k0 false
 else
  k0 false
noncomputable def j5D:Sig Unit:=⟨[.look y14 true],[false],λvals ext k=>av vals y14 λd vals=>nl vals<|nl ext<|j1f d (λ(r0:Bool)=>k [wB r0] [] [])⟩
theorem j9I:Z1p Try.prog 150 j5D:=j05 (np:=0) follows j01 Z94 [] oN false Try.func150 λ_ _ k _ h=>aV h λ_ _ _ _ _ h=>nL h λ_ h=>nL h λ_ h=>by subst_vars;exact .trans (by kernel_rfl) h
theorem j80:Fns Try.prog [(72,j1x),(149,j66),(150,j5D),(151,j70)]:=(Z8K j3s (Z8K jal (Z8K j9I (Z8K jbb Z94))))
noncomputable def j38 (noKey:Bool) (noRow:Bool) (s:qS) (k0:Bool->Res):Res:=
 bif (s.1==1) then
  bif noKey then
   j1u s.2.2.2.1 λ(r:Bool)=>
    bif r then
     j1f s.2.2.2.2 λ(r1:Bool)=>
      k0 r1
    else
     k0 false
  else
   k0 false
 else
  bif (s.1==2) then
   j1u s.2.2.1 λ(r2:Bool)=>
    bif r2 then
     j1u s.2.2.2.1 λ(r3:Bool)=>
      bif r3 then
       j1f s.2.2.2.2 λ(r4:Bool)=>
        k0 r4
      else
       k0 false
    else
     k0 false
  else
   bif (s.1==3) then
    j1u s.2.2.1 λ(r5:Bool)=>
     bif r5 then
      bif noRow then
       j1f s.2.2.2.2 λ(r6:Bool)=>
        k0 r6
      else
       k0 false
     else
      k0 false
   else
    bif (s.1==4) then
     bif noKey then
      bif noRow then
       j1f s.2.2.2.2 λ(r7:Bool)=>
        k0 r7
      else
       k0 false
     else
      k0 false
    else
     bif (s.1==5) then
      bif noKey then
       bif noRow then
        j4o s.2.2.2.2 λ(r8:Bool)=>
         bif r8 then
          k0 (sEq s.2.2.2.2.2.1 s.2.1)
         else
          k0 false
       else
        k0 false
      else
       k0 false
     else
      k0 false
noncomputable def j5R:Z1q Unit:=λσ k=>rdN σ 93<|rdT σ 1 (pB 1)<|rdO σ 3 λnoKey=>rdO σ 4 λnoRow=>rdB σ 1 y18 [.S,.S,.S,.S] λa s=>j38 noKey noRow s (λ(t2:Bool)=>k .ret (mkS 93 93 [(2,vB t2)] []))
theorem j9Z {W0:Base} {M:Nat->Prop} (hnp:W0.np<=0):Z22 Try.prog W0 M (cAt 31 (bo Try.f103)) j5R:=j1J follows j01 j80 hnp [] oN ([],[]) [] ([2],[]) λσ k _ h=>rN h λhn h=>rT h λh1 h=>rV h λnoKey h3 h=>rV h λnoRow h4 h=>rB h λa s hb1 h=>⟨_,Z9m (m:=93) hn (sC h1 (sC h3 (sC h4 sN))) (bC hb1 bN),.trans (by delta j38 j66 j5D j70;refine gz j1u λ_ e=> ?_;rewrite [<-e];refine gz j1f λ_ e=> ?_;rewrite [<-e];refine gz j4o λ_ e=> ?_;rewrite [<-e];kernel_rfl) h⟩
noncomputable def j3B (s:qS) (k0:Bool->Res):Res:=
 j0q s.2.1 λ(r:Bool)=>
  bif !r then
   k0 false
  else
   j38 ((nI (List.length s.2.2.1))==0) ((nI (List.length s.2.2.2.1))==0) s λ(t:Bool)=>
    k0 t
noncomputable def j88:Sig Unit:=⟨[.look y18 true],[false],λvals ext k=>av vals y18 λs vals=>nl vals<|nl ext<|j3B s (λ(r0:Bool)=>k [wB r0] [] [])⟩
theorem jaQ:Z1p Try.prog 103 j88:=j05 (np:=0) follows j01 j80 [j5R] (oI 31 0 (j9Z) oN) false Try.func103 λ_ _ k _ h=>aV h λ_ _ _ _ _ h=>nL h λ_ h=>nL h λ_ h=>by subst_vars;exact .trans (by delta j3B j1x j5R;refine gz j0q λ_ e=> ?_;rewrite [<-e];refine gz j38 λ_ e=> ?_;rewrite [<-e];kernel_rfl) h
noncomputable def j6p (v_:Int×Int×qB) (k0:Bool->Res):Res:=
 j3i v_ λ(r:Bool)=>
  k0 (!r)
noncomputable def ja5:Sig Unit:=⟨[.look y2 true],[false],λvals ext k=>av vals y2 λv_ vals=>nl vals<|nl ext<|j6p v_ (λ(r0:Bool)=>k [wB r0] [] [])⟩
theorem j7a:Z1p Try.prog 196 ja5:=j05 (np:=0) follows j01 (Z8K j8h Z94) [] oN false Try.func196 λ_ _ k _ h=>aV h λ_ _ _ _ _ h=>nL h λ_ h=>nL h λ_ h=>by subst_vars;exact .trans (by kernel_rfl) h
noncomputable def j0z (s:List qV) (t7:Int) (t8:Int) (rec:Int->Res) (k0:Unit->Res) (k1:Int->Res):Res:=
 bif decide (t8<t7) then
  bif inb t8 (List.length s) then
   j6p (nth (0,0,eS) s t8) λ(r:Bool)=>
    bif r then
     k1 t8
    else
     rec (Z8o (t8+1))
  else none
 else
  k0 ()
noncomputable def j1M (s:List qV) (t7:Int):Int->(Int->Res)->((Unit->Res)×(Int->Res))->Res:=λv rec q=>j0z s t7 v (λt8=>rec (t8)) q.1 q.2
noncomputable def j2i (s:List qV) (t7:Int) (n:Nat) (t8:Int) (k0:Unit->Res) (k1:Int->Res):Res:=Z14 (j1M s t7) n (t8) (k0,k1)
noncomputable def j49:Z1q Unit:=λσ k=>rdN σ 19<|rd1 σ 0 y3 .S λs=>rdC σ 1 196 [] .unit [] λf=>rdI σ 7 λt7=>rdI σ 8 λt8=>j2i s t7 Z12 t8 (λ(_:Unit)=>k (.exit 0) (mkS 19 19 [] [])) (λ(t4:Int)=>k .ret (mkS 19 19 [(4,vI t4)] []))
theorem j6S {W0:Base} {M:Nat->Prop} (hnp:W0.np<=0):Z22 Try.prog W0 M (cAt 26 (bo Try.f214)) j49:=j0f follows j01 (Z8K j7a Z94) hnp [] oN [0,1,7,8] [] ([],[]) [(0,[],[])] ([4],[]) λσ k _ h=>rN h λhn h=>rV h λs h0 h=>rC h λf h1 h=>rV h λt7 h7 h=>rV h λt8 h8 h=>⟨_,Z9m (m:=19) hn (sC h0 (sC h1 (sC h7 (sC h8 sN)))) bN,.trans (Z88 (λv:Int=>(mkS 19 19 [(0,v1 y3 s .S),(1,.sclos 196 [] ⟨.unit,false,f,[]⟩),(7,vI t7),(8,vI v)] [])) (j1M s t7) (λ(k:Z6O Unit)=>(((λ(_:Unit)=>k (.exit 0) (mkS 19 19 [] [])),(λ(t4:Int)=>k .ret (mkS 19 19 [(4,vI t4)] []))):(Unit->Res)×(Int->Res))) (λv rec k=>by kernel_rfl) Z12 (t8) k) h⟩
noncomputable def j3n (s:List qV) (f:Unit) (k0:Int->Res):Res:=
 j2i s (nI (List.length s)) Z12 0
  (λ(_:Unit)=>
   k0 (-1))
  (λ(t:Int)=>
   k0 t)
noncomputable def j7A:Sig Unit:=⟨[.look y3 false,.rclos 196 []],[false],λvals ext k=>av vals y3 λs vals=>av vals .unit λf vals=>nl vals<|nl ext<|j3n s f (λ(r0:Int)=>k [wI r0] [] [])⟩
theorem j7v:Z1p Try.prog 214 j7A:=j05 (np:=0) follows j01 (Z8K j7a Z94) [j49] (oI 26 0 (j6S) oN) false Try.func214 λ_ _ k _ h=>aV h λ_ _ _ _ _ h=>aV h λ_ _ _ _ _ h=>nL h λ_ h=>nL h λ_ h=>by subst_vars;exact .trans (by kernel_rfl) h
noncomputable def j1g (s:List qV) (f:Unit) (k0:Bool->Res):Res:=
 j3n s f λ(r:Int)=>
  k0 (decide (r>=0))
noncomputable def j3N:Sig Unit:=⟨[.look y3 false,.rclos 196 []],[false],λvals ext k=>av vals y3 λs vals=>av vals .unit λf vals=>nl vals<|nl ext<|j1g s f (λ(r0:Bool)=>k [wB r0] [] [])⟩
theorem j6E:Z1p Try.prog 195 j3N:=j05 (np:=0) follows j01 (Z8K j7v Z94) [] oN false Try.func195 λ_ _ k _ h=>aV h λ_ _ _ _ _ h=>aV h λ_ _ _ _ _ h=>nL h λ_ h=>nL h λ_ h=>by subst_vars;exact .trans (by kernel_rfl) h
noncomputable def j12 (l:List qV) (k0:Bool->Res):Res:=
 j0e (nI (List.length l)) 1 8 λ(r:Bool)=>
  bif r then
   j1g l () λ(r1:Bool)=>
    k0 (!r1)
  else
   k0 false
noncomputable def j63:Sig Unit:=⟨[.look y3 false],[false],λvals ext k=>av vals y3 λl vals=>nl vals<|nl ext<|j12 l (λ(r0:Bool)=>k [wB r0] [] [])⟩
theorem jad:Z1p Try.prog 157 j63:=j05 (np:=0) follows j01 (Z8K j1c (Z8K j6E Z94)) [] oN false Try.func157 λ_ _ k _ h=>aV h λ_ _ _ _ _ h=>nL h λ_ h=>nL h λ_ h=>by subst_vars;exact .trans (by delta j12 j1d j3N;refine gz j0e λ_ e=> ?_;rewrite [<-e];refine gz j1g λ_ e=> ?_;rewrite [<-e];kernel_rfl) h
theorem j7Z:Fns Try.prog [(75,j1w),(155,j6V),(156,j3L),(157,j63)]:=(Z8K j4Q (Z8K jb6 (Z8K j7b (Z8K jad Z94))))
noncomputable def j2V (s:qS) (k0:Bool->Res):Res:=
 bif (s.1==1) then
  bif ((nI (List.length s.2.2.1))==0) then
   j12 s.2.2.2.1 λ(r:Bool)=>
    k0 r
  else
   k0 false
 else
  bif (s.1==2) then
   j12 s.2.2.1 λ(r1:Bool)=>
    bif r1 then
     j12 s.2.2.2.1 λ(r2:Bool)=>
      k0 r2
    else
     k0 false
  else
   bif (s.1==3) then
    j12 s.2.2.1 λ(r3:Bool)=>
     bif r3 then
      k0 ((nI (List.length s.2.2.2.1))==0)
     else
      k0 false
   else
    bif (s.1==4) then
     bif ((nI (List.length s.2.2.1))==0) then
      k0 ((nI (List.length s.2.2.2.1))==0)
     else
      k0 false
    else
     k0 false
noncomputable def j5K:Z1q Unit:=λσ k=>rdN σ 91<|rdT σ 1 (pB 1)<|rdB σ 1 y18 [.S,.S,.S,.S] λa s=>j2V s (λ(t2:Bool)=>k .ret (mkS 91 91 [(2,vB t2)] []))
theorem j9R {W0:Base} {M:Nat->Prop} (hnp:W0.np<=0):Z22 Try.prog W0 M (cAt 15 (bo Try.f109)) j5K:=j1J follows j01 j7Z hnp [] oN ([],[]) [] ([2],[]) λσ k _ h=>rN h λhn h=>rT h λh1 h=>rB h λa s hb1 h=>⟨_,Z9m (m:=91) hn (sC h1 sN) (bC hb1 bN),.trans (by delta j2V j63;refine gz j12 λ_ e=> ?_;rewrite [<-e];kernel_rfl) h⟩
noncomputable def j3y (s:qS) (k0:Bool->Res):Res:=
 bif (s.1==5) then
  j4d s.2.2.2.2 λ(r:Bool)=>
   bif r then
    bif sEq s.2.1 s.2.2.2.2.2.1 then
     bif ((nI (List.length s.2.2.1))==0) then
      k0 ((nI (List.length s.2.2.2.1))==0)
     else
      k0 false
    else
     k0 false
   else
    k0 false
 else
  j0p s.2.1 λ(r1:Bool)=>
   bif !r1 then
    k0 false
   else
    j0i s.2.2.2.2 (0,eS,[],[],eS,eS) λ(r2:Bool)=>
     bif !r2 then
      k0 false
     else
      j2V s λ(t:Bool)=>
       k0 t
noncomputable def j6r:Sig Unit:=⟨[.look y18 true],[false],λvals ext k=>av vals y18 λs vals=>nl vals<|nl ext<|j3y s (λ(r0:Bool)=>k [wB r0] [] [])⟩
theorem jaL:Z1p Try.prog 109 j6r:=j05 (np:=0) follows j01 j7Z [j5K] (oI 15 0 (j9R) oN) false Try.func109 λ_ _ k _ h=>aV h λ_ _ _ _ _ h=>nL h λ_ h=>nL h λ_ h=>by subst_vars;exact .trans (by delta j3y j6V j1w j3L j5K;refine gz j4d λ_ e=> ?_;rewrite [<-e];refine gz j0p λ_ e=> ?_;rewrite [<-e];refine gz j0i λ_ e=> ?_;rewrite [<-e];refine gz j2V λ_ e=> ?_;rewrite [<-e];kernel_rfl) h
end Go.PI.G
