/-
  Program's code interpreted over typed values; printed texts; plain laws. No conditions.
-/
import Derived.Test.YtppeoiidhmegkaaGreatPc
import Derived.Test.YtppeoiidhmegkaaGreatProg
set_option linter.unusedVariables false
namespace Go.PI
abbrev Fns {R:Type} (P:Program) (l:List (FuncId×Sig R)):Prop:=∀ (g:Nat) (sig:Sig R),Z0s l g=some sig->Z1p P g sig
abbrev tI:Ty:= .int .i64
abbrev vI (x:Int):TV:= .val ⟨.int .i64,false,x,[]⟩
abbrev vB (x:Bool):TV:= .val ⟨.bool,false,x,[]⟩
abbrev vS (x:ByteArray):TV:= .val ⟨.str,false,x,[]⟩
abbrev v1 (τ:Ty) (x:El τ) (t:Tag):TV:= .val ⟨τ,false,x,[t]⟩
abbrev wI (x:Int):TVal:=⟨.int .i64,false,x,[]⟩
abbrev wB (x:Bool):TVal:=⟨.bool,false,x,[]⟩
abbrev wS (x:ByteArray):TVal:=⟨.str,false,x,[]⟩
abbrev w1 (τ:Ty) (x:El τ) (t:Tag):TVal:=⟨τ,false,x,[t]⟩
abbrev pB (i:Nat):TV:= .ptr ⟨true,i,[]⟩
section
variable {R:Type} {r:R}
noncomputable abbrev rdI (σ:State) (i:Nat) (f:Int->Option R):Option R:=rdV σ i (.int .i64) false [] f
noncomputable abbrev rdO (σ:State) (i:Nat) (f:Bool->Option R):Option R:=rdV σ i .bool false [] f
noncomputable abbrev rdS (σ:State) (i:Nat) (f:ByteArray->Option R):Option R:=rdV σ i .str false [] f
noncomputable abbrev rd1 (σ:State) (i:Nat) (τ:Ty) (t:Tag) (f:El τ->Option R):Option R:=rdV σ i τ false [t] f
theorem aV {l:List TVal} {τ:Ty} {f:El τ->List TVal->Option R} {C:Prop} (h:av l τ f=some r) (c:∀ x a t l',l=⟨τ,a,x,t⟩::l'->f x l'=some r->C):C:=
 have ⟨x,a,t,l',e,h2⟩:=Z91 h;c x a t l' e h2
theorem aB {l:List TVal} {τ:Ty} {tg:List Tag} {f:Bool->El τ->List TVal->Option R} {C:Prop} (h:ab l τ tg f=some r) (c:∀ a x l',l=⟨τ,a,x,tg⟩::l'->f a x l'=some r->C):C:=
 have ⟨a,x,l',e,h2⟩:=Z8Z h;c a x l' e h2
theorem aO {l:List TVal} {τ:Ty} {tg:List Tag} {f:El τ->List TVal->Option R} {C:Prop} (h:ao l τ tg f=some r) (c:∀ a x l',l=⟨τ,a,x,tg⟩::l'->f x l'=some r->C):C:=
 have ⟨a,x,l',e,h2⟩:=Z90 h;c a x l' e h2
theorem nL {l:List TVal} {f:Option R} {C:Prop} (h:nl l f=some r) (c:l=[]->f=some r->C):C:=
 have ⟨e,h2⟩:=Z98 h;c e h2
variable {σ:State} {C:Prop}
theorem rN {n:Nat} {f:Option R} (h:rdN σ n f=some r) (c:σ.slots.length=n->f=some r->C):C:=
 have h:=Z8O h;c h.1 h.2
theorem rV {i:Nat} {τ:Ty} {ag:Bool} {tg:List Tag} {f:El τ->Option R} (h:rdV σ i τ ag tg f=some r) (c:∀ x,σ.slot i= .val ⟨τ,ag,x,tg⟩->f x=some r->C):C:=
 have ⟨x,h1,h2⟩:=Z8R h;c x h1 h2
theorem rC {i:Nat} {f:FuncId} {τs:List Ty} {τ:Ty} {tg:List Tag} {k:El τ->Option R} (h:rdC σ i f τs τ tg k=some r) (c:∀ x,σ.slot i= .sclos f τs ⟨τ,false,x,tg⟩->k x=some r->C):C:=
 have ⟨x,h1,h2⟩:=Z8M h;c x h1 h2
theorem rB {i:Nat} {τ:Ty} {tg:List Tag} {f:Bool->El τ->Option R} (h:rdB σ i τ tg f=some r) (c:∀ a x,σ.boxAt i=some ⟨τ,a,x,tg⟩->f a x=some r->C):C:=
 have ⟨a,x,h1,h2⟩:=Z8L h;c a x h1 h2
theorem rT {i:Nat} {p:TV} {f:Option R} (h:rdT σ i p f=some r) (c:σ.slot i=p->f=some r->C):C:=
 have h:=Z8P h;c h.1 h.2
theorem sC {i:Nat} {v:TV} {l:List (Nat×TV)} (h:σ.slot i=v) (t:Z3E σ l):Z3E σ ((i,v)::l):=⟨h,t⟩
theorem sN:Z3E σ []:=trivial
theorem bC {i:Nat} {v:TVal} {l:List (Nat×TVal)} (h:σ.boxAt i=some v) (t:Z3C σ l):Z3C σ ((i,v)::l):=⟨h,t⟩
theorem bN:Z3C σ []:=trivial
end
theorem gz {α:Type} {C:Prop} (a:α) (h:∀ F,F=a->C):C:=h a rfl
def jgJ:Nat->Nat->List Bool->List Bool
 | 0,_,l=>l
 | f+1,n,l=>bif Nat.ble n 1 then l else jgJ f (n / 2) (Nat.beq (n % 2) 1::l)
def bits (n:Nat):List Bool:=jgJ 300 n []
noncomputable def jfn:List Bool->Code->Code
 | [],c=>c
 | b::p,c=>jfn p (bif b then c.pr else c.pl)
noncomputable def cAt (n:Nat) (c:Code):Code:=jfn (bits n) c
def bo (f:Func):Code:=f.body.getD .skip
noncomputable def HT.ins:List Bool->Nat->HT->HT
 | [],i,_=> .x i
 | false::p,i,h=> .t (HT.ins p i h.l) h.r
 | true::p,i,h=> .t h.l (HT.ins p i h.r)
section
variable {R:Type} {r:R} {P:Program} {np:Nat} {X:List (Z1q R)}
theorem Z1F.lr' {t:HT} {c:Code} (h:Z1F P np X t c):(Z1F P np X t.l c.pl)/\(Z1F P np X t.r c.pr):=by
 cases t with
 | o=>exact ⟨trivial,trivial⟩
 | x i=>exact ⟨trivial,trivial⟩
 | t a b=>exact h
theorem jeF {i:Nat}:(p:List Bool)->(t:HT)->(c:Code)->Z1F P np X t c->(∀ (W0:Base) (M:Nat->Prop),W0.np<=np->Z22 P W0 M (jfn p c) (Z0t (λ_ _=>none) X i))->Z1F P np X (HT.ins p i t) c
 | [],_,_,_,hx=>hx
 | false::p,t,c,h,hx=>⟨jeF p t.l c.pl h.lr'.1 hx,h.lr'.2⟩
 | true::p,t,c,h,hx=>⟨h.lr'.1,jeF p t.r c.pr h.lr'.2 hx⟩
theorem oI (p i:Nat) {t:HT} {c c':Code} {y:Z1q R} (hx:∀ {W0:Base} {M:Nat->Prop},W0.np<=np->Z22 P W0 M c' y) (h:Z1F P np X t c)
  (e:jfn (bits p) c=c':=by kernel_rfl) (e2:Z0t (λ_ _=>none) X i=y:=by kernel_rfl):Z1F P np X (HT.ins (bits p) i t) c:=
 jeF (bits p) t c h λW0 M hn=>by rw [e,e2];exact hx hn
theorem oN {c:Code}:Z1F P np X .o c:=trivial
variable {ty:List (TypeId×Ty×List TypeId)} {l:List (FuncId×Sig R)} [Subsingleton R]
theorem j0P (hm:P.follows .mixedOrders=true) (hT:Z0d P ty) (hS:∀ g sig,Z0s l g=some sig->Z1p P g sig) {W0:Base} {M:Nat->Prop} (hnp:W0.np<=np) (X:List (Z1q R)) {c:Code} {ht:HT} (hO:Z1F P np X ht c)
  (n:List Nat×List Nat) (x:List (Nat×List Nat×List Nat)) (rr:List Nat×List Nat) {y:Z1q R}
  (h:∀ σ k r',y σ k=some r'->∃ σ',Z2R σ' σ/\Z0V ⟨ty,l,np⟩ X ht c σ' (λe σ''=>k e (Z8i n x rr e σ''))=some r'):Z22 P W0 M c y:=
 Z99 (Z6Y (Γ:=⟨ty,l,np⟩) hm hT (Z7S hS) hnp X c ht hO) (Z92 _ _ _) h
theorem j0b (hm:P.follows .mixedOrders=true) (hT:Z0d P ty) (hS:∀ g sig,Z0s l g=some sig->Z1p P g sig) {W0:Base} {M:Nat->Prop} (hnp:W0.np<=np) (X:List (Z1q R)) {c:Code} {ht:HT} (hO:Z1F P np X ht c.pl)
  (ks bs:List Nat) (n:List Nat×List Nat) (x:List (Nat×List Nat×List Nat)) (rr:List Nat×List Nat) {y:Z1q R}
  (h:∀ σ k r',y σ k=some r'->∃ σ',Z2R σ' σ/\Z44 (Z0V ⟨ty,l,np⟩ X ht c.pl) (λσ=>σ.forget ks bs) (Z8i n x rr) Z12 σ' k=some r')
  (hc:c= .loop c.pl:=by kernel_rfl):Z22 P W0 M c y:=by
 rw [hc]
 exact Z95 (Z6Y (Γ:=⟨ty,l,np⟩) hm hT (Z7S hS) hnp X c.pl ht hO) (Z92 _ _ _) Z12 h
theorem j04 (hm:P.follows .mixedOrders=true) (hT:Z0d P ty) (hS:∀ g sig,Z0s l g=some sig->Z1p P g sig) {f:FuncId} {fn:Func} (X:List (Z1q R)) {ht:HT} (hO:Z1F P np X ht (bo fn)) (fz:Bool) (hf:P.funcs[f]? = some fn)
  {modes:List Mode} {ags:List Bool} {run:List TVal->List TVal->(List TVal->List TVal->List TVal->Option R)->Option R}
  (h:∀ vals ext k r',run vals ext k=some r'->Z75 ⟨ty,l,np⟩ X ht fz fn modes ags vals ext k=some r')
  (hname : (fn.name == "runtime.NumGoroutine") = false := by kernel_rfl) (hb : fn.body = some (bo fn) := by kernel_rfl) (hn : Nat.ble modes.length fn.ntmps = true := by kernel_rfl) : Z1p P f (⟨modes, ags, run⟩ : Sig R) :=
 Z8V (Γ:=⟨ty,l,np⟩) hm hT hS hO hf hname hb (Nat.le_of_ble_eq_true hn) h
end
end Go.PI
set_option maxRecDepth 100000
namespace Go.PI.G
open Go Go.PI Go.Proofs
open Go.Code (pl pr)
abbrev qV:=Int×Int×ByteArray
abbrev qW:=List qV
abbrev qC:=ByteArray×Int×Bool×Bool×Int×Int×ByteArray
abbrev qE:=List qC
abbrev qT:=ByteArray×qE×List ByteArray
abbrev qB:=ByteArray
abbrev qL:=List ByteArray
abbrev qS:=Int×ByteArray×qW×qW×Int×ByteArray×qE×List ByteArray×ByteArray×ByteArray
abbrev qG:=Int×ByteArray×qE×List ByteArray×ByteArray×ByteArray
abbrev qP:=Int×Int×qS
abbrev qQ:=Int×qP×Int×Int×Int
abbrev qU:=List qS
abbrev y0:Ty:= .slice (.int .u8)
abbrev y1:Ty:= .pair tI .str
abbrev y2:Ty:= .pair tI y1
abbrev y3:Ty:= .slice y2
abbrev y4:Ty:= .pair .bool y2
abbrev y5:Ty:= .pair .bool y4
abbrev y6:Ty:= .pair tI y5
abbrev y7:Ty:= .pair .str y6
abbrev y8:Ty:= .slice y7
abbrev y9:Ty:= .slice .str
abbrev y10:Ty:= .pair .str .str
abbrev y11:Ty:= .pair y9 y10
abbrev y12:Ty:= .pair y8 y11
abbrev y13:Ty:= .pair .str y12
abbrev y14:Ty:= .pair tI y13
abbrev y15:Ty:= .pair y3 y14
abbrev y16:Ty:= .pair y3 y15
abbrev y17:Ty:= .pair .str y16
abbrev y18:Ty:= .pair tI y17
abbrev y19:Ty:= .pair y9 y9
abbrev y20:Ty:= .pair y18 y19
abbrev y21:Ty:= .slice y20
abbrev y22:Ty:= .pair tI y21
abbrev y23:Ty:= .pair tI y22
abbrev y24:Ty:= .pair y0 tI
abbrev y25:Ty:= .pair tI .bool
abbrev y26:Ty:= .pair y0 y25
abbrev y27:Ty:= .pair y8 y9
abbrev y28:Ty:= .pair .str y27
def jhp:qB:=⟨#[109,48]⟩
def z_m:qB:=⟨#[109]⟩
def tys:List (TypeId×Ty×List TypeId):=[(3,tI,[]),
 (4,.bool,[]),
 (5,(.int .u8),[]),
 (9,.str,[]),
 (22,y0,[]),
 (24,y0,[22]),
 (26,y21,[]),
 (28,y23,[3,3,26]),
 (31,y0,[22]),
 (38,y9,[]),
 (53,y3,[]),
 (55,y3,[53]),
 (56,y8,[]),
 (58,y14,[3,9,56,38,9,9]),
 (60,y18,[3,9,53,55,58]),
 (127,y24,[22,3]),
 (131,y20,[60,38,38]),
 (136,y26,[22,3,4]),
 (163,y2,[3,3,9]),
 (165,y7,[9,3,4,4,163]),
 (253,y28,[9,56,38])]
theorem follows:Tryz.prog.follows .mixedOrders=true:=by kernel_rfl
theorem j00:Z0d Tryz.prog tys:=Z9f (by kernel_rfl)
end Go.PI.G
namespace Go.PI.G
open Go Go.PI Go.Proofs
open Go.Code (pl pr)
noncomputable def j35 (s:qB) (i:Int) (rec:Int->Res) (k0:Unit->Res) (k1:Unit->Res):Res:=
 bif decide (i<(nI (ByteArray.size s))) then
  bif inb i (ByteArray.size s) then
   bif decide ((bt s i)<97) then
    k1 ()
   else
    bif inb i (ByteArray.size s) then
     bif decide ((bt s i)>122) then
      k1 ()
     else
      rec (Z8o (i+1))
    else none
  else none
 else
  k0 ()
noncomputable def j6L (s:qB):Int->(Int->Res)->((Unit->Res)×(Unit->Res))->Res:=λv rec q=>j35 s v (λi=>rec (i)) q.1 q.2
noncomputable def j87 (s:qB) (n:Nat) (i:Int) (k0:Unit->Res) (k1:Unit->Res):Res:=Z14 (j6L s) n (i) (k0,k1)
noncomputable def j9E:Z1q Unit:=λσ k=>rdN σ 28<|rdS σ 0 λs=>rdI σ 3 λi=>j87 s Z12 i (λ(_:Unit)=>k (.exit 0) (mkS 28 28 [(0,vS s)] [])) (λ(_:Unit)=>k .ret (mkS 28 28 [(2,vB false)] []))
theorem jd1 {W0:Base} {M:Nat->Prop} (hnp:W0.np<=0):Z22 Tryz.prog W0 M (cAt 26 (bo Tryz.f104)) j9E:=j0b follows j00 Z94 hnp [] oN [0,3] [] ([],[]) [(0,[0],[])] ([2],[]) λσ k _ h=>rN h λhn h=>rV h λs h0 h=>rV h λi h3 h=>⟨_,Z9m (m:=28) hn (sC h0 (sC h3 sN)) bN,.trans (Z88 (λv:Int=>(mkS 28 28 [(0,vS s),(3,vI v)] [])) (j6L s) (λ(k:Z6O Unit)=>(((λ(_:Unit)=>k (.exit 0) (mkS 28 28 [(0,vS s)] [])),(λ(_:Unit)=>k .ret (mkS 28 28 [(2,vB false)] []))):(Unit->Res)×(Unit->Res))) (λv rec k=>by kernel_rfl) Z12 (i) k) h⟩
noncomputable def j0o (s:qB) (k0:Bool->Res):Res:=
 j87 s Z12 0
  (λ(_:Unit)=>
   bif decide ((nI (ByteArray.size s))>=1) then
    k0 (decide ((nI (ByteArray.size s))<=8))
   else
    k0 false)
  (λ(_:Unit)=>
   k0 false)
noncomputable def j2i:Sig Unit:=⟨[.look .str false],[false],λvals ext k=>av vals .str λs vals=>nl vals<|nl ext<|j0o s (λ(r0:Bool)=>k [wB r0] [] [])⟩
theorem j2g:Z1p Tryz.prog 104 j2i:=j04 (np:=0) follows j00 Z94 [j9E] (oI 26 0 (jd1) oN) false Tryz.func104 λ_ _ k _ h=>aV h λ_ _ _ _ _ h=>nL h λ_ h=>nL h λ_ h=>by subst_vars;exact .trans (by kernel_rfl) h
noncomputable def j9S (n_:Int) (k0:Bool->Res):Res:=
 bif decide (n_>=(-1099511627775)) then
  k0 (decide (n_<=1099511627775))
 else
  k0 false
noncomputable def jen:Sig Unit:=⟨[.look tI false],[false],λvals ext k=>av vals tI λn_ vals=>nl vals<|nl ext<|j9S n_ (λ(r0:Bool)=>k [wB r0] [] [])⟩
theorem jed:Z1p Tryz.prog 262 jen:=j04 (np:=0) follows j00 Z94 [] oN false Tryz.func262 λ_ _ k _ h=>aV h λ_ _ _ _ _ h=>nL h λ_ h=>nL h λ_ h=>by subst_vars;exact .trans (by kernel_rfl) h
noncomputable def j3O (v_:Int×Int×qB) (k0:Bool->Res):Res:=
 bif (v_.1==0) then
  bif (v_.2.1==0) then
   k0 (sEq v_.2.2 eS)
  else
   k0 false
 else
  bif (v_.1==1) then
   bif (v_.2.1==0) then
    k0 (sEq v_.2.2 eS)
   else
    bif (v_.2.1==1) then
     k0 (sEq v_.2.2 eS)
    else
     k0 false
  else
   bif (v_.1==2) then
    j9S v_.2.1 λ(r:Bool)=>
     bif r then
      k0 (sEq v_.2.2 eS)
     else
      k0 false
   else
    bif (v_.1==3) then
     bif (v_.2.1==0) then
      k0 (decide ((nI (ByteArray.size v_.2.2))<=30))
     else
      k0 false
    else
     k0 false
noncomputable def j7n:Sig Unit:=⟨[.look y2 true],[false],λvals ext k=>av vals y2 λv_ vals=>nl vals<|nl ext<|j3O v_ (λ(r0:Bool)=>k [wB r0] [] [])⟩
theorem j70:Z1p Tryz.prog 201 j7n:=j04 (np:=0) follows j00 (Z8K jed Z94) [] oN false Tryz.func201 λ_ _ k _ h=>aV h λ_ _ _ _ _ h=>nL h λ_ h=>nL h λ_ h=>by subst_vars;exact .trans (by kernel_rfl) h
noncomputable def j0d (x:Int) (lo:Int) (hi:Int) (k0:Bool->Res):Res:=
 bif decide (x>=lo) then
  k0 (decide (x<=hi))
 else
  k0 false
noncomputable def j0N:Sig Unit:=⟨[.look tI false,.look tI false,.look tI false],[false],λvals ext k=>av vals tI λx vals=>av vals tI λlo vals=>av vals tI λhi vals=>nl vals<|nl ext<|j0d x lo hi (λ(r0:Bool)=>k [wB r0] [] [])⟩
theorem j10:Z1p Tryz.prog 187 j0N:=j04 (np:=0) follows j00 Z94 [] oN false Tryz.func187 λ_ _ k _ h=>aV h λ_ _ _ _ _ h=>aV h λ_ _ _ _ _ h=>aV h λ_ _ _ _ _ h=>nL h λ_ h=>nL h λ_ h=>by subst_vars;exact .trans (by kernel_rfl) h
noncomputable def j2T (s:qB) (i:Int) (rec:Int->Res) (k0:Unit->Res) (k1:Unit->Res):Res:=
 bif decide (i<(nI (ByteArray.size s))) then
  bif inb i (ByteArray.size s) then
   bif decide ((bt s i)<97) then
    k1 ()
   else
    bif inb i (ByteArray.size s) then
     bif decide ((bt s i)>122) then
      k1 ()
     else
      rec (Z8o (i+1))
    else none
  else none
 else
  k0 ()
noncomputable def j6v (s:qB):Int->(Int->Res)->((Unit->Res)×(Unit->Res))->Res:=λv rec q=>j2T s v (λi=>rec (i)) q.1 q.2
noncomputable def j5H (s:qB) (n:Nat) (i:Int) (k0:Unit->Res) (k1:Unit->Res):Res:=Z14 (j6v s) n (i) (k0,k1)
noncomputable def j7x:Z1q Unit:=λσ k=>rdN σ 23<|rdS σ 0 λs=>rdI σ 3 λi=>j5H s Z12 i (λ(_:Unit)=>k (.exit 0) (mkS 23 23 [(0,vS s)] [])) (λ(_:Unit)=>k .ret (mkS 23 23 [(2,vB false)] []))
theorem jcR {W0:Base} {M:Nat->Prop} (hnp:W0.np<=0):Z22 Tryz.prog W0 M (cAt 26 (bo Tryz.f185)) j7x:=j0b follows j00 (Z8K j10 Z94) hnp [] oN [0,3] [] ([],[]) [(0,[0],[])] ([2],[]) λσ k _ h=>rN h λhn h=>rV h λs h0 h=>rV h λi h3 h=>⟨_,Z9m (m:=23) hn (sC h0 (sC h3 sN)) bN,.trans (Z88 (λv:Int=>(mkS 23 23 [(0,vS s),(3,vI v)] [])) (j6v s) (λ(k:Z6O Unit)=>(((λ(_:Unit)=>k (.exit 0) (mkS 23 23 [(0,vS s)] [])),(λ(_:Unit)=>k .ret (mkS 23 23 [(2,vB false)] []))):(Unit->Res)×(Unit->Res))) (λv rec k=>by kernel_rfl) Z12 (i) k) h⟩
noncomputable def j0n (s:qB) (k0:Bool->Res):Res:=
 j5H s Z12 0
  (λ(_:Unit)=>
   j0d (nI (ByteArray.size s)) 1 8 λ(r:Bool)=>
    k0 r)
  (λ(_:Unit)=>
   k0 false)
noncomputable def j2h:Sig Unit:=⟨[.look .str false],[false],λvals ext k=>av vals .str λs vals=>nl vals<|nl ext<|j0n s (λ(r0:Bool)=>k [wB r0] [] [])⟩
theorem j4H:Z1p Tryz.prog 185 j2h:=j04 (np:=0) follows j00 (Z8K j10 Z94) [j7x] (oI 26 0 (jcR) oN) false Tryz.func185 λ_ _ k _ h=>aV h λ_ _ _ _ _ h=>nL h λ_ h=>nL h λ_ h=>by subst_vars;exact .trans (by delta j0n j7x j0N;refine gz j5H λ_ e=> ?_;rewrite [<-e];refine gz j0d λ_ e=> ?_;rewrite [<-e];kernel_rfl) h
noncomputable def j4v (v_:Int×Int×qB) (k0:Bool->Res):Res:=
 bif (v_.1==0) then
  k0 ((v_.1==0)&&((v_.2.1==0)&&(sEq v_.2.2 eS)))
 else
  bif (v_.1==1) then
   j0d v_.2.1 0 1 λ(r:Bool)=>
    bif r then
     k0 (sEq v_.2.2 eS)
    else
     k0 false
  else
   bif (v_.1==2) then
    j0d v_.2.1 (-1099511627775) 1099511627775 λ(r1:Bool)=>
     bif r1 then
      k0 (sEq v_.2.2 eS)
     else
      k0 false
   else
    bif (v_.1==3) then
     bif (v_.2.1==0) then
      k0 (decide ((nI (ByteArray.size v_.2.2))<=30))
     else
      k0 false
    else
     k0 false
noncomputable def jba:Sig Unit:=⟨[.look y2 true],[false],λvals ext k=>av vals y2 λv_ vals=>nl vals<|nl ext<|j4v v_ (λ(r0:Bool)=>k [wB r0] [] [])⟩
theorem jaN:Z1p Tryz.prog 259 jba:=j04 (np:=0) follows j00 (Z8K j10 Z94) [] oN false Tryz.func259 λ_ _ k _ h=>aV h λ_ _ _ _ _ h=>nL h λ_ h=>nL h λ_ h=>by subst_vars;exact .trans (by delta j4v j0N;refine gz j0d λ_ e=> ?_;rewrite [<-e];kernel_rfl) h
end Go.PI.G
namespace Go.PI.G
open Go Go.PI Go.Proofs
open Go.Code (pl pr)
noncomputable def j1f (s1:List qC) (s2:List qC) (t12:Int) (t13:Int) (rec:Int->Res) (k0:Unit->Res) (k1:Unit->Res):Res:=
 bif decide (t13<t12) then
  bif inb t13 (List.length s1) then
   bif inb t13 (List.length s2) then
    bif !((sEq (nth (eS,0,false,false,0,0,eS) s1 t13).1 (nth (eS,0,false,false,0,0,eS) s2 t13).1)&&(((nth (eS,0,false,false,0,0,eS) s1 t13).2.1==(nth (eS,0,false,false,0,0,eS) s2 t13).2.1)&&(((nth (eS,0,false,false,0,0,eS) s1 t13).2.2.1==(nth (eS,0,false,false,0,0,eS) s2 t13).2.2.1)&&(((nth (eS,0,false,false,0,0,eS) s1 t13).2.2.2.1==(nth (eS,0,false,false,0,0,eS) s2 t13).2.2.2.1)&&(((nth (eS,0,false,false,0,0,eS) s1 t13).2.2.2.2.1==(nth (eS,0,false,false,0,0,eS) s2 t13).2.2.2.2.1)&&(((nth (eS,0,false,false,0,0,eS) s1 t13).2.2.2.2.2.1==(nth (eS,0,false,false,0,0,eS) s2 t13).2.2.2.2.2.1)&&(sEq (nth (eS,0,false,false,0,0,eS) s1 t13).2.2.2.2.2.2 (nth (eS,0,false,false,0,0,eS) s2 t13).2.2.2.2.2.2))))))) then
     k1 ()
    else
     rec (Z8o (t13+1))
   else none
  else none
 else
  k0 ()
noncomputable def j4i (s1:List qC) (s2:List qC) (t12:Int):Int->(Int->Res)->((Unit->Res)×(Unit->Res))->Res:=λv rec q=>j1f s1 s2 t12 v (λt13=>rec (t13)) q.1 q.2
noncomputable def j3i (s1:List qC) (s2:List qC) (t12:Int) (n:Nat) (t13:Int) (k0:Unit->Res) (k1:Unit->Res):Res:=Z14 (j4i s1 s2 t12) n (t13) (k0,k1)
noncomputable def j7A:Z1q Unit:=λσ k=>rdN σ 26<|rd1 σ 0 y8 .S λs1=>rd1 σ 1 y8 .S λs2=>rdI σ 12 λt12=>rdI σ 13 λt13=>j3i s1 s2 t12 Z12 t13 (λ(_:Unit)=>k (.exit 0) (mkS 26 26 [] [])) (λ(_:Unit)=>k .ret (mkS 26 26 [(4,vB false)] []))
theorem jak {W0:Base} {M:Nat->Prop} (hnp:W0.np<=0):Z22 Tryz.prog W0 M (cAt 58 (bo Tryz.f256)) j7A:=j0b follows j00 Z94 hnp [] oN [0,1,12,13] [] ([],[]) [(0,[],[])] ([4],[]) λσ k _ h=>rN h λhn h=>rV h λs1 h0 h=>rV h λs2 h1 h=>rV h λt12 h12 h=>rV h λt13 h13 h=>⟨_,Z9m (m:=26) hn (sC h0 (sC h1 (sC h12 (sC h13 sN)))) bN,.trans (Z88 (λv:Int=>(mkS 26 26 [(0,v1 y8 s1 .S),(1,v1 y8 s2 .S),(12,vI t12),(13,vI v)] [])) (j4i s1 s2 t12) (λ(k:Z6O Unit)=>(((λ(_:Unit)=>k (.exit 0) (mkS 26 26 [] [])),(λ(_:Unit)=>k .ret (mkS 26 26 [(4,vB false)] []))):(Unit->Res)×(Unit->Res))) (λv rec k=>by kernel_rfl) Z12 (t13) k) h⟩
noncomputable def j17 (s1:List qC) (s2:List qC) (k0:Bool->Res):Res:=
 bif ((nI (List.length s1)) != (nI (List.length s2))) then
  k0 false
 else
  j3i s1 s2 (nI (List.length s1)) Z12 0
   (λ(_:Unit)=>
    k0 true)
   (λ(_:Unit)=>
    k0 false)
noncomputable def j8k:Sig Unit:=⟨[.look y8 false,.look y8 false],[false],λvals ext k=>av vals y8 λs1 vals=>av vals y8 λs2 vals=>nl vals<|nl ext<|j17 s1 s2 (λ(r0:Bool)=>k [wB r0] [] [])⟩
theorem jaS:Z1p Tryz.prog 256 j8k:=j04 (np:=0) follows j00 Z94 [j7A] (oI 58 0 (jak) oN) false Tryz.func256 λ_ _ k _ h=>aV h λ_ _ _ _ _ h=>aV h λ_ _ _ _ _ h=>nL h λ_ h=>nL h λ_ h=>by subst_vars;exact .trans (by kernel_rfl) h
noncomputable def j9i (s1:qL) (s2:qL) (t12:Int) (t13:Int) (rec:Int->Res) (k0:Unit->Res) (k1:Unit->Res):Res:=
 bif decide (t13<t12) then
  bif inb t13 (List.length s1) then
   bif inb t13 (List.length s2) then
    bif sNe (nth eS s1 t13) (nth eS s2 t13) then
     k1 ()
    else
     rec (Z8o (t13+1))
   else none
  else none
 else
  k0 ()
noncomputable def j5r (s1:qL) (s2:qL) (t12:Int):Int->(Int->Res)->((Unit->Res)×(Unit->Res))->Res:=λv rec q=>j9i s1 s2 t12 v (λt13=>rec (t13)) q.1 q.2
noncomputable def j3W (s1:qL) (s2:qL) (t12:Int) (n:Nat) (t13:Int) (k0:Unit->Res) (k1:Unit->Res):Res:=Z14 (j5r s1 s2 t12) n (t13) (k0,k1)
noncomputable def j5V:Z1q Unit:=λσ k=>rdN σ 26<|rd1 σ 0 y9 .S λs1=>rd1 σ 1 y9 .S λs2=>rdI σ 12 λt12=>rdI σ 13 λt13=>j3W s1 s2 t12 Z12 t13 (λ(_:Unit)=>k (.exit 0) (mkS 26 26 [] [])) (λ(_:Unit)=>k .ret (mkS 26 26 [(4,vB false)] []))
theorem j9o {W0:Base} {M:Nat->Prop} (hnp:W0.np<=0):Z22 Tryz.prog W0 M (cAt 58 (bo Tryz.f135)) j5V:=j0b follows j00 Z94 hnp [] oN [0,1,12,13] [] ([],[]) [(0,[],[])] ([4],[]) λσ k _ h=>rN h λhn h=>rV h λs1 h0 h=>rV h λs2 h1 h=>rV h λt12 h12 h=>rV h λt13 h13 h=>⟨_,Z9m (m:=26) hn (sC h0 (sC h1 (sC h12 (sC h13 sN)))) bN,.trans (Z88 (λv:Int=>(mkS 26 26 [(0,v1 y9 s1 .S),(1,v1 y9 s2 .S),(12,vI t12),(13,vI v)] [])) (j5r s1 s2 t12) (λ(k:Z6O Unit)=>(((λ(_:Unit)=>k (.exit 0) (mkS 26 26 [] [])),(λ(_:Unit)=>k .ret (mkS 26 26 [(4,vB false)] []))):(Unit->Res)×(Unit->Res))) (λv rec k=>by kernel_rfl) Z12 (t13) k) h⟩
noncomputable def j1K (s1:qL) (s2:qL) (k0:Bool->Res):Res:=
 bif ((nI (List.length s1)) != (nI (List.length s2))) then
  k0 false
 else
  j3W s1 s2 (nI (List.length s1)) Z12 0
   (λ(_:Unit)=>
    k0 true)
   (λ(_:Unit)=>
    k0 false)
noncomputable def j6X:Sig Unit:=⟨[.look y9 false,.look y9 false],[false],λvals ext k=>av vals y9 λs1 vals=>av vals y9 λs2 vals=>nl vals<|nl ext<|j1K s1 s2 (λ(r0:Bool)=>k [wB r0] [] [])⟩
theorem j9Z:Z1p Tryz.prog 135 j6X:=j04 (np:=0) follows j00 Z94 [j5V] (oI 58 0 (j9o) oN) false Tryz.func135 λ_ _ k _ h=>aV h λ_ _ _ _ _ h=>aV h λ_ _ _ _ _ h=>nL h λ_ h=>nL h λ_ h=>by subst_vars;exact .trans (by kernel_rfl) h
end Go.PI.G
namespace Go.PI.G
open Go Go.PI Go.Proofs
open Go.Code (pl pr)
noncomputable def j3J (c:qB×Int×Bool×Bool×Int×Int×qB) (k0:Bool->Res):Res:=
 j0o c.1 λ(r:Bool)=>
  bif !r then
   k0 false
  else
   bif decide (c.2.1<1) then
    k0 false
   else
    bif decide (c.2.1>3) then
     k0 false
    else
     bif !c.2.2.2.1 then
      k0 ((c.2.2.2.2.1==0)&&((c.2.2.2.2.2.1==0)&&(sEq c.2.2.2.2.2.2 eS)))
     else
      j3O c.2.2.2.2 λ(r1:Bool)=>
       bif r1 then
        bif ((c.2.2.2.2.1==0)&&((c.2.2.2.2.2.1==0)&&(sEq c.2.2.2.2.2.2 eS))) then
         bif ((c.2.2.2.2.1==0)&&((c.2.2.2.2.2.1==0)&&(sEq c.2.2.2.2.2.2 eS))) then
          k0 (!c.2.2.1)
         else
          k0 true
        else
         bif (c.2.2.2.2.1==c.2.1) then
          bif ((c.2.2.2.2.1==0)&&((c.2.2.2.2.2.1==0)&&(sEq c.2.2.2.2.2.2 eS))) then
           k0 (!c.2.2.1)
          else
           k0 true
         else
          k0 false
       else
        k0 false
noncomputable def j5q:Sig Unit:=⟨[.look y7 true],[false],λvals ext k=>av vals y7 λc vals=>nl vals<|nl ext<|j3J c (λ(r0:Bool)=>k [wB r0] [] [])⟩
theorem jaT:Z1p Tryz.prog 203 j5q:=j04 (np:=0) follows j00 (Z8K j2g (Z8K j70 Z94)) [] oN false Tryz.func203 λ_ _ k _ h=>aV h λ_ _ _ _ _ h=>nL h λ_ h=>nL h λ_ h=>by subst_vars;exact .trans (by delta j3J j2i j7n;refine gz j0o λ_ e=> ?_;rewrite [<-e];refine gz j3O λ_ e=> ?_;rewrite [<-e];kernel_rfl) h
noncomputable def j3I (name:qB) (t8:List qC) (t9:Int) (t10:Int) (rec:Int->Res) (k0:Unit->Res) (k1:Int->Res):Res:=
 bif decide (t10<t9) then
  bif inb t10 (List.length t8) then
   bif sEq (nth (eS,0,false,false,0,0,eS) t8 t10).1 name then
    k1 t10
   else
    rec (Z8o (t10+1))
  else none
 else
  k0 ()
noncomputable def j7q (name:qB) (t8:List qC) (t9:Int):Int->(Int->Res)->((Unit->Res)×(Int->Res))->Res:=λv rec q=>j3I name t8 t9 v (λt10=>rec (t10)) q.1 q.2
noncomputable def j8z (name:qB) (t8:List qC) (t9:Int) (n:Nat) (t10:Int) (k0:Unit->Res) (k1:Int->Res):Res:=Z14 (j7q name t8 t9) n (t10) (k0,k1)
noncomputable def jac:Z1q Unit:=λσ k=>rdN σ 21<|rdS σ 1 λname=>rd1 σ 8 y8 .S λt8=>rdI σ 9 λt9=>rdI σ 10 λt10=>j8z name t8 t9 Z12 t10 (λ(_:Unit)=>k (.exit 0) (mkS 21 21 [] [])) (λ(t4:Int)=>k .ret (mkS 21 21 [(4,vI t4)] []))
theorem jdx {W0:Base} {M:Nat->Prop} (hnp:W0.np<=0):Z22 Tryz.prog W0 M (cAt 26 (bo Tryz.f263)) jac:=j0b follows j00 Z94 hnp [] oN [1,8,9,10] [] ([],[]) [(0,[],[])] ([4],[]) λσ k _ h=>rN h λhn h=>rV h λname h1 h=>rV h λt8 h8 h=>rV h λt9 h9 h=>rV h λt10 h10 h=>⟨_,Z9m (m:=21) hn (sC h1 (sC h8 (sC h9 (sC h10 sN)))) bN,.trans (Z88 (λv:Int=>(mkS 21 21 [(1,vS name),(8,v1 y8 t8 .S),(9,vI t9),(10,vI v)] [])) (j7q name t8 t9) (λ(k:Z6O Unit)=>(((λ(_:Unit)=>k (.exit 0) (mkS 21 21 [] [])),(λ(t4:Int)=>k .ret (mkS 21 21 [(4,vI t4)] []))):(Unit->Res)×(Int->Res))) (λv rec k=>by kernel_rfl) Z12 (t10) k) h⟩
noncomputable def j5Q (t:qB×qE×qL) (name:qB) (k0:Int->Res):Res:=
 j8z name t.2.1 (nI (List.length t.2.1)) Z12 0
  (λ(_:Unit)=>
   k0 (-1))
  (λ(t1:Int)=>
   k0 t1)
noncomputable def j9g:Sig Unit:=⟨[.look y28 true,.look .str false],[false],λvals ext k=>av vals y28 λt vals=>av vals .str λname vals=>nl vals<|nl ext<|j5Q t name (λ(r0:Int)=>k [wI r0] [] [])⟩
theorem jex:Z1p Tryz.prog 263 j9g:=j04 (np:=0) follows j00 Z94 [jac] (oI 26 0 (jdx) oN) false Tryz.func263 λ_ _ k _ h=>aV h λ_ _ _ _ _ h=>aV h λ_ _ _ _ _ h=>nL h λ_ h=>nL h λ_ h=>by subst_vars;exact .trans (by kernel_rfl) h
theorem j5A:Fns Tryz.prog [(104,j2i),(203,j5q),(263,j9g)]:=(Z8K j2g (Z8K jaT (Z8K jex Z94)))
noncomputable def j3N (t:qB×qE×qL) (k0:Bool->Res):Res:=
 j0o t.1 λ(r:Bool)=>
  bif !r then
   k0 true
  else
   bif decide ((nI (List.length t.2.1))<1) then
    k0 true
   else
    bif decide ((nI (List.length t.2.1))>8) then
     k0 true
    else
     k0 (decide ((nI (List.length t.2.2))<1))
noncomputable def j3d:Z1q Unit:=λσ k=>rdN σ 75<|rdT σ 1 (pB 1)<|rdB σ 1 y28 [.S,.S] λa t=>j3N t (λ(t30:Bool)=>k .normal (mkS 75 75 [(1,pB 1),(30,vB t30)] [(1,⟨y28,a,t,[.S,.S]⟩)]))
theorem jcb {W0:Base} {M:Nat->Prop} (hnp:W0.np<=0):Z22 Tryz.prog W0 M (cAt 12 (bo Tryz.f202)) j3d:=j0P follows j00 j5A hnp [] oN ([1,30],[1]) [] ([],[]) λσ k _ h=>rN h λhn h=>rT h λh1 h=>rB h λa t hb1 h=>⟨_,Z9m (m:=75) hn (sC h1 sN) (bC hb1 bN),.trans (by kernel_rfl) h⟩
noncomputable def j1z (t32:List qC) (t33:Int) (t:qB×qE×qL) (t34:Int) (rec:Int->Res) (k0:Unit->Res) (k1:Unit->Res):Res:=
 bif decide (t34<t33) then
  bif inb t34 (List.length t32) then
   j3J (nth (eS,0,false,false,0,0,eS) t32 t34) λ(r:Bool)=>
    bif !r then
     k1 ()
    else
     j5Q t (nth (eS,0,false,false,0,0,eS) t32 t34).1 λ(r1:Int)=>
      bif (r1 != t34) then
       k1 ()
      else
       rec (Z8o (t34+1))
  else none
 else
  k0 ()
noncomputable def j42 (t32:List qC) (t33:Int) (t:qB×qE×qL):Int->(Int->Res)->((Unit->Res)×(Unit->Res))->Res:=λv rec q=>j1z t32 t33 t v (λt34=>rec (t34)) q.1 q.2
noncomputable def j3L (t32:List qC) (t33:Int) (t:qB×qE×qL) (n:Nat) (t34:Int) (k0:Unit->Res) (k1:Unit->Res):Res:=Z14 (j42 t32 t33 t) n (t34) (k0,k1)
noncomputable def j4G:Z1q Unit:=λσ k=>rdN σ 75<|rdT σ 1 (pB 1)<|rd1 σ 32 y8 .S λt32=>rdI σ 33 λt33=>rdI σ 34 λt34=>rdB σ 1 y28 [.S,.S] λa t=>j3L t32 t33 t Z12 t34 (λ(_:Unit)=>k (.exit 0) (mkS 75 75 [(1,pB 1)] [(1,⟨y28,a,t,[.S,.S]⟩)])) (λ(_:Unit)=>k .ret (mkS 75 75 [(2,vB false)] []))
theorem jc9 {W0:Base} {M:Nat->Prop} (hnp:W0.np<=0):Z22 Tryz.prog W0 M (cAt 58 (bo Tryz.f202)) j4G:=j0b follows j00 j5A hnp [j3d] oN [1,32,33,34] [1] ([],[]) [(0,[1],[1])] ([2],[]) λσ k _ h=>rN h λhn h=>rT h λh1 h=>rV h λt32 h32 h=>rV h λt33 h33 h=>rV h λt34 h34 h=>rB h λa t hb1 h=>⟨_,Z9m (m:=75) hn (sC h1 (sC h32 (sC h33 (sC h34 sN)))) (bC hb1 bN),.trans (Z88 (λv:Int=>(mkS 75 75 [(1,pB 1),(32,v1 y8 t32 .S),(33,vI t33),(34,vI v)] [(1,⟨y28,a,t,[.S,.S]⟩)])) (j42 t32 t33 t) (λ(k:Z6O Unit)=>(((λ(_:Unit)=>k (.exit 0) (mkS 75 75 [(1,pB 1)] [(1,⟨y28,a,t,[.S,.S]⟩)])),(λ(_:Unit)=>k .ret (mkS 75 75 [(2,vB false)] []))):(Unit->Res)×(Unit->Res))) (λv rec k=>by delta j42 j1z j5q j9g;refine gz j3J λ_ e=> ?_;rewrite [<-e];refine gz j5Q λ_ e=> ?_;rewrite [<-e];kernel_rfl) Z12 (t34) k) h⟩
noncomputable def j2A (t52:qL) (t53:Int) (t:qB×qE×qL) (last:Int) (t54:Int) (rec:Int->Int->Res) (k0:Unit->Res) (k1:Unit->Res):Res:=
 bif decide (t54<t53) then
  bif inb t54 (List.length t52) then
   j5Q t (nth eS t52 t54) λ(r:Int)=>
    bif decide (r<=last) then
     k1 ()
    else
     bif inb r (List.length t.2.1) then
      bif !(nth (eS,0,false,false,0,0,eS) t.2.1 r).2.2.1 then
       k1 ()
      else
       rec r (Z8o (t54+1))
     else none
  else none
 else
  k0 ()
noncomputable def j63 (t52:qL) (t53:Int) (t:qB×qE×qL):(Int×Int)->(Int×Int->Res)->((Unit->Res)×(Unit->Res))->Res:=λv rec q=>j2A t52 t53 t v.1 v.2 (λlast t54=>rec (last,t54)) q.1 q.2
noncomputable def j3M (t52:qL) (t53:Int) (t:qB×qE×qL) (n:Nat) (last:Int) (t54:Int) (k0:Unit->Res) (k1:Unit->Res):Res:=Z14 (j63 t52 t53 t) n (last,t54) (k0,k1)
noncomputable def j6T:Z1q Unit:=λσ k=>rdN σ 75<|rdT σ 1 (pB 1)<|rdI σ 5 λlast=>rd1 σ 52 y9 .S λt52=>rdI σ 53 λt53=>rdI σ 54 λt54=>rdB σ 1 y28 [.S,.S] λa t=>j3M t52 t53 t Z12 last t54 (λ(_:Unit)=>k (.exit 2) (mkS 75 75 [] [])) (λ(_:Unit)=>k .ret (mkS 75 75 [(2,vB false)] []))
theorem jca {W0:Base} {M:Nat->Prop} (hnp:W0.np<=0):Z22 Tryz.prog W0 M (cAt 250 (bo Tryz.f202)) j6T:=j0b follows j00 j5A hnp [j3d,j4G] oN [1,5,52,53,54] [1] ([],[]) [(2,[],[])] ([2],[]) λσ k _ h=>rN h λhn h=>rT h λh1 h=>rV h λlast h5 h=>rV h λt52 h52 h=>rV h λt53 h53 h=>rV h λt54 h54 h=>rB h λa t hb1 h=>⟨_,Z9m (m:=75) hn (sC h1 (sC h5 (sC h52 (sC h53 (sC h54 sN))))) (bC hb1 bN),.trans (Z88 (λv:Int×Int=>(mkS 75 75 [(1,pB 1),(5,vI v.1),(52,v1 y9 t52 .S),(53,vI t53),(54,vI v.2)] [(1,⟨y28,a,t,[.S,.S]⟩)])) (j63 t52 t53 t) (λ(k:Z6O Unit)=>(((λ(_:Unit)=>k (.exit 2) (mkS 75 75 [] [])),(λ(_:Unit)=>k .ret (mkS 75 75 [(2,vB false)] []))):(Unit->Res)×(Unit->Res))) (λv rec k=>by kernel_rfl) Z12 (last,t54) k) h⟩
noncomputable def j4n (t:qB×qE×qL) (k0:Bool->Res):Res:=
 j3N t λ(t1:Bool)=>
  bif t1 then
   k0 false
  else
   j3L t.2.1 (nI (List.length t.2.1)) t Z12 0
    (λ(_:Unit)=>
     j3M t.2.2 (nI (List.length t.2.2)) t Z12 (-1) 0
      (λ(_:Unit)=>
       k0 true)
      (λ(_:Unit)=>
       k0 false))
    (λ(_:Unit)=>
     k0 false)
noncomputable def j81:Sig Unit:=⟨[.look y28 true],[false],λvals ext k=>av vals y28 λt vals=>nl vals<|nl ext<|j4n t (λ(r0:Bool)=>k [wB r0] [] [])⟩
theorem jdn:Z1p Tryz.prog 202 j81:=j04 (np:=0) follows j00 j5A [j3d,j4G,j6T] (oI 12 0 (jcb) (oI 58 1 (jc9) (oI 250 2 (jca) oN))) false Tryz.func202 λ_ _ k _ h=>aV h λ_ _ _ _ _ h=>nL h λ_ h=>nL h λ_ h=>by subst_vars;exact .trans (by delta j4n j3d j4G j6T;refine gz j3N λ_ e=> ?_;rewrite [<-e];refine gz j3L λ_ e=> ?_;rewrite [<-e];refine gz j3M λ_ e=> ?_;rewrite [<-e];kernel_rfl) h
theorem jaL:Fns Tryz.prog [(104,j2i),(202,j81),(203,j5q)]:=(Z8K j2g (Z8K jdn (Z8K jaT Z94)))
noncomputable def j4R (d:qG) (k0:Bool->Res):Res:=
 bif ((nI (List.length d.2.2.1))==0) then
  k0 ((nI (List.length d.2.2.2.1))==0)
 else
  k0 false
noncomputable def j8b:Z1q Unit:=λσ k=>rdN σ 123<|rdT σ 1 (pB 1)<|rdB σ 1 y14 [.S,.S] λa d=>j4R d (λ(plain:Bool)=>k .normal (mkS 123 123 [(1,pB 1),(3,vB plain)] [(1,⟨y14,a,d,[.S,.S]⟩)]))
theorem jdy {W0:Base} {M:Nat->Prop} (hnp:W0.np<=0):Z22 Tryz.prog W0 M (cAt 14 (bo Tryz.f107)) j8b:=j0P follows j00 jaL hnp [] oN ([1,3],[1]) [] ([],[]) λσ k _ h=>rN h λhn h=>rT h λh1 h=>rB h λa d hb1 h=>⟨_,Z9m (m:=123) hn (sC h1 sN) (bC hb1 bN),.trans (by kernel_rfl) h⟩
noncomputable def j5R (d:qG) (k0:Bool->Res):Res:=
 j0o d.2.1 λ(r:Bool)=>
  bif !r then
   k0 false
  else
   j4R d λ(plain:Bool)=>
    bif (d.1==1) then
     bif sEq d.2.2.2.2.1 eS then
      bif sEq d.2.2.2.2.2 eS then
       j4n (d.2.1,d.2.2.1,d.2.2.2.1) λ(r1:Bool)=>
        k0 r1
      else
       k0 false
     else
      k0 false
    else
     bif (d.1==2) then
      bif plain then
       bif sEq d.2.2.2.2.1 eS then
        k0 (sEq d.2.2.2.2.2 eS)
       else
        k0 false
      else
       k0 false
     else
      bif (d.1==3) then
       bif ((nI (List.length d.2.2.1))==1) then
        bif inb 0 (List.length d.2.2.1) then
         j3J (nth (eS,0,false,false,0,0,eS) d.2.2.1 0) λ(r2:Bool)=>
          bif r2 then
           bif inb 0 (List.length d.2.2.1) then
            bif (nth (eS,0,false,false,0,0,eS) d.2.2.1 0).2.2.2.1 then
             bif ((nI (List.length d.2.2.2.1))==0) then
              bif sEq d.2.2.2.2.1 eS then
               k0 (sEq d.2.2.2.2.2 eS)
              else
               k0 false
             else
              k0 false
            else
             bif inb 0 (List.length d.2.2.1) then
              bif !(nth (eS,0,false,false,0,0,eS) d.2.2.1 0).2.2.1 then
               bif ((nI (List.length d.2.2.2.1))==0) then
                bif sEq d.2.2.2.2.1 eS then
                 k0 (sEq d.2.2.2.2.2 eS)
                else
                 k0 false
               else
                k0 false
              else
               k0 false
             else none
           else none
          else
           k0 false
        else none
       else
        k0 false
      else
       bif (d.1==4) then
        bif plain then
         j0o d.2.2.2.2.1 λ(r3:Bool)=>
          bif r3 then
           k0 (sEq d.2.2.2.2.2 eS)
          else
           k0 false
        else
         k0 false
       else
        bif (d.1==5) then
         bif plain then
          j0o d.2.2.2.2.1 λ(r4:Bool)=>
           bif r4 then
            j0o d.2.2.2.2.2 λ(r5:Bool)=>
             k0 r5
           else
            k0 false
         else
          k0 false
        else
         k0 false
noncomputable def j9h:Sig Unit:=⟨[.look y14 true],[false],λvals ext k=>av vals y14 λd vals=>nl vals<|nl ext<|j5R d (λ(r0:Bool)=>k [wB r0] [] [])⟩
theorem jey:Z1p Tryz.prog 107 j9h:=j04 (np:=0) follows j00 jaL [j8b] (oI 14 0 (jdy) oN) false Tryz.func107 λ_ _ k _ h=>aV h λ_ _ _ _ _ h=>nL h λ_ h=>nL h λ_ h=>by subst_vars;exact .trans (by delta j5R j2i j8b j81 j5q;refine gz j0o λ_ e=> ?_;rewrite [<-e];refine gz j4R λ_ e=> ?_;rewrite [<-e];refine gz j4n λ_ e=> ?_;rewrite [<-e];refine gz j3J λ_ e=> ?_;rewrite [<-e];kernel_rfl) h
noncomputable def j7P (l:qL) (k0:qL->Res):Res:=
 bif lim (0+(List.length l)) then
  k0 l
 else none
noncomputable def jci:Sig Unit:=⟨[.borrow y9 false],[false],λvals ext k=>av vals y9 λl vals=>nl vals<|nl ext<|j7P l (λ(r0:qL)=>k [w1 y9 r0 .O] [] [])⟩
theorem jbR:Z1p Tryz.prog 143 jci:=j04 (np:=0) follows j00 Z94 [] oN false Tryz.func143 λ_ _ k _ h=>aV h λ_ _ _ _ _ h=>nL h λ_ h=>nL h λ_ h=>by subst_vars;exact .trans (by kernel_rfl) h
noncomputable def j7O (t:qB×qE×qL) (k0:qT->Res):Res:=
 bif lim (0+(List.length t.2.1)) then
  j7P t.2.2 λ(r:qL)=>
   k0 (t.1,t.2.1,r)
 else none
noncomputable def jch:Sig Unit:=⟨[.borrow y28 true],[true],λvals ext k=>av vals y28 λt vals=>nl vals<|nl ext<|j7O t (λ(r0:qB×qE×qL)=>k [⟨y28,true,r0,[.O,.O]⟩] [] [])⟩
theorem jbQ:Z1p Tryz.prog 312 jch:=j04 (np:=0) follows j00 (Z8K jbR Z94) [] oN false Tryz.func312 λ_ _ k _ h=>aV h λ_ _ _ _ _ h=>nL h λ_ h=>nL h λ_ h=>by subst_vars;exact .trans (by kernel_rfl) h
noncomputable def j4J (d:qG) (k0:qT->Res):Res:=
 j7O (d.2.1,d.2.2.1,d.2.2.2.1) λ(r:qB×qE×qL)=>
  k0 r
noncomputable def j9z:Sig Unit:=⟨[.borrow y14 true],[true],λvals ext k=>av vals y14 λd vals=>nl vals<|nl ext<|j4J d (λ(r0:qB×qE×qL)=>k [⟨y28,true,r0,[.O,.O]⟩] [] [])⟩
theorem jcp:Z1p Tryz.prog 254 j9z:=j04 (np:=0) follows j00 (Z8K jbQ Z94) [] oN false Tryz.func254 λ_ _ k _ h=>aV h λ_ _ _ _ _ h=>nL h λ_ h=>nL h λ_ h=>by subst_vars;exact .trans (by kernel_rfl) h
noncomputable def j3w (c:qB×Int×Bool×Bool×Int×Int×qB) (k0:Bool->Res):Res:=
 j0n c.1 λ(r:Bool)=>
  bif !r then
   k0 false
  else
   j0d c.2.1 1 3 λ(r1:Bool)=>
    bif !r1 then
     k0 false
    else
     j4v c.2.2.2.2 λ(r2:Bool)=>
      bif !r2 then
       k0 false
      else
       bif !c.2.2.2.1 then
        k0 ((c.2.2.2.2.1==0)&&((c.2.2.2.2.2.1==0)&&(sEq c.2.2.2.2.2.2 eS)))
       else
        bif (c.2.2.2.2.1==c.2.1) then
         k0 true
        else
         bif (c.2.2.2.2.1==0) then
          k0 (!c.2.2.1)
         else
          k0 false
noncomputable def j7c:Sig Unit:=⟨[.look y7 true],[false],λvals ext k=>av vals y7 λc vals=>nl vals<|nl ext<|j3w c (λ(r0:Bool)=>k [wB r0] [] [])⟩
theorem jaM:Z1p Tryz.prog 255 j7c:=j04 (np:=0) follows j00 (Z8K j4H (Z8K j10 (Z8K jaN Z94))) [] oN false Tryz.func255 λ_ _ k _ h=>aV h λ_ _ _ _ _ h=>nL h λ_ h=>nL h λ_ h=>by subst_vars;exact .trans (by delta j3w j2h j0N jba;refine gz j0n λ_ e=> ?_;rewrite [<-e];refine gz j0d λ_ e=> ?_;rewrite [<-e];refine gz j4v λ_ e=> ?_;rewrite [<-e];kernel_rfl) h
noncomputable def j9L (c:qB×Int×Bool×Bool×Int×Int×qB) (t1:qB) (k0:Bool->Res):Res:=
 k0 (sEq c.1 t1)
noncomputable def jej:Sig Unit:=⟨[.look y7 true,.rptr .str],[false],λvals ext k=>av vals y7 λc vals=>av vals .str λt1 vals=>nl vals<|nl ext<|j9L c t1 (λ(r0:Bool)=>k [wB r0] [] [])⟩
theorem jau:Z1p Tryz.prog 349 jej:=j04 (np:=0) follows j00 Z94 [] oN false Tryz.func349 λ_ _ k _ h=>aV h λ_ _ _ _ _ h=>aV h λ_ _ _ _ _ h=>nL h λ_ h=>nL h λ_ h=>by subst_vars;exact .trans (by kernel_rfl) h
noncomputable def j0H (s:List qC) (f:qB) (t7:Int) (t8:Int) (rec:Int->Res) (k0:Unit->Res) (k1:Int->Res):Res:=
 bif decide (t8<t7) then
  bif inb t8 (List.length s) then
   j9L (nth (eS,0,false,false,0,0,eS) s t8) f λ(r:Bool)=>
    bif r then
     k1 t8
    else
     rec (Z8o (t8+1))
  else none
 else
  k0 ()
noncomputable def j2H (s:List qC) (f:qB) (t7:Int):Int->(Int->Res)->((Unit->Res)×(Int->Res))->Res:=λv rec q=>j0H s f t7 v (λt8=>rec (t8)) q.1 q.2
noncomputable def j3k (s:List qC) (f:qB) (t7:Int) (n:Nat) (t8:Int) (k0:Unit->Res) (k1:Int->Res):Res:=Z14 (j2H s f t7) n (t8) (k0,k1)
noncomputable def j5y:Z1q Unit:=λσ k=>rdN σ 19<|rd1 σ 0 y8 .S λs=>rdC σ 1 349 [.str] .str [] λf=>rdI σ 7 λt7=>rdI σ 8 λt8=>j3k s f t7 Z12 t8 (λ(_:Unit)=>k (.exit 0) (mkS 19 19 [] [])) (λ(t4:Int)=>k .ret (mkS 19 19 [(4,vI t4)] []))
theorem j9b {W0:Base} {M:Nat->Prop} (hnp:W0.np<=0):Z22 Tryz.prog W0 M (cAt 26 (bo Tryz.f348)) j5y:=j0b follows j00 (Z8K jau Z94) hnp [] oN [0,1,7,8] [] ([],[]) [(0,[],[])] ([4],[]) λσ k _ h=>rN h λhn h=>rV h λs h0 h=>rC h λf h1 h=>rV h λt7 h7 h=>rV h λt8 h8 h=>⟨_,Z9m (m:=19) hn (sC h0 (sC h1 (sC h7 (sC h8 sN)))) bN,.trans (Z88 (λv:Int=>(mkS 19 19 [(0,v1 y8 s .S),(1,.sclos 349 [.str] ⟨.str,false,f,[]⟩),(7,vI t7),(8,vI v)] [])) (j2H s f t7) (λ(k:Z6O Unit)=>(((λ(_:Unit)=>k (.exit 0) (mkS 19 19 [] [])),(λ(t4:Int)=>k .ret (mkS 19 19 [(4,vI t4)] []))):(Unit->Res)×(Int->Res))) (λv rec k=>by kernel_rfl) Z12 (t8) k) h⟩
noncomputable def j4z (s:List qC) (f:qB) (k0:Int->Res):Res:=
 j3k s f (nI (List.length s)) Z12 0
  (λ(_:Unit)=>
   k0 (-1))
  (λ(t:Int)=>
   k0 t)
noncomputable def j9P:Sig Unit:=⟨[.look y8 false,.rclos 349 [.str]],[false],λvals ext k=>av vals y8 λs vals=>av vals .str λf vals=>nl vals<|nl ext<|j4z s f (λ(r0:Int)=>k [wI r0] [] [])⟩
theorem j9J:Z1p Tryz.prog 348 j9P:=j04 (np:=0) follows j00 (Z8K jau Z94) [j5y] (oI 26 0 (j9b) oN) false Tryz.func348 λ_ _ k _ h=>aV h λ_ _ _ _ _ h=>aV h λ_ _ _ _ _ h=>nL h λ_ h=>nL h λ_ h=>by subst_vars;exact .trans (by kernel_rfl) h
noncomputable def j5D (t:qB×qE×qL) (name:qB) (k0:Int->Res):Res:=
 j4z t.2.1 name λ(r:Int)=>
  k0 r
noncomputable def j9e:Sig Unit:=⟨[.look y28 true,.look .str false],[false],λvals ext k=>av vals y28 λt vals=>av vals .str λname vals=>nl vals<|nl ext<|j5D t name (λ(r0:Int)=>k [wI r0] [] [])⟩
theorem jet:Z1p Tryz.prog 311 j9e:=j04 (np:=0) follows j00 (Z8K j9J Z94) [] oN false Tryz.func311 λ_ _ k _ h=>aV h λ_ _ _ _ _ h=>aV h λ_ _ _ _ _ h=>nL h λ_ h=>nL h λ_ h=>by subst_vars;exact .trans (by kernel_rfl) h
theorem j7I:Fns Tryz.prog [(185,j2h),(187,j0N),(255,j7c),(311,j9e)]:=(Z8K j4H (Z8K j10 (Z8K jaM (Z8K jet Z94))))
noncomputable def j1x (t10:List qC) (t11:Int) (t:qB×qE×qL) (t12:Int) (rec:Int->Res) (k0:Unit->Res) (k1:Unit->Res):Res:=
 bif decide (t12<t11) then
  bif inb t12 (List.length t10) then
   j3w (nth (eS,0,false,false,0,0,eS) t10 t12) λ(r:Bool)=>
    bif !r then
     k1 ()
    else
     j5D t (nth (eS,0,false,false,0,0,eS) t10 t12).1 λ(r1:Int)=>
      bif (r1 != t12) then
       k1 ()
      else
       rec (Z8o (t12+1))
  else none
 else
  k0 ()
noncomputable def j40 (t10:List qC) (t11:Int) (t:qB×qE×qL):Int->(Int->Res)->((Unit->Res)×(Unit->Res))->Res:=λv rec q=>j1x t10 t11 t v (λt12=>rec (t12)) q.1 q.2
noncomputable def j3z (t10:List qC) (t11:Int) (t:qB×qE×qL) (n:Nat) (t12:Int) (k0:Unit->Res) (k1:Unit->Res):Res:=Z14 (j40 t10 t11 t) n (t12) (k0,k1)
noncomputable def j4E:Z1q Unit:=λσ k=>rdN σ 68<|rdT σ 1 (pB 1)<|rd1 σ 10 y8 .S λt10=>rdI σ 11 λt11=>rdI σ 12 λt12=>rdB σ 1 y28 [.S,.S] λa t=>j3z t10 t11 t Z12 t12 (λ(_:Unit)=>k (.exit 0) (mkS 68 68 [(1,pB 1)] [(1,⟨y28,a,t,[.S,.S]⟩)])) (λ(_:Unit)=>k .ret (mkS 68 68 [(2,vB false)] []))
theorem jc2 {W0:Base} {M:Nat->Prop} (hnp:W0.np<=0):Z22 Tryz.prog W0 M (cAt 26 (bo Tryz.f253)) j4E:=j0b follows j00 j7I hnp [] oN [1,10,11,12] [1] ([],[]) [(0,[1],[1])] ([2],[]) λσ k _ h=>rN h λhn h=>rT h λh1 h=>rV h λt10 h10 h=>rV h λt11 h11 h=>rV h λt12 h12 h=>rB h λa t hb1 h=>⟨_,Z9m (m:=68) hn (sC h1 (sC h10 (sC h11 (sC h12 sN)))) (bC hb1 bN),.trans (Z88 (λv:Int=>(mkS 68 68 [(1,pB 1),(10,v1 y8 t10 .S),(11,vI t11),(12,vI v)] [(1,⟨y28,a,t,[.S,.S]⟩)])) (j40 t10 t11 t) (λ(k:Z6O Unit)=>(((λ(_:Unit)=>k (.exit 0) (mkS 68 68 [(1,pB 1)] [(1,⟨y28,a,t,[.S,.S]⟩)])),(λ(_:Unit)=>k .ret (mkS 68 68 [(2,vB false)] []))):(Unit->Res)×(Unit->Res))) (λv rec k=>by delta j40 j1x j7c j9e;refine gz j3w λ_ e=> ?_;rewrite [<-e];refine gz j5D λ_ e=> ?_;rewrite [<-e];kernel_rfl) Z12 (t12) k) h⟩
noncomputable def j2p (t30:qL) (t31:Int) (t:qB×qE×qL) (last:Int) (t32:Int) (rec:Int->Int->Res) (k0:Unit->Res) (k1:Unit->Res):Res:=
 bif decide (t32<t31) then
  bif inb t32 (List.length t30) then
   j5D t (nth eS t30 t32) λ(r:Int)=>
    bif decide (r<=last) then
     k1 ()
    else
     bif inb r (List.length t.2.1) then
      bif !(nth (eS,0,false,false,0,0,eS) t.2.1 r).2.2.1 then
       k1 ()
      else
       rec r (Z8o (t32+1))
     else none
  else none
 else
  k0 ()
noncomputable def j5W (t30:qL) (t31:Int) (t:qB×qE×qL):(Int×Int)->(Int×Int->Res)->((Unit->Res)×(Unit->Res))->Res:=λv rec q=>j2p t30 t31 t v.1 v.2 (λlast t32=>rec (last,t32)) q.1 q.2
noncomputable def j3A (t30:qL) (t31:Int) (t:qB×qE×qL) (n:Nat) (last:Int) (t32:Int) (k0:Unit->Res) (k1:Unit->Res):Res:=Z14 (j5W t30 t31 t) n (last,t32) (k0,k1)
noncomputable def j6R:Z1q Unit:=λσ k=>rdN σ 68<|rdT σ 1 (pB 1)<|rdI σ 5 λlast=>rd1 σ 30 y9 .S λt30=>rdI σ 31 λt31=>rdI σ 32 λt32=>rdB σ 1 y28 [.S,.S] λa t=>j3A t30 t31 t Z12 last t32 (λ(_:Unit)=>k (.exit 2) (mkS 68 68 [(1,pB 1)] [(1,⟨y28,a,t,[.S,.S]⟩)])) (λ(_:Unit)=>k .ret (mkS 68 68 [(2,vB false)] []))
theorem jc3 {W0:Base} {M:Nat->Prop} (hnp:W0.np<=0):Z22 Tryz.prog W0 M (cAt 122 (bo Tryz.f253)) j6R:=j0b follows j00 j7I hnp [j4E] oN [1,5,30,31,32] [1] ([],[]) [(2,[1],[1])] ([2],[]) λσ k _ h=>rN h λhn h=>rT h λh1 h=>rV h λlast h5 h=>rV h λt30 h30 h=>rV h λt31 h31 h=>rV h λt32 h32 h=>rB h λa t hb1 h=>⟨_,Z9m (m:=68) hn (sC h1 (sC h5 (sC h30 (sC h31 (sC h32 sN))))) (bC hb1 bN),.trans (Z88 (λv:Int×Int=>(mkS 68 68 [(1,pB 1),(5,vI v.1),(30,v1 y9 t30 .S),(31,vI t31),(32,vI v.2)] [(1,⟨y28,a,t,[.S,.S]⟩)])) (j5W t30 t31 t) (λ(k:Z6O Unit)=>(((λ(_:Unit)=>k (.exit 2) (mkS 68 68 [(1,pB 1)] [(1,⟨y28,a,t,[.S,.S]⟩)])),(λ(_:Unit)=>k .ret (mkS 68 68 [(2,vB false)] []))):(Unit->Res)×(Unit->Res))) (λv rec k=>by kernel_rfl) Z12 (last,t32) k) h⟩
noncomputable def j4b (t:qB×qE×qL) (k0:Bool->Res):Res:=
 j3z t.2.1 (nI (List.length t.2.1)) t Z12 0
  (λ(_:Unit)=>
   j3A t.2.2 (nI (List.length t.2.2)) t Z12 (-1) 0
    (λ(_:Unit)=>
     j0n t.1 λ(r:Bool)=>
      bif r then
       j0d (nI (List.length t.2.1)) 1 8 λ(r1:Bool)=>
        bif r1 then
         k0 (decide ((nI (List.length t.2.2))>0))
        else
         k0 false
      else
       k0 false)
    (λ(_:Unit)=>
     k0 false))
  (λ(_:Unit)=>
   k0 false)
noncomputable def ja6:Sig Unit:=⟨[.look y28 true],[false],λvals ext k=>av vals y28 λt vals=>nl vals<|nl ext<|j4b t (λ(r0:Bool)=>k [wB r0] [] [])⟩
theorem jdf:Z1p Tryz.prog 253 ja6:=j04 (np:=0) follows j00 j7I [j4E,j6R] (oI 26 0 (jc2) (oI 122 1 (jc3) oN)) false Tryz.func253 λ_ _ k _ h=>aV h λ_ _ _ _ _ h=>nL h λ_ h=>nL h λ_ h=>by subst_vars;exact .trans (by delta j4b j4E j6R j2h j0N;refine gz j3z λ_ e=> ?_;rewrite [<-e];refine gz j3A λ_ e=> ?_;rewrite [<-e];refine gz j0n λ_ e=> ?_;rewrite [<-e];refine gz j0d λ_ e=> ?_;rewrite [<-e];kernel_rfl) h
noncomputable def j0k (a:qG) (b:qG) (k0:Bool->Res):Res:=
 bif (a.1==b.1) then
  bif sEq a.2.1 b.2.1 then
   j17 a.2.2.1 b.2.2.1 λ(r:Bool)=>
    bif r then
     j1K a.2.2.2.1 b.2.2.2.1 λ(r1:Bool)=>
      bif r1 then
       bif sEq a.2.2.2.2.1 b.2.2.2.2.1 then
        k0 (sEq a.2.2.2.2.2 b.2.2.2.2.2)
       else
        k0 false
      else
       k0 false
    else
     k0 false
  else
   k0 false
 else
  k0 false
noncomputable def j59:Sig Unit:=⟨[.look y14 true,.look y14 true],[false],λvals ext k=>av vals y14 λa vals=>av vals y14 λb vals=>nl vals<|nl ext<|j0k a b (λ(r0:Bool)=>k [wB r0] [] [])⟩
theorem j9u:Z1p Tryz.prog 197 j59:=j04 (np:=0) follows j00 (Z8K j9Z (Z8K jaS Z94)) [] oN false Tryz.func197 λ_ _ k _ h=>aV h λ_ _ _ _ _ h=>aV h λ_ _ _ _ _ h=>nL h λ_ h=>nL h λ_ h=>by subst_vars;exact .trans (by delta j0k j8k j6X;refine gz j17 λ_ e=> ?_;rewrite [<-e];refine gz j1K λ_ e=> ?_;rewrite [<-e];kernel_rfl) h
noncomputable def j5E (d:qG) (k0:Bool->Res):Res:=
 j0n d.2.1 λ(r:Bool)=>
  bif !r then
   k0 false
  else
   bif (d.1==1) then
    j4J d λ(r1:qB×qE×qL)=>
     j4b r1 λ(r2:Bool)=>
      bif r2 then
       bif sEq d.2.2.2.2.1 eS then
        k0 (sEq d.2.2.2.2.2 eS)
       else
        k0 false
      else
       k0 false
   else
    bif (d.1==2) then
     j0k d (d.1,d.2.1,[],[],eS,eS) λ(r3:Bool)=>
      k0 r3
    else
     bif (d.1==3) then
      j0k d (d.1,d.2.1,d.2.2.1,[],eS,eS) λ(r4:Bool)=>
       bif r4 then
        bif ((nI (List.length d.2.2.1))==1) then
         bif inb 0 (List.length d.2.2.1) then
          j3w (nth (eS,0,false,false,0,0,eS) d.2.2.1 0) λ(r5:Bool)=>
           bif r5 then
            bif inb 0 (List.length d.2.2.1) then
             bif (nth (eS,0,false,false,0,0,eS) d.2.2.1 0).2.2.2.1 then
              k0 true
             else
              bif inb 0 (List.length d.2.2.1) then
               k0 (!(nth (eS,0,false,false,0,0,eS) d.2.2.1 0).2.2.1)
              else none
            else none
           else
            k0 false
         else none
        else
         k0 false
       else
        k0 false
     else
      bif (d.1==4) then
       j0k d (d.1,d.2.1,[],[],d.2.2.2.2.1,eS) λ(r6:Bool)=>
        bif r6 then
         j0n d.2.2.2.2.1 λ(r7:Bool)=>
          k0 r7
        else
         k0 false
      else
       bif (d.1==5) then
        j0k d (d.1,d.2.1,[],[],d.2.2.2.2.1,d.2.2.2.2.2) λ(r8:Bool)=>
         bif r8 then
          j0n d.2.2.2.2.1 λ(r9:Bool)=>
           bif r9 then
            j0n d.2.2.2.2.2 λ(r10:Bool)=>
             k0 r10
           else
            k0 false
         else
          k0 false
       else
        k0 false
noncomputable def j9f:Sig Unit:=⟨[.look y14 true],[false],λvals ext k=>av vals y14 λd vals=>nl vals<|nl ext<|j5E d (λ(r0:Bool)=>k [wB r0] [] [])⟩
theorem jeu:Z1p Tryz.prog 196 j9f:=j04 (np:=0) follows j00 (Z8K j4H (Z8K j9u (Z8K jdf (Z8K jcp (Z8K jaM Z94))))) [] oN false Tryz.func196 λ_ _ k _ h=>aV h λ_ _ _ _ _ h=>nL h λ_ h=>nL h λ_ h=>by subst_vars;exact .trans (by delta j5E j2h j9z ja6 j59 j7c;refine gz j0n λ_ e=> ?_;rewrite [<-e];refine gz j4J λ_ e=> ?_;rewrite [<-e];refine gz j4b λ_ e=> ?_;rewrite [<-e];refine gz j0k λ_ e=> ?_;rewrite [<-e];refine gz j3w λ_ e=> ?_;rewrite [<-e];kernel_rfl) h
end Go.PI.G
namespace Go.PI.G
open Go Go.PI Go.Proofs
open Go.Code (pl pr)
noncomputable def j2B (t5:List qV) (t6:Int) (t7:Int) (rec:Int->Res) (k0:Unit->Res) (k1:Unit->Res):Res:=
 bif decide (t7<t6) then
  bif inb t7 (List.length t5) then
   j3O (nth (0,0,eS) t5 t7) λ(r:Bool)=>
    bif !r then
     k1 ()
    else
     rec (Z8o (t7+1))
  else none
 else
  k0 ()
noncomputable def j64 (t5:List qV) (t6:Int):Int->(Int->Res)->((Unit->Res)×(Unit->Res))->Res:=λv rec q=>j2B t5 t6 v (λt7=>rec (t7)) q.1 q.2
noncomputable def j7r (t5:List qV) (t6:Int) (n:Nat) (t7:Int) (k0:Unit->Res) (k1:Unit->Res):Res:=Z14 (j64 t5 t6) n (t7) (k0,k1)
noncomputable def j9m:Z1q Unit:=λσ k=>rdN σ 23<|rd1 σ 0 y3 .S λl=>rd1 σ 5 y3 .S λt5=>rdI σ 6 λt6=>rdI σ 7 λt7=>j7r t5 t6 Z12 t7 (λ(_:Unit)=>k (.exit 0) (mkS 23 23 [(0,v1 y3 l .S)] [])) (λ(_:Unit)=>k .ret (mkS 23 23 [(2,vB false)] []))
theorem jcc {W0:Base} {M:Nat->Prop} (hnp:W0.np<=0):Z22 Tryz.prog W0 M (cAt 26 (bo Tryz.f105)) j9m:=j0b follows j00 (Z8K j70 Z94) hnp [] oN [0,5,6,7] [] ([],[]) [(0,[0],[])] ([2],[]) λσ k _ h=>rN h λhn h=>rV h λl h0 h=>rV h λt5 h5 h=>rV h λt6 h6 h=>rV h λt7 h7 h=>⟨_,Z9m (m:=23) hn (sC h0 (sC h5 (sC h6 (sC h7 sN)))) bN,.trans (Z88 (λv:Int=>(mkS 23 23 [(0,v1 y3 l .S),(5,v1 y3 t5 .S),(6,vI t6),(7,vI v)] [])) (j64 t5 t6) (λ(k:Z6O Unit)=>(((λ(_:Unit)=>k (.exit 0) (mkS 23 23 [(0,v1 y3 l .S)] [])),(λ(_:Unit)=>k .ret (mkS 23 23 [(2,vB false)] []))):(Unit->Res)×(Unit->Res))) (λv rec k=>by kernel_rfl) Z12 (t7) k) h⟩
noncomputable def j25 (l:List qV) (k0:Bool->Res):Res:=
 j7r l (nI (List.length l)) Z12 0
  (λ(_:Unit)=>
   bif decide ((nI (List.length l))>=1) then
    k0 (decide ((nI (List.length l))<=8))
   else
    k0 false)
  (λ(_:Unit)=>
   k0 false)
noncomputable def j82:Sig Unit:=⟨[.look y3 false],[false],λvals ext k=>av vals y3 λl vals=>nl vals<|nl ext<|j25 l (λ(r0:Bool)=>k [wB r0] [] [])⟩
theorem jdo:Z1p Tryz.prog 105 j82:=j04 (np:=0) follows j00 (Z8K j70 Z94) [j9m] (oI 26 0 (jcc) oN) false Tryz.func105 λ_ _ k _ h=>aV h λ_ _ _ _ _ h=>nL h λ_ h=>nL h λ_ h=>by subst_vars;exact .trans (by kernel_rfl) h
noncomputable def j1D (d:qG) (k0:Bool->Res):Res:=
 bif (d.1==0) then
  bif sEq d.2.1 eS then
   bif ((nI (List.length d.2.2.1))==0) then
    bif ((nI (List.length d.2.2.2.1))==0) then
     bif sEq d.2.2.2.2.1 eS then
      k0 (sEq d.2.2.2.2.2 eS)
     else
      k0 false
    else
     k0 false
   else
    k0 false
  else
   k0 false
 else
  k0 false
noncomputable def j7o:Sig Unit:=⟨[.look y14 true],[false],λvals ext k=>av vals y14 λd vals=>nl vals<|nl ext<|j1D d (λ(r0:Bool)=>k [wB r0] [] [])⟩
theorem jcC:Z1p Tryz.prog 106 j7o:=j04 (np:=0) follows j00 Z94 [] oN false Tryz.func106 λ_ _ k _ h=>aV h λ_ _ _ _ _ h=>nL h λ_ h=>nL h λ_ h=>by subst_vars;exact .trans (by kernel_rfl) h
theorem jas:Fns Tryz.prog [(104,j2i),(105,j82),(106,j7o),(107,j9h)]:=(Z8K j2g (Z8K jdo (Z8K jcC (Z8K jey Z94))))
noncomputable def j4m (noKey:Bool) (noRow:Bool) (s:qS) (k0:Bool->Res):Res:=
 bif (s.1==1) then
  bif noKey then
   j25 s.2.2.2.1 λ(r:Bool)=>
    bif r then
     j1D s.2.2.2.2 λ(r1:Bool)=>
      k0 r1
    else
     k0 false
  else
   k0 false
 else
  bif (s.1==2) then
   j25 s.2.2.1 λ(r2:Bool)=>
    bif r2 then
     j25 s.2.2.2.1 λ(r3:Bool)=>
      bif r3 then
       j1D s.2.2.2.2 λ(r4:Bool)=>
        k0 r4
      else
       k0 false
    else
     k0 false
  else
   bif (s.1==3) then
    j25 s.2.2.1 λ(r5:Bool)=>
     bif r5 then
      bif noRow then
       j1D s.2.2.2.2 λ(r6:Bool)=>
        k0 r6
      else
       k0 false
     else
      k0 false
   else
    bif (s.1==4) then
     bif noKey then
      bif noRow then
       j1D s.2.2.2.2 λ(r7:Bool)=>
        k0 r7
      else
       k0 false
     else
      k0 false
    else
     bif (s.1==5) then
      bif noKey then
       bif noRow then
        j5R s.2.2.2.2 λ(r8:Bool)=>
         bif r8 then
          k0 (sEq s.2.2.2.2.2.1 s.2.1)
         else
          k0 false
       else
        k0 false
      else
       k0 false
     else
      k0 false
noncomputable def j7E:Z1q Unit:=λσ k=>rdN σ 93<|rdT σ 1 (pB 1)<|rdO σ 3 λnoKey=>rdO σ 4 λnoRow=>rdB σ 1 y18 [.S,.S,.S,.S] λa s=>j4m noKey noRow s (λ(t2:Bool)=>k .ret (mkS 93 93 [(2,vB t2)] []))
theorem jd0 {W0:Base} {M:Nat->Prop} (hnp:W0.np<=0):Z22 Tryz.prog W0 M (cAt 31 (bo Tryz.f30)) j7E:=j0P follows j00 jas hnp [] oN ([],[]) [] ([2],[]) λσ k _ h=>rN h λhn h=>rT h λh1 h=>rV h λnoKey h3 h=>rV h λnoRow h4 h=>rB h λa s hb1 h=>⟨_,Z9m (m:=93) hn (sC h1 (sC h3 (sC h4 sN))) (bC hb1 bN),.trans (by delta j4m j82 j7o j9h;refine gz j25 λ_ e=> ?_;rewrite [<-e];refine gz j1D λ_ e=> ?_;rewrite [<-e];refine gz j5R λ_ e=> ?_;rewrite [<-e];kernel_rfl) h⟩
noncomputable def j2M (s:qS) (k0:Bool->Res):Res:=
 j0o s.2.1 λ(r:Bool)=>
  bif !r then
   k0 false
  else
   j4m ((nI (List.length s.2.2.1))==0) ((nI (List.length s.2.2.2.1))==0) s λ(t:Bool)=>
    k0 t
noncomputable def j6p:Sig Unit:=⟨[.look y18 true],[false],λvals ext k=>av vals y18 λs vals=>nl vals<|nl ext<|j2M s (λ(r0:Bool)=>k [wB r0] [] [])⟩
theorem jaz:Z1p Tryz.prog 30 j6p:=j04 (np:=0) follows j00 jas [j7E] (oI 31 0 (jd0) oN) false Tryz.func30 λ_ _ k _ h=>aV h λ_ _ _ _ _ h=>nL h λ_ h=>nL h λ_ h=>by subst_vars;exact .trans (by delta j2M j2i j7E;refine gz j0o λ_ e=> ?_;rewrite [<-e];refine gz j4m λ_ e=> ?_;rewrite [<-e];kernel_rfl) h
noncomputable def j8s (v_:Int×Int×qB) (k0:Bool->Res):Res:=
 j4v v_ λ(r:Bool)=>
  k0 (!r)
noncomputable def jd8:Sig Unit:=⟨[.look y2 true],[false],λvals ext k=>av vals y2 λv_ vals=>nl vals<|nl ext<|j8s v_ (λ(r0:Bool)=>k [wB r0] [] [])⟩
theorem j9t:Z1p Tryz.prog 258 jd8:=j04 (np:=0) follows j00 (Z8K jaN Z94) [] oN false Tryz.func258 λ_ _ k _ h=>aV h λ_ _ _ _ _ h=>nL h λ_ h=>nL h λ_ h=>by subst_vars;exact .trans (by kernel_rfl) h
noncomputable def j0I (s:List qV) (t7:Int) (t8:Int) (rec:Int->Res) (k0:Unit->Res) (k1:Int->Res):Res:=
 bif decide (t8<t7) then
  bif inb t8 (List.length s) then
   j8s (nth (0,0,eS) s t8) λ(r:Bool)=>
    bif r then
     k1 t8
    else
     rec (Z8o (t8+1))
  else none
 else
  k0 ()
noncomputable def j2I (s:List qV) (t7:Int):Int->(Int->Res)->((Unit->Res)×(Int->Res))->Res:=λv rec q=>j0I s t7 v (λt8=>rec (t8)) q.1 q.2
noncomputable def j3l (s:List qV) (t7:Int) (n:Nat) (t8:Int) (k0:Unit->Res) (k1:Int->Res):Res:=Z14 (j2I s t7) n (t8) (k0,k1)
noncomputable def j5z:Z1q Unit:=λσ k=>rdN σ 19<|rd1 σ 0 y3 .S λs=>rdC σ 1 258 [] .unit [] λf=>rdI σ 7 λt7=>rdI σ 8 λt8=>j3l s t7 Z12 t8 (λ(_:Unit)=>k (.exit 0) (mkS 19 19 [] [])) (λ(t4:Int)=>k .ret (mkS 19 19 [(4,vI t4)] []))
theorem j9c {W0:Base} {M:Nat->Prop} (hnp:W0.np<=0):Z22 Tryz.prog W0 M (cAt 26 (bo Tryz.f313)) j5z:=j0b follows j00 (Z8K j9t Z94) hnp [] oN [0,1,7,8] [] ([],[]) [(0,[],[])] ([4],[]) λσ k _ h=>rN h λhn h=>rV h λs h0 h=>rC h λf h1 h=>rV h λt7 h7 h=>rV h λt8 h8 h=>⟨_,Z9m (m:=19) hn (sC h0 (sC h1 (sC h7 (sC h8 sN)))) bN,.trans (Z88 (λv:Int=>(mkS 19 19 [(0,v1 y3 s .S),(1,.sclos 258 [] ⟨.unit,false,f,[]⟩),(7,vI t7),(8,vI v)] [])) (j2I s t7) (λ(k:Z6O Unit)=>(((λ(_:Unit)=>k (.exit 0) (mkS 19 19 [] [])),(λ(t4:Int)=>k .ret (mkS 19 19 [(4,vI t4)] []))):(Unit->Res)×(Int->Res))) (λv rec k=>by kernel_rfl) Z12 (t8) k) h⟩
noncomputable def j4A (s:List qV) (f:Unit) (k0:Int->Res):Res:=
 j3l s (nI (List.length s)) Z12 0
  (λ(_:Unit)=>
   k0 (-1))
  (λ(t:Int)=>
   k0 t)
noncomputable def j9Q:Sig Unit:=⟨[.look y3 false,.rclos 258 []],[false],λvals ext k=>av vals y3 λs vals=>av vals .unit λf vals=>nl vals<|nl ext<|j4A s f (λ(r0:Int)=>k [wI r0] [] [])⟩
theorem j9K:Z1p Tryz.prog 313 j9Q:=j04 (np:=0) follows j00 (Z8K j9t Z94) [j5z] (oI 26 0 (j9c) oN) false Tryz.func313 λ_ _ k _ h=>aV h λ_ _ _ _ _ h=>aV h λ_ _ _ _ _ h=>nL h λ_ h=>nL h λ_ h=>by subst_vars;exact .trans (by kernel_rfl) h
noncomputable def j1G (s:List qV) (f:Unit) (k0:Bool->Res):Res:=
 j4A s f λ(r:Int)=>
  k0 (decide (r>=0))
noncomputable def j5b:Sig Unit:=⟨[.look y3 false,.rclos 258 []],[false],λvals ext k=>av vals y3 λs vals=>av vals .unit λf vals=>nl vals<|nl ext<|j1G s f (λ(r0:Bool)=>k [wB r0] [] [])⟩
theorem j8O:Z1p Tryz.prog 257 j5b:=j04 (np:=0) follows j00 (Z8K j9K Z94) [] oN false Tryz.func257 λ_ _ k _ h=>aV h λ_ _ _ _ _ h=>aV h λ_ _ _ _ _ h=>nL h λ_ h=>nL h λ_ h=>by subst_vars;exact .trans (by kernel_rfl) h
noncomputable def j1m (l:List qV) (k0:Bool->Res):Res:=
 j0d (nI (List.length l)) 1 8 λ(r:Bool)=>
  bif r then
   j1G l () λ(r1:Bool)=>
    k0 (!r1)
  else
   k0 false
noncomputable def j7Y:Sig Unit:=⟨[.look y3 false],[false],λvals ext k=>av vals y3 λl vals=>nl vals<|nl ext<|j1m l (λ(r0:Bool)=>k [wB r0] [] [])⟩
theorem jdg:Z1p Tryz.prog 198 j7Y:=j04 (np:=0) follows j00 (Z8K j10 (Z8K j8O Z94)) [] oN false Tryz.func198 λ_ _ k _ h=>aV h λ_ _ _ _ _ h=>nL h λ_ h=>nL h λ_ h=>by subst_vars;exact .trans (by delta j1m j0N j5b;refine gz j0d λ_ e=> ?_;rewrite [<-e];refine gz j1G λ_ e=> ?_;rewrite [<-e];kernel_rfl) h
theorem jaq:Fns Tryz.prog [(185,j2h),(196,j9f),(197,j59),(198,j7Y)]:=(Z8K j4H (Z8K jeu (Z8K j9u (Z8K jdg Z94))))
noncomputable def j4a (s:qS) (k0:Bool->Res):Res:=
 bif (s.1==1) then
  bif ((nI (List.length s.2.2.1))==0) then
   j1m s.2.2.2.1 λ(r:Bool)=>
    k0 r
  else
   k0 false
 else
  bif (s.1==2) then
   j1m s.2.2.1 λ(r1:Bool)=>
    bif r1 then
     j1m s.2.2.2.1 λ(r2:Bool)=>
      k0 r2
    else
     k0 false
  else
   bif (s.1==3) then
    j1m s.2.2.1 λ(r3:Bool)=>
     bif r3 then
      k0 ((nI (List.length s.2.2.2.1))==0)
     else
      k0 false
   else
    bif (s.1==4) then
     bif ((nI (List.length s.2.2.1))==0) then
      k0 ((nI (List.length s.2.2.2.1))==0)
     else
      k0 false
    else
     k0 false
noncomputable def j7w:Z1q Unit:=λσ k=>rdN σ 91<|rdT σ 1 (pB 1)<|rdB σ 1 y18 [.S,.S,.S,.S] λa s=>j4a s (λ(t2:Bool)=>k .ret (mkS 91 91 [(2,vB t2)] []))
theorem jcQ {W0:Base} {M:Nat->Prop} (hnp:W0.np<=0):Z22 Tryz.prog W0 M (cAt 15 (bo Tryz.f94)) j7w:=j0P follows j00 jaq hnp [] oN ([],[]) [] ([2],[]) λσ k _ h=>rN h λhn h=>rT h λh1 h=>rB h λa s hb1 h=>⟨_,Z9m (m:=91) hn (sC h1 sN) (bC hb1 bN),.trans (by delta j4a j7Y;refine gz j1m λ_ e=> ?_;rewrite [<-e];kernel_rfl) h⟩
noncomputable def j2L (s:qS) (k0:Bool->Res):Res:=
 bif (s.1==5) then
  j5E s.2.2.2.2 λ(r:Bool)=>
   bif r then
    bif sEq s.2.1 s.2.2.2.2.2.1 then
     bif ((nI (List.length s.2.2.1))==0) then
      k0 ((nI (List.length s.2.2.2.1))==0)
     else
      k0 false
    else
     k0 false
   else
    k0 false
 else
  j0n s.2.1 λ(r1:Bool)=>
   bif !r1 then
    k0 false
   else
    j0k s.2.2.2.2 (0,eS,[],[],eS,eS) λ(r2:Bool)=>
     bif !r2 then
      k0 false
     else
      j4a s λ(t:Bool)=>
       k0 t
noncomputable def j4Q:Sig Unit:=⟨[.look y18 true],[false],λvals ext k=>av vals y18 λs vals=>nl vals<|nl ext<|j2L s (λ(r0:Bool)=>k [wB r0] [] [])⟩
theorem jav:Z1p Tryz.prog 94 j4Q:=j04 (np:=0) follows j00 jaq [j7w] (oI 15 0 (jcQ) oN) false Tryz.func94 λ_ _ k _ h=>aV h λ_ _ _ _ _ h=>nL h λ_ h=>nL h λ_ h=>by subst_vars;exact .trans (by delta j2L j9f j2h j59 j7w;refine gz j5E λ_ e=> ?_;rewrite [<-e];refine gz j0n λ_ e=> ?_;rewrite [<-e];refine gz j0k λ_ e=> ?_;rewrite [<-e];refine gz j4a λ_ e=> ?_;rewrite [<-e];kernel_rfl) h
end Go.PI.G
