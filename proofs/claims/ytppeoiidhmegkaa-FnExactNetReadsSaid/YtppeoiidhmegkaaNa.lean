/-
  Program's code interpreted over typed values; printed texts; plain laws. No conditions.
-/
import Derived.Test.YtppeoiidhmegkaaPc
import Derived.Test.YtppeoiidhmegkaaProg
set_option linter.unusedVariables false
namespace Go.PI
abbrev Fns {R:Type} (P:Program) (l:List (FuncId×Sig R)):Prop:=∀ (g:Nat) (sig:Sig R),Z0s l g=some sig->Z1p P g sig
abbrev tI:Ty:= .int .i64
abbrev vI (x:Int):TV:= .val ⟨.int .i64,false,x,[]⟩
abbrev vB (x:Bool):TV:= .val ⟨.bool,false,x,[]⟩
abbrev vS (x:ByteArray):TV:= .val ⟨.str,false,x,[]⟩
abbrev v1 (τ:Ty) (x:El τ) (t:Tag):TV:= .val ⟨τ,false,x,[t]⟩
abbrev wI (x:Int):TVal:=⟨.int .i64,false,x,[]⟩
abbrev wB (x:Bool):TVal:=⟨.bool,false,x,[]⟩
abbrev wS (x:ByteArray):TVal:=⟨.str,false,x,[]⟩
abbrev w1 (τ:Ty) (x:El τ) (t:Tag):TVal:=⟨τ,false,x,[t]⟩
abbrev pB (i:Nat):TV:= .ptr ⟨true,i,[]⟩
section
variable {R:Type} {r:R}
noncomputable abbrev rdI (σ:State) (i:Nat) (f:Int->Option R):Option R:=rdV σ i (.int .i64) false [] f
noncomputable abbrev rdO (σ:State) (i:Nat) (f:Bool->Option R):Option R:=rdV σ i .bool false [] f
noncomputable abbrev rdS (σ:State) (i:Nat) (f:ByteArray->Option R):Option R:=rdV σ i .str false [] f
noncomputable abbrev rd1 (σ:State) (i:Nat) (τ:Ty) (t:Tag) (f:El τ->Option R):Option R:=rdV σ i τ false [t] f
theorem aV {l:List TVal} {τ:Ty} {f:El τ->List TVal->Option R} {C:Prop} (h:av l τ f=some r) (c:∀ x a t l',l=⟨τ,a,x,t⟩::l'->f x l'=some r->C):C:=
 have ⟨x,a,t,l',e,h2⟩:=Z91 h;c x a t l' e h2
theorem aB {l:List TVal} {τ:Ty} {tg:List Tag} {f:Bool->El τ->List TVal->Option R} {C:Prop} (h:ab l τ tg f=some r) (c:∀ a x l',l=⟨τ,a,x,tg⟩::l'->f a x l'=some r->C):C:=
 have ⟨a,x,l',e,h2⟩:=Z8Z h;c a x l' e h2
theorem aO {l:List TVal} {τ:Ty} {tg:List Tag} {f:El τ->List TVal->Option R} {C:Prop} (h:ao l τ tg f=some r) (c:∀ a x l',l=⟨τ,a,x,tg⟩::l'->f x l'=some r->C):C:=
 have ⟨a,x,l',e,h2⟩:=Z90 h;c a x l' e h2
theorem nL {l:List TVal} {f:Option R} {C:Prop} (h:nl l f=some r) (c:l=[]->f=some r->C):C:=
 have ⟨e,h2⟩:=Z98 h;c e h2
variable {σ:State} {C:Prop}
theorem rN {n:Nat} {f:Option R} (h:rdN σ n f=some r) (c:σ.slots.length=n->f=some r->C):C:=
 have h:=Z8O h;c h.1 h.2
theorem rV {i:Nat} {τ:Ty} {ag:Bool} {tg:List Tag} {f:El τ->Option R} (h:rdV σ i τ ag tg f=some r) (c:∀ x,σ.slot i= .val ⟨τ,ag,x,tg⟩->f x=some r->C):C:=
 have ⟨x,h1,h2⟩:=Z8R h;c x h1 h2
theorem rC {i:Nat} {f:FuncId} {τs:List Ty} {τ:Ty} {tg:List Tag} {k:El τ->Option R} (h:rdC σ i f τs τ tg k=some r) (c:∀ x,σ.slot i= .sclos f τs ⟨τ,false,x,tg⟩->k x=some r->C):C:=
 have ⟨x,h1,h2⟩:=Z8M h;c x h1 h2
theorem rB {i:Nat} {τ:Ty} {tg:List Tag} {f:Bool->El τ->Option R} (h:rdB σ i τ tg f=some r) (c:∀ a x,σ.boxAt i=some ⟨τ,a,x,tg⟩->f a x=some r->C):C:=
 have ⟨a,x,h1,h2⟩:=Z8L h;c a x h1 h2
theorem rT {i:Nat} {p:TV} {f:Option R} (h:rdT σ i p f=some r) (c:σ.slot i=p->f=some r->C):C:=
 have h:=Z8P h;c h.1 h.2
theorem sC {i:Nat} {v:TV} {l:List (Nat×TV)} (h:σ.slot i=v) (t:Z3E σ l):Z3E σ ((i,v)::l):=⟨h,t⟩
theorem sN:Z3E σ []:=trivial
theorem bC {i:Nat} {v:TVal} {l:List (Nat×TVal)} (h:σ.boxAt i=some v) (t:Z3C σ l):Z3C σ ((i,v)::l):=⟨h,t⟩
theorem bN:Z3C σ []:=trivial
end
theorem gz {α:Type} {C:Prop} (a:α) (h:∀ F,F=a->C):C:=h a rfl
def jfb:Nat->Nat->List Bool->List Bool
 | 0,_,l=>l
 | f+1,n,l=>bif Nat.ble n 1 then l else jfb f (n / 2) (Nat.beq (n % 2) 1::l)
def bits (n:Nat):List Bool:=jfb 300 n []
noncomputable def jdO:List Bool->Code->Code
 | [],c=>c
 | b::p,c=>jdO p (bif b then c.pr else c.pl)
noncomputable def cAt (n:Nat) (c:Code):Code:=jdO (bits n) c
def bo (f:Func):Code:=f.body.getD .skip
noncomputable def HT.ins:List Bool->Nat->HT->HT
 | [],i,_=> .x i
 | false::p,i,h=> .t (HT.ins p i h.l) h.r
 | true::p,i,h=> .t h.l (HT.ins p i h.r)
section
variable {R:Type} {r:R} {P:Program} {np:Nat} {X:List (Z1q R)}
theorem Z1F.lr' {t:HT} {c:Code} (h:Z1F P np X t c):(Z1F P np X t.l c.pl)/\(Z1F P np X t.r c.pr):=by
 cases t with
 | o=>exact ⟨trivial,trivial⟩
 | x i=>exact ⟨trivial,trivial⟩
 | t a b=>exact h
theorem jdb {i:Nat}:(p:List Bool)->(t:HT)->(c:Code)->Z1F P np X t c->(∀ (W0:Base) (M:Nat->Prop),W0.np<=np->Z22 P W0 M (jdO p c) (Z0t (λ_ _=>none) X i))->Z1F P np X (HT.ins p i t) c
 | [],_,_,_,hx=>hx
 | false::p,t,c,h,hx=>⟨jdb p t.l c.pl h.lr'.1 hx,h.lr'.2⟩
 | true::p,t,c,h,hx=>⟨h.lr'.1,jdb p t.r c.pr h.lr'.2 hx⟩
theorem oI (p i:Nat) {t:HT} {c c':Code} {y:Z1q R} (hx:∀ {W0:Base} {M:Nat->Prop},W0.np<=np->Z22 P W0 M c' y) (h:Z1F P np X t c)
  (e:jdO (bits p) c=c':=by kernel_rfl) (e2:Z0t (λ_ _=>none) X i=y:=by kernel_rfl):Z1F P np X (HT.ins (bits p) i t) c:=
 jdb (bits p) t c h λW0 M hn=>by rw [e,e2];exact hx hn
theorem oN {c:Code}:Z1F P np X .o c:=trivial
variable {ty:List (TypeId×Ty×List TypeId)} {l:List (FuncId×Sig R)} [Subsingleton R]
theorem j2s (hm:P.follows .mixedOrders=true) (hT:Z0d P ty) (hS:∀ g sig,Z0s l g=some sig->Z1p P g sig) {W0:Base} {M:Nat->Prop} (hnp:W0.np<=np) (X:List (Z1q R)) {c:Code} {ht:HT} (hO:Z1F P np X ht c)
  (n:List Nat×List Nat) (x:List (Nat×List Nat×List Nat)) (rr:List Nat×List Nat) {y:Z1q R}
  (h:∀ σ k r',y σ k=some r'->∃ σ',Z2R σ' σ/\Z0V ⟨ty,l,np⟩ X ht c σ' (λe σ''=>k e (Z8i n x rr e σ''))=some r'):Z22 P W0 M c y:=
 Z99 (Z6Y (Γ:=⟨ty,l,np⟩) hm hT (Z7S hS) hnp X c ht hO) (Z92 _ _ _) h
theorem j0b (hm:P.follows .mixedOrders=true) (hT:Z0d P ty) (hS:∀ g sig,Z0s l g=some sig->Z1p P g sig) {W0:Base} {M:Nat->Prop} (hnp:W0.np<=np) (X:List (Z1q R)) {c:Code} {ht:HT} (hO:Z1F P np X ht c.pl)
  (ks bs:List Nat) (n:List Nat×List Nat) (x:List (Nat×List Nat×List Nat)) (rr:List Nat×List Nat) {y:Z1q R}
  (h:∀ σ k r',y σ k=some r'->∃ σ',Z2R σ' σ/\Z44 (Z0V ⟨ty,l,np⟩ X ht c.pl) (λσ=>σ.forget ks bs) (Z8i n x rr) Z12 σ' k=some r')
  (hc:c= .loop c.pl:=by kernel_rfl):Z22 P W0 M c y:=by
 rw [hc]
 exact Z95 (Z6Y (Γ:=⟨ty,l,np⟩) hm hT (Z7S hS) hnp X c.pl ht hO) (Z92 _ _ _) Z12 h
theorem j04 (hm:P.follows .mixedOrders=true) (hT:Z0d P ty) (hS:∀ g sig,Z0s l g=some sig->Z1p P g sig) {f:FuncId} {fn:Func} (X:List (Z1q R)) {ht:HT} (hO:Z1F P np X ht (bo fn)) (fz:Bool) (hf:P.funcs[f]? = some fn)
  {modes:List Mode} {ags:List Bool} {run:List TVal->List TVal->(List TVal->List TVal->List TVal->Option R)->Option R}
  (h:∀ vals ext k r',run vals ext k=some r'->Z75 ⟨ty,l,np⟩ X ht fz fn modes ags vals ext k=some r')
  (hname : (fn.name == "runtime.NumGoroutine") = false := by kernel_rfl) (hb : fn.body = some (bo fn) := by kernel_rfl) (hn : Nat.ble modes.length fn.ntmps = true := by kernel_rfl) : Z1p P f (⟨modes, ags, run⟩ : Sig R) :=
 Z8V (Γ:=⟨ty,l,np⟩) hm hT hS hO hf hname hb (Nat.le_of_ble_eq_true hn) h
end
end Go.PI
set_option maxRecDepth 100000
namespace Go.PI.G
open Go Go.PI Go.Proofs
open Go.Code (pl pr)
abbrev qV:=Int×Int×ByteArray
abbrev qW:=List qV
abbrev qC:=ByteArray×Int×Bool×Bool×Int×Int×ByteArray
abbrev qE:=List qC
abbrev qT:=ByteArray×qE×List ByteArray
abbrev qB:=ByteArray
abbrev qL:=List ByteArray
abbrev qS:=Int×ByteArray×qW×qW×Int×ByteArray×qE×List ByteArray×ByteArray×ByteArray
abbrev qG:=Int×ByteArray×qE×List ByteArray×ByteArray×ByteArray
abbrev qP:=Int×Int×qS
abbrev qQ:=Int×qP×Int×Int×Int
abbrev qU:=List qS
abbrev y0:Ty:= .slice (.int .u8)
abbrev y1:Ty:= .pair tI .str
abbrev y2:Ty:= .pair tI y1
abbrev y3:Ty:= .slice y2
abbrev y4:Ty:= .pair .bool y2
abbrev y5:Ty:= .pair .bool y4
abbrev y6:Ty:= .pair tI y5
abbrev y7:Ty:= .pair .str y6
abbrev y8:Ty:= .slice y7
abbrev y9:Ty:= .slice .str
abbrev y10:Ty:= .pair .str .str
abbrev y11:Ty:= .pair y9 y10
abbrev y12:Ty:= .pair y8 y11
abbrev y13:Ty:= .pair .str y12
abbrev y14:Ty:= .pair tI y13
abbrev y15:Ty:= .pair y3 y14
abbrev y16:Ty:= .pair y3 y15
abbrev y17:Ty:= .pair .str y16
abbrev y18:Ty:= .pair tI y17
abbrev y19:Ty:= .slice y0
abbrev y20:Ty:= .slice tI
abbrev y21:Ty:= .pair y8 y9
abbrev y22:Ty:= .pair .str y21
abbrev y23:Ty:= .pair y0 tI
abbrev y24:Ty:= .pair tI .bool
abbrev y25:Ty:= .pair y0 y24
abbrev y26:Ty:= .pair y9 y9
abbrev y27:Ty:= .pair y18 y26
abbrev y28:Ty:= .slice y27
abbrev y29:Ty:= .pair tI y28
abbrev y30:Ty:= .pair tI y29
def tys:List (TypeId×Ty×List TypeId):=[(3,tI,[]),
 (4,.bool,[]),
 (5,(.int .u8),[]),
 (9,.str,[]),
 (22,y0,[]),
 (23,y3,[]),
 (25,y3,[23]),
 (26,y8,[]),
 (27,y9,[]),
 (29,y14,[3,9,26,27,9,9]),
 (31,y18,[3,9,23,25,29]),
 (40,y19,[]),
 (42,y19,[40]),
 (44,y20,[]),
 (46,y19,[]),
 (48,y19,[46]),
 (76,y22,[9,26,27]),
 (85,y23,[22,3]),
 (94,y25,[22,3,4]),
 (99,y2,[3,3,9]),
 (101,y7,[9,3,4,4,99]),
 (112,y0,[22]),
 (113,y28,[]),
 (115,y30,[3,3,113]),
 (162,y0,[22]),
 (164,y27,[31,27,27])]
theorem follows:Try.prog.follows .mixedOrders=true:=by kernel_rfl
theorem j01:Z0d Try.prog tys:=Z9f (by kernel_rfl)
end Go.PI.G
namespace Go.PI.G
open Go Go.PI Go.Proofs
open Go.Code (pl pr)
noncomputable def j2l (s:qB) (i:Int) (rec:Int->Res) (k0:Unit->Res) (k1:Unit->Res):Res:=
 bif decide (i<(nI (ByteArray.size s))) then
  bif inb i (ByteArray.size s) then
   bif decide ((bt s i)<97) then
    k1 ()
   else
    bif inb i (ByteArray.size s) then
     bif decide ((bt s i)>122) then
      k1 ()
     else
      rec (Z8o (i+1))
    else none
  else none
 else
  k0 ()
noncomputable def j5D (s:qB):Int->(Int->Res)->((Unit->Res)×(Unit->Res))->Res:=λv rec q=>j2l s v (λi=>rec (i)) q.1 q.2
noncomputable def j6Z (s:qB) (n:Nat) (i:Int) (k0:Unit->Res) (k1:Unit->Res):Res:=Z14 (j5D s) n (i) (k0,k1)
noncomputable def j8B:Z1q Unit:=λσ k=>rdN σ 28<|rdS σ 0 λs=>rdI σ 3 λi=>j6Z s Z12 i (λ(_:Unit)=>k (.exit 0) (mkS 28 28 [(0,vS s)] [])) (λ(_:Unit)=>k .ret (mkS 28 28 [(2,vB false)] []))
theorem jbw {W0:Base} {M:Nat->Prop} (hnp:W0.np<=0):Z22 Try.prog W0 M (cAt 26 (bo Try.f72)) j8B:=j0b follows j01 Z94 hnp [] oN [0,3] [] ([],[]) [(0,[0],[])] ([2],[]) λσ k _ h=>rN h λhn h=>rV h λs h0 h=>rV h λi h3 h=>⟨_,Z9m (m:=28) hn (sC h0 (sC h3 sN)) bN,.trans (Z88 (λv:Int=>(mkS 28 28 [(0,vS s),(3,vI v)] [])) (j5D s) (λ(k:Z6O Unit)=>(((λ(_:Unit)=>k (.exit 0) (mkS 28 28 [(0,vS s)] [])),(λ(_:Unit)=>k .ret (mkS 28 28 [(2,vB false)] []))):(Unit->Res)×(Unit->Res))) (λv rec k=>by kernel_rfl) Z12 (i) k) h⟩
noncomputable def j0l (s:qB) (k0:Bool->Res):Res:=
 j6Z s Z12 0
  (λ(_:Unit)=>
   bif decide ((nI (ByteArray.size s))>=1) then
    k0 (decide ((nI (ByteArray.size s))<=8))
   else
    k0 false)
  (λ(_:Unit)=>
   k0 false)
noncomputable def j1I:Sig Unit:=⟨[.look .str false],[false],λvals ext k=>av vals .str λs vals=>nl vals<|nl ext<|j0l s (λ(r0:Bool)=>k [wB r0] [] [])⟩
theorem j1F:Z1p Try.prog 72 j1I:=j04 (np:=0) follows j01 Z94 [j8B] (oI 26 0 (jbw) oN) false Try.func72 λ_ _ k _ h=>aV h λ_ _ _ _ _ h=>nL h λ_ h=>nL h λ_ h=>by subst_vars;exact .trans (by kernel_rfl) h
noncomputable def j8P (n_:Int) (k0:Bool->Res):Res:=
 bif decide (n_>=(-1099511627775)) then
  k0 (decide (n_<=1099511627775))
 else
  k0 false
noncomputable def jcR:Sig Unit:=⟨[.look tI false],[false],λvals ext k=>av vals tI λn_ vals=>nl vals<|nl ext<|j8P n_ (λ(r0:Bool)=>k [wB r0] [] [])⟩
theorem jcF:Z1p Try.prog 213 jcR:=j04 (np:=0) follows j01 Z94 [] oN false Try.func213 λ_ _ k _ h=>aV h λ_ _ _ _ _ h=>nL h λ_ h=>nL h λ_ h=>by subst_vars;exact .trans (by kernel_rfl) h
noncomputable def j2X (v_:Int×Int×qB) (k0:Bool->Res):Res:=
 bif (v_.1==0) then
  bif (v_.2.1==0) then
   k0 (sEq v_.2.2 eS)
  else
   k0 false
 else
  bif (v_.1==1) then
   bif (v_.2.1==0) then
    k0 (sEq v_.2.2 eS)
   else
    bif (v_.2.1==1) then
     k0 (sEq v_.2.2 eS)
    else
     k0 false
  else
   bif (v_.1==2) then
    j8P v_.2.1 λ(r:Bool)=>
     bif r then
      k0 (sEq v_.2.2 eS)
     else
      k0 false
   else
    bif (v_.1==3) then
     bif (v_.2.1==0) then
      k0 (decide ((nI (ByteArray.size v_.2.2))<=30))
     else
      k0 false
    else
     k0 false
noncomputable def j6i:Sig Unit:=⟨[.look y2 true],[false],λvals ext k=>av vals y2 λv_ vals=>nl vals<|nl ext<|j2X v_ (λ(r0:Bool)=>k [wB r0] [] [])⟩
theorem j5V:Z1p Try.prog 190 j6i:=j04 (np:=0) follows j01 (Z8K jcF Z94) [] oN false Try.func190 λ_ _ k _ h=>aV h λ_ _ _ _ _ h=>nL h λ_ h=>nL h λ_ h=>by subst_vars;exact .trans (by kernel_rfl) h
noncomputable def j0a (x:Int) (lo:Int) (hi:Int) (k0:Bool->Res):Res:=
 bif decide (x>=lo) then
  k0 (decide (x<=hi))
 else
  k0 false
noncomputable def j0E:Sig Unit:=⟨[.look tI false,.look tI false,.look tI false],[false],λvals ext k=>av vals tI λx vals=>av vals tI λlo vals=>av vals tI λhi vals=>nl vals<|nl ext<|j0a x lo hi (λ(r0:Bool)=>k [wB r0] [] [])⟩
theorem j0M:Z1p Try.prog 127 j0E:=j04 (np:=0) follows j01 Z94 [] oN false Try.func127 λ_ _ k _ h=>aV h λ_ _ _ _ _ h=>aV h λ_ _ _ _ _ h=>aV h λ_ _ _ _ _ h=>nL h λ_ h=>nL h λ_ h=>by subst_vars;exact .trans (by kernel_rfl) h
noncomputable def j2d (s:qB) (i:Int) (rec:Int->Res) (k0:Unit->Res) (k1:Unit->Res):Res:=
 bif decide (i<(nI (ByteArray.size s))) then
  bif inb i (ByteArray.size s) then
   bif decide ((bt s i)<97) then
    k1 ()
   else
    bif inb i (ByteArray.size s) then
     bif decide ((bt s i)>122) then
      k1 ()
     else
      rec (Z8o (i+1))
    else none
  else none
 else
  k0 ()
noncomputable def j5s (s:qB):Int->(Int->Res)->((Unit->Res)×(Unit->Res))->Res:=λv rec q=>j2d s v (λi=>rec (i)) q.1 q.2
noncomputable def j4J (s:qB) (n:Nat) (i:Int) (k0:Unit->Res) (k1:Unit->Res):Res:=Z14 (j5s s) n (i) (k0,k1)
noncomputable def j6s:Z1q Unit:=λσ k=>rdN σ 23<|rdS σ 0 λs=>rdI σ 3 λi=>j4J s Z12 i (λ(_:Unit)=>k (.exit 0) (mkS 23 23 [(0,vS s)] [])) (λ(_:Unit)=>k .ret (mkS 23 23 [(2,vB false)] []))
theorem jbn {W0:Base} {M:Nat->Prop} (hnp:W0.np<=0):Z22 Try.prog W0 M (cAt 26 (bo Try.f75)) j6s:=j0b follows j01 (Z8K j0M Z94) hnp [] oN [0,3] [] ([],[]) [(0,[0],[])] ([2],[]) λσ k _ h=>rN h λhn h=>rV h λs h0 h=>rV h λi h3 h=>⟨_,Z9m (m:=23) hn (sC h0 (sC h3 sN)) bN,.trans (Z88 (λv:Int=>(mkS 23 23 [(0,vS s),(3,vI v)] [])) (j5s s) (λ(k:Z6O Unit)=>(((λ(_:Unit)=>k (.exit 0) (mkS 23 23 [(0,vS s)] [])),(λ(_:Unit)=>k .ret (mkS 23 23 [(2,vB false)] []))):(Unit->Res)×(Unit->Res))) (λv rec k=>by kernel_rfl) Z12 (i) k) h⟩
noncomputable def j0k (s:qB) (k0:Bool->Res):Res:=
 j4J s Z12 0
  (λ(_:Unit)=>
   j0a (nI (ByteArray.size s)) 1 8 λ(r:Bool)=>
    k0 r)
  (λ(_:Unit)=>
   k0 false)
noncomputable def j1H:Sig Unit:=⟨[.look .str false],[false],λvals ext k=>av vals .str λs vals=>nl vals<|nl ext<|j0k s (λ(r0:Bool)=>k [wB r0] [] [])⟩
theorem j3O:Z1p Try.prog 75 j1H:=j04 (np:=0) follows j01 (Z8K j0M Z94) [j6s] (oI 26 0 (jbn) oN) false Try.func75 λ_ _ k _ h=>aV h λ_ _ _ _ _ h=>nL h λ_ h=>nL h λ_ h=>by subst_vars;exact .trans (by delta j0k j6s j0E;refine gz j4J λ_ e=> ?_;rewrite [<-e];refine gz j0a λ_ e=> ?_;rewrite [<-e];kernel_rfl) h
noncomputable def j3B (v_:Int×Int×qB) (k0:Bool->Res):Res:=
 bif (v_.1==0) then
  k0 ((v_.1==0)&&((v_.2.1==0)&&(sEq v_.2.2 eS)))
 else
  bif (v_.1==1) then
   j0a v_.2.1 0 1 λ(r:Bool)=>
    bif r then
     k0 (sEq v_.2.2 eS)
    else
     k0 false
  else
   bif (v_.1==2) then
    j0a v_.2.1 (-1099511627775) 1099511627775 λ(r1:Bool)=>
     bif r1 then
      k0 (sEq v_.2.2 eS)
     else
      k0 false
   else
    bif (v_.1==3) then
     bif (v_.2.1==0) then
      k0 (decide ((nI (ByteArray.size v_.2.2))<=30))
     else
      k0 false
    else
     k0 false
noncomputable def j9Q:Sig Unit:=⟨[.look y2 true],[false],λvals ext k=>av vals y2 λv_ vals=>nl vals<|nl ext<|j3B v_ (λ(r0:Bool)=>k [wB r0] [] [])⟩
theorem j9D:Z1p Try.prog 148 j9Q:=j04 (np:=0) follows j01 (Z8K j0M Z94) [] oN false Try.func148 λ_ _ k _ h=>aV h λ_ _ _ _ _ h=>nL h λ_ h=>nL h λ_ h=>by subst_vars;exact .trans (by delta j3B j0E;refine gz j0a λ_ e=> ?_;rewrite [<-e];kernel_rfl) h
end Go.PI.G
namespace Go.PI.G
open Go Go.PI Go.Proofs
open Go.Code (pl pr)
noncomputable def j0U (s1:List qC) (s2:List qC) (t12:Int) (t13:Int) (rec:Int->Res) (k0:Unit->Res) (k1:Unit->Res):Res:=
 bif decide (t13<t12) then
  bif inb t13 (List.length s1) then
   bif inb t13 (List.length s2) then
    bif !((sEq (nth (eS,0,false,false,0,0,eS) s1 t13).1 (nth (eS,0,false,false,0,0,eS) s2 t13).1)&&(((nth (eS,0,false,false,0,0,eS) s1 t13).2.1==(nth (eS,0,false,false,0,0,eS) s2 t13).2.1)&&(((nth (eS,0,false,false,0,0,eS) s1 t13).2.2.1==(nth (eS,0,false,false,0,0,eS) s2 t13).2.2.1)&&(((nth (eS,0,false,false,0,0,eS) s1 t13).2.2.2.1==(nth (eS,0,false,false,0,0,eS) s2 t13).2.2.2.1)&&(((nth (eS,0,false,false,0,0,eS) s1 t13).2.2.2.2.1==(nth (eS,0,false,false,0,0,eS) s2 t13).2.2.2.2.1)&&(((nth (eS,0,false,false,0,0,eS) s1 t13).2.2.2.2.2.1==(nth (eS,0,false,false,0,0,eS) s2 t13).2.2.2.2.2.1)&&(sEq (nth (eS,0,false,false,0,0,eS) s1 t13).2.2.2.2.2.2 (nth (eS,0,false,false,0,0,eS) s2 t13).2.2.2.2.2.2))))))) then
     k1 ()
    else
     rec (Z8o (t13+1))
   else none
  else none
 else
  k0 ()
noncomputable def j3m (s1:List qC) (s2:List qC) (t12:Int):Int->(Int->Res)->((Unit->Res)×(Unit->Res))->Res:=λv rec q=>j0U s1 s2 t12 v (λt13=>rec (t13)) q.1 q.2
noncomputable def j2t (s1:List qC) (s2:List qC) (t12:Int) (n:Nat) (t13:Int) (k0:Unit->Res) (k1:Unit->Res):Res:=Z14 (j3m s1 s2 t12) n (t13) (k0,k1)
noncomputable def j6t:Z1q Unit:=λσ k=>rdN σ 26<|rd1 σ 0 y8 .S λs1=>rd1 σ 1 y8 .S λs2=>rdI σ 12 λt12=>rdI σ 13 λt13=>j2t s1 s2 t12 Z12 t13 (λ(_:Unit)=>k (.exit 0) (mkS 26 26 [] [])) (λ(_:Unit)=>k .ret (mkS 26 26 [(4,vB false)] []))
theorem j99 {W0:Base} {M:Nat->Prop} (hnp:W0.np<=0):Z22 Try.prog W0 M (cAt 58 (bo Try.f193)) j6t:=j0b follows j01 Z94 hnp [] oN [0,1,12,13] [] ([],[]) [(0,[],[])] ([4],[]) λσ k _ h=>rN h λhn h=>rV h λs1 h0 h=>rV h λs2 h1 h=>rV h λt12 h12 h=>rV h λt13 h13 h=>⟨_,Z9m (m:=26) hn (sC h0 (sC h1 (sC h12 (sC h13 sN)))) bN,.trans (Z88 (λv:Int=>(mkS 26 26 [(0,v1 y8 s1 .S),(1,v1 y8 s2 .S),(12,vI t12),(13,vI v)] [])) (j3m s1 s2 t12) (λ(k:Z6O Unit)=>(((λ(_:Unit)=>k (.exit 0) (mkS 26 26 [] [])),(λ(_:Unit)=>k .ret (mkS 26 26 [(4,vB false)] []))):(Unit->Res)×(Unit->Res))) (λv rec k=>by kernel_rfl) Z12 (t13) k) h⟩
noncomputable def j0R (s1:List qC) (s2:List qC) (k0:Bool->Res):Res:=
 bif ((nI (List.length s1)) != (nI (List.length s2))) then
  k0 false
 else
  j2t s1 s2 (nI (List.length s1)) Z12 0
   (λ(_:Unit)=>
    k0 true)
   (λ(_:Unit)=>
    k0 false)
noncomputable def j7g:Sig Unit:=⟨[.look y8 false,.look y8 false],[false],λvals ext k=>av vals y8 λs1 vals=>av vals y8 λs2 vals=>nl vals<|nl ext<|j0R s1 s2 (λ(r0:Bool)=>k [wB r0] [] [])⟩
theorem j9F:Z1p Try.prog 193 j7g:=j04 (np:=0) follows j01 Z94 [j6t] (oI 58 0 (j99) oN) false Try.func193 λ_ _ k _ h=>aV h λ_ _ _ _ _ h=>aV h λ_ _ _ _ _ h=>nL h λ_ h=>nL h λ_ h=>by subst_vars;exact .trans (by kernel_rfl) h
noncomputable def j8a (s1:qL) (s2:qL) (t12:Int) (t13:Int) (rec:Int->Res) (k0:Unit->Res) (k1:Unit->Res):Res:=
 bif decide (t13<t12) then
  bif inb t13 (List.length s1) then
   bif inb t13 (List.length s2) then
    bif sNe (nth eS s1 t13) (nth eS s2 t13) then
     k1 ()
    else
     rec (Z8o (t13+1))
   else none
  else none
 else
  k0 ()
noncomputable def j4s (s1:qL) (s2:qL) (t12:Int):Int->(Int->Res)->((Unit->Res)×(Unit->Res))->Res:=λv rec q=>j8a s1 s2 t12 v (λt13=>rec (t13)) q.1 q.2
noncomputable def j34 (s1:qL) (s2:qL) (t12:Int) (n:Nat) (t13:Int) (k0:Unit->Res) (k1:Unit->Res):Res:=Z14 (j4s s1 s2 t12) n (t13) (k0,k1)
noncomputable def j4V:Z1q Unit:=λσ k=>rdN σ 26<|rd1 σ 0 y9 .S λs1=>rd1 σ 1 y9 .S λs2=>rdI σ 12 λt12=>rdI σ 13 λt13=>j34 s1 s2 t12 Z12 t13 (λ(_:Unit)=>k (.exit 0) (mkS 26 26 [] [])) (λ(_:Unit)=>k .ret (mkS 26 26 [(4,vB false)] []))
theorem j8i {W0:Base} {M:Nat->Prop} (hnp:W0.np<=0):Z22 Try.prog W0 M (cAt 58 (bo Try.f194)) j4V:=j0b follows j01 Z94 hnp [] oN [0,1,12,13] [] ([],[]) [(0,[],[])] ([4],[]) λσ k _ h=>rN h λhn h=>rV h λs1 h0 h=>rV h λs2 h1 h=>rV h λt12 h12 h=>rV h λt13 h13 h=>⟨_,Z9m (m:=26) hn (sC h0 (sC h1 (sC h12 (sC h13 sN)))) bN,.trans (Z88 (λv:Int=>(mkS 26 26 [(0,v1 y9 s1 .S),(1,v1 y9 s2 .S),(12,vI t12),(13,vI v)] [])) (j4s s1 s2 t12) (λ(k:Z6O Unit)=>(((λ(_:Unit)=>k (.exit 0) (mkS 26 26 [] [])),(λ(_:Unit)=>k .ret (mkS 26 26 [(4,vB false)] []))):(Unit->Res)×(Unit->Res))) (λv rec k=>by kernel_rfl) Z12 (t13) k) h⟩
noncomputable def j1k (s1:qL) (s2:qL) (k0:Bool->Res):Res:=
 bif ((nI (List.length s1)) != (nI (List.length s2))) then
  k0 false
 else
  j34 s1 s2 (nI (List.length s1)) Z12 0
   (λ(_:Unit)=>
    k0 true)
   (λ(_:Unit)=>
    k0 false)
noncomputable def j5S:Sig Unit:=⟨[.look y9 false,.look y9 false],[false],λvals ext k=>av vals y9 λs1 vals=>av vals y9 λs2 vals=>nl vals<|nl ext<|j1k s1 s2 (λ(r0:Bool)=>k [wB r0] [] [])⟩
theorem j8W:Z1p Try.prog 194 j5S:=j04 (np:=0) follows j01 Z94 [j4V] (oI 58 0 (j8i) oN) false Try.func194 λ_ _ k _ h=>aV h λ_ _ _ _ _ h=>aV h λ_ _ _ _ _ h=>nL h λ_ h=>nL h λ_ h=>by subst_vars;exact .trans (by kernel_rfl) h
end Go.PI.G
namespace Go.PI.G
open Go Go.PI Go.Proofs
open Go.Code (pl pr)
noncomputable def j2S (c:qB×Int×Bool×Bool×Int×Int×qB) (k0:Bool->Res):Res:=
 j0l c.1 λ(r:Bool)=>
  bif !r then
   k0 false
  else
   bif decide (c.2.1<1) then
    k0 false
   else
    bif decide (c.2.1>3) then
     k0 false
    else
     bif !c.2.2.2.1 then
      k0 ((c.2.2.2.2.1==0)&&((c.2.2.2.2.2.1==0)&&(sEq c.2.2.2.2.2.2 eS)))
     else
      j2X c.2.2.2.2 λ(r1:Bool)=>
       bif r1 then
        bif ((c.2.2.2.2.1==0)&&((c.2.2.2.2.2.1==0)&&(sEq c.2.2.2.2.2.2 eS))) then
         bif ((c.2.2.2.2.1==0)&&((c.2.2.2.2.2.1==0)&&(sEq c.2.2.2.2.2.2 eS))) then
          k0 (!c.2.2.1)
         else
          k0 true
        else
         bif (c.2.2.2.2.1==c.2.1) then
          bif ((c.2.2.2.2.1==0)&&((c.2.2.2.2.2.1==0)&&(sEq c.2.2.2.2.2.2 eS))) then
           k0 (!c.2.2.1)
          else
           k0 true
         else
          k0 false
       else
        k0 false
noncomputable def j4r:Sig Unit:=⟨[.look y7 true],[false],λvals ext k=>av vals y7 λc vals=>nl vals<|nl ext<|j2S c (λ(r0:Bool)=>k [wB r0] [] [])⟩
theorem j9G:Z1p Try.prog 191 j4r:=j04 (np:=0) follows j01 (Z8K j1F (Z8K j5V Z94)) [] oN false Try.func191 λ_ _ k _ h=>aV h λ_ _ _ _ _ h=>nL h λ_ h=>nL h λ_ h=>by subst_vars;exact .trans (by delta j2S j1I j6i;refine gz j0l λ_ e=> ?_;rewrite [<-e];refine gz j2X λ_ e=> ?_;rewrite [<-e];kernel_rfl) h
noncomputable def j2R (name:qB) (t8:List qC) (t9:Int) (t10:Int) (rec:Int->Res) (k0:Unit->Res) (k1:Int->Res):Res:=
 bif decide (t10<t9) then
  bif inb t10 (List.length t8) then
   bif sEq (nth (eS,0,false,false,0,0,eS) t8 t10).1 name then
    k1 t10
   else
    rec (Z8o (t10+1))
  else none
 else
  k0 ()
noncomputable def j6l (name:qB) (t8:List qC) (t9:Int):Int->(Int->Res)->((Unit->Res)×(Int->Res))->Res:=λv rec q=>j2R name t8 t9 v (λt10=>rec (t10)) q.1 q.2
noncomputable def j7r (name:qB) (t8:List qC) (t9:Int) (n:Nat) (t10:Int) (k0:Unit->Res) (k1:Int->Res):Res:=Z14 (j6l name t8 t9) n (t10) (k0,k1)
noncomputable def j94:Z1q Unit:=λσ k=>rdN σ 21<|rdS σ 1 λname=>rd1 σ 8 y8 .S λt8=>rdI σ 9 λt9=>rdI σ 10 λt10=>j7r name t8 t9 Z12 t10 (λ(_:Unit)=>k (.exit 0) (mkS 21 21 [] [])) (λ(t4:Int)=>k .ret (mkS 21 21 [(4,vI t4)] []))
theorem jc2 {W0:Base} {M:Nat->Prop} (hnp:W0.np<=0):Z22 Try.prog W0 M (cAt 26 (bo Try.f141)) j94:=j0b follows j01 Z94 hnp [] oN [1,8,9,10] [] ([],[]) [(0,[],[])] ([4],[]) λσ k _ h=>rN h λhn h=>rV h λname h1 h=>rV h λt8 h8 h=>rV h λt9 h9 h=>rV h λt10 h10 h=>⟨_,Z9m (m:=21) hn (sC h1 (sC h8 (sC h9 (sC h10 sN)))) bN,.trans (Z88 (λv:Int=>(mkS 21 21 [(1,vS name),(8,v1 y8 t8 .S),(9,vI t9),(10,vI v)] [])) (j6l name t8 t9) (λ(k:Z6O Unit)=>(((λ(_:Unit)=>k (.exit 0) (mkS 21 21 [] [])),(λ(t4:Int)=>k .ret (mkS 21 21 [(4,vI t4)] []))):(Unit->Res)×(Int->Res))) (λv rec k=>by kernel_rfl) Z12 (t10) k) h⟩
noncomputable def j4Q (t:qB×qE×qL) (name:qB) (k0:Int->Res):Res:=
 j7r name t.2.1 (nI (List.length t.2.1)) Z12 0
  (λ(_:Unit)=>
   k0 (-1))
  (λ(t1:Int)=>
   k0 t1)
noncomputable def j87:Sig Unit:=⟨[.look y22 true,.look .str false],[false],λvals ext k=>av vals y22 λt vals=>av vals .str λname vals=>nl vals<|nl ext<|j4Q t name (λ(r0:Int)=>k [wI r0] [] [])⟩
theorem jd3:Z1p Try.prog 141 j87:=j04 (np:=0) follows j01 Z94 [j94] (oI 26 0 (jc2) oN) false Try.func141 λ_ _ k _ h=>aV h λ_ _ _ _ _ h=>aV h λ_ _ _ _ _ h=>nL h λ_ h=>nL h λ_ h=>by subst_vars;exact .trans (by kernel_rfl) h
theorem j4C:Fns Try.prog [(72,j1I),(141,j87),(191,j4r)]:=(Z8K j1F (Z8K jd3 (Z8K j9G Z94)))
noncomputable def j2W (t:qB×qE×qL) (k0:Bool->Res):Res:=
 j0l t.1 λ(r:Bool)=>
  bif !r then
   k0 true
  else
   bif decide ((nI (List.length t.2.1))<1) then
    k0 true
   else
    bif decide ((nI (List.length t.2.1))>8) then
     k0 true
    else
     k0 (decide ((nI (List.length t.2.2))<1))
noncomputable def j2q:Z1q Unit:=λσ k=>rdN σ 75<|rdT σ 1 (pB 1)<|rdB σ 1 y22 [.S,.S] λa t=>j2W t (λ(t30:Bool)=>k .normal (mkS 75 75 [(1,pB 1),(30,vB t30)] [(1,⟨y22,a,t,[.S,.S]⟩)]))
theorem jaK {W0:Base} {M:Nat->Prop} (hnp:W0.np<=0):Z22 Try.prog W0 M (cAt 12 (bo Try.f185)) j2q:=j2s follows j01 j4C hnp [] oN ([1,30],[1]) [] ([],[]) λσ k _ h=>rN h λhn h=>rT h λh1 h=>rB h λa t hb1 h=>⟨_,Z9m (m:=75) hn (sC h1 sN) (bC hb1 bN),.trans (by kernel_rfl) h⟩
noncomputable def j19 (t32:List qC) (t33:Int) (t:qB×qE×qL) (t34:Int) (rec:Int->Res) (k0:Unit->Res) (k1:Unit->Res):Res:=
 bif decide (t34<t33) then
  bif inb t34 (List.length t32) then
   j2S (nth (eS,0,false,false,0,0,eS) t32 t34) λ(r:Bool)=>
    bif !r then
     k1 ()
    else
     j4Q t (nth (eS,0,false,false,0,0,eS) t32 t34).1 λ(r1:Int)=>
      bif (r1 != t34) then
       k1 ()
      else
       rec (Z8o (t34+1))
  else none
 else
  k0 ()
noncomputable def j3a (t32:List qC) (t33:Int) (t:qB×qE×qL):Int->(Int->Res)->((Unit->Res)×(Unit->Res))->Res:=λv rec q=>j19 t32 t33 t v (λt34=>rec (t34)) q.1 q.2
noncomputable def j2U (t32:List qC) (t33:Int) (t:qB×qE×qL) (n:Nat) (t34:Int) (k0:Unit->Res) (k1:Unit->Res):Res:=Z14 (j3a t32 t33 t) n (t34) (k0,k1)
noncomputable def j3N:Z1q Unit:=λσ k=>rdN σ 75<|rdT σ 1 (pB 1)<|rd1 σ 32 y8 .S λt32=>rdI σ 33 λt33=>rdI σ 34 λt34=>rdB σ 1 y22 [.S,.S] λa t=>j2U t32 t33 t Z12 t34 (λ(_:Unit)=>k (.exit 0) (mkS 75 75 [(1,pB 1)] [(1,⟨y22,a,t,[.S,.S]⟩)])) (λ(_:Unit)=>k .ret (mkS 75 75 [(2,vB false)] []))
theorem jaI {W0:Base} {M:Nat->Prop} (hnp:W0.np<=0):Z22 Try.prog W0 M (cAt 58 (bo Try.f185)) j3N:=j0b follows j01 j4C hnp [j2q] oN [1,32,33,34] [1] ([],[]) [(0,[1],[1])] ([2],[]) λσ k _ h=>rN h λhn h=>rT h λh1 h=>rV h λt32 h32 h=>rV h λt33 h33 h=>rV h λt34 h34 h=>rB h λa t hb1 h=>⟨_,Z9m (m:=75) hn (sC h1 (sC h32 (sC h33 (sC h34 sN)))) (bC hb1 bN),.trans (Z88 (λv:Int=>(mkS 75 75 [(1,pB 1),(32,v1 y8 t32 .S),(33,vI t33),(34,vI v)] [(1,⟨y22,a,t,[.S,.S]⟩)])) (j3a t32 t33 t) (λ(k:Z6O Unit)=>(((λ(_:Unit)=>k (.exit 0) (mkS 75 75 [(1,pB 1)] [(1,⟨y22,a,t,[.S,.S]⟩)])),(λ(_:Unit)=>k .ret (mkS 75 75 [(2,vB false)] []))):(Unit->Res)×(Unit->Res))) (λv rec k=>by delta j3a j19 j4r j87;refine gz j2S λ_ e=> ?_;rewrite [<-e];refine gz j4Q λ_ e=> ?_;rewrite [<-e];kernel_rfl) Z12 (t34) k) h⟩
noncomputable def j1U (t52:qL) (t53:Int) (t:qB×qE×qL) (last:Int) (t54:Int) (rec:Int->Int->Res) (k0:Unit->Res) (k1:Unit->Res):Res:=
 bif decide (t54<t53) then
  bif inb t54 (List.length t52) then
   j4Q t (nth eS t52 t54) λ(r:Int)=>
    bif decide (r<=last) then
     k1 ()
    else
     bif inb r (List.length t.2.1) then
      bif !(nth (eS,0,false,false,0,0,eS) t.2.1 r).2.2.1 then
       k1 ()
      else
       rec r (Z8o (t54+1))
     else none
  else none
 else
  k0 ()
noncomputable def j53 (t52:qL) (t53:Int) (t:qB×qE×qL):(Int×Int)->(Int×Int->Res)->((Unit->Res)×(Unit->Res))->Res:=λv rec q=>j1U t52 t53 t v.1 v.2 (λlast t54=>rec (last,t54)) q.1 q.2
noncomputable def j2V (t52:qL) (t53:Int) (t:qB×qE×qL) (n:Nat) (last:Int) (t54:Int) (k0:Unit->Res) (k1:Unit->Res):Res:=Z14 (j53 t52 t53 t) n (last,t54) (k0,k1)
noncomputable def j5O:Z1q Unit:=λσ k=>rdN σ 75<|rdT σ 1 (pB 1)<|rdI σ 5 λlast=>rd1 σ 52 y9 .S λt52=>rdI σ 53 λt53=>rdI σ 54 λt54=>rdB σ 1 y22 [.S,.S] λa t=>j2V t52 t53 t Z12 last t54 (λ(_:Unit)=>k (.exit 2) (mkS 75 75 [] [])) (λ(_:Unit)=>k .ret (mkS 75 75 [(2,vB false)] []))
theorem jaJ {W0:Base} {M:Nat->Prop} (hnp:W0.np<=0):Z22 Try.prog W0 M (cAt 250 (bo Try.f185)) j5O:=j0b follows j01 j4C hnp [j2q,j3N] oN [1,5,52,53,54] [1] ([],[]) [(2,[],[])] ([2],[]) λσ k _ h=>rN h λhn h=>rT h λh1 h=>rV h λlast h5 h=>rV h λt52 h52 h=>rV h λt53 h53 h=>rV h λt54 h54 h=>rB h λa t hb1 h=>⟨_,Z9m (m:=75) hn (sC h1 (sC h5 (sC h52 (sC h53 (sC h54 sN))))) (bC hb1 bN),.trans (Z88 (λv:Int×Int=>(mkS 75 75 [(1,pB 1),(5,vI v.1),(52,v1 y9 t52 .S),(53,vI t53),(54,vI v.2)] [(1,⟨y22,a,t,[.S,.S]⟩)])) (j53 t52 t53 t) (λ(k:Z6O Unit)=>(((λ(_:Unit)=>k (.exit 2) (mkS 75 75 [] [])),(λ(_:Unit)=>k .ret (mkS 75 75 [(2,vB false)] []))):(Unit->Res)×(Unit->Res))) (λv rec k=>by kernel_rfl) Z12 (last,t54) k) h⟩
noncomputable def j3r (t:qB×qE×qL) (k0:Bool->Res):Res:=
 j2W t λ(t1:Bool)=>
  bif t1 then
   k0 false
  else
   j2U t.2.1 (nI (List.length t.2.1)) t Z12 0
    (λ(_:Unit)=>
     j2V t.2.2 (nI (List.length t.2.2)) t Z12 (-1) 0
      (λ(_:Unit)=>
       k0 true)
      (λ(_:Unit)=>
       k0 false))
    (λ(_:Unit)=>
     k0 false)
noncomputable def j6T:Sig Unit:=⟨[.look y22 true],[false],λvals ext k=>av vals y22 λt vals=>nl vals<|nl ext<|j3r t (λ(r0:Bool)=>k [wB r0] [] [])⟩
theorem jbT:Z1p Try.prog 185 j6T:=j04 (np:=0) follows j01 j4C [j2q,j3N,j5O] (oI 12 0 (jaK) (oI 58 1 (jaI) (oI 250 2 (jaJ) oN))) false Try.func185 λ_ _ k _ h=>aV h λ_ _ _ _ _ h=>nL h λ_ h=>nL h λ_ h=>by subst_vars;exact .trans (by delta j3r j2q j3N j5O;refine gz j2W λ_ e=> ?_;rewrite [<-e];refine gz j2U λ_ e=> ?_;rewrite [<-e];refine gz j2V λ_ e=> ?_;rewrite [<-e];kernel_rfl) h
theorem j9B:Fns Try.prog [(72,j1I),(185,j6T),(191,j4r)]:=(Z8K j1F (Z8K jbT (Z8K j9G Z94)))
noncomputable def j3W (d:qG) (k0:Bool->Res):Res:=
 bif ((nI (List.length d.2.2.1))==0) then
  k0 ((nI (List.length d.2.2.2.1))==0)
 else
  k0 false
noncomputable def j75:Z1q Unit:=λσ k=>rdN σ 123<|rdT σ 1 (pB 1)<|rdB σ 1 y14 [.S,.S] λa d=>j3W d (λ(plain:Bool)=>k .normal (mkS 123 123 [(1,pB 1),(3,vB plain)] [(1,⟨y14,a,d,[.S,.S]⟩)]))
theorem jc3 {W0:Base} {M:Nat->Prop} (hnp:W0.np<=0):Z22 Try.prog W0 M (cAt 14 (bo Try.f151)) j75:=j2s follows j01 j9B hnp [] oN ([1,3],[1]) [] ([],[]) λσ k _ h=>rN h λhn h=>rT h λh1 h=>rB h λa d hb1 h=>⟨_,Z9m (m:=123) hn (sC h1 sN) (bC hb1 bN),.trans (by kernel_rfl) h⟩
noncomputable def j4R (d:qG) (k0:Bool->Res):Res:=
 j0l d.2.1 λ(r:Bool)=>
  bif !r then
   k0 false
  else
   j3W d λ(plain:Bool)=>
    bif (d.1==1) then
     bif sEq d.2.2.2.2.1 eS then
      bif sEq d.2.2.2.2.2 eS then
       j3r (d.2.1,d.2.2.1,d.2.2.2.1) λ(r1:Bool)=>
        k0 r1
      else
       k0 false
     else
      k0 false
    else
     bif (d.1==2) then
      bif plain then
       bif sEq d.2.2.2.2.1 eS then
        k0 (sEq d.2.2.2.2.2 eS)
       else
        k0 false
      else
       k0 false
     else
      bif (d.1==3) then
       bif ((nI (List.length d.2.2.1))==1) then
        bif inb 0 (List.length d.2.2.1) then
         j2S (nth (eS,0,false,false,0,0,eS) d.2.2.1 0) λ(r2:Bool)=>
          bif r2 then
           bif inb 0 (List.length d.2.2.1) then
            bif (nth (eS,0,false,false,0,0,eS) d.2.2.1 0).2.2.2.1 then
             bif ((nI (List.length d.2.2.2.1))==0) then
              bif sEq d.2.2.2.2.1 eS then
               k0 (sEq d.2.2.2.2.2 eS)
              else
               k0 false
             else
              k0 false
            else
             bif inb 0 (List.length d.2.2.1) then
              bif !(nth (eS,0,false,false,0,0,eS) d.2.2.1 0).2.2.1 then
               bif ((nI (List.length d.2.2.2.1))==0) then
                bif sEq d.2.2.2.2.1 eS then
                 k0 (sEq d.2.2.2.2.2 eS)
                else
                 k0 false
               else
                k0 false
              else
               k0 false
             else none
           else none
          else
           k0 false
        else none
       else
        k0 false
      else
       bif (d.1==4) then
        bif plain then
         j0l d.2.2.2.2.1 λ(r3:Bool)=>
          bif r3 then
           k0 (sEq d.2.2.2.2.2 eS)
          else
           k0 false
        else
         k0 false
       else
        bif (d.1==5) then
         bif plain then
          j0l d.2.2.2.2.1 λ(r4:Bool)=>
           bif r4 then
            j0l d.2.2.2.2.2 λ(r5:Bool)=>
             k0 r5
           else
            k0 false
         else
          k0 false
        else
         k0 false
noncomputable def j88:Sig Unit:=⟨[.look y14 true],[false],λvals ext k=>av vals y14 λd vals=>nl vals<|nl ext<|j4R d (λ(r0:Bool)=>k [wB r0] [] [])⟩
theorem jd4:Z1p Try.prog 151 j88:=j04 (np:=0) follows j01 j9B [j75] (oI 14 0 (jc3) oN) false Try.func151 λ_ _ k _ h=>aV h λ_ _ _ _ _ h=>nL h λ_ h=>nL h λ_ h=>by subst_vars;exact .trans (by delta j4R j1I j75 j6T j4r;refine gz j0l λ_ e=> ?_;rewrite [<-e];refine gz j3W λ_ e=> ?_;rewrite [<-e];refine gz j3r λ_ e=> ?_;rewrite [<-e];refine gz j2S λ_ e=> ?_;rewrite [<-e];kernel_rfl) h
noncomputable def j6H (l:qL) (k0:qL->Res):Res:=
 bif lim (0+(List.length l)) then
  k0 l
 else none
noncomputable def jaR:Sig Unit:=⟨[.borrow y9 false],[false],λvals ext k=>av vals y9 λl vals=>nl vals<|nl ext<|j6H l (λ(r0:qL)=>k [w1 y9 r0 .O] [] [])⟩
theorem jas:Z1p Try.prog 78 jaR:=j04 (np:=0) follows j01 Z94 [] oN false Try.func78 λ_ _ k _ h=>aV h λ_ _ _ _ _ h=>nL h λ_ h=>nL h λ_ h=>by subst_vars;exact .trans (by kernel_rfl) h
noncomputable def j6G (t:qB×qE×qL) (k0:qT->Res):Res:=
 bif lim (0+(List.length t.2.1)) then
  j6H t.2.2 λ(r:qL)=>
   k0 (t.1,t.2.1,r)
 else none
noncomputable def jaQ:Sig Unit:=⟨[.borrow y22 true],[true],λvals ext k=>av vals y22 λt vals=>nl vals<|nl ext<|j6G t (λ(r0:qB×qE×qL)=>k [⟨y22,true,r0,[.O,.O]⟩] [] [])⟩
theorem jar:Z1p Try.prog 96 jaQ:=j04 (np:=0) follows j01 (Z8K jas Z94) [] oN false Try.func96 λ_ _ k _ h=>aV h λ_ _ _ _ _ h=>nL h λ_ h=>nL h λ_ h=>by subst_vars;exact .trans (by kernel_rfl) h
noncomputable def j3Q (d:qG) (k0:qT->Res):Res:=
 j6G (d.2.1,d.2.2.1,d.2.2.2.1) λ(r:qB×qE×qL)=>
  k0 r
noncomputable def j8v:Sig Unit:=⟨[.borrow y14 true],[true],λvals ext k=>av vals y14 λd vals=>nl vals<|nl ext<|j3Q d (λ(r0:qB×qE×qL)=>k [⟨y22,true,r0,[.O,.O]⟩] [] [])⟩
theorem jaX:Z1p Try.prog 192 j8v:=j04 (np:=0) follows j01 (Z8K jar Z94) [] oN false Try.func192 λ_ _ k _ h=>aV h λ_ _ _ _ _ h=>nL h λ_ h=>nL h λ_ h=>by subst_vars;exact .trans (by kernel_rfl) h
noncomputable def j2J (c:qB×Int×Bool×Bool×Int×Int×qB) (k0:Bool->Res):Res:=
 j0k c.1 λ(r:Bool)=>
  bif !r then
   k0 false
  else
   j0a c.2.1 1 3 λ(r1:Bool)=>
    bif !r1 then
     k0 false
    else
     j3B c.2.2.2.2 λ(r2:Bool)=>
      bif !r2 then
       k0 false
      else
       bif !c.2.2.2.1 then
        k0 ((c.2.2.2.2.1==0)&&((c.2.2.2.2.2.1==0)&&(sEq c.2.2.2.2.2.2 eS)))
       else
        bif (c.2.2.2.2.1==c.2.1) then
         k0 true
        else
         bif (c.2.2.2.2.1==0) then
          k0 (!c.2.2.1)
         else
          k0 false
noncomputable def j69:Sig Unit:=⟨[.look y7 true],[false],λvals ext k=>av vals y7 λc vals=>nl vals<|nl ext<|j2J c (λ(r0:Bool)=>k [wB r0] [] [])⟩
theorem j9C:Z1p Try.prog 188 j69:=j04 (np:=0) follows j01 (Z8K j3O (Z8K j0M (Z8K j9D Z94))) [] oN false Try.func188 λ_ _ k _ h=>aV h λ_ _ _ _ _ h=>nL h λ_ h=>nL h λ_ h=>by subst_vars;exact .trans (by delta j2J j1H j0E j9Q;refine gz j0k λ_ e=> ?_;rewrite [<-e];refine gz j0a λ_ e=> ?_;rewrite [<-e];refine gz j3B λ_ e=> ?_;rewrite [<-e];kernel_rfl) h
noncomputable def j8I (c:qB×Int×Bool×Bool×Int×Int×qB) (t1:qB) (k0:Bool->Res):Res:=
 k0 (sEq c.1 t1)
noncomputable def jcL:Sig Unit:=⟨[.look y7 true,.rptr .str],[false],λvals ext k=>av vals y7 λc vals=>av vals .str λt1 vals=>nl vals<|nl ext<|j8I c t1 (λ(r0:Bool)=>k [wB r0] [] [])⟩
theorem j9n:Z1p Try.prog 184 jcL:=j04 (np:=0) follows j01 Z94 [] oN false Try.func184 λ_ _ k _ h=>aV h λ_ _ _ _ _ h=>aV h λ_ _ _ _ _ h=>nL h λ_ h=>nL h λ_ h=>by subst_vars;exact .trans (by kernel_rfl) h
noncomputable def j0z (s:List qC) (f:qB) (t7:Int) (t8:Int) (rec:Int->Res) (k0:Unit->Res) (k1:Int->Res):Res:=
 bif decide (t8<t7) then
  bif inb t8 (List.length s) then
   j8I (nth (eS,0,false,false,0,0,eS) s t8) f λ(r:Bool)=>
    bif r then
     k1 t8
    else
     rec (Z8o (t8+1))
  else none
 else
  k0 ()
noncomputable def j20 (s:List qC) (f:qB) (t7:Int):Int->(Int->Res)->((Unit->Res)×(Int->Res))->Res:=λv rec q=>j0z s f t7 v (λt8=>rec (t8)) q.1 q.2
noncomputable def j2v (s:List qC) (f:qB) (t7:Int) (n:Nat) (t8:Int) (k0:Unit->Res) (k1:Int->Res):Res:=Z14 (j20 s f t7) n (t8) (k0,k1)
noncomputable def j4A:Z1q Unit:=λσ k=>rdN σ 19<|rd1 σ 0 y8 .S λs=>rdC σ 1 184 [.str] .str [] λf=>rdI σ 7 λt7=>rdI σ 8 λt8=>j2v s f t7 Z12 t8 (λ(_:Unit)=>k (.exit 0) (mkS 19 19 [] [])) (λ(t4:Int)=>k .ret (mkS 19 19 [(4,vI t4)] []))
theorem j7Y {W0:Base} {M:Nat->Prop} (hnp:W0.np<=0):Z22 Try.prog W0 M (cAt 26 (bo Try.f183)) j4A:=j0b follows j01 (Z8K j9n Z94) hnp [] oN [0,1,7,8] [] ([],[]) [(0,[],[])] ([4],[]) λσ k _ h=>rN h λhn h=>rV h λs h0 h=>rC h λf h1 h=>rV h λt7 h7 h=>rV h λt8 h8 h=>⟨_,Z9m (m:=19) hn (sC h0 (sC h1 (sC h7 (sC h8 sN)))) bN,.trans (Z88 (λv:Int=>(mkS 19 19 [(0,v1 y8 s .S),(1,.sclos 184 [.str] ⟨.str,false,f,[]⟩),(7,vI t7),(8,vI v)] [])) (j20 s f t7) (λ(k:Z6O Unit)=>(((λ(_:Unit)=>k (.exit 0) (mkS 19 19 [] [])),(λ(t4:Int)=>k .ret (mkS 19 19 [(4,vI t4)] []))):(Unit->Res)×(Int->Res))) (λv rec k=>by kernel_rfl) Z12 (t8) k) h⟩
noncomputable def j3F (s:List qC) (f:qB) (k0:Int->Res):Res:=
 j2v s f (nI (List.length s)) Z12 0
  (λ(_:Unit)=>
   k0 (-1))
  (λ(t:Int)=>
   k0 t)
noncomputable def j8M:Sig Unit:=⟨[.look y8 false,.rclos 184 [.str]],[false],λvals ext k=>av vals y8 λs vals=>av vals .str λf vals=>nl vals<|nl ext<|j3F s f (λ(r0:Int)=>k [wI r0] [] [])⟩
theorem j8G:Z1p Try.prog 183 j8M:=j04 (np:=0) follows j01 (Z8K j9n Z94) [j4A] (oI 26 0 (j7Y) oN) false Try.func183 λ_ _ k _ h=>aV h λ_ _ _ _ _ h=>aV h λ_ _ _ _ _ h=>nL h λ_ h=>nL h λ_ h=>by subst_vars;exact .trans (by kernel_rfl) h
noncomputable def j4F (t:qB×qE×qL) (name:qB) (k0:Int->Res):Res:=
 j3F t.2.1 name λ(r:Int)=>
  k0 r
noncomputable def j82:Sig Unit:=⟨[.look y22 true,.look .str false],[false],λvals ext k=>av vals y22 λt vals=>av vals .str λname vals=>nl vals<|nl ext<|j4F t name (λ(r0:Int)=>k [wI r0] [] [])⟩
theorem jcX:Z1p Try.prog 138 j82:=j04 (np:=0) follows j01 (Z8K j8G Z94) [] oN false Try.func138 λ_ _ k _ h=>aV h λ_ _ _ _ _ h=>aV h λ_ _ _ _ _ h=>nL h λ_ h=>nL h λ_ h=>by subst_vars;exact .trans (by kernel_rfl) h
theorem j6A:Fns Try.prog [(75,j1H),(127,j0E),(138,j82),(188,j69)]:=(Z8K j3O (Z8K j0M (Z8K jcX (Z8K j9C Z94))))
noncomputable def j17 (t10:List qC) (t11:Int) (t:qB×qE×qL) (t12:Int) (rec:Int->Res) (k0:Unit->Res) (k1:Unit->Res):Res:=
 bif decide (t12<t11) then
  bif inb t12 (List.length t10) then
   j2J (nth (eS,0,false,false,0,0,eS) t10 t12) λ(r:Bool)=>
    bif !r then
     k1 ()
    else
     j4F t (nth (eS,0,false,false,0,0,eS) t10 t12).1 λ(r1:Int)=>
      bif (r1 != t12) then
       k1 ()
      else
       rec (Z8o (t12+1))
  else none
 else
  k0 ()
noncomputable def j38 (t10:List qC) (t11:Int) (t:qB×qE×qL):Int->(Int->Res)->((Unit->Res)×(Unit->Res))->Res:=λv rec q=>j17 t10 t11 t v (λt12=>rec (t12)) q.1 q.2
noncomputable def j2M (t10:List qC) (t11:Int) (t:qB×qE×qL) (n:Nat) (t12:Int) (k0:Unit->Res) (k1:Unit->Res):Res:=Z14 (j38 t10 t11 t) n (t12) (k0,k1)
noncomputable def j3L:Z1q Unit:=λσ k=>rdN σ 68<|rdT σ 1 (pB 1)<|rd1 σ 10 y8 .S λt10=>rdI σ 11 λt11=>rdI σ 12 λt12=>rdB σ 1 y22 [.S,.S] λa t=>j2M t10 t11 t Z12 t12 (λ(_:Unit)=>k (.exit 0) (mkS 68 68 [(1,pB 1)] [(1,⟨y22,a,t,[.S,.S]⟩)])) (λ(_:Unit)=>k .ret (mkS 68 68 [(2,vB false)] []))
theorem jaz {W0:Base} {M:Nat->Prop} (hnp:W0.np<=0):Z22 Try.prog W0 M (cAt 26 (bo Try.f142)) j3L:=j0b follows j01 j6A hnp [] oN [1,10,11,12] [1] ([],[]) [(0,[1],[1])] ([2],[]) λσ k _ h=>rN h λhn h=>rT h λh1 h=>rV h λt10 h10 h=>rV h λt11 h11 h=>rV h λt12 h12 h=>rB h λa t hb1 h=>⟨_,Z9m (m:=68) hn (sC h1 (sC h10 (sC h11 (sC h12 sN)))) (bC hb1 bN),.trans (Z88 (λv:Int=>(mkS 68 68 [(1,pB 1),(10,v1 y8 t10 .S),(11,vI t11),(12,vI v)] [(1,⟨y22,a,t,[.S,.S]⟩)])) (j38 t10 t11 t) (λ(k:Z6O Unit)=>(((λ(_:Unit)=>k (.exit 0) (mkS 68 68 [(1,pB 1)] [(1,⟨y22,a,t,[.S,.S]⟩)])),(λ(_:Unit)=>k .ret (mkS 68 68 [(2,vB false)] []))):(Unit->Res)×(Unit->Res))) (λv rec k=>by delta j38 j17 j69 j82;refine gz j2J λ_ e=> ?_;rewrite [<-e];refine gz j4F λ_ e=> ?_;rewrite [<-e];kernel_rfl) Z12 (t12) k) h⟩
noncomputable def j1N (t30:qL) (t31:Int) (t:qB×qE×qL) (last:Int) (t32:Int) (rec:Int->Int->Res) (k0:Unit->Res) (k1:Unit->Res):Res:=
 bif decide (t32<t31) then
  bif inb t32 (List.length t30) then
   j4F t (nth eS t30 t32) λ(r:Int)=>
    bif decide (r<=last) then
     k1 ()
    else
     bif inb r (List.length t.2.1) then
      bif !(nth (eS,0,false,false,0,0,eS) t.2.1 r).2.2.1 then
       k1 ()
      else
       rec r (Z8o (t32+1))
     else none
  else none
 else
  k0 ()
noncomputable def j4X (t30:qL) (t31:Int) (t:qB×qE×qL):(Int×Int)->(Int×Int->Res)->((Unit->Res)×(Unit->Res))->Res:=λv rec q=>j1N t30 t31 t v.1 v.2 (λlast t32=>rec (last,t32)) q.1 q.2
noncomputable def j2N (t30:qL) (t31:Int) (t:qB×qE×qL) (n:Nat) (last:Int) (t32:Int) (k0:Unit->Res) (k1:Unit->Res):Res:=Z14 (j4X t30 t31 t) n (last,t32) (k0,k1)
noncomputable def j5M:Z1q Unit:=λσ k=>rdN σ 68<|rdT σ 1 (pB 1)<|rdI σ 5 λlast=>rd1 σ 30 y9 .S λt30=>rdI σ 31 λt31=>rdI σ 32 λt32=>rdB σ 1 y22 [.S,.S] λa t=>j2N t30 t31 t Z12 last t32 (λ(_:Unit)=>k (.exit 2) (mkS 68 68 [(1,pB 1)] [(1,⟨y22,a,t,[.S,.S]⟩)])) (λ(_:Unit)=>k .ret (mkS 68 68 [(2,vB false)] []))
theorem jaA {W0:Base} {M:Nat->Prop} (hnp:W0.np<=0):Z22 Try.prog W0 M (cAt 122 (bo Try.f142)) j5M:=j0b follows j01 j6A hnp [j3L] oN [1,5,30,31,32] [1] ([],[]) [(2,[1],[1])] ([2],[]) λσ k _ h=>rN h λhn h=>rT h λh1 h=>rV h λlast h5 h=>rV h λt30 h30 h=>rV h λt31 h31 h=>rV h λt32 h32 h=>rB h λa t hb1 h=>⟨_,Z9m (m:=68) hn (sC h1 (sC h5 (sC h30 (sC h31 (sC h32 sN))))) (bC hb1 bN),.trans (Z88 (λv:Int×Int=>(mkS 68 68 [(1,pB 1),(5,vI v.1),(30,v1 y9 t30 .S),(31,vI t31),(32,vI v.2)] [(1,⟨y22,a,t,[.S,.S]⟩)])) (j4X t30 t31 t) (λ(k:Z6O Unit)=>(((λ(_:Unit)=>k (.exit 2) (mkS 68 68 [(1,pB 1)] [(1,⟨y22,a,t,[.S,.S]⟩)])),(λ(_:Unit)=>k .ret (mkS 68 68 [(2,vB false)] []))):(Unit->Res)×(Unit->Res))) (λv rec k=>by kernel_rfl) Z12 (last,t32) k) h⟩
noncomputable def j3i (t:qB×qE×qL) (k0:Bool->Res):Res:=
 j2M t.2.1 (nI (List.length t.2.1)) t Z12 0
  (λ(_:Unit)=>
   j2N t.2.2 (nI (List.length t.2.2)) t Z12 (-1) 0
    (λ(_:Unit)=>
     j0k t.1 λ(r:Bool)=>
      bif r then
       j0a (nI (List.length t.2.1)) 1 8 λ(r1:Bool)=>
        bif r1 then
         k0 (decide ((nI (List.length t.2.2))>0))
        else
         k0 false
      else
       k0 false)
    (λ(_:Unit)=>
     k0 false))
  (λ(_:Unit)=>
   k0 false)
noncomputable def j90:Sig Unit:=⟨[.look y22 true],[false],λvals ext k=>av vals y22 λt vals=>nl vals<|nl ext<|j3i t (λ(r0:Bool)=>k [wB r0] [] [])⟩
theorem jbJ:Z1p Try.prog 142 j90:=j04 (np:=0) follows j01 j6A [j3L,j5M] (oI 26 0 (jaz) (oI 122 1 (jaA) oN)) false Try.func142 λ_ _ k _ h=>aV h λ_ _ _ _ _ h=>nL h λ_ h=>nL h λ_ h=>by subst_vars;exact .trans (by delta j3i j3L j5M j1H j0E;refine gz j2M λ_ e=> ?_;rewrite [<-e];refine gz j2N λ_ e=> ?_;rewrite [<-e];refine gz j0k λ_ e=> ?_;rewrite [<-e];refine gz j0a λ_ e=> ?_;rewrite [<-e];kernel_rfl) h
noncomputable def j0g (a:qG) (b:qG) (k0:Bool->Res):Res:=
 bif (a.1==b.1) then
  bif sEq a.2.1 b.2.1 then
   j0R a.2.2.1 b.2.2.1 λ(r:Bool)=>
    bif r then
     j1k a.2.2.2.1 b.2.2.2.1 λ(r1:Bool)=>
      bif r1 then
       bif sEq a.2.2.2.2.1 b.2.2.2.2.1 then
        k0 (sEq a.2.2.2.2.2 b.2.2.2.2.2)
       else
        k0 false
      else
       k0 false
    else
     k0 false
  else
   k0 false
 else
  k0 false
noncomputable def j4b:Sig Unit:=⟨[.look y14 true,.look y14 true],[false],λvals ext k=>av vals y14 λa vals=>av vals y14 λb vals=>nl vals<|nl ext<|j0g a b (λ(r0:Bool)=>k [wB r0] [] [])⟩
theorem j8q:Z1p Try.prog 156 j4b:=j04 (np:=0) follows j01 (Z8K j9F (Z8K j8W Z94)) [] oN false Try.func156 λ_ _ k _ h=>aV h λ_ _ _ _ _ h=>aV h λ_ _ _ _ _ h=>nL h λ_ h=>nL h λ_ h=>by subst_vars;exact .trans (by delta j0g j7g j5S;refine gz j0R λ_ e=> ?_;rewrite [<-e];refine gz j1k λ_ e=> ?_;rewrite [<-e];kernel_rfl) h
noncomputable def j4G (d:qG) (k0:Bool->Res):Res:=
 j0k d.2.1 λ(r:Bool)=>
  bif !r then
   k0 false
  else
   bif (d.1==1) then
    j3Q d λ(r1:qB×qE×qL)=>
     j3i r1 λ(r2:Bool)=>
      bif r2 then
       bif sEq d.2.2.2.2.1 eS then
        k0 (sEq d.2.2.2.2.2 eS)
       else
        k0 false
      else
       k0 false
   else
    bif (d.1==2) then
     j0g d (d.1,d.2.1,[],[],eS,eS) λ(r3:Bool)=>
      k0 r3
    else
     bif (d.1==3) then
      j0g d (d.1,d.2.1,d.2.2.1,[],eS,eS) λ(r4:Bool)=>
       bif r4 then
        bif ((nI (List.length d.2.2.1))==1) then
         bif inb 0 (List.length d.2.2.1) then
          j2J (nth (eS,0,false,false,0,0,eS) d.2.2.1 0) λ(r5:Bool)=>
           bif r5 then
            bif inb 0 (List.length d.2.2.1) then
             bif (nth (eS,0,false,false,0,0,eS) d.2.2.1 0).2.2.2.1 then
              k0 true
             else
              bif inb 0 (List.length d.2.2.1) then
               k0 (!(nth (eS,0,false,false,0,0,eS) d.2.2.1 0).2.2.1)
              else none
            else none
           else
            k0 false
         else none
        else
         k0 false
       else
        k0 false
     else
      bif (d.1==4) then
       j0g d (d.1,d.2.1,[],[],d.2.2.2.2.1,eS) λ(r6:Bool)=>
        bif r6 then
         j0k d.2.2.2.2.1 λ(r7:Bool)=>
          k0 r7
        else
         k0 false
      else
       bif (d.1==5) then
        j0g d (d.1,d.2.1,[],[],d.2.2.2.2.1,d.2.2.2.2.2) λ(r8:Bool)=>
         bif r8 then
          j0k d.2.2.2.2.1 λ(r9:Bool)=>
           bif r9 then
            j0k d.2.2.2.2.2 λ(r10:Bool)=>
             k0 r10
           else
            k0 false
         else
          k0 false
       else
        k0 false
noncomputable def j83:Sig Unit:=⟨[.look y14 true],[false],λvals ext k=>av vals y14 λd vals=>nl vals<|nl ext<|j4G d (λ(r0:Bool)=>k [wB r0] [] [])⟩
theorem jcY:Z1p Try.prog 155 j83:=j04 (np:=0) follows j01 (Z8K j3O (Z8K jbJ (Z8K j8q (Z8K j9C (Z8K jaX Z94))))) [] oN false Try.func155 λ_ _ k _ h=>aV h λ_ _ _ _ _ h=>nL h λ_ h=>nL h λ_ h=>by subst_vars;exact .trans (by delta j4G j1H j8v j90 j4b j69;refine gz j0k λ_ e=> ?_;rewrite [<-e];refine gz j3Q λ_ e=> ?_;rewrite [<-e];refine gz j3i λ_ e=> ?_;rewrite [<-e];refine gz j0g λ_ e=> ?_;rewrite [<-e];refine gz j2J λ_ e=> ?_;rewrite [<-e];kernel_rfl) h
end Go.PI.G
namespace Go.PI.G
open Go Go.PI Go.Proofs
open Go.Code (pl pr)
noncomputable def j1V (t5:List qV) (t6:Int) (t7:Int) (rec:Int->Res) (k0:Unit->Res) (k1:Unit->Res):Res:=
 bif decide (t7<t6) then
  bif inb t7 (List.length t5) then
   j2X (nth (0,0,eS) t5 t7) λ(r:Bool)=>
    bif !r then
     k1 ()
    else
     rec (Z8o (t7+1))
  else none
 else
  k0 ()
noncomputable def j54 (t5:List qV) (t6:Int):Int->(Int->Res)->((Unit->Res)×(Unit->Res))->Res:=λv rec q=>j1V t5 t6 v (λt7=>rec (t7)) q.1 q.2
noncomputable def j6m (t5:List qV) (t6:Int) (n:Nat) (t7:Int) (k0:Unit->Res) (k1:Unit->Res):Res:=Z14 (j54 t5 t6) n (t7) (k0,k1)
noncomputable def j8g:Z1q Unit:=λσ k=>rdN σ 23<|rd1 σ 0 y3 .S λl=>rd1 σ 5 y3 .S λt5=>rdI σ 6 λt6=>rdI σ 7 λt7=>j6m t5 t6 Z12 t7 (λ(_:Unit)=>k (.exit 0) (mkS 23 23 [(0,v1 y3 l .S)] [])) (λ(_:Unit)=>k .ret (mkS 23 23 [(2,vB false)] []))
theorem jaL {W0:Base} {M:Nat->Prop} (hnp:W0.np<=0):Z22 Try.prog W0 M (cAt 26 (bo Try.f149)) j8g:=j0b follows j01 (Z8K j5V Z94) hnp [] oN [0,5,6,7] [] ([],[]) [(0,[0],[])] ([2],[]) λσ k _ h=>rN h λhn h=>rV h λl h0 h=>rV h λt5 h5 h=>rV h λt6 h6 h=>rV h λt7 h7 h=>⟨_,Z9m (m:=23) hn (sC h0 (sC h5 (sC h6 (sC h7 sN)))) bN,.trans (Z88 (λv:Int=>(mkS 23 23 [(0,v1 y3 l .S),(5,v1 y3 t5 .S),(6,vI t6),(7,vI v)] [])) (j54 t5 t6) (λ(k:Z6O Unit)=>(((λ(_:Unit)=>k (.exit 0) (mkS 23 23 [(0,v1 y3 l .S)] [])),(λ(_:Unit)=>k .ret (mkS 23 23 [(2,vB false)] []))):(Unit->Res)×(Unit->Res))) (λv rec k=>by kernel_rfl) Z12 (t7) k) h⟩
noncomputable def j1B (l:List qV) (k0:Bool->Res):Res:=
 j6m l (nI (List.length l)) Z12 0
  (λ(_:Unit)=>
   bif decide ((nI (List.length l))>=1) then
    k0 (decide ((nI (List.length l))<=8))
   else
    k0 false)
  (λ(_:Unit)=>
   k0 false)
noncomputable def j6U:Sig Unit:=⟨[.look y3 false],[false],λvals ext k=>av vals y3 λl vals=>nl vals<|nl ext<|j1B l (λ(r0:Bool)=>k [wB r0] [] [])⟩
theorem jbU:Z1p Try.prog 149 j6U:=j04 (np:=0) follows j01 (Z8K j5V Z94) [j8g] (oI 26 0 (jaL) oN) false Try.func149 λ_ _ k _ h=>aV h λ_ _ _ _ _ h=>nL h λ_ h=>nL h λ_ h=>by subst_vars;exact .trans (by kernel_rfl) h
noncomputable def j1e (d:qG) (k0:Bool->Res):Res:=
 bif (d.1==0) then
  bif sEq d.2.1 eS then
   bif ((nI (List.length d.2.2.1))==0) then
    bif ((nI (List.length d.2.2.2.1))==0) then
     bif sEq d.2.2.2.2.1 eS then
      k0 (sEq d.2.2.2.2.2 eS)
     else
      k0 false
    else
     k0 false
   else
    k0 false
  else
   k0 false
 else
  k0 false
noncomputable def j6j:Sig Unit:=⟨[.look y14 true],[false],λvals ext k=>av vals y14 λd vals=>nl vals<|nl ext<|j1e d (λ(r0:Bool)=>k [wB r0] [] [])⟩
theorem jb9:Z1p Try.prog 150 j6j:=j04 (np:=0) follows j01 Z94 [] oN false Try.func150 λ_ _ k _ h=>aV h λ_ _ _ _ _ h=>nL h λ_ h=>nL h λ_ h=>by subst_vars;exact .trans (by kernel_rfl) h
theorem j9l:Fns Try.prog [(72,j1I),(149,j6U),(150,j6j),(151,j88)]:=(Z8K j1F (Z8K jbU (Z8K jb9 (Z8K jd4 Z94))))
noncomputable def j3q (noKey:Bool) (noRow:Bool) (s:qS) (k0:Bool->Res):Res:=
 bif (s.1==1) then
  bif noKey then
   j1B s.2.2.2.1 λ(r:Bool)=>
    bif r then
     j1e s.2.2.2.2 λ(r1:Bool)=>
      k0 r1
    else
     k0 false
  else
   k0 false
 else
  bif (s.1==2) then
   j1B s.2.2.1 λ(r2:Bool)=>
    bif r2 then
     j1B s.2.2.2.1 λ(r3:Bool)=>
      bif r3 then
       j1e s.2.2.2.2 λ(r4:Bool)=>
        k0 r4
      else
       k0 false
    else
     k0 false
  else
   bif (s.1==3) then
    j1B s.2.2.1 λ(r5:Bool)=>
     bif r5 then
      bif noRow then
       j1e s.2.2.2.2 λ(r6:Bool)=>
        k0 r6
      else
       k0 false
     else
      k0 false
   else
    bif (s.1==4) then
     bif noKey then
      bif noRow then
       j1e s.2.2.2.2 λ(r7:Bool)=>
        k0 r7
      else
       k0 false
     else
      k0 false
    else
     bif (s.1==5) then
      bif noKey then
       bif noRow then
        j4R s.2.2.2.2 λ(r8:Bool)=>
         bif r8 then
          k0 (sEq s.2.2.2.2.2.1 s.2.1)
         else
          k0 false
       else
        k0 false
      else
       k0 false
     else
      k0 false
noncomputable def j6x:Z1q Unit:=λσ k=>rdN σ 93<|rdT σ 1 (pB 1)<|rdO σ 3 λnoKey=>rdO σ 4 λnoRow=>rdB σ 1 y18 [.S,.S,.S,.S] λa s=>j3q noKey noRow s (λ(t2:Bool)=>k .ret (mkS 93 93 [(2,vB t2)] []))
theorem jbv {W0:Base} {M:Nat->Prop} (hnp:W0.np<=0):Z22 Try.prog W0 M (cAt 31 (bo Try.f103)) j6x:=j2s follows j01 j9l hnp [] oN ([],[]) [] ([2],[]) λσ k _ h=>rN h λhn h=>rT h λh1 h=>rV h λnoKey h3 h=>rV h λnoRow h4 h=>rB h λa s hb1 h=>⟨_,Z9m (m:=93) hn (sC h1 (sC h3 (sC h4 sN))) (bC hb1 bN),.trans (by delta j3q j6U j6j j88;refine gz j1B λ_ e=> ?_;rewrite [<-e];refine gz j1e λ_ e=> ?_;rewrite [<-e];refine gz j4R λ_ e=> ?_;rewrite [<-e];kernel_rfl) h⟩
noncomputable def j27 (s:qS) (k0:Bool->Res):Res:=
 j0l s.2.1 λ(r:Bool)=>
  bif !r then
   k0 false
  else
   j3q ((nI (List.length s.2.2.1))==0) ((nI (List.length s.2.2.2.1))==0) s λ(t:Bool)=>
    k0 t
noncomputable def j5m:Sig Unit:=⟨[.look y18 true],[false],λvals ext k=>av vals y18 λs vals=>nl vals<|nl ext<|j27 s (λ(r0:Bool)=>k [wB r0] [] [])⟩
theorem j9t:Z1p Try.prog 103 j5m:=j04 (np:=0) follows j01 j9l [j6x] (oI 31 0 (jbv) oN) false Try.func103 λ_ _ k _ h=>aV h λ_ _ _ _ _ h=>nL h λ_ h=>nL h λ_ h=>by subst_vars;exact .trans (by delta j27 j1I j6x;refine gz j0l λ_ e=> ?_;rewrite [<-e];refine gz j3q λ_ e=> ?_;rewrite [<-e];kernel_rfl) h
noncomputable def j7m (v_:Int×Int×qB) (k0:Bool->Res):Res:=
 j3B v_ λ(r:Bool)=>
  k0 (!r)
noncomputable def jbD:Sig Unit:=⟨[.look y2 true],[false],λvals ext k=>av vals y2 λv_ vals=>nl vals<|nl ext<|j7m v_ (λ(r0:Bool)=>k [wB r0] [] [])⟩
theorem j8p:Z1p Try.prog 196 jbD:=j04 (np:=0) follows j01 (Z8K j9D Z94) [] oN false Try.func196 λ_ _ k _ h=>aV h λ_ _ _ _ _ h=>nL h λ_ h=>nL h λ_ h=>by subst_vars;exact .trans (by kernel_rfl) h
noncomputable def j0A (s:List qV) (t7:Int) (t8:Int) (rec:Int->Res) (k0:Unit->Res) (k1:Int->Res):Res:=
 bif decide (t8<t7) then
  bif inb t8 (List.length s) then
   j7m (nth (0,0,eS) s t8) λ(r:Bool)=>
    bif r then
     k1 t8
    else
     rec (Z8o (t8+1))
  else none
 else
  k0 ()
noncomputable def j21 (s:List qV) (t7:Int):Int->(Int->Res)->((Unit->Res)×(Int->Res))->Res:=λv rec q=>j0A s t7 v (λt8=>rec (t8)) q.1 q.2
noncomputable def j2w (s:List qV) (t7:Int) (n:Nat) (t8:Int) (k0:Unit->Res) (k1:Int->Res):Res:=Z14 (j21 s t7) n (t8) (k0,k1)
noncomputable def j4B:Z1q Unit:=λσ k=>rdN σ 19<|rd1 σ 0 y3 .S λs=>rdC σ 1 196 [] .unit [] λf=>rdI σ 7 λt7=>rdI σ 8 λt8=>j2w s t7 Z12 t8 (λ(_:Unit)=>k (.exit 0) (mkS 19 19 [] [])) (λ(t4:Int)=>k .ret (mkS 19 19 [(4,vI t4)] []))
theorem j7Z {W0:Base} {M:Nat->Prop} (hnp:W0.np<=0):Z22 Try.prog W0 M (cAt 26 (bo Try.f214)) j4B:=j0b follows j01 (Z8K j8p Z94) hnp [] oN [0,1,7,8] [] ([],[]) [(0,[],[])] ([4],[]) λσ k _ h=>rN h λhn h=>rV h λs h0 h=>rC h λf h1 h=>rV h λt7 h7 h=>rV h λt8 h8 h=>⟨_,Z9m (m:=19) hn (sC h0 (sC h1 (sC h7 (sC h8 sN)))) bN,.trans (Z88 (λv:Int=>(mkS 19 19 [(0,v1 y3 s .S),(1,.sclos 196 [] ⟨.unit,false,f,[]⟩),(7,vI t7),(8,vI v)] [])) (j21 s t7) (λ(k:Z6O Unit)=>(((λ(_:Unit)=>k (.exit 0) (mkS 19 19 [] [])),(λ(t4:Int)=>k .ret (mkS 19 19 [(4,vI t4)] []))):(Unit->Res)×(Int->Res))) (λv rec k=>by kernel_rfl) Z12 (t8) k) h⟩
noncomputable def j3G (s:List qV) (f:Unit) (k0:Int->Res):Res:=
 j2w s (nI (List.length s)) Z12 0
  (λ(_:Unit)=>
   k0 (-1))
  (λ(t:Int)=>
   k0 t)
noncomputable def j8N:Sig Unit:=⟨[.look y3 false,.rclos 196 []],[false],λvals ext k=>av vals y3 λs vals=>av vals .unit λf vals=>nl vals<|nl ext<|j3G s f (λ(r0:Int)=>k [wI r0] [] [])⟩
theorem j8H:Z1p Try.prog 214 j8N:=j04 (np:=0) follows j01 (Z8K j8p Z94) [j4B] (oI 26 0 (j7Z) oN) false Try.func214 λ_ _ k _ h=>aV h λ_ _ _ _ _ h=>aV h λ_ _ _ _ _ h=>nL h λ_ h=>nL h λ_ h=>by subst_vars;exact .trans (by kernel_rfl) h
noncomputable def j1f (s:List qV) (f:Unit) (k0:Bool->Res):Res:=
 j3G s f λ(r:Int)=>
  k0 (decide (r>=0))
noncomputable def j4d:Sig Unit:=⟨[.look y3 false,.rclos 196 []],[false],λvals ext k=>av vals y3 λs vals=>av vals .unit λf vals=>nl vals<|nl ext<|j1f s f (λ(r0:Bool)=>k [wB r0] [] [])⟩
theorem j7E:Z1p Try.prog 195 j4d:=j04 (np:=0) follows j01 (Z8K j8H Z94) [] oN false Try.func195 λ_ _ k _ h=>aV h λ_ _ _ _ _ h=>aV h λ_ _ _ _ _ h=>nL h λ_ h=>nL h λ_ h=>by subst_vars;exact .trans (by kernel_rfl) h
noncomputable def j11 (l:List qV) (k0:Bool->Res):Res:=
 j0a (nI (List.length l)) 1 8 λ(r:Bool)=>
  bif r then
   j1f l () λ(r1:Bool)=>
    k0 (!r1)
  else
   k0 false
noncomputable def j6P:Sig Unit:=⟨[.look y3 false],[false],λvals ext k=>av vals y3 λl vals=>nl vals<|nl ext<|j11 l (λ(r0:Bool)=>k [wB r0] [] [])⟩
theorem jbK:Z1p Try.prog 157 j6P:=j04 (np:=0) follows j01 (Z8K j0M (Z8K j7E Z94)) [] oN false Try.func157 λ_ _ k _ h=>aV h λ_ _ _ _ _ h=>nL h λ_ h=>nL h λ_ h=>by subst_vars;exact .trans (by delta j11 j0E j4d;refine gz j0a λ_ e=> ?_;rewrite [<-e];refine gz j1f λ_ e=> ?_;rewrite [<-e];kernel_rfl) h
theorem j9j:Fns Try.prog [(75,j1H),(155,j83),(156,j4b),(157,j6P)]:=(Z8K j3O (Z8K jcY (Z8K j8q (Z8K jbK Z94))))
noncomputable def j3h (s:qS) (k0:Bool->Res):Res:=
 bif (s.1==1) then
  bif ((nI (List.length s.2.2.1))==0) then
   j11 s.2.2.2.1 λ(r:Bool)=>
    k0 r
  else
   k0 false
 else
  bif (s.1==2) then
   j11 s.2.2.1 λ(r1:Bool)=>
    bif r1 then
     j11 s.2.2.2.1 λ(r2:Bool)=>
      k0 r2
    else
     k0 false
  else
   bif (s.1==3) then
    j11 s.2.2.1 λ(r3:Bool)=>
     bif r3 then
      k0 ((nI (List.length s.2.2.2.1))==0)
     else
      k0 false
   else
    bif (s.1==4) then
     bif ((nI (List.length s.2.2.1))==0) then
      k0 ((nI (List.length s.2.2.2.1))==0)
     else
      k0 false
    else
     k0 false
noncomputable def j6r:Z1q Unit:=λσ k=>rdN σ 91<|rdT σ 1 (pB 1)<|rdB σ 1 y18 [.S,.S,.S,.S] λa s=>j3h s (λ(t2:Bool)=>k .ret (mkS 91 91 [(2,vB t2)] []))
theorem jbm {W0:Base} {M:Nat->Prop} (hnp:W0.np<=0):Z22 Try.prog W0 M (cAt 15 (bo Try.f109)) j6r:=j2s follows j01 j9j hnp [] oN ([],[]) [] ([2],[]) λσ k _ h=>rN h λhn h=>rT h λh1 h=>rB h λa s hb1 h=>⟨_,Z9m (m:=91) hn (sC h1 sN) (bC hb1 bN),.trans (by delta j3h j6P;refine gz j11 λ_ e=> ?_;rewrite [<-e];kernel_rfl) h⟩
noncomputable def j24 (s:qS) (k0:Bool->Res):Res:=
 bif (s.1==5) then
  j4G s.2.2.2.2 λ(r:Bool)=>
   bif r then
    bif sEq s.2.1 s.2.2.2.2.2.1 then
     bif ((nI (List.length s.2.2.1))==0) then
      k0 ((nI (List.length s.2.2.2.1))==0)
     else
      k0 false
    else
     k0 false
   else
    k0 false
 else
  j0k s.2.1 λ(r1:Bool)=>
   bif !r1 then
    k0 false
   else
    j0g s.2.2.2.2 (0,eS,[],[],eS,eS) λ(r2:Bool)=>
     bif !r2 then
      k0 false
     else
      j3h s λ(t:Bool)=>
       k0 t
noncomputable def j3V:Sig Unit:=⟨[.look y18 true],[false],λvals ext k=>av vals y18 λs vals=>nl vals<|nl ext<|j24 s (λ(r0:Bool)=>k [wB r0] [] [])⟩
theorem j9o:Z1p Try.prog 109 j3V:=j04 (np:=0) follows j01 j9j [j6r] (oI 15 0 (jbm) oN) false Try.func109 λ_ _ k _ h=>aV h λ_ _ _ _ _ h=>nL h λ_ h=>nL h λ_ h=>by subst_vars;exact .trans (by delta j24 j83 j1H j4b j6r;refine gz j4G λ_ e=> ?_;rewrite [<-e];refine gz j0k λ_ e=> ?_;rewrite [<-e];refine gz j0g λ_ e=> ?_;rewrite [<-e];refine gz j3h λ_ e=> ?_;rewrite [<-e];kernel_rfl) h
end Go.PI.G
