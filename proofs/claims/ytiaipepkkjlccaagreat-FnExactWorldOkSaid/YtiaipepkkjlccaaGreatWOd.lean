/-
  Program's code interpreted over typed values; printed texts; plain laws. No conditions.
-/
import Derived.Test.YtiaipepkkjlccaaGreatWOc
import Derived.Test.YtiaipepkkjlccaaGreatWOa
import Derived.Test.YtiaipepkkjlccaaGreatProg
set_option linter.unusedVariables false
namespace Go.PI
open Go
theorem jcs:(τ:Ty)->∀c∈zeroCells τ,one c=true
 |.int _,c,h=>by simp[zeroCells]at h;subst h;rfl
 |.bool,c,h=>by simp[zeroCells]at h;subst h;rfl
 |.str,c,h=>by simp[zeroCells]at h;subst h;rfl
 |.unit,c,h=>by simp[zeroCells]at h
 |.slice _,c,h=>by simp[zeroCells]at h;subst h;rfl
 |.pair a b,c,h=>by
  simp only[zeroCells,Qr]at h;exact h.elim (jcs a c) (jcs b c)
section
variable {P:Program}{tys:List (TypeId×Ty×List TypeId)}{S E I B U T:TypeId}{e:Ty}{fl:List TypeId}
theorem jcQ (hT:Z0e P tys){t:TypeId}{τ:Ty}{l:List TypeId}(h:Z0o tys t=some (τ,l))(w:World):(sizeOf t).run P w= .ok (size τ) w:=by
 obtain⟨i,z,hi,hs,_⟩:=(hT t τ l h).info;simp[sizeOf,typeInfo,hi,hs]
theorem jlm (hm:P.follows .mixedOrders=true)(hT:Z0e P tys)(hS:Z0o tys S=some (.slice e,[]))(hu:P.underlying S=some (.slice E))(hI:Z0o tys I=some (.int .i64,[]))(hB:Z0o tys B=some (.bool,[]))(hE:Z0o tys E=some (e,fl)) :
  ∃z,SlT P S E I B (size e) z/\∃i:TypeInfo,P.info? E=some i/\i.size=size e/\i.zero=some z/\i.bytes<=65536:=by
 obtain⟨i,z,hi,hs,hb,_,hz,hzc,_⟩:=(hT E e fl hE).info;obtain⟨iS,zS,hiS,hsS,_,_,hzS,hzcS,hshS⟩:=(hT S _ _ hS).info;have hzS2:zS= .slice none 0 0:=by
  have h1:one zS=true:=hshS;have h2:=Z8O h1;have h3:zS.cells.toList=[.slice none 0 0]:=hzcS;cases zS<;>simp_all[Value.oneCell',Value.cells]
 refine⟨z,⟨hm,hu,λw=>Z6L hT hS w,λw=>jcQ hT hS w,λw=> ?_,((hT I _ _ hI).und rfl).1 _ rfl,λw=>Z6L hT hI w,λw=>jcQ hT hI w,((hT B _ _ hB).und rfl).2.1 rfl,λw=>Z6L hT hB w,λw=>jcQ hT hB w,λw=>jcQ hT hE w,λw=> ?_,⟨i,hi,hs⟩,?_,λc hc=> ?_⟩,i,hi,hs,hz,hb⟩
 ·simp[zeroValue,typeInfo,hiS,hzS,hzS2]
 ·simp[zeroValue,typeInfo,hi,hz]
 ·rw[<-X8,hzc,(Z2Y (w:=default) (F:=λ_=>0) (St:=λ_=>True) (Al:=λ_=>True) e).len.1]
 ·rw[hzc]at hc;exact jcs e c hc
def jto:Ty->Bool
 |.int .u8=>false
 |_=>true
theorem jsQ {e:Ty}(h:jto e=true):e≠ .int .u8:=λhh=>by subst hh;cases h
theorem gS {a b:Sig Unit}{f:FuncId}(s:Z16 P f a)(h:a=b):Z16 P f b:=h ▸ s
theorem jkv (hm:P.follows .mixedOrders=true)(hT:Z0e P tys)(hS:Z0o tys S=some (.slice e,[]))(hu:P.underlying S=some (.slice E))(hI:Z0o tys I=some (.int .i64,[]))(hB:Z0o tys B=some (.bool,[]))(hE:Z0o tys E=some (e,fl))
  {f : FuncId} {fn : Func} (hf : P.funcs[f]? = some fn) (hb : fn.body = some (jcW S I B U)) (hn : fn.ntmps = 33) (hr : fn.results = #[.tmp 6]) (hname : (fn.name == "runtime.NumGoroutine") = false) : Z16 P f (jry e) := by
 obtain⟨z,L,_⟩:=jlm hm hT hS hu hI hB hE;exact jrz L hf hb hn hr hname
theorem jp5 (hm:P.follows .mixedOrders=true)(hT:Z0e P tys)(hS:Z0o tys S=some (.slice e,[]))(hu:P.underlying S=some (.slice E))(hI:Z0o tys I=some (.int .i64,[]))(hB:Z0o tys B=some (.bool,[]))(hE:Z0o tys E=some (e,fl))(hk:Nat.ble 1 (size e)=true)(he:jto e=true)
  {f fo fr : FuncId} {fn fno : Func} (hf : P.funcs[f]? = some fn) (hb : fn.body = some (j9z S I B U fo fr)) (hn : fn.ntmps = 95) (hr : fn.results = #[.tmp 6]) (hname : (fn.name == "runtime.NumGoroutine") = false)
  (hfo : P.funcs[fo]? = some fno) (hno : (fno.name == "runtime.NumGoroutine") = false) (hbo : fno.body.isNone = true) (hxo : Extern.findNext fno = none) (heo : Extern.find fno = some (Extern.SlicesOverlaps.overlaps #[S, S] #[B])) : Z16 P f (jkD e) := by
 obtain⟨z,L,hE2⟩:=jlm hm hT hS hu hI hB hE;exact jrJ L hE2 (QP hk) (jsQ he) hf hb hn hr hname hfo hno hbo hxo heo
theorem jtT {ag:Bool}{τ:Ty}{tg:List Tag}(hm:P.follows .mixedOrders=true)(hT:Z0e P tys)(hS:Z0o tys S=some (.slice e,[]))(hu:P.underlying S=some (.slice E))(hI:Z0o tys I=some (.int .i64,[]))(hB:Z0o tys B=some (.bool,[]))(hE:Z0o tys E=some (e,fl))(hag:ag= !fl.isEmpty)(aT:∀w,(isAgg T).run P w= .ok false w)(zT:∀w,(sizeOf T).run P w= .ok 1 w)
  (hk1:Nat.ble 1 (size e)=true) (hk2:(ag||Nat.beq (size e) 1)=true) (htg:tg.all (λt=> !t.isN)=true)
  {fx : FuncId} {fnx : Func} (hfx : P.funcs[fx]? = some fnx) (hbx : fnx.body = some (j6q S E I B U T)) (hnx : fnx.ntmps = 19) (hrx : fnx.results = #[.tmp 4]) (hnamex : (fnx.name == "runtime.NumGoroutine") = false)
  {g:FuncId} {gs:Sig Unit} (hg:Z16 P g gs) (hgm:gs.modes=[.look e ag,.rptr τ])
  {f : FuncId} {fn : Func} (hf : P.funcs[f]? = some fn) (hb : fn.body = some (jfF S E I B U T fx)) (hn : fn.ntmps = 42) (hr : fn.results = #[.tmp 4]) (hname : (fn.name == "runtime.NumGoroutine") = false) : Z16 P f (jog e g ag τ tg gs) := by
 obtain⟨z,L,_⟩:=jlm hm hT hS hu hI hB hE;exact jsw L hT hE hag (λw=>by rw[hag];exact Z6L hT hE w) aT zT hk1 hk2 htg hfx hbx hnx hrx hnamex hg hgm hf hb hn hr hname
theorem jtN {ag:Bool}{τ:Ty}{tg:List Tag}(hm:P.follows .mixedOrders=true)(hT:Z0e P tys)(hS:Z0o tys S=some (.slice e,[]))(hu:P.underlying S=some (.slice E))(hI:Z0o tys I=some (.int .i64,[]))(hB:Z0o tys B=some (.bool,[]))(hE:Z0o tys E=some (e,fl))(hag:ag= !fl.isEmpty)(aT:∀w,(isAgg T).run P w= .ok false w)(zT:∀w,(sizeOf T).run P w= .ok 1 w)
  (hk1:Nat.ble 1 (size e)=true) (hk2:(ag||Nat.beq (size e) 1)=true) (htg:tg.all (λt=> !t.isN)=true)
  {fx : FuncId} {fnx : Func} (hfx : P.funcs[fx]? = some fnx) (hbx : fnx.body = some (j6q S E I B U T)) (hnx : fnx.ntmps = 19) (hrx : fnx.results = #[.tmp 4]) (hnamex : (fnx.name == "runtime.NumGoroutine") = false)
  {g:FuncId} {gs:Sig Unit} (hg:Z16 P g gs) (hgm:gs.modes=[.look e ag,.rptr τ])
  {f : FuncId} {fn : Func} (hf : P.funcs[f]? = some fn) (hb : fn.body = some (jcX S E I B U T fx)) (hn : fn.ntmps = 42) (hr : fn.results = #[.tmp 4]) (hname : (fn.name == "runtime.NumGoroutine") = false) : Z16 P f (jog e g ag τ tg gs) := by
 obtain⟨z,L,_⟩:=jlm hm hT hS hu hI hB hE;exact jrA L hT hE hag (λw=>by rw[hag];exact Z6L hT hE w) aT zT hk1 hk2 htg hfx hbx hnx hrx hnamex hg hgm hf hb hn hr hname
end
end Go.PI
namespace Go.PI
noncomputable section
abbrev AR:=Ty×Option (List Tag)
@[reducible] def ArT:List AR->Type
 | []=>Unit
 |a::l=>El a.1×ArT l
@[reducible] def ExT:List (Ty×List Tag)->Type
 | []=>Unit
 |a::l=>(Bool×El a.1)×ExT l
section
variable {R:Type}{r:R}
def rdA:(l:List AR)->List TVal->(ArT l->Option R)->Option R
 | [],vals,f=>nl vals (f ())
 |(τ,none)::l,vals,f=>av vals τ λx vals=>rdA l vals λy=>f (x,y)
 |(τ,some tg)::l,vals,f=>ao vals τ tg λx vals=>rdA l vals λy=>f (x,y)
def mkA:(l:List AR)->ArT l->(Nat->Bool×List Tag)->List TVal
 | [],_,_=>[]
 |(τ,none)::l,x,fl=>⟨τ,(fl 0).1,x.1,(fl 0).2⟩::mkA l x.2 λn=>fl (n+1)
 |(τ,some tg)::l,x,fl=>⟨τ,(fl 0).1,x.1,tg⟩::mkA l x.2 λn=>fl (n+1)
def jsV:(l:List (Ty×List Tag))->List TVal->(ExT l->Option R)->Option R
 | [],vals,f=>nl vals (f ())
 |(τ,tg)::l,vals,f=>ab vals τ tg λa x vals=>jsV l vals λy=>f ((a,x),y)
def mkX:(l:List (Ty×List Tag))->ExT l->List TVal
 | [],_=>[]
 |(τ,tg)::l,x=>⟨τ,x.1.1,x.1.2,tg⟩::mkX l x.2
theorem jkd:(l:List AR)->{vals:List TVal}->{f:ArT l->Option R}->rdA l vals f=some r->∃x fl,vals=mkA l x fl/\f x=some r
 | [],vals,f,h=>by
  obtain⟨e,h⟩:=Zav h;exact⟨(),λ_=>(false,[]),e,h⟩
 |(τ,none)::l,vals,f,h=>by
  obtain⟨x,a,t,l',e,h⟩:=Zao h;obtain⟨y,fl,b,h⟩:=jkd l h;exact⟨(x,y),λn=>Nat.casesOn n (a,t) fl,by rw[e,b];rfl,h⟩
 |(τ,some tg)::l,vals,f,h=>by
  obtain⟨a,x,l',e,h⟩:=Zan h;obtain⟨y,fl,b,h⟩:=jkd l h;exact⟨(x,y),λn=>Nat.casesOn n (a,[]) fl,by rw[e,b];rfl,h⟩
theorem jn5:(l:List (Ty×List Tag))->{vals:List TVal}->{f:ExT l->Option R}->jsV l vals f=some r->∃x,vals=mkX l x/\f x=some r
 | [],vals,f,h=>by
  obtain⟨e,h⟩:=Zav h;exact⟨(),e,h⟩
 |(τ,tg)::l,vals,f,h=>by
  obtain⟨a,x,l',e,h⟩:=Zam h;obtain⟨y,b,h⟩:=jn5 l h;exact⟨((a,x),y),by rw[e,b];rfl,h⟩
def sg (modes:List Mode)(ags:List Bool)(l:List AR)(m:List (Ty×List Tag))(f:ArT l->ExT m->(List TVal->List TVal->List TVal->Option R)->Option R):Sig R:=
 ⟨modes,ags,λvals ext k=>rdA l vals λx=>jsV m ext λy=>f x y k⟩
end
inductive RS where
 |v (i:Nat) (τ:Ty) (ag:Bool) (tg:List Tag)
 |u (i:Nat) (τ:Ty) (ag:Bool) (tg:List Tag) (ags:List Bool)
 |e (i:Nat) (τ:Ty) (ag:Bool) (tg:List Tag) (t:Tag)
 |c (i:Nat) (f:FuncId) (τs:List Ty) (τ:Ty) (tg:List Tag)
 |t (i:Nat) (p:TV)
abbrev RS.I (i:Nat):RS:= .v i (.int .i64) false []
abbrev RS.B (i:Nat):RS:= .v i .bool false []
abbrev RS.S (i:Nat):RS:= .v i .str false []
abbrev RS.R (i:Nat)(τ:Ty)(t:Tag):RS:= .v i τ false [t]
@[reducible] def RsT:List RS->Type
 | []=>Unit
 |.v _ τ _ _::l=>El τ×RsT l
 |.u _ τ _ _ _::l=>El τ×RsT l
 |.e _ τ _ _ _::l=>El τ×RsT l
 |.c _ _ _ τ _::l=>El τ×RsT l
 |.t _ _::l=>RsT l
abbrev BX:=Nat×Ty×List Tag
@[reducible] def BxT:List BX->Type
 | []=>Unit
 |a::l=>(Bool×El a.2.1)×BxT l
section
variable {R:Type}{r:R}
def rdR (σ:State):(l:List RS)->(RsT l->Option R)->Option R
 | [],f=>f ()
 |.v i τ ag tg::l,f=>rdV σ i τ ag tg λx=>rdR σ l λy=>f (x,y)
 |.u i τ ag tg ags::l,f=>rdU σ i τ ag tg ags λx=>rdR σ l λy=>f (x,y)
 |.e i τ ag tg t::l,f=>rdE σ i τ ag tg t λx=>rdR σ l λy=>f (x,y)
 |.c i g b τ tg::l,f=>rdC σ i g b τ tg λx=>rdR σ l λy=>f (x,y)
 |.t i p::l,f=>rdT σ i p (rdR σ l f)
def slR:(l:List RS)->RsT l->List (Nat×TV)
 | [],_=>[]
 |.v i τ ag tg::l,x=>(i,.val ⟨τ,ag,x.1,tg⟩)::slR l x.2
 |.u i τ ag tg ags::l,x=>(i,.tup ⟨τ,ag,x.1,tg⟩ ags)::slR l x.2
 |.e i τ ag tg t::l,x=>(i,.eptr ⟨τ,ag,x.1,tg⟩ t)::slR l x.2
 |.c i g b τ tg::l,x=>(i,.sclos g b ⟨τ,false,x.1,tg⟩)::slR l x.2
 |.t i p::l,x=>(i,p)::slR l x
def ixR:List RS->List Nat
 | []=>[]
 |.v i _ _ _::l=>i::ixR l
 |.u i _ _ _ _::l=>i::ixR l
 |.e i _ _ _ _::l=>i::ixR l
 |.c i _ _ _ _::l=>i::ixR l
 |.t i _::l=>i::ixR l
def jsU (σ:State):(l:List BX)->(BxT l->Option R)->Option R
 | [],f=>f ()
 |(i,τ,tg)::l,f=>rdB σ i τ tg λa x=>jsU σ l λy=>f ((a,x),y)
def bxR:(l:List BX)->BxT l->List (Nat×TVal)
 | [],_=>[]
 |(i,τ,tg)::l,x=>(i,⟨τ,x.1.1,x.1.2,tg⟩)::bxR l x.2
theorem jba {σ:State}:(l:List RS)->{f:RsT l->Option R}->rdR σ l f=some r->∃x,Z4b σ (slR l x)/\f x=some r
 | [],f,h=>⟨(),trivial,h⟩
 |.v i τ ag tg::l,f,h=>by
  obtain⟨x,e,h⟩:=Zae h;obtain⟨y,b,h⟩:=jba l h;exact⟨(x,y),⟨e,b⟩,h⟩
 |.u i τ ag tg ags::l,f,h=>by
  obtain⟨x,e,h⟩:=Zad h;obtain⟨y,b,h⟩:=jba l h;exact⟨(x,y),⟨e,b⟩,h⟩
 |.e i τ ag tg t::l,f,h=>by
  obtain⟨x,e,h⟩:=Zaa h;obtain⟨y,b,h⟩:=jba l h;exact⟨(x,y),⟨e,b⟩,h⟩
 |.c i g d τ tg::l,f,h=>by
  obtain⟨x,e,h⟩:=Za9 h;obtain⟨y,b,h⟩:=jba l h;exact⟨(x,y),⟨e,b⟩,h⟩
 |.t i p::l,f,h=>by
  obtain⟨e,h⟩:=Zac h;obtain⟨y,b,h⟩:=jba l h;exact⟨y,⟨e,b⟩,h⟩
theorem jn4 {σ:State}:(l:List BX)->{f:BxT l->Option R}->jsU σ l f=some r->∃x,Z4a σ (bxR l x)/\f x=some r
 | [],f,h=>⟨(),trivial,h⟩
 |(i,τ,tg)::l,f,h=>by
  obtain⟨a,x,e,h⟩:=Za8 h;obtain⟨y,b,h⟩:=jn4 l h;exact⟨((a,x),y),⟨e,b⟩,h⟩
abbrev Kx (R:Type):=Ex->List (Nat×TV)->List (Nat×TVal)->Option R
abbrev kx (n m:Nat)(k:Z82 R):Kx R:=λe d b=>k e (mkS n m d b)
def Nd (n m:Nat)(l:List RS)(b:List BX)(f:RsT l->BxT b->Kx R->Option R):Z1c R:=λσ k=>rdN σ n (rdR σ l λx=>jsU σ b λy=>f x y (kx n m k))
theorem jqo {n m:Nat}{l:List RS}{b:List BX}{f:RsT l->BxT b->Kx R->Option R}{σ:State}{k:Z82 R}(h:Nd n m l b f σ k=some r):∃x y,Z2E (mkS n m (slR l x) (bxR b y)) σ/\f x y (kx n m k)=some r:=by
 obtain⟨g,h⟩:=Zab h;obtain⟨x,e,h⟩:=jba l h;obtain⟨y,d,h⟩:=jn4 b h;exact⟨x,y,ZaL g e d,h⟩
def NdL {V K:Type}(n m:Nat)(l:List RS)(b:List BX)(d:RsT l->BxT b->V)(w:RsT l->V->RsT l)(w2:BxT b->V->BxT b)(step:RsT l->BxT b->V->(V->Option R)->K->Option R)(E:RsT l->BxT b->Kx R->K):Z1c R:=
 Nd n m l b λx y k=>Z1e (step x y) Z1b (d x y) (E x y k)
variable {P:Program}{np:Nat}{X:List (Z1c R)}{ty:List (TypeId×Ty×List TypeId)}{fs:List (FuncId×Sig R)}[Subsingleton R]
theorem fnD (w:P.follows .mixedOrders=true)(n:Z0e P ty)(j:Fns P fs){f:FuncId}{fn:Func}(X:List (Z1c R)){ht:HT}(i:Z1Z P np X ht (bo fn))(fz:Bool)(q:P.funcs[f]? = some fn)
  {modes:List Mode} {ags:List Bool} {l:List AR} {m:List (Ty×List Tag)} {F:ArT l->ExT m->(List TVal->List TVal->List TVal->Option R)->Option R}
  (h:∀x fl y k,Z8j ⟨ty,fs,np⟩ X ht fz fn modes ags (mkA l x fl) (mkX m y) k=F x y k)
  (b : (fn.name == "runtime.NumGoroutine") = false := by kernel_rfl) (p : fn.body = some (bo fn) := by kernel_rfl) (z : Nat.ble modes.length fn.ntmps = true := by kernel_rfl) : Z16 P f (sg modes ags l m F) :=
 jtj w n j X i fz q (λvals ext k B A=>by
  obtain⟨x,fl,rfl,d⟩:=jkd l A;obtain⟨y,rfl,g⟩:=jn5 m d;exact(h x fl y k).trans g) b p z
theorem nD (C:P.follows .mixedOrders=true)(B:Z0e P ty)(A:Fns P fs){j:Base}{M:Nat->Prop}(g:j.np<=np)(X:List (Z1c R)){c:Code}{ht:HT}(z:Z1Z P np X ht c)
  (p:List Nat×List Nat) (w:List (Nat×List Nat×List Nat)) (q:List Nat×List Nat) {n m:Nat} {l:List RS} {b:List BX} {f:RsT l->BxT b->Kx R->Option R}
  (h:∀x y k,Z0R ⟨ty,fs,np⟩ X ht c (mkS n m (slR l x) (bxR b y)) (λe σ=>k e (Z9D p w q e σ))=f x y (kx n m k)):Z13 P j M c (Nd n m l b f):=
 jqW C B A g X z p w q λσ k D i=>by
  obtain⟨x,y,d,i⟩:=jqo i;exact⟨_,d,(h x y k).trans i⟩
theorem lD {V K:Type}(H:P.follows .mixedOrders=true)(F:Z0e P ty)(D:Fns P fs){j:Base}{M:Nat->Prop}(g:j.np<=np)(X:List (Z1c R)){c:Code}{ht:HT}(C:Z1Z P np X ht c.pl)
  (p:List Nat×List Nat) (z:List (Nat×List Nat×List Nat)) (q:List Nat×List Nat) {n m:Nat} {l:List RS} {b:List BX} {d:RsT l->BxT b->V} {step:RsT l->BxT b->V->(V->Option R)->K->Option R} {E:RsT l->BxT b->Kx R->K}
  {w:RsT l->V->RsT l} {w2:BxT b->V->BxT b}
  (h:∀x y v (rec:State->Option R) (k:Z82 R),Z0R ⟨ty,fs,np⟩ X ht c.pl (mkS n m (slR l (w x v)) (bxR b (w2 y v))) (λe σ=>match e with | .normal=>rec (σ.forget (ixR l) (b.map Prod.fst)) | e=>k e (Z9D p z q e σ)) =
   step x y v (λv=>rec (mkS n m (slR l (w x v)) (bxR b (w2 y v)))) (E x y (kx n m k)))
  (A:∀x y,w x (d x y)=x:=by exact λ_ _=>rfl) (B:∀x y,w2 y (d x y)=y:=by exact λ_ _=>rfl) (G:c= .loop c.pl:=by kernel_rfl):Z13 P j M c (NdL n m l b d w w2 step E):=
 joh H F D g X C (ixR l) (b.map Prod.fst) p z q (λσ k I i=>by
  obtain⟨x,y,f,i⟩:=jqo i;refine⟨_,f,?_⟩;have:=Z9t (λv=>mkS n m (slR l (w x v)) (bxR b (w2 y v))) (step x y) (λk=>E x y (kx n m k)) (λv rec k=>h x y v rec k) Z1b (d x y) k
  rw[A,B]at this;exact this.trans i) G
end
end
end Go.PI
set_option maxRecDepth 100000
namespace Go.PI.G
open Go Go.PI Go.Proofs
open Go.Code (pl pr)
abbrev qV:=Int×Int×ByteArray
abbrev qW:=List qV
abbrev qC:=ByteArray×Int×Bool×Bool×Int×Int×ByteArray
abbrev qE:=List qC
abbrev qT:=ByteArray×qE×List ByteArray
abbrev qF:=List qT
abbrev qR:=List qW
abbrev qX:=List qR
abbrev qD:=qF×List qR
abbrev qB:=ByteArray
abbrev qL:=List ByteArray
abbrev qS:=Int×ByteArray×qW×qW×Int×ByteArray×qE×List ByteArray×ByteArray×ByteArray
abbrev qG:=Int×ByteArray×qE×List ByteArray×ByteArray×ByteArray
abbrev qP:=Int×Int×qS
abbrev qQ:=Int×qP×Int×Int×Int
abbrev qU:=List qS
abbrev y0:Ty:= .pair tI .str
abbrev y1:Ty:= .pair tI y0
abbrev y2:Ty:= .slice y1
abbrev y3:Ty:= .pair .bool y1
abbrev y4:Ty:= .pair .bool y3
abbrev y5:Ty:= .pair tI y4
abbrev y6:Ty:= .pair .str y5
abbrev y7:Ty:= .slice y6
abbrev y8:Ty:= .slice .str
abbrev y9:Ty:= .pair .str .str
abbrev y10:Ty:= .pair y8 y9
abbrev y11:Ty:= .pair y7 y10
abbrev y12:Ty:= .pair .str y11
abbrev y13:Ty:= .pair tI y12
abbrev y14:Ty:= .pair y2 y13
abbrev y15:Ty:= .pair y2 y14
abbrev y16:Ty:= .pair .str y15
abbrev y17:Ty:= .pair tI y16
abbrev y18:Ty:= .pair tI y17
abbrev y19:Ty:= .pair tI y18
abbrev y20:Ty:= .slice y19
abbrev y21:Ty:= .pair y7 y8
abbrev y22:Ty:= .pair .str y21
abbrev y23:Ty:= .slice y22
abbrev y24:Ty:= .slice y2
abbrev y25:Ty:= .slice y24
abbrev y26:Ty:= .pair y23 y25
abbrev y27:Ty:= .pair tI tI
abbrev y28:Ty:= .pair y26 y27
abbrev y29:Ty:= .slice (.int .u8)
abbrev y30:Ty:= .slice y29
abbrev y31:Ty:= .slice tI
abbrev y32:Ty:= .pair y30 y31
abbrev y33:Ty:= .pair y28 y32
abbrev y34:Ty:= .pair y28 y33
abbrev y35:Ty:= .pair y8 y34
abbrev y36:Ty:= .pair y20 y35
abbrev y37:Ty:= .pair y8 y8
abbrev y38:Ty:= .pair y17 y37
abbrev y39:Ty:= .slice y38
abbrev y40:Ty:= .pair tI y39
abbrev y41:Ty:= .pair tI y40
abbrev y42:Ty:= .slice y41
abbrev y43:Ty:= .slice y17
abbrev y44:Ty:= .pair y22 y2
def tys:List (TypeId×Ty×List TypeId):=[(3,tI,[]),(4,.bool,[]),(5,(.int .u8),[]),(9,.str,[]),(22,y20,[]),(23,y8,[]),(25,y8,[23]),(26,y23,[]),(28,y23,[26]),(29,y25,[]),(31,y26,[28,29]),(33,y28,[31,3,3]),(34,y30,[]),(36,y30,[34]),(37,y31,[]),(39,y36,[22,25,33,33,36,37]),(42,y20,[]),(43,y8,[23]),(44,y23,[]),(46,y23,[44]),(47,y25,[]),(49,y26,[46,47]),(51,y28,[49,3,3]),(52,y30,[]),(54,y30,[52]),(56,y36,[42,43,51,51,54,37]),(62,y42,[]),(88,y2,[]),(90,y2,[88]),(91,y7,[]),(93,y13,[3,9,91,23,9,9]),(95,y17,[3,9,88,90,93]),(97,y19,[3,3,95]),(99,y39,[]),(101,y41,[3,3,99]),(104,y2,[]),(106,y2,[104]),(107,y7,[]),(109,y13,[3,9,107,23,9,9]),(111,y17,[3,9,104,106,109]),(113,y19,[3,3,111]),(141,y38,[111,23,23]),(153,y29,[]),(155,y1,[3,3,9]),(157,y6,[9,3,4,4,155]),(162,y29,[153]),(168,y43,[]),(172,y22,[9,107,23]),(174,y24,[]),(176,y24,[174]),(179,y29,[153]),(206,y24,[]),(208,y24,[206]),(225,y1,[3,3,9]),(239,y22,[9,91,23]),(262,y6,[9,3,4,4,225])]
theorem follows:Tryz.prog.follows .mixedOrders=true:=by kernel_rfl
theorem j2t:Z0e Tryz.prog tys:=ZaC (by kernel_rfl)
abbrev SO (f:Nat)(s:Sig Unit):Prop:=Z16 Tryz.prog f s
abbrev FS (l:List (FuncId×Sig Unit)):Prop:=Fns Tryz.prog l
def CN (np n:Nat)(f:Func)(x:Z1c Unit):Prop:=∀ {b:Base} {M:Nat->Prop},b.np<=np->Z13 Tryz.prog b M (cAt n (bo f)) x
theorem fK {np : Nat}{d : List (FuncId × Sig Unit)}(i : FS d){f : FuncId}{fn : Func}(X : List (Z1c Unit)){ht : HT}(g : Z1Z Tryz.prog np X ht (bo fn))(fz : Bool)(n : Tryz.prog.funcs[f]? = some fn){modes : List Mode}{ags : List Bool}{l : List AR}{m : List (Ty × List Tag)}{F : ArT l → ExT m → (List TVal → List TVal → List TVal → Res) → Res}(h : ∀x fl y k, Z8j ⟨tys, d, np⟩ X ht fz fn modes ags (mkA l x fl) (mkX m y) k = F x y k) (b : (fn.name == "runtime.NumGoroutine") = false := by kernel_rfl) (j : fn.body = some (bo fn) := by kernel_rfl) (p : Nat.ble modes.length fn.ntmps = true := by kernel_rfl) : SO f (sg modes ags l m F) := fnD follows j2t i X g fz n h b j p
theorem nK {np j:Nat}{f:Func}{g:List (FuncId×Sig Unit)}(w:FS g)(X:List (Z1c Unit)){ht:HT}(r:Z1Z Tryz.prog np X ht (cAt j (bo f)))(i:List Nat×List Nat)(q:List (Nat×List Nat×List Nat))(p:List Nat×List Nat){n m:Nat}{l:List RS}{b:List BX}{F:RsT l->BxT b->Kx Unit->Res}(h:∀x y k,Z0R ⟨tys,g,np⟩ X ht (cAt j (bo f)) (mkS n m (slR l x) (bxR b y)) (λe σ=>k e (Z9D i q p e σ))=F x y (kx n m k)):CN np j f (Nd n m l b F):=λd=>nD follows j2t w d X r i q p h
theorem lK {V K:Type}{np j:Nat}{f:Func}{i:List (FuncId×Sig Unit)}(C:FS i)(X:List (Z1c Unit)){ht:HT}(B:Z1Z Tryz.prog np X ht (cAt j (bo f)).pl)(p:List Nat×List Nat)(r:List (Nat×List Nat×List Nat))(q:List Nat×List Nat){n m:Nat}{l:List RS}{b:List BX}{g:RsT l->BxT b->V}{step:RsT l->BxT b->V->(V->Res)->K->Res}{E:RsT l->BxT b->Kx Unit->K}{w:RsT l->V->RsT l}{w2:BxT b->V->BxT b}(h:∀x y v (rec:State->Res) (k:Z82 Unit),Z0R ⟨tys,i,np⟩ X ht (cAt j (bo f)).pl (mkS n m (slR l (w x v)) (bxR b (w2 y v))) (λe σ=>match e with | .normal=>rec (σ.forget (ixR l) (b.map Prod.fst)) | e=>k e (Z9D p r q e σ))=step x y v (λv=>rec (mkS n m (slR l (w x v)) (bxR b (w2 y v)))) (E x y (kx n m k)))(z:∀x y,w x (g x y)=x:=by exact λ_ _=>rfl)(A:∀x y,w2 y (g x y)=y:=by exact λ_ _=>rfl)(D:cAt j (bo f)= .loop (cAt j (bo f)).pl:=by kernel_rfl):CN np j f (NdL n m l b g w w2 step E):=λd=>lD follows j2t C d X B p r q h z A D
end Go.PI.G
namespace Go.PI.G
noncomputable section
open Go Go.PI Go.Proofs
open Go.Code (pl pr)
def j1k (d:List qC)(f:List qC)(g:Int)(b:Int)(rec:Int->Res)(h:Unit->Res)(i:Unit->Res):Res:=bif decide (b<g) then bif inb b d.length then bif inb b f.length then bif !((sEq (nth (eS,0,false,false,0,0,eS) d b).1 (nth (eS,0,false,false,0,0,eS) f b).1)&&(((nth (eS,0,false,false,0,0,eS) d b).2.1==(nth (eS,0,false,false,0,0,eS) f b).2.1)&&(((nth (eS,0,false,false,0,0,eS) d b).2.2.1==(nth (eS,0,false,false,0,0,eS) f b).2.2.1)&&(((nth (eS,0,false,false,0,0,eS) d b).2.2.2.1==(nth (eS,0,false,false,0,0,eS) f b).2.2.2.1)&&(((nth (eS,0,false,false,0,0,eS) d b).2.2.2.2.1==(nth (eS,0,false,false,0,0,eS) f b).2.2.2.2.1)&&(((nth (eS,0,false,false,0,0,eS) d b).2.2.2.2.2.1==(nth (eS,0,false,false,0,0,eS) f b).2.2.2.2.2.1)&&(sEq (nth (eS,0,false,false,0,0,eS) d b).2.2.2.2.2.2 (nth (eS,0,false,false,0,0,eS) f b).2.2.2.2.2.2))))))) then i () else rec (Z9J (b+1)) else none else none else h ()
def j5I (f:List qC)(g:List qC)(b:Int):Int->(Int->Res)->((Unit->Res)×(Unit->Res))->Res:=λv rec q=>j1k f g b v (λd=>rec (d)) q.1 q.2
def j6K (h:List qC)(i:List qC)(b:Int)(n:Nat)(d:Int)(f:Unit->Res)(g:Unit->Res):Res:=Z1e (j5I h i b) n (d) (f,g)
def jaG:Z1c Unit:=NdL 26 26 [.R 0 y7 .S,.R 1 y7 .S,.I 12,.I 13] [] (λb d=>(b.2.2.2.1)) (λb v=>(b.1,b.2.1,b.2.2.1,v,())) (λd v=>()) (λb d=>j5I b.1 b.2.1 b.2.2.1) λb d f=>((λ_=>f (.exit 0) [] []),(λ_=>f .ret [(4,vB false)] []))
theorem jgt:CN 0 58 Tryz.f216 jaG:=lK Zar [] oN ([],[]) [(0,[],[])] ([4],[]) λ_ _ _ _ _=>by kernel_rfl
def j1d (d:List qC)(f:List qC)(b:Bool->Res):Res:=bif ((nI d.length) != (nI f.length)) then b false else j6K d f (nI d.length) Z1b 0 (λ_=>b true) (λ_=>b false)
def jbU:Sig Unit:=sg [.look y7 false,.look y7 false] [false] [(y7,none),(y7,none)] [] λb f k=>j1d b.1 b.2.1 (λd=>k [wB d] [] [])
theorem jhP:SO 216 jbU:=fK (np:=0) Zar [jaG] (oI 58 0 @jgt oN) false Tryz.func216 λ_ _ _ _=>by kernel_rfl
def jdD (f:qL)(g:qL)(d:Int)(b:Int)(rec:Int->Res)(h:Unit->Res)(i:Unit->Res):Res:=bif decide (b<d) then bif inb b f.length then bif inb b g.length then bif sNe (nth eS f b) (nth eS g b) then i () else rec (Z9J (b+1)) else none else none else h ()
def j7r (f:qL)(g:qL)(b:Int):Int->(Int->Res)->((Unit->Res)×(Unit->Res))->Res:=λv rec q=>jdD f g b v (λd=>rec (d)) q.1 q.2
def j8D (h:qL)(i:qL)(b:Int)(n:Nat)(d:Int)(f:Unit->Res)(g:Unit->Res):Res:=Z1e (j7r h i b) n (d) (f,g)
def j85:Z1c Unit:=NdL 26 26 [.R 0 y8 .S,.R 1 y8 .S,.I 12,.I 13] [] (λb d=>(b.2.2.2.1)) (λb v=>(b.1,b.2.1,b.2.2.1,v,())) (λd v=>()) (λb d=>j7r b.1 b.2.1 b.2.2.1) λb d f=>((λ_=>f (.exit 0) [] []),(λ_=>f .ret [(4,vB false)] []))
theorem je2:CN 0 58 Tryz.f217 j85:=lK Zar [] oN ([],[]) [(0,[],[])] ([4],[]) λ_ _ _ _ _=>by kernel_rfl
def j1Q (d:qL)(f:qL)(b:Bool->Res):Res:=bif ((nI d.length) != (nI f.length)) then b false else j8D d f (nI d.length) Z1b 0 (λ_=>b true) (λ_=>b false)
def j9B:Sig Unit:=sg [.look y8 false,.look y8 false] [false] [(y8,none),(y8,none)] [] λb f k=>j1Q b.1 b.2.1 (λd=>k [wB d] [] [])
theorem jfu:SO 217 j9B:=fK (np:=0) Zar [j85] (oI 58 0 @je2 oN) false Tryz.func217 λ_ _ _ _=>by kernel_rfl
def j1m (s:List Int)(h:Int)(g:Int)(b:Int)(rec:Int->Res)(d:Unit->Res)(f:Int->Res):Res:=bif decide (b<g) then bif inb b s.length then bif (h==(nth 0 s b)) then f b else rec (Z9J (b+1)) else none else d ()
def j5K (s:List Int)(f:Int)(b:Int):Int->(Int->Res)->((Unit->Res)×(Int->Res))->Res:=λv rec q=>j1m s f b v (λd=>rec (d)) q.1 q.2
def jaT (s:List Int)(h:Int)(f:Int)(n:Nat)(g:Int)(b:Unit->Res)(d:Int->Res):Res:=Z1e (j5K s h f) n (g) (b,d)
def jaI:Z1c Unit:=NdL 19 19 [.R 0 y31 .S,.I 1,.I 7,.I 8] [] (λb d=>(b.2.2.2.1)) (λb v=>(b.1,b.2.1,b.2.2.1,v,())) (λd v=>()) (λb d=>j5K b.1 b.2.1 b.2.2.1) λb d f=>((λ_=>f (.exit 0) [] []),(λg=>f .ret [(4,vI g)] []))
theorem jgv:CN 0 26 Tryz.f152 jaI:=lK Zar [] oN ([],[]) [(0,[],[])] ([4],[]) λ_ _ _ _ _=>by kernel_rfl
def j9g (s:List Int)(d:Int)(b:Int->Res):Res:=jaT s d (nI s.length) Z1b 0 (λ_=>b (-1)) (λt=>b t)
def jiC:Sig Unit:=sg [.look y31 false,.look tI false] [false] [(y31,none),(tI,none)] [] λb f k=>j9g b.1 b.2.1 (λd=>k [wI d] [] [])
theorem jhQ:SO 152 jiC:=fK (np:=0) Zar [jaI] (oI 26 0 @jgv oN) false Tryz.func152 λ_ _ _ _=>by kernel_rfl
def j0Y (s:List Int)(d:Int)(b:Bool->Res):Res:=j9g s d λr=>b (decide (r>=0))
def j5A:Sig Unit:=sg [.look y31 false,.look tI false] [false] [(y31,none),(tI,none)] [] λb f k=>j0Y b.1 b.2.1 (λd=>k [wB d] [] [])
theorem jfs:SO 104 j5A:=fK (np:=0) (Za5 jhQ Zar) [] oN false Tryz.func104 λ_ _ _ _=>by kernel_rfl
def j0c (s:qL)(h:qB)(g:Int)(b:Int)(rec:Int->Res)(d:Unit->Res)(f:Int->Res):Res:=bif decide (b<g) then bif inb b s.length then bif sEq h (nth eS s b) then f b else rec (Z9J (b+1)) else none else d ()
def j1u (s:qL)(f:qB)(b:Int):Int->(Int->Res)->((Unit->Res)×(Int->Res))->Res:=λv rec q=>j0c s f b v (λd=>rec (d)) q.1 q.2
def j4W (s:qL)(h:qB)(f:Int)(n:Nat)(g:Int)(b:Unit->Res)(d:Int->Res):Res:=Z1e (j1u s h f) n (g) (b,d)
def j86:Z1c Unit:=NdL 19 19 [.R 0 y8 .S,.S 1,.I 7,.I 8] [] (λb d=>(b.2.2.2.1)) (λb v=>(b.1,b.2.1,b.2.2.1,v,())) (λd v=>()) (λb d=>j1u b.1 b.2.1 b.2.2.1) λb d f=>((λ_=>f (.exit 0) [] []),(λg=>f .ret [(4,vI g)] []))
theorem je3:CN 0 26 Tryz.f132 j86:=lK Zar [] oN ([],[]) [(0,[],[])] ([4],[]) λ_ _ _ _ _=>by kernel_rfl
def j0K (s:qL)(d:qB)(b:Int->Res):Res:=j4W s d (nI s.length) Z1b 0 (λ_=>b (-1)) (λt=>b t)
def j5C:Sig Unit:=sg [.look y8 false,.look .str false] [false] [(y8,none),(.str,none)] [] λb f k=>j0K b.1 b.2.1 (λd=>k [wI d] [] [])
theorem j9x:SO 132 j5C:=fK (np:=0) Zar [j86] (oI 26 0 @je3 oN) false Tryz.func132 λ_ _ _ _=>by kernel_rfl
def j15 (s:qL)(d:qB)(b:Bool->Res):Res:=j0K s d λr=>b (decide (r>=0))
def j3L:Sig Unit:=sg [.look y8 false,.look .str false] [false] [(y8,none),(.str,none)] [] λb f k=>j15 b.1 b.2.1 (λd=>k [wB d] [] [])
theorem jd8:SO 83 j3L:=fK (np:=0) (Za5 j9x Zar) [] oN false Tryz.func83 λ_ _ _ _=>by kernel_rfl
def j48 (s:List qT)(i:Int)(v:List qT)(b:qF->Res):Res:=bif jjw i s.length v.length then b (jf6 s i v) else none
def j5D:Sig Unit:=⟨[.eat y23 false,.borrow tI false,.eat y23 false],[false],λvals ext k=>ao vals y23 [.O] λs vals=>av vals tI λi vals=>ao vals y23 [.O] λv vals=>nl vals<|nl ext<|j48 s i v (λb=>k [w1 y23 b .O] [] [])⟩
theorem jfv:Z16 Tryz.prog 253 j5D:=gS (jp5 (U:=0) (fr:=265) (e:=y22) (fl:=[9,107,23]) (S:=44) (E:=172) (I:=3) (B:=4) follows j2t (by kernel_rfl) Tryz.underlying44 (by kernel_rfl) (by kernel_rfl) (by kernel_rfl) (by kernel_rfl) (by kernel_rfl) Tryz.func253 (by kernel_rfl) (by kernel_rfl) (by kernel_rfl) (by kernel_rfl) Tryz.func264 (by kernel_rfl) (by kernel_rfl) (by kernel_rfl) (by kernel_rfl)) (by kernel_rfl)
def j47 (s:List qT)(i:Int)(j:Int)(b:qF->Res):Res:=bif Z8d i j s.length then b (jaX s i j) else none
def j5B:Sig Unit:=⟨[.eat y23 false,.borrow tI false,.borrow tI false],[false],λvals ext k=>ao vals y23 [.O] λs vals=>av vals tI λi vals=>av vals tI λj vals=>nl vals<|nl ext<|j47 s i j (λb=>k [w1 y23 b .O] [] [])⟩
theorem jft:Z16 Tryz.prog 254 j5B:=gS (jkv (U:=0) (e:=y22) (fl:=[9,107,23]) (S:=44) (E:=172) (I:=3) (B:=4) follows j2t (by kernel_rfl) Tryz.underlying44 (by kernel_rfl) (by kernel_rfl) (by kernel_rfl) Tryz.func254 (by kernel_rfl) (by kernel_rfl) (by kernel_rfl) (by kernel_rfl)) (by kernel_rfl)
def j1n (s:List qR)(i:Int)(v:List qR)(b:qX->Res):Res:=bif jjw i s.length v.length then b (jf6 s i v) else none
def j65:Sig Unit:=⟨[.eat y25 false,.borrow tI false,.eat y25 false],[false],λvals ext k=>ao vals y25 [.O] λs vals=>av vals tI λi vals=>ao vals y25 [.O] λv vals=>nl vals<|nl ext<|j1n s i v (λb=>k [w1 y25 b .O] [] [])⟩
theorem jgi:Z16 Tryz.prog 233 j65:=gS (jp5 (U:=0) (fr:=258) (e:=y24) (fl:=[174]) (S:=47) (E:=176) (I:=3) (B:=4) follows j2t (by kernel_rfl) Tryz.underlying47 (by kernel_rfl) (by kernel_rfl) (by kernel_rfl) (by kernel_rfl) (by kernel_rfl) Tryz.func233 (by kernel_rfl) (by kernel_rfl) (by kernel_rfl) (by kernel_rfl) Tryz.func257 (by kernel_rfl) (by kernel_rfl) (by kernel_rfl) (by kernel_rfl)) (by kernel_rfl)
def j4C (s:List qR)(i:Int)(j:Int)(b:qX->Res):Res:=bif Z8d i j s.length then b (jaX s i j) else none
def j64:Sig Unit:=⟨[.eat y25 false,.borrow tI false,.borrow tI false],[false],λvals ext k=>ao vals y25 [.O] λs vals=>av vals tI λi vals=>av vals tI λj vals=>nl vals<|nl ext<|j4C s i j (λb=>k [w1 y25 b .O] [] [])⟩
theorem jgh:Z16 Tryz.prog 234 j64:=gS (jkv (U:=0) (e:=y24) (fl:=[174]) (S:=47) (E:=176) (I:=3) (B:=4) follows j2t (by kernel_rfl) Tryz.underlying47 (by kernel_rfl) (by kernel_rfl) (by kernel_rfl) Tryz.func234 (by kernel_rfl) (by kernel_rfl) (by kernel_rfl) (by kernel_rfl)) (by kernel_rfl)
def j8g (s:List qV)(i:Int)(j:Int)(b:qW->Res):Res:=bif Z8d i j s.length then b (jaX s i j) else none
def jaR:Sig Unit:=⟨[.eat y2 false,.borrow tI false,.borrow tI false],[false],λvals ext k=>ao vals y2 [.O] λs vals=>av vals tI λi vals=>av vals tI λj vals=>nl vals<|nl ext<|j8g s i j (λb=>k [w1 y2 b .O] [] [])⟩
theorem jhw:Z16 Tryz.prog 259 jaR:=gS (jkv (U:=0) (e:=y1) (fl:=[3,3,9]) (S:=104) (E:=155) (I:=3) (B:=4) follows j2t (by kernel_rfl) Tryz.underlying104 (by kernel_rfl) (by kernel_rfl) (by kernel_rfl) Tryz.func259 (by kernel_rfl) (by kernel_rfl) (by kernel_rfl) (by kernel_rfl)) (by kernel_rfl)
def j1l (d:List qV)(f:List qV)(g:Int)(b:Int)(rec:Int->Res)(h:Unit->Res)(i:Unit->Res):Res:=bif decide (b<g) then bif inb b d.length then bif inb b f.length then bif !(((nth (0,0,eS) d b).1==(nth (0,0,eS) f b).1)&&(((nth (0,0,eS) d b).2.1==(nth (0,0,eS) f b).2.1)&&(sEq (nth (0,0,eS) d b).2.2 (nth (0,0,eS) f b).2.2))) then i () else rec (Z9J (b+1)) else none else none else h ()
def j5J (f:List qV)(g:List qV)(b:Int):Int->(Int->Res)->((Unit->Res)×(Unit->Res))->Res:=λv rec q=>j1l f g b v (λd=>rec (d)) q.1 q.2
def jaS (h:List qV)(i:List qV)(b:Int)(n:Nat)(d:Int)(f:Unit->Res)(g:Unit->Res):Res:=Z1e (j5J h i b) n (d) (f,g)
def jaH:Z1c Unit:=NdL 26 26 [.R 0 y2 .S,.R 1 y2 .S,.I 12,.I 13] [] (λb d=>(b.2.2.2.1)) (λb v=>(b.1,b.2.1,b.2.2.1,v,())) (λd v=>()) (λb d=>j5J b.1 b.2.1 b.2.2.1) λb d f=>((λ_=>f (.exit 0) [] []),(λ_=>f .ret [(4,vB false)] []))
theorem jgu:CN 0 58 Tryz.f239 jaH:=lK Zar [] oN ([],[]) [(0,[],[])] ([4],[]) λ_ _ _ _ _=>by kernel_rfl
def j1e (d:List qV)(f:List qV)(b:Bool->Res):Res:=bif ((nI d.length) != (nI f.length)) then b false else jaS d f (nI d.length) Z1b 0 (λ_=>b true) (λ_=>b false)
def j4A:Sig Unit:=sg [.look y2 false,.look y2 false] [false] [(y2,none),(y2,none)] [] λb f k=>j1e b.1 b.2.1 (λd=>k [wB d] [] [])
theorem jbL:SO 239 j4A:=fK (np:=0) Zar [jaH] (oI 58 0 @jgu oN) false Tryz.func239 λ_ _ _ _=>by kernel_rfl
def j51 (s:List qW)(i:Int)(v:List qW)(b:qR->Res):Res:=bif jjw i s.length v.length then b (jf6 s i v) else none
def j6J:Sig Unit:=⟨[.eat y24 false,.borrow tI false,.eat y24 false],[false],λvals ext k=>ao vals y24 [.O] λs vals=>av vals tI λi vals=>ao vals y24 [.O] λv vals=>nl vals<|nl ext<|j51 s i v (λb=>k [w1 y24 b .O] [] [])⟩
theorem jhx:Z16 Tryz.prog 262 j6J:=gS (jp5 (U:=0) (fr:=268) (e:=y2) (fl:=[104]) (S:=174) (E:=106) (I:=3) (B:=4) follows j2t (by kernel_rfl) Tryz.underlying174 (by kernel_rfl) (by kernel_rfl) (by kernel_rfl) (by kernel_rfl) (by kernel_rfl) Tryz.func262 (by kernel_rfl) (by kernel_rfl) (by kernel_rfl) (by kernel_rfl) Tryz.func267 (by kernel_rfl) (by kernel_rfl) (by kernel_rfl) (by kernel_rfl)) (by kernel_rfl)
def j0J (s:List qW)(i:Int)(j:Int)(b:qR->Res):Res:=bif Z8d i j s.length then b (jaX s i j) else none
def j46:Sig Unit:=⟨[.eat y24 false,.borrow tI false,.borrow tI false],[false],λvals ext k=>ao vals y24 [.O] λs vals=>av vals tI λi vals=>av vals tI λj vals=>nl vals<|nl ext<|j0J s i j (λb=>k [w1 y24 b .O] [] [])⟩
theorem jaO:Z16 Tryz.prog 240 j46:=gS (jkv (U:=0) (e:=y2) (fl:=[104]) (S:=174) (E:=106) (I:=3) (B:=4) follows j2t (by kernel_rfl) Tryz.underlying174 (by kernel_rfl) (by kernel_rfl) (by kernel_rfl) Tryz.func240 (by kernel_rfl) (by kernel_rfl) (by kernel_rfl) (by kernel_rfl)) (by kernel_rfl)
end
end Go.PI.G
namespace Go.PI.G
noncomputable section
open Go Go.PI Go.Proofs
open Go.Code (pl pr)
def j3R (s:qB)(i:Int)(rec:Int->Res)(d:Unit->Res)(b:Unit->Res):Res:=bif decide (i<(nI s.size)) then bif inb i s.size then bif decide ((bt s i)<97) then b () else bif inb i s.size then bif decide ((bt s i)>122) then b () else rec (Z9J (i+1)) else none else none else d ()
def j9h (s:qB):Int->(Int->Res)->((Unit->Res)×(Unit->Res))->Res:=λv rec q=>j3R s v (λi=>rec (i)) q.1 q.2
def jg2 (s:qB)(n:Nat)(i:Int)(b:Unit->Res)(d:Unit->Res):Res:=Z1e (j9h s) n (i) (b,d)
def jeP:Z1c Unit:=NdL 28 28 [.S 0,.I 3] [] (λb d=>(b.2.1)) (λb v=>(b.1,v,())) (λd v=>()) (λb d=>j9h b.1) λb d f=>((λ_=>f (.exit 0) [(0,vS b.1)] []),(λ_=>f .ret [(2,vB false)] []))
theorem jl7:CN 0 26 Tryz.f60 jeP:=lK Zar [] oN ([],[]) [(0,[0],[])] ([2],[]) λ_ _ _ _ _=>by kernel_rfl
def j0t (s:qB)(b:Bool->Res):Res:=jg2 s Z1b 0 (λ_=>bif decide ((nI s.size)>=1) then b (decide ((nI s.size)<=8)) else b false) (λ_=>b false)
def j2y:Sig Unit:=sg [.look .str false] [false] [(.str,none)] [] λd f k=>j0t d.1 (λb=>k [wB b] [] [])
theorem j4e:SO 60 j2y:=fK (np:=0) Zar [jeP] (oI 26 0 @jl7 oN) false Tryz.func60 λ_ _ _ _=>by kernel_rfl
def jfd (d:Int)(b:Bool->Res):Res:=bif decide (d>=(-1099511627775)) then b (decide (d<=1099511627775)) else b false
def jo8:Sig Unit:=sg [.look tI false] [false] [(tI,none)] [] λd f k=>jfd d.1 (λb=>k [wB b] [] [])
theorem jnx:SO 243 jo8:=fK (np:=0) Zar [] oN false Tryz.func243 λ_ _ _ _=>by kernel_rfl
def j1a (b:Int×Int×qB)(d:Bool->Res):Res:=bif (b.1==0) then bif (b.2.1==0) then d (sEq b.2.2 eS) else d false else bif (b.1==1) then bif (b.2.1==0) then d (sEq b.2.2 eS) else bif (b.2.1==1) then d (sEq b.2.2 eS) else d false else bif (b.1==2) then jfd b.2.1 λr=>bif r then d (sEq b.2.2 eS) else d false else bif (b.1==3) then bif (b.2.1==0) then d (decide ((nI b.2.2.size)<=30)) else d false else d false
def jaj:Sig Unit:=sg [.look y1 true] [false] [(y1,none)] [] λd f k=>j1a d.1 (λb=>k [wB b] [] [])
theorem j76:SO 212 jaj:=fK (np:=0) (Za5 jnx Zar) [] oN false Tryz.func212 λ_ _ _ _=>by kernel_rfl
def j7u (a:Int×Int×qB)(b:Int×Int×qB)(d:Bool->Res):Res:=j1a a λr=>bif !r then d false else j1a b λf=>bif !f then d false else bif (a.1 != b.1) then d (decide (a.1<b.1)) else bif decide (a.2.1<b.2.1) then d true else bif (a.2.1==b.2.1) then d (sLt a.2.2 b.2.2) else d false
def jmD:Sig Unit:=sg [.look y1 true,.look y1 true] [false] [(y1,none),(y1,none)] [] λb f k=>j7u b.1 b.2.1 (λd=>k [wB d] [] [])
theorem jfx:SO 192 jmD:=fK (np:=0) (Za5 j76 Zar) [] oN false Tryz.func192 λ_ _ _ _=>by delta j7u jaj;refine gz j1a λ_ b=> ?_;rewrite[<-b];kernel_rfl
def j0a (x:Int)(f:Int)(d:Int)(b:Bool->Res):Res:=bif decide (x>=f) then b (decide (x<=d)) else b false
def j17:Sig Unit:=sg [.look tI false,.look tI false,.look tI false] [false] [(tI,none),(tI,none),(tI,none)] [] λb f k=>j0a b.1 b.2.1 b.2.2.1 (λd=>k [wB d] [] [])
theorem j1H:SO 68 j17:=fK (np:=0) Zar [] oN false Tryz.func68 λ_ _ _ _=>by kernel_rfl
def j3s (s:qB)(i:Int)(rec:Int->Res)(d:Unit->Res)(b:Unit->Res):Res:=bif decide (i<(nI s.size)) then bif inb i s.size then bif decide ((bt s i)<97) then b () else bif inb i s.size then bif decide ((bt s i)>122) then b () else rec (Z9J (i+1)) else none else none else d ()
def j62 (s:qB):Int->(Int->Res)->((Unit->Res)×(Unit->Res))->Res:=λv rec q=>j3s s v (λi=>rec (i)) q.1 q.2
def jb2 (s:qB)(n:Nat)(i:Int)(b:Unit->Res)(d:Unit->Res):Res:=Z1e (j62 s) n (i) (b,d)
def jaD:Z1c Unit:=NdL 23 23 [.S 0,.I 3] [] (λb d=>(b.2.1)) (λb v=>(b.1,v,())) (λd v=>()) (λb d=>j62 b.1) λb d f=>((λ_=>f (.exit 0) [(0,vS b.1)] []),(λ_=>f .ret [(2,vB false)] []))
theorem jkN:CN 0 26 Tryz.f66 jaD:=lK (Za5 j1H Zar) [] oN ([],[]) [(0,[0],[])] ([2],[]) λ_ _ _ _ _=>by kernel_rfl
def j0l (s:qB)(b:Bool->Res):Res:=jb2 s Z1b 0 (λ_=>j0a (nI s.size) 1 8 λr=>b r) (λ_=>b false)
def j2w:Sig Unit:=sg [.look .str false] [false] [(.str,none)] [] λd f k=>j0l d.1 (λb=>k [wB b] [] [])
theorem j4c:SO 66 j2w:=fK (np:=0) (Za5 j1H Zar) [jaD] (oI 26 0 @jkN oN) false Tryz.func66 λ_ _ _ _=>by delta j0l jaD j17 jb2;refine gz j62 λ_ b=>gz j0a λ_ d=> ?_;rewrite[<-b,<-d];kernel_rfl
def j0V (b:Int×Int×qB)(d:Bool->Res):Res:=bif (b.1==0) then d ((b.1==0)&&((b.2.1==0)&&(sEq b.2.2 eS))) else bif (b.1==1) then j0a b.2.1 0 1 λr=>bif r then d (sEq b.2.2 eS) else d false else bif (b.1==2) then j0a b.2.1 (-1099511627775) 1099511627775 λf=>bif f then d (sEq b.2.2 eS) else d false else bif (b.1==3) then bif (b.2.1==0) then d (decide ((nI b.2.2.size)<=30)) else d false else d false
def j7m:Sig Unit:=sg [.look y1 true] [false] [(y1,none)] [] λd f k=>j0V d.1 (λb=>k [wB b] [] [])
theorem j74:SO 220 j7m:=fK (np:=0) (Za5 j1H Zar) [] oN false Tryz.func220 λ_ _ _ _=>by delta j0V j17;refine gz j0a λ_ b=> ?_;rewrite[<-b];kernel_rfl
def j7a (a:Int×Int×qB)(b:Int×Int×qB)(d:Bool->Res):Res:=j0V a λr=>bif !r then d false else j0V b λf=>bif !f then d false else bif (a.1 != b.1) then d (decide (a.1<b.1)) else bif (a.2.1 != b.2.1) then d (decide (a.2.1<b.2.1)) else d (sLt a.2.2 b.2.2)
def jmt:Sig Unit:=sg [.look y1 true,.look y1 true] [false] [(y1,none),(y1,none)] [] λb f k=>j7a b.1 b.2.1 (λd=>k [wB d] [] [])
theorem jfl:SO 207 jmt:=fK (np:=0) (Za5 j74 Zar) [] oN false Tryz.func207 λ_ _ _ _=>by delta j7a j7m;refine gz j0V λ_ b=> ?_;rewrite[<-b];kernel_rfl
end
end Go.PI.G
