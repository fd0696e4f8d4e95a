/-
  Program's code interpreted over typed values; printed texts; plain laws. No conditions.
-/
import Derived.Test.YtiaipepkkjlccaaGreatPDc
import Derived.Test.YtiaipepkkjlccaaGreatPDa
import Derived.Test.YtiaipepkkjlccaaGreatProg
set_option linter.unusedVariables false
set_option linter.unusedSimpArgs false
namespace Go.PI
open Go
theorem jfP:(τ:Ty)->∀c∈zeroCells τ,one c=true
 |.int _,c,h=>by simp[zeroCells]at h;subst h;rfl
 |.bool,c,h=>by simp[zeroCells]at h;subst h;rfl
 |.str,c,h=>by simp[zeroCells]at h;subst h;rfl
 |.unit,c,h=>by simp[zeroCells]at h
 |.slice _,c,h=>by simp[zeroCells]at h;subst h;rfl
 |.pair a b,c,h=>by
  simp only[zeroCells,Qr]at h;exact h.elim (jfP a c) (jfP b c)
section
variable {P:Program}{tys:List (TypeId×Ty×List TypeId)}{S E I B U T:TypeId}{e:Ty}{fl:List TypeId}
theorem jgh (hT:Z0e P tys){t:TypeId}{τ:Ty}{l:List TypeId}(h:Z0o tys t=some (τ,l))(w:World):(sizeOf t).run P w= .ok (size τ) w:=by
 obtain⟨i,z,hi,hs,_⟩:=(hT t τ l h).info;simp[sizeOf,typeInfo,hi,hs]
theorem jpW (hm:P.follows .mixedOrders=true)(hT:Z0e P tys)(hS:Z0o tys S=some (.slice e,[]))(hu:P.underlying S=some (.slice E))(hI:Z0o tys I=some (.int .i64,[]))(hB:Z0o tys B=some (.bool,[]))(hE:Z0o tys E=some (e,fl)) :
  ∃z,SlT P S E I B (size e) z/\∃i:TypeInfo,P.info? E=some i/\i.size=size e/\i.zero=some z/\i.bytes<=65536:=by
 obtain⟨i,z,hi,hs,hb,_,hz,hzc,_⟩:=(hT E e fl hE).info;obtain⟨iS,zS,hiS,hsS,_,_,hzS,hzcS,hshS⟩:=(hT S _ _ hS).info;have hzS2:zS= .slice none 0 0:=by
  have h1:one zS=true:=hshS;have h2:=Z8O h1;have h3:zS.cells.toList=[.slice none 0 0]:=hzcS;cases zS<;>simp_all[Value.oneCell',Value.cells]
 refine⟨z,⟨hm,hu,λw=>Z6L hT hS w,λw=>jgh hT hS w,λw=> ?_,((hT I _ _ hI).und rfl).1 _ rfl,λw=>Z6L hT hI w,λw=>jgh hT hI w,((hT B _ _ hB).und rfl).2.1 rfl,λw=>Z6L hT hB w,λw=>jgh hT hB w,λw=>jgh hT hE w,λw=> ?_,⟨i,hi,hs⟩,?_,λc hc=> ?_⟩,i,hi,hs,hz,hb⟩
 ·simp[zeroValue,typeInfo,hiS,hzS,hzS2]
 ·simp[zeroValue,typeInfo,hi,hz]
 ·rw[<-X8,hzc,(Z2Y (w:=default) (F:=λ_=>0) (St:=λ_=>True) (Al:=λ_=>True) e).len.1]
 ·rw[hzc]at hc;exact jfP e c hc
def jxO:Ty->Bool
 |.int .u8=>false
 |_=>true
theorem jxg {e:Ty}(h:jxO e=true):e≠ .int .u8:=λhh=>by subst hh;cases h
theorem gS {a b:Sig Unit}{f:FuncId}(s:Z16 P f a)(h:a=b):Z16 P f b:=h ▸ s
theorem jp5 (hm:P.follows .mixedOrders=true)(hT:Z0e P tys)(hS:Z0o tys S=some (.slice e,[]))(hu:P.underlying S=some (.slice E))(hI:Z0o tys I=some (.int .i64,[]))(hB:Z0o tys B=some (.bool,[]))(hE:Z0o tys E=some (e,fl))
  {f : FuncId} {fn : Func} (hf : P.funcs[f]? = some fn) (hb : fn.body = some (jgm S I B U)) (hn : fn.ntmps = 33) (hr : fn.results = #[.tmp 6]) (hname : (fn.name == "runtime.NumGoroutine") = false) : Z16 P f (jw1 e) := by
 obtain⟨z,L,_⟩:=jpW hm hT hS hu hI hB hE;exact jw2 L hf hb hn hr hname
theorem jtv (hm:P.follows .mixedOrders=true)(hT:Z0e P tys)(hS:Z0o tys S=some (.slice e,[]))(hu:P.underlying S=some (.slice E))(hI:Z0o tys I=some (.int .i64,[]))(hB:Z0o tys B=some (.bool,[]))(hE:Z0o tys E=some (e,fl))(hk:Nat.ble 1 (size e)=true)(he:jxO e=true)
  {f fo fr : FuncId} {fn fno : Func} (hf : P.funcs[f]? = some fn) (hb : fn.body = some (jcn S I B U fo fr)) (hn : fn.ntmps = 95) (hr : fn.results = #[.tmp 6]) (hname : (fn.name == "runtime.NumGoroutine") = false)
  (hfo : P.funcs[fo]? = some fno) (hno : (fno.name == "runtime.NumGoroutine") = false) (hbo : fno.body.isNone = true) (hxo : Extern.findNext fno = none) (heo : Extern.find fno = some (Extern.SlicesOverlaps.overlaps #[S, S] #[B])) : Z16 P f (jpe e) := by
 obtain⟨z,L,hE2⟩:=jpW hm hT hS hu hI hB hE;exact jwc L hE2 (QP hk) (jxg he) hf hb hn hr hname hfo hno hbo hxo heo
theorem jyj {ag:Bool}{τ:Ty}{tg:List Tag}(hm:P.follows .mixedOrders=true)(hT:Z0e P tys)(hS:Z0o tys S=some (.slice e,[]))(hu:P.underlying S=some (.slice E))(hI:Z0o tys I=some (.int .i64,[]))(hB:Z0o tys B=some (.bool,[]))(hE:Z0o tys E=some (e,fl))(hag:ag= !fl.isEmpty)(aT:∀w,(isAgg T).run P w= .ok false w)(zT:∀w,(sizeOf T).run P w= .ok 1 w)
  (hk1:Nat.ble 1 (size e)=true) (hk2:(ag||Nat.beq (size e) 1)=true) (htg:tg.all (λt=> !t.isN)=true)
  {fx : FuncId} {fnx : Func} (hfx : P.funcs[fx]? = some fnx) (hbx : fnx.body = some (j8R S E I B U T)) (hnx : fnx.ntmps = 19) (hrx : fnx.results = #[.tmp 4]) (hnamex : (fnx.name == "runtime.NumGoroutine") = false)
  {g:FuncId} {gs:Sig Unit} (hg:Z16 P g gs) (hgm:gs.modes=[.look e ag,.rptr τ])
  {f : FuncId} {fn : Func} (hf : P.funcs[f]? = some fn) (hb : fn.body = some (jjv S E I B U T fx)) (hn : fn.ntmps = 42) (hr : fn.results = #[.tmp 4]) (hname : (fn.name == "runtime.NumGoroutine") = false) : Z16 P f (jsI e g ag τ tg gs) := by
 obtain⟨z,L,_⟩:=jpW hm hT hS hu hI hB hE;exact jwU L hT hE hag (λw=>by rw[hag];exact Z6L hT hE w) aT zT hk1 hk2 htg hfx hbx hnx hrx hnamex hg hgm hf hb hn hr hname
theorem jw3 {ag:Bool}{τ:Ty}{tg:List Tag}(hm:P.follows .mixedOrders=true)(hT:Z0e P tys)(hS:Z0o tys S=some (.slice e,[]))(hu:P.underlying S=some (.slice E))(hI:Z0o tys I=some (.int .i64,[]))(hB:Z0o tys B=some (.bool,[]))(hE:Z0o tys E=some (e,fl))(hag:ag= !fl.isEmpty)(aT:∀w,(isAgg T).run P w= .ok false w)(zT:∀w,(sizeOf T).run P w= .ok 1 w)
  (hk1:Nat.ble 1 (size e)=true) (hk2:(ag||Nat.beq (size e) 1)=true) (htg:tg.all (λt=> !t.isN)=true)
  {fx : FuncId} {fnx : Func} (hfx : P.funcs[fx]? = some fnx) (hbx : fnx.body = some (j8R S E I B U T)) (hnx : fnx.ntmps = 19) (hrx : fnx.results = #[.tmp 4]) (hnamex : (fnx.name == "runtime.NumGoroutine") = false)
  {g:FuncId} {gs:Sig Unit} (hg:Z16 P g gs) (hgm:gs.modes=[.look e ag,.rptr τ])
  {f : FuncId} {fn : Func} (hf : P.funcs[f]? = some fn) (hb : fn.body = some (jgn S E I B U T fx)) (hn : fn.ntmps = 42) (hr : fn.results = #[.tmp 4]) (hname : (fn.name == "runtime.NumGoroutine") = false) : Z16 P f (jsI e g ag τ tg gs) := by
 obtain⟨z,L,_⟩:=jpW hm hT hS hu hI hB hE;exact jw5 L hT hE hag (λw=>by rw[hag];exact Z6L hT hE w) aT zT hk1 hk2 htg hfx hbx hnx hrx hnamex hg hgm hf hb hn hr hname
end
end Go.PI
namespace Go.PI
noncomputable section
abbrev AR:=Ty×Option (List Tag)
@[reducible] def ArT:List AR->Type
 | []=>Unit
 |a::l=>El a.1×ArT l
@[reducible] def ExT:List (Ty×List Tag)->Type
 | []=>Unit
 |a::l=>(Bool×El a.1)×ExT l
section
variable {R:Type}{r:R}
def rdA:(l:List AR)->List TVal->(ArT l->Option R)->Option R
 | [],vals,f=>nl vals (f ())
 |(τ,none)::l,vals,f=>av vals τ λx vals=>rdA l vals λy=>f (x,y)
 |(τ,some tg)::l,vals,f=>ao vals τ tg λx vals=>rdA l vals λy=>f (x,y)
def mkA:(l:List AR)->ArT l->(Nat->Bool×List Tag)->List TVal
 | [],_,_=>[]
 |(τ,none)::l,x,fl=>⟨τ,(fl 0).1,x.1,(fl 0).2⟩::mkA l x.2 λn=>fl (n+1)
 |(τ,some tg)::l,x,fl=>⟨τ,(fl 0).1,x.1,tg⟩::mkA l x.2 λn=>fl (n+1)
def jxo:(l:List (Ty×List Tag))->List TVal->(ExT l->Option R)->Option R
 | [],vals,f=>nl vals (f ())
 |(τ,tg)::l,vals,f=>ab vals τ tg λa x vals=>jxo l vals λy=>f ((a,x),y)
def mkX:(l:List (Ty×List Tag))->ExT l->List TVal
 | [],_=>[]
 |(τ,tg)::l,x=>⟨τ,x.1.1,x.1.2,tg⟩::mkX l x.2
theorem joD:(l:List AR)->{vals:List TVal}->{f:ArT l->Option R}->rdA l vals f=some r->∃x fl,vals=mkA l x fl/\f x=some r
 | [],vals,f,h=>by
  obtain⟨e,h⟩:=Zav h;exact⟨(),λ_=>(false,[]),e,h⟩
 |(τ,none)::l,vals,f,h=>by
  obtain⟨x,a,t,l',e,h⟩:=Zao h;obtain⟨y,fl,b,h⟩:=joD l h;exact⟨(x,y),λn=>Nat.casesOn n (a,t) fl,by rw[e,b];rfl,h⟩
 |(τ,some tg)::l,vals,f,h=>by
  obtain⟨a,x,l',e,h⟩:=Zan h;obtain⟨y,fl,b,h⟩:=joD l h;exact⟨(x,y),λn=>Nat.casesOn n (a,[]) fl,by rw[e,b];rfl,h⟩
theorem jrE:(l:List (Ty×List Tag))->{vals:List TVal}->{f:ExT l->Option R}->jxo l vals f=some r->∃x,vals=mkX l x/\f x=some r
 | [],vals,f,h=>by
  obtain⟨e,h⟩:=Zav h;exact⟨(),e,h⟩
 |(τ,tg)::l,vals,f,h=>by
  obtain⟨a,x,l',e,h⟩:=Zam h;obtain⟨y,b,h⟩:=jrE l h;exact⟨((a,x),y),by rw[e,b];rfl,h⟩
def sg (modes:List Mode)(ags:List Bool)(l:List AR)(m:List (Ty×List Tag))(f:ArT l->ExT m->(List TVal->List TVal->List TVal->Option R)->Option R):Sig R:=
 ⟨modes,ags,λvals ext k=>rdA l vals λx=>jxo m ext λy=>f x y k⟩
end
inductive RS where
 |v (i:Nat) (τ:Ty) (ag:Bool) (tg:List Tag)
 |u (i:Nat) (τ:Ty) (ag:Bool) (tg:List Tag) (ags:List Bool)
 |e (i:Nat) (τ:Ty) (ag:Bool) (tg:List Tag) (t:Tag)
 |c (i:Nat) (f:FuncId) (τs:List Ty) (τ:Ty) (tg:List Tag)
 |t (i:Nat) (p:TV)
abbrev RS.I (i:Nat):RS:= .v i (.int .i64) false []
abbrev RS.B (i:Nat):RS:= .v i .bool false []
abbrev RS.S (i:Nat):RS:= .v i .str false []
abbrev RS.R (i:Nat)(τ:Ty)(t:Tag):RS:= .v i τ false [t]
@[reducible] def RsT:List RS->Type
 | []=>Unit
 |.v _ τ _ _::l=>El τ×RsT l
 |.u _ τ _ _ _::l=>El τ×RsT l
 |.e _ τ _ _ _::l=>El τ×RsT l
 |.c _ _ _ τ _::l=>El τ×RsT l
 |.t _ _::l=>RsT l
abbrev BX:=Nat×Ty×List Tag
@[reducible] def BxT:List BX->Type
 | []=>Unit
 |a::l=>(Bool×El a.2.1)×BxT l
section
variable {R:Type}{r:R}
def rdR (σ:State):(l:List RS)->(RsT l->Option R)->Option R
 | [],f=>f ()
 |.v i τ ag tg::l,f=>rdV σ i τ ag tg λx=>rdR σ l λy=>f (x,y)
 |.u i τ ag tg ags::l,f=>rdU σ i τ ag tg ags λx=>rdR σ l λy=>f (x,y)
 |.e i τ ag tg t::l,f=>rdE σ i τ ag tg t λx=>rdR σ l λy=>f (x,y)
 |.c i g b τ tg::l,f=>rdC σ i g b τ tg λx=>rdR σ l λy=>f (x,y)
 |.t i p::l,f=>rdT σ i p (rdR σ l f)
def slR:(l:List RS)->RsT l->List (Nat×TV)
 | [],_=>[]
 |.v i τ ag tg::l,x=>(i,.val ⟨τ,ag,x.1,tg⟩)::slR l x.2
 |.u i τ ag tg ags::l,x=>(i,.tup ⟨τ,ag,x.1,tg⟩ ags)::slR l x.2
 |.e i τ ag tg t::l,x=>(i,.eptr ⟨τ,ag,x.1,tg⟩ t)::slR l x.2
 |.c i g b τ tg::l,x=>(i,.sclos g b ⟨τ,false,x.1,tg⟩)::slR l x.2
 |.t i p::l,x=>(i,p)::slR l x
def ixR:List RS->List Nat
 | []=>[]
 |.v i _ _ _::l=>i::ixR l
 |.u i _ _ _ _::l=>i::ixR l
 |.e i _ _ _ _::l=>i::ixR l
 |.c i _ _ _ _::l=>i::ixR l
 |.t i _::l=>i::ixR l
def jxn (σ:State):(l:List BX)->(BxT l->Option R)->Option R
 | [],f=>f ()
 |(i,τ,tg)::l,f=>rdB σ i τ tg λa x=>jxn σ l λy=>f ((a,x),y)
def bxR:(l:List BX)->BxT l->List (Nat×TVal)
 | [],_=>[]
 |(i,τ,tg)::l,x=>(i,⟨τ,x.1.1,x.1.2,tg⟩)::bxR l x.2
theorem jeq {σ:State}:(l:List RS)->{f:RsT l->Option R}->rdR σ l f=some r->∃x,Z4b σ (slR l x)/\f x=some r
 | [],f,h=>⟨(),trivial,h⟩
 |.v i τ ag tg::l,f,h=>by
  obtain⟨x,e,h⟩:=Zae h;obtain⟨y,b,h⟩:=jeq l h;exact⟨(x,y),⟨e,b⟩,h⟩
 |.u i τ ag tg ags::l,f,h=>by
  obtain⟨x,e,h⟩:=Zad h;obtain⟨y,b,h⟩:=jeq l h;exact⟨(x,y),⟨e,b⟩,h⟩
 |.e i τ ag tg t::l,f,h=>by
  obtain⟨x,e,h⟩:=Zaa h;obtain⟨y,b,h⟩:=jeq l h;exact⟨(x,y),⟨e,b⟩,h⟩
 |.c i g d τ tg::l,f,h=>by
  obtain⟨x,e,h⟩:=Za9 h;obtain⟨y,b,h⟩:=jeq l h;exact⟨(x,y),⟨e,b⟩,h⟩
 |.t i p::l,f,h=>by
  obtain⟨e,h⟩:=Zac h;obtain⟨y,b,h⟩:=jeq l h;exact⟨y,⟨e,b⟩,h⟩
theorem jrD {σ:State}:(l:List BX)->{f:BxT l->Option R}->jxn σ l f=some r->∃x,Z4a σ (bxR l x)/\f x=some r
 | [],f,h=>⟨(),trivial,h⟩
 |(i,τ,tg)::l,f,h=>by
  obtain⟨a,x,e,h⟩:=Za8 h;obtain⟨y,b,h⟩:=jrD l h;exact⟨((a,x),y),⟨e,b⟩,h⟩
abbrev Kx (R:Type):=Ex->List (Nat×TV)->List (Nat×TVal)->Option R
abbrev kx (n m:Nat)(k:Z82 R):Kx R:=λe d b=>k e (mkS n m d b)
def Nd (n m:Nat)(l:List RS)(b:List BX)(f:RsT l->BxT b->Kx R->Option R):Z1c R:=λσ k=>rdN σ n (rdR σ l λx=>jxn σ b λy=>f x y (kx n m k))
theorem juN {n m:Nat}{l:List RS}{b:List BX}{f:RsT l->BxT b->Kx R->Option R}{σ:State}{k:Z82 R}(h:Nd n m l b f σ k=some r):∃x y,Z2E (mkS n m (slR l x) (bxR b y)) σ/\f x y (kx n m k)=some r:=by
 obtain⟨g,h⟩:=Zab h;obtain⟨x,e,h⟩:=jeq l h;obtain⟨y,d,h⟩:=jrD b h;exact⟨x,y,ZaL g e d,h⟩
def NdL {V K:Type}(n m:Nat)(l:List RS)(b:List BX)(d:RsT l->BxT b->V)(w:RsT l->V->RsT l)(w2:BxT b->V->BxT b)(step:RsT l->BxT b->V->(V->Option R)->K->Option R)(E:RsT l->BxT b->Kx R->K):Z1c R:=
 Nd n m l b λx y k=>Z1e (step x y) Z1b (d x y) (E x y k)
variable {P:Program}{np:Nat}{X:List (Z1c R)}{ty:List (TypeId×Ty×List TypeId)}{fs:List (FuncId×Sig R)}[Subsingleton R]
theorem fnD (w:P.follows .mixedOrders=true)(n:Z0e P ty)(j:Fns P fs){f:FuncId}{fn:Func}(X:List (Z1c R)){ht:HT}(i:Z1Z P np X ht (bo fn))(fz:Bool)(q:P.funcs[f]? = some fn)
  {modes:List Mode} {ags:List Bool} {l:List AR} {m:List (Ty×List Tag)} {F:ArT l->ExT m->(List TVal->List TVal->List TVal->Option R)->Option R}
  (h:∀x fl y k,Z8j ⟨ty,fs,np⟩ X ht fz fn modes ags (mkA l x fl) (mkX m y) k=F x y k)
  (b : (fn.name == "runtime.NumGoroutine") = false := by kernel_rfl) (p : fn.body = some (bo fn) := by kernel_rfl) (z : Nat.ble modes.length fn.ntmps = true := by kernel_rfl) : Z16 P f (sg modes ags l m F) :=
 jxK w n j X i fz q (λvals ext k B A=>by
  obtain⟨x,fl,rfl,d⟩:=joD l A;obtain⟨y,rfl,g⟩:=jrE m d;exact(h x fl y k).trans g) b p z
theorem nD (C:P.follows .mixedOrders=true)(B:Z0e P ty)(A:Fns P fs){j:Base}{M:Nat->Prop}(g:j.np<=np)(X:List (Z1c R)){c:Code}{ht:HT}(z:Z1Z P np X ht c)
  (p:List Nat×List Nat) (w:List (Nat×List Nat×List Nat)) (q:List Nat×List Nat) {n m:Nat} {l:List RS} {b:List BX} {f:RsT l->BxT b->Kx R->Option R}
  (h:∀x y k,Z0R ⟨ty,fs,np⟩ X ht c (mkS n m (slR l x) (bxR b y)) (λe σ=>k e (Z9D p w q e σ))=f x y (kx n m k)):Z13 P j M c (Nd n m l b f):=
 jsK C B A g X z p w q λσ k D i=>by
  obtain⟨x,y,d,i⟩:=juN i;exact⟨_,d,(h x y k).trans i⟩
theorem lD {V K:Type}(H:P.follows .mixedOrders=true)(F:Z0e P ty)(D:Fns P fs){j:Base}{M:Nat->Prop}(g:j.np<=np)(X:List (Z1c R)){c:Code}{ht:HT}(C:Z1Z P np X ht c.pl)
  (p:List Nat×List Nat) (z:List (Nat×List Nat×List Nat)) (q:List Nat×List Nat) {n m:Nat} {l:List RS} {b:List BX} {d:RsT l->BxT b->V} {step:RsT l->BxT b->V->(V->Option R)->K->Option R} {E:RsT l->BxT b->Kx R->K}
  {w:RsT l->V->RsT l} {w2:BxT b->V->BxT b}
  (h:∀x y v (rec:State->Option R) (k:Z82 R),Z0R ⟨ty,fs,np⟩ X ht c.pl (mkS n m (slR l (w x v)) (bxR b (w2 y v))) (λe σ=>match e with | .normal=>rec (σ.forget (ixR l) (b.map Prod.fst)) | e=>k e (Z9D p z q e σ)) =
   step x y v (λv=>rec (mkS n m (slR l (w x v)) (bxR b (w2 y v)))) (E x y (kx n m k)))
  (A:∀x y,w x (d x y)=x:=by exact λ_ _=>rfl) (B:∀x y,w2 y (d x y)=y:=by exact λ_ _=>rfl) (G:c= .loop c.pl:=by kernel_rfl):Z13 P j M c (NdL n m l b d w w2 step E):=
 jph H F D g X C (ixR l) (b.map Prod.fst) p z q (λσ k I i=>by
  obtain⟨x,y,f,i⟩:=juN i;refine⟨_,f,?_⟩;have:=Z9t (λv=>mkS n m (slR l (w x v)) (bxR b (w2 y v))) (step x y) (λk=>E x y (kx n m k)) (λv rec k=>h x y v rec k) Z1b (d x y) k
  rw[A,B]at this;exact this.trans i) G
end
end
end Go.PI
set_option maxRecDepth 100000
namespace Go.PI.G
open Go Go.PI Go.Proofs
open Go.Code (pl pr)
abbrev qV:=Int×Int×ByteArray
abbrev qW:=List qV
abbrev qC:=ByteArray×Int×Bool×Bool×Int×Int×ByteArray
abbrev qE:=List qC
abbrev qT:=ByteArray×qE×List ByteArray
abbrev qF:=List qT
abbrev qR:=List qW
abbrev qX:=List qR
abbrev qD:=qF×List qR
abbrev qB:=ByteArray
abbrev qL:=List ByteArray
abbrev qS:=Int×ByteArray×qW×qW×Int×ByteArray×qE×List ByteArray×ByteArray×ByteArray
abbrev qG:=Int×ByteArray×qE×List ByteArray×ByteArray×ByteArray
abbrev qP:=Int×Int×qS
abbrev qQ:=Int×qP×Int×Int×Int
abbrev qU:=List qS
abbrev y0:Ty:= .pair tI .str
abbrev y1:Ty:= .pair tI y0
abbrev y2:Ty:= .slice y1
abbrev y3:Ty:= .pair .bool y1
abbrev y4:Ty:= .pair .bool y3
abbrev y5:Ty:= .pair tI y4
abbrev y6:Ty:= .pair .str y5
abbrev y7:Ty:= .slice y6
abbrev y8:Ty:= .slice .str
abbrev y9:Ty:= .pair .str .str
abbrev y10:Ty:= .pair y8 y9
abbrev y11:Ty:= .pair y7 y10
abbrev y12:Ty:= .pair .str y11
abbrev y13:Ty:= .pair tI y12
abbrev y14:Ty:= .pair y2 y13
abbrev y15:Ty:= .pair y2 y14
abbrev y16:Ty:= .pair .str y15
abbrev y17:Ty:= .pair tI y16
abbrev y18:Ty:= .pair tI y17
abbrev y19:Ty:= .pair tI y18
abbrev y20:Ty:= .slice y19
abbrev y21:Ty:= .pair y7 y8
abbrev y22:Ty:= .pair .str y21
abbrev y23:Ty:= .slice y22
abbrev y24:Ty:= .slice y2
abbrev y25:Ty:= .slice y24
abbrev y26:Ty:= .pair y23 y25
abbrev y27:Ty:= .pair tI tI
abbrev y28:Ty:= .pair y26 y27
abbrev y29:Ty:= .slice (.int .u8)
abbrev y30:Ty:= .slice y29
abbrev y31:Ty:= .slice tI
abbrev y32:Ty:= .pair y30 y31
abbrev y33:Ty:= .pair y28 y32
abbrev y34:Ty:= .pair y28 y33
abbrev y35:Ty:= .pair y8 y34
abbrev y36:Ty:= .pair y20 y35
abbrev y37:Ty:= .pair y8 y8
abbrev y38:Ty:= .pair y17 y37
abbrev y39:Ty:= .slice y38
abbrev y40:Ty:= .pair tI y39
abbrev y41:Ty:= .pair tI y40
abbrev y42:Ty:= .slice y41
abbrev y43:Ty:= .slice y17
abbrev y44:Ty:= .pair y22 y2
def jyp:qB:=⟨#[109,48]⟩
def z_m:qB:=⟨#[109]⟩
def tys:List (TypeId×Ty×List TypeId):=[(3,tI,[]),(4,.bool,[]),(5,(.int .u8),[]),(9,.str,[]),(22,y20,[]),(23,y8,[]),(25,y8,[23]),(26,y23,[]),(28,y23,[26]),(29,y25,[]),(31,y26,[28,29]),(33,y28,[31,3,3]),(34,y30,[]),(36,y30,[34]),(37,y31,[]),(39,y36,[22,25,33,33,36,37]),(42,y20,[]),(43,y8,[23]),(44,y23,[]),(46,y23,[44]),(47,y25,[]),(49,y26,[46,47]),(51,y28,[49,3,3]),(52,y30,[]),(54,y30,[52]),(56,y36,[42,43,51,51,54,37]),(62,y42,[]),(88,y2,[]),(90,y2,[88]),(91,y7,[]),(93,y13,[3,9,91,23,9,9]),(95,y17,[3,9,88,90,93]),(97,y19,[3,3,95]),(99,y39,[]),(101,y41,[3,3,99]),(104,y2,[]),(106,y2,[104]),(107,y7,[]),(109,y13,[3,9,107,23,9,9]),(111,y17,[3,9,104,106,109]),(113,y19,[3,3,111]),(141,y38,[111,23,23]),(153,y29,[]),(155,y1,[3,3,9]),(157,y6,[9,3,4,4,155]),(162,y29,[153]),(168,y43,[]),(172,y22,[9,107,23]),(174,y24,[]),(176,y24,[174]),(179,y29,[153]),(206,y24,[]),(208,y24,[206]),(225,y1,[3,3,9]),(239,y22,[9,91,23]),(262,y6,[9,3,4,4,225])]
theorem follows:Tryz.prog.follows .mixedOrders=true:=by kernel_rfl
theorem j2e:Z0e Tryz.prog tys:=ZaC (by kernel_rfl)
abbrev SO (f:Nat)(s:Sig Unit):Prop:=Z16 Tryz.prog f s
abbrev FS (l:List (FuncId×Sig Unit)):Prop:=Fns Tryz.prog l
def CN (np n:Nat)(f:Func)(x:Z1c Unit):Prop:=∀ {b:Base} {M:Nat->Prop},b.np<=np->Z13 Tryz.prog b M (cAt n (bo f)) x
theorem fK {np : Nat}{d : List (FuncId × Sig Unit)}(i : FS d){f : FuncId}{fn : Func}(X : List (Z1c Unit)){ht : HT}(g : Z1Z Tryz.prog np X ht (bo fn))(fz : Bool)(n : Tryz.prog.funcs[f]? = some fn){modes : List Mode}{ags : List Bool}{l : List AR}{m : List (Ty × List Tag)}{F : ArT l → ExT m → (List TVal → List TVal → List TVal → Res) → Res}(h : ∀x fl y k, Z8j ⟨tys, d, np⟩ X ht fz fn modes ags (mkA l x fl) (mkX m y) k = F x y k) (b : (fn.name == "runtime.NumGoroutine") = false := by kernel_rfl) (j : fn.body = some (bo fn) := by kernel_rfl) (p : Nat.ble modes.length fn.ntmps = true := by kernel_rfl) : SO f (sg modes ags l m F) := fnD follows j2e i X g fz n h b j p
theorem nK {np j:Nat}{f:Func}{g:List (FuncId×Sig Unit)}(w:FS g)(X:List (Z1c Unit)){ht:HT}(r:Z1Z Tryz.prog np X ht (cAt j (bo f)))(i:List Nat×List Nat)(q:List (Nat×List Nat×List Nat))(p:List Nat×List Nat){n m:Nat}{l:List RS}{b:List BX}{F:RsT l->BxT b->Kx Unit->Res}(h:∀x y k,Z0R ⟨tys,g,np⟩ X ht (cAt j (bo f)) (mkS n m (slR l x) (bxR b y)) (λe σ=>k e (Z9D i q p e σ))=F x y (kx n m k)):CN np j f (Nd n m l b F):=λd=>nD follows j2e w d X r i q p h
theorem lK {V K:Type}{np j:Nat}{f:Func}{i:List (FuncId×Sig Unit)}(C:FS i)(X:List (Z1c Unit)){ht:HT}(B:Z1Z Tryz.prog np X ht (cAt j (bo f)).pl)(p:List Nat×List Nat)(r:List (Nat×List Nat×List Nat))(q:List Nat×List Nat){n m:Nat}{l:List RS}{b:List BX}{g:RsT l->BxT b->V}{step:RsT l->BxT b->V->(V->Res)->K->Res}{E:RsT l->BxT b->Kx Unit->K}{w:RsT l->V->RsT l}{w2:BxT b->V->BxT b}(h:∀x y v (rec:State->Res) (k:Z82 Unit),Z0R ⟨tys,i,np⟩ X ht (cAt j (bo f)).pl (mkS n m (slR l (w x v)) (bxR b (w2 y v))) (λe σ=>match e with | .normal=>rec (σ.forget (ixR l) (b.map Prod.fst)) | e=>k e (Z9D p r q e σ))=step x y v (λv=>rec (mkS n m (slR l (w x v)) (bxR b (w2 y v)))) (E x y (kx n m k)))(z:∀x y,w x (g x y)=x:=by exact λ_ _=>rfl)(A:∀x y,w2 y (g x y)=y:=by exact λ_ _=>rfl)(D:cAt j (bo f)= .loop (cAt j (bo f)).pl:=by kernel_rfl):CN np j f (NdL n m l b g w w2 step E):=λd=>lD follows j2e C d X B p r q h z A D
end Go.PI.G
namespace Go.PI.G
noncomputable section
open Go Go.PI Go.Proofs
open Go.Code (pl pr)
def j22 (d:List qC)(f:List qC)(g:Int)(b:Int)(rec:Int->Res)(h:Unit->Res)(i:Unit->Res):Res:=bif decide (b<g) then bif inb b d.length then bif inb b f.length then bif !((sEq (nth (eS,0,false,false,0,0,eS) d b).1 (nth (eS,0,false,false,0,0,eS) f b).1)&&(((nth (eS,0,false,false,0,0,eS) d b).2.1==(nth (eS,0,false,false,0,0,eS) f b).2.1)&&(((nth (eS,0,false,false,0,0,eS) d b).2.2.1==(nth (eS,0,false,false,0,0,eS) f b).2.2.1)&&(((nth (eS,0,false,false,0,0,eS) d b).2.2.2.1==(nth (eS,0,false,false,0,0,eS) f b).2.2.2.1)&&(((nth (eS,0,false,false,0,0,eS) d b).2.2.2.2.1==(nth (eS,0,false,false,0,0,eS) f b).2.2.2.2.1)&&(((nth (eS,0,false,false,0,0,eS) d b).2.2.2.2.2.1==(nth (eS,0,false,false,0,0,eS) f b).2.2.2.2.2.1)&&(sEq (nth (eS,0,false,false,0,0,eS) d b).2.2.2.2.2.2 (nth (eS,0,false,false,0,0,eS) f b).2.2.2.2.2.2))))))) then i () else rec (Z9J (b+1)) else none else none else h ()
def j7V (f:List qC)(g:List qC)(b:Int):Int->(Int->Res)->((Unit->Res)×(Unit->Res))->Res:=λv rec q=>j22 f g b v (λd=>rec (d)) q.1 q.2
def j9g (h:List qC)(i:List qC)(b:Int)(n:Nat)(d:Int)(f:Unit->Res)(g:Unit->Res):Res:=Z1e (j7V h i b) n (d) (f,g)
def jdF:Z1c Unit:=NdL 26 26 [.R 0 y7 .S,.R 1 y7 .S,.I 12,.I 13] [] (λb d=>(b.2.2.2.1)) (λb v=>(b.1,b.2.1,b.2.2.1,v,())) (λd v=>()) (λb d=>j7V b.1 b.2.1 b.2.2.1) λb d f=>((λ_=>f (.exit 0) [] []),(λ_=>f .ret [(4,vB false)] []))
theorem jkp:CN 0 58 Tryz.f216 jdF:=lK Zar [] oN ([],[]) [(0,[],[])] ([4],[]) λ_ _ _ _ _=>by kernel_rfl
def j1Q (d:List qC)(f:List qC)(b:Bool->Res):Res:=bif ((nI d.length) != (nI f.length)) then b false else j9g d f (nI d.length) Z1b 0 (λ_=>b true) (λ_=>b false)
def jfa:Sig Unit:=sg [.look y7 false,.look y7 false] [false] [(y7,none),(y7,none)] [] λb f k=>j1Q b.1 b.2.1 (λd=>k [wB d] [] [])
theorem jlM:SO 216 jfa:=fK (np:=0) Zar [jdF] (oI 58 0 @jkp oN) false Tryz.func216 λ_ _ _ _=>by kernel_rfl
def jhr (f:qL)(g:qL)(d:Int)(b:Int)(rec:Int->Res)(h:Unit->Res)(i:Unit->Res):Res:=bif decide (b<d) then bif inb b f.length then bif inb b g.length then bif sNe (nth eS f b) (nth eS g b) then i () else rec (Z9J (b+1)) else none else none else h ()
def ja7 (f:qL)(g:qL)(b:Int):Int->(Int->Res)->((Unit->Res)×(Unit->Res))->Res:=λv rec q=>jhr f g b v (λd=>rec (d)) q.1 q.2
def jbv (h:qL)(i:qL)(b:Int)(n:Nat)(d:Int)(f:Unit->Res)(g:Unit->Res):Res:=Z1e (ja7 h i b) n (d) (f,g)
def jaS:Z1c Unit:=NdL 26 26 [.R 0 y8 .S,.R 1 y8 .S,.I 12,.I 13] [] (λb d=>(b.2.2.2.1)) (λb v=>(b.1,b.2.1,b.2.2.1,v,())) (λd v=>()) (λb d=>ja7 b.1 b.2.1 b.2.2.1) λb d f=>((λ_=>f (.exit 0) [] []),(λ_=>f .ret [(4,vB false)] []))
theorem jhJ:CN 0 58 Tryz.f217 jaS:=lK Zar [] oN ([],[]) [(0,[],[])] ([4],[]) λ_ _ _ _ _=>by kernel_rfl
def j2V (d:qL)(f:qL)(b:Bool->Res):Res:=bif ((nI d.length) != (nI f.length)) then b false else jbv d f (nI d.length) Z1b 0 (λ_=>b true) (λ_=>b false)
def jco:Sig Unit:=sg [.look y8 false,.look y8 false] [false] [(y8,none),(y8,none)] [] λb f k=>j2V b.1 b.2.1 (λd=>k [wB d] [] [])
theorem jjh:SO 217 jco:=fK (np:=0) Zar [jaS] (oI 58 0 @jhJ oN) false Tryz.func217 λ_ _ _ _=>by kernel_rfl
def j24 (s:List Int)(h:Int)(g:Int)(b:Int)(rec:Int->Res)(d:Unit->Res)(f:Int->Res):Res:=bif decide (b<g) then bif inb b s.length then bif (h==(nth 0 s b)) then f b else rec (Z9J (b+1)) else none else d ()
def j7X (s:List Int)(f:Int)(b:Int):Int->(Int->Res)->((Unit->Res)×(Int->Res))->Res:=λv rec q=>j24 s f b v (λd=>rec (d)) q.1 q.2
def jdV (s:List Int)(h:Int)(f:Int)(n:Nat)(g:Int)(b:Unit->Res)(d:Int->Res):Res:=Z1e (j7X s h f) n (g) (b,d)
def jdH:Z1c Unit:=NdL 19 19 [.R 0 y31 .S,.I 1,.I 7,.I 8] [] (λb d=>(b.2.2.2.1)) (λb v=>(b.1,b.2.1,b.2.2.1,v,())) (λd v=>()) (λb d=>j7X b.1 b.2.1 b.2.2.1) λb d f=>((λ_=>f (.exit 0) [] []),(λg=>f .ret [(4,vI g)] []))
theorem jkr:CN 0 26 Tryz.f152 jdH:=lK Zar [] oN ([],[]) [(0,[],[])] ([4],[]) λ_ _ _ _ _=>by kernel_rfl
def jbX (s:List Int)(d:Int)(b:Int->Res):Res:=jdV s d (nI s.length) Z1b 0 (λ_=>b (-1)) (λt=>b t)
def jmv:Sig Unit:=sg [.look y31 false,.look tI false] [false] [(y31,none),(tI,none)] [] λb f k=>jbX b.1 b.2.1 (λd=>k [wI d] [] [])
theorem jlN:SO 152 jmv:=fK (np:=0) Zar [jdH] (oI 26 0 @jkr oN) false Tryz.func152 λ_ _ _ _=>by kernel_rfl
def j1z (s:List Int)(d:Int)(b:Bool->Res):Res:=jbX s d λr=>b (decide (r>=0))
def j7J:Sig Unit:=sg [.look y31 false,.look tI false] [false] [(y31,none),(tI,none)] [] λb f k=>j1z b.1 b.2.1 (λd=>k [wB d] [] [])
theorem jjf:SO 104 j7J:=fK (np:=0) (Za5 jlN Zar) [] oN false Tryz.func104 λ_ _ _ _=>by kernel_rfl
def j0k (s:qL)(h:qB)(g:Int)(b:Int)(rec:Int->Res)(d:Unit->Res)(f:Int->Res):Res:=bif decide (b<g) then bif inb b s.length then bif sEq h (nth eS s b) then f b else rec (Z9J (b+1)) else none else d ()
def j2n (s:qL)(f:qB)(b:Int):Int->(Int->Res)->((Unit->Res)×(Int->Res))->Res:=λv rec q=>j0k s f b v (λd=>rec (d)) q.1 q.2
def j6W (s:qL)(h:qB)(f:Int)(n:Nat)(g:Int)(b:Unit->Res)(d:Int->Res):Res:=Z1e (j2n s h f) n (g) (b,d)
def jaT:Z1c Unit:=NdL 19 19 [.R 0 y8 .S,.S 1,.I 7,.I 8] [] (λb d=>(b.2.2.2.1)) (λb v=>(b.1,b.2.1,b.2.2.1,v,())) (λd v=>()) (λb d=>j2n b.1 b.2.1 b.2.2.1) λb d f=>((λ_=>f (.exit 0) [] []),(λg=>f .ret [(4,vI g)] []))
theorem jhK:CN 0 26 Tryz.f132 jaT:=lK Zar [] oN ([],[]) [(0,[],[])] ([4],[]) λ_ _ _ _ _=>by kernel_rfl
def j11 (s:qL)(d:qB)(b:Int->Res):Res:=j6W s d (nI s.length) Z1b 0 (λ_=>b (-1)) (λt=>b t)
def j7L:Sig Unit:=sg [.look y8 false,.look .str false] [false] [(y8,none),(.str,none)] [] λb f k=>j11 b.1 b.2.1 (λd=>k [wI d] [] [])
theorem jcm:SO 132 j7L:=fK (np:=0) Zar [jaT] (oI 26 0 @jhK oN) false Tryz.func132 λ_ _ _ _=>by kernel_rfl
def j0X (s:qL)(d:qB)(b:Bool->Res):Res:=j11 s d λr=>b (decide (r>=0))
def j5r:Sig Unit:=sg [.look y8 false,.look .str false] [false] [(y8,none),(.str,none)] [] λb f k=>j0X b.1 b.2.1 (λd=>k [wB d] [] [])
theorem j9N:SO 83 j5r:=fK (np:=0) (Za5 jcm Zar) [] oN false Tryz.func83 λ_ _ _ _=>by kernel_rfl
def j5S (s:List qT)(i:Int)(v:List qT)(b:qF->Res):Res:=bif jnV i s.length v.length then b (jiP s i v) else none
def j7M:Sig Unit:=⟨[.eat y23 false,.borrow tI false,.eat y23 false],[false],λvals ext k=>ao vals y23 [.O] λs vals=>av vals tI λi vals=>ao vals y23 [.O] λv vals=>nl vals<|nl ext<|j5S s i v (λb=>k [w1 y23 b .O] [] [])⟩
theorem jji:Z16 Tryz.prog 253 j7M:=gS (jtv (U:=0) (fr:=265) (e:=y22) (fl:=[9,107,23]) (S:=44) (E:=172) (I:=3) (B:=4) follows j2e (by kernel_rfl) Tryz.underlying44 (by kernel_rfl) (by kernel_rfl) (by kernel_rfl) (by kernel_rfl) (by kernel_rfl) Tryz.func253 (by kernel_rfl) (by kernel_rfl) (by kernel_rfl) (by kernel_rfl) Tryz.func264 (by kernel_rfl) (by kernel_rfl) (by kernel_rfl) (by kernel_rfl)) (by kernel_rfl)
def j5R (s:List qT)(i:Int)(j:Int)(b:qF->Res):Res:=bif Z8d i j s.length then b (je7 s i j) else none
def j7K:Sig Unit:=⟨[.eat y23 false,.borrow tI false,.borrow tI false],[false],λvals ext k=>ao vals y23 [.O] λs vals=>av vals tI λi vals=>av vals tI λj vals=>nl vals<|nl ext<|j5R s i j (λb=>k [w1 y23 b .O] [] [])⟩
theorem jjg:Z16 Tryz.prog 254 j7K:=gS (jp5 (U:=0) (e:=y22) (fl:=[9,107,23]) (S:=44) (E:=172) (I:=3) (B:=4) follows j2e (by kernel_rfl) Tryz.underlying44 (by kernel_rfl) (by kernel_rfl) (by kernel_rfl) Tryz.func254 (by kernel_rfl) (by kernel_rfl) (by kernel_rfl) (by kernel_rfl)) (by kernel_rfl)
def j25 (s:List qR)(i:Int)(v:List qR)(b:qX->Res):Res:=bif jnV i s.length v.length then b (jiP s i v) else none
def j8t:Sig Unit:=⟨[.eat y25 false,.borrow tI false,.eat y25 false],[false],λvals ext k=>ao vals y25 [.O] λs vals=>av vals tI λi vals=>ao vals y25 [.O] λv vals=>nl vals<|nl ext<|j25 s i v (λb=>k [w1 y25 b .O] [] [])⟩
theorem jk8:Z16 Tryz.prog 233 j8t:=gS (jtv (U:=0) (fr:=258) (e:=y24) (fl:=[174]) (S:=47) (E:=176) (I:=3) (B:=4) follows j2e (by kernel_rfl) Tryz.underlying47 (by kernel_rfl) (by kernel_rfl) (by kernel_rfl) (by kernel_rfl) (by kernel_rfl) Tryz.func233 (by kernel_rfl) (by kernel_rfl) (by kernel_rfl) (by kernel_rfl) Tryz.func257 (by kernel_rfl) (by kernel_rfl) (by kernel_rfl) (by kernel_rfl)) (by kernel_rfl)
def j6A (s:List qR)(i:Int)(j:Int)(b:qX->Res):Res:=bif Z8d i j s.length then b (je7 s i j) else none
def j8s:Sig Unit:=⟨[.eat y25 false,.borrow tI false,.borrow tI false],[false],λvals ext k=>ao vals y25 [.O] λs vals=>av vals tI λi vals=>av vals tI λj vals=>nl vals<|nl ext<|j6A s i j (λb=>k [w1 y25 b .O] [] [])⟩
theorem jk7:Z16 Tryz.prog 234 j8s:=gS (jp5 (U:=0) (e:=y24) (fl:=[174]) (S:=47) (E:=176) (I:=3) (B:=4) follows j2e (by kernel_rfl) Tryz.underlying47 (by kernel_rfl) (by kernel_rfl) (by kernel_rfl) Tryz.func234 (by kernel_rfl) (by kernel_rfl) (by kernel_rfl) (by kernel_rfl)) (by kernel_rfl)
def jb3 (s:List qV)(i:Int)(j:Int)(b:qW->Res):Res:=bif Z8d i j s.length then b (je7 s i j) else none
def jdT:Sig Unit:=⟨[.eat y2 false,.borrow tI false,.borrow tI false],[false],λvals ext k=>ao vals y2 [.O] λs vals=>av vals tI λi vals=>av vals tI λj vals=>nl vals<|nl ext<|jb3 s i j (λb=>k [w1 y2 b .O] [] [])⟩
theorem jlp:Z16 Tryz.prog 259 jdT:=gS (jp5 (U:=0) (e:=y1) (fl:=[3,3,9]) (S:=104) (E:=155) (I:=3) (B:=4) follows j2e (by kernel_rfl) Tryz.underlying104 (by kernel_rfl) (by kernel_rfl) (by kernel_rfl) Tryz.func259 (by kernel_rfl) (by kernel_rfl) (by kernel_rfl) (by kernel_rfl)) (by kernel_rfl)
def j23 (d:List qV)(f:List qV)(g:Int)(b:Int)(rec:Int->Res)(h:Unit->Res)(i:Unit->Res):Res:=bif decide (b<g) then bif inb b d.length then bif inb b f.length then bif !(((nth (0,0,eS) d b).1==(nth (0,0,eS) f b).1)&&(((nth (0,0,eS) d b).2.1==(nth (0,0,eS) f b).2.1)&&(sEq (nth (0,0,eS) d b).2.2 (nth (0,0,eS) f b).2.2))) then i () else rec (Z9J (b+1)) else none else none else h ()
def j7W (f:List qV)(g:List qV)(b:Int):Int->(Int->Res)->((Unit->Res)×(Unit->Res))->Res:=λv rec q=>j23 f g b v (λd=>rec (d)) q.1 q.2
def jdU (h:List qV)(i:List qV)(b:Int)(n:Nat)(d:Int)(f:Unit->Res)(g:Unit->Res):Res:=Z1e (j7W h i b) n (d) (f,g)
def jdG:Z1c Unit:=NdL 26 26 [.R 0 y2 .S,.R 1 y2 .S,.I 12,.I 13] [] (λb d=>(b.2.2.2.1)) (λb v=>(b.1,b.2.1,b.2.2.1,v,())) (λd v=>()) (λb d=>j7W b.1 b.2.1 b.2.2.1) λb d f=>((λ_=>f (.exit 0) [] []),(λ_=>f .ret [(4,vB false)] []))
theorem jkq:CN 0 58 Tryz.f239 jdG:=lK Zar [] oN ([],[]) [(0,[],[])] ([4],[]) λ_ _ _ _ _=>by kernel_rfl
def j1R (d:List qV)(f:List qV)(b:Bool->Res):Res:=bif ((nI d.length) != (nI f.length)) then b false else jdU d f (nI d.length) Z1b 0 (λ_=>b true) (λ_=>b false)
def j6y:Sig Unit:=sg [.look y2 false,.look y2 false] [false] [(y2,none),(y2,none)] [] λb f k=>j1R b.1 b.2.1 (λd=>k [wB d] [] [])
theorem jf1:SO 239 j6y:=fK (np:=0) Zar [jdG] (oI 58 0 @jkq oN) false Tryz.func239 λ_ _ _ _=>by kernel_rfl
def j72 (s:List qW)(i:Int)(v:List qW)(b:qR->Res):Res:=bif jnV i s.length v.length then b (jiP s i v) else none
def j9f:Sig Unit:=⟨[.eat y24 false,.borrow tI false,.eat y24 false],[false],λvals ext k=>ao vals y24 [.O] λs vals=>av vals tI λi vals=>ao vals y24 [.O] λv vals=>nl vals<|nl ext<|j72 s i v (λb=>k [w1 y24 b .O] [] [])⟩
theorem jlq:Z16 Tryz.prog 262 j9f:=gS (jtv (U:=0) (fr:=268) (e:=y2) (fl:=[104]) (S:=174) (E:=106) (I:=3) (B:=4) follows j2e (by kernel_rfl) Tryz.underlying174 (by kernel_rfl) (by kernel_rfl) (by kernel_rfl) (by kernel_rfl) (by kernel_rfl) Tryz.func262 (by kernel_rfl) (by kernel_rfl) (by kernel_rfl) (by kernel_rfl) Tryz.func267 (by kernel_rfl) (by kernel_rfl) (by kernel_rfl) (by kernel_rfl)) (by kernel_rfl)
def j0Z (s:List qW)(i:Int)(j:Int)(b:qR->Res):Res:=bif Z8d i j s.length then b (je7 s i j) else none
def j5Q:Sig Unit:=⟨[.eat y24 false,.borrow tI false,.borrow tI false],[false],λvals ext k=>ao vals y24 [.O] λs vals=>av vals tI λi vals=>av vals tI λj vals=>nl vals<|nl ext<|j0Z s i j (λb=>k [w1 y24 b .O] [] [])⟩
theorem jdO:Z16 Tryz.prog 240 j5Q:=gS (jp5 (U:=0) (e:=y2) (fl:=[104]) (S:=174) (E:=106) (I:=3) (B:=4) follows j2e (by kernel_rfl) Tryz.underlying174 (by kernel_rfl) (by kernel_rfl) (by kernel_rfl) Tryz.func240 (by kernel_rfl) (by kernel_rfl) (by kernel_rfl) (by kernel_rfl)) (by kernel_rfl)
end
end Go.PI.G
namespace Go.PI.G
noncomputable section
open Go Go.PI Go.Proofs
open Go.Code (pl pr)
def j5x (s:qB)(i:Int)(rec:Int->Res)(d:Unit->Res)(b:Unit->Res):Res:=bif decide (i<(nI s.size)) then bif inb i s.size then bif decide ((bt s i)<97) then b () else bif inb i s.size then bif decide ((bt s i)>122) then b () else rec (Z9J (i+1)) else none else none else d ()
def jbZ (s:qB):Int->(Int->Res)->((Unit->Res)×(Unit->Res))->Res:=λv rec q=>j5x s v (λi=>rec (i)) q.1 q.2
def jjR (s:qB)(n:Nat)(i:Int)(b:Unit->Res)(d:Unit->Res):Res:=Z1e (jbZ s) n (i) (b,d)
def jiA:Z1c Unit:=NdL 28 28 [.S 0,.I 3] [] (λb d=>(b.2.1)) (λb v=>(b.1,v,())) (λd v=>()) (λb d=>jbZ b.1) λb d f=>((λ_=>f (.exit 0) [(0,vS b.1)] []),(λ_=>f .ret [(2,vB false)] []))
theorem jpH:CN 0 26 Tryz.f60 jiA:=lK Zar [] oN ([],[]) [(0,[0],[])] ([2],[]) λ_ _ _ _ _=>by kernel_rfl
def j0x (s:qB)(b:Bool->Res):Res:=jjR s Z1b 0 (λ_=>bif decide ((nI s.size)>=1) then b (decide ((nI s.size)<=8)) else b false) (λ_=>b false)
def j3V:Sig Unit:=sg [.look .str false] [false] [(.str,none)] [] λd f k=>j0x d.1 (λb=>k [wB b] [] [])
theorem j2H:SO 60 j3V:=fK (np:=0) Zar [jiA] (oI 26 0 @jpH oN) false Tryz.func60 λ_ _ _ _=>by kernel_rfl
def jiX (d:Int)(b:Bool->Res):Res:=bif decide (d>=(-1099511627775)) then b (decide (d<=1099511627775)) else b false
def jsy:Sig Unit:=sg [.look tI false] [false] [(tI,none)] [] λd f k=>jiX d.1 (λb=>k [wB b] [] [])
theorem js7:SO 243 jsy:=fK (np:=0) Zar [] oN false Tryz.func243 λ_ _ _ _=>by kernel_rfl
def j1L (b:Int×Int×qB)(d:Bool->Res):Res:=bif (b.1==0) then bif (b.2.1==0) then d (sEq b.2.2 eS) else d false else bif (b.1==1) then bif (b.2.1==0) then d (sEq b.2.2 eS) else bif (b.2.1==1) then d (sEq b.2.2 eS) else d false else bif (b.1==2) then jiX b.2.1 λr=>bif r then d (sEq b.2.2 eS) else d false else bif (b.1==3) then bif (b.2.1==0) then d (decide ((nI b.2.2.size)<=30)) else d false else d false
def jdc:Sig Unit:=sg [.look y1 true] [false] [(y1,none)] [] λd f k=>j1L d.1 (λb=>k [wB b] [] [])
theorem j9O:SO 212 jdc:=fK (np:=0) (Za5 js7 Zar) [] oN false Tryz.func212 λ_ _ _ _=>by kernel_rfl
def jad (a:Int×Int×qB)(b:Int×Int×qB)(d:Bool->Res):Res:=j1L a λr=>bif !r then d false else j1L b λf=>bif !f then d false else bif (a.1 != b.1) then d (decide (a.1<b.1)) else bif decide (a.2.1<b.2.1) then d true else bif (a.2.1==b.2.1) then d (sLt a.2.2 b.2.2) else d false
def jr6:Sig Unit:=sg [.look y1 true,.look y1 true] [false] [(y1,none),(y1,none)] [] λb f k=>jad b.1 b.2.1 (λd=>k [wB d] [] [])
theorem jjm:SO 192 jr6:=fK (np:=0) (Za5 j9O Zar) [] oN false Tryz.func192 λ_ _ _ _=>by delta jad jdc;refine gz j1L λ_ b=> ?_;rewrite[<-b];kernel_rfl
def j0d (x:Int)(f:Int)(d:Int)(b:Bool->Res):Res:=bif decide (x>=f) then b (decide (x<=d)) else b false
def j1k:Sig Unit:=sg [.look tI false,.look tI false,.look tI false] [false] [(tI,none),(tI,none),(tI,none)] [] λb f k=>j0d b.1 b.2.1 b.2.2.1 (λd=>k [wB d] [] [])
theorem j2G:SO 68 j1k:=fK (np:=0) Zar [] oN false Tryz.func68 λ_ _ _ _=>by kernel_rfl
def j53 (s:qB)(i:Int)(rec:Int->Res)(d:Unit->Res)(b:Unit->Res):Res:=bif decide (i<(nI s.size)) then bif inb i s.size then bif decide ((bt s i)<97) then b () else bif inb i s.size then bif decide ((bt s i)>122) then b () else rec (Z9J (i+1)) else none else none else d ()
def j8l (s:qB):Int->(Int->Res)->((Unit->Res)×(Unit->Res))->Res:=λv rec q=>j53 s v (λi=>rec (i)) q.1 q.2
def jee (s:qB)(n:Nat)(i:Int)(b:Unit->Res)(d:Unit->Res):Res:=Z1e (j8l s) n (i) (b,d)
def jdz:Z1c Unit:=NdL 23 23 [.S 0,.I 3] [] (λb d=>(b.2.1)) (λb v=>(b.1,v,())) (λd v=>()) (λb d=>j8l b.1) λb d f=>((λ_=>f (.exit 0) [(0,vS b.1)] []),(λ_=>f .ret [(2,vB false)] []))
theorem jpn:CN 0 26 Tryz.f66 jdz:=lK (Za5 j2G Zar) [] oN ([],[]) [(0,[0],[])] ([2],[]) λ_ _ _ _ _=>by kernel_rfl
def j0r (s:qB)(b:Bool->Res):Res:=jee s Z1b 0 (λ_=>j0d (nI s.size) 1 8 λr=>b r) (λ_=>b false)
def j3S:Sig Unit:=sg [.look .str false] [false] [(.str,none)] [] λd f k=>j0r d.1 (λb=>k [wB b] [] [])
theorem j3P:SO 66 j3S:=fK (np:=0) (Za5 j2G Zar) [jdz] (oI 26 0 @jpn oN) false Tryz.func66 λ_ _ _ _=>by delta j0r jdz j1k jee;refine gz j8l λ_ b=>gz j0d λ_ d=> ?_;rewrite[<-b,<-d];kernel_rfl
def j1p (b:Int×Int×qB)(d:Bool->Res):Res:=bif (b.1==0) then d ((b.1==0)&&((b.2.1==0)&&(sEq b.2.2 eS))) else bif (b.1==1) then j0d b.2.1 0 1 λr=>bif r then d (sEq b.2.2 eS) else d false else bif (b.1==2) then j0d b.2.1 (-1099511627775) 1099511627775 λf=>bif f then d (sEq b.2.2 eS) else d false else bif (b.1==3) then bif (b.2.1==0) then d (decide ((nI b.2.2.size)<=30)) else d false else d false
def ja1:Sig Unit:=sg [.look y1 true] [false] [(y1,none)] [] λd f k=>j1p d.1 (λb=>k [wB b] [] [])
theorem j9K:SO 220 ja1:=fK (np:=0) (Za5 j2G Zar) [] oN false Tryz.func220 λ_ _ _ _=>by delta j1p j1k;refine gz j0d λ_ b=> ?_;rewrite[<-b];kernel_rfl
def j9T (a:Int×Int×qB)(b:Int×Int×qB)(d:Bool->Res):Res:=j1p a λr=>bif !r then d false else j1p b λf=>bif !f then d false else bif (a.1 != b.1) then d (decide (a.1<b.1)) else bif (a.2.1 != b.2.1) then d (decide (a.2.1<b.2.1)) else d (sLt a.2.2 b.2.2)
def jr3:Sig Unit:=sg [.look y1 true,.look y1 true] [false] [(y1,none),(y1,none)] [] λb f k=>j9T b.1 b.2.1 (λd=>k [wB d] [] [])
theorem jja:SO 207 jr3:=fK (np:=0) (Za5 j9K Zar) [] oN false Tryz.func207 λ_ _ _ _=>by delta j9T ja1;refine gz j1p λ_ b=> ?_;rewrite[<-b];kernel_rfl
end
end Go.PI.G
