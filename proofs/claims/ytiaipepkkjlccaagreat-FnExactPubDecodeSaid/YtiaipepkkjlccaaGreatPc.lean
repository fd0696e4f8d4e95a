/-
  Program's code interpreted over typed values; printed texts; plain laws. No conditions.
-/
import Derived.Test.YtiaipepkkjlccaaGreatPb
import Derived.KernelRfl
import Derived.WalkKit
import Derived.ProofKit
import Derived.OpenShut
import Derived.Below
import Derived.Carry
import Derived.WideShapes
import Derived.ShutString
import Derived.ChangeOld
set_option linter.unusedVariables false
set_option linter.unusedSimpArgs false
namespace Go.PI
noncomputable section
def Z2E (σ' σ:State):Prop:=σ'.slots.length=σ.slots.length/\(∀i,σ'.slot i=σ.slot i\/σ'.slot i= .dead)/\∀i,σ'.boxAt i=σ.boxAt i\/σ'.boxAt i=none
theorem Z2E.refl (σ:State):Z2E σ σ:=⟨rfl,λ_=> .inl rfl,λ_=> .inl rfl⟩
theorem Z3T (σ:State)(ks b:List Nat):Z2E (σ.forget ks b) σ:=
 ⟨Z3k _ _ _,λi=>Z2Q ks σ.slots 0 i,λi=>Z2P b σ.boxes 0 i⟩
def Z9D (n:List Nat×List Nat)(x:List (Nat×List Nat×List Nat))(r:List Nat×List Nat):Ex->State->State
 |.normal,σ=>σ.forget n.1 n.2
 |.exit j,σ=>match Z0o x j with
  |some q=>σ.forget q.1 q.2
  |none=>σ
 |.ret,σ=>σ.forget r.1 r.2
theorem Zap (n:List Nat×List Nat)(x:List (Nat×List Nat×List Nat))(r:List Nat×List Nat)(e:Ex)(σ:State):Z2E (Z9D n x r e σ) σ:=by
 cases e with
 |normal=>exact Z3T _ _ _
 |ret=>exact Z3T _ _ _
 |exit j=>
  unfold Z9D;simp only[];split
  ·exact Z3T _ _ _
  ·exact Z2E.refl _
def Z2n:Nat->Nat->List (Nat×TV)->List TV
 | 0,_,_=>[]
 |n+1,i,[]=> .dead::Z2n n (i+1) []
 |n+1,i,(j,v)::l=>bif i==j then v::Z2n n (i+1) l else .dead::Z2n n (i+1) ((j,v)::l)
def Z3Q:Nat->Nat->List (Nat×TVal)->List (Option TVal)
 | 0,_,_=>[]
 |n+1,i,[]=>none::Z3Q n (i+1) []
 |n+1,i,(j,v)::l=>bif i==j then some v::Z3Q n (i+1) l else none::Z3Q n (i+1) ((j,v)::l)
def mkS (n m:Nat)(d:List (Nat×TV))(b:List (Nat×TVal)):State:=⟨Z2n n 0 d,Z3Q m 0 b⟩
theorem Z4X:(n i:Nat)->(l:List (Nat×TV))->(Z2n n i l).length=n
 | 0,_,_=>by simp[Z2n]
 |n+1,i,[]=>by simp[Z2n,Z4X n]
 |n+1,i,(j,v)::l=>by
  unfold Z2n;cases i==j<;>simp[Z4X n]
theorem Z3S:(n i:Nat)->(l:List (Nat×TV))->(q:Nat)->Z0u .dead (Z2n n i l) q= .dead\/(i+q,Z0u .dead (Z2n n i l) q)∈l
 | 0,_,_,_=> .inl rfl
 |n+1,i,[],0=> .inl rfl
 |n+1,i,[],q+1=>by
  have:=Z3S n (i+1) [] q;rcases this with h | h
  ·exact .inl h
  ·cases h
 |n+1,i,(j,v)::l,0=>by
  unfold Z2n;cases h:i==j with
  |true=>right;simp at h;subst h;simp[Z0x,Z0s,Z0p]
  |false=>left;rfl
 |n+1,i,(j,v)::l,q+1=>by
  unfold Z2n;cases h:i==j with
  |true=>
   rcases Z3S n (i+1) l q with b | b
   ·exact .inl b
   ·right;rw[show i+(q+1)=i+1+q by omega]
    exact Qa _ b
  |false=>
   rcases Z3S n (i+1) ((j,v)::l) q with b | b
   ·exact .inl b
   ·right;rw[show i+(q+1)=i+1+q by omega]
    exact b
theorem Z3R:(n i:Nat)->(l:List (Nat×TVal))->(q:Nat)->Z0u none (Z3Q n i l) q=none\/∃v,Z0u none (Z3Q n i l) q=some v/\(i+q,v)∈l
 | 0,_,_,_=> .inl rfl
 |n+1,i,[],0=> .inl rfl
 |n+1,i,[],q+1=>by
  rcases Z3R n (i+1) [] q with h | ⟨v,_,h⟩
  ·exact .inl h
  ·cases h
 |n+1,i,(j,v)::l,0=>by
  unfold Z3Q;cases h:i==j with
  |true=>right;simp at h;subst h;exact⟨v,by simp[Z0x,Z0s,Z0p]⟩
  |false=>left;rfl
 |n+1,i,(j,v)::l,q+1=>by
  unfold Z3Q;cases h:i==j with
  |true=>
   rcases Z3R n (i+1) l q with b | ⟨u,d,b⟩
   ·exact .inl b
   ·right;refine⟨u,d,?_⟩;rw[show i+(q+1)=i+1+q by omega]
    exact Qa _ b
  |false=>
   rcases Z3R n (i+1) ((j,v)::l) q with b | ⟨u,d,b⟩
   ·exact .inl b
   ·right;refine⟨u,d,?_⟩;rw[show i+(q+1)=i+1+q by omega]
    exact b
def Z4b (σ:State):List (Nat×TV)->Prop
 | []=>True
 |(i,v)::l=>σ.slot i=v/\Z4b σ l
def Z4a (σ:State):List (Nat×TVal)->Prop
 | []=>True
 |(i,v)::l=>σ.boxAt i=some v/\Z4a σ l
theorem Z4b.mem {σ:State}:{l:List (Nat×TV)}->Z4b σ l->{i:Nat}->{v:TV}->(i,v)∈l->σ.slot i=v
 |(j,u)::l,h,i,v,b=>by
  rcases Qp.1 b with b | b
  ·cases b;exact h.1
  ·exact Z4b.mem h.2 b
theorem Z4a.mem {σ:State}:{l:List (Nat×TVal)}->Z4a σ l->{i:Nat}->{v:TVal}->(i,v)∈l->σ.boxAt i=some v
 |(j,u)::l,h,i,v,b=>by
  rcases Qp.1 b with b | b
  ·cases b;exact h.1
  ·exact Z4a.mem h.2 b
theorem ZaL {σ:State}{n m:Nat}{d:List (Nat×TV)}{b:List (Nat×TVal)}(g:σ.slots.length=n)(j:Z4b σ d)(f:Z4a σ b):Z2E (mkS n m d b) σ:=by
 refine⟨(Z4X _ _ _).trans g.symm,λi=> ?_,λi=> ?_⟩
 ·rcases Z3S n 0 d i with h | h
  ·exact .inr h
  ·rw[Xu]at h;exact .inl (j.mem h).symm
 ·rcases Z3R m 0 b i with h | ⟨v,e,h⟩
  ·exact .inr h
  ·rw[Xu]at h;exact .inl (e.trans (f.mem h).symm)
section
variable {R:Type}{r:R}
def rdN (σ:State)(n:Nat)(f:Option R):Option R:=if σ.slots.length=n then f else none
def asV (v:TVal)(τ:Ty)(ag:Bool)(tg:List Tag)(f:El τ->Option R):Option R:=
 if v.ag=ag/\v.tg=tg then (if h:v.τ=τ then f (h ▸ v.x) else none) else none
def rdV (σ:State)(i:Nat)(τ:Ty)(ag:Bool)(tg:List Tag)(f:El τ->Option R):Option R:=
 match σ.slot i with
 |.val v=>asV v τ ag tg f
 |_=>none
def rdU (σ:State)(i:Nat)(τ:Ty)(ag:Bool)(tg:List Tag)(ags:List Bool)(f:El τ->Option R):Option R:=
 match σ.slot i with
 |.tup v l=>if l=ags then asV v τ ag tg f else none
 |_=>none
def rdE (σ:State)(i:Nat)(τ:Ty)(ag:Bool)(tg:List Tag)(t:Tag)(f:El τ->Option R):Option R:=
 match σ.slot i with
 |.eptr v s=>if s=t then asV v τ ag tg f else none
 |_=>none
def rdC (σ:State)(i:Nat)(f:FuncId)(d:List Ty)(τ:Ty)(tg:List Tag)(k:El τ->Option R):Option R:=
 match σ.slot i with
 |.sclos g b v=>if g=f/\b=d then asV v τ false tg k else none
 |_=>none
def Z5E (v:TVal)(τ:Ty)(tg:List Tag)(f:Bool->El τ->Option R):Option R:=
 if v.tg=tg then (if h:v.τ=τ then f v.ag (h ▸ v.x) else none) else none
def Z85 (v:TVal)(τ:Ty)(f:El τ->Option R):Option R:=if h:v.τ=τ then f (h ▸ v.x) else none
def rdB (σ:State)(i:Nat)(τ:Ty)(tg:List Tag)(f:Bool->El τ->Option R):Option R:=
 match σ.boxAt i with
 |some v=>Z5E v τ tg f
 |none=>none
def TV.same:TV->TV->Bool
 |.nil,.nil=>true
 |.ref p a,.ref q b=>decide (p=q/\a=b)
 |.ptr p,.ptr q=>decide (p=q)
 |.eref p,.eref q=>decide (p=q)
 |.clos f d,.clos g e=>decide (f=g/\d=e)
 |_,_=>false
def rdT (σ:State)(i:Nat)(p:TV)(f:Option R):Option R:=bif (σ.slot i).same p then f else none
theorem Zab {σ:State}{n:Nat}{f:Option R}(h:rdN σ n f=some r):σ.slots.length=n/\f=some r:=by
 unfold rdN at h;split at h
 ·rename_i b;exact⟨b,h⟩
 ·cases h
theorem Z4s {v:TVal}{τ:Ty}{ag:Bool}{tg:List Tag}{f:El τ->Option R}(h:asV v τ ag tg f=some r):∃x,v=⟨τ,ag,x,tg⟩/\f x=some r:=by
 unfold asV at h;split at h
 ·rename_i i;split at h
  ·rename_i e;obtain⟨k,g,x,j⟩:=v;obtain⟨b,d⟩:=i;simp only at e b d;subst e;subst b;subst d;exact⟨x,rfl,h⟩
  ·cases h
 ·cases h
theorem Zae {σ:State}{i:Nat}{τ:Ty}{ag:Bool}{tg:List Tag}{f:El τ->Option R}(h:rdV σ i τ ag tg f=some r):∃x,σ.slot i= .val ⟨τ,ag,x,tg⟩/\f x=some r:=by
 unfold rdV at h;split at h
 ·rename_i v d;obtain⟨x,rfl,b⟩:=Z4s h;exact⟨x,d,b⟩
 ·cases h
theorem Zad {σ:State}{i:Nat}{τ:Ty}{ag:Bool}{tg:List Tag}{ags:List Bool}{f:El τ->Option R}(h:rdU σ i τ ag tg ags f=some r):∃x,σ.slot i= .tup ⟨τ,ag,x,tg⟩ ags/\f x=some r:=by
 unfold rdU at h;split at h
 ·rename_i v l e;split at h
  ·rename_i d;subst d;obtain⟨x,rfl,b⟩:=Z4s h;exact⟨x,e,b⟩
  ·cases h
 ·cases h
theorem Zaa {σ:State}{i:Nat}{τ:Ty}{ag:Bool}{tg:List Tag}{t:Tag}{f:El τ->Option R}(h:rdE σ i τ ag tg t f=some r):∃x,σ.slot i= .eptr ⟨τ,ag,x,tg⟩ t/\f x=some r:=by
 unfold rdE at h;split at h
 ·rename_i v l e;split at h
  ·rename_i d;subst d;obtain⟨x,rfl,b⟩:=Z4s h;exact⟨x,e,b⟩
  ·cases h
 ·cases h
theorem Za9 {σ:State}{i:Nat}{f:FuncId}{b:List Ty}{τ:Ty}{tg:List Tag}{k:El τ->Option R}(h:rdC σ i f b τ tg k=some r):∃x,σ.slot i= .sclos f b ⟨τ,false,x,tg⟩/\k x=some r:=by
 unfold rdC at h;split at h
 ·rename_i g l v j;split at h
  ·rename_i e;obtain⟨rfl,rfl⟩:=e;obtain⟨x,rfl,d⟩:=Z4s h;exact⟨x,j,d⟩
  ·cases h
 ·cases h
theorem Z4R {v:TVal}{τ:Ty}{tg:List Tag}{f:Bool->El τ->Option R}(h:Z5E v τ tg f=some r):∃a x,v=⟨τ,a,x,tg⟩/\f a x=some r:=by
 unfold Z5E at h;split at h
 ·rename_i d;split at h
  ·rename_i e;obtain⟨i,b,x,g⟩:=v;simp only at e d;subst e;subst d;exact⟨b,x,rfl,h⟩
  ·cases h
 ·cases h
theorem Z8B {v:TVal}{τ:Ty}{f:El τ->Option R}(h:Z85 v τ f=some r):∃a x t,v=⟨τ,a,x,t⟩/\f x=some r:=by
 unfold Z85 at h;split at h
 ·rename_i e;obtain⟨g,b,x,d⟩:=v;simp only at e;subst e;exact⟨b,x,d,rfl,h⟩
 ·cases h
theorem Za8 {σ:State}{i:Nat}{τ:Ty}{tg:List Tag}{f:Bool->El τ->Option R}(h:rdB σ i τ tg f=some r):∃a x,σ.boxAt i=some ⟨τ,a,x,tg⟩/\f a x=some r:=by
 unfold rdB at h;split at h
 ·rename_i v d;obtain⟨a,x,rfl,b⟩:=Z4R h;exact⟨a,x,d,b⟩
 ·cases h
theorem Zac {σ:State}{i:Nat}{p:TV}{f:Option R}(h:rdT σ i p f=some r):σ.slot i=p/\f=some r:=by
 unfold rdT at h;rw[cond_eq_ite]at h;split at h
 ·rename_i b;refine⟨?_,h⟩;cases d:σ.slot i<;>cases p<;>rw[d]at b<;>simp only[TV.same,Ql,Xj]at b<;>simp[b]
 ·cases h
end
section
variable {P:Program}{R:Type}{r:R}{W0:Base}{M:Nat->Prop}
theorem Z2E.inv {σ σ':State}{a:Act}{w:World}{G:Ghost}{xs:List Nat}(h:Z2E σ' σ)(I:Inv W0 M σ a w G xs):∃G',Inv W0 M σ' a w G' xs:=by
 obtain⟨d,b,_⟩:=I.drop (σ':=σ') h.1 h.2.1 h.2.2;exact⟨_,b⟩
theorem Zaw {c:Code}{run:Z1c R}(v:Z13 P W0 M c run){j:Ex->State->State}(g:∀e σ,Z2E (j e σ) σ){x:Z1c R}
  (h:∀σ k r,x σ k=some r->∃σ',Z2E σ' σ/\run σ' (λe b=>k e (j e b))=some r):Z13 P W0 M c x:=by
 intro σ a w G k r Q u I A z;obtain⟨σ',i,d⟩:=h σ k r A;obtain⟨G',n⟩:=i.inv I;refine v σ' a w G' _ r Q u n d λe b q w' l y f=> ?_
 obtain⟨m,p⟩:=(g e b).inv f;exact z e _ q w' m y p
theorem Zas {c:Code}{run:Z1c R}(p:Z13 P W0 M c run){ks d:List Nat}{f:Ex->State->State}(g:∀e σ,Z2E (f e σ) σ)(n:Nat){x:Z1c R}
  (h:∀σ k r,x σ k=some r->∃σ',Z2E σ' σ/\Z3v run (λσ=>σ.forget ks d) f n σ' k=some r):Z13 P W0 M (.loop c) x:=by
 have l:Z13 P W0 M (.loop c) (Z3v run (λσ=>σ.forget ks d) f n):=Z62 p (λσ a w G I=>(Z3T σ ks d).inv I) (λe σ a w G I=>(g e σ).inv I) n
 intro σ a w G k r Q m I u q;obtain⟨σ',i,b⟩:=h σ k r u;obtain⟨G',j⟩:=i.inv I;exact l σ' a w G' k r Q m j b q
def Z1e {V K:Type}(step:V->(V->Option R)->K->Option R):Nat->V->K->Option R
 | 0,_,_=>none
 |n+1,v,q=>step v (λb=>Z1e step n b q) q
theorem Z9t {V K:Type}(d:V->State)(step:V->(V->Option R)->K->Option R)(mk:Z82 R->K){b:Z1c R}{f:State->State}{g:Ex->State->State}
  (h:∀(v:V) (rec:State->Option R) (k:Z82 R),b (d v) (λe σ'=>match e with | .normal=>rec (f σ') | e=>k e (g e σ'))=step v (λj=>rec (d j)) (mk k)) :
  (n:Nat)->(v:V)->(k:Z82 R)->Z3v b f g n (d v) k=Z1e step n v (mk k)
 | 0,v,k=>rfl
 |n+1,v,k=>by
  have i:=h v (λσ=>Z3v b f g n σ k) k
  simp only[Z9t d step mk h n]at i;exact i
def Z1b:Nat:=Classical.choose (⟨4611686018427387904,rfl⟩:∃n:Nat,n=4611686018427387904)
theorem Z9p:Z1b=4611686018427387904:=YR (⟨4611686018427387904,rfl⟩:∃n:Nat,n=4611686018427387904)
theorem Zai [Subsingleton R]{Γ:Env R}(p:P.follows .mixedOrders=true)(i:Z0e P Γ.tys)(l:∀g d,Z0o Γ.fns g=some d->Z16 P g d){f:FuncId}{fn:Func}{c:Code}{X:List (Z1c R)}{ht:HT}{fz:Bool}{modes:List Mode}{ags:List Bool}
  (j : Z1Z P Γ.np X ht c) (n : P.funcs[f]? = some fn) (b : (fn.name == "runtime.NumGoroutine") = false) (m : fn.body = some c) (q : modes.length ≤ fn.ntmps)
  {run:List TVal->List TVal->(List TVal->List TVal->List TVal->Option R)->Option R}
  (h:∀vals ext k r,run vals ext k=some r->Z8j Γ X ht fz fn modes ags vals ext k=some r):Z16 P f (⟨modes,ags,run⟩:Sig R):=by
 have e:=Z8K (Γ:=Γ) (X:=X) (ht:=ht) (fz:=fz) (modes:=modes) (ags:=ags) p i (Z98 i l) j n b m q;exact⟨e.1,λvals ext k r u=>e.2 vals ext k r (h vals ext k r u)⟩
end
end
end Go.PI
namespace Go.PI
noncomputable section
def wkT (nil:Bool)(t t':Tag):Bool:=decide (t=t')||(nil&&(t.own|| !t'.own))
def Z12:(τ:Ty)->El τ->List Bool
 |.slice e,x=>[List.isEmpty (α:=El e) x]
 |.pair a b,x=>Z12 a x.1++Z12 b x.2
 |_,_=>[]
def Z1r:List Bool->List Tag->List Tag->Bool
 |n::d,t::e,t'::b=>wkT n t t'&&Z1r d e b
 | [],[],[]=>true
 |_,_,_=>false
def wk1 (v:TVal)(tg:List Tag):Option TVal:=
 if v.tg=tg then some v else if (v.tg.map Tag.freeze=tg) then some { v with tg:=tg } else if Z1r (Z12 v.τ v.x) v.tg tg then some { v with tg:=tg } else none
def Z5u:List (Nat×List Tag)->State->State
 | [],σ=>σ
 |(i,tg)::l,σ=>Z5u l (match σ.slot i with
  |.val v=>(match wk1 v tg with | some u=>{ σ with slots:=Z0G σ.slots i (.val u) } | none=>σ)
  |_=>σ)
def Z5t:List (Nat×List Tag)->State->State
 | [],σ=>σ
 |(i,tg)::l,σ=>Z5t l (match σ.boxAt i with
  |some v=>(match wk1 v tg with | some u=>{ σ with boxes:=Z0G σ.boxes i (some u) } | none=>σ)
  |none=>σ)
def State.wk (σ:State)(d b:List (Nat×List Tag)):State:=Z5t b (Z5u d σ)
def wkE (l:List (Nat×List (Nat×List Tag)×List (Nat×List Tag)))(e:Ex)(σ:State):State:=
 match Z0o l (match e with | .normal=>0 | .ret=>1 | .exit j=>j+2)with
 |some q=>σ.wk q.1 q.2
 |none=>σ
section
variable {w:World}{F:Nat->Nat}{St Al:Nat->Prop}
theorem Z5i:{d e:List Bool}->{f g tg:List Tag}->d.length=f.length->Z1r (d++e) (f++g) tg=true->∃i j,tg=i++j/\Z1r d f i=true/\Z1r e g j=true
 | [],e,[],g,tg,_,h=>⟨[],tg,rfl,rfl,h⟩
 |n::d,e,t::f,g,[],b,h=>by simp[Z1r]at h
 |n::d,e,t::f,g,u::tg,b,h=>by
  simp only[QL,Z1r,Q6]at h;obtain⟨i,j,rfl,k,l⟩:=Z5i (by simpa using b) h.2
  exact⟨u::i,j,rfl,by simp only[Z1r,Q6];exact⟨h.1,k⟩,l⟩
 | [],_,_::_,_,_,b,_=>by simp at b
 |_::_,_,[],_,_,b,_=>by simp at b
theorem Z45:(τ:Ty)->(x:El τ)->(Z12 τ x).length=Z06 τ
 |.int _,_=>rfl
 |.bool,_=>rfl
 |.str,_=>rfl
 |.unit,_=>rfl
 |.slice _,_=>rfl
 |.pair a b,x=>by simp[Z12,Z06,Z45 a,Z45 b]
theorem Z7j:{τ:Ty}->{tg d:List Tag}->{cs:List Value}->{x:El τ}->{fp:List Nat}->Rp w F St Al τ tg cs x fp->Z1r (Z12 τ x) tg d=true->∃f' E,fp.Perm (f'++E)/\Rp w F St Al τ d cs x f'
 |.int _,tg,d,cs,x,fp,h,f=>by
  obtain⟨rfl,rfl,rfl⟩:=h;cases d with
  |nil=>exact⟨[],[],by simp,rfl,rfl,rfl⟩
  |cons=>simp[Z12,Z1r]at f
 |.bool,tg,d,cs,x,fp,h,f=>by
  obtain⟨rfl,rfl,rfl⟩:=h;cases d with
  |nil=>exact⟨[],[],by simp,rfl,rfl,rfl⟩
  |cons=>simp[Z12,Z1r]at f
 |.str,tg,d,cs,x,fp,h,f=>by
  obtain⟨rfl,rfl,rfl⟩:=h;cases d with
  |nil=>exact⟨[],[],by simp,rfl,rfl,rfl⟩
  |cons=>simp[Z12,Z1r]at f
 |.unit,tg,d,cs,x,fp,h,f=>by
  obtain⟨rfl,rfl,rfl⟩:=h;cases d with
  |nil=>exact⟨[],[],by simp,rfl,rfl,rfl⟩
  |cons=>simp[Z12,Z1r]at f
 |.pair a b,tg,d,cs,x,fp,h,f=>by
  obtain⟨t1,t2,X,Y,Z,f2,rfl,rfl,rfl,l,p⟩:=h;obtain⟨u1,u2,rfl,L,Q⟩:=Z5i (by rw[Z45,l.len.2]) f
  obtain⟨m,A,T,V⟩:=Z7j l L;obtain⟨n,B,U,W⟩:=Z7j p Q;refine⟨m++n,A++B,?_,Rp.pair_mk V W⟩;refine QZ.2 λz=> ?_
  have C:=(QZ.1 T) z;have D:=(QZ.1 U) z;simp only[XA]at C D ⊢;omega
 |.slice e,tg,d,cs,x,fp,h,f=>by
  obtain⟨t,a,cap,rfl,rfl,g,h⟩:=h;obtain⟨t',rfl⟩:∃t',d=[t']:=by
   match d,f with
   | [t'],_=>exact⟨t',rfl⟩
   | [],f=>simp[Z12,Z1r]at f
   |_::_::_,f=>simp[Z12,Z1r]at f
  simp only[Z12,Z1r,wkT,Xm,Xq,Ql,Q6,QF]at f;rcases f with rfl | ⟨v,ht⟩
  ·exact⟨fp,[],by simp,t,a,cap,rfl,rfl,g,h⟩
  ·have v:x=[]:=YU.1 v;subst v;cases i:t'.own with
   |false=>
    refine⟨[],fp,by simp,t',a,cap,rfl,rfl,g,.inr (.inr ⟨i,rfl,.inl rfl⟩)⟩
   |true=>
    rw[i]at ht;have ht:t.own=true:=by rcases ht with h | h;exact h;cases h
    rcases h with⟨_,l,p,H,rfl⟩ | ⟨_,b,o,fps,rfl,q,rfl,u,j,I,J⟩ | ⟨y,_⟩
    ·exact⟨[],[],by simp,t',a,cap,rfl,rfl,g,.inl ⟨i,l,p,H,rfl⟩⟩
    ·exact⟨b::fps.flatten,[],by simp,t',_,cap,rfl,rfl,g,.inr (.inl ⟨i,b,o,fps,rfl,q,rfl,u,j,I,λk K=>by simp at K⟩)⟩
    ·rw[ht]at y;cases y
end
section
variable {W0:Base}{M:Nat->Prop}{σ:State}{a:Act}{w:World}{G:Ghost}{xs:List Nat}{P:Program}{R:Type}{r:R}
theorem Z7r (I:Inv W0 M σ a w G xs){p:Place}{c:TVal}{tg:List Tag}(e:σ.content p=some c)(h:c.tg.map Tag.freeze=tg\/Z1r (Z12 c.τ c.x) c.tg tg=true) :
  ∃G',Inv W0 M (σ.setContent p { c with tg:=tg }) a w G' xs:=by
 obtain⟨l,b,fp,i,D,hw⟩:=Z0F I e;have v:G.fpOf p=fp:=by
  rcases hw with⟨f,_,rfl,_⟩ | ⟨f,_,rfl,_⟩<;>simp[Ghost.fpOf,f]
 rcases h with rfl | h
 ·obtain⟨Q,A,k⟩:=I.recontent (p:=p) (c':=c.alias) e rfl rfl (l:=l) (b:=b) (f':=[]) (fi:=fp) i (D.alias (Ghost.St_Al I)) (by simp[v])
  obtain⟨q,T,Z,B,Y,gb,V,hl⟩:=A.freeze;have g:(σ.setContent p c.alias).content p=some c.alias:=by
   obtain⟨u,d,path⟩:=p;cases u with
   |true=>
    show Z0u none (Z0G σ.boxes d (some c.alias)) d=_
    rw[Z0S,QM ⟨rfl,Z1B (show σ.boxAt d=some c from e)⟩]
   |false=>
    simp only[State.content];have m:d<σ.slots.length:=Z0U (by
     intro C;simp only[State.content,C]at e;cases e)
    rw[Z0M e,QM ⟨rfl,m⟩];simp only[State.content]at e;cases j:σ.slot d<;>rw[j]at e<;>first | (cases e;done) | rfl
  have z:Z09 q a w p=some (l,b):=by
   obtain⟨u,d,path⟩:=p;cases u with
   |true=>simp only[Z09]at i ⊢;rw[B,k.ad];exact i
   |false=>exact i
  have J:Rp w q.F q.St q.Al c.τ (c.tg.map Tag.freeze) l c.x []:=by
   rw[Z,Y,k.F,k.Al];exact D.freeze (λb f=>(V b).2 (.inl (by rw[k.St];exact f))) (Ghost.St_Al I) λb f=>(V b).2 (.inr f)
  have y:q.fpOf p=[]:=by
   obtain⟨l2,b2,fp2,_,H,L⟩:=Z0F T g;have:fp2=[]:=H.fp_nil (by
    intro s hs;obtain⟨s',_,rfl⟩:=X6.1 hs;cases s'<;>rfl)
   rcases L with⟨f,_,rfl,_⟩ | ⟨f,_,rfl,_⟩<;>simp[Ghost.fpOf,f,this]
  obtain⟨W,U,hs3⟩:=T.recontent (p:=p) (c':={ c with tg:=c.tg.map Tag.freeze }) g rfl rfl (l:=l) (b:=b) (f':=[]) (fi:=[]) z J (by simp[y])
  have K:(σ.setContent p c.alias).setContent p { c with tg:=c.tg.map Tag.freeze }=σ.setContent p { c with tg:=c.tg.map Tag.freeze }:=by
   obtain⟨u,d,path⟩:=p;cases u with
   |true=>simp only[State.setContent,Z1x]
   |false=>
    have m:d<σ.slots.length:=Z0U (by
     intro C;simp only[State.content,C]at e;cases e)
    have n:=Z0M (c':=c.alias) e d;rw[QM ⟨rfl,m⟩]at n;simp only[State.content]at e;cases j:σ.slot d<;>rw[j]at e n<;>first | (cases e;done) | skip
    ·simp only[State.setContent,j]at n ⊢;rw[n];simp only[Z1x]
    ·simp only[State.setContent,j]at n ⊢;rw[n];simp only[Z1x]
  rw[K]at U;exact⟨W,by simpa using U⟩
 ·obtain⟨f',X,hp,E⟩:=Z7j D h;obtain⟨Q,A,_⟩:=I.recontent (p:=p) (c':={ c with tg:=tg }) e rfl rfl (l:=l) (b:=b) (f':=f') (fi:=X) i E (by rw[v];exact hp)
  exact⟨Q,A.sub (λb f=>Qo _ f) (Qj.1 A.nodX).2.1⟩
theorem Z7F {v u:TVal}{tg:List Tag}(h:wk1 v tg=some u):u=v\/(u={ v with tg:=tg }/\(v.tg.map Tag.freeze=tg\/Z1r (Z12 v.τ v.x) v.tg tg=true)):=by
 unfold wk1 at h;split at h
 ·cases h;exact .inl rfl
 ·split at h
  ·rename_i b;cases h;exact .inr ⟨rfl,.inl b⟩
  ·split at h
   ·rename_i b;cases h;exact .inr ⟨rfl,.inr b⟩
   ·cases h
theorem Z2m:(l:List (Nat×List Tag))->(σ:State)->(G:Ghost)->Inv W0 M σ a w G xs->∃G',Inv W0 M (Z5u l σ) a w G' xs
 | [],σ,G,I=>⟨G,I⟩
 |(i,tg)::l,σ,G,I=>by
  simp only[Z5u];split
  ·rename_i v b;split
   ·rename_i u k;rcases Z7F k with rfl | ⟨rfl,h⟩
    ·have:({ σ with slots:=Z0G σ.slots i (.val u) }:State)=σ:=by
      have j:Z0G σ.slots i (.val u)=σ.slots:=by
       rw[<-b];exact Z5c σ.slots i (Z0U (by rw[b];simp))
      rw[j]
     rw[this];exact Z2m l σ G I
    ·have f:σ.content ⟨false,i,[]⟩=some v:=by simp[State.content,b]
     obtain⟨e,d⟩:=Z7r I f h;have g:σ.setContent ⟨false,i,[]⟩ { v with tg:=tg }={ σ with slots:=Z0G σ.slots i (.val { v with tg:=tg }) }:=by simp only[State.setContent,b]
     rw[g]at d;exact Z2m l _ e d
   ·exact Z2m l σ G I
  ·exact Z2m l σ G I
theorem Z2l:(l:List (Nat×List Tag))->(σ:State)->(G:Ghost)->Inv W0 M σ a w G xs->∃G',Inv W0 M (Z5t l σ) a w G' xs
 | [],σ,G,I=>⟨G,I⟩
 |(i,tg)::l,σ,G,I=>by
  simp only[Z5t];split
  ·rename_i v b;split
   ·rename_i u j;rcases Z7F j with rfl | ⟨rfl,h⟩
    ·have:({ σ with boxes:=Z0G σ.boxes i (some u) }:State)=σ:=by
      have g:Z0G σ.boxes i (some u)=σ.boxes:=by
       rw[<-b];exact Z5c σ.boxes i (Z1B b)
      rw[g]
     rw[this];exact Z2l l σ G I
    ·have f:σ.content ⟨true,i,[]⟩=some v:=b;obtain⟨d,e⟩:=Z7r I f h;exact Z2l l _ d e
   ·exact Z2l l σ G I
  ·exact Z2l l σ G I
theorem Z91 (I:Inv W0 M σ a w G xs)(d b:List (Nat×List Tag)):∃G',Inv W0 M (σ.wk d b) a w G' xs:=by
 obtain⟨e,f⟩:=Z2m d σ G I;exact Z2l b _ e f
theorem ZaH (I:Inv W0 M σ a w G xs)(l:List (Nat×List (Nat×List Tag)×List (Nat×List Tag)))(e:Ex):∃G',Inv W0 M (wkE l e σ) a w G' xs:=by
 unfold wkE;split
 ·exact Z91 I _ _
 ·exact⟨G,I⟩
theorem ZaI {c:Code}{y:Z1c R}(d b:List (Nat×List Tag))(g:Z13 P W0 M c y):Z13 P W0 M c (λσ k=>y (σ.wk d b) k):=by
 intro σ a w G k r Q f I i h;obtain⟨G',e⟩:=Z91 I d b;exact g _ a w G' k r Q f e i h
theorem Za7 {c:Code}{run:Z1c R}(v:Z13 P W0 M c run){m:Ex->State->State}(i:∀e σ a w G,Inv W0 M σ a w G []->∃G',Inv W0 M (m e σ) a w G' []){x:Z1c R}
  (h:∀σ k r,x σ k=some r->∃σ',Z2E σ' σ/\run σ' (λe b=>k e (m e b))=some r):Z13 P W0 M c x:=by
 intro σ a w G k r Q u I A z;obtain⟨σ',j,d⟩:=h σ k r A;obtain⟨G',p⟩:=j.inv I;refine v σ' a w G' _ r Q u p d λe b l w' f y g=> ?_
 obtain⟨n,q⟩:=i e b l w' f g;exact z e _ l w' n y q
theorem Za6 {c:Code}{run:Z1c R}(q:Z13 P W0 M c run){d:State->State}{f:Ex->State->State}(g:∀σ a w G,Inv W0 M σ a w G []->∃G',Inv W0 M (d σ) a w G' [])(i:∀e σ a w G,Inv W0 M σ a w G []->∃G',Inv W0 M (f e σ) a w G' [])(n:Nat){x:Z1c R}
  (h:∀σ k r,x σ k=some r->∃σ',Z2E σ' σ/\Z3v run d f n σ' k=some r):Z13 P W0 M (.loop c) x:=by
 have m:Z13 P W0 M (.loop c) (Z3v run d f n):=Z62 q g i n;intro σ a w G k r Q p I v u;obtain⟨σ',j,b⟩:=h σ k r v;obtain⟨G',l⟩:=j.inv I;exact m σ' a w G' k r Q p l b u
end
end
end Go.PI
namespace Go.PI
abbrev Res:=Option Unit
def Z9J (n:Int):Int:=IntKind.i64.wrap n
def wu8 (n:Int):Int:=IntKind.u8.wrap n
def ZaV (n:Int):Int:=IntKind.i32.wrap n
def ZaW (n:Int):Int:=IntKind.u32.wrap n
def ZaX (n:Int):Int:=IntKind.u64.wrap n
def nI (n:Nat):Int:=(n:Int)
def eS:ByteArray:=⟨#[]⟩
def sEq (a b:ByteArray):Bool:=a.toList==b.toList
def sNe (a b:ByteArray):Bool:= !(a.toList==b.toList)
def sLt (a b:ByteArray):Bool:=Op.bytesLess a.toList b.toList
def sLe (a b:ByteArray):Bool:=Op.bytesLess a.toList b.toList||a.toList==b.toList
def sGt (a b:ByteArray):Bool:= !(Op.bytesLess a.toList b.toList||a.toList==b.toList)
def sGe (a b:ByteArray):Bool:= !(Op.bytesLess a.toList b.toList)
def nth {α:Type}(z:α)(l:List α)(i:Int):α:=l.getD i.toNat z
def upd {α:Type}(l:List α)(i:Int)(v:α):List α:=l.set i.toNat v
def Z9g {α:Type}(n:Int)(z:α):List α:=List.replicate n.toNat z
def ZaR (s:ByteArray)(i j:Int):ByteArray:=s.extract i.toNat j.toNat
noncomputable def Z9H (m c:Int):Bool:=decide (0<=m/\m<=c/\c<=(LIM:Int))
def ZaT (k:IntKind)(m n:Int):Int:=k.wrap (m * 2 ^ min n.toNat k.bits)
def ZaU (k:IntKind)(m n:Int):Int:=Int.fdiv m (2 ^ min n.toNat k.bits)
def ZaQ (k:IntKind)(a b:Int):Int:=k.wrap ((BitVec.ofInt k.bits a &&& BitVec.ofInt k.bits b).toNat)
def orI (k:IntKind)(a b:Int):Int:=k.wrap ((BitVec.ofInt k.bits a ||| BitVec.ofInt k.bits b).toNat)
def ZaY (k:IntKind)(a b:Int):Int:=k.wrap ((BitVec.ofInt k.bits a ^^^ BitVec.ofInt k.bits b).toNat)
section
variable {R:Type}{r:R}
def av (l:List TVal)(τ:Ty)(f:El τ->List TVal->Option R):Option R:=match l with | v::l=>Z85 v τ λx=>f x l | []=>none
def ab (l:List TVal)(τ:Ty)(tg:List Tag)(f:Bool->El τ->List TVal->Option R):Option R:=match l with | v::l=>Z5E v τ tg λa x=>f a x l | []=>none
def ao (l:List TVal)(τ:Ty)(tg:List Tag)(f:El τ->List TVal->Option R):Option R:=match l with | v::l=>Z5E v τ tg λ_ x=>f x l | []=>none
def nl (l:List TVal)(f:Option R):Option R:=match l with | []=>f | _::_=>none
theorem Zao {l:List TVal}{τ:Ty}{f:El τ->List TVal->Option R}(h:av l τ f=some r):∃x a t l',l=⟨τ,a,x,t⟩::l'/\f x l'=some r:=by
 cases l with
 |nil=>cases h
 |cons v l=>
  have h:Z85 v τ (λx=>f x l)=some r:=h
  obtain⟨a,x,t,rfl,b⟩:=Z8B h;exact⟨x,a,t,l,rfl,b⟩
theorem Zam {l:List TVal}{τ:Ty}{tg:List Tag}{f:Bool->El τ->List TVal->Option R}(h:ab l τ tg f=some r):∃a x l',l=⟨τ,a,x,tg⟩::l'/\f a x l'=some r:=by
 cases l with
 |nil=>cases h
 |cons v l=>
  have h:Z5E v τ tg (λa x=>f a x l)=some r:=h
  obtain⟨a,x,rfl,b⟩:=Z4R h;exact⟨a,x,l,rfl,b⟩
theorem Zan {l:List TVal}{τ:Ty}{tg:List Tag}{f:El τ->List TVal->Option R}(h:ao l τ tg f=some r):∃a x l',l=⟨τ,a,x,tg⟩::l'/\f x l'=some r:=by
 cases l with
 |nil=>cases h
 |cons v l=>
  have h:Z5E v τ tg (λ_ x=>f x l)=some r:=h
  obtain⟨a,x,rfl,b⟩:=Z4R h;exact⟨a,x,l,rfl,b⟩
theorem Zav {l:List TVal}{f:Option R}(h:nl l f=some r):l=[]/\f=some r:=by
 cases l with
 |nil=>exact⟨rfl,h⟩
 |cons v l=>cases h
theorem Z1Z.mk {P:Program}{np:Nat}{X:List (Z1c R)}{a b:HT}{c:Code}(d:Z1Z P np X a c.pl)(e:Z1Z P np X b c.pr):Z1Z P np X (.t a b) c:=⟨d,e⟩
theorem Z1Z.x_mk {P:Program}{np:Nat}{X:List (Z1c R)}{i:Nat}{c:Code}(h:∀(b:Base) (M:Nat->Prop),b.np<=np->Z13 P b M c (Z0u (λ_ _=>none) X i)):Z1Z P np X (.x i) c:=h
theorem Zar {P:Program}:∀(g:Nat) (b:Sig R),Z0o [] g=some b->Z16 P g b:=λ_ _ h=>by cases h
theorem Za5 {P:Program}{g:Nat}{s:Sig R}{l:List (FuncId×Sig R)}(h:Z16 P g s)(i:∀(g:Nat) (b:Sig R),Z0o l g=some b->Z16 P g b) :
  ∀(d:Nat) (b:Sig R),Z0o ((g,s)::l) d=some b->Z16 P d b:=by
 intro d b e;simp only[Z0o]at e;split at e
 ·rename_i f;simp at f;subst f;cases e;exact h
 ·exact i d b e
end
def Z9I {T:Type}(d:T)(b:T->T):Nat->T
 | 0=>d
 |n+1=>b (Z9I d b n)
theorem Z9e {T:Type}{C:T->Prop}{d:T}{b:T->T}(e:C d)(h:∀t,C t->C (b t)):∀n,C (Z9I d b n)
 | 0=>e
 |n+1=>h _ (Z9e e h n)
theorem Z9M {R : Type}{P : Program}{f : FuncId}{fn : Func}{c : Code}{d : Sig R}(g : P.funcs[f]? = some fn) (b : (fn.name == "runtime.NumGoroutine") = false) (e : fn.body = some c)
  (h:∀vals ext k r,d.run vals ext k=some r->False):Z16 P f d:=
 ⟨⟨fn,c,g,b,e⟩,λvals ext k r i=>(h vals ext k r i).elim⟩
theorem Z9P (x:Res):Z86 x x=x:=by cases x<;>rfl
end Go.PI
namespace Go.PI
def Wf:(τ:Ty)->El τ->Prop
 |.int k,n=>(Lit.int k n).wf=true
 |.bool,_=>True
 |.str,s=>ByteArray.size s<=maxLen
 |.unit,_=>True
 |.slice e,l=>List.length (α:=El e) l<=maxLen/\∀x∈(l:List (El e)),Wf e x
 |.pair a b,x=>Wf a x.1/\Wf b x.2
theorem Z2o {α β:Type}{f:α->Option β}:(l:List α)->(ys:List β)->l.mapM f=some ys->ys.length=l.length/\∀(k:Nat) (h:k<l.length),∃y,f l[k]=some y/\ys[k]? = some y
 | [],ys,h=>by
  simp only[List.mapM_nil,Option.pure_def,Q9]at h;subst h;exact⟨rfl,λk h=>absurd h (by simp)⟩
 |a::l,ys,h=>by
  rw[List.mapM_cons]at h;cases b:f a with
  |none=>rw[b]at h;simp at h
  |some y=>
   rw[b]at h;cases d:l.mapM f with
   |none=>rw[d]at h;simp at h
   |some j=>
    rw[d]at h;simp at h;subst h;obtain⟨e,g⟩:=Z2o l j d;refine⟨by simp[e],λk i=> ?_⟩
    cases k with
    |zero=>exact⟨y,b,rfl⟩
    |succ k=>exact g k (by simpa using i)
def Z2F (w:World)(b:Nat):Nat:=match w.heap[b]? with | some (.cells c _ _)=>c.size | _=>0
theorem Z74 {w:World}{a:Addr}{n:Nat}{l:List Value}(h:w.cells? 0 a n=some l)(E:n≠0) :
  ∃b o,a=⟨b,o,none⟩/\Z05 w b o n=some l/\o+n<=Z2F w b/\b<w.heap.size:=by
 obtain⟨b,o,u⟩:=a;unfold World.cells? at h;rw[QM (Qg _)]at h;obtain⟨i,e⟩:=Z2o _ _ h;simp only[List.length_range]at i e;obtain⟨D,r,_⟩:=e 0 (by omega)
 have p:w.cell? ⟨b,o,u⟩=some D:=by simpa[Addr.add]using r
 have f:u=none/\∃c T fr,w.heap[b]? = some (.cells c T fr):=by
  unfold World.cell? at p;cases f:w.heap[b]? with
  |none=>simp[f]at p
  |some C=>
   cases C with
   |cells c T fr=>
    cases u with
    |none=>exact⟨rfl,c,T,fr,rfl⟩
    |some x=>simp[f]at p
   |_=>simp[f]at p
 obtain⟨rfl,f⟩:=f;obtain⟨c,T,fr,g⟩:=f;have d:∀k,k<n->c[o+k]? = l[k]? := by
  intro k m;obtain⟨v,q,B⟩:=e k m;rw[B];simp only[List.getElem_range]at q;have:w.cell? (Addr.add ⟨b,o,none⟩ k)=c[o+k]? := by
   unfold Addr.add;by_cases y:k=0
   ·subst y;simp[World.cell?,g]
   ·simp[y,World.cell?,g]
  rw[this]at q;exact q
 have j:o+n<=c.size:=by
  have z:=d (n-1) (by omega)
  have A:(n-1)<l.length:=by omega
  rw[Qn A]at z;have:=(QV.1 z).1;omega
 refine⟨b,o,rfl,?_,by unfold Z2F;rw[g];exact j,(QV.1 g).1⟩
 unfold Z05;rw[g];simp only[];rw[QM j];congr 1;refine List.ext_getElem? λk=> ?_
 by_cases m:k<n
 ·rw[YA m,XV,QK,d k m]
 ·rw[Yf (by simp;omega),Yf (by omega)]
section
variable {P:Program}{tys:List (TypeId×Ty×List TypeId)}
theorem TyF.cells {t:TypeId}{τ:Ty}{l:List TypeId}(h:TyF P tys t τ l):P.cellsOf t=size τ:=by
 obtain⟨i,z,b,d,_⟩:=h.info;unfold Program.cellsOf;rw[b];simp[d]
theorem Z7B {τ d:Ty}(h:Z0d τ [.fst]=some d):∃b,τ= .pair d b:=by
 cases τ with
 |pair a b=>simp only[Z0d,Q9]at h;subst h;exact⟨b,rfl⟩
 |_=>simp[Z0d]at h
theorem Z9j {τ d:Ty}{p:List Step}(h:Z0d τ (.snd::p)=some d):∃a b,τ= .pair a b/\Z0d b p=some d:=by
 cases τ with
 |pair a b=>exact⟨a,b,rfl,by simpa[Z0d]using h⟩
 |_=>simp[Z0d]at h
theorem TyF.pos {t:TypeId}{τ:Ty}{l:List TypeId}(h:TyF P tys t τ l):size τ≠0:=by
 by_cases e:l=[]
 ·obtain⟨_,_,_,_,g,j⟩:=h.und e;cases τ with
  |unit=>exact absurd rfl g
  |pair a b=>exact absurd rfl (j a b)
  |_=>simp[size]
 ·obtain⟨k,_,_,i,_⟩:=h.str e;obtain⟨f,p,m,_,_,_,d,_,g,_⟩:=(i 0 (Yv.2 e)).out
  match hn:l.length with
  | 0=>exact absurd (Qv.1 hn) e
  | 1=>
   rw[hn]at d;simp only[Z0a,Z0d]at d;cases τ<;>simp only[Z0d,Q9]at d<;>subst d<;>exact g
  |n+2=>
   rw[hn]at d;simp only[Z0a]at d;obtain⟨b,rfl⟩:=Z7B d;simp only[size];omega
theorem Z9r {cs:List Value}{a o n:Nat}:((cs.drop a).drop o).take n=(cs.drop (a+o)).take n:=by rw[X9]
theorem Z6E {w:World}{F:Nat->Nat}{St Al:Nat->Prop}:(n:Nat)->(τ:Ty)->(cs:List Value)->n≠0->cs.length=size τ ->
  (∀i,i<n->∃d,Z0d τ (Z0a n i)=some d/\∃x:El d,Rp w F St Al d (List.replicate (Z06 d) .S) ((cs.drop (Z0g τ (Z0a n i))).take (size d)) x []/\Wf d x) ->
  ∃x:El τ,Rp w F St Al τ (List.replicate (Z06 τ) .S) cs x []/\Wf τ x
 | 0,τ,cs,h,_,_=>absurd rfl h
 | 1,τ,cs,_,q,h=>by
  obtain⟨d,j,x,k,l⟩:=h 0 (by omega)
  have e:Z0g τ (Z0a 1 0)=0:=by cases τ<;>rfl
  have C:d=τ:=by
   simp only[Z0a]at j;cases τ<;>simp only[Z0d,Q9]at j<;>exact j.symm
  subst C;rw[e,Xf,Xd (by omega)]at k
  exact⟨x,k,l⟩
 |n+2,τ,cs,_,q,h=>by
  obtain⟨d,j,x,k,l⟩:=h 0 (by omega)
  simp only[Z0a]at j;obtain⟨b,rfl⟩:=Z7B j;have e:Z0g (.pair d b) (Z0a (n+2) 0)=0:=by simp only[Z0a];cases d<;>rfl
  rw[e,Xf]at k;simp only[size]at q;obtain⟨y,v,A⟩:=Z6E (n+1) b (cs.drop (size d)) (by omega) (by rw[Qu];omega) λi H=>by
   obtain⟨D,m,z,p,r⟩:=h (i+1) (by omega)
   simp only[Z0a]at m;obtain⟨E,G,B,u⟩:=Z9j m;cases B;refine⟨D,u,z,?_,r⟩;have:Z0g (.pair d b) (Z0a (n+2) (i+1))=size d+Z0g b (Z0a (n+1) i):=by simp only[Z0a,Z0g]
   rw[this]at p;rw[X9];exact p
  refine⟨(x,y),⟨_,_,_,_,[],[],?_,(XB (size d) cs).symm,rfl,k,v⟩,l,A⟩;simp only[Z06,YP]
theorem Z5G (M:Z0e P tys){H:Type}{enc:TypeId×Value->H}{w:World}{Al:Nat->Prop}:(fuel:Nat)->(t:TypeId)->(τ:Ty)->(l:List TypeId)->(cs:List Value)->(d:DataW H×List MemPlace) ->
  Z0o tys t=some (τ,l)->DataW.trod enc P w 0 (λ_=>true) true fuel t cs=some d->∃x:El τ,Rp w (Z2F w) (·< w.heap.size) Al τ (List.replicate (Z06 τ) .S) cs x []/\Wf τ x
 | 0,t,τ,l,cs,d,ha,h=>by cases h
 |fuel+1,t,τ,l,cs,d,ha,h=>by
  have X:=M t τ l ha;by_cases hl:l=[]
  ·obtain⟨u1,u2,u3,u4,u5,u6⟩:=X.und hl;cases τ with
   |unit=>exact absurd rfl u5
   |pair a b=>exact absurd rfl (u6 a b)
   |int k=>
    have z:=u1 k rfl;simp only[DataW.trod,z]at h;split at h<;>first | (cases h;done) | skip
    all_goals (first | (rename_i g;cases g;done) | skip)
    rename_i k0 k' n g;cases g;split at h
    ·rename_i hc;obtain⟨rfl,hw⟩:=hc;exact⟨n,⟨rfl,rfl,rfl⟩,hw⟩
    ·cases h
   |bool=>
    have z:=u2 rfl;simp only[DataW.trod,z]at h;split at h<;>first | (cases h;done) | skip
    all_goals (first | (rename_i g;cases g;done) | skip)
    rename_i b g;exact⟨b,⟨rfl,rfl,rfl⟩,trivial⟩
   |str=>
    have z:=u3 rfl;simp only[DataW.trod,z]at h;split at h<;>first | (cases h;done) | skip
    all_goals (first | (rename_i g;cases g;done) | skip)
    rename_i s g;split at h
    ·rename_i hs;exact⟨s,⟨rfl,rfl,rfl⟩,hs⟩
    ·cases h
   |slice e=>
    obtain⟨et,z,K,_⟩:=u4 e rfl;have u:∃le,Z0o tys et=some (e,le):=by
     unfold tyOf at K;cases E:Z0o tys et with
     |none=>rw[E]at K;cases K
     |some p=>rw[E]at K;simp at K;exact⟨p.2,by rw[<-K]⟩
    obtain⟨le,u⟩:=u;have L:=M et e le u;simp only[DataW.trod,z]at h;split at h<;>first | (cases h;done) | skip
    all_goals (first | (rename_i g;cases g;done) | skip)
    ·rename_i e0 g;exact⟨[],⟨.S,none,0,rfl,rfl,Qq _,.inr (.inr ⟨rfl,rfl,.inl rfl⟩)⟩,Qg _,by simp⟩
    ·rename_i e0 a len cap g;cases g;split at h
     ·rename_i hc;obtain⟨_,hlc,hcm⟩:=hc;cases R:(List.range len).mapM λi=>(w.cells? 0 (a.add (i * P.cellsOf et)) (P.cellsOf et)).bind (DataW.trod enc P w 0 (λ_=>true) true fuel et)with
      |none=>rw[R]at h;cases h
      |some ys=>
       obtain⟨hyl,m⟩:=Z2o _ _ R;simp only[List.length_range,List.getElem_range]at m hyl;rw[L.cells]at m;have C:=L.pos;have E:∀k:Fin len,∃x:El e,(∃b o,a=⟨b,o,none⟩/\b<w.heap.size/\o+k.1 * size e+size e<=Z2F w b/\∃j,Z05 w b (o+k.1 * size e) (size e)=some j/\Rp w (Z2F w) (·< w.heap.size) Al e (List.replicate (Z06 e) .S) j x [])/\Wf e x:=by
        intro k;obtain⟨y,q,_⟩:=m k.1 k.2;cases D:w.cells? 0 (a.add (k.1 * size e)) (size e)with
        |none=>rw[D]at q;cases q
        |some j=>
         rw[D]at q;have q:DataW.trod enc P w 0 (λ_=>true) true fuel et j=some y:=q
         obtain⟨x,F,G⟩:=Z5G M fuel et e le j y u q;obtain⟨b,o,r,Z,aa,ab⟩:=Z74 D C;obtain⟨y0,T,_⟩:=m 0 (by have:=k.2;omega)
         cases A:w.cells? 0 (a.add (0 * size e)) (size e)with
         |none=>rw[A]at T;cases T
         |some cs0=>
          obtain⟨b0,o0,v,_,_,_⟩:=Z74 A C;rw[Nat.zero_mul]at v;have v:a=⟨b0,o0,none⟩:=by simpa[Addr.add]using v
          subst v;have:b=b0/\o=o0+k.1 * size e:=by
           unfold Addr.add at r;split at r
           ·rename_i hz;cases r;exact⟨rfl,by omega⟩
           ·cases r;exact⟨rfl,rfl⟩
          obtain⟨rfl,rfl⟩:=this;exact⟨x,⟨b,o0,rfl,ab,aa,j,Z,F⟩,G⟩
       let xs:List (El e):=List.ofFn λk:Fin len=>Classical.choose (E k)
       have J:xs.length=len:=by simp[xs]
       have I:∀(k:Nat) (h:k<xs.length),(∃b o,a=⟨b,o,none⟩/\b<w.heap.size/\o+k * size e+size e<=Z2F w b/\∃j,Z05 w b (o+k * size e) (size e)=some j/\Rp w (Z2F w) (·< w.heap.size) Al e (List.replicate (Z06 e) .S) j xs[k] [])/\Wf e xs[k]:=by
        intro k V;have:=YR (E ⟨k,by omega⟩)
        simpa[xs]using this
       refine⟨xs,⟨.S,some a,cap,rfl,by rw[J],by rw[J];exact hlc,.inr (.inr ⟨rfl,rfl,?_⟩)⟩,by show xs.length<=_;omega,?_⟩
       ·by_cases h0:len=0
        ·left;exact Qv.1 (by omega)
        ·right;obtain⟨⟨b,o,rfl,hb,hend,_⟩,_⟩:=I (len-1) (by omega)
         refine⟨b,o,rfl,hb,?_,λk V=> ?_⟩
         ·rw[J];have:o+(len-1) * size e+size e=o+len * size e:=by
           have:len=(len-1)+1:=by omega
           rw[this,QC];simp;omega
          omega
         ·obtain⟨⟨b',o',he',_,_,j,W,h2⟩,_⟩:=I k V;cases he';exact⟨j,W,h2⟩
       ·intro x E;obtain⟨k,V,rfl⟩:=X2.1 E;exact(I k V).2
     ·cases h
  ·obtain⟨U,z,hfl,hfs,_⟩:=X.str hl;simp only[DataW.trod,z]at h;split at h
   ·rename_i B;rw[X.cells]at B;cases R:U.toList.mapM λf=>DataW.trod enc P w 0 (λ_=>true) true fuel f.type ((cs.drop f.offset).take (P.cellsOf f.type))with
    |none=>rw[R]at h;cases h
    |some ys=>
     obtain⟨_,m⟩:=Z2o _ _ R;refine Z6E l.length τ cs (by simpa using hl) B λi hi=> ?_
     obtain⟨f,τf,lf,W,h2,h3,h4,h5,_,_⟩:=(hfs i hi).out;have Q:i<U.toList.length:=by simp;omega
     obtain⟨y,q,_⟩:=m i Q;have hfi:U.toList[i]=f:=by
      have:U.toList[i]? = some f:=by rw[QK];exact W
      rw[Qn Q]at this;simpa using this
     rw[hfi]at q;have Y:=M f.type τf lf h5;rw[Y.cells,h3]at q;obtain⟨x,F,G⟩:=Z5G M fuel f.type τf lf _ y h5 q;exact⟨τf,h4,x,F,G⟩
   ·cases h
end
end Go.PI
namespace Go.PI
open Go.ChangeShapes Go.WideShapes Go.ChangeAt Go.RowKit
noncomputable def Z2g (tys:List (TypeId×Ty×List TypeId)):List TypeId->Option (List Mode)
 | []=>some []
 |t::b=>match Z0o tys t,Z2g tys b with | some (τ,l),some ms=>some (.borrow τ (!l.isEmpty)::ms) | _,_=>none
def Z4o:List Mode->List TVal->Prop
 | [],[]=>True
 |.borrow τ ag::ms,v::vs=>(∃x t,v=⟨τ,ag,x,t⟩/\Wf τ x)/\Z4o ms vs
 |_,_=>False
theorem Z4o.none {vals:List TVal}(h:Z4o [] vals):vals=[]:=by
 cases vals with
 |nil=>rfl
 |cons v vs=>exact h.elim
theorem Z4o.one {τ:Ty}{ag:Bool}{ms:List Mode}{vals:List TVal}(h:Z4o (.borrow τ ag::ms) vals):∃x t vs,vals=⟨τ,ag,x,t⟩::vs/\Wf τ x/\Z4o ms vs:=by
 cases vals with
 |nil=>exact h.elim
 |cons v vs=>
  obtain⟨⟨x,t,rfl,w⟩,h⟩:=h;exact⟨x,t,vs,rfl,w,h⟩
section
variable {P:Program}{tys:List (TypeId×Ty×List TypeId)}{H:Type}{enc:TypeId×Value->H}{W:World}{base:Nat}
theorem Z8Q {t:TypeId}{τ:Ty}{l:List TypeId}{v:Value}(h:TyF P tys t τ l)(d:Value.okWide P W .any base t v):Z0f (!l.isEmpty) v:=by
 by_cases g:l=[]
 ·subst g;obtain⟨i,j,m,p,q,r⟩:=h.und rfl;show one v=true
  cases τ with
  |unit=>exact absurd rfl q
  |pair a b=>exact absurd rfl (r a b)
  |int k=>obtain⟨n,rfl⟩:=okWide_int (i k rfl) d;rfl
  |bool=>obtain⟨n,rfl⟩:=okWide_bool (j rfl) d;rfl
  |str=>obtain⟨n,rfl⟩:=okWide_string (m rfl) d;rfl
  |slice e=>obtain⟨et,f,_⟩:=p e rfl;obtain⟨a,n,c,rfl⟩:=okWide_slice f d;rfl
 ·obtain⟨u,f,_⟩:=h.str g;obtain⟨cs,rfl,_⟩:=okWide_struct f d;have:(!l.isEmpty)=true:=by cases l<;>simp_all
  rw[this];exact⟨cs,rfl⟩
theorem Z53 (q:Z0e P tys):(f:List TypeId)->(vs:List Value)->(m:List (DataW H))->(p:List MemPlace)->(ms:List Mode)->DataW.TrodAll enc P W 0 (λ_=>true) true f vs m p ->
  (∀(j:Nat) t v,f[j]? = some t->vs[j]? = some v->Value.okWide P W .any base t v)->Z2g tys f=some ms ->
  m.length=f.length/\∃vals:List TVal,Z4o ms vals/\Z0t W (Z2F W) (·< W.heap.size) ms vals vs (vals.map λ_=>[]) []
 | [],vs,m,p,ms,h,_,e=>by
  obtain⟨rfl,rfl,rfl⟩:=trodAll_nil h;simp only[Z2g,Q9]at e;subst e;exact⟨rfl,[],trivial,trivial⟩
 |t::f,vs,m,p,ms,h,A,e=>by
  obtain⟨v,y,d,n,a,b,rfl,rfl,rfl,B,C⟩:=trodAll_cons h;simp only[Z2g]at e;split at e
  ·rename_i τ l w z r;cases e;obtain⟨i,vals,G,I⟩:=Z53 q f y n b w C (λj t v ht u=>A (j+1) t v (by simpa using ht) (by simpa using u)) r
   obtain⟨g,D⟩:=B;obtain⟨x,F,E⟩:=Z5G q (Al:=(·< W.heap.size)) g t τ l _ _ z D;have k:=Z8Q (q t τ l z) (A 0 t v rfl rfl);refine⟨by simp[i],⟨τ,!l.isEmpty,x,List.replicate (Z06 τ) .S⟩::vals,⟨⟨x,_,rfl,E⟩,G⟩,rfl,k,?_,I⟩
   rw[k.cells];exact F
  ·cases e
def Z5Z:List TVal->List TVal->List TVal->Option Unit
 | [⟨.bool,false,true,_⟩],_,_=>some ()
 |_,_,_=>none
theorem Z8q {b d ext:List TVal}(h:Z5Z b d ext=some ()):∃tg,b=[⟨.bool,false,true,tg⟩]:=by
 unfold Z5Z at h;split at h
 ·exact⟨_,rfl⟩
 ·cases h
theorem Z65:(b:List TypeId)->(ms:List Mode)->(xs:List Value)->Z2g tys b=some ms->Z0X ms xs=[]
 | [],ms,xs,h=>by
  simp only[Z2g,Q9]at h;subst h;cases xs<;>rfl
 |t::b,ms,xs,h=>by
  simp only[Z2g]at h;split at h
  ·rename_i d;cases h;cases xs with
   |nil=>rfl
   |cons x xs=>exact Z65 b _ xs d
  ·cases h
theorem Z8L (T:Z0e P tys){f:FuncId}{i:Sig Unit}(V:Z16 P f i){q:List TypeId}{args:Array Value}{D:List (DataW H)}{p:List MemPlace}(K:Z2g tys q=some i.modes)
  (k:∀vals,Z4o i.modes vals->i.run vals [] Z5Z=some ()) (h:DataW.TrodAll enc P W 0 (λ_=>true) true q args.toList D p)
  (Y:∀(j:Nat) t v,q[j]? = some t->args[j]? = some v->Value.okWide P W .any base t v) :
  Calls P f args W λe r=>e= .returned (.bool true)/\Below W.heap.size W r:=by
 obtain⟨_,vals,l,R⟩:=Z53 T q args.toList D p _ h (λj t v ht B=>Y j t v ht (by rwa[QK]at B)) K
 have g:(vals.map λ_=>([]:List Nat)).flatten=[]:=by induction vals<;>simp_all
 have I:=V.2 vals [] Z5Z () (k vals l) W (Z2F W) (·< W.heap.size) args.toList [] (vals.map λ_=>[]) [] R trivial (by rw[g];simp) (λb y=>⟨y,by rw[g];simp⟩) (by rw[g];simp)
 have:args.toList.toArray=args:=by simp
 rw[this]at I;refine I.mono λe r=> ?_
 rintro⟨v,Z,C,F,rfl,U,X,J,F',St',vs,fps,E,⟨rfl,n,_⟩,d,G,m,_⟩;obtain⟨tg,rfl⟩:=Z8q U;have A:=Z65 q _ args.toList K;rw[A]at n d;have z:C=[]:=Qv.1 n;subst z;rw[Qe,Qe]at d;have w:Below W.heap.size W r:=⟨m.os,m.tape,m.output,m.size,λb y=>m.block b y (by rw[g];simp)⟩
 refine⟨?_,w⟩;cases vs with
 |nil=>exact d.elim
 |cons v vs=>
  cases fps with
  |nil=>exact d.elim
  |cons f fps=>
   obtain⟨⟨L,_,M⟩,Q⟩:=d;have:v= .bool true:=Z5K L M;subst this;cases vs with
   |nil=>rfl
   |cons u vs=>cases fps<;>exact Q.elim
theorem Z6z {j:World}(n:laidOutB P=true)(l:Below W.heap.size W j):(e:List TypeId)->(vs:List Value)->(f:List (DataW H))->(p:List MemPlace)->e.all (λt=>P.readableRec t&&decide (t<P.types.size))=true ->
  DataW.TrodAll enc P W 0 (λ_=>true) true e vs f p->DataW.TrodAll enc P j 0 (λb=>decide (b<W.heap.size)) true e vs f p
 | [],vs,f,p,_,h=>by
  obtain⟨rfl,rfl,rfl⟩:=trodAll_nil h;exact trodAll_mk0
 |t::e,vs,f,p,ht,h=>by
  obtain⟨v,i,d,g,a,b,rfl,rfl,rfl,k,q⟩:=trodAll_cons h;simp only[XS,Q6,Ql]at ht;refine trodAll_cons_mk ?_ (Z6z n l e i g b ht.2 q);refine Below.trod n ht.1.1 ht.1.2 k l λx u=> ?_
  obtain⟨m,r⟩:=k;exact DataW.trod_lt m _ _ _ r x u
theorem Z9F (E:Z0e P tys)(K:laidOutB P=true){f:FuncId}{fn:Func}{g:Sig Unit}(M:Z16 P f g){s:ChangeSpec}(b:s.vars=[]){tb:TypeId}(C:fn.resultTypes= #[tb])(l:P.underlying tb=some .bool)
  (I:Z2g tys fn.params.toList=some g.modes) (n:fn.params.toList.all (λt=>P.readableRec t&&decide (t<P.types.size))=true)
  (B:∀i:List (DataW H),i.length=fn.params.toList.length->s.fn H i={ results:=[.lit (.bool true)],args:=i })
  (m:∀vals,Z4o g.modes vals->g.run vals [] Z5Z=some ()) {args:Array Value} {i gs:List (DataW H)} {d:List MemPlace}
  (k:∀(j:Nat) t v,fn.params[j]? = some t->args[j]? = some v->Value.okWide P W .any base t v) (G:DataW.Whole enc P fn.params.toList s.vars false W args.toList i gs d) :
  Calls P f args W λe D=>∃v,e= .returned v/\s.post enc P fn false true false false W args v D:=by
 have z:=G;obtain⟨p,q,y,F,rfl,J,L⟩:=G;rw[b]at F;obtain⟨rfl,rfl⟩:=trodVars_none F;have w:i.length=fn.params.toList.length:=(Z53 E _ _ _ _ _ y (λj t v ht r=>k j t v (by rwa[QK]at ht) (by rwa[QK]at r)) I).1
 refine(Z8L E M I m y λj t v ht r=>k j t v (by rwa[QK]at ht) r).mono λe D=> ?_
 rintro⟨rfl,u⟩;have A:=B i w;refine⟨_,rfl,i,[],_,[],p,[],z,?_,?_,?_,u.frame _,λh=>by cases h⟩
 ·rw[Qe,A,C];exact trodAll_mk1 (shut_bool l _)
 ·rw[Qe,A];exact Z6z K u _ _ _ _ n y
 ·rw[b,Qe,A];exact rfl
end
end Go.PI
namespace Go.PI
theorem ZaG {n:Int}(b: -9223372036854775808<=n)(d:n<9223372036854775808):Z9J n=n:=by
 unfold Z9J IntKind.wrap;simp only[IntKind.bits,IntKind.signed,Qd];by_cases h:n % 2 ^ 64>=2 ^ (64-1)
 ·rw[QM (by simpa using h)];omega
 ·rw[QN (by simpa using h)];omega
theorem ZaJ {i:Int}{n:Nat}(b:0<=i)(d:i<(n:Int)):inb i n=true:=by
 unfold inb;exact Q3 ⟨b,d⟩
theorem ZaK {n:Nat}(h:n<=LIM):lim n=true:=Q3 h
theorem Zau {n:Nat}(h:n<=LIM):Z9H (nI n) (nI n)=true:=by
 unfold Z9H nI;exact Q3 ⟨by omega,by omega,by omega⟩
theorem Za4 {a b:Int}(h:a<b):decide (a<b)=true:=Q3 h
theorem Za3 {a b:Int}(h:¬ a<b):decide (a<b)=false:=Q2 h
theorem Zax {α:Type}(z:α)(l:List α)(i:Nat)(h:i<l.length):nth z l (i:Int)=l[i]:=by
 unfold nth;simp[h]
theorem ZaE {α:Type}(l:List α)(i:Nat)(v:α):upd l (i:Int) v=l.set i v:=by unfold upd;simp
theorem Z3t {V K:Type}{step:V->(V->Res)->K->Res}(e:Nat->V)(N:Nat)(q:K)(b:Res)
  (j:∀i,i<N->∀rec,step (e i) rec q=rec (e (i+1))) (g:∀rec,step (e N) rec q=b) (n:Nat) (f:N<n):Z1e step n (e 0) q=b:=by
 have:∀d i n,i+d=N->d<n->Z1e step n (e i) q=b:=by
  intro d;induction d with
  |zero=>
   intro i n h f;obtain⟨n,rfl⟩:∃m,n=m+1:=⟨n-1,by omega⟩
   have:i=N:=by omega
   subst this;exact g _
  |succ d k=>
   intro i n h f;obtain⟨n,rfl⟩:∃m,n=m+1:=⟨n-1,by omega⟩
   show step (e i) _ q=b
   rw[j i (by omega)]
   exact k (i+1) n (by omega) (by omega)
 exact this N 0 n (by omega) (by omega)
theorem Z2a {n:Nat}(h:n<4611686018427387904):n<Z1b:=by rw[Z9p];exact h
def Z21 {α β:Type}(a:List α)(f:α->β)(z:β)(i:Nat):List β:=(a.take i).map f++List.replicate (a.length-i) z
theorem Z8f {α β:Type}(a:List α)(f:α->β)(z:β)(i:Nat)(h:i<=a.length):(Z21 a f z i).length=a.length:=by
 unfold Z21;simp;omega
theorem Z8e {α β:Type}(a:List α)(f:α->β)(z:β):Z21 a f z a.length=a.map f:=by
 unfold Z21;simp
theorem Z7M {α β:Type}(a:List α)(f:α->β)(z:β):Z21 a f z 0=List.replicate a.length z:=by
 unfold Z21;simp
theorem Z8g {α β:Type}(a:List α)(f:α->β)(z:β)(i:Nat)(h:i<a.length):(Z21 a f z i).set i (f a[i])=Z21 a f z (i+1):=by
 unfold Z21;rw[List.set_append_right _ _ (by simp;omega)]
 have b:a.length-i=(a.length-(i+1))+1:=by omega
 have d:i-((a.take i).map f).length=0:=by simp;omega
 rw[d,b,List.replicate_succ,List.set_cons_zero,QA h,QU,Qb];rfl
theorem ZaP {n:Nat}{i:Nat}(h:i<n):decide ((i:Int)<nI n)=true:=Q3 (by unfold nI;omega)
theorem ZaO {n:Nat}:decide ((n:Int)<nI n)=false:=Q2 (by unfold nI;omega)
theorem ZaB {α β:Type}(z:β)(a:List α)(f:α->β){step:(List β×Int)->(List β×Int->Res)->(List β->Res)->Res}(q:List β->Res)(d:a.length<=LIM)
  (j:∀(b:List β) (i:Nat) rec,(e:i<a.length)->b.length=a.length->step (b,(i:Int)) rec q=rec (b.set i (f a[i]),(i:Int)+1))
  (h:∀b rec,step (b,(a.length:Int)) rec q=q b):Z1e step Z1b (Z9g (nI a.length) z,0) q=q (a.map f):=by
 have g:Z9g (nI a.length) z=Z21 a f z 0:=by rw[Z7M];unfold Z9g nI;simp
 rw[g];refine Z3t (λi=>(Z21 a f z i,(i:Int))) a.length q _ (λi e rec=> ?_) (λrec=> ?_) Z1b (Z2a (by unfold LIM at d;omega))
 ·rw[j _ i rec e (Z8f _ _ _ _ (by omega)),Z8g a f z i e];rfl
 ·rw[h,Z8e]
def szR (left:Int)(n:Nat):Int:=if (n:Int)<=left then left-n else -1
theorem Zaz {left:Int}{n:Nat}(h:(n:Int)<=left):szR left n=left-n:=QM h
theorem Zay {left:Int}{n:Nat}(h:¬ (n:Int)<=left):szR left n= -1:=QN h
theorem Zaj {left:Int}{a b:Nat}(h:(a:Int)<=left):szR left (a+b)=szR (left-a) b:=by
 unfold szR;by_cases d:((b:Nat):Int)<=left-a
 ·rw[QM d,QM (show ((a+b:Nat):Int)<=left by omega)];omega
 ·rw[QN d,QN (show ¬ ((a+b:Nat):Int)<=left by omega)]
theorem Zak {left:Int}{a b:Nat}(h:¬ (a:Int)<=left):szR left (a+b)= -1:=QN (show ¬ ((a+b:Nat):Int)<=left by omega)
theorem ZaM {left:Int}{n:Nat}(h:0<=left):szR left n<=left:=by unfold szR;split<;>omega
theorem ZaA {α:Type}(b:α->Nat)(a:List α){step:(Int×Int)->(Int×Int->Res)->((Int->Res)×(Unit->Res))->Res}(q:(Int->Res)×(Unit->Res))(r:a.length<=1048576)
  (w:∀(left:Int) (i:Nat) rec,(p:i<a.length)->0<=left->left<=1048576->step (left,(i:Int)) rec q=if (b a[i]:Int)<=left then rec (left-b a[i],(i:Int)+1) else q.2 ())
  (u:∀left rec,step (left,(a.length:Int)) rec q=q.1 left) (left:Int) (f:0<=left) (h:left<=1048576) :
  Z1e step Z1b (left,0) q=if (((a.map b).sum:Nat):Int)<=left then q.1 (left-((a.map b).sum:Nat)) else q.2 ():=by
 have j:∀(d i n:Nat) (left:Int),i+d=a.length->d<n->0<=left->left<=1048576 ->
   Z1e step n (left,(i:Int)) q=if ((((a.drop i).map b).sum:Nat):Int)<=left then q.1 (left-(((a.drop i).map b).sum:Nat)) else q.2 ():=by
  intro d;induction d with
  |zero=>
   intro i n left p v f h;obtain⟨n,rfl⟩:∃m,n=m+1:=⟨n-1,by omega⟩
   have:i=a.length:=by omega
   subst this;show step _ _ q=_
   rw[u];simp[f]
  |succ d y=>
   intro i n left p v f h;obtain⟨n,rfl⟩:∃m,n=m+1:=⟨n-1,by omega⟩
   have g:i<a.length:=by omega
   show step _ _ q=_
   rw[w left i _ g f h,QJ g,Qz,QX];by_cases k:(b a[i]:Int)<=left
   ·rw[QM k];have:=y (i+1) n (left-b a[i]) (by omega) (by omega) (by omega) (by omega)
    rw[show ((i:Int)+1)=((i+1:Nat):Int) by omega,this]
    by_cases l:((((a.drop (i+1)).map b).sum:Nat):Int)<=left-b a[i]
    ·have e:((b a[i]+((a.drop (i+1)).map b).sum:Nat):Int)<=left:=by omega
     rw[QM l,QM e];have:left-(b a[i]:Int)-((((a.drop (i+1)).map b).sum:Nat):Int)=left-((b a[i]+((a.drop (i+1)).map b).sum:Nat):Int):=by omega
     rw[this]
    ·have e:¬ ((b a[i]+((a.drop (i+1)).map b).sum:Nat):Int)<=left:=by omega
     rw[QN l,QN e]
   ·have e:¬ ((b a[i]+((a.drop (i+1)).map b).sum:Nat):Int)<=left:=by omega
    rw[QN k,QN e]
 have:=j a.length 0 Z1b left (by omega) (Z2a (by omega)) f h
 simpa using this
theorem Zaq {α:Type}(a:List α){step:Int->(Int->Res)->((Unit->Res)×(Unit->Res))->Res}(q:(Unit->Res)×(Unit->Res))(b:a.length<=LIM)
  (f:∀(i:Nat) rec,(d:i<a.length)->step (i:Int) rec q=rec ((i:Int)+1)) (e:∀rec,step (a.length:Int) rec q=q.1 ()):Z1e step Z1b (0:Int) q=q.1 ():=
 Z3t (λi=>(i:Int)) a.length q _ (λi d rec=>by rw[f i rec d];rfl) e Z1b (Z2a (by unfold LIM at b;omega))
end Go.PI
namespace Go.PI
theorem Z9G {α:Type}(b:α->Nat):(l:List α)->∀x∈l,b x<=(l.map b).sum
 |y::l,x,h=>by
  rcases Qp.1 h with rfl | h
  ·simp
  ·have:=Z9G b l x h;simp;omega
def Z4q {α β:Type}(g:Int->α->List β):Nat->List α->List β
 |_,[]=>[]
 |j,x::l=>g j x++Z4q g (j+1) l
theorem Z94 {α β:Type}(g:Int->α->List β)(b:α->Nat)(d:β->Nat)(h:∀i x,((g i x).map d).sum<=b x):(j:Nat)->(l:List α)->((Z4q g j l).map d).sum<=(l.map b).sum
 |_,[]=>Qq _
 |j,x::l=>by
  have:=Z94 g b d h (j+1) l;have:=h j x;simp only[Z4q,QU,YC,Qz,QX];omega
theorem Z93 {α β:Type}(g:Int->α->List β)(h:∀i x,(g i x).length<=1):(j:Nat)->(l:List α)->(Z4q g j l).length<=l.length
 |_,[]=>Qq _
 |j,x::l=>by
  have:=Z93 g h (j+1) l;have:=h j x;simp only[Z4q,Q5,Q8];omega
theorem Za2 {α β:Type}(a:List α)(g:Int->α->List β){V K:Type}(j:Int->List β->V){step:V->(V->Res)->K->Res}(q:K)(e:List β->Res)(f:a.length<=LIM)(u:∀i x,(g i x).length<=1)
  (w:∀(b:List β) (i:Nat) rec,(l:i<a.length)->b.length<=i->step (j i b) rec q=rec (j (i+1) (b++g i a[i])))
  (r:∀b rec,step (j (a.length:Int) b) rec q=e b):Z1e step Z1b (j 0 []) q=e (Z4q g 0 a):=by
 have k:∀(d i n:Nat) (b:List β),i+d=a.length->d<n->b.length<=i->Z1e step n (j i b) q=e (b++Z4q g i (a.drop i)):=by
  intro d;induction d with
  |zero=>
   intro i n b l v p;obtain⟨n,rfl⟩:∃m,n=m+1:=⟨n-1,by omega⟩
   have:i=a.length:=by omega
   subst this;show step _ _ q=_
   rw[r];simp[Z4q]
  |succ d y=>
   intro i n b l v p;obtain⟨n,rfl⟩:∃m,n=m+1:=⟨n-1,by omega⟩
   have h:i<a.length:=by omega
   show step _ _ q=_
   rw[w b i _ h p,QJ h];have:=y (i+1) n (b++g i a[i]) (by omega) (by omega) (by have:=u i a[i];simp;omega)
   rw[show ((i:Int)+1)=((i+1:Nat):Int) by omega,this]
   simp[Z4q,Qb]
 have:=k a.length 0 Z1b [] (by omega) (Z2a (by unfold LIM at f;omega)) (by simp)
 simpa using this
def mkL {α:Type}(w:α->Nat)(mk:α->Int->α):List α->Int->List α
 | [],_=>[]
 |x::l,k=>mk x k::mkL w mk l (k+w x)
theorem Z6r {α:Type}(w:α->Nat)(mk:α->Int->α):(l:List α)->(k:Int)->(mkL w mk l k).length=l.length
 | [],_=>rfl
 |x::l,k=>by simp[mkL,Z6r w mk l]
theorem Z64 {α:Type}(w:α->Nat)(mk:α->Int->α):(l m:List α)->(k:Int)->mkL w mk (l++m) k=mkL w mk l k++mkL w mk m (k+((l.map w).sum:Nat))
 | [],m,k=>by simp[mkL]
 |x::l,m,k=>by
  simp only[QL,mkL,Qz,QX];rw[Z64 w mk l m];congr 3;omega
theorem Z9u {α:Type}(w:α->Nat)(mk:α->Int->α)(b:α->Nat)(h:∀x k,b (mk x k)=b x):(l:List α)->(k:Int)->((mkL w mk l k).map b).sum=(l.map b).sum
 | [],_=>rfl
 |x::l,k=>by simp only[mkL,Qz,QX,h,Z9u w mk b h l]
theorem Z7A {α:Type}(w:α->Nat)(a:List α)(i:Nat)(h:i<a.length):((a.take (i+1)).map w).sum=((a.take i).map w).sum+w a[i]:=by
 rw[QA h,QU,YC,Qz,Yh,QX,List.sum_nil,XK]
theorem Z9K {α:Type}(w:α->Nat)(a:List α)(i:Nat):((a.take i).map w).sum<=(a.map w).sum:=by
 have:(a.map w).sum=((a.take i).map w).sum+((a.drop i).map w).sum:=by
  rw[<-YC,<-QU,XB]
 omega
theorem Z9Y {α:Type}(w:α->Nat)(mk:α->Int->α)(a:List α)(k:Int){V K:Type}(g:List α->Int->Int->V){step:V->(V->Res)->K->Res}(q:K)(b:List α->Int->Res)
  (f:a.length<=LIM)
  (p:∀(l:List α) (i:Nat) rec,(e:i<a.length)->l.length=a.length->(h:i<l.length)->l[i]=a[i]->step (g l (k+(((a.take i).map w).sum:Nat)) i) rec q=rec (g (l.set i (mk a[i] (k+(((a.take i).map w).sum:Nat)))) (k+(((a.take i).map w).sum:Nat)+w a[i]) (i+1)))
  (n:∀l k rec,l.length=a.length->step (g l k (a.length:Int)) rec q=b l k):Z1e step Z1b (g a k 0) q=b (mkL w mk a k) (k+((a.map w).sum:Nat)):=by
 have:=Z3t (step:=step) (λi=>g (mkL w mk (a.take i) k++a.drop i) (k+(((a.take i).map w).sum:Nat)) i) a.length q (b (mkL w mk a k) (k+((a.map w).sum:Nat))) (λi e rec=>by
  have d:(mkL w mk (a.take i) k).length=i:=by rw[Z6r];simp;omega
  have h:(mkL w mk (a.take i) k++a.drop i).length=a.length:=by simp[d];omega
  rw[p _ i rec e h (by omega) (by rw[Xh (by omega)];simp[d])]
  have j:(mkL w mk (a.take i) k++a.drop i).set i (mk a[i] (k+(((a.take i).map w).sum:Nat)))=mkL w mk (a.take (i+1)) k++a.drop (i+1):=by
   rw[List.set_append_right _ _ (by omega),d,Nat.sub_self,QJ e,List.set_cons_zero,QA e,Z64]
   simp[mkL]
  rw[j,Z7A w a i e];have m:k+(((a.take i).map w).sum:Nat)+(w a[i]:Int)=k+((((a.take i).map w).sum+w a[i]:Nat):Int):=by omega
  rw[m];rfl) (λrec=>by
  rw[n _ _ _ (by simp[Z6r])]
  simp) Z1b (Z2a (by unfold LIM at f;omega))
 simpa[mkL]using this
theorem Zat {α:Type}(w:α->Nat)(mk:α->Int->α)(a:List α)(k:Int)(i:Nat)(h:i<a.length)(d:i<(mkL w mk a k).length):(mkL w mk a k)[i]=mk a[i] (k+(((a.take i).map w).sum:Nat)):=by
 induction a generalizing k i with
 |nil=>simp at h
 |cons x l b=>
  cases i with
  |zero=>simp[mkL]
  |succ i=>
   simp only[mkL,Yo,YL,Qz,QX];rw[b _ _ (by simpa using h)]
   congr 1;omega
theorem Z9V {α:Type}(w:α->Nat)(a:List α)(k:Int){V K:Type}(e:Int->Int->V){step:V->(V->Res)->K->Res}(q:K)(b:Int->Res)(d:a.length<=LIM)
  (j:∀(i:Nat) rec,(f:i<a.length)->step (e (k+(((a.take i).map w).sum:Nat)) i) rec q=rec (e (k+(((a.take i).map w).sum:Nat)+w a[i]) (i+1)))
  (h:∀k rec,step (e k (a.length:Int)) rec q=b k):Z1e step Z1b (e k 0) q=b (k+((a.map w).sum:Nat)):=by
 have:=Z3t (step:=step) (λi=>e (k+(((a.take i).map w).sum:Nat)) i) a.length q (b (k+((a.map w).sum:Nat))) (λi f rec=>by
  rw[j i rec f,Z7A w a i f];have g:k+(((a.take i).map w).sum:Nat)+(w a[i]:Int)=k+((((a.take i).map w).sum+w a[i]:Nat):Int):=by omega
  rw[g];rfl) (λrec=>by
  rw[h];simp) Z1b (Z2a (by unfold LIM at d;omega))
 simpa using this
theorem Z9Z {V K:Type}(N:Nat)(f:Int->V)(b:Nat->Bool){step:V->(V->Res)->K->Res}(q:K)(e:Res)(g:Nat->Res)(j:N<=LIM)
  (r:∀(i:Nat) rec,i<N->step (f i) rec q=bif b i then g i else rec (f ((i:Int)+1))) (k:∀rec,step (f (N:Int)) rec q=e) :
  Z1e step Z1b (f 0) q=match (List.range N).find? b with | none=>e | some i=>g i:=by
 have h:∀(d i n:Nat),i+d=N->d<n->Z1e step n (f i) q=match (List.range' i d).find? b with | none=>e | some i=>g i:=by
  intro d;induction d with
  |zero=>
   intro i n l p;obtain⟨n,rfl⟩:∃m,n=m+1:=⟨n-1,by omega⟩
   have:i=N:=by omega
   subst this;show step _ _ q=_
   rw[k];rfl
  |succ d u=>
   intro i n l p;obtain⟨n,rfl⟩:∃m,n=m+1:=⟨n-1,by omega⟩
   show step _ _ q=_
   rw[r i _ (by omega),List.range'_succ,List.find?_cons]
   cases b i with
   |true=>rfl
   |false=>
    have:=u (i+1) n (by omega) (by omega)
    rw[show ((i:Int)+1)=((i+1:Nat):Int) by omega,Q0]
    exact this
 have:=h N 0 Z1b (by omega) (Z2a (by unfold LIM at j;omega))
 rw[List.range_eq_range'];exact this
theorem Z9L {d:Nat->Bool}{l:List Nat}{a b:Res}:(match l.find? d with | none=>a | some _=>b)=bif l.any d then b else a:=by
 induction l with
 |nil=>rfl
 |cons x l e=>
  rw[List.find?_cons,List.any_cons];cases d x with
  |true=>rfl
  |false=>exact e
theorem Z9Q {b:Nat->Bool}{l:List Nat}{k:Bool->Res}{u v:Bool}:(bif l.any b then k u else k v)=k (bif l.any b then u else v):=by
 cases l.any b<;>rfl
theorem Zaf (a b:ByteArray):sEq a b=sEq b a:=by
 unfold sEq;exact BEq.comm
theorem Zag (a:ByteArray):sEq a a=true:=by unfold sEq;simp
theorem Zah (a:ByteArray):sNe a a=false:=by unfold sNe;simp
theorem ZaN {α:Type}[BEq α][LawfulBEq α](n:α):(n != n)=false:=by simp
def Z5U {A:Type}(f:Nat->A->A):Nat->Nat->A->A
 |_,0,a=>a
 |i,d+1,a=>Z5U f (i+1) d (f i a)
theorem Z9T {A V K:Type}(N:Nat)(g:Int->A->V)(f:Nat->A->A)(p:Nat->A->Prop){step:V->(V->Res)->K->Res}(q:K)(b:A->Res)(a0:A)(k:N<=LIM)(j:p 0 a0)
  (v:∀(i:Nat) a,i<N->p i a->p (i+1) (f i a)) (w:∀(i:Nat) a rec,i<N->p i a->step (g i a) rec q=rec (g ((i:Int)+1) (f i a)))
  (l:∀a rec,p N a->step (g (N:Int) a) rec q=b a):Z1e step Z1b (g 0 a0) q=b (Z5U f 0 N a0)/\p N (Z5U f 0 N a0):=by
 have h:∀(d i n:Nat) (a:A),i+d=N->d<n->p i a->Z1e step n (g i a) q=b (Z5U f i d a)/\p N (Z5U f i d a):=by
  intro d;induction d with
  |zero=>
   intro i n a r u e;obtain⟨n,rfl⟩:∃m,n=m+1:=⟨n-1,by omega⟩
   have:i=N:=by omega
   subst this;exact⟨l a _ e,e⟩
  |succ d y=>
   intro i n a r u e;obtain⟨n,rfl⟩:∃m,n=m+1:=⟨n-1,by omega⟩
   have:=y (i+1) n (f i a) (by omega) (by omega) (v i a (by omega) e)
   refine⟨?_,this.2⟩;show step _ _ q=_
   rw[w i a _ (by omega) e,show ((i:Int)+1)=((i+1:Nat):Int) by omega]
   exact this.1
 exact h N 0 Z1b a0 (by omega) (Z2a (by unfold LIM at k;omega)) j
theorem Z9X {V K:Type}(step:V->(V->Res)->K->Res)(m:Nat)(v:V)(q:K):Z1e step (m+1) v q=step v (λb=>Z1e step m b q) q:=rfl
end Go.PI
namespace Go.PI
def Z1R {α A E:Type}(f:Nat->A->α->Except E A):Nat->List α->A->Except E A
 |_,[],a=> .ok a
 |i,x::l,a=>match f i a x with
  |.ok b=>Z1R f (i+1) l b
  |.error e=> .error e
theorem Z3Y {α A E V K:Type}(l:List α)(j:Int->A->V)(f:Nat->A->α->Except E A)(p:Nat->A->Prop){step:V->(V->Res)->K->Res}(q:K)(g:A->Res)(r:E->Res)(a0:A)(y:l.length<=LIM)(w:p 0 a0)
  (D:∀(i:Nat) a b,(u:i<l.length)->p i a->f i a l[i]= .ok b->p (i+1) b)
  (F:∀(i:Nat) a rec,(u:i<l.length)->p i a->step (j i a) rec q=match f i a l[i]with | .ok b=>rec (j ((i:Int)+1) b) | .error e=>r e)
  (z:∀a rec,p l.length a->step (j (l.length:Int) a) rec q=g a):Z1e step Z1b (j 0 a0) q=match Z1R f 0 l a0 with | .ok a=>g a | .error e=>r e:=by
 have v:∀(d i n:Nat) (a:A),i+d=l.length->d<n->p i a->Z1e step n (j i a) q=match Z1R f i (l.drop i) a with | .ok a=>g a | .error e=>r e:=by
  intro d;induction d with
  |zero=>
   intro i n a u C k;obtain⟨n,rfl⟩:∃m,n=m+1:=⟨n-1,by omega⟩
   have:i=l.length:=by omega
   subst this;rw[YT];exact z a _ k
  |succ d G=>
   intro i n a u C k;obtain⟨n,rfl⟩:∃m,n=m+1:=⟨n-1,by omega⟩
   have h:i<l.length:=by omega
   show step _ _ q=_
   rw[F i a _ h k,QJ h];simp only[Z1R];cases B:f i a l[i]with
   |error e=>rfl
   |ok b=>
    have:=G (i+1) n b (by omega) (by omega) (D i a b h k B)
    rw[show ((i:Int)+1)=((i+1:Nat):Int) by omega]
    exact this
 have:=v l.length 0 Z1b a0 (by omega) (Z2a (by unfold LIM at y;omega)) w
 simpa using this
theorem Z90 {α A E:Type}{f:Nat->A->α->Except E A}(p:Nat->A->Prop):(l:List α)->(i:Nat)->(a b:A)->p i a->(∀(j:Nat) x a d,x∈l->p j a->f j a x= .ok d->p (j+1) d)->Z1R f i l a= .ok b->p (i+l.length) b
 | [],i,a,b,e,_,h=>by
  simp only[Z1R,Except.ok.injEq]at h;subst h;exact e
 |x::l,i,a,b,e,g,h=>by
  simp only[Z1R]at h;split at h
  ·rename_i d k;have:=Z90 p l (i+1) d b (g i x a d (by simp) e k) (λj y a d m=>g j y a d (Qa _ m)) h
   rw[Q8];rw[show i+(l.length+1)=i+1+l.length by omega]
   exact this
  ·cases h
theorem Z8h {α A V K:Type}(l:List α)(g:Int->A->V)(f:A->α->A)(p:Nat->A->Prop){step:V->(V->Res)->K->Res}(q:K)(b:A->Res)(a0:A)(m:l.length<=LIM)(k:p 0 a0)
  (r:∀(i:Nat) a,(d:i<l.length)->p i a->p (i+1) (f a l[i]))
  (u:∀(i:Nat) a rec,(d:i<l.length)->p i a->step (g i a) rec q=rec (g ((i:Int)+1) (f a l[i])))
  (n:∀a rec,p l.length a->step (g (l.length:Int) a) rec q=b a):Z1e step Z1b (g 0 a0) q=b (l.foldl f a0):=by
 have h:=Z3Y l g (λ_ a x=>(.ok (f a x):Except Empty A)) p q b (λe=>e.elim) a0 m k (λi a w d j h=>by cases h;exact r i a d j) (λi a rec d j=>u i a rec d j) n
 rw[h];have:∀(l:List α) (i:Nat) (a:A),Z1R (λ_ a x=>(.ok (f a x):Except Empty A)) i l a= .ok (l.foldl f a):=by
  intro l;induction l with
  |nil=>intro i a;rfl
  |cons x l v=>intro i a;simp only[Z1R,QY];exact v _ _
 rw[this]
theorem Z9S {α β V K:Type}(l:List α)(j:Int->List β->V)(g:α->List β)(B:Nat)(pre:List β){step:V->(V->Res)->K->Res}(q:K)(f:List β->Res)(n:l.length<=LIM)
  (r:∀(i:Nat) (e:i<l.length),(pre++(l.take i).flatMap g).length<=B->(pre++(l.take (i+1)).flatMap g).length<=B) (m:pre.length<=B)
  (u:∀(i:Nat) (b:List β) rec,(e:i<l.length)->b=pre++(l.take i).flatMap g->b.length<=B->step (j i b) rec q=rec (j ((i:Int)+1) (b++g l[i])))
  (p:∀b rec,step (j (l.length:Int) b) rec q=f b):Z1e step Z1b (j 0 pre) q=f (pre++l.flatMap g):=by
 have ht:∀(i:Nat) (e:i<l.length),(l.take (i+1)).flatMap g=(l.take i).flatMap g++g l[i]:=λi e=>by
  rw[QA e,List.flatMap_append,QH,List.flatMap_nil,Qe]
 have:=Z8h l j (λb x=>b++g x) (λi b=>b=pre++(l.take i).flatMap g/\b.length<=B) q f pre n ⟨by simp,m⟩
  (λi a e h=>by
   have k:a++g l[i]=pre++(l.take (i+1)).flatMap g:=by rw[ht i e,<-Qb,<-h.1]
   exact⟨k,by rw[k];exact r i e (by rw[<-h.1];exact h.2)⟩)
  (λi a rec e h=>u i a rec e h.1 h.2) (λa rec _=>p a rec)
 rw[this];congr 1;have:∀(l:List α) (d:List β),l.foldl (λb x=>b++g x) d=d++l.flatMap g:=by
  intro l;induction l with
  |nil=>intro d;simp
  |cons x l v=>intro d;simp[v,Qb]
 rw[this]
theorem Za1 {α V K:Type}(l:List α)(e:Int->V)(b:α->Bool){step:V->(V->Res)->K->Res}(q:K)(d f:Res)(j:l.length<=LIM)
  (m:∀(i:Nat) rec,(g:i<l.length)->step (e i) rec q=bif b l[i] then f else rec (e ((i:Int)+1))) (k:∀rec,step (e (l.length:Int)) rec q=d) :
  Z1e step Z1b (e 0) q=bif l.any b then f else d:=by
 have h:=Z3Y l (λi (_:Unit)=>e i) (λ_ _ x=>if b x then .error () else (.ok ():Except Unit Unit)) (λ_ _=>True) q (λ_=>d) (λ_=>f) () j trivial (λ_ _ _ _ _ _=>trivial)
  (λi a rec g _=>by
   rw[m i rec g];cases b l[i]<;>rfl) (λa rec _=>k rec)
 rw[h];have:∀(l:List α) (i:Nat),Z1R (λ_ _ x=>if b x then .error () else (.ok ():Except Unit Unit)) i l ()=bif l.any b then .error () else .ok ():=by
  intro l;induction l with
  |nil=>intro i;rfl
  |cons x l n=>
   intro i;simp only[Z1R,List.any_cons];cases b x with
   |true=>rfl
   |false=>exact n _
 rw[this];cases l.any b<;>rfl
def Z70 {α:Type}(b:Nat->α->Bool):Nat->List α->Bool
 |_,[]=>false
 |i,x::l=>b i x||Z70 b (i+1) l
theorem Z9O {α V K:Type}(l:List α)(e:Int->V)(b:Nat->α->Bool){step:V->(V->Res)->K->Res}(q:K)(d f:Res)(j:l.length<=LIM)
  (m:∀(i:Nat) rec,(g:i<l.length)->step (e i) rec q=bif b i l[i] then f else rec (e ((i:Int)+1))) (k:∀rec,step (e (l.length:Int)) rec q=d) :
  Z1e step Z1b (e 0) q=bif Z70 b 0 l then f else d:=by
 have h:=Z3Y l (λi (_:Unit)=>e i) (λi _ x=>if b i x then .error () else (.ok ():Except Unit Unit)) (λ_ _=>True) q (λ_=>d) (λ_=>f) () j trivial (λ_ _ _ _ _ _=>trivial)
  (λi a rec g _=>by
   rw[m i rec g];cases b i l[i]<;>rfl) (λa rec _=>k rec)
 rw[h];have:∀(l:List α) (i:Nat),Z1R (λi _ x=>if b i x then .error () else (.ok ():Except Unit Unit)) i l ()=bif Z70 b i l then .error () else .ok ():=by
  intro l;induction l with
  |nil=>intro i;rfl
  |cons x l n=>
   intro i;simp only[Z1R,Z70];cases b i x with
   |true=>rfl
   |false=>exact n _
 rw[this];cases Z70 b 0 l<;>rfl
def Z9E {α:Type}(p:α->Bool)(l:List α):Int:=match l.findIdx? p with | some i=>(i:Int) | none=> -1
theorem Z9R {α V K:Type}(l:List α)(b:Int->V)(p:α->Bool){step:V->(V->Res)->K->Res}(q:K)(k:Int->Res)(e:l.length<=LIM)
  (g:∀(i:Nat) rec,(d:i<l.length)->step (b i) rec q=bif p l[i] then k i else rec (b ((i:Int)+1))) (f:∀rec,step (b (l.length:Int)) rec q=k (-1)) :
  Z1e step Z1b (b 0) q=k (Z9E p l):=by
 have h:=Z3Y l (λi (_:Unit)=>b i) (λi _ x=>if p x then .error i else (.ok ():Except Nat Unit)) (λ_ _=>True) q (λ_=>k (-1)) (λi=>k i) () e trivial (λ_ _ _ _ _ _=>trivial)
  (λi a rec d _=>by
   rw[g i rec d];cases p l[i]<;>rfl) (λa rec _=>f rec)
 rw[h];have:∀(l:List α) (i:Nat),Z1R (λi _ x=>if p x then .error i else (.ok ():Except Nat Unit)) i l ()=match l.findIdx? p with | some j=> .error (i+j) | none=> .ok ():=by
  intro l;induction l with
  |nil=>intro i;rfl
  |cons x l m=>
   intro i;simp only[Z1R,List.findIdx?_cons];cases n:p x with
   |true=>rfl
   |false=>
    simp only[Xj,XI];rw[m];cases l.findIdx? p with
    |none=>rfl
    |some j=>simp only[XU];congr 1;omega
 rw[this];unfold Z9E;cases l.findIdx? p with
 |none=>rfl
 |some j=>simp
end Go.PI
