/-
  Program's code interpreted over typed values; printed texts; plain laws. No conditions.
-/
import Derived.Test.YtiaipepkkjlccaaGreatPa
import Derived.Laws.AppendOwn
import Derived.Lib.AppendStr
import Derived.OrdersHeld
import Derived.Deep.LoopGhost
import Derived.Scope
set_option linter.unusedVariables false
set_option linter.unusedSimpArgs false
namespace Go.PI
theorem Z3I {w w':World}:{p:List Step}->{τ:Ty}->{cs:List Value}->{base:Option (Nat×Nat)}->Z08 p=true->Z00 w τ cs base p=Z00 w' τ cs base p
 | [],τ,cs,base,_=>by rw[Z0O,Z0O]
 |.fst::p,.pair a b,cs,base,h=>by
  simp only[Z00];exact Z3I (p:=p) h
 |.snd::p,.pair a b,cs,base,h=>by
  simp only[Z00];exact Z3I (p:=p) h
 |.idx _::_,_,_,_,h=>by cases h
 |.fst::_,.int _,_,_,_=>by simp[Z00]
 |.fst::_,.bool,_,_,_=>by simp[Z00]
 |.fst::_,.str,_,_,_=>by simp[Z00]
 |.fst::_,.unit,_,_,_=>by simp[Z00]
 |.fst::_,.slice _,_,_,_=>by simp[Z00]
 |.snd::_,.int _,_,_,_=>by simp[Z00]
 |.snd::_,.bool,_,_,_=>by simp[Z00]
 |.snd::_,.str,_,_,_=>by simp[Z00]
 |.snd::_,.unit,_,_,_=>by simp[Z00]
 |.snd::_,.slice _,_,_,_=>by simp[Z00]
theorem Z2f {w w':World}:{p:List Step}->{τ:Ty}->{cs d r:List Value}->{base b:Option (Nat×Nat)}->Z08 p=true->Z00 w τ cs base p=some (r,b)->∃g,Z00 w' τ d base p=some (g,b)
 | [],τ,cs,d,r,base,b,_,h=>by
  rw[Z0O]at h;rw[Z0O];cases h;exact⟨_,rfl⟩
 |.fst::p,.pair a f,cs,d,r,base,b,e,h=>by
  simp only[Z00]at h ⊢;exact Z2f (p:=p) e h
 |.snd::p,.pair a f,cs,d,r,base,b,e,h=>by
  simp only[Z00]at h ⊢;exact Z2f (p:=p) e h
 |.idx _::_,_,_,_,_,_,_,e,_=>by cases e
 |.fst::_,.int _,_,_,_,_,_,_,h=>by simp[Z00]at h
 |.fst::_,.bool,_,_,_,_,_,_,h=>by simp[Z00]at h
 |.fst::_,.str,_,_,_,_,_,_,h=>by simp[Z00]at h
 |.fst::_,.unit,_,_,_,_,_,_,h=>by simp[Z00]at h
 |.fst::_,.slice _,_,_,_,_,_,_,h=>by simp[Z00]at h
 |.snd::_,.int _,_,_,_,_,_,_,h=>by simp[Z00]at h
 |.snd::_,.bool,_,_,_,_,_,_,h=>by simp[Z00]at h
 |.snd::_,.str,_,_,_,_,_,_,h=>by simp[Z00]at h
 |.snd::_,.unit,_,_,_,_,_,_,h=>by simp[Z00]at h
 |.snd::_,.slice _,_,_,_,_,_,_,h=>by simp[Z00]at h
theorem Z3U {w w':World}{F:Nat->Nat}{St Al:Nat->Prop}:{path:List Step}->{τ:Ty}->{tg:List Tag}->{cs:List Value}->{x:El τ}->{fp:List Nat}->{base:Option (Nat×Nat)}->{r:List Value}->{b:Option (Nat×Nat)} ->
  Rp w' F St Al τ tg cs x fp->Z2K path=true->Z00 w τ cs base path=some (r,b)->∃W,Z00 w' τ cs base path=some (W,b)
 | [],τ,tg,cs,x,fp,base,r,b,h,_,d=>by
  rw[Z0O]at d ⊢;exact⟨_,d⟩
 |.fst::p,.pair a C,tg,cs,x,fp,base,r,b,h,m,d=>by
  obtain⟨I,J,rfl,A,B⟩:=h.pair_parts;simp only[Z00]at d ⊢;exact Z3U (path:=p) A m d
 |.snd::p,.pair a C,tg,cs,x,fp,base,r,b,h,m,d=>by
  obtain⟨I,J,rfl,A,B⟩:=h.pair_parts;simp only[Z00]at d ⊢;exact Z3U (path:=p) B m d
 |.idx i::p,.slice e,tg,cs,x,fp,base,r,b,h,m,d=>by
  obtain⟨t,a,cap,rfl,rfl,Q,h⟩:=h;simp only[Z00]at d ⊢;split at d
  ·rename_i D o len z l;simp only[X4,Value.slice.injEq,and_true]at l;obtain⟨rfl,rfl,rfl⟩:=l;split at d
   ·rename_i n;split at d
    ·rename_i H P;simp only[n,XH];have v:∃j,Z05 w' D (o+i * size e) (size e)=some j:=by
      rcases h with⟨_,T,_⟩ | ⟨y,E,V,fps,f,L,rfl,R,X,K,u⟩ | ⟨y,rfl,h⟩
      ·cases T
      ·simp only[Q9,Addr.mk.injEq,and_true]at f;obtain⟨rfl,rfl⟩:=f;obtain⟨q,g,_⟩:=u i n;exact⟨q,g⟩
      ·rcases h with h | ⟨E,V,f,U,K,u⟩
       ·subst h;simp at n
       ·simp only[Q9,Addr.mk.injEq,and_true]at f;obtain⟨rfl,rfl⟩:=f;obtain⟨q,g,_⟩:=u i n;exact⟨q,g⟩
     obtain⟨j,k⟩:=v;rw[k];exact Z2f (p:=p) m d
    ·cases d
   ·cases d
  ·cases d
 |.fst::_,.int _,_,_,_,_,_,_,_,_,_,d=>by simp[Z00]at d
 |.fst::_,.bool,_,_,_,_,_,_,_,_,_,d=>by simp[Z00]at d
 |.fst::_,.str,_,_,_,_,_,_,_,_,_,d=>by simp[Z00]at d
 |.fst::_,.unit,_,_,_,_,_,_,_,_,_,d=>by simp[Z00]at d
 |.fst::_,.slice _,_,_,_,_,_,_,_,_,_,d=>by simp[Z00]at d
 |.snd::_,.int _,_,_,_,_,_,_,_,_,_,d=>by simp[Z00]at d
 |.snd::_,.bool,_,_,_,_,_,_,_,_,_,d=>by simp[Z00]at d
 |.snd::_,.str,_,_,_,_,_,_,_,_,_,d=>by simp[Z00]at d
 |.snd::_,.unit,_,_,_,_,_,_,_,_,_,d=>by simp[Z00]at d
 |.snd::_,.slice _,_,_,_,_,_,_,_,_,_,d=>by simp[Z00]at d
 |.idx _::_,.int _,_,_,_,_,_,_,_,_,_,d=>by simp[Z00]at d
 |.idx _::_,.bool,_,_,_,_,_,_,_,_,_,d=>by simp[Z00]at d
 |.idx _::_,.str,_,_,_,_,_,_,_,_,_,d=>by simp[Z00]at d
 |.idx _::_,.unit,_,_,_,_,_,_,_,_,_,d=>by simp[Z00]at d
 |.idx _::_,.pair _ _,_,_,_,_,_,_,_,_,_,d=>by simp[Z00]at d
section
variable {W0:Base}{M:Nat->Prop}{σ σ':State}{a:Act}{w w':World}{G G':Ghost}{xs ys:List Nat}
theorem Z4H (σ:State)(i:Nat)(tv:TV)(j:Nat):(σ.put i tv).slot j=if i=j/\i<σ.slots.length then tv else (σ.loosen false i).slot j:=by
 unfold State.put State.slot;simp only[];rw[Z0S];simp[State.loosen,Z0b]
theorem Z5p (σ:State)(i:Nat)(tv:TV):(σ.put i tv).slots.length=σ.slots.length:=by simp[State.put,State.loosen,Z0b,Z0E]
theorem Z4P (a:Act)(i:Nat):a.put (some i) (a.tmps.getD i undef)=a:=by
 simp only[Act.put];have:a.tmps.setIfInBounds i (a.tmps.getD i undef)=a.tmps:=by
  apply Array.ext
  ·simp
  ·intro j d b;simp only[Array.getElem_setIfInBounds b];split
   ·rename_i h;subst h;rw[X5,Xp b];rfl
   ·rfl
 rw[this]
structure RootAs (σ:State)(G:Ghost)(w:World)(σ':State)(G':Ghost)(w':World)(a:Act)(b:Bool)(r:Nat):Prop where
 ct:σ'.ct ⟨b,r,[]⟩=σ.ct ⟨b,r,[]⟩
 has:∃c,σ'.content ⟨b,r,[]⟩=some c
 loc:Z09 G' a w' ⟨b,r,[]⟩=Z09 G a w ⟨b,r,[]⟩
theorem Z9d (C:Inv W0 M σ' a w' G' ys){p:Place}(H:RootAs σ G w σ' G' w' a p.box p.root){tv:TV}{v:Value}{fp:List Nat}(g:Z4f p tv=true)(h:Z01 σ G a w tv v fp):Z01 σ' G' a w' tv v []:=by
 cases tv with
 |ref q ag=>
  obtain⟨K,L,f⟩:=q;simp only[Z4f,Q6,QG]at g;obtain⟨_,⟨rfl,rfl⟩,r⟩:=g;obtain⟨rfl,h⟩:=h;refine⟨rfl,?_⟩;have d:σ'.ct ⟨p.box,p.root,f⟩=σ.ct ⟨p.box,p.root,f⟩:=H.ct;rcases h with h | ⟨cs,base,⟨τ,l,b,i,k,m⟩,n,E⟩
  ·exact .inl (d.trans h)
  ·refine .inr ⟨cs,base,⟨τ,l,b,d.trans i,?_,?_⟩,n,E⟩
   ·have:=H.loc;exact this.trans k
   ·rw[<-m];exact Z3I r
 |eref q=>
  obtain⟨K,L,f⟩:=q;simp only[Z4f,Q6,QG]at g;obtain⟨_,⟨rfl,rfl⟩,r⟩:=g;obtain⟨rfl,h⟩:=h;refine⟨rfl,?_⟩;have d:σ'.ct ⟨p.box,p.root,f⟩=σ.ct ⟨p.box,p.root,f⟩:=H.ct;rcases h with h | ⟨cs,b,⟨τ,l,y,i,k,m⟩,n⟩
  ·exact .inl (d.trans h)
  ·obtain⟨c,A⟩:=H.has;obtain⟨l',j,D,e,I,_⟩:=Z0F C A;have B:Z09 G' a w' ⟨p.box,p.root,f⟩=some (l,y):=by
    have:=H.loc;exact this.trans k
   have e:Z09 G' a w' ⟨p.box,p.root,f⟩=some (l',j):=e;rw[B]at e;cases e;have J:c.τ=τ:=by
    have F:σ'.ct ⟨p.box,p.root,[]⟩=some c.τ:=by rw[State.ct,A];rfl
    have z:σ'.ct ⟨p.box,p.root,[]⟩=some τ:=d.trans i;rw[F]at z;simpa using z
   subst J;obtain⟨P,u⟩:=Z3U (w:=w) I r m;exact .inr ⟨P,b,⟨_,l,y,d.trans i,B,u⟩,n⟩
 |_=>cases g
theorem RootAs.put {p:Place}(H:RootAs σ G w σ' G' w' a p.box p.root){i:Nat}{t:TV}{e:Ghost}(m:Sim G' e)(l:σ'.slot i= .dead):RootAs σ G w (σ'.put i t) e w' a p.box p.root:=by
 have b:(σ'.put i t).content ⟨p.box,p.root,[]⟩=σ'.content ⟨p.box,p.root,[]⟩:=by
  cases k:p.box with
  |true=>rfl
  |false=>
   obtain⟨c,d⟩:=H.has;rw[k]at d;simp only[State.content]at d ⊢;rw[Z4H];by_cases j:i=p.root
   ·subst j;rw[l]at d;cases d
   ·rw[QN (λh=>j h.1),Z0i]
    cases g:σ'.slot p.root<;>rw[g]at d<;>first | rfl | cases d
 have f:Z09 e a w' ⟨p.box,p.root,[]⟩=Z09 G' a w' ⟨p.box,p.root,[]⟩:=by
  simp only[Z09];rw[m.ad]
 exact⟨by rw[State.ct,b];exact H.ct,by rw[b];exact H.has,f.trans H.loc⟩
theorem Inv.restore {p:Place}(n:∀i,i<σ.slots.length->∃fp,Z01 σ G a w (σ.slot i) (a.tmps.getD i undef) fp)(b:∀i,i<W0.np->a.tmps.getD i undef=W0.arg i) :
  (l:List TV)->(i:Nat)->(σ':State)->(G':Ghost)->(∀j,Z0u .dead l j=σ.slot (i+j))->Inv W0 M σ' a w' G' ys->RootAs σ G w σ' G' w' a p.box p.root ->
  ∃d,Inv W0 M (Z0V p l i σ') a w' d ys/\RootAs σ G w (Z0V p l i σ') d w' a p.box p.root/\Sim G' d
 | [],i,σ',G',_,f,H=>⟨G',f,H,Sim.refl G'⟩
 |t::l,i,σ',G',y,f,H=>by
  have ht:t=σ.slot i:=by
   have:=y 0;rw[Z0s]at this;simpa using this
  have e:∀j,Z0u .dead l j=σ.slot (i+1+j):=λj=>by
   have:=y (j+1);rw[Z0p]at this;rw[this];congr 1;omega
  simp only[Z0V];split
  ·rename_i D;split
   ·rename_i q;have E:i<σ.slots.length:=Z0U (by
     rw[<-ht];intro h;rw[h]at q;cases q)
    obtain⟨fp,k⟩:=n i E;rw[<-ht]at k;have m:=Z9d f H q k;obtain⟨z,u,g⟩:=Inv.put (fp:=[]) (xs:=ys) f (i:=i) (tv:=t) (v:=a.tmps.getD i undef) m (b i) (.inr rfl);rw[Z4P]at u;obtain⟨A,C,B,r⟩:=Inv.restore n b l (i+1) _ z e u (H.put g D);exact⟨A,C,B,g.trans r⟩
   ·exact Inv.restore n b l (i+1) σ' G' e f H
  ·exact Inv.restore n b l (i+1) σ' G' e f H
end
end Go.PI
namespace Go.PI
theorem Z6N:(l l':List TV)->l.length=l'.length->(∀j,Z0u .dead l j=Z0u .dead l' j)->l=l'
 | [],[],_,_=>rfl
 | [],_::_,h,_=>by simp at h
 |_::_,[],h,_=>by simp at h
 |x::l,y::l',h,e=>by
  have b:=e 0;simp only[Z0x,Z0s,Z0p]at b;rw[b,Z6N l l' (by simpa using h) λj=>e (j+1)]
theorem State.ext' {σ σ':State}(b:σ.slots.length=σ'.slots.length)(f:∀j,σ.slot j=σ'.slot j)(e:σ.boxes=σ'.boxes):σ=σ':=by
 cases σ;cases σ';simp only at b e;subst e;congr;exact Z6N _ _ b f
theorem TV.loosen_idem (b:Bool)(r:Nat)(tv:TV):TV.loosen b r (TV.kill (TV.loosen b r tv))=TV.kill (TV.loosen b r tv):=by
 have g:TV.loosen b r .dead= .dead:=rfl;cases tv with
 |ref p ag=>
  have f:TV.kill (.ref p ag)= .ref p ag:=rfl;by_cases h:(p.box==b&&p.root==r)=true
  ·have e:TV.loosen b r (.ref p ag)= .dead:=QM h;rw[e];rfl
  ·have e:TV.loosen b r (.ref p ag)= .ref p ag:=QN h;rw[e,f,e]
 |eref p=>
  have f:TV.kill (.eref p)= .eref p:=rfl;by_cases h:(p.box==b&&p.root==r)=true
  ·have e:TV.loosen b r (.eref p)= .dead:=QM h;rw[e];rfl
  ·have e:TV.loosen b r (.eref p)= .eref p:=QN h;rw[e,f,e]
 |tref t ags=>
  have f:TV.kill (.tref t ags)= .tref t ags:=rfl;by_cases h:(!b&&t==r)=true
  ·have e:TV.loosen b r (.tref t ags)= .dead:=QM h;rw[e];rfl
  ·have e:TV.loosen b r (.tref t ags)= .tref t ags:=QN h;rw[e,f,e]
 |val v=>
  have e:TV.loosen b r (.val v)= .val v:=rfl;rw[e];rcases TV.kill_or (.val v)with h | h<;>rw[h]<;>rfl
 |tup v ags=>
  have e:TV.loosen b r (.tup v ags)= .tup v ags:=rfl;rw[e];rcases TV.kill_or (.tup v ags)with h | h<;>rw[h]<;>rfl
 |eptr v t=>
  have e:TV.loosen b r (.eptr v t)= .eptr v t:=rfl;rw[e];rcases TV.kill_or (.eptr v t)with h | h<;>rw[h]<;>rfl
 |_=>rfl
section
variable {W0:Base}{M:Nat->Prop}{σ:State}{a:Act}{w w':World}{G:Ghost}{xs:List Nat}{P:Program}{tys:List (TypeId×Ty×List TypeId)}
variable {R:Type}{Γ:Env R}{d:Option Nat}{type:TypeId}{o:Oper}{k:TV->State->Option R}{r:R}
theorem Z1A {v:TVal}:v.allO=true↔∀t∈v.tg,t= .O:=by
 unfold TVal.allO;rw[QD];constructor
 ·intro h t ht;have:=h t ht;cases t<;>simp_all[Tag.isO]
 ·intro h t ht;rw[h t ht];rfl
theorem Z3J {σ':State}(h:σ.noN)(g:∀i,σ'.slot i=σ.slot i\/σ'.slot i= .dead)(f:∀i,σ'.boxAt i=σ.boxAt i\/σ'.boxAt i=none):σ'.noN:=by
 refine⟨λi=> ?_,λi v e=> ?_⟩
 ·rcases g i with b | b
  ·rw[b];exact h.1 i
  ·rw[b];rfl
 ·rcases f i with b | b
  ·rw[b]at e;exact h.2 i v e
  ·rw[b]at e;cases e
theorem Z6o (hT:Z0e P Γ.tys)(I:Inv W0 M σ a w G xs){t:TypeId}{y x:Operand}(ho:o.op= .store t y x){τ:Ty}{p:Place}(ht:tyOf Γ.tys t=some τ)(hp:σ.peek y= .eref p)
  {v:TVal} {n σ2:State} (htk:σ.take x τ=some (v,n)) (hvO:v.allO=true) (hnf:Z08 p.path=false) (hval:p.box=false->∃c,n.slot p.root= .val c) {c:TVal} (B:n.content p=some c) (hcO:c.allO=true)
  (X:(n.loosen p.box p.root).kill.setAt p v=some σ2):Z1n P W0 M o a w G xs (Z0V p n.slots 0 σ2) .dead false:=by
 have hpr:=Z0v I y;rw[hp]at hpr;obtain⟨_,hpr⟩:=hpr (by simp)
 obtain⟨fp,E,I1,hs,hτ,hR,hsh⟩:=Z0Y I htk;rw[hsh.cells]at hR;have hpr1:=hpr.sim (σ':=n) (G':=E) (λq=>Z2z htk q) hs.ad
 have hpl1:∃cs b,Z0A n E a w p cs (some b)/\a.eval y= .pointer (some ⟨b.1,b.2,none⟩):=by
  rcases hpr1 with h | h
  ·rw[State.ct,B]at h;cases h
  ·exact h
 obtain⟨cs,⟨D,o'⟩,⟨τc,l,bs,hct,hrl,hloc⟩,hptrv⟩:=hpl1;have hτc:τc=c.τ:=by rw[State.ct,B]at hct;simpa using hct.symm
 subst hτc;simp only at hptrv;obtain⟨l',bs',Q,hrl',hRc,hwc⟩:=Z0F I1 B;rw[hrl]at hrl';cases hrl';have hcN:c.noN=true:=by
  rw[TVal.noN_iff];intro t ht;rw[Z1A.1 hcO t ht];rfl
 have hck:(n.loosen p.box p.root).kill.content p=some c:=by
  obtain⟨bx,r,path⟩:=p;cases bx with
  |true=>
   simp only[State.content]at B ⊢;rw[Z2S];show Z2R (n.boxAt r)=some c
   rw[B];simp[Z2R,hcN]
  |false=>
   simp only[State.content]at B ⊢;obtain⟨c',J⟩:=hval rfl;simp only at J;rw[J]at B;cases B;rw[Z1w,Z0i,J];simp[TV.loosen,TV.kill,hcN]
 unfold State.setAt at X;rw[hck]at X;simp only[Option.bind_some]at X;obtain⟨A,hrr,rfl⟩:=Qm.1 X;obtain⟨u,hu,hut⟩:=Z3L hrr;have hfpw:∀z∈Q,E.who z=some (if p.box then .c p.root else .s p.root):=by
  intro z H;rcases hwc with⟨hb,_,rfl,_⟩ | ⟨hb,_,rfl,_⟩
  ·rw[hb];exact I1.whoC _ z H
  ·rw[hb];exact I1.whoS _ z H
 have hnod:Q.Nodup:=by
  rcases hwc with⟨_,_,rfl,_⟩ | ⟨_,_,rfl,_⟩
  ·exact I1.nodC _
  ·exact I1.nodS _
 obtain⟨fpo,fpi,L⟩:=Rp.lens (base:=bs) hRc (Z1A.1 hcO) hnod (λz H hm=>by
  rcases hwc with⟨hb,hbx,_,hbs⟩ | ⟨_,_,_,hbs,_⟩
  ·rw[hbs]at H;cases H;have Z:=hfpw _ hm;rw[(I1.box _ _ hbx).2,hb]at Z;cases Z
  ·rw[hbs]at H;cases H) hloc hu
 obtain⟨b2,o2,m,hb2,hbo,hom,hrow⟩:=L.deep hnf;simp only[Q9,Qs]at hb2;obtain⟨rfl,rfl⟩:=hb2;obtain⟨C,T,fr,hC,hmC,hth⟩:=hrow;obtain⟨lt,hta,_⟩:=Z0Q ht;have hvsz:(a.eval x).cells.size=size τ:=by have:=hR.len.1;rw[hτ]at this;simpa using this
 have huτ:size u.τ=size τ:=by rw[hut,hτ]
 have hrun:(execOp a.eval o).run P w= .ok .skip (w.setRow D (Z0c C.toList o' (a.eval x).cells.toList).toArray):=by
  rw[Z03 ho];have hst:=Z48 (off:=o') hT hta hC hth hvsz (by omega) hR.ones
  simp only[execOp,hptrv,Sem.run_bind,hst,Result.andThen_ok,Sem.run_pure]
 have W:D∈Q:=L.perm.symm.subset (Qh _ hbo);have hput:∀(G2:Ghost) (F':Nat->Nat),G2.F=E.F->G2.Al=E.Al->F'=G2.F->∀z∈fpo,Put w E.F E.Al (w.setRow D (Z0c C.toList o' (a.eval x).cells.toList).toArray) F' G2.Al (some (D,o')) (a.eval x).cells.toList z:=by
  intro G2 F' Z h2 h3 z H;refine⟨by rw[h3,Z],λh=>by rw[h2];exact h,?_⟩
  by_cases hzb:z=D
  ·subst hzb;rw[setRow_heap w _ _ _ _ _ hC];simp only[Z7n,Z0m];rw[XG];simp[hC]
  ·rw[setRow_other _ _ _ _ hzb];exact(Z14 hzb).symm
 obtain⟨Y,Ia,_⟩:=I1.loosen p.box p.root;obtain⟨fs2,Ib,hkeep⟩:=Ia.kill;have hsim2:Sim E { { E with fs:=Y } with fs:=fs2 }:=(Sim.fs E Y).trans (Sim.fs _ fs2);obtain⟨bx,e,path⟩:=p;have hvN:(∀t∈v.tg,t.isN=false):=λt ht=>by rw[Z1A.1 hvO t ht];rfl
 cases bx with
 |true=>
  have hbk:(n.loosen true e).kill.boxAt e=some c:=hck;obtain⟨K,I3,hs3,hwho,⟨cc,T3,hcc,hRc3⟩,hptr⟩:=Ib.takeBox hbk;have hidem:(n.loosen true e).kill.loosen true e=(n.loosen true e).kill:=by
   refine State.ext' (by simp[State.loosen,Z0b,State.kill,Z0b]) (λj=> ?_) rfl
   rw[Z0i,Z1w,Z0i,TV.loosen_idem]
  rw[hidem]at I3;have hfpc:Q=E.fb e:=by
   rcases hwc with⟨_,_,h,_⟩ | ⟨h,_⟩
   ·exact h
   ·cases h
  have hfb:({ { E with fs:=Y } with fs:=fs2 }:Ghost).fb e=Q:=hfpc.symm;rw[hfb]at I3 hRc3;have hwb:K.who D=some .x:=I3.whoX _ (Qh _ W);have hnoN:((n.loosen true e).kill.putBox e none).noN:=Z3J (Z2s _) (λ_=> .inl rfl) λi=>by
   rw[Z0C];split
   ·exact .inr rfl
   ·exact .inl rfl
  obtain⟨I4,_,hl4⟩:=I3.patch hwb (.inl rfl) (Wrote.setRow w D (Z0c C.toList o' (a.eval x).cells.toList).toArray) (K.F D) (.inl hnoN);have hF4:(λz=>if z=D then K.F D else K.F z)=K.F:=by funext z;split<;>simp_all
  have f:=hsim2.trans hs3;have hR3:Rp w K.F K.St K.Al v.τ v.tg (a.eval x).cells.toList v.x fp:=by rw[f.F,f.St,f.Al];exact hR
  have V:D ∉ fp:=λhm=>by
   have:=(Qj.1 I3.nodX).2.2 D W D (Qh _ hm) rfl;exact this
  have hR4:=hl4 _ _ _ _ _ hR3 V (.inl hvN);obtain⟨fpn,hpn,htg',aa⟩:=L.put _ _ _ _ v _ fp A.1 A.2 hrr hut.symm (Z1A.1 hvO) hR4 (hput K _ f.F f.Al hF4);simp only[hnf]at aa;have hadne:E.ad e≠D:=λh=>by
   rw[<-h]at hwb;have h2:=(f.bx (E.ad e) e).2 ((I1.box _ _ (show n.boxAt e=some c from B)).2)
   rw[hwb]at h2;cases h2
  have hcc':(w.setRow D (Z0c C.toList o' (a.eval x).cells.toList).toArray).heap[E.ad e]? = some (.cells cc T3 (0,0)):=by
   rw[setRow_other _ _ _ _ hadne];exact hcc
  have hlcc:l=cc.toList:=by
   have hcc2:w.heap[E.ad e]? = some (.cells cc T3 (0,0)):=hcc;simp only[Z09,hcc2,Q9,Qs]at hrl;exact hrl.1.symm
  have hI4:=I4.sub (ys:=fpn++xs) (by
   intro z H;simp only[Qr]at H ⊢;rcases H with H | H
   ·have:=hpn.subset H;simp only[Qr]at this;rcases this with h | h
    ·exact .inl (L.perm.symm.subset (Qh _ h))
    ·exact .inr (.inl h)
   ·exact .inr (.inr H)) (by
   have hp:((fpn++xs)++fpi).Perm (Q++(fp++xs)):=by
    refine QZ.2 λz=> ?_
    have Z:=(QZ.1 hpn) z;have h2:=(QZ.1 L.perm) z;simp only[XA]at Z h2 ⊢;omega
   exact(Qj.1 (hp.nodup_iff.2 I3.nodX)).1)
  obtain⟨G5,I5,_,_,_,_,had5⟩:=hI4.addBox (i:=e) (g:=E.ad e) (c:=cc) (T:=T3) (v:=⟨c.τ,c.ag,A.1,A.2⟩) (by
   simp only[State.putBox,Z0E];exact Z1B hbk) hcc' ((hs3.bx _ _).2 hwho) (by rw[<-hlcc];exact aa) (λj hj=>by
   rw[Z1E];have:=hptr j (by simpa[State.putBox,State.loosen,Z0b,State.kill,Z0b]using hj)
   rw[hidem]at this;exact this) (.inr (by rw[<-f.ad]))
  have hst:((n.loosen true e).kill.putBox e none).putBox e (some ⟨c.τ,c.ag,A.1,A.2⟩)=(n.loosen true e).kill.setContent ⟨true,e,path⟩ ⟨c.τ,c.ag,A.1,A.2⟩:=by
   simp only[State.putBox,State.setContent,Z1x]
  rw[hst]at I5;have hbl:e<(n.loosen true e).kill.boxes.length:=Z1B hbk;have U:((n.loosen true e).kill.setContent ⟨true,e,path⟩ ⟨c.τ,c.ag,A.1,A.2⟩).content ⟨true,e,[]⟩=some ⟨c.τ,c.ag,A.1,A.2⟩:=by
   show ((n.loosen true e).kill.putBox e (some ⟨c.τ,c.ag,A.1,A.2⟩)).boxAt e=_
   rw[Z0C,QM ⟨rfl,hbl⟩]
  have had:G5.ad e=E.ad e:=by rw[had5];exact QM rfl
  obtain⟨G6,I6,_,_⟩:=Inv.restore (p:=⟨true,e,path⟩) (λi hi=>⟨_,I1.slot i hi⟩) I.pin n.slots 0 _ G5 (λj=>by rw[Xu];rfl) I5 ⟨by
    have Z:n.ct ⟨true,e,[]⟩=some c.τ:=by
     have:n.content ⟨true,e,[]⟩=some c:=B;rw[State.ct,this];rfl
    show (((n.loosen true e).kill.setContent ⟨true,e,path⟩ ⟨c.τ,c.ag,A.1,A.2⟩).content ⟨true,e,[]⟩).map (·.τ)=_
    rw[U,Z];rfl,⟨_,U⟩,by
    have hcc2:w.heap[E.ad e]? = some (.cells cc T3 (0,0)):=hcc;simp only[Z09];rw[had,hcc',hcc2]⟩
  exact⟨undef,_,G6,[],_,hrun,.inr ⟨rfl,rfl⟩,by simpa using I6,rfl,λh=>by cases h⟩
 |false=>
  obtain⟨c',J⟩:=hval rfl;simp only at J;have:c'=c:=by simp only[State.content,J]at B;simpa using B
  subst this;have ab:(n.loosen false e).kill.slot e= .val c':=by
   rw[Z1w,Z0i,J];simp[TV.loosen,TV.kill,hcN]
  have hri:=Z0U (σ:=n) (i:=e) (by rw[J];simp)
  obtain⟨K,I3,hs3,hsh3,hRc3⟩:=Ib.takeSlot ab;have hfs1:fs2 e=Q:=by
   rw[hkeep e (by rw[ab,Z0i,J];rfl)]
   have hfsk:Y e=E.fs e:=by
    have:=I1.loosen false e;exact ‹∀i,(n.loosen false e).slot i=n.slot i->Y i=E.fs i› e (by rw[Z0i,J];rfl)
   rcases hwc with⟨h,_⟩ | ⟨_,_,h,_⟩
   ·cases h
   ·rw[h];exact hfsk
  have hfb:({ { E with fs:=Y } with fs:=fs2 }:Ghost).fs e=Q:=hfs1;rw[hfb]at I3 hRc3;have hwb:K.who D=some .x:=I3.whoX _ (Qh _ W);have hnoN:((n.loosen false e).kill.empty e).noN:=Z3J (Z2s _) (λi=>by
   rw[Z3r];split
   ·exact .inr rfl
   ·rw[Z0i];exact TV.loosen_or _ _ _) λi=> .inl rfl
  obtain⟨I4,_,hl4⟩:=I3.patch hwb (.inl rfl) (Wrote.setRow w D (Z0c C.toList o' (a.eval x).cells.toList).toArray) (K.F D) (.inl hnoN);have hF4:(λz=>if z=D then K.F D else K.F z)=K.F:=by funext z;split<;>simp_all
  have f:=hsim2.trans hs3;have hR3:Rp w K.F K.St K.Al v.τ v.tg (a.eval x).cells.toList v.x fp:=by rw[f.F,f.St,f.Al];exact hR
  have V:D ∉ fp:=λhm=>by
   have:=(Qj.1 I3.nodX).2.2 D W D (Qh _ hm) rfl;exact this
  have hR4:=hl4 _ _ _ _ _ hR3 V (.inl hvN);obtain⟨fpn,hpn,htg',aa⟩:=L.put _ _ _ _ v _ fp A.1 A.2 hrr hut.symm (Z1A.1 hvO) hR4 (hput K _ f.F f.Al hF4);simp only[hnf]at aa;have hI4:=I4.sub (ys:=fpn++xs) (by
   intro z H;simp only[Qr]at H ⊢;rcases H with H | H
   ·have:=hpn.subset H;simp only[Qr]at this;rcases this with h | h
    ·exact .inl (L.perm.symm.subset (Qh _ h))
    ·exact .inr (.inl h)
   ·exact .inr (.inr H)) (by
   have hp:((fpn++xs)++fpi).Perm (Q++(fp++xs)):=by
    refine QZ.2 λz=> ?_
    have Z:=(QZ.1 hpn) z;have h2:=(QZ.1 L.perm) z;simp only[XA]at Z h2 ⊢;omega
   exact(Qj.1 (hp.nodup_iff.2 I3.nodX)).1)
  have hll:l=Z02 (a.tmps.getD e undef):=by
   simp only[Z09,Q9,Qs]at hrl;exact hrl.1.symm
  rw[hll]at aa;obtain⟨G5,I5,_⟩:=hI4.put (i:=e) (tv:= .val ⟨c'.τ,c'.ag,A.1,A.2⟩) (v:=a.tmps.getD e undef) ⟨hsh3,aa⟩ (λhi=>I.pin e hi) (.inr rfl)
  have hact:a.put (some e) (a.tmps.getD e undef)=a:=by
   have hlt:e<a.tmps.size:=by rw[I1.len];exact hri
   simp only[Act.put];have:a.tmps.setIfInBounds e (a.tmps.getD e undef)=a.tmps:=by
    apply Array.ext
    ·simp
    ·intro i Z h2;simp only[Array.getElem_setIfInBounds h2];split
     ·rename_i h;subst h;rfl
     ·rfl
   rw[this]
  rw[hact]at I5;have hst:((n.loosen false e).kill.empty e).put e (.val ⟨c'.τ,c'.ag,A.1,A.2⟩)=(n.loosen false e).kill.setContent ⟨false,e,path⟩ ⟨c'.τ,c'.ag,A.1,A.2⟩:=by
   refine State.ext' ?_ (λj=> ?_) ?_
   ·rw[Z5p,Z2h];exact Z5p _ _ _
   ·rw[Z4H,Z0M hck,ab];have hlen:((n.loosen false e).kill.empty e).slots.length=n.slots.length:=by
     rw[State.empty,Z5p];simp[State.loosen,Z0b,State.kill,Z0b]
    have hlen2:(n.loosen false e).kill.slots.length=n.slots.length:=by simp[State.loosen,Z0b,State.kill,Z0b]
    rw[hlen,hlen2];by_cases hj:e=j
    ·subst hj;simp[hri]
    ·simp only[hj,false_and,XI];rw[Z0i,Z3r];simp only[hj,false_and,XI];rw[Z0i,Z1w,Z0i,TV.loosen_idem,TV.loosen_idem]
   ·simp only[State.setContent,ab];rfl
  rw[hst]at I5;have U:((n.loosen false e).kill.setContent ⟨false,e,path⟩ ⟨c'.τ,c'.ag,A.1,A.2⟩).content ⟨false,e,[]⟩=some ⟨c'.τ,c'.ag,A.1,A.2⟩:=by
   have hl:e<(n.loosen false e).kill.slots.length:=Z0U (by rw[ab];simp)
   simp only[State.content];rw[Z0M hck,QM ⟨rfl,hl⟩,ab]
  obtain⟨G6,I6,_,_⟩:=Inv.restore (p:=⟨false,e,path⟩) (λi hi=>⟨_,I1.slot i hi⟩) I.pin n.slots 0 _ G5 (λj=>by rw[Xu];rfl) I5 ⟨by
    have Z:n.ct ⟨false,e,[]⟩=some c'.τ:=by
     have:n.content ⟨false,e,[]⟩=some c':=B;rw[State.ct,this];rfl
    show (((n.loosen false e).kill.setContent ⟨false,e,path⟩ ⟨c'.τ,c'.ag,A.1,A.2⟩).content ⟨false,e,[]⟩).map (·.τ)=_
    rw[U,Z];rfl,⟨_,U⟩,rfl⟩
  exact⟨undef,_,G6,[],_,hrun,.inr ⟨rfl,rfl⟩,by simpa using I6,rfl,λh=>by cases h⟩
theorem Z8n (z:Z0e P Γ.tys)(I:Inv W0 M σ a w G xs){t:TypeId}{y x:Operand}(m:o.op= .store t y x)(h:Z0L Γ d type σ k o.op=some r):∃tv σ',k tv σ'=some r/\Z1n P W0 M o a w G xs σ' tv false:=by
 rw[m]at h;simp only[Z0L]at h;split at h
 ·rename_i τ p ht n;split at h
  ·rename_i v B e;split at h
   ·rename_i σ2 b;exact⟨_,_,h,Z6n z I m ht n e b⟩
   ·cases h
  ·cases h
 ·rename_i τ p ht n;split at h
  ·rename_i v B e;split at h
   ·rename_i A;simp only[Q6,QF,Xq]at A;obtain⟨⟨u,l⟩,g⟩:=A;split at h
    ·rename_i c i;split at h
     ·rename_i j;split at h
      ·rename_i σ2 b;refine⟨_,_,h,Z6o z I m ht n e u l (λC=> ?_) i j b⟩
       rcases g with f | f
       ·rw[C]at f;cases f
       ·cases q:B.slot p.root with
        |val c'=>exact⟨c',rfl⟩
        |_=>rw[q]at f;cases f
      ·cases h
     ·cases h
    ·cases h
   ·cases h
  ·cases h
 ·cases h
end
end Go.PI
namespace Go.PI
section
variable {P:Program}{w:World}
def Z5M (P:Program)(b:TypeId):Prop:=(∃e,P.underlying b=some (.slice e))\/P.underlying b=some .string
theorem Z4c (t l ty e:TypeId)(i:TypeInfo)(ht:P.underlying t=some (.slice e))(f:Z5M P l)(j:P.info? e=some i)
  (base:Option Addr) (d b:Nat) (g:d<=b) (X:Value) (k:Builtin.lenOf X=pure 0) (h:(Builtin.firstCells i.size 0 X).run P w= .ok #[] w) :
  (Builtin.append_ #[t,l] ty #[.slice base d b,X]).run P w= .ok (.slice base d b) w:=by
 rcases f with⟨m,f⟩ | f
 all_goals
  cases base with
  |none=>simp[Builtin.append_,run_underlying ht,run_underlying f,sizeOf,typeInfo,j,k,g,h]
  |some a=>simp[Builtin.append_,run_underlying ht,run_underlying f,sizeOf,typeInfo,j,k,g,h,storeCells]
theorem Z7J (t q ty e:TypeId)(i:TypeInfo)(ht:P.underlying t=some (.slice e))(n:Z5M P q)(z:P.info? e=some i)
  (g o d f:Nat) (cur:Array Value) (T:TypeId) (fz:Nat×Nat) (y:w.heap[g]? = some (.cells cur T fz)) (p:Z3Z cur fz)
  (m:Nat) (X:Value) (v:Builtin.lenOf X=pure m) (b:List Value) (B:b.length=m * i.size) (h:(Builtin.firstCells i.size m X).run P w= .ok b.toArray w) (r:∀u∈b,one u=true)
  (j:d+m<=f) (k:o+d * i.size+b.length<=cur.size) :
  (Builtin.append_ #[t,q] ty #[.slice (some ⟨g,o,none⟩) d f,X]).run P w =
   .ok (.slice (some ⟨g,o,none⟩) (d+m) f) (w.setRow g (Z0c cur.toList (o+d * i.size) b).toArray):=by
 have l:=Z3n P g (o+d * i.size) T fz b 0 cur w y p (by simpa using k) r
 rw[XK]at l;rcases n with⟨A,n⟩ | n <;>
  simp[Builtin.append_,run_underlying ht,run_underlying n,sizeOf,typeInfo,z,v,j,h,Z5k,l]
theorem append_nil (t j ty e:TypeId)(i:TypeInfo)(z:Value)(ht:P.underlying t=some (.slice e))(h:Z5M P j)(q:P.info? e=some i)(u:i.zero=some z)
  (n:Nat) (X:Value) (p:Builtin.lenOf X=pure n) (b:List Value) (d:(Builtin.firstCells i.size n X).run P w.drew= .ok b.toArray w.drew)
  (k:0<n) (m:(n:Int)<=9223372036854775807) (l:n * i.bytes<=281474976710656) :
  (Builtin.append_ #[t,j] ty #[.slice none 0 0,X]).run P w =
   .ok (.slice (some ⟨w.heap.size,0,none⟩) n (grownCap w n 0 e)) (w.drew.alloc (.cells (b.toArray++Builtin.zeroCells z.cells (grownCap w n 0 e-n)) e)):=by
 have r:n≠0:=by omega
 have g:¬ (9223372036854775807<(n:Int)):=by omega
 have f:¬ (281474976710656<Builtin.nextslicecap n 0 * i.bytes):=by rw[nextslicecap_zero k];omega
 rcases h with⟨v,h⟩ | h <;>
  simp[Builtin.append_,run_underlying ht,run_underlying h,sizeOf,typeInfo,zeroValue,q,u,p,r,g,f,Question.forced,run_firstCells_none,d,newRow,grownCap]
theorem Z7H (t y ty e:TypeId)(i:TypeInfo)(z:Value)(ht:P.underlying t=some (.slice e))(p:Z5M P y)(C:P.info? e=some i)(E:i.zero=some z)
  (b:Addr) (d f:Nat) (olds:List Value) (r:olds.length=d * i.size) (k:∀j v,olds[j]? = some v->w.cell? (b.add j)=some v)
  (n:Nat) (X:Value) (B:Builtin.lenOf X=pure n) (g:List Value) (h:(Builtin.firstCells i.size n X).run P w.drew= .ok g.toArray w.drew)
  (G:f<d+n) (A:((d+n:Nat):Int)<=9223372036854775807) (u:Builtin.nextslicecap (d+n) f * i.bytes<=281474976710656) :
  (Builtin.append_ #[t,y] ty #[.slice (some b) d f,X]).run P w =
   .ok (.slice (some ⟨w.heap.size,0,none⟩) (d+n) (grownCap w (d+n) f e))
    (w.drew.alloc (.cells (olds.toArray++g.toArray++Builtin.zeroCells z.cells (grownCap w (d+n) f e-(d+n))) e)):=by
 have D:¬ (d+n<=f):=by omega
 have m:¬ (9223372036854775807<((d:Int)+(n:Int))):=by omega
 have l:¬ (281474976710656<Builtin.nextslicecap (d+n) f * i.bytes):=by omega
 have q:=run_firstCells_some (P:=P) w.drew i.size d b d f olds r (by simpa using k)
 rcases p with⟨F,p⟩ | p
 all_goals
  simp[Builtin.append_,run_underlying ht,run_underlying p,sizeOf,typeInfo,zeroValue,C,E,B,D,m,l,Question.forced,h,q,newRow,grownCap];congr 2;apply Array.ext';simp[Qb]
end
theorem Z6j {w:World}{b o n m:Nat}{c d:List Value}(e:Z05 w b o n=some c)(f:Z05 w b (o+n) m=some d):Z05 w b o (n+m)=some (c++d):=by
 unfold Z05 at *;split at e
 ·rename_i C T fr g;rw[g]at f;simp only[]at f ⊢;split at e
  ·split at f
   ·cases e;cases f;rw[QM (by omega),<-X9,<-List.take_add]
   ·cases f
  ·cases e
 ·cases e
theorem Z4U {w:World}{b s:Nat}:(css:List (List Value))->(o:Nat)->0<css.length->(∀k (h:k<css.length),Z05 w b (o+k * s) s=some css[k])->Z05 w b o (css.length * s)=some css.flatten
 | [],o,h,_=>by simp at h
 | [c],o,h,e=>by
  have:=e 0 (by simp)
  simpa using this
 |c::d::css,o,h,e=>by
  have g:=e 0 (by simp)
  have i:=Z4U (w:=w) (b:=b) (s:=s) (d::css) (o+s) (by simp) (λk f=>by
   have:=e (k+1) (by simpa using f)
   rw[QC,Xg]at this;rw[show o+s+k * s=o+(k * s+s) by omega]
   simpa using this)
  simp only[Nat.zero_mul,XK,Yp]at g;have:=Z6j g i;simp only[Q8,QO]at this ⊢;rw[show (css.length+1+1) * s=s+(css.length+1) * s by rw[QC (css.length+1)];omega]
  exact this
end Go.PI
namespace Go.PI
section
variable {W0:Base}{M:Nat->Prop}{σ:State}{a:Act}{w w':World}{G:Ghost}{xs:List Nat}{P:Program}{tys:List (TypeId×Ty×List TypeId)}
variable {R:Type}{Γ:Env R}{d:Option Nat}{type:TypeId}{o:Oper}{k:TV->State->Option R}{r:R}
theorem Z5H {e:Ty}{b o:Nat}{x:List (El e)}{t:Tag}{fps:List (List Nat)}(l:fps.length=x.length)
  (g:∀k (h:k<x.length),∃j,Z05 w b (o+k * size e) (size e)=some j/\Rp w G.F G.St G.Al e (List.replicate (Z06 e) t) j (x.get ⟨k,h⟩) (fps.getD k [])) :
  ∃us:List (Elem e),us.map (·.x)=x/\us.map (·.fp)=fps/\(∀u∈us,u.tg=List.replicate (Z06 e) t/\Rp w G.F G.St G.Al e u.tg u.cs u.x u.fp) /\
   ∀k (h:k<us.length),Z05 w b (o+k * size e) (size e)=some us[k].cs:=by
 classical
 let f:Fin x.length->Elem e:=λk=>⟨x.get k,List.replicate (Z06 e) t,Classical.choose (g k.1 k.2),fps.getD k.1 []⟩
 refine⟨List.ofFn f,?_,?_,?_,?_⟩
 ·apply Y0
  ·simp
  ·intro i p n;simp[f]
 ·apply Y0
  ·simp[l]
  ·intro i p n;simp only[Xn,List.getElem_ofFn,f];rw[Qc,Qn n];rfl
 ·intro u q;obtain⟨k,m,rfl⟩:=X2.1 q;simp only[List.getElem_ofFn,f];exact⟨trivial,(YR (g k (by simpa using m))).2⟩
 ·intro k m;simp only[List.getElem_ofFn,f];exact(YR (g k (by simpa using m))).1
theorem Z8y {e:Ty}{t:Tag}{q:Option Addr}{n cap:Nat}{x:List (El e)}{fp:List Nat}(h:Rp w G.F G.St G.Al (.slice e) [t] [.slice q n cap] x fp) :
  ∃(us:List (Elem e)) (pre:List Nat),n=x.length/\us.map (·.x)=x/\fp=pre++(us.map (·.fp)).flatten/\(∀u∈us,u.tg=List.replicate (Z06 e) t.inner/\Rp w G.F G.St G.Al e u.tg u.cs u.x u.fp) /\
   (us=[]\/∃b o,q=some ⟨b,o,none⟩/\∀k (h:k<us.length),Z05 w b (o+k * size e) (size e)=some us[k].cs):=by
 obtain⟨t',z,v,ht,y,A,h⟩:=h;simp only[X4,and_true,Value.slice.injEq]at ht y;subst ht;obtain⟨rfl,rfl,rfl⟩:=y;rcases h with⟨_,_,g,_,rfl⟩ | ⟨_,b,o,fps,rfl,_,rfl,p,_,_,f⟩ | ⟨_,rfl,g⟩
 ·exact⟨[],[],rfl,by simpa using g.symm,rfl,by simp,.inl rfl⟩
 ·obtain⟨us,i,j,l,m⟩:=Z5H p f;exact⟨us,[b],rfl,i,by rw[j];rfl,l,.inr ⟨b,o,rfl,m⟩⟩
 ·rcases g with g | ⟨b,o,rfl,_,_,f⟩
  ·exact⟨[],[],rfl,by simpa using g.symm,rfl,by simp,.inl rfl⟩
  ·obtain⟨us,i,j,l,m⟩:=Z5H (G:=G) (x:=x) (fps:=List.replicate (List.length (α:=El e) x) []) (by simp) (λk h=>by rw[Z26];exact f k h)
   exact⟨us,[],rfl,i,by rw[j,Z0D];rfl,l,.inr ⟨b,o,rfl,m⟩⟩
theorem Z5d {b o:Nat}{C:Array Value}{T:TypeId}{fr:Nat×Nat}{l:List Value}(h:w.heap[b]? = some (.cells C T fr))(z:Nat):(w.setRow b (Z0c C.toList o l).toArray).heap[z]? = (Z0m w b o l).heap[z]? := by
 by_cases e:z=b
 ·subst e;rw[setRow_heap w _ _ _ _ _ h];simp only[Z0m];rw[XG];simp[h]
 ·rw[setRow_other _ _ _ _ e,Z14 e]
theorem Z9o {e:Ty}{t:Tag}(ht:t.own=true){b o cap:Nat}{us:List (Elem e)}{fps:List (List Nat)}{F:Nat->Nat}{St Al:Nat->Prop}(l:Al b)(n:fps.length=us.length)(g:us.length<=cap)(j:Z3h e w b (o+cap * size e))(q:F b=o+us.length * size e)
  (u:∀k (h:k<us.length),Z05 w b (o+k * size e) (size e)=some us[k].cs) (m:∀k (h:k<us.length),Rp w F St Al e (List.replicate (Z06 e) t.inner) us[k].cs us[k].x (fps.getD k [])) :
  Rp w F St Al (.slice e) [t] [.slice (some ⟨b,o,none⟩) us.length cap] (us.map (·.x)) (b::fps.flatten):=by
 have f:(us.map (·.x)).length=us.length:=by simp
 refine⟨t,some ⟨b,o,none⟩,cap,rfl,by rw[f],by rw[f];exact g,.inr (.inl ⟨ht,b,o,fps,rfl,l,rfl,by rw[f];exact n,j,by rw[f];exact q,λk p=> ?_⟩)⟩
 have i:k<us.length:=by simpa using p
 refine⟨us[k].cs,u k i,?_⟩;have:List.get (α:=El e) (us.map (·.x)) ⟨k,p⟩=us[k].x:=by simp
 rw[this];exact m k i
theorem Z75 {e:Ty}{w:World}{b o s:Nat}{us:List (Elem e)}(i:0<us.length)(f:∀k (h:k<us.length),Z05 w b (o+k * s) s=some us[k].cs) :
  Z05 w b o (us.length * s)=some (us.map (·.cs)).flatten:=by
 have:=Z4U (us.map (·.cs)) o (by simpa using i) (w:=w) (b:=b) (s:=s) (λk g=>by
  rw[Xn];exact f k (by simpa using g))
 simpa using this
theorem ZaF (I:Inv W0 M σ a w G xs){b:Nat}(e:b∈xs):G.Al b:=
 ⟨λi h=>(by rw[I.whoX b e]at h;cases h),λh=>(by rw[I.whoX b e]at h;cases h)⟩
end
end Go.PI
namespace Go.PI
section
variable {W0:Base}{M:Nat->Prop}{σ:State}{a:Act}{w w':World}{G:Ghost}{xs:List Nat}{P:Program}{tys:List (TypeId×Ty×List TypeId)}
variable {R:Type}{Γ:Env R}{d:Option Nat}{type:TypeId}{o:Oper}{k:TV->State->Option R}{r:R}
theorem Z6w (z:Array Value)(n:Nat):(Builtin.zeroCells z n).size=n * z.size:=by simp[Builtin.zeroCells]
theorem Z5O {e:Ty}{us:List (Elem e)}{fps:List (List Nat)}{t:Tag}(ht:t.own=true)(I:Inv W0 M σ a w G (fps.flatten++xs))(n:fps.length=us.length)
  (f:∀k (h:k<us.length),Rp w G.F G.St G.Al e (List.replicate (Z06 e) t.inner) us[k].cs us[k].x (fps.getD k [])) {cap:Nat} (b:us.length<=cap) {z:Array Value} (D:z.size=size e) {C:Array Value} {et:TypeId}
  (q:C=(us.map (·.cs)).flatten.toArray++Builtin.zeroCells z (cap-us.length)) :
  ∃G',Inv W0 M σ a (w.drew.alloc (.cells C et)) G' ((w.heap.size::fps.flatten)++xs)/\Calmer w G (w.drew.alloc (.cells C et)) G' /\
   Rp (w.drew.alloc (.cells C et)) G'.F G'.St G'.Al (.slice e) [t] [.slice (some ⟨w.heap.size,0,none⟩) us.length cap] (us.map (·.x)) (w.heap.size::fps.flatten):=by
 have i:∀c∈us.map (·.cs),c.length=size e:=by
  intro c A;obtain⟨k,p,rfl⟩:=X2.1 A;rw[Xn];exact(f k (by simpa using p)).len.1
 have m:=Z42 _ _ i;obtain⟨G',u,v,y,_⟩:=Z3w (e:=e) (fps:=fps) (xs:=xs) I (Pushed.drew w (.cells C et (0,0))) (λj E B=>by simp at B) (t:=t) ht (x:=us.map (·.x)) (css:=us.map (·.cs)) (rest:=(Builtin.zeroCells z (cap-us.length)).toList) (cap:=cap)
  (by rw[q];simp) (by simp) (by simp[n]) (by simpa using b) (by
   rw[q,Array.size_append,Z6w,D];simp only[QI];rw[m,Qy,<-QC];exact Qt _ (by omega)) (λk p=>by
   have g:k<us.length:=by simpa using p
   have:=f k g;rw[Qc (l:=us.map (·.cs)),XO,Qn g];simpa using this)
 exact⟨G',u,v,by simpa using y⟩
theorem Z5P (hT:Z0e P tys){e:Ty}{sT xT ty et:TypeId}{le:List TypeId}(W:P.underlying sT=some (.slice et))(hux:Z5M P xT)(hea:Z0o tys et=some (e,le))
  {fp1 fp2:List Nat} (I:Inv W0 M σ a w G (fp2++(fp1++xs))) {t t':Tag} (ht:t.own=true) {ad:Option Addr} {n cap g:Nat} {X:Value} {l m:List (El e)}
  (hR1:Rp w G.F G.St G.Al (.slice e) [t] [.slice ad n cap] l fp1) (hlim:lim (l.length+m.length)=true)
  {t0:Tag} (ht0:t0=if Z06 e==0 then .O else t.inner.meet t'.inner)
  {vs:List (Elem e)} {pre2:List Nat} (Q:g=m.length) (af:vs.map (·.x)=m) (aa:fp2=pre2++(vs.map (·.fp)).flatten) (A:∀u∈vs,u.tg=List.replicate (Z06 e) t'.inner/\Rp w G.F G.St G.Al e u.tg u.cs u.x u.fp)
  (hX:Builtin.lenOf X=pure g) (hfc:∀(w2:World),w2.heap=w.heap->(Builtin.firstCells (size e) g X).run P w2= .ok ((vs.map (·.cs)).flatten).toArray w2) :
  ∃v w' G' fp,(Builtin.append_ #[sT,xT] ty #[.slice ad n cap,X]).run P w= .ok v w'/\Inv W0 M σ a w' G' (fp++xs)/\Z0f false v/\Rp w' G'.F G'.St G'.Al (.slice e) [t0.over] (Z02 v) (l++m) fp/\Calmer w G w' G':=by
 obtain⟨q,z,hi,hs,hby,_,hz,hzc,_⟩:=(hT et _ _ hea).info;have hzl:z.cells.size=size e:=by
  have:z.cells.toList.length=size e:=by rw[hzc];exact(Z2Y (w:=w) (F:=G.F) (St:=G.St) (Al:=G.Al) e).len.1
  simpa using this
 have hlim':l.length+m.length<=2147483648:=QT hlim;have y:t0.over.own=true:=by cases t0<;>rfl
 have hle1:∀s∈List.replicate (Z06 e) t.inner,Z17 t0 s:=by
  intro s hs';obtain⟨hne,rfl⟩:=XC.1 hs';rw[ht0,QN (by simpa using hne)]
  exact(Z17.self _).meet_left
 have hle2:∀s∈List.replicate (Z06 e) t'.inner,Z17 t0 s:=by
  intro s hs';obtain⟨hne,rfl⟩:=XC.1 hs';rw[ht0,QN (by simpa using hne)]
  exact(Z17.self _).meet_right
 have hvl:vs.length=m.length:=by rw[<-af];simp
 obtain⟨tt,ad1,cap1,htt,hcc,hlc,hcase⟩:=hR1;simp only[X4,and_true,Value.slice.injEq]at htt hcc;subst htt;obtain⟨rfl,rfl,rfl⟩:=hcc;have Z:∀k:Nat,k<=4294967296->k * q.bytes<=281474976710656:=by
  intro k hk
  calc k * q.bytes<=4294967296 * 65536:=YK hk hby
   _=281474976710656:=rfl
 have B:((vs.map (·.cs)).flatten).length=g * q.size:=by
  have:∀c∈vs.map (·.cs),c.length=size e:=by
   intro c hc;obtain⟨u,W,rfl⟩:=X6.1 hc;exact(A u W).2.len.1
  have h2:∀(L:List (List Value)),(∀c∈L,c.length=size e)->L.flatten.length=L.length * size e:=by
   intro L;induction L with
   |nil=>intro _;simp
   |cons c L ih=>
    intro hL;rw[QO,Q5,ih λc hc=>hL c (Qa _ hc),hL c (by simp),Q8,QC]
    omega
  rw[h2 _ this,Qy,hs,hvl,Q]
 have hfc0:(Builtin.firstCells q.size g X).run P w= .ok ((vs.map (·.cs)).flatten).toArray w:=by rw[hs];exact hfc w rfl
 have hfc1:(Builtin.firstCells q.size g X).run P w.drew= .ok ((vs.map (·.cs)).flatten).toArray w.drew:=by rw[hs];exact hfc w.drew rfl
 have hvlen:∀c∈vs.map (·.cs),c.length=size e:=by
  intro c hc;obtain⟨u,W,rfl⟩:=X6.1 hc;exact(A u W).2.len.1
 rcases hcase with⟨_,rfl,hl0,rfl,rfl⟩ | ⟨_,b,off,fps,rfl,hal,rfl,hfl,hrow,hF,hel⟩ | ⟨ho,_⟩
 ·
  have hl0:l=[]:=hl0;subst hl0;simp only[Qe,Qk]at I;have I1:Inv W0 M σ a w G ((vs.map (·.fp)).flatten++xs):=by
   refine I.sub (λb hb=>by rw[aa];simp only[Qr]at hb ⊢;rcases hb with h | h<;>simp[h]) ?_
   have:=I.nodX;rw[aa,Qb]at this;exact(Qj.1 this).2.1
  obtain⟨Y,f,I2,ac,gF,H,gS,gA,D,_,_⟩:=Z6v (t0:=t0) I1 (λu W=>⟨(A u W).2,by rw[(A u W).1];exact hle2⟩)
  by_cases hm:vs=[]
  ·subst hm;have hm0:m=[]:=by simpa using af.symm
   subst hm0;have:g=0:=Q;subst this;refine⟨.slice none 0 0,w,Y,[],Z4c sT xT ty et q W hux hi none 0 0 (Qq _) X hX (by simpa using hfc0),?_,rfl,?_,ac⟩
   ·exact I2.sub (λb hb=>Qo _ hb) (Qj.1 I2.nodX).2.1
   ·exact⟨t0.over,none,0,rfl,rfl,Qq _,.inl ⟨y,rfl,rfl,rfl,rfl⟩⟩
  ·have hpos:0<vs.length:=(Yv.2 hm);have hn0:0<g:=by rw[Q,<-hvl];exact hpos
   have hn31:g<=2147483648:=by rw[Q];simpa using hlim'
   have K:=append_nil (P:=P) (w:=w) sT xT ty et q z W hux hi hz g X hX _ hfc1 hn0 (by omega) (Z g (by omega))
   have hge:=grownCap_ge w g 0 et;have hvn:vs.length=g:=by rw[hvl,Q]
   obtain⟨G3,I3,ae,hR3⟩:=Z5O (us:=vs) (fps:=f) y I2 H D (cap:=grownCap w g 0 et) (by omega) hzl (et:=et) (by rw[hvn])
   refine⟨_,_,G3,_,K,I3,rfl,?_,ac.trans ae⟩;rw[Z0q rfl];rw[af,hvn]at hR3;simpa using hR3
 ·
  obtain⟨us,ab,hufp,huok,huc⟩:=Z5H (w:=w) (G:=G) (b:=b) (o:=off) hfl hel;have V:us.length=l.length:=by rw[<-ab];simp
  have I1:Inv W0 M σ a w G ((((us++vs).map (·.fp)).flatten)++(b::xs)):=by
   refine I.sub (λz hz=> ?_) ?_
   ·rw[aa];simp only[QU,XZ,hufp,Qr,Qp]at hz ⊢;rcases hz with (h | h) | h | h<;>simp[h]
   ·have hp:((((us++vs).map (·.fp)).flatten++(b::xs))++pre2).Perm (fp2++((b::fps.flatten)++xs)):=by
     rw[aa];refine QZ.2 λz=> ?_
     simp only[QU,XZ,hufp,XA,List.count_cons];omega
    exact(Qj.1 (hp.nodup_iff.2 I.nodX)).1
  obtain⟨Y,f,I2,ac,gF,H,gS,gA,D,_,hsub⟩:=Z6v (t0:=t0) I1 (λu W=>by
   rcases Qr.1 W with h | h
   ·exact⟨(huok u h).2,by rw[(huok u h).1];exact hle1⟩
   ·exact⟨(A u h).2,by rw[(A u h).1];exact hle2⟩)
  have hbG2:Y.who b=some .x:=I2.whoX b (by simp)
  have halb:Y.Al b:=by rw[gA];exact hal
  have hnodb:b ∉ f.flatten:=λhm=>(Qj.1 I2.nodX).2.2 b hm b (by simp) rfl
  have hp2:(f.flatten++(b::xs)).Perm ((b::f.flatten)++xs):=by
   refine QZ.2 λz=> ?_
   simp only[XA,List.count_cons];omega
  have hrowE:=hrow;obtain⟨⟨C,T,fr,hC,hCs,hth⟩,hmk⟩:=hrow;by_cases hm:vs=[]
  ·subst hm;have hm0:m=[]:=by simpa using af.symm
   subst hm0;have:g=0:=Q;subst this;simp only[Qe]at I1 D H hsub ⊢;refine⟨_,w,Y,b::f.flatten,Z4c sT xT ty et q W hux hi (some ⟨b,off,none⟩) l.length cap hlc X hX (by simpa using hfc0),I2.perm hp2,rfl,?_,ac⟩
   rw[Z0q rfl];have:=Z9o (w:=w) (F:=Y.F) (St:=Y.St) (Al:=Y.Al) y halb (H.trans (by simp)) (cap:=cap) (by rw[V];exact hlc) hrowE (by rw[gF,V];exact hF) huc D
   rw[ab,V]at this;exact this
  ·have hpos:0<vs.length:=(Yv.2 hm);have hvn:vs.length=g:=by rw[hvl,Q]
   have hone:∀c∈(vs.map (·.cs)).flatten,one c=true:=by
    intro c hc;obtain⟨cs,hcs,hc⟩:=X3.1 hc;obtain⟨u,W,rfl⟩:=X6.1 hcs;exact(A u W).2.ones c hc
   by_cases hroom:l.length+g<=cap
   ·
    have E:off+l.length * size e+g * size e<=off+cap * size e:=by
     have:(l.length+g) * size e<=cap * size e:=Qt _ hroom;rw[QC]at this;omega
    have K:=Z7J (P:=P) (w:=w) sT xT ty et q W hux hi b off l.length cap C T fr hC hth g X hX _ B hfc0 hone hroom (by rw[B,hs];omega)
    rw[hs]at K B;have J:=Z5d (w:=w) (o:=off+l.length * size e) (l:=(vs.map (·.cs)).flatten) hC;have p:Row w b (off+cap * size e):=⟨C,T,fr,hC,hCs,hth⟩;have hlr:∃mm,off+l.length * size e+((vs.map (·.cs)).flatten).length<=mm/\Row w b mm:=⟨_,by rw[B];exact E,p⟩
    have hFb:Y.F b=off+l.length * size e:=by rw[gF];exact hF
    have hK:Z07 w Y.F (w.setRow b (Z0c C.toList (off+l.length * size e) ((vs.map (·.cs)).flatten)).toArray) (λz=>if z=b then off+(l.length+g) * size e else Y.F z) b:=by
     refine⟨?_,λo2 n2 cs hn2 hcs=> ?_,λn2 hr=> ?_,λhm=>(Z2C (J b)).2 (Z3C (by rw[B];exact E) p hm)⟩
     ·simp only[XH];rw[hFb,QC];omega
     ·rw[Z0Z (J b)];exact Z2j hlr (.inl (by omega)) hcs
     ·rw[Z3M (J b)];exact Z4O (by rw[B];exact E) p hr
    obtain⟨I3,ae,hl3⟩:=I2.patch hbG2 (.inl rfl) (Wrote.setRow w b _) (off+(l.length+g) * size e) (.inr (.inr hK));refine⟨_,_,_,b::f.flatten,K,I3.perm hp2,rfl,?_,ac.trans (ae (by simp) hK)⟩
    rw[Z0q rfl];have U:(us++vs).length=l.length+g:=by simp[V,hvn]
    have hxx:(us++vs).map (·.x)=l++m:=by rw[QU,ab,af]
    have key:=Z9o (us:=us++vs) (fps:=f) (cap:=cap) (o:=off) (b:=b) (t:=t0.over) (w:=w.setRow b (Z0c C.toList (off+l.length * size e) ((vs.map (·.cs)).flatten)).toArray) (F:=λz=>if z=b then off+(l.length+g) * size e else Y.F z) (St:=Y.St) (Al:=Y.Al) y halb H (by omega) ?_ ?_ (λk hk=> ?_) (λk hk=> ?_)
    ·rw[hxx,U]at key;exact key
    ·exact⟨(Z3M (J b)).2 (Z4O (by rw[B];exact E) p p),hmk.imp id λhm=>(Z2C (J b)).2 (Z3C (by rw[B];exact E) p hm)⟩
    ·rw[U];simp
    ·rw[Z0Z (J b)];by_cases hkl:k<us.length
     ·rw[Xw hkl];have hb1:(k+1) * size e<=l.length * size e:=Qt _ (by omega)
      rw[QC,Xg]at hb1;exact Z2j hlr (.inl (by omega)) (huc k hkl)
     ·obtain⟨i,rfl⟩:∃i,k=us.length+i:=⟨k-us.length,by omega⟩
      have hi':i<vs.length:=by simpa using hk
      rw[Xh (by omega)]
      obtain⟨cz,hcz⟩:=p.cells (o:=off+l.length * size e) (m:=g * size e) E;have hin:=Z3G (o':=off+l.length * size e) (l:=(vs.map (·.cs)).flatten) (Qq _) (by rw[B];exact Qq _) hcz
      rw[Nat.sub_self,Z2X (by rw[B,Z1C hcz])]at hin
      have hb1:(i+1) * size e<=g * size e:=Qt _ (by omega)
      rw[QC,Xg]at hb1;have hsb:=Z30 hin (i:=i * size e) (m:=size e) hb1;have hck:=Z8b (vs.map (·.cs)) (size e) i [] hvlen (by simpa using hi')
      rw[Qe]at hck;rw[hck,Xn]at hsb;rw[show off+(us.length+i) * size e=off+l.length * size e+i * size e by rw[V,QC];omega,hsb]
      simp
    ·refine hl3 _ _ _ _ _ (D k hk) (λhm'=>hnodb ?_) (.inr (.inr hK))
     refine X3.2 ⟨_,?_,hm'⟩;rw[Qc,Qn (by omega)]
     exact Q7 _
   ·
    have holds:(us.map (·.cs)).flatten.length=l.length * q.size/\∀j v,((us.map (·.cs)).flatten)[j]? = some v->w.cell? ((⟨b,off,none⟩:Addr).add j)=some v:=by
     by_cases hu0:us=[]
     ·subst hu0;have:l.length=0:=by rw[<-V];rfl
      rw[this];exact⟨by simp,by simp⟩
     ·have hc:=Z75 (Yv.2 hu0) huc;exact⟨by rw[Z1C hc,hs,V],λj v hj=>Z20 hc j v hj⟩
    have hnc2:Builtin.nextslicecap (l.length+g) cap * q.bytes<=281474976710656:=by
     refine Z _ ?_;have:=nextslicecap_le (need:=l.length+g) (old:=cap) (by omega)
     rw[Q]at this ⊢;omega
    have K:=Z7H (P:=P) (w:=w) sT xT ty et q z W hux hi hz ⟨b,off,none⟩ l.length cap _ holds.1 holds.2 g X hX _ hfc1 (by omega) (by rw[Q];omega) hnc2
    have hge:=grownCap_ge w (l.length+g) cap et;have U:(us++vs).length=l.length+g:=by simp[V,hvn]
    have I2':Inv W0 M σ a w Y (f.flatten++xs):=I2.sub (λz hz=>by simp only[Qr,Qp]at hz ⊢;rcases hz with h | h<;>simp[h]) (by
     have:=hp2.nodup_iff.1 I2.nodX;exact(Xx.1 this).2)
    obtain⟨G3,I3,ae,hR3⟩:=Z5O (us:=us++vs) (fps:=f) y I2' H D (cap:=grownCap w (l.length+g) cap et) (by omega) hzl (et:=et) (by rw[U])
    refine⟨_,_,G3,w.heap.size::f.flatten,K,?_,rfl,?_,?_⟩
    ·have:((us++vs).map (·.cs)).flatten.toArray=(us.map (·.cs)).flatten.toArray++(vs.map (·.cs)).flatten.toArray:=by simp
     rw[this]at I3;exact I3
    ·have:((us++vs).map (·.cs)).flatten.toArray=(us.map (·.cs)).flatten.toArray++(vs.map (·.cs)).flatten.toArray:=by simp
     rw[this,QU,ab,af,U]at hR3;rw[Z0q rfl];exact hR3
    ·have:((us++vs).map (·.cs)).flatten.toArray=(us.map (·.cs)).flatten.toArray++(vs.map (·.cs)).flatten.toArray:=by simp
     rw[this]at ae;exact ac.trans ae
 ·rw[ht]at ho;cases ho
theorem Z4p (Z:Z0e P tys){e:Ty}{X Y ty et q:TypeId}{le:List TypeId}(hu:P.underlying X=some (.slice et))(L:P.underlying Y=some (.slice q))(J:Z0o tys et=some (e,le))
  {u fp2:List Nat} (I:Inv W0 M σ a w G (fp2++(u++xs))) {t t':Tag} (ht:t.own=true) {U h:Option Addr} {n cap p f:Nat} {l m:List (El e)}
  (D:Rp w G.F G.St G.Al (.slice e) [t] [.slice U n cap] l u) (E:Rp w G.F G.St G.Al (.slice e) [t'] [.slice h p f] m fp2) (z:lim (l.length+m.length)=true)
  {t0:Tag} (K:t0=if Z06 e==0 then .O else t.inner.meet t'.inner) :
  ∃v w' G' fp,(Builtin.append_ #[X,Y] ty #[.slice U n cap,.slice h p f]).run P w= .ok v w'/\Inv W0 M σ a w' G' (fp++xs)/\Z0f false v/\Rp w' G'.F G'.St G'.Al (.slice e) [t0.over] (Z02 v) (l++m) fp/\Calmer w G w' G':=by
 obtain⟨vs,pre2,g,C,y,B,A⟩:=Z8y E;have i:vs.length=m.length:=by rw[<-C];simp
 refine Z5P Z hu (.inl ⟨q,L⟩) J I ht D z K g C y B rfl λw2 T=> ?_
 have H:∀b o n,Z05 w2 b o n=Z05 w b o n:=λb o n=>by unfold Z05;rw[T]
 rcases A with rfl | ⟨b',o',rfl,Q⟩
 ·have:p=0:=by rw[g,<-i];rfl
  subst this;cases h with
  |none=>exact run_firstCells_none _ _ _ _ _
  |some b=>exact run_firstCells_some (P:=P) w2 (size e) 0 b 0 f [] (by simp) (by simp)
 ·by_cases V:vs=[]
  ·subst V;have:p=0:=by rw[g,<-i];rfl
   subst this;exact run_firstCells_some (P:=P) w2 (size e) 0 _ 0 f [] (by simp) (by simp)
  ·have W:=Z75 (w:=w2) (Yv.2 V) (λk hk=>by rw[H];exact Q k hk)
   exact run_firstCells_some (P:=P) w2 (size e) p _ p f _ (by rw[Z1C W,g,i]) (λj v hj=>Z20 W j v hj)
theorem Z84 (E:Z0e P tys){C D ty et:TypeId}{le:List TypeId}(y:P.underlying C=some (.slice et))(z:P.underlying D=some .string)(q:Z0o tys et=some (.int .u8,le))
  {h:List Nat} (I:Inv W0 M σ a w G (h++xs)) {t:Tag} (ht:t.own=true) {A:Option Addr} {n cap:Nat} {l:List Int} {s:ByteArray}
  (j:Rp w G.F G.St G.Al (.slice (.int .u8)) [t] [.slice A n cap] l h) (i:lim (l.length+s.size)=true) :
  ∃v w' G' fp,(Builtin.append_ #[C,D] ty #[.slice A n cap,.string s]).run P w= .ok v w'/\Inv W0 M σ a w' G' (fp++xs)/\Z0f false v/\Rp w' G'.F G'.St G'.Al (.slice (.int .u8)) [.O] (Z02 v) (l++Z1m s) fp/\Calmer w G w' G':=by
 let vs:List (Elem (.int .u8)):=s.data.toList.map λb=>⟨(b.toNat:Int),[],[.int .u8 b.toNat],[]⟩
 have f:(Z1m s).length=s.size:=by simp[Z1m]
 have g:(vs.map (·.fp)).flatten=[]:=by
  simp only[vs,Yq];generalize s.data.toList=L;induction L with
  |nil=>rfl
  |cons b L B=>simp
 have p:((vs.map (·.cs)).flatten).toArray=(Go.Lib.strCells s).toArray:=by
  simp only[vs,Go.Lib.strCells,Yq];generalize s.data.toList=L;congr 1;induction L with
  |nil=>rfl
  |cons b L B=>simpa using B
 exact Z5P (e:= .int .u8) (t':= .O) (t0:= .O) (m:=Z1m s) (vs:=vs) (pre2:=[]) (fp2:=[]) E y (.inr z) q (by simpa using I) ht j (by rw[f];exact i) rfl f.symm (by simp[vs,Z1m]) (by rw[g];rfl)
  (λu y=>by
   obtain⟨b,_,rfl⟩:=X6.1 y;exact⟨rfl,rfl,rfl,rfl⟩) rfl (λw2 _=>by rw[p];exact Go.Lib.run_firstCells_string w2 1 s)
end
end Go.PI
namespace Go.PI
section
variable {W0:Base}{M:Nat->Prop}{σ:State}{a:Act}{w w':World}{G:Ghost}{xs:List Nat}{P:Program}{tys:List (TypeId×Ty×List TypeId)}
variable {R:Type}{Γ:Env R}{d:Option Nat}{type:TypeId}{o:Oper}{k:TV->State->Option R}{r:R}
theorem Z1U {e:Ty}{v:TVal}{x:El e}(h:Z2G e v=some x):∃ag tg,v=⟨e,ag,x,tg⟩:=by
 obtain⟨τ,ag,y,tg⟩:=v;unfold Z2G at h;split at h
 ·rename_i b;simp only at b;subst b;cases h;exact⟨ag,tg,rfl⟩
 ·cases h
theorem Z7O (hT:Z0e P Γ.tys)(I:Inv W0 M σ a w G xs){c:Call}(ho:o.op= .call c)(y:c.callee= .builtin .append)(h:Z0L Γ d type σ k o.op=some r):∃tv σ',k tv σ'=some r/\Z1n P W0 M o a w G xs σ' tv true:=by
 rw[ho]at h;simp only[Z0L,y]at h;split at h
 ·rename_i s x sT xT i C;have ha:c.args= #[s,x]:=by cases V:c.args;rw[V]at i;simp at i;rw[i]
  have hty:c.argTypes= #[sT,xT]:=by cases V:c.argTypes;rw[V]at C;simp at C;rw[C]
  unfold Z7X at h;split at h
  ·rename_i e hsT;split at h
   ·rename_i v σ1 T;split at h
    ·rename_i l t hl H;split at h
     ·rename_i hc;simp only[Q6,QF]at hc;obtain⟨⟨K,n⟩,L⟩:=hc;split at h
      ·rename_i e' ab;split at h
       ·rename_i u σ2 htk2;split at h
        ·rename_i m t' hm Q;split at h
         ·cases h
         rename_i U;simp only[Xq,not_or,Bool.not_eq_true]at U;rw[cond_eq_ite]at h;split at h
         ·rename_i z;obtain⟨ag1,tg1,rfl⟩:=Z1U hl;obtain⟨ag2,tg2,rfl⟩:=Z1U hm;simp only at H Q n U;subst H;subst Q;subst n;obtain⟨hu2,p⟩:=U;subst hu2;obtain⟨fp1,G1,I1,Y,_,g,f⟩:=Z0Y I T;obtain⟨fp2,G2,I2,E,_,q,B⟩:=Z0Y I1 htk2;have g:Rp w G2.F G2.St G2.Al (.slice e) [t] (Z02 (a.eval s)) l fp1:=by rw[E.F,E.St,E.Al];exact g
          have q:Rp w G2.F G2.St G2.Al (.slice e) [t'] (Z02 (a.eval x)) m fp2:=q;have f:Z0f false (a.eval s):=f;have B:Z0f false (a.eval x):=B;obtain⟨ad,cap,D,_⟩:=Z2A f g;obtain⟨ad',cap',J,_⟩:=Z2A B q;rw[D,Z0q rfl]at g;rw[J,Z0q rfl]at q;obtain⟨et,le,hu,W,_⟩:=Z10 hT hsT L;obtain⟨et2,le2,aa,_,_⟩:=Z10 hT ab p;obtain⟨vv,w',G',fp,A,I',Z,hR,j⟩:=Z4p (ty:=o.type) hT hu aa W I2 K g q z rfl;refine⟨_,_,h,vv,w',G',fp,_,?_,.inl rfl,I',⟨Z,hR⟩,λ_=>(Y.trans E).calmer.trans j⟩
          rw[Z03 ho];simp only[execOp,resolve,y,ha,hty,Sem.run_bind,Sem.run_pure,Result.andThen_ok,invoke,builtin];simp only[List.map_toArray,Qz,Yh,D,J];rw[A];rfl
         ·cases h
        ·cases h
       ·cases h
      ·rename_i ab;split at h
       ·rename_i b tg' hlk;split at h
        ·cases h
        rename_i p;simp only[Bool.not_eq_true]at p;split at h
        ·rename_i m hm;obtain⟨ag2,tg2,hm⟩:=Z1U hm;simp only[TVal.mk.injEq,Ty.slice.injEq]at hm;obtain⟨he,_,X,_⟩:=hm;subst he;have X:m=Z1m b:=(eq_of_heq X).symm;subst X;rw[cond_eq_ite]at h;split at h
         ·rename_i z;obtain⟨ag1,tg1,rfl⟩:=Z1U hl;simp only at H n;subst H;subst n;obtain⟨fp1,G1,I1,Y,_,g,f⟩:=Z0Y I T;have f:Z0f false (a.eval s):=f;obtain⟨ad,cap,D,_⟩:=Z2A f g;have J:=Z25 I1 hlk;rw[D,Z0q rfl]at g;obtain⟨et,le,hu,W,_⟩:=Z10 hT hsT L;have aa:=Z1H hT ab p;obtain⟨vv,w',G',fp,A,I',Z,hR,j⟩:=Z84 (ty:=o.type) hT hu aa W I1 K g z;refine⟨_,_,h,vv,w',G',fp,_,?_,.inl rfl,I',⟨Z,hR⟩,λ_=>Y.calmer.trans j⟩
          rw[Z03 ho];simp only[execOp,resolve,y,ha,hty,Sem.run_bind,Sem.run_pure,Result.andThen_ok,invoke,builtin];simp only[List.map_toArray,Qz,Yh,D,J];rw[A];rfl
         ·cases h
        ·cases h
       ·cases h
      ·cases h
     ·cases h
    ·cases h
   ·cases h
  ·cases h
 ·cases h
end
end Go.PI
namespace Go.PI
section
variable {W0:Base}{M:Nat->Prop}{σ:State}{a:Act}{w w':World}{G:Ghost}{xs:List Nat}{P:Program}{tys:List (TypeId×Ty×List TypeId)}{o:Oper}{g:Bool}{tv:TV}
def Z6U (P:Program)(σ:State)(a:Act)(w:World)(G:Ghost)(o:Oper)(tv:TV):Prop:=
 ∃v,Z01 σ G a w tv v []/\∀w2,Z4n w G w2->(execOp a.eval o).run P w2= .ok (.value v) w2
theorem Z0N.b (h:Z0N P σ a w G o tv):Z6U P σ a w G o tv:=by
 obtain⟨v,b,d⟩:=h;exact⟨v,b,λw2 _=>d w2⟩
theorem Z8D (I:Inv W0 M σ a w G xs){p:Place}{u:TVal}{cs:List Value}{b:Nat×Nat}(D:p.box=true)(F:Z08 p.path=true)(K:σ.getAt p=some u)(A:Z0A σ G a w p cs (some b)){w2:World}(E:Z4n w G w2) :
  Z05 w2 b.1 b.2 cs.length=some cs:=by
 have C:=Z1D I A (w2:=w) ⟨λ_ _ _ _ _ _ _ h=>h,λ_ _ _=>rfl⟩
 obtain⟨τ,l,B,r,J,H⟩:=A;obtain⟨c,k,rfl⟩:=Qm.1 r;obtain⟨l',Q,fp,m,y,L⟩:=Z0F I k;rw[J]at m;cases m;obtain⟨c',j,v⟩:=Z0B K;rw[k]at j;cases j;obtain⟨T,z⟩:=Z29 F v;obtain⟨d,R⟩:=Z0T (w:=w) (base:=B) z y.len.1;rw[H]at d;simp only[Q9,Qs]at d;rcases L with⟨_,q,_,n⟩ | ⟨e,_⟩
 ·rw[n]at d;simp only[XU,Q9]at d;have i:b.1=G.ad p.root:=by rw[d.2]
  rw[Z0Z (E _ _ (by rw[i];exact(I.box _ _ q).2))]
  exact C
 ·rw[D]at e;cases e
theorem Z8z (D:Z0e P tys)(I:Inv W0 M σ a w G xs){t:TypeId}{x:Operand}(H:o.op= .load t x)(h:Z0l tys σ o.op=some (g,tv))(d:Z2d σ o.op=true):Z6U P σ a w G o tv:=by
 rw[H]at h d;simp only[Z0l]at h;simp only[Z2d]at d;have e:=Z0v I x;split at h
 ·rename_i τ p C j;rw[j]at e;have e:=e (by simp)
  split at h
  ·rename_i u B;split at h
   ·rename_i y;obtain⟨U,A,E⟩:=Qm.1 h;simp only[Qs]at E;obtain⟨rfl,rfl⟩:=E;obtain⟨⟨J,l⟩,m,z⟩:=Qm.1 C;simp only at z;subst z;obtain⟨cs,b,k,T⟩:=e.2.2.2.some B;obtain⟨i,r⟩:=Z1K I B k;have n:agOf tys t= !l.isEmpty:=by simp[agOf,m]
    have q:=Z1g (ag:=agOf tys t) r (λF=>by
     rw[i,y];rw[n]at F;have R:l=[]:=by simpa using F
     obtain⟨_,_,_,_,K,L⟩:=(D t J l m).und R;cases J<;>first | rfl | (exact absurd rfl K) | (exact absurd rfl (L _ _)))
    refine⟨Z0J (agOf tys t) cs,Z2y I A k q.1 q.2,λw2 Q=> ?_⟩
    have f:=Z8D I e.2.1 e.2.2.1 B k Q;rw[i,y]at f;have:=Z1X (w:=w2) D m f;rw[Z03 H];simp only[execOp,T,Instr.loadAt,Instr.sureAddr,Sem.run_bind,Sem.run_pure,Result.andThen_ok,this,n]
   ·cases h
  ·cases h
 ·rename_i τ p C j;rw[j]at d;cases d
 ·rename_i τ v t C j;rw[j]at d;cases d
 ·rename_i j;rw[j]at d;cases d
 ·cases h
theorem Z6R (p:Z0e P tys)(I:Inv W0 M σ a w G xs){s t:TypeId}{x:Operand}(q:o.op= .convert s t x)(h:Z0l tys σ o.op=some (g,tv))(b:Z2d σ o.op=true):Z6U P σ a w G o tv:=by
 rw[q]at h b;simp only[Z2d]at b;split at b
 ·rename_i v i y m l;have f:σ.look x=some ⟨.int v,i,y,m⟩:=by simp only[State.look,l]
  simp only[Z0l,f]at h;split at h
  ·cases h
  rename_i d;simp only[Xq,not_or,Bool.not_eq_true]at d;split at h
  ·rename_i k j z n _ r ht e;simp only[Q9,Qs]at h;obtain⟨rfl,rfl⟩:=h;have u:=Z0P I (f.trans e);refine⟨.int j (j.wrap n),Z0z rfl ⟨rfl,rfl,rfl⟩,λw2 _=> ?_⟩
   rw[Z03 q];simp[execOp,u,convert,run_underlying (Z5s p r d.1),run_underlying (Z5s p ht d.2),Conv.intToInt]
  ·rename_i e;cases e
  ·rename_i e;cases e
  ·cases h
 ·cases b
theorem Z8V (e:Z0e P tys)(I:Inv W0 M σ a w G xs)(h:Z0l tys σ o.op=some (g,tv))(k:g=true)(j:Z2d σ o.op=true):Z6U P σ a w G o tv:=by
 cases d:o.op with
 |move x=>exact(Z3f I d h).b
 |unOp l t x=>exact(Z6O I d h).b
 |binOp l t x y ty=>exact(Z7w e I d h k).b
 |convert s t x=>exact Z6R e I d h j
 |nilCheck x=>exact(Z3p I d h).b
 |makeFunc f fst cs=>exact(Z4L I d h).b
 |load t x=>exact Z8z e I d h j
 |slice t x n m p=>exact(Z6e e I d h k).b
 |fieldAddr t x i=>exact(Z2V e I d h).b
 |field t x i=>exact(Z6c e I d h).b
 |indexAddr t x i=>exact(Z2W e I d h k).b
 |index t x i=>exact(Z6d e I d h k).b
 |extract x i=>exact(Z5e I d h).b
 |call c=>exact(Z7y e I d h).b
 |_=>rw[d]at h;simp[Z0l]at h
end
end Go.PI
namespace Go.PI
section
variable {W0:Base}{M:Nat->Prop}{σ:State}{a:Act}{w w':World}{G:Ghost}{xs:List Nat}{P:Program}{tys:List (TypeId×Ty×List TypeId)}
variable {R:Type}{Γ:Env R}{d:Option Nat}{type:TypeId}{o:Oper}{r:R}{ops:Array Oper}{Q:Exit->Act->World->Prop}{K:Act->World->Prop}
def Z15 (Γ:Env R)(b:Op)(w:World)(G:Ghost)(w':World)(G':Ghost):Prop:=(Z1z Γ b=true->Calmer w G w' G')/\(Z1M Γ b=true->Z5j w G w' G')
theorem Calmer.all {e:Op}{w w':World}{G G':Ghost}(h:Calmer w G w' G'):Z15 Γ e w G w' G':=⟨λ_=>h,λ_=>h.b⟩
theorem Z15.after {f:Op}{w w' w2:World}{G G' e:Ghost}(h:Calmer w G w' G')(k:Z15 Γ f w' G' w2 e):Z15 Γ f w G w2 e:=⟨λht=>h.trans (k.1 ht),λht=>λu g=>h.b u (k.2 ht u g)⟩
theorem Z15.before {f:Op}{w w' w2:World}{G G' e:Ghost}(k:Z15 Γ f w G w' G')(h:Calmer w' G' w2 e):Z15 Γ f w G w2 e:=⟨λht=>(k.1 ht).trans h,λht=>λu g=>k.2 ht u (h.b u g)⟩
def Z6Z (P:Program)(Γ:Env R):Prop:=
 ∀(W0:Base) (M:Nat->Prop) (σ:State) (a:Act) (w:World) (G:Ghost) (o:Oper) (c:Call) (f:Operand) (k:TV->State->Option R) (r:R) (K:Act->World->Prop) (Q:Exit->Act->World->Prop),
  Inv W0 M σ a w G []->o.op= .call c->c.callee= .value f->Z0L Γ o.dst o.type σ k o.op=some r ->
  (∀tv σ' v w' G' fp,k tv σ'=some r->Inv W0 M σ' a w' G' (fp++[])->Z01 σ' G' a w' tv v fp->Z15 Γ o.op w G w' G'->K (a.put o.dst v) w')->o.wp P a w K Q
structure HoleSt (W0:Base)(M:Nat->Prop)(σ:State)(a:Act)(w:World)(d:Nat)(p:Place)(w2:World)(G:Ghost)(b off:Nat)(v:Value):Prop where
 inv:Inv W0 M σ a w2 G []
 patch:w2=Z0m w b off [v]
 tmp:a.tmps.getD d undef=v
 one:one v=true
 at_:∃τ l bs cs,σ.ct p=some τ/\Z09 G a w2 p=some (l,bs)/\Z00 w2 τ l bs p.path=some (cs,some (b,off))
 cell:∃C T fr,w.heap[b]? = some (.cells C T fr)/\off<C.size/\Z3Z C fr
def Z7W (P:Program)(Γ:Env R):Prop:=
 ∀(W0:Base) (M:Nat->Prop) (σ:State) (a:Act) (w:World) (G:Ghost) (o:Oper) (d:Nat) (p:Place) (c:Call) (s:Operand) (l:List Operand) (k:State->Option R) (r:R) (K:Act->World->Prop) (Q:Exit->Act->World->Prop),
  Inv W0 M σ a w G []->W0.np<=Γ.np->Γ.np<=d->d<σ.slots.length->o.dst=some d->o.op= .call c->c.args.toList=s::l->σ.peek s= .ref p false->(p.box=true\/d≠p.root)->Z2K p.path=true->(Z08 p.path=true->p.box=true) ->
  Z8o Γ d p o σ k=some r ->
  (∀σ' v w' w2 G' e b off v1,k σ'=some r->HoleSt W0 M σ' (a.put (some d) v) w' d p w2 G' b off v1->Z15 Γ o.op w G w' e->K (a.put o.dst v) w')->o.wp P a w K Q
structure CallsOk (P:Program)(Γ:Env R):Prop where
 call:Z6Z P Γ
 hole:Z7W P Γ
theorem Z1n.wp {b:Bool}{σ':State}{tv:TV}(h:Z1n P W0 M o a w G [] σ' tv b)(g:∀v w' G' fp,Inv W0 M σ' a w' G' (fp++[])->Z01 σ' G' a w' tv v fp->(b=true->Calmer w G w' G')->K (a.put o.dst v) w'):o.wp P a w K Q:=by
 obtain⟨v,w',G',fp,n,e,k,f,j,i⟩:=h;unfold Oper.wp;rw[e];rcases k with rfl | ⟨rfl,rfl⟩
 ·rw[Oper.upon_value];exact g v w' G' fp f j i
 ·rw[Oper.upon_skip];exact g undef w' G' fp f j i
theorem Z8m (m:Z0e P Γ.tys)(l:CallsOk P Γ)(I:Inv W0 M σ a w G []){k:TV->State->Option R}(h:Z0L Γ o.dst o.type σ k o.op=some r)
  (p:∀tv σ' v w' G' fp,k tv σ'=some r->Inv W0 M σ' a w' G' (fp++[])->Z01 σ' G' a w' tv v fp->Z15 Γ o.op w G w' G'->K (a.put o.dst v) w'):o.wp P a w K Q:=by
 have g:∀ {j:Bool},(Z1z Γ o.op=true\/Z1M Γ o.op=true->j=true)->(∃tv σ',k tv σ'=some r/\Z1n P W0 M o a w G [] σ' tv j)->o.wp P a w K Q:=by
  rintro j ht ⟨tv,σ',A,z⟩;exact z.wp λv w' G' fp u B q=>p tv σ' v w' G' fp A u B ⟨λh=>q (ht (.inl h)),λh=>(q (ht (.inr h))).b⟩
 cases e:o.op with
 |assign x=>exact g (λ_=>rfl) (Z7P I e h)
 |alloc t=>exact g (λ_=>rfl) (Z8k m I e h)
 |box t x=>exact g (λ_=>rfl) (Z9b I e h)
 |build t C=>exact g (λ_=>rfl) (Z8l m I e h)
 |buildSlice t n C=>exact g (λ_=>rfl) (Z5V m I e h)
 |store t y x=>exact g (λht=>by rw[e]at ht;rcases ht with ht | ht<;>cases ht) (Z8n m I e h)
 |convert s t x=>exact g (λ_=>rfl) (Z7b m I e h)
 |makeSlice t n c=>exact g (λ_=>rfl) (Z6m m I e h)
 |call c=>
  cases i:c.callee with
  |builtin b=>
   cases b with
   |append=>exact g (λ_=>rfl) (Z7O m I e i h)
   |_=>rw[e]at h;simp[Z0L,i]at h
  |value f=>exact l.call W0 M σ a w G o c f k r K Q I e i h p
  |invoke a b=>rw[e]at h;simp[Z0L,i]at h
 |_=>rw[e]at h;simp[Z0L]at h
theorem Z8P (j:Z0e P Γ.tys)(b:CallsOk P Γ)(I:Inv W0 M σ a w G []){k:TV->State->Option R}(h:opC Γ o.dst o.type σ k o.op=some r)
  (i:∀tv σ' v w' G' fp,k tv σ'=some r->Inv W0 M σ' a w' G' (fp++[])->Z01 σ' G' a w' tv v fp->Z15 Γ o.op w G w' G'->K (a.put o.dst v) w'):o.wp P a w K Q:=by
 unfold opC at h;split at h
 ·rename_i g tv m;rw[cond_eq_ite]at h;split at h
  ·rename_i l;obtain⟨v,f,e⟩:=Z7z j I m l;unfold Oper.wp;rw[e w ⟨λ_ _ _ _ _ _ _ h=>h,λ_ _ _=>rfl⟩,Oper.upon_value]
   exact i tv σ v w G [] h I f (Calmer.refl _ _).all
  ·cases h
 ·exact Z8m j b I h i
theorem Z1J {n np:Nat}{d:Option Nat}{A:Nat->Prop}(g:n<=np)(b:Z4D np d=true):∀i,d=some i->i<n->A i:=by
 intro i e f;subst e;simp only[Z4D,Ql]at b;omega
theorem Z67 (H:Z0e P Γ.tys)(f:CallsOk P Γ)(j:W0.np<=Γ.np)(D:Z4D Γ.np o.dst=true)(I:Inv W0 M σ a w G []){k:State->Option R}(h:Z4E Γ o σ k=some r)
  (B:∀σ' A w' G',k σ'=some r->Inv W0 M σ' A w' G' []->Z15 Γ o.op w G w' G'->K A w'):o.wp P a w K Q:=by
 have b:∀ {x:Operand} {g:Bool} {tv:TV} {v:Value},Z0l Γ.tys σ (.move x)=some (g,tv)->(execOp a.eval o).run P w= .ok (.value (a.eval x)) w->k (σ.puto o.dst tv)=some r->o.wp P a w K Q:=by
  intro x g tv v n m u;have z:Z0l Γ.tys σ ({ o with op:= .move x }:Oper).op=some (g,tv):=n;obtain⟨v,i,p⟩:=Z3f (P:=P) (o:={ o with op:= .move x }) I rfl z;have p:=p w;have T:v=a.eval x:=by
   have F:(execOp a.eval { o with op:= .move x }).run P w= .ok (.value (a.eval x)) w:=rfl;rw[F]at p;simpa using p.symm
  subst T;unfold Oper.wp;rw[m,Oper.upon_value];obtain⟨G',q,e⟩:=Inv.puto (fp:=[]) (xs:=[]) I (d:=o.dst) i (Z1J j D);exact B _ _ _ _ u q e.calmer.all
 unfold Z4E at h;split at h
 ·rename_i c x y l;split at h
  ·rename_i t tg L;have C:=Z24 I L;rw[cond_eq_ite]at h;split at h
   ·rename_i ht;have ht:t=true:=ht;split at h
    ·rename_i g tv n;refine b (v:=undef) n ?_ h;rw[Z03 l];simp only[execOp,C,asBool,Sem.run_bind,Sem.run_pure,Result.andThen_ok];rw[ht];rfl
    ·cases h
   ·rename_i ht;have ht:t=false:=by simpa using ht
    split at h
    ·rename_i g tv n;refine b (v:=undef) n ?_ h;rw[Z03 l];simp only[execOp,C,asBool,Sem.run_bind,Sem.run_pure,Result.andThen_ok];rw[ht];rfl
    ·cases h
  ·cases h
 ·refine Z8P H f I h λtv σ' v w' G' fp u q i J=> ?_
  obtain⟨U,E,e⟩:=Inv.puto (xs:=[]) q (d:=o.dst) i (Z1J j D);exact B _ _ _ _ u E (J.before e.calmer)
theorem Z5F (I:Inv W0 M σ a w G xs){g:Nat}{b:Bool}{tg:List Tag}(h:σ.slot g= .val ⟨.bool,false,b,tg⟩):∃G',Inv W0 M (σ.know g b) a w G' xs/\Sim G G'/\a.tmps.getD g undef= .bool b:=by
 have f:σ.content ⟨false,g,[]⟩=some ⟨.bool,false,b,tg⟩:=by simp[State.content,h]
 have e:=I.slot g (Z0U (by rw[h];simp))
 rw[h]at e;have q:=Z5K e.1 e.2;have m:Rp w G.F G.St G.Al .bool [] (Z02 (a.tmps.getD g undef)) b []:=by
  obtain⟨k,_,_⟩:=e.2;exact⟨k,rfl,rfl⟩
 have i:G.fs g=[]:=e.2.2.2;obtain⟨G',j,n⟩:=I.recontent (p:=⟨false,g,[]⟩) (c':=Z0y .bool b) f rfl rfl (l:=Z02 (a.tmps.getD g undef)) (b:=none) (f':=[]) (fi:=[]) rfl m (by simp[Ghost.fpOf,i])
 have:σ.setContent ⟨false,g,[]⟩ (Z0y .bool b)=σ.know g b:=by
  simp only[State.setContent,h,State.know]
 rw[this]at j;exact⟨G',j,n,q⟩
theorem Z1P {A:Type}{c:Bool}{x:Option A}{r:A}:((if c=true then x else none)=some r)=(c=true/\x=some r):=by
 cases c<;>simp
theorem Z5D (I:Inv W0 M σ a w G xs){j g:Nat}{b:Bool}(i:σ.slot g= .un)(m:o.guard=some (j,b))(f:(ops.toList[j]?).bind (·.dst)=some g):Region.wanted o (yielded ops a.tmps)=false:=by
 have e:g<a.tmps.size:=by rw[I.len];exact Z0U (by rw[i];simp)
 have k:=I.slot g (by rw[<-I.len];exact e)
 rw[i]at k;have h:a.tmps[g]? = some undef:=by
  rw[Xp e];have:=k.1;rw[X5,Xp e]at this;simpa using this
 have l:(ops[j]?).bind (·.dst)=some g:=by
  rw[<-f,QK]
 simp only[Region.wanted,m,yielded,l,Option.bind_some,h];cases b<;>rfl
theorem Z4Z (Z:Z0e P Γ.tys)(f:CallsOk P Γ)(p:W0.np<=Γ.np)(I:Inv W0 M σ a w G []){k:State->Option R}{i:Nat}(ho:ops[i]? = some o)(h:Z1v Γ ops.toList o σ k=some r)
  (L:∀σ' W w' G',k σ'=some r->Inv W0 M σ' W w' G' []->Z15 Γ o.op w G w' G'->K W w'):wpOp P ops Q i K a w:=by
 unfold wpOp;rw[ho];simp only[];unfold Z1v at h;rw[Z1P]at h;obtain⟨B,h⟩:=h;split at h
 ·rename_i T;have:Region.wanted o (yielded ops a.tmps)=true:=by simp[Region.wanted,T]
  rw[QM this];exact .inl (Z67 Z f p B I h L)
 ·rename_i j l T;split at h
  ·rename_i g u;split at h
   ·rename_i b tg q;have hb:∀ {bb:Bool},b=bb->∃G',Inv W0 M (σ.know g bb) a w G' []/\Sim G G'/\Region.wanted o (yielded ops a.tmps)=(bb==l):=by
     rintro bb rfl;obtain⟨G',C,J,hv⟩:=Z5F I q;refine⟨G',C,J,?_⟩;have F:g<a.tmps.size:=by rw[I.len];exact Z0U (by rw[q];simp)
     have E:a.tmps[g]? = some (.bool b):=by
      rw[Xp F];rw[X5,Xp F]at hv;simpa using hv
     have B:(ops[j]?).bind (·.dst)=some g:=by
      rw[<-u,QK]
     simp only[Region.wanted,T,yielded,B,Option.bind_some,E];cases b<;>cases l<;>rfl
    have H:∀ {bb:Bool} {σ2:State},b=bb->(bb==l)=false->k ((σ.know g bb).puto o.dst .un)=some r->(if Region.wanted o (yielded ops a.tmps)=true then o.wp P a w K Q\/(o.asks P a w/\LetsOut Q) else K (a.put o.dst undef) w):=by
     intro bb σ2 z m X;obtain⟨G',C,J,e⟩:=hb z;rw[e,m];simp only[Xj,XI];obtain⟨G2,V,A⟩:=Inv.puto (fp:=[]) (xs:=[]) C (d:=o.dst) (tv:= .un) (v:=undef) ⟨rfl,rfl⟩ (Z1J p B);exact L _ _ _ _ X V (J.trans A).calmer.all
    have y:∀ {bb:Bool},b=bb->(bb==l)=true->Z4E Γ o (σ.know g bb) k=some r->(if Region.wanted o (yielded ops a.tmps)=true then o.wp P a w K Q\/(o.asks P a w/\LetsOut Q) else K (a.put o.dst undef) w):=by
     intro bb z m X;obtain⟨G',C,J,e⟩:=hb z;rw[e,m];simp only[XH];exact .inl (Z67 Z f p B C X λσ' W w' G'' Y U hc=>L _ _ _ _ Y U (hc.after J.calmer))
    rw[cond_eq_ite]at h;split at h
    ·rename_i n;split at h
     ·rename_i m;exact y (bb:=true) n (by rw[m];rfl) h
     ·rename_i m;exact H (σ2:=σ) (bb:=true) n (by simp at m;rw[m];rfl) h
    ·rename_i n;have D:b=false:=by simpa using n
     split at h
     ·rename_i m;exact H (σ2:=σ) (bb:=false) D (by rw[m];rfl) h
     ·rename_i m;exact y (bb:=false) D (by simp at m;rw[m];rfl) h
   ·rename_i q;rw[QN (by rw[Z5D I q T u];simp)]
    obtain⟨G2,V,A⟩:=Inv.puto (fp:=[]) (xs:=[]) I (d:=o.dst) (tv:= .un) (v:=undef) ⟨rfl,rfl⟩ (Z1J p B);exact L _ _ _ _ h V A.calmer.all
   ·cases h
  ·cases h
theorem Z5X {rest:List Oper}{d:Nat}{p:Place}(h:Z5W Γ σ o rest=some (d,p)) :
  ∃c s l,o.dst=some d/\o.guard=none/\o.op= .call c/\c.args.toList=s::l/\σ.peek s= .ref p false/\Z33 d p rest=true/\Γ.np<=d/\d<σ.slots.length/\(p.box=true\/d≠p.root)/\Z2K p.path=true/\(Z08 p.path=true->p.box=true):=by
 unfold Z5W at h;split at h
 ·rename_i A c n u f;split at h
  ·rename_i s l b;split at h
   ·rename_i D v;split at h
    ·rename_i q;split at h
     ·rename_i z y;split at h
      ·rename_i m;simp only[Q6,Z8N,Ql,Xq,QF,Ye,ne_eq]at m;obtain⟨⟨⟨⟨⟨B,C⟩,g⟩,k⟩,i⟩,j⟩:=m;split at h
       ·split at h
        ·cases h
        ·rename_i e;cases h;exact⟨c,s,l,n,u,f,b,v,q,i,k,j,g,λh=>absurd h e⟩
       ·split at h
        ·split at h
         ·split at h
          ·split at h
           ·cases h
           ·rename_i e;cases h;refine⟨c,s,l,n,u,f,b,v,q,i,k,j,g,λh=> ?_⟩
            simp only[h,Qd,QF,Bool.not_eq_false]at e;exact e
          ·cases h
         ·cases h
        ·cases h
       ·cases h
      ·cases h
     ·cases h
    ·cases h
   ·cases h
  ·cases h
 ·cases h
theorem Z4F:{p q:List Step}->Z3x p q=true->p=q
 | [],[],_=>rfl
 | [],_::_,h=>by cases h
 |_::_,[],h=>by rename_i a l;cases a<;>cases h
 |.fst::p,.fst::q,h=>by rw[Z4F (p:=p) (q:=q) h]
 |.snd::p,.snd::q,h=>by rw[Z4F (p:=p) (q:=q) h]
 |.idx i::p,.idx j::q,h=>by
  simp only[Z3x,Q6,Z9n]at h;rw[Z4F h.2,Nat.eq_of_beq_eq_true h.1]
 |.fst::_,.snd::_,h=>by cases h
 |.fst::_,.idx _::_,h=>by cases h
 |.snd::_,.fst::_,h=>by cases h
 |.snd::_,.idx _::_,h=>by cases h
 |.idx _::_,.fst::_,h=>by cases h
 |.idx _::_,.snd::_,h=>by cases h
theorem Z7Y {i:Nat}{d:Option Nat}(h:Z4W i d=true):d≠some i:=by
 rintro rfl;simp[Z4W]at h
theorem Z56 {a:Act}{d:Option Nat}{v:Value}{i:Nat}(h:d≠some i):(a.put d v).tmps.getD i undef=a.tmps.getD i undef:=by
 cases d with
 |none=>rfl
 |some j=>
  simp only[Act.put];rw[X5,YO (λe=>h (by rw[e])),<-X5]
theorem Z57 {d:Option Nat}{tv:TV}{p:Place}(h:p.box=true\/d≠some p.root):(σ.puto d tv).ct p=σ.ct p:=by
 cases d with
 |none=>rfl
 |some i=>
  obtain⟨g,b,path⟩:=p;cases g with
  |true=>rfl
  |false=>
   have f:i≠b:=by
    rcases h with h | h
    ·cases h
    ·exact λe=>h (by rw[e])
   simp only[State.ct,State.content,State.puto];rw[Z4H,QN (λh=>f h.1),Z0i,Z3z]
   cases σ.slot b with
   |sptr r τ q=>
    simp only[TV.unmir];cases r==i<;>rfl
   |ref q ag=>
    simp only[TV.unmir,TV.loosen];cases q.box==false&&q.root==i<;>rfl
   |eref q=>
    simp only[TV.unmir,TV.loosen];cases q.box==false&&q.root==i<;>rfl
   |tref q ag=>
    simp only[TV.unmir,TV.loosen];cases (!false)&&q==i<;>rfl
   |_=>rfl
theorem Z6H (y:Z0e P Γ.tys)(q:W0.np<=Γ.np){d:Nat}{p:Place}{w2:World}{b off:Nat}{v1:Value}(H:HoleSt W0 M σ a w d p w2 G b off v1)(I:Z4D Γ.np o.dst=true)(z:Z7l o.op=true)(E:Z4W d o.dst=true)
  (F:p.box=true\/Z4W p.root o.dst=true) {g:Bool} {tv:TV} (n:Z0l Γ.tys σ o.op=some (g,tv)) (J:g=true) :
  ∃v G',(execOp a.eval o).run P w= .ok (.value v) w/\HoleSt W0 M (σ.puto o.dst tv) (a.put o.dst v) w d p w2 G' b off v1:=by
 have j:Z0N P σ a w2 G o tv:=by
  cases e:o.op with
  |move x=>exact Z3f H.inv e n
  |nilCheck x=>exact Z3p H.inv e n
  |fieldAddr t x i=>exact Z2V y H.inv e n
  |indexAddr t x i=>exact Z2W y H.inv e n J
  |_=>rw[e]at z;cases z
 obtain⟨v,u,k⟩:=j;obtain⟨G',B,m⟩:=Inv.puto (fp:=[]) (xs:=[]) H.inv (d:=o.dst) u (Z1J q I);obtain⟨τ,l,C,cs,L,T,U⟩:=H.at_;have f:p.box=true\/o.dst≠some p.root:=F.imp id Z7Y;refine⟨v,G',k w,⟨B,H.patch,(Z56 (Z7Y E)).trans H.tmp,H.one,⟨τ,l,C,cs,(Z57 f).trans L,?_,U⟩,H.cell⟩⟩;rw[<-T];obtain⟨D,A,path⟩:=p;cases D with
 |true=>simp only[Z09];rw[m.ad]
 |false=>
  simp only[Z09];rw[Z56 (by
   rcases f with h | h
   ·cases h
   ·exact h)]
theorem Z3V {w:World}{b off:Nat}{C:Array Value}{T:TypeId}{fr:Nat×Nat}{l:List Value}(h:w.heap[b]? = some (.cells C T fr)):w.setRow b (Z0c C.toList off l).toArray=Z0m w b off l:=by
 have:(w.setRow b (Z0c C.toList off l).toArray).heap=(Z0m w b off l).heap:=Array.ext_getElem? λz=>Z5d h z
 unfold World.setRow Z0m at *;simp only at this ⊢;rw[this]
theorem Z5Y (X:Z0e P Γ.tys){d:Nat}{p:Place}{w2:World}{b off:Nat}{v1:Value}(H:HoleSt W0 M σ a w d p w2 G b off v1){t:TypeId}{y:Operand}(k:o.op= .store t y (.tmp d)){e:Ty}(ht:tyOf Γ.tys t=some (.slice e)){q:Place}
  (Y:(σ.peek y= .eref q\/σ.peek y= .ptr q)/\q.box=p.box/\q.root=p.root) (E:Z3x q.path p.path=true):(execOp a.eval o).run P w= .ok .skip w2:=by
 obtain⟨g,B,F⟩:=Y;have m:q=p:=by
  obtain⟨qb,qr,qp⟩:=q;obtain⟨pb,pr,pp⟩:=p;simp only at B F E;rw[B,F,Z4F E]
 subst m;obtain⟨τ,l,bs,cs,I,q2,q3⟩:=H.at_;have f:Z0w σ G a w2 q (a.eval y):=by
  rcases g with g | g
  ·have f:=Z0v H.inv y;rw[g]at f;exact(f (by simp)).2
  ·have f:=Z0v H.inv y;rw[g]at f;exact(f (by simp)).2.2.2
 have j:a.eval y= .pointer (some ⟨b,off,none⟩):=by
  rcases f with h | ⟨W,b',⟨τ',l',V,J,L,U⟩,Z⟩
  ·rw[I]at h;cases h
  ·rw[I]at J;cases J;rw[q2]at L;cases L;rw[q3]at U;cases U;exact Z
 obtain⟨C,T,fr,A,D,z⟩:=H.cell;obtain⟨lt,u,_⟩:=Z0Q ht;have hx:a.eval (.tmp d)=v1:=H.tmp;have i:v1.cells= #[v1]:=by
  have:=H.one;cases v1<;>simp_all[one,Value.cells]
 rw[Z03 k];have n:=Z48 (P:=P) (w:=w) (off:=off) X u A z (v:=v1) (by rw[i];rfl) (by show off+1<=C.size;omega) (by rw[i];simpa using H.one)
 simp only[execOp,j,hx,Sem.run_bind,n,Result.andThen_ok,Sem.run_pure];rw[i,H.patch];rw[<-Z3V A]
theorem Z2L {b:List Oper}{i:Nat}{l:List Nat}{e:List Oper}(h:Z1l b (i::l)=some e):∃o r,b[i]? = some o/\Z1l b l=some r/\e=o::r:=by
 simp only[Z1l]at h;split at h
 ·rename_i o r f g;cases h;exact⟨o,r,f,g,rfl⟩
 ·cases h
theorem Z6I {d:Nat}{p:Place}{o:Oper}(h:Z33 d p [o]=true):(∃t y,o.op= .store t y (.tmp d))/\o.guard=none/\o.dst=none:=by
 simp only[Z33,Q6,Option.isNone_iff_eq_none]at h;obtain⟨⟨b,f⟩,g⟩:=h;refine⟨?_,f,g⟩;split at b
 ·rename_i t y t' e;simp only[QG]at b;subst b;exact⟨_,_,e⟩
 ·cases b
theorem Z60 {d:Nat}{p:Place}{o b:Oper}{l:List Oper}(h:Z33 d p (o::b::l)=true):Z7l o.op=true/\o.guard=none/\Z4W d o.dst=true/\(p.box=true\/Z4W p.root o.dst=true)/\Z33 d p (b::l)=true:=by
 simp only[Z33,Q6,Option.isNone_iff_eq_none,Xq]at h;obtain⟨⟨⟨⟨e,f⟩,g⟩,i⟩,j⟩:=h;exact⟨e,f,g,i,j⟩
theorem Z7u {p:Place}{k:State->Option R}{t:TypeId}{y x:Operand}(f:o.op= .store t y x)(h:Z4I Γ p [o] σ k=some r) :
  ∃e q,tyOf Γ.tys t=some (.slice e)/\((σ.peek y= .eref q\/σ.peek y= .ptr q)/\q.box=p.box/\q.root=p.root)/\Z3x q.path p.path=true/\k σ=some r:=by
 simp only[Z4I,f]at h;split at h
 ·rename_i e q ht g;split at h
  ·rename_i b;simp only[Q6,QG]at b;rw[cond_eq_ite,Z1P]at h;exact⟨e,q,ht,⟨.inl g,b.1.1,b.1.2⟩,h.1,h.2⟩
  ·cases h
 ·rename_i e q ht g;split at h
  ·rename_i b;simp only[Q6,QG]at b;rw[cond_eq_ite,Z1P]at h;exact⟨e,q,ht,⟨.inr g,b.1.1,b.1.2⟩,h.1,h.2⟩
  ·cases h
 ·cases h
theorem Z6K {p:Place}{k:State->Option R}{b:Oper}{l:List Oper}(h:Z4I Γ p (o::b::l) σ k=some r):Z4D Γ.np o.dst=true/\∃g tv,Z0l Γ.tys σ o.op=some (g,tv)/\g=true/\Z4I Γ p (b::l) (σ.puto o.dst tv) k=some r:=by
 simp only[Z4I]at h;rw[Z1P]at h;obtain⟨e,h⟩:=h;split at h
 ·rename_i g tv f;rw[cond_eq_ite,Z1P]at h;exact⟨e,g,tv,f,h.1,h.2⟩
 ·cases h
theorem Z2i {i:Nat}(e:ops[i]? = some o)(b:o.guard=none)(h:o.wp P a w K Q):wpOp P ops Q i K a w:=by
 unfold wpOp;rw[e];simp only[];have:Region.wanted o (yielded ops a.tmps)=true:=by simp[Region.wanted,b]
 rw[QM this];exact .inl h
theorem Z6a (I:Z0e P Γ.tys)(n:W0.np<=Γ.np){d:Nat}{p:Place}{w2:World}{b off:Nat}{v1:Value}{k:State->Option R} :
  (l:List Nat)->(C:List Oper)->(σ:State)->(a:Act)->(G:Ghost)->Z1l ops.toList l=some C->Z33 d p C=true->HoleSt W0 M σ a w d p w2 G b off v1->Z4I Γ p C σ k=some r ->
  (∀σ' V w' G',k σ'=some r->Inv W0 M σ' V w' G' []->Q .normal V w')->wpOps P ops Q l a w
 | [],C,σ,a,G,E,D,H,h,F=>by
  simp only[Z1l,Q9]at E;subst E;cases D
 |i::l,C,σ,a,G,E,D,H,h,F=>by
  obtain⟨o,r',ho,A,rfl⟩:=Z2L E;have u:ops[i]? = some o:=by rw[<-QK];exact ho
  rw[wpOps_cons];cases r' with
  |nil=>
   have hl:l=[]:=by
    cases l with
    |nil=>rfl
    |cons j l=>
     obtain⟨_,_,_,_,h⟩:=Z2L A;cases h
   subst hl;obtain⟨⟨t,y,z⟩,L,m⟩:=Z6I D;obtain⟨e,q,ht,hq,U,hk⟩:=Z7u z h;refine Z2i u L ?_;unfold Oper.wp;rw[Z5Y I H z ht hq U,Oper.upon_skip,m];exact F σ a w2 G hk H.inv
  |cons o2 r2=>
   obtain⟨hm,L,X,Y,J⟩:=Z60 D;obtain⟨Z,g,tv,hs,T,f⟩:=Z6K h;obtain⟨v,G',B,W⟩:=Z6H I n H Z hm X Y hs T;refine Z2i u L ?_;unfold Oper.wp;rw[B,Oper.upon_value];exact Z6a I n l (o2::r2) _ _ G' A J W f F
theorem Z69 (y:Z0e P Γ.tys)(e:CallsOk P Γ)(g:W0.np<=Γ.np) :
  (l:List Nat)->(σ:State)->(a:Act)->(w:World)->(G:Ghost)->(k:State->Option R)->Inv W0 M σ a w G []->Z5I Γ ops.toList l σ k=some r ->
  (∀σ' n w' G',k σ'=some r->Inv W0 M σ' n w' G' []->Q .normal n w')->wpOps P ops Q l a w
 | [],σ,a,w,G,k,I,h,q=>q σ a w G h I
 |i::l,σ,a,w,G,k,I,h,q=>by
  rw[wpOps_cons];simp only[Z5I]at h;split at h
  ·rename_i o W;have m:ops[i]? = some o:=by rw[<-QK];exact W
   have plain:Z1v Γ ops.toList o σ (λσ'=>Z5I Γ ops.toList l σ' k)=some r->wpOp P ops Q i (wpOps P ops Q l) a w:=λh=>
    Z4Z y e g I m h λσ' n w' G' D L _=>Z69 y e g l σ' n w' G' k L D q
   split at h
   ·split at h
    ·rename_i d p C;obtain⟨rest,f,C⟩:=Yj.1 C;rw[f]at h;simp only[Z4l]at h;obtain⟨c,s,T,J,V,F,j,X,U,E,z,A,u,B⟩:=Z5X C;refine Z2i m V ?_;refine e.hole W0 M σ a w G o d p c s T _ r _ Q I g E z J F j X A u B h λσ' v w' w2 G' Y b off v1 D H _=> ?_
     rw[J];exact Z6a y g l rest σ' _ G' f U H D q
    ·exact plain h
   ·exact plain h
  ·cases h
end
end Go.PI
namespace Go.PI
section
variable {P:Program}{ops:Array Oper}{Q:Exit->Act->World->Prop}{tame:Bool->Nat->Bool}
def wpT (P:Program)(ops:Array Oper)(Q:Exit->Act->World->Prop)(tame:Bool->Nat->Bool):Nat->Array Bool->Act->(Bool->World->Prop)->World->Prop
 | 0,b,a,S,w=>Region.ready .any ops b=[]/\Q .normal a w
 |n+1,b,a,S,w=>
  (Region.ready .any ops b=[]->Q .normal a w) /\
  ∀i∈Region.ready .any ops b,wpOp P ops Q i (λf w'=>∃e:Bool->World->Prop,(∀l,e l w')/\(∀l,tame l i=true->∀u,e l u->S l u)/\wpT P ops Q tame n (b.setIfInBounds i true) f e w') a w
theorem Z81:(n:Nat)->(b:Array Bool)->(a:Act)->(S:Bool->World->Prop)->(w:World)->wpT P ops Q tame n b a S w->wpAny P .any ops Q n b a w
 | 0,_,_,_,_,h=>h
 |n+1,_,_,_,_,h=>⟨h.1,λi j=>wpOp_mono (λf w' ⟨e,_,_,g⟩=>Z81 n _ f e w' g) (h.2 i j)⟩
theorem Z6T {S b:World->Prop}{o:Oper}{v:Value}{a:Act}(h:YieldsIf P ops S o v a)(g:∀w,b w->S w):YieldsIf P ops b o v a:=
 h.imp (λ⟨e,f⟩=>⟨e,λw i=>f w (g w i)⟩) id
theorem Z92 {l:Bool}{i:Nat}{C:Oper}{v:Value}(Z:ops[i]? = some C)(u:∀(j:Nat) (o:Oper) cs b,ops[j]? = some o->o.op≠ .select cs b)
  (hQ:∀c a w,Q (.panic c) (a.put C.dst v) w->Q (.panic c) a w) :
  ∀(g:Nat) (f:Array Bool) (a:Act) (S:Bool->World->Prop) (w:World),
   (∀j D,ops[j]? = some D->j≠i->f.getD j true=false->(∀e∈D.after,Region.binds .any e=true->e.on≠i)->C.apart ops D=true/\tame l j=true) ->
   i∈Region.ready .any ops f->YieldsIf P ops (S l) C v a->(∀l,S l w) ->
   wpT P ops Q tame g (f.setIfInBounds i true) (a.put C.dst v) S w->wpT P ops Q tame (g+1) f a S w:=by
 intro g;induction g with
 |zero=>
  intro f a S w _ B V E H;refine⟨λh=>(by rw[h]at B;cases B),λj U=> ?_⟩
  by_cases m:j=i
  ·subst m;exact V.wpOp Z (E l) ⟨S,E,λ_ _ _ h=>h,H⟩
  ·have:=ready_mono U m;rw[H.1]at this;cases this
 |succ g ih=>
  intro f a S w n B V E H;refine⟨λh=>(by rw[h]at B;cases B),λj U=> ?_⟩
  by_cases m:j=i
  ·subst m;exact V.wpOp Z (E l) ⟨S,E,λ_ _ _ h=>h,H⟩
  ·have z:=H.2 j (ready_mono U m);obtain⟨q,D,A,I⟩:=mem_ready.1 U;have L:∀e∈D.after,Region.binds .any e=true->e.on≠i:=λe he hb Y=>by
    have z:=I e he hb;have h0:=(mem_ready.1 B).1;rw[Y]at z;rcases Yi i f.size with W | W
    ·simp[W]at h0 z;rw[h0]at z;cases z
    ·simp[Array.getElem?_eq_none W]at z
   obtain⟨X,ac⟩:=n j D A m q L;have h2:=wpOp_putIf A X (λcs b=>u i C cs b Z) (λcs b=>u j D cs b A) hQ V z
   have p:∀k ok,ops[k]? = some ok->k≠i->(f.setIfInBounds j true).getD k true=false ->
     (∀e∈ok.after,Region.binds .any e=true->e.on≠i)->C.apart ops ok=true/\tame l k=true:=λk ok hk aa T ab=>by
    refine n k ok hk aa ?_ ab;by_cases J:j=k
    ·subst J;exact q
    ·rw[getD_set_ne true J]at T;exact T
   refine wpOp_mono (λa' w' h3=> ?_) h2
   obtain⟨ad,S',F,y,h4⟩:=h3;refine⟨S',F,y,ih (f.setIfInBounds j true) a' S' w' p (ready_mono B (Ne.symm m)) (Z6T ad (y l ac)) F ?_⟩;rw[Array.setIfInBounds_comm _ _ m];exact h4
end
section
variable {W0:Base}{M:Nat->Prop}{σ:State}{a:Act}{w w':World}{G:Ghost}{xs:List Nat}{P:Program}{tys:List (TypeId×Ty×List TypeId)}
variable {R:Type}{Γ:Env R}{d:Option Nat}{type:TypeId}{o:Oper}{r:R}{ops:Array Oper}{Q:Exit->Act->World->Prop}{K:Act->World->Prop}
theorem Z6S {e:Op}(h:Z5q Γ.tys e=true){k:TV->State->Option R}(f:Z0l Γ.tys σ e=none):Z0L Γ d type σ k e=none:=by
 cases e<;>simp only[Z5q]at h<;>try (first | (cases h;done) | (simp only[Z0L];done))
 case convert s t x=>
  simp only[Z0L];split
  ·rfl
  ·split
   ·rename_i ht _;rw[ht]at h;cases h
   ·rfl
 case call c=>
  simp only[Z0L];split at h
  ·rename_i b;simp[b]
  ·rename_i b;simp[b]
  ·rename_i b;simp[b]
  ·cases h
def Z0K (l:Bool)(w:World)(G:Ghost)(w2:World):Prop:=match l with
 |false=>Z6g w G w2
 |true=>Z4n w G w2
theorem Z0K.refl (l:Bool)(w:World)(G:Ghost):Z0K l w G w:=by
 cases l
 ·exact⟨λ_ _ _ _ _ _ _ h=>h,λ_ _ _=>rfl⟩
 ·exact λ_ _ _=>rfl
theorem Z0K.sim {l:Bool}{w w2:World}{G h:Ghost}(e:Sim G h)(g:Z0K l w G w2):Z0K l w h w2:=by
 cases l
 ·exact⟨λb f k o n cs m j=>g.1 b f (by rw[<-e.Al];exact k) o n cs (by rw[<-e.F];exact m) j,λi b f=>g.2 i b ((e.bx b i).1 f)⟩
 ·exact λi b f=>g i b ((e.bx b i).1 f)
theorem Z0K.of_sim {l:Bool}{w w2:World}{G f:Ghost}(e:Sim G f)(g:Z0K l w f w2):Z0K l w G w2:=by
 cases l
 ·exact e.calmer.a _ g
 ·exact e.calmer.b _ g
theorem Z68 (σ:State){σ':State}{v:Value}:σ'.peek (.const v)=σ.peek (.const v):=by
 cases v with
 |slice a n c=>cases a<;>cases n<;>cases c<;>rfl
 |_=>rfl
theorem Z87 {σ:State}{g:Nat}{b i:Bool}{tg:List Tag}{j:Op}(f:σ.slot g= .val ⟨.bool,false,b,tg⟩)(h:Z2d σ j=true):Z2d (σ.know g i) j=true:=by
 cases j<;>first | rfl | exact h | skip
 case convert s t x=>
  simp only[Z2d]at h ⊢;cases x with
  |tmp t=>
   by_cases ht:t=g
   ·subst ht;simp only[State.peek,f]at h;by_cases e:(TVal.anyOwn ⟨.bool,false,b,tg⟩)=true
    ·rw[QM e]at h;cases h
    ·rw[QN e]at h;cases h
   ·have:(σ.know g i).slot t=σ.slot t:=by
     show Z0u .dead (Z0G σ.slots g _) t=_
     rw[Z0S,QN (λh=>ht h.1.symm)]
     rfl
    simp only[State.peek]at h ⊢;rw[this];exact h
  |const v=>rw[Z68 σ];exact h
  |_=>exact h
 case load t x=>
  simp only[Z2d]at h ⊢;cases x with
  |tmp t=>
   by_cases ht:t=g
   ·subst ht;simp only[State.peek,f]at h;by_cases e:(TVal.anyOwn ⟨.bool,false,b,tg⟩)=true
    ·rw[QM e]at h;cases h
    ·rw[QN e]at h;cases h
   ·have:(σ.know g i).slot t=σ.slot t:=by
     show Z0u .dead (Z0G σ.slots g _) t=_
     rw[Z0S,QN (λh=>ht h.1.symm)]
     rfl
    simp only[State.peek]at h ⊢;rw[this];exact h
  |const v=>rw[Z68 σ];exact h
  |_=>exact h
theorem Z7V {l:Bool}(hT:Z0e P Γ.tys)(q:W0.np<=Γ.np)(I:Inv W0 M σ a w G []){k:State->Option R}{i:Nat}(ho:ops[i]? = some o)(D:Z1y Γ.tys o.op=true)(L:l=true->Z2d σ o.op=true)(h:Z1v Γ ops.toList o σ k=some r) :
  ∃v σ' G',YieldsIf P ops (Z0K l w G) o v a/\k σ'=some r/\Inv W0 M σ' (a.put o.dst v) w G' []/\Sim G G':=by
 unfold Z1v at h;rw[Z1P]at h;obtain⟨hd,h⟩:=h;have one:∀ {J:State} {F:Ghost},(l=true->Z2d J o.op=true)->Inv W0 M J a w F []->Sim G F->Z4E Γ o J k=some r ->
   ∃v σ' G',(∀w2,Z0K l w G w2->(execOp a.eval o).run P w2= .ok (.value v) w2)/\k σ'=some r/\Inv W0 M σ' (a.put o.dst v) w G' []/\Sim G G':=by
  intro J F L T B e;have Y:∀w2,Z0K l w G w2->Z0K l w F w2:=λw2 hc=>hc.sim B
  have W:∀ {tv:TV} {v:Value},Z01 J F a w tv v []->(∀w2,Z0K l w F w2->(execOp a.eval o).run P w2= .ok (.value v) w2)->k (J.puto o.dst tv)=some r ->
    ∃v σ' G',(∀w2,Z0K l w G w2->(execOp a.eval o).run P w2= .ok (.value v) w2)/\k σ'=some r/\Inv W0 M σ' (a.put o.dst v) w G' []/\Sim G G':=by
   intro tv v f A hk;obtain⟨G2,I2,C⟩:=Inv.puto (fp:=[]) (xs:=[]) T (d:=o.dst) f (Z1J q hd);exact⟨v,_,G2,λw2 hc=>A w2 (Y w2 hc),hk,I2,B.trans C⟩
  unfold Z4E at e;split at e
  ·rename_i c x y u;have hmv:∀ {z:Operand} {g:Bool} {tv:TV},Z0l Γ.tys J (.move z)=some (g,tv)->Z01 J F a w tv (a.eval z) []:=by
    intro z g tv H;obtain⟨v,f,hr⟩:=Z3f (P:=P) (o:={ o with op:= .move z }) T rfl (show Z0l Γ.tys J ({ o with op:= .move z }:Oper).op=some (g,tv) from H)
    have hr:=hr w;have h2:(execOp a.eval { o with op:= .move z }).run P w= .ok (.value (a.eval z)) w:=rfl;rw[h2]at hr;have:a.eval z=v:=by simpa using hr
    rw[this];exact f
   split at e
   ·rename_i t tg hl;have hb:=Z24 T hl;rw[cond_eq_ite]at e;split at e
    ·rename_i ht;have ht:t=true:=ht;split at e
     ·rename_i g tv H;refine W (hmv H) (λw2 _=> ?_) e
      rw[Z03 u];simp only[execOp,hb,asBool,Sem.run_bind,Sem.run_pure,Result.andThen_ok];rw[ht];rfl
     ·cases e
    ·rename_i ht;have ht:t=false:=by simpa using ht
     split at e
     ·rename_i g tv H;refine W (hmv H) (λw2 _=> ?_) e
      rw[Z03 u];simp only[execOp,hb,asBool,Sem.run_bind,Sem.run_pure,Result.andThen_ok];rw[ht];rfl
     ·cases e
   ·cases e
  ·rename_i q;have hsb:Z5q Γ.tys o.op=true:=by
    cases u:o.op with
    |pick c x y=>exact absurd u (q c x y)
    |_=>rw[u]at D;exact D
   unfold opC at e;split at e
   ·rename_i g tv H;rw[cond_eq_ite]at e;split at e
    ·rename_i Z;have X:∃v,Z01 J F a w tv v []/\∀w2,Z0K l w F w2->(execOp a.eval o).run P w2= .ok (.value v) w2:=by
      cases l
      ·exact Z7z hT T H Z
      ·exact Z8V hT T H Z (L rfl)
     obtain⟨v,f,A⟩:=X;exact W f A e
    ·cases e
   ·rename_i H;rw[Z6S hsb H]at e;cases e
 split at h
 ·rename_i Z;have m:Region.wanted o (yielded ops a.tmps)=true:=by simp[Region.wanted,Z]
  obtain⟨v,σ',G',e,h2,h3,h4⟩:=one L I (Sim.refl _) h;exact⟨v,σ',G',.inl ⟨m,e⟩,h2,h3,h4⟩
 ·rename_i j n Z;split at h
  ·rename_i g U;split at h
   ·rename_i b tg f;obtain⟨F,T,B,hv⟩:=Z5F I f;have E:Region.wanted o (yielded ops a.tmps)=(b==n):=by
     have hlt:g<a.tmps.size:=by rw[I.len];exact Z0U (by rw[f];simp)
     have hget:a.tmps[g]? = some (.bool b):=by
      rw[Xp hlt];rw[X5,Xp hlt]at hv;simpa using hv
     have hd:(ops[j]?).bind (·.dst)=some g:=by rw[<-U,QK]
     simp only[Region.wanted,Z,yielded,hd,Option.bind_some,hget];cases b<;>cases n<;>rfl
    have V:(b==n)=true->Z4E Γ o (σ.know g b) k=some r->∃v σ' G',YieldsIf P ops (Z0K l w G) o v a/\k σ'=some r/\Inv W0 M σ' (a.put o.dst v) w G' []/\Sim G G':=by
     intro m hk;obtain⟨v,σ',G',e,h2,h3,h4⟩:=one (λhl=>Z87 f (L hl)) T B hk
     exact⟨v,σ',G',.inl ⟨by rw[E];exact m,e⟩,h2,h3,h4⟩
    have hno:(b==n)=false->k ((σ.know g b).puto o.dst .un)=some r->∃v σ' G',YieldsIf P ops (Z0K l w G) o v a/\k σ'=some r/\Inv W0 M σ' (a.put o.dst v) w G' []/\Sim G G':=by
     intro m hk;obtain⟨G2,I2,C⟩:=Inv.puto (fp:=[]) (xs:=[]) T (d:=o.dst) (tv:= .un) (v:=undef) ⟨rfl,rfl⟩ (Z1J q hd);exact⟨undef,_,G2,.inr ⟨by rw[E];exact m,rfl⟩,hk,I2,B.trans C⟩
    rw[cond_eq_ite]at h;split at h
    ·rename_i p;have p:b=true:=p;subst p;split at h
     ·rename_i m;exact V (by rw[m];rfl) h
     ·rename_i m;exact hno (by simp at m;rw[m];rfl) h
    ·rename_i p;have hbf:b=false:=by simpa using p
     subst hbf;split at h
     ·rename_i m;exact hno (by rw[m];rfl) h
     ·rename_i m;exact V (by simp at m;rw[m];rfl) h
   ·rename_i f;obtain⟨G2,I2,C⟩:=Inv.puto (fp:=[]) (xs:=[]) I (d:=o.dst) (tv:= .un) (v:=undef) ⟨rfl,rfl⟩ (Z1J q hd);exact⟨undef,_,G2,.inr ⟨Z5D I f Z U,rfl⟩,h,I2,C⟩
   ·cases h
  ·cases h
noncomputable def Z1Y (Γ:Env R)(ops:Array Oper)(l:Bool)(i:Nat):Bool:=match ops[i]? with | some o=>(match l with | false=>Z1z Γ o.op | true=>Z1M Γ o.op) | none=>true
theorem Za0 {b:Op}(h:Z1y Γ.tys b=true):Z1z Γ b=true:=by
 cases b<;>simp only[Z1y,Z5q]at h<;>try (first | rfl | (cases h;done))
 case call c=>
  simp only[Z1z];split at h<;>first | (rename_i e;rw[e]) | cases h
theorem Z8C {x y:Option R}(h:Z86 x y=some r):(∃b,x=some b)/\y=some r:=by
 unfold Z86 at h;split at h
 ·exact⟨⟨_,rfl⟩,h⟩
 ·cases h
def Z9m (Γ:Env R)(ops:Array Oper)(σ:State)(k:State->Option R)(r:R)(i:Nat)(p:Plan):Prop:=
 Z27 Γ ops.toList (.go i p) σ k=some r\/∃o,ops[i]? = some o/\Z1v Γ ops.toList o σ (λσ'=>Z27 Γ ops.toList p σ' k)=some r
theorem Z6x [Subsingleton R]{f:Nat->Option Plan}{k:State->Option R}:(l:List Nat)->(p:Plan)->Z4Q f l=some p->l≠[]->Z27 Γ ops.toList p σ k=some r ->
  ∀j∈l,∃q,f j=some q/\Z9m Γ ops σ k r j q
 | [],p,h,g,_=>absurd rfl g
 | [i],p,h,_,b=>by
  obtain⟨q,A,rfl⟩:=Qm.1 h;intro j e;have:j=i:=by simpa using e
  subst this;exact⟨q,A,.inl b⟩
 |i::B::l,p,h,_,b=>by
  simp only[Z4Q]at h;split at h
  ·rename_i C D m n;cases h;simp only[Z27]at b;split at b
   ·rename_i o z;obtain⟨⟨E,v⟩,y⟩:=Z8C b;have u:E=r:=Subsingleton.elim _ _;rw[u]at v;intro j e;rcases Qp.1 e with rfl | e
    ·exact⟨C,m,.inr ⟨o,by rw[<-QK];exact z,v⟩⟩
    ·exact Z6x (B::l) D n (by simp) y j e
   ·cases b
  ·cases h
theorem Z9a {k:State->Option R}{i:Nat}{p:Plan}(h:Z9m Γ ops σ k r i p):(∃o,ops[i]? = some o/\Z1v Γ ops.toList o σ (λσ'=>Z27 Γ ops.toList p σ' k)=some r) \/
  ∃o l g d q,ops[i]? = some o/\Z11 ops.toList i p=some l/\Z1l ops.toList l=some g/\Z5W Γ σ o g=some (d,q)/\Z4l Γ d q o g σ k=some r:=by
 rcases h with h | h
 ·simp only[Z27]at h;split at h
  ·rename_i o n;have b:ops[i]? = some o:=by rw[<-QK];exact n
   split at h
   ·split at h
    ·rename_i d q j;obtain⟨g,e,j⟩:=Yj.1 j;obtain⟨l,m,f⟩:=Yj.1 e;rw[e]at h;exact .inr ⟨o,l,g,d,q,b,m,f,j,h⟩
    ·exact .inl ⟨o,b,h⟩
   ·exact .inl ⟨o,b,h⟩
  ·cases h
 ·exact .inl h
theorem Z7U {b:Op}(h:Z1y Γ.tys b=true):Z5o b=false:=by
 cases b<;>simp only[Z1y,Z5q]at h<;>try (first | rfl | (cases h;done))
 case call c=>
  simp only[Z5o];split at h<;>first | (rename_i e;rw[e]) | cases h
theorem Z7a {n:Nat}{b:Array Bool}{j:Nat}{p:Plan}(h:Z19 Γ ops (n+1) b=some (.go j p)):j∈Region.ready .any ops b/\Z19 Γ ops n (b.setIfInBounds j true)=some p:=by
 simp only[Z19]at h;split at h
 ·rename_i i e;obtain⟨l',g,f⟩:=Qm.1 h;cases f;exact⟨List.mem_of_find?_eq_some e,g⟩
 ·split at h
  ·obtain⟨l',g,f⟩:=Qm.1 h;cases f
  ·cases k:Region.ready .any ops b with
   |nil=>rw[k]at h;simp[Z4Q]at h
   |cons i l=>
    rw[k]at h;cases l with
    |nil=>
     obtain⟨q,m,f⟩:=Qm.1 h;cases f;exact⟨by simp,m⟩
    |cons u l=>
     simp only[Z4Q]at h;split at h<;>cases h
theorem Z77 {n:Nat}{b:Array Bool}(h:Z19 Γ ops n b=some .done):Region.ready .any ops b=[]:=by
 cases n with
 |zero=>
  simp only[Z19]at h;split at h
  ·rename_i g;simpa using g
  ·cases h
 |succ n=>
  simp only[Z19]at h;split at h
  ·obtain⟨l',f,e⟩:=Qm.1 h;cases e
  ·split at h
   ·obtain⟨l',f,e⟩:=Qm.1 h;cases e
   ·cases g:Region.ready .any ops b with
    |nil=>rfl
    |cons i l=>
     rw[g]at h;cases l with
     |nil=>
      obtain⟨q,j,e⟩:=Qm.1 h;cases e
     |cons k l=>
      simp only[Z4Q]at h;split at h<;>cases h
theorem Z7G {b:Array Bool}{p:Plan}(h:Z19 Γ ops 0 b=some p):p= .done:=by
 simp only[Z19]at h;split at h
 ·cases h;rfl
 ·cases h
theorem Z4V {b:List Oper}{i:Nat}{p:Plan}{j:Nat}{l:List Nat}(h:Z11 b i p=some (j::l)):∃q o,p= .go j q/\b[j]? = some o/\o.after.any (λe=>Region.binds .any e&&e.on==i)=true/\Z11 b j q=some l:=by
 cases p with
 |go n q=>
  simp only[Z11]at h;split at h
  ·rename_i o m;split at h
   ·rename_i g;obtain⟨l',f,k⟩:=Qm.1 h;cases k;exact⟨q,o,rfl,m,g,f⟩
   ·cases h
  ·cases h
 |done=>simp[Z11]at h
 |gob=>simp[Z11]at h
 |alt=>simp[Z11]at h
theorem Z6C {b:List Oper}{i:Nat}{p:Plan}(h:Z11 b i p=some []):p= .done:=by
 cases p with
 |go g q=>
  simp only[Z11]at h;split at h
  ·split at h
   ·obtain⟨l',f,e⟩:=Qm.1 h;cases e
   ·cases h
  ·cases h
 |done=>rfl
 |gob=>simp[Z11]at h
 |alt=>simp[Z11]at h
theorem Z6B {h:List Oper}:(l:List Nat)->(n:Nat)->(b:Array Bool)->(p:Plan)->(i:Nat)->Z19 Γ ops n b=some p->Z11 h i p=some l ->
  (∀j∈Region.ready .any ops b,j∈l)/\∀j∈l,b.getD j true=false
 | [],n,b,p,i,g,k=>by
  have:=Z6C k;subst this;rw[Z77 g];exact⟨λj e=>e,λj e=>by cases e⟩
 |j::l,n,b,p,i,g,k=>by
  obtain⟨q,o,rfl,_,_,m⟩:=Z4V k;cases n with
  |zero=>have:=Z7G g;cases this
  |succ n=>
   obtain⟨e,C⟩:=Z7a g;obtain⟨A,B⟩:=Z6B l n _ q j C m;refine⟨λz u=> ?_,λx v=> ?_⟩
   ·by_cases f:z=j
    ·subst f;simp
    ·exact Qa _ (A z (ready_mono u f))
   ·rcases Qp.1 v with rfl | v
    ·exact(mem_ready.1 e).1
    ·have y:=B x v;by_cases f:j=x
     ·subst f;exact(mem_ready.1 e).1
     ·rw[getD_set_ne true f]at y;exact y
theorem Z5x {b:List Oper}:(l:List Nat)->(p:Plan)->(i:Nat)->Z11 b i p=some l->∀j∈l,∃m∈i::l,∃o,b[j]? = some o/\o.after.any (λe=>Region.binds .any e&&e.on==m)=true
 | [],p,i,_,j,f=>by cases f
 |x::l,p,i,u,j,f=>by
  obtain⟨q,o,rfl,v,n,g⟩:=Z4V u;rcases Qp.1 f with rfl | f
  ·exact⟨i,by simp,o,v,n⟩
  ·obtain⟨m,k,h⟩:=Z5x l q x g j f;exact⟨m,Qa _ k,h⟩
theorem Z8G {n:Nat}{b:Array Bool}{j:Nat}{q:Plan}{l:List Nat}(T:Z19 Γ ops (n+1) b=some (.go j q))(E:Z11 ops.toList j q=some l)(C:b.getD j true=false):∀p∈Region.ready .any ops b,p=j:=by
 intro p k;obtain⟨W,U⟩:=Z7a T;by_cases i:p=j
 ·exact i
 exfalso;obtain⟨H,I⟩:=Z6B l n _ q j U E;have L:=H p (ready_mono k i);obtain⟨u,f,o,F,J⟩:=Z5x l q j E p L;have m:b.getD u true=false:=by
  rcases Qp.1 f with rfl | f
  ·exact C
  ·have D:=I u f;by_cases i:j=u
   ·subst i;exact C
   ·rw[getD_set_ne true i]at D;exact D
 obtain⟨_,V,A,h⟩:=mem_ready.1 k;have B:V=o:=by
  rw[QK,A]at F;simpa using F
 subst B;obtain⟨e,z,y⟩:=Array.any_eq_true'.1 J;simp only[Q6,QG]at y;have g:=h e z y.1;rw[y.2]at g;rcases Yi u b.size with v | v
 ·simp[v]at m g;rw[m]at g;cases g
 ·simp[Array.getElem?_eq_none v]at g
theorem Z9k {n:Nat}{b:Array Bool}{S:Bool->World->Prop}(f:Region.ready .any ops b=[])(h:Q .normal a w):wpT P ops Q (Z1Y Γ ops) n b a S w:=by
 cases n with
 |zero=>exact⟨f,h⟩
 |succ n=>exact⟨λ_=>h,λi e=>by rw[f]at e;cases e⟩
theorem Z5w (X:Z0e P Γ.tys)(C:W0.np<=Γ.np){d:Nat}{p:Place}{w2:World}{b off:Nat}{v1:Value}{k:State->Option R} :
  (l:List Nat)->(I:List Oper)->(n:Nat)->(f:Array Bool)->(U:Plan)->(i:Nat)->(σ:State)->(a:Act)->(G:Ghost)->(S:Bool->World->Prop)->Z19 Γ ops n f=some U->Z11 ops.toList i U=some l->Z1l ops.toList l=some I->Z33 d p I=true ->
  HoleSt W0 M σ a w d p w2 G b off v1->Z4I Γ p I σ k=some r->(∀l,S l w) ->
  (∀σ' a' w' G',k σ'=some r->Inv W0 M σ' a' w' G' []->Q .normal a' w')->wpT P ops Q (Z1Y Γ ops) n f a S w
 | [],I,n,f,U,i,σ,a,G,S,T,hc,L,J,H,h,W,V=>by
  simp only[Z1l,Q9]at L;subst L;cases J
 |j::l,I,n,f,U,i,σ,a,G,S,T,hc,L,J,H,h,W,V=>by
  obtain⟨o,r',ho,E,rfl⟩:=Z2L L;have u:ops[j]? = some o:=by rw[<-QK];exact ho
  obtain⟨q,o2,rfl,ho2,_,m⟩:=Z4V hc;cases n with
  |zero=>have:=Z7G T;cases this
  |succ n=>
   obtain⟨hj,hq⟩:=Z7a T;have D:=Z8G T m (mem_ready.1 hj).1;refine⟨λh0=>(by rw[h0]at hj;cases hj),λj' hj'=> ?_⟩
   rw[D j' hj'];cases r' with
   |nil=>
    have hln:l=[]:=by
     cases l with
     |nil=>rfl
     |cons j l=>
      obtain⟨_,_,_,_,h⟩:=Z2L E;cases h
    subst hln;obtain⟨⟨t,y,z⟩,Z,B⟩:=Z6I J;obtain⟨e,qq,ht,hqq,hpb,hk⟩:=Z7u z h;refine Z2i u Z ?_;unfold Oper.wp;rw[Z5Y X H z ht hqq hpb,Oper.upon_skip,B];refine⟨λ_ _=>True,λ_=>trivial,λl ht=> ?_,?_⟩
    ·exfalso;cases l<;>simp[Z1Y,u,z,Z1z,Z1M]at ht
    ·have:=Z6C m;subst this;exact Z9k (Z77 hq) (V σ a w2 G hk H.inv)
   |cons o3 r2=>
    obtain⟨hm,Z,h1,h2,Y⟩:=Z60 J;obtain⟨hd,g,tv,hs,aa,A⟩:=Z6K h;obtain⟨v,G',F,H'⟩:=Z6H X C H hd hm h1 h2 hs aa;refine Z2i u Z ?_;unfold Oper.wp;rw[F,Oper.upon_value];exact⟨S,W,λ_ _ _ h=>h,Z5w X C l (o3::r2) n _ q j _ _ G' S hq m E Y H' A W V⟩
theorem Z4G [Subsingleton R](hT:Z0e P Γ.tys)(z:CallsOk P Γ)(L:W0.np<=Γ.np)(V:Region.noSelect ops=true)(hQ:∀c d v a w,Q (.panic c) (Act.put a d v) w->Q (.panic c) a w) :
  (n:Nat)->(f:Array Bool)->(l:Plan)->(σ:State)->(a:Act)->(w:World)->(G:Ghost)->(k:State->Option R)->Z19 Γ ops n f=some l->Inv W0 M σ a w G []->Z27 Γ ops.toList l σ k=some r ->
  (∀σ' a' w' G',k σ'=some r->Inv W0 M σ' a' w' G' []->Q .normal a' w')->wpT P ops Q (Z1Y Γ ops) n f a (λl=>Z0K l w G) w
 | 0,f,l,σ,a,w,G,k,J,I,h,hK=>by
  simp only[Z19]at J;split at J
  ·rename_i W;cases J;exact⟨by simpa using W,hK σ a w G h I⟩
  ·cases J
 |n+1,f,l,σ,a,w,G,k,J,I,h,hK=>by
  have first:∀ {lv:Bool} {i:Nat} {l':Plan} {o:Oper},ops[i]? = some o->Z1y Γ.tys o.op=true->Region.free .any ops f i=true ->
    (∀j oj,ops[j]? = some oj->j≠i->f.getD j true=false->oj.after.any (λe=>Region.binds .any e&&e.on==i)=true\/Z1Y Γ ops lv j=true)->(lv=true->Z2d σ o.op=true) ->
    i∈Region.ready .any ops f->Z19 Γ ops n (f.setIfInBounds i true)=some l'->Z1v Γ ops.toList o σ (λσ'=>Z27 Γ ops.toList l' σ' k)=some r ->
    wpT P ops Q (Z1Y Γ ops) (n+1) f a (λl=>Z0K l w G) w:=by
   intro lv i l' o p y C A hlv F U h;obtain⟨v,σ',G',hy,hk,I',hs⟩:=Z7V (l:=lv) hT L I p y hlv h;have ih:=Z4G hT z L V hQ n _ l' σ' _ w G' k U I' hk hK;have hS:∀ {m:Nat} {ls:Array Bool} {b:Act},wpT P ops Q (Z1Y Γ ops) m ls b (λl=>Z0K l w G') w->wpT P ops Q (Z1Y Γ ops) m ls b (λl=>Z0K l w G) w:=by
    intro m ls b hh;cases m with
    |zero=>exact hh
    |succ m=>exact⟨hh.1,λi hi=>wpOp_mono (λa' w' ⟨S',q1,q2,q3⟩=>⟨S',q1,λl ht u hu=>Z0K.of_sim hs (q2 l ht u hu),q3⟩) (hh.2 i hi)⟩
   refine Z92 (l:=lv) p (Region.noSelect_spec V) (λc a w=>hQ c _ _ a w) n f a (λl=>Z0K l w G) w (λj oj E D T hno=> ?_) F hy (λ_=>Z0K.refl _ _ _) (hS ih)
   refine⟨Region.free_spec p C j oj E D T hno,?_⟩;rcases A j oj E D T with X | X
   ·obtain⟨e,he,hb⟩:=Array.any_eq_true'.1 X;simp only[Q6,QG]at hb;exact absurd hb.2 (hno e he hb.1)
   ·exact X
  simp only[Z19]at J;split at J
  ·rename_i i B;obtain⟨l',U,rfl⟩:=Qm.1 J;have F:=List.mem_of_find?_eq_some B;have g:=List.find?_some B;simp only[Z27]at h;cases p:ops[i]? with
   |none=>rw[p]at g;cases g
   |some o=>
    rw[p]at g;simp only[Q6]at g;obtain⟨⟨y,C⟩,A⟩:=g;have Z:ops.toList[i]? = some o:=by rw[QK];exact p
    rw[Z]at h;simp only[Z7U y,Xj,XI]at h;refine first (lv:=false) p y C (λj oj E D T=> ?_) (λh=>by cases h) F U h
    rw[QD]at A;have:=A j (by simpa using(QV.1 E).1)
    simp only[E,Xq,QG,D,false_or,T,Xj]at this;exact this.imp id λX=>by simp only[Z1Y,E];exact X
  ·split at J
   ·rename_i i B;obtain⟨l',U,rfl⟩:=Qm.1 J;have F:=List.mem_of_find?_eq_some B;have g:=List.find?_some B;simp only[Z27]at h;cases p:ops[i]? with
    |none=>rw[p]at g;cases g
    |some o=>
     rw[p]at g;simp only[Q6]at g;obtain⟨⟨y,C⟩,A⟩:=g;have Z:ops.toList[i]? = some o:=by rw[QK];exact p
     rw[Z]at h;simp only[]at h;rw[cond_eq_ite,Z1P]at h;obtain⟨hbs,h⟩:=h;refine first (lv:=true) p y C (λj oj E D T=> ?_) (λ_=>hbs) F U h
     rw[QD]at A;have:=A j (by simpa using(QV.1 E).1)
     simp only[E,Xq,QG,D,false_or,T,Xj]at this;exact this.imp id λX=>by simp only[Z1Y,E];exact X
   ·by_cases D:Region.ready .any ops f=[]
    ·rw[D]at J;simp only[Z4Q,Q9]at J;subst J;refine⟨λ_=>hK σ a w G h I,λj hj=> ?_⟩
     rw[D]at hj;cases hj
    ·refine⟨λh0=>absurd h0 D,λj hj=> ?_⟩
     obtain⟨q,hq,W⟩:=Z6x _ _ J D h j hj;rcases Z9a W with⟨o,p,W⟩ | ⟨o,l',ls,d,pp,p,hch,hpk,hh,W⟩
     ·refine Z4Z hT z L I p W λσ' a' w' G' hk I' hc=> ?_
      refine⟨λl=>Z0K l w' G',λ_=>Z0K.refl _ _ _,λl ht u hu=> ?_,Z4G hT z L V hQ n _ q σ' a' w' G' k hq I' hk hK⟩
      cases l
      ·exact(hc.1 (by simpa only[Z1Y,p]using ht)).a u hu
      ·exact hc.2 (by simpa only[Z1Y,p]using ht) u hu
     ·obtain⟨c,s,as,hd,hg,hop,Y,hpe,hf,hnd,hdl,hdr,h1i,hfl⟩:=Z5X hh;simp only[Z4l]at W;refine Z2i p hg ?_;refine z.hole W0 M σ a w G o d pp c s as _ r _ Q I L hnd hdl hd hop Y hpe hdr h1i hfl W λσ' v w' w2 G' G1 b off v1 hk H hc=> ?_
      rw[hd];refine⟨λl=>Z0K l w' G1,λ_=>Z0K.refl _ _ _,λl ht u hu=> ?_,Z5w hT L l' ls n _ q j σ' _ G' _ hq hch hpk hf H hk (λ_=>Z0K.refl _ _ _) hK⟩
      cases l
      ·exact(hc.1 (by simpa only[Z1Y,p]using ht)).a u hu
      ·exact hc.2 (by simpa only[Z1Y,p]using ht) u hu
theorem Inv.drawn (I:Inv W0 M σ a w G xs)(n:Nat):Inv W0 M σ a { w with drawn:=n } G xs:=
 I.world (w':={ w with drawn:=n }) (G':=G) ⟨rfl,rfl,rfl,λ_ _ h _=>h,λ_ _ h=>h,λ_ h=>h,λb _=>Z07.of_block rfl (Qq _),λb _ _ _ _=>⟨Z07.of_block rfl (Qq _),rfl⟩,λ_ _ _=>rfl,.inr λb _ _=>Z07.of_block rfl (Qq _)⟩
  I.st I.lt ⟨I.ext.os,I.ext.tape,I.ext.output,I.ext.size,I.ext.block⟩ I.whoX I.nodX I.org
end
end Go.PI
namespace Go.PI
def Ex.out:Ex->Exit
 |.normal=> .normal
 |.exit b=> .exit b
 |.ret=> .ret
theorem Z2Q (ks:List Nat):(l:List TV)->(i j:Nat)->Z0u .dead (Z23 ks i l) j=Z0u .dead l j\/Z0u .dead (Z23 ks i l) j= .dead
 | [],_,_=> .inl rfl
 |tv::l,i,0=>by
  simp only[Z23,Z0x,Z0s,Z0p];split
  ·exact .inl rfl
  ·exact .inr rfl
 |tv::l,i,j+1=>Z2Q ks l (i+1) j
theorem Z3k (ks:List Nat):(l:List TV)->(i:Nat)->(Z23 ks i l).length=l.length
 | [],_=>rfl
 |tv::l,i=>by simp only[Z23,Q8,Z3k ks l (i+1)]
theorem Z2P (ks:List Nat):(l:List (Option TVal))->(i j:Nat)->Z0u none (Z3c ks i l) j=Z0u none l j\/Z0u none (Z3c ks i l) j=none
 | [],_,_=> .inl rfl
 |tv::l,i,0=>by
  simp only[Z3c,Z0x,Z0s,Z0p];split
  ·exact .inl rfl
  ·exact .inr rfl
 |tv::l,i,j+1=>Z2P ks l (i+1) j
section
variable {W0:Base}{M:Nat->Prop}{σ:State}{a:Act}{w w':World}{G:Ghost}{xs:List Nat}{P:Program}{tys:List (TypeId×Ty×List TypeId)}
variable {R:Type}{Γ:Env R}{r:R}
theorem Inv.forget (I:Inv W0 M σ a w G xs)(ks b:List Nat):∃G',Inv W0 M (σ.forget ks b) a w G' xs:=by
 obtain⟨e,d,_⟩:=I.drop (σ':=σ.forget ks b) (Z3k _ _ _) (λi=>Z2Q ks σ.slots 0 i) (λi=>Z2P b σ.boxes 0 i)
 exact⟨_,d⟩
def Z13 (P:Program)(W0:Base)(M:Nat->Prop)(c:Code)(run:State->(Ex->State->Option R)->Option R):Prop:=
 ∀(σ:State) (a:Act) (w:World) (G:Ghost) (k:Ex->State->Option R) (r:R) (Q:Exit->Act->World->Prop),(∀c a w,¬ Q (.panic c) a w)->Inv W0 M σ a w G []->run σ k=some r ->
  (∀e σ' b w' G',k e σ'=some r->Inv W0 M σ' b w' G' []->Q e.out b w')->c.wp P Q a w
theorem Z62 {c:Code}{b:Z1c R}(A:Z13 P W0 M c b){l:State->State}{m:Ex->State->State}
  (y:∀σ a w G,Inv W0 M σ a w G []->∃G',Inv W0 M (l σ) a w G' []) (q:∀e σ a w G,Inv W0 M σ a w G []->∃G',Inv W0 M (m e σ) a w G' []) (d:Nat):Z13 P W0 M (.loop c) (Z3v b l m d):=by
 intro σ a w G k r Q z I g u;refine wp_loop_ghost (λn a w=>∃σ G,Inv W0 M σ a w G []/\Z3v b l m n σ k=some r) d ⟨σ,G,I,g⟩ ?_
 rintro n a w ⟨σ,G,I,g⟩;cases n with
 |zero=>cases g
 |succ n=>
  refine A σ a w G _ r _ ?_ I g ?_
  ·intro v a w h;exact z v a w h
  ·intro e σ' C w' G' p j;cases e with
   |normal=>
    obtain⟨i,f⟩:=y _ _ _ _ j;exact⟨n,Nat.lt_succ_self n,_,i,f,p⟩
   |exit B=>
    obtain⟨i,f⟩:=q _ _ _ _ _ j;exact u (.exit B) _ _ _ _ p f
   |ret=>
    obtain⟨i,f⟩:=q _ _ _ _ _ j;exact u .ret _ _ _ _ p f
def _root_.Go.Code.pl:Code->Code
 |.seq a _=>a
 |.cond _ a _=>a
 |.block _ c=>c
 |.scope c=>c
 |.loop c=>c
 |c=>c
def _root_.Go.Code.pr:Code->Code
 |.seq _ b=>b
 |.cond _ _ b=>b
 |c=>c
def Z1Z (P:Program)(np:Nat)(X:List (Z1c R)):HT->Code->Prop
 |.o,_=>True
 |.x i,c=>∀(W0:Base) (M:Nat->Prop),W0.np<=np->Z13 P W0 M c (Z0u (λ_ _=>none) X i)
 |.t a b,c=>Z1Z P np X a c.pl/\Z1Z P np X b c.pr
theorem Z1Z.pl {np:Nat}{X:List (Z1c R)}{h:HT}{c:Code}(d:∀i,h≠ .x i)(H:Z1Z P np X h c):Z1Z P np X h.l c.pl:=by
 cases h with
 |o=>trivial
 |x i=>exact absurd rfl (d i)
 |t a b=>exact H.1
theorem Z1Z.pr {np:Nat}{X:List (Z1c R)}{h:HT}{c:Code}(d:∀i,h≠ .x i)(H:Z1Z P np X h c):Z1Z P np X h.r c.pr:=by
 cases h with
 |o=>trivial
 |x i=>exact absurd rfl (d i)
 |t a b=>exact H.2
theorem Z1j (X:List (Z1c R))(i:Nat)(c:Code):Z0R Γ X (.x i) c=λσ k=>Z0u (λ_ _=>none) X i σ k:=by
 cases c<;>rfl
theorem Z8c [Subsingleton R](hm:P.follows .mixedOrders=true)(hT:Z0e P Γ.tys)(B:CallsOk P Γ)(m:W0.np<=Γ.np)(X:List (Z1c R)):(c:Code)->(ht:HT)->Z1Z P Γ.np X ht c->Z13 P W0 M c (Z0R Γ X ht c):=by
 intro c;induction c with
 |skip=>
  intro ht H;by_cases g:∃i,ht= .x i
  ·obtain⟨i,rfl⟩:=g;rw[Z1j];exact H W0 M m
  ·intro σ a w G k r Q q I h n;replace h:k .normal σ=some r:=by cases ht<;>first | exact h | exact absurd ⟨_,rfl⟩ g
   exact wp_skip (n .normal σ a w G h I)
 |region J A F=>
  intro ht H;by_cases g:∃i,ht= .x i
  ·obtain⟨i,rfl⟩:=g;rw[Z1j];exact H W0 M m
  ·intro σ a w G k r Q q I h n;replace h:(if F then
     (match (if Region.noSelect A then Z19 Γ A A.size (Array.replicate A.size false) else none)with
      |some l=>Z27 Γ A.toList l σ λσ'=>k .normal σ'
      |none=>none)
    else Z5I Γ A.toList (List.range A.size) σ λσ'=>k .normal σ')=some r:=by cases ht<;>first | exact h | exact absurd ⟨_,rfl⟩ g
   cases F with
   |false=>
    simp only[Xj,XI]at h;exact wp_region (Z69 hT B m _ σ a w G _ I h λσ' z w' G' T u=>n .normal σ' z w' G' T u)
   |true=>
    simp only[XH]at h;split at h
    ·rename_i l hl;split at hl
     ·rename_i W;have I1:=I.drawn (w.drawn+1);refine wp_region_any hm (Z81 _ _ _ _ _ (Z4G hT B m W (λc d v a w h=>absurd h (q c _ w)) _ _ l σ a { w with drawn:=w.drawn+1 } G _ hl I1 h λσ' z w' G' T u=>n .normal σ' z w' G' T u))
     ·cases hl
    ·cases h
 |seq x y D E=>
  intro ht H;by_cases g:∃i,ht= .x i
  ·obtain⟨i,rfl⟩:=g;rw[Z1j];exact H W0 M m
  ·have p:∀i,ht≠ .x i:=λi L=>g ⟨i,L⟩
   intro σ a w G k r Q q I h n;replace h:(Z0R Γ X ht.l x σ λe σ'=>match e with
    |.normal=>Z0R Γ X ht.r y σ' k
    |e=>k e σ')=some r:=by cases ht<;>first | exact h | exact absurd ⟨_,rfl⟩ g
   refine wp_seq (D ht.l (H.pl p) σ a w G _ r _ (λc a w V=>q c a w V) I h λe σ' z w' G' C u=> ?_)
   cases e with
   |normal=>exact E ht.r (H.pr p) σ' z w' G' k r Q q u C n
   |exit J=>exact n (.exit J) σ' z w' G' C u
   |ret=>exact n .ret σ' z w' G' C u
 |cond o x y D E=>
  intro ht H;by_cases g:∃i,ht= .x i
  ·obtain⟨i,rfl⟩:=g;rw[Z1j];exact H W0 M m
  ·have p:∀i,ht≠ .x i:=λi L=>g ⟨i,L⟩
   intro σ a w G k r Q q I h n;cases o with
   |tmp t=>
    replace h:(match σ.slot t with
     |.val ⟨.bool,false,x0,_⟩=>bif x0 then Z0R Γ X ht.l x (σ.know t true) k else Z0R Γ X ht.r y (σ.know t false) k
     |_=>none)=some r:=by cases ht<;>first | exact h | exact absurd ⟨_,rfl⟩ g
    split at h
    ·rename_i b tg hsl;obtain⟨G',u,_,hv⟩:=Z5F I hsl;have U:a.eval (.tmp t)= .bool b:=hv;rw[cond_eq_ite]at h;split at h
     ·rename_i K;have K:b=true:=K;subst K;exact wp_cond_true U (D ht.l (H.pl p) _ a w G' k r Q q u h n)
     ·rename_i K;have K:b=false:=by simpa using K
      subst K;exact wp_cond_false U (E ht.r (H.pr p) _ a w G' k r Q q u h n)
    ·cases h
   |const v=>
    cases v with
    |bool b=>
     replace h:(bif b then Z0R Γ X ht.l x σ k else Z0R Γ X ht.r y σ k)=some r:=by cases ht<;>first | exact h | exact absurd ⟨_,rfl⟩ g
     cases b with
     |true=>exact wp_cond_true rfl (D ht.l (H.pl p) σ a w G k r Q q I h n)
     |false=>exact wp_cond_false rfl (E ht.r (H.pr p) σ a w G k r Q q I h n)
    |_=>cases ht<;>first | exact absurd ⟨_,rfl⟩ g | simp[Z0R]at h
   |_=>cases ht<;>first | exact absurd ⟨_,rfl⟩ g | simp[Z0R]at h
 |block J c Y=>
  intro ht H;by_cases g:∃i,ht= .x i
  ·obtain⟨i,rfl⟩:=g;rw[Z1j];exact H W0 M m
  ·have p:∀i,ht≠ .x i:=λi L=>g ⟨i,L⟩
   intro σ a w G k r Q q I h n;replace h:(Z0R Γ X ht.l c σ λe σ'=>match e with
    |.exit j=>if j==J then k .normal σ' else k (.exit j) σ'
    |e=>k e σ')=some r:=by cases ht<;>first | exact h | exact absurd ⟨_,rfl⟩ g
   refine wp_block (Y ht.l (H.pl p) σ a w G _ r _ (λc a w V=>q c a w V) I h λe σ' z w' G' C u=> ?_)
   cases e with
   |normal=>exact n .normal σ' z w' G' C u
   |exit j=>
    show if j=J then Q .normal z w' else Q (.exit j) z w'
    simp only[]at C;split at C
    ·rename_i Z;rw[QM (by simpa using Z)]
     exact n .normal σ' z w' G' C u
    ·rename_i Z;rw[QN (by simpa using Z)]
     exact n (.exit j) σ' z w' G' C u
   |ret=>exact n .ret σ' z w' G' C u
 |loop c Y=>
  intro ht H;by_cases g:∃i,ht= .x i
  ·obtain⟨i,rfl⟩:=g;rw[Z1j];exact H W0 M m
  ·intro σ a w G k r Q q I h n;cases ht<;>first | exact absurd ⟨_,rfl⟩ g | simp[Z0R]at h
 |exit J=>
  intro ht H;by_cases g:∃i,ht= .x i
  ·obtain⟨i,rfl⟩:=g;rw[Z1j];exact H W0 M m
  ·intro σ a w G k r Q q I h n;replace h:k (.exit J) σ=some r:=by cases ht<;>first | exact h | exact absurd ⟨_,rfl⟩ g
   exact wp_exit (n (.exit J) σ a w G h I)
 |scope c Y=>
  intro ht H;by_cases g:∃i,ht= .x i
  ·obtain⟨i,rfl⟩:=g;rw[Z1j];exact H W0 M m
  ·have p:∀i,ht≠ .x i:=λi L=>g ⟨i,L⟩
   intro σ a w G k r Q q I h n;replace h:Z0R Γ X ht.l c σ k=some r:=by cases ht<;>first | exact h | exact absurd ⟨_,rfl⟩ g
   refine wp_scope_straight (Y ht.l (H.pl p) σ a w G k r _ (λc a w V=>q c a w V) I h λe σ' z w' G' C u=> ?_)
   have:=n e σ' z w' G' C u;cases e<;>exact this
 |ret=>
  intro ht H;by_cases g:∃i,ht= .x i
  ·obtain⟨i,rfl⟩:=g;rw[Z1j];exact H W0 M m
  ·intro σ a w G k r Q q I h n;replace h:k .ret σ=some r:=by cases ht<;>first | exact h | exact absurd ⟨_,rfl⟩ g
   exact wp_ret (n .ret σ a w G h I)
 |rangeFunc f ps x y _ _=>
  intro ht H;by_cases g:∃i,ht= .x i
  ·obtain⟨i,rfl⟩:=g;rw[Z1j];exact H W0 M m
  ·intro σ a w G k r Q q I h n;cases ht<;>first | exact absurd ⟨_,rfl⟩ g | simp[Z0R]at h
 |label l=>
  intro ht H;by_cases g:∃i,ht= .x i
  ·obtain⟨i,rfl⟩:=g;rw[Z1j];exact H W0 M m
  ·intro σ a w G k r Q q I h n;cases ht<;>first | exact absurd ⟨_,rfl⟩ g | simp[Z0R]at h
 |goto l=>
  intro ht H;by_cases g:∃i,ht= .x i
  ·obtain⟨i,rfl⟩:=g;rw[Z1j];exact H W0 M m
  ·intro σ a w G k r Q q I h n;cases ht<;>first | exact absurd ⟨_,rfl⟩ g | simp[Z0R]at h
 |refuse s=>
  intro ht H;by_cases g:∃i,ht= .x i
  ·obtain⟨i,rfl⟩:=g;rw[Z1j];exact H W0 M m
  ·intro σ a w G k r Q q I h n;cases ht<;>first | exact absurd ⟨_,rfl⟩ g | simp[Z0R]at h
end
end Go.PI
namespace Go.PI
def Z0t (w:World)(F:Nat->Nat)(St:Nat->Prop):List Mode->List TVal->List Value->List (List Nat)->List Nat->Prop
 | [],[],[],[],[]=>True
 |.borrow τ ag::ms,v::vs,x::xs,f::d,b=>f=[]/\Z0f ag x/\Rp w F St St v.τ (List.replicate (Z06 v.τ) .S) (Z02 x) v.x []/\Z0t w F St ms vs xs d b
 |.consume τ ag::ms,v::vs,x::xs,f::d,b=>Z0f ag x/\Rp w F St (·∈ f) v.τ v.tg (Z02 x) v.x f/\Z0t w F St ms vs xs d b
 |.eat τ ag::ms,v::vs,x::xs,f::d,b=>Z0f ag x/\Rp w F St (·∈ f) v.τ v.tg (Z02 x) v.x f/\Z0t w F St ms vs xs d b
 |.inout τ ag::ms,v::vs,x::xs,f::d,b=>(Z0f ag x/\v.τ=τ)/\Rp w F St (·∈ f) v.τ v.tg (Z02 x) v.x f/\Z0t w F St ms vs xs d b
 |.look τ ag::ms,v::vs,x::xs,f::d,b=>f=[]/\Z0f ag x/\Rp w F St St v.τ (List.replicate (Z06 v.τ) .S) (Z02 x) v.x []/\Z0t w F St ms vs xs d b
 |.rptr τ::ms,v::vs,x::xs,f::d,b=>f=[]/\Z2D w F St St v.τ v.x x/\Z0t w F St ms vs xs d b
 |.rclos g e::ms,v::vs,x::xs,f::d,b=>f=[]/\(∃us:Array Value,x= .func (.func g) #[] us/\SPs w F St St e v.τ v.x us.toList)/\Z0t w F St ms vs xs d b
 |.ptr τ::ms,vs,x::xs,d,l::b=>x= .pointer (some ⟨l,0,none⟩)/\Z0t w F St ms vs xs d b
 |.clos g e::ms,vs,x::xs,d,b=>(e.length<=b.length/\x= .func (.func g) #[] ((b.take e.length).map λl=>Value.pointer (some ⟨l,0,none⟩)).toArray)/\Z0t w F St ms vs xs d (b.drop e.length)
 |_,_,_,_,_=>False
def Z1a (w:World)(F:Nat->Nat)(St:Nat->Prop):List TVal->List Nat->List (List Nat)->Prop
 | [],[],[]=>True
 |v::vs,l::d,f::b=>(∃c T,w.heap[l]? = some (.cells c T (0,0))/\Rp w F St (·∈ f) v.τ v.tg c.toList v.x f)/\Z1a w F St vs d b
 |_,_,_=>False
def Z39 (w:World)(F:Nat->Nat)(St:Nat->Prop):List TVal->List Value->List (List Nat)->Prop
 | [],[],[]=>True
 |v::vs,x::xs,f::b=>(Z0f v.ag x/\v.noN=true/\Rp w F St (·∈ f) v.τ v.tg (Z02 x) v.x f)/\Z39 w F St vs xs b
 |_,_,_=>False
def Z0X:List Mode->List Value->List Value
 |.inout .. :: ms,x::xs=>x::Z0X ms xs
 |_::ms,_::xs=>Z0X ms xs
 |_,_=>[]
def Z1G (vs:List Value):Value:=match vs with | [v]=>v | vs=> .tuple vs.toArray
structure RetOk (w:World)(F:Nat->Nat)(St:Nat->Prop)(ms ads:List Nat)(res ios:List TVal)(xs:List Value)(ext':List TVal)(v:Value)(w':World):Prop where
 out:∃F' St' vs fps efps,(v=Z1G vs/\ios.length=xs.length/\vs.length=res.length)/\Z39 w' F' St' (res++ios) (vs++xs) fps/\Z1a w' F' St' ext' ads efps/\Ext (·∈ ms) w w' /\
  (∀b,b<w.heap.size->b ∉ ms->F' b=F b)/\(∀b,St b->St' b)/\(∀b,St' b->(St b\/w.heap.size<=b\/b∈ms)/\b<w'.heap.size) /\
  (fps.flatten++(efps.flatten++ads)).Nodup/\∀b∈fps.flatten++(efps.flatten++ads),(w.heap.size<=b\/b∈ms)/\b<w'.heap.size/\¬ St' b
def Z16 {R:Type}(P:Program)(f:FuncId)(i:Sig R):Prop:=
 (∃fn c, P.funcs[f]? = some fn ∧ (fn.name == "runtime.NumGoroutine") = false ∧ fn.body = some c) ∧
 ∀(vals ext:List TVal) (k:List TVal->List TVal->List TVal->Option R) (r:R),i.run vals ext k=some r ->
  ∀(w:World) (F:Nat->Nat) (St:Nat->Prop) (args:List Value) (ads:List Nat) (fps d:List (List Nat)),
   Z0t w F St i.modes vals args fps ads->Z1a w F St ext ads d->(fps.flatten++(d.flatten++ads)).Nodup->(∀b,St b->b<w.heap.size/\b ∉ fps.flatten++(d.flatten++ads))->(∀b∈fps.flatten++(d.flatten++ads),b<w.heap.size) ->
   Calls P f args.toArray w λe w'=>∃v j h g,e= .returned v/\k j h g=some r/\(Z2U ext g=true/\(h.map (·.τ))=Z2J i.modes/\h.all TVal.allO=true)/\g.all TVal.noN=true/\RetOk w F St (fps.flatten++(d.flatten++ads)) ads j h (Z0X i.modes args) g v w'
def Z1N:List (List Nat)->Nat->Option Nat
 | [],_=>none
 |f::l,b=>if b∈f then some 0 else (Z1N l b).map (·+ 1)
theorem Z8p:(l:List (List Nat))->(b i:Nat)->Z1N l b=some i->b∈l.getD i []
 | [],b,i,h=>by cases h
 |f::l,b,i,h=>by
  simp only[Z1N]at h;split at h
  ·cases h;simpa
  ·obtain⟨j,d,rfl⟩:=Qm.1 h;simpa using Z8p l b j d
theorem Z2I {l:List (List Nat)}{i b:Nat}(h:b∈l.getD i []):b∈l.flatten:=by
 rw[Qc]at h;cases d:l[i]? with
 |none=>rw[d]at h;simp at h
 |some f=>
  rw[d]at h;exact X3.2 ⟨f,Yl d,h⟩
theorem Z4x:(l:List (List Nat))->(b i:Nat)->l.flatten.Nodup->b∈l.getD i []->Z1N l b=some i
 | [],b,i,_,h=>by simp at h
 |f::l,b,0,d,h=>by
  have:b∈f:=by simpa using h
  simp[Z1N,this]
 |f::l,b,i+1,d,h=>by
  have h:b∈l.getD i []:=by simpa using h
  simp only[QO]at d;have:b ∉ f:=λe=>(Qj.1 d).2.2 b e b (Z2I h) rfl
  simp only[Z1N,this,XI];rw[Z4x l b i (Qj.1 d).2.1 h];rfl
theorem Z1O:(l:List (List Nat))->(b:Nat)->b ∉ l.flatten->Z1N l b=none
 | [],b,h=>rfl
 |f::l,b,h=>by
  simp only[QO,Qr,not_or]at h;simp only[Z1N,h.1,XI];rw[Z1O l b h.2];rfl
theorem Z9W {l:List (List Nat)}{b:Nat}(h:Z1N l b=none):b ∉ l.flatten:=by
 intro k;obtain⟨f,d,i⟩:=X3.1 k
 revert h
 induction l with
 |nil=>simp at d
 |cons g l p=>
  intro h;simp only[Z1N]at h;split at h
  ·cases h
  ·rename_i e;rcases Qp.1 d with rfl | d
   ·exact e i
   ·have m:Z1N l b=none:=by cases n:Z1N l b with
     |none=>rfl
     |some j=>rw[n]at h;cases h
    exact p (X3.2 ⟨f,d,i⟩) d m
def Z0k:List Mode->List (List Nat)->List (List Nat)
 |.borrow .. :: ms,f::b=>f::Z0k ms b
 |.consume .. :: ms,f::b=>f::Z0k ms b
 |.eat .. :: ms,f::b=>f::Z0k ms b
 |.inout .. :: ms,f::b=>f::Z0k ms b
 |.look .. :: ms,f::b=>f::Z0k ms b
 |.rptr _::ms,f::b=>f::Z0k ms b
 |.rclos .. :: ms,f::b=>f::Z0k ms b
 |.ptr _::ms,b=>[]::Z0k ms b
 |.clos .. :: ms,b=>[]::Z0k ms b
 |_,_=>[]
theorem Z0H {w:World}{F:Nat->Nat}{St:Nat->Prop}:(ms:List Mode)->(vs:List TVal)->(xs:List Value)->(b:List (List Nat))->(d:List Nat)->Z0t w F St ms vs xs b d->(Z0k ms b).flatten=b.flatten
 | [],vs,xs,b,d,h=>by
  cases vs<;>cases xs<;>cases b<;>cases d<;>first | rfl | exact h.elim
 |.borrow τ ag::ms,vs,xs,b,d,h=>by
  cases vs<;>cases xs<;>cases b<;>first | exact h.elim | skip
  obtain⟨_,_,_,h⟩:=h;simp[Z0k,Z0H ms _ _ _ _ h]
 |.look τ ag::ms,vs,xs,b,d,h=>by
  cases vs<;>cases xs<;>cases b<;>first | exact h.elim | skip
  obtain⟨_,_,_,h⟩:=h;simp[Z0k,Z0H ms _ _ _ _ h]
 |.rptr τ::ms,vs,xs,b,d,h=>by
  cases vs<;>cases xs<;>cases b<;>first | exact h.elim | skip
  obtain⟨_,_,h⟩:=h;simp[Z0k,Z0H ms _ _ _ _ h]
 |.rclos g e::ms,vs,xs,b,d,h=>by
  cases vs<;>cases xs<;>cases b<;>first | exact h.elim | skip
  obtain⟨_,_,h⟩:=h;simp[Z0k,Z0H ms _ _ _ _ h]
 |.consume τ ag::ms,vs,xs,b,d,h=>by
  cases vs<;>cases xs<;>cases b<;>first | exact h.elim | skip
  obtain⟨_,_,h⟩:=h;simp[Z0k,Z0H ms _ _ _ _ h]
 |.eat τ ag::ms,vs,xs,b,d,h=>by
  cases vs<;>cases xs<;>cases b<;>first | exact h.elim | skip
  obtain⟨_,_,h⟩:=h;simp[Z0k,Z0H ms _ _ _ _ h]
 |.inout τ ag::ms,vs,xs,b,d,h=>by
  cases vs<;>cases xs<;>cases b<;>first | exact h.elim | skip
  obtain⟨_,_,h⟩:=h;simp[Z0k,Z0H ms _ _ _ _ h]
 |.ptr τ::ms,vs,xs,b,d,h=>by
  cases xs<;>cases d<;>first | (cases vs<;>cases b<;>exact h.elim) | skip
  rename_i x xs l d;have f:x= .pointer (some ⟨l,0,none⟩)/\Z0t w F St ms vs xs b d:=by cases vs<;>cases b<;>exact h
  simp[Z0k,Z0H ms _ _ _ _ f.2]
 |.clos g e::ms,vs,xs,b,d,h=>by
  cases xs<;>first | (cases vs<;>cases b<;>cases d<;>exact h.elim) | skip
  rename_i x xs;have f:(e.length<=d.length/\x= .func (.func g) #[] ((d.take e.length).map λl=>Value.pointer (some ⟨l,0,none⟩)).toArray)/\Z0t w F St ms vs xs b (d.drop e.length):=by
   cases vs<;>cases b<;>cases d<;>exact h
  simp[Z0k,Z0H ms _ _ _ _ f.2]
end Go.PI
namespace Go.PI
section
variable {σ0:State}{a0:Act}{w:World}{G0:Ghost}{F:Nat->Nat}{St:Nat->Prop}{n:Nat}
theorem Z1i (A:G0.F=F)(B:G0.St=St)(k:∀b,St b->G0.Al b):(ms:List Mode)->(vs:List TVal)->(xs:List Value)->(e:List (List Nat))->(d:List Nat)->(j:Nat)->Z0t w F St ms vs xs e d ->
  (∀b∈e.flatten,G0.Al b)->(∀m (h:m<d.length),Z0w σ0 G0 a0 w ⟨true,n+(j+m),[]⟩ (.pointer (some ⟨d[m],0,none⟩))) ->
  (Z0h n ms vs j).length=ms.length/\xs.length=ms.length/\∀i,i<ms.length->Z01 σ0 G0 a0 w (Z0u .dead (Z0h n ms vs j) i) (xs.getD i undef) ((Z0k ms e).getD i [])
 | [],vs,xs,e,d,j,h,p,q=>by
  cases vs<;>cases xs<;>cases e<;>cases d<;>first | exact⟨rfl,rfl,λi r=>absurd r (by simp)⟩ | exact h.elim
 |.borrow τ ag::ms,vs,xs,e,d,j,h,p,q=>by
  cases vs<;>cases xs<;>cases e<;>first | exact h.elim | skip
  obtain⟨I,D,E,G⟩:=h;obtain⟨u,y,z⟩:=Z1i A B k ms _ _ _ d j G (λb H=>p b (by simp[H])) q
  refine⟨by simp[Z0h,u],by simp[y],λi r=> ?_⟩
  cases i with
  |zero=>
   simp only[Z0h,Z0x,Z0s,Z0p,Z0k,Yu];rw[I];refine⟨D,?_⟩;rw[A,B];exact E.pres (λ_ h=>h) (λb _ h=>k b h) (λb _=>Z07.refl _ _ _) (by simp) (.inr λb _ _=>Z07.refl _ _ _)
  |succ i=>exact z i (by simpa using r)
 |.look τ ag::ms,vs,xs,e,d,j,h,p,q=>by
  cases vs<;>cases xs<;>cases e<;>first | exact h.elim | skip
  obtain⟨I,D,E,G⟩:=h;obtain⟨u,y,z⟩:=Z1i A B k ms _ _ _ d j G (λb H=>p b (by simp[H])) q
  refine⟨by simp[Z0h,u],by simp[y],λi r=> ?_⟩
  cases i with
  |zero=>
   simp only[Z0h,Z0x,Z0s,Z0p,Z0k,Yu];rw[I];refine⟨D,?_⟩;rw[A,B];exact E.pres (λ_ h=>h) (λb _ h=>k b h) (λb _=>Z07.refl _ _ _) (by simp) (.inr λb _ _=>Z07.refl _ _ _)
  |succ i=>exact z i (by simpa using r)
 |.rptr τ::ms,vs,xs,e,d,j,h,p,q=>by
  cases vs<;>cases xs<;>cases e<;>first | exact h.elim | skip
  rename_i v vs x xs f e;obtain⟨I,D,G⟩:=h;obtain⟨u,y,z⟩:=Z1i A B k ms _ _ _ d j G (λb H=>p b (by simp[H])) q
  refine⟨by simp[Z0h,u],by simp[y],λi r=> ?_⟩
  cases i with
  |zero=>
   simp only[Z0h,Z0x,Z0s,Z0p,Z0k,Yu];have E:Z2D w G0.F G0.St G0.Al v.τ v.x x:=by
    rw[A,B];exact D.pres (λ_ h=>h) (λb _ h=>k b h) λb _=>Z07.refl _ _ _
   obtain⟨b,o,cs,W,X,Y,Z,q5⟩:=E;exact⟨I,rfl,b,o,cs,W,X,Y,Z,λ_ t' ht=>by rw[(XC.1 ht).2];rfl,q5⟩
  |succ i=>exact z i (by simpa using r)
 |.rclos g C::ms,vs,xs,e,d,j,h,p,q=>by
  cases vs<;>cases xs<;>cases e<;>first | exact h.elim | skip
  obtain⟨I,⟨us,D,E⟩,G⟩:=h;obtain⟨u,y,z⟩:=Z1i A B k ms _ _ _ d j G (λb H=>p b (by simp[H])) q
  refine⟨by simp[Z0h,u],by simp[y],λi r=> ?_⟩
  cases i with
  |zero=>
   simp only[Z0h,Z0x,Z0s,Z0p,Z0k,Yu];refine⟨I,us,D,?_⟩;rw[A,B];exact SPs.pres (λ_ h=>h) (λb _ h=>k b h) (λb _=>Z07.refl _ _ _) _ _ _ _ E
  |succ i=>exact z i (by simpa using r)
 |.consume τ ag::ms,vs,xs,e,d,j,h,p,q=>by
  cases vs<;>cases xs<;>cases e<;>first | exact h.elim | skip
  rename_i v vs x xs f e;obtain⟨D,E,G⟩:=h;obtain⟨u,y,z⟩:=Z1i A B k ms _ _ _ d j G (λb H=>p b (by simp[H])) q
  refine⟨by simp[Z0h,u],by simp[y],λi r=> ?_⟩
  cases i with
  |zero=>
   refine⟨D,?_⟩;rw[A,B];exact E.pres (λ_ h=>h) (λb _ h=>p b (by simp[show b∈f from h])) (λb _=>Z07.refl _ _ _) (λb _=>⟨Z07.refl _ _ _,rfl⟩) (.inr λb _ _=>Z07.refl _ _ _)
  |succ i=>exact z i (by simpa using r)
 |.eat τ ag::ms,vs,xs,e,d,j,h,p,q=>by
  cases vs<;>cases xs<;>cases e<;>first | exact h.elim | skip
  rename_i v vs x xs f e;obtain⟨D,E,G⟩:=h;obtain⟨u,y,z⟩:=Z1i A B k ms _ _ _ d j G (λb H=>p b (by simp[H])) q
  refine⟨by simp[Z0h,u],by simp[y],λi r=> ?_⟩
  cases i with
  |zero=>
   refine⟨D,?_⟩;rw[A,B];exact E.pres (λ_ h=>h) (λb _ h=>p b (by simp[show b∈f from h])) (λb _=>Z07.refl _ _ _) (λb _=>⟨Z07.refl _ _ _,rfl⟩) (.inr λb _ _=>Z07.refl _ _ _)
  |succ i=>exact z i (by simpa using r)
 |.inout τ ag::ms,vs,xs,e,d,j,h,p,q=>by
  cases vs<;>cases xs<;>cases e<;>first | exact h.elim | skip
  rename_i v vs x xs f e;obtain⟨D,E,G⟩:=h;obtain⟨u,y,z⟩:=Z1i A B k ms _ _ _ d j G (λb H=>p b (by simp[H])) q
  refine⟨by simp[Z0h,u],by simp[y],λi r=> ?_⟩
  cases i with
  |zero=>
   refine⟨D.1,?_⟩;rw[A,B];exact E.pres (λ_ h=>h) (λb _ h=>p b (by simp[show b∈f from h])) (λb _=>Z07.refl _ _ _) (λb _=>⟨Z07.refl _ _ _,rfl⟩) (.inr λb _ _=>Z07.refl _ _ _)
  |succ i=>exact z i (by simpa using r)
 |.ptr τ::ms,vs,xs,e,d,j,h,p,q=>by
  cases xs<;>cases d<;>first | (cases vs<;>cases e<;>exact h.elim) | skip
  rename_i x xs l d;have P:x= .pointer (some ⟨l,0,none⟩)/\Z0t w F St ms vs xs e d:=by cases vs<;>cases e<;>exact h
  obtain⟨u,y,z⟩:=Z1i A B k ms vs xs e d (j+1) P.2 p (λm R=>by
   have:=q (m+1) (by simpa using R)
   rw[show n+(j+1+m)=n+(j+(m+1)) by omega]
   simpa using this)
  have K:Z0h n (.ptr τ::ms) vs j= .ptr ⟨true,n+j,[]⟩::Z0h n ms vs (j+1):=by cases vs<;>rfl
  rw[K];refine⟨by simp[u],by simp[y],λi r=> ?_⟩
  cases i with
  |zero=>
   have:=q 0 (by simp)
   simp only[XK,Yp]at this;refine⟨by simp[Z0k],rfl,rfl,?_⟩
   rw[Yu,P.1];exact this
  |succ i=>simpa[Z0k,Z0x,Z0s,Z0p]using z i (by simpa using r)
 |.clos g C::ms,vs,xs,e,d,j,h,p,q=>by
  cases xs<;>first | (cases vs<;>cases e<;>cases d<;>exact h.elim) | skip
  rename_i x xs;have P:(C.length<=d.length/\x= .func (.func g) #[] ((d.take C.length).map λl=>Value.pointer (some ⟨l,0,none⟩)).toArray)/\Z0t w F St ms vs xs e (d.drop C.length):=by
   cases vs<;>cases e<;>cases d<;>exact h
  obtain⟨⟨U,V⟩,J⟩:=P;obtain⟨u,y,z⟩:=Z1i A B k ms vs xs e (d.drop C.length) (j+C.length) J p (λm R=>by
   have T:C.length+m<d.length:=by simp at R;omega
   have:=q (C.length+m) T;rw[show n+(j+C.length+m)=n+(j+(C.length+m)) by omega]
   simpa using this)
  have K:Z0h n (.clos g C::ms) vs j= .clos g ((List.range C.length).map λi=>⟨true,n+j+i,[]⟩)::Z0h n ms vs (j+C.length):=by cases vs<;>rfl
  rw[K];refine⟨by simp[u],by simp[y],λi r=> ?_⟩
  cases i with
  |zero=>
   refine⟨by simp[Z0k],((d.take C.length).map λl=>Value.pointer (some ⟨l,0,none⟩)).toArray,by rw[Yu,V],by simp;omega,λi Q=> ?_⟩
   have M:i<C.length:=by simpa using Q
   refine⟨by simp,by simp[Z08],?_⟩
   have:=q i (by omega)
   have L:(((d.take C.length).map λl=>Value.pointer (some ⟨l,0,none⟩)).toArray).getD i undef= .pointer (some ⟨d[i]'(by omega),0,none⟩):=by
    rw[X5,List.getElem?_toArray,XO,YA M,Qn (show i<d.length by omega)]
    rfl
   rw[L];simpa[Nat.add_assoc]using this
  |succ i=>simpa[Z0k,Z0x,Z0s,Z0p]using z i (by simpa using r)
theorem Z3P:(ext:List TVal)->(ads:List Nat)->(b:List (List Nat))->Z1a w F St ext ads b ->
  ads.length=ext.length/\b.length=ext.length/\∀j v,ext[j]? = some v->∃c T,w.heap[ads.getD j 0]? = some (.cells c T (0,0))/\Rp w F St (·∈ b.getD j []) v.τ v.tg c.toList v.x (b.getD j [])
 | [],ads,b,h=>by
  cases ads<;>cases b<;>first | exact⟨rfl,rfl,λj v d=>by simp at d⟩ | exact h.elim
 |v::ext,ads,b,h=>by
  cases ads<;>cases b<;>first | exact h.elim | skip
  obtain⟨e,f⟩:=h;obtain⟨g,i,k⟩:=Z3P ext _ _ f;refine⟨by simp[g],by simp[i],λj u d=> ?_⟩
  cases j with
  |zero=>simp only[YF,Q9]at d;subst d;exact e
  |succ j=>exact k j u (by simpa using d)
theorem Z3s {α:Type}(d:α):(n:Nat)->(l:List α)->(i:Nat)->Z0u d (Z1Q d n l) i=if i<n then Z0u d l i else d
 | 0,l,i=>by simp[Z1Q,Z0x,Z0s,Z0p]
 |n+1,[],0=>rfl
 |n+1,[],i+1=>by
  have:=Z3s d n [] i;simp only[Z1Q,Z0x,Z0s,Z0p]at this ⊢;rw[this];split<;>simp
 |n+1,a::l,0=>by simp[Z1Q,Z0x,Z0s,Z0p]
 |n+1,a::l,i+1=>by
  have:=Z3s d n l i;simp only[Z1Q,Z0x,Z0s,Z0p];rw[this];simp only[Nat.add_lt_add_iff_right]
theorem Z2x {α:Type}(d:α):(n:Nat)->(l:List α)->(Z1Q d n l).length=n
 | 0,_=>rfl
 |n+1,[]=>by simp[Z1Q,Z2x d n []]
 |n+1,a::l=>by simp[Z1Q,Z2x d n l]
theorem Z44 {α:Type}(d:α):(l m:List α)->(i:Nat)->Z0u d (l++m) i=if i<l.length then Z0u d l i else Z0u d m (i-l.length)
 | [],m,i=>by simp
 |a::l,m,0=>rfl
 |a::l,m,i+1=>by
  simp only[QL,Z0x,Z0s,Z0p,Q8,Nat.add_lt_add_iff_right,Nat.add_sub_add_right];exact Z44 d l m i
theorem Z6k {α:Type}(d:α):(l:List α)->(i:Nat)->Z0u d l i=(l[i]?).getD d
 | [],i=>by simp[Z0x,Z0s,Z0p]
 |a::l,0=>rfl
 |a::l,i+1=>by simp only[Z0x,Z0s,Z0p,List.getElem?_cons_succ];exact Z6k d l i
end
end Go.PI
namespace Go.PI
def Z1f (n:Nat)(modes:List Mode)(F:Nat->Nat)(St:Nat->Prop)(fps efps:List (List Nat))(ads:List Nat):Ghost where
 F:=F
 St:=St
 who b:=match Z1N (Z0k modes fps) b with
  |some i=>some (.s i)
  |none=>match Z1N efps b with
   |some j=>some (.c (n+j))
   |none=>match Z1N (ads.map λl=>[l]) b with
    |some j=>some (.a (n+j))
    |none=>none
 fs i:=if i<modes.length then (Z0k modes fps).getD i [] else []
 fb i:=if n<=i then efps.getD (i-n) [] else []
 ad i:=if n<=i then ads.getD (i-n) 0 else 0
def Z9l (w:World)(F:Nat->Nat)(St:Nat->Prop)(n:Nat)(ads:List Nat)(np:Nat)(args:List Value):Base:={ w with ad0:=λi=>if n<=i then ads.getD (i-n) 0 else 0,F0:=F,St0:=St,np:=np,arg:=λi=>args.getD i undef }
theorem Z3W (l:List Nat):(l.map λx=>[x]).flatten=l:=by induction l with
 |nil=>rfl
 |cons a l b=>simp[b]
theorem Z7v (l:List Nat)(j:Nat)(h:j<l.length):(l.map λx=>[x]).getD j []=[l.getD j 0]:=by
 rw[Qc,XO,Qc,Qn h];rfl
theorem Z4B:{l:List (List Nat)}->{f:List Nat}->l.flatten.Nodup->f∈l->f.Nodup
 | [],f,_,h=>by cases h
 |g::l,f,b,h=>by
  simp only[QO]at b;rcases Qp.1 h with rfl | h
  ·exact(Qj.1 b).1
  ·exact Z4B (Qj.1 b).2.1 h
section
variable {w:World}{F:Nat->Nat}{St:Nat->Prop}{n:Nat}{modes:List Mode}{vals ext:List TVal}{args:List Value}{ads:List Nat}{fps efps:List (List Nat)}
theorem Z8W (args:List Value)(m i:Nat):(args.toArray++Array.replicate m undef).getD i undef=args.getD i undef:=by
 rw[X5,Qc];by_cases h:i<args.length
 ·rw[Array.getElem?_append_left (by simpa using h),List.getElem?_toArray]
 ·rw[Array.getElem?_append_right (by simp;omega),Yf (by omega)]
  simp only[Array.getElem?_replicate];split<;>rfl
theorem Z8X {np:Nat}(hn:modes.length<=n)(hA:Z0t w F St modes vals args fps ads)(hB:Z1a w F St ext ads efps)(E:(fps.flatten++(efps.flatten++ads)).Nodup)
  (y:∀b,St b->b<w.heap.size/\b ∉ fps.flatten++(efps.flatten++ads)) (hlt:∀b∈fps.flatten++(efps.flatten++ads),b<w.heap.size) :
  args.length=modes.length/\Inv (Z9l w F St n ads np args) (·∈ fps.flatten++(efps.flatten++ads)) (Z3X n modes vals ext) { tmps:=args.toArray++Array.replicate (n-args.length) undef,defers:=[] } w (Z1f n modes F St fps efps ads) []:=by
 have g:=Z0H modes vals args fps ads hA;obtain⟨ha1,ha2,R⟩:=Z3P ext ads efps hB;have U:fps.flatten.Nodup:=(Qj.1 E).1;have C:(efps.flatten++ads).Nodup:=(Qj.1 E).2.1;have V:efps.flatten.Nodup:=(Qj.1 C).1;have hd4:ads.Nodup:=(Qj.1 C).2.1;have r:∀b,b∈efps.flatten++ads->b ∉ fps.flatten:=λb d A=>(Qj.1 E).2.2 b A b d rfl
 have ac:∀b,b∈ads->b ∉ efps.flatten:=λb d A=>(Qj.1 C).2.2 b A b d rfl
 let G0:=Z1f n modes F St fps efps ads
 have aa:∀i b,b∈(Z0k modes fps).getD i []->G0.who b=some (.s i):=by
  intro i b d;have:=Z4x _ b i (by rw[g];exact U) d
  simp only[G0,Z1f,this]
 have H:∀j b,b∈efps.getD j []->G0.who b=some (.c (n+j)):=by
  intro j b d;have K:=Z1O (Z0k modes fps) b (by rw[g];exact r b (Qh _ (Z2I d)))
  have L:=Z4x _ b j V d;simp only[G0,Z1f,K,L]
 have hwA:∀j,j<ads.length->G0.who (ads.getD j 0)=some (.a (n+j)):=by
  intro j hj;have p:ads.getD j 0∈ads:=by rw[Qc,Qn hj];exact Q7 _
  have K:=Z1O (Z0k modes fps) (ads.getD j 0) (by rw[g];exact r _ (Qo _ p))
  have L:=Z1O efps (ads.getD j 0) (ac _ p);have h3:=Z4x (ads.map λl=>[l]) (ads.getD j 0) j (by rw[Z3W];exact hd4) (by rw[Z7v _ _ hj];simp)
  simp only[G0,Z1f,K,L,h3]
 have I:∀b,b ∉ fps.flatten++(efps.flatten++ads)->G0.who b=none:=by
  intro b d;simp only[Qr,not_or]at d;have K:=Z1O (Z0k modes fps) b (by rw[g];exact d.1)
  have L:=Z1O efps b d.2.1;have h3:=Z1O (ads.map λl=>[l]) b (by rw[Z3W];exact d.2.2)
  simp only[G0,Z1f,K,L,h3]
 have ab:∀b z,G0.who b=some z->b∈fps.flatten++(efps.flatten++ads):=by
  intro b z d;by_cases p:b∈fps.flatten++(efps.flatten++ads)
  ·exact p
  ·rw[I b p]at d;cases d
 have hal:∀b,St b->G0.Al b:=λb d=>⟨λi h=>(by rw[I b (y b d).2]at h;cases h),λ_=>d⟩
 have P:∀b∈fps.flatten,G0.Al b:=by
  intro b d;obtain⟨f,hf,hbf⟩:=X3.1 (by rw[g];exact d:b∈(Z0k modes fps).flatten)
  obtain⟨i,X,rfl⟩:=X2.1 hf;have:=aa i b (by rw[Qc,Qn X];exact hbf)
  exact⟨λi h=>(by rw[this]at h;cases h),λh=>(by rw[this]at h;cases h)⟩
 have M:∀j b,b∈efps.getD j []->G0.Al b:=λj b d=>⟨λi h=>(by rw[H j b d]at h;cases h),λh=>(by rw[H j b d]at h;cases h)⟩
 have Q:∀i v,(Z3X n modes vals ext).boxAt i=some v->n<=i/\ext[i-n]? = some v:=by
  intro i v e;have e:Z0u none (Z1Q none n []++ext.map some) i=some v:=e;rw[Z44,Z2x]at e;split at e
  ·rw[Z3s]at e;split at e<;>cases e
  ·rename_i X;refine⟨by omega,?_⟩
   rw[Z6k,XO]at e;cases J:ext[i-n]? with
   |none=>rw[J]at e;cases e
   |some u=>rw[J]at e;simpa using e
 have B:∀m (h:m<ads.length),∃v,(Z3X n modes vals ext).boxAt (n+m)=some v/\ext[m]? = some v:=by
  intro m p;have Y:m<ext.length:=by omega
  refine⟨ext[m],?_,Qn Y⟩;show Z0u none (Z1Q none n []++ext.map some) (n+m)=_
  rw[Z44,Z2x,QN (by omega),Z6k,Nat.add_sub_cancel_left,XO,Qn Y]
  rfl
 let a0:Act:={ tmps:=args.toArray++Array.replicate (n-args.length) undef,defers:=[] }
 obtain⟨hl1,hl2,hsl⟩:=Z1i (σ0:=Z3X n modes vals ext) (a0:=a0) (G0:=G0) (n:=n) rfl rfl hal modes vals args fps ads 0 hA P (λm p=>by
  obtain⟨v,e,q⟩:=B m p;obtain⟨c,T,hc,hR⟩:=R m v q;have k:G0.ad (n+m)=ads.getD m 0:=by simp[G0,Z1f]
  have hgd:ads.getD m 0=ads[m]:=by rw[Qc,Qn p];rfl
  refine .inr ⟨c.toList,(ads[m],0),⟨v.τ,c.toList,some (ads[m],0),?_,?_,Z0O _ _ _ _⟩,rfl⟩
  ·rw[Xu,Z1o,e];rfl
  ·simp only[Z09,Xu,k,hc];rw[hgd])
 refine⟨hl2,⟨rfl,?_,λi X=> ?_,λi v e=> ?_,λi b d=> ?_,λi b d=> ?_,λb d=>(by cases d),λi=> ?_,λi=> ?_,List.nodup_nil,λb d=>⟨I b (y b d).2,(y b d).1⟩,λb z d=>⟨hlt b (ab b z d),.inr (ab b z d)⟩,?_,λi _=>rfl,⟨λ_ _ _=>rfl,λ_ h=>h,λ_ h=> .inl h⟩,λi _=>Z8W args _ i⟩⟩
 ·simp[Z3X,Z2x];omega
 ·have hin:i<n:=by simpa[Z3X,Z2x]using X
  have G:(Z3X n modes vals ext).slot i=Z0u .dead (Z0h n modes vals 0) i:=by
   show Z0u .dead (Z1Q .dead n (Z0h n modes vals 0)) i=_
   rw[Z3s,QM hin]
  rw[G];by_cases D:i<modes.length
  ·have W:a0.tmps.getD i undef=args.getD i undef:=by
    have:i<args.length:=by omega
    simp only[a0];rw[X5,Array.getElem?_append_left (by simpa using this),Qc,List.getElem?_toArray]
   show Z01 _ _ a0 w _ (a0.tmps.getD i undef) _
   rw[W];simp only[Z1f,D,XH];exact hsl i D
  ·rw[Z2e _ _ (by omega)]
   simp only[Z1f,D,XI];rfl
 ·obtain⟨Z,q⟩:=Q i v e;obtain⟨c,T,hc,hR⟩:=R (i-n) v q;have hle:i-n<ads.length:=by
   have:=(YQ.1 q).1;omega
  have k:G0.ad i=ads.getD (i-n) 0:=QM Z;have hfb:G0.fb i=efps.getD (i-n) []:=QM Z;refine⟨⟨c,T,by rw[show (Z1f n modes F St fps efps ads).ad i=ads.getD (i-n) 0 from k];exact hc,?_⟩,?_⟩
  ·rw[show (Z1f n modes F St fps efps ads).fb i=efps.getD (i-n) [] from hfb]
   exact hR.pres (λ_ h=>h) (λb _ h=>M (i-n) b h) (λb _=>Z07.refl _ _ _) (λb _=>⟨Z07.refl _ _ _,rfl⟩) (.inr λb _ _=>Z07.refl _ _ _)
  ·rw[show (Z1f n modes F St fps efps ads).ad i=ads.getD (i-n) 0 from k]
   have:=hwA (i-n) hle;rw[show n+(i-n)=i by omega]at this
   exact this
 ·simp only[Z1f]at d;split at d
  ·exact aa i b d
  ·cases d
 ·simp only[Z1f]at d;split at d
  ·have:=H (i-n) b d;rw[show n+(i-n)=i by omega]at this
   exact this
  ·cases d
 ·simp only[Z1f];split
  ·rename_i X;have hll:(Z0k modes fps).flatten.Nodup:=by rw[g];exact U
   rw[Qc];cases J:(Z0k modes fps)[i]? with
   |none=>simp
   |some f=>exact Z4B hll (Yl J)
  ·exact List.nodup_nil
 ·simp only[Z1f];split
  ·rw[Qc];cases J:efps[i-n]? with
   |none=>simp
   |some f=>exact Z4B V (Yl J)
  ·exact List.nodup_nil
 ·exact Ext.refl _ w
end
end Go.PI
namespace Go.PI
def Z0j (w:World)(G:Ghost):List TVal->List Value->List (List Nat)->Prop
 | [],[],[]=>True
 |v::vs,x::xs,f::b=>(Z0f v.ag x/\Rp w G.F G.St G.Al v.τ v.tg (Z02 x) v.x f)/\Z0j w G vs xs b
 |_,_,_=>False
theorem Z0j.sim {w:World}{G G':Ghost}(d:Sim G G'):(vs:List TVal)->(xs:List Value)->(b:List (List Nat))->Z0j w G vs xs b->Z0j w G' vs xs b
 | [],xs,b,h=>by cases xs<;>cases b<;>exact h
 |v::vs,xs,b,h=>by
  cases xs<;>cases b<;>first | exact h.elim | skip
  obtain⟨⟨e,f⟩,g⟩:=h;exact⟨⟨e,by rw[d.F,d.St,d.Al];exact f⟩,Z0j.sim d vs _ _ g⟩
section
variable {W0:Base}{M:Nat->Prop}{σ:State}{a:Act}{w w':World}{G:Ghost}{xs:List Nat}{P:Program}{tys:List (TypeId×Ty×List TypeId)}
theorem Z8A (I:Inv W0 M σ a w G xs){p:Place}{u:TVal}{cs:List Value}{base:Option (Nat×Nat)}(V:σ.getAt p=some u)(y:Z0A σ G a w p cs base)(D:Z08 p.path=true){σ':State}(d:σ.setAt p u.alias=some σ') :
  ∃fi G',Inv W0 M σ' a w G' (fi++xs)/\Sim G G'/\Rp w G'.F G'.St G'.Al u.τ u.tg cs u.x fi:=by
 obtain⟨c,r,h⟩:=Z0B V;unfold State.setAt at d;rw[r]at d;simp only[Option.bind_some,Qm]at d;obtain⟨⟨H,q⟩,z,rfl⟩:=d;obtain⟨X,l,b,j,n,E⟩:=y;obtain⟨l',Y,U,k,i,W⟩:=Z0F I r;rw[n]at k;cases k;have:X=c.τ:=by rw[State.ct,r]at j;simpa using j.symm
 subst this;obtain⟨R,fi,T,K,B,Z,L,Q⟩:=Rp.flatLens D i E h;obtain⟨fg,m,_⟩:=i.get E h;have f:cs.take (size u.τ)=cs:=by rw[<-m.len.1];simp
 have g:=Q u.alias (cs.take (size u.τ)) [] H q z rfl (by rw[f];exact m.alias (Ghost.St_Al I))
 have A:=Z1u D h;rw[L,Z37 (by rw[i.len.1];exact A)]at g
 have v:G.fpOf p=R++fi++T:=by
  rw[<-K];rcases W with⟨C,_,rfl,_⟩ | ⟨C,_,rfl,_⟩<;>simp[Ghost.fpOf,C]
 obtain⟨G',J,e⟩:=I.recontent (c':=⟨c.τ,c.ag,H,q⟩) r rfl rfl n g (fi:=fi) (by
  rw[v];simp only[Qe];rw[Qb,Qb];exact XP _ XQ)
 refine⟨fi,G',J,e,?_⟩;rw[e.F,e.St,e.Al];rw[f]at B;exact B
def Z3B (b:Array Value):ResultVar->Sem Value
 |.tmp t=>pure (b.getD t undef)
 |.cell a t=>do loadVar t (<-asAddr (b.getD a undef))
theorem Z47 (E:Z0e P tys):(rs:List ResultVar)->(ags:List Bool)->(σ:State)->(d:List TVal)->(G:Ghost)->(xs:List Nat)->(e:List TVal)->(σ':State)->Z1W tys rs ags σ d=some (e,σ')->Inv W0 M σ a w G xs ->
  ∃us vs fps G',e=d.reverse++us/\(rs.mapM (Z3B a.tmps)).run P w= .ok vs w/\Inv W0 M σ' a w G' (fps.flatten++xs)/\Sim G G'/\Z0j w G' us vs fps
 | [],ags,σ,d,G,xs,e,σ',h,I=>by
  simp only[Z1W,Q9,Qs]at h;obtain⟨rfl,rfl⟩:=h;exact⟨[],[],[],G,by simp,by simp,by simpa using I,Sim.refl _,trivial⟩
 |.tmp t::rs,ags,σ,d,G,xs,e,σ',h,I=>by
  cases ags with
  |nil=>simp[Z1W]at h
  |cons ag ags=>
  simp only[Z1W]at h;split at h
  ·rename_i v hl;split at h
   ·rename_i q;split at h
    ·rename_i u Z X;obtain⟨fp,H,J,m,hτ,T,W⟩:=Z0Y I X;obtain⟨us,vs,fps,G',K,L,Q,g,R⟩:=Z47 E rs ags Z (u::d) H _ e σ' h J;refine⟨u::us,a.eval (.tmp t)::vs,fp::fps,G',by simpa using K,?_,?_,m.trans g,⟨⟨W,by rw[g.F,g.St,g.Al];exact T⟩,R⟩⟩
     ·simp only[List.mapM_cons,Sem.run_bind,Z3B,Sem.run_pure,Result.andThen_ok,L];rfl
     ·refine Q.perm (QZ.2 λz=> ?_)
      simp only[QO,XA];omega
    ·cases h
   ·cases h
  ·cases h
 |.cell c ty::rs,ags,σ,d,G,xs,e,σ',h,I=>by
  cases ags with
  |nil=>simp[Z1W]at h
  |cons ag ags=>
  simp only[Z1W]at h;split at h
  ·rename_i τ p Y C;split at h
   ·rename_i v V;split at h
    ·rename_i hc;obtain⟨D,q,U⟩:=hc;split at h
     ·rename_i Z B;have hS:=I.slot c (Z0U (by rw[C];simp))
      rw[C]at hS;obtain⟨cs,b,k,hv⟩:=hS.2.2.2.some V;obtain⟨i,A⟩:=Z1K I V k;have f:=Z1D I k (w2:=w) ⟨λ_ _ _ _ _ _ _ h=>h,λ_ _ _=>rfl⟩
      obtain⟨l,n,r⟩:=Z0Q Y;rw[i,D]at f;have j:=Z1X E n f;have y:=Z1g (ag:= !l.isEmpty) A (λhf=>by
       rw[i,D];have hl:l=[]:=by simpa using hf
       rw[hl]at n;exact Z1S E n)
      obtain⟨fi,H,J,m,T⟩:=Z8A I V k U B;obtain⟨us,vs,fps,G',K,L,Q,g,R⟩:=Z47 E rs ags Z (_::d) H _ e σ' h J;refine⟨{ v with ag:=ag }::us,Z0J (!l.isEmpty) cs::vs,fi::fps,G',by simpa using K,?_,?_,m.trans g,⟨⟨?_,?_⟩,R⟩⟩
      ·simp only[List.mapM_cons,Sem.run_bind,Z3B,hv,asAddr,Sem.run_pure,Result.andThen_ok,j,L]
      ·refine Q.perm (QZ.2 λz=> ?_)
       simp only[QO,XA];omega
      ·rw[<-q,r];exact y.2
      ·rw[y.1,g.F,g.St,g.Al];exact T
     ·cases h
    ·cases h
   ·cases h
  ·cases h
theorem Z7S {fn:Func}{b:Array Value}{vs:List Value}(h:(fn.results.toList.mapM (Z3B b)).run P w= .ok vs w):(results fn b).run P w= .ok (Z1G vs) w:=by
 have d:∀(g:ResultVar->Sem Value),(∀x,g x=Z3B b x)->fn.results.mapM g=fn.results.mapM (Z3B b):=λg e=>by rw[funext e]
 unfold results;rw[d]
 case a=>intro x;cases x<;>rfl
 rw[Array.mapM_eq_mapM_toList];simp only[Sem.run_bind,Sem.run_map,h,Result.andThen_ok,Sem.run_pure];cases vs with
 |nil=>rfl
 |cons v vs=>cases vs with
  |nil=>rfl
  |cons u vs=>simp[Z1G]
theorem Z0j.append:(us:List TVal)->(vs:List Value)->(f:List (List Nat))->Z0j w G us vs f->∀ {d:List TVal} {e:List Value} {b:List (List Nat)},Z0j w G d e b->Z0j w G (us++d) (vs++e) (f++b)
 | [],vs,f,h,d,e,b,g=>by cases vs<;>cases f<;>first | exact g | exact h.elim
 |u::us,vs,f,h,d,e,b,g=>by
  cases vs<;>cases f<;>first | exact h.elim | skip
  exact⟨h.1,Z0j.append us _ _ h.2 g⟩
theorem Z0j.lens:(us:List TVal)->(vs:List Value)->(b:List (List Nat))->Z0j w G us vs b->vs.length=us.length
 | [],vs,b,h=>by cases vs<;>cases b<;>first | rfl | exact h.elim
 |u::us,vs,b,h=>by
  cases vs<;>cases b<;>first | exact h.elim | skip
  simp[Z0j.lens us _ _ h.2]
theorem Z6q (np:Nat)(g:W0.np=np):(ms:List Mode)->(i:Nat)->(σ:State)->(G:Ghost)->(xs:List Nat)->(b:List TVal)->(σ':State)->(args:List Value)->ioC np ms i σ=some (b,σ')->Inv W0 M σ a w G xs ->
  (∀j,args.getD j undef=W0.arg (i+j))->args.length=ms.length ->
  ∃fps G',Inv W0 M σ' a w G' (fps.flatten++xs)/\Sim G G'/\Z0j w G' b (Z0X ms args) fps/\b.map (·.τ)=Z2J ms/\b.all TVal.allO=true/\b.length=(Z0X ms args).length
 | [],i,σ,G,xs,b,σ',args,h,I,_,n=>by
  simp only[ioC,Q9,Qs]at h;obtain⟨rfl,rfl⟩:=h;have:Z0X [] args=[]:=by cases args<;>rfl
  rw[this];exact⟨[],G,by simpa using I,Sim.refl _,trivial,rfl,rfl,rfl⟩
 |m::ms,i,σ,G,xs,b,σ',[],h,I,_,n=>by simp at n
 |m::ms,i,σ,G,xs,b,σ',x::args,h,I,d,n=>by
  have e:∀j,args.getD j undef=W0.arg (i+1+j):=λj=>by
   have:=d (j+1);rw[show i+1+j=i+(j+1) by omega]
   simpa using this
  have k:args.length=ms.length:=by simpa using n
  by_cases p:∃τ ag,m= .inout τ ag
  ·obtain⟨τ,ag,rfl⟩:=p;simp only[ioC]at h;split at h
   ·rename_i u Z A;split at h
    ·rename_i q;simp only[Q6,Ql,QG]at q;obtain⟨r,W,D⟩:=Qm.1 h;simp only[Qs]at D;obtain⟨rfl,rfl⟩:=D;obtain⟨fp,E,J,y,Y,C,l⟩:=Z0Y I A;obtain⟨fps,H,K,f,V,ht,U,v⟩:=Z6q np g ms (i+1) Z E _ r.1 r.2 args W J e k;have X:a.eval (.tmp i)=x:=by
      have T:=I.pin i (by rw[g];exact q.1.1)
      have B:=d 0;simp only[Yu,XK]at B;exact T.trans B.symm
     rw[X]at C l;refine⟨fp::fps,H,?_,y.trans f,⟨⟨l,by rw[f.F,f.St,f.Al];exact C⟩,V⟩,?_,?_,?_⟩
     ·refine K.perm (QZ.2 λz=> ?_)
      simp only[QO,XA];omega
     ·simp only[Qz,Z2J,ht,Y]
     ·simp only[XS,U,q.1.2,Bool.and_self]
     ·simp only[Q8,Z0X,v]
    ·cases h
   ·cases h
  ·have L:ioC np (m::ms) i σ=ioC np ms (i+1) σ:=by cases m<;>first | rfl | exact absurd ⟨_,_,rfl⟩ p
   have Q:Z0X (m::ms) (x::args)=Z0X ms args:=by cases m<;>first | rfl | exact absurd ⟨_,_,rfl⟩ p
   have R:Z2J (m::ms)=Z2J ms:=by cases m<;>first | rfl | exact absurd ⟨_,_,rfl⟩ p
   rw[L]at h;rw[Q,R];exact Z6q np g ms (i+1) σ G xs b σ' args h I e k
end
end Go.PI
namespace Go.PI
section
variable {w:World}{F:Nat->Nat}{St Al:Nat->Prop}
theorem Rp.narrow {Al':Nat->Prop}:{τ:Ty}->{tg:List Tag}->{cs:List Value}->{x:El τ}->{fp:List Nat}->Rp w F St Al τ tg cs x fp->(∀t∈tg,t.isN=false)->(∀b∈fp,Al' b)->Rp w F St Al' τ tg cs x fp
 |.int _,_,_,_,_,h,_,_=>h
 |.bool,_,_,_,_,h,_,_=>h
 |.str,_,_,_,_,h,_,_=>h
 |.unit,_,_,_,_,h,_,_=>h
 |.pair a b,_,_,_,_,h,m,j=>by
  obtain⟨J,K,y,z,A,B,rfl,rfl,rfl,g,i⟩:=h;exact⟨J,K,y,z,A,B,rfl,rfl,rfl,Rp.narrow g (λt ht=>m t (Qh _ ht)) (λb p=>j b (Qh _ p)),Rp.narrow i (λt ht=>m t (Qo _ ht)) (λb p=>j b (Qo _ p))⟩
 |.slice e,_,_,_,_,h,m,j=>by
  obtain⟨t,a,cap,rfl,rfl,E,h⟩:=h;have ht:=m t (by simp)
  have l:∀t'∈List.replicate (Z06 e) t.inner,t'.isN=false:=by
   intro t' v;obtain⟨_,rfl⟩:=XC.1 v;cases t<;>simp_all[Tag.isN,Tag.inner]
  refine⟨t,a,cap,rfl,rfl,E,?_⟩;rcases h with h | ⟨u,b,o,fps,rfl,C,rfl,q,G,n,f⟩ | ⟨u,rfl,I⟩
  ·exact .inl h
  ·refine .inr (.inl ⟨u,b,o,fps,rfl,j b (by simp),rfl,q,G,n,λk r=> ?_⟩)
   obtain⟨d,g,i⟩:=f k r;exact⟨d,g,Rp.narrow i l λc D=>j c (Qa _ (Z2I D))⟩
  ·refine .inr (.inr ⟨u,rfl,I.imp id ?_⟩);rintro⟨b,o,rfl,H,n,f⟩;refine⟨b,o,rfl,?_,n,λk r=> ?_⟩
   ·cases t<;>simp_all[Tag.isN,Tag.own,Z5f]
   ·obtain⟨d,g,i⟩:=f k r;exact⟨d,g,Rp.narrow i l (by simp)⟩
theorem Rp.toS {St' Al':Nat->Prop}(i:∀b,Al b->St' b)(l:∀b,St b->St' b):{τ:Ty}->{tg:List Tag}->{cs:List Value}->{x:El τ}->{fp:List Nat}->Rp w F St Al τ tg cs x fp->Rp w F St' Al' τ (List.replicate (Z06 τ) .S) cs x []
 |.int _,_,_,_,_,h=>by obtain⟨d,_,_⟩:=h;exact⟨d,rfl,rfl⟩
 |.bool,_,_,_,_,h=>by obtain⟨d,_,_⟩:=h;exact⟨d,rfl,rfl⟩
 |.str,_,_,_,_,h=>by obtain⟨d,_,_⟩:=h;exact⟨d,rfl,rfl⟩
 |.unit,_,_,_,_,h=>by obtain⟨d,_,_⟩:=h;exact⟨d,rfl,rfl⟩
 |.pair a b,_,_,_,_,h=>by
  obtain⟨E,G,v,y,B,C,rfl,rfl,rfl,d,j⟩:=h;exact⟨_,_,v,y,[],[],by rw[Z06,YP],rfl,rfl,Rp.toS i l d,Rp.toS i l j⟩
 |.slice e,_,_,_,_,h=>by
  obtain⟨t,a,cap,rfl,rfl,A,h⟩:=h;refine⟨.S,a,cap,rfl,rfl,A,.inr (.inr ⟨rfl,rfl,?_⟩)⟩;rcases h with⟨_,_,q,_⟩ | ⟨u,b,o,fps,rfl,n,rfl,z,D,r,g⟩ | ⟨u,rfl,q⟩
  ·exact .inl q
  ·refine .inr ⟨b,o,rfl,i b n,by omega,λk p=> ?_⟩
   obtain⟨f,d,j⟩:=g k p;exact⟨f,d,Rp.toS i l j⟩
  ·refine q.imp id ?_;rintro⟨b,o,rfl,m,r,g⟩;refine⟨b,o,rfl,?_,r,λk p=> ?_⟩
   ·cases t with
    |S=>exact l b m
    |N=>exact i b m
    |_=>cases u
   ·obtain⟨f,d,j⟩:=g k p;exact⟨f,d,Rp.toS i l j⟩
theorem Rp.unstable {St' Al':Nat->Prop}(n:∀b,St b->Al' b)(j:∀b,Al b->Al' b):{τ:Ty}->{tg:List Tag}->{cs:List Value}->{x:El τ}->{fp:List Nat}->Rp w F St Al τ tg cs x fp->Rp w F St' Al' τ (tg.map (Tag.back false)) cs x fp
 |.int _,_,_,_,_,h=>by obtain⟨d,rfl,g⟩:=h;exact⟨d,rfl,g⟩
 |.bool,_,_,_,_,h=>by obtain⟨d,rfl,g⟩:=h;exact⟨d,rfl,g⟩
 |.str,_,_,_,_,h=>by obtain⟨d,rfl,g⟩:=h;exact⟨d,rfl,g⟩
 |.unit,_,_,_,_,h=>by obtain⟨d,rfl,g⟩:=h;exact⟨d,rfl,g⟩
 |.pair a b,_,_,_,_,h=>by
  obtain⟨H,I,z,A,B,C,rfl,rfl,rfl,d,m⟩:=h;exact⟨_,_,z,A,B,C,by rw[QU],rfl,rfl,Rp.unstable n j d,Rp.unstable n j m⟩
 |.slice e,_,_,_,_,h=>by
  obtain⟨t,a,cap,rfl,rfl,D,h⟩:=h;have p:(List.replicate (Z06 e) t.inner).map (Tag.back false)=List.replicate (Z06 e) (Tag.back false t).inner:=by
   rw[List.map_replicate];cases t<;>rfl
  refine⟨Tag.back false t,a,cap,rfl,rfl,D,?_⟩;rcases h with⟨l,h⟩ | ⟨l,b,o,fps,rfl,u,rfl,v,E,r,i⟩ | ⟨l,rfl,G⟩
  ·exact .inl ⟨(by cases t<;>first | rfl | cases l),h⟩
  ·refine .inr (.inl ⟨(by cases t<;>first | rfl | cases l),b,o,fps,rfl,j b u,rfl,v,E,r,λk y=> ?_⟩)
   obtain⟨f,d,m⟩:=i k y;exact⟨f,d,by rw[<-p];exact Rp.unstable n j m⟩
  ·refine .inr (.inr ⟨(by cases t<;>first | rfl | cases l),rfl,G.imp id ?_⟩)
   rintro⟨b,o,rfl,q,r,i⟩;refine⟨b,o,rfl,?_,r,λk y=> ?_⟩
   ·cases t with
    |S=>exact n b q
    |N=>exact j b q
    |_=>cases l
   ·obtain⟨f,d,m⟩:=i k y;exact⟨f,d,by rw[<-p];exact Rp.unstable n j m⟩
end
end Go.PI
namespace Go.PI
section
variable {W0:Base}{M:Nat->Prop}{σ:State}{a:Act}{w w':World}{G:Ghost}{xs:List Nat}{P:Program}{tys:List (TypeId×Ty×List TypeId)}
theorem Z0j.narrow:(vs:List TVal)->(ys:List Value)->(d:List (List Nat))->Z0j w G vs ys d->(∀v∈vs,v.noN=true)->Z39 w G.F G.St vs ys d
 | [],ys,d,h,_=>by cases ys<;>cases d<;>exact h
 |v::vs,ys,d,h,e=>by
  cases ys<;>cases d<;>first | exact h.elim | skip
  obtain⟨⟨f,g⟩,i⟩:=h;exact⟨⟨f,e v (by simp),g.narrow (TVal.noN_iff.1 (e v (by simp))) λb j=>j⟩,Z0j.narrow vs _ _ i λu k=>e u (Qa _ k)⟩
theorem Z0j.toS {St':Nat->Prop}(f:∀b,G.Al b->St' b)(g:∀b,G.St b->St' b):(vs:List TVal)->(ys:List Value)->(d:List (List Nat))->Z0j w G vs ys d ->
  Z39 w G.F St' (vs.map λv=>{ v with tg:=v.tg.map λ_=>Tag.S }) ys (List.replicate vs.length [])
 | [],ys,d,h=>by cases ys<;>cases d<;>first | exact h.elim | trivial
 |v::vs,ys,d,h=>by
  cases ys<;>cases d<;>first | exact h.elim | skip
  obtain⟨⟨i,e⟩,j⟩:=h;refine⟨⟨i,?_,?_⟩,Z0j.toS f g vs _ _ j⟩
  ·rw[TVal.noN_iff];intro t ht;obtain⟨_,_,rfl⟩:=X6.1 ht;rfl
  ·have:v.tg.map (λ_=>Tag.S)=List.replicate (Z06 v.τ) .S:=by rw[List.map_const',e.len.2]
   show Rp w G.F St' _ v.τ (v.tg.map λ_=>Tag.S) _ v.x []
   rw[this];exact e.toS f g
theorem Z2Z {σ:State}:(rs:List Nat)->(l:List TVal)->σ.boxesAt rs=some l->l.length=rs.length/\∀(j:Nat) (v:TVal),l[j]? = some v->σ.boxAt (rs.getD j 0)=some v
 | [],l,h=>by
  simp only[State.boxesAt,Q9]at h;subst h;exact⟨rfl,λj v b=>by simp at b⟩
 |r::rs,l,h=>by
  simp only[State.boxesAt]at h;split at h
  ·rename_i v l' g d;cases h;obtain⟨e,f⟩:=Z2Z rs l' d;refine⟨by simp[e],λj u b=> ?_⟩
   cases j with
   |zero=>simp only[YF,Q9]at b;subst b;simpa using g
   |succ j=>simpa using f j u (by simpa using b)
  ·cases h
theorem Z4t {F:Nat->Nat}{St:Nat->Prop}:(ext:List TVal)->(ads:List Nat)->(b:List (List Nat))->ads.length=ext.length->b.length=ext.length ->
  (∀(j:Nat) (v:TVal),ext[j]? = some v->∃c T,w.heap[ads.getD j 0]? = some (.cells c T (0,0))/\Rp w F St (·∈ b.getD j []) v.τ v.tg c.toList v.x (b.getD j []))->Z1a w F St ext ads b
 | [],ads,b,d,e,h=>by
  cases ads<;>cases b<;>first | trivial | simp at d | simp at e
 |v::ext,ads,b,d,e,h=>by
  cases ads with
  |nil=>simp at d
  |cons l ads=>
  cases b with
  |nil=>simp at e
  |cons f b=>
  exact⟨h 0 v rfl,Z4t ext ads b (by simpa using d) (by simpa using e) λj u g=>h (j+1) u (by simpa using g)⟩
theorem Z8x (n m j:Nat)(h:j<m):((List.range m).map (n+ ·)).getD j 0=n+j:=by
 rw[Qc,XO,List.getElem?_range h];rfl
end
end Go.PI
namespace Go.PI
section
variable {P:Program}{R:Type}{Γ:Env R}
theorem Z8K [Subsingleton R](hm:P.follows .mixedOrders=true)(hT:Z0e P Γ.tys)(hcalls:CallsOk P Γ){f:FuncId}{fn:Func}{c:Code}{X:List (Z1c R)}{ht:HT}{fz:Bool}{modes:List Mode}{ags:List Bool}
  (hO : Z1Z P Γ.np X ht c) (hf : P.funcs[f]? = some fn) (hname : (fn.name == "runtime.NumGoroutine") = false) (g : fn.body = some c) (hn : modes.length ≤ fn.ntmps) :
  Z16 P f (⟨modes,ags,Z8j Γ X ht fz fn modes ags⟩:Sig R):=by
 refine⟨⟨fn,c,hf,hname,g⟩,λvals ext k r A w F St args ads fps E hA hB hnd hSt hlt=> ?_⟩
 have A:Z8j Γ X ht fz fn modes ags vals ext k=some r:=A;unfold Z8j at A;rw[g]at A;simp only[]at A;obtain⟨hal,I0⟩:=Z8X (vals:=vals) (np:=Γ.np) hn hA hB hnd hSt hlt;refine calls_of_wp hf g ?_;have hsz:args.toArray.size=args.length:=by simp
 rw[hsz];obtain⟨ha1,ha2,_⟩:=Z3P ext ads E hB;refine Z8c hm hT hcalls (Qq _) X c ht hO _ _ w _ _ r _ ?_ I0 A ?_
 ·rintro ch a' w' ⟨_,v,D,i,d,h,_⟩;cases h
 ·intro e σ' a' w' G' he I';have main:(match Z1W Γ.tys fn.results.toList ags σ' []with
   |some (D,σ1)=>(match ioC Γ.np modes 0 σ1 with
    |some (i,σ')=>(match σ'.boxesAt ((List.range ext.length).map (fn.ntmps+ ·))with
     |some d=>if decide (σ'.slots.length=fn.ntmps)&&Z2U ext d&&d.all TVal.noN&&((!fz&&D.all TVal.noN)||(i.isEmpty&&d.all λv=>v.tg.all λt=> !t.own)) then k (Z22 fz D) i d else none
     |none=>none)
    |none=>none)
   |none=>none)=some r->a'.defers=[]/\∃v,(results fn a'.tmps).run P w'= .ok v w'/\∃v' D i d,Ending.returned v= .returned v'/\k D i d=some r/\(Z2U ext d=true/\i.map (·.τ)=Z2J modes/\i.all TVal.allO=true)/\d.all TVal.noN=true/\RetOk w F St (fps.flatten++(E.flatten++ads)) ads D i (Z0X modes args) d v' w':=by
   intro h;refine⟨I'.defers,?_⟩;split at h
   ·rename_i D σ1 hres;split at h
    ·rename_i i σ2 hio;split at h
     case h_2=>cases h
     rename_i d hext;split at h
     ·rename_i hc;simp only[Q6,Ql]at hc;obtain⟨⟨⟨hlen,hty⟩,hexN⟩,hor⟩:=hc;obtain⟨p,vs0,L,G20,h1,h2,I20,hs20,hout0⟩:=Z47 hT _ _ _ _ _ _ _ _ hres I';have hus:p=D:=by simpa using h1.symm
      subst hus;obtain⟨Z,q,I21,hs21,hio1,hio2,hio3,hio4⟩:=Z6q Γ.np rfl modes 0 σ1 G20 _ i σ2 args hio I20 (λj=>by rw[Xu];rfl) hal
      have hs2:=hs20.trans hs21;have K:=Z0j.sim hs21 _ _ _ hout0;have J:Z0j w' q (p++i) (vs0++Z0X modes args) (L++Z):=Z0j.append _ _ _ K hio1;have hvl:=Z0j.lens _ _ _ K;have l:Inv (Z9l w F St fn.ntmps ads Γ.np args) (·∈ fps.flatten++(E.flatten++ads)) σ2 a' w' q ((L++Z).flatten++[]):=by
       refine I21.perm (QZ.2 λz=> ?_)
       simp only[XZ,XA];omega
      have hion:∀v∈i,v.noN=true:=λv hv=>by
       have:=QD.1 hio3 v hv;unfold TVal.allO at this;unfold TVal.noN;rw[QD]at this ⊢;intro t ht;have h3:=this t ht;cases t<;>first | rfl | cases h3
      refine⟨_,Z7S h2,_,Z22 fz p,i,d,rfl,h,⟨hty,hio2,hio3⟩,hexN,?_⟩;obtain⟨us,hUs⟩:∃us,us=p++i:=⟨_,rfl⟩;obtain⟨fps',hFps⟩:∃f,f=L++Z:=⟨_,rfl⟩;rw[<-hUs,<-hFps]at J;rw[<-hFps]at l;obtain⟨hl1,hl2⟩:=Z2Z _ _ hext;have I:d.length=ext.length:=by simpa using hl1
      have V:∀v∈d,v.noN=true:=by simpa[QD]using hexN
      have U:∀(j:Nat) (v:TVal),d[j]? = some v->(∃c T,w'.heap[ads.getD j 0]? = some (.cells c T (0,0))/\Rp w' q.F q.St q.Al v.τ v.tg c.toList v.x (q.fb (fn.ntmps+j)))/\q.who (ads.getD j 0)=some (.a (fn.ntmps+j)):=by
       intro j v u;have hjl:j<ext.length:=by rw[<-I];exact(YQ.1 u).1
       have h3:=hl2 j v u;rw[Z8x _ _ _ hjl]at h3;have h4:=l.box _ v h3;have y:q.ad (fn.ntmps+j)=ads.getD j 0:=by
        rw[l.adx (fn.ntmps+j) (by rw[hlen];omega)]
        show (if fn.ntmps<=fn.ntmps+j then ads.getD (fn.ntmps+j-fn.ntmps) 0 else 0)=_
        rw[QM (by omega),Nat.add_sub_cancel_left]
       rw[y]at h4;exact h4
      have G:∀b∈ads,∃j,j<ext.length/\b=ads.getD j 0/\q.who b=some (.a (fn.ntmps+j)):=by
       intro b g;obtain⟨j,u,rfl⟩:=X2.1 g;have hje:j<d.length:=by omega
       obtain⟨_,y⟩:=U j d[j] (Qn hje);have:ads.getD j 0=ads[j]:=by rw[Qc,Qn u];rfl
       rw[this]at y;exact⟨j,by omega,this.symm,y⟩
      have M:ads.Nodup:=(Qj.1 (Qj.1 hnd).2.1).2.1;have B:∀b z,q.who b=some z->(w.heap.size<=b\/b∈fps.flatten++(E.flatten++ads))/\b<w'.heap.size:=λb z g=>⟨(l.lt b z g).2,(l.lt b z g).1⟩
      have hSn:∀b z,q.who b=some z->¬ q.St b:=λb z g hS=>by rw[(l.st b hS).1]at g;cases g
      by_cases H:(!fz&&p.all TVal.noN)=true
      ·
       have hfz:Z22 fz p=p:=by unfold Z22;rw[QM H]
       rw[hfz];have husN:∀v∈us,v.noN=true:=λv hv=>by
        rw[hUs]at hv;rcases Qr.1 hv with hv | hv
        ·exact QD.1 (Bool.and_eq_true_iff.1 H).2 v hv
        ·exact hion v hv
       let n:List (List Nat):=(List.range ext.length).map λj=>q.fb (fn.ntmps+j)
       have hef:∀j,j<ext.length->n.getD j []=q.fb (fn.ntmps+j):=by
        intro j u;simp only[n];rw[Qc,XO,List.getElem?_range u];rfl
       have hem:∀b∈n.flatten,∃j,b∈q.fb (fn.ntmps+j):=by
        intro b g;obtain⟨f,hf,hbf⟩:=X3.1 g;obtain⟨j,_,rfl⟩:=X6.1 hf;exact⟨j,hbf⟩
       have hen:n.flatten.Nodup:=by
        have:∀m,(((List.range m).map λj=>q.fb (fn.ntmps+j)).flatten).Nodup:=by
         intro m;induction m with
         |zero=>simp
         |succ m ih=>
          rw[List.range_succ,QU,XZ];refine Qj.2 ⟨ih,by simpa using l.nodC _,λb g b' C Q=> ?_⟩
          subst Q;obtain⟨f,hf,hbf⟩:=X3.1 g;obtain⟨j,u,rfl⟩:=X6.1 hf;have y:=l.whoC _ b hbf;have h6:=l.whoC (fn.ntmps+m) b (by simpa using C)
          rw[y]at h6;simp only[Q9,Who.c.injEq]at h6;have:=List.mem_range.1 u;omega
        exact this _
       refine⟨q.F,q.St,vs0,fps',n,⟨rfl,hio4,hvl⟩,by rw[<-hUs];exact J.narrow _ _ _ husN,Z4t _ _ _ (by omega) (by simp[n,I]) (λj v u=> ?_),l.ext,l.org.F,l.org.St,λb g=>⟨l.org.St' b g,(l.st b g).2⟩,?_,?_⟩
       ·have hjl:j<ext.length:=by rw[<-I];exact(YQ.1 u).1
        obtain⟨⟨c,T,hc,hR⟩,_⟩:=U j v u;refine⟨c,T,hc,?_⟩;rw[hef j hjl];exact hR.narrow (TVal.noN_iff.1 (V v (Yl u))) λb g=>g
       ·have hx:=l.nodX;rw[Qe]at hx;refine Qj.2 ⟨hx,Qj.2 ⟨hen,M,λb g b' C Q=> ?_⟩,λb g b' C Q=> ?_⟩
        ·subst Q;obtain⟨j,u⟩:=hem b g;obtain⟨j',_,_,y⟩:=G b C;rw[l.whoC _ b u]at y;cases y
        ·subst Q;have y:=l.whoX b (by simpa using g)
         rcases Qr.1 C with C | C
         ·obtain⟨j,u⟩:=hem b C;rw[l.whoC _ b u]at y;cases y
         ·obtain⟨j',_,_,h6⟩:=G b C;rw[h6]at y;cases y
       ·intro b g;have:∃z,q.who b=some z:=by
         rcases Qr.1 g with g | g
         ·exact⟨_,l.whoX b (by simpa using g)⟩
         ·rcases Qr.1 g with g | g
          ·obtain⟨j,u⟩:=hem b g;exact⟨_,l.whoC _ b u⟩
          ·obtain⟨j',_,_,h6⟩:=G b g;exact⟨_,h6⟩
        obtain⟨z,hz⟩:=this;exact⟨(B b z hz).1,(B b z hz).2,hSn b z hz⟩
      ·
       have hfz:Z22 fz p=p.map λv=>{ v with tg:=v.tg.map λ_=>Tag.S }:=by unfold Z22;rw[QN H]
       rw[hfz];have hor2:i=[]/\∀v∈d,∀t∈v.tg,t.own=false:=by
        simp only[Xq]at hor;rcases hor with y | y
        ·exact absurd y H
        ·simp only[Q6,YU]at y;exact⟨y.1,by simpa[QD]using y.2⟩
       obtain⟨W,hno⟩:=hor2;have hia:Z0X modes args=[]:=Qv.1 (by rw[<-hio4,W];rfl)
       have hus0:us=p:=by rw[hUs,W,Qe]
       rw[hus0,hia,Qe]at J;rw[hia,W];have hrep:(List.replicate p.length ([]:List Nat)).flatten=[]:=Z0D _;have Y:(List.replicate ext.length ([]:List Nat)).flatten=[]:=Z0D _;refine⟨q.F,q.Al,vs0,List.replicate p.length [],List.replicate ext.length [],⟨rfl,rfl,by simpa using hvl⟩,by rw[Qe,Qe];exact Z0j.toS (λ_ h=>h) (Ghost.St_Al l) p vs0 fps' J,Z4t _ _ _ (by omega) (by simp[I]) (λj v u=> ?_),l.ext,l.org.F,λb g=>Ghost.St_Al l b (l.org.St b g),λb g=> ?_,?_,?_⟩
       ·obtain⟨⟨c,T,hc,hR⟩,_⟩:=U j v u;refine⟨c,T,hc,?_⟩;have hf0:=hR.fp_nil (hno v (Yl u));rw[hf0]at hR;rw[Z26];exact(hR.narrow (Al':=(·∈ ([]:List Nat))) (TVal.noN_iff.1 (V v (Yl u))) (by simp)).pres (Ghost.St_Al l) (λb _ h=>h) (λb _=>Z07.refl _ _ _) (by simp) (.inr λb _ _=>Z07.refl _ _ _)
       ·cases hz:q.who b with
        |none=>exact⟨l.org.St' b (g.2 hz),(l.st b (g.2 hz)).2⟩
        |some z=>exact⟨.inr (B b z hz).1,(B b z hz).2⟩
       ·rw[hrep,Y];simpa using M
       ·rw[hrep,Y];intro b g;obtain⟨j',_,_,h6⟩:=G b (by simpa using g)
        exact⟨(B b _ h6).1,(B b _ h6).2,λhA=>hA.1 _ h6⟩
     ·cases h
    ·cases h
   ·cases h
  cases e with
  |normal=>exact main he
  |ret=>exact main he
  |exit id=>cases he
end
end Go.PI
namespace Go.PI
structure Up (G G':Ghost):Prop where
 F:G'.F=G.F
 St:∀b,G.St b->G'.St b
 ad:G'.ad=G.ad
 Al:G'.Al=G.Al
 bx:∀b i,G'.who b=some (.a i)↔G.who b=some (.a i)
theorem Up.refl (G:Ghost):Up G G:=⟨rfl,λ_ h=>h,rfl,rfl,λ_ _=>Iff.rfl⟩
theorem Up.trans {d e f:Ghost}(h:Up d e)(k:Up e f):Up d f:=⟨k.F.trans h.F,λb g=>k.St b (h.St b g),k.ad.trans h.ad,k.Al.trans h.Al,λb i=>(k.bx b i).trans (h.bx b i)⟩
theorem Sim.up {G G':Ghost}(h:Sim G G'):Up G G':=⟨h.F,λb d=>by rw[h.St];exact d,h.ad,h.Al,h.bx⟩
theorem Up.lift {w:World}{G G':Ghost}(h:Up G G'){τ:Ty}{tg:List Tag}{cs:List Value}{x:El τ}{fp:List Nat}(d:Rp w G.F G.St G.Al τ tg cs x fp):Rp w G'.F G'.St G'.Al τ tg cs x fp:=by
 rw[h.F,h.Al];exact d.pres h.St (λ_ _ h=>h) (λb _=>Z07.refl _ _ _) (λb _=>⟨Z07.refl _ _ _,rfl⟩) (.inr λb _ _=>Z07.refl _ _ _)
theorem Up.calmer {w:World}{G G':Ghost}(h:Up G G'):Calmer w G w G':=⟨λw2 e=>
 ⟨λb d g o n cs j f=>e.1 b d (by rw[h.Al];exact g) o n cs (by rw[h.F];exact j) f,λi b d=>e.2 i b ((h.bx b i).2 d)⟩,λw2 e i b d=>e i b ((h.bx b i).2 d)⟩
def Z0r (w:World)(G:Ghost):List Mode->List Value->List TVal->List (List Nat)->List (Nat×Value)->Prop
 | [],[],[],[],[]=>True
 |.borrow τ ag::ms,x::xs,v::vs,f::d,b=>f=[]/\Z0f ag x/\Rp w G.F G.St G.Al v.τ v.tg (Z02 x) v.x []/\Z0r w G ms xs vs d b
 |.consume τ ag::ms,x::xs,v::vs,f::d,b=>Z0f ag x/\Rp w G.F G.St G.Al v.τ v.tg (Z02 x) v.x f/\Z0r w G ms xs vs d b
 |.eat τ ag::ms,x::xs,v::vs,f::d,b=>Z0f ag x/\Rp w G.F G.St G.Al v.τ v.tg (Z02 x) v.x f/\Z0r w G ms xs vs d b
 |.ptr τ::ms,x::xs,vs,d,l::b=>x=l.2/\Z0r w G ms xs vs d b
 |.clos g e::ms,x::xs,vs,d,b=>(e.length<=b.length/\x= .func (.func g) #[] ((b.take e.length).map (·.2)).toArray)/\Z0r w G ms xs vs d (b.drop e.length)
 |_,_,_,_,_=>False
section
variable {W0:Base}{M:Nat->Prop}{σ:State}{a:Act}{w w':World}{G:Ghost}{xs:List Nat}{P:Program}
variable {R:Type}{r:R}
theorem Z7N (I:Inv W0 M σ a w G xs){t:Nat}{u:TVal}(h:σ.slot t= .val u) :
  ∃G',Inv W0 M { σ with slots:=Z0G σ.slots t (.val u.freeze) } a w G' xs/\Up G G'/\(∀p,({ σ with slots:=Z0G σ.slots t (.val u.freeze) }:State).ct p=σ.ct p) /\
   Z0f u.ag (a.tmps.getD t undef)/\Rp w G'.F G'.St G'.Al u.τ u.freeze.tg (Z02 (a.tmps.getD t undef)) u.x []:=by
 have L:=I.slot t (Z0U (by rw[h];simp))
 rw[h]at L;obtain⟨A,K⟩:=L;have e:σ.content ⟨false,t,[]⟩=some u:=by simp[State.content,h]
 obtain⟨W,Q,g⟩:=I.recontent (p:=⟨false,t,[]⟩) (c':=u.alias) e rfl rfl (l:=Z02 (a.tmps.getD t undef)) (b:=none) (f':=[]) (fi:=G.fs t) rfl (K.alias (Ghost.St_Al I)) (by simp[Ghost.fpOf])
 obtain⟨v,D,J,z,H,T,y,X⟩:=Q.freeze;have d:(σ.setContent ⟨false,t,[]⟩ u.alias).slot t= .val u.alias:=by
  rw[Z0M e,QM ⟨rfl,Z0U (by rw[h];simp)⟩,h]
 have f:(σ.setContent ⟨false,t,[]⟩ u.alias).content ⟨false,t,[]⟩=some u.alias:=by simp[State.content,d]
 have n:Rp w v.F v.St v.Al u.τ u.freeze.tg (Z02 (a.tmps.getD t undef)) u.x []:=by
  rw[J,H,g.F,g.Al];exact K.freeze (λb k=>(y b).2 (.inl (by rw[g.St];exact k))) (Ghost.St_Al I) λb k=>(y b).2 (.inr k)
 have m:v.fs t=[]:=by
  have j:=D.slot t (Z0U (by rw[d];simp))
  rw[d]at j;exact j.2.fp_nil (by
   intro s U;obtain⟨V,_,rfl⟩:=X6.1 U;cases V<;>rfl)
 obtain⟨C,E,i⟩:=D.recontent (p:=⟨false,t,[]⟩) (c':=u.freeze) f rfl rfl (l:=Z02 (a.tmps.getD t undef)) (b:=none) (f':=[]) (fi:=[]) rfl n (by simp[Ghost.fpOf,m])
 have q:(σ.setContent ⟨false,t,[]⟩ u.alias).setContent ⟨false,t,[]⟩ u.freeze={ σ with slots:=Z0G σ.slots t (.val u.freeze) }:=by
  simp only[State.setContent,h];have:({ σ with slots:=Z0G σ.slots t (TV.val u.alias) }:State).slot t= .val u.alias:=by
   have:=d;simp only[State.setContent,h]at this;exact this
  rw[this];simp only[Z1x]
 rw[q]at E;have B:Up G C:=((g.up).trans ⟨J,λb k=>(y b).2 (.inl k),z,H,T⟩).trans i.up
 refine⟨C,by simpa using E,B,λp=> ?_,A,?_⟩
 ·rw[<-q];rw[Z3o (c':=u.freeze) f rfl,Z3o (c':=u.alias) e rfl]
 ·rw[i.F,i.St,i.Al];exact n
theorem Z7T {o:Operand}{t:Nat}{u:TVal}(h:σ.slotOf o=some (t,u)):o= .tmp t/\σ.slot t= .val u:=by
 unfold State.slotOf at h;split at h
 ·rename_i t';split at h
  ·rename_i d b;split at h
   ·simp only[Q9,Qs]at h;obtain⟨rfl,rfl⟩:=h;exact⟨rfl,b⟩
   ·cases h
  ·cases h
 ·cases h
theorem Z61 (I:Inv W0 M σ a w G xs){o:Operand}{τ:Ty}{v:TVal}(h:σ.lookAs o τ=some v):Rp w G.F G.St G.Al v.τ v.tg (Z02 (a.eval o)) v.x []/\Z0f v.ag (a.eval o):=by
 unfold State.lookAs at h;split at h
 ·rename_i b;split at h
  ·cases h;have d:=Z0v I o;rw[b]at d;obtain⟨e,_⟩:=d (by simp)
   rw[e];exact⟨⟨.S,none,0,rfl,rfl,Qq _,.inr (.inr ⟨rfl,rfl,.inl rfl⟩)⟩,rfl⟩
  ·cases h
 ·exact Z1p I h
theorem Z0w.less' {σ':State}{G':Ghost}(d:∀q,σ'.ct q=σ.ct q)(b:G'.ad=G.ad){p:Place}{u:Value}(h:Z0w σ' G' a w p u):Z0w σ G a w p u:=
 h.sim (λq=>(d q).symm) b.symm
end
end Go.PI
namespace Go.PI
section
variable {W0:Base}{M:Nat->Prop}{σ:State}{a:Act}{w w':World}{G:Ghost}{xs:List Nat}{P:Program}
variable {R:Type}{r:R}
theorem Z0r.up {G':Ghost}(e:Up G G'):(ms:List Mode)->(ys:List Value)->(vs:List TVal)->(b:List (List Nat))->(d:List (Nat×Value))->Z0r w G ms ys vs b d->Z0r w G' ms ys vs b d
 | [],ys,vs,b,d,h=>by cases ys<;>cases vs<;>cases b<;>cases d<;>exact h
 |.borrow τ ag::ms,ys,vs,b,d,h=>by
  cases ys<;>cases vs<;>cases b<;>first | exact h.elim | skip
  obtain⟨n,i,j,k⟩:=h;exact⟨n,i,e.lift j,Z0r.up e ms _ _ _ _ k⟩
 |.consume τ ag::ms,ys,vs,b,d,h=>by
  cases ys<;>cases vs<;>cases b<;>first | exact h.elim | skip
  obtain⟨i,j,k⟩:=h;exact⟨i,e.lift j,Z0r.up e ms _ _ _ _ k⟩
 |.eat τ ag::ms,ys,vs,b,d,h=>by
  cases ys<;>cases vs<;>cases b<;>first | exact h.elim | skip
  obtain⟨i,j,k⟩:=h;exact⟨i,e.lift j,Z0r.up e ms _ _ _ _ k⟩
 |.inout τ ag::ms,ys,vs,b,d,h=>by cases ys<;>cases vs<;>cases b<;>exact h.elim
 |.look τ ag::ms,ys,vs,b,d,h=>by cases ys<;>cases vs<;>cases b<;>first | exact h.elim | (cases d<;>exact h.elim)
 |.rptr τ::ms,ys,vs,b,d,h=>by cases ys<;>cases vs<;>cases b<;>first | exact h.elim | (cases d<;>exact h.elim)
 |.rclos g m::ms,ys,vs,b,d,h=>by cases ys<;>cases vs<;>cases b<;>first | exact h.elim | (cases d<;>exact h.elim)
 |.ptr τ::ms,ys,vs,b,d,h=>by
  cases ys<;>cases d<;>first | (cases vs<;>cases b<;>exact h.elim) | skip
  rename_i y ys l d;have f:y=l.2/\Z0r w G ms ys vs b d:=by cases vs<;>cases b<;>exact h
  have:=Z0r.up e ms _ _ _ _ f.2;cases vs<;>cases b<;>exact⟨f.1,this⟩
 |.clos g m::ms,ys,vs,b,d,h=>by
  cases ys<;>first | (cases vs<;>cases b<;>cases d<;>exact h.elim) | skip
  rename_i y ys;have f:(m.length<=d.length/\y= .func (.func g) #[] ((d.take m.length).map (·.2)).toArray)/\Z0r w G ms ys vs b (d.drop m.length):=by cases vs<;>cases b<;>cases d<;>exact h
  have:=Z0r.up e ms _ _ _ _ f.2;cases vs<;>cases b<;>cases d<;>exact⟨f.1,this⟩
def _root_.Go.PI.Mode.reads:Mode->Bool
 |.borrow .. => true
 |.clos .. => true
 |_=>false
theorem Z1I:(ms:List Mode)->(C:List Operand)->(σ:State)->(A:Args)->(k:Args->State->Option R)->(G:Ghost)->(xs:List Nat)->Z0n ms C σ A k=some r->Inv W0 M σ a w G xs ->
  ∃(vs:List TVal) (fps:List (List Nat)) (f:List (Nat×Value)) (j:Args) (σ':State) (G':Ghost),k j σ'=some r/\j.vals=A.vals++vs/\j.lent=A.lent++f.map (·.1) /\
   (j.writes=false->A.writes=false/\fps.flatten=[]/\f=[]/\ms.all Mode.reads=true)/\Inv W0 M σ' a w G' (fps.flatten++xs)/\Up G G'/\(∀p,σ'.ct p=σ.ct p)/\σ'.slots.length=σ.slots.length/\Z0r w G' ms (C.map a.eval) vs fps f /\
   ∀q∈f,Z0w σ G a w ⟨true,q.1,[]⟩ q.2
 | [],[],σ,A,k,G,xs,h,I=>⟨[],[],[],A,σ,G,h,by simp,by simp,λh=>⟨h,rfl,rfl,rfl⟩,by simpa using I,Up.refl _,λ_=>rfl,rfl,trivial,by simp⟩
 | [],_::_,σ,A,k,G,xs,h,I=>by simp[Z0n]at h
 |.borrow τ ag::ms,[],σ,A,k,G,xs,h,I=>by simp[Z0n]at h
 |.consume τ ag::ms,[],σ,A,k,G,xs,h,I=>by simp[Z0n]at h
 |.eat τ ag::ms,[],σ,A,k,G,xs,h,I=>by simp[Z0n]at h
 |.inout τ ag::ms,[],σ,A,k,G,xs,h,I=>by simp[Z0n]at h
 |.look τ ag::ms,[],σ,A,k,G,xs,h,I=>by simp[Z0n]at h
 |.rptr τ::ms,[],σ,A,k,G,xs,h,I=>by simp[Z0n]at h
 |.rclos g τs::ms,[],σ,A,k,G,xs,h,I=>by simp[Z0n]at h
 |.ptr τ::ms,[],σ,A,k,G,xs,h,I=>by simp[Z0n]at h
 |.clos g τs::ms,[],σ,A,k,G,xs,h,I=>by simp[Z0n]at h
 |.inout τ ag::ms,_::_,σ,A,k,G,xs,h,I=>by simp[Z0n]at h
 |.look τ ag::ms,_::_,σ,A,k,G,xs,h,I=>by simp[Z0n]at h
 |.rptr τ::ms,_::_,σ,A,k,G,xs,h,I=>by simp[Z0n]at h
 |.rclos g τs::ms,_::_,σ,A,k,G,xs,h,I=>by simp[Z0n]at h
 |.borrow τ ag::ms,o::C,σ,A,k,G,xs,h,I=>by
  simp only[Z0n]at h;split at h
  ·rename_i t u hso;split at h
   ·rename_i W;obtain⟨rfl,hsl⟩:=Z7T hso;obtain⟨G1,I1,hu1,X,y,hR⟩:=Z7N I hsl;obtain⟨vs,fps,f,j,σ',G',E,F,H,J,K,m,Q,T,U,d⟩:=Z1I ms C _ _ k G1 xs h I1;refine⟨u.freeze::vs,[]::fps,f,j,σ',G',E,by simp[F],H,λe=>by simpa[Mode.reads]using J e,by simpa using K,hu1.trans m,λp=>(Q p).trans (X p),T.trans (Z0E _ _ _),⟨rfl,?_,m.lift hR,U⟩,λq n=>(d q n).less' X hu1.ad⟩
    rw[<-W.2];exact y
   ·cases h
  ·split at h
   ·rename_i v hl;split at h
    ·rename_i W;obtain⟨hR,y⟩:=Z61 I hl;obtain⟨vs,fps,f,j,σ',G',E,F,H,J,K,m,Q,T,U,d⟩:=Z1I ms C _ _ k G xs h I;refine⟨v::vs,[]::fps,f,j,σ',G',E,by simp[F],H,λe=>by simpa[Mode.reads]using J e,by simpa using K,m,Q,T,⟨rfl,?_,m.lift hR,U⟩,d⟩
     rw[<-W.2];exact y
    ·cases h
   ·cases h
 |.consume τ ag::ms,o::C,σ,A,k,G,xs,h,I=>by
  simp only[Z0n]at h;split at h
  ·rename_i v σ1 B;split at h
   ·rename_i W;simp only[Q6,QG]at W;obtain⟨fp,G1,I1,V,_,hR,y⟩:=Z0Y I B;obtain⟨vs,fps,f,j,σ',G',E,F,H,J,K,m,Q,T,U,d⟩:=Z1I ms C _ _ k G1 _ h I1;refine⟨v::vs,fp::fps,f,j,σ',G',E,by simp[F],H,λe=>(by have:=(J e).1;cases this),?_,V.up.trans m,λp=>(Q p).trans (Z2z B p),?_,⟨?_,m.lift hR,U⟩,λq n=>(d q n).less' (Z2z B) V.ad⟩
    ·refine K.perm (QZ.2 λz=> ?_)
     simp only[QO,XA];omega
    ·rw[T,<-I1.len,I.len]
    ·rw[<-W.2];exact y
   ·cases h
  ·cases h
 |.eat τ ag::ms,o::C,σ,A,k,G,xs,h,I=>by
  simp only[Z0n]at h;split at h
  ·rename_i v σ1 B;split at h
   ·rename_i W;simp only[Q6,QG]at W;obtain⟨fp,G1,I1,V,_,hR,y⟩:=Z0Y I B;obtain⟨vs,fps,f,j,σ',G',E,F,H,J,K,m,Q,T,U,d⟩:=Z1I ms C _ _ k G1 _ h I1;refine⟨v::vs,fp::fps,f,j,σ',G',E,by simp[F],H,λe=>(by have:=(J e).1;cases this),?_,V.up.trans m,λp=>(Q p).trans (Z2z B p),?_,⟨?_,m.lift hR,U⟩,λq n=>(d q n).less' (Z2z B) V.ad⟩
    ·refine K.perm (QZ.2 λz=> ?_)
     simp only[QO,XA];omega
    ·rw[T,<-I1.len,I.len]
    ·rw[<-W.2];exact y
   ·cases h
  ·cases h
 |.ptr τ::ms,o::C,σ,A,k,G,xs,h,I=>by
  simp only[Z0n]at h;split at h
  ·rename_i p hpk;split at h
   ·rename_i e;have hp:=Z0v I o;rw[hpk]at hp;obtain⟨_,_,_,hpr⟩:=hp (by simp)
    obtain⟨bx,root,path⟩:=p;simp only[Place.whole,Q6,YU]at e;obtain⟨rfl,rfl⟩:=e;obtain⟨vs,fps,f,j,σ',G',E,F,H,J,K,m,Q,T,U,d⟩:=Z1I ms C _ _ k G xs h I;refine⟨vs,fps,(root,a.eval o)::f,j,σ',G',E,F,by simp[H],λe=>(by have:=(J e).1;cases this),K,m,Q,T,?_,λq n=> ?_⟩
    ·have:a.eval o=(root,a.eval o).2/\Z0r w G' ms (C.map a.eval) vs fps f:=⟨rfl,U⟩;cases vs<;>cases fps<;>exact this
    ·rcases Qp.1 n with rfl | n
     ·exact hpr
     ·exact d q n
   ·cases h
  ·cases h
 |.clos g τs::ms,o::C,σ,A,k,G,xs,h,I=>by
  simp only[Z0n]at h;split at h
  ·rename_i g' ps hpk;split at h
   ·rename_i e;simp only[Q6,QG,QD]at e;obtain⟨⟨rfl,Z⟩,hwh⟩:=e;have hp:=Z0v I o;rw[hpk]at hp;obtain⟨_,us,hv,D,hus⟩:=hp (by simp)
    obtain⟨vs,fps,f,j,σ',G',E,F,H,J,K,m,Q,T,U,d⟩:=Z1I ms C _ _ k G xs h I
    let l:List (Nat×Value):=(ps.map (·.root)).zip us.toList
    have hl0:l.length=τs.length:=by simp[l,D,Z]
    have hl1:l.map (·.1)=ps.map (·.root):=by
     simp only[l];rw[List.map_fst_zip (by simp[D])]
    have hl2:l.map (·.2)=us.toList:=by
     simp only[l];rw[List.map_snd_zip (by simp[D])]
    refine⟨vs,fps,l++f,j,σ',G',E,F,by simp only[H,QU,hl1,Qb],λe=> ?_,K,m,Q,T,?_,λq n=> ?_⟩
    ·obtain⟨q1,q2,q3,q4⟩:=J e;simp only[Xb,Xa,YU]at q1;refine⟨q1.1,q2,?_,by simp only[XS,Mode.reads,Qd];exact q4⟩
     rw[q3,Qe];simp[l,q1.2]
    ·have hx:(τs.length<=(l++f).length/\a.eval o= .func (.func g') #[] (((l++f).take τs.length).map (·.2)).toArray)/\Z0r w G' ms (C.map a.eval) vs fps ((l++f).drop τs.length):=by
      rw[<-hl0,YD,YM]
      ·exact⟨⟨by simp,by rw[hl2,hv]⟩,U⟩
      ·rfl
      ·rfl
     generalize l++f=L at hx;cases vs<;>cases fps<;>cases L<;>exact hx
    ·rcases Qr.1 n with n | n
     ·obtain⟨i,hi,rfl⟩:=X2.1 n;have Y:i<ps.length:=by rw[Z,<-hl0];exact hi
      obtain⟨q1,q2,q3⟩:=hus i Y;have e:=hwh ps[i] (Q7 _);simp only[Place.whole,Q6,YU]at e;have hq1:l[i].1=ps[i].root:=by simp[l]
      have hq2:l[i].2=us.getD i undef:=by
       have:i<us.size:=by rw[D];exact Y
       simp[l,this]
      rw[hq1,hq2];have:ps[i]=⟨true,ps[i].root,[]⟩:=by
       have e1:=e.1;have e2:=e.2;cases hpi:ps[i]with
       |mk b r p=>rw[hpi]at e1 e2;simp only at e1 e2;subst e1;subst e2;rfl
      rw[this]at q3;exact q3
     ·exact d q n
   ·cases h
  ·cases h
end
end Go.PI
namespace Go.PI
section
variable {W0:Base}{M:Nat->Prop}{σ:State}{a:Act}{w w':World}{G:Ghost}{xs:List Nat}{P:Program}
def Z2N (G:Ghost)(b:List (Nat×Value)):Prop:=∀q∈b,q.2= .pointer (some ⟨G.ad q.1,0,none⟩)
theorem Z7g {b:List (Nat×Value)}(h:Z2N G b):b.map (·.2)=(b.map λq=>G.ad q.1).map λl=>Value.pointer (some ⟨l,0,none⟩):=by
 rw[Yq];exact Yd λq d=>h q d
theorem Z2q (I:Inv W0 M σ a w G xs):(ms:List Mode)->(ys:List Value)->(vs:List TVal)->(d:List (List Nat))->(e:List (Nat×Value))->Z0r w G ms ys vs d e->(∀v∈vs,v.noN=true)->Z2N G e ->
  Z0t w G.F G.St ms vs ys d (e.map λq=>G.ad q.1)
 | [],ys,vs,d,e,h,_,_=>by cases ys<;>cases vs<;>cases d<;>cases e<;>first | trivial | exact h.elim
 |.borrow τ ag::ms,ys,vs,d,e,h,i,j=>by
  cases ys<;>cases vs<;>cases d<;>first | exact h.elim | skip
  rename_i y ys v vs f d;obtain⟨B,k,n,p⟩:=h;refine⟨B,k,?_,Z2q I ms _ _ _ _ p (λu z=>i u (Qa _ z)) j⟩
  exact(n.narrow (Al':=G.St) (TVal.noN_iff.1 (i v (by simp))) (by simp)).toS (λ_ h=>h) (λ_ h=>h)
 |.consume τ ag::ms,ys,vs,d,e,h,i,j=>by
  cases ys<;>cases vs<;>cases d<;>first | exact h.elim | skip
  rename_i y ys v vs f d;obtain⟨k,n,p⟩:=h;exact⟨k,n.narrow (TVal.noN_iff.1 (i v (by simp))) λb C=>C,Z2q I ms _ _ _ _ p (λu z=>i u (Qa _ z)) j⟩
 |.eat τ ag::ms,ys,vs,d,e,h,i,j=>by
  cases ys<;>cases vs<;>cases d<;>first | exact h.elim | skip
  rename_i y ys v vs f d;obtain⟨k,n,p⟩:=h;exact⟨k,n.narrow (TVal.noN_iff.1 (i v (by simp))) λb C=>C,Z2q I ms _ _ _ _ p (λu z=>i u (Qa _ z)) j⟩
 |.inout τ ag::ms,ys,vs,d,e,h,_,_=>by cases ys<;>cases vs<;>cases d<;>exact h.elim
 |.look τ ag::ms,ys,vs,d,e,h,_,_=>by cases ys<;>cases vs<;>cases d<;>first | exact h.elim | (cases e<;>exact h.elim)
 |.rptr τ::ms,ys,vs,d,e,h,_,_=>by cases ys<;>cases vs<;>cases d<;>first | exact h.elim | (cases e<;>exact h.elim)
 |.rclos g m::ms,ys,vs,d,e,h,_,_=>by cases ys<;>cases vs<;>cases d<;>first | exact h.elim | (cases e<;>exact h.elim)
 |.ptr τ::ms,ys,vs,d,e,h,i,j=>by
  cases ys<;>cases e<;>first | (cases vs<;>cases d<;>exact h.elim) | skip
  rename_i y ys l e;have A:y=l.2/\Z0r w G ms ys vs d e:=by cases vs<;>cases d<;>exact h
  have k:=Z2q I ms _ _ _ _ A.2 i (λq r=>j q (Qa _ r))
  have B:y= .pointer (some ⟨G.ad l.1,0,none⟩):=A.1.trans (j l (by simp))
  cases vs<;>cases d<;>exact⟨B,k⟩
 |.clos g m::ms,ys,vs,d,e,h,i,j=>by
  cases ys<;>first | (cases vs<;>cases d<;>cases e<;>exact h.elim) | skip
  rename_i y ys;have A:(m.length<=e.length/\y= .func (.func g) #[] ((e.take m.length).map (·.2)).toArray)/\Z0r w G ms ys vs d (e.drop m.length):=by cases vs<;>cases d<;>cases e<;>exact h
  obtain⟨⟨H,E⟩,J⟩:=A;have k:=Z2q I ms _ _ _ _ J i (λq r=>j q (Xc r))
  rw[Z7g (λq r=>j q (X7 r)),List.map_take]at E
  have D:(m.length<=(e.map λq=>G.ad q.1).length/\y= .func (.func g) #[] (((e.map λq=>G.ad q.1).take m.length).map λl=>Value.pointer (some ⟨l,0,none⟩)).toArray)/\Z0t w G.F G.St ms vs ys d ((e.map λq=>G.ad q.1).drop m.length):=by
   refine⟨⟨by simpa using H,E⟩,?_⟩
   rw[<-List.map_drop];exact k
  generalize (e.map λq=>G.ad q.1)=L at D
  cases vs<;>cases d<;>cases L<;>exact D
theorem Z4r (I:Inv W0 M σ a w G xs):(ms:List Mode)->(ys:List Value)->(vs:List TVal)->(d:List (List Nat))->(b:List (Nat×Value))->Z0r w G ms ys vs d b->ms.all Mode.reads=true->Z2N G b ->
  Z0t w G.F G.Al ms vs ys d (b.map λq=>G.ad q.1)
 | [],ys,vs,d,b,h,_,_=>by cases ys<;>cases vs<;>cases d<;>cases b<;>first | trivial | exact h.elim
 |.borrow τ ag::ms,ys,vs,d,b,h,e,i=>by
  cases ys<;>cases vs<;>cases d<;>first | exact h.elim | skip
  rename_i y ys v vs f d;obtain⟨u,k,z,A⟩:=h;exact⟨u,k,z.toS (λ_ h=>h) (Ghost.St_Al I),Z4r I ms _ _ _ _ A (by simpa[Mode.reads]using e) i⟩
 |.consume τ ag::ms,ys,vs,d,b,h,e,i=>by simp[Mode.reads]at e
 |.eat τ ag::ms,ys,vs,d,b,h,e,i=>by simp[Mode.reads]at e
 |.inout τ ag::ms,ys,vs,d,b,h,e,_=>by simp[Mode.reads]at e
 |.look τ ag::ms,ys,vs,d,b,h,e,_=>by simp[Mode.reads]at e
 |.rptr τ::ms,ys,vs,d,b,h,e,_=>by simp[Mode.reads]at e
 |.rclos g j::ms,ys,vs,d,b,h,e,_=>by simp[Mode.reads]at e
 |.ptr τ::ms,ys,vs,d,b,h,e,i=>by simp[Mode.reads]at e
 |.clos g j::ms,ys,vs,d,b,h,e,i=>by
  cases ys<;>first | (cases vs<;>cases d<;>cases b<;>exact h.elim) | skip
  rename_i y ys;have r:(j.length<=b.length/\y= .func (.func g) #[] ((b.take j.length).map (·.2)).toArray)/\Z0r w G ms ys vs d (b.drop j.length):=by cases vs<;>cases d<;>cases b<;>exact h
  obtain⟨⟨B,p⟩,C⟩:=r;have k:=Z4r I ms _ _ _ _ C (by simpa[Mode.reads]using e) (λq m=>i q (Xc m))
  rw[Z7g (λq m=>i q (X7 m)),List.map_take]at p
  have n:(j.length<=(b.map λq=>G.ad q.1).length/\y= .func (.func g) #[] (((b.map λq=>G.ad q.1).take j.length).map λl=>Value.pointer (some ⟨l,0,none⟩)).toArray)/\Z0t w G.F G.Al ms vs ys d ((b.map λq=>G.ad q.1).drop j.length):=by
   refine⟨⟨by simpa using B,p⟩,?_⟩
   rw[<-List.map_drop];exact k
  generalize (b.map λq=>G.ad q.1)=L at n
  cases vs<;>cases d<;>cases L<;>exact n
end
end Go.PI
namespace Go.PI
section
variable {W0:Base}{M:Nat->Prop}{σ:State}{a:Act}{w w':World}{G:Ghost}{P:Program}
theorem Z3q {gs ads R ks:List Nat}(I:Inv W0 M σ a w G (gs++ks))(l:∀b∈ads,∃i,G.who b=some (.a i)/\σ.boxAt i=none)(hN:σ.noN\/gs++ads=[])
  {Sc St':Nat->Prop} {F':Nat->Nat} (hc1:∀b,G.St b->Sc b) (hc2:∀b,Sc b->G.Al b)
  (C:Ext (·∈ gs++ads) w w') (hF:∀b,b<w.heap.size->b ∉ gs++ads->F' b=G.F b) (hS1:∀b,Sc b->St' b) (hS2:∀b,St' b->(Sc b\/w.heap.size<=b\/b∈gs++ads)/\b<w'.heap.size)
  (hnd:(R++ads).Nodup) (hR:∀b∈R++ads,(w.heap.size<=b\/b∈gs++ads)/\b<w'.heap.size/\¬ St' b) :
  ∃G',Inv W0 M σ a w' G' (R++ks)/\G'.F=F'/\G'.ad=G.ad/\(∀b,G.St b->G'.St b)/\(∀b,St' b->G'.Al b)/\((∀b,Sc b->G.St b)->∀b,St' b->G'.St b)/\(∀b∈R,G'.Al b)/\(∀b∈ads,G'.who b=G.who b)/\(gs++ads=[]->Calmer w G w' G')/\(ads=[]->Z5j w G w' G')/\(∀b,b<w.heap.size->G.Al b->G'.Al b)/\∀b z,G.who b=some z->z≠ .x->G'.who b=some z:=by
 classical
 let ab:Nat->Prop:=λb=>w.heap.size<=b\/b∈gs
 let G':Ghost:={ F:=F',St:=λb=>G.St b\/(ab b/\St' b),who:=λb=>if b∈R then some .x else if b∈gs then (if St' b then none else some .x) else if w.heap.size<=b then none else G.who b,fs:=G.fs,fb:=G.fb,ad:=G.ad }
 have q:∀b∈gs,G.who b=some .x:=λb d=>I.whoX b (Qh _ d)
 have hkx:∀b∈ks,G.who b=some .x:=λb d=>I.whoX b (Qo _ d)
 have hkg:∀b∈ks,b ∉ gs:=λb d A=>(Qj.1 I.nodX).2.2 b A b d rfl
 have m:∀b z,G.who b=some z->b<w.heap.size:=λb z h=>(I.lt b z h).1
 have L:∀b∈ads,b ∉ R:=λb d p=>(Qj.1 hnd).2.2 b p b d rfl
 have hadg:∀b∈ads,b ∉ gs:=λb d A=>by
  obtain⟨i,h,_⟩:=l b d;rw[q b A]at h;cases h
 have g:∀b,b∈gs++ads↔b∈gs\/b∈ads:=λb=>Qr
 have hwx:∀b z,G.who b=some z->z≠ .x->b ∉ gs:=λb z h B A=>by rw[q b A]at h;cases h;exact B rfl
 have e:∀b z,G.who b=some z->z≠ .x->G'.who b=some z:=by
  intro b z h B;have f:=hwx b z h B;have X:=m b z h;have V:b ∉ R:=by
   intro p;rcases (hR b (Qh _ p)).1 with u | u
   ·omega
   ·rcases (g b).1 u with E | E
    ·exact f E
    ·exact L b E p
  show (if b∈R then some .x else if b∈gs then (if St' b then none else some .x) else if w.heap.size<=b then none else G.who b)=some z
  rw[QN V,QN f,QN (by omega)];exact h
 have T:∀b,G.who b=none->b<w.heap.size->G'.who b=none:=by
  intro b h Q;have f:b ∉ gs:=λA=>by rw[q b A]at h;cases h
  have V:b ∉ R:=by
   intro p;rcases (hR b (Qh _ p)).1 with u | u
   ·omega
   ·rcases (g b).1 u with E | E
    ·exact f E
    ·exact L b E p
  show (if b∈R then some .x else if b∈gs then (if St' b then none else some .x) else if w.heap.size<=b then none else G.who b)=none
  rw[QN V,QN f,QN (by omega)];exact h
 have K:∀b∈R,G'.who b=some .x:=λb d=>QM d
 have hw:∀b,G'.who b=(if b∈R then some .x else if b∈gs then (if St' b then none else some .x) else if w.heap.size<=b then none else G.who b):=λ_=>rfl
 have hgw:∀b∈gs,G'.who b=some .x\/(G'.who b=none/\St' b):=by
  intro b d;by_cases p:b∈R
  ·exact .inl (K b p)
  ·by_cases J:St' b
   ·exact .inr ⟨by rw[hw,QN p,QM d,QM J],J⟩
   ·exact .inl (by rw[hw,QN p,QM d,QN J])
 have U:∀b,St' b->b ∉ R:=λb d p=>(hR b (Qh _ p)).2.2 d
 have aa:∀b,ab b->St' b->G'.who b=none:=by
  intro b D J;by_cases A:b∈gs
  ·rw[hw,QN (U b J),QM A,QM J]
  ·rcases D with h | h
   ·rw[hw,QN (U b J),QN A,QM h]
   ·exact absurd h A
 have Y:∀b,b<w.heap.size->G.Al b->G'.Al b:=by
  intro b Q d;cases B:G.who b with
  |none=>exact⟨λi h=>(by rw[T b B Q]at h;cases h),λ_=> .inl (d.2 B)⟩
  |some z=>
   by_cases hzx:z= .x
   ·subst hzx;by_cases A:b∈gs
    ·rcases hgw b A with h | ⟨h,J⟩
     ·exact⟨λi r=>(by rw[h]at r;cases r),λr=>(by rw[h]at r;cases r)⟩
     ·exact⟨λi r=>(by rw[h]at r;cases r),λ_=> .inr ⟨.inr A,J⟩⟩
    ·have:G'.who b=some .x:=by
      by_cases p:b∈R
      ·exact K b p
      ·rw[hw,QN p,QN A,QN (by omega)];exact B
     exact⟨λi r=>(by rw[this]at r;cases r),λr=>(by rw[this]at r;cases r)⟩
   ·have:=e b z B hzx;exact⟨λi r=>(by rw[this]at r;cases r;exact d.1 i B),λr=>(by rw[this]at r;cases r)⟩
 have hkb:∀b,b<w.heap.size->b ∉ gs++ads->Z07 w G.F w' F' b/\F' b=G.F b:=λb d H=>
  ⟨Z07.of_block (C.block b d H) (by rw[hF b d H];exact Qq _),hF b d H⟩
 have hStm:∀b,G.St b->b ∉ gs++ads:=by
  intro b d H;rcases (g b).1 H with h | h
  ·have:=(I.st b d).1;rw[q b h]at this;cases this
  ·obtain⟨i,f,_⟩:=l b h;have:=(I.st b d).1;rw[f]at this;cases this
 have Z:gs++ads=[]->∀b,b<w.heap.size->Z07 w G.F w' F' b:=λW b d=>(hkb b d (by rw[W];simp)).1
 have hboxm:∀i v,σ.boxAt i=some v->G.ad i ∉ gs++ads:=by
  intro i v hv H;have f:=(I.box i v hv).2;rcases (g _).1 H with h | h
  ·rw[q _ h]at f;cases f
  ·obtain⟨j,X,V⟩:=l _ h;rw[f]at X;cases X;rw[hv]at V;cases V
 have hS:Same σ w G w' G':=⟨rfl,rfl,rfl,e,Y,λb h=> .inl h,λb h=>(hkb b (I.st b h).2 (hStm b h)).1,λb z h f X=>hkb b (m b z h) (λH=>by
   rcases (g b).1 H with V | V
   ·exact hwx b z h X V
   ·obtain⟨i,u,_⟩:=l b V;rw[h]at u;cases u;exact f i rfl),λi v h=>C.block _ (m _ _ (I.box i v h).2) (hboxm i v h),hN.imp id λW b d _=>Z W b d⟩
 have hkR:∀b∈ks,b ∉ R:=by
  intro b d p;have Q:=m b _ (hkx b d);rcases (hR b (Qh _ p)).1 with u | u
  ·omega
  ·rcases (g b).1 u with E | E
   ·exact hkg b d E
   ·exact L b E p
 have hkw:∀b∈ks,G'.who b=some .x:=λb d=>by
  rw[hw,QN (hkR b d),QN (hkg b d),QN (by have:=m b _ (hkx b d);omega)]
  exact hkx b d
 refine⟨G',?_,rfl,rfl,λb h=> .inl h,λb d=> ?_,λhsc b d=> ?_,λb d=>⟨λi h=>(by rw[K b d]at h;cases h),λh=>(by rw[K b d]at h;cases h)⟩,λb d=> ?_,λW=>⟨λw2 k=> ?_,λw2 k i b d=> ?_⟩,λW w2 k i b d=> ?_,Y,e⟩
 ·refine I.world hS (λb d=> ?_) (λb z d=> ?_) ?_ (λb d=>by
   rcases Qr.1 d with d | d
   ·exact K b d
   ·exact hkw b d) (Qj.2 ⟨(Qj.1 hnd).1,(Qj.1 I.nodX).2.1,λx hx y hy hxy=>by subst hxy;exact hkR x hy hx⟩) ⟨λb d hM=> ?_,λb d=> .inl (I.org.St b d),λb d=> ?_⟩
  ·rcases d with d | ⟨D,J⟩
   ·exact⟨T b (I.st b d).1 (I.st b d).2,by have:=(I.st b d).2;have:=C.size;omega⟩
   ·exact⟨aa b D J,(hS2 b J).2⟩
  ·by_cases p:b∈R
   ·obtain⟨f,X,_⟩:=hR b (Qh _ p);refine⟨X,?_⟩;rcases f with f | f
    ·exact .inl (by have:=I.ext.size;omega)
    ·rcases (g b).1 f with h | h
     ·exact(I.lt b _ (q b h)).2
     ·obtain⟨i,u,_⟩:=l b h;exact(I.lt b _ u).2
   ·by_cases A:b∈gs
    ·have:=I.lt b _ (q b A);exact⟨by have:=C.size;omega,this.2⟩
    ·have hb':(if w.heap.size<=b then none else G.who b)=some z:=by
      have E:G'.who b=(if w.heap.size<=b then none else G.who b):=by
       show (if b∈R then some .x else if b∈gs then (if St' b then none else some .x) else if w.heap.size<=b then none else G.who b)=_
       rw[QN p,QN A]
      rw[<-E];exact d
     split at hb'
     ·cases hb'
     ·have:=I.lt b z hb';exact⟨by have:=C.size;omega,this.2⟩
  ·refine⟨C.os.trans I.ext.os,C.tape.trans I.ext.tape,C.output.trans I.ext.output,by have:=I.ext.size;have:=C.size;omega,λb d hM=> ?_⟩
   rw[C.block b (by have:=I.ext.size;omega) (λH=> ?_)]
   ·exact I.ext.block b d hM
   ·have B:∃z,G.who b=some z:=by
     rcases (g b).1 H with h | h
     ·exact⟨_,q b h⟩
     ·obtain⟨i,u,_⟩:=l b h;exact⟨_,u⟩
    obtain⟨z,B⟩:=B;rcases (I.lt b z B).2 with h | h
    ·omega
    ·exact hM h
  ·have hbw:b<w.heap.size:=by have:=I.ext.size;omega
   show F' b=_
   rw[hF b hbw (λH=> ?_)]
   ·exact I.org.F b d hM
   ·have B:∃z,G.who b=some z:=by
     rcases (g b).1 H with h | h
     ·exact⟨_,q b h⟩
     ·obtain⟨i,u,_⟩:=l b h;exact⟨_,u⟩
    obtain⟨z,B⟩:=B;rcases (I.lt b z B).2 with h | h
    ·omega
    ·exact hM h
  ·rcases d with d | ⟨D,_⟩
   ·exact I.org.St' b d
   ·rcases D with h | h
    ·exact .inr (.inl (by have:=I.ext.size;omega))
    ·exact .inr (I.lt b _ (q b h)).2
 ·obtain⟨f,X⟩:=hS2 b d;by_cases D:ab b
  ·exact⟨λi h=>(by rw[aa b D d]at h;cases h),λ_=> .inr ⟨D,d⟩⟩
  ·have Q:b<w.heap.size:=by
    rcases Yi b w.heap.size with h | h
    ·exact h
    ·exact absurd (.inl h) D
   rcases f with f | f | f
   ·exact Y b Q (hc2 b f)
   ·exact absurd (.inl f) D
   ·rcases (g b).1 f with h | h
    ·exact absurd (.inr h) D
    ·exact absurd d (hR b (Qo _ h)).2.2
 ·obtain⟨f,X⟩:=hS2 b d;rcases f with f | f | f
  ·exact .inl (hsc b f)
  ·exact .inr ⟨.inl f,d⟩
  ·rcases (g b).1 f with h | h
   ·exact .inr ⟨.inr h,d⟩
   ·exact absurd d (hR b (Qo _ h)).2.2
 ·obtain⟨i,u,_⟩:=l b d;rw[e b _ u (by simp),u]
 ·refine⟨λb d ha o n cs D f=> ?_,λi b d=> ?_⟩
  ·have hk:=Z W b d;exact k.1 b (by have:=C.size;omega) (Y b d ha) o n cs (Qx D hk.1) (hk.2.1 o n cs D f)
  ·rw[k.2 i b (e b _ d (by simp))]
   exact C.block b (m b _ d) (by rw[W];simp)
 ·rw[k i b (e b _ d (by simp))]
  exact C.block b (m b _ d) (by rw[W];simp)
 ·rw[k i b (e b _ d (by simp))]
  exact C.block b (m b _ d) (by rw[W,Qe];exact hwx b _ d (by simp))
end
end Go.PI
namespace Go.PI
noncomputable def State.lend (σ:State):List Nat->State
 | []=>σ
 |r::rs=>((σ.loosen true r).putBox r none).lend rs
theorem Z50:(rs:List Nat)->(σ:State)->(i:Nat)->(σ.lend rs).slot i=σ.slot i\/(σ.lend rs).slot i= .dead
 | [],σ,i=> .inl rfl
 |r::rs,σ,i=>by
  have b:=Z50 rs ((σ.loosen true r).putBox r none) i;have d:((σ.loosen true r).putBox r none).slot i=σ.slot i\/((σ.loosen true r).putBox r none).slot i= .dead:=by
   rw[Z1E,Z0i];exact TV.loosen_or _ _ _
  rcases b with b | b
  ·rcases d with d | d
   ·exact .inl (b.trans d)
   ·exact .inr (b.trans d)
  ·exact .inr b
theorem Z7d:(rs:List Nat)->(σ:State)->(σ.lend rs).slots.length=σ.slots.length/\(σ.lend rs).boxes.length=σ.boxes.length
 | [],σ=>⟨rfl,rfl⟩
 |r::rs,σ=>by
  have:=Z7d rs ((σ.loosen true r).putBox r none);refine⟨this.1.trans ?_,this.2.trans ?_⟩
  ·simp[State.putBox,State.loosen,Z0b]
  ·simp[State.putBox,State.loosen,Z0b,Z0E]
theorem Z4g:(rs:List Nat)->(σ:State)->(i:Nat)->i ∉ rs->(σ.lend rs).boxAt i=σ.boxAt i
 | [],σ,i,h=>rfl
 |r::rs,σ,i,h=>by
  simp only[Qp,not_or]at h;have b:=Z4g rs ((σ.loosen true r).putBox r none) i h.2;refine b.trans ?_;rw[Z0C,QN (by rintro⟨d,_⟩;exact h.1 d.symm)]
  rfl
theorem Z3l:(rs:List Nat)->(σ:State)->(i:Nat)->i∈rs\/σ.boxAt i=none->(σ.lend rs).boxAt i=none
 | [],σ,i,h=>by
  rcases h with h | h
  ·cases h
  ·exact h
 |r::rs,σ,i,h=>by
  refine Z3l rs ((σ.loosen true r).putBox r none) i ?_;by_cases b:i=r
  ·right;subst b;rw[Z0C];split
   ·rfl
   ·rename_i e;have:¬ i<σ.boxes.length:=λf=>e ⟨rfl,by simpa[State.loosen,Z0b]using f⟩
    exact Z2e _ _ (by simpa[State.loosen,Z0b]using Nat.le_of_not_lt this)
  ·rcases h with h | h
   ·left;rcases Qp.1 h with h | h
    ·exact absurd h b
    ·exact h
   ·right;rw[Z0C,QN (by rintro⟨d,_⟩;exact b d.symm)]
    exact h
section
variable {W0:Base}{M:Nat->Prop}{a:Act}{w:World}
theorem Z7e:(rs:List Nat)->(σ:State)->(G:Ghost)->(xs:List Nat)->(ext:List TVal)->rs.Nodup->σ.boxesAt rs=some ext->Inv W0 M σ a w G xs ->
  ∃(b:List (List Nat)) (G':Ghost),Inv W0 M (σ.lend rs) a w G' (b.flatten++xs)/\Sim G G'/\b.length=rs.length /\
   ∀(j:Nat) (v:TVal),ext[j]? = some v->(∃c T,w.heap[G.ad (rs.getD j 0)]? = some (.cells c T (0,0))/\Rp w G.F G.St G.Al v.τ v.tg c.toList v.x (b.getD j []))/\G.who (G.ad (rs.getD j 0))=some (.a (rs.getD j 0)) /\
    ∀i,i<σ.slots.length->Z1s (rs.getD j 0) ((σ.lend rs).slot i) (a.tmps.getD i undef) (Z2k (G.ad (rs.getD j 0)) v.τ)
 | [],σ,G,xs,ext,D,h,I=>by
  simp only[State.boxesAt,Q9]at h;subst h;exact⟨[],G,I,Sim.refl _,rfl,λj v g=>by simp at g⟩
 |r::rs,σ,G,xs,ext,D,h,I=>by
  simp only[State.boxesAt]at h;split at h
  ·rename_i v l X U;cases h;obtain⟨V,A⟩:=Xx.1 D;obtain⟨J,L,d,Y,f,m⟩:=I.takeBox X;have y:((σ.loosen true r).putBox r none).boxesAt rs=some l:=by
    have:∀(rs:List Nat) (l:List TVal),r ∉ rs->σ.boxesAt rs=some l->((σ.loosen true r).putBox r none).boxesAt rs=some l:=by
     intro rs;induction rs with
     |nil=>intro l _ h;exact h
     |cons q rs Z=>
      intro l B h;simp only[Qp,not_or]at B;simp only[State.boxesAt]at h ⊢;rw[Z0C,QN (by rintro⟨Q,_⟩;exact B.1 Q)]
      split at h
      ·rename_i u l' W p;cases h;rw[Z l' B.2 p];have:(σ.loosen true r).boxAt q=some u:=W;rw[this]
      ·cases h
    exact this rs l V U
   obtain⟨b,K,P,C,k,e⟩:=Z7e rs _ J _ l A y L;refine⟨G.fb r::b,K,?_,d.trans C,by simp[k],λj u g=> ?_⟩
   ·refine P.perm (QZ.2 λz=> ?_)
    simp only[QO,XA];omega
   ·cases j with
    |zero=>
     simp only[YF,Q9]at g;subst g;refine⟨f,Y,λi n=> ?_⟩
     have:=m i n;refine this.or_dead ?_;have R:=Z50 rs ((σ.loosen true r).putBox r none) i;exact R
    |succ j=>
     obtain⟨E,H,q3⟩:=e j u (by simpa using g)
     simp only[List.getD_cons_succ];rw[d.ad,d.F,d.St,d.Al]at E;rw[d.ad]at H;refine⟨E,(d.bx _ _).1 H,λi n=> ?_⟩
     have:=q3 i (by simpa[State.putBox,State.loosen,Z0b]using n)
     rw[d.ad]at this;exact this
  ·cases h
end
end Go.PI
namespace Go.PI
theorem Z6M {α:Type}:(l:List α)->(i j:Nat)->(a b:α)->i≠j->Z0G (Z0G l i a) j b=Z0G (Z0G l j b) i a
 | [],_,_,_,_,_=>rfl
 |_::_,0,0,_,_,h=>absurd rfl h
 |_::_,0,_+1,_,_,_=>rfl
 |_::_,_+1,0,_,_,_=>rfl
 |x::l,i+1,j+1,a,b,h=>by
  simp only[Z2u,Z28,Z1h];rw[Z6M l i j a b (λd=>h (by rw[d]))]
noncomputable def State.lay (σ:State):List Nat->List TVal->State
 |r::rs,v::vs=>(σ.putBox r (some v)).lay rs vs
 |_,_=>σ
theorem Z8M:(rs:List Nat)->(vs:List TVal)->(σ:State)->(σ.lay rs vs).slots=σ.slots
 | [],vs,σ=>by cases vs<;>rfl
 |r::rs,[],σ=>rfl
 |r::rs,v::vs,σ=>Z8M rs vs (σ.putBox r (some v))
theorem Z6s:(rs:List Nat)->(vs:List TVal)->(σ σ':State)->rs.length=vs.length->σ.slots=σ'.slots->(σ.putBoxes rs vs).slots=(σ'.lend rs).slots
 | [],vs,σ,σ',h,b=>by cases vs<;>exact b
 |r::rs,[],σ,σ',h,b=>by simp at h
 |r::rs,v::vs,σ,σ',h,b=>Z6s rs vs _ _ (by simpa using h) (by simp only[State.putBox,State.loosen,Z0b,b])
theorem Z7f:(rs:List Nat)->(σ:State)->(r:Nat)->(v:TVal)->r ∉ rs->(σ.lend rs).putBox r (some v)=(σ.putBox r (some v)).lend rs
 | [],σ,r,v,h=>rfl
 |q::rs,σ,r,v,h=>by
  simp only[Qp,not_or]at h;simp only[State.lend];rw[Z7f rs _ r v h.2];congr 1;simp only[State.putBox,State.loosen,Z0b];rw[Z6M _ _ _ _ _ (Ne.symm h.1)]
theorem Z7c:(rs:List Nat)->(vs:List TVal)->(σ:State)->rs.Nodup->rs.length=vs.length->(σ.lend rs).lay rs vs=σ.putBoxes rs vs
 | [],vs,σ,b,h=>by cases vs<;>rfl
 |r::rs,[],σ,b,h=>by simp at h
 |r::rs,v::vs,σ,b,h=>by
  obtain⟨e,d⟩:=Xx.1 b;show (((σ.loosen true r).putBox r none).lend rs |>.putBox r (some v)).lay rs vs=((σ.loosen true r).putBox r (some v)).putBoxes rs vs
  rw[Z7f rs _ r v e];have:((σ.loosen true r).putBox r none).putBox r (some v)=(σ.loosen true r).putBox r (some v):=by simp only[State.putBox,Z1x]
  rw[this];exact Z7c rs vs _ d (by simpa using h)
section
variable {W0:Base}{M:Nat->Prop}{a:Act}{w:World}
theorem Z7Z:(rs:List Nat)->(ext:List TVal)->(d:List (List Nat))->(σ:State)->(G:Ghost)->(ys:List Nat)->rs.Nodup->rs.length=ext.length->d.length=ext.length->Inv W0 M σ a w G (d.flatten++ys) ->
  (∀(j:Nat) (v:TVal),ext[j]? = some v->(∃c T,w.heap[G.ad (rs.getD j 0)]? = some (.cells c T (0,0))/\Rp w G.F G.St G.Al v.τ v.tg c.toList v.x (d.getD j []))/\G.who (G.ad (rs.getD j 0))=some (.a (rs.getD j 0))/\rs.getD j 0<σ.boxes.length /\
    ∀i,i<σ.slots.length->Z1s (rs.getD j 0) (σ.slot i) (a.tmps.getD i undef) (Z2k (G.ad (rs.getD j 0)) v.τ)) ->
  ∃G',Inv W0 M (σ.lay rs ext) a w G' ys/\G'.F=G.F/\G'.St=G.St/\G'.Al=G.Al/\G'.ad=G.ad/\∀b k,G'.who b=some (.a k)↔G.who b=some (.a k)
 | [],ext,d,σ,G,ys,q,l,m,I,n=>by
  have:ext=[]:=by simpa using l.symm
  subst this;have:d=[]:=by simpa using m
  subst this;exact⟨G,by simpa[State.lay]using I,rfl,rfl,rfl,rfl,λ_ _=>Iff.rfl⟩
 |r::rs,[],d,σ,G,ys,q,l,m,I,n=>by simp at l
 |r::rs,v::ext,[],σ,G,ys,q,l,m,I,n=>by simp at m
 |r::rs,v::ext,f::d,σ,G,ys,q,l,m,I,n=>by
  obtain⟨hr,z⟩:=Xx.1 q;obtain⟨⟨c,T,J,H⟩,K,p,h⟩:=n 0 v rfl;simp only[Yu]at J H K p h;have V:Inv W0 M σ a w G (f++(d.flatten++ys)):=by simpa[Qb]using I
  obtain⟨A,W,C,D,B,E,y⟩:=V.addBox (i:=r) (g:=G.ad r) (c:=c) (T:=T) (v:=v) p J K H h (.inr rfl);have e:A.ad=G.ad:=by rw[y];funext j;split<;>simp_all
  obtain⟨U,X,q1,q2,q3,q4,q5⟩:=Z7Z rs ext d _ A ys z (by simpa using l) (by simpa using m) W (λj u Z=>by
   obtain⟨L,P,Q,R⟩:=n (j+1) u (by simpa using Z)
   simp only[List.getD_cons_succ]at L P Q R;rw[e,C,D,B];refine⟨L,(E _ _).2 P,by simpa[State.putBox,Z0E]using Q,λi Y=> ?_⟩
   rw[Z1E];exact R i Y)
  exact⟨U,X,q1.trans C,q2.trans D,q3.trans B,q4.trans e,λb k=>(q5 b k).trans (E b k)⟩
end
end Go.PI
namespace Go.PI
section
variable {W0:Base}{M:Nat->Prop}{σ:State}{a:Act}{w:World}{G:Ghost}{P:Program}
theorem Z6i {f : FuncId}{fn : Func}{c : Code}(g : P.funcs[f]? = some fn) (b : (fn.name == "runtime.NumGoroutine") = false) (e : fn.body = some c) (args : Array Value) (w : World) :
  (callFunc f args).run P w= .ok (.enter f args) w:=by
 have d : fn.name ≠ "runtime.NumGoroutine" := by simpa using b
 simp[callFunc,g,d,e]
theorem Z5J {o:Oper}{c:Call}{f:Operand}{g:FuncId}{us:Array Value}{fn:Func}{e:Code}(j:o.op= .call c)(d:c.callee= .value f)(k:a.eval f= .func (.func g) #[] us)
  (i : P.funcs[g]? = some fn) (b : (fn.name == "runtime.NumGoroutine") = false) (h : fn.body = some e) : (execOp a.eval o).run P w = .ok (.enter g (c.args.map a.eval ++ us)) w := by
 rw[Z03 j];simp only[execOp,resolve,d,k,Deferred.ofValue,Sem.run_bind,Sem.run_pure,Result.andThen_ok,invoke,Z6i i b h];simp
theorem Z80:(rs:List TVal)->(vs:List Value)->(b:List (List Nat))->rs≠[]->Z0j w G rs vs b->Rp w G.F G.St G.Al (Z2p rs).τ (Z2p rs).tg (vs.flatMap Z02) (Z2p rs).x b.flatten/\Z1d (Z2p rs).τ (rs.map (·.ag)) vs
 | [],vs,b,h,_=>absurd rfl h
 | [r],vs,b,_,h=>by
  cases vs<;>cases b<;>first | exact h.elim | skip
  rename_i v vs f b;obtain⟨⟨g,d⟩,e⟩:=h;cases vs<;>cases b<;>first | exact e.elim | skip
  refine⟨by simpa[Z2p]using d,?_⟩
  show Z1d r.τ [r.ag] [v]
  cases i:r.τ<;>exact⟨g,by rw[d.len.1,i]⟩
 |r::q::rs,vs,b,_,h=>by
  cases vs<;>cases b<;>first | exact h.elim | skip
  rename_i v vs f b;obtain⟨⟨g,d⟩,e⟩:=h;obtain⟨j,k⟩:=Z80 (q::rs) vs b (by simp) e
  refine⟨?_,?_⟩
  ·simp only[QH,QO];exact Rp.pair_mk d j
  ·cases vs with
   |nil=>cases b<;>exact e.elim
   |cons u vs=>exact⟨g,d.len.1,k⟩
theorem Z0j.shapes:(rs:List TVal)->(vs:List Value)->(b:List (List Nat))->Z0j w G rs vs b->vs.length=rs.length/\∀v∈vs,Z02 v=v.cells.toList
 | [],vs,b,h=>by cases vs<;>cases b<;>first | exact⟨rfl,by simp⟩ | exact h.elim
 |r::rs,vs,b,h=>by
  cases vs<;>cases b<;>first | exact h.elim | skip
  obtain⟨⟨e,_⟩,f⟩:=h;obtain⟨g,i⟩:=Z0j.shapes rs _ _ f;refine⟨by simp[g],λv d=> ?_⟩
  rcases Qp.1 d with rfl | d
  ·exact e.cells
  ·exact i v d
noncomputable def Z6Y:List TVal->TV
 | []=> .dead
 | [r]=> .val r
 |rs=> .tup (Z2p rs) (rs.map (·.ag))
theorem Z4k (rs:List TVal)(vs:List Value)(d:List (List Nat))(h:Z0j w G rs vs d):Z01 σ G a w (Z6Y rs) (Z1G vs) d.flatten:=by
 obtain⟨i,b⟩:=h.shapes
 match rs,vs,d,h with
 | [],[],[],h=>rfl
 | [r],[v],[f],h=>
  refine⟨h.1.1,?_⟩;have:=h.1.2;rw[show [f].flatten=f by simp]
  exact this
 |r::q::rs,v::u::vs,f::e::d,h=>
  obtain⟨m,n⟩:=Z80 (r::q::rs) (v::u::vs) (f::e::d) (by simp) h
  refine⟨⟨(v::u::vs).toArray,rfl,by simpa using n⟩,?_⟩
  have k:Z02 (Z1G (v::u::vs))=(v::u::vs).flatMap Z02:=by
   simp only[Z1G,Z02];generalize (v::u::vs)=L at b;induction L with
   |nil=>rfl
   |cons y L p=>
    have j:=b y (by simp)
    have g:=p (λz l=>b z (Qa _ l))
    simp only[QH]at g ⊢;rw[g,j]
  rw[k];exact m
end
end Go.PI
namespace Go.PI
section
variable {W0:Base}{M:Nat->Prop}{σ:State}{a:Act}{w w':World}{G:Ghost}{P:Program}
theorem Z4S:(l:List TVal)->l.map (TVal.back true)=l
 | []=>rfl
 |v::l=>by
  rw[Qz,Z4S l];congr 1;obtain⟨τ,ag,x,tg⟩:=v;simp only[TVal.back];congr 1;induction tg with
  |nil=>rfl
  |cons t tg b=>rw[Qz,b];cases t<;>rfl
theorem Z3y {F:Nat->Nat}{St:Nat->Prop}{G':Ghost}(i:G'.F=F)(j:∀b,St b->G'.St b):(rs:List TVal)->(vs:List Value)->(d:List (List Nat))->Z39 w F St rs vs d->(∀b∈d.flatten,G'.Al b)->Z0j w G' rs vs d
 | [],vs,d,h,_=>by cases vs<;>cases d<;>first | trivial | exact h.elim
 |r::rs,vs,d,h,g=>by
  cases vs<;>cases d<;>first | exact h.elim | skip
  rename_i v vs f d;obtain⟨⟨k,l,m⟩,n⟩:=h;refine⟨⟨k,?_⟩,Z3y i j rs vs d n λb e=>g b (by simp[e])⟩
  rw[i];exact(m.narrow (Al':=G'.Al) (TVal.noN_iff.1 l) λb e=>g b (by simp[e])).pres j (λ_ _ h=>h) (λb _=>Z07.refl _ _ _) (λb _=>⟨Z07.refl _ _ _,rfl⟩) (.inr λb _ _=>Z07.refl _ _ _)
theorem Z59 {F:Nat->Nat}{St:Nat->Prop}{G':Ghost}(i:G'.F=F)(j:∀b,St b->G'.Al b):(rs:List TVal)->(vs:List Value)->(d:List (List Nat))->Z39 w F St rs vs d->(∀b∈d.flatten,G'.Al b)->Z0j w G' (rs.map (TVal.back false)) vs d
 | [],vs,d,h,_=>by cases vs<;>cases d<;>first | trivial | exact h.elim
 |r::rs,vs,d,h,g=>by
  cases vs<;>cases d<;>first | exact h.elim | skip
  rename_i v vs f d;obtain⟨⟨k,n,l⟩,m⟩:=h;refine⟨⟨k,?_⟩,Z59 i j rs vs d m λb e=>g b (by simp[e])⟩
  rw[i];exact l.unstable j (λb e=>g b (by simp[show b∈f from e]))
end
end Go.PI
namespace Go.PI
section
variable {w:World}{G:Ghost}
theorem Z0r.ptrs:(ms:List Mode)->(b:List (Nat×Value))->ms.all Mode.isPtr=true->ms.length=b.length->Z0r w G ms (b.map (·.2)) [] [] b
 | [],[],_,_=>trivial
 | [],_::_,_,h=>by simp at h
 |_::_,[],_,h=>by simp at h
 |m::ms,l::b,h,d=>by
  cases m with
  |ptr τ=>exact⟨rfl,Z0r.ptrs ms b (by simpa[Mode.isPtr]using h) (by simpa using d)⟩
  |_=>simp[Mode.isPtr]at h
theorem Z0r.append_ptr {j:List Mode}{e:List (Nat×Value)}(n:j.all Mode.isPtr=true)(i:j.length=e.length):(ms:List Mode)->(ys:List Value)->(vs:List TVal)->(b:List (List Nat))->(d:List (Nat×Value))->Z0r w G ms ys vs b d ->
  Z0r w G (ms++j) (ys++e.map (·.2)) vs b (d++e)
 | [],ys,vs,b,d,h=>by
  cases ys<;>cases vs<;>cases b<;>cases d<;>first | exact Z0r.ptrs j e n i | exact h.elim
 |.borrow τ ag::ms,ys,vs,b,d,h=>by
  cases ys<;>cases vs<;>cases b<;>first | exact h.elim | skip
  obtain⟨r,f,k,p⟩:=h;exact⟨r,f,k,Z0r.append_ptr n i ms _ _ _ _ p⟩
 |.consume τ ag::ms,ys,vs,b,d,h=>by
  cases ys<;>cases vs<;>cases b<;>first | exact h.elim | skip
  obtain⟨f,k,p⟩:=h;exact⟨f,k,Z0r.append_ptr n i ms _ _ _ _ p⟩
 |.eat τ ag::ms,ys,vs,b,d,h=>by
  cases ys<;>cases vs<;>cases b<;>first | exact h.elim | skip
  obtain⟨f,k,p⟩:=h;exact⟨f,k,Z0r.append_ptr n i ms _ _ _ _ p⟩
 |.inout τ ag::ms,ys,vs,b,d,h=>by cases ys<;>cases vs<;>cases b<;>exact h.elim
 |.look τ ag::ms,ys,vs,b,d,h=>by cases ys<;>cases vs<;>cases b<;>first | exact h.elim | (cases d<;>exact h.elim)
 |.rptr τ::ms,ys,vs,b,d,h=>by cases ys<;>cases vs<;>cases b<;>first | exact h.elim | (cases d<;>exact h.elim)
 |.rclos g m::ms,ys,vs,b,d,h=>by cases ys<;>cases vs<;>cases b<;>first | exact h.elim | (cases d<;>exact h.elim)
 |.ptr τ::ms,ys,vs,b,d,h=>by
  cases ys<;>cases d<;>first | (cases vs<;>cases b<;>exact h.elim) | skip
  rename_i y ys l d;have f:y=l.2/\Z0r w G ms ys vs b d:=by cases vs<;>cases b<;>exact h
  have k:=Z0r.append_ptr n i ms _ _ _ _ f.2;cases vs<;>cases b<;>exact⟨f.1,k⟩
 |.clos g m::ms,ys,vs,b,d,h=>by
  cases ys<;>first | (cases vs<;>cases b<;>cases d<;>exact h.elim) | skip
  rename_i y ys;have f:(m.length<=d.length/\y= .func (.func g) #[] ((d.take m.length).map (·.2)).toArray)/\Z0r w G ms ys vs b (d.drop m.length):=by cases vs<;>cases b<;>cases d<;>exact h
  have k:=Z0r.append_ptr n i ms _ _ _ _ f.2;have q:(m.length<=(d++e).length/\y= .func (.func g) #[] (((d++e).take m.length).map (·.2)).toArray)/\Z0r w G (ms++j) (ys++e.map (·.2)) vs b ((d++e).drop m.length):=by
   rw[XN f.1.1,YX f.1.1];exact⟨⟨by simp;omega,f.1.2⟩,k⟩
  generalize d++e=L at q;cases vs<;>cases b<;>cases L<;>exact q
end
end Go.PI
namespace Go.PI
section
variable {W0:Base}{M:Nat->Prop}{σ:State}{a:Act}{w w':World}{G:Ghost}{P:Program}{R:Type}{Γ:Env R}{r:R}
theorem Z3F:(rs:List Nat)->(l:List TVal)->σ.boxesAt rs=some l->∀q∈rs,∃v,σ.boxAt q=some v
 | [],l,h=>by simp
 |x::rs,l,h=>by
  simp only[State.boxesAt]at h;split at h
  ·rename_i v l' e b;intro q d;rcases Qp.1 d with rfl | d
   ·exact⟨v,e⟩
   ·exact Z3F rs l' b q d
  ·cases h
theorem Z6Q {xs:List Nat}(I:Inv W0 M σ a w G xs){q:Nat}{u:Value}{v:TVal}(h:Z0w σ G a w ⟨true,q,[]⟩ u)(f:σ.boxAt q=some v):u= .pointer (some ⟨G.ad q,0,none⟩):=by
 rcases h with h | ⟨cs,b,⟨τ,l,j,k,e,d⟩,g⟩
 ·rw[Z1o,f]at h;cases h
 ·obtain⟨⟨c,T,i,_⟩,_⟩:=I.box q v f;simp only[Z09,i,Q9,Qs]at e;obtain⟨rfl,rfl⟩:=e;rw[Z0O]at d;simp only[Q9,Qs]at d;obtain⟨_,rfl⟩:=d;exact g
theorem Z0r.noIo:(ms:List Mode)->(ys:List Value)->(vs:List TVal)->(b:List (List Nat))->(d:List (Nat×Value))->Z0r w G ms ys vs b d->Z0X ms ys=[]
 | [],ys,vs,b,d,h=>by cases ys<;>rfl
 |.borrow τ ag::ms,ys,vs,b,d,h=>by
  cases ys<;>cases vs<;>cases b<;>first | exact h.elim | skip
  exact Z0r.noIo ms _ _ _ _ h.2.2.2
 |.consume τ ag::ms,ys,vs,b,d,h=>by
  cases ys<;>cases vs<;>cases b<;>first | exact h.elim | skip
  exact Z0r.noIo ms _ _ _ _ h.2.2
 |.eat τ ag::ms,ys,vs,b,d,h=>by
  cases ys<;>cases vs<;>cases b<;>first | exact h.elim | skip
  exact Z0r.noIo ms _ _ _ _ h.2.2
 |.inout τ ag::ms,ys,vs,b,d,h=>by cases ys<;>cases vs<;>cases b<;>exact h.elim
 |.look τ ag::ms,ys,vs,b,d,h=>by cases ys<;>cases vs<;>cases b<;>first | exact h.elim | (cases d<;>exact h.elim)
 |.rptr τ::ms,ys,vs,b,d,h=>by cases ys<;>cases vs<;>cases b<;>first | exact h.elim | (cases d<;>exact h.elim)
 |.rclos g e::ms,ys,vs,b,d,h=>by cases ys<;>cases vs<;>cases b<;>first | exact h.elim | (cases d<;>exact h.elim)
 |.ptr τ::ms,ys,vs,b,d,h=>by
  cases ys<;>cases d<;>first | (cases vs<;>cases b<;>exact h.elim) | skip
  rename_i y ys l d;have f:y=l.2/\Z0r w G ms ys vs b d:=by cases vs<;>cases b<;>exact h
  exact Z0r.noIo ms _ _ _ _ f.2
 |.clos g e::ms,ys,vs,b,d,h=>by
  cases ys<;>first | (cases vs<;>cases b<;>cases d<;>exact h.elim) | skip
  rename_i y ys;have f:(e.length<=d.length/\y= .func (.func g) #[] ((d.take e.length).map (·.2)).toArray)/\Z0r w G ms ys vs b (d.drop e.length):=by cases vs<;>cases b<;>cases d<;>exact h
  exact Z0r.noIo ms _ _ _ _ f.2
theorem Z4A:(l:List Nat)->Z4i l=true->l.Nodup
 | [],_=>List.nodup_nil
 |x::l,h=>by
  simp only[Z4i,Q6,QF,List.contains_eq_mem,Xk]at h;exact Xx.2 ⟨h.1,Z4A l h.2⟩
end
end Go.PI
namespace Go.PI
section
variable {W0:Base}{M:Nat->Prop}{σ:State}{a:Act}{w w':World}{G:Ghost}{P:Program}{R:Type}{Γ:Env R}{r:R}
theorem Z3E:(rs:List Nat)->(l:List TVal)->σ.boxesAt rs=some l->(∀v∈l,v.noN=true)->σ.kill.boxesAt rs=some l
 | [],l,h,_=>h
 |x::rs,l,h,d=>by
  simp only[State.boxesAt]at h ⊢;split at h
  ·rename_i v l' f b;cases h;rw[Z2S,f,Z3E rs l' b λu e=>d u (Qa _ e)]
   simp[Z2R,d v (by simp)]
  ·cases h
theorem Z1V (b:List (Nat×Value))(j:Nat)(h:j<b.length):(b.map λq=>G.ad q.1).getD j 0=G.ad ((b.map (·.1)).getD j 0):=by
 rw[Qc,Qc,XO,XO,Qn h];rfl
theorem Z5C:(us vs:List TVal)->Z2U us vs=true->us.length=vs.length/\∀(j:Nat) (u v:TVal),us[j]? = some u->vs[j]? = some v->u.τ=v.τ
 | [],[],_=>⟨rfl,λj u v h=>by simp at h⟩
 | [],_::_,h=>by cases h
 |_::_,[],h=>by cases h
 |u::us,v::vs,h=>by
  simp only[Z2U,Q6,Ql]at h;obtain⟨e,f⟩:=Z5C us vs h.2;refine⟨by simp[e],λj x y b d=> ?_⟩
  cases j with
  |zero=>simp only[YF,Q9]at b d;subst b;subst d;exact h.1
  |succ j=>exact f j x y (by simpa using b) (by simpa using d)
theorem Z4T {ks:List Nat}{g:FuncId}{sig:Sig R}(hs:Z16 P g sig){vals:List TVal}{fps:List (List Nat)}{f:List (Nat×Value)}{args:List Value}{ext:List TVal}
  {kk:List TVal->List TVal->List TVal->Option R} (I:Inv W0 M σ a w G (fps.flatten++ks)) (V:Z0r w G sig.modes args vals fps f) (hn:∀v∈vals,v.noN=true) (hptr:Z2N G f) (hnd:(f.map (·.1)).Nodup)
  (Y:σ.boxesAt (f.map (·.1))=some ext) (X:∀v∈ext,v.noN=true) (hrun:sig.run vals ext kk=some r) :
  Calls P g args.toArray w λe w'=>∃v ab m G' fs,e= .returned v/\kk ab [] m=some r/\Inv W0 M (σ.kill.putBoxes (f.map (·.1)) m) a w' G' (fs.flatten++ks)/\(∃vs,v=Z1G vs/\Z0j w' G' ab vs fs)/\(f=[]->Z5j w G w' G') /\
   G'.ad=G.ad/\(∀b∈ks,G'.F b=G.F b/\w'.heap[b]? = w.heap[b]? /\ (G.Al b->G'.Al b))/\(∀b i,G.who b=some (.a i)->i ∉ f.map (·.1)->G'.who b=some (.a i)/\w'.heap[b]? = w.heap[b]?)/\m.all TVal.noN=true:=by
 obtain⟨fs0,I1,_⟩:=I.kill;obtain⟨k,G2,I2,hs2,hel,W⟩:=Z7e (f.map (·.1)) σ.kill _ _ ext hnd (Z3E _ _ Y X) I1;have n:Sim G G2:=(Sim.fs G fs0).trans hs2;have hextl:ext.length=f.length:=by have:=(Z2Z _ _ Y).1;simpa using this
 have hel':k.length=f.length:=by simpa using hel
 let ads:List Nat:=f.map λq=>G.ad q.1
 have hadsl:ads.length=f.length:=by simp[ads]
 have hA:=Z2q I sig.modes args vals fps f V hn hptr;have B:∀j,j<f.length->∃v,ext[j]? = some v:=λj C=>⟨ext[j],Qn (by omega)⟩
 have hB:Z1a w G.F G.St ext ads k:=Z4t ext ads k (by omega) (by omega) λj v C=>by
  have l:j<f.length:=by rw[<-hextl];exact(YQ.1 C).1
  obtain⟨⟨c,T,hc,hR⟩,_,_⟩:=W j v C;refine⟨c,T,by rw[Z1V f j l];exact hc,?_⟩
  exact hR.narrow (TVal.noN_iff.1 (X v (Yl C))) λb d=>d
 have y:∀b∈ads,∃j,j<f.length/\b=G.ad ((f.map (·.1)).getD j 0)/\G2.who b=some (.a ((f.map (·.1)).getD j 0)):=by
  intro b d;obtain⟨j,C,rfl⟩:=X2.1 d;have l:j<f.length:=by omega
  obtain⟨v,hv⟩:=B j l;obtain⟨_,U,_⟩:=W j v hv;have he:ads[j]=G.ad ((f.map (·.1)).getD j 0):=by
   rw[<-Z1V f j l,Qc,Qn C];rfl
  exact⟨j,l,he,by rw[he];exact(hs2.bx _ _).2 U⟩
 have Q:∀b∈k.flatten++fps.flatten,G2.who b=some .x:=λb d=>I2.whoX b (by
  rcases Qr.1 d with h | h
  ·exact Qh _ h
  ·exact Qo _ (Qh _ h))
 have hkx:∀b∈ks,G2.who b=some .x:=λb d=>I2.whoX b (Qo _ (Qo _ d))
 have hadn:ads.Nodup:=by
  refine XE.2 λi j hi C hij heq=> ?_
  obtain⟨v,hv⟩:=B i (by omega)
  obtain⟨u,hu⟩:=B j (by omega)
  have K:=(W i v hv).2.1;have U:=(W j u hu).2.1;have e1:ads[i]=G.ad ((f.map (·.1)).getD i 0):=by rw[<-Z1V f i (by omega),Qc,Qn hi];rfl
  have e2:ads[j]=G.ad ((f.map (·.1)).getD j 0):=by rw[<-Z1V f j (by omega),Qc,Qn C];rfl
  have K:G.who (G.ad ((f.map (·.1)).getD i 0))=some (.a ((f.map (·.1)).getD i 0)):=K;have U:G.who (G.ad ((f.map (·.1)).getD j 0))=some (.a ((f.map (·.1)).getD j 0)):=U;rw[<-e1,heq,e2,U]at K;simp only[Q9,Who.a.injEq]at K;have Z:i<(f.map (·.1)).length:=by simp;omega
  have l:j<(f.map (·.1)).length:=by simp;omega
  rw[Qc,Qc,Qn Z,Qn l]at K;exact XE.1 hnd i j Z l hij (by simpa using K.symm)
 have hnda:(fps.flatten++(k.flatten++ads)).Nodup:=by
  have h0:(k.flatten++fps.flatten).Nodup:=by
   have h:=I2.nodX;rw[<-Qb]at h;exact(Qj.1 h).1
  have K:=(Qj.1 h0);refine Qj.2 ⟨K.2.1,Qj.2 ⟨K.1,hadn,λb d b' H hbb=> ?_⟩,λb d b' H hbb=> ?_⟩
  ·subst hbb;obtain⟨j,_,_,E⟩:=y b H;rw[Q b (Qh _ d)]at E;cases E
  ·subst hbb;rcases Qr.1 H with H | H
   ·exact K.2.2 b H b d rfl
   ·obtain⟨j,_,_,E⟩:=y b H;rw[Q b (Qo _ d)]at E;cases E
 have hwz:∀b∈fps.flatten++(k.flatten++ads),∃z,G2.who b=some z:=by
  intro b d;rcases Qr.1 d with d | d
  ·exact⟨_,Q b (Qo _ d)⟩
  ·rcases Qr.1 d with d | d
   ·exact⟨_,Q b (Qh _ d)⟩
   ·obtain⟨j,_,_,E⟩:=y b d;exact⟨_,E⟩
 have hSt:∀b,G.St b->b<w.heap.size/\b ∉ fps.flatten++(k.flatten++ads):=λb d=>by
  have U:=I2.st b (by rw[n.St];exact d)
  refine⟨U.2,λp=> ?_⟩
  obtain⟨z,hz⟩:=hwz b p;rw[U.1]at hz;cases hz
 refine(hs.2 vals ext kk r hrun w G.F G.St args ads fps k hA hB hnda hSt λb d=> ?_).mono λe w'=> ?_
 ·obtain⟨z,hz⟩:=hwz b d;exact(I2.lt b z hz).1
 ·rintro⟨v,ab,ios,m,rfl,hk,⟨hty,_,_⟩,J,F',St',vs,D,A,⟨rfl,Z,_⟩,aa,hbox,hE,hF,hS1,hS2,hndr,hR⟩;rw[Z0r.noIo _ _ _ _ _ V]at Z aa;have hios:ios=[]:=Qv.1 Z;subst hios;rw[Qe,Qe]at aa;have hassoc:fps.flatten++(k.flatten++ads)=(fps.flatten++k.flatten)++ads:=by rw[Qb]
  have I3:Inv W0 M (σ.kill.lend (f.map (·.1))) a w G2 ((fps.flatten++k.flatten)++ks):=I2.perm (by
   rw[<-Qb];exact List.Perm.append_right _ XQ)
  have hkout:∀b∈ks,b<w.heap.size/\b ∉ fps.flatten++(k.flatten++ads):=λb d=>by
   refine⟨(I2.lt b _ (hkx b d)).1,λp=> ?_⟩
   have hn:=I2.nodX;rcases Qr.1 p with p | p
   ·have:=(Qj.1 (Qj.1 hn).2.1).2.2 b p b d rfl;exact this
   ·rcases Qr.1 p with p | p
    ·exact(Qj.1 hn).2.2 b p b (Qo _ d) rfl
    ·obtain⟨j,_,_,E⟩:=y b p;rw[hkx b d]at E;cases E
  have hE0:=hE;have hF0:=hF;rw[hassoc]at hE hF hS2 hR;rw[<-Qb]at hndr hR;obtain⟨ht1,ht2⟩:=Z5C ext m hty;obtain⟨hb1,L,hb3⟩:=Z3P m ads A hbox;obtain⟨G4,I4,gF,gad,gS,gA,gSs,gR,gads,_,gB,gAl,gW⟩:=Z3q (R:=D.flatten++A.flatten) (ads:=ads) (ks:=ks) (F':=F') (St':=St') I3 (λb d=>by
    obtain⟨j,C,_,E⟩:=y b d;refine⟨_,E,Z3l _ _ _ (.inl ?_)⟩;have l:j<(f.map (·.1)).length:=by simpa using C
    rw[Qc,Qn l];exact Q7 _) (.inl (Z3J (Z2s σ) (λi=>Z50 _ _ i) λi=>by
    by_cases hi:i∈f.map (·.1)
    ·exact .inr (Z3l _ _ _ (.inl hi))
    ·exact .inl (Z4g _ _ _ hi)))
   (Sc:=G2.St) (λ_ h=>h) (Ghost.St_Al I3) hE (λb d p=>by rw[hF b d p,n.F]) (λb d=>hS1 b (by rw[<-n.St];exact d)) (λb d=>by have:=hS2 b d;rw[<-n.St]at this;exact this) hndr hR
  have I4':Inv W0 M (σ.kill.lend (f.map (·.1))) a w' G4 (A.flatten++(D.flatten++ks)):=I4.perm (by
   rw[<-Qb];exact List.Perm.append_right _ XQ)
  have had4:G4.ad=G.ad:=gad.trans n.ad;have hlb:=Z7d (f.map (·.1)) σ.kill;obtain⟨G5,I5,q1,q2,q3,q4,q5⟩:=Z7Z (f.map (·.1)) m A _ G4 (D.flatten++ks) hnd (by simp;omega) (by omega) I4' (λj u C=>by
   have hjl':j<m.length:=(YQ.1 C).1;have l:j<f.length:=by omega
   obtain⟨v,hv⟩:=B j l;obtain⟨_,p2,p3⟩:=W j v hv;obtain⟨c,T,hc,hR'⟩:=hb3 j u C;rw[had4];rw[Z1V f j l]at hc;have hτ:=ht2 j v u hv C;have hmem:G.ad ((f.map (·.1)).getD j 0)∈ads:=by
    rw[<-Z1V f j l,Qc,Qn (show j<ads.length by omega)];exact Q7 _
   refine⟨⟨c,T,hc,?_⟩,?_,?_,λi hi=> ?_⟩
   ·rw[gF];have hun:u.noN=true:=by rw[QD]at J;exact J u (Yl C)
    exact(hR'.narrow (Al':=G4.Al) (TVal.noN_iff.1 hun) λb d=>gR b (Qo _ (Z2I d))).pres (gSs λ_ h=>h) (λ_ _ h=>h) (λb _=>Z07.refl _ _ _) (λb _=>⟨Z07.refl _ _ _,rfl⟩) (.inr λb _ _=>Z07.refl _ _ _)
   ·rw[gads _ hmem];exact(hs2.bx _ _).2 p2
   ·rw[hlb.2];have hb0:=(Z2Z _ _ (Z3E _ _ Y X)).2 j v hv;exact Z1B hb0
   ·have:=p3 i (by rw[<-hlb.1];exact hi)
    rw[<-hτ];exact this)
  rw[Z7c _ _ _ hnd (by simp;omega)]at I5
  refine⟨_,ab,m,G5,D,rfl,hk,by simpa using I5,⟨vs,rfl,Z3y (q1.trans gF) (λb d=>by rw[q2];exact gSs (λ_ h=>h) b d) ab vs D aa λb d=>by rw[q3];exact gR b (Qh _ d)⟩,λhl w2 hc i b d=> ?_,q4.trans had4,λb d=> ?_,λb i d hi=> ?_,J⟩
  ·exact gB (by simp[ads,hl]) w2 (λi b d=>hc i b ((q5 _ _).2 d)) i b ((n.bx _ _).2 d)
  ·obtain⟨K,U⟩:=hkout b d;refine⟨by rw[q1,gF,hF0 b K U],hE0.block b K U,λh=> ?_⟩
   rw[q3];exact gAl b K (by rw[n.Al];exact h)
  ·have L:G2.who b=some (.a i):=(n.bx _ _).2 d;refine⟨(q5 _ _).2 (gW b _ L (by simp)),hE0.block b (I2.lt b _ L).1 (λp=> ?_)⟩
   rcases Qr.1 p with p | p
   ·have:=Q b (Qo _ p);rw[L]at this;cases this
   ·rcases Qr.1 p with p | p
    ·have:=Q b (Qh _ p);rw[L]at this;cases this
    ·obtain⟨j,C,_,E⟩:=y b p;rw[L]at E;simp only[Q9,Who.a.injEq]at E;refine hi ?_;rw[E];have l:j<(f.map (·.1)).length:=by simpa using C
     rw[Qc,Qn l];exact Q7 _
theorem Z7L {g:FuncId}{h:Sig R}(D:Z16 P g h){vals:List TVal}{fps:List (List Nat)}{i:List (Nat×Value)}{args:List Value}{ext:List TVal}
  {q:List TVal->List TVal->List TVal->Option R} (I:Inv W0 M σ a w G fps.flatten) (f:Z0r w G h.modes args vals fps i) (C:∀v∈vals,v.noN=true) (l:Z2N G i) (p:(i.map (·.1)).Nodup)
  (k:σ.boxesAt (i.map (·.1))=some ext) (j:∀v∈ext,v.noN=true) (m:h.run vals ext q=some r) :
  Calls P g args.toArray w λe w'=>∃v d b G' n,e= .returned v/\q d [] b=some r/\Inv W0 M (σ.kill.putBoxes (i.map (·.1)) b) a w' G' (n.flatten++[])/\(∃vs,v=Z1G vs/\Z0j w' G' d vs n)/\(i=[]->Z5j w G w' G'):=by
 refine(Z4T (ks:=[]) D (by rw[Qe];exact I) f C l p k j m).mono ?_
 rintro e w' ⟨v,d,b,G',n,u,y,z,A,B,_⟩;exact⟨v,d,b,G',n,u,y,z,A,B⟩
end
end Go.PI
namespace Go.PI
section
variable {W0:Base}{M:Nat->Prop}{σ:State}{a:Act}{w w':World}{G:Ghost}{xs:List Nat}{P:Program}{R:Type}{Γ:Env R}{r:R}
theorem Rp.leafless {F F':Nat->Nat}{St Al St' Al':Nat->Prop}{τ:Ty}{tg:List Tag}{cs:List Value}{x:El τ}{fp:List Nat}(h:Rp w F St Al τ tg cs x fp)(e:Z06 τ=0):tg=[]/\fp=[]/\Rp w' F' St' Al' τ [] cs x []:=by
 have b:tg=[]:=Qv.1 (by rw[h.len.2,e])
 subst b;have d:=h.fp_nil (by simp)
 subst d;exact⟨rfl,rfl,h.presO (by simp) (by simp)⟩
theorem Z6J (I:Inv W0 M σ a w G xs){F:Nat->Nat}{St:Nat->Prop}:(ms:List Mode)->(b:List Operand)->(vs:List TVal)->Z1q ms b σ=some vs ->
  Z0t w F St ms vs (b.map a.eval) (vs.map λ_=>[]) []/\Z0X ms (b.map a.eval)=[]/\Z2J ms=[]
 | [],[],vs,h=>by
  simp only[Z1q,Q9]at h;subst h;exact⟨trivial,rfl,rfl⟩
 | [],_::_,vs,h=>by simp[Z1q]at h
 |.borrow τ ag::ms,[],vs,h=>by simp[Z1q]at h
 |.borrow τ ag::ms,o::b,vs,h=>by
  simp only[Z1q]at h;split at h
  ·rename_i v k;split at h
   ·rename_i d;simp only[Q6,Ql,QG]at d;obtain⟨l,j,rfl⟩:=Qm.1 h;obtain⟨m,n,p⟩:=Z6J I ms b l j;obtain⟨f,i⟩:=Z1p I k;have e:Z06 v.τ=0:=by rw[d.1.1];exact d.2
    refine⟨⟨rfl,by rw[<-d.1.2];exact i,?_,m⟩,n,p⟩
    rw[e];exact(f.leafless (w':=w) (F':=F) (St':=St) (Al':=St) e).2.2
   ·cases h
  ·cases h
 |.consume τ ag::ms,b,vs,h=>by cases b<;>simp[Z1q]at h
 |.eat τ ag::ms,b,vs,h=>by cases b<;>simp[Z1q]at h
 |.inout τ ag::ms,b,vs,h=>by cases b<;>simp[Z1q]at h
 |.look τ ag::ms,b,vs,h=>by cases b<;>simp[Z1q]at h
 |.rptr τ::ms,b,vs,h=>by cases b<;>simp[Z1q]at h
 |.rclos g q::ms,b,vs,h=>by cases b<;>simp[Z1q]at h
 |.ptr τ::ms,b,vs,h=>by cases b<;>simp[Z1q]at h
 |.clos g q::ms,b,vs,h=>by cases b<;>simp[Z1q]at h
theorem Z8t {b o:Nat}{cs:List Value}(h:Z05 w b o cs.length=some cs)(z:Nat):(Z0m w b o cs).heap[z]? = w.heap[z]? := by
 by_cases f:z=b
 ·subst f;unfold Z05 at h;split at h
  ·rename_i c T fr g;split at h
   ·rename_i e;have d:(c.toList.drop o).take cs.length=cs:=by simpa using h
    simp only[Z0m];rw[XG,g];simp only[XH,XU,Q9];have:Z0c c.toList o cs=c.toList:=by
     have:=Z37 (cs:=c.toList) (o:=o) (n:=cs.length) (by simpa using e)
     rw[d]at this;exact this
    rw[this]
   ·cases h
  ·cases h
 ·exact Z14 f
theorem Z1a.nils {F:Nat->Nat}{St:Nat->Prop}{ext:List TVal}{b:List (List Nat)}(h:Z1a w F St ext [] b):ext=[]/\b=[]:=by
 cases ext<;>cases b<;>first | exact⟨rfl,rfl⟩ | exact h.elim
theorem Z9s {g:FuncId}{j:Sig R}(hs:Z16 P g j){d p:List Nat}(I:Inv W0 M σ a w G (d++p))(hN:σ.noN){vals:List TVal}{fps:List (List Nat)}{args:List Value}
  {Z:List TVal->List TVal->List TVal->Option R} (hA:Z0t w G.F G.St j.modes vals args fps []) (C:fps.flatten=d) (A:j.run vals [] Z=some r) :
  Calls P g args.toArray w λe w'=>∃vs k i G' fs,e= .returned (Z1G vs)/\Z k i []=some r/\(i.map (·.τ)=Z2J j.modes/\i.all TVal.allO=true)/\(i.length=(Z0X j.modes args).length/\vs.length=k.length) /\
   Inv W0 M σ a w' G' (fs.flatten++p)/\Z0j w' G' (k++i) (vs++Z0X j.modes args) fs/\G'.ad=G.ad/\(∀b z,G.who b=some z->z≠ .x->G'.who b=some z) /\
   (∀b,b<w.heap.size->b ∉ d->G'.F b=G.F b/\w'.heap[b]? = w.heap[b]?)/\∀b,b<w.heap.size->G.Al b->G'.Al b:=by
 have B:∀b∈d,G.who b=some .x:=λb f=>I.whoX b (Qh _ f)
 have X:d.Nodup:=(Qj.1 I.nodX).1;refine(hs.2 vals [] Z r A w G.F G.St args [] fps [] hA trivial (by simpa[C]using X) (λb f=> ?_) (λb f=> ?_)).mono λe w'=> ?_
 ·have K:=I.st b f;refine⟨K.2,λm=> ?_⟩
  have m:b∈d:=by simpa[C]using m
  rw[B b m]at K;cases K.1
 ·have f:b∈d:=by simpa[C]using f
  exact(I.lt b _ (B b f)).1
 ·rintro⟨v,k,i,aa,rfl,hk,⟨hty,W,V⟩,hexn,F',St',vs,l,D,⟨rfl,U,Y⟩,y,u,L,Q,T,q,n,hR⟩;obtain⟨rfl,rfl⟩:=Z1a.nils u;simp only[C,XT,Qe,Qk]at L Q q n hR;obtain⟨G4,I4,gF,J,gS,gA,H,gR,gads,gC,_,E,gW⟩:=Z3q (R:=l.flatten) (ads:=[]) (gs:=d) (ks:=p) (F':=F') (St':=St') I (by simp) (.inl hN) (Sc:=G.St) (λ_ h=>h) (Ghost.St_Al I) (by simpa using L)
   (λb f m=>Q b f (by simpa using m)) T (λb f=>by simpa using q b f) (by simpa using n) (λb f=>by simpa using hR b (by simpa using f))
  refine⟨vs,k,i,G4,l,rfl,hk,⟨W,V⟩,⟨U,Y⟩,I4,Z3y gF (H λ_ h=>h) _ _ l y gR,J,gW,λb f m=>⟨by rw[gF,Q b f m],L.block b f m⟩,E⟩
theorem Z54:(us:List TVal)->(vs:List Value)->(e:List (List Nat))->{b:List TVal}->{d:List Value}->vs.length=us.length->Z0j w G (us++b) (vs++d) e->∃g i,e=g++i/\Z0j w G us vs g/\Z0j w G b d i
 | [],[],e,b,d,_,h=>⟨[],e,rfl,trivial,h⟩
 | [],_::_,e,b,d,h,_=>by simp at h
 |_::_,[],e,b,d,h,_=>by simp at h
 |u::us,v::vs,[],b,d,j,h=>h.elim
 |u::us,v::vs,f::e,b,d,j,h=>by
  obtain⟨k,l⟩:=h;obtain⟨g,i,rfl,m,n⟩:=Z54 us vs e (by simpa using j) l
  exact⟨f::g,i,rfl,⟨k,m⟩,n⟩
theorem Z9q {g:FuncId}{ak:Sig R}(hs:Z16 P g ak)(I:Inv W0 M σ a w G []){τ:Ty}{ag:Bool}{ms:List Mode}{o:Operand}{os:List Operand}(hm:ak.modes= .inout τ ag::ms)
  {k:TV->State->Option R} (h:Z5R ak τ ag ms o os σ k=some r) :
  Calls P g ((o::os).map a.eval).toArray w λe w'=>∃K σ' G' fs vs,e= .returned (Z1G vs)/\k (Z6Y K) σ'=some r/\Inv W0 M σ' a w' G' (fs.flatten++[])/\Z0j w' G' K vs fs:=by
 unfold Z5R at h;split at h
 ·rename_i p ag' hp;split at h
  ·rename_i c u vs hc hu hlk;split at h
   ·rename_i X;simp only[Q6,Ql,QG,Xq]at X;obtain⟨⟨⟨⟨hτ,hag⟩,hcO⟩,huO⟩,hwh⟩:=X;subst hτ;subst hag;have aj:=Z0v I o (by rw[hp];intro v ags hh;cases hh)
    rw[hp]at aj;obtain⟨_,aj⟩:=aj;have hpl:∃cs base,Z0A σ G a w p cs base/\Z02 (a.eval o)=cs/\Z0f ag' (a.eval o):=by
     rcases aj with m | m
     ·rw[State.ct,hc]at m;cases m
     ·exact m
    obtain⟨cs,base,A,hcs,hsh⟩:=hpl;obtain⟨τc,l,bs,hct,ab,hloc⟩:=id A;have:τc=c.τ:=by rw[State.ct,hc]at hct;simpa using hct.symm
    subst this;obtain⟨l',bs',E,hrl',hRc,ae⟩:=Z0F I hc;rw[ab]at hrl';cases hrl';obtain⟨c',hc',hgp⟩:=Z0B hu;rw[hc]at hc';cases hc';have Y:∀z∈E,G.who z=some (if p.box then .c p.root else .s p.root):=by
     intro z B;rcases ae with⟨q,_,rfl,_⟩ | ⟨q,_,rfl,_⟩
     ·rw[q];exact I.whoC _ z B
     ·rw[q];exact I.whoS _ z B
    have hnod:E.Nodup:=by
     rcases ae with⟨_,_,rfl,_⟩ | ⟨_,_,rfl,_⟩
     ·exact I.nodC _
     ·exact I.nodS _
    obtain⟨V,J,L⟩:=Rp.lens (base:=bs) hRc (Z1A.1 hcO) hnod (λz B hm=>by
     rcases ae with⟨q,D,_,H⟩ | ⟨_,_,_,H,_⟩
     ·rw[H]at B;cases B;have m:=Y _ hm;rw[(I.box _ _ D).2,q]at m;cases m
     ·rw[H]at B;cases B) hloc hgp
    have hltc:∀z∈E,z<w.heap.size:=λz B=>(I.lt z _ (Y z B)).1
    have hold:∃Q,Inv W0 M (σ.hold p).kill a w Q (J++V)/\Sim G Q/\(∀z∈E,Q.Al z):=by
     have:∃G1,Inv W0 M (σ.hold p) a w G1 (E++[])/\Sim G G1:=by
      obtain⟨bx,d,path⟩:=p;rcases ae with⟨q,D,rfl,_⟩ | ⟨q,Z,rfl,_,ac⟩
      ·simp only at q D;subst q;obtain⟨G1,I1,m,_⟩:=I.takeBox D;exact⟨G1,I1,m⟩
      ·simp only at q ac;subst q;have hv:σ.slot d= .val c:=by
        rcases ac with m | ⟨ags,m⟩
        ·exact m
        ·rcases hwh with C | C
         ·cases C
         ·simp only at C;rw[m]at C;cases C
       obtain⟨G1,I1,m,_⟩:=I.takeSlot hv;exact⟨G1,I1,m⟩
     obtain⟨G1,I1,m⟩:=this;obtain⟨fs,I2,_⟩:=I1.kill;have I3:=I2.perm (ys:=J++V) (by
      rw[Qe];exact L.perm.trans XQ)
     have hx:∀z∈E,({ G1 with fs:=fs }:Ghost).Al z:=λz B=>by
      have:=I2.whoX z (by simpa using B)
      exact⟨λi h=>(by rw[this]at h;cases h),λh=>(by rw[this]at h;cases h)⟩
     exact⟨_,I3,m.trans (Sim.fs _ fs),hx⟩
    obtain⟨Q,I2,n,hAl2⟩:=hold;have hnoN:(σ.hold p).kill.noN:=Z2s _;obtain⟨hl1,hl2,hl3⟩:=Z6J I (F:=Q.F) (St:=Q.St) ms os vs hlk;have hvsf:(vs.map λ_=>([]:List Nat)).flatten=[]:=by
     clear hlk hl1 h;induction vs with
     |nil=>rfl
     |cons v vs ih=>simp
    have hA:Z0t w Q.F Q.St ak.modes ({ u with ag:=ag' }::vs) ((o::os).map a.eval) (J::vs.map λ_=>[]) []:=by
     rw[hm];refine⟨⟨hsh,rfl⟩,?_,hl1⟩;have m:Rp w Q.F Q.St Q.Al u.τ u.tg cs u.x J:=by rw[n.F,n.St,n.Al];exact L.part
     rw[hcs];exact m.narrow (λt ht=>by rw[L.tags t ht];rfl) λb q=>q
    refine(Z9s hs I2 hnoN hA (by simp[hvsf]) h).mono λe w'=> ?_
    rintro⟨vs',K,ios,G',fs,rfl,hk,⟨hit,hio⟩,⟨hil,hvl⟩,I',aa,gad,gW,gF,gAl⟩;split at hk
    ·rename_i u';split at hk
     ·rename_i U hset;rw[hm]at aa hit;simp only[Qz,Z0X,hl2]at aa;simp only[Qz,Yh,Z2J,hl3,X4,and_true]at hit;obtain⟨f1,f2,rfl,ho1,ho2⟩:=Z54 K vs' fs hvl aa;obtain⟨ah,rfl,hsv,hRv⟩:∃ah,f2=[ah]/\Z0f u'.ag (a.eval o)/\Rp w' G'.F G'.St G'.Al u'.τ u'.tg (Z02 (a.eval o)) u'.x ah:=by
       cases f2 with
       |nil=>exact ho2.elim
       |cons f f2=>
        obtain⟨m,C⟩:=ho2;cases f2 with
        |nil=>exact⟨f,rfl,m⟩
        |cons _ _=>exact C.elim
      rw[hcs]at hRv;have hu'O:u'.allO=true:=by simpa using hio
      have hdisj:∀z∈V,z ∉ J:=λz B hi=>by
       have m:=(L.perm.nodup_iff).1 hnod;exact(Qj.1 m).2.2 z B z hi rfl
      have hsubo:∀z∈V,z∈E:=λz B=>L.perm.symm.subset (Qh _ B)
      have hput:∀z∈V,Put w G.F G.Al w' G'.F G'.Al base cs z:=by
       intro z B;have hzc:=hsubo z B;obtain⟨q1,q2⟩:=gF z (hltc z hzc) (hdisj z B);refine⟨by rw[q1,n.F],λ_=>gAl z (hltc z hzc) (hAl2 z hzc),?_⟩
       rw[q2];cases hbase:base with
       |none=>rfl
       |some y=>
        obtain⟨b,o'⟩:=y;rw[hbase]at A;have:=Z1D I A (w2:=w) ⟨λ_ _ _ _ _ _ _ h=>h,λ_ _ _=>rfl⟩
        exact(Z8t this z).symm
      obtain⟨fpn,hpn,htg,ai⟩:=L.put w' G'.F G'.St G'.Al u' cs ah U.1 U.2 hset hit (Z1A.1 hu'O) hRv hput;have W:Rp w' G'.F G'.St G'.Al c.τ U.2 l U.1 fpn:=by
       split at ai
       ·rename_i hflat;obtain⟨τf,hτf⟩:=Z29 hflat hgp;obtain⟨m,C⟩:=Z0T (w:=w) (base:=bs) hτf hRc.len.1;rw[hloc]at m;simp only[Q9,Qs]at m;rw[m.1,Z37 (by rw[hRc.len.1];exact C)]at ai
        exact ai
       ·exact ai
      have I3:Inv W0 M (σ.hold p).kill a w' G' (fpn++f1.flatten):=I'.perm (by
       refine QZ.2 λz=> ?_
       have m:=(QZ.1 hpn) z;simp only[XZ,QO,XT,Qe,XA]at m ⊢;omega)
      have hfin:∃G5,Inv W0 M ((σ.hold p).kill.refill p ⟨c.τ,c.ag,U.1,U.2⟩) a w' G5 f1.flatten/\Sim G' G5:=by
       obtain⟨bx,d,path⟩:=p;rcases ae with⟨q,D,hfb,H⟩ | ⟨q,Z,hfb,H,ac⟩
       ·simp only at q D hfb H;subst q;obtain⟨_,_,_,af,⟨cc,T,hcc,_⟩,hptr⟩:=I.takeBox D;have hnf:G.ad d ∉ J:=λhmm=>by
         have m:=Y _ (L.perm.symm.subset (Qo _ hmm));rw[af]at m;cases m
        have hadl:=(I.lt _ _ af).1;have hcc':w'.heap[G.ad d]? = some (.cells cc T (0,0)):=by rw[(gF _ hadl hnf).2];exact hcc
        have hlcc:l=cc.toList:=by
         simp only[Z09,hcc,Q9,Qs]at ab;exact ab.1.symm
        obtain⟨fs3,I4,_⟩:=I3.loosen true d;have hR4:Rp w' G'.F G'.St G'.Al c.τ U.2 cc.toList U.1 fpn:=by rw[<-hlcc];exact W
        have had:G'.ad d=G.ad d:=by rw[gad,n.ad]
        have hw2:Q.who (G.ad d)=some (.a d):=(n.bx _ _).2 af;obtain⟨G5,I5,e1,e2,e3,e4,e5⟩:=Inv.addBox I4 (i:=d) (g:=G.ad d) (c:=cc) (T:=T) (v:=⟨c.τ,c.ag,U.1,U.2⟩) (by
         have:=Z1B D;simpa[State.hold,State.kill,Z0b,State.putBox,State.loosen,Z0b,Z0E]using this) hcc' (gW _ _ hw2 (by simp)) hR4 (λj hj=>by
         have hj':j<σ.slots.length:=by simpa[State.hold,State.kill,Z0b,State.putBox,State.loosen,Z0b]using hj
         refine(hptr j hj').or_dead ?_;rw[Z0i,Z1w];have h0:(σ.hold ⟨true,d,path⟩).slot j=(σ.loosen true d).slot j:=rfl;rw[h0];rcases TV.kill_or ((σ.loosen true d).slot j)with h | h
         ·rw[h];exact TV.loosen_or _ _ _
         ·rw[h];exact .inr rfl) (.inr had)
        refine⟨G5,I5,e1,e2,?_,e3,e4⟩;rw[e5];funext j;split
        ·rename_i h;subst h;exact had.symm
        ·rfl
       ·simp only at q Z hfb H ac;subst q;have hll:l=Z02 (a.tmps.getD d undef):=by
         simp only[Z09,Q9,Qs]at ab;exact ab.1.symm
        have hv:σ.slot d= .val c:=by
         rcases ac with m | ⟨ags,m⟩
         ·exact m
         ·rcases hwh with C | C
          ·cases C
          ·simp only at C;rw[m]at C;cases C
        have hsh3:Z0f c.ag (a.tmps.getD d undef):=by
         have:=I.slot d Z;rw[hv]at this;exact this.1
        rw[hll]at W;obtain⟨G5,I5,hs5⟩:=I3.put (i:=d) (tv:= .val ⟨c.τ,c.ag,U.1,U.2⟩) (v:=a.tmps.getD d undef) ⟨hsh3,W⟩ (λhi=>I.pin d hi) (.inr rfl)
        have hact:a.put (some d) (a.tmps.getD d undef)=a:=by
         have Z:d<a.tmps.size:=by rw[I.len];exact Z
         simp only[Act.put];have:a.tmps.setIfInBounds d (a.tmps.getD d undef)=a.tmps:=by
          apply Array.ext
          ·simp
          ·intro i m C;simp only[Array.getElem_setIfInBounds C];split
           ·rename_i h;subst h;rfl
           ·rfl
         rw[this]
        rw[hact]at I5;exact⟨G5,I5,hs5⟩
      obtain⟨G5,I5,hs5⟩:=hfin;refine⟨K,_,G5,f1,vs',rfl,?_,by simpa using I5,Z0j.sim hs5 _ _ _ ho1⟩
      rw[<-hk]
      match K with
      | []=>rfl
      | [_]=>rfl
      |_::_::_=>rfl
     ·cases hk
    ·cases hk
   ·cases h
  ·cases h
 ·cases h
end
end Go.PI
namespace Go.PI
section
variable {W0:Base}{M:Nat->Prop}{σ:State}{a:Act}{w w':World}{G:Ghost}{xs:List Nat}{P:Program}{R:Type}{Γ:Env R}{r:R}
def Z2v (w:World)(F:Nat->Nat)(b:Nat):Nat:=match w.heap[b]? with | some (.cells c _ _)=>max (F b) c.size | _=>F b
theorem Z6u (w:World)(F:Nat->Nat)(b:Nat):F b<=Z2v w F b:=by
 unfold Z2v;split
 ·exact Nat.le_max_left _ _
 ·exact Qq _
theorem Z4u {F:Nat->Nat}{b o n:Nat}{cs:List Value}(h:Z05 w b o n=some cs):o+n<=Z2v w F b:=by
 unfold Z05 at h;unfold Z2v;split at h
 ·rename_i c T fr d;split at h
  ·rw[d];simp only[];exact Qx (by assumption) (Nat.le_max_right _ _)
  ·cases h
 ·cases h
def Old (w:World)(b:Nat):Prop:=b<w.heap.size
theorem Inv.Al_old (I:Inv W0 M σ a w G xs):∀b,G.Al b->Old w b:=λb e=>by
 cases d:G.who b with
 |none=>exact(I.st b (e.2 d)).2
 |some z=>exact(I.lt b z d).1
theorem Rp.whole (I:Inv W0 M σ a w G xs){τ:Ty}{tg:List Tag}{cs:List Value}{x:El τ}{fp:List Nat}(h:Rp w G.F G.St G.Al τ tg cs x fp) :
  Rp w (Z2v w G.F) (Old w) (Old w) τ (List.replicate (Z06 τ) .S) cs x []:=by
 have d:Rp w G.F (Old w) (Old w) τ (List.replicate (Z06 τ) .S) cs x []:=h.toS I.Al_old λb e=>(I.st b e).2
 exact d.pres (λ_ h=>h) (λ_ _ h=>h) (λb _=>Z07.of_block rfl (Z6u _ _ _)) (by simp) (.inl λt ht=>by rw[(XC.1 ht).2];rfl)
theorem Z8w (I:Inv W0 M σ a w G xs){o:Operand}{v:TVal}(h:σ.ptrVal o=some v):Z2D w (Z2v w G.F) (Old w) (Old w) v.τ v.x (a.eval o):=by
 unfold State.ptrVal at h;have f:=Z0v I o;have e:∀ {p:Place} {u:TVal} {z:Value},Z0w σ G a w p z->σ.getAt p=some u->Z2D w (Z2v w G.F) (Old w) (Old w) u.τ u.x z:=by
  intro p u z l k;obtain⟨cs,b,e,rfl⟩:=l.some k;obtain⟨fp,g⟩:=Z2t I k e;have i:=Z1D I e (w2:=w) ⟨λ_ _ _ _ _ _ _ h=>h,λ_ _ _=>rfl⟩
  rw[g.len.1]at i;exact⟨b.1,b.2,cs,rfl,i,Z0W i,Z4u i,g.whole I⟩
 split at h
 ·rename_i p d;rw[d]at f;exact e (f (by simp)).2.2.2 h
 ·rename_i p d;rw[d]at f;exact e (f (by simp)).2 h
 ·rename_i u t d;cases h;rw[d]at f;obtain⟨_,_,b,o',cs,m,j,q,y,A,n⟩:=f (by simp)
  exact⟨b,o',cs,m,j,Z0W j,Z4u j,n.whole I⟩
 ·cases h
theorem Z3m (I:Inv W0 M σ a w G xs):(d:List Place)->(us:List Value)->(vs:List TVal)->σ.placesVal d=some vs->us.length=d.length->(∀i (h:i<d.length),Z0w σ G a w d[i] (us.getD i undef)) ->
  vs.length=d.length/\SPs w (Z2v w G.F) (Old w) (Old w) (vs.map (·.τ)) (Z6X vs).τ (Z6X vs).x us/\∀i (h:i<vs.length),Z2D w (Z2v w G.F) (Old w) (Old w) vs[i].τ vs[i].x (us.getD i undef)
 | [],us,vs,h,e,_=>by
  simp only[State.placesVal,Q9]at h;subst h;exact⟨rfl,Qv.1 e,λi h=>by simp at h⟩
 |p::d,[],vs,h,e,_=>by simp at e
 |p::d,u::us,vs,h,e,q=>by
  simp only[State.placesVal]at h;split at h
  ·rename_i v l y n;cases h;obtain⟨z,B,C⟩:=Z3m I d us l n (by simpa using e) λi m=>q (i+1) (by simpa using m)
   have k:Z2D w (Z2v w G.F) (Old w) (Old w) v.τ v.x u:=by
    obtain⟨cs,b,f,A⟩:=(q 0 (by simp)).some y
    obtain⟨fp,g⟩:=Z2t I y f;have j:=Z1D I f (w2:=w) ⟨λ_ _ _ _ _ _ _ h=>h,λ_ _ _=>rfl⟩
    rw[g.len.1]at j;exact⟨b.1,b.2,cs,A,j,Z0W j,Z4u j,g.whole I⟩
   refine⟨by simp[z],?_,λi m=> ?_⟩
   ·cases l with
    |nil=>
     have:us=[]:=by
      have D:d.length=0:=by simpa using z.symm
      exact Qv.1 (by simp only[Q8]at e;omega)
     subst this;exact⟨rfl,u,rfl,k⟩
    |cons E l=>exact⟨rfl,u,us,rfl,k,B⟩
   ·cases i with
    |zero=>exact k
    |succ i=>exact C i (by simpa using m)
  ·cases h
theorem Z3a (I:Inv W0 M σ a w G xs):(ms:List Mode)->(d:List Operand)->(vs:List TVal)->Z18 ms d σ=some vs ->
  Z0t w (Z2v w G.F) (Old w) ms vs (d.map a.eval) (vs.map λ_=>[]) []/\ms.length=d.length
 | [],[],vs,h=>by
  simp only[Z18,Q9]at h;subst h;exact⟨trivial,rfl⟩
 | [],_::_,vs,h=>by simp[Z18]at h
 |.look τ ag::ms,[],vs,h=>by simp[Z18]at h
 |.look τ ag::ms,o::d,vs,h=>by
  simp only[Z18]at h;split at h
  ·rename_i v A;split at h
   ·rename_i e;obtain⟨l,j,rfl⟩:=Qm.1 h;obtain⟨m,n⟩:=Z3a I ms d l j;obtain⟨p,q⟩:=Z61 I A;exact⟨⟨rfl,by rw[<-e.2];exact q,p.whole I,m⟩,by simp[n]⟩
   ·cases h
  ·cases h
 |.rptr τ::ms,[],vs,h=>by simp[Z18]at h
 |.rptr τ::ms,o::d,vs,h=>by
  simp only[Z18]at h;split at h
  ·rename_i v A;split at h
   ·obtain⟨l,j,rfl⟩:=Qm.1 h;obtain⟨m,n⟩:=Z3a I ms d l j;exact⟨⟨rfl,Z8w I A,m⟩,by simp[n]⟩
   ·cases h
  ·cases h
 |.rclos f J::ms,[],vs,h=>by simp[Z18]at h
 |.rclos f J::ms,o::d,vs,h=>by
  simp only[Z18]at h;have u:=Z0v I o;split at h
  ·rename_i g L k;rw[k]at u;obtain⟨_,us,p,q,Q⟩:=u (by simp)
   split at h
   ·rename_i D B;split at h
    ·rename_i e;simp only[Q6,QG,Ql]at e;obtain⟨rfl,C⟩:=e;obtain⟨l,j,rfl⟩:=Qm.1 h;obtain⟨m,n⟩:=Z3a I ms d l j;obtain⟨_,H,_⟩:=Z3m I L us.toList D B (by simpa using q) λi K=>by
      have:=(Q i K).2.2;rwa[X5,<-QK,<-Qc]at this
     rw[C]at H;exact⟨⟨rfl,⟨us,p,H⟩,m⟩,by simp[n]⟩
    ·cases h
   ·cases h
  ·rename_i g E v k;rw[k]at u;obtain⟨_,us,p,q⟩:=u (by simp)
   split at h
   ·rename_i e;simp only[Q6,QG,Ql]at e;obtain⟨rfl,rfl⟩:=e;obtain⟨l,j,rfl⟩:=Qm.1 h;obtain⟨m,n⟩:=Z3a I ms d l j;refine⟨⟨rfl,⟨us,p,?_⟩,m⟩,by simp[n]⟩
    have z:SPs w G.F (Old w) (Old w) E v.τ v.x us.toList:=SPs.pres (λb y=>(I.st b y).2) (λb _ y=>I.Al_old b y) (λb _=>Z07.refl _ _ _) _ _ _ _ q
    exact SPs.pres (λ_ h=>h) (λ_ _ h=>h) (λb _=>Z07.of_block rfl (Z6u _ _ _)) _ _ _ _ z
   ·cases h
  ·cases h
 |.borrow τ ag::ms,d,vs,h=>by cases d<;>simp[Z18]at h
 |.consume τ ag::ms,d,vs,h=>by cases d<;>simp[Z18]at h
 |.eat τ ag::ms,d,vs,h=>by cases d<;>simp[Z18]at h
 |.inout τ ag::ms,d,vs,h=>by cases d<;>simp[Z18]at h
 |.ptr τ::ms,d,vs,h=>by cases d<;>simp[Z18]at h
 |.clos g J::ms,d,vs,h=>by cases d<;>simp[Z18]at h
theorem Z5Q {F:Nat->Nat}{St:Nat->Prop}:(d:List Mode)->(b:List TVal)->(us:List Value)->Z1t d b=true->us.length=b.length->(∀i (h:i<b.length),Z2D w F St St b[i].τ b[i].x (us.getD i undef)) ->
  Z0t w F St d b us (b.map λ_=>[]) []
 | [],[],us,_,e,_=>by
  have:us=[]:=Qv.1 e;subst this;trivial
 | [],_::_,_,h,_,_=>by simp[Z1t]at h
 |.rptr τ::d,[],_,h,_,_=>by simp[Z1t]at h
 |.rptr τ::d,v::b,[],h,e,_=>by simp at e
 |.rptr τ::d,v::b,u::us,h,e,f=>by
  simp only[Z1t,Q6]at h;exact⟨rfl,f 0 (by simp),Z5Q d b us h.2 (by simpa using e) λi j=>f (i+1) (by simpa using j)⟩
 |.borrow τ ag::ms,vs,_,h,_,_=>by cases vs<;>simp[Z1t]at h
 |.consume τ ag::ms,vs,_,h,_,_=>by cases vs<;>simp[Z1t]at h
 |.eat τ ag::ms,vs,_,h,_,_=>by cases vs<;>simp[Z1t]at h
 |.inout τ ag::ms,vs,_,h,_,_=>by cases vs<;>simp[Z1t]at h
 |.ptr τ::ms,vs,_,h,_,_=>by cases vs<;>simp[Z1t]at h
 |.clos g k::ms,vs,_,h,_,_=>by cases vs<;>simp[Z1t]at h
 |.look τ ag::ms,vs,_,h,_,_=>by cases vs<;>simp[Z1t]at h
 |.rclos g k::ms,vs,_,h,_,_=>by cases vs<;>simp[Z1t]at h
theorem Z2c {F:Nat->Nat}{St:Nat->Prop}{k:List Mode}{l:List TVal}{m:List Value}{d:List (List Nat)}(n:Z0t w F St k l m d []) :
  (ms:List Mode)->(vs:List TVal)->(xs:List Value)->(b:List (List Nat))->ms.all Mode.isLook=true->Z0t w F St ms vs xs b []->Z0t w F St (ms++k) (vs++l) (xs++m) (b++d) []
 | [],vs,xs,b,_,h=>by
  cases vs<;>cases xs<;>cases b<;>first | exact n | exact h.elim
 |.look τ ag::ms,vs,xs,b,j,h=>by
  cases vs<;>cases xs<;>cases b<;>first | exact h.elim | skip
  obtain⟨e,f,p,i⟩:=h;exact⟨e,f,p,Z2c n ms _ _ _ (by simpa[Mode.isLook]using j) i⟩
 |.rptr τ::ms,vs,xs,b,j,h=>by
  cases vs<;>cases xs<;>cases b<;>first | exact h.elim | skip
  obtain⟨e,f,i⟩:=h;exact⟨e,f,Z2c n ms _ _ _ (by simpa[Mode.isLook]using j) i⟩
 |.rclos g q::ms,vs,xs,b,j,h=>by
  cases vs<;>cases xs<;>cases b<;>first | exact h.elim | skip
  obtain⟨e,f,i⟩:=h;exact⟨e,f,Z2c n ms _ _ _ (by simpa[Mode.isLook]using j) i⟩
 |.borrow τ ag::ms,_,_,_,h,_=>by simp[Mode.isLook]at h
 |.consume τ ag::ms,_,_,_,h,_=>by simp[Mode.isLook]at h
 |.eat τ ag::ms,_,_,_,h,_=>by simp[Mode.isLook]at h
 |.inout τ ag::ms,_,_,_,h,_=>by simp[Mode.isLook]at h
 |.ptr τ::ms,_,_,_,h,_=>by simp[Mode.isLook]at h
 |.clos g q::ms,_,_,_,h,_=>by simp[Mode.isLook]at h
theorem Z32:(ms:List Mode)->(xs:List Value)->ms.all Mode.isLook=true->Z0X ms xs=[]
 | [],xs,_=>by cases xs<;>rfl
 |.look τ ag::ms,xs,h=>by
  cases xs with
  |nil=>rfl
  |cons x xs=>exact Z32 ms xs (by simpa[Mode.isLook]using h)
 |.rptr τ::ms,xs,h=>by
  cases xs with
  |nil=>rfl
  |cons x xs=>exact Z32 ms xs (by simpa[Mode.isLook]using h)
 |.rclos g b::ms,xs,h=>by
  cases xs with
  |nil=>rfl
  |cons x xs=>exact Z32 ms xs (by simpa[Mode.isLook]using h)
 |.borrow τ ag::ms,_,h=>by simp[Mode.isLook]at h
 |.consume τ ag::ms,_,h=>by simp[Mode.isLook]at h
 |.eat τ ag::ms,_,h=>by simp[Mode.isLook]at h
 |.inout τ ag::ms,_,h=>by simp[Mode.isLook]at h
 |.ptr τ::ms,_,h=>by simp[Mode.isLook]at h
 |.clos g b::ms,_,h=>by simp[Mode.isLook]at h
theorem Z7k (l:List TVal):(l.map λ_=>([]:List Nat)).flatten=[]:=by
 induction l with
 |nil=>rfl
 |cons v l b=>simp
theorem Z58 {F:Nat->Nat}{St:Nat->Prop}{G':Ghost}:(rs:List TVal)->(vs:List Value)->(b:List (List Nat))->Z39 w' F St rs vs b->(∀v∈rs,Z06 v.τ=0)->b.flatten=[]/\Z0j w' G' rs vs b
 | [],vs,b,h,_=>by cases vs<;>cases b<;>first | exact⟨rfl,trivial⟩ | exact h.elim
 |u::rs,vs,b,h,d=>by
  cases vs<;>cases b<;>first | exact h.elim | skip
  obtain⟨⟨e,_,f⟩,g⟩:=h;obtain⟨j,k⟩:=Z58 rs _ _ g λv i=>d v (Qa _ i)
  obtain⟨l,m,n⟩:=f.leafless (F':=G'.F) (St':=G'.St) (Al':=G'.Al) (d u (by simp))
  subst m;exact⟨by simpa using j,⟨e,by rw[l];exact n⟩,k⟩
theorem Inv.newer (I:Inv W0 M σ a w G []){F':Nat->Nat}(e:Ext (·∈ ([]:List Nat)) w w') :
  ∃G',Inv W0 M σ a w' G' []/\Calmer w G w' G':=by
 let G':Ghost:={ G with F:=λb=>if b<w.heap.size then G.F b else F' b }
 have g:∀b,b<w.heap.size->Z07 w G.F w' G'.F b/\G'.F b=G.F b:=by
  intro b d;have j:G'.F b=G.F b:=QM d;exact⟨Z07.of_block (e.block b d (by simp)) (by rw[j];exact Qq _),j⟩
 have f:∀b z,G.who b=some z->b<w.heap.size:=λb z h=>(I.lt b z h).1
 have m:Same σ w G w' G':=⟨rfl,rfl,rfl,λ_ _ h _=>h,λ_ _ h=>h,λ_ h=>h,λb h=>(g b (I.st b h).2).1,λb z h _ _=>g b (f b z h),λi v h=>e.block _ (f _ _ (I.box i v h).2) (by simp),.inr λb d _=>(g b d).1⟩
 refine⟨G',I.world m (λb d=>⟨(I.st b d).1,by have:=(I.st b d).2;have:=e.size;omega⟩) (λb z d=>⟨by have:=f b z d;have:=e.size;omega,(I.lt b z d).2⟩) ?_ (λb d=>by cases d) List.nodup_nil ⟨λb d l=> ?_,I.org.St,I.org.St'⟩,⟨λw2 k=>⟨λb d p o n cs q j=> ?_,λi b d=> ?_⟩,λw2 k i b d=> ?_⟩⟩
 ·refine⟨e.os.trans I.ext.os,e.tape.trans I.ext.tape,e.output.trans I.ext.output,by have:=I.ext.size;have:=e.size;omega,λb d l=> ?_⟩
  rw[e.block b (by have:=I.ext.size;omega) (by simp)]
  exact I.ext.block b d l
 ·rw[(g b (by have:=I.ext.size;omega)).2]
  exact I.org.F b d l
 ·refine k.1 b (by have:=e.size;omega) p o n cs (by rw[(g b d).2];exact q) ?_
  rw[Z0Z (e.block b d (by simp))];exact j
 ·rw[k.2 i b d];exact e.block b (f b _ d) (by simp)
 ·rw[k i b d];exact e.block b (f b _ d) (by simp)
theorem Z6A {g:FuncId}{p:Sig R}(hs:Z16 P g p)(I:Inv W0 M σ a w G [])(Y:p.modes.all Mode.isLook=true){T:List Operand}{d:List TVal}{us:List Value}(K:us.length=d.length)
  (L:∀i (h:i<d.length),Z2D w (Z2v w G.F) (Old w) (Old w) d[i].τ d[i].x (us.getD i undef)) {k:TV->State->Option R} (h:Z6V p T d σ k=some r) :
  Calls P g (T.map a.eval++us).toArray w λe w'=>∃f G' V vs,e= .returned (Z1G vs)/\k (Z6Y f) σ=some r/\Inv W0 M σ a w' G' (V.flatten++[])/\Z0j w' G' f vs V/\Calmer w G w' G':=by
 unfold Z6V at h;split at h
 ·rename_i vals y;split at h
  ·rename_i A;obtain⟨q1,q2⟩:=Z3a I _ _ _ y;have q3:=Z5Q (w:=w) (F:=Z2v w G.F) (St:=Old w) _ _ us A K L;have u:(p.modes.take T.length).all Mode.isLook=true:=QD.2 λm J=>QD.1 Y m (X7 J)
   have E:=Z2c q3 _ _ _ _ u q1;rw[XB,<-QU]at E;have j:((vals++d).map λ_=>([]:List Nat)).flatten=[]:=Z7k _
   generalize ((vals++d).map λ_=>([]:List Nat))=fps at E j
   refine(hs.2 _ [] _ r h w (Z2v w G.F) (Old w) _ [] _ [] E trivial (by simp[j]) (λb hb=>⟨hb,by simp[j]⟩) (by simp[j])).mono λe w'=> ?_
   rintro⟨v,f,Q,U,rfl,l,⟨hty,_,_⟩,X,F',St',vs,q,D,⟨rfl,B,hvl⟩,n,z,W,hF,hS1,hS2,Z,hR⟩;rw[Z32 _ _ Y]at B n;have C:Q=[]:=Qv.1 B;subst C;rw[Qe,Qe]at n;obtain⟨rfl,rfl⟩:=Z1a.nils z;simp only[j,XT,Qe]at W;simp only[List.isEmpty_nil,Qd]at l;rw[Z1P]at l;obtain⟨H,l⟩:=l;obtain⟨G',I',hC⟩:=I.newer (F':=F') W;obtain⟨e1,e2⟩:=Z58 (G':=G') f vs q n λv hv=>by
    have:=QD.1 H v hv;simpa using this
   refine⟨f,G',q,vs,rfl,?_,by rw[e1];exact I',e2,hC⟩
   match f,l with
   | [],l=>exact l
   | [_],l=>exact l
   |_::_::_,l=>exact l
  ·cases h
 ·cases h
theorem Z6f {F:Nat->Nat}{St Al:Nat->Prop}:(e:List Ty)->(τ:Ty)->(x:El τ)->(us:List Value)->(vs:List TVal)->Z4m e τ x=some vs->SPs w F St Al e τ x us ->
  us.length=vs.length/\∀i (h:i<vs.length),Z2D w F St Al vs[i].τ vs[i].x (us.getD i undef)
 | [],_,_,us,vs,h,d=>by
  simp only[Z4m,Q9]at h;subst h;have:us=[]:=d;subst this;exact⟨rfl,λi h=>by simp at h⟩
 | [v],τ,x,us,vs,h,d=>by
  simp only[Z4m]at h;split at h
  ·cases h;obtain⟨_,u,rfl,f⟩:=d;refine⟨rfl,λi g=> ?_⟩
   cases i with
   |zero=>exact f
   |succ i=>simp at g
  ·cases h
 |v::k::e,.pair a b,x,us,vs,h,d=>by
  simp only[Z4m]at h;split at h
  ·obtain⟨l,n,rfl⟩:=Qm.1 h;obtain⟨_,u,j,rfl,f,m⟩:=d;obtain⟨p,q⟩:=Z6f (k::e) b x.2 j l n m;refine⟨by simp[p],λi g=> ?_⟩
   cases i with
   |zero=>exact f
   |succ i=>exact q i (by simpa using g)
  ·cases h
 |_::_::_,.int _,_,_,_,_,h=>h.elim
 |_::_::_,.bool,_,_,_,_,h=>h.elim
 |_::_::_,.str,_,_,_,_,h=>h.elim
 |_::_::_,.unit,_,_,_,_,h=>h.elim
 |_::_::_,.slice _,_,_,_,_,h=>h.elim
end
end Go.PI
namespace Go.PI
theorem Z7i {w:World}{F:Nat->Nat}{St Al:Nat->Prop}:{τ:Ty}->{tg:List Tag}->{cs:List Value}->{x:El τ}->{fp:List Nat}->Rp w F St Al τ tg cs x fp->Z52 τ x=true->Rp w F St Al τ (List.replicate (Z06 τ) .S) cs x []
 |.int _,_,_,_,_,h,_=>⟨h.1,rfl,rfl⟩
 |.bool,_,_,_,_,h,_=>⟨h.1,rfl,rfl⟩
 |.str,_,_,_,_,h,_=>⟨h.1,rfl,rfl⟩
 |.unit,_,_,_,_,h,_=>⟨h.1,rfl,rfl⟩
 |.slice e,_,_,x,_,h,d=>by
  obtain⟨t,a,cap,rfl,rfl,f,_⟩:=h;have l:x=([]:List (El e)):=YU.1 d;exact⟨.S,a,cap,rfl,rfl,f,.inr (.inr ⟨rfl,rfl,.inl l⟩)⟩
 |.pair a b,_,_,_,_,h,d=>by
  obtain⟨p,q,g,i,m,n,rfl,rfl,rfl,j,k⟩:=h;simp only[Z52,Q6]at d;exact⟨_,_,g,i,[],[],by simp[Z06],rfl,rfl,Z7i j d.1,Z7i k d.2⟩
section
variable {W0:Base}{M:Nat->Prop}{σ:State}{a:Act}{w:World}{G:Ghost}{xs:List Nat}
theorem Z3e (σ:State)(i:Nat):σ.renil.boxAt i=Z4h (σ.boxAt i):=Z2r _ rfl _ _
theorem Sim.fb (G:Ghost)(fb:Nat->List Nat):Sim G { G with fb:=fb }:=⟨rfl,rfl,rfl,rfl,λ_ _=>Iff.rfl⟩
theorem Z7R {b:Option TVal}{v:TVal}(h:Z4h b=some v):∃u,b=some u/\(v=u\/(Z52 u.τ u.x=true/\v={ u with tg:=u.tg.map λ_=> .S })):=by
 cases b with
 |none=>cases h
 |some u=>
  simp only[Z4h]at h;cases e:u.noN
  ·cases d:Z52 u.τ u.x
   ·rw[e,d]at h;cases h;exact⟨_,rfl,.inl rfl⟩
   ·rw[e,d]at h;cases h;exact⟨_,rfl,.inr ⟨d,rfl⟩⟩
  ·rw[e]at h;cases h;exact⟨_,rfl,.inl rfl⟩
theorem Z9f (σ:State)(p:Place):σ.renil.ct p=σ.ct p:=by
 obtain⟨box,b,path⟩:=p;cases box with
 |true=>
  simp only[State.ct,State.content];rw[Z3e];cases σ.boxAt b with
  |none=>rfl
  |some u=>
   simp only[Z4h];cases u.noN
   ·cases Z52 u.τ u.x<;>rfl
   ·rfl
 |false=>rfl
theorem Inv.renil (I:Inv W0 M σ a w G xs):∃fb,Inv W0 M σ.renil a w { G with fb:=fb } xs:=by
 classical
 have l:Z83 σ σ.renil:=λp=> .inl (Z9f σ p)
 refine⟨λi=>if σ.renil.boxAt i=σ.boxAt i then G.fb i else [],⟨I.defers,I.len,λi n=> ?_,λi v g=> ?_,I.whoS,λi b f=> ?_,I.whoX,I.nodS,λi=> ?_,I.nodX,I.st,I.lt,I.ext,I.adx,⟨I.org.F,I.org.St,I.org.St'⟩,I.pin⟩⟩
 ·have h:Z01 σ G a w (σ.slot i) (a.tmps.getD i undef) (G.fs i):=I.slot i n;exact Z01.ghost rfl rfl (λ_=>rfl) rfl (h.less l)
 ·by_cases d:σ.renil.boxAt i=σ.boxAt i
  ·have h:(∃c T,w.heap[G.ad i]? = some (.cells c T (0,0))/\Rp w G.F G.St G.Al v.τ v.tg c.toList v.x (G.fb i))/\G.who (G.ad i)=some (.a i):=I.box i v (d ▸ g);simp only[d,XH];exact h
  ·rw[Z3e]at g;obtain⟨u,k,h⟩:=Z7R g;rcases h with rfl | ⟨q,rfl⟩
   ·exact absurd (by rw[Z3e,g,k]) d
   ·obtain⟨⟨c,T,m,j⟩,r⟩:=I.box i u k;simp only[d,XI];refine⟨⟨c,T,m,?_⟩,r⟩;have:=Z7i j q;have e:(u.tg.map λ_=>Tag.S)=List.replicate (Z06 u.τ) .S:=by
     rw[<-j.len.2,List.map_const']
    rw[e];exact this
 ·simp only[]at f;split at f
  ·exact I.whoC i b f
  ·simp at f
 ·simp only[];split
  ·exact I.nodC i
  ·simp
theorem Z3i:(rs:List Nat)->(l:List TVal)->σ.boxesAt rs=some l->(∀v∈l,v.noN=true)->σ.renil.boxesAt rs=some l
 | [],l,h,_=>h
 |x::rs,l,h,d=>by
  simp only[State.boxesAt]at h ⊢;split at h
  ·rename_i v l' f b;cases h;rw[Z3e,f,Z3i rs l' b λu e=>d u (Qa _ e)]
   simp[Z4h,d v (by simp)]
  ·cases h
end
end Go.PI
namespace Go.PI
section
variable {W0:Base}{M:Nat->Prop}{σ σ3:State}{a:Act}{w w' w3:World}{G G3:Ghost}{xs:List Nat}{P:Program}{R:Type}{Γ:Env R}{r:R}{tys:List (TypeId×Ty×List TypeId)}
theorem Z5a {p:Place}(h:Z08 p.path=true):(l:List TV)->(i:Nat)->(σ:State)->Z0V p l i σ=σ
 | [],_,_=>rfl
 |t::l,i,σ=>by
  have b:Z4f p t=false:=by cases t<;>simp[Z4f,h]
  simp only[Z0V,b,Xj,XI];split<;>exact Z5a h l (i+1) σ
theorem Z4J:{p:List Step}->{τ:Ty}->{x:El τ}->{tg:List Tag}->{u:TVal}->Z08 p=true->Z04 τ x tg p=some u->Z0d τ p=some u.τ
 | [],τ,x,tg,u,_,h=>by
  cases τ<;>(simp only[Z04,Q9]at h;subst h;rw[Z1F])
 |.fst::p,.pair a b,x,tg,u,d,h=>by
  simp only[Z04]at h;simp only[Z0d];exact Z4J (p:=p) d h
 |.snd::p,.pair a b,x,tg,u,d,h=>by
  simp only[Z04]at h;simp only[Z0d];exact Z4J (p:=p) d h
 |.idx _::_,_,_,_,_,d,_=>by cases d
 |.fst::_,.int _,_,_,_,_,h=>by simp[Z04]at h
 |.fst::_,.bool,_,_,_,_,h=>by simp[Z04]at h
 |.fst::_,.str,_,_,_,_,h=>by simp[Z04]at h
 |.fst::_,.unit,_,_,_,_,h=>by simp[Z04]at h
 |.fst::_,.slice _,_,_,_,_,h=>by simp[Z04]at h
 |.snd::_,.int _,_,_,_,_,h=>by simp[Z04]at h
 |.snd::_,.bool,_,_,_,_,h=>by simp[Z04]at h
 |.snd::_,.str,_,_,_,_,h=>by simp[Z04]at h
 |.snd::_,.unit,_,_,_,_,h=>by simp[Z04]at h
 |.snd::_,.slice _,_,_,_,_,h=>by simp[Z04]at h
theorem Z0A.sim {σ':State}{G':Ghost}{p:Place}{cs:List Value}{base:Option (Nat×Nat)}(e:σ'.ct p=σ.ct p)(d:G'.ad=G.ad)(h:Z0A σ G a w p cs base):Z0A σ' G' a w p cs base:=by
 obtain⟨τ,l,b,g,f,i⟩:=h;exact⟨τ,l,b,e.trans g,by unfold Z09 at f ⊢;rw[d];exact f,i⟩
structure Held (σ:State)(a:Act)(w:World)(G:Ghost)(p:Place)(c u:TVal)(l:List Value)(bs:Option (Nat×Nat))(cs:List Value)(b off:Nat)(fpc fpo fpi:List Nat):Prop where
 con:σ.content p=some c
 loc:Z09 G a w p=some (l,bs)
 at_:Z00 w c.τ l bs p.path=some (cs,some (b,off))
 lens:Lens w G.F G.St G.Al c.τ c.tg l c.x fpc bs p.path cs (some (b,off)) u fpo fpi
 cell:∃C T fr,w.heap[b]? = some (.cells C T fr)/\off+size u.τ<=C.size/\Z3Z C fr
 box:p.box=true->((∃cc T,w.heap[G.ad p.root]? = some (.cells cc T (0,0))/\l=cc.toList)/\bs=some (G.ad p.root,0)/\G.who (G.ad p.root)=some (.a p.root)/\p.root<σ.boxes.length /\
  ∀j,j<σ.slots.length->Z1s p.root ((σ.loosen true p.root).slot j) (a.tmps.getD j undef) (Z2k (G.ad p.root) c.τ))
 slot:p.box=false->σ.slot p.root= .val c/\p.root<σ.slots.length/\l=Z02 (a.tmps.getD p.root undef)/\Z0f c.ag (a.tmps.getD p.root undef)
 flat:Z08 p.path=true->p.box=true/\b=G.ad p.root/\off=Z0g c.τ p.path
 deep:Z08 p.path=false->b∈fpo
theorem Z6G (I:Inv W0 M σ a w G xs){p:Place}{c u:TVal}(hc:σ.content p=some c)(hu:σ.getAt p=some u)(hcO:c.allO=true)(V:Z5b σ p=true)(hfl:Z08 p.path=true->p.box=true)
  {cs:List Value} {base:Option (Nat×Nat)} (D:Z0A σ G a w p cs base) :
  ∃l Y b off n y A v,Held σ a w G p c u l Y cs b off n y A/\Inv W0 M (σ.hold p) a w v (A++(y++xs))/\Sim G v:=by
 obtain⟨τc,l,Y,ae,q,F⟩:=id D;have:τc=c.τ:=by rw[State.ct,hc]at ae;simpa using ae.symm
 subst this;obtain⟨l',bs',n,H,aa,i⟩:=Z0F I hc;rw[q]at H;cases H;obtain⟨c',ac,ag⟩:=Z0B hu;rw[hc]at ac;cases ac;have af:∀z∈n,G.who z=some (if p.box then .c p.root else .s p.root):=by
  intro z W;rcases i with⟨d,_,rfl,_⟩ | ⟨d,_,rfl,_⟩
  ·rw[d];exact I.whoC _ z W
  ·rw[d];exact I.whoS _ z W
 have ah:n.Nodup:=by
  rcases i with⟨_,_,rfl,_⟩ | ⟨_,_,rfl,_⟩
  ·exact I.nodC _
  ·exact I.nodS _
 obtain⟨y,A,L⟩:=Rp.lens (base:=Y) aa (Z1A.1 hcO) ah (λz W hm=>by
  rcases i with⟨d,f,_,k⟩ | ⟨_,_,_,k,_⟩
  ·rw[k]at W;cases W;have g:=af _ hm;rw[(I.box _ _ f).2,d]at g;cases g
  ·rw[k]at W;cases W) F ag
 have E:p.box=false->σ.slot p.root= .val c:=by
  intro d;rcases i with⟨e,_⟩ | ⟨_,_,_,_,E⟩
  ·rw[d]at e;cases e
  ·rcases E with g | ⟨ags,g⟩
   ·exact g
   ·simp only[Z5b,d,XY]at V;rw[g]at V;cases V
 have K:∃b off,base=some (b,off)/\(Z08 p.path=true->p.box=true/\b=G.ad p.root/\off=Z0g c.τ p.path)/\(Z08 p.path=false->b∈y)/\∃C T fr,w.heap[b]? = some (.cells C T fr)/\off+size u.τ<=C.size/\Z3Z C fr:=by
  cases hf:Z08 p.path with
  |false=>
   obtain⟨b',o',m,g,Z,h3,⟨C,T,fr,h4,h5,h6⟩⟩:=L.deep hf;exact⟨b',o',g,λh=>(by cases h),λ_=>Z,C,T,fr,h4,by omega,h6⟩
  |true=>
   have d:=hfl hf;have g:=L.flat hf;rcases i with⟨_,f,_,k⟩ | ⟨e,_⟩
   ·rw[k]at g;obtain⟨⟨cc,T,B,ab⟩,_⟩:=I.box _ _ f;refine⟨_,_,g,λ_=>⟨d,rfl,by simp⟩,λh=>(by cases h),cc,T,(0,0),B,?_,λj _ h=>by simp at h⟩
    have hτf:=Z4J hf ag;have Z:=(Z0T (w:=w) (base:=Y) hτf aa.len.1).2;have hcl:cc.toList.length=size c.τ:=ab.len.1;simp only[X8]at hcl;omega
   ·rw[d]at e;cases e
 obtain⟨b,off,rfl,hb1,hb2,Q⟩:=K;have ai:∃v,Inv W0 M (σ.hold p) a w v (n++xs)/\Sim G v:=by
  obtain⟨bx,J,path⟩:=p;rcases i with⟨d,f,rfl,_⟩ | ⟨d,U,rfl,_,_⟩
  ·simp only at d f;subst d;obtain⟨v,X,g,_⟩:=I.takeBox f;exact⟨v,X,g⟩
  ·simp only at d;subst d;obtain⟨v,X,g,_⟩:=I.takeSlot (E rfl);exact⟨v,X,g⟩
 obtain⟨v,X,g⟩:=ai;refine⟨l,Y,b,off,n,y,A,v,⟨hc,q,F,L,Q,λd=> ?_,λd=> ?_,hb1,hb2⟩,X.perm ?_,g⟩
 ·rcases i with⟨_,f,_,k⟩ | ⟨e,_⟩
  ·obtain⟨_,_,_,ak,⟨cc,T,B,_⟩,aj⟩:=I.takeBox f;refine⟨⟨cc,T,B,?_⟩,k,ak,Z1B f,aj⟩;obtain⟨bx,J,path⟩:=p;simp only at d;subst d;simp only[Z09,B,Q9,Qs]at q;exact q.1.symm
  ·rw[d]at e;cases e
 ·rcases i with⟨e,_⟩ | ⟨_,U,_,_,_⟩
  ·rw[d]at e;cases e
  ·have Z:=E d;have h3:=I.slot p.root U;rw[Z]at h3;refine⟨Z,U,?_,h3.1⟩;obtain⟨bx,J,path⟩:=p;simp only at d;subst d;simp only[Z09,Q9,Qs]at q;exact q.1.symm
 ·have:=L.perm;rw[<-Qb];exact List.Perm.append_right _ (this.trans XQ)
theorem Z6F {p:Place}{c u v:TVal}{l cs:List Value}{bs:Option (Nat×Nat)}{b off:Nat}{fpc k fpi y:List Nat}(H:Held σ a w G p c u l bs cs b off fpc k fpi)(Z:Inv W0 M σ3 a w3 G3 (y++k))(hN3:σ3.noN)(had:G3.ad=G.ad)
  (hk:∀z∈k,G3.F z=G.F z/\w3.heap[z]? = w.heap[z]? /\ (G.Al z->G3.Al z))
  (m:p.box=true->G3.who (G.ad p.root)=some (.a p.root)/\w3.heap[G.ad p.root]? = w.heap[G.ad p.root]? /\ σ3.boxAt p.root=none/\σ3.boxes.length=σ.boxes.length/\∀j,σ3.slot j=(σ.loosen true p.root).slot j\/σ3.slot j= .dead)
  (hlen:σ3.slots.length=σ.slots.length) (hu1:size u.τ=1) (hvu:v.τ=u.τ) (am:∀t∈v.tg,t= .O) {v1:Value} (h1:one v1=true) (hRv:Rp w3 G3.F G3.St G3.Al v.τ v.tg [v1] v.x y)
  {e:El c.τ×List Tag} (aj:Z0I c.τ c.x c.tg p.path v=some e) :
  ∃K,Inv W0 M (σ3.refill p ⟨c.τ,c.ag,e.1,e.2⟩) a (Z0m w3 b off [v1]) K []/\(σ3.refill p ⟨c.τ,c.ag,e.1,e.2⟩).content p=some ⟨c.τ,c.ag,e.1,e.2⟩ /\
   (∃l',Z09 K a (Z0m w3 b off [v1]) p=some (l',bs)/\(Z08 p.path=false->l'=l))/\∃C T fr,w3.heap[b]? = some (.cells C T fr)/\off<C.size/\Z3Z C fr:=by
 obtain⟨C,T,fr,hC,ah,al⟩:=H.cell;rw[hu1]at ah;have A:w3.heap[b]? = some (.cells C T fr):=by
  cases f:Z08 p.path with
  |false=>rw[(hk b (H.deep f)).2.1];exact hC
  |true=>
   obtain⟨D,rfl,_⟩:=H.flat f;rw[(m D).2.1];exact hC
 have hpw:w3.setRow b (Z0c C.toList off [v1]).toArray=Z0m w3 b off [v1]:=Z3V A;obtain⟨z,hz,hzc,hzb⟩:∃z,G3.who b=some z/\(z= .x\/∃i,z= .a i/\σ3.boxAt i=none)/\(b ∉ y):=by
  cases f:Z08 p.path with
  |false=>
   refine⟨.x,Z.whoX b (Qo _ (H.deep f)),.inl rfl,λhm=> ?_⟩
   exact(Qj.1 Z.nodX).2.2 b hm b (H.deep f) rfl
  |true=>
   obtain⟨D,rfl,_⟩:=H.flat f;refine⟨_,(m D).1,.inr ⟨_,rfl,(m D).2.2.1⟩,λhm=> ?_⟩
   have:=Z.whoX _ (Qh k hm);rw[(m D).1]at this;cases this
 have hW:Wrote w3 (Z0m w3 b off [v1]) b:=by rw[<-hpw];exact Wrote.setRow w3 b _
 obtain⟨I4,_,hl4⟩:=Z.patch hz hzc hW (G3.F b) (.inl hN3);have hF4:(λq=>if q=b then G3.F b else G3.F q)=G3.F:=by funext q;split<;>simp_all
 have hvN:∀t∈v.tg,t.isN=false:=λt ht=>by rw[am t ht];rfl
 have ac:=hl4 _ _ _ _ _ hRv hzb (.inl hvN);have hG4:({ G3 with F:=λq=>if q=b then G3.F b else G3.F q }:Ghost)=G3:=by rw[hF4]
 rw[hG4]at I4 ac;have ai:∀q∈k,Put w G.F G.Al (Z0m w3 b off [v1]) G3.F G3.Al (some (b,off)) [v1] q:=by
  intro q hq;obtain⟨k1,k2,k3⟩:=hk q hq;refine⟨k1,k3,?_⟩;by_cases X:q=b
  ·subst X;simp only[Z7n,Z0m];rw[XG,XG,k2]
  ·rw[Z14 X,k2];exact(Z14 X).symm
 obtain⟨L,hpn,htg,U⟩:=H.lens.put _ _ _ _ v _ y e.1 e.2 aj hvu am ac ai;have aa:Inv W0 M σ3 a (Z0m w3 b off [v1]) G3 (L++[]):=I4.perm (by
  rw[Qe];exact(hpn.trans XQ).symm)
 obtain⟨bx,d,path⟩:=p;cases bx with
 |true=>
  obtain⟨⟨⟨cc,Tc,V,E⟩,ae,an,n,I⟩,⟨k1,k2,k3,k4,k5⟩⟩:=And.intro (H.box rfl) (m rfl);simp only at V ae an n I k1 k2 k3 k4 k5;obtain⟨fs,I5,_⟩:=aa.loosen true d;obtain⟨Y,ab,B⟩:∃Y:Array Value,(Z0m w3 b off [v1]).heap[G.ad d]? = some (.cells Y Tc (0,0))/\Y.toList=(if Z08 path then Z0c l (Z0g c.τ path) [v1] else l):=by
   cases f:Z08 path with
   |false=>
    have hne:G.ad d≠b:=λh=>by
     have h2:=Z.whoX b (Qo _ (H.deep f));rw[<-h,k1]at h2;cases h2
    refine⟨cc,by rw[Z14 hne,k2];exact V,?_⟩
    simp only[Xj,XI];exact E.symm
   |true=>
    obtain⟨_,D,ho⟩:=H.flat f;simp only at D ho;subst D;rw[V]at hC;cases hC;refine⟨(Z0c C.toList off [v1]).toArray,?_,?_⟩
    ·simp only[Z0m];rw[XG,A];simp
    ·simp only[XH];rw[E,ho]
  have Q:Rp (Z0m w3 b off [v1]) G3.F G3.St G3.Al c.τ e.2 Y.toList e.1 L:=by rw[B];exact U
  obtain⟨K,J,e1,e2,e3,e4,e5⟩:=Inv.addBox (xs:=[]) I5 (i:=d) (g:=G.ad d) (c:=Y) (T:=Tc) (v:=⟨c.τ,c.ag,e.1,e.2⟩) (by
   show d<σ3.boxes.length
   rw[k4];exact n) ab k1 Q (λj hj=>by
   have hj':j<σ.slots.length:=by
    have:j<σ3.slots.length:=by simpa[State.loosen,Z0b]using hj
    omega
   refine(I j hj').or_dead ?_;rw[Z0i];rcases k5 j with h | h
   ·rw[h];exact TV.loosen_or _ _ _
   ·rw[h];exact .inr rfl) (.inr (by show G3.ad d=_;rw[had]))
  refine⟨K,J,?_,?_,C,T,fr,A,by omega,al⟩
  ·show ((σ3.loosen true d).putBox d _).boxAt d=_
   rw[Z0C,QM ⟨rfl,by
    show d<σ3.boxes.length
    rw[k4];exact n⟩]
  ·refine⟨Y.toList,?_,λf=> ?_⟩
   ·have:K.ad d=G.ad d:=by rw[e5];exact QM rfl
    simp only[Z09];rw[this,ab,ae]
   ·simp only at f;rw[B,f];rfl
 |false=>
  obtain⟨hsl,n,W,ak⟩:=H.slot rfl;simp only at hsl n W ak;have f:Z08 path=false:=by
   cases f:Z08 path with
   |false=>rfl
   |true=>have:=(H.flat f).1;cases this
  simp only[f,Xj,XI]at U;have Q:Rp (Z0m w3 b off [v1]) G3.F G3.St G3.Al c.τ e.2 (Z02 (a.tmps.getD d undef)) e.1 L:=by rw[<-W];exact U
  obtain⟨K,J,hs5⟩:=aa.put (i:=d) (tv:= .val ⟨c.τ,c.ag,e.1,e.2⟩) (v:=a.tmps.getD d undef) ⟨ak,Q⟩ (λhi=>Z.pin d hi) (.inr rfl)
  rw[Z4P]at J;have af:bs=none:=by
   have:=H.loc;simp only[Z09,Q9,Qs]at this;exact this.2.symm
  refine⟨K,J,?_,⟨l,?_,λ_=>rfl⟩,C,T,fr,A,by omega,al⟩
  ·show (match ((σ3.put d (.val ⟨c.τ,c.ag,e.1,e.2⟩))).slot d with | .val v=>some v | .tup v _=>some v | _=>none)=_
   rw[Z4H,QM ⟨rfl,by omega⟩]
  ·simp only[Z09];rw[W,af]
end
end Go.PI
namespace Go.PI
section
variable {W0:Base}{M:Nat->Prop}{σ σ3:State}{a:Act}{w w' w3:World}{G G3:Ghost}{xs:List Nat}{P:Program}{R:Type}{Γ:Env R}{r:R}{tys:List (TypeId×Ty×List TypeId)}
theorem Z5y (I:Inv W0 M σ a w G xs){p:Place}{c u Z:TVal}{l cs:List Value}{m:Option (Nat×Nat)}{b off:Nat}{aa ac ab:List Nat}(H:Held σ a w G p c u l m cs b off aa ac ab){σ':State}{B:Ghost}{v1:Value}{d:Nat}
  (I5:Inv W0 M σ' a (Z0m w3 b off [v1]) B []) (y:σ'.content p=some Z) (K:Z.τ=c.τ) (W:∃l',Z09 B a (Z0m w3 b off [v1]) p=some (l',m)/\(Z08 p.path=false->l'=l)) (q:∃C T fr,w3.heap[b]? = some (.cells C T fr)/\off<C.size/\Z3Z C fr)
  (h1:one v1=true) (hnd:W0.np<=d) (hdl:d<σ.slots.length) (L:p.box=true\/d≠p.root) (ae:Z2K p.path=true) :
  ∃k,HoleSt W0 M ((Z0V p σ.slots 0 σ').puto (some d) .dead) (a.put (some d) v1) w3 d p (Z0m w3 b off [v1]) k b off v1:=by
 obtain⟨l',U,V⟩:=W;have X:∃k,Inv W0 M (Z0V p σ.slots 0 σ') a (Z0m w3 b off [v1]) k []/\(Z0V p σ.slots 0 σ').ct p=some c.τ/\Z09 k a (Z0m w3 b off [v1]) p=some (l',m):=by
  cases Q:Z08 p.path with
  |true=>
   rw[Z5a Q];exact⟨B,I5,by rw[State.ct,y,<-K];rfl,U⟩
  |false=>
   have z:=V Q;subst z;obtain⟨k,J,RA,hs⟩:=Inv.restore (σ:=σ) (G:=G) (w:=w) (p:=p) (λi hi=>⟨_,I.slot i hi⟩) I.pin σ.slots 0 σ' B (λj=>by rw[Xu];rfl) I5 ⟨by
     have D:σ.ct ⟨p.box,p.root,[]⟩=some c.τ:=by
      have:σ.content ⟨p.box,p.root,[]⟩=some c:=H.con;rw[State.ct,this];rfl
     have h3:σ'.ct ⟨p.box,p.root,[]⟩=some c.τ:=by
      have:σ'.content ⟨p.box,p.root,[]⟩=some Z:=y;rw[State.ct,this,<-K];rfl
     rw[D,h3],⟨Z,y⟩,by
     have D:Z09 G a w ⟨p.box,p.root,[]⟩=some (l',m):=H.loc;have h3:Z09 B a (Z0m w3 b off [v1]) ⟨p.box,p.root,[]⟩=some (l',m):=U;rw[D,h3]⟩
   refine⟨k,J,?_,?_⟩
   ·have D:σ.ct ⟨p.box,p.root,[]⟩=some c.τ:=by
     have:σ.content ⟨p.box,p.root,[]⟩=some c:=H.con;rw[State.ct,this];rfl
    exact RA.ct.trans D
   ·exact RA.loc.trans H.loc
 obtain⟨k,J,f,Y⟩:=X;have A:∃n,Z00 (Z0m w3 b off [v1]) c.τ l' m p.path=some (n,some (b,off)):=by
  cases Q:Z08 p.path with
  |true=>exact Z2f Q H.at_
  |false=>
   have z:=V Q;subst z;obtain⟨c',F⟩:∃c',(Z0V p σ.slots 0 σ').content p=some c':=by
    cases hcc:(Z0V p σ.slots 0 σ').content p with
    |none=>rw[State.ct,hcc]at f;cases f
    |some c'=>exact⟨c',rfl⟩
   obtain⟨l'',bs'',fp'',g,E,_⟩:=Z0F J F;rw[Y]at g;cases g;have hτ:c'.τ=c.τ:=by rw[State.ct,F]at f;simpa using f
   obtain⟨cτ,cag,cx,ctg⟩:=c';simp only at hτ E;subst hτ;exact Z3U E ae H.at_
 obtain⟨n,A⟩:=A;obtain⟨G7,J7,hs7⟩:=Inv.puto (fp:=[]) (xs:=[]) J (d:=some d) (tv:= .dead) (v:=v1) rfl (λi hi hlt=>by
  simp only[Q9]at hi;omega)
 refine⟨G7,J7,rfl,?_,h1,⟨c.τ,l',m,n,?_,?_,A⟩,q⟩
 ·simp only[Act.put];rw[X5,YW (by rw[I.len];exact hdl)]
  rfl
 ·rw[Z57 (L.imp id λh e=>h (by simpa using e))]
  exact f
 ·rw[<-Y];obtain⟨bx,root,path⟩:=p;cases bx with
  |true=>simp only[Z09];rw[hs7.ad]
  |false=>
   simp only[Z09];rw[Z56 (by
    rcases L with h | h
    ·cases h
    ·exact λe=>h (by simpa using e))]
theorem Z71 (hT:Z0e P tys){e:Ty}{sT xT ty et et2:TypeId}{le:List TypeId}(hu:P.underlying sT=some (.slice et))(ac:P.underlying xT=some (.slice et2))(Z:Z0o tys et=some (e,le))
  {f fp2:List Nat} (I:Inv W0 M σ a w G (fp2++(f++xs))) (hN:σ.noN) {t':Tag} (ht':t'.isN=false) {ad E:Option Addr} {n cap n' q:Nat} {l m:List (El e)}
  (U:Rp w G.F G.St G.Al (.slice e) [.O] [.slice ad n cap] l f) (W:Rp w G.F G.St G.Al (.slice e) [t'] [.slice E n' q] m fp2) (B:lim (l.length+m.length)=true) (ht0:t'.isO=true\/Z06 e=0) :
  ∃v w' G' fp,(Builtin.append_ #[sT,xT] ty #[.slice ad n cap,.slice E n' q]).run P w= .ok v w'/\Inv W0 M σ a w' G' (fp++xs)/\Z0f false v/\Rp w' G'.F G'.St G'.Al (.slice e) [.O] (Z02 v) (l++m) fp/\(∃k,Calmer w G w' k) /\
   G'.ad=G.ad/\(∀z∈xs,G'.F z=G.F z/\w'.heap[z]? = w.heap[z]? /\ (G.Al z->G'.Al z))/\∀b i,G.who b=some (.a i)->G'.who b=some (.a i)/\w'.heap[b]? = w.heap[b]? := by
 classical
 have ab:(.O:Tag)=(if Z06 e==0 then Tag.O else Tag.O.inner.meet t'.inner).over:=by
  rcases ht0 with h | h
  ·cases t'<;>first | (cases h;done) | skip
   split<;>rfl
  ·simp[h];rfl
 obtain⟨v,w',Gp,fpp,D,_,hsh,_,H⟩:=Z4p (ty:=ty) hT hu ac Z I rfl U W B rfl;have aa:(fp2++f).Nodup:=by
  have:=I.nodX;rw[<-Qb]at this;exact(Qj.1 this).1
 have K:∀b∈fp2++f,G.who b=some .x:=λb d=>I.whoX b (by
  rcases Qr.1 d with h | h
  ·exact Qh _ h
  ·exact Qo _ (Qh _ h))
 let W1:Base:={ toWorld:=w,ad0:=λ_=>0,F0:=G.F,St0:=G.St,np:=0,arg:=λ_=>undef }
 let k:Ghost:={ F:=G.F,St:=G.St,who:=λb=>if b∈fp2++f then some .x else none,fs:=λ_=>[],fb:=λ_=>[],ad:=λ_=>0 }
 have Q:∀b∈fp2++f,k.who b=some .x:=λb d=>QM d
 have T:∀b∈fp2++f,k.Al b:=λb d=>⟨λi h=>(by rw[Q b d]at h;cases h),λh=>(by rw[Q b d]at h;cases h)⟩
 have J:Inv W1 (·∈ fp2++f) ⟨[],[]⟩ { a with tmps:= #[] } w k (fp2++(f++[])):=by
  refine⟨I.defers,rfl,λi hi=>(by simp at hi),λi v hv=> ?_,λi b d=>(by cases d),λi b d=>(by cases d),λb d=>Q b (by simpa using d),λi=>List.nodup_nil,λi=>List.nodup_nil,by simpa using aa,λb d=> ?_,λb z hz=> ?_,Ext.refl _ _,λi _=>rfl,⟨λ_ _ _=>rfl,λb d=>d,λb d=> .inl d⟩,λi hi=>(by simp[W1]at hi)⟩
  ·simp[State.boxAt,Z0x]at hv
  ·have y:=I.st b d;refine⟨QN λg=> ?_,y.2⟩
   rw[K b g]at y;cases y.1
  ·have g:b∈fp2++f:=by
    by_cases g:b∈fp2++f
    ·exact g
    ·have:k.who b=none:=QN g;rw[this]at hz;cases hz
   exact⟨(I.lt b _ (K b g)).1,.inr g⟩
 have V:Rp w k.F k.St k.Al (.slice e) [.O] [.slice ad n cap] l f:=U.narrow (by simp[Tag.isN]) λb d=>T b (Qo _ d)
 have X:Rp w k.F k.St k.Al (.slice e) [t'] [.slice E n' q] m fp2:=W.narrow (by simpa using ht') λb d=>T b (Qh _ d)
 obtain⟨v2,w2,G2,fp,j,p,_,Y,_⟩:=Z4p (ty:=ty) hT hu ac Z J rfl V X B rfl;rw[D]at j;simp only[Result.ok.injEq]at j;obtain⟨rfl,rfl⟩:=j;rw[<-ab]at Y;have I':Inv W0 M σ a w G ((fp2++f)++xs):=by rw[Qb];exact I
 rw[Qe]at p;have A:∀b∈fp,G2.who b=some .x:=p.whoX;obtain⟨G',I5,gF,gad,gS,gA,gSs,gR,_,_,_,gAl,gW⟩:=Z3q (R:=fp) (ads:=[]) (gs:=fp2++f) (ks:=xs) (F':=G2.F) (St':=G2.St) I' (by simp) (.inl hN) (Sc:=G.St) (λ_ h=>h) (Ghost.St_Al I) (by simpa using p.ext)
  (λb d g=>p.org.F b d (by simpa using g)) p.org.St (λb d=>⟨by simpa using p.org.St' b d,(p.st b d).2⟩) (by simpa using p.nodX) (λb d=>by
   have d:b∈fp:=by simpa using d
   have y:=p.lt b _ (A b d);refine⟨by simpa using y.2,y.1,λh=> ?_⟩
   have:=(p.st b h).1;rw[A b d]at this;cases this)
 have C:∀b,b<w.heap.size->b ∉ fp2++f->G'.F b=G.F b/\w'.heap[b]? = w.heap[b]? := λb d g=>⟨by rw[gF];exact p.org.F b d g,p.ext.block b d g⟩
 refine⟨v,w',G',fp,D,I5,hsh,?_,⟨_,H⟩,gad,λz hz=> ?_,λb i d=> ?_⟩
 ·rw[gF];exact(Y.narrow (Al':=G'.Al) (by simp[Tag.isN]) λb d=>gR b d).pres (gSs λ_ h=>h) (λ_ _ h=>h) (λb _=>Z07.refl _ _ _) (λb _=>⟨Z07.refl _ _ _,rfl⟩) (.inr λb _ _=>Z07.refl _ _ _)
 ·have hzx:G.who z=some .x:=I.whoX z (Qo _ (Qo _ hz));have u:=(I.lt z _ hzx).1;have L:z ∉ fp2++f:=λg=>(Qj.1 I'.nodX).2.2 z g z hz rfl
  obtain⟨h1,y⟩:=C z u L;exact⟨h1,y,gAl z u⟩
 ·have u:=(I.lt b _ d).1;have L:b ∉ fp2++f:=λg=>by
   have:=K b g;rw[d]at this;cases this
  exact⟨gW b _ d (by simp),(C b u L).2⟩
end
end Go.PI
namespace Go.PI
section
variable {W0:Base}{M:Nat->Prop}{σ:State}{a:Act}{w w':World}{G:Ghost}{P:Program}{R:Type}{Γ:Env R}{r:R}
theorem Z3D:(ms:List Mode)->(d:List Operand)->(σ:State)->(A:Args)->(k:Args->State->Option R)->ms.all Mode.isBorrow=true->Z0n ms d σ A k=some r ->
  Z0n ms d σ A (λj σ'=>if j.writes=A.writes then k j σ' else none)=some r
 | [],[],σ,A,k,_,h=>by simpa[Z0n]using h
 | [],_::_,σ,A,k,_,h=>by simp[Z0n]at h
 |.borrow τ ag::ms,[],σ,A,k,_,h=>by simp[Z0n]at h
 |.borrow τ ag::ms,o::d,σ,A,k,b,h=>by
  simp only[Z0n]at h ⊢;have e:ms.all Mode.isBorrow=true:=by simpa[Mode.isBorrow]using b
  split at h
  ·split at h
   ·rename_i i;rw[QM i];exact Z3D ms d _ _ k e h
   ·cases h
  ·split at h
   ·split at h
    ·rename_i i;rw[QM i];exact Z3D ms d _ _ k e h
    ·cases h
   ·cases h
 |.consume τ ag::ms,d,σ,A,k,b,h=>by simp[Mode.isBorrow]at b
 |.eat τ ag::ms,d,σ,A,k,b,h=>by simp[Mode.isBorrow]at b
 |.inout τ ag::ms,d,σ,A,k,b,h=>by simp[Mode.isBorrow]at b
 |.look τ ag::ms,d,σ,A,k,b,h=>by simp[Mode.isBorrow]at b
 |.rptr τ::ms,d,σ,A,k,b,h=>by simp[Mode.isBorrow]at b
 |.rclos g l::ms,d,σ,A,k,b,h=>by simp[Mode.isBorrow]at b
 |.ptr τ::ms,d,σ,A,k,b,h=>by simp[Mode.isBorrow]at b
 |.clos f l::ms,d,σ,A,k,b,h=>by simp[Mode.isBorrow]at b
theorem Z2b:(ms:List Mode)->(d:List Operand)->(σ:State)->(A:Args)->(k:Args->State->Option R)->ms.all Mode.noLend=true->Z0n ms d σ A k=some r ->
  Z0n ms d σ A (λj σ'=>if j.lent=A.lent then k j σ' else none)=some r
 | [],[],σ,A,k,_,h=>by simpa[Z0n]using h
 | [],_::_,σ,A,k,_,h=>by simp[Z0n]at h
 |.borrow τ ag::ms,[],σ,A,k,_,h=>by simp[Z0n]at h
 |.borrow τ ag::ms,o::d,σ,A,k,b,h=>by
  simp only[Z0n]at h ⊢;have e:ms.all Mode.noLend=true:=by simpa[Mode.noLend]using b
  split at h
  ·split at h
   ·rename_i i;rw[QM i];exact Z2b ms d _ _ k e h
   ·cases h
  ·split at h
   ·split at h
    ·rename_i i;rw[QM i];exact Z2b ms d _ _ k e h
    ·cases h
   ·cases h
 |.consume τ ag::ms,[],σ,A,k,b,h=>by simp[Z0n]at h
 |.consume τ ag::ms,o::d,σ,A,k,b,h=>by
  simp only[Z0n]at h ⊢;have e:ms.all Mode.noLend=true:=by simpa[Mode.noLend]using b
  split at h
  ·split at h
   ·rename_i i;rw[QM i];exact Z2b ms d _ _ k e h
   ·cases h
  ·cases h
 |.eat τ ag::ms,[],σ,A,k,b,h=>by simp[Z0n]at h
 |.eat τ ag::ms,o::d,σ,A,k,b,h=>by
  simp only[Z0n]at h ⊢;have e:ms.all Mode.noLend=true:=by simpa[Mode.noLend]using b
  split at h
  ·split at h
   ·rename_i i;rw[QM i];exact Z2b ms d _ _ k e h
   ·cases h
  ·cases h
 |.inout τ ag::ms,d,σ,A,k,b,h=>by simp[Mode.noLend]at b
 |.look τ ag::ms,d,σ,A,k,b,h=>by simp[Mode.noLend]at b
 |.rptr τ::ms,d,σ,A,k,b,h=>by simp[Mode.noLend]at b
 |.rclos g l::ms,d,σ,A,k,b,h=>by simp[Mode.noLend]at b
 |.ptr τ::ms,d,σ,A,k,b,h=>by simp[Mode.noLend]at b
 |.clos f l::ms,d,σ,A,k,b,h=>by simp[Mode.noLend]at b
theorem Z8a {g:FuncId}{k:Sig R}(hs:Z16 P g k){vals:List TVal}{fps:List (List Nat)}{args:List Value}
  {Q:List TVal->List TVal->List TVal->Option R} (I:Inv W0 M σ a w G []) (i:Z0r w G k.modes args vals fps []) (m:fps.flatten=[]) (hrd:k.modes.all Mode.reads=true)
  (K:k.run vals [] Q=some r) :
  Calls P g args.toArray w λe w'=>∃v d G' j,e= .returned v/\Q d [] []=some r/\Inv W0 M σ a w' G' (j.flatten++[])/\Calmer w G w' G' /\
   ∃vs,v=Z1G vs/\Z0j w' G' (d.map (TVal.back (vals.all TVal.noN))) vs j:=by
 have hlt:∀b,G.Al b->b<w.heap.size:=λb l=>by
  cases hz:G.who b with
  |none=>exact(I.st b (l.2 hz)).2
  |some z=>exact(I.lt b z hz).1
 have p:∀(Sc:Nat->Prop),(∀b,G.St b->Sc b)->(∀b,Sc b->G.Al b)->Z0t w G.F Sc k.modes vals args fps [] ->
   Calls P g args.toArray w λe w'=>∃v d G' j F' St' vs,e= .returned v/\Q d [] []=some r/\Inv W0 M σ a w' G' (j.flatten++[])/\Calmer w G w' G' /\
    v=Z1G vs/\Z39 w' F' St' d vs j/\G'.F=F'/\(∀b,St' b->G'.Al b)/\((∀b,Sc b->G.St b)->∀b,St' b->G'.St b)/\(∀b∈j.flatten,G'.Al b):=by
  intro Sc Z D hA;refine(hs.2 vals [] Q r K w G.F Sc args [] fps [] hA trivial (by simp[m]) (λb l=>⟨hlt b (D b l),by simp[m]⟩) (by simp[m])).mono λe w'=> ?_
  rintro⟨v,d,ios,ext',rfl,J,⟨hty,_,_⟩,hexn,F',St',vs,u,U,⟨rfl,E,_⟩,f,C,hE,hF,Y,B,n,hR⟩;rw[Z0r.noIo _ _ _ _ _ i]at E f;have H:ios=[]:=Qv.1 E;subst H;rw[Qe,Qe]at f;obtain⟨rfl,rfl⟩:=Z1a.nils C;simp only[m,XT,Qe,Qk]at hE hF B n hR;obtain⟨G4,I4,y,gad,V,L,W,A,gads,gC,_⟩:=Z3q (R:=u.flatten) (ads:=[]) (gs:=[]) (ks:=[]) I (by simp) (.inr rfl) (Sc:=Sc) Z D (by simpa using hE) (λb l hm=>hF b l (by simp)) Y
   (λb l=>by simpa using B b l) (by simpa using n) (λb l=>by simpa using hR b (by simpa using l))
  exact⟨_,d,G4,u,F',St',vs,rfl,J,by simpa using I4,gC rfl,rfl,f,y,L,W,A⟩
 by_cases hn:vals.all TVal.noN=true
 ·refine(p G.St (λ_ h=>h) (Ghost.St_Al I) ?_).mono λe w'=> ?_
  ·exact Z2q I _ _ _ _ [] i (by simpa[QD]using hn) (by intro q hq;cases hq)
  ·rintro⟨v,d,G',j,F',St',vs,he,J,T,X,hv,f,y,L,V,A⟩;refine⟨v,d,G',j,he,J,T,X,vs,hv,?_⟩;rw[hn,Z4S];exact Z3y y (V λ_ h=>h) d vs j f A
 ·refine(p G.Al (Ghost.St_Al I) (λ_ h=>h) ?_).mono λe w'=> ?_
  ·exact Z4r I _ _ _ _ [] i hrd (by intro q hq;cases hq)
  ·rintro⟨v,d,G',j,F',St',vs,he,J,T,X,hv,f,y,L,V,A⟩;refine⟨v,d,G',j,he,J,T,X,vs,hv,?_⟩;have:vals.all TVal.noN=false:=by simpa using hn
   rw[this];exact Z59 y L d vs j f A
theorem Z9A {α β:Type}(l:List α)(m:List β)(h:l.length=m.length):(l.zip m).map (·.1)=l:=List.map_fst_zip (by omega)
theorem Z9B {α β:Type}(l:List α)(m:List β)(h:l.length=m.length):(l.zip m).map (·.2)=m:=List.map_snd_zip (by omega)
theorem Z7q (b:List TVal)(k:TV->State->Option R)(d:State):(match b with
  | []=>k .dead d
  | [r]=>k (.val r) d
  |rs=>k (.tup (Z2p rs) (rs.map (·.ag))) d)=k (Z6Y b) d:=by
 match b with
 | []=>rfl
 | [r]=>rfl
 |_::_::_=>rfl
theorem Z8F (hS:∀g d,Z0o Γ.fns g=some d->Z16 P g d):Z6Z P Γ:=by
 intro W0 M σ a w G o c f k r K Q I T z h hK;rw[T]at h;simp only[Z0L,z]at h;split at h
 ·rename_i g H n;split at h
  ·rename_i d D;have hs:=hS g d D;obtain⟨fn,cd,hf1,hf2,hf3⟩:=hs.1;have ac:=Z0v I f (by rw[n];intro v ags hh;cases hh)
   rw[n]at ac;obtain⟨_,us,hev,y,hus⟩:=ac;have C:=Z5J (P:=P) (a:=a) (w:=w) T z hev hf1 hf2 hf3;split at h
   ·rename_i B;simp only[Q6]at B;split at h
    ·rename_i cvs hcv;obtain⟨j1,_,j3⟩:=Z3m I H us.toList cvs hcv (by simpa using y) (λi hi=>by
      have:=(hus i hi).2.2;rwa[X5,<-QK,<-Qc]at this)
     have j:(c.args.map a.eval++us)=(c.args.toList.map a.eval++us.toList).toArray:=by
      apply Array.ext';simp
     unfold Oper.wp;rw[C,j,Oper.upon_enter];refine(Z6A hs I B.1 (by rw[j1];simpa using y) j3 h).mono λe w'=> ?_
     rintro⟨U,G',fs,vs,rfl,V,I',ho,hC⟩;exact hK _ _ _ _ _ _ V I' (Z4k _ vs fs ho) hC.all
    ·cases h
   rename_i hnl;have W:(d.modes.all Mode.isSee&& !d.modes.isEmpty)=false:=by
    cases hx:(d.modes.all Mode.isSee&& !d.modes.isEmpty)with
    |false=>rfl
    |true=>
     rw[Q6]at hx;refine absurd ?_ hnl;rw[Q6];refine⟨QD.2 λm hm=> ?_,hx.2⟩
     have:=QD.1 hx.1 m hm;cases m<;>first | rfl | cases this
   have hcases:(∃τ ag ms o1 os,d.modes= .inout τ ag::ms/\c.args.toList=o1::os/\H=[]/\Z5R d τ ag ms o1 os σ k=some r)\/Z88 d c.args.toList H σ k=some r:=by
    clear y hus n;split at h
    ·rename_i τ ag ms o1 os Y e2;exact .inl ⟨τ,ag,ms,o1,os,Y,e2,rfl,h⟩
    ·exact .inr h
   clear h;rcases hcases with⟨τ,ag,ms,o1,os,Y,e2,rfl,h⟩ | h
   ·have hnt:¬ Z1z Γ o.op=true:=by
     intro ht;rw[T]at ht;simp only[Z1z,z]at ht;cases f with
     |func fg=>
      simp only[State.peek,TV.clos.injEq]at n;obtain⟨rfl,_⟩:=n;simp only[D,W,Bool.or_false]at ht;rw[Y]at ht;simp[Mode.isBorrow]at ht
     |_=>simp at ht
    have hnh:¬ Z1M Γ o.op=true:=by
     intro ht;rw[T]at ht;simp only[Z1M,z]at ht;cases f with
     |func fg=>
      simp only[State.peek,TV.clos.injEq]at n;obtain⟨rfl,_⟩:=n;simp only[D,W,Bool.or_false]at ht;rw[Y]at ht;simp[Mode.noLend]at ht
     |_=>simp at ht
    have hus0:us= #[]:=Array.eq_empty_of_size_eq_zero (by rw[y];rfl)
    have j:(c.args.map a.eval++us)=((o1::os).map a.eval).toArray:=by
     apply Array.ext';rw[hus0];simp[e2]
    unfold Oper.wp;rw[C,j,Oper.upon_enter];refine(Z9q hs I Y h).mono λe w'=> ?_
    rintro⟨U,σ',G',fs,vs,rfl,V,I',ho⟩;exact hK _ _ _ _ _ _ V I' (Z4k _ vs fs ho) ⟨λht=>absurd ht hnt,λht=>absurd ht hnh⟩
   unfold Z88 at h;split at h
   ·rename_i hc;simp only[Q6,QG]at hc;obtain⟨⟨hl',hip⟩,hwh⟩:=hc;have htame:Z1z Γ o.op=true->d.modes.all Mode.isBorrow=true/\H=[]:=by
     intro ht;rw[T]at ht;simp only[Z1z,z]at ht;cases f with
     |func fg=>
      simp only[State.peek,TV.clos.injEq]at n;obtain⟨rfl,rfl⟩:=n;simp only[D,W,Bool.or_false]at ht;exact⟨ht,rfl⟩
     |_=>simp at ht
    have aa:Z1M Γ o.op=true->d.modes.all Mode.noLend=true/\H=[]:=by
     intro ht;rw[T]at ht;simp only[Z1M,z]at ht;cases f with
     |func fg=>
      simp only[State.peek,TV.clos.injEq]at n;obtain⟨rfl,rfl⟩:=n;simp only[D,W,Bool.or_false]at ht;exact⟨ht,rfl⟩
     |_=>simp at ht
    let kk:Args->State->Option R:=λA Z=>
     let ae:=A.lent++H.map (·.root)
     if Z4i ae&&(!A.writes||A.vals.all λv=>v.noN) then
      match Z.boxesAt ae with
      |some ext=>if ext.all TVal.noN then d.run A.vals ext λU ios ext'=>
        let stable:=A.writes||A.vals.all TVal.noN
        let σ2:=if A.writes then Z.renil.kill else Z
        let σ4:=σ2.putBoxes ae ext'
        if ios.isEmpty then
         (match U.map (TVal.back stable)with
          | []=>k .dead σ4
          | [r]=>k (.val r) σ4
          |rs=>k (.tup (Z2p rs) (rs.map (·.ag))) σ4) else none
       else none
      |none=>none
     else none
    have h:Z0n (d.modes.take c.args.toList.length) c.args.toList σ ⟨[],[],!H.isEmpty⟩ kk=some r:=h;have h:Z0n (d.modes.take c.args.toList.length) c.args.toList σ ⟨[],[],!H.isEmpty⟩ (λA Z=>if Z1z Γ o.op=true->A.writes=false then kk A Z else none)=some r:=by
     by_cases ht:Z1z Γ o.op=true
     ·obtain⟨hb1,hb2⟩:=htame ht;have:=Z3D _ _ _ _ _ (QD.2 λm hm=>QD.1 hb1 m (X7 hm)) h
      subst hb2;simpa[ht]using this
     ·simpa[ht]using h
    have h:Z0n (d.modes.take c.args.toList.length) c.args.toList σ ⟨[],[],!H.isEmpty⟩ (λA Z=>if Z1M Γ o.op=true->A.lent=[] then (if Z1z Γ o.op=true->A.writes=false then kk A Z else none) else none)=some r:=by
     by_cases ht:Z1M Γ o.op=true
     ·obtain⟨hb1,hb2⟩:=aa ht;have:=Z2b _ _ _ _ _ (QD.2 λm hm=>QD.1 hb1 m (X7 hm)) h
      subst hb2;simpa[ht]using this
     ·simpa[ht]using h
    obtain⟨vs,fps,ls,A,Z,G1,E,h2,h3,h4,I1,X,hct,hlen,hAr,hpt⟩:=Z1I _ _ _ _ _ _ _ h I;split at E;rotate_left
    ·cases E
    rename_i hhw;split at E
    ·rename_i htw;have h2:A.vals=vs:=by simpa using h2
     have h3:A.lent=ls.map (·.1):=by simpa using h3
     let l:List (Nat×Value):=(H.map (·.root)).zip us.toList
     have hl1:l.map (·.1)=H.map (·.root):=Z9A _ _ (by simp[y])
     have hl2:l.map (·.2)=us.toList:=Z9B _ _ (by simp[y])
     have hll:l.length=H.length:=by simp[l,y]
     have J:=Z0r.append_ptr hip (by rw[hl',hll]) _ _ _ _ _ hAr
     rw[XB,hl2]at J;have hlent:A.lent++H.map (·.root)=(ls++l).map (·.1):=by rw[h3,QU,hl1]
     have hpt':∀q∈ls++l,Z0w σ G a w ⟨true,q.1,[]⟩ q.2:=by
      intro q hq;rcases Qr.1 hq with hq | hq
      ·exact hpt q hq
      ·obtain⟨i,hi,rfl⟩:=X2.1 hq;have hips:i<H.length:=by omega
       obtain⟨q1,q2,q3⟩:=hus i hips;have hw:=QD.1 hwh H[i] (Q7 _);simp only[Place.whole,Q6,YU]at hw;have hq1:l[i].1=H[i].root:=by simp[l]
       have hq2:l[i].2=us.getD i undef:=by
        have:i<us.size:=by rw[y];exact hips
        simp[l,this]
       rw[hq1,hq2];have:H[i]=⟨true,H[i].root,[]⟩:=by
        have Y:=hw.1;have e2:=hw.2;cases hpi:H[i]with
        |mk b r p=>rw[hpi]at Y e2;simp only at Y e2;subst Y;subst e2;rfl
       rw[this]at q3;exact q3
     have j:(c.args.map a.eval++us)=(c.args.toList.map a.eval++us.toList).toArray:=by
      apply Array.ext';simp
     simp only[kk]at E;rw[hlent,h2]at E;split at E
     ·rename_i hcc;simp only[Q6,Xq,QF]at hcc;obtain⟨hnd,hwn⟩:=hcc;split at E
      ·rename_i ext L;split at E
       ·rename_i hexn;have hlp:Z2N G1 (ls++l):=by
         intro q hq;have hq1:q.1∈(ls++l).map (·.1):=Yw hq;obtain⟨v,hv⟩:=Z3F _ _ L q.1 hq1;exact Z6Q I1 ((hpt' q hq).sim hct X.ad) hv
        unfold Oper.wp;rw[C,j,Oper.upon_enter];cases hwr:A.writes with
        |true=>
         have hnt:¬ Z1z Γ o.op=true:=λht=>by
          have:=htw ht;rw[hwr]at this;cases this
         rw[hwr]at E hwn;simp only[Bool.true_eq_false,false_or,Bool.true_or,XH]at E hwn;have I1':Inv W0 M Z a w G1 fps.flatten:=by simpa using I1
         obtain⟨fb,I2⟩:=I1'.renil;have hsb:=Sim.fb G1 fb;refine(Z7L hs I2 (Z0r.up hsb.up _ _ _ _ _ J) (by simpa[QD]using hwn) (λq hq=>hlp q hq) (Z4A _ hnd) (Z3i _ _ L (by simpa[QD]using hexn)) (by simpa[QD]using hexn) E).mono λe w'=> ?_
         rintro⟨v,U,ext',G',fs,rfl,V,I',⟨vs',rfl,ab⟩,hBc⟩;simp only[List.isEmpty_nil,XH]at V;rw[Z7q,Z4S]at V;refine hK _ _ _ _ _ _ V I' (Z4k U vs' fs ab) ⟨λht=>absurd ht hnt,λht=> ?_⟩
         have hl0:ls++l=[]:=by
          have Y:=hhw ht;rw[h3]at Y;have e2:l=[]:=by
           have:=(aa ht).2;subst this;simpa using hll
          rw[e2,Qe];exact List.map_eq_nil_iff.1 Y
         exact λw2 hc2=>(X.trans hsb.up).calmer.b w2 (hBc hl0 w2 hc2)
        |false=>
         rw[hwr]at E;simp only[XY,Xj,XI]at E;obtain⟨p1,p2,p3,p4⟩:=h4 hwr;have hps:H=[]:=by simpa using p1
         subst hps;subst p3;have hls':l=[]:=by simpa using hll
         rw[hls']at J E L;simp only[Qe,Yh,State.boxesAt,Q9]at J L E;subst L;have hmod:d.modes.all Mode.reads=true:=by
          have hd:d.modes.drop c.args.toList.length=[]:=Qv.1 (by simpa using hl')
          rw[<-XB c.args.toList.length d.modes,hd,Qe];exact p4
         have I1':Inv W0 M Z a w G1 []:=by simpa[p2]using I1
         refine(Z8a hs I1' J p2 hmod E).mono λe w'=> ?_
         rintro⟨v,U,G',fs,rfl,V,I',hC,vs',rfl,ab⟩;simp only[List.isEmpty_nil,XH]at V;rw[Z7q]at V;have hpb:Z.putBoxes [] []=Z:=rfl;rw[hpb]at V;exact hK _ _ _ _ _ _ V I' (Z4k _ vs' fs ab) ⟨λ_=>X.calmer.trans hC,λ_=>(X.calmer.trans hC).b⟩
       ·cases E
      ·cases E
     ·cases E
    ·cases E
   ·cases h
  ·cases h
 ·rename_i g τs u n;split at h
  ·rename_i d cvs D hsv;split at h
   ·rename_i B;simp only[Q6]at B;have hs:=hS g d D;obtain⟨fn,cd,hf1,hf2,hf3⟩:=hs.1;have ac:=Z0v I f (by rw[n];intro v ags hh;cases hh)
    rw[n]at ac;obtain⟨_,us,hev,hsp⟩:=ac;have C:=Z5J (P:=P) (a:=a) (w:=w) T z hev hf1 hf2 hf3;have X:SPs w G.F (Old w) (Old w) τs u.τ u.x us.toList:=SPs.pres (λb hb=>(I.st b hb).2) (λb _ hb=>I.Al_old b hb) (λb _=>Z07.refl _ _ _) _ _ _ _ hsp
    have hup2:SPs w (Z2v w G.F) (Old w) (Old w) τs u.τ u.x us.toList:=SPs.pres (λ_ h=>h) (λ_ _ h=>h) (λb _=>Z07.of_block rfl (Z6u _ _ _)) _ _ _ _ X
    obtain⟨j1,j3⟩:=Z6f _ _ _ _ _ hsv hup2;have j:(c.args.map a.eval++us)=(c.args.toList.map a.eval++us.toList).toArray:=by
     apply Array.ext';simp
    unfold Oper.wp;rw[C,j,Oper.upon_enter];refine(Z6A hs I B.1 j1 j3 h).mono λe w'=> ?_
    rintro⟨U,G',fs,vs,rfl,V,I',ho,hC⟩;exact hK _ _ _ _ _ _ V I' (Z4k _ vs fs ho) hC.all
   ·cases h
  ·cases h
 ·cases h
end
end Go.PI
namespace Go.PI
section
variable {W0:Base}{M:Nat->Prop}{σ σ3:State}{a:Act}{w w' w3:World}{G G3:Ghost}{xs:List Nat}{P:Program}{R:Type}{Γ:Env R}{r:R}{tys:List (TypeId×Ty×List TypeId)}{o:Oper}
theorem Z4K (σ:State)(p:Place)(j:Nat):(σ.hold p).slot j=(σ.loosen p.box p.root).slot j\/(σ.hold p).slot j= .dead:=by
 obtain⟨d,b,path⟩:=p;cases d with
 |true=>exact .inl rfl
 |false=>
  show (σ.empty b).slot j=_\/(σ.empty b).slot j=_
  rw[Z3r];split
  ·exact .inr rfl
  ·exact .inl rfl
theorem Z4w (σ:State)(p:Place):(σ.hold p).slots.length=σ.slots.length/\(σ.hold p).boxes.length=σ.boxes.length:=by
 obtain⟨d,b,path⟩:=p;cases d with
 |true=>exact⟨by simp[State.hold,State.putBox,State.loosen,Z0b],by simp[State.hold,State.putBox,State.loosen,Z0b,Z0E]⟩
 |false=>exact⟨by show (σ.empty b).slots.length=_;rw[State.empty,Z5p],rfl⟩
theorem Z3j {σ:State}{p:Place}(d:p.box=true):(σ.hold p).boxAt p.root=none:=by
 obtain⟨f,b,path⟩:=p;simp only at d;subst d;show ((σ.loosen true b).putBox b none).boxAt b=none
 rw[Z0C];split
 ·rfl
 ·rename_i h;simp only[true_and,Nat.not_lt]at h;cases e:(σ.loosen true b).boxAt b with
  |none=>rfl
  |some v=>
   have:=Z1B e;omega
theorem Z6p {σ:State}{p:Place}{i:Nat}{v:TVal}(h:(σ.hold p).boxAt i=some v):σ.boxAt i=some v/\(p.box=true->i≠p.root):=by
 obtain⟨g,b,path⟩:=p;cases g with
 |true=>
  have f:=Z3j (σ:=σ) (p:=⟨true,b,path⟩) rfl;have d:i≠b:=λe=>by
   subst e;simp only at f;rw[f]at h;cases h
  refine⟨?_,λ_=>d⟩
  have h:((σ.loosen true b).putBox b none).boxAt i=some v:=h;rw[Z0C,QN (λe=>d e.1.symm)]at h
  exact h
 |false=>exact⟨h,λh=>by cases h⟩
theorem Z4j:(rs:List Nat)->(vs:List TVal)->(σ:State)->(∀i,i ∉ rs->(σ.putBoxes rs vs).boxAt i=σ.boxAt i)/\(σ.putBoxes rs vs).boxes.length=σ.boxes.length/\(σ.putBoxes rs vs).slots.length=σ.slots.length /\
  (∀j,(σ.putBoxes rs vs).slot j=σ.slot j\/(σ.putBoxes rs vs).slot j= .dead)/\(σ.noN->vs.all TVal.noN=true->(σ.putBoxes rs vs).noN)
 | [],vs,σ=>⟨λi _=>rfl,rfl,rfl,λj=> .inl rfl,λh _=>h⟩
 |r::rs,[],σ=>⟨λi _=>rfl,rfl,rfl,λj=> .inl rfl,λh _=>h⟩
 |r::rs,v::vs,σ=>by
  obtain⟨k,l,m,n,p⟩:=Z4j rs vs ((σ.loosen true r).putBox r (some v));refine⟨λi d=> ?_,?_,?_,λj=> ?_,λg f=> ?_⟩
  ·simp only[Qp,not_or]at d;have:=k i d.2;show (((σ.loosen true r).putBox r (some v)).putBoxes rs vs).boxAt i=_
   rw[this,Z0C,QN (λe=>d.1 e.1.symm)]
   rfl
  ·show (((σ.loosen true r).putBox r (some v)).putBoxes rs vs).boxes.length=_
   rw[l];simp[State.putBox,State.loosen,Z0b,Z0E]
  ·show (((σ.loosen true r).putBox r (some v)).putBoxes rs vs).slots.length=_
   rw[m];simp[State.putBox,State.loosen,Z0b]
  ·show (((σ.loosen true r).putBox r (some v)).putBoxes rs vs).slot j=_\/(((σ.loosen true r).putBox r (some v)).putBoxes rs vs).slot j=_
   rcases n j with h | h
   ·rw[h,Z1E,Z0i];exact TV.loosen_or _ _ _
   ·exact .inr h
  ·simp only[XS,Q6]at f;refine p ⟨λi=> ?_,λi u b=> ?_⟩ f.2
   ·rw[Z1E,Z0i];rcases TV.loosen_or true r (σ.slot i)with h | h
    ·rw[h];exact g.1 i
    ·rw[h];rfl
   ·rw[Z0C]at b;split at b
    ·cases b;exact f.1
    ·exact g.2 i u b
theorem Z7I (hT:Z0e P Γ.tys)(I:Inv W0 M σ a w G []){d:Nat}{p:Place}{c0:Call}{s x:Operand}{sT xT:TypeId}{k:State->Option R}(hop:o.op= .call c0)(W:c0.callee= .builtin .append)(J:c0.args= #[s,x])(hty:c0.argTypes= #[sT,xT])
  (hs:σ.peek s= .ref p false) (hnd:W0.np<=d) (hdl:d<σ.slots.length) (hdr:p.box=true\/d≠p.root) (h1i:Z2K p.path=true) (hfl:Z08 p.path=true->p.box=true)
  (h:Z6h Γ.tys sT xT p x σ (λσ'=>k (σ'.puto (some d) .dead))=some r) :
  ∃σ' v w' w2 G' G1 b off,(execOp a.eval o).run P w= .ok (.value v) w'/\k σ'=some r/\HoleSt W0 M σ' (a.put (some d) v) w' d p w2 G' b off v/\Calmer w G w' G1:=by
 unfold Z6h at h;split at h;rotate_left
 ·cases h
 rename_i e e' hsT hxT;split at h;rotate_left
 ·cases h
 rename_i ux σ2 Q;split at h;rotate_left
 ·cases h
 rename_i m t' c u hm ai hc hu;split at h;rotate_left
 ·cases h
 rename_i l hl;split at h;rotate_left
 ·cases h
 rename_i i;simp only[Q6,Xq,QF,QG]at i;obtain⟨⟨⟨⟨⟨hcO,hwh⟩,B⟩,C⟩,ac⟩,am⟩:=i;rw[cond_eq_ite,Z1P]at h;obtain⟨Y,h⟩:=h;split at h;rotate_left
 ·cases h
 rename_i rr ae;obtain⟨ag1,an,rfl⟩:=Z1U hl;obtain⟨ag2,tg2,rfl⟩:=Z1U hm;simp only at ai C;subst ai;subst C;obtain⟨fp2,D,I2,ab,_,g,af⟩:=Z0Y I Q;have A:=Z0v I s (by rw[hs];intro v ags hh;cases hh)
 rw[hs]at A;obtain⟨_,A⟩:=A;have hpl:∃cs base,Z0A σ G a w p cs base/\Z02 (a.eval s)=cs/\Z0f false (a.eval s):=by
  rcases A with h1 | h1
  ·have q:σ2.ct p=some c.τ:=by rw[State.ct,hc];rfl
   rw[Z2z Q p,h1]at q;cases q
  ·exact h1
 obtain⟨cs,base,y,hcs,hsh⟩:=hpl;obtain⟨lc,bs,b,off,fpc,fpo,T,G1,H,I3,hs3⟩:=Z6G I2 hc hu hcO hwh hfl (y.sim (Z2z Q p) ab.ad);obtain⟨fs,I4,_⟩:=I3.kill;have f:Sim D { G1 with fs:=fs }:=hs3.trans (Sim.fs _ fs);generalize ({ G1 with fs:=fs }:Ghost)=Gk at I4 f;have I5:Inv W0 M (σ2.hold p).kill a w Gk (fp2++(T++fpo)):=I4.perm (by
  refine QZ.2 λz=> ?_
  simp only[XA,List.count_nil];omega)
 have E:=H.lens.part;have htO:=H.lens.tags;have ah:an=[.O]:=by
  have q:=E.len.2
  match an,q with
  | [t],_=>rw[htO t (by simp)]
 subst ah;rw[<-hcs]at E;have E:Rp w D.F D.St D.Al (.slice e) [.O] (Z02 (a.eval s)) l T:=E;obtain⟨ad,cap,aj,_⟩:=Z2A hsh E;have g:Rp w D.F D.St D.Al (.slice e) [t'] (Z02 (a.eval x)) m fp2:=g;obtain⟨ad',cap',ak,_⟩:=Z2A (show Z0f false (a.eval x) from af) g
 rw[aj,Z0q rfl]at E;rw[ak,Z0q rfl]at g;obtain⟨et,le,hu',hea,_⟩:=Z10 hT hsT ac;obtain⟨et2,le2,hux,_,_⟩:=Z10 hT hxT am;have htN:t'.isN=false:=by
  rcases B with h | h
  ·cases t'<;>first | rfl | cases h
  ·exact h.2
 obtain⟨v,w',G5,fpv,aa,I6,ag,U,⟨Gc,K⟩,had,hk5,V⟩:=Z71 (ty:=o.type) hT hu' hux hea I5 (Z2s _) htN (by rw[f.F,f.St,f.Al];exact E) (by rw[f.F,f.St,f.Al];exact g) Y (B.imp id λh=>h.1)
 have n:one v=true:=ag;rw[Z0q n]at U;obtain⟨G7,I7,X,Z,L⟩:=Z6F (v:=⟨.slice e,false,l++m,[.O]⟩) (v1:=v) H I6 (Z2s _) (had.trans f.ad) (λz hz=>by
   obtain⟨k1,k2,k3⟩:=hk5 z hz;exact⟨by rw[k1,f.F],k2,λh=>k3 (by rw[f.Al];exact h)⟩) (λhb=>by
   obtain⟨_,_,al,_,_⟩:=H.box hb;obtain⟨k1,k2⟩:=V _ _ ((f.bx _ _).2 al);refine⟨k1,k2,?_,?_,λj=> ?_⟩
   ·rw[Z2S,Z3j hb];rfl
   ·simp[State.kill,Z0b,(Z4w σ2 p).2]
   ·rw[Z1w];rcases TV.kill_or ((σ2.hold p).slot j)with h | h
    ·rw[h];rcases Z4K σ2 p j with q | q
     ·rw[hb]at q;exact .inl q
     ·exact .inr q
    ·exact .inr h) (by simp[State.kill,Z0b,(Z4w σ2 p).1]) rfl rfl (by simp) n U ae
 obtain⟨G8,H8⟩:=Z5y I2 H I7 X rfl Z L n hnd (by
  have:=I2.len;have q:=I.len;omega) hdr h1i
 refine⟨_,v,w',_,G8,Gc,b,off,?_,h,H8,(ab.trans f).calmer.trans K⟩;rw[Z03 hop];simp only[execOp,resolve,W,J,hty,Sem.run_bind,Sem.run_pure,Result.andThen_ok,invoke,builtin];simp only[List.map_toArray,Qz,Yh,aj,ak];rw[aa];rfl
theorem Z8E {g:FuncId}{T:Sig R}(hs:Z16 P g T)(I:Inv W0 M σ a w G []){d:Nat}{p:Place}{c0:Call}{f s:Operand}{os:List Operand}{ms:List Mode}{τ:Ty}{k:State->Option R}(hop:o.op= .call c0)(B:c0.callee= .value f)(n:σ.peek f= .clos g [])(hsig:Z0o Γ.fns g=some T)
  (hm:T.modes= .eat τ false::ms) (hargs:c0.args.toList=s::os)
  (hsp:σ.peek s= .ref p false) (hnd:W0.np<=d) (hdl:d<σ.slots.length) (hdr:p.box=true\/d≠p.root) (h1i:Z2K p.path=true) (hfl:Z08 p.path=true->p.box=true) (hsl:∃e,τ= .slice e)
  (h:Z89 T τ ms p os σ (λσ'=>k (σ'.puto (some d) .dead))=some r) {K:Act->World->Prop} {Q:Exit->Act->World->Prop}
  (hK:∀σ' v w' w2 G' G1 b off v1,k σ'=some r->HoleSt W0 M σ' (a.put (some d) v) w' d p w2 G' b off v1->Z15 Γ o.op w G w' G1->K (a.put o.dst v) w'):o.wp P a w K Q:=by
 obtain⟨fn,cd,hf1,hf2,hf3⟩:=hs.1;have hpe:=Z0v I f (by rw[n];intro v ags hh;cases hh)
 rw[n]at hpe;obtain⟨_,us,hev,husz,_⟩:=hpe;have hrunc:=Z5J (P:=P) (a:=a) (w:=w) hop B hev hf1 hf2 hf3;have hus0:us= #[]:=Array.eq_empty_of_size_eq_zero (by rw[husz];rfl)
 have W:(c0.args.map a.eval++us)=((s::os).map a.eval).toArray:=by
  apply Array.ext';rw[hus0];simp[hargs]
 have hnt:Z1z Γ o.op=false:=by
  rw[hop];simp only[Z1z,B];cases f with
  |func fg=>
   simp only[State.peek,TV.clos.injEq]at n;obtain⟨rfl,_⟩:=n;simp only[hsig,hm];simp[Mode.isBorrow,Mode.isSee]
  |_=>rfl
 have hhalf:Z1M Γ o.op=true->ms.all Mode.noLend=true:=by
  intro ht;rw[hop]at ht;simp only[Z1M,B]at ht;cases f with
  |func fg=>
   simp only[State.peek,TV.clos.injEq]at n;obtain⟨rfl,_⟩:=n;simp only[hsig,hm,XS,Mode.noLend,Qd,Mode.isSee,QW,Bool.or_false]at ht;exact ht
  |_=>cases ht
 unfold Z89 at h;have hx:∀kk:Args->State->Option R,Z0n ms os σ ⟨[],[],true⟩ kk=some r->Z0n ms os σ ⟨[],[],true⟩ (λA l=>if Z1M Γ o.op=true->A.lent=[] then kk A l else none)=some r:=by
  intro kk h;by_cases ht:Z1M Γ o.op=true
  ·have:=Z2b _ _ _ _ _ (hhalf ht) h;simpa[ht]using this
  ·simpa[ht]using h
 have h:=hx _ h;obtain⟨vs,fps,ls,A,l,G1,m,y,h3,_,I1,hup,hct,hlen,hAr,hpt⟩:=Z1I _ _ _ _ _ _ _ h I;split at m;rotate_left
 ·cases m
 rename_i hhw;split at m;rotate_left
 ·cases m
 rename_i c u hc hu;split at m;rotate_left
 ·cases m
 rename_i C;simp only[Q6,Ql]at C;obtain⟨⟨⟨⟨⟨hτ,hcO⟩,huO⟩,hwh⟩,hndl⟩,hvN⟩:=C;have y:A.vals=vs:=by simpa using y
 have h3:A.lent=ls.map (·.1):=by simpa using h3
 rw[h3,y]at m;rw[h3]at hndl hhw;rw[y]at hvN;split at m;rotate_left
 ·cases m
 rename_i ext hext;split at m;rotate_left
 ·cases m
 rename_i hexn;have Y:=Z0v I s (by rw[hsp];intro v ags hh;cases hh)
 rw[hsp]at Y;obtain⟨_,Y⟩:=Y;have hpl:∃cs base,Z0A σ G a w p cs base/\Z02 (a.eval s)=cs/\Z0f false (a.eval s):=by
  rcases Y with m | m
  ·have y:l.ct p=some c.τ:=by rw[State.ct,hc];rfl
   rw[hct p,m]at y;cases y
  ·exact m
 obtain⟨cs,base,X,hcs,hsh⟩:=hpl;obtain⟨lc,bs,b,off,fpc,fpo,U,G2,H,I2,hs2⟩:=Z6G I1 hc hu hcO hwh hfl (X.sim (hct p) hup.ad);obtain⟨fb,I3⟩:=I2.renil;have i:Sim G1 { G2 with fb:=fb }:=hs2.trans (Sim.fb G2 fb);generalize ({ G2 with fb:=fb }:Ghost)=Gk at I3 i;have I4:Inv W0 M (l.hold p).renil a w Gk ((U::fps).flatten++fpo):=I3.perm (by
  refine QZ.2 λz=> ?_
  simp only[XA,List.count_nil,QO];omega)
 obtain⟨e,rfl⟩:=hsl;have hL:Rp w G1.F G1.St G1.Al u.τ u.tg (Z02 (a.eval s)) u.x U:=by rw[hcs];exact H.lens.part
 have hA:Z0r w Gk T.modes (a.eval s::os.map a.eval) ({ u with ag:=false }::vs) (U::fps) ls:=by
  rw[hm];refine⟨hsh,?_,Z0r.up i.up _ _ _ _ _ hAr⟩;show Rp w Gk.F Gk.St Gk.Al u.τ u.tg (Z02 (a.eval s)) u.x U
  rw[i.F,i.St,i.Al];exact hL
 have E:∀q∈ls,∃v,l.boxAt q.1=some v/\(p.box=true->q.1≠p.root):=λq hq=>by
  obtain⟨v,hv⟩:=Z3F _ _ hext q.1 (Yw hq);exact⟨v,Z6p hv⟩
 have hlp:Z2N Gk ls:=λq hq=>by
  obtain⟨v,hv,_⟩:=E q hq;have:=Z6Q I1 ((hpt q hq).sim hct hup.ad) hv;rw[this,i.ad]
 have huN:u.noN=true:=by
  rw[TVal.noN_iff];intro t ht;rw[Z1A.1 huO t ht];rfl
 have D:∀v∈ext,v.noN=true:=by simpa[QD]using hexn
 unfold Oper.wp;rw[hrunc,W,Oper.upon_enter];refine(Z4T (ks:=fpo) hs I4 hA (λv hv=>by
   rcases Qp.1 hv with rfl | hv
   ·exact huN
   ·rw[QD]at hvN;exact hvN v hv) hlp (Z4A _ hndl) (Z3i _ _ hext D) D m).mono λe' w'=> ?_
 rintro⟨v,res,ext',G5,fs,rfl,hk,I5,⟨Z,rfl,L⟩,hBc,had,hkk,hbb,hexN⟩;split at hk;rotate_left
 ·cases hk
 rename_i v _;split at hk;rotate_left
 ·cases hk
 rename_i hcv;simp only[Q6,Ql,QG]at hcv;obtain⟨⟨hvτ,hvag⟩,hvO⟩:=hcv;split at hk;rotate_left
 ·cases hk
 rename_i rr hset;obtain⟨x1,V,rfl,rfl,hshv,hRv⟩:∃x1 V,Z=[x1]/\fs=[V]/\Z0f v.ag x1/\Rp w' G5.F G5.St G5.Al v.τ v.tg (Z02 x1) v.x V:=by
  cases Z with
  |nil=>exact L.elim
  |cons x1 Z=>
   cases fs with
   |nil=>exact L.elim
   |cons f1 fs=>
    obtain⟨⟨q1,q2⟩,q3⟩:=L;cases Z with
    |cons=>cases fs<;>exact q3.elim
    |nil=>
     cases fs with
     |cons=>exact q3.elim
     |nil=>exact⟨x1,f1,rfl,rfl,q1,q2⟩
 have J:one x1=true:=by rw[hvag]at hshv;exact hshv
 rw[Z0q J]at hRv;have I6:Inv W0 M ((l.hold p).renil.kill.putBoxes (ls.map (·.1)) ext') a w' G5 (V++fpo):=by simpa using I5
 obtain⟨f1,f2,f3,f4,f5⟩:=Z4j (ls.map (·.1)) ext' (l.hold p).renil.kill;have hu1:size u.τ=1:=by rw[hτ];rfl
 have hb0:(l.hold p).renil.kill.boxes.length=l.boxes.length:=by simp[State.kill,State.renil,Z0b,(Z4w l p).2]
 have hs0:(l.hold p).renil.kill.slots.length=l.slots.length:=by simp[State.kill,State.renil,Z0b,(Z4w l p).1]
 obtain⟨G7,I7,hcon,hloc,hcell⟩:=Z6F (v:=v) (v1:=x1) H I6 (f5 (Z2s _) hexN) (had.trans i.ad) (λz hz=>by
   obtain⟨k1,k2,k3⟩:=hkk z hz;exact⟨by rw[k1,i.F],k2,λh=>k3 (by rw[i.Al];exact h)⟩) (λhb=>by
   obtain⟨_,_,hwho,_,_⟩:=H.box hb;have hni:p.root ∉ ls.map (·.1):=λhmem=>by
    obtain⟨q,hq,hqe⟩:=X6.1 hmem;obtain⟨_,_,hne⟩:=E q hq;exact hne hb hqe
   obtain⟨k1,k2⟩:=hbb _ _ ((i.bx _ _).2 hwho) hni;refine⟨k1,k2,?_,by rw[f2,hb0],λj=> ?_⟩
   ·rw[f1 _ hni,Z2S,Z3e,Z3j hb];rfl
   ·rcases f4 j with h | h
    ·rw[h,Z1w];have hr:(l.hold p).renil.slot j=(l.hold p).slot j:=rfl;rw[hr];rcases TV.kill_or ((l.hold p).slot j)with h | h
     ·rw[h];rcases Z4K l p j with y | y
      ·rw[hb]at y;exact .inl y
      ·exact .inr y
     ·exact .inr h
    ·exact .inr h) (by rw[f3,hs0]) hu1 (hvτ.trans hτ.symm) (Z1A.1 hvO) J hRv hset
 obtain⟨G8,H8⟩:=Z5y I1 H I7 hcon rfl hloc hcell J hnd (by omega) hdr h1i
 refine hK _ _ w' _ G8 G5 b off x1 hk H8 ⟨λht=>(by rw[hnt]at ht;cases ht),λht=> ?_⟩
 have hl0:ls=[]:=List.map_eq_nil_iff.1 (hhw ht);exact λw2 hc2=>(hup.trans i.up).calmer.b w2 (hBc hl0 w2 hc2)
theorem Z9c (hT:Z0e P Γ.tys)(hS:∀g m,Z0o Γ.fns g=some m->Z16 P g m):Z7W P Γ:=by
 intro W0 M σ a w G o d p c s l k r K Q I L J A X q i D B y C h W;have F:W0.np<=d:=Qx L J;unfold Z8o at h;rw[q]at h;simp only at h;split at h
 ·rename_i j;split at h
  ·rename_i V x sT xT z U;have u:V=s:=by rw[z]at i;simpa using(QR i).1
   subst u;obtain⟨σ',v,w',w2,G',Y,b,off,E,hk,H,Z⟩:=Z7I hT I q j (Array.toList_inj.1 (by simpa using z)) (Array.toList_inj.1 (by simpa using U)) D F A B y C h
   unfold Oper.wp;rw[E,Oper.upon_value];exact W σ' v w' w2 G' Y b off v hk H Z.all
  ·cases h
 ·rename_i f j;split at h
  ·rename_i g T;split at h
   ·rename_i m n;split at h
    ·rename_i e ms V os hm z;have u:V=s:=by rw[z]at i;simpa using(QR i).1
     subst u;exact Z8E (hS g m n) I q j T n hm z D F A B y C ⟨e,rfl⟩ h W
    ·cases h
   ·cases h
  ·cases h
 ·cases h
theorem Z98 (e:Z0e P Γ.tys)(d:∀g b,Z0o Γ.fns g=some b->Z16 P g b):CallsOk P Γ:=⟨Z8F d,Z9c e d⟩
end
end Go.PI
