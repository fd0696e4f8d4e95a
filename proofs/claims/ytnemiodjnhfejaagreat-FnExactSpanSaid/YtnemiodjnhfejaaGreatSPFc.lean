/-
  Program's code interpreted over typed values; printed texts; plain laws. No conditions.
-/
import Derived.Test.YtnemiodjnhfejaaGreatSPFb
import Derived.KernelRfl
import Derived.WalkKit
import Derived.ProofKit
import Derived.OpenShut
import Derived.Below
import Derived.Carry
import Derived.WideShapes
import Derived.ShutString
import Derived.ChangeOld
set_option linter.unusedVariables false
set_option linter.unusedSimpArgs false
namespace Go.PI
section
variable {W0:Base} {M:Nat->Prop} {σ σ3:State} {a:Act} {w w' w3:World} {G G3:Ghost} {xs:List Nat} {P:Program} {R:Type} {Γ:Env R} {r:R} {tys:List (TypeId×Ty×List TypeId)}
theorem Z59 {p:Place} (h:Z07 p.path=true):(l:List TV)->(i:Nat)->(σ:State)->Z0X p l i σ=σ
 | [],_,_=>rfl
 | t::l,i,σ=>by
  have b:Z4d p t=false:=by cases t<;>simp [Z4d,h]
  simp only [Z0X,b,Bool.false_eq_true,if_false]
  split<;>exact Z59 h l (i+1) σ
theorem Z4I:{p:List Step}->{τ:Ty}->{x:El τ}->{tg:List Tag}->{u:TVal}->Z07 p=true->Z0b τ x tg p=some u->Z0d τ p=some u.τ
 | [],τ,x,tg,u,_,h=>by
  cases τ<;>(simp only [Z0b,Option.some.injEq] at h;subst h;rw [Z1C])
 | .fst::p,.pair a b,x,tg,u,d,h=>by
  simp only [Z0b] at h
  simp only [Z0d]
  exact Z4I (p:=p) d h
 | .snd::p,.pair a b,x,tg,u,d,h=>by
  simp only [Z0b] at h
  simp only [Z0d]
  exact Z4I (p:=p) d h
 | .idx _::_,_,_,_,_,d,_=>by cases d
 | .fst::_,.int _,_,_,_,_,h=>by simp [Z0b] at h
 | .fst::_,.bool,_,_,_,_,h=>by simp [Z0b] at h
 | .fst::_,.str,_,_,_,_,h=>by simp [Z0b] at h
 | .fst::_,.unit,_,_,_,_,h=>by simp [Z0b] at h
 | .fst::_,.slice _,_,_,_,_,h=>by simp [Z0b] at h
 | .snd::_,.int _,_,_,_,_,h=>by simp [Z0b] at h
 | .snd::_,.bool,_,_,_,_,h=>by simp [Z0b] at h
 | .snd::_,.str,_,_,_,_,h=>by simp [Z0b] at h
 | .snd::_,.unit,_,_,_,_,h=>by simp [Z0b] at h
 | .snd::_,.slice _,_,_,_,_,h=>by simp [Z0b] at h
theorem Z0C.sim {σ':State} {G':Ghost} {p:Place} {cs:List Value} {base:Option (Nat×Nat)} (f:σ'.ct p=σ.ct p) (d:G'.ad=G.ad) (h:Z0C σ G a w p cs base):Z0C σ' G' a w p cs base:=by
 obtain ⟨τ,l,b,i,g,j⟩:=h
 exact ⟨τ,l,b,f.trans i,by unfold Z08 at g ⊢;rw [d];exact g,j⟩
structure Held (σ:State) (a:Act) (w:World) (G:Ghost) (p:Place) (c u:TVal) (l:List Value) (bs:Option (Nat×Nat)) (cs:List Value) (b off:Nat) (fpc fpo fpi:List Nat):Prop where
 con:σ.content p=some c
 loc:Z08 G a w p=some (l,bs)
 at_:Z00 w c.τ l bs p.path=some (cs,some (b,off))
 lens:Lens w G.F G.St G.Al c.τ c.tg l c.x fpc bs p.path cs (some (b,off)) u fpo fpi
 cell:∃ C T fr,w.heap[b]? = some (.cells C T fr)/\off+size u.τ<=C.size/\Z3W C fr
 box:p.box=true->((∃ cc T,w.heap[G.ad p.root]? = some (.cells cc T (0,0))/\l=cc.toList)/\bs=some (G.ad p.root,0)/\G.who (G.ad p.root)=some (.a p.root)/\p.root<σ.boxes.length /\
  ∀ j,j<σ.slots.length->Z1r p.root ((σ.loosen true p.root).slot j) (a.tmps.getD j undef) (Z2j (G.ad p.root) c.τ))
 slot:p.box=false->σ.slot p.root= .val c/\p.root<σ.slots.length/\l=Z02 (a.tmps.getD p.root undef)/\Z0f c.ag (a.tmps.getD p.root undef)
 flat:Z07 p.path=true->p.box=true/\b=G.ad p.root/\off=Z0g c.τ p.path
 deep:Z07 p.path=false->b∈fpo
theorem Z6B (I:Inv W0 M σ a w G xs) {p:Place} {c u:TVal} (hc:σ.content p=some c) (hu:σ.getAt p=some u) (hcO:c.allO=true) (X:Z5a σ p=true) (hfl:Z07 p.path=true->p.box=true)
  {cs:List Value} {base:Option (Nat×Nat)} (F:Z0C σ G a w p cs base) :
  ∃ l bs b off q B D A,Held σ a w G p c u l bs cs b off q B D/\Inv W0 M (σ.hold p) a w A (D++(B++xs))/\Sim G A:=by
 obtain ⟨τc,l,bs,hct,y,J⟩:=id F
 have:τc=c.τ:=by rw [State.ct,hc] at hct;simpa using hct.symm
 subst this
 obtain ⟨l',bs',q,K,hRc,k⟩:=Z0H I hc
 rw [y] at K
 cases K
 obtain ⟨c',hc',hgp⟩:=Z0G hu
 rw [hc] at hc'
 cases hc'
 have hfpw:∀ z∈q,G.who z=some (if p.box then .c p.root else .s p.root):=by
  intro z Y
  rcases k with ⟨d,_,rfl,_⟩ | ⟨d,_,rfl,_⟩
  ·rw [d];exact I.whoC _ z Y
  ·rw [d];exact I.whoS _ z Y
 have hnod:q.Nodup:=by
  rcases k with ⟨_,_,rfl,_⟩ | ⟨_,_,rfl,_⟩
  ·exact I.nodC _
  ·exact I.nodS _
 obtain ⟨B,D,L⟩:=Rp.lens (base:=bs) hRc (Z1x.1 hcO) hnod (λz Y hm=>by
  rcases k with ⟨d,g,_,n⟩ | ⟨_,_,_,n,_⟩
  ·rw [n] at Y;cases Y
   have i:=hfpw _ hm
   rw [(I.box _ _ g).2,d] at i
   cases i
  ·rw [n] at Y;cases Y) J hgp
 have H:p.box=false->σ.slot p.root= .val c:=by
  intro d
  rcases k with ⟨f,_⟩ | ⟨_,_,_,_,H⟩
  ·rw [d] at f;cases f
  ·rcases H with i | ⟨ags,i⟩
   ·exact i
   ·simp only [Z5a,d,Bool.false_or] at X
    rw [i] at X
    cases X
 have U:∃ b off,base=some (b,off)/\(Z07 p.path=true->p.box=true/\b=G.ad p.root/\off=Z0g c.τ p.path)/\(Z07 p.path=false->b∈B)/\∃ C T fr,w.heap[b]? = some (.cells C T fr)/\off+size u.τ<=C.size/\Z3W C fr:=by
  cases hf:Z07 p.path with
  | false=>
   obtain ⟨b',o',m,i,h2,h3,⟨C,T,fr,h4,h5,h6⟩⟩:=L.deep hf
   exact ⟨b',o',i,λh=>(by cases h),λ_=>h2,C,T,fr,h4,by omega,h6⟩
  | true=>
   have d:=hfl hf
   have i:=L.flat hf
   rcases k with ⟨_,g,_,n⟩ | ⟨f,_⟩
   ·rw [n] at i
    obtain ⟨⟨cc,T,E,hRcc⟩,_⟩:=I.box _ _ g
    refine ⟨_,_,i,λ_=>⟨d,rfl,by simp⟩,λh=>(by cases h),cc,T,(0,0),E,?_,λj _ h=>by simp at h⟩
    have hτf:=Z4I hf hgp
    have h2:=(Z0U (w:=w) (base:=bs) hτf hRc.len.1).2
    have hcl:cc.toList.length=size c.τ:=hRcc.len.1
    simp only [Array.length_toList] at hcl
    omega
   ·rw [d] at f;cases f
 obtain ⟨b,off,rfl,hb1,hb2,V⟩:=U
 have hold:∃ A,Inv W0 M (σ.hold p) a w A (q++xs)/\Sim G A:=by
  obtain ⟨bx,Q,path⟩:=p
  rcases k with ⟨d,g,rfl,_⟩ | ⟨d,W,rfl,_,_⟩
  ·simp only at d g
   subst d
   obtain ⟨A,Z,i,_⟩:=I.takeBox g
   exact ⟨A,Z,i⟩
  ·simp only at d
   subst d
   obtain ⟨A,Z,i,_⟩:=I.takeSlot (H rfl)
   exact ⟨A,Z,i⟩
 obtain ⟨A,Z,i⟩:=hold
 refine ⟨l,bs,b,off,q,B,D,A,⟨hc,y,J,L,V,λd=> ?_,λd=> ?_,hb1,hb2⟩,Z.perm ?_,i⟩
 ·rcases k with ⟨_,g,_,n⟩ | ⟨f,_⟩
  ·obtain ⟨_,_,_,hwho,⟨cc,T,E,_⟩,hptr⟩:=I.takeBox g
   refine ⟨⟨cc,T,E,?_⟩,n,hwho,Z1y g,hptr⟩
   obtain ⟨bx,Q,path⟩:=p
   simp only at d
   subst d
   simp only [Z08,E,Option.some.injEq,Prod.mk.injEq] at y
   exact y.1.symm
  ·rw [d] at f;cases f
 ·rcases k with ⟨f,_⟩ | ⟨_,W,_,_,_⟩
  ·rw [d] at f;cases f
  ·have h2:=H d
   have h3:=I.slot p.root W
   rw [h2] at h3
   refine ⟨h2,W,?_,h3.1⟩
   obtain ⟨bx,Q,path⟩:=p
   simp only at d
   subst d
   simp only [Z08,Option.some.injEq,Prod.mk.injEq] at y
   exact y.1.symm
 ·have:=L.perm
  rw [<-List.append_assoc]
  exact List.Perm.append_right _ (this.trans List.perm_append_comm)
theorem Z6A {p:Place} {c u v:TVal} {l cs:List Value} {bs:Option (Nat×Nat)} {b off:Nat} {fpc m fpi A:List Nat} (H:Held σ a w G p c u l bs cs b off fpc m fpi) (I3:Inv W0 M σ3 a w3 G3 (A++m)) (hN3:σ3.noN) (had:G3.ad=G.ad)
  (hk:∀ z∈m,G3.F z=G.F z/\w3.heap[z]? = w.heap[z]? /\ (G.Al z->G3.Al z))
  (n:p.box=true->G3.who (G.ad p.root)=some (.a p.root)/\w3.heap[G.ad p.root]? = w.heap[G.ad p.root]? /\ σ3.boxAt p.root=none/\σ3.boxes.length=σ.boxes.length/\∀ j,σ3.slot j=(σ.loosen true p.root).slot j\/σ3.slot j= .dead)
  (hlen:σ3.slots.length=σ.slots.length) (hu1:size u.τ=1) (hvu:v.τ=u.τ) (hvO:∀ t∈v.tg,t= .O) {v1:Value} (h1:one v1=true) (hRv:Rp w3 G3.F G3.St G3.Al v.τ v.tg [v1] v.x A)
  {f:El c.τ×List Tag} (hset:Z0K c.τ c.x c.tg p.path v=some f) :
  ∃ L,Inv W0 M (σ3.refill p ⟨c.τ,c.ag,f.1,f.2⟩) a (Z0m w3 b off [v1]) L []/\(σ3.refill p ⟨c.τ,c.ag,f.1,f.2⟩).content p=some ⟨c.τ,c.ag,f.1,f.2⟩ /\
   (∃ l',Z08 L a (Z0m w3 b off [v1]) p=some (l',bs)/\(Z07 p.path=false->l'=l))/\∃ C T fr,w3.heap[b]? = some (.cells C T fr)/\off<C.size/\Z3W C fr:=by
 obtain ⟨C,T,fr,hC,hoff,hth⟩:=H.cell
 rw [hu1] at hoff
 have B:w3.heap[b]? = some (.cells C T fr):=by
  cases k:Z07 p.path with
  | false=>rw [(hk b (H.deep k)).2.1];exact hC
  | true=>
   obtain ⟨E,rfl,_⟩:=H.flat k
   rw [(n E).2.1];exact hC
 have hpw:w3.setRow b (Z0c C.toList off [v1]).toArray=Z0m w3 b off [v1]:=Z3S B
 obtain ⟨z,hz,hzc,hzb⟩:∃ z,G3.who b=some z/\(z= .x\/∃ i,z= .a i/\σ3.boxAt i=none)/\(b ∉ A):=by
  cases k:Z07 p.path with
  | false=>
   refine ⟨.x,I3.whoX b (List.mem_append_right _ (H.deep k)),.inl rfl,λhm=> ?_⟩
   exact (List.nodup_append.1 I3.nodX).2.2 b hm b (H.deep k) rfl
  | true=>
   obtain ⟨E,rfl,_⟩:=H.flat k
   refine ⟨_,(n E).1,.inr ⟨_,rfl,(n E).2.2.1⟩,λhm=> ?_⟩
   have:=I3.whoX _ (List.mem_append_left m hm)
   rw [(n E).1] at this
   cases this
 have hW:Wrote w3 (Z0m w3 b off [v1]) b:=by rw [<-hpw];exact Wrote.setRow w3 b _
 obtain ⟨I4,_,hl4⟩:=I3.patch hz hzc hW (G3.F b) (.inl hN3)
 have hF4:(λq=>if q=b then G3.F b else G3.F q)=G3.F:=by funext q;split<;>simp_all
 have hvN:∀ t∈v.tg,t.isN=false:=λt ht=>by rw [hvO t ht];rfl
 have hR4:=hl4 _ _ _ _ _ hRv hzb (.inl hvN)
 have hG4:({ G3 with F:=λq=>if q=b then G3.F b else G3.F q }:Ghost)=G3:=by rw [hF4]
 rw [hG4] at I4 hR4
 have hput:∀ q∈m,Put w G.F G.Al (Z0m w3 b off [v1]) G3.F G3.Al (some (b,off)) [v1] q:=by
  intro q hq
  obtain ⟨k1,k2,k3⟩:=hk q hq
  refine ⟨k1,k3,?_⟩
  by_cases Y:q=b
  ·subst Y
   simp only [Z7i,Z0m]
   rw [Array.getElem?_modify,Array.getElem?_modify,k2]
  ·rw [Z15 Y,k2]
   exact (Z15 Y).symm
 obtain ⟨Q,hpn,htg,V⟩:=H.lens.put _ _ _ _ v _ A f.1 f.2 hset hvu hvO hR4 hput
 have I4':Inv W0 M σ3 a (Z0m w3 b off [v1]) G3 (Q++[]):=I4.perm (by
  rw [List.append_nil]
  exact (hpn.trans List.perm_append_comm).symm)
 obtain ⟨bx,d,path⟩:=p
 cases bx with
 | true=>
  obtain ⟨⟨⟨cc,Tc,W,I⟩,hbs,hwho,y,K⟩,⟨k1,k2,k3,k4,k5⟩⟩:=And.intro (H.box rfl) (n rfl)
  simp only at W hbs hwho y K k1 k2 k3 k4 k5
  obtain ⟨fs,I5,_⟩:=I4'.loosen true d
  obtain ⟨Z,hC',D⟩:∃ Z:Array Value,(Z0m w3 b off [v1]).heap[G.ad d]? = some (.cells Z Tc (0,0))/\Z.toList=(if Z07 path then Z0c l (Z0g c.τ path) [v1] else l):=by
   cases k:Z07 path with
   | false=>
    have hne:G.ad d≠b:=λh=>by
     have h2:=I3.whoX b (List.mem_append_right _ (H.deep k))
     rw [<-h,k1] at h2
     cases h2
    refine ⟨cc,by rw [Z15 hne,k2];exact W,?_⟩
    simp only [Bool.false_eq_true,if_false]
    exact I.symm
   | true=>
    obtain ⟨_,E,ho⟩:=H.flat k
    simp only at E ho
    subst E
    rw [W] at hC
    cases hC
    refine ⟨(Z0c C.toList off [v1]).toArray,?_,?_⟩
    ·simp only [Z0m]
     rw [Array.getElem?_modify,B]
     simp
    ·simp only [if_true]
     rw [I,ho]
  have U:Rp (Z0m w3 b off [v1]) G3.F G3.St G3.Al c.τ f.2 Z.toList f.1 Q:=by rw [D];exact V
  obtain ⟨L,J,e1,e2,e3,e4,e5⟩:=Inv.addBox (xs:=[]) I5 (i:=d) (g:=G.ad d) (c:=Z) (T:=Tc) (v:=⟨c.τ,c.ag,f.1,f.2⟩) (by
   show d<σ3.boxes.length
   rw [k4];exact y) hC' k1 U (λj hj=>by
   have hj':j<σ.slots.length:=by
    have:j<σ3.slots.length:=by simpa [State.loosen,Z0a] using hj
    omega
   refine (K j hj').or_dead ?_
   rw [Z0i]
   rcases k5 j with h | h
   ·rw [h];exact TV.loosen_or _ _ _
   ·rw [h];exact .inr rfl) (.inr (by show G3.ad d=_;rw [had]))
  refine ⟨L,J,?_,?_,C,T,fr,B,by omega,hth⟩
  ·show ((σ3.loosen true d).putBox d _).boxAt d=_
   rw [Z0D,if_pos ⟨rfl,by
    show d<σ3.boxes.length
    rw [k4];exact y⟩]
  ·refine ⟨Z.toList,?_,λk=> ?_⟩
   ·have:L.ad d=G.ad d:=by rw [e5];exact if_pos rfl
    simp only [Z08]
    rw [this,hC',hbs]
   ·simp only at k
    rw [D,k];rfl
 | false=>
  obtain ⟨hsl,y,X,hsh⟩:=H.slot rfl
  simp only at hsl y X hsh
  have k:Z07 path=false:=by
   cases k:Z07 path with
   | false=>rfl
   | true=>have:=(H.flat k).1;cases this
  simp only [k,Bool.false_eq_true,if_false] at V
  have U:Rp (Z0m w3 b off [v1]) G3.F G3.St G3.Al c.τ f.2 (Z02 (a.tmps.getD d undef)) f.1 Q:=by rw [<-X];exact V
  obtain ⟨L,J,hs5⟩:=I4'.put (i:=d) (tv:= .val ⟨c.τ,c.ag,f.1,f.2⟩) (v:=a.tmps.getD d undef) ⟨hsh,U⟩ (λhi=>I3.pin d hi) (.inr rfl)
  rw [Z4O] at J
  have hbsn:bs=none:=by
   have:=H.loc
   simp only [Z08,Option.some.injEq,Prod.mk.injEq] at this
   exact this.2.symm
  refine ⟨L,J,?_,⟨l,?_,λ_=>rfl⟩,C,T,fr,B,by omega,hth⟩
  ·show (match ((σ3.put d (.val ⟨c.τ,c.ag,f.1,f.2⟩))).slot d with | .val v=>some v | .tup v _=>some v | _=>none)=_
   rw [Z4G,if_pos ⟨rfl,by omega⟩]
  ·simp only [Z08]
   rw [X,hbsn]
end
end Go.PI
namespace Go.PI
section
variable {W0:Base} {M:Nat->Prop} {σ σ3:State} {a:Act} {w w' w3:World} {G G3:Ghost} {xs:List Nat} {P:Program} {R:Type} {Γ:Env R} {r:R} {tys:List (TypeId×Ty×List TypeId)}
theorem Z5w (I:Inv W0 M σ a w G xs) {p:Place} {c u Z:TVal} {l cs:List Value} {m:Option (Nat×Nat)} {b off:Nat} {aa ac ab:List Nat} (H:Held σ a w G p c u l m cs b off aa ac ab) {σ':State} {B:Ghost} {v1:Value} {d:Nat}
  (I5:Inv W0 M σ' a (Z0m w3 b off [v1]) B []) (y:σ'.content p=some Z) (K:Z.τ=c.τ) (W:∃ l',Z08 B a (Z0m w3 b off [v1]) p=some (l',m)/\(Z07 p.path=false->l'=l)) (q:∃ C T fr,w3.heap[b]? = some (.cells C T fr)/\off<C.size/\Z3W C fr)
  (h1:one v1=true) (hnd:W0.np<=d) (hdl:d<σ.slots.length) (L:p.box=true\/d≠p.root) (ae:Z2J p.path=true) :
  ∃ k,HoleSt W0 M ((Z0X p σ.slots 0 σ').puto (some d) .dead) (a.put (some d) v1) w3 d p (Z0m w3 b off [v1]) k b off v1:=by
 obtain ⟨l',U,V⟩:=W
 have X:∃ k,Inv W0 M (Z0X p σ.slots 0 σ') a (Z0m w3 b off [v1]) k []/\(Z0X p σ.slots 0 σ').ct p=some c.τ/\Z08 k a (Z0m w3 b off [v1]) p=some (l',m):=by
  cases Q:Z07 p.path with
  | true=>
   rw [Z59 Q]
   exact ⟨B,I5,by rw [State.ct,y,<-K];rfl,U⟩
  | false=>
   have z:=V Q
   subst z
   obtain ⟨k,J,RA,hs⟩:=Inv.restore (σ:=σ) (G:=G) (w:=w) (p:=p) (λi hi=>⟨_,I.slot i hi⟩) I.pin σ.slots 0 σ' B (λj=>by rw [Nat.zero_add];rfl) I5 ⟨by
     have D:σ.ct ⟨p.box,p.root,[]⟩=some c.τ:=by
      have:σ.content ⟨p.box,p.root,[]⟩=some c:=H.con
      rw [State.ct,this];rfl
     have h3:σ'.ct ⟨p.box,p.root,[]⟩=some c.τ:=by
      have:σ'.content ⟨p.box,p.root,[]⟩=some Z:=y
      rw [State.ct,this,<-K];rfl
     rw [D,h3],⟨Z,y⟩,by
     have D:Z08 G a w ⟨p.box,p.root,[]⟩=some (l',m):=H.loc
     have h3:Z08 B a (Z0m w3 b off [v1]) ⟨p.box,p.root,[]⟩=some (l',m):=U
     rw [D,h3]⟩
   refine ⟨k,J,?_,?_⟩
   ·have D:σ.ct ⟨p.box,p.root,[]⟩=some c.τ:=by
     have:σ.content ⟨p.box,p.root,[]⟩=some c:=H.con
     rw [State.ct,this];rfl
    exact RA.ct.trans D
   ·exact RA.loc.trans H.loc
 obtain ⟨k,J,f,Y⟩:=X
 have A:∃ n,Z00 (Z0m w3 b off [v1]) c.τ l' m p.path=some (n,some (b,off)):=by
  cases Q:Z07 p.path with
  | true=>exact Z2d Q H.at_
  | false=>
   have z:=V Q
   subst z
   obtain ⟨c',F⟩:∃ c',(Z0X p σ.slots 0 σ').content p=some c':=by
    cases hcc:(Z0X p σ.slots 0 σ').content p with
    | none=>rw [State.ct,hcc] at f;cases f
    | some c'=>exact ⟨c',rfl⟩
   obtain ⟨l'',bs'',fp'',g,E,_⟩:=Z0H J F
   rw [Y] at g
   cases g
   have hτ:c'.τ=c.τ:=by rw [State.ct,F] at f;simpa using f
   obtain ⟨cτ,cag,cx,ctg⟩:=c'
   simp only at hτ E
   subst hτ
   exact Z3R E ae H.at_
 obtain ⟨n,A⟩:=A
 obtain ⟨G7,J7,hs7⟩:=Inv.puto (fp:=[]) (xs:=[]) J (d:=some d) (tv:= .dead) (v:=v1) rfl (λi hi hlt=>by
  simp only [Option.some.injEq] at hi
  omega)
 refine ⟨G7,J7,rfl,?_,h1,⟨c.τ,l',m,n,?_,?_,A⟩,q⟩
 ·simp only [Act.put]
  rw [Array.getD_eq_getD_getElem?,Array.getElem?_setIfInBounds_self_of_lt (by rw [I.len];exact hdl)]
  rfl
 ·rw [Z56 (L.imp id λh e=>h (by simpa using e))]
  exact f
 ·rw [<-Y]
  obtain ⟨bx,root,path⟩:=p
  cases bx with
  | true=>simp only [Z08];rw [hs7.ad]
  | false=>
   simp only [Z08]
   rw [Z55 (by
    rcases L with h | h
    ·cases h
    ·exact λe=>h (by simpa using e))]
theorem Z6W (hT:Z0e P tys) {e:Ty} {sT xT ty et et2:TypeId} {le:List TypeId} (hu:P.underlying sT=some (.slice et)) (ae:P.underlying xT=some (.slice et2)) (aa:Z0o tys et=some (e,le))
  {f fp2:List Nat} (I:Inv W0 M σ a w G (fp2++(f++xs))) (hN:σ.noN) {t':Tag} (ht':t'.isN=false) {ad H:Option Addr} {n cap n' q:Nat} {l m:List (El e)}
  (V:Rp w G.F G.St G.Al (.slice e) [.O] [.slice ad n cap] l f) (X:Rp w G.F G.St G.Al (.slice e) [t'] [.slice H n' q] m fp2) (C:lim (l.length+m.length)=true) (ht0:t'.isO=true\/Z05 e=0) :
  ∃ v w' G' fp,(Builtin.append_ #[sT,xT] ty #[.slice ad n cap,.slice H n' q]).run P w= .ok v w'/\Inv W0 M σ a w' G' (fp++xs)/\Z0f false v/\Rp w' G'.F G'.St G'.Al (.slice e) [.O] (Z02 v) (l++m) fp/\(∃ k,Calmer w G w' k) /\
   G'.ad=G.ad/\(∀ z∈xs,G'.F z=G.F z/\w'.heap[z]? = w.heap[z]? /\ (G.Al z->G'.Al z))/\∀ b i,G.who b=some (.a i)->G'.who b=some (.a i)/\w'.heap[b]? = w.heap[b]? := by
 classical
 have ac:(.O:Tag)=(if Z05 e==0 then Tag.O else Tag.O.inner.meet t'.inner).over:=by
  rcases ht0 with h | h
  ·cases t'<;>first | (cases h;done) | skip
   split<;>rfl
  ·simp [h];rfl
 obtain ⟨v,w',Gp,fpp,E,_,hsh,_,K⟩:=Z4n (ty:=ty) hT hu ae aa I rfl V X C rfl
 have ab:(fp2++f).Nodup:=by
  have:=I.nodX
  rw [<-List.append_assoc] at this
  exact (List.nodup_append.1 this).1
 have L:∀ b∈fp2++f,G.who b=some .x:=λb d=>I.whoX b (by
  rcases List.mem_append.1 d with h | h
  ·exact List.mem_append_left _ h
  ·exact List.mem_append_right _ (List.mem_append_left _ h))
 let W1:Base:={ toWorld:=w,ad0:=λ_=>0,F0:=G.F,St0:=G.St,np:=0,arg:=λ_=>undef }
 let k:Ghost:={ F:=G.F,St:=G.St,who:=λb=>if b∈fp2++f then some .x else none,fs:=λ_=>[],fb:=λ_=>[],ad:=λ_=>0 }
 have T:∀ b∈fp2++f,k.who b=some .x:=λb d=>if_pos d
 have U:∀ b∈fp2++f,k.Al b:=λb d=>⟨λi h=>(by rw [T b d] at h;cases h),λh=>(by rw [T b d] at h;cases h)⟩
 have J:Inv W1 (·∈ fp2++f) ⟨[],[]⟩ { a with tmps:= #[] } w k (fp2++(f++[])):=by
  refine ⟨I.defers,rfl,λi hi=>(by simp at hi),λi v hv=> ?_,λi b d=>(by cases d),λi b d=>(by cases d),λb d=>T b (by simpa using d),λi=>List.nodup_nil,λi=>List.nodup_nil,by simpa using ab,λb d=> ?_,λb z hz=> ?_,Ext.refl _ _,λi _=>rfl,⟨λ_ _ _=>rfl,λb d=>d,λb d=> .inl d⟩,λi hi=>(by simp [W1] at hi)⟩
  ·simp [State.boxAt,Z0y] at hv
  ·have A:=I.st b d
   refine ⟨if_neg λg=> ?_,A.2⟩
   rw [L b g] at A
   cases A.1
  ·have g:b∈fp2++f:=by
    by_cases g:b∈fp2++f
    ·exact g
    ·have:k.who b=none:=if_neg g
     rw [this] at hz;cases hz
   exact ⟨(I.lt b _ (L b g)).1,.inr g⟩
 have W:Rp w k.F k.St k.Al (.slice e) [.O] [.slice ad n cap] l f:=V.narrow (by simp [Tag.isN]) λb d=>U b (List.mem_append_right _ d)
 have Y:Rp w k.F k.St k.Al (.slice e) [t'] [.slice H n' q] m fp2:=X.narrow (by simpa using ht') λb d=>U b (List.mem_append_left _ d)
 obtain ⟨v2,w2,G2,fp,j,p,_,Z,_⟩:=Z4n (ty:=ty) hT hu ae aa J rfl W Y C rfl
 rw [E] at j
 simp only [Result.ok.injEq] at j
 obtain ⟨rfl,rfl⟩:=j
 rw [<-ac] at Z
 have I':Inv W0 M σ a w G ((fp2++f)++xs):=by rw [List.append_assoc];exact I
 rw [List.append_nil] at p
 have B:∀ b∈fp,G2.who b=some .x:=p.whoX
 obtain ⟨G',I5,gF,gad,gS,gA,gSs,gR,_,_,_,gAl,gW⟩:=Z3p (R:=fp) (ads:=[]) (gs:=fp2++f) (ks:=xs) (F':=G2.F) (St':=G2.St) I' (by simp) (.inl hN) (Sc:=G.St) (λ_ h=>h) (Ghost.St_Al I) (by simpa using p.ext)
  (λb d g=>p.org.F b d (by simpa using g)) p.org.St (λb d=>⟨by simpa using p.org.St' b d,(p.st b d).2⟩) (by simpa using p.nodX) (λb d=>by
   have d:b∈fp:=by simpa using d
   have A:=p.lt b _ (B b d)
   refine ⟨by simpa using A.2,A.1,λh=> ?_⟩
   have:=(p.st b h).1
   rw [B b d] at this
   cases this)
 have D:∀ b,b<w.heap.size->b ∉ fp2++f->G'.F b=G.F b/\w'.heap[b]? = w.heap[b]? := λb d g=>⟨by rw [gF];exact p.org.F b d g,p.ext.block b d g⟩
 refine ⟨v,w',G',fp,E,I5,hsh,?_,⟨_,K⟩,gad,λz hz=> ?_,λb i d=> ?_⟩
 ·rw [gF]
  exact (Z.narrow (Al':=G'.Al) (by simp [Tag.isN]) λb d=>gR b d).pres (gSs λ_ h=>h) (λ_ _ h=>h) (λb _=>Z06.refl _ _ _) (λb _=>⟨Z06.refl _ _ _,rfl⟩) (.inr λb _ _=>Z06.refl _ _ _)
 ·have hzx:G.who z=some .x:=I.whoX z (List.mem_append_right _ (List.mem_append_right _ hz))
  have y:=(I.lt z _ hzx).1
  have Q:z ∉ fp2++f:=λg=>(List.nodup_append.1 I'.nodX).2.2 z g z hz rfl
  obtain ⟨h1,A⟩:=D z y Q
  exact ⟨h1,A,gAl z y⟩
 ·have y:=(I.lt b _ d).1
  have Q:b ∉ fp2++f:=λg=>by
   have:=L b g
   rw [d] at this
   cases this
  exact ⟨gW b _ d (by simp),(D b y Q).2⟩
end
end Go.PI
namespace Go.PI
section
variable {W0:Base} {M:Nat->Prop} {σ:State} {a:Act} {w w':World} {G:Ghost} {P:Program} {R:Type} {Γ:Env R} {r:R}
theorem Z3B:(ms:List Mode)->(d:List Operand)->(σ:State)->(A:Args)->(k:Args->State->Option R)->ms.all Mode.isBorrow=true->Z0n ms d σ A k=some r ->
  Z0n ms d σ A (λl σ'=>if l.writes=A.writes then k l σ' else none)=some r
 | [],[],σ,A,k,_,h=>by simpa [Z0n] using h
 | [],_::_,σ,A,k,_,h=>by simp [Z0n] at h
 | .borrow τ ag::ms,[],σ,A,k,_,h=>by simp [Z0n] at h
 | .borrow τ ag::ms,o::d,σ,A,k,b,h=>by
  simp only [Z0n] at h ⊢
  have i:ms.all Mode.isBorrow=true:=by simpa [Mode.isBorrow] using b
  split at h
  ·split at h
   ·rename_i j
    rw [if_pos j]
    exact Z3B ms d _ _ k i h
   ·cases h
  ·split at h
   ·split at h
    ·rename_i j
     rw [if_pos j]
     exact Z3B ms d _ _ k i h
    ·cases h
   ·cases h
 | .consume τ ag::ms,d,σ,A,k,b,h=>by simp [Mode.isBorrow] at b
 | .eat τ ag::ms,d,σ,A,k,b,h=>by simp [Mode.isBorrow] at b
 | .inout τ ag::ms,d,σ,A,k,b,h=>by simp [Mode.isBorrow] at b
 | .look τ ag::ms,d,σ,A,k,b,h=>by simp [Mode.isBorrow] at b
 | .rptr τ::ms,d,σ,A,k,b,h=>by simp [Mode.isBorrow] at b
 | .rclos g m::ms,d,σ,A,k,b,h=>by simp [Mode.isBorrow] at b
 | .ptr τ::ms,d,σ,A,k,b,h=>by simp [Mode.isBorrow] at b
 | .clos f m::ms,d,σ,A,k,b,h=>by simp [Mode.isBorrow] at b
theorem Z29:(ms:List Mode)->(d:List Operand)->(σ:State)->(A:Args)->(k:Args->State->Option R)->ms.all Mode.noLend=true->Z0n ms d σ A k=some r ->
  Z0n ms d σ A (λl σ'=>if l.lent=A.lent then k l σ' else none)=some r
 | [],[],σ,A,k,_,h=>by simpa [Z0n] using h
 | [],_::_,σ,A,k,_,h=>by simp [Z0n] at h
 | .borrow τ ag::ms,[],σ,A,k,_,h=>by simp [Z0n] at h
 | .borrow τ ag::ms,o::d,σ,A,k,b,h=>by
  simp only [Z0n] at h ⊢
  have i:ms.all Mode.noLend=true:=by simpa [Mode.noLend] using b
  split at h
  ·split at h
   ·rename_i j
    rw [if_pos j]
    exact Z29 ms d _ _ k i h
   ·cases h
  ·split at h
   ·split at h
    ·rename_i j
     rw [if_pos j]
     exact Z29 ms d _ _ k i h
    ·cases h
   ·cases h
 | .consume τ ag::ms,[],σ,A,k,b,h=>by simp [Z0n] at h
 | .consume τ ag::ms,o::d,σ,A,k,b,h=>by
  simp only [Z0n] at h ⊢
  have i:ms.all Mode.noLend=true:=by simpa [Mode.noLend] using b
  split at h
  ·split at h
   ·rename_i j
    rw [if_pos j]
    exact Z29 ms d _ _ k i h
   ·cases h
  ·cases h
 | .eat τ ag::ms,[],σ,A,k,b,h=>by simp [Z0n] at h
 | .eat τ ag::ms,o::d,σ,A,k,b,h=>by
  simp only [Z0n] at h ⊢
  have i:ms.all Mode.noLend=true:=by simpa [Mode.noLend] using b
  split at h
  ·split at h
   ·rename_i j
    rw [if_pos j]
    exact Z29 ms d _ _ k i h
   ·cases h
  ·cases h
 | .inout τ ag::ms,d,σ,A,k,b,h=>by simp [Mode.noLend] at b
 | .look τ ag::ms,d,σ,A,k,b,h=>by simp [Mode.noLend] at b
 | .rptr τ::ms,d,σ,A,k,b,h=>by simp [Mode.noLend] at b
 | .rclos g m::ms,d,σ,A,k,b,h=>by simp [Mode.noLend] at b
 | .ptr τ::ms,d,σ,A,k,b,h=>by simp [Mode.noLend] at b
 | .clos f m::ms,d,σ,A,k,b,h=>by simp [Mode.noLend] at b
theorem Z84 {g:FuncId} {k:Sig R} (hs:Z1d P g k) {vals:List TVal} {fps:List (List Nat)} {args:List Value}
  {T:List TVal->List TVal->List TVal->Option R} (I:Inv W0 M σ a w G []) (i:Z0s w G k.modes args vals fps []) (m:fps.flatten=[]) (hrd:k.modes.all Mode.reads=true)
  (L:k.run vals [] T=some r) :
  Calls P g args.toArray w λe w'=>∃ v d G' j,e= .returned v/\T d [] []=some r/\Inv W0 M σ a w' G' (j.flatten++[])/\Calmer w G w' G' /\
   ∃ vs,v=Z1E vs/\Z0j w' G' (d.map (TVal.back (vals.all TVal.noN))) vs j:=by
 have hlt:∀ b,G.Al b->b<w.heap.size:=λb l=>by
  cases hz:G.who b with
  | none=>exact (I.st b (l.2 hz)).2
  | some z=>exact (I.lt b z hz).1
 have p:∀ (Sc:Nat->Prop),(∀ b,G.St b->Sc b)->(∀ b,Sc b->G.Al b)->Z0u w G.F Sc k.modes vals args fps [] ->
   Calls P g args.toArray w λe w'=>∃ v d G' j F' St' vs,e= .returned v/\T d [] []=some r/\Inv W0 M σ a w' G' (j.flatten++[])/\Calmer w G w' G' /\
    v=Z1E vs/\Z38 w' F' St' d vs j/\G'.F=F'/\(∀ b,St' b->G'.Al b)/\((∀ b,Sc b->G.St b)->∀ b,St' b->G'.St b)/\(∀ b∈j.flatten,G'.Al b):=by
  intro Sc Z E hA
  refine (hs.2 vals [] T r L w G.F Sc args [] fps [] hA trivial (by simp [m]) (λb l=>⟨hlt b (E b l),by simp [m]⟩) (by simp [m])).mono λe w'=> ?_
  rintro ⟨v,d,ios,ext',rfl,K,⟨hty,_,_⟩,hexn,F',St',vs,y,V,⟨rfl,H,_⟩,f,D,hE,hF,Y,C,n,hR⟩
  rw [Z0s.noIo _ _ _ _ _ i] at H f
  have J:ios=[]:=List.length_eq_zero_iff.1 H
  subst J
  rw [List.append_nil,List.append_nil] at f
  obtain ⟨rfl,rfl⟩:=Z1a.nils D
  simp only [m,List.flatten_nil,List.append_nil,List.nil_append] at hE hF C n hR
  obtain ⟨G4,I4,A,gad,gS,Q,W,B,gads,gC,_⟩:=Z3p (R:=y.flatten) (ads:=[]) (gs:=[]) (ks:=[]) I (by simp) (.inr rfl) (Sc:=Sc) Z E (by simpa using hE) (λb l hm=>hF b l (by simp)) Y
   (λb l=>by simpa using C b l) (by simpa using n) (λb l=>by simpa using hR b (by simpa using l))
  exact ⟨_,d,G4,y,F',St',vs,rfl,K,by simpa using I4,gC rfl,rfl,f,A,Q,W,B⟩
 by_cases hn:vals.all TVal.noN=true
 ·refine (p G.St (λ_ h=>h) (Ghost.St_Al I) ?_).mono λe w'=> ?_
  ·exact Z2q I _ _ _ _ [] i (by simpa [List.all_eq_true] using hn) (by intro q hq;cases hq)
  ·rintro ⟨v,d,G',j,F',St',vs,he,K,U,X,hv,f,A,Q,gS,B⟩
   refine ⟨v,d,G',j,he,K,U,X,vs,hv,?_⟩
   rw [hn,Z4R]
   exact Z3w A (gS λ_ h=>h) d vs j f B
 ·refine (p G.Al (Ghost.St_Al I) (λ_ h=>h) ?_).mono λe w'=> ?_
  ·exact Z4o I _ _ _ _ [] i hrd (by intro q hq;cases hq)
  ·rintro ⟨v,d,G',j,F',St',vs,he,K,U,X,hv,f,A,Q,gS,B⟩
   refine ⟨v,d,G',j,he,K,U,X,vs,hv,?_⟩
   have:vals.all TVal.noN=false:=by simpa using hn
   rw [this]
   exact Z58 A Q d vs j f B
theorem Z9p {α β:Type} (l:List α) (m:List β) (h:l.length=m.length):(l.zip m).map (·.1)=l:=List.map_fst_zip (by omega)
theorem Z9q {α β:Type} (l:List α) (m:List β) (h:l.length=m.length):(l.zip m).map (·.2)=m:=List.map_snd_zip (by omega)
theorem Z7l (b:List TVal) (k:TV->State->Option R) (d:State):(match b with
  | []=>k .dead d
  | [r]=>k (.val r) d
  | rs=>k (.tup (Z2o rs) (rs.map (·.ag))) d)=k (Z6T b) d:=by
 match b with
 | []=>rfl
 | [r]=>rfl
 | _::_::_=>rfl
theorem Z8z (hS:∀ g d,Z0o Γ.fns g=some d->Z1d P g d):Z6U P Γ:=by
 intro W0 M σ a w G o c f k r K Q I T z h hK
 rw [T] at h
 simp only [Z0N,z] at h
 split at h
 ·rename_i g H n
  split at h
  ·rename_i d D
   have hs:=hS g d D
   obtain ⟨fn,cd,hf1,hf2,hf3⟩:=hs.1
   have ac:=Z0w I f (by rw [n];intro v ags hh;cases hh)
   rw [n] at ac
   obtain ⟨_,us,hev,y,hus⟩:=ac
   have C:=Z5I (P:=P) (a:=a) (w:=w) T z hev hf1 hf2 hf3
   split at h
   ·rename_i B
    simp only [Bool.and_eq_true] at B
    split at h
    ·rename_i cvs hcv
     obtain ⟨j1,_,j3⟩:=Z3l I H us.toList cvs hcv (by simpa using y) (λi hi=>by
      have:=(hus i hi).2.2
      rwa [Array.getD_eq_getD_getElem?,<-Array.getElem?_toList,<-List.getD_eq_getElem?_getD] at this)
     have j:(c.args.map a.eval++us)=(c.args.toList.map a.eval++us.toList).toArray:=by
      apply Array.ext'
      simp
     unfold Oper.wp
     rw [C,j,Oper.upon_enter]
     refine (Z6v hs I B.1 (by rw [j1];simpa using y) j3 h).mono λe w'=> ?_
     rintro ⟨U,G',fs,vs,rfl,V,I',ho,hC⟩
     exact hK _ _ _ _ _ _ V I' (Z4i _ vs fs ho) hC.all
    ·cases h
   rename_i hnl
   have W:(d.modes.all Mode.isSee&& !d.modes.isEmpty)=false:=by
    cases hx:(d.modes.all Mode.isSee&& !d.modes.isEmpty) with
    | false=>rfl
    | true=>
     rw [Bool.and_eq_true] at hx
     refine absurd ?_ hnl
     rw [Bool.and_eq_true]
     refine ⟨List.all_eq_true.2 λm hm=> ?_,hx.2⟩
     have:=List.all_eq_true.1 hx.1 m hm
     cases m<;>first | rfl | cases this
   have hcases:(∃ τ ag ms o1 os,d.modes= .inout τ ag::ms/\c.args.toList=o1::os/\H=[]/\Z5Q d τ ag ms o1 os σ k=some r)\/Z82 d c.args.toList H σ k=some r:=by
    clear y hus n
    split at h
    ·rename_i τ ag ms o1 os Y e2
     exact .inl ⟨τ,ag,ms,o1,os,Y,e2,rfl,h⟩
    ·exact .inr h
   clear h
   rcases hcases with ⟨τ,ag,ms,o1,os,Y,e2,rfl,h⟩ | h
   ·have hnt:¬ Z1P Γ o.op=true:=by
     intro ht
     rw [T] at ht
     simp only [Z1P,z] at ht
     cases f with
     | func fg=>
      simp only [State.peek,TV.clos.injEq] at n
      obtain ⟨rfl,_⟩:=n
      simp only [D,W,Bool.or_false] at ht
      rw [Y] at ht
      simp [Mode.isBorrow] at ht
     | _=>simp at ht
    have hnh:¬ Z1K Γ o.op=true:=by
     intro ht
     rw [T] at ht
     simp only [Z1K,z] at ht
     cases f with
     | func fg=>
      simp only [State.peek,TV.clos.injEq] at n
      obtain ⟨rfl,_⟩:=n
      simp only [D,W,Bool.or_false] at ht
      rw [Y] at ht
      simp [Mode.noLend] at ht
     | _=>simp at ht
    have hus0:us= #[]:=Array.eq_empty_of_size_eq_zero (by rw [y];rfl)
    have j:(c.args.map a.eval++us)=((o1::os).map a.eval).toArray:=by
     apply Array.ext'
     rw [hus0]
     simp [e2]
    unfold Oper.wp
    rw [C,j,Oper.upon_enter]
    refine (Z9h hs I Y h).mono λe w'=> ?_
    rintro ⟨U,σ',G',fs,vs,rfl,V,I',ho⟩
    exact hK _ _ _ _ _ _ V I' (Z4i _ vs fs ho) ⟨λht=>absurd ht hnt,λht=>absurd ht hnh⟩
   unfold Z82 at h
   split at h
   ·rename_i hc
    simp only [Bool.and_eq_true,beq_iff_eq] at hc
    obtain ⟨⟨hl',hip⟩,hwh⟩:=hc
    have htame:Z1P Γ o.op=true->d.modes.all Mode.isBorrow=true/\H=[]:=by
     intro ht
     rw [T] at ht
     simp only [Z1P,z] at ht
     cases f with
     | func fg=>
      simp only [State.peek,TV.clos.injEq] at n
      obtain ⟨rfl,rfl⟩:=n
      simp only [D,W,Bool.or_false] at ht
      exact ⟨ht,rfl⟩
     | _=>simp at ht
    have aa:Z1K Γ o.op=true->d.modes.all Mode.noLend=true/\H=[]:=by
     intro ht
     rw [T] at ht
     simp only [Z1K,z] at ht
     cases f with
     | func fg=>
      simp only [State.peek,TV.clos.injEq] at n
      obtain ⟨rfl,rfl⟩:=n
      simp only [D,W,Bool.or_false] at ht
      exact ⟨ht,rfl⟩
     | _=>simp at ht
    let kk:Args->State->Option R:=λA Z=>
     let ae:=A.lent++H.map (·.root)
     if Z4g ae&&(!A.writes||A.vals.all λv=>v.noN) then
      match Z.boxesAt ae with
      | some ext=>if ext.all TVal.noN then d.run A.vals ext λU ios ext'=>
        let stable:=A.writes||A.vals.all TVal.noN
        let σ2:=if A.writes then Z.renil.kill else Z
        let σ4:=σ2.putBoxes ae ext'
        if ios.isEmpty then
         (match U.map (TVal.back stable) with
          | []=>k .dead σ4
          | [r]=>k (.val r) σ4
          | rs=>k (.tup (Z2o rs) (rs.map (·.ag))) σ4) else none
       else none
      | none=>none
     else none
    have h:Z0n (d.modes.take c.args.toList.length) c.args.toList σ ⟨[],[],!H.isEmpty⟩ kk=some r:=h
    have h:Z0n (d.modes.take c.args.toList.length) c.args.toList σ ⟨[],[],!H.isEmpty⟩ (λA Z=>if Z1P Γ o.op=true->A.writes=false then kk A Z else none)=some r:=by
     by_cases ht:Z1P Γ o.op=true
     ·obtain ⟨hb1,hb2⟩:=htame ht
      have:=Z3B _ _ _ _ _ (List.all_eq_true.2 λm hm=>List.all_eq_true.1 hb1 m (List.mem_of_mem_take hm)) h
      subst hb2
      simpa [ht] using this
     ·simpa [ht] using h
    have h:Z0n (d.modes.take c.args.toList.length) c.args.toList σ ⟨[],[],!H.isEmpty⟩ (λA Z=>if Z1K Γ o.op=true->A.lent=[] then (if Z1P Γ o.op=true->A.writes=false then kk A Z else none) else none)=some r:=by
     by_cases ht:Z1K Γ o.op=true
     ·obtain ⟨hb1,hb2⟩:=aa ht
      have:=Z29 _ _ _ _ _ (List.all_eq_true.2 λm hm=>List.all_eq_true.1 hb1 m (List.mem_of_mem_take hm)) h
      subst hb2
      simpa [ht] using this
     ·simpa [ht] using h
    obtain ⟨vs,fps,ls,A,Z,G1,E,h2,h3,h4,I1,X,hct,hlen,hAr,hpt⟩:=Z1G _ _ _ _ _ _ _ h I
    split at E
    rotate_left
    ·cases E
    rename_i hhw
    split at E
    ·rename_i htw
     have h2:A.vals=vs:=by simpa using h2
     have h3:A.lent=ls.map (·.1):=by simpa using h3
     let l:List (Nat×Value):=(H.map (·.root)).zip us.toList
     have hl1:l.map (·.1)=H.map (·.root):=Z9p _ _ (by simp [y])
     have hl2:l.map (·.2)=us.toList:=Z9q _ _ (by simp [y])
     have hll:l.length=H.length:=by simp [l,y]
     have J:=Z0s.append_ptr hip (by rw [hl',hll]) _ _ _ _ _ hAr
     rw [List.take_append_drop,hl2] at J
     have hlent:A.lent++H.map (·.root)=(ls++l).map (·.1):=by rw [h3,List.map_append,hl1]
     have hpt':∀ q∈ls++l,Z0x σ G a w ⟨true,q.1,[]⟩ q.2:=by
      intro q hq
      rcases List.mem_append.1 hq with hq | hq
      ·exact hpt q hq
      ·obtain ⟨i,hi,rfl⟩:=List.mem_iff_getElem.1 hq
       have hips:i<H.length:=by omega
       obtain ⟨q1,q2,q3⟩:=hus i hips
       have hw:=List.all_eq_true.1 hwh H[i] (List.getElem_mem _)
       simp only [Place.whole,Bool.and_eq_true,List.isEmpty_iff] at hw
       have hq1:l[i].1=H[i].root:=by simp [l]
       have hq2:l[i].2=us.getD i undef:=by
        have:i<us.size:=by rw [y];exact hips
        simp [l,this]
       rw [hq1,hq2]
       have:H[i]=⟨true,H[i].root,[]⟩:=by
        have Y:=hw.1
        have e2:=hw.2
        cases hpi:H[i] with
        | mk b r p=>rw [hpi] at Y e2;simp only at Y e2;subst Y;subst e2;rfl
       rw [this] at q3
       exact q3
     have j:(c.args.map a.eval++us)=(c.args.toList.map a.eval++us.toList).toArray:=by
      apply Array.ext'
      simp
     simp only [kk] at E
     rw [hlent,h2] at E
     split at E
     ·rename_i hcc
      simp only [Bool.and_eq_true,Bool.or_eq_true,Bool.not_eq_true'] at hcc
      obtain ⟨hnd,hwn⟩:=hcc
      split at E
      ·rename_i ext L
       split at E
       ·rename_i hexn
        have hlp:Z2M G1 (ls++l):=by
         intro q hq
         have hq1:q.1∈(ls++l).map (·.1):=List.mem_map_of_mem hq
         obtain ⟨v,hv⟩:=Z3D _ _ L q.1 hq1
         exact Z6L I1 ((hpt' q hq).sim hct X.ad) hv
        unfold Oper.wp
        rw [C,j,Oper.upon_enter]
        cases hwr:A.writes with
        | true=>
         have hnt:¬ Z1P Γ o.op=true:=λht=>by
          have:=htw ht
          rw [hwr] at this;cases this
         rw [hwr] at E hwn
         simp only [Bool.true_eq_false,false_or,Bool.true_or,if_true] at E hwn
         have I1':Inv W0 M Z a w G1 fps.flatten:=by simpa using I1
         obtain ⟨fb,I2⟩:=I1'.renil
         have hsb:=Sim.fb G1 fb
         refine (Z7F hs I2 (Z0s.up hsb.up _ _ _ _ _ J) (by simpa [List.all_eq_true] using hwn) (λq hq=>hlp q hq) (Z4z _ hnd) (Z3h _ _ L (by simpa [List.all_eq_true] using hexn)) (by simpa [List.all_eq_true] using hexn) E).mono λe w'=> ?_
         rintro ⟨v,U,ext',G',fs,rfl,V,I',⟨vs',rfl,ab⟩,hBc⟩
         simp only [List.isEmpty_nil,if_true] at V
         rw [Z7l,Z4R] at V
         refine hK _ _ _ _ _ _ V I' (Z4i U vs' fs ab) ⟨λht=>absurd ht hnt,λht=> ?_⟩
         have hl0:ls++l=[]:=by
          have Y:=hhw ht
          rw [h3] at Y
          have e2:l=[]:=by
           have:=(aa ht).2
           subst this
           simpa using hll
          rw [e2,List.append_nil]
          exact List.map_eq_nil_iff.1 Y
         exact λw2 hc2=>(X.trans hsb.up).calmer.b w2 (hBc hl0 w2 hc2)
        | false=>
         rw [hwr] at E
         simp only [Bool.false_or,Bool.false_eq_true,if_false] at E
         obtain ⟨p1,p2,p3,p4⟩:=h4 hwr
         have hps:H=[]:=by simpa using p1
         subst hps
         subst p3
         have hls':l=[]:=by simpa using hll
         rw [hls'] at J E L
         simp only [List.append_nil,List.map_nil,State.boxesAt,Option.some.injEq] at J L E
         subst L
         have hmod:d.modes.all Mode.reads=true:=by
          have hd:d.modes.drop c.args.toList.length=[]:=List.length_eq_zero_iff.1 (by simpa using hl')
          rw [<-List.take_append_drop c.args.toList.length d.modes,hd,List.append_nil]
          exact p4
         have I1':Inv W0 M Z a w G1 []:=by simpa [p2] using I1
         refine (Z84 hs I1' J p2 hmod E).mono λe w'=> ?_
         rintro ⟨v,U,G',fs,rfl,V,I',hC,vs',rfl,ab⟩
         simp only [List.isEmpty_nil,if_true] at V
         rw [Z7l] at V
         have hpb:Z.putBoxes [] []=Z:=rfl
         rw [hpb] at V
         exact hK _ _ _ _ _ _ V I' (Z4i _ vs' fs ab) ⟨λ_=>X.calmer.trans hC,λ_=>(X.calmer.trans hC).b⟩
       ·cases E
      ·cases E
     ·cases E
    ·cases E
   ·cases h
  ·cases h
 ·rename_i g τs u n
  split at h
  ·rename_i d cvs D hsv
   split at h
   ·rename_i B
    simp only [Bool.and_eq_true] at B
    have hs:=hS g d D
    obtain ⟨fn,cd,hf1,hf2,hf3⟩:=hs.1
    have ac:=Z0w I f (by rw [n];intro v ags hh;cases hh)
    rw [n] at ac
    obtain ⟨_,us,hev,hsp⟩:=ac
    have C:=Z5I (P:=P) (a:=a) (w:=w) T z hev hf1 hf2 hf3
    have X:SPs w G.F (Old w) (Old w) τs u.τ u.x us.toList:=SPs.pres (λb hb=>(I.st b hb).2) (λb _ hb=>I.Al_old b hb) (λb _=>Z06.refl _ _ _) _ _ _ _ hsp
    have hup2:SPs w (Z2v w G.F) (Old w) (Old w) τs u.τ u.x us.toList:=SPs.pres (λ_ h=>h) (λ_ _ h=>h) (λb _=>Z06.of_block rfl (Z6p _ _ _)) _ _ _ _ X
    obtain ⟨j1,j3⟩:=Z6d _ _ _ _ _ hsv hup2
    have j:(c.args.map a.eval++us)=(c.args.toList.map a.eval++us.toList).toArray:=by
     apply Array.ext'
     simp
    unfold Oper.wp
    rw [C,j,Oper.upon_enter]
    refine (Z6v hs I B.1 j1 j3 h).mono λe w'=> ?_
    rintro ⟨U,G',fs,vs,rfl,V,I',ho,hC⟩
    exact hK _ _ _ _ _ _ V I' (Z4i _ vs fs ho) hC.all
   ·cases h
  ·cases h
 ·cases h
end
end Go.PI
namespace Go.PI
section
variable {W0:Base} {M:Nat->Prop} {σ σ3:State} {a:Act} {w w' w3:World} {G G3:Ghost} {xs:List Nat} {P:Program} {R:Type} {Γ:Env R} {r:R} {tys:List (TypeId×Ty×List TypeId)} {o:Oper}
theorem Z4J (σ:State) (p:Place) (j:Nat):(σ.hold p).slot j=(σ.loosen p.box p.root).slot j\/(σ.hold p).slot j= .dead:=by
 obtain ⟨d,b,path⟩:=p
 cases d with
 | true=>exact .inl rfl
 | false=>
  show (σ.empty b).slot j=_\/(σ.empty b).slot j=_
  rw [Z3q]
  split
  ·exact .inr rfl
  ·exact .inl rfl
theorem Z4u (σ:State) (p:Place):(σ.hold p).slots.length=σ.slots.length/\(σ.hold p).boxes.length=σ.boxes.length:=by
 obtain ⟨d,b,path⟩:=p
 cases d with
 | true=>exact ⟨by simp [State.hold,State.putBox,State.loosen,Z0a],by simp [State.hold,State.putBox,State.loosen,Z0a,Z0F]⟩
 | false=>exact ⟨by show (σ.empty b).slots.length=_;rw [State.empty,Z5o],rfl⟩
theorem Z3i {σ:State} {p:Place} (d:p.box=true):(σ.hold p).boxAt p.root=none:=by
 obtain ⟨g,b,path⟩:=p
 simp only at d
 subst d
 show ((σ.loosen true b).putBox b none).boxAt b=none
 rw [Z0D]
 split
 ·rfl
 ·rename_i h
  simp only [true_and,Nat.not_lt] at h
  cases f:(σ.loosen true b).boxAt b with
  | none=>rfl
  | some v=>
   have:=Z1y f
   omega
theorem Z6m {σ:State} {p:Place} {i:Nat} {v:TVal} (h:(σ.hold p).boxAt i=some v):σ.boxAt i=some v/\(p.box=true->i≠p.root):=by
 obtain ⟨g,b,path⟩:=p
 cases g with
 | true=>
  have f:=Z3i (σ:=σ) (p:=⟨true,b,path⟩) rfl
  have d:i≠b:=λe=>by
   subst e
   simp only at f
   rw [f] at h
   cases h
  refine ⟨?_,λ_=>d⟩
  have h:((σ.loosen true b).putBox b none).boxAt i=some v:=h
  rw [Z0D,if_neg (λe=>d e.1.symm)] at h
  exact h
 | false=>exact ⟨h,λh=>by cases h⟩
theorem Z4h:(rs:List Nat)->(vs:List TVal)->(σ:State)->(∀ i,i ∉ rs->(σ.putBoxes rs vs).boxAt i=σ.boxAt i)/\(σ.putBoxes rs vs).boxes.length=σ.boxes.length/\(σ.putBoxes rs vs).slots.length=σ.slots.length /\
  (∀ j,(σ.putBoxes rs vs).slot j=σ.slot j\/(σ.putBoxes rs vs).slot j= .dead)/\(σ.noN->vs.all TVal.noN=true->(σ.putBoxes rs vs).noN)
 | [],vs,σ=>⟨λi _=>rfl,rfl,rfl,λj=> .inl rfl,λh _=>h⟩
 | r::rs,[],σ=>⟨λi _=>rfl,rfl,rfl,λj=> .inl rfl,λh _=>h⟩
 | r::rs,v::vs,σ=>by
  obtain ⟨k,l,m,n,p⟩:=Z4h rs vs ((σ.loosen true r).putBox r (some v))
  refine ⟨λi d=> ?_,?_,?_,λj=> ?_,λg f=> ?_⟩
  ·simp only [List.mem_cons,not_or] at d
   have:=k i d.2
   show (((σ.loosen true r).putBox r (some v)).putBoxes rs vs).boxAt i=_
   rw [this,Z0D,if_neg (λe=>d.1 e.1.symm)]
   rfl
  ·show (((σ.loosen true r).putBox r (some v)).putBoxes rs vs).boxes.length=_
   rw [l]
   simp [State.putBox,State.loosen,Z0a,Z0F]
  ·show (((σ.loosen true r).putBox r (some v)).putBoxes rs vs).slots.length=_
   rw [m]
   simp [State.putBox,State.loosen,Z0a]
  ·show (((σ.loosen true r).putBox r (some v)).putBoxes rs vs).slot j=_\/(((σ.loosen true r).putBox r (some v)).putBoxes rs vs).slot j=_
   rcases n j with h | h
   ·rw [h,Z1B,Z0i]
    exact TV.loosen_or _ _ _
   ·exact .inr h
  ·simp only [List.all_cons,Bool.and_eq_true] at f
   refine p ⟨λi=> ?_,λi u b=> ?_⟩ f.2
   ·rw [Z1B,Z0i]
    rcases TV.loosen_or true r (σ.slot i) with h | h
    ·rw [h];exact g.1 i
    ·rw [h];rfl
   ·rw [Z0D] at b
    split at b
    ·cases b;exact f.1
    ·exact g.2 i u b
theorem Z7C (hT:Z0e P Γ.tys) (I:Inv W0 M σ a w G []) {d:Nat} {p:Place} {c0:Call} {s x:Operand} {sT xT:TypeId} {k:State->Option R} (hop:o.op= .call c0) (W:c0.callee= .builtin .append) (J:c0.args= #[s,x]) (hty:c0.argTypes= #[sT,xT])
  (hs:σ.peek s= .ref p false) (hnd:W0.np<=d) (hdl:d<σ.slots.length) (hdr:p.box=true\/d≠p.root) (h1i:Z2J p.path=true) (hfl:Z07 p.path=true->p.box=true)
  (h:Z6f Γ.tys sT xT p x σ (λσ'=>k (σ'.puto (some d) .dead))=some r) :
  ∃ σ' v w' w2 G' G1 b off,(execOp a.eval o).run P w= .ok (.value v) w'/\k σ'=some r/\HoleSt W0 M σ' (a.put (some d) v) w' d p w2 G' b off v/\Calmer w G w' G1:=by
 unfold Z6f at h
 split at h
 rotate_left
 ·cases h
 rename_i e e' hsT hxT
 split at h
 rotate_left
 ·cases h
 rename_i ux σ2 Q
 split at h
 rotate_left
 ·cases h
 rename_i m t' c u hm ai hc hu
 split at h
 rotate_left
 ·cases h
 rename_i l hl
 split at h
 rotate_left
 ·cases h
 rename_i i
 simp only [Bool.and_eq_true,Bool.or_eq_true,Bool.not_eq_true',beq_iff_eq] at i
 obtain ⟨⟨⟨⟨⟨hcO,hwh⟩,B⟩,C⟩,ac⟩,am⟩:=i
 rw [cond_eq_ite,Z1M] at h
 obtain ⟨Y,h⟩:=h
 split at h
 rotate_left
 ·cases h
 rename_i rr ae
 obtain ⟨ag1,an,rfl⟩:=Z1T hl
 obtain ⟨ag2,tg2,rfl⟩:=Z1T hm
 simp only at ai C
 subst ai
 subst C
 obtain ⟨fp2,D,I2,ab,_,g,af⟩:=Z10 I Q
 have A:=Z0w I s (by rw [hs];intro v ags hh;cases hh)
 rw [hs] at A
 obtain ⟨_,A⟩:=A
 have hpl:∃ cs base,Z0C σ G a w p cs base/\Z02 (a.eval s)=cs/\Z0f false (a.eval s):=by
  rcases A with h1 | h1
  ·have q:σ2.ct p=some c.τ:=by rw [State.ct,hc];rfl
   rw [Z2z Q p,h1] at q
   cases q
  ·exact h1
 obtain ⟨cs,base,y,hcs,hsh⟩:=hpl
 obtain ⟨lc,bs,b,off,fpc,fpo,T,G1,H,I3,hs3⟩:=Z6B I2 hc hu hcO hwh hfl (y.sim (Z2z Q p) ab.ad)
 obtain ⟨fs,I4,_⟩:=I3.kill
 have f:Sim D { G1 with fs:=fs }:=hs3.trans (Sim.fs _ fs)
 generalize ({ G1 with fs:=fs }:Ghost)=Gk at I4 f
 have I5:Inv W0 M (σ2.hold p).kill a w Gk (fp2++(T++fpo)):=I4.perm (by
  refine List.perm_iff_count.2 λz=> ?_
  simp only [List.count_append,List.count_nil]
  omega)
 have E:=H.lens.part
 have htO:=H.lens.tags
 have ah:an=[.O]:=by
  have q:=E.len.2
  match an,q with
  | [t],_=>rw [htO t (by simp)]
 subst ah
 rw [<-hcs] at E
 have E:Rp w D.F D.St D.Al (.slice e) [.O] (Z02 (a.eval s)) l T:=E
 obtain ⟨ad,cap,aj,_⟩:=Z2A hsh E
 have g:Rp w D.F D.St D.Al (.slice e) [t'] (Z02 (a.eval x)) m fp2:=g
 obtain ⟨ad',cap',ak,_⟩:=Z2A (show Z0f false (a.eval x) from af) g
 rw [aj,Z0r rfl] at E
 rw [ak,Z0r rfl] at g
 obtain ⟨et,le,hu',hea,_⟩:=Z12 hT hsT ac
 obtain ⟨et2,le2,hux,_,_⟩:=Z12 hT hxT am
 have htN:t'.isN=false:=by
  rcases B with h | h
  ·cases t'<;>first | rfl | cases h
  ·exact h.2
 obtain ⟨v,w',G5,fpv,aa,I6,ag,U,⟨Gc,K⟩,had,hk5,V⟩:=Z6W (ty:=o.type) hT hu' hux hea I5 (Z2s _) htN (by rw [f.F,f.St,f.Al];exact E) (by rw [f.F,f.St,f.Al];exact g) Y (B.imp id λh=>h.1)
 have n:one v=true:=ag
 rw [Z0r n] at U
 obtain ⟨G7,I7,X,Z,L⟩:=Z6A (v:=⟨.slice e,false,l++m,[.O]⟩) (v1:=v) H I6 (Z2s _) (had.trans f.ad) (λz hz=>by
   obtain ⟨k1,k2,k3⟩:=hk5 z hz
   exact ⟨by rw [k1,f.F],k2,λh=>k3 (by rw [f.Al];exact h)⟩) (λhb=>by
   obtain ⟨_,_,al,_,_⟩:=H.box hb
   obtain ⟨k1,k2⟩:=V _ _ ((f.bx _ _).2 al)
   refine ⟨k1,k2,?_,?_,λj=> ?_⟩
   ·rw [Z2S,Z3i hb];rfl
   ·simp [State.kill,Z0a,(Z4u σ2 p).2]
   ·rw [Z1v]
    rcases TV.kill_or ((σ2.hold p).slot j) with h | h
    ·rw [h]
     rcases Z4J σ2 p j with q | q
     ·rw [hb] at q;exact .inl q
     ·exact .inr q
    ·exact .inr h) (by simp [State.kill,Z0a,(Z4u σ2 p).1]) rfl rfl (by simp) n U ae
 obtain ⟨G8,H8⟩:=Z5w I2 H I7 X rfl Z L n hnd (by
  have:=I2.len
  have q:=I.len
  omega) hdr h1i
 refine ⟨_,v,w',_,G8,Gc,b,off,?_,h,H8,(ab.trans f).calmer.trans K⟩
 rw [Z03 hop]
 simp only [execOp,resolve,W,J,hty,Sem.run_bind,Sem.run_pure,Result.andThen_ok,invoke,builtin]
 simp only [List.map_toArray,List.map_cons,List.map_nil,aj,ak]
 rw [aa]
 rfl
theorem Z8y {g:FuncId} {T:Sig R} (hs:Z1d P g T) (I:Inv W0 M σ a w G []) {d:Nat} {p:Place} {c0:Call} {f s:Operand} {os:List Operand} {ms:List Mode} {τ:Ty} {k:State->Option R} (hop:o.op= .call c0) (B:c0.callee= .value f) (n:σ.peek f= .clos g []) (hsig:Z0o Γ.fns g=some T)
  (hm:T.modes= .eat τ false::ms) (hargs:c0.args.toList=s::os)
  (hsp:σ.peek s= .ref p false) (hnd:W0.np<=d) (hdl:d<σ.slots.length) (hdr:p.box=true\/d≠p.root) (h1i:Z2J p.path=true) (hfl:Z07 p.path=true->p.box=true) (hsl:∃ e,τ= .slice e)
  (h:Z83 T τ ms p os σ (λσ'=>k (σ'.puto (some d) .dead))=some r) {K:Act->World->Prop} {Q:Exit->Act->World->Prop}
  (hK:∀ σ' v w' w2 G' G1 b off v1,k σ'=some r->HoleSt W0 M σ' (a.put (some d) v) w' d p w2 G' b off v1->Z16 Γ o.op w G w' G1->K (a.put o.dst v) w'):o.wp P a w K Q:=by
 obtain ⟨fn,cd,hf1,hf2,hf3⟩:=hs.1
 have hpe:=Z0w I f (by rw [n];intro v ags hh;cases hh)
 rw [n] at hpe
 obtain ⟨_,us,hev,husz,_⟩:=hpe
 have hrunc:=Z5I (P:=P) (a:=a) (w:=w) hop B hev hf1 hf2 hf3
 have hus0:us= #[]:=Array.eq_empty_of_size_eq_zero (by rw [husz];rfl)
 have W:(c0.args.map a.eval++us)=((s::os).map a.eval).toArray:=by
  apply Array.ext'
  rw [hus0]
  simp [hargs]
 have hnt:Z1P Γ o.op=false:=by
  rw [hop]
  simp only [Z1P,B]
  cases f with
  | func fg=>
   simp only [State.peek,TV.clos.injEq] at n
   obtain ⟨rfl,_⟩:=n
   simp only [hsig,hm]
   simp [Mode.isBorrow,Mode.isSee]
  | _=>rfl
 have hhalf:Z1K Γ o.op=true->ms.all Mode.noLend=true:=by
  intro ht
  rw [hop] at ht
  simp only [Z1K,B] at ht
  cases f with
  | func fg=>
   simp only [State.peek,TV.clos.injEq] at n
   obtain ⟨rfl,_⟩:=n
   simp only [hsig,hm,List.all_cons,Mode.noLend,Bool.true_and,Mode.isSee,Bool.false_and,Bool.or_false] at ht
   exact ht
  | _=>cases ht
 unfold Z83 at h
 have hx:∀ kk:Args->State->Option R,Z0n ms os σ ⟨[],[],true⟩ kk=some r->Z0n ms os σ ⟨[],[],true⟩ (λA l=>if Z1K Γ o.op=true->A.lent=[] then kk A l else none)=some r:=by
  intro kk h
  by_cases ht:Z1K Γ o.op=true
  ·have:=Z29 _ _ _ _ _ (hhalf ht) h
   simpa [ht] using this
  ·simpa [ht] using h
 have h:=hx _ h
 obtain ⟨vs,fps,ls,A,l,G1,m,y,h3,_,I1,hup,hct,hlen,hAr,hpt⟩:=Z1G _ _ _ _ _ _ _ h I
 split at m
 rotate_left
 ·cases m
 rename_i hhw
 split at m
 rotate_left
 ·cases m
 rename_i c u hc hu
 split at m
 rotate_left
 ·cases m
 rename_i C
 simp only [Bool.and_eq_true,decide_eq_true_eq] at C
 obtain ⟨⟨⟨⟨⟨hτ,hcO⟩,huO⟩,hwh⟩,hndl⟩,hvN⟩:=C
 have y:A.vals=vs:=by simpa using y
 have h3:A.lent=ls.map (·.1):=by simpa using h3
 rw [h3,y] at m
 rw [h3] at hndl hhw
 rw [y] at hvN
 split at m
 rotate_left
 ·cases m
 rename_i ext hext
 split at m
 rotate_left
 ·cases m
 rename_i hexn
 have Y:=Z0w I s (by rw [hsp];intro v ags hh;cases hh)
 rw [hsp] at Y
 obtain ⟨_,Y⟩:=Y
 have hpl:∃ cs base,Z0C σ G a w p cs base/\Z02 (a.eval s)=cs/\Z0f false (a.eval s):=by
  rcases Y with m | m
  ·have y:l.ct p=some c.τ:=by rw [State.ct,hc];rfl
   rw [hct p,m] at y
   cases y
  ·exact m
 obtain ⟨cs,base,X,hcs,hsh⟩:=hpl
 obtain ⟨lc,bs,b,off,fpc,fpo,U,G2,H,I2,hs2⟩:=Z6B I1 hc hu hcO hwh hfl (X.sim (hct p) hup.ad)
 obtain ⟨fb,I3⟩:=I2.renil
 have i:Sim G1 { G2 with fb:=fb }:=hs2.trans (Sim.fb G2 fb)
 generalize ({ G2 with fb:=fb }:Ghost)=Gk at I3 i
 have I4:Inv W0 M (l.hold p).renil a w Gk ((U::fps).flatten++fpo):=I3.perm (by
  refine List.perm_iff_count.2 λz=> ?_
  simp only [List.count_append,List.count_nil,List.flatten_cons]
  omega)
 obtain ⟨e,rfl⟩:=hsl
 have hL:Rp w G1.F G1.St G1.Al u.τ u.tg (Z02 (a.eval s)) u.x U:=by rw [hcs];exact H.lens.part
 have hA:Z0s w Gk T.modes (a.eval s::os.map a.eval) ({ u with ag:=false }::vs) (U::fps) ls:=by
  rw [hm]
  refine ⟨hsh,?_,Z0s.up i.up _ _ _ _ _ hAr⟩
  show Rp w Gk.F Gk.St Gk.Al u.τ u.tg (Z02 (a.eval s)) u.x U
  rw [i.F,i.St,i.Al]
  exact hL
 have E:∀ q∈ls,∃ v,l.boxAt q.1=some v/\(p.box=true->q.1≠p.root):=λq hq=>by
  obtain ⟨v,hv⟩:=Z3D _ _ hext q.1 (List.mem_map_of_mem hq)
  exact ⟨v,Z6m hv⟩
 have hlp:Z2M Gk ls:=λq hq=>by
  obtain ⟨v,hv,_⟩:=E q hq
  have:=Z6L I1 ((hpt q hq).sim hct hup.ad) hv
  rw [this,i.ad]
 have huN:u.noN=true:=by
  rw [TVal.noN_iff]
  intro t ht
  rw [Z1x.1 huO t ht]
  rfl
 have D:∀ v∈ext,v.noN=true:=by simpa [List.all_eq_true] using hexn
 unfold Oper.wp
 rw [hrunc,W,Oper.upon_enter]
 refine (Z4S (ks:=fpo) hs I4 hA (λv hv=>by
   rcases List.mem_cons.1 hv with rfl | hv
   ·exact huN
   ·rw [List.all_eq_true] at hvN
    exact hvN v hv) hlp (Z4z _ hndl) (Z3h _ _ hext D) D m).mono λe' w'=> ?_
 rintro ⟨v,res,ext',G5,fs,rfl,hk,I5,⟨Z,rfl,L⟩,hBc,had,hkk,hbb,hexN⟩
 split at hk
 rotate_left
 ·cases hk
 rename_i v _
 split at hk
 rotate_left
 ·cases hk
 rename_i hcv
 simp only [Bool.and_eq_true,decide_eq_true_eq,beq_iff_eq] at hcv
 obtain ⟨⟨hvτ,hvag⟩,hvO⟩:=hcv
 split at hk
 rotate_left
 ·cases hk
 rename_i rr hset
 obtain ⟨x1,V,rfl,rfl,hshv,hRv⟩:∃ x1 V,Z=[x1]/\fs=[V]/\Z0f v.ag x1/\Rp w' G5.F G5.St G5.Al v.τ v.tg (Z02 x1) v.x V:=by
  cases Z with
  | nil=>exact L.elim
  | cons x1 Z=>
   cases fs with
   | nil=>exact L.elim
   | cons f1 fs=>
    obtain ⟨⟨q1,q2⟩,q3⟩:=L
    cases Z with
    | cons=>cases fs<;>exact q3.elim
    | nil=>
     cases fs with
     | cons=>exact q3.elim
     | nil=>exact ⟨x1,f1,rfl,rfl,q1,q2⟩
 have J:one x1=true:=by rw [hvag] at hshv;exact hshv
 rw [Z0r J] at hRv
 have I6:Inv W0 M ((l.hold p).renil.kill.putBoxes (ls.map (·.1)) ext') a w' G5 (V++fpo):=by simpa using I5
 obtain ⟨f1,f2,f3,f4,f5⟩:=Z4h (ls.map (·.1)) ext' (l.hold p).renil.kill
 have hu1:size u.τ=1:=by rw [hτ];rfl
 have hb0:(l.hold p).renil.kill.boxes.length=l.boxes.length:=by simp [State.kill,State.renil,Z0a,(Z4u l p).2]
 have hs0:(l.hold p).renil.kill.slots.length=l.slots.length:=by simp [State.kill,State.renil,Z0a,(Z4u l p).1]
 obtain ⟨G7,I7,hcon,hloc,hcell⟩:=Z6A (v:=v) (v1:=x1) H I6 (f5 (Z2s _) hexN) (had.trans i.ad) (λz hz=>by
   obtain ⟨k1,k2,k3⟩:=hkk z hz
   exact ⟨by rw [k1,i.F],k2,λh=>k3 (by rw [i.Al];exact h)⟩) (λhb=>by
   obtain ⟨_,_,hwho,_,_⟩:=H.box hb
   have hni:p.root ∉ ls.map (·.1):=λhmem=>by
    obtain ⟨q,hq,hqe⟩:=List.mem_map.1 hmem
    obtain ⟨_,_,hne⟩:=E q hq
    exact hne hb hqe
   obtain ⟨k1,k2⟩:=hbb _ _ ((i.bx _ _).2 hwho) hni
   refine ⟨k1,k2,?_,by rw [f2,hb0],λj=> ?_⟩
   ·rw [f1 _ hni,Z2S,Z3d,Z3i hb];rfl
   ·rcases f4 j with h | h
    ·rw [h,Z1v]
     have hr:(l.hold p).renil.slot j=(l.hold p).slot j:=rfl
     rw [hr]
     rcases TV.kill_or ((l.hold p).slot j) with h | h
     ·rw [h]
      rcases Z4J l p j with y | y
      ·rw [hb] at y;exact .inl y
      ·exact .inr y
     ·exact .inr h
    ·exact .inr h) (by rw [f3,hs0]) hu1 (hvτ.trans hτ.symm) (Z1x.1 hvO) J hRv hset
 obtain ⟨G8,H8⟩:=Z5w I1 H I7 hcon rfl hloc hcell J hnd (by omega) hdr h1i
 refine hK _ _ w' _ G8 G5 b off x1 hk H8 ⟨λht=>(by rw [hnt] at ht;cases ht),λht=> ?_⟩
 have hl0:ls=[]:=List.map_eq_nil_iff.1 (hhw ht)
 exact λw2 hc2=>(hup.trans i.up).calmer.b w2 (hBc hl0 w2 hc2)
theorem Z94 (hT:Z0e P Γ.tys) (hS:∀ g m,Z0o Γ.fns g=some m->Z1d P g m):Z7Q P Γ:=by
 intro W0 M σ a w G o d p c s l k r K Q I T L B Y q i E C z D h X
 have J:W0.np<=d:=Nat.le_trans T L
 unfold Z8i at h
 rw [q] at h
 simp only at h
 split at h
 ·rename_i j
  split at h
  ·rename_i W x sT xT A V
   have y:W=s:=by rw [A] at i;simpa using (List.cons.inj i).1
   subst y
   obtain ⟨σ',v,w',w2,G',Z,b,off,F,hk,H,hC⟩:=Z7C hT I q j (Array.toList_inj.1 (by simpa using A)) (Array.toList_inj.1 (by simpa using V)) E J B C z D h
   unfold Oper.wp
   rw [F,Oper.upon_value]
   exact X σ' v w' w2 G' Z b off v hk H hC.all
  ·cases h
 ·rename_i f j
  split at h
  ·rename_i g U
   split at h
   ·rename_i m n
    split at h
    ·rename_i e ms W os hm A
     have y:W=s:=by rw [A] at i;simpa using (List.cons.inj i).1
     subst y
     exact Z8y (hS g m n) I q j U n hm A E J B C z D ⟨e,rfl⟩ h X
    ·cases h
   ·cases h
  ·cases h
 ·cases h
theorem Z90 (f:Z0e P Γ.tys) (d:∀ g b,Z0o Γ.fns g=some b->Z1d P g b):CallsOk P Γ:=⟨Z8z d,Z94 f d⟩
end
end Go.PI
namespace Go.PI
noncomputable section
def Z2N (σ' σ:State):Prop:=σ'.slots.length=σ.slots.length/\(∀ i,σ'.slot i=σ.slot i\/σ'.slot i= .dead)/\∀ i,σ'.boxAt i=σ.boxAt i\/σ'.boxAt i=none
theorem Z2N.refl (σ:State):Z2N σ σ:=⟨rfl,λ_=> .inl rfl,λ_=> .inl rfl⟩
theorem Z3Q (σ:State) (ks b:List Nat):Z2N (σ.forget ks b) σ:=
 ⟨Z3j _ _ _,λi=>Z2Q ks σ.slots 0 i,λi=>Z2P b σ.boxes 0 i⟩
def Z9s (n:List Nat×List Nat) (x:List (Nat×List Nat×List Nat)) (r:List Nat×List Nat):Ex->State->State
 | .normal,σ=>σ.forget n.1 n.2
 | .exit j,σ=>match Z0o x j with
  | some q=>σ.forget q.1 q.2
  | none=>σ
 | .ret,σ=>σ.forget r.1 r.2
theorem Za0 (n:List Nat×List Nat) (x:List (Nat×List Nat×List Nat)) (r:List Nat×List Nat) (e:Ex) (σ:State):Z2N (Z9s n x r e σ) σ:=by
 cases e with
 | normal=>exact Z3Q _ _ _
 | ret=>exact Z3Q _ _ _
 | exit j=>
  unfold Z9s
  simp only []
  split
  ·exact Z3Q _ _ _
  ·exact Z2N.refl _
def Z2m:Nat->Nat->List (Nat×TV)->List TV
 | 0,_,_=>[]
 | n+1,i,[]=> .dead::Z2m n (i+1) []
 | n+1,i,(j,v)::l=>bif i==j then v::Z2m n (i+1) l else .dead::Z2m n (i+1) ((j,v)::l)
def Z3N:Nat->Nat->List (Nat×TVal)->List (Option TVal)
 | 0,_,_=>[]
 | n+1,i,[]=>none::Z3N n (i+1) []
 | n+1,i,(j,v)::l=>bif i==j then some v::Z3N n (i+1) l else none::Z3N n (i+1) ((j,v)::l)
def mkS (n m:Nat) (d:List (Nat×TV)) (b:List (Nat×TVal)):State:=⟨Z2m n 0 d,Z3N m 0 b⟩
theorem Z4W:(n i:Nat)->(l:List (Nat×TV))->(Z2m n i l).length=n
 | 0,_,_=>by simp [Z2m]
 | n+1,i,[]=>by simp [Z2m,Z4W n]
 | n+1,i,(j,v)::l=>by
  unfold Z2m
  cases i==j<;>simp [Z4W n]
theorem Z3P:(n i:Nat)->(l:List (Nat×TV))->(q:Nat)->Z0v .dead (Z2m n i l) q= .dead\/(i+q,Z0v .dead (Z2m n i l) q)∈l
 | 0,_,_,_=> .inl rfl
 | n+1,i,[],0=> .inl rfl
 | n+1,i,[],q+1=>by
  have:=Z3P n (i+1) [] q
  rcases this with h | h
  ·exact .inl h
  ·cases h
 | n+1,i,(j,v)::l,0=>by
  unfold Z2m
  cases h:i==j with
  | true=>right;simp at h;subst h;simp [Z0y,Z0t,Z0q]
  | false=>left;rfl
 | n+1,i,(j,v)::l,q+1=>by
  unfold Z2m
  cases h:i==j with
  | true=>
   rcases Z3P n (i+1) l q with b | b
   ·exact .inl b
   ·right
    rw [show i+(q+1)=i+1+q by omega]
    exact List.mem_cons_of_mem _ b
  | false=>
   rcases Z3P n (i+1) ((j,v)::l) q with b | b
   ·exact .inl b
   ·right
    rw [show i+(q+1)=i+1+q by omega]
    exact b
theorem Z3O:(n i:Nat)->(l:List (Nat×TVal))->(q:Nat)->Z0v none (Z3N n i l) q=none\/∃ v,Z0v none (Z3N n i l) q=some v/\(i+q,v)∈l
 | 0,_,_,_=> .inl rfl
 | n+1,i,[],0=> .inl rfl
 | n+1,i,[],q+1=>by
  rcases Z3O n (i+1) [] q with h | ⟨v,_,h⟩
  ·exact .inl h
  ·cases h
 | n+1,i,(j,v)::l,0=>by
  unfold Z3N
  cases h:i==j with
  | true=>right;simp at h;subst h;exact ⟨v,by simp [Z0y,Z0t,Z0q]⟩
  | false=>left;rfl
 | n+1,i,(j,v)::l,q+1=>by
  unfold Z3N
  cases h:i==j with
  | true=>
   rcases Z3O n (i+1) l q with b | ⟨u,d,b⟩
   ·exact .inl b
   ·right
    refine ⟨u,d,?_⟩
    rw [show i+(q+1)=i+1+q by omega]
    exact List.mem_cons_of_mem _ b
  | false=>
   rcases Z3O n (i+1) ((j,v)::l) q with b | ⟨u,d,b⟩
   ·exact .inl b
   ·right
    refine ⟨u,d,?_⟩
    rw [show i+(q+1)=i+1+q by omega]
    exact b
def Z49 (σ:State):List (Nat×TV)->Prop
 | []=>True
 | (i,v)::l=>σ.slot i=v/\Z49 σ l
def Z47 (σ:State):List (Nat×TVal)->Prop
 | []=>True
 | (i,v)::l=>σ.boxAt i=some v/\Z47 σ l
theorem Z49.mem {σ:State}:{l:List (Nat×TV)}->Z49 σ l->{i:Nat}->{v:TV}->(i,v)∈l->σ.slot i=v
 | (j,u)::l,h,i,v,b=>by
  rcases List.mem_cons.1 b with b | b
  ·cases b;exact h.1
  ·exact Z49.mem h.2 b
theorem Z47.mem {σ:State}:{l:List (Nat×TVal)}->Z47 σ l->{i:Nat}->{v:TVal}->(i,v)∈l->σ.boxAt i=some v
 | (j,u)::l,h,i,v,b=>by
  rcases List.mem_cons.1 b with b | b
  ·cases b;exact h.1
  ·exact Z47.mem h.2 b
theorem Zaj {σ:State} {n m:Nat} {d:List (Nat×TV)} {b:List (Nat×TVal)} (j:σ.slots.length=n) (k:Z49 σ d) (g:Z47 σ b):Z2N (mkS n m d b) σ:=by
 refine ⟨(Z4W _ _ _).trans j.symm,λi=> ?_,λi=> ?_⟩
 ·rcases Z3P n 0 d i with h | h
  ·exact .inr h
  ·rw [Nat.zero_add] at h
   exact .inl (k.mem h).symm
 ·rcases Z3O m 0 b i with h | ⟨v,f,h⟩
  ·exact .inr h
  ·rw [Nat.zero_add] at h
   exact .inl (f.trans (g.mem h).symm)
section
variable {R:Type} {r:R}
def rdN (σ:State) (n:Nat) (f:Option R):Option R:=if σ.slots.length=n then f else none
def asV (v:TVal) (τ:Ty) (ag:Bool) (tg:List Tag) (f:El τ->Option R):Option R:=
 if v.ag=ag/\v.tg=tg then (if h:v.τ=τ then f (h ▸ v.x) else none) else none
def rdV (σ:State) (i:Nat) (τ:Ty) (ag:Bool) (tg:List Tag) (f:El τ->Option R):Option R:=
 match σ.slot i with
 | .val v=>asV v τ ag tg f
 | _=>none
def rdU (σ:State) (i:Nat) (τ:Ty) (ag:Bool) (tg:List Tag) (ags:List Bool) (f:El τ->Option R):Option R:=
 match σ.slot i with
 | .tup v l=>if l=ags then asV v τ ag tg f else none
 | _=>none
def rdE (σ:State) (i:Nat) (τ:Ty) (ag:Bool) (tg:List Tag) (t:Tag) (f:El τ->Option R):Option R:=
 match σ.slot i with
 | .eptr v s=>if s=t then asV v τ ag tg f else none
 | _=>none
def rdC (σ:State) (i:Nat) (f:FuncId) (d:List Ty) (τ:Ty) (tg:List Tag) (k:El τ->Option R):Option R:=
 match σ.slot i with
 | .sclos g b v=>if g=f/\b=d then asV v τ false tg k else none
 | _=>none
def Z5D (v:TVal) (τ:Ty) (tg:List Tag) (f:Bool->El τ->Option R):Option R:=
 if v.tg=tg then (if h:v.τ=τ then f v.ag (h ▸ v.x) else none) else none
def Z7Z (v:TVal) (τ:Ty) (f:El τ->Option R):Option R:=if h:v.τ=τ then f (h ▸ v.x) else none
def rdB (σ:State) (i:Nat) (τ:Ty) (tg:List Tag) (f:Bool->El τ->Option R):Option R:=
 match σ.boxAt i with
 | some v=>Z5D v τ tg f
 | none=>none
def TV.same:TV->TV->Bool
 | .nil,.nil=>true
 | .ref p a,.ref q b=>decide (p=q/\a=b)
 | .ptr p,.ptr q=>decide (p=q)
 | .eref p,.eref q=>decide (p=q)
 | .clos f d,.clos g h=>decide (f=g/\d=h)
 | _,_=>false
def rdT (σ:State) (i:Nat) (p:TV) (f:Option R):Option R:=bif (σ.slot i).same p then f else none
theorem Z9M {σ:State} {n:Nat} {f:Option R} (h:rdN σ n f=some r):σ.slots.length=n/\f=some r:=by
 unfold rdN at h
 split at h
 ·rename_i b;exact ⟨b,h⟩
 ·cases h
theorem Z4p {v:TVal} {τ:Ty} {ag:Bool} {tg:List Tag} {f:El τ->Option R} (h:asV v τ ag tg f=some r):∃ x,v=⟨τ,ag,x,tg⟩/\f x=some r:=by
 unfold asV at h
 split at h
 ·rename_i j
  split at h
  ·rename_i g
   obtain ⟨l,i,x,k⟩:=v
   obtain ⟨b,d⟩:=j
   simp only at g b d
   subst g;subst b;subst d
   exact ⟨x,rfl,h⟩
  ·cases h
 ·cases h
theorem Z9P {σ:State} {i:Nat} {τ:Ty} {ag:Bool} {tg:List Tag} {f:El τ->Option R} (h:rdV σ i τ ag tg f=some r):∃ x,σ.slot i= .val ⟨τ,ag,x,tg⟩/\f x=some r:=by
 unfold rdV at h
 split at h
 ·rename_i v d
  obtain ⟨x,rfl,b⟩:=Z4p h
  exact ⟨x,d,b⟩
 ·cases h
theorem Z9O {σ:State} {i:Nat} {τ:Ty} {ag:Bool} {tg:List Tag} {ags:List Bool} {f:El τ->Option R} (h:rdU σ i τ ag tg ags f=some r):∃ x,σ.slot i= .tup ⟨τ,ag,x,tg⟩ ags/\f x=some r:=by
 unfold rdU at h
 split at h
 ·rename_i v l g
  split at h
  ·rename_i d
   subst d
   obtain ⟨x,rfl,b⟩:=Z4p h
   exact ⟨x,g,b⟩
  ·cases h
 ·cases h
theorem Z9L {σ:State} {i:Nat} {τ:Ty} {ag:Bool} {tg:List Tag} {t:Tag} {f:El τ->Option R} (h:rdE σ i τ ag tg t f=some r):∃ x,σ.slot i= .eptr ⟨τ,ag,x,tg⟩ t/\f x=some r:=by
 unfold rdE at h
 split at h
 ·rename_i v l g
  split at h
  ·rename_i d
   subst d
   obtain ⟨x,rfl,b⟩:=Z4p h
   exact ⟨x,g,b⟩
  ·cases h
 ·cases h
theorem Z9K {σ:State} {i:Nat} {f:FuncId} {b:List Ty} {τ:Ty} {tg:List Tag} {k:El τ->Option R} (h:rdC σ i f b τ tg k=some r):∃ x,σ.slot i= .sclos f b ⟨τ,false,x,tg⟩/\k x=some r:=by
 unfold rdC at h
 split at h
 ·rename_i g m v l
  split at h
  ·rename_i j
   obtain ⟨rfl,rfl⟩:=j
   obtain ⟨x,rfl,d⟩:=Z4p h
   exact ⟨x,l,d⟩
  ·cases h
 ·cases h
theorem Z4Q {v:TVal} {τ:Ty} {tg:List Tag} {f:Bool->El τ->Option R} (h:Z5D v τ tg f=some r):∃ a x,v=⟨τ,a,x,tg⟩/\f a x=some r:=by
 unfold Z5D at h
 split at h
 ·rename_i d
  split at h
  ·rename_i g
   obtain ⟨j,b,x,i⟩:=v
   simp only at g d
   subst g;subst d
   exact ⟨b,x,rfl,h⟩
  ·cases h
 ·cases h
theorem Z8v {v:TVal} {τ:Ty} {f:El τ->Option R} (h:Z7Z v τ f=some r):∃ a x t,v=⟨τ,a,x,t⟩/\f x=some r:=by
 unfold Z7Z at h
 split at h
 ·rename_i g
  obtain ⟨i,b,x,d⟩:=v
  simp only at g
  subst g
  exact ⟨b,x,d,rfl,h⟩
 ·cases h
theorem Z9J {σ:State} {i:Nat} {τ:Ty} {tg:List Tag} {f:Bool->El τ->Option R} (h:rdB σ i τ tg f=some r):∃ a x,σ.boxAt i=some ⟨τ,a,x,tg⟩/\f a x=some r:=by
 unfold rdB at h
 split at h
 ·rename_i v d
  obtain ⟨a,x,rfl,b⟩:=Z4Q h
  exact ⟨a,x,d,b⟩
 ·cases h
theorem Z9N {σ:State} {i:Nat} {p:TV} {f:Option R} (h:rdT σ i p f=some r):σ.slot i=p/\f=some r:=by
 unfold rdT at h
 rw [cond_eq_ite] at h
 split at h
 ·rename_i b
  refine ⟨?_,h⟩
  cases d:σ.slot i<;>cases p<;>rw [d] at b<;>simp only [TV.same,decide_eq_true_eq,Bool.false_eq_true] at b<;>simp [b]
 ·cases h
end
section
variable {P:Program} {R:Type} {r:R} {W0:Base} {M:Nat->Prop}
theorem Z2N.inv {σ σ':State} {a:Act} {w:World} {G:Ghost} {xs:List Nat} (h:Z2N σ' σ) (I:Inv W0 M σ a w G xs):∃ G',Inv W0 M σ' a w G' xs:=by
 obtain ⟨d,b,_⟩:=I.drop (σ':=σ') h.1 h.2.1 h.2.2
 exact ⟨_,b⟩
theorem Za6 {c:Code} {run:Z1q R} (z:Z1D P W0 M c run) {j:Ex->State->State} (g:∀ e σ,Z2N (j e σ) σ) {x:Z1q R}
  (h:∀ σ k r,x σ k=some r->∃ σ',Z2N σ' σ/\run σ' (λe b=>k e (j e b))=some r):Z1D P W0 M c x:=by
 intro σ a w G k r Q y I C B
 obtain ⟨σ',i,d⟩:=h σ k r C
 obtain ⟨G',n⟩:=i.inv I
 refine z σ' a w G' _ r Q y n d λe b q w' l A f=> ?_
 obtain ⟨m,p⟩:=(g e b).inv f
 exact B e _ q w' m A p
theorem Za3 {c:Code} {run:Z1q R} (p:Z1D P W0 M c run) {ks d:List Nat} {f:Ex->State->State} (g:∀ e σ,Z2N (f e σ) σ) (n:Nat) {x:Z1q R}
  (h:∀ σ k r,x σ k=some r->∃ σ',Z2N σ' σ/\Z4y run (λσ=>σ.forget ks d) f n σ' k=some r):Z1D P W0 M (.loop c) x:=by
 have l:Z1D P W0 M (.loop c) (Z4y run (λσ=>σ.forget ks d) f n):=Z8m p (λσ a w G I=>(Z3Q σ ks d).inv I) (λe σ a w G I=>(g e σ).inv I) n
 intro σ a w G k r Q m I y q
 obtain ⟨σ',i,b⟩:=h σ k r y
 obtain ⟨G',j⟩:=i.inv I
 exact l σ' a w G' k r Q m j b q
def Z1N {V K:Type} (step:V->(V->Option R)->K->Option R):Nat->V->K->Option R
 | 0,_,_=>none
 | n+1,v,q=>step v (λb=>Z1N step n b q) q
theorem Z9j {V K:Type} (d:V->State) (step:V->(V->Option R)->K->Option R) (mk:Z7W R->K) {b:Z1q R} {f:State->State} {g:Ex->State->State}
  (h:∀ (v:V) (rec:State->Option R) (k:Z7W R),b (d v) (λe σ'=>match e with | .normal=>rec (f σ') | e=>k e (g e σ'))=step v (λj=>rec (d j)) (mk k)) :
  (n:Nat)->(v:V)->(k:Z7W R)->Z4y b f g n (d v) k=Z1N step n v (mk k)
 | 0,v,k=>rfl
 | n+1,v,k=>by
  have i:=h v (λσ=>Z4y b f g n σ k) k
  simp only [Z9j d step mk h n] at i
  exact i
def Z1Y:Nat:=Classical.choose (⟨4611686018427387904,rfl⟩:∃ n:Nat,n=4611686018427387904)
theorem Z9g:Z1Y=4611686018427387904:=Classical.choose_spec (⟨4611686018427387904,rfl⟩:∃ n:Nat,n=4611686018427387904)
theorem Z9T [Subsingleton R] {Γ:Env R} (q:P.follows .mixedOrders=true) (j:Z0e P Γ.tys) (m:∀ g d,Z0o Γ.fns g=some d->Z1d P g d) {f:FuncId} {fn:Func} {c:Code} {X:List (Z1q R)} {ht:HT} {fz:Bool} {modes:List Mode} {ags:List Bool}
  (l : Z2p P Γ.np X ht c) (p : P.funcs[f]? = some fn) (b : (fn.name == "runtime.NumGoroutine") = false) (n : fn.body = some c) (w : modes.length ≤ fn.ntmps)
  {run:List TVal->List TVal->(List TVal->List TVal->List TVal->Option R)->Option R}
  (h:∀ vals ext k r,run vals ext k=some r->Z8d Γ X ht fz fn modes ags vals ext k=some r):Z1d P f (⟨modes,ags,run⟩:Sig R):=by
 have i:=Z8E (Γ:=Γ) (X:=X) (ht:=ht) (fz:=fz) (modes:=modes) (ags:=ags) q j (Z90 j m) l p b n w
 exact ⟨i.1,λvals ext k r y=>i.2 vals ext k r (h vals ext k r y)⟩
end
end
end Go.PI
namespace Go.PI
noncomputable section
def wkT (nil:Bool) (t t':Tag):Bool:=decide (t=t')||(nil&&(t.own|| !t'.own))
def Z14:(τ:Ty)->El τ->List Bool
 | .slice e,x=>[List.isEmpty (α:=El e) x]
 | .pair a b,x=>Z14 a x.1++Z14 b x.2
 | _,_=>[]
def Z1p:List Bool->List Tag->List Tag->Bool
 | n::d,t::f,t'::b=>wkT n t t'&&Z1p d f b
 | [],[],[]=>true
 | _,_,_=>false
def wk1 (v:TVal) (tg:List Tag):Option TVal:=
 if v.tg=tg then some v else if (v.tg.map Tag.freeze=tg) then some { v with tg:=tg } else if Z1p (Z14 v.τ v.x) v.tg tg then some { v with tg:=tg } else none
def Z5s:List (Nat×List Tag)->State->State
 | [],σ=>σ
 | (i,tg)::l,σ=>Z5s l (match σ.slot i with
  | .val v=>(match wk1 v tg with | some u=>{ σ with slots:=Z0I σ.slots i (.val u) } | none=>σ)
  | _=>σ)
def Z5r:List (Nat×List Tag)->State->State
 | [],σ=>σ
 | (i,tg)::l,σ=>Z5r l (match σ.boxAt i with
  | some v=>(match wk1 v tg with | some u=>{ σ with boxes:=Z0I σ.boxes i (some u) } | none=>σ)
  | none=>σ)
def State.wk (σ:State) (d b:List (Nat×List Tag)):State:=Z5r b (Z5s d σ)
def wkE (l:List (Nat×List (Nat×List Tag)×List (Nat×List Tag))) (e:Ex) (σ:State):State:=
 match Z0o l (match e with | .normal=>0 | .ret=>1 | .exit j=>j+2) with
 | some q=>σ.wk q.1 q.2
 | none=>σ
section
variable {w:World} {F:Nat->Nat} {St Al:Nat->Prop}
theorem Z5h:{d f:List Bool}->{g i tg:List Tag}->d.length=g.length->Z1p (d++f) (g++i) tg=true->∃ j k,tg=j++k/\Z1p d g j=true/\Z1p f i k=true
 | [],f,[],i,tg,_,h=>⟨[],tg,rfl,rfl,h⟩
 | n::d,f,t::g,i,[],b,h=>by simp [Z1p] at h
 | n::d,f,t::g,i,u::tg,b,h=>by
  simp only [List.cons_append,Z1p,Bool.and_eq_true] at h
  obtain ⟨j,k,rfl,l,m⟩:=Z5h (by simpa using b) h.2
  exact ⟨u::j,k,rfl,by simp only [Z1p,Bool.and_eq_true];exact ⟨h.1,l⟩,m⟩
 | [],_,_::_,_,_,b,_=>by simp at b
 | _::_,_,[],_,_,b,_=>by simp at b
theorem Z42:(τ:Ty)->(x:El τ)->(Z14 τ x).length=Z05 τ
 | .int _,_=>rfl
 | .bool,_=>rfl
 | .str,_=>rfl
 | .unit,_=>rfl
 | .slice _,_=>rfl
 | .pair a b,x=>by simp [Z14,Z05,Z42 a,Z42 b]
theorem Z7e:{τ:Ty}->{tg d:List Tag}->{cs:List Value}->{x:El τ}->{fp:List Nat}->Rp w F St Al τ tg cs x fp->Z1p (Z14 τ x) tg d=true->∃ f' I,fp.Perm (f'++I)/\Rp w F St Al τ d cs x f'
 | .int _,tg,d,cs,x,fp,h,f=>by
  obtain ⟨rfl,rfl,rfl⟩:=h
  cases d with
  | nil=>exact ⟨[],[],by simp,rfl,rfl,rfl⟩
  | cons=>simp [Z14,Z1p] at f
 | .bool,tg,d,cs,x,fp,h,f=>by
  obtain ⟨rfl,rfl,rfl⟩:=h
  cases d with
  | nil=>exact ⟨[],[],by simp,rfl,rfl,rfl⟩
  | cons=>simp [Z14,Z1p] at f
 | .str,tg,d,cs,x,fp,h,f=>by
  obtain ⟨rfl,rfl,rfl⟩:=h
  cases d with
  | nil=>exact ⟨[],[],by simp,rfl,rfl,rfl⟩
  | cons=>simp [Z14,Z1p] at f
 | .unit,tg,d,cs,x,fp,h,f=>by
  obtain ⟨rfl,rfl,rfl⟩:=h
  cases d with
  | nil=>exact ⟨[],[],by simp,rfl,rfl,rfl⟩
  | cons=>simp [Z14,Z1p] at f
 | .pair a b,tg,d,cs,x,fp,h,f=>by
  obtain ⟨t1,t2,c1,c2,Z,f2,rfl,rfl,rfl,l,p⟩:=h
  obtain ⟨u1,u2,rfl,T,U⟩:=Z5h (by rw [Z42,l.len.2]) f
  obtain ⟨m,C,V,X⟩:=Z7e l T
  obtain ⟨n,D,W,Y⟩:=Z7e p U
  refine ⟨m++n,C++D,?_,Rp.pair_mk X Y⟩
  refine List.perm_iff_count.2 λz=> ?_
  have E:=(List.perm_iff_count.1 V) z
  have H:=(List.perm_iff_count.1 W) z
  simp only [List.count_append] at E H ⊢
  omega
 | .slice e,tg,d,cs,x,fp,h,f=>by
  obtain ⟨t,a,cap,rfl,rfl,g,h⟩:=h
  obtain ⟨t',rfl⟩:∃ t',d=[t']:=by
   match d,f with
   | [t'],_=>exact ⟨t',rfl⟩
   | [],f=>simp [Z14,Z1p] at f
   | _::_::_,f=>simp [Z14,Z1p] at f
  simp only [Z14,Z1p,wkT,Bool.and_true,Bool.or_eq_true,decide_eq_true_eq,Bool.and_eq_true,Bool.not_eq_true'] at f
  rcases f with rfl | ⟨A,ht⟩
  ·exact ⟨fp,[],by simp,t,a,cap,rfl,rfl,g,h⟩
  ·have A:x=[]:=List.isEmpty_iff.1 A
   subst A
   cases i:t'.own with
   | false=>
    refine ⟨[],fp,by simp,t',a,cap,rfl,rfl,g,.inr (.inr ⟨i,rfl,.inl rfl⟩)⟩
   | true=>
    rw [i] at ht
    have ht:t.own=true:=by rcases ht with h | h;exact h;cases h
    rcases h with ⟨_,l,p,J,rfl⟩ | ⟨_,b,o,fps,rfl,q,rfl,y,j,K,L⟩ | ⟨B,_⟩
    ·exact ⟨[],[],by simp,t',a,cap,rfl,rfl,g,.inl ⟨i,l,p,J,rfl⟩⟩
    ·exact ⟨b::fps.flatten,[],by simp,t',_,cap,rfl,rfl,g,.inr (.inl ⟨i,b,o,fps,rfl,q,rfl,y,j,K,λk Q=>by simp at Q⟩)⟩
    ·rw [ht] at B;cases B
end
section
variable {W0:Base} {M:Nat->Prop} {σ:State} {a:Act} {w:World} {G:Ghost} {xs:List Nat} {P:Program} {R:Type} {r:R}
theorem Z7m (I:Inv W0 M σ a w G xs) {p:Place} {c:TVal} {tg:List Tag} (f:σ.content p=some c) (h:c.tg.map Tag.freeze=tg\/Z1p (Z14 c.τ c.x) c.tg tg=true) :
  ∃ G',Inv W0 M (σ.setContent p { c with tg:=tg }) a w G' xs:=by
 obtain ⟨l,b,fp,j,J,hw⟩:=Z0H I f
 have A:G.fpOf p=fp:=by
  rcases hw with ⟨g,_,rfl,_⟩ | ⟨g,_,rfl,_⟩<;>simp [Ghost.fpOf,g]
 rcases h with rfl | h
 ·obtain ⟨V,D,m⟩:=I.recontent (p:=p) (c':=c.alias) f rfl rfl (l:=l) (b:=b) (f':=[]) (fi:=fp) j (J.alias (Ghost.St_Al I)) (by simp [A])
  obtain ⟨y,W,gF,E,gA,gb,gS,hl⟩:=D.freeze
  have i:(σ.setContent p c.alias).content p=some c.alias:=by
   obtain ⟨z,d,path⟩:=p
   cases z with
   | true=>
    show Z0v none (Z0I σ.boxes d (some c.alias)) d=_
    rw [Z0T,if_pos ⟨rfl,Z1y (show σ.boxAt d=some c from f)⟩]
   | false=>
    simp only [State.content]
    have n:d<σ.slots.length:=Z0V (by
     intro H
     simp only [State.content,H] at f
     cases f)
    rw [Z0O f,if_pos ⟨rfl,n⟩]
    simp only [State.content] at f
    cases k:σ.slot d<;>rw [k] at f<;>first | (cases f;done) | rfl
  have C:Z08 y a w p=some (l,b):=by
   obtain ⟨z,d,path⟩:=p
   cases z with
   | true=>simp only [Z08] at j ⊢;rw [E,m.ad];exact j
   | false=>exact j
  have Q:Rp w y.F y.St y.Al c.τ (c.tg.map Tag.freeze) l c.x []:=by
   rw [gF,gA,m.F,m.Al]
   exact J.freeze (λb g=>(gS b).2 (.inl (by rw [m.St];exact g))) (Ghost.St_Al I) λb g=>(gS b).2 (.inr g)
  have B:y.fpOf p=[]:=by
   obtain ⟨l2,b2,fp2,_,L,U⟩:=Z0H W i
   have:fp2=[]:=L.fp_nil (by
    intro s hs
    obtain ⟨s',_,rfl⟩:=List.mem_map.1 hs
    cases s'<;>rfl)
   rcases U with ⟨g,_,rfl,_⟩ | ⟨g,_,rfl,_⟩<;>simp [Ghost.fpOf,g,this]
  obtain ⟨Y,X,hs3⟩:=W.recontent (p:=p) (c':={ c with tg:=c.tg.map Tag.freeze }) i rfl rfl (l:=l) (b:=b) (f':=[]) (fi:=[]) C Q (by simp [B])
  have T:(σ.setContent p c.alias).setContent p { c with tg:=c.tg.map Tag.freeze }=σ.setContent p { c with tg:=c.tg.map Tag.freeze }:=by
   obtain ⟨z,d,path⟩:=p
   cases z with
   | true=>simp only [State.setContent,Z1w]
   | false=>
    have n:d<σ.slots.length:=Z0V (by
     intro H
     simp only [State.content,H] at f
     cases f)
    have q:=Z0O (c':=c.alias) f d
    rw [if_pos ⟨rfl,n⟩] at q
    simp only [State.content] at f
    cases k:σ.slot d<;>rw [k] at f q<;>first | (cases f;done) | skip
    ·simp only [State.setContent,k] at q ⊢
     rw [q]
     simp only [Z1w]
    ·simp only [State.setContent,k] at q ⊢
     rw [q]
     simp only [Z1w]
  rw [T] at X
  exact ⟨Y,by simpa using X⟩
 ·obtain ⟨f',Z,hp,K⟩:=Z7e J h
  obtain ⟨V,D,_⟩:=I.recontent (p:=p) (c':={ c with tg:=tg }) f rfl rfl (l:=l) (b:=b) (f':=f') (fi:=Z) j K (by rw [A];exact hp)
  exact ⟨V,D.sub (λb g=>List.mem_append_right _ g) (List.nodup_append.1 D.nodX).2.1⟩
theorem Z7z {v u:TVal} {tg:List Tag} (h:wk1 v tg=some u):u=v\/(u={ v with tg:=tg }/\(v.tg.map Tag.freeze=tg\/Z1p (Z14 v.τ v.x) v.tg tg=true)):=by
 unfold wk1 at h
 split at h
 ·cases h;exact .inl rfl
 ·split at h
  ·rename_i b
   cases h;exact .inr ⟨rfl,.inl b⟩
  ·split at h
   ·rename_i b
    cases h;exact .inr ⟨rfl,.inr b⟩
   ·cases h
theorem Z2l:(l:List (Nat×List Tag))->(σ:State)->(G:Ghost)->Inv W0 M σ a w G xs->∃ G',Inv W0 M (Z5s l σ) a w G' xs
 | [],σ,G,I=>⟨G,I⟩
 | (i,tg)::l,σ,G,I=>by
  simp only [Z5s]
  split
  ·rename_i v b
   split
   ·rename_i u m
    rcases Z7z m with rfl | ⟨rfl,h⟩
    ·have:({ σ with slots:=Z0I σ.slots i (.val u) }:State)=σ:=by
      have k:Z0I σ.slots i (.val u)=σ.slots:=by
       rw [<-b]
       exact Z5b σ.slots i (Z0V (by rw [b];simp))
      rw [k]
     rw [this]
     exact Z2l l σ G I
    ·have g:σ.content ⟨false,i,[]⟩=some v:=by simp [State.content,b]
     obtain ⟨f,d⟩:=Z7m I g h
     have j:σ.setContent ⟨false,i,[]⟩ { v with tg:=tg }={ σ with slots:=Z0I σ.slots i (.val { v with tg:=tg }) }:=by simp only [State.setContent,b]
     rw [j] at d
     exact Z2l l _ f d
   ·exact Z2l l σ G I
  ·exact Z2l l σ G I
theorem Z2k:(l:List (Nat×List Tag))->(σ:State)->(G:Ghost)->Inv W0 M σ a w G xs->∃ G',Inv W0 M (Z5r l σ) a w G' xs
 | [],σ,G,I=>⟨G,I⟩
 | (i,tg)::l,σ,G,I=>by
  simp only [Z5r]
  split
  ·rename_i v b
   split
   ·rename_i u k
    rcases Z7z k with rfl | ⟨rfl,h⟩
    ·have:({ σ with boxes:=Z0I σ.boxes i (some u) }:State)=σ:=by
      have j:Z0I σ.boxes i (some u)=σ.boxes:=by
       rw [<-b]
       exact Z5b σ.boxes i (Z1y b)
      rw [j]
     rw [this]
     exact Z2k l σ G I
    ·have g:σ.content ⟨true,i,[]⟩=some v:=b
     obtain ⟨d,f⟩:=Z7m I g h
     exact Z2k l _ d f
   ·exact Z2k l σ G I
  ·exact Z2k l σ G I
theorem Z8U (I:Inv W0 M σ a w G xs) (d b:List (Nat×List Tag)):∃ G',Inv W0 M (σ.wk d b) a w G' xs:=by
 obtain ⟨f,g⟩:=Z2l d σ G I
 exact Z2k b _ f g
theorem Zaf (I:Inv W0 M σ a w G xs) (l:List (Nat×List (Nat×List Tag)×List (Nat×List Tag))) (e:Ex):∃ G',Inv W0 M (wkE l e σ) a w G' xs:=by
 unfold wkE
 split
 ·exact Z8U I _ _
 ·exact ⟨G,I⟩
theorem Zag {c:Code} {y:Z1q R} (d b:List (Nat×List Tag)) (h:Z1D P W0 M c y):Z1D P W0 M c (λσ k=>y (σ.wk d b) k):=by
 intro σ a w G k r Q g I j i
 obtain ⟨G',f⟩:=Z8U I d b
 exact h _ a w G' k r Q g f j i
theorem Z9I {c:Code} {run:Z1q R} (z:Z1D P W0 M c run) {m:Ex->State->State} (i:∀ e σ a w G,Inv W0 M σ a w G []->∃ G',Inv W0 M (m e σ) a w G' []) {x:Z1q R}
  (h:∀ σ k r,x σ k=some r->∃ σ',Z2N σ' σ/\run σ' (λe b=>k e (m e b))=some r):Z1D P W0 M c x:=by
 intro σ a w G k r Q y I C B
 obtain ⟨σ',j,d⟩:=h σ k r C
 obtain ⟨G',p⟩:=j.inv I
 refine z σ' a w G' _ r Q y p d λe b l w' f A g=> ?_
 obtain ⟨n,q⟩:=i e b l w' f g
 exact B e _ l w' n A q
end
end
end Go.PI
namespace Go.PI
abbrev Res:=Option Unit
def Z9x (n:Int):Int:=IntKind.i64.wrap n
def wu8 (n:Int):Int:=IntKind.u8.wrap n
def nI (n:Nat):Int:=(n:Int)
def eS:ByteArray:=⟨#[]⟩
def sEq (a b:ByteArray):Bool:=a.toList==b.toList
def sNe (a b:ByteArray):Bool:= !(a.toList==b.toList)
def sLt (a b:ByteArray):Bool:=Op.bytesLess a.toList b.toList
def sGe (a b:ByteArray):Bool:= !(Op.bytesLess a.toList b.toList)
def nth {α:Type} (z:α) (l:List α) (i:Int):α:=l.getD i.toNat z
def upd {α:Type} (l:List α) (i:Int) (v:α):List α:=l.set i.toNat v
def Z97 {α:Type} (n:Int) (z:α):List α:=List.replicate n.toNat z
noncomputable def Z9w (m c:Int):Bool:=decide (0<=m/\m<=c/\c<=(LIM:Int))
section
variable {R:Type} {r:R}
def av (l:List TVal) (τ:Ty) (f:El τ->List TVal->Option R):Option R:=match l with | v::l=>Z7Z v τ λx=>f x l | []=>none
def ab (l:List TVal) (τ:Ty) (tg:List Tag) (f:Bool->El τ->List TVal->Option R):Option R:=match l with | v::l=>Z5D v τ tg λa x=>f a x l | []=>none
def ao (l:List TVal) (τ:Ty) (tg:List Tag) (f:El τ->List TVal->Option R):Option R:=match l with | v::l=>Z5D v τ tg λ_ x=>f x l | []=>none
def nl (l:List TVal) (f:Option R):Option R:=match l with | []=>f | _::_=>none
theorem Z9Z {l:List TVal} {τ:Ty} {f:El τ->List TVal->Option R} (h:av l τ f=some r):∃ x a t l',l=⟨τ,a,x,t⟩::l'/\f x l'=some r:=by
 cases l with
 | nil=>cases h
 | cons v l=>
  have h:Z7Z v τ (λx=>f x l)=some r:=h
  obtain ⟨a,x,t,rfl,b⟩:=Z8v h
  exact ⟨x,a,t,l,rfl,b⟩
theorem Z9X {l:List TVal} {τ:Ty} {tg:List Tag} {f:Bool->El τ->List TVal->Option R} (h:ab l τ tg f=some r):∃ a x l',l=⟨τ,a,x,tg⟩::l'/\f a x l'=some r:=by
 cases l with
 | nil=>cases h
 | cons v l=>
  have h:Z5D v τ tg (λa x=>f a x l)=some r:=h
  obtain ⟨a,x,rfl,b⟩:=Z4Q h
  exact ⟨a,x,l,rfl,b⟩
theorem Z9Y {l:List TVal} {τ:Ty} {tg:List Tag} {f:El τ->List TVal->Option R} (h:ao l τ tg f=some r):∃ a x l',l=⟨τ,a,x,tg⟩::l'/\f x l'=some r:=by
 cases l with
 | nil=>cases h
 | cons v l=>
  have h:Z5D v τ tg (λ_ x=>f x l)=some r:=h
  obtain ⟨a,x,rfl,b⟩:=Z4Q h
  exact ⟨a,x,l,rfl,b⟩
theorem Za5 {l:List TVal} {f:Option R} (h:nl l f=some r):l=[]/\f=some r:=by
 cases l with
 | nil=>exact ⟨rfl,h⟩
 | cons v l=>cases h
theorem Z2p.mk {P:Program} {np:Nat} {X:List (Z1q R)} {a b:HT} {c:Code} (d:Z2p P np X a c.pl) (f:Z2p P np X b c.pr):Z2p P np X (.t a b) c:=⟨d,f⟩
theorem Za2 {P:Program}:∀ (g:Nat) (b:Sig R),Z0o [] g=some b->Z1d P g b:=λ_ _ h=>by cases h
theorem Z9H {P:Program} {g:Nat} {s:Sig R} {l:List (FuncId×Sig R)} (h:Z1d P g s) (j:∀ (g:Nat) (b:Sig R),Z0o l g=some b->Z1d P g b) :
  ∀ (d:Nat) (b:Sig R),Z0o ((g,s)::l) d=some b->Z1d P d b:=by
 intro d b f
 simp only [Z0o] at f
 split at f
 ·rename_i i
  simp at i
  subst i
  cases f
  exact h
 ·exact j d b f
end
theorem Z9z (x:Res):Z80 x x=x:=by cases x<;>rfl
end Go.PI
namespace Go.PI
def Wf:(τ:Ty)->El τ->Prop
 | .int k,n=>(Lit.int k n).wf=true
 | .bool,_=>True
 | .str,s=>ByteArray.size s<=maxLen
 | .unit,_=>True
 | .slice e,l=>List.length (α:=El e) l<=maxLen/\∀ x∈(l:List (El e)),Wf e x
 | .pair a b,x=>Wf a x.1/\Wf b x.2
theorem Z2n {α β:Type} {f:α->Option β}:(l:List α)->(ys:List β)->l.mapM f=some ys->ys.length=l.length/\∀ (k:Nat) (h:k<l.length),∃ y,f l[k]=some y/\ys[k]? = some y
 | [],ys,h=>by
  simp only [List.mapM_nil,Option.pure_def,Option.some.injEq] at h
  subst h
  exact ⟨rfl,λk h=>absurd h (by simp)⟩
 | a::l,ys,h=>by
  rw [List.mapM_cons] at h
  cases b:f a with
  | none=>rw [b] at h;simp at h
  | some y=>
   rw [b] at h
   cases d:l.mapM f with
   | none=>rw [d] at h;simp at h
   | some m=>
    rw [d] at h
    simp at h
    subst h
    obtain ⟨g,i⟩:=Z2n l m d
    refine ⟨by simp [g],λk j=> ?_⟩
    cases k with
    | zero=>exact ⟨y,b,rfl⟩
    | succ k=>exact i k (by simpa using j)
def Z2E (w:World) (b:Nat):Nat:=match w.heap[b]? with | some (.cells c _ _)=>c.size | _=>0
theorem Z6Z {w:World} {a:Addr} {n:Nat} {l:List Value} (h:w.cells? 0 a n=some l) (G:n≠0) :
  ∃ b o,a=⟨b,o,none⟩/\Z04 w b o n=some l/\o+n<=Z2E w b/\b<w.heap.size:=by
 obtain ⟨b,o,z⟩:=a
 unfold World.cells? at h
 rw [if_pos (Nat.zero_le _)] at h
 obtain ⟨j,f⟩:=Z2n _ _ h
 simp only [List.length_range] at j f
 obtain ⟨F,y,_⟩:=f 0 (by omega)
 have q:w.cell? ⟨b,o,z⟩=some F:=by simpa [Addr.add] using y
 have g:z=none/\∃ c T fr,w.heap[b]? = some (.cells c T fr):=by
  unfold World.cell? at q
  cases g:w.heap[b]? with
  | none=>simp [g] at q
  | some E=>
   cases E with
   | cells c T fr=>
    cases z with
    | none=>exact ⟨rfl,c,T,fr,rfl⟩
    | some x=>simp [g] at q
   | _=>simp [g] at q
 obtain ⟨rfl,g⟩:=g
 obtain ⟨c,T,fr,i⟩:=g
 have d:∀ k,k<n->c[o+k]? = l[k]? := by
  intro k p
  obtain ⟨v,r,D⟩:=f k p
  rw [D]
  simp only [List.getElem_range] at r
  have:w.cell? (Addr.add ⟨b,o,none⟩ k)=c[o+k]? := by
   unfold Addr.add
   by_cases A:k=0
   ·subst A;simp [World.cell?,i]
   ·simp [A,World.cell?,i]
  rw [this] at r
  exact r
 have m:o+n<=c.size:=by
  have B:=d (n-1) (by omega)
  have C:(n-1)<l.length:=by omega
  rw [List.getElem?_eq_getElem C] at B
  have:=(Array.getElem?_eq_some_iff.1 B).1
  omega
 refine ⟨b,o,rfl,?_,by unfold Z2E;rw [i];exact m,(Array.getElem?_eq_some_iff.1 i).1⟩
 unfold Z04
 rw [i]
 simp only []
 rw [if_pos m]
 congr 1
 refine List.ext_getElem? λk=> ?_
 by_cases p:k<n
 ·rw [List.getElem?_take_of_lt p,List.getElem?_drop,Array.getElem?_toList,d k p]
 ·rw [List.getElem?_eq_none (by simp;omega),List.getElem?_eq_none (by omega)]
section
variable {P:Program} {tys:List (TypeId×Ty×List TypeId)}
theorem TyF.cells {t:TypeId} {τ:Ty} {l:List TypeId} (h:TyF P tys t τ l):P.cellsOf t=size τ:=by
 obtain ⟨i,z,b,d,_⟩:=h.info
 unfold Program.cellsOf
 rw [b]
 simp [d]
theorem Z7v {τ d:Ty} (h:Z0d τ [.fst]=some d):∃ b,τ= .pair d b:=by
 cases τ with
 | pair a b=>simp only [Z0d,Option.some.injEq] at h;subst h;exact ⟨b,rfl⟩
 | _=>simp [Z0d] at h
theorem Z9a {τ d:Ty} {p:List Step} (h:Z0d τ (.snd::p)=some d):∃ a b,τ= .pair a b/\Z0d b p=some d:=by
 cases τ with
 | pair a b=>exact ⟨a,b,rfl,by simpa [Z0d] using h⟩
 | _=>simp [Z0d] at h
theorem TyF.pos {t:TypeId} {τ:Ty} {l:List TypeId} (h:TyF P tys t τ l):size τ≠0:=by
 by_cases g:l=[]
 ·obtain ⟨_,_,_,_,i,k⟩:=h.und g
  cases τ with
  | unit=>exact absurd rfl i
  | pair a b=>exact absurd rfl (k a b)
  | _=>simp [size]
 ·obtain ⟨m,_,_,j,_⟩:=h.str g
  obtain ⟨f,q,p,_,_,_,d,_,i,_⟩:=(j 0 (List.length_pos_iff.2 g)).out
  match hn:l.length with
  | 0=>exact absurd (List.length_eq_zero_iff.1 hn) g
  | 1=>
   rw [hn] at d
   simp only [Z09,Z0d] at d
   cases τ<;>simp only [Z0d,Option.some.injEq] at d<;>subst d<;>exact i
  | n+2=>
   rw [hn] at d
   simp only [Z09] at d
   obtain ⟨b,rfl⟩:=Z7v d
   simp only [size]
   omega
theorem Z6z {w:World} {F:Nat->Nat} {St Al:Nat->Prop}:(n:Nat)->(τ:Ty)->(cs:List Value)->n≠0->cs.length=size τ ->
  (∀ i,i<n->∃ d,Z0d τ (Z09 n i)=some d/\∃ x:El d,Rp w F St Al d (List.replicate (Z05 d) .S) ((cs.drop (Z0g τ (Z09 n i))).take (size d)) x []/\Wf d x) ->
  ∃ x:El τ,Rp w F St Al τ (List.replicate (Z05 τ) .S) cs x []/\Wf τ x
 | 0,τ,cs,h,_,_=>absurd rfl h
 | 1,τ,cs,_,r,h=>by
  obtain ⟨d,k,x,l,m⟩:=h 0 (by omega)
  have j:Z0g τ (Z09 1 0)=0:=by cases τ<;>rfl
  have G:d=τ:=by
   simp only [Z09] at k
   cases τ<;>simp only [Z0d,Option.some.injEq] at k<;>exact k.symm
  subst G
  rw [j,List.drop_zero,List.take_of_length_le (by omega)] at l
  exact ⟨x,l,m⟩
 | n+2,τ,cs,_,r,h=>by
  obtain ⟨d,k,x,l,m⟩:=h 0 (by omega)
  simp only [Z09] at k
  obtain ⟨b,rfl⟩:=Z7v k
  have j:Z0g (.pair d b) (Z09 (n+2) 0)=0:=by simp only [Z09];cases d<;>rfl
  rw [j,List.drop_zero] at l
  simp only [size] at r
  obtain ⟨y,C,D⟩:=Z6z (n+1) b (cs.drop (size d)) (by omega) (by rw [List.length_drop];omega) λi K=>by
   obtain ⟨H,p,z,q,A⟩:=h (i+1) (by omega)
   simp only [Z09] at p
   obtain ⟨I,J,E,B⟩:=Z9a p
   cases E
   refine ⟨H,B,z,?_,A⟩
   have:Z0g (.pair d b) (Z09 (n+2) (i+1))=size d+Z0g b (Z09 (n+1) i):=by simp only [Z09,Z0g]
   rw [this] at q
   rw [List.drop_drop]
   exact q
  refine ⟨(x,y),⟨_,_,_,_,[],[],?_,(List.take_append_drop (size d) cs).symm,rfl,l,C⟩,m,D⟩
  simp only [Z05,List.replicate_append_replicate]
theorem Z5F (R:Z0e P tys) {H:Type} {enc:TypeId×Value->H} {w:World} {Al:Nat->Prop}:(fuel:Nat)->(t:TypeId)->(τ:Ty)->(l:List TypeId)->(cs:List Value)->(d:DataW H×List MemPlace) ->
  Z0o tys t=some (τ,l)->DataW.trod enc P w 0 (λ_=>true) true fuel t cs=some d->∃ x:El τ,Rp w (Z2E w) (·< w.heap.size) Al τ (List.replicate (Z05 τ) .S) cs x []/\Wf τ x
 | 0,t,τ,l,cs,d,ha,h=>by cases h
 | fuel+1,t,τ,l,cs,d,ha,h=>by
  have hF:=R t τ l ha
  by_cases hl:l=[]
  ·obtain ⟨u1,u2,u3,u4,u5,u6⟩:=hF.und hl
   cases τ with
   | unit=>exact absurd rfl u5
   | pair a b=>exact absurd rfl (u6 a b)
   | int k=>
    have B:=u1 k rfl
    simp only [DataW.trod,B] at h
    split at h<;>first | (cases h;done) | skip
    all_goals (first | (rename_i g;cases g;done) | skip)
    rename_i k0 k' n g
    cases g
    split at h
    ·rename_i hc
     obtain ⟨rfl,hw⟩:=hc
     exact ⟨n,⟨rfl,rfl,rfl⟩,hw⟩
    ·cases h
   | bool=>
    have B:=u2 rfl
    simp only [DataW.trod,B] at h
    split at h<;>first | (cases h;done) | skip
    all_goals (first | (rename_i g;cases g;done) | skip)
    rename_i b g
    exact ⟨b,⟨rfl,rfl,rfl⟩,trivial⟩
   | str=>
    have B:=u3 rfl
    simp only [DataW.trod,B] at h
    split at h<;>first | (cases h;done) | skip
    all_goals (first | (rename_i g;cases g;done) | skip)
    rename_i s g
    split at h
    ·rename_i hs
     exact ⟨s,⟨rfl,rfl,rfl⟩,hs⟩
    ·cases h
   | slice e=>
    obtain ⟨et,B,M,_⟩:=u4 e rfl
    have z:∃ Y,Z0o tys et=some (e,Y):=by
     unfold Z0A at M
     cases G:Z0o tys et with
     | none=>rw [G] at M;cases M
     | some p=>rw [G] at M;simp at M;exact ⟨p.2,by rw [<-M]⟩
    obtain ⟨Y,z⟩:=z
    have Q:=R et e Y z
    simp only [DataW.trod,B] at h
    split at h<;>first | (cases h;done) | skip
    all_goals (first | (rename_i g;cases g;done) | skip)
    ·rename_i e0 g
     exact ⟨[],⟨.S,none,0,rfl,rfl,Nat.le_refl _,.inr (.inr ⟨rfl,rfl,.inl rfl⟩)⟩,Nat.zero_le _,by simp⟩
    ·rename_i e0 a len cap g
     cases g
     split at h
     ·rename_i hc
      obtain ⟨_,hlc,hcm⟩:=hc
      cases U:(List.range len).mapM λi=>(w.cells? 0 (a.add (i * P.cellsOf et)) (P.cellsOf et)).bind (DataW.trod enc P w 0 (λ_=>true) true fuel et) with
      | none=>rw [U] at h;cases h
      | some ys=>
       obtain ⟨hyl,m⟩:=Z2n _ _ U
       simp only [List.length_range,List.getElem_range] at m hyl
       rw [Q.cells] at m
       have E:=Q.pos
       have G:∀ k:Fin len,∃ x:El e,(∃ b o,a=⟨b,o,none⟩/\b<w.heap.size/\o+k.1 * size e+size e<=Z2E w b/\∃ j,Z04 w b (o+k.1 * size e) (size e)=some j/\Rp w (Z2E w) (·< w.heap.size) Al e (List.replicate (Z05 e) .S) j x [])/\Wf e x:=by
        intro k
        obtain ⟨y,q,_⟩:=m k.1 k.2
        cases F:w.cells? 0 (a.add (k.1 * size e)) (size e) with
        | none=>rw [F] at q;cases q
        | some j=>
         rw [F] at q
         have q:DataW.trod enc P w 0 (λ_=>true) true fuel et j=some y:=q
         obtain ⟨x,I,J⟩:=Z5F R fuel et e Y j y z q
         obtain ⟨b,o,r,ha2,ha3,ha4⟩:=Z6Z F E
         obtain ⟨y0,V,_⟩:=m 0 (by have:=k.2;omega)
         cases C:w.cells? 0 (a.add (0 * size e)) (size e) with
         | none=>rw [C] at V;cases V
         | some cs0=>
          obtain ⟨b0,o0,A,_,_,_⟩:=Z6Z C E
          rw [Nat.zero_mul] at A
          have A:a=⟨b0,o0,none⟩:=by simpa [Addr.add] using A
          subst A
          have:b=b0/\o=o0+k.1 * size e:=by
           unfold Addr.add at r
           split at r
           ·rename_i hz;cases r;exact ⟨rfl,by omega⟩
           ·cases r;exact ⟨rfl,rfl⟩
          obtain ⟨rfl,rfl⟩:=this
          exact ⟨x,⟨b,o0,rfl,ha4,ha3,j,ha2,I⟩,J⟩
       let xs:List (El e):=List.ofFn λk:Fin len=>Classical.choose (G k)
       have L:xs.length=len:=by simp [xs]
       have K:∀ (k:Nat) (h:k<xs.length),(∃ b o,a=⟨b,o,none⟩/\b<w.heap.size/\o+k * size e+size e<=Z2E w b/\∃ j,Z04 w b (o+k * size e) (size e)=some j/\Rp w (Z2E w) (·< w.heap.size) Al e (List.replicate (Z05 e) .S) j xs[k] [])/\Wf e xs[k]:=by
        intro k X
        have:=Classical.choose_spec (G ⟨k,by omega⟩)
        simpa [xs] using this
       refine ⟨xs,⟨.S,some a,cap,rfl,by rw [L],by rw [L];exact hlc,.inr (.inr ⟨rfl,rfl,?_⟩)⟩,by show xs.length<=_;omega,?_⟩
       ·by_cases h0:len=0
        ·left;exact List.length_eq_zero_iff.1 (by omega)
        ·right
         obtain ⟨⟨b,o,rfl,hb,hend,_⟩,_⟩:=K (len-1) (by omega)
         refine ⟨b,o,rfl,hb,?_,λk X=> ?_⟩
         ·rw [L]
          have:o+(len-1) * size e+size e=o+len * size e:=by
           have:len=(len-1)+1:=by omega
           rw [this,Nat.add_mul];simp;omega
          omega
         ·obtain ⟨⟨b',o',he',_,_,j,Z,h2⟩,_⟩:=K k X
          cases he'
          exact ⟨j,Z,h2⟩
       ·intro x G
        obtain ⟨k,X,rfl⟩:=List.mem_iff_getElem.1 G
        exact (K k X).2
     ·cases h
  ·obtain ⟨W,B,hfl,hfs,_⟩:=hF.str hl
   simp only [DataW.trod,B] at h
   split at h
   ·rename_i D
    rw [hF.cells] at D
    cases U:W.toList.mapM λf=>DataW.trod enc P w 0 (λ_=>true) true fuel f.type ((cs.drop f.offset).take (P.cellsOf f.type)) with
    | none=>rw [U] at h;cases h
    | some ys=>
     obtain ⟨_,m⟩:=Z2n _ _ U
     refine Z6z l.length τ cs (by simpa using hl) D λi hi=> ?_
     obtain ⟨f,τf,lf,Z,h2,h3,h4,h5,_,_⟩:=(hfs i hi).out
     have T:i<W.toList.length:=by simp;omega
     obtain ⟨y,q,_⟩:=m i T
     have hfi:W.toList[i]=f:=by
      have:W.toList[i]? = some f:=by rw [Array.getElem?_toList];exact Z
      rw [List.getElem?_eq_getElem T] at this
      simpa using this
     rw [hfi] at q
     have hFf:=R f.type τf lf h5
     rw [hFf.cells,h3] at q
     obtain ⟨x,I,J⟩:=Z5F R fuel f.type τf lf _ y h5 q
     exact ⟨τf,h4,x,I,J⟩
   ·cases h
end
end Go.PI
namespace Go.PI
open Go.ChangeShapes Go.WideShapes Go.ChangeAt Go.RowKit
noncomputable def Z2e (tys:List (TypeId×Ty×List TypeId)):List TypeId->Option (List Mode)
 | []=>some []
 | t::b=>match Z0o tys t,Z2e tys b with | some (τ,l),some ms=>some (.borrow τ (!l.isEmpty)::ms) | _,_=>none
def Z4m:List Mode->List TVal->Prop
 | [],[]=>True
 | .borrow τ ag::ms,v::vs=>(∃ x t,v=⟨τ,ag,x,t⟩/\Wf τ x)/\Z4m ms vs
 | _,_=>False
theorem Z4m.none {vals:List TVal} (h:Z4m [] vals):vals=[]:=by
 cases vals with
 | nil=>rfl
 | cons v vs=>exact h.elim
theorem Z4m.one {τ:Ty} {ag:Bool} {ms:List Mode} {vals:List TVal} (h:Z4m (.borrow τ ag::ms) vals):∃ x t vs,vals=⟨τ,ag,x,t⟩::vs/\Wf τ x/\Z4m ms vs:=by
 cases vals with
 | nil=>exact h.elim
 | cons v vs=>
  obtain ⟨⟨x,t,rfl,w⟩,h⟩:=h
  exact ⟨x,t,vs,rfl,w,h⟩
section
variable {P:Program} {tys:List (TypeId×Ty×List TypeId)} {H:Type} {enc:TypeId×Value->H} {W:World} {base:Nat}
theorem Z8J {t:TypeId} {τ:Ty} {l:List TypeId} {v:Value} (h:TyF P tys t τ l) (d:Value.okWide P W .any base t v):Z0f (!l.isEmpty) v:=by
 by_cases g:l=[]
 ·subst g
  obtain ⟨i,j,m,p,q,r⟩:=h.und rfl
  show one v=true
  cases τ with
  | unit=>exact absurd rfl q
  | pair a b=>exact absurd rfl (r a b)
  | int k=>obtain ⟨n,rfl⟩:=okWide_int (i k rfl) d;rfl
  | bool=>obtain ⟨n,rfl⟩:=okWide_bool (j rfl) d;rfl
  | str=>obtain ⟨n,rfl⟩:=okWide_string (m rfl) d;rfl
  | slice e=>obtain ⟨et,f,_⟩:=p e rfl;obtain ⟨a,n,c,rfl⟩:=okWide_slice f d;rfl
 ·obtain ⟨w,f,_⟩:=h.str g
  obtain ⟨cs,rfl,_⟩:=okWide_struct f d
  have:(!l.isEmpty)=true:=by cases l<;>simp_all
  rw [this]
  exact ⟨cs,rfl⟩
theorem Z52 (r:Z0e P tys):(g:List TypeId)->(vs:List Value)->(n:List (DataW H))->(p:List MemPlace)->(ms:List Mode)->DataW.TrodAll enc P W 0 (λ_=>true) true g vs n p ->
  (∀ (j:Nat) t v,g[j]? = some t->vs[j]? = some v->Value.okWide P W .any base t v)->Z2e tys g=some ms ->
  n.length=g.length/\∃ vals:List TVal,Z4m ms vals/\Z0u W (Z2E W) (·< W.heap.size) ms vals vs (vals.map λ_=>[]) []
 | [],vs,n,p,ms,h,_,f=>by
  obtain ⟨rfl,rfl,rfl⟩:=trodAll_nil h
  simp only [Z2e,Option.some.injEq] at f
  subst f
  exact ⟨rfl,[],trivial,trivial⟩
 | t::g,vs,n,p,ms,h,C,f=>by
  obtain ⟨v,A,d,q,a,b,rfl,rfl,rfl,D,E⟩:=trodAll_cons h
  simp only [Z2e] at f
  split at f
  ·rename_i τ l z B w
   cases f
   obtain ⟨k,vals,J,K⟩:=Z52 r g A q b z E (λj t v ht y=>C (j+1) t v (by simpa using ht) (by simpa using y)) w
   obtain ⟨i,F⟩:=D
   obtain ⟨x,I,G⟩:=Z5F r (Al:=(·< W.heap.size)) i t τ l _ _ B F
   have m:=Z8J (r t τ l B) (C 0 t v rfl rfl)
   refine ⟨by simp [k],⟨τ,!l.isEmpty,x,List.replicate (Z05 τ) .S⟩::vals,⟨⟨x,_,rfl,G⟩,J⟩,rfl,m,?_,K⟩
   rw [m.cells]
   exact I
  ·cases f
def Z5Y:List TVal->List TVal->List TVal->Option Unit
 | [⟨.bool,false,true,_⟩],_,_=>some ()
 | _,_,_=>none
theorem Z8j {b d ext:List TVal} (h:Z5Y b d ext=some ()):∃ tg,b=[⟨.bool,false,true,tg⟩]:=by
 unfold Z5Y at h
 split at h
 ·exact ⟨_,rfl⟩
 ·cases h
theorem Z62:(b:List TypeId)->(ms:List Mode)->(xs:List Value)->Z2e tys b=some ms->Z0Z ms xs=[]
 | [],ms,xs,h=>by
  simp only [Z2e,Option.some.injEq] at h
  subst h
  cases xs<;>rfl
 | t::b,ms,xs,h=>by
  simp only [Z2e] at h
  split at h
  ·rename_i d
   cases h
   cases xs with
   | nil=>rfl
   | cons x xs=>exact Z62 b _ xs d
  ·cases h
theorem Z8F (T:Z0e P tys) {f:FuncId} {i:Sig Unit} (V:Z1d P f i) {q:List TypeId} {args:Array Value} {D:List (DataW H)} {p:List MemPlace} (K:Z2e tys q=some i.modes)
  (k:∀ vals,Z4m i.modes vals->i.run vals [] Z5Y=some ()) (h:DataW.TrodAll enc P W 0 (λ_=>true) true q args.toList D p)
  (Y:∀ (j:Nat) t v,q[j]? = some t->args[j]? = some v->Value.okWide P W .any base t v) :
  Calls P f args W λe r=>e= .returned (.bool true)/\Below W.heap.size W r:=by
 obtain ⟨_,vals,l,R⟩:=Z52 T q args.toList D p _ h (λj t v ht B=>Y j t v ht (by rwa [Array.getElem?_toList] at B)) K
 have g:(vals.map λ_=>([]:List Nat)).flatten=[]:=by induction vals<;>simp_all
 have I:=V.2 vals [] Z5Y () (k vals l) W (Z2E W) (·< W.heap.size) args.toList [] (vals.map λ_=>[]) [] R trivial (by rw [g];simp) (λb y=>⟨y,by rw [g];simp⟩) (by rw [g];simp)
 have:args.toList.toArray=args:=by simp
 rw [this] at I
 refine I.mono λe r=> ?_
 rintro ⟨v,Z,C,F,rfl,U,X,J,F',St',vs,fps,E,⟨rfl,n,_⟩,d,G,m,_⟩
 obtain ⟨tg,rfl⟩:=Z8j U
 have A:=Z62 q _ args.toList K
 rw [A] at n d
 have z:C=[]:=List.length_eq_zero_iff.1 n
 subst z
 rw [List.append_nil,List.append_nil] at d
 have w:Below W.heap.size W r:=⟨m.os,m.tape,m.output,m.size,λb y=>m.block b y (by rw [g];simp)⟩
 refine ⟨?_,w⟩
 cases vs with
 | nil=>exact d.elim
 | cons v vs=>
  cases fps with
  | nil=>exact d.elim
  | cons f fps=>
   obtain ⟨⟨L,_,M⟩,Q⟩:=d
   have:v= .bool true:=Z5J L M
   subst this
   cases vs with
   | nil=>rfl
   | cons u vs=>cases fps<;>exact Q.elim
theorem Z6u {k:World} (q:laidOutB P=true) (n:Below W.heap.size W k):(f:List TypeId)->(vs:List Value)->(g:List (DataW H))->(p:List MemPlace)->f.all (λt=>P.readableRec t&&decide (t<P.types.size))=true ->
  DataW.TrodAll enc P W 0 (λ_=>true) true f vs g p->DataW.TrodAll enc P k 0 (λb=>decide (b<W.heap.size)) true f vs g p
 | [],vs,g,p,_,h=>by
  obtain ⟨rfl,rfl,rfl⟩:=trodAll_nil h
  exact trodAll_mk0
 | t::f,vs,g,p,ht,h=>by
  obtain ⟨v,j,d,i,a,b,rfl,rfl,rfl,l,r⟩:=trodAll_cons h
  simp only [List.all_cons,Bool.and_eq_true,decide_eq_true_eq] at ht
  refine trodAll_cons_mk ?_ (Z6u q n f j i b ht.2 r)
  refine Below.trod q ht.1.1 ht.1.2 l n λx y=> ?_
  obtain ⟨m,w⟩:=l
  exact DataW.trod_lt m _ _ _ w x y
theorem Z9u (F:Z0e P tys) (L:laidOutB P=true) {f:FuncId} {fn:Func} {g:Sig Unit} (Q:Z1d P f g) {s:ChangeSpec} (b:s.vars=[]) {tb:TypeId} (D:fn.resultTypes= #[tb]) (l:P.underlying tb=some .bool)
  (J:Z2e tys fn.params.toList=some g.modes) (n:fn.params.toList.all (λt=>P.readableRec t&&decide (t<P.types.size))=true)
  (C:∀ i:List (DataW H),i.length=fn.params.toList.length->s.fn H i={ results:=[.lit (.bool true)],args:=i })
  (m:∀ vals,Z4m g.modes vals->g.run vals [] Z5Y=some ()) {args:Array Value} {i gs:List (DataW H)} {d:List MemPlace}
  (k:∀ (j:Nat) t v,fn.params[j]? = some t->args[j]? = some v->Value.okWide P W .any base t v) (I:DataW.Whole enc P fn.params.toList s.vars false W args.toList i gs d) :
  Calls P f args W λe E=>∃ v,e= .returned v/\s.post enc P fn false true false false W args v E:=by
 have A:=I
 obtain ⟨p,q,z,G,rfl,K,M⟩:=I
 rw [b] at G
 obtain ⟨rfl,rfl⟩:=trodVars_none G
 have y:i.length=fn.params.toList.length:=(Z52 F _ _ _ _ _ z (λj t v ht r=>k j t v (by rwa [Array.getElem?_toList] at ht) (by rwa [Array.getElem?_toList] at r)) J).1
 refine (Z8F F Q J m z λj t v ht r=>k j t v (by rwa [Array.getElem?_toList] at ht) r).mono λe E=> ?_
 rintro ⟨rfl,w⟩
 have B:=C i y
 refine ⟨_,rfl,i,[],_,[],p,[],A,?_,?_,?_,w.frame _,λh=>by cases h⟩
 ·rw [List.append_nil,B,D]
  exact trodAll_mk1 (shut_bool l _)
 ·rw [List.append_nil,B]
  exact Z6u L w _ _ _ _ n z
 ·rw [b,List.append_nil,B]
  exact rfl
end
end Go.PI
namespace Go.PI
theorem Zae {n:Int} (b: -9223372036854775808<=n) (d:n<9223372036854775808):Z9x n=n:=by
 unfold Z9x IntKind.wrap
 simp only [IntKind.bits,IntKind.signed,Bool.true_and]
 by_cases h:n % 2 ^ 64>=2 ^ (64-1)
 ·rw [if_pos (by simpa using h)];omega
 ·rw [if_neg (by simpa using h)];omega
theorem Zah {i:Int} {n:Nat} (b:0<=i) (d:i<(n:Int)):inb i n=true:=by
 unfold inb;exact decide_eq_true ⟨b,d⟩
theorem Zai {n:Nat} (h:n<=LIM):lim n=true:=decide_eq_true h
theorem Za4 {n:Nat} (h:n<=LIM):Z9w (nI n) (nI n)=true:=by
 unfold Z9w nI;exact decide_eq_true ⟨by omega,by omega,by omega⟩
theorem Z9G {a b:Int} (h:a<b):decide (a<b)=true:=decide_eq_true h
theorem Z9F {a b:Int} (h:¬ a<b):decide (a<b)=false:=decide_eq_false h
theorem Za7 {α:Type} (z:α) (l:List α) (i:Nat) (h:i<l.length):nth z l (i:Int)=l[i]:=by
 unfold nth;simp [h]
theorem Zad {α:Type} (l:List α) (i:Nat) (v:α):upd l (i:Int) v=l.set i v:=by unfold upd;simp
theorem Z5X {V K:Type} {step:V->(V->Res)->K->Res} (f:Nat->V) (N:Nat) (q:K) (b:Res)
  (k:∀ i,i<N->∀ rec,step (f i) rec q=rec (f (i+1))) (h:∀ rec,step (f N) rec q=b) (n:Nat) (g:N<n):Z1N step n (f 0) q=b:=by
 have:∀ d i n,i+d=N->d<n->Z1N step n (f i) q=b:=by
  intro d
  induction d with
  | zero=>
   intro i n j g
   obtain ⟨n,rfl⟩:∃ m,n=m+1:=⟨n-1,by omega⟩
   have:i=N:=by omega
   subst this
   exact h _
  | succ d l=>
   intro i n j g
   obtain ⟨n,rfl⟩:∃ m,n=m+1:=⟨n-1,by omega⟩
   show step (f i) _ q=b
   rw [k i (by omega)]
   exact l (i+1) n (by omega) (by omega)
 exact this N 0 n (by omega) (by omega)
theorem Z48 {n:Nat} (h:n<4611686018427387904):n<Z1Y:=by rw [Z9g];exact h
def Z20 {α β:Type} (a:List α) (f:α->β) (z:β) (i:Nat):List β:=(a.take i).map f++List.replicate (a.length-i) z
theorem Z89 {α β:Type} (a:List α) (f:α->β) (z:β) (i:Nat) (h:i<=a.length):(Z20 a f z i).length=a.length:=by
 unfold Z20;simp;omega
theorem Z88 {α β:Type} (a:List α) (f:α->β) (z:β):Z20 a f z a.length=a.map f:=by
 unfold Z20;simp
theorem Z7G {α β:Type} (a:List α) (f:α->β) (z:β):Z20 a f z 0=List.replicate a.length z:=by
 unfold Z20;simp
theorem Z8a {α β:Type} (a:List α) (f:α->β) (z:β) (i:Nat) (h:i<a.length):(Z20 a f z i).set i (f a[i])=Z20 a f z (i+1):=by
 unfold Z20
 rw [List.set_append_right _ _ (by simp;omega)]
 have b:a.length-i=(a.length-(i+1))+1:=by omega
 have d:i-((a.take i).map f).length=0:=by simp;omega
 rw [d,b,List.replicate_succ,List.set_cons_zero,List.take_succ_eq_append_getElem h,List.map_append,List.append_assoc]
 rfl
theorem Zam {n:Nat} {i:Nat} (h:i<n):decide ((i:Int)<nI n)=true:=decide_eq_true (by unfold nI;omega)
theorem Zal {n:Nat}:decide ((n:Int)<nI n)=false:=decide_eq_false (by unfold nI;omega)
theorem Zab {α β:Type} (z:β) (a:List α) (f:α->β) {step:(List β×Int)->(List β×Int->Res)->(List β->Res)->Res} (q:List β->Res) (d:a.length<=LIM)
  (k:∀ (b:List β) (i:Nat) rec,(g:i<a.length)->b.length=a.length->step (b,(i:Int)) rec q=rec (b.set i (f a[i]),(i:Int)+1))
  (j:∀ b rec,step (b,(a.length:Int)) rec q=q b):Z1N step Z1Y (Z97 (nI a.length) z,0) q=q (a.map f):=by
 have h:Z97 (nI a.length) z=Z20 a f z 0:=by rw [Z7G];unfold Z97 nI;simp
 rw [h]
 refine Z5X (λi=>(Z20 a f z i,(i:Int))) a.length q _ (λi g rec=> ?_) (λrec=> ?_) Z1Y (Z48 (by unfold LIM at d;omega))
 ·rw [k _ i rec g (Z89 _ _ _ _ (by omega)),Z8a a f z i g];rfl
 ·rw [j,Z88]
def szR (left:Int) (n:Nat):Int:=if (n:Int)<=left then left-n else -1
theorem Za9 {left:Int} {n:Nat} (h:(n:Int)<=left):szR left n=left-n:=if_pos h
theorem Za8 {left:Int} {n:Nat} (h:¬ (n:Int)<=left):szR left n= -1:=if_neg h
theorem Z9U {left:Int} {a b:Nat} (h:(a:Int)<=left):szR left (a+b)=szR (left-a) b:=by
 unfold szR
 by_cases d:((b:Nat):Int)<=left-a
 ·rw [if_pos d,if_pos (show ((a+b:Nat):Int)<=left by omega)];omega
 ·rw [if_neg d,if_neg (show ¬ ((a+b:Nat):Int)<=left by omega)]
theorem Z9V {left:Int} {a b:Nat} (h:¬ (a:Int)<=left):szR left (a+b)= -1:=if_neg (show ¬ ((a+b:Nat):Int)<=left by omega)
theorem Zaa {α:Type} (b:α->Nat) (a:List α) {step:(Int×Int)->(Int×Int->Res)->((Int->Res)×(Unit->Res))->Res} (q:(Int->Res)×(Unit->Res)) (w:a.length<=1048576)
  (A:∀ (left:Int) (i:Nat) rec,(r:i<a.length)->0<=left->left<=1048576->step (left,(i:Int)) rec q=if (b a[i]:Int)<=left then rec (left-b a[i],(i:Int)+1) else q.2 ())
  (y:∀ left rec,step (left,(a.length:Int)) rec q=q.1 left) (left:Int) (g:0<=left) (j:left<=1048576) :
  Z1N step Z1Y (left,0) q=if (((a.map b).sum:Nat):Int)<=left then q.1 (left-((a.map b).sum:Nat)) else q.2 ():=by
 have k:∀ (d i n:Nat) (left:Int),i+d=a.length->d<n->0<=left->left<=1048576 ->
   Z1N step n (left,(i:Int)) q=if ((((a.drop i).map b).sum:Nat):Int)<=left then q.1 (left-(((a.drop i).map b).sum:Nat)) else q.2 ():=by
  intro d
  induction d with
  | zero=>
   intro i n left r z g j
   obtain ⟨n,rfl⟩:∃ m,n=m+1:=⟨n-1,by omega⟩
   have:i=a.length:=by omega
   subst this
   show step _ _ q=_
   rw [y]
   simp [g]
  | succ d B=>
   intro i n left r z g j
   obtain ⟨n,rfl⟩:∃ m,n=m+1:=⟨n-1,by omega⟩
   have h:i<a.length:=by omega
   show step _ _ q=_
   rw [A left i _ h g j,List.drop_eq_getElem_cons h,List.map_cons,List.sum_cons]
   by_cases l:(b a[i]:Int)<=left
   ·rw [if_pos l]
    have:=B (i+1) n (left-b a[i]) (by omega) (by omega) (by omega) (by omega)
    rw [show ((i:Int)+1)=((i+1:Nat):Int) by omega,this]
    by_cases p:((((a.drop (i+1)).map b).sum:Nat):Int)<=left-b a[i]
    ·have f:((b a[i]+((a.drop (i+1)).map b).sum:Nat):Int)<=left:=by omega
     rw [if_pos p,if_pos f]
     have:left-(b a[i]:Int)-((((a.drop (i+1)).map b).sum:Nat):Int)=left-((b a[i]+((a.drop (i+1)).map b).sum:Nat):Int):=by omega
     rw [this]
    ·have f:¬ ((b a[i]+((a.drop (i+1)).map b).sum:Nat):Int)<=left:=by omega
     rw [if_neg p,if_neg f]
   ·have f:¬ ((b a[i]+((a.drop (i+1)).map b).sum:Nat):Int)<=left:=by omega
    rw [if_neg l,if_neg f]
 have:=k a.length 0 Z1Y left (by omega) (Z48 (by omega)) g j
 simpa using this
theorem Za1 {α:Type} (a:List α) {step:Int->(Int->Res)->((Unit->Res)×(Unit->Res))->Res} (q:(Unit->Res)×(Unit->Res)) (b:a.length<=LIM)
  (g:∀ (i:Nat) rec,(d:i<a.length)->step (i:Int) rec q=rec ((i:Int)+1)) (f:∀ rec,step (a.length:Int) rec q=q.1 ()):Z1N step Z1Y (0:Int) q=q.1 ():=
 Z5X (λi=>(i:Int)) a.length q _ (λi d rec=>by rw [g i rec d];rfl) f Z1Y (Z48 (by unfold LIM at b;omega))
end Go.PI
namespace Go.PI
theorem Z9v {α:Type} (b:α->Nat):(l:List α)->∀ x∈l,b x<=(l.map b).sum
 | y::l,x,h=>by
  rcases List.mem_cons.1 h with rfl | h
  ·simp
  ·have:=Z9v b l x h
   simp;omega
def Z5C {α β:Type} (g:Int->α->List β):Nat->List α->List β
 | _,[]=>[]
 | j,x::l=>g j x++Z5C g (j+1) l
theorem Z8W {α β:Type} (g:Int->α->List β) (h:∀ i x,(g i x).length<=1):(j:Nat)->(l:List α)->(Z5C g j l).length<=l.length
 | _,[]=>Nat.le_refl _
 | j,x::l=>by
  have:=Z8W g h (j+1) l
  have:=h j x
  simp only [Z5C,List.length_append,List.length_cons]
  omega
theorem Z9E {α β:Type} (a:List α) (g:Int->α->List β) {V K:Type} (k:Int->List β->V) {step:V->(V->Res)->K->Res} (q:K) (f:List β->Res) (h:a.length<=LIM) (y:∀ i x,(g i x).length<=1)
  (A:∀ (b:List β) (i:Nat) rec,(p:i<a.length)->b.length<=i->step (k i b) rec q=rec (k (i+1) (b++g i a[i])))
  (w:∀ b rec,step (k (a.length:Int) b) rec q=f b):Z1N step Z1Y (k 0 []) q=f (Z5C g 0 a):=by
 have l:∀ (d i n:Nat) (b:List β),i+d=a.length->d<n->b.length<=i->Z1N step n (k i b) q=f (b++Z5C g i (a.drop i)):=by
  intro d
  induction d with
  | zero=>
   intro i n b p z r
   obtain ⟨n,rfl⟩:∃ m,n=m+1:=⟨n-1,by omega⟩
   have:i=a.length:=by omega
   subst this
   show step _ _ q=_
   rw [w]
   simp [Z5C]
  | succ d B=>
   intro i n b p z r
   obtain ⟨n,rfl⟩:∃ m,n=m+1:=⟨n-1,by omega⟩
   have j:i<a.length:=by omega
   show step _ _ q=_
   rw [A b i _ j r,List.drop_eq_getElem_cons j]
   have:=B (i+1) n (b++g i a[i]) (by omega) (by omega) (by have:=y i a[i];simp;omega)
   rw [show ((i:Int)+1)=((i+1:Nat):Int) by omega,this]
   simp [Z5C,List.append_assoc]
 have:=l a.length 0 Z1Y [] (by omega) (Z48 (by unfold LIM at h;omega)) (by simp)
 simpa using this
def mkL {α:Type} (w:α->Nat) (mk:α->Int->α):List α->Int->List α
 | [],_=>[]
 | x::l,k=>mk x k::mkL w mk l (k+w x)
theorem Z9Q (a b:ByteArray):sEq a b=sEq b a:=by
 unfold sEq;exact BEq.comm
theorem Z9R (a:ByteArray):sEq a a=true:=by unfold sEq;simp
theorem Z9S (a:ByteArray):sNe a a=false:=by unfold sNe;simp
theorem Zak {α:Type} [BEq α] [LawfulBEq α] (n:α):(n != n)=false:=by simp
theorem Z9C {V K:Type} (step:V->(V->Res)->K->Res) (m:Nat) (v:V) (q:K):Z1N step (m+1) v q=step v (λb=>Z1N step m b q) q:=rfl
end Go.PI
namespace Go.PI
def Z1Q {α A E:Type} (f:Nat->A->α->Except E A):Nat->List α->A->Except E A
 | _,[],a=> .ok a
 | i,x::l,a=>match f i a x with
  | .ok b=>Z1Q f (i+1) l b
  | .error e=> .error e
theorem Z3V {α A E V K:Type} (l:List α) (j:Int->A->V) (f:Nat->A->α->Except E A) (p:Nat->A->Prop) {step:V->(V->Res)->K->Res} (q:K) (g:A->Res) (r:E->Res) (a0:A) (B:l.length<=LIM) (z:p 0 a0)
  (G:∀ (i:Nat) a b,(w:i<l.length)->p i a->f i a l[i]= .ok b->p (i+1) b)
  (H:∀ (i:Nat) a rec,(w:i<l.length)->p i a->step (j i a) rec q=match f i a l[i] with | .ok b=>rec (j ((i:Int)+1) b) | .error e=>r e)
  (C:∀ a rec,p l.length a->step (j (l.length:Int) a) rec q=g a):Z1N step Z1Y (j 0 a0) q=match Z1Q f 0 l a0 with | .ok a=>g a | .error e=>r e:=by
 have y:∀ (d i n:Nat) (a:A),i+d=l.length->d<n->p i a->Z1N step n (j i a) q=match Z1Q f i (l.drop i) a with | .ok a=>g a | .error e=>r e:=by
  intro d
  induction d with
  | zero=>
   intro i n a w F k
   obtain ⟨n,rfl⟩:∃ m,n=m+1:=⟨n-1,by omega⟩
   have:i=l.length:=by omega
   subst this
   rw [List.drop_length]
   exact C a _ k
  | succ d I=>
   intro i n a w F k
   obtain ⟨n,rfl⟩:∃ m,n=m+1:=⟨n-1,by omega⟩
   have h:i<l.length:=by omega
   show step _ _ q=_
   rw [H i a _ h k,List.drop_eq_getElem_cons h]
   simp only [Z1Q]
   cases D:f i a l[i] with
   | error e=>rfl
   | ok b=>
    have:=I (i+1) n b (by omega) (by omega) (G i a b h k D)
    rw [show ((i:Int)+1)=((i+1:Nat):Int) by omega]
    exact this
 have:=y l.length 0 Z1Y a0 (by omega) (Z48 (by unfold LIM at B;omega)) z
 simpa using this
theorem Z8T {α A E:Type} {f:Nat->A->α->Except E A} (p:Nat->A->Prop):(l:List α)->(i:Nat)->(a b:A)->p i a->(∀ (j:Nat) x a d,x∈l->p j a->f j a x= .ok d->p (j+1) d)->Z1Q f i l a= .ok b->p (i+l.length) b
 | [],i,a,b,g,_,h=>by
  simp only [Z1Q,Except.ok.injEq] at h
  subst h;exact g
 | x::l,i,a,b,g,k,h=>by
  simp only [Z1Q] at h
  split at h
  ·rename_i d m
   have:=Z8T p l (i+1) d b (k i x a d (by simp) g m) (λj y a d n=>k j y a d (List.mem_cons_of_mem _ n)) h
   rw [List.length_cons]
   rw [show i+(l.length+1)=i+1+l.length by omega]
   exact this
  ·cases h
theorem Z8b {α A V K:Type} (l:List α) (g:Int->A->V) (f:A->α->A) (p:Nat->A->Prop) {step:V->(V->Res)->K->Res} (q:K) (b:A->Res) (a0:A) (m:l.length<=LIM) (k:p 0 a0)
  (r:∀ (i:Nat) a,(d:i<l.length)->p i a->p (i+1) (f a l[i]))
  (w:∀ (i:Nat) a rec,(d:i<l.length)->p i a->step (g i a) rec q=rec (g ((i:Int)+1) (f a l[i])))
  (n:∀ a rec,p l.length a->step (g (l.length:Int) a) rec q=b a):Z1N step Z1Y (g 0 a0) q=b (l.foldl f a0):=by
 have h:=Z3V l g (λ_ a x=>(.ok (f a x):Except Empty A)) p q b (λe=>e.elim) a0 m k (λi a z d j h=>by cases h;exact r i a d j) (λi a rec d j=>w i a rec d j) n
 rw [h]
 have:∀ (l:List α) (i:Nat) (a:A),Z1Q (λ_ a x=>(.ok (f a x):Except Empty A)) i l a= .ok (l.foldl f a):=by
  intro l
  induction l with
  | nil=>intro i a;rfl
  | cons x l y=>intro i a;simp only [Z1Q,List.foldl_cons];exact y _ _
 rw [this]
theorem Z9B {α β V K:Type} (l:List α) (k:Int->List β->V) (g:α->List β) (B:Nat) (pre:List β) {step:V->(V->Res)->K->Res} (q:K) (h:List β->Res) (p:l.length<=LIM)
  (w:∀ (i:Nat) (f:i<l.length),(pre++(l.take i).flatMap g).length<=B->(pre++(l.take (i+1)).flatMap g).length<=B) (n:pre.length<=B)
  (y:∀ (i:Nat) (b:List β) rec,(f:i<l.length)->b=pre++(l.take i).flatMap g->b.length<=B->step (k i b) rec q=rec (k ((i:Int)+1) (b++g l[i])))
  (r:∀ b rec,step (k (l.length:Int) b) rec q=h b):Z1N step Z1Y (k 0 pre) q=h (pre++l.flatMap g):=by
 have ht:∀ (i:Nat) (f:i<l.length),(l.take (i+1)).flatMap g=(l.take i).flatMap g++g l[i]:=λi f=>by
  rw [List.take_succ_eq_append_getElem f,List.flatMap_append,List.flatMap_cons,List.flatMap_nil,List.append_nil]
 have:=Z8b l k (λb x=>b++g x) (λi b=>b=pre++(l.take i).flatMap g/\b.length<=B) q h pre p ⟨by simp,n⟩
  (λi a f j=>by
   have m:a++g l[i]=pre++(l.take (i+1)).flatMap g:=by rw [ht i f,<-List.append_assoc,<-j.1]
   exact ⟨m,by rw [m];exact w i f (by rw [<-j.1];exact j.2)⟩)
  (λi a rec f j=>y i a rec f j.1 j.2) (λa rec _=>r a rec)
 rw [this]
 congr 1
 have:∀ (l:List α) (d:List β),l.foldl (λb x=>b++g x) d=d++l.flatMap g:=by
  intro l
  induction l with
  | nil=>intro d;simp
  | cons x l z=>intro d;simp [z,List.append_assoc]
 rw [this]
theorem Z9D {α V K:Type} (l:List α) (f:Int->V) (b:α->Bool) {step:V->(V->Res)->K->Res} (q:K) (d g:Res) (k:l.length<=LIM)
  (n:∀ (i:Nat) rec,(j:i<l.length)->step (f i) rec q=bif b l[i] then g else rec (f ((i:Int)+1))) (m:∀ rec,step (f (l.length:Int)) rec q=d) :
  Z1N step Z1Y (f 0) q=bif l.any b then g else d:=by
 have h:=Z3V l (λi (_:Unit)=>f i) (λ_ _ x=>if b x then .error () else (.ok ():Except Unit Unit)) (λ_ _=>True) q (λ_=>d) (λ_=>g) () k trivial (λ_ _ _ _ _ _=>trivial)
  (λi a rec j _=>by
   rw [n i rec j]
   cases b l[i]<;>rfl) (λa rec _=>m rec)
 rw [h]
 have:∀ (l:List α) (i:Nat),Z1Q (λ_ _ x=>if b x then .error () else (.ok ():Except Unit Unit)) i l ()=bif l.any b then .error () else .ok ():=by
  intro l
  induction l with
  | nil=>intro i;rfl
  | cons x l p=>
   intro i
   simp only [Z1Q,List.any_cons]
   cases b x with
   | true=>rfl
   | false=>exact p _
 rw [this]
 cases l.any b<;>rfl
def Z6V {α:Type} (b:Nat->α->Bool):Nat->List α->Bool
 | _,[]=>false
 | i,x::l=>b i x||Z6V b (i+1) l
theorem Z9y {α V K:Type} (l:List α) (f:Int->V) (b:Nat->α->Bool) {step:V->(V->Res)->K->Res} (q:K) (d g:Res) (k:l.length<=LIM)
  (n:∀ (i:Nat) rec,(j:i<l.length)->step (f i) rec q=bif b i l[i] then g else rec (f ((i:Int)+1))) (m:∀ rec,step (f (l.length:Int)) rec q=d) :
  Z1N step Z1Y (f 0) q=bif Z6V b 0 l then g else d:=by
 have h:=Z3V l (λi (_:Unit)=>f i) (λi _ x=>if b i x then .error () else (.ok ():Except Unit Unit)) (λ_ _=>True) q (λ_=>d) (λ_=>g) () k trivial (λ_ _ _ _ _ _=>trivial)
  (λi a rec j _=>by
   rw [n i rec j]
   cases b i l[i]<;>rfl) (λa rec _=>m rec)
 rw [h]
 have:∀ (l:List α) (i:Nat),Z1Q (λi _ x=>if b i x then .error () else (.ok ():Except Unit Unit)) i l ()=bif Z6V b i l then .error () else .ok ():=by
  intro l
  induction l with
  | nil=>intro i;rfl
  | cons x l p=>
   intro i
   simp only [Z1Q,Z6V]
   cases b i x with
   | true=>rfl
   | false=>exact p _
 rw [this]
 cases Z6V b 0 l<;>rfl
def Z9t {α:Type} (p:α->Bool) (l:List α):Int:=match l.findIdx? p with | some i=>(i:Int) | none=> -1
theorem Z9A {α V K:Type} (l:List α) (b:Int->V) (p:α->Bool) {step:V->(V->Res)->K->Res} (q:K) (k:Int->Res) (f:l.length<=LIM)
  (m:∀ (i:Nat) rec,(d:i<l.length)->step (b i) rec q=bif p l[i] then k i else rec (b ((i:Int)+1))) (g:∀ rec,step (b (l.length:Int)) rec q=k (-1)) :
  Z1N step Z1Y (b 0) q=k (Z9t p l):=by
 have h:=Z3V l (λi (_:Unit)=>b i) (λi _ x=>if p x then .error i else (.ok ():Except Nat Unit)) (λ_ _=>True) q (λ_=>k (-1)) (λi=>k i) () f trivial (λ_ _ _ _ _ _=>trivial)
  (λi a rec d _=>by
   rw [m i rec d]
   cases p l[i]<;>rfl) (λa rec _=>g rec)
 rw [h]
 have:∀ (l:List α) (i:Nat),Z1Q (λi _ x=>if p x then .error i else (.ok ():Except Nat Unit)) i l ()=match l.findIdx? p with | some j=> .error (i+j) | none=> .ok ():=by
  intro l
  induction l with
  | nil=>intro i;rfl
  | cons x l n=>
   intro i
   simp only [Z1Q,List.findIdx?_cons]
   cases r:p x with
   | true=>rfl
   | false=>
    simp only [Bool.false_eq_true,if_false]
    rw [n]
    cases l.findIdx? p with
    | none=>rfl
    | some j=>simp only [Option.map_some];congr 1;omega
 rw [this]
 unfold Z9t
 cases l.findIdx? p with
 | none=>rfl
 | some j=>simp
end Go.PI
