/-
  Program's code interpreted over typed values; printed texts; plain laws. No conditions.
-/
import Derived.Test.YtnemiodjnhfejaaGreatPb
import Derived.KernelRfl
import Derived.WalkKit
import Derived.ProofKit
import Derived.OpenShut
import Derived.Below
import Derived.Carry
import Derived.WideShapes
import Derived.ShutString
import Derived.ChangeOld
set_option linter.unusedVariables false
set_option linter.unusedSimpArgs false
namespace Go.PI
section
variable {W0:Base} {M:Nat->Prop} {σ:State} {a:Act} {w w':World} {G:Ghost} {xs:List Nat} {P:Program} {R:Type} {Γ:Env R} {r:R}
def Z2w (w:World) (F:Nat->Nat) (b:Nat):Nat:=match w.heap[b]? with | some (.cells c _ _)=>max (F b) c.size | _=>F b
theorem Z6v (w:World) (F:Nat->Nat) (b:Nat):F b<=Z2w w F b:=by
 unfold Z2w
 split
 ·exact Nat.le_max_left _ _
 ·exact Nat.le_refl _
theorem Z4v {F:Nat->Nat} {b o n:Nat} {cs:List Value} (h:Z05 w b o n=some cs):o+n<=Z2w w F b:=by
 unfold Z05 at h
 unfold Z2w
 split at h
 ·rename_i c T fr d
  split at h
  ·rw [d];simp only []
   exact Nat.le_trans (by assumption) (Nat.le_max_right _ _)
  ·cases h
 ·cases h
def Old (w:World) (b:Nat):Prop:=b<w.heap.size
theorem Inv.Al_old (I:Inv W0 M σ a w G xs):∀ b,G.Al b->Old w b:=λb e=>by
 cases d:G.who b with
 | none=>exact (I.st b (e.2 d)).2
 | some z=>exact (I.lt b z d).1
theorem Rp.whole (I:Inv W0 M σ a w G xs) {τ:Ty} {tg:List Tag} {cs:List Value} {x:El τ} {fp:List Nat} (h:Rp w G.F G.St G.Al τ tg cs x fp) :
  Rp w (Z2w w G.F) (Old w) (Old w) τ (List.replicate (Z06 τ) .S) cs x []:=by
 have d:Rp w G.F (Old w) (Old w) τ (List.replicate (Z06 τ) .S) cs x []:=h.toS I.Al_old λb e=>(I.st b e).2
 exact d.pres (λ_ h=>h) (λ_ _ h=>h) (λb _=>Z07.of_block rfl (Z6v _ _ _)) (by simp) (.inl λt ht=>by rw [(List.mem_replicate.1 ht).2];rfl)
theorem Z8x (I:Inv W0 M σ a w G xs) {o:Operand} {v:TVal} (h:σ.ptrVal o=some v):Z2E w (Z2w w G.F) (Old w) (Old w) v.τ v.x (a.eval o):=by
 unfold State.ptrVal at h
 have f:=Z0v I o
 have e:∀ {p:Place} {u:TVal} {z:Value},Z0w σ G a w p z->σ.getAt p=some u->Z2E w (Z2w w G.F) (Old w) (Old w) u.τ u.x z:=by
  intro p u z l k
  obtain ⟨cs,b,e,rfl⟩:=l.some k
  obtain ⟨fp,g⟩:=Z2u I k e
  have i:=Z1E I e (w2:=w) ⟨λ_ _ _ _ _ _ _ h=>h,λ_ _ _=>rfl⟩
  rw [g.len.1] at i
  exact ⟨b.1,b.2,cs,rfl,i,Z0X i,Z4v i,g.whole I⟩
 split at h
 ·rename_i p d
  rw [d] at f
  exact e (f (by simp)).2.2.2 h
 ·rename_i p d
  rw [d] at f
  exact e (f (by simp)).2 h
 ·rename_i u t d
  cases h
  rw [d] at f
  obtain ⟨_,_,b,o',cs,m,j,q,y,A,n⟩:=f (by simp)
  exact ⟨b,o',cs,m,j,Z0X j,Z4v j,n.whole I⟩
 ·cases h
theorem Z3n (I:Inv W0 M σ a w G xs):(d:List Place)->(us:List Value)->(vs:List TVal)->σ.placesVal d=some vs->us.length=d.length->(∀ i (h:i<d.length),Z0w σ G a w d[i] (us.getD i undef)) ->
  vs.length=d.length/\SPs w (Z2w w G.F) (Old w) (Old w) (vs.map (·.τ)) (Z6Y vs).τ (Z6Y vs).x us/\∀ i (h:i<vs.length),Z2E w (Z2w w G.F) (Old w) (Old w) vs[i].τ vs[i].x (us.getD i undef)
 | [],us,vs,h,e,_=>by
  simp only [State.placesVal,Option.some.injEq] at h
  subst h
  exact ⟨rfl,List.length_eq_zero_iff.1 e,λi h=>by simp at h⟩
 | p::d,[],vs,h,e,_=>by simp at e
 | p::d,u::us,vs,h,e,q=>by
  simp only [State.placesVal] at h
  split at h
  ·rename_i v l y n
   cases h
   obtain ⟨z,B,C⟩:=Z3n I d us l n (by simpa using e) λi m=>q (i+1) (by simpa using m)
   have k:Z2E w (Z2w w G.F) (Old w) (Old w) v.τ v.x u:=by
    obtain ⟨cs,b,f,A⟩:=(q 0 (by simp)).some y
    obtain ⟨fp,g⟩:=Z2u I y f
    have j:=Z1E I f (w2:=w) ⟨λ_ _ _ _ _ _ _ h=>h,λ_ _ _=>rfl⟩
    rw [g.len.1] at j
    exact ⟨b.1,b.2,cs,A,j,Z0X j,Z4v j,g.whole I⟩
   refine ⟨by simp [z],?_,λi m=> ?_⟩
   ·cases l with
    | nil=>
     have:us=[]:=by
      have D:d.length=0:=by simpa using z.symm
      exact List.length_eq_zero_iff.1 (by simp only [List.length_cons] at e;omega)
     subst this
     exact ⟨rfl,u,rfl,k⟩
    | cons E l=>exact ⟨rfl,u,us,rfl,k,B⟩
   ·cases i with
    | zero=>exact k
    | succ i=>exact C i (by simpa using m)
  ·cases h
theorem Z3b (I:Inv W0 M σ a w G xs):(ms:List Mode)->(d:List Operand)->(vs:List TVal)->Z19 ms d σ=some vs ->
  Z0t w (Z2w w G.F) (Old w) ms vs (d.map a.eval) (vs.map λ_=>[]) []/\ms.length=d.length
 | [],[],vs,h=>by
  simp only [Z19,Option.some.injEq] at h
  subst h
  exact ⟨trivial,rfl⟩
 | [],_::_,vs,h=>by simp [Z19] at h
 | .look τ ag::ms,[],vs,h=>by simp [Z19] at h
 | .look τ ag::ms,o::d,vs,h=>by
  simp only [Z19] at h
  split at h
  ·rename_i v A
   split at h
   ·rename_i e
    obtain ⟨l,j,rfl⟩:=Option.map_eq_some_iff.1 h
    obtain ⟨m,n⟩:=Z3b I ms d l j
    obtain ⟨p,q⟩:=Z62 I A
    exact ⟨⟨rfl,by rw [<-e.2];exact q,p.whole I,m⟩,by simp [n]⟩
   ·cases h
  ·cases h
 | .rptr τ::ms,[],vs,h=>by simp [Z19] at h
 | .rptr τ::ms,o::d,vs,h=>by
  simp only [Z19] at h
  split at h
  ·rename_i v A
   split at h
   ·obtain ⟨l,j,rfl⟩:=Option.map_eq_some_iff.1 h
    obtain ⟨m,n⟩:=Z3b I ms d l j
    exact ⟨⟨rfl,Z8x I A,m⟩,by simp [n]⟩
   ·cases h
  ·cases h
 | .rclos f J::ms,[],vs,h=>by simp [Z19] at h
 | .rclos f J::ms,o::d,vs,h=>by
  simp only [Z19] at h
  have u:=Z0v I o
  split at h
  ·rename_i g L k
   rw [k] at u
   obtain ⟨_,us,p,q,Q⟩:=u (by simp)
   split at h
   ·rename_i D B
    split at h
    ·rename_i e
     simp only [Bool.and_eq_true,beq_iff_eq,decide_eq_true_eq] at e
     obtain ⟨rfl,C⟩:=e
     obtain ⟨l,j,rfl⟩:=Option.map_eq_some_iff.1 h
     obtain ⟨m,n⟩:=Z3b I ms d l j
     obtain ⟨_,H,_⟩:=Z3n I L us.toList D B (by simpa using q) λi K=>by
      have:=(Q i K).2.2
      rwa [Array.getD_eq_getD_getElem?,<-Array.getElem?_toList,<-List.getD_eq_getElem?_getD] at this
     rw [C] at H
     exact ⟨⟨rfl,⟨us,p,H⟩,m⟩,by simp [n]⟩
    ·cases h
   ·cases h
  ·rename_i g E v k
   rw [k] at u
   obtain ⟨_,us,p,q⟩:=u (by simp)
   split at h
   ·rename_i e
    simp only [Bool.and_eq_true,beq_iff_eq,decide_eq_true_eq] at e
    obtain ⟨rfl,rfl⟩:=e
    obtain ⟨l,j,rfl⟩:=Option.map_eq_some_iff.1 h
    obtain ⟨m,n⟩:=Z3b I ms d l j
    refine ⟨⟨rfl,⟨us,p,?_⟩,m⟩,by simp [n]⟩
    have z:SPs w G.F (Old w) (Old w) E v.τ v.x us.toList:=SPs.pres (λb y=>(I.st b y).2) (λb _ y=>I.Al_old b y) (λb _=>Z07.refl _ _ _) _ _ _ _ q
    exact SPs.pres (λ_ h=>h) (λ_ _ h=>h) (λb _=>Z07.of_block rfl (Z6v _ _ _)) _ _ _ _ z
   ·cases h
  ·cases h
 | .borrow τ ag::ms,d,vs,h=>by cases d<;>simp [Z19] at h
 | .consume τ ag::ms,d,vs,h=>by cases d<;>simp [Z19] at h
 | .eat τ ag::ms,d,vs,h=>by cases d<;>simp [Z19] at h
 | .inout τ ag::ms,d,vs,h=>by cases d<;>simp [Z19] at h
 | .ptr τ::ms,d,vs,h=>by cases d<;>simp [Z19] at h
 | .clos g J::ms,d,vs,h=>by cases d<;>simp [Z19] at h
theorem Z5R {F:Nat->Nat} {St:Nat->Prop}:(d:List Mode)->(b:List TVal)->(us:List Value)->Z1u d b=true->us.length=b.length->(∀ i (h:i<b.length),Z2E w F St St b[i].τ b[i].x (us.getD i undef)) ->
  Z0t w F St d b us (b.map λ_=>[]) []
 | [],[],us,_,e,_=>by
  have:us=[]:=List.length_eq_zero_iff.1 e
  subst this
  trivial
 | [],_::_,_,h,_,_=>by simp [Z1u] at h
 | .rptr τ::d,[],_,h,_,_=>by simp [Z1u] at h
 | .rptr τ::d,v::b,[],h,e,_=>by simp at e
 | .rptr τ::d,v::b,u::us,h,e,f=>by
  simp only [Z1u,Bool.and_eq_true] at h
  exact ⟨rfl,f 0 (by simp),Z5R d b us h.2 (by simpa using e) λi j=>f (i+1) (by simpa using j)⟩
 | .borrow τ ag::ms,vs,_,h,_,_=>by cases vs<;>simp [Z1u] at h
 | .consume τ ag::ms,vs,_,h,_,_=>by cases vs<;>simp [Z1u] at h
 | .eat τ ag::ms,vs,_,h,_,_=>by cases vs<;>simp [Z1u] at h
 | .inout τ ag::ms,vs,_,h,_,_=>by cases vs<;>simp [Z1u] at h
 | .ptr τ::ms,vs,_,h,_,_=>by cases vs<;>simp [Z1u] at h
 | .clos g k::ms,vs,_,h,_,_=>by cases vs<;>simp [Z1u] at h
 | .look τ ag::ms,vs,_,h,_,_=>by cases vs<;>simp [Z1u] at h
 | .rclos g k::ms,vs,_,h,_,_=>by cases vs<;>simp [Z1u] at h
theorem Z2d {F:Nat->Nat} {St:Nat->Prop} {k:List Mode} {l:List TVal} {m:List Value} {d:List (List Nat)} (n:Z0t w F St k l m d []) :
  (ms:List Mode)->(vs:List TVal)->(xs:List Value)->(b:List (List Nat))->ms.all Mode.isLook=true->Z0t w F St ms vs xs b []->Z0t w F St (ms++k) (vs++l) (xs++m) (b++d) []
 | [],vs,xs,b,_,h=>by
  cases vs<;>cases xs<;>cases b<;>first | exact n | exact h.elim
 | .look τ ag::ms,vs,xs,b,j,h=>by
  cases vs<;>cases xs<;>cases b<;>first | exact h.elim | skip
  obtain ⟨e,f,p,i⟩:=h
  exact ⟨e,f,p,Z2d n ms _ _ _ (by simpa [Mode.isLook] using j) i⟩
 | .rptr τ::ms,vs,xs,b,j,h=>by
  cases vs<;>cases xs<;>cases b<;>first | exact h.elim | skip
  obtain ⟨e,f,i⟩:=h
  exact ⟨e,f,Z2d n ms _ _ _ (by simpa [Mode.isLook] using j) i⟩
 | .rclos g q::ms,vs,xs,b,j,h=>by
  cases vs<;>cases xs<;>cases b<;>first | exact h.elim | skip
  obtain ⟨e,f,i⟩:=h
  exact ⟨e,f,Z2d n ms _ _ _ (by simpa [Mode.isLook] using j) i⟩
 | .borrow τ ag::ms,_,_,_,h,_=>by simp [Mode.isLook] at h
 | .consume τ ag::ms,_,_,_,h,_=>by simp [Mode.isLook] at h
 | .eat τ ag::ms,_,_,_,h,_=>by simp [Mode.isLook] at h
 | .inout τ ag::ms,_,_,_,h,_=>by simp [Mode.isLook] at h
 | .ptr τ::ms,_,_,_,h,_=>by simp [Mode.isLook] at h
 | .clos g q::ms,_,_,_,h,_=>by simp [Mode.isLook] at h
theorem Z33:(ms:List Mode)->(xs:List Value)->ms.all Mode.isLook=true->Z0Y ms xs=[]
 | [],xs,_=>by cases xs<;>rfl
 | .look τ ag::ms,xs,h=>by
  cases xs with
  | nil=>rfl
  | cons x xs=>exact Z33 ms xs (by simpa [Mode.isLook] using h)
 | .rptr τ::ms,xs,h=>by
  cases xs with
  | nil=>rfl
  | cons x xs=>exact Z33 ms xs (by simpa [Mode.isLook] using h)
 | .rclos g b::ms,xs,h=>by
  cases xs with
  | nil=>rfl
  | cons x xs=>exact Z33 ms xs (by simpa [Mode.isLook] using h)
 | .borrow τ ag::ms,_,h=>by simp [Mode.isLook] at h
 | .consume τ ag::ms,_,h=>by simp [Mode.isLook] at h
 | .eat τ ag::ms,_,h=>by simp [Mode.isLook] at h
 | .inout τ ag::ms,_,h=>by simp [Mode.isLook] at h
 | .ptr τ::ms,_,h=>by simp [Mode.isLook] at h
 | .clos g b::ms,_,h=>by simp [Mode.isLook] at h
theorem Z7l (l:List TVal):(l.map λ_=>([]:List Nat)).flatten=[]:=by
 induction l with
 | nil=>rfl
 | cons v l b=>simp
theorem Z59 {F:Nat->Nat} {St:Nat->Prop} {G':Ghost}:(rs:List TVal)->(vs:List Value)->(b:List (List Nat))->Z3a w' F St rs vs b->(∀ v∈rs,Z06 v.τ=0)->b.flatten=[]/\Z0j w' G' rs vs b
 | [],vs,b,h,_=>by cases vs<;>cases b<;>first | exact ⟨rfl,trivial⟩ | exact h.elim
 | u::rs,vs,b,h,d=>by
  cases vs<;>cases b<;>first | exact h.elim | skip
  obtain ⟨⟨e,_,f⟩,g⟩:=h
  obtain ⟨j,k⟩:=Z59 rs _ _ g λv i=>d v (List.mem_cons_of_mem _ i)
  obtain ⟨l,m,n⟩:=f.leafless (F':=G'.F) (St':=G'.St) (Al':=G'.Al) (d u (by simp))
  subst m
  exact ⟨by simpa using j,⟨e,by rw [l];exact n⟩,k⟩
theorem Inv.newer (I:Inv W0 M σ a w G []) {F':Nat->Nat} (e:Ext (·∈ ([]:List Nat)) w w') :
  ∃ G',Inv W0 M σ a w' G' []/\Calmer w G w' G':=by
 let G':Ghost:={ G with F:=λb=>if b<w.heap.size then G.F b else F' b }
 have g:∀ b,b<w.heap.size->Z07 w G.F w' G'.F b/\G'.F b=G.F b:=by
  intro b d
  have j:G'.F b=G.F b:=if_pos d
  exact ⟨Z07.of_block (e.block b d (by simp)) (by rw [j];exact Nat.le_refl _),j⟩
 have f:∀ b z,G.who b=some z->b<w.heap.size:=λb z h=>(I.lt b z h).1
 have m:Same σ w G w' G':=⟨rfl,rfl,rfl,λ_ _ h _=>h,λ_ _ h=>h,λ_ h=>h,λb h=>(g b (I.st b h).2).1,λb z h _ _=>g b (f b z h),λi v h=>e.block _ (f _ _ (I.box i v h).2) (by simp),.inr λb d _=>(g b d).1⟩
 refine ⟨G',I.world m (λb d=>⟨(I.st b d).1,by have:=(I.st b d).2;have:=e.size;omega⟩) (λb z d=>⟨by have:=f b z d;have:=e.size;omega,(I.lt b z d).2⟩) ?_ (λb d=>by cases d) List.nodup_nil ⟨λb d l=> ?_,I.org.St,I.org.St'⟩,⟨λw2 k=>⟨λb d p o n cs q j=> ?_,λi b d=> ?_⟩,λw2 k i b d=> ?_⟩⟩
 ·refine ⟨e.os.trans I.ext.os,e.tape.trans I.ext.tape,e.output.trans I.ext.output,by have:=I.ext.size;have:=e.size;omega,λb d l=> ?_⟩
  rw [e.block b (by have:=I.ext.size;omega) (by simp)]
  exact I.ext.block b d l
 ·rw [(g b (by have:=I.ext.size;omega)).2]
  exact I.org.F b d l
 ·refine k.1 b (by have:=e.size;omega) p o n cs (by rw [(g b d).2];exact q) ?_
  rw [Z10 (e.block b d (by simp))];exact j
 ·rw [k.2 i b d]
  exact e.block b (f b _ d) (by simp)
 ·rw [k i b d]
  exact e.block b (f b _ d) (by simp)
theorem Z6B {g:FuncId} {p:Sig R} (hs:Z17 P g p) (I:Inv W0 M σ a w G []) (Y:p.modes.all Mode.isLook=true) {T:List Operand} {d:List TVal} {us:List Value} (K:us.length=d.length)
  (L:∀ i (h:i<d.length),Z2E w (Z2w w G.F) (Old w) (Old w) d[i].τ d[i].x (us.getD i undef)) {k:TV->State->Option R} (h:Z6W p T d σ k=some r) :
  Calls P g (T.map a.eval++us).toArray w λe w'=>∃ f G' V vs,e= .returned (Z1H vs)/\k (Z6Z f) σ=some r/\Inv W0 M σ a w' G' (V.flatten++[])/\Z0j w' G' f vs V/\Calmer w G w' G':=by
 unfold Z6W at h
 split at h
 ·rename_i vals y
  split at h
  ·rename_i A
   obtain ⟨q1,q2⟩:=Z3b I _ _ _ y
   have q3:=Z5R (w:=w) (F:=Z2w w G.F) (St:=Old w) _ _ us A K L
   have u:(p.modes.take T.length).all Mode.isLook=true:=List.all_eq_true.2 λm J=>List.all_eq_true.1 Y m (List.mem_of_mem_take J)
   have E:=Z2d q3 _ _ _ _ u q1
   rw [List.take_append_drop,<-List.map_append] at E
   have j:((vals++d).map λ_=>([]:List Nat)).flatten=[]:=Z7l _
   generalize ((vals++d).map λ_=>([]:List Nat))=fps at E j
   refine (hs.2 _ [] _ r h w (Z2w w G.F) (Old w) _ [] _ [] E trivial (by simp [j]) (λb hb=>⟨hb,by simp [j]⟩) (by simp [j])).mono λe w'=> ?_
   rintro ⟨v,f,Q,U,rfl,l,⟨hty,_,_⟩,X,F',St',vs,q,D,⟨rfl,B,hvl⟩,n,z,W,hF,hS1,hS2,Z,hR⟩
   rw [Z33 _ _ Y] at B n
   have C:Q=[]:=List.length_eq_zero_iff.1 B
   subst C
   rw [List.append_nil,List.append_nil] at n
   obtain ⟨rfl,rfl⟩:=Z1b.nils z
   simp only [j,List.flatten_nil,List.append_nil] at W
   simp only [List.isEmpty_nil,Bool.true_and] at l
   rw [Z1Q] at l
   obtain ⟨H,l⟩:=l
   obtain ⟨G',I',hC⟩:=I.newer (F':=F') W
   obtain ⟨e1,e2⟩:=Z59 (G':=G') f vs q n λv hv=>by
    have:=List.all_eq_true.1 H v hv
    simpa using this
   refine ⟨f,G',q,vs,rfl,?_,by rw [e1];exact I',e2,hC⟩
   match f,l with
   | [],l=>exact l
   | [_],l=>exact l
   | _::_::_,l=>exact l
  ·cases h
 ·cases h
theorem Z6g {F:Nat->Nat} {St Al:Nat->Prop}:(e:List Ty)->(τ:Ty)->(x:El τ)->(us:List Value)->(vs:List TVal)->Z4n e τ x=some vs->SPs w F St Al e τ x us ->
  us.length=vs.length/\∀ i (h:i<vs.length),Z2E w F St Al vs[i].τ vs[i].x (us.getD i undef)
 | [],_,_,us,vs,h,d=>by
  simp only [Z4n,Option.some.injEq] at h
  subst h
  have:us=[]:=d
  subst this
  exact ⟨rfl,λi h=>by simp at h⟩
 | [v],τ,x,us,vs,h,d=>by
  simp only [Z4n] at h
  split at h
  ·cases h
   obtain ⟨_,u,rfl,f⟩:=d
   refine ⟨rfl,λi g=> ?_⟩
   cases i with
   | zero=>exact f
   | succ i=>simp at g
  ·cases h
 | v::k::e,.pair a b,x,us,vs,h,d=>by
  simp only [Z4n] at h
  split at h
  ·obtain ⟨l,n,rfl⟩:=Option.map_eq_some_iff.1 h
   obtain ⟨_,u,j,rfl,f,m⟩:=d
   obtain ⟨p,q⟩:=Z6g (k::e) b x.2 j l n m
   refine ⟨by simp [p],λi g=> ?_⟩
   cases i with
   | zero=>exact f
   | succ i=>exact q i (by simpa using g)
  ·cases h
 | _::_::_,.int _,_,_,_,_,h=>h.elim
 | _::_::_,.bool,_,_,_,_,h=>h.elim
 | _::_::_,.str,_,_,_,_,h=>h.elim
 | _::_::_,.unit,_,_,_,_,h=>h.elim
 | _::_::_,.slice _,_,_,_,_,h=>h.elim
end
end Go.PI
namespace Go.PI
theorem Z7j {w:World} {F:Nat->Nat} {St Al:Nat->Prop}:{τ:Ty}->{tg:List Tag}->{cs:List Value}->{x:El τ}->{fp:List Nat}->Rp w F St Al τ tg cs x fp->Z53 τ x=true->Rp w F St Al τ (List.replicate (Z06 τ) .S) cs x []
 | .int _,_,_,_,_,h,_=>⟨h.1,rfl,rfl⟩
 | .bool,_,_,_,_,h,_=>⟨h.1,rfl,rfl⟩
 | .str,_,_,_,_,h,_=>⟨h.1,rfl,rfl⟩
 | .unit,_,_,_,_,h,_=>⟨h.1,rfl,rfl⟩
 | .slice e,_,_,x,_,h,d=>by
  obtain ⟨t,a,cap,rfl,rfl,f,_⟩:=h
  have l:x=([]:List (El e)):=List.isEmpty_iff.1 d
  exact ⟨.S,a,cap,rfl,rfl,f,.inr (.inr ⟨rfl,rfl,.inl l⟩)⟩
 | .pair a b,_,_,_,_,h,d=>by
  obtain ⟨p,q,g,i,m,n,rfl,rfl,rfl,j,k⟩:=h
  simp only [Z53,Bool.and_eq_true] at d
  exact ⟨_,_,g,i,[],[],by simp [Z06],rfl,rfl,Z7j j d.1,Z7j k d.2⟩
section
variable {W0:Base} {M:Nat->Prop} {σ:State} {a:Act} {w:World} {G:Ghost} {xs:List Nat}
theorem Z3f (σ:State) (i:Nat):σ.renil.boxAt i=Z4i (σ.boxAt i):=Z2s _ rfl _ _
theorem Sim.fb (G:Ghost) (fb:Nat->List Nat):Sim G { G with fb:=fb }:=⟨rfl,rfl,rfl,rfl,λ_ _=>Iff.rfl⟩
theorem Z7S {b:Option TVal} {v:TVal} (h:Z4i b=some v):∃ u,b=some u/\(v=u\/(Z53 u.τ u.x=true/\v={ u with tg:=u.tg.map λ_=> .S })):=by
 cases b with
 | none=>cases h
 | some u=>
  simp only [Z4i] at h
  cases e:u.noN
  ·cases d:Z53 u.τ u.x
   ·rw [e,d] at h;cases h;exact ⟨_,rfl,.inl rfl⟩
   ·rw [e,d] at h;cases h;exact ⟨_,rfl,.inr ⟨d,rfl⟩⟩
  ·rw [e] at h;cases h;exact ⟨_,rfl,.inl rfl⟩
theorem Z9g (σ:State) (p:Place):σ.renil.ct p=σ.ct p:=by
 obtain ⟨box,b,path⟩:=p
 cases box with
 | true=>
  simp only [State.ct,State.content]
  rw [Z3f]
  cases σ.boxAt b with
  | none=>rfl
  | some u=>
   simp only [Z4i]
   cases u.noN
   ·cases Z53 u.τ u.x<;>rfl
   ·rfl
 | false=>rfl
theorem Inv.renil (I:Inv W0 M σ a w G xs):∃ fb,Inv W0 M σ.renil a w { G with fb:=fb } xs:=by
 classical
 have l:Z84 σ σ.renil:=λp=> .inl (Z9g σ p)
 refine ⟨λi=>if σ.renil.boxAt i=σ.boxAt i then G.fb i else [],⟨I.defers,I.len,λi n=> ?_,λi v g=> ?_,I.whoS,λi b f=> ?_,I.whoX,I.nodS,λi=> ?_,I.nodX,I.st,I.lt,I.ext,I.adx,⟨I.org.F,I.org.St,I.org.St'⟩,I.pin⟩⟩
 ·have h:Z01 σ G a w (σ.slot i) (a.tmps.getD i undef) (G.fs i):=I.slot i n
  exact Z01.ghost rfl rfl (λ_=>rfl) rfl (h.less l)
 ·by_cases d:σ.renil.boxAt i=σ.boxAt i
  ·have h:(∃ c T,w.heap[G.ad i]? = some (.cells c T (0,0))/\Rp w G.F G.St G.Al v.τ v.tg c.toList v.x (G.fb i))/\G.who (G.ad i)=some (.a i):=I.box i v (d ▸ g)
   simp only [d,if_true]
   exact h
  ·rw [Z3f] at g
   obtain ⟨u,k,h⟩:=Z7S g
   rcases h with rfl | ⟨q,rfl⟩
   ·exact absurd (by rw [Z3f,g,k]) d
   ·obtain ⟨⟨c,T,m,j⟩,r⟩:=I.box i u k
    simp only [d,if_false]
    refine ⟨⟨c,T,m,?_⟩,r⟩
    have:=Z7j j q
    have e:(u.tg.map λ_=>Tag.S)=List.replicate (Z06 u.τ) .S:=by
     rw [<-j.len.2,List.map_const']
    rw [e]
    exact this
 ·simp only [] at f
  split at f
  ·exact I.whoC i b f
  ·simp at f
 ·simp only []
  split
  ·exact I.nodC i
  ·simp
theorem Z3j:(rs:List Nat)->(l:List TVal)->σ.boxesAt rs=some l->(∀ v∈l,v.noN=true)->σ.renil.boxesAt rs=some l
 | [],l,h,_=>h
 | x::rs,l,h,d=>by
  simp only [State.boxesAt] at h ⊢
  split at h
  ·rename_i v l' f b
   cases h
   rw [Z3f,f,Z3j rs l' b λu e=>d u (List.mem_cons_of_mem _ e)]
   simp [Z4i,d v (by simp)]
  ·cases h
end
end Go.PI
namespace Go.PI
section
variable {W0:Base} {M:Nat->Prop} {σ σ3:State} {a:Act} {w w' w3:World} {G G3:Ghost} {xs:List Nat} {P:Program} {R:Type} {Γ:Env R} {r:R} {tys:List (TypeId×Ty×List TypeId)}
theorem Z5b {p:Place} (h:Z08 p.path=true):(l:List TV)->(i:Nat)->(σ:State)->Z0W p l i σ=σ
 | [],_,_=>rfl
 | t::l,i,σ=>by
  have b:Z4g p t=false:=by cases t<;>simp [Z4g,h]
  simp only [Z0W,b,Bool.false_eq_true,if_false]
  split<;>exact Z5b h l (i+1) σ
theorem Z4K:{p:List Step}->{τ:Ty}->{x:El τ}->{tg:List Tag}->{u:TVal}->Z08 p=true->Z04 τ x tg p=some u->Z0d τ p=some u.τ
 | [],τ,x,tg,u,_,h=>by
  cases τ<;>(simp only [Z04,Option.some.injEq] at h;subst h;rw [Z1G])
 | .fst::p,.pair a b,x,tg,u,d,h=>by
  simp only [Z04] at h
  simp only [Z0d]
  exact Z4K (p:=p) d h
 | .snd::p,.pair a b,x,tg,u,d,h=>by
  simp only [Z04] at h
  simp only [Z0d]
  exact Z4K (p:=p) d h
 | .idx _::_,_,_,_,_,d,_=>by cases d
 | .fst::_,.int _,_,_,_,_,h=>by simp [Z04] at h
 | .fst::_,.bool,_,_,_,_,h=>by simp [Z04] at h
 | .fst::_,.str,_,_,_,_,h=>by simp [Z04] at h
 | .fst::_,.unit,_,_,_,_,h=>by simp [Z04] at h
 | .fst::_,.slice _,_,_,_,_,h=>by simp [Z04] at h
 | .snd::_,.int _,_,_,_,_,h=>by simp [Z04] at h
 | .snd::_,.bool,_,_,_,_,h=>by simp [Z04] at h
 | .snd::_,.str,_,_,_,_,h=>by simp [Z04] at h
 | .snd::_,.unit,_,_,_,_,h=>by simp [Z04] at h
 | .snd::_,.slice _,_,_,_,_,h=>by simp [Z04] at h
theorem Z0B.sim {σ':State} {G':Ghost} {p:Place} {cs:List Value} {base:Option (Nat×Nat)} (e:σ'.ct p=σ.ct p) (d:G'.ad=G.ad) (h:Z0B σ G a w p cs base):Z0B σ' G' a w p cs base:=by
 obtain ⟨τ,l,b,g,f,i⟩:=h
 exact ⟨τ,l,b,e.trans g,by unfold Z09 at f ⊢;rw [d];exact f,i⟩
structure Held (σ:State) (a:Act) (w:World) (G:Ghost) (p:Place) (c u:TVal) (l:List Value) (bs:Option (Nat×Nat)) (cs:List Value) (b off:Nat) (fpc fpo fpi:List Nat):Prop where
 con:σ.content p=some c
 loc:Z09 G a w p=some (l,bs)
 at_:Z00 w c.τ l bs p.path=some (cs,some (b,off))
 lens:Lens w G.F G.St G.Al c.τ c.tg l c.x fpc bs p.path cs (some (b,off)) u fpo fpi
 cell:∃ C T fr,w.heap[b]? = some (.cells C T fr)/\off+size u.τ<=C.size/\Z40 C fr
 box:p.box=true->((∃ cc T,w.heap[G.ad p.root]? = some (.cells cc T (0,0))/\l=cc.toList)/\bs=some (G.ad p.root,0)/\G.who (G.ad p.root)=some (.a p.root)/\p.root<σ.boxes.length /\
  ∀ j,j<σ.slots.length->Z1t p.root ((σ.loosen true p.root).slot j) (a.tmps.getD j undef) (Z2l (G.ad p.root) c.τ))
 slot:p.box=false->σ.slot p.root= .val c/\p.root<σ.slots.length/\l=Z02 (a.tmps.getD p.root undef)/\Z0f c.ag (a.tmps.getD p.root undef)
 flat:Z08 p.path=true->p.box=true/\b=G.ad p.root/\off=Z0g c.τ p.path
 deep:Z08 p.path=false->b∈fpo
theorem Z6H (I:Inv W0 M σ a w G xs) {p:Place} {c u:TVal} (hc:σ.content p=some c) (hu:σ.getAt p=some u) (hcO:c.allO=true) (V:Z5c σ p=true) (hfl:Z08 p.path=true->p.box=true)
  {cs:List Value} {base:Option (Nat×Nat)} (D:Z0B σ G a w p cs base) :
  ∃ l Y b off n y A v,Held σ a w G p c u l Y cs b off n y A/\Inv W0 M (σ.hold p) a w v (A++(y++xs))/\Sim G v:=by
 obtain ⟨τc,l,Y,ae,q,F⟩:=id D
 have:τc=c.τ:=by rw [State.ct,hc] at ae;simpa using ae.symm
 subst this
 obtain ⟨l',bs',n,H,aa,i⟩:=Z0G I hc
 rw [q] at H
 cases H
 obtain ⟨c',ac,ag⟩:=Z0C hu
 rw [hc] at ac
 cases ac
 have af:∀ z∈n,G.who z=some (if p.box then .c p.root else .s p.root):=by
  intro z W
  rcases i with ⟨d,_,rfl,_⟩ | ⟨d,_,rfl,_⟩
  ·rw [d];exact I.whoC _ z W
  ·rw [d];exact I.whoS _ z W
 have ah:n.Nodup:=by
  rcases i with ⟨_,_,rfl,_⟩ | ⟨_,_,rfl,_⟩
  ·exact I.nodC _
  ·exact I.nodS _
 obtain ⟨y,A,L⟩:=Rp.lens (base:=Y) aa (Z1B.1 hcO) ah (λz W hm=>by
  rcases i with ⟨d,f,_,k⟩ | ⟨_,_,_,k,_⟩
  ·rw [k] at W;cases W
   have g:=af _ hm
   rw [(I.box _ _ f).2,d] at g
   cases g
  ·rw [k] at W;cases W) F ag
 have E:p.box=false->σ.slot p.root= .val c:=by
  intro d
  rcases i with ⟨e,_⟩ | ⟨_,_,_,_,E⟩
  ·rw [d] at e;cases e
  ·rcases E with g | ⟨ags,g⟩
   ·exact g
   ·simp only [Z5c,d,Bool.false_or] at V
    rw [g] at V
    cases V
 have K:∃ b off,base=some (b,off)/\(Z08 p.path=true->p.box=true/\b=G.ad p.root/\off=Z0g c.τ p.path)/\(Z08 p.path=false->b∈y)/\∃ C T fr,w.heap[b]? = some (.cells C T fr)/\off+size u.τ<=C.size/\Z40 C fr:=by
  cases hf:Z08 p.path with
  | false=>
   obtain ⟨b',o',m,g,Z,h3,⟨C,T,fr,h4,h5,h6⟩⟩:=L.deep hf
   exact ⟨b',o',g,λh=>(by cases h),λ_=>Z,C,T,fr,h4,by omega,h6⟩
  | true=>
   have d:=hfl hf
   have g:=L.flat hf
   rcases i with ⟨_,f,_,k⟩ | ⟨e,_⟩
   ·rw [k] at g
    obtain ⟨⟨cc,T,B,ab⟩,_⟩:=I.box _ _ f
    refine ⟨_,_,g,λ_=>⟨d,rfl,by simp⟩,λh=>(by cases h),cc,T,(0,0),B,?_,λj _ h=>by simp at h⟩
    have hτf:=Z4K hf ag
    have Z:=(Z0U (w:=w) (base:=Y) hτf aa.len.1).2
    have hcl:cc.toList.length=size c.τ:=ab.len.1
    simp only [Array.length_toList] at hcl
    omega
   ·rw [d] at e;cases e
 obtain ⟨b,off,rfl,hb1,hb2,Q⟩:=K
 have ai:∃ v,Inv W0 M (σ.hold p) a w v (n++xs)/\Sim G v:=by
  obtain ⟨bx,J,path⟩:=p
  rcases i with ⟨d,f,rfl,_⟩ | ⟨d,U,rfl,_,_⟩
  ·simp only at d f
   subst d
   obtain ⟨v,X,g,_⟩:=I.takeBox f
   exact ⟨v,X,g⟩
  ·simp only at d
   subst d
   obtain ⟨v,X,g,_⟩:=I.takeSlot (E rfl)
   exact ⟨v,X,g⟩
 obtain ⟨v,X,g⟩:=ai
 refine ⟨l,Y,b,off,n,y,A,v,⟨hc,q,F,L,Q,λd=> ?_,λd=> ?_,hb1,hb2⟩,X.perm ?_,g⟩
 ·rcases i with ⟨_,f,_,k⟩ | ⟨e,_⟩
  ·obtain ⟨_,_,_,ak,⟨cc,T,B,_⟩,aj⟩:=I.takeBox f
   refine ⟨⟨cc,T,B,?_⟩,k,ak,Z1C f,aj⟩
   obtain ⟨bx,J,path⟩:=p
   simp only at d
   subst d
   simp only [Z09,B,Option.some.injEq,Prod.mk.injEq] at q
   exact q.1.symm
  ·rw [d] at e;cases e
 ·rcases i with ⟨e,_⟩ | ⟨_,U,_,_,_⟩
  ·rw [d] at e;cases e
  ·have Z:=E d
   have h3:=I.slot p.root U
   rw [Z] at h3
   refine ⟨Z,U,?_,h3.1⟩
   obtain ⟨bx,J,path⟩:=p
   simp only at d
   subst d
   simp only [Z09,Option.some.injEq,Prod.mk.injEq] at q
   exact q.1.symm
 ·have:=L.perm
  rw [<-List.append_assoc]
  exact List.Perm.append_right _ (this.trans List.perm_append_comm)
theorem Z6G {p:Place} {c u v:TVal} {l cs:List Value} {bs:Option (Nat×Nat)} {b off:Nat} {fpc k fpi y:List Nat} (H:Held σ a w G p c u l bs cs b off fpc k fpi) (Z:Inv W0 M σ3 a w3 G3 (y++k)) (hN3:σ3.noN) (had:G3.ad=G.ad)
  (hk:∀ z∈k,G3.F z=G.F z/\w3.heap[z]? = w.heap[z]? /\ (G.Al z->G3.Al z))
  (m:p.box=true->G3.who (G.ad p.root)=some (.a p.root)/\w3.heap[G.ad p.root]? = w.heap[G.ad p.root]? /\ σ3.boxAt p.root=none/\σ3.boxes.length=σ.boxes.length/\∀ j,σ3.slot j=(σ.loosen true p.root).slot j\/σ3.slot j= .dead)
  (hlen:σ3.slots.length=σ.slots.length) (hu1:size u.τ=1) (hvu:v.τ=u.τ) (am:∀ t∈v.tg,t= .O) {v1:Value} (h1:one v1=true) (hRv:Rp w3 G3.F G3.St G3.Al v.τ v.tg [v1] v.x y)
  {e:El c.τ×List Tag} (aj:Z0J c.τ c.x c.tg p.path v=some e) :
  ∃ K,Inv W0 M (σ3.refill p ⟨c.τ,c.ag,e.1,e.2⟩) a (Z0m w3 b off [v1]) K []/\(σ3.refill p ⟨c.τ,c.ag,e.1,e.2⟩).content p=some ⟨c.τ,c.ag,e.1,e.2⟩ /\
   (∃ l',Z09 K a (Z0m w3 b off [v1]) p=some (l',bs)/\(Z08 p.path=false->l'=l))/\∃ C T fr,w3.heap[b]? = some (.cells C T fr)/\off<C.size/\Z40 C fr:=by
 obtain ⟨C,T,fr,hC,ah,al⟩:=H.cell
 rw [hu1] at ah
 have A:w3.heap[b]? = some (.cells C T fr):=by
  cases f:Z08 p.path with
  | false=>rw [(hk b (H.deep f)).2.1];exact hC
  | true=>
   obtain ⟨D,rfl,_⟩:=H.flat f
   rw [(m D).2.1];exact hC
 have hpw:w3.setRow b (Z0c C.toList off [v1]).toArray=Z0m w3 b off [v1]:=Z3W A
 obtain ⟨z,hz,hzc,hzb⟩:∃ z,G3.who b=some z/\(z= .x\/∃ i,z= .a i/\σ3.boxAt i=none)/\(b ∉ y):=by
  cases f:Z08 p.path with
  | false=>
   refine ⟨.x,Z.whoX b (List.mem_append_right _ (H.deep f)),.inl rfl,λhm=> ?_⟩
   exact (List.nodup_append.1 Z.nodX).2.2 b hm b (H.deep f) rfl
  | true=>
   obtain ⟨D,rfl,_⟩:=H.flat f
   refine ⟨_,(m D).1,.inr ⟨_,rfl,(m D).2.2.1⟩,λhm=> ?_⟩
   have:=Z.whoX _ (List.mem_append_left k hm)
   rw [(m D).1] at this
   cases this
 have hW:Wrote w3 (Z0m w3 b off [v1]) b:=by rw [<-hpw];exact Wrote.setRow w3 b _
 obtain ⟨I4,_,hl4⟩:=Z.patch hz hzc hW (G3.F b) (.inl hN3)
 have hF4:(λq=>if q=b then G3.F b else G3.F q)=G3.F:=by funext q;split<;>simp_all
 have hvN:∀ t∈v.tg,t.isN=false:=λt ht=>by rw [am t ht];rfl
 have ac:=hl4 _ _ _ _ _ hRv hzb (.inl hvN)
 have hG4:({ G3 with F:=λq=>if q=b then G3.F b else G3.F q }:Ghost)=G3:=by rw [hF4]
 rw [hG4] at I4 ac
 have ai:∀ q∈k,Put w G.F G.Al (Z0m w3 b off [v1]) G3.F G3.Al (some (b,off)) [v1] q:=by
  intro q hq
  obtain ⟨k1,k2,k3⟩:=hk q hq
  refine ⟨k1,k3,?_⟩
  by_cases X:q=b
  ·subst X
   simp only [Z7o,Z0m]
   rw [Array.getElem?_modify,Array.getElem?_modify,k2]
  ·rw [Z15 X,k2]
   exact (Z15 X).symm
 obtain ⟨L,hpn,htg,U⟩:=H.lens.put _ _ _ _ v _ y e.1 e.2 aj hvu am ac ai
 have aa:Inv W0 M σ3 a (Z0m w3 b off [v1]) G3 (L++[]):=I4.perm (by
  rw [List.append_nil]
  exact (hpn.trans List.perm_append_comm).symm)
 obtain ⟨bx,d,path⟩:=p
 cases bx with
 | true=>
  obtain ⟨⟨⟨cc,Tc,V,E⟩,ae,an,n,I⟩,⟨k1,k2,k3,k4,k5⟩⟩:=And.intro (H.box rfl) (m rfl)
  simp only at V ae an n I k1 k2 k3 k4 k5
  obtain ⟨fs,I5,_⟩:=aa.loosen true d
  obtain ⟨Y,ab,B⟩:∃ Y:Array Value,(Z0m w3 b off [v1]).heap[G.ad d]? = some (.cells Y Tc (0,0))/\Y.toList=(if Z08 path then Z0c l (Z0g c.τ path) [v1] else l):=by
   cases f:Z08 path with
   | false=>
    have hne:G.ad d≠b:=λh=>by
     have h2:=Z.whoX b (List.mem_append_right _ (H.deep f))
     rw [<-h,k1] at h2
     cases h2
    refine ⟨cc,by rw [Z15 hne,k2];exact V,?_⟩
    simp only [Bool.false_eq_true,if_false]
    exact E.symm
   | true=>
    obtain ⟨_,D,ho⟩:=H.flat f
    simp only at D ho
    subst D
    rw [V] at hC
    cases hC
    refine ⟨(Z0c C.toList off [v1]).toArray,?_,?_⟩
    ·simp only [Z0m]
     rw [Array.getElem?_modify,A]
     simp
    ·simp only [if_true]
     rw [E,ho]
  have Q:Rp (Z0m w3 b off [v1]) G3.F G3.St G3.Al c.τ e.2 Y.toList e.1 L:=by rw [B];exact U
  obtain ⟨K,J,e1,e2,e3,e4,e5⟩:=Inv.addBox (xs:=[]) I5 (i:=d) (g:=G.ad d) (c:=Y) (T:=Tc) (v:=⟨c.τ,c.ag,e.1,e.2⟩) (by
   show d<σ3.boxes.length
   rw [k4];exact n) ab k1 Q (λj hj=>by
   have hj':j<σ.slots.length:=by
    have:j<σ3.slots.length:=by simpa [State.loosen,Z0b] using hj
    omega
   refine (I j hj').or_dead ?_
   rw [Z0i]
   rcases k5 j with h | h
   ·rw [h];exact TV.loosen_or _ _ _
   ·rw [h];exact .inr rfl) (.inr (by show G3.ad d=_;rw [had]))
  refine ⟨K,J,?_,?_,C,T,fr,A,by omega,al⟩
  ·show ((σ3.loosen true d).putBox d _).boxAt d=_
   rw [Z0D,if_pos ⟨rfl,by
    show d<σ3.boxes.length
    rw [k4];exact n⟩]
  ·refine ⟨Y.toList,?_,λf=> ?_⟩
   ·have:K.ad d=G.ad d:=by rw [e5];exact if_pos rfl
    simp only [Z09]
    rw [this,ab,ae]
   ·simp only at f
    rw [B,f];rfl
 | false=>
  obtain ⟨hsl,n,W,ak⟩:=H.slot rfl
  simp only at hsl n W ak
  have f:Z08 path=false:=by
   cases f:Z08 path with
   | false=>rfl
   | true=>have:=(H.flat f).1;cases this
  simp only [f,Bool.false_eq_true,if_false] at U
  have Q:Rp (Z0m w3 b off [v1]) G3.F G3.St G3.Al c.τ e.2 (Z02 (a.tmps.getD d undef)) e.1 L:=by rw [<-W];exact U
  obtain ⟨K,J,hs5⟩:=aa.put (i:=d) (tv:= .val ⟨c.τ,c.ag,e.1,e.2⟩) (v:=a.tmps.getD d undef) ⟨ak,Q⟩ (λhi=>Z.pin d hi) (.inr rfl)
  rw [Z4Q] at J
  have af:bs=none:=by
   have:=H.loc
   simp only [Z09,Option.some.injEq,Prod.mk.injEq] at this
   exact this.2.symm
  refine ⟨K,J,?_,⟨l,?_,λ_=>rfl⟩,C,T,fr,A,by omega,al⟩
  ·show (match ((σ3.put d (.val ⟨c.τ,c.ag,e.1,e.2⟩))).slot d with | .val v=>some v | .tup v _=>some v | _=>none)=_
   rw [Z4I,if_pos ⟨rfl,by omega⟩]
  ·simp only [Z09]
   rw [W,af]
end
end Go.PI
namespace Go.PI
section
variable {W0:Base} {M:Nat->Prop} {σ σ3:State} {a:Act} {w w' w3:World} {G G3:Ghost} {xs:List Nat} {P:Program} {R:Type} {Γ:Env R} {r:R} {tys:List (TypeId×Ty×List TypeId)}
theorem Z5z (I:Inv W0 M σ a w G xs) {p:Place} {c u Z:TVal} {l cs:List Value} {m:Option (Nat×Nat)} {b off:Nat} {aa ac ab:List Nat} (H:Held σ a w G p c u l m cs b off aa ac ab) {σ':State} {B:Ghost} {v1:Value} {d:Nat}
  (I5:Inv W0 M σ' a (Z0m w3 b off [v1]) B []) (y:σ'.content p=some Z) (K:Z.τ=c.τ) (W:∃ l',Z09 B a (Z0m w3 b off [v1]) p=some (l',m)/\(Z08 p.path=false->l'=l)) (q:∃ C T fr,w3.heap[b]? = some (.cells C T fr)/\off<C.size/\Z40 C fr)
  (h1:one v1=true) (hnd:W0.np<=d) (hdl:d<σ.slots.length) (L:p.box=true\/d≠p.root) (ae:Z2L p.path=true) :
  ∃ k,HoleSt W0 M ((Z0W p σ.slots 0 σ').puto (some d) .dead) (a.put (some d) v1) w3 d p (Z0m w3 b off [v1]) k b off v1:=by
 obtain ⟨l',U,V⟩:=W
 have X:∃ k,Inv W0 M (Z0W p σ.slots 0 σ') a (Z0m w3 b off [v1]) k []/\(Z0W p σ.slots 0 σ').ct p=some c.τ/\Z09 k a (Z0m w3 b off [v1]) p=some (l',m):=by
  cases Q:Z08 p.path with
  | true=>
   rw [Z5b Q]
   exact ⟨B,I5,by rw [State.ct,y,<-K];rfl,U⟩
  | false=>
   have z:=V Q
   subst z
   obtain ⟨k,J,RA,hs⟩:=Inv.restore (σ:=σ) (G:=G) (w:=w) (p:=p) (λi hi=>⟨_,I.slot i hi⟩) I.pin σ.slots 0 σ' B (λj=>by rw [Nat.zero_add];rfl) I5 ⟨by
     have D:σ.ct ⟨p.box,p.root,[]⟩=some c.τ:=by
      have:σ.content ⟨p.box,p.root,[]⟩=some c:=H.con
      rw [State.ct,this];rfl
     have h3:σ'.ct ⟨p.box,p.root,[]⟩=some c.τ:=by
      have:σ'.content ⟨p.box,p.root,[]⟩=some Z:=y
      rw [State.ct,this,<-K];rfl
     rw [D,h3],⟨Z,y⟩,by
     have D:Z09 G a w ⟨p.box,p.root,[]⟩=some (l',m):=H.loc
     have h3:Z09 B a (Z0m w3 b off [v1]) ⟨p.box,p.root,[]⟩=some (l',m):=U
     rw [D,h3]⟩
   refine ⟨k,J,?_,?_⟩
   ·have D:σ.ct ⟨p.box,p.root,[]⟩=some c.τ:=by
     have:σ.content ⟨p.box,p.root,[]⟩=some c:=H.con
     rw [State.ct,this];rfl
    exact RA.ct.trans D
   ·exact RA.loc.trans H.loc
 obtain ⟨k,J,f,Y⟩:=X
 have A:∃ n,Z00 (Z0m w3 b off [v1]) c.τ l' m p.path=some (n,some (b,off)):=by
  cases Q:Z08 p.path with
  | true=>exact Z2g Q H.at_
  | false=>
   have z:=V Q
   subst z
   obtain ⟨c',F⟩:∃ c',(Z0W p σ.slots 0 σ').content p=some c':=by
    cases hcc:(Z0W p σ.slots 0 σ').content p with
    | none=>rw [State.ct,hcc] at f;cases f
    | some c'=>exact ⟨c',rfl⟩
   obtain ⟨l'',bs'',fp'',g,E,_⟩:=Z0G J F
   rw [Y] at g
   cases g
   have hτ:c'.τ=c.τ:=by rw [State.ct,F] at f;simpa using f
   obtain ⟨cτ,cag,cx,ctg⟩:=c'
   simp only at hτ E
   subst hτ
   exact Z3V E ae H.at_
 obtain ⟨n,A⟩:=A
 obtain ⟨G7,J7,hs7⟩:=Inv.puto (fp:=[]) (xs:=[]) J (d:=some d) (tv:= .dead) (v:=v1) rfl (λi hi hlt=>by
  simp only [Option.some.injEq] at hi
  omega)
 refine ⟨G7,J7,rfl,?_,h1,⟨c.τ,l',m,n,?_,?_,A⟩,q⟩
 ·simp only [Act.put]
  rw [Array.getD_eq_getD_getElem?,Array.getElem?_setIfInBounds_self_of_lt (by rw [I.len];exact hdl)]
  rfl
 ·rw [Z58 (L.imp id λh e=>h (by simpa using e))]
  exact f
 ·rw [<-Y]
  obtain ⟨bx,root,path⟩:=p
  cases bx with
  | true=>simp only [Z09];rw [hs7.ad]
  | false=>
   simp only [Z09]
   rw [Z57 (by
    rcases L with h | h
    ·cases h
    ·exact λe=>h (by simpa using e))]
theorem Z72 (hT:Z0e P tys) {e:Ty} {sT xT ty et et2:TypeId} {le:List TypeId} (hu:P.underlying sT=some (.slice et)) (ac:P.underlying xT=some (.slice et2)) (Z:Z0o tys et=some (e,le))
  {f fp2:List Nat} (I:Inv W0 M σ a w G (fp2++(f++xs))) (hN:σ.noN) {t':Tag} (ht':t'.isN=false) {ad E:Option Addr} {n cap n' q:Nat} {l m:List (El e)}
  (U:Rp w G.F G.St G.Al (.slice e) [.O] [.slice ad n cap] l f) (W:Rp w G.F G.St G.Al (.slice e) [t'] [.slice E n' q] m fp2) (B:lim (l.length+m.length)=true) (ht0:t'.isO=true\/Z06 e=0) :
  ∃ v w' G' fp,(Builtin.append_ #[sT,xT] ty #[.slice ad n cap,.slice E n' q]).run P w= .ok v w'/\Inv W0 M σ a w' G' (fp++xs)/\Z0f false v/\Rp w' G'.F G'.St G'.Al (.slice e) [.O] (Z02 v) (l++m) fp/\(∃ k,Calmer w G w' k) /\
   G'.ad=G.ad/\(∀ z∈xs,G'.F z=G.F z/\w'.heap[z]? = w.heap[z]? /\ (G.Al z->G'.Al z))/\∀ b i,G.who b=some (.a i)->G'.who b=some (.a i)/\w'.heap[b]? = w.heap[b]? := by
 classical
 have ab:(.O:Tag)=(if Z06 e==0 then Tag.O else Tag.O.inner.meet t'.inner).over:=by
  rcases ht0 with h | h
  ·cases t'<;>first | (cases h;done) | skip
   split<;>rfl
  ·simp [h];rfl
 obtain ⟨v,w',Gp,fpp,D,_,hsh,_,H⟩:=Z4q (ty:=ty) hT hu ac Z I rfl U W B rfl
 have aa:(fp2++f).Nodup:=by
  have:=I.nodX
  rw [<-List.append_assoc] at this
  exact (List.nodup_append.1 this).1
 have K:∀ b∈fp2++f,G.who b=some .x:=λb d=>I.whoX b (by
  rcases List.mem_append.1 d with h | h
  ·exact List.mem_append_left _ h
  ·exact List.mem_append_right _ (List.mem_append_left _ h))
 let W1:Base:={ toWorld:=w,ad0:=λ_=>0,F0:=G.F,St0:=G.St,np:=0,arg:=λ_=>undef }
 let k:Ghost:={ F:=G.F,St:=G.St,who:=λb=>if b∈fp2++f then some .x else none,fs:=λ_=>[],fb:=λ_=>[],ad:=λ_=>0 }
 have Q:∀ b∈fp2++f,k.who b=some .x:=λb d=>if_pos d
 have T:∀ b∈fp2++f,k.Al b:=λb d=>⟨λi h=>(by rw [Q b d] at h;cases h),λh=>(by rw [Q b d] at h;cases h)⟩
 have J:Inv W1 (·∈ fp2++f) ⟨[],[]⟩ { a with tmps:= #[] } w k (fp2++(f++[])):=by
  refine ⟨I.defers,rfl,λi hi=>(by simp at hi),λi v hv=> ?_,λi b d=>(by cases d),λi b d=>(by cases d),λb d=>Q b (by simpa using d),λi=>List.nodup_nil,λi=>List.nodup_nil,by simpa using aa,λb d=> ?_,λb z hz=> ?_,Ext.refl _ _,λi _=>rfl,⟨λ_ _ _=>rfl,λb d=>d,λb d=> .inl d⟩,λi hi=>(by simp [W1] at hi)⟩
  ·simp [State.boxAt,Z0x] at hv
  ·have y:=I.st b d
   refine ⟨if_neg λg=> ?_,y.2⟩
   rw [K b g] at y
   cases y.1
  ·have g:b∈fp2++f:=by
    by_cases g:b∈fp2++f
    ·exact g
    ·have:k.who b=none:=if_neg g
     rw [this] at hz;cases hz
   exact ⟨(I.lt b _ (K b g)).1,.inr g⟩
 have V:Rp w k.F k.St k.Al (.slice e) [.O] [.slice ad n cap] l f:=U.narrow (by simp [Tag.isN]) λb d=>T b (List.mem_append_right _ d)
 have X:Rp w k.F k.St k.Al (.slice e) [t'] [.slice E n' q] m fp2:=W.narrow (by simpa using ht') λb d=>T b (List.mem_append_left _ d)
 obtain ⟨v2,w2,G2,fp,j,p,_,Y,_⟩:=Z4q (ty:=ty) hT hu ac Z J rfl V X B rfl
 rw [D] at j
 simp only [Result.ok.injEq] at j
 obtain ⟨rfl,rfl⟩:=j
 rw [<-ab] at Y
 have I':Inv W0 M σ a w G ((fp2++f)++xs):=by rw [List.append_assoc];exact I
 rw [List.append_nil] at p
 have A:∀ b∈fp,G2.who b=some .x:=p.whoX
 obtain ⟨G',I5,gF,gad,gS,gA,gSs,gR,_,_,_,gAl,gW⟩:=Z3r (R:=fp) (ads:=[]) (gs:=fp2++f) (ks:=xs) (F':=G2.F) (St':=G2.St) I' (by simp) (.inl hN) (Sc:=G.St) (λ_ h=>h) (Ghost.St_Al I) (by simpa using p.ext)
  (λb d g=>p.org.F b d (by simpa using g)) p.org.St (λb d=>⟨by simpa using p.org.St' b d,(p.st b d).2⟩) (by simpa using p.nodX) (λb d=>by
   have d:b∈fp:=by simpa using d
   have y:=p.lt b _ (A b d)
   refine ⟨by simpa using y.2,y.1,λh=> ?_⟩
   have:=(p.st b h).1
   rw [A b d] at this
   cases this)
 have C:∀ b,b<w.heap.size->b ∉ fp2++f->G'.F b=G.F b/\w'.heap[b]? = w.heap[b]? := λb d g=>⟨by rw [gF];exact p.org.F b d g,p.ext.block b d g⟩
 refine ⟨v,w',G',fp,D,I5,hsh,?_,⟨_,H⟩,gad,λz hz=> ?_,λb i d=> ?_⟩
 ·rw [gF]
  exact (Y.narrow (Al':=G'.Al) (by simp [Tag.isN]) λb d=>gR b d).pres (gSs λ_ h=>h) (λ_ _ h=>h) (λb _=>Z07.refl _ _ _) (λb _=>⟨Z07.refl _ _ _,rfl⟩) (.inr λb _ _=>Z07.refl _ _ _)
 ·have hzx:G.who z=some .x:=I.whoX z (List.mem_append_right _ (List.mem_append_right _ hz))
  have u:=(I.lt z _ hzx).1
  have L:z ∉ fp2++f:=λg=>(List.nodup_append.1 I'.nodX).2.2 z g z hz rfl
  obtain ⟨h1,y⟩:=C z u L
  exact ⟨h1,y,gAl z u⟩
 ·have u:=(I.lt b _ d).1
  have L:b ∉ fp2++f:=λg=>by
   have:=K b g
   rw [d] at this
   cases this
  exact ⟨gW b _ d (by simp),(C b u L).2⟩
end
end Go.PI
namespace Go.PI
section
variable {W0:Base} {M:Nat->Prop} {σ:State} {a:Act} {w w':World} {G:Ghost} {P:Program} {R:Type} {Γ:Env R} {r:R}
theorem Z3E:(ms:List Mode)->(d:List Operand)->(σ:State)->(A:Args)->(k:Args->State->Option R)->ms.all Mode.isBorrow=true->Z0n ms d σ A k=some r ->
  Z0n ms d σ A (λj σ'=>if j.writes=A.writes then k j σ' else none)=some r
 | [],[],σ,A,k,_,h=>by simpa [Z0n] using h
 | [],_::_,σ,A,k,_,h=>by simp [Z0n] at h
 | .borrow τ ag::ms,[],σ,A,k,_,h=>by simp [Z0n] at h
 | .borrow τ ag::ms,o::d,σ,A,k,b,h=>by
  simp only [Z0n] at h ⊢
  have e:ms.all Mode.isBorrow=true:=by simpa [Mode.isBorrow] using b
  split at h
  ·split at h
   ·rename_i i
    rw [if_pos i]
    exact Z3E ms d _ _ k e h
   ·cases h
  ·split at h
   ·split at h
    ·rename_i i
     rw [if_pos i]
     exact Z3E ms d _ _ k e h
    ·cases h
   ·cases h
 | .consume τ ag::ms,d,σ,A,k,b,h=>by simp [Mode.isBorrow] at b
 | .eat τ ag::ms,d,σ,A,k,b,h=>by simp [Mode.isBorrow] at b
 | .inout τ ag::ms,d,σ,A,k,b,h=>by simp [Mode.isBorrow] at b
 | .look τ ag::ms,d,σ,A,k,b,h=>by simp [Mode.isBorrow] at b
 | .rptr τ::ms,d,σ,A,k,b,h=>by simp [Mode.isBorrow] at b
 | .rclos g l::ms,d,σ,A,k,b,h=>by simp [Mode.isBorrow] at b
 | .ptr τ::ms,d,σ,A,k,b,h=>by simp [Mode.isBorrow] at b
 | .clos f l::ms,d,σ,A,k,b,h=>by simp [Mode.isBorrow] at b
theorem Z2c:(ms:List Mode)->(d:List Operand)->(σ:State)->(A:Args)->(k:Args->State->Option R)->ms.all Mode.noLend=true->Z0n ms d σ A k=some r ->
  Z0n ms d σ A (λj σ'=>if j.lent=A.lent then k j σ' else none)=some r
 | [],[],σ,A,k,_,h=>by simpa [Z0n] using h
 | [],_::_,σ,A,k,_,h=>by simp [Z0n] at h
 | .borrow τ ag::ms,[],σ,A,k,_,h=>by simp [Z0n] at h
 | .borrow τ ag::ms,o::d,σ,A,k,b,h=>by
  simp only [Z0n] at h ⊢
  have e:ms.all Mode.noLend=true:=by simpa [Mode.noLend] using b
  split at h
  ·split at h
   ·rename_i i
    rw [if_pos i]
    exact Z2c ms d _ _ k e h
   ·cases h
  ·split at h
   ·split at h
    ·rename_i i
     rw [if_pos i]
     exact Z2c ms d _ _ k e h
    ·cases h
   ·cases h
 | .consume τ ag::ms,[],σ,A,k,b,h=>by simp [Z0n] at h
 | .consume τ ag::ms,o::d,σ,A,k,b,h=>by
  simp only [Z0n] at h ⊢
  have e:ms.all Mode.noLend=true:=by simpa [Mode.noLend] using b
  split at h
  ·split at h
   ·rename_i i
    rw [if_pos i]
    exact Z2c ms d _ _ k e h
   ·cases h
  ·cases h
 | .eat τ ag::ms,[],σ,A,k,b,h=>by simp [Z0n] at h
 | .eat τ ag::ms,o::d,σ,A,k,b,h=>by
  simp only [Z0n] at h ⊢
  have e:ms.all Mode.noLend=true:=by simpa [Mode.noLend] using b
  split at h
  ·split at h
   ·rename_i i
    rw [if_pos i]
    exact Z2c ms d _ _ k e h
   ·cases h
  ·cases h
 | .inout τ ag::ms,d,σ,A,k,b,h=>by simp [Mode.noLend] at b
 | .look τ ag::ms,d,σ,A,k,b,h=>by simp [Mode.noLend] at b
 | .rptr τ::ms,d,σ,A,k,b,h=>by simp [Mode.noLend] at b
 | .rclos g l::ms,d,σ,A,k,b,h=>by simp [Mode.noLend] at b
 | .ptr τ::ms,d,σ,A,k,b,h=>by simp [Mode.noLend] at b
 | .clos f l::ms,d,σ,A,k,b,h=>by simp [Mode.noLend] at b
theorem Z8b {g:FuncId} {k:Sig R} (hs:Z17 P g k) {vals:List TVal} {fps:List (List Nat)} {args:List Value}
  {Q:List TVal->List TVal->List TVal->Option R} (I:Inv W0 M σ a w G []) (i:Z0r w G k.modes args vals fps []) (m:fps.flatten=[]) (hrd:k.modes.all Mode.reads=true)
  (K:k.run vals [] Q=some r) :
  Calls P g args.toArray w λe w'=>∃ v d G' j,e= .returned v/\Q d [] []=some r/\Inv W0 M σ a w' G' (j.flatten++[])/\Calmer w G w' G' /\
   ∃ vs,v=Z1H vs/\Z0j w' G' (d.map (TVal.back (vals.all TVal.noN))) vs j:=by
 have hlt:∀ b,G.Al b->b<w.heap.size:=λb l=>by
  cases hz:G.who b with
  | none=>exact (I.st b (l.2 hz)).2
  | some z=>exact (I.lt b z hz).1
 have p:∀ (Sc:Nat->Prop),(∀ b,G.St b->Sc b)->(∀ b,Sc b->G.Al b)->Z0t w G.F Sc k.modes vals args fps [] ->
   Calls P g args.toArray w λe w'=>∃ v d G' j F' St' vs,e= .returned v/\Q d [] []=some r/\Inv W0 M σ a w' G' (j.flatten++[])/\Calmer w G w' G' /\
    v=Z1H vs/\Z3a w' F' St' d vs j/\G'.F=F'/\(∀ b,St' b->G'.Al b)/\((∀ b,Sc b->G.St b)->∀ b,St' b->G'.St b)/\(∀ b∈j.flatten,G'.Al b):=by
  intro Sc Z D hA
  refine (hs.2 vals [] Q r K w G.F Sc args [] fps [] hA trivial (by simp [m]) (λb l=>⟨hlt b (D b l),by simp [m]⟩) (by simp [m])).mono λe w'=> ?_
  rintro ⟨v,d,ios,ext',rfl,J,⟨hty,_,_⟩,hexn,F',St',vs,u,U,⟨rfl,E,_⟩,f,C,hE,hF,Y,B,n,hR⟩
  rw [Z0r.noIo _ _ _ _ _ i] at E f
  have H:ios=[]:=List.length_eq_zero_iff.1 E
  subst H
  rw [List.append_nil,List.append_nil] at f
  obtain ⟨rfl,rfl⟩:=Z1b.nils C
  simp only [m,List.flatten_nil,List.append_nil,List.nil_append] at hE hF B n hR
  obtain ⟨G4,I4,y,gad,V,L,W,A,gads,gC,_⟩:=Z3r (R:=u.flatten) (ads:=[]) (gs:=[]) (ks:=[]) I (by simp) (.inr rfl) (Sc:=Sc) Z D (by simpa using hE) (λb l hm=>hF b l (by simp)) Y
   (λb l=>by simpa using B b l) (by simpa using n) (λb l=>by simpa using hR b (by simpa using l))
  exact ⟨_,d,G4,u,F',St',vs,rfl,J,by simpa using I4,gC rfl,rfl,f,y,L,W,A⟩
 by_cases hn:vals.all TVal.noN=true
 ·refine (p G.St (λ_ h=>h) (Ghost.St_Al I) ?_).mono λe w'=> ?_
  ·exact Z2r I _ _ _ _ [] i (by simpa [List.all_eq_true] using hn) (by intro q hq;cases hq)
  ·rintro ⟨v,d,G',j,F',St',vs,he,J,T,X,hv,f,y,L,V,A⟩
   refine ⟨v,d,G',j,he,J,T,X,vs,hv,?_⟩
   rw [hn,Z4T]
   exact Z3z y (V λ_ h=>h) d vs j f A
 ·refine (p G.Al (Ghost.St_Al I) (λ_ h=>h) ?_).mono λe w'=> ?_
  ·exact Z4s I _ _ _ _ [] i hrd (by intro q hq;cases hq)
  ·rintro ⟨v,d,G',j,F',St',vs,he,J,T,X,hv,f,y,L,V,A⟩
   refine ⟨v,d,G',j,he,J,T,X,vs,hv,?_⟩
   have:vals.all TVal.noN=false:=by simpa using hn
   rw [this]
   exact Z5a y L d vs j f A
theorem Z9B {α β:Type} (l:List α) (m:List β) (h:l.length=m.length):(l.zip m).map (·.1)=l:=List.map_fst_zip (by omega)
theorem Z9C {α β:Type} (l:List α) (m:List β) (h:l.length=m.length):(l.zip m).map (·.2)=m:=List.map_snd_zip (by omega)
theorem Z7r (b:List TVal) (k:TV->State->Option R) (d:State):(match b with
  | []=>k .dead d
  | [r]=>k (.val r) d
  | rs=>k (.tup (Z2q rs) (rs.map (·.ag))) d)=k (Z6Z b) d:=by
 match b with
 | []=>rfl
 | [r]=>rfl
 | _::_::_=>rfl
theorem Z8G (hS:∀ g d,Z0o Γ.fns g=some d->Z17 P g d):Z70 P Γ:=by
 intro W0 M σ a w G o c f k r K Q I T z h hK
 rw [T] at h
 simp only [Z0M,z] at h
 split at h
 ·rename_i g H n
  split at h
  ·rename_i d D
   have hs:=hS g d D
   obtain ⟨fn,cd,hf1,hf2,hf3⟩:=hs.1
   have ac:=Z0v I f (by rw [n];intro v ags hh;cases hh)
   rw [n] at ac
   obtain ⟨_,us,hev,y,hus⟩:=ac
   have C:=Z5K (P:=P) (a:=a) (w:=w) T z hev hf1 hf2 hf3
   split at h
   ·rename_i B
    simp only [Bool.and_eq_true] at B
    split at h
    ·rename_i cvs hcv
     obtain ⟨j1,_,j3⟩:=Z3n I H us.toList cvs hcv (by simpa using y) (λi hi=>by
      have:=(hus i hi).2.2
      rwa [Array.getD_eq_getD_getElem?,<-Array.getElem?_toList,<-List.getD_eq_getElem?_getD] at this)
     have j:(c.args.map a.eval++us)=(c.args.toList.map a.eval++us.toList).toArray:=by
      apply Array.ext'
      simp
     unfold Oper.wp
     rw [C,j,Oper.upon_enter]
     refine (Z6B hs I B.1 (by rw [j1];simpa using y) j3 h).mono λe w'=> ?_
     rintro ⟨U,G',fs,vs,rfl,V,I',ho,hC⟩
     exact hK _ _ _ _ _ _ V I' (Z4l _ vs fs ho) hC.all
    ·cases h
   rename_i hnl
   have W:(d.modes.all Mode.isSee&& !d.modes.isEmpty)=false:=by
    cases hx:(d.modes.all Mode.isSee&& !d.modes.isEmpty) with
    | false=>rfl
    | true=>
     rw [Bool.and_eq_true] at hx
     refine absurd ?_ hnl
     rw [Bool.and_eq_true]
     refine ⟨List.all_eq_true.2 λm hm=> ?_,hx.2⟩
     have:=List.all_eq_true.1 hx.1 m hm
     cases m<;>first | rfl | cases this
   have hcases:(∃ τ ag ms o1 os,d.modes= .inout τ ag::ms/\c.args.toList=o1::os/\H=[]/\Z5S d τ ag ms o1 os σ k=some r)\/Z89 d c.args.toList H σ k=some r:=by
    clear y hus n
    split at h
    ·rename_i τ ag ms o1 os Y e2
     exact .inl ⟨τ,ag,ms,o1,os,Y,e2,rfl,h⟩
    ·exact .inr h
   clear h
   rcases hcases with ⟨τ,ag,ms,o1,os,Y,e2,rfl,h⟩ | h
   ·have hnt:¬ Z1A Γ o.op=true:=by
     intro ht
     rw [T] at ht
     simp only [Z1A,z] at ht
     cases f with
     | func fg=>
      simp only [State.peek,TV.clos.injEq] at n
      obtain ⟨rfl,_⟩:=n
      simp only [D,W,Bool.or_false] at ht
      rw [Y] at ht
      simp [Mode.isBorrow] at ht
     | _=>simp at ht
    have hnh:¬ Z1N Γ o.op=true:=by
     intro ht
     rw [T] at ht
     simp only [Z1N,z] at ht
     cases f with
     | func fg=>
      simp only [State.peek,TV.clos.injEq] at n
      obtain ⟨rfl,_⟩:=n
      simp only [D,W,Bool.or_false] at ht
      rw [Y] at ht
      simp [Mode.noLend] at ht
     | _=>simp at ht
    have hus0:us= #[]:=Array.eq_empty_of_size_eq_zero (by rw [y];rfl)
    have j:(c.args.map a.eval++us)=((o1::os).map a.eval).toArray:=by
     apply Array.ext'
     rw [hus0]
     simp [e2]
    unfold Oper.wp
    rw [C,j,Oper.upon_enter]
    refine (Z9r hs I Y h).mono λe w'=> ?_
    rintro ⟨U,σ',G',fs,vs,rfl,V,I',ho⟩
    exact hK _ _ _ _ _ _ V I' (Z4l _ vs fs ho) ⟨λht=>absurd ht hnt,λht=>absurd ht hnh⟩
   unfold Z89 at h
   split at h
   ·rename_i hc
    simp only [Bool.and_eq_true,beq_iff_eq] at hc
    obtain ⟨⟨hl',hip⟩,hwh⟩:=hc
    have htame:Z1A Γ o.op=true->d.modes.all Mode.isBorrow=true/\H=[]:=by
     intro ht
     rw [T] at ht
     simp only [Z1A,z] at ht
     cases f with
     | func fg=>
      simp only [State.peek,TV.clos.injEq] at n
      obtain ⟨rfl,rfl⟩:=n
      simp only [D,W,Bool.or_false] at ht
      exact ⟨ht,rfl⟩
     | _=>simp at ht
    have aa:Z1N Γ o.op=true->d.modes.all Mode.noLend=true/\H=[]:=by
     intro ht
     rw [T] at ht
     simp only [Z1N,z] at ht
     cases f with
     | func fg=>
      simp only [State.peek,TV.clos.injEq] at n
      obtain ⟨rfl,rfl⟩:=n
      simp only [D,W,Bool.or_false] at ht
      exact ⟨ht,rfl⟩
     | _=>simp at ht
    let kk:Args->State->Option R:=λA Z=>
     let ae:=A.lent++H.map (·.root)
     if Z4j ae&&(!A.writes||A.vals.all λv=>v.noN) then
      match Z.boxesAt ae with
      | some ext=>if ext.all TVal.noN then d.run A.vals ext λU ios ext'=>
        let stable:=A.writes||A.vals.all TVal.noN
        let σ2:=if A.writes then Z.renil.kill else Z
        let σ4:=σ2.putBoxes ae ext'
        if ios.isEmpty then
         (match U.map (TVal.back stable) with
          | []=>k .dead σ4
          | [r]=>k (.val r) σ4
          | rs=>k (.tup (Z2q rs) (rs.map (·.ag))) σ4) else none
       else none
      | none=>none
     else none
    have h:Z0n (d.modes.take c.args.toList.length) c.args.toList σ ⟨[],[],!H.isEmpty⟩ kk=some r:=h
    have h:Z0n (d.modes.take c.args.toList.length) c.args.toList σ ⟨[],[],!H.isEmpty⟩ (λA Z=>if Z1A Γ o.op=true->A.writes=false then kk A Z else none)=some r:=by
     by_cases ht:Z1A Γ o.op=true
     ·obtain ⟨hb1,hb2⟩:=htame ht
      have:=Z3E _ _ _ _ _ (List.all_eq_true.2 λm hm=>List.all_eq_true.1 hb1 m (List.mem_of_mem_take hm)) h
      subst hb2
      simpa [ht] using this
     ·simpa [ht] using h
    have h:Z0n (d.modes.take c.args.toList.length) c.args.toList σ ⟨[],[],!H.isEmpty⟩ (λA Z=>if Z1N Γ o.op=true->A.lent=[] then (if Z1A Γ o.op=true->A.writes=false then kk A Z else none) else none)=some r:=by
     by_cases ht:Z1N Γ o.op=true
     ·obtain ⟨hb1,hb2⟩:=aa ht
      have:=Z2c _ _ _ _ _ (List.all_eq_true.2 λm hm=>List.all_eq_true.1 hb1 m (List.mem_of_mem_take hm)) h
      subst hb2
      simpa [ht] using this
     ·simpa [ht] using h
    obtain ⟨vs,fps,ls,A,Z,G1,E,h2,h3,h4,I1,X,hct,hlen,hAr,hpt⟩:=Z1J _ _ _ _ _ _ _ h I
    split at E
    rotate_left
    ·cases E
    rename_i hhw
    split at E
    ·rename_i htw
     have h2:A.vals=vs:=by simpa using h2
     have h3:A.lent=ls.map (·.1):=by simpa using h3
     let l:List (Nat×Value):=(H.map (·.root)).zip us.toList
     have hl1:l.map (·.1)=H.map (·.root):=Z9B _ _ (by simp [y])
     have hl2:l.map (·.2)=us.toList:=Z9C _ _ (by simp [y])
     have hll:l.length=H.length:=by simp [l,y]
     have J:=Z0r.append_ptr hip (by rw [hl',hll]) _ _ _ _ _ hAr
     rw [List.take_append_drop,hl2] at J
     have hlent:A.lent++H.map (·.root)=(ls++l).map (·.1):=by rw [h3,List.map_append,hl1]
     have hpt':∀ q∈ls++l,Z0w σ G a w ⟨true,q.1,[]⟩ q.2:=by
      intro q hq
      rcases List.mem_append.1 hq with hq | hq
      ·exact hpt q hq
      ·obtain ⟨i,hi,rfl⟩:=List.mem_iff_getElem.1 hq
       have hips:i<H.length:=by omega
       obtain ⟨q1,q2,q3⟩:=hus i hips
       have hw:=List.all_eq_true.1 hwh H[i] (List.getElem_mem _)
       simp only [Place.whole,Bool.and_eq_true,List.isEmpty_iff] at hw
       have hq1:l[i].1=H[i].root:=by simp [l]
       have hq2:l[i].2=us.getD i undef:=by
        have:i<us.size:=by rw [y];exact hips
        simp [l,this]
       rw [hq1,hq2]
       have:H[i]=⟨true,H[i].root,[]⟩:=by
        have Y:=hw.1
        have e2:=hw.2
        cases hpi:H[i] with
        | mk b r p=>rw [hpi] at Y e2;simp only at Y e2;subst Y;subst e2;rfl
       rw [this] at q3
       exact q3
     have j:(c.args.map a.eval++us)=(c.args.toList.map a.eval++us.toList).toArray:=by
      apply Array.ext'
      simp
     simp only [kk] at E
     rw [hlent,h2] at E
     split at E
     ·rename_i hcc
      simp only [Bool.and_eq_true,Bool.or_eq_true,Bool.not_eq_true'] at hcc
      obtain ⟨hnd,hwn⟩:=hcc
      split at E
      ·rename_i ext L
       split at E
       ·rename_i hexn
        have hlp:Z2O G1 (ls++l):=by
         intro q hq
         have hq1:q.1∈(ls++l).map (·.1):=List.mem_map_of_mem hq
         obtain ⟨v,hv⟩:=Z3G _ _ L q.1 hq1
         exact Z6R I1 ((hpt' q hq).sim hct X.ad) hv
        unfold Oper.wp
        rw [C,j,Oper.upon_enter]
        cases hwr:A.writes with
        | true=>
         have hnt:¬ Z1A Γ o.op=true:=λht=>by
          have:=htw ht
          rw [hwr] at this;cases this
         rw [hwr] at E hwn
         simp only [Bool.true_eq_false,false_or,Bool.true_or,if_true] at E hwn
         have I1':Inv W0 M Z a w G1 fps.flatten:=by simpa using I1
         obtain ⟨fb,I2⟩:=I1'.renil
         have hsb:=Sim.fb G1 fb
         refine (Z7M hs I2 (Z0r.up hsb.up _ _ _ _ _ J) (by simpa [List.all_eq_true] using hwn) (λq hq=>hlp q hq) (Z4B _ hnd) (Z3j _ _ L (by simpa [List.all_eq_true] using hexn)) (by simpa [List.all_eq_true] using hexn) E).mono λe w'=> ?_
         rintro ⟨v,U,ext',G',fs,rfl,V,I',⟨vs',rfl,ab⟩,hBc⟩
         simp only [List.isEmpty_nil,if_true] at V
         rw [Z7r,Z4T] at V
         refine hK _ _ _ _ _ _ V I' (Z4l U vs' fs ab) ⟨λht=>absurd ht hnt,λht=> ?_⟩
         have hl0:ls++l=[]:=by
          have Y:=hhw ht
          rw [h3] at Y
          have e2:l=[]:=by
           have:=(aa ht).2
           subst this
           simpa using hll
          rw [e2,List.append_nil]
          exact List.map_eq_nil_iff.1 Y
         exact λw2 hc2=>(X.trans hsb.up).calmer.b w2 (hBc hl0 w2 hc2)
        | false=>
         rw [hwr] at E
         simp only [Bool.false_or,Bool.false_eq_true,if_false] at E
         obtain ⟨p1,p2,p3,p4⟩:=h4 hwr
         have hps:H=[]:=by simpa using p1
         subst hps
         subst p3
         have hls':l=[]:=by simpa using hll
         rw [hls'] at J E L
         simp only [List.append_nil,List.map_nil,State.boxesAt,Option.some.injEq] at J L E
         subst L
         have hmod:d.modes.all Mode.reads=true:=by
          have hd:d.modes.drop c.args.toList.length=[]:=List.length_eq_zero_iff.1 (by simpa using hl')
          rw [<-List.take_append_drop c.args.toList.length d.modes,hd,List.append_nil]
          exact p4
         have I1':Inv W0 M Z a w G1 []:=by simpa [p2] using I1
         refine (Z8b hs I1' J p2 hmod E).mono λe w'=> ?_
         rintro ⟨v,U,G',fs,rfl,V,I',hC,vs',rfl,ab⟩
         simp only [List.isEmpty_nil,if_true] at V
         rw [Z7r] at V
         have hpb:Z.putBoxes [] []=Z:=rfl
         rw [hpb] at V
         exact hK _ _ _ _ _ _ V I' (Z4l _ vs' fs ab) ⟨λ_=>X.calmer.trans hC,λ_=>(X.calmer.trans hC).b⟩
       ·cases E
      ·cases E
     ·cases E
    ·cases E
   ·cases h
  ·cases h
 ·rename_i g τs u n
  split at h
  ·rename_i d cvs D hsv
   split at h
   ·rename_i B
    simp only [Bool.and_eq_true] at B
    have hs:=hS g d D
    obtain ⟨fn,cd,hf1,hf2,hf3⟩:=hs.1
    have ac:=Z0v I f (by rw [n];intro v ags hh;cases hh)
    rw [n] at ac
    obtain ⟨_,us,hev,hsp⟩:=ac
    have C:=Z5K (P:=P) (a:=a) (w:=w) T z hev hf1 hf2 hf3
    have X:SPs w G.F (Old w) (Old w) τs u.τ u.x us.toList:=SPs.pres (λb hb=>(I.st b hb).2) (λb _ hb=>I.Al_old b hb) (λb _=>Z07.refl _ _ _) _ _ _ _ hsp
    have hup2:SPs w (Z2w w G.F) (Old w) (Old w) τs u.τ u.x us.toList:=SPs.pres (λ_ h=>h) (λ_ _ h=>h) (λb _=>Z07.of_block rfl (Z6v _ _ _)) _ _ _ _ X
    obtain ⟨j1,j3⟩:=Z6g _ _ _ _ _ hsv hup2
    have j:(c.args.map a.eval++us)=(c.args.toList.map a.eval++us.toList).toArray:=by
     apply Array.ext'
     simp
    unfold Oper.wp
    rw [C,j,Oper.upon_enter]
    refine (Z6B hs I B.1 j1 j3 h).mono λe w'=> ?_
    rintro ⟨U,G',fs,vs,rfl,V,I',ho,hC⟩
    exact hK _ _ _ _ _ _ V I' (Z4l _ vs fs ho) hC.all
   ·cases h
  ·cases h
 ·cases h
end
end Go.PI
namespace Go.PI
section
variable {W0:Base} {M:Nat->Prop} {σ σ3:State} {a:Act} {w w' w3:World} {G G3:Ghost} {xs:List Nat} {P:Program} {R:Type} {Γ:Env R} {r:R} {tys:List (TypeId×Ty×List TypeId)} {o:Oper}
theorem Z4L (σ:State) (p:Place) (j:Nat):(σ.hold p).slot j=(σ.loosen p.box p.root).slot j\/(σ.hold p).slot j= .dead:=by
 obtain ⟨d,b,path⟩:=p
 cases d with
 | true=>exact .inl rfl
 | false=>
  show (σ.empty b).slot j=_\/(σ.empty b).slot j=_
  rw [Z3s]
  split
  ·exact .inr rfl
  ·exact .inl rfl
theorem Z4x (σ:State) (p:Place):(σ.hold p).slots.length=σ.slots.length/\(σ.hold p).boxes.length=σ.boxes.length:=by
 obtain ⟨d,b,path⟩:=p
 cases d with
 | true=>exact ⟨by simp [State.hold,State.putBox,State.loosen,Z0b],by simp [State.hold,State.putBox,State.loosen,Z0b,Z0F]⟩
 | false=>exact ⟨by show (σ.empty b).slots.length=_;rw [State.empty,Z5q],rfl⟩
theorem Z3k {σ:State} {p:Place} (d:p.box=true):(σ.hold p).boxAt p.root=none:=by
 obtain ⟨f,b,path⟩:=p
 simp only at d
 subst d
 show ((σ.loosen true b).putBox b none).boxAt b=none
 rw [Z0D]
 split
 ·rfl
 ·rename_i h
  simp only [true_and,Nat.not_lt] at h
  cases e:(σ.loosen true b).boxAt b with
  | none=>rfl
  | some v=>
   have:=Z1C e
   omega
theorem Z6q {σ:State} {p:Place} {i:Nat} {v:TVal} (h:(σ.hold p).boxAt i=some v):σ.boxAt i=some v/\(p.box=true->i≠p.root):=by
 obtain ⟨g,b,path⟩:=p
 cases g with
 | true=>
  have f:=Z3k (σ:=σ) (p:=⟨true,b,path⟩) rfl
  have d:i≠b:=λe=>by
   subst e
   simp only at f
   rw [f] at h
   cases h
  refine ⟨?_,λ_=>d⟩
  have h:((σ.loosen true b).putBox b none).boxAt i=some v:=h
  rw [Z0D,if_neg (λe=>d e.1.symm)] at h
  exact h
 | false=>exact ⟨h,λh=>by cases h⟩
theorem Z4k:(rs:List Nat)->(vs:List TVal)->(σ:State)->(∀ i,i ∉ rs->(σ.putBoxes rs vs).boxAt i=σ.boxAt i)/\(σ.putBoxes rs vs).boxes.length=σ.boxes.length/\(σ.putBoxes rs vs).slots.length=σ.slots.length /\
  (∀ j,(σ.putBoxes rs vs).slot j=σ.slot j\/(σ.putBoxes rs vs).slot j= .dead)/\(σ.noN->vs.all TVal.noN=true->(σ.putBoxes rs vs).noN)
 | [],vs,σ=>⟨λi _=>rfl,rfl,rfl,λj=> .inl rfl,λh _=>h⟩
 | r::rs,[],σ=>⟨λi _=>rfl,rfl,rfl,λj=> .inl rfl,λh _=>h⟩
 | r::rs,v::vs,σ=>by
  obtain ⟨k,l,m,n,p⟩:=Z4k rs vs ((σ.loosen true r).putBox r (some v))
  refine ⟨λi d=> ?_,?_,?_,λj=> ?_,λg f=> ?_⟩
  ·simp only [List.mem_cons,not_or] at d
   have:=k i d.2
   show (((σ.loosen true r).putBox r (some v)).putBoxes rs vs).boxAt i=_
   rw [this,Z0D,if_neg (λe=>d.1 e.1.symm)]
   rfl
  ·show (((σ.loosen true r).putBox r (some v)).putBoxes rs vs).boxes.length=_
   rw [l]
   simp [State.putBox,State.loosen,Z0b,Z0F]
  ·show (((σ.loosen true r).putBox r (some v)).putBoxes rs vs).slots.length=_
   rw [m]
   simp [State.putBox,State.loosen,Z0b]
  ·show (((σ.loosen true r).putBox r (some v)).putBoxes rs vs).slot j=_\/(((σ.loosen true r).putBox r (some v)).putBoxes rs vs).slot j=_
   rcases n j with h | h
   ·rw [h,Z1F,Z0i]
    exact TV.loosen_or _ _ _
   ·exact .inr h
  ·simp only [List.all_cons,Bool.and_eq_true] at f
   refine p ⟨λi=> ?_,λi u b=> ?_⟩ f.2
   ·rw [Z1F,Z0i]
    rcases TV.loosen_or true r (σ.slot i) with h | h
    ·rw [h];exact g.1 i
    ·rw [h];rfl
   ·rw [Z0D] at b
    split at b
    ·cases b;exact f.1
    ·exact g.2 i u b
theorem Z7J (hT:Z0e P Γ.tys) (I:Inv W0 M σ a w G []) {d:Nat} {p:Place} {c0:Call} {s x:Operand} {sT xT:TypeId} {k:State->Option R} (hop:o.op= .call c0) (W:c0.callee= .builtin .append) (J:c0.args= #[s,x]) (hty:c0.argTypes= #[sT,xT])
  (hs:σ.peek s= .ref p false) (hnd:W0.np<=d) (hdl:d<σ.slots.length) (hdr:p.box=true\/d≠p.root) (h1i:Z2L p.path=true) (hfl:Z08 p.path=true->p.box=true)
  (h:Z6i Γ.tys sT xT p x σ (λσ'=>k (σ'.puto (some d) .dead))=some r) :
  ∃ σ' v w' w2 G' G1 b off,(execOp a.eval o).run P w= .ok (.value v) w'/\k σ'=some r/\HoleSt W0 M σ' (a.put (some d) v) w' d p w2 G' b off v/\Calmer w G w' G1:=by
 unfold Z6i at h
 split at h
 rotate_left
 ·cases h
 rename_i e e' hsT hxT
 split at h
 rotate_left
 ·cases h
 rename_i ux σ2 Q
 split at h
 rotate_left
 ·cases h
 rename_i m t' c u hm ai hc hu
 split at h
 rotate_left
 ·cases h
 rename_i l hl
 split at h
 rotate_left
 ·cases h
 rename_i i
 simp only [Bool.and_eq_true,Bool.or_eq_true,Bool.not_eq_true',beq_iff_eq] at i
 obtain ⟨⟨⟨⟨⟨hcO,hwh⟩,B⟩,C⟩,ac⟩,am⟩:=i
 rw [cond_eq_ite,Z1Q] at h
 obtain ⟨Y,h⟩:=h
 split at h
 rotate_left
 ·cases h
 rename_i rr ae
 obtain ⟨ag1,an,rfl⟩:=Z1V hl
 obtain ⟨ag2,tg2,rfl⟩:=Z1V hm
 simp only at ai C
 subst ai
 subst C
 obtain ⟨fp2,D,I2,ab,_,g,af⟩:=Z0Z I Q
 have A:=Z0v I s (by rw [hs];intro v ags hh;cases hh)
 rw [hs] at A
 obtain ⟨_,A⟩:=A
 have hpl:∃ cs base,Z0B σ G a w p cs base/\Z02 (a.eval s)=cs/\Z0f false (a.eval s):=by
  rcases A with h1 | h1
  ·have q:σ2.ct p=some c.τ:=by rw [State.ct,hc];rfl
   rw [Z2A Q p,h1] at q
   cases q
  ·exact h1
 obtain ⟨cs,base,y,hcs,hsh⟩:=hpl
 obtain ⟨lc,bs,b,off,fpc,fpo,T,G1,H,I3,hs3⟩:=Z6H I2 hc hu hcO hwh hfl (y.sim (Z2A Q p) ab.ad)
 obtain ⟨fs,I4,_⟩:=I3.kill
 have f:Sim D { G1 with fs:=fs }:=hs3.trans (Sim.fs _ fs)
 generalize ({ G1 with fs:=fs }:Ghost)=Gk at I4 f
 have I5:Inv W0 M (σ2.hold p).kill a w Gk (fp2++(T++fpo)):=I4.perm (by
  refine List.perm_iff_count.2 λz=> ?_
  simp only [List.count_append,List.count_nil]
  omega)
 have E:=H.lens.part
 have htO:=H.lens.tags
 have ah:an=[.O]:=by
  have q:=E.len.2
  match an,q with
  | [t],_=>rw [htO t (by simp)]
 subst ah
 rw [<-hcs] at E
 have E:Rp w D.F D.St D.Al (.slice e) [.O] (Z02 (a.eval s)) l T:=E
 obtain ⟨ad,cap,aj,_⟩:=Z2B hsh E
 have g:Rp w D.F D.St D.Al (.slice e) [t'] (Z02 (a.eval x)) m fp2:=g
 obtain ⟨ad',cap',ak,_⟩:=Z2B (show Z0f false (a.eval x) from af) g
 rw [aj,Z0q rfl] at E
 rw [ak,Z0q rfl] at g
 obtain ⟨et,le,hu',hea,_⟩:=Z11 hT hsT ac
 obtain ⟨et2,le2,hux,_,_⟩:=Z11 hT hxT am
 have htN:t'.isN=false:=by
  rcases B with h | h
  ·cases t'<;>first | rfl | cases h
  ·exact h.2
 obtain ⟨v,w',G5,fpv,aa,I6,ag,U,⟨Gc,K⟩,had,hk5,V⟩:=Z72 (ty:=o.type) hT hu' hux hea I5 (Z2t _) htN (by rw [f.F,f.St,f.Al];exact E) (by rw [f.F,f.St,f.Al];exact g) Y (B.imp id λh=>h.1)
 have n:one v=true:=ag
 rw [Z0q n] at U
 obtain ⟨G7,I7,X,Z,L⟩:=Z6G (v:=⟨.slice e,false,l++m,[.O]⟩) (v1:=v) H I6 (Z2t _) (had.trans f.ad) (λz hz=>by
   obtain ⟨k1,k2,k3⟩:=hk5 z hz
   exact ⟨by rw [k1,f.F],k2,λh=>k3 (by rw [f.Al];exact h)⟩) (λhb=>by
   obtain ⟨_,_,al,_,_⟩:=H.box hb
   obtain ⟨k1,k2⟩:=V _ _ ((f.bx _ _).2 al)
   refine ⟨k1,k2,?_,?_,λj=> ?_⟩
   ·rw [Z2T,Z3k hb];rfl
   ·simp [State.kill,Z0b,(Z4x σ2 p).2]
   ·rw [Z1x]
    rcases TV.kill_or ((σ2.hold p).slot j) with h | h
    ·rw [h]
     rcases Z4L σ2 p j with q | q
     ·rw [hb] at q;exact .inl q
     ·exact .inr q
    ·exact .inr h) (by simp [State.kill,Z0b,(Z4x σ2 p).1]) rfl rfl (by simp) n U ae
 obtain ⟨G8,H8⟩:=Z5z I2 H I7 X rfl Z L n hnd (by
  have:=I2.len
  have q:=I.len
  omega) hdr h1i
 refine ⟨_,v,w',_,G8,Gc,b,off,?_,h,H8,(ab.trans f).calmer.trans K⟩
 rw [Z03 hop]
 simp only [execOp,resolve,W,J,hty,Sem.run_bind,Sem.run_pure,Result.andThen_ok,invoke,builtin]
 simp only [List.map_toArray,List.map_cons,List.map_nil,aj,ak]
 rw [aa]
 rfl
theorem Z8F {g:FuncId} {T:Sig R} (hs:Z17 P g T) (I:Inv W0 M σ a w G []) {d:Nat} {p:Place} {c0:Call} {f s:Operand} {os:List Operand} {ms:List Mode} {τ:Ty} {k:State->Option R} (hop:o.op= .call c0) (B:c0.callee= .value f) (n:σ.peek f= .clos g []) (hsig:Z0o Γ.fns g=some T)
  (hm:T.modes= .eat τ false::ms) (hargs:c0.args.toList=s::os)
  (hsp:σ.peek s= .ref p false) (hnd:W0.np<=d) (hdl:d<σ.slots.length) (hdr:p.box=true\/d≠p.root) (h1i:Z2L p.path=true) (hfl:Z08 p.path=true->p.box=true) (hsl:∃ e,τ= .slice e)
  (h:Z8a T τ ms p os σ (λσ'=>k (σ'.puto (some d) .dead))=some r) {K:Act->World->Prop} {Q:Exit->Act->World->Prop}
  (hK:∀ σ' v w' w2 G' G1 b off v1,k σ'=some r->HoleSt W0 M σ' (a.put (some d) v) w' d p w2 G' b off v1->Z16 Γ o.op w G w' G1->K (a.put o.dst v) w'):o.wp P a w K Q:=by
 obtain ⟨fn,cd,hf1,hf2,hf3⟩:=hs.1
 have hpe:=Z0v I f (by rw [n];intro v ags hh;cases hh)
 rw [n] at hpe
 obtain ⟨_,us,hev,husz,_⟩:=hpe
 have hrunc:=Z5K (P:=P) (a:=a) (w:=w) hop B hev hf1 hf2 hf3
 have hus0:us= #[]:=Array.eq_empty_of_size_eq_zero (by rw [husz];rfl)
 have W:(c0.args.map a.eval++us)=((s::os).map a.eval).toArray:=by
  apply Array.ext'
  rw [hus0]
  simp [hargs]
 have hnt:Z1A Γ o.op=false:=by
  rw [hop]
  simp only [Z1A,B]
  cases f with
  | func fg=>
   simp only [State.peek,TV.clos.injEq] at n
   obtain ⟨rfl,_⟩:=n
   simp only [hsig,hm]
   simp [Mode.isBorrow,Mode.isSee]
  | _=>rfl
 have hhalf:Z1N Γ o.op=true->ms.all Mode.noLend=true:=by
  intro ht
  rw [hop] at ht
  simp only [Z1N,B] at ht
  cases f with
  | func fg=>
   simp only [State.peek,TV.clos.injEq] at n
   obtain ⟨rfl,_⟩:=n
   simp only [hsig,hm,List.all_cons,Mode.noLend,Bool.true_and,Mode.isSee,Bool.false_and,Bool.or_false] at ht
   exact ht
  | _=>cases ht
 unfold Z8a at h
 have hx:∀ kk:Args->State->Option R,Z0n ms os σ ⟨[],[],true⟩ kk=some r->Z0n ms os σ ⟨[],[],true⟩ (λA l=>if Z1N Γ o.op=true->A.lent=[] then kk A l else none)=some r:=by
  intro kk h
  by_cases ht:Z1N Γ o.op=true
  ·have:=Z2c _ _ _ _ _ (hhalf ht) h
   simpa [ht] using this
  ·simpa [ht] using h
 have h:=hx _ h
 obtain ⟨vs,fps,ls,A,l,G1,m,y,h3,_,I1,hup,hct,hlen,hAr,hpt⟩:=Z1J _ _ _ _ _ _ _ h I
 split at m
 rotate_left
 ·cases m
 rename_i hhw
 split at m
 rotate_left
 ·cases m
 rename_i c u hc hu
 split at m
 rotate_left
 ·cases m
 rename_i C
 simp only [Bool.and_eq_true,decide_eq_true_eq] at C
 obtain ⟨⟨⟨⟨⟨hτ,hcO⟩,huO⟩,hwh⟩,hndl⟩,hvN⟩:=C
 have y:A.vals=vs:=by simpa using y
 have h3:A.lent=ls.map (·.1):=by simpa using h3
 rw [h3,y] at m
 rw [h3] at hndl hhw
 rw [y] at hvN
 split at m
 rotate_left
 ·cases m
 rename_i ext hext
 split at m
 rotate_left
 ·cases m
 rename_i hexn
 have Y:=Z0v I s (by rw [hsp];intro v ags hh;cases hh)
 rw [hsp] at Y
 obtain ⟨_,Y⟩:=Y
 have hpl:∃ cs base,Z0B σ G a w p cs base/\Z02 (a.eval s)=cs/\Z0f false (a.eval s):=by
  rcases Y with m | m
  ·have y:l.ct p=some c.τ:=by rw [State.ct,hc];rfl
   rw [hct p,m] at y
   cases y
  ·exact m
 obtain ⟨cs,base,X,hcs,hsh⟩:=hpl
 obtain ⟨lc,bs,b,off,fpc,fpo,U,G2,H,I2,hs2⟩:=Z6H I1 hc hu hcO hwh hfl (X.sim (hct p) hup.ad)
 obtain ⟨fb,I3⟩:=I2.renil
 have i:Sim G1 { G2 with fb:=fb }:=hs2.trans (Sim.fb G2 fb)
 generalize ({ G2 with fb:=fb }:Ghost)=Gk at I3 i
 have I4:Inv W0 M (l.hold p).renil a w Gk ((U::fps).flatten++fpo):=I3.perm (by
  refine List.perm_iff_count.2 λz=> ?_
  simp only [List.count_append,List.count_nil,List.flatten_cons]
  omega)
 obtain ⟨e,rfl⟩:=hsl
 have hL:Rp w G1.F G1.St G1.Al u.τ u.tg (Z02 (a.eval s)) u.x U:=by rw [hcs];exact H.lens.part
 have hA:Z0r w Gk T.modes (a.eval s::os.map a.eval) ({ u with ag:=false }::vs) (U::fps) ls:=by
  rw [hm]
  refine ⟨hsh,?_,Z0r.up i.up _ _ _ _ _ hAr⟩
  show Rp w Gk.F Gk.St Gk.Al u.τ u.tg (Z02 (a.eval s)) u.x U
  rw [i.F,i.St,i.Al]
  exact hL
 have E:∀ q∈ls,∃ v,l.boxAt q.1=some v/\(p.box=true->q.1≠p.root):=λq hq=>by
  obtain ⟨v,hv⟩:=Z3G _ _ hext q.1 (List.mem_map_of_mem hq)
  exact ⟨v,Z6q hv⟩
 have hlp:Z2O Gk ls:=λq hq=>by
  obtain ⟨v,hv,_⟩:=E q hq
  have:=Z6R I1 ((hpt q hq).sim hct hup.ad) hv
  rw [this,i.ad]
 have huN:u.noN=true:=by
  rw [TVal.noN_iff]
  intro t ht
  rw [Z1B.1 huO t ht]
  rfl
 have D:∀ v∈ext,v.noN=true:=by simpa [List.all_eq_true] using hexn
 unfold Oper.wp
 rw [hrunc,W,Oper.upon_enter]
 refine (Z4U (ks:=fpo) hs I4 hA (λv hv=>by
   rcases List.mem_cons.1 hv with rfl | hv
   ·exact huN
   ·rw [List.all_eq_true] at hvN
    exact hvN v hv) hlp (Z4B _ hndl) (Z3j _ _ hext D) D m).mono λe' w'=> ?_
 rintro ⟨v,res,ext',G5,fs,rfl,hk,I5,⟨Z,rfl,L⟩,hBc,had,hkk,hbb,hexN⟩
 split at hk
 rotate_left
 ·cases hk
 rename_i v _
 split at hk
 rotate_left
 ·cases hk
 rename_i hcv
 simp only [Bool.and_eq_true,decide_eq_true_eq,beq_iff_eq] at hcv
 obtain ⟨⟨hvτ,hvag⟩,hvO⟩:=hcv
 split at hk
 rotate_left
 ·cases hk
 rename_i rr hset
 obtain ⟨x1,V,rfl,rfl,hshv,hRv⟩:∃ x1 V,Z=[x1]/\fs=[V]/\Z0f v.ag x1/\Rp w' G5.F G5.St G5.Al v.τ v.tg (Z02 x1) v.x V:=by
  cases Z with
  | nil=>exact L.elim
  | cons x1 Z=>
   cases fs with
   | nil=>exact L.elim
   | cons f1 fs=>
    obtain ⟨⟨q1,q2⟩,q3⟩:=L
    cases Z with
    | cons=>cases fs<;>exact q3.elim
    | nil=>
     cases fs with
     | cons=>exact q3.elim
     | nil=>exact ⟨x1,f1,rfl,rfl,q1,q2⟩
 have J:one x1=true:=by rw [hvag] at hshv;exact hshv
 rw [Z0q J] at hRv
 have I6:Inv W0 M ((l.hold p).renil.kill.putBoxes (ls.map (·.1)) ext') a w' G5 (V++fpo):=by simpa using I5
 obtain ⟨f1,f2,f3,f4,f5⟩:=Z4k (ls.map (·.1)) ext' (l.hold p).renil.kill
 have hu1:size u.τ=1:=by rw [hτ];rfl
 have hb0:(l.hold p).renil.kill.boxes.length=l.boxes.length:=by simp [State.kill,State.renil,Z0b,(Z4x l p).2]
 have hs0:(l.hold p).renil.kill.slots.length=l.slots.length:=by simp [State.kill,State.renil,Z0b,(Z4x l p).1]
 obtain ⟨G7,I7,hcon,hloc,hcell⟩:=Z6G (v:=v) (v1:=x1) H I6 (f5 (Z2t _) hexN) (had.trans i.ad) (λz hz=>by
   obtain ⟨k1,k2,k3⟩:=hkk z hz
   exact ⟨by rw [k1,i.F],k2,λh=>k3 (by rw [i.Al];exact h)⟩) (λhb=>by
   obtain ⟨_,_,hwho,_,_⟩:=H.box hb
   have hni:p.root ∉ ls.map (·.1):=λhmem=>by
    obtain ⟨q,hq,hqe⟩:=List.mem_map.1 hmem
    obtain ⟨_,_,hne⟩:=E q hq
    exact hne hb hqe
   obtain ⟨k1,k2⟩:=hbb _ _ ((i.bx _ _).2 hwho) hni
   refine ⟨k1,k2,?_,by rw [f2,hb0],λj=> ?_⟩
   ·rw [f1 _ hni,Z2T,Z3f,Z3k hb];rfl
   ·rcases f4 j with h | h
    ·rw [h,Z1x]
     have hr:(l.hold p).renil.slot j=(l.hold p).slot j:=rfl
     rw [hr]
     rcases TV.kill_or ((l.hold p).slot j) with h | h
     ·rw [h]
      rcases Z4L l p j with y | y
      ·rw [hb] at y;exact .inl y
      ·exact .inr y
     ·exact .inr h
    ·exact .inr h) (by rw [f3,hs0]) hu1 (hvτ.trans hτ.symm) (Z1B.1 hvO) J hRv hset
 obtain ⟨G8,H8⟩:=Z5z I1 H I7 hcon rfl hloc hcell J hnd (by omega) hdr h1i
 refine hK _ _ w' _ G8 G5 b off x1 hk H8 ⟨λht=>(by rw [hnt] at ht;cases ht),λht=> ?_⟩
 have hl0:ls=[]:=List.map_eq_nil_iff.1 (hhw ht)
 exact λw2 hc2=>(hup.trans i.up).calmer.b w2 (hBc hl0 w2 hc2)
theorem Z9d (hT:Z0e P Γ.tys) (hS:∀ g m,Z0o Γ.fns g=some m->Z17 P g m):Z7X P Γ:=by
 intro W0 M σ a w G o d p c s l k r K Q I L J A X q i D B y C h W
 have F:W0.np<=d:=Nat.le_trans L J
 unfold Z8p at h
 rw [q] at h
 simp only at h
 split at h
 ·rename_i j
  split at h
  ·rename_i V x sT xT z U
   have u:V=s:=by rw [z] at i;simpa using (List.cons.inj i).1
   subst u
   obtain ⟨σ',v,w',w2,G',Y,b,off,E,hk,H,Z⟩:=Z7J hT I q j (Array.toList_inj.1 (by simpa using z)) (Array.toList_inj.1 (by simpa using U)) D F A B y C h
   unfold Oper.wp
   rw [E,Oper.upon_value]
   exact W σ' v w' w2 G' Y b off v hk H Z.all
  ·cases h
 ·rename_i f j
  split at h
  ·rename_i g T
   split at h
   ·rename_i m n
    split at h
    ·rename_i e ms V os hm z
     have u:V=s:=by rw [z] at i;simpa using (List.cons.inj i).1
     subst u
     exact Z8F (hS g m n) I q j T n hm z D F A B y C ⟨e,rfl⟩ h W
    ·cases h
   ·cases h
  ·cases h
 ·cases h
theorem Z99 (e:Z0e P Γ.tys) (d:∀ g b,Z0o Γ.fns g=some b->Z17 P g b):CallsOk P Γ:=⟨Z8G d,Z9d e d⟩
end
end Go.PI
namespace Go.PI
noncomputable section
def Z2F (σ' σ:State):Prop:=σ'.slots.length=σ.slots.length/\(∀ i,σ'.slot i=σ.slot i\/σ'.slot i= .dead)/\∀ i,σ'.boxAt i=σ.boxAt i\/σ'.boxAt i=none
theorem Z2F.refl (σ:State):Z2F σ σ:=⟨rfl,λ_=> .inl rfl,λ_=> .inl rfl⟩
theorem Z3U (σ:State) (ks b:List Nat):Z2F (σ.forget ks b) σ:=
 ⟨Z3l _ _ _,λi=>Z2R ks σ.slots 0 i,λi=>Z2Q b σ.boxes 0 i⟩
def Z9E (n:List Nat×List Nat) (x:List (Nat×List Nat×List Nat)) (r:List Nat×List Nat):Ex->State->State
 | .normal,σ=>σ.forget n.1 n.2
 | .exit j,σ=>match Z0o x j with
  | some q=>σ.forget q.1 q.2
  | none=>σ
 | .ret,σ=>σ.forget r.1 r.2
theorem Zaq (n:List Nat×List Nat) (x:List (Nat×List Nat×List Nat)) (r:List Nat×List Nat) (e:Ex) (σ:State):Z2F (Z9E n x r e σ) σ:=by
 cases e with
 | normal=>exact Z3U _ _ _
 | ret=>exact Z3U _ _ _
 | exit j=>
  unfold Z9E
  simp only []
  split
  ·exact Z3U _ _ _
  ·exact Z2F.refl _
def Z2o:Nat->Nat->List (Nat×TV)->List TV
 | 0,_,_=>[]
 | n+1,i,[]=> .dead::Z2o n (i+1) []
 | n+1,i,(j,v)::l=>bif i==j then v::Z2o n (i+1) l else .dead::Z2o n (i+1) ((j,v)::l)
def Z3R:Nat->Nat->List (Nat×TVal)->List (Option TVal)
 | 0,_,_=>[]
 | n+1,i,[]=>none::Z3R n (i+1) []
 | n+1,i,(j,v)::l=>bif i==j then some v::Z3R n (i+1) l else none::Z3R n (i+1) ((j,v)::l)
def mkS (n m:Nat) (d:List (Nat×TV)) (b:List (Nat×TVal)):State:=⟨Z2o n 0 d,Z3R m 0 b⟩
theorem Z4Y:(n i:Nat)->(l:List (Nat×TV))->(Z2o n i l).length=n
 | 0,_,_=>by simp [Z2o]
 | n+1,i,[]=>by simp [Z2o,Z4Y n]
 | n+1,i,(j,v)::l=>by
  unfold Z2o
  cases i==j<;>simp [Z4Y n]
theorem Z3T:(n i:Nat)->(l:List (Nat×TV))->(q:Nat)->Z0u .dead (Z2o n i l) q= .dead\/(i+q,Z0u .dead (Z2o n i l) q)∈l
 | 0,_,_,_=> .inl rfl
 | n+1,i,[],0=> .inl rfl
 | n+1,i,[],q+1=>by
  have:=Z3T n (i+1) [] q
  rcases this with h | h
  ·exact .inl h
  ·cases h
 | n+1,i,(j,v)::l,0=>by
  unfold Z2o
  cases h:i==j with
  | true=>right;simp at h;subst h;simp [Z0x,Z0s,Z0p]
  | false=>left;rfl
 | n+1,i,(j,v)::l,q+1=>by
  unfold Z2o
  cases h:i==j with
  | true=>
   rcases Z3T n (i+1) l q with b | b
   ·exact .inl b
   ·right
    rw [show i+(q+1)=i+1+q by omega]
    exact List.mem_cons_of_mem _ b
  | false=>
   rcases Z3T n (i+1) ((j,v)::l) q with b | b
   ·exact .inl b
   ·right
    rw [show i+(q+1)=i+1+q by omega]
    exact b
theorem Z3S:(n i:Nat)->(l:List (Nat×TVal))->(q:Nat)->Z0u none (Z3R n i l) q=none\/∃ v,Z0u none (Z3R n i l) q=some v/\(i+q,v)∈l
 | 0,_,_,_=> .inl rfl
 | n+1,i,[],0=> .inl rfl
 | n+1,i,[],q+1=>by
  rcases Z3S n (i+1) [] q with h | ⟨v,_,h⟩
  ·exact .inl h
  ·cases h
 | n+1,i,(j,v)::l,0=>by
  unfold Z3R
  cases h:i==j with
  | true=>right;simp at h;subst h;exact ⟨v,by simp [Z0x,Z0s,Z0p]⟩
  | false=>left;rfl
 | n+1,i,(j,v)::l,q+1=>by
  unfold Z3R
  cases h:i==j with
  | true=>
   rcases Z3S n (i+1) l q with b | ⟨u,d,b⟩
   ·exact .inl b
   ·right
    refine ⟨u,d,?_⟩
    rw [show i+(q+1)=i+1+q by omega]
    exact List.mem_cons_of_mem _ b
  | false=>
   rcases Z3S n (i+1) ((j,v)::l) q with b | ⟨u,d,b⟩
   ·exact .inl b
   ·right
    refine ⟨u,d,?_⟩
    rw [show i+(q+1)=i+1+q by omega]
    exact b
def Z4c (σ:State):List (Nat×TV)->Prop
 | []=>True
 | (i,v)::l=>σ.slot i=v/\Z4c σ l
def Z4b (σ:State):List (Nat×TVal)->Prop
 | []=>True
 | (i,v)::l=>σ.boxAt i=some v/\Z4b σ l
theorem Z4c.mem {σ:State}:{l:List (Nat×TV)}->Z4c σ l->{i:Nat}->{v:TV}->(i,v)∈l->σ.slot i=v
 | (j,u)::l,h,i,v,b=>by
  rcases List.mem_cons.1 b with b | b
  ·cases b;exact h.1
  ·exact Z4c.mem h.2 b
theorem Z4b.mem {σ:State}:{l:List (Nat×TVal)}->Z4b σ l->{i:Nat}->{v:TVal}->(i,v)∈l->σ.boxAt i=some v
 | (j,u)::l,h,i,v,b=>by
  rcases List.mem_cons.1 b with b | b
  ·cases b;exact h.1
  ·exact Z4b.mem h.2 b
theorem ZaM {σ:State} {n m:Nat} {d:List (Nat×TV)} {b:List (Nat×TVal)} (g:σ.slots.length=n) (j:Z4c σ d) (f:Z4b σ b):Z2F (mkS n m d b) σ:=by
 refine ⟨(Z4Y _ _ _).trans g.symm,λi=> ?_,λi=> ?_⟩
 ·rcases Z3T n 0 d i with h | h
  ·exact .inr h
  ·rw [Nat.zero_add] at h
   exact .inl (j.mem h).symm
 ·rcases Z3S m 0 b i with h | ⟨v,e,h⟩
  ·exact .inr h
  ·rw [Nat.zero_add] at h
   exact .inl (e.trans (f.mem h).symm)
section
variable {R:Type} {r:R}
def rdN (σ:State) (n:Nat) (f:Option R):Option R:=if σ.slots.length=n then f else none
def asV (v:TVal) (τ:Ty) (ag:Bool) (tg:List Tag) (f:El τ->Option R):Option R:=
 if v.ag=ag/\v.tg=tg then (if h:v.τ=τ then f (h ▸ v.x) else none) else none
def rdV (σ:State) (i:Nat) (τ:Ty) (ag:Bool) (tg:List Tag) (f:El τ->Option R):Option R:=
 match σ.slot i with
 | .val v=>asV v τ ag tg f
 | _=>none
def rdU (σ:State) (i:Nat) (τ:Ty) (ag:Bool) (tg:List Tag) (ags:List Bool) (f:El τ->Option R):Option R:=
 match σ.slot i with
 | .tup v l=>if l=ags then asV v τ ag tg f else none
 | _=>none
def rdE (σ:State) (i:Nat) (τ:Ty) (ag:Bool) (tg:List Tag) (t:Tag) (f:El τ->Option R):Option R:=
 match σ.slot i with
 | .eptr v s=>if s=t then asV v τ ag tg f else none
 | _=>none
def rdC (σ:State) (i:Nat) (f:FuncId) (d:List Ty) (τ:Ty) (tg:List Tag) (k:El τ->Option R):Option R:=
 match σ.slot i with
 | .sclos g b v=>if g=f/\b=d then asV v τ false tg k else none
 | _=>none
def Z5F (v:TVal) (τ:Ty) (tg:List Tag) (f:Bool->El τ->Option R):Option R:=
 if v.tg=tg then (if h:v.τ=τ then f v.ag (h ▸ v.x) else none) else none
def Z86 (v:TVal) (τ:Ty) (f:El τ->Option R):Option R:=if h:v.τ=τ then f (h ▸ v.x) else none
def rdB (σ:State) (i:Nat) (τ:Ty) (tg:List Tag) (f:Bool->El τ->Option R):Option R:=
 match σ.boxAt i with
 | some v=>Z5F v τ tg f
 | none=>none
def TV.same:TV->TV->Bool
 | .nil,.nil=>true
 | .ref p a,.ref q b=>decide (p=q/\a=b)
 | .ptr p,.ptr q=>decide (p=q)
 | .eref p,.eref q=>decide (p=q)
 | .clos f d,.clos g e=>decide (f=g/\d=e)
 | _,_=>false
def rdT (σ:State) (i:Nat) (p:TV) (f:Option R):Option R:=bif (σ.slot i).same p then f else none
theorem Zac {σ:State} {n:Nat} {f:Option R} (h:rdN σ n f=some r):σ.slots.length=n/\f=some r:=by
 unfold rdN at h
 split at h
 ·rename_i b;exact ⟨b,h⟩
 ·cases h
theorem Z4t {v:TVal} {τ:Ty} {ag:Bool} {tg:List Tag} {f:El τ->Option R} (h:asV v τ ag tg f=some r):∃ x,v=⟨τ,ag,x,tg⟩/\f x=some r:=by
 unfold asV at h
 split at h
 ·rename_i i
  split at h
  ·rename_i e
   obtain ⟨k,g,x,j⟩:=v
   obtain ⟨b,d⟩:=i
   simp only at e b d
   subst e;subst b;subst d
   exact ⟨x,rfl,h⟩
  ·cases h
 ·cases h
theorem Zaf {σ:State} {i:Nat} {τ:Ty} {ag:Bool} {tg:List Tag} {f:El τ->Option R} (h:rdV σ i τ ag tg f=some r):∃ x,σ.slot i= .val ⟨τ,ag,x,tg⟩/\f x=some r:=by
 unfold rdV at h
 split at h
 ·rename_i v d
  obtain ⟨x,rfl,b⟩:=Z4t h
  exact ⟨x,d,b⟩
 ·cases h
theorem Zae {σ:State} {i:Nat} {τ:Ty} {ag:Bool} {tg:List Tag} {ags:List Bool} {f:El τ->Option R} (h:rdU σ i τ ag tg ags f=some r):∃ x,σ.slot i= .tup ⟨τ,ag,x,tg⟩ ags/\f x=some r:=by
 unfold rdU at h
 split at h
 ·rename_i v l e
  split at h
  ·rename_i d
   subst d
   obtain ⟨x,rfl,b⟩:=Z4t h
   exact ⟨x,e,b⟩
  ·cases h
 ·cases h
theorem Zab {σ:State} {i:Nat} {τ:Ty} {ag:Bool} {tg:List Tag} {t:Tag} {f:El τ->Option R} (h:rdE σ i τ ag tg t f=some r):∃ x,σ.slot i= .eptr ⟨τ,ag,x,tg⟩ t/\f x=some r:=by
 unfold rdE at h
 split at h
 ·rename_i v l e
  split at h
  ·rename_i d
   subst d
   obtain ⟨x,rfl,b⟩:=Z4t h
   exact ⟨x,e,b⟩
  ·cases h
 ·cases h
theorem Zaa {σ:State} {i:Nat} {f:FuncId} {b:List Ty} {τ:Ty} {tg:List Tag} {k:El τ->Option R} (h:rdC σ i f b τ tg k=some r):∃ x,σ.slot i= .sclos f b ⟨τ,false,x,tg⟩/\k x=some r:=by
 unfold rdC at h
 split at h
 ·rename_i g l v j
  split at h
  ·rename_i e
   obtain ⟨rfl,rfl⟩:=e
   obtain ⟨x,rfl,d⟩:=Z4t h
   exact ⟨x,j,d⟩
  ·cases h
 ·cases h
theorem Z4S {v:TVal} {τ:Ty} {tg:List Tag} {f:Bool->El τ->Option R} (h:Z5F v τ tg f=some r):∃ a x,v=⟨τ,a,x,tg⟩/\f a x=some r:=by
 unfold Z5F at h
 split at h
 ·rename_i d
  split at h
  ·rename_i e
   obtain ⟨i,b,x,g⟩:=v
   simp only at e d
   subst e;subst d
   exact ⟨b,x,rfl,h⟩
  ·cases h
 ·cases h
theorem Z8C {v:TVal} {τ:Ty} {f:El τ->Option R} (h:Z86 v τ f=some r):∃ a x t,v=⟨τ,a,x,t⟩/\f x=some r:=by
 unfold Z86 at h
 split at h
 ·rename_i e
  obtain ⟨g,b,x,d⟩:=v
  simp only at e
  subst e
  exact ⟨b,x,d,rfl,h⟩
 ·cases h
theorem Za9 {σ:State} {i:Nat} {τ:Ty} {tg:List Tag} {f:Bool->El τ->Option R} (h:rdB σ i τ tg f=some r):∃ a x,σ.boxAt i=some ⟨τ,a,x,tg⟩/\f a x=some r:=by
 unfold rdB at h
 split at h
 ·rename_i v d
  obtain ⟨a,x,rfl,b⟩:=Z4S h
  exact ⟨a,x,d,b⟩
 ·cases h
theorem Zad {σ:State} {i:Nat} {p:TV} {f:Option R} (h:rdT σ i p f=some r):σ.slot i=p/\f=some r:=by
 unfold rdT at h
 rw [cond_eq_ite] at h
 split at h
 ·rename_i b
  refine ⟨?_,h⟩
  cases d:σ.slot i<;>cases p<;>rw [d] at b<;>simp only [TV.same,decide_eq_true_eq,Bool.false_eq_true] at b<;>simp [b]
 ·cases h
end
section
variable {P:Program} {R:Type} {r:R} {W0:Base} {M:Nat->Prop}
theorem Z2F.inv {σ σ':State} {a:Act} {w:World} {G:Ghost} {xs:List Nat} (h:Z2F σ' σ) (I:Inv W0 M σ a w G xs):∃ G',Inv W0 M σ' a w G' xs:=by
 obtain ⟨d,b,_⟩:=I.drop (σ':=σ') h.1 h.2.1 h.2.2
 exact ⟨_,b⟩
theorem Zax {c:Code} {run:Z1d R} (v:Z14 P W0 M c run) {j:Ex->State->State} (g:∀ e σ,Z2F (j e σ) σ) {x:Z1d R}
  (h:∀ σ k r,x σ k=some r->∃ σ',Z2F σ' σ/\run σ' (λe b=>k e (j e b))=some r):Z14 P W0 M c x:=by
 intro σ a w G k r Q u I A z
 obtain ⟨σ',i,d⟩:=h σ k r A
 obtain ⟨G',n⟩:=i.inv I
 refine v σ' a w G' _ r Q u n d λe b q w' l y f=> ?_
 obtain ⟨m,p⟩:=(g e b).inv f
 exact z e _ q w' m y p
theorem Zat {c:Code} {run:Z1d R} (p:Z14 P W0 M c run) {ks d:List Nat} {f:Ex->State->State} (g:∀ e σ,Z2F (f e σ) σ) (n:Nat) {x:Z1d R}
  (h:∀ σ k r,x σ k=some r->∃ σ',Z2F σ' σ/\Z3w run (λσ=>σ.forget ks d) f n σ' k=some r):Z14 P W0 M (.loop c) x:=by
 have l:Z14 P W0 M (.loop c) (Z3w run (λσ=>σ.forget ks d) f n):=Z63 p (λσ a w G I=>(Z3U σ ks d).inv I) (λe σ a w G I=>(g e σ).inv I) n
 intro σ a w G k r Q m I u q
 obtain ⟨σ',i,b⟩:=h σ k r u
 obtain ⟨G',j⟩:=i.inv I
 exact l σ' a w G' k r Q m j b q
def Z1f {V K:Type} (step:V->(V->Option R)->K->Option R):Nat->V->K->Option R
 | 0,_,_=>none
 | n+1,v,q=>step v (λb=>Z1f step n b q) q
theorem Z9u {V K:Type} (d:V->State) (step:V->(V->Option R)->K->Option R) (mk:Z83 R->K) {b:Z1d R} {f:State->State} {g:Ex->State->State}
  (h:∀ (v:V) (rec:State->Option R) (k:Z83 R),b (d v) (λe σ'=>match e with | .normal=>rec (f σ') | e=>k e (g e σ'))=step v (λj=>rec (d j)) (mk k)) :
  (n:Nat)->(v:V)->(k:Z83 R)->Z3w b f g n (d v) k=Z1f step n v (mk k)
 | 0,v,k=>rfl
 | n+1,v,k=>by
  have i:=h v (λσ=>Z3w b f g n σ k) k
  simp only [Z9u d step mk h n] at i
  exact i
def Z1c:Nat:=Classical.choose (⟨4611686018427387904,rfl⟩:∃ n:Nat,n=4611686018427387904)
theorem Z9q:Z1c=4611686018427387904:=Classical.choose_spec (⟨4611686018427387904,rfl⟩:∃ n:Nat,n=4611686018427387904)
theorem Zaj [Subsingleton R] {Γ:Env R} (p:P.follows .mixedOrders=true) (i:Z0e P Γ.tys) (l:∀ g d,Z0o Γ.fns g=some d->Z17 P g d) {f:FuncId} {fn:Func} {c:Code} {X:List (Z1d R)} {ht:HT} {fz:Bool} {modes:List Mode} {ags:List Bool}
  (j : Z20 P Γ.np X ht c) (n : P.funcs[f]? = some fn) (b : (fn.name == "runtime.NumGoroutine") = false) (m : fn.body = some c) (q : modes.length ≤ fn.ntmps)
  {run:List TVal->List TVal->(List TVal->List TVal->List TVal->Option R)->Option R}
  (h:∀ vals ext k r,run vals ext k=some r->Z8k Γ X ht fz fn modes ags vals ext k=some r):Z17 P f (⟨modes,ags,run⟩:Sig R):=by
 have e:=Z8L (Γ:=Γ) (X:=X) (ht:=ht) (fz:=fz) (modes:=modes) (ags:=ags) p i (Z99 i l) j n b m q
 exact ⟨e.1,λvals ext k r u=>e.2 vals ext k r (h vals ext k r u)⟩
end
end
end Go.PI
namespace Go.PI
noncomputable section
def wkT (nil:Bool) (t t':Tag):Bool:=decide (t=t')||(nil&&(t.own|| !t'.own))
def Z13:(τ:Ty)->El τ->List Bool
 | .slice e,x=>[List.isEmpty (α:=El e) x]
 | .pair a b,x=>Z13 a x.1++Z13 b x.2
 | _,_=>[]
def Z1s:List Bool->List Tag->List Tag->Bool
 | n::d,t::e,t'::b=>wkT n t t'&&Z1s d e b
 | [],[],[]=>true
 | _,_,_=>false
def wk1 (v:TVal) (tg:List Tag):Option TVal:=
 if v.tg=tg then some v else if (v.tg.map Tag.freeze=tg) then some { v with tg:=tg } else if Z1s (Z13 v.τ v.x) v.tg tg then some { v with tg:=tg } else none
def Z5v:List (Nat×List Tag)->State->State
 | [],σ=>σ
 | (i,tg)::l,σ=>Z5v l (match σ.slot i with
  | .val v=>(match wk1 v tg with | some u=>{ σ with slots:=Z0H σ.slots i (.val u) } | none=>σ)
  | _=>σ)
def Z5u:List (Nat×List Tag)->State->State
 | [],σ=>σ
 | (i,tg)::l,σ=>Z5u l (match σ.boxAt i with
  | some v=>(match wk1 v tg with | some u=>{ σ with boxes:=Z0H σ.boxes i (some u) } | none=>σ)
  | none=>σ)
def State.wk (σ:State) (d b:List (Nat×List Tag)):State:=Z5u b (Z5v d σ)
def wkE (l:List (Nat×List (Nat×List Tag)×List (Nat×List Tag))) (e:Ex) (σ:State):State:=
 match Z0o l (match e with | .normal=>0 | .ret=>1 | .exit j=>j+2) with
 | some q=>σ.wk q.1 q.2
 | none=>σ
section
variable {w:World} {F:Nat->Nat} {St Al:Nat->Prop}
theorem Z5j:{d e:List Bool}->{f g tg:List Tag}->d.length=f.length->Z1s (d++e) (f++g) tg=true->∃ i j,tg=i++j/\Z1s d f i=true/\Z1s e g j=true
 | [],e,[],g,tg,_,h=>⟨[],tg,rfl,rfl,h⟩
 | n::d,e,t::f,g,[],b,h=>by simp [Z1s] at h
 | n::d,e,t::f,g,u::tg,b,h=>by
  simp only [List.cons_append,Z1s,Bool.and_eq_true] at h
  obtain ⟨i,j,rfl,k,l⟩:=Z5j (by simpa using b) h.2
  exact ⟨u::i,j,rfl,by simp only [Z1s,Bool.and_eq_true];exact ⟨h.1,k⟩,l⟩
 | [],_,_::_,_,_,b,_=>by simp at b
 | _::_,_,[],_,_,b,_=>by simp at b
theorem Z46:(τ:Ty)->(x:El τ)->(Z13 τ x).length=Z06 τ
 | .int _,_=>rfl
 | .bool,_=>rfl
 | .str,_=>rfl
 | .unit,_=>rfl
 | .slice _,_=>rfl
 | .pair a b,x=>by simp [Z13,Z06,Z46 a,Z46 b]
theorem Z7k:{τ:Ty}->{tg d:List Tag}->{cs:List Value}->{x:El τ}->{fp:List Nat}->Rp w F St Al τ tg cs x fp->Z1s (Z13 τ x) tg d=true->∃ f' E,fp.Perm (f'++E)/\Rp w F St Al τ d cs x f'
 | .int _,tg,d,cs,x,fp,h,f=>by
  obtain ⟨rfl,rfl,rfl⟩:=h
  cases d with
  | nil=>exact ⟨[],[],by simp,rfl,rfl,rfl⟩
  | cons=>simp [Z13,Z1s] at f
 | .bool,tg,d,cs,x,fp,h,f=>by
  obtain ⟨rfl,rfl,rfl⟩:=h
  cases d with
  | nil=>exact ⟨[],[],by simp,rfl,rfl,rfl⟩
  | cons=>simp [Z13,Z1s] at f
 | .str,tg,d,cs,x,fp,h,f=>by
  obtain ⟨rfl,rfl,rfl⟩:=h
  cases d with
  | nil=>exact ⟨[],[],by simp,rfl,rfl,rfl⟩
  | cons=>simp [Z13,Z1s] at f
 | .unit,tg,d,cs,x,fp,h,f=>by
  obtain ⟨rfl,rfl,rfl⟩:=h
  cases d with
  | nil=>exact ⟨[],[],by simp,rfl,rfl,rfl⟩
  | cons=>simp [Z13,Z1s] at f
 | .pair a b,tg,d,cs,x,fp,h,f=>by
  obtain ⟨t1,t2,X,Y,Z,f2,rfl,rfl,rfl,l,p⟩:=h
  obtain ⟨u1,u2,rfl,L,Q⟩:=Z5j (by rw [Z46,l.len.2]) f
  obtain ⟨m,A,T,V⟩:=Z7k l L
  obtain ⟨n,B,U,W⟩:=Z7k p Q
  refine ⟨m++n,A++B,?_,Rp.pair_mk V W⟩
  refine List.perm_iff_count.2 λz=> ?_
  have C:=(List.perm_iff_count.1 T) z
  have D:=(List.perm_iff_count.1 U) z
  simp only [List.count_append] at C D ⊢
  omega
 | .slice e,tg,d,cs,x,fp,h,f=>by
  obtain ⟨t,a,cap,rfl,rfl,g,h⟩:=h
  obtain ⟨t',rfl⟩:∃ t',d=[t']:=by
   match d,f with
   | [t'],_=>exact ⟨t',rfl⟩
   | [],f=>simp [Z13,Z1s] at f
   | _::_::_,f=>simp [Z13,Z1s] at f
  simp only [Z13,Z1s,wkT,Bool.and_true,Bool.or_eq_true,decide_eq_true_eq,Bool.and_eq_true,Bool.not_eq_true'] at f
  rcases f with rfl | ⟨v,ht⟩
  ·exact ⟨fp,[],by simp,t,a,cap,rfl,rfl,g,h⟩
  ·have v:x=[]:=List.isEmpty_iff.1 v
   subst v
   cases i:t'.own with
   | false=>
    refine ⟨[],fp,by simp,t',a,cap,rfl,rfl,g,.inr (.inr ⟨i,rfl,.inl rfl⟩)⟩
   | true=>
    rw [i] at ht
    have ht:t.own=true:=by rcases ht with h | h;exact h;cases h
    rcases h with ⟨_,l,p,H,rfl⟩ | ⟨_,b,o,fps,rfl,q,rfl,u,j,I,J⟩ | ⟨y,_⟩
    ·exact ⟨[],[],by simp,t',a,cap,rfl,rfl,g,.inl ⟨i,l,p,H,rfl⟩⟩
    ·exact ⟨b::fps.flatten,[],by simp,t',_,cap,rfl,rfl,g,.inr (.inl ⟨i,b,o,fps,rfl,q,rfl,u,j,I,λk K=>by simp at K⟩)⟩
    ·rw [ht] at y;cases y
end
section
variable {W0:Base} {M:Nat->Prop} {σ:State} {a:Act} {w:World} {G:Ghost} {xs:List Nat} {P:Program} {R:Type} {r:R}
theorem Z7s (I:Inv W0 M σ a w G xs) {p:Place} {c:TVal} {tg:List Tag} (e:σ.content p=some c) (h:c.tg.map Tag.freeze=tg\/Z1s (Z13 c.τ c.x) c.tg tg=true) :
  ∃ G',Inv W0 M (σ.setContent p { c with tg:=tg }) a w G' xs:=by
 obtain ⟨l,b,fp,i,D,hw⟩:=Z0G I e
 have v:G.fpOf p=fp:=by
  rcases hw with ⟨f,_,rfl,_⟩ | ⟨f,_,rfl,_⟩<;>simp [Ghost.fpOf,f]
 rcases h with rfl | h
 ·obtain ⟨Q,A,k⟩:=I.recontent (p:=p) (c':=c.alias) e rfl rfl (l:=l) (b:=b) (f':=[]) (fi:=fp) i (D.alias (Ghost.St_Al I)) (by simp [v])
  obtain ⟨q,T,Z,B,Y,gb,V,hl⟩:=A.freeze
  have g:(σ.setContent p c.alias).content p=some c.alias:=by
   obtain ⟨u,d,path⟩:=p
   cases u with
   | true=>
    show Z0u none (Z0H σ.boxes d (some c.alias)) d=_
    rw [Z0T,if_pos ⟨rfl,Z1C (show σ.boxAt d=some c from e)⟩]
   | false=>
    simp only [State.content]
    have m:d<σ.slots.length:=Z0V (by
     intro C
     simp only [State.content,C] at e
     cases e)
    rw [Z0N e,if_pos ⟨rfl,m⟩]
    simp only [State.content] at e
    cases j:σ.slot d<;>rw [j] at e<;>first | (cases e;done) | rfl
  have z:Z09 q a w p=some (l,b):=by
   obtain ⟨u,d,path⟩:=p
   cases u with
   | true=>simp only [Z09] at i ⊢;rw [B,k.ad];exact i
   | false=>exact i
  have J:Rp w q.F q.St q.Al c.τ (c.tg.map Tag.freeze) l c.x []:=by
   rw [Z,Y,k.F,k.Al]
   exact D.freeze (λb f=>(V b).2 (.inl (by rw [k.St];exact f))) (Ghost.St_Al I) λb f=>(V b).2 (.inr f)
  have y:q.fpOf p=[]:=by
   obtain ⟨l2,b2,fp2,_,H,L⟩:=Z0G T g
   have:fp2=[]:=H.fp_nil (by
    intro s hs
    obtain ⟨s',_,rfl⟩:=List.mem_map.1 hs
    cases s'<;>rfl)
   rcases L with ⟨f,_,rfl,_⟩ | ⟨f,_,rfl,_⟩<;>simp [Ghost.fpOf,f,this]
  obtain ⟨W,U,hs3⟩:=T.recontent (p:=p) (c':={ c with tg:=c.tg.map Tag.freeze }) g rfl rfl (l:=l) (b:=b) (f':=[]) (fi:=[]) z J (by simp [y])
  have K:(σ.setContent p c.alias).setContent p { c with tg:=c.tg.map Tag.freeze }=σ.setContent p { c with tg:=c.tg.map Tag.freeze }:=by
   obtain ⟨u,d,path⟩:=p
   cases u with
   | true=>simp only [State.setContent,Z1y]
   | false=>
    have m:d<σ.slots.length:=Z0V (by
     intro C
     simp only [State.content,C] at e
     cases e)
    have n:=Z0N (c':=c.alias) e d
    rw [if_pos ⟨rfl,m⟩] at n
    simp only [State.content] at e
    cases j:σ.slot d<;>rw [j] at e n<;>first | (cases e;done) | skip
    ·simp only [State.setContent,j] at n ⊢
     rw [n]
     simp only [Z1y]
    ·simp only [State.setContent,j] at n ⊢
     rw [n]
     simp only [Z1y]
  rw [K] at U
  exact ⟨W,by simpa using U⟩
 ·obtain ⟨f',X,hp,E⟩:=Z7k D h
  obtain ⟨Q,A,_⟩:=I.recontent (p:=p) (c':={ c with tg:=tg }) e rfl rfl (l:=l) (b:=b) (f':=f') (fi:=X) i E (by rw [v];exact hp)
  exact ⟨Q,A.sub (λb f=>List.mem_append_right _ f) (List.nodup_append.1 A.nodX).2.1⟩
theorem Z7G {v u:TVal} {tg:List Tag} (h:wk1 v tg=some u):u=v\/(u={ v with tg:=tg }/\(v.tg.map Tag.freeze=tg\/Z1s (Z13 v.τ v.x) v.tg tg=true)):=by
 unfold wk1 at h
 split at h
 ·cases h;exact .inl rfl
 ·split at h
  ·rename_i b
   cases h;exact .inr ⟨rfl,.inl b⟩
  ·split at h
   ·rename_i b
    cases h;exact .inr ⟨rfl,.inr b⟩
   ·cases h
theorem Z2n:(l:List (Nat×List Tag))->(σ:State)->(G:Ghost)->Inv W0 M σ a w G xs->∃ G',Inv W0 M (Z5v l σ) a w G' xs
 | [],σ,G,I=>⟨G,I⟩
 | (i,tg)::l,σ,G,I=>by
  simp only [Z5v]
  split
  ·rename_i v b
   split
   ·rename_i u k
    rcases Z7G k with rfl | ⟨rfl,h⟩
    ·have:({ σ with slots:=Z0H σ.slots i (.val u) }:State)=σ:=by
      have j:Z0H σ.slots i (.val u)=σ.slots:=by
       rw [<-b]
       exact Z5d σ.slots i (Z0V (by rw [b];simp))
      rw [j]
     rw [this]
     exact Z2n l σ G I
    ·have f:σ.content ⟨false,i,[]⟩=some v:=by simp [State.content,b]
     obtain ⟨e,d⟩:=Z7s I f h
     have g:σ.setContent ⟨false,i,[]⟩ { v with tg:=tg }={ σ with slots:=Z0H σ.slots i (.val { v with tg:=tg }) }:=by simp only [State.setContent,b]
     rw [g] at d
     exact Z2n l _ e d
   ·exact Z2n l σ G I
  ·exact Z2n l σ G I
theorem Z2m:(l:List (Nat×List Tag))->(σ:State)->(G:Ghost)->Inv W0 M σ a w G xs->∃ G',Inv W0 M (Z5u l σ) a w G' xs
 | [],σ,G,I=>⟨G,I⟩
 | (i,tg)::l,σ,G,I=>by
  simp only [Z5u]
  split
  ·rename_i v b
   split
   ·rename_i u j
    rcases Z7G j with rfl | ⟨rfl,h⟩
    ·have:({ σ with boxes:=Z0H σ.boxes i (some u) }:State)=σ:=by
      have g:Z0H σ.boxes i (some u)=σ.boxes:=by
       rw [<-b]
       exact Z5d σ.boxes i (Z1C b)
      rw [g]
     rw [this]
     exact Z2m l σ G I
    ·have f:σ.content ⟨true,i,[]⟩=some v:=b
     obtain ⟨d,e⟩:=Z7s I f h
     exact Z2m l _ d e
   ·exact Z2m l σ G I
  ·exact Z2m l σ G I
theorem Z92 (I:Inv W0 M σ a w G xs) (d b:List (Nat×List Tag)):∃ G',Inv W0 M (σ.wk d b) a w G' xs:=by
 obtain ⟨e,f⟩:=Z2n d σ G I
 exact Z2m b _ e f
theorem ZaI (I:Inv W0 M σ a w G xs) (l:List (Nat×List (Nat×List Tag)×List (Nat×List Tag))) (e:Ex):∃ G',Inv W0 M (wkE l e σ) a w G' xs:=by
 unfold wkE
 split
 ·exact Z92 I _ _
 ·exact ⟨G,I⟩
theorem ZaJ {c:Code} {y:Z1d R} (d b:List (Nat×List Tag)) (g:Z14 P W0 M c y):Z14 P W0 M c (λσ k=>y (σ.wk d b) k):=by
 intro σ a w G k r Q f I i h
 obtain ⟨G',e⟩:=Z92 I d b
 exact g _ a w G' k r Q f e i h
theorem Za8 {c:Code} {run:Z1d R} (v:Z14 P W0 M c run) {m:Ex->State->State} (i:∀ e σ a w G,Inv W0 M σ a w G []->∃ G',Inv W0 M (m e σ) a w G' []) {x:Z1d R}
  (h:∀ σ k r,x σ k=some r->∃ σ',Z2F σ' σ/\run σ' (λe b=>k e (m e b))=some r):Z14 P W0 M c x:=by
 intro σ a w G k r Q u I A z
 obtain ⟨σ',j,d⟩:=h σ k r A
 obtain ⟨G',p⟩:=j.inv I
 refine v σ' a w G' _ r Q u p d λe b l w' f y g=> ?_
 obtain ⟨n,q⟩:=i e b l w' f g
 exact z e _ l w' n y q
theorem Za7 {c:Code} {run:Z1d R} (q:Z14 P W0 M c run) {d:State->State} {f:Ex->State->State} (g:∀ σ a w G,Inv W0 M σ a w G []->∃ G',Inv W0 M (d σ) a w G' []) (i:∀ e σ a w G,Inv W0 M σ a w G []->∃ G',Inv W0 M (f e σ) a w G' []) (n:Nat) {x:Z1d R}
  (h:∀ σ k r,x σ k=some r->∃ σ',Z2F σ' σ/\Z3w run d f n σ' k=some r):Z14 P W0 M (.loop c) x:=by
 have m:Z14 P W0 M (.loop c) (Z3w run d f n):=Z63 q g i n
 intro σ a w G k r Q p I v u
 obtain ⟨σ',j,b⟩:=h σ k r v
 obtain ⟨G',l⟩:=j.inv I
 exact m σ' a w G' k r Q p l b u
end
end
end Go.PI
namespace Go.PI
abbrev Res:=Option Unit
def Z9K (n:Int):Int:=IntKind.i64.wrap n
def wu8 (n:Int):Int:=IntKind.u8.wrap n
def ZaW (n:Int):Int:=IntKind.i32.wrap n
def ZaX (n:Int):Int:=IntKind.u32.wrap n
def ZaY (n:Int):Int:=IntKind.u64.wrap n
def nI (n:Nat):Int:=(n:Int)
def eS:ByteArray:=⟨#[]⟩
def sEq (a b:ByteArray):Bool:=a.toList==b.toList
def sNe (a b:ByteArray):Bool:= !(a.toList==b.toList)
def sLt (a b:ByteArray):Bool:=Op.bytesLess a.toList b.toList
def sLe (a b:ByteArray):Bool:=Op.bytesLess a.toList b.toList||a.toList==b.toList
def sGt (a b:ByteArray):Bool:= !(Op.bytesLess a.toList b.toList||a.toList==b.toList)
def sGe (a b:ByteArray):Bool:= !(Op.bytesLess a.toList b.toList)
def nth {α:Type} (z:α) (l:List α) (i:Int):α:=l.getD i.toNat z
def upd {α:Type} (l:List α) (i:Int) (v:α):List α:=l.set i.toNat v
def Z9h {α:Type} (n:Int) (z:α):List α:=List.replicate n.toNat z
def ZaS (s:ByteArray) (i j:Int):ByteArray:=s.extract i.toNat j.toNat
noncomputable def Z9I (m c:Int):Bool:=decide (0<=m/\m<=c/\c<=(LIM:Int))
def ZaU (k:IntKind) (m n:Int):Int:=k.wrap (m * 2 ^ min n.toNat k.bits)
def ZaV (k:IntKind) (m n:Int):Int:=Int.fdiv m (2 ^ min n.toNat k.bits)
def ZaR (k:IntKind) (a b:Int):Int:=k.wrap ((BitVec.ofInt k.bits a &&& BitVec.ofInt k.bits b).toNat)
def orI (k:IntKind) (a b:Int):Int:=k.wrap ((BitVec.ofInt k.bits a ||| BitVec.ofInt k.bits b).toNat)
def ZaZ (k:IntKind) (a b:Int):Int:=k.wrap ((BitVec.ofInt k.bits a ^^^ BitVec.ofInt k.bits b).toNat)
section
variable {R:Type} {r:R}
def av (l:List TVal) (τ:Ty) (f:El τ->List TVal->Option R):Option R:=match l with | v::l=>Z86 v τ λx=>f x l | []=>none
def ab (l:List TVal) (τ:Ty) (tg:List Tag) (f:Bool->El τ->List TVal->Option R):Option R:=match l with | v::l=>Z5F v τ tg λa x=>f a x l | []=>none
def ao (l:List TVal) (τ:Ty) (tg:List Tag) (f:El τ->List TVal->Option R):Option R:=match l with | v::l=>Z5F v τ tg λ_ x=>f x l | []=>none
def nl (l:List TVal) (f:Option R):Option R:=match l with | []=>f | _::_=>none
theorem Zap {l:List TVal} {τ:Ty} {f:El τ->List TVal->Option R} (h:av l τ f=some r):∃ x a t l',l=⟨τ,a,x,t⟩::l'/\f x l'=some r:=by
 cases l with
 | nil=>cases h
 | cons v l=>
  have h:Z86 v τ (λx=>f x l)=some r:=h
  obtain ⟨a,x,t,rfl,b⟩:=Z8C h
  exact ⟨x,a,t,l,rfl,b⟩
theorem Zan {l:List TVal} {τ:Ty} {tg:List Tag} {f:Bool->El τ->List TVal->Option R} (h:ab l τ tg f=some r):∃ a x l',l=⟨τ,a,x,tg⟩::l'/\f a x l'=some r:=by
 cases l with
 | nil=>cases h
 | cons v l=>
  have h:Z5F v τ tg (λa x=>f a x l)=some r:=h
  obtain ⟨a,x,rfl,b⟩:=Z4S h
  exact ⟨a,x,l,rfl,b⟩
theorem Zao {l:List TVal} {τ:Ty} {tg:List Tag} {f:El τ->List TVal->Option R} (h:ao l τ tg f=some r):∃ a x l',l=⟨τ,a,x,tg⟩::l'/\f x l'=some r:=by
 cases l with
 | nil=>cases h
 | cons v l=>
  have h:Z5F v τ tg (λ_ x=>f x l)=some r:=h
  obtain ⟨a,x,rfl,b⟩:=Z4S h
  exact ⟨a,x,l,rfl,b⟩
theorem Zaw {l:List TVal} {f:Option R} (h:nl l f=some r):l=[]/\f=some r:=by
 cases l with
 | nil=>exact ⟨rfl,h⟩
 | cons v l=>cases h
theorem Z20.mk {P:Program} {np:Nat} {X:List (Z1d R)} {a b:HT} {c:Code} (d:Z20 P np X a c.pl) (e:Z20 P np X b c.pr):Z20 P np X (.t a b) c:=⟨d,e⟩
theorem Z20.x_mk {P:Program} {np:Nat} {X:List (Z1d R)} {i:Nat} {c:Code} (h:∀ (b:Base) (M:Nat->Prop),b.np<=np->Z14 P b M c (Z0u (λ_ _=>none) X i)):Z20 P np X (.x i) c:=h
theorem Zas {P:Program}:∀ (g:Nat) (b:Sig R),Z0o [] g=some b->Z17 P g b:=λ_ _ h=>by cases h
theorem Za6 {P:Program} {g:Nat} {s:Sig R} {l:List (FuncId×Sig R)} (h:Z17 P g s) (i:∀ (g:Nat) (b:Sig R),Z0o l g=some b->Z17 P g b) :
  ∀ (d:Nat) (b:Sig R),Z0o ((g,s)::l) d=some b->Z17 P d b:=by
 intro d b e
 simp only [Z0o] at e
 split at e
 ·rename_i f
  simp at f
  subst f
  cases e
  exact h
 ·exact i d b e
end
def Z9J {T:Type} (d:T) (b:T->T):Nat->T
 | 0=>d
 | n+1=>b (Z9J d b n)
theorem Z9f {T:Type} {C:T->Prop} {d:T} {b:T->T} (e:C d) (h:∀ t,C t->C (b t)):∀ n,C (Z9J d b n)
 | 0=>e
 | n+1=>h _ (Z9f e h n)
theorem Z9N {R : Type} {P : Program} {f : FuncId} {fn : Func} {c : Code} {d : Sig R} (g : P.funcs[f]? = some fn) (b : (fn.name == "runtime.NumGoroutine") = false) (e : fn.body = some c)
  (h:∀ vals ext k r,d.run vals ext k=some r->False):Z17 P f d:=
 ⟨⟨fn,c,g,b,e⟩,λvals ext k r i=>(h vals ext k r i).elim⟩
theorem Z9Q (x:Res):Z87 x x=x:=by cases x<;>rfl
end Go.PI
namespace Go.PI
def Wf:(τ:Ty)->El τ->Prop
 | .int k,n=>(Lit.int k n).wf=true
 | .bool,_=>True
 | .str,s=>ByteArray.size s<=maxLen
 | .unit,_=>True
 | .slice e,l=>List.length (α:=El e) l<=maxLen/\∀ x∈(l:List (El e)),Wf e x
 | .pair a b,x=>Wf a x.1/\Wf b x.2
theorem Z2p {α β:Type} {f:α->Option β}:(l:List α)->(ys:List β)->l.mapM f=some ys->ys.length=l.length/\∀ (k:Nat) (h:k<l.length),∃ y,f l[k]=some y/\ys[k]? = some y
 | [],ys,h=>by
  simp only [List.mapM_nil,Option.pure_def,Option.some.injEq] at h
  subst h
  exact ⟨rfl,λk h=>absurd h (by simp)⟩
 | a::l,ys,h=>by
  rw [List.mapM_cons] at h
  cases b:f a with
  | none=>rw [b] at h;simp at h
  | some y=>
   rw [b] at h
   cases d:l.mapM f with
   | none=>rw [d] at h;simp at h
   | some j=>
    rw [d] at h
    simp at h
    subst h
    obtain ⟨e,g⟩:=Z2p l j d
    refine ⟨by simp [e],λk i=> ?_⟩
    cases k with
    | zero=>exact ⟨y,b,rfl⟩
    | succ k=>exact g k (by simpa using i)
def Z2G (w:World) (b:Nat):Nat:=match w.heap[b]? with | some (.cells c _ _)=>c.size | _=>0
theorem Z75 {w:World} {a:Addr} {n:Nat} {l:List Value} (h:w.cells? 0 a n=some l) (E:n≠0) :
  ∃ b o,a=⟨b,o,none⟩/\Z05 w b o n=some l/\o+n<=Z2G w b/\b<w.heap.size:=by
 obtain ⟨b,o,u⟩:=a
 unfold World.cells? at h
 rw [if_pos (Nat.zero_le _)] at h
 obtain ⟨i,e⟩:=Z2p _ _ h
 simp only [List.length_range] at i e
 obtain ⟨D,r,_⟩:=e 0 (by omega)
 have p:w.cell? ⟨b,o,u⟩=some D:=by simpa [Addr.add] using r
 have f:u=none/\∃ c T fr,w.heap[b]? = some (.cells c T fr):=by
  unfold World.cell? at p
  cases f:w.heap[b]? with
  | none=>simp [f] at p
  | some C=>
   cases C with
   | cells c T fr=>
    cases u with
    | none=>exact ⟨rfl,c,T,fr,rfl⟩
    | some x=>simp [f] at p
   | _=>simp [f] at p
 obtain ⟨rfl,f⟩:=f
 obtain ⟨c,T,fr,g⟩:=f
 have d:∀ k,k<n->c[o+k]? = l[k]? := by
  intro k m
  obtain ⟨v,q,B⟩:=e k m
  rw [B]
  simp only [List.getElem_range] at q
  have:w.cell? (Addr.add ⟨b,o,none⟩ k)=c[o+k]? := by
   unfold Addr.add
   by_cases y:k=0
   ·subst y;simp [World.cell?,g]
   ·simp [y,World.cell?,g]
  rw [this] at q
  exact q
 have j:o+n<=c.size:=by
  have z:=d (n-1) (by omega)
  have A:(n-1)<l.length:=by omega
  rw [List.getElem?_eq_getElem A] at z
  have:=(Array.getElem?_eq_some_iff.1 z).1
  omega
 refine ⟨b,o,rfl,?_,by unfold Z2G;rw [g];exact j,(Array.getElem?_eq_some_iff.1 g).1⟩
 unfold Z05
 rw [g]
 simp only []
 rw [if_pos j]
 congr 1
 refine List.ext_getElem? λk=> ?_
 by_cases m:k<n
 ·rw [List.getElem?_take_of_lt m,List.getElem?_drop,Array.getElem?_toList,d k m]
 ·rw [List.getElem?_eq_none (by simp;omega),List.getElem?_eq_none (by omega)]
section
variable {P:Program} {tys:List (TypeId×Ty×List TypeId)}
theorem TyF.cells {t:TypeId} {τ:Ty} {l:List TypeId} (h:TyF P tys t τ l):P.cellsOf t=size τ:=by
 obtain ⟨i,z,b,d,_⟩:=h.info
 unfold Program.cellsOf
 rw [b]
 simp [d]
theorem Z7C {τ d:Ty} (h:Z0d τ [.fst]=some d):∃ b,τ= .pair d b:=by
 cases τ with
 | pair a b=>simp only [Z0d,Option.some.injEq] at h;subst h;exact ⟨b,rfl⟩
 | _=>simp [Z0d] at h
theorem Z9k {τ d:Ty} {p:List Step} (h:Z0d τ (.snd::p)=some d):∃ a b,τ= .pair a b/\Z0d b p=some d:=by
 cases τ with
 | pair a b=>exact ⟨a,b,rfl,by simpa [Z0d] using h⟩
 | _=>simp [Z0d] at h
theorem TyF.pos {t:TypeId} {τ:Ty} {l:List TypeId} (h:TyF P tys t τ l):size τ≠0:=by
 by_cases e:l=[]
 ·obtain ⟨_,_,_,_,g,j⟩:=h.und e
  cases τ with
  | unit=>exact absurd rfl g
  | pair a b=>exact absurd rfl (j a b)
  | _=>simp [size]
 ·obtain ⟨k,_,_,i,_⟩:=h.str e
  obtain ⟨f,p,m,_,_,_,d,_,g,_⟩:=(i 0 (List.length_pos_iff.2 e)).out
  match hn:l.length with
  | 0=>exact absurd (List.length_eq_zero_iff.1 hn) e
  | 1=>
   rw [hn] at d
   simp only [Z0a,Z0d] at d
   cases τ<;>simp only [Z0d,Option.some.injEq] at d<;>subst d<;>exact g
  | n+2=>
   rw [hn] at d
   simp only [Z0a] at d
   obtain ⟨b,rfl⟩:=Z7C d
   simp only [size]
   omega
theorem Z9s {cs:List Value} {a o n:Nat}:((cs.drop a).drop o).take n=(cs.drop (a+o)).take n:=by rw [List.drop_drop]
theorem Z6F {w:World} {F:Nat->Nat} {St Al:Nat->Prop}:(n:Nat)->(τ:Ty)->(cs:List Value)->n≠0->cs.length=size τ ->
  (∀ i,i<n->∃ d,Z0d τ (Z0a n i)=some d/\∃ x:El d,Rp w F St Al d (List.replicate (Z06 d) .S) ((cs.drop (Z0g τ (Z0a n i))).take (size d)) x []/\Wf d x) ->
  ∃ x:El τ,Rp w F St Al τ (List.replicate (Z06 τ) .S) cs x []/\Wf τ x
 | 0,τ,cs,h,_,_=>absurd rfl h
 | 1,τ,cs,_,q,h=>by
  obtain ⟨d,j,x,k,l⟩:=h 0 (by omega)
  have e:Z0g τ (Z0a 1 0)=0:=by cases τ<;>rfl
  have C:d=τ:=by
   simp only [Z0a] at j
   cases τ<;>simp only [Z0d,Option.some.injEq] at j<;>exact j.symm
  subst C
  rw [e,List.drop_zero,List.take_of_length_le (by omega)] at k
  exact ⟨x,k,l⟩
 | n+2,τ,cs,_,q,h=>by
  obtain ⟨d,j,x,k,l⟩:=h 0 (by omega)
  simp only [Z0a] at j
  obtain ⟨b,rfl⟩:=Z7C j
  have e:Z0g (.pair d b) (Z0a (n+2) 0)=0:=by simp only [Z0a];cases d<;>rfl
  rw [e,List.drop_zero] at k
  simp only [size] at q
  obtain ⟨y,v,A⟩:=Z6F (n+1) b (cs.drop (size d)) (by omega) (by rw [List.length_drop];omega) λi H=>by
   obtain ⟨D,m,z,p,r⟩:=h (i+1) (by omega)
   simp only [Z0a] at m
   obtain ⟨E,G,B,u⟩:=Z9k m
   cases B
   refine ⟨D,u,z,?_,r⟩
   have:Z0g (.pair d b) (Z0a (n+2) (i+1))=size d+Z0g b (Z0a (n+1) i):=by simp only [Z0a,Z0g]
   rw [this] at p
   rw [List.drop_drop]
   exact p
  refine ⟨(x,y),⟨_,_,_,_,[],[],?_,(List.take_append_drop (size d) cs).symm,rfl,k,v⟩,l,A⟩
  simp only [Z06,List.replicate_append_replicate]
theorem Z5H (Q:Z0e P tys) {H:Type} {r:TypeId×Value->H} {w:World} {Al:Nat->Prop}:(fuel:Nat)->(t:TypeId)->(τ:Ty)->(l:List TypeId)->(cs:List Value)->(d:DataW H×List MemPlace) ->
  Z0o tys t=some (τ,l)->DataW.trod r P w 0 (λ_=>true) true fuel t cs=some d->∃ x:El τ,Rp w (Z2G w) (·< w.heap.size) Al τ (List.replicate (Z06 τ) .S) cs x []/\Wf τ x
 | 0,t,τ,l,cs,d,ha,h=>by cases h
 | fuel+1,t,τ,l,cs,d,ha,h=>by
  have Y:=Q t τ l ha
  by_cases hl:l=[]
  ·obtain ⟨u1,u2,u3,u4,u5,u6⟩:=Y.und hl
   cases τ with
   | unit=>exact absurd rfl u5
   | pair a b=>exact absurd rfl (u6 a b)
   | int k=>
    have A:=u1 k rfl
    simp only [DataW.trod,A] at h
    split at h<;>first | (cases h;done) | skip
    all_goals (first | (rename_i g;cases g;done) | skip)
    rename_i k0 k' n g
    cases g
    split at h
    ·rename_i hc
     obtain ⟨rfl,hw⟩:=hc
     exact ⟨n,⟨rfl,rfl,rfl⟩,hw⟩
    ·cases h
   | bool=>
    have A:=u2 rfl
    simp only [DataW.trod,A] at h
    split at h<;>first | (cases h;done) | skip
    all_goals (first | (rename_i g;cases g;done) | skip)
    rename_i b g
    exact ⟨b,⟨rfl,rfl,rfl⟩,trivial⟩
   | str=>
    have A:=u3 rfl
    simp only [DataW.trod,A] at h
    split at h<;>first | (cases h;done) | skip
    all_goals (first | (rename_i g;cases g;done) | skip)
    rename_i s g
    split at h
    ·rename_i hs
     exact ⟨s,⟨rfl,rfl,rfl⟩,hs⟩
    ·cases h
   | slice e=>
    obtain ⟨et,A,L,_⟩:=u4 e rfl
    have v:∃ le,Z0o tys et=some (e,le):=by
     unfold Z0y at L
     cases F:Z0o tys et with
     | none=>rw [F] at L;cases L
     | some p=>rw [F] at L;simp at L;exact ⟨p.2,by rw [<-L]⟩
    obtain ⟨le,v⟩:=v
    have M:=Q et e le v
    simp only [DataW.trod,A] at h
    split at h<;>first | (cases h;done) | skip
    all_goals (first | (rename_i g;cases g;done) | skip)
    ·rename_i e0 g
     exact ⟨[],⟨.S,none,0,rfl,rfl,Nat.le_refl _,.inr (.inr ⟨rfl,rfl,.inl rfl⟩)⟩,Nat.zero_le _,by simp⟩
    ·rename_i e0 a len cap g
     cases g
     split at h
     ·rename_i hc
      obtain ⟨_,hlc,hcm⟩:=hc
      cases T:(List.range len).mapM λi=>(w.cells? 0 (a.add (i * P.cellsOf et)) (P.cellsOf et)).bind (DataW.trod r P w 0 (λ_=>true) true fuel et) with
      | none=>rw [T] at h;cases h
      | some ys=>
       obtain ⟨hyl,m⟩:=Z2p _ _ T
       simp only [List.length_range,List.getElem_range] at m hyl
       rw [M.cells] at m
       have D:=M.pos
       have F:∀ k:Fin len,∃ x:El e,(∃ b o,a=⟨b,o,none⟩/\b<w.heap.size/\o+k.1 * size e+size e<=Z2G w b/\∃ j,Z05 w b (o+k.1 * size e) (size e)=some j/\Rp w (Z2G w) (·< w.heap.size) Al e (List.replicate (Z06 e) .S) j x [])/\Wf e x:=by
        intro k
        obtain ⟨y,q,_⟩:=m k.1 k.2
        cases E:w.cells? 0 (a.add (k.1 * size e)) (size e) with
        | none=>rw [E] at q;cases q
        | some j=>
         rw [E] at q
         have q:DataW.trod r P w 0 (λ_=>true) true fuel et j=some y:=q
         obtain ⟨x,G,I⟩:=Z5H Q fuel et e le j y v q
         obtain ⟨b,o,u,aa,ab,ac⟩:=Z75 E D
         obtain ⟨y0,U,_⟩:=m 0 (by have:=k.2;omega)
         cases B:w.cells? 0 (a.add (0 * size e)) (size e) with
         | none=>rw [B] at U;cases U
         | some cs0=>
          obtain ⟨b0,o0,z,_,_,_⟩:=Z75 B D
          rw [Nat.zero_mul] at z
          have z:a=⟨b0,o0,none⟩:=by simpa [Addr.add] using z
          subst z
          have:b=b0/\o=o0+k.1 * size e:=by
           unfold Addr.add at u
           split at u
           ·rename_i hz;cases u;exact ⟨rfl,by omega⟩
           ·cases u;exact ⟨rfl,rfl⟩
          obtain ⟨rfl,rfl⟩:=this
          exact ⟨x,⟨b,o0,rfl,ac,ab,j,aa,G⟩,I⟩
       let xs:List (El e):=List.ofFn λk:Fin len=>Classical.choose (F k)
       have K:xs.length=len:=by simp [xs]
       have J:∀ (k:Nat) (h:k<xs.length),(∃ b o,a=⟨b,o,none⟩/\b<w.heap.size/\o+k * size e+size e<=Z2G w b/\∃ j,Z05 w b (o+k * size e) (size e)=some j/\Rp w (Z2G w) (·< w.heap.size) Al e (List.replicate (Z06 e) .S) j xs[k] [])/\Wf e xs[k]:=by
        intro k W
        have:=Classical.choose_spec (F ⟨k,by omega⟩)
        simpa [xs] using this
       refine ⟨xs,⟨.S,some a,cap,rfl,by rw [K],by rw [K];exact hlc,.inr (.inr ⟨rfl,rfl,?_⟩)⟩,by show xs.length<=_;omega,?_⟩
       ·by_cases h0:len=0
        ·left;exact List.length_eq_zero_iff.1 (by omega)
        ·right
         obtain ⟨⟨b,o,rfl,hb,hend,_⟩,_⟩:=J (len-1) (by omega)
         refine ⟨b,o,rfl,hb,?_,λk W=> ?_⟩
         ·rw [K]
          have:o+(len-1) * size e+size e=o+len * size e:=by
           have:len=(len-1)+1:=by omega
           rw [this,Nat.add_mul];simp;omega
          omega
         ·obtain ⟨⟨b',o',he',_,_,j,X,h2⟩,_⟩:=J k W
          cases he'
          exact ⟨j,X,h2⟩
       ·intro x F
        obtain ⟨k,W,rfl⟩:=List.mem_iff_getElem.1 F
        exact (J k W).2
     ·cases h
  ·obtain ⟨V,A,hfl,hfs,_⟩:=Y.str hl
   simp only [DataW.trod,A] at h
   split at h
   ·rename_i C
    rw [Y.cells] at C
    cases T:V.toList.mapM λf=>DataW.trod r P w 0 (λ_=>true) true fuel f.type ((cs.drop f.offset).take (P.cellsOf f.type)) with
    | none=>rw [T] at h;cases h
    | some ys=>
     obtain ⟨_,m⟩:=Z2p _ _ T
     refine Z6F l.length τ cs (by simpa using hl) C λi hi=> ?_
     obtain ⟨f,τf,lf,X,h2,h3,h4,h5,_,_⟩:=(hfs i hi).out
     have R:i<V.toList.length:=by simp;omega
     obtain ⟨y,q,_⟩:=m i R
     have hfi:V.toList[i]=f:=by
      have:V.toList[i]? = some f:=by rw [Array.getElem?_toList];exact X
      rw [List.getElem?_eq_getElem R] at this
      simpa using this
     rw [hfi] at q
     have Z:=Q f.type τf lf h5
     rw [Z.cells,h3] at q
     obtain ⟨x,G,I⟩:=Z5H Q fuel f.type τf lf _ y h5 q
     exact ⟨τf,h4,x,G,I⟩
   ·cases h
end
end Go.PI
namespace Go.PI
open Go.ChangeShapes Go.WideShapes Go.ChangeAt Go.RowKit
noncomputable def Z2h (tys:List (TypeId×Ty×List TypeId)):List TypeId->Option (List Mode)
 | []=>some []
 | t::b=>match Z0o tys t,Z2h tys b with | some (τ,l),some ms=>some (.borrow τ (!l.isEmpty)::ms) | _,_=>none
def Z4p:List Mode->List TVal->Prop
 | [],[]=>True
 | .borrow τ ag::ms,v::vs=>(∃ x t,v=⟨τ,ag,x,t⟩/\Wf τ x)/\Z4p ms vs
 | _,_=>False
theorem Z4p.none {vals:List TVal} (h:Z4p [] vals):vals=[]:=by
 cases vals with
 | nil=>rfl
 | cons v vs=>exact h.elim
theorem Z4p.one {τ:Ty} {ag:Bool} {ms:List Mode} {vals:List TVal} (h:Z4p (.borrow τ ag::ms) vals):∃ x t vs,vals=⟨τ,ag,x,t⟩::vs/\Wf τ x/\Z4p ms vs:=by
 cases vals with
 | nil=>exact h.elim
 | cons v vs=>
  obtain ⟨⟨x,t,rfl,w⟩,h⟩:=h
  exact ⟨x,t,vs,rfl,w,h⟩
section
variable {P:Program} {tys:List (TypeId×Ty×List TypeId)} {H:Type} {enc:TypeId×Value->H} {W:World} {base:Nat}
theorem Z8R {t:TypeId} {τ:Ty} {l:List TypeId} {v:Value} (h:TyF P tys t τ l) (d:Value.okWide P W .any base t v):Z0f (!l.isEmpty) v:=by
 by_cases g:l=[]
 ·subst g
  obtain ⟨i,j,m,p,q,r⟩:=h.und rfl
  show one v=true
  cases τ with
  | unit=>exact absurd rfl q
  | pair a b=>exact absurd rfl (r a b)
  | int k=>obtain ⟨n,rfl⟩:=okWide_int (i k rfl) d;rfl
  | bool=>obtain ⟨n,rfl⟩:=okWide_bool (j rfl) d;rfl
  | str=>obtain ⟨n,rfl⟩:=okWide_string (m rfl) d;rfl
  | slice e=>obtain ⟨et,f,_⟩:=p e rfl;obtain ⟨a,n,c,rfl⟩:=okWide_slice f d;rfl
 ·obtain ⟨u,f,_⟩:=h.str g
  obtain ⟨cs,rfl,_⟩:=okWide_struct f d
  have:(!l.isEmpty)=true:=by cases l<;>simp_all
  rw [this]
  exact ⟨cs,rfl⟩
theorem Z54 (q:Z0e P tys):(f:List TypeId)->(vs:List Value)->(m:List (DataW H))->(p:List MemPlace)->(ms:List Mode)->DataW.TrodAll enc P W 0 (λ_=>true) true f vs m p ->
  (∀ (j:Nat) t v,f[j]? = some t->vs[j]? = some v->Value.okWide P W .any base t v)->Z2h tys f=some ms ->
  m.length=f.length/\∃ vals:List TVal,Z4p ms vals/\Z0t W (Z2G W) (·< W.heap.size) ms vals vs (vals.map λ_=>[]) []
 | [],vs,m,p,ms,h,_,e=>by
  obtain ⟨rfl,rfl,rfl⟩:=trodAll_nil h
  simp only [Z2h,Option.some.injEq] at e
  subst e
  exact ⟨rfl,[],trivial,trivial⟩
 | t::f,vs,m,p,ms,h,A,e=>by
  obtain ⟨v,y,d,n,a,b,rfl,rfl,rfl,B,C⟩:=trodAll_cons h
  simp only [Z2h] at e
  split at e
  ·rename_i τ l w z r
   cases e
   obtain ⟨i,vals,G,I⟩:=Z54 q f y n b w C (λj t v ht u=>A (j+1) t v (by simpa using ht) (by simpa using u)) r
   obtain ⟨g,D⟩:=B
   obtain ⟨x,F,E⟩:=Z5H q (Al:=(·< W.heap.size)) g t τ l _ _ z D
   have k:=Z8R (q t τ l z) (A 0 t v rfl rfl)
   refine ⟨by simp [i],⟨τ,!l.isEmpty,x,List.replicate (Z06 τ) .S⟩::vals,⟨⟨x,_,rfl,E⟩,G⟩,rfl,k,?_,I⟩
   rw [k.cells]
   exact F
  ·cases e
def Z60:List TVal->List TVal->List TVal->Option Unit
 | [⟨.bool,false,true,_⟩],_,_=>some ()
 | _,_,_=>none
theorem Z8r {b d ext:List TVal} (h:Z60 b d ext=some ()):∃ tg,b=[⟨.bool,false,true,tg⟩]:=by
 unfold Z60 at h
 split at h
 ·exact ⟨_,rfl⟩
 ·cases h
theorem Z66:(b:List TypeId)->(ms:List Mode)->(xs:List Value)->Z2h tys b=some ms->Z0Y ms xs=[]
 | [],ms,xs,h=>by
  simp only [Z2h,Option.some.injEq] at h
  subst h
  cases xs<;>rfl
 | t::b,ms,xs,h=>by
  simp only [Z2h] at h
  split at h
  ·rename_i d
   cases h
   cases xs with
   | nil=>rfl
   | cons x xs=>exact Z66 b _ xs d
  ·cases h
theorem Z8M (T:Z0e P tys) {f:FuncId} {i:Sig Unit} (V:Z17 P f i) {q:List TypeId} {args:Array Value} {D:List (DataW H)} {p:List MemPlace} (K:Z2h tys q=some i.modes)
  (k:∀ vals,Z4p i.modes vals->i.run vals [] Z60=some ()) (h:DataW.TrodAll enc P W 0 (λ_=>true) true q args.toList D p)
  (Y:∀ (j:Nat) t v,q[j]? = some t->args[j]? = some v->Value.okWide P W .any base t v) :
  Calls P f args W λe r=>e= .returned (.bool true)/\Below W.heap.size W r:=by
 obtain ⟨_,vals,l,R⟩:=Z54 T q args.toList D p _ h (λj t v ht B=>Y j t v ht (by rwa [Array.getElem?_toList] at B)) K
 have g:(vals.map λ_=>([]:List Nat)).flatten=[]:=by induction vals<;>simp_all
 have I:=V.2 vals [] Z60 () (k vals l) W (Z2G W) (·< W.heap.size) args.toList [] (vals.map λ_=>[]) [] R trivial (by rw [g];simp) (λb y=>⟨y,by rw [g];simp⟩) (by rw [g];simp)
 have:args.toList.toArray=args:=by simp
 rw [this] at I
 refine I.mono λe r=> ?_
 rintro ⟨v,Z,C,F,rfl,U,X,J,F',St',vs,fps,E,⟨rfl,n,_⟩,d,G,m,_⟩
 obtain ⟨tg,rfl⟩:=Z8r U
 have A:=Z66 q _ args.toList K
 rw [A] at n d
 have z:C=[]:=List.length_eq_zero_iff.1 n
 subst z
 rw [List.append_nil,List.append_nil] at d
 have w:Below W.heap.size W r:=⟨m.os,m.tape,m.output,m.size,λb y=>m.block b y (by rw [g];simp)⟩
 refine ⟨?_,w⟩
 cases vs with
 | nil=>exact d.elim
 | cons v vs=>
  cases fps with
  | nil=>exact d.elim
  | cons f fps=>
   obtain ⟨⟨L,_,M⟩,Q⟩:=d
   have:v= .bool true:=Z5L L M
   subst this
   cases vs with
   | nil=>rfl
   | cons u vs=>cases fps<;>exact Q.elim
theorem Z6A {j:World} (n:laidOutB P=true) (l:Below W.heap.size W j):(e:List TypeId)->(vs:List Value)->(f:List (DataW H))->(p:List MemPlace)->e.all (λt=>P.readableRec t&&decide (t<P.types.size))=true ->
  DataW.TrodAll enc P W 0 (λ_=>true) true e vs f p->DataW.TrodAll enc P j 0 (λb=>decide (b<W.heap.size)) true e vs f p
 | [],vs,f,p,_,h=>by
  obtain ⟨rfl,rfl,rfl⟩:=trodAll_nil h
  exact trodAll_mk0
 | t::e,vs,f,p,ht,h=>by
  obtain ⟨v,i,d,g,a,b,rfl,rfl,rfl,k,q⟩:=trodAll_cons h
  simp only [List.all_cons,Bool.and_eq_true,decide_eq_true_eq] at ht
  refine trodAll_cons_mk ?_ (Z6A n l e i g b ht.2 q)
  refine Below.trod n ht.1.1 ht.1.2 k l λx u=> ?_
  obtain ⟨m,r⟩:=k
  exact DataW.trod_lt m _ _ _ r x u
theorem Z9G (E:Z0e P tys) (L:laidOutB P=true) {f:FuncId} {fn:Func} {g:Sig Unit} (Q:Z17 P f g) {s:ChangeSpec} (b:s.vars=[]) {J:TypeId} (C:fn.resultTypes= #[J]) (l:P.underlying J=some .bool)
  (I:Z2h tys fn.params.toList=some g.modes) (n:fn.params.toList.all (λt=>P.readableRec t&&decide (t<P.types.size))=true)
  (B:∀ i:List (DataW H),i.length=fn.params.toList.length->s.fn H i={ results:=[.lit (.bool true)],args:=i })
  (m:∀ vals,Z4p g.modes vals->g.run vals [] Z60=some ()) {args:Array Value} {i gs:List (DataW H)} {d:List MemPlace}
  (k:∀ (j:Nat) t v,fn.params[j]? = some t->args[j]? = some v->Value.okWide P W .any base t v) (G:DataW.Whole enc P fn.params.toList s.vars false W args.toList i gs d) :
  Calls P f args W λe D=>∃ v,e= .returned v/\s.post enc P fn false true false false W args v D:=by
 have z:=G
 obtain ⟨p,q,y,F,rfl,K,M⟩:=G
 rw [b] at F
 obtain ⟨rfl,rfl⟩:=trodVars_none F
 have w:i.length=fn.params.toList.length:=(Z54 E _ _ _ _ _ y (λj t v ht r=>k j t v (by rwa [Array.getElem?_toList] at ht) (by rwa [Array.getElem?_toList] at r)) I).1
 refine (Z8M E Q I m y λj t v ht r=>k j t v (by rwa [Array.getElem?_toList] at ht) r).mono λe D=> ?_
 rintro ⟨rfl,u⟩
 have A:=B i w
 refine ⟨_,rfl,i,[],_,[],p,[],z,?_,?_,?_,u.frame _,λh=>by cases h⟩
 ·rw [List.append_nil,A,C]
  exact trodAll_mk1 (shut_bool l _)
 ·rw [List.append_nil,A]
  exact Z6A L u _ _ _ _ n y
 ·rw [b,List.append_nil,A]
  exact rfl
end
end Go.PI
namespace Go.PI
theorem ZaH {n:Int} (b: -9223372036854775808<=n) (d:n<9223372036854775808):Z9K n=n:=by
 unfold Z9K IntKind.wrap
 simp only [IntKind.bits,IntKind.signed,Bool.true_and]
 by_cases h:n % 2 ^ 64>=2 ^ (64-1)
 ·rw [if_pos (by simpa using h)];omega
 ·rw [if_neg (by simpa using h)];omega
theorem ZaK {i:Int} {n:Nat} (b:0<=i) (d:i<(n:Int)):inb i n=true:=by
 unfold inb;exact decide_eq_true ⟨b,d⟩
theorem ZaL {n:Nat} (h:n<=LIM):lim n=true:=decide_eq_true h
theorem Zav {n:Nat} (h:n<=LIM):Z9I (nI n) (nI n)=true:=by
 unfold Z9I nI;exact decide_eq_true ⟨by omega,by omega,by omega⟩
theorem Za5 {a b:Int} (h:a<b):decide (a<b)=true:=decide_eq_true h
theorem Za4 {a b:Int} (h:¬ a<b):decide (a<b)=false:=decide_eq_false h
theorem Zay {α:Type} (z:α) (l:List α) (i:Nat) (h:i<l.length):nth z l (i:Int)=l[i]:=by
 unfold nth;simp [h]
theorem ZaF {α:Type} (l:List α) (i:Nat) (v:α):upd l (i:Int) v=l.set i v:=by unfold upd;simp
theorem Z3u {V K:Type} {step:V->(V->Res)->K->Res} (e:Nat->V) (N:Nat) (q:K) (b:Res)
  (j:∀ i,i<N->∀ rec,step (e i) rec q=rec (e (i+1))) (g:∀ rec,step (e N) rec q=b) (n:Nat) (f:N<n):Z1f step n (e 0) q=b:=by
 have:∀ d i n,i+d=N->d<n->Z1f step n (e i) q=b:=by
  intro d
  induction d with
  | zero=>
   intro i n h f
   obtain ⟨n,rfl⟩:∃ m,n=m+1:=⟨n-1,by omega⟩
   have:i=N:=by omega
   subst this
   exact g _
  | succ d k=>
   intro i n h f
   obtain ⟨n,rfl⟩:∃ m,n=m+1:=⟨n-1,by omega⟩
   show step (e i) _ q=b
   rw [j i (by omega)]
   exact k (i+1) n (by omega) (by omega)
 exact this N 0 n (by omega) (by omega)
theorem Z2b {n:Nat} (h:n<4611686018427387904):n<Z1c:=by rw [Z9q];exact h
def Z22 {α β:Type} (a:List α) (f:α->β) (z:β) (i:Nat):List β:=(a.take i).map f++List.replicate (a.length-i) z
theorem Z8g {α β:Type} (a:List α) (f:α->β) (z:β) (i:Nat) (h:i<=a.length):(Z22 a f z i).length=a.length:=by
 unfold Z22;simp;omega
theorem Z8f {α β:Type} (a:List α) (f:α->β) (z:β):Z22 a f z a.length=a.map f:=by
 unfold Z22;simp
theorem Z7N {α β:Type} (a:List α) (f:α->β) (z:β):Z22 a f z 0=List.replicate a.length z:=by
 unfold Z22;simp
theorem Z8h {α β:Type} (a:List α) (f:α->β) (z:β) (i:Nat) (h:i<a.length):(Z22 a f z i).set i (f a[i])=Z22 a f z (i+1):=by
 unfold Z22
 rw [List.set_append_right _ _ (by simp;omega)]
 have b:a.length-i=(a.length-(i+1))+1:=by omega
 have d:i-((a.take i).map f).length=0:=by simp;omega
 rw [d,b,List.replicate_succ,List.set_cons_zero,List.take_succ_eq_append_getElem h,List.map_append,List.append_assoc]
 rfl
theorem ZaQ {n:Nat} {i:Nat} (h:i<n):decide ((i:Int)<nI n)=true:=decide_eq_true (by unfold nI;omega)
theorem ZaP {n:Nat}:decide ((n:Int)<nI n)=false:=decide_eq_false (by unfold nI;omega)
theorem ZaC {α β:Type} (z:β) (a:List α) (f:α->β) {step:(List β×Int)->(List β×Int->Res)->(List β->Res)->Res} (q:List β->Res) (d:a.length<=LIM)
  (j:∀ (b:List β) (i:Nat) rec,(e:i<a.length)->b.length=a.length->step (b,(i:Int)) rec q=rec (b.set i (f a[i]),(i:Int)+1))
  (h:∀ b rec,step (b,(a.length:Int)) rec q=q b):Z1f step Z1c (Z9h (nI a.length) z,0) q=q (a.map f):=by
 have g:Z9h (nI a.length) z=Z22 a f z 0:=by rw [Z7N];unfold Z9h nI;simp
 rw [g]
 refine Z3u (λi=>(Z22 a f z i,(i:Int))) a.length q _ (λi e rec=> ?_) (λrec=> ?_) Z1c (Z2b (by unfold LIM at d;omega))
 ·rw [j _ i rec e (Z8g _ _ _ _ (by omega)),Z8h a f z i e];rfl
 ·rw [h,Z8f]
def szR (left:Int) (n:Nat):Int:=if (n:Int)<=left then left-n else -1
theorem ZaA {left:Int} {n:Nat} (h:(n:Int)<=left):szR left n=left-n:=if_pos h
theorem Zaz {left:Int} {n:Nat} (h:¬ (n:Int)<=left):szR left n= -1:=if_neg h
theorem Zak {left:Int} {a b:Nat} (h:(a:Int)<=left):szR left (a+b)=szR (left-a) b:=by
 unfold szR
 by_cases d:((b:Nat):Int)<=left-a
 ·rw [if_pos d,if_pos (show ((a+b:Nat):Int)<=left by omega)];omega
 ·rw [if_neg d,if_neg (show ¬ ((a+b:Nat):Int)<=left by omega)]
theorem Zal {left:Int} {a b:Nat} (h:¬ (a:Int)<=left):szR left (a+b)= -1:=if_neg (show ¬ ((a+b:Nat):Int)<=left by omega)
theorem ZaN {left:Int} {n:Nat} (h:0<=left):szR left n<=left:=by unfold szR;split<;>omega
theorem ZaB {α:Type} (b:α->Nat) (a:List α) {step:(Int×Int)->(Int×Int->Res)->((Int->Res)×(Unit->Res))->Res} (q:(Int->Res)×(Unit->Res)) (r:a.length<=1048576)
  (w:∀ (left:Int) (i:Nat) rec,(p:i<a.length)->0<=left->left<=1048576->step (left,(i:Int)) rec q=if (b a[i]:Int)<=left then rec (left-b a[i],(i:Int)+1) else q.2 ())
  (u:∀ left rec,step (left,(a.length:Int)) rec q=q.1 left) (left:Int) (f:0<=left) (h:left<=1048576) :
  Z1f step Z1c (left,0) q=if (((a.map b).sum:Nat):Int)<=left then q.1 (left-((a.map b).sum:Nat)) else q.2 ():=by
 have j:∀ (d i n:Nat) (left:Int),i+d=a.length->d<n->0<=left->left<=1048576 ->
   Z1f step n (left,(i:Int)) q=if ((((a.drop i).map b).sum:Nat):Int)<=left then q.1 (left-(((a.drop i).map b).sum:Nat)) else q.2 ():=by
  intro d
  induction d with
  | zero=>
   intro i n left p v f h
   obtain ⟨n,rfl⟩:∃ m,n=m+1:=⟨n-1,by omega⟩
   have:i=a.length:=by omega
   subst this
   show step _ _ q=_
   rw [u]
   simp [f]
  | succ d y=>
   intro i n left p v f h
   obtain ⟨n,rfl⟩:∃ m,n=m+1:=⟨n-1,by omega⟩
   have g:i<a.length:=by omega
   show step _ _ q=_
   rw [w left i _ g f h,List.drop_eq_getElem_cons g,List.map_cons,List.sum_cons]
   by_cases k:(b a[i]:Int)<=left
   ·rw [if_pos k]
    have:=y (i+1) n (left-b a[i]) (by omega) (by omega) (by omega) (by omega)
    rw [show ((i:Int)+1)=((i+1:Nat):Int) by omega,this]
    by_cases l:((((a.drop (i+1)).map b).sum:Nat):Int)<=left-b a[i]
    ·have e:((b a[i]+((a.drop (i+1)).map b).sum:Nat):Int)<=left:=by omega
     rw [if_pos l,if_pos e]
     have:left-(b a[i]:Int)-((((a.drop (i+1)).map b).sum:Nat):Int)=left-((b a[i]+((a.drop (i+1)).map b).sum:Nat):Int):=by omega
     rw [this]
    ·have e:¬ ((b a[i]+((a.drop (i+1)).map b).sum:Nat):Int)<=left:=by omega
     rw [if_neg l,if_neg e]
   ·have e:¬ ((b a[i]+((a.drop (i+1)).map b).sum:Nat):Int)<=left:=by omega
    rw [if_neg k,if_neg e]
 have:=j a.length 0 Z1c left (by omega) (Z2b (by omega)) f h
 simpa using this
theorem Zar {α:Type} (a:List α) {step:Int->(Int->Res)->((Unit->Res)×(Unit->Res))->Res} (q:(Unit->Res)×(Unit->Res)) (b:a.length<=LIM)
  (f:∀ (i:Nat) rec,(d:i<a.length)->step (i:Int) rec q=rec ((i:Int)+1)) (e:∀ rec,step (a.length:Int) rec q=q.1 ()):Z1f step Z1c (0:Int) q=q.1 ():=
 Z3u (λi=>(i:Int)) a.length q _ (λi d rec=>by rw [f i rec d];rfl) e Z1c (Z2b (by unfold LIM at b;omega))
end Go.PI
namespace Go.PI
theorem Z9H {α:Type} (b:α->Nat):(l:List α)->∀ x∈l,b x<=(l.map b).sum
 | y::l,x,h=>by
  rcases List.mem_cons.1 h with rfl | h
  ·simp
  ·have:=Z9H b l x h
   simp;omega
def Z4r {α β:Type} (g:Int->α->List β):Nat->List α->List β
 | _,[]=>[]
 | j,x::l=>g j x++Z4r g (j+1) l
theorem Z95 {α β:Type} (g:Int->α->List β) (b:α->Nat) (d:β->Nat) (h:∀ i x,((g i x).map d).sum<=b x):(j:Nat)->(l:List α)->((Z4r g j l).map d).sum<=(l.map b).sum
 | _,[]=>Nat.le_refl _
 | j,x::l=>by
  have:=Z95 g b d h (j+1) l
  have:=h j x
  simp only [Z4r,List.map_append,List.sum_append,List.map_cons,List.sum_cons]
  omega
theorem Z94 {α β:Type} (g:Int->α->List β) (h:∀ i x,(g i x).length<=1):(j:Nat)->(l:List α)->(Z4r g j l).length<=l.length
 | _,[]=>Nat.le_refl _
 | j,x::l=>by
  have:=Z94 g h (j+1) l
  have:=h j x
  simp only [Z4r,List.length_append,List.length_cons]
  omega
theorem Za3 {α β:Type} (a:List α) (g:Int->α->List β) {V K:Type} (j:Int->List β->V) {step:V->(V->Res)->K->Res} (q:K) (e:List β->Res) (f:a.length<=LIM) (u:∀ i x,(g i x).length<=1)
  (w:∀ (b:List β) (i:Nat) rec,(l:i<a.length)->b.length<=i->step (j i b) rec q=rec (j (i+1) (b++g i a[i])))
  (r:∀ b rec,step (j (a.length:Int) b) rec q=e b):Z1f step Z1c (j 0 []) q=e (Z4r g 0 a):=by
 have k:∀ (d i n:Nat) (b:List β),i+d=a.length->d<n->b.length<=i->Z1f step n (j i b) q=e (b++Z4r g i (a.drop i)):=by
  intro d
  induction d with
  | zero=>
   intro i n b l v p
   obtain ⟨n,rfl⟩:∃ m,n=m+1:=⟨n-1,by omega⟩
   have:i=a.length:=by omega
   subst this
   show step _ _ q=_
   rw [r]
   simp [Z4r]
  | succ d y=>
   intro i n b l v p
   obtain ⟨n,rfl⟩:∃ m,n=m+1:=⟨n-1,by omega⟩
   have h:i<a.length:=by omega
   show step _ _ q=_
   rw [w b i _ h p,List.drop_eq_getElem_cons h]
   have:=y (i+1) n (b++g i a[i]) (by omega) (by omega) (by have:=u i a[i];simp;omega)
   rw [show ((i:Int)+1)=((i+1:Nat):Int) by omega,this]
   simp [Z4r,List.append_assoc]
 have:=k a.length 0 Z1c [] (by omega) (Z2b (by unfold LIM at f;omega)) (by simp)
 simpa using this
def mkL {α:Type} (w:α->Nat) (mk:α->Int->α):List α->Int->List α
 | [],_=>[]
 | x::l,k=>mk x k::mkL w mk l (k+w x)
theorem Z6s {α:Type} (w:α->Nat) (mk:α->Int->α):(l:List α)->(k:Int)->(mkL w mk l k).length=l.length
 | [],_=>rfl
 | x::l,k=>by simp [mkL,Z6s w mk l]
theorem Z65 {α:Type} (w:α->Nat) (mk:α->Int->α):(l m:List α)->(k:Int)->mkL w mk (l++m) k=mkL w mk l k++mkL w mk m (k+((l.map w).sum:Nat))
 | [],m,k=>by simp [mkL]
 | x::l,m,k=>by
  simp only [List.cons_append,mkL,List.map_cons,List.sum_cons]
  rw [Z65 w mk l m]
  congr 3
  omega
theorem Z9v {α:Type} (w:α->Nat) (mk:α->Int->α) (b:α->Nat) (h:∀ x k,b (mk x k)=b x):(l:List α)->(k:Int)->((mkL w mk l k).map b).sum=(l.map b).sum
 | [],_=>rfl
 | x::l,k=>by simp only [mkL,List.map_cons,List.sum_cons,h,Z9v w mk b h l]
theorem Z7B {α:Type} (w:α->Nat) (a:List α) (i:Nat) (h:i<a.length):((a.take (i+1)).map w).sum=((a.take i).map w).sum+w a[i]:=by
 rw [List.take_succ_eq_append_getElem h,List.map_append,List.sum_append,List.map_cons,List.map_nil,List.sum_cons,List.sum_nil,Nat.add_zero]
theorem Z9L {α:Type} (w:α->Nat) (a:List α) (i:Nat):((a.take i).map w).sum<=(a.map w).sum:=by
 have:(a.map w).sum=((a.take i).map w).sum+((a.drop i).map w).sum:=by
  rw [<-List.sum_append,<-List.map_append,List.take_append_drop]
 omega
theorem Z9Z {α:Type} (w:α->Nat) (mk:α->Int->α) (a:List α) (k:Int) {V K:Type} (g:List α->Int->Int->V) {step:V->(V->Res)->K->Res} (q:K) (b:List α->Int->Res)
  (f:a.length<=LIM)
  (p:∀ (l:List α) (i:Nat) rec,(e:i<a.length)->l.length=a.length->(h:i<l.length)->l[i]=a[i]->step (g l (k+(((a.take i).map w).sum:Nat)) i) rec q=rec (g (l.set i (mk a[i] (k+(((a.take i).map w).sum:Nat)))) (k+(((a.take i).map w).sum:Nat)+w a[i]) (i+1)))
  (n:∀ l k rec,l.length=a.length->step (g l k (a.length:Int)) rec q=b l k):Z1f step Z1c (g a k 0) q=b (mkL w mk a k) (k+((a.map w).sum:Nat)):=by
 have:=Z3u (step:=step) (λi=>g (mkL w mk (a.take i) k++a.drop i) (k+(((a.take i).map w).sum:Nat)) i) a.length q (b (mkL w mk a k) (k+((a.map w).sum:Nat))) (λi e rec=>by
  have d:(mkL w mk (a.take i) k).length=i:=by rw [Z6s];simp;omega
  have h:(mkL w mk (a.take i) k++a.drop i).length=a.length:=by simp [d];omega
  rw [p _ i rec e h (by omega) (by rw [List.getElem_append_right (by omega)];simp [d])]
  have j:(mkL w mk (a.take i) k++a.drop i).set i (mk a[i] (k+(((a.take i).map w).sum:Nat)))=mkL w mk (a.take (i+1)) k++a.drop (i+1):=by
   rw [List.set_append_right _ _ (by omega),d,Nat.sub_self,List.drop_eq_getElem_cons e,List.set_cons_zero,List.take_succ_eq_append_getElem e,Z65]
   simp [mkL]
  rw [j,Z7B w a i e]
  have m:k+(((a.take i).map w).sum:Nat)+(w a[i]:Int)=k+((((a.take i).map w).sum+w a[i]:Nat):Int):=by omega
  rw [m]
  rfl) (λrec=>by
  rw [n _ _ _ (by simp [Z6s])]
  simp) Z1c (Z2b (by unfold LIM at f;omega))
 simpa [mkL] using this
theorem Zau {α:Type} (w:α->Nat) (mk:α->Int->α) (a:List α) (k:Int) (i:Nat) (h:i<a.length) (d:i<(mkL w mk a k).length):(mkL w mk a k)[i]=mk a[i] (k+(((a.take i).map w).sum:Nat)):=by
 induction a generalizing k i with
 | nil=>simp at h
 | cons x l b=>
  cases i with
  | zero=>simp [mkL]
  | succ i=>
   simp only [mkL,List.getElem_cons_succ,List.take_succ_cons,List.map_cons,List.sum_cons]
   rw [b _ _ (by simpa using h)]
   congr 1
   omega
theorem Z9W {α:Type} (w:α->Nat) (a:List α) (k:Int) {V K:Type} (e:Int->Int->V) {step:V->(V->Res)->K->Res} (q:K) (b:Int->Res) (d:a.length<=LIM)
  (j:∀ (i:Nat) rec,(f:i<a.length)->step (e (k+(((a.take i).map w).sum:Nat)) i) rec q=rec (e (k+(((a.take i).map w).sum:Nat)+w a[i]) (i+1)))
  (h:∀ k rec,step (e k (a.length:Int)) rec q=b k):Z1f step Z1c (e k 0) q=b (k+((a.map w).sum:Nat)):=by
 have:=Z3u (step:=step) (λi=>e (k+(((a.take i).map w).sum:Nat)) i) a.length q (b (k+((a.map w).sum:Nat))) (λi f rec=>by
  rw [j i rec f,Z7B w a i f]
  have g:k+(((a.take i).map w).sum:Nat)+(w a[i]:Int)=k+((((a.take i).map w).sum+w a[i]:Nat):Int):=by omega
  rw [g]
  rfl) (λrec=>by
  rw [h]
  simp) Z1c (Z2b (by unfold LIM at d;omega))
 simpa using this
theorem Za0 {V K:Type} (N:Nat) (f:Int->V) (b:Nat->Bool) {step:V->(V->Res)->K->Res} (q:K) (e:Res) (g:Nat->Res) (j:N<=LIM)
  (r:∀ (i:Nat) rec,i<N->step (f i) rec q=bif b i then g i else rec (f ((i:Int)+1))) (k:∀ rec,step (f (N:Int)) rec q=e) :
  Z1f step Z1c (f 0) q=match (List.range N).find? b with | none=>e | some i=>g i:=by
 have h:∀ (d i n:Nat),i+d=N->d<n->Z1f step n (f i) q=match (List.range' i d).find? b with | none=>e | some i=>g i:=by
  intro d
  induction d with
  | zero=>
   intro i n l p
   obtain ⟨n,rfl⟩:∃ m,n=m+1:=⟨n-1,by omega⟩
   have:i=N:=by omega
   subst this
   show step _ _ q=_
   rw [k]
   rfl
  | succ d u=>
   intro i n l p
   obtain ⟨n,rfl⟩:∃ m,n=m+1:=⟨n-1,by omega⟩
   show step _ _ q=_
   rw [r i _ (by omega),List.range'_succ,List.find?_cons]
   cases b i with
   | true=>rfl
   | false=>
    have:=u (i+1) n (by omega) (by omega)
    rw [show ((i:Int)+1)=((i+1:Nat):Int) by omega,cond_false]
    exact this
 have:=h N 0 Z1c (by omega) (Z2b (by unfold LIM at j;omega))
 rw [List.range_eq_range']
 exact this
theorem Z9M {d:Nat->Bool} {l:List Nat} {a b:Res}:(match l.find? d with | none=>a | some _=>b)=bif l.any d then b else a:=by
 induction l with
 | nil=>rfl
 | cons x l e=>
  rw [List.find?_cons,List.any_cons]
  cases d x with
  | true=>rfl
  | false=>exact e
theorem Z9R {b:Nat->Bool} {l:List Nat} {k:Bool->Res} {u v:Bool}:(bif l.any b then k u else k v)=k (bif l.any b then u else v):=by
 cases l.any b<;>rfl
theorem Zag (a b:ByteArray):sEq a b=sEq b a:=by
 unfold sEq;exact BEq.comm
theorem Zah (a:ByteArray):sEq a a=true:=by unfold sEq;simp
theorem Zai (a:ByteArray):sNe a a=false:=by unfold sNe;simp
theorem ZaO {α:Type} [BEq α] [LawfulBEq α] (n:α):(n != n)=false:=by simp
def Z5V {A:Type} (f:Nat->A->A):Nat->Nat->A->A
 | _,0,a=>a
 | i,d+1,a=>Z5V f (i+1) d (f i a)
theorem Z9U {A V K:Type} (N:Nat) (g:Int->A->V) (f:Nat->A->A) (p:Nat->A->Prop) {step:V->(V->Res)->K->Res} (q:K) (b:A->Res) (a0:A) (k:N<=LIM) (j:p 0 a0)
  (v:∀ (i:Nat) a,i<N->p i a->p (i+1) (f i a)) (w:∀ (i:Nat) a rec,i<N->p i a->step (g i a) rec q=rec (g ((i:Int)+1) (f i a)))
  (l:∀ a rec,p N a->step (g (N:Int) a) rec q=b a):Z1f step Z1c (g 0 a0) q=b (Z5V f 0 N a0)/\p N (Z5V f 0 N a0):=by
 have h:∀ (d i n:Nat) (a:A),i+d=N->d<n->p i a->Z1f step n (g i a) q=b (Z5V f i d a)/\p N (Z5V f i d a):=by
  intro d
  induction d with
  | zero=>
   intro i n a r u e
   obtain ⟨n,rfl⟩:∃ m,n=m+1:=⟨n-1,by omega⟩
   have:i=N:=by omega
   subst this
   exact ⟨l a _ e,e⟩
  | succ d y=>
   intro i n a r u e
   obtain ⟨n,rfl⟩:∃ m,n=m+1:=⟨n-1,by omega⟩
   have:=y (i+1) n (f i a) (by omega) (by omega) (v i a (by omega) e)
   refine ⟨?_,this.2⟩
   show step _ _ q=_
   rw [w i a _ (by omega) e,show ((i:Int)+1)=((i+1:Nat):Int) by omega]
   exact this.1
 exact h N 0 Z1c a0 (by omega) (Z2b (by unfold LIM at k;omega)) j
theorem Z9Y {V K:Type} (step:V->(V->Res)->K->Res) (m:Nat) (v:V) (q:K):Z1f step (m+1) v q=step v (λb=>Z1f step m b q) q:=rfl
end Go.PI
namespace Go.PI
def Z1S {α A E:Type} (f:Nat->A->α->Except E A):Nat->List α->A->Except E A
 | _,[],a=> .ok a
 | i,x::l,a=>match f i a x with
  | .ok b=>Z1S f (i+1) l b
  | .error e=> .error e
theorem Z3Z {α A E V K:Type} (l:List α) (j:Int->A->V) (f:Nat->A->α->Except E A) (p:Nat->A->Prop) {step:V->(V->Res)->K->Res} (q:K) (g:A->Res) (r:E->Res) (a0:A) (y:l.length<=LIM) (w:p 0 a0)
  (D:∀ (i:Nat) a b,(u:i<l.length)->p i a->f i a l[i]= .ok b->p (i+1) b)
  (F:∀ (i:Nat) a rec,(u:i<l.length)->p i a->step (j i a) rec q=match f i a l[i] with | .ok b=>rec (j ((i:Int)+1) b) | .error e=>r e)
  (z:∀ a rec,p l.length a->step (j (l.length:Int) a) rec q=g a):Z1f step Z1c (j 0 a0) q=match Z1S f 0 l a0 with | .ok a=>g a | .error e=>r e:=by
 have v:∀ (d i n:Nat) (a:A),i+d=l.length->d<n->p i a->Z1f step n (j i a) q=match Z1S f i (l.drop i) a with | .ok a=>g a | .error e=>r e:=by
  intro d
  induction d with
  | zero=>
   intro i n a u C k
   obtain ⟨n,rfl⟩:∃ m,n=m+1:=⟨n-1,by omega⟩
   have:i=l.length:=by omega
   subst this
   rw [List.drop_length]
   exact z a _ k
  | succ d G=>
   intro i n a u C k
   obtain ⟨n,rfl⟩:∃ m,n=m+1:=⟨n-1,by omega⟩
   have h:i<l.length:=by omega
   show step _ _ q=_
   rw [F i a _ h k,List.drop_eq_getElem_cons h]
   simp only [Z1S]
   cases B:f i a l[i] with
   | error e=>rfl
   | ok b=>
    have:=G (i+1) n b (by omega) (by omega) (D i a b h k B)
    rw [show ((i:Int)+1)=((i+1:Nat):Int) by omega]
    exact this
 have:=v l.length 0 Z1c a0 (by omega) (Z2b (by unfold LIM at y;omega)) w
 simpa using this
theorem Z91 {α A E:Type} {f:Nat->A->α->Except E A} (p:Nat->A->Prop):(l:List α)->(i:Nat)->(a b:A)->p i a->(∀ (j:Nat) x a d,x∈l->p j a->f j a x= .ok d->p (j+1) d)->Z1S f i l a= .ok b->p (i+l.length) b
 | [],i,a,b,e,_,h=>by
  simp only [Z1S,Except.ok.injEq] at h
  subst h;exact e
 | x::l,i,a,b,e,g,h=>by
  simp only [Z1S] at h
  split at h
  ·rename_i d k
   have:=Z91 p l (i+1) d b (g i x a d (by simp) e k) (λj y a d m=>g j y a d (List.mem_cons_of_mem _ m)) h
   rw [List.length_cons]
   rw [show i+(l.length+1)=i+1+l.length by omega]
   exact this
  ·cases h
theorem Z8i {α A V K:Type} (l:List α) (g:Int->A->V) (f:A->α->A) (p:Nat->A->Prop) {step:V->(V->Res)->K->Res} (q:K) (b:A->Res) (a0:A) (m:l.length<=LIM) (k:p 0 a0)
  (r:∀ (i:Nat) a,(d:i<l.length)->p i a->p (i+1) (f a l[i]))
  (u:∀ (i:Nat) a rec,(d:i<l.length)->p i a->step (g i a) rec q=rec (g ((i:Int)+1) (f a l[i])))
  (n:∀ a rec,p l.length a->step (g (l.length:Int) a) rec q=b a):Z1f step Z1c (g 0 a0) q=b (l.foldl f a0):=by
 have h:=Z3Z l g (λ_ a x=>(.ok (f a x):Except Empty A)) p q b (λe=>e.elim) a0 m k (λi a w d j h=>by cases h;exact r i a d j) (λi a rec d j=>u i a rec d j) n
 rw [h]
 have:∀ (l:List α) (i:Nat) (a:A),Z1S (λ_ a x=>(.ok (f a x):Except Empty A)) i l a= .ok (l.foldl f a):=by
  intro l
  induction l with
  | nil=>intro i a;rfl
  | cons x l v=>intro i a;simp only [Z1S,List.foldl_cons];exact v _ _
 rw [this]
theorem Z9T {α β V K:Type} (l:List α) (j:Int->List β->V) (g:α->List β) (B:Nat) (pre:List β) {step:V->(V->Res)->K->Res} (q:K) (f:List β->Res) (n:l.length<=LIM)
  (r:∀ (i:Nat) (e:i<l.length),(pre++(l.take i).flatMap g).length<=B->(pre++(l.take (i+1)).flatMap g).length<=B) (m:pre.length<=B)
  (u:∀ (i:Nat) (b:List β) rec,(e:i<l.length)->b=pre++(l.take i).flatMap g->b.length<=B->step (j i b) rec q=rec (j ((i:Int)+1) (b++g l[i])))
  (p:∀ b rec,step (j (l.length:Int) b) rec q=f b):Z1f step Z1c (j 0 pre) q=f (pre++l.flatMap g):=by
 have ht:∀ (i:Nat) (e:i<l.length),(l.take (i+1)).flatMap g=(l.take i).flatMap g++g l[i]:=λi e=>by
  rw [List.take_succ_eq_append_getElem e,List.flatMap_append,List.flatMap_cons,List.flatMap_nil,List.append_nil]
 have:=Z8i l j (λb x=>b++g x) (λi b=>b=pre++(l.take i).flatMap g/\b.length<=B) q f pre n ⟨by simp,m⟩
  (λi a e h=>by
   have k:a++g l[i]=pre++(l.take (i+1)).flatMap g:=by rw [ht i e,<-List.append_assoc,<-h.1]
   exact ⟨k,by rw [k];exact r i e (by rw [<-h.1];exact h.2)⟩)
  (λi a rec e h=>u i a rec e h.1 h.2) (λa rec _=>p a rec)
 rw [this]
 congr 1
 have:∀ (l:List α) (d:List β),l.foldl (λb x=>b++g x) d=d++l.flatMap g:=by
  intro l
  induction l with
  | nil=>intro d;simp
  | cons x l v=>intro d;simp [v,List.append_assoc]
 rw [this]
theorem Za2 {α V K:Type} (l:List α) (e:Int->V) (b:α->Bool) {step:V->(V->Res)->K->Res} (q:K) (d f:Res) (j:l.length<=LIM)
  (m:∀ (i:Nat) rec,(g:i<l.length)->step (e i) rec q=bif b l[i] then f else rec (e ((i:Int)+1))) (k:∀ rec,step (e (l.length:Int)) rec q=d) :
  Z1f step Z1c (e 0) q=bif l.any b then f else d:=by
 have h:=Z3Z l (λi (_:Unit)=>e i) (λ_ _ x=>if b x then .error () else (.ok ():Except Unit Unit)) (λ_ _=>True) q (λ_=>d) (λ_=>f) () j trivial (λ_ _ _ _ _ _=>trivial)
  (λi a rec g _=>by
   rw [m i rec g]
   cases b l[i]<;>rfl) (λa rec _=>k rec)
 rw [h]
 have:∀ (l:List α) (i:Nat),Z1S (λ_ _ x=>if b x then .error () else (.ok ():Except Unit Unit)) i l ()=bif l.any b then .error () else .ok ():=by
  intro l
  induction l with
  | nil=>intro i;rfl
  | cons x l n=>
   intro i
   simp only [Z1S,List.any_cons]
   cases b x with
   | true=>rfl
   | false=>exact n _
 rw [this]
 cases l.any b<;>rfl
def Z71 {α:Type} (b:Nat->α->Bool):Nat->List α->Bool
 | _,[]=>false
 | i,x::l=>b i x||Z71 b (i+1) l
theorem Z9P {α V K:Type} (l:List α) (e:Int->V) (b:Nat->α->Bool) {step:V->(V->Res)->K->Res} (q:K) (d f:Res) (j:l.length<=LIM)
  (m:∀ (i:Nat) rec,(g:i<l.length)->step (e i) rec q=bif b i l[i] then f else rec (e ((i:Int)+1))) (k:∀ rec,step (e (l.length:Int)) rec q=d) :
  Z1f step Z1c (e 0) q=bif Z71 b 0 l then f else d:=by
 have h:=Z3Z l (λi (_:Unit)=>e i) (λi _ x=>if b i x then .error () else (.ok ():Except Unit Unit)) (λ_ _=>True) q (λ_=>d) (λ_=>f) () j trivial (λ_ _ _ _ _ _=>trivial)
  (λi a rec g _=>by
   rw [m i rec g]
   cases b i l[i]<;>rfl) (λa rec _=>k rec)
 rw [h]
 have:∀ (l:List α) (i:Nat),Z1S (λi _ x=>if b i x then .error () else (.ok ():Except Unit Unit)) i l ()=bif Z71 b i l then .error () else .ok ():=by
  intro l
  induction l with
  | nil=>intro i;rfl
  | cons x l n=>
   intro i
   simp only [Z1S,Z71]
   cases b i x with
   | true=>rfl
   | false=>exact n _
 rw [this]
 cases Z71 b 0 l<;>rfl
def Z9F {α:Type} (p:α->Bool) (l:List α):Int:=match l.findIdx? p with | some i=>(i:Int) | none=> -1
theorem Z9S {α V K:Type} (l:List α) (b:Int->V) (p:α->Bool) {step:V->(V->Res)->K->Res} (q:K) (k:Int->Res) (e:l.length<=LIM)
  (g:∀ (i:Nat) rec,(d:i<l.length)->step (b i) rec q=bif p l[i] then k i else rec (b ((i:Int)+1))) (f:∀ rec,step (b (l.length:Int)) rec q=k (-1)) :
  Z1f step Z1c (b 0) q=k (Z9F p l):=by
 have h:=Z3Z l (λi (_:Unit)=>b i) (λi _ x=>if p x then .error i else (.ok ():Except Nat Unit)) (λ_ _=>True) q (λ_=>k (-1)) (λi=>k i) () e trivial (λ_ _ _ _ _ _=>trivial)
  (λi a rec d _=>by
   rw [g i rec d]
   cases p l[i]<;>rfl) (λa rec _=>f rec)
 rw [h]
 have:∀ (l:List α) (i:Nat),Z1S (λi _ x=>if p x then .error i else (.ok ():Except Nat Unit)) i l ()=match l.findIdx? p with | some j=> .error (i+j) | none=> .ok ():=by
  intro l
  induction l with
  | nil=>intro i;rfl
  | cons x l m=>
   intro i
   simp only [Z1S,List.findIdx?_cons]
   cases n:p x with
   | true=>rfl
   | false=>
    simp only [Bool.false_eq_true,if_false]
    rw [m]
    cases l.findIdx? p with
    | none=>rfl
    | some j=>simp only [Option.map_some];congr 1;omega
 rw [this]
 unfold Z9F
 cases l.findIdx? p with
 | none=>rfl
 | some j=>simp
end Go.PI
