/-
  Program's code interpreted over typed values; printed texts; plain laws. No conditions.
-/
import Derived.Test.YtiaipepkkjlccaaGreatWOi
import Derived.Test.YtiaipepkkjlccaaGreatWOg
import Derived.Test.YtiaipepkkjlccaaGreatWOf
import Derived.Test.YtiaipepkkjlccaaGreatWOd
set_option linter.unusedSimpArgs false
set_option linter.unusedVariables false
namespace Go.PI.G
open Go Go.PI
theorem jhW {l:List C}(h:l.Pairwise λa b=>a.1≠b.1){i:Nat}(g:i<l.length):j02 l l[i].1=(i:Int):=by
 unfold j02;refine jqs g (Zag _) λj k f=> ?_
 have f:=(j09 _ _).1 f;rw[XE]at h;rcases Nat.lt_trichotomy i j with d | d | d
 ·exact absurd f.symm (h i j g k d)
 ·exact d.symm
 ·exact absurd f (h j i k g d)
theorem j5V (l:List C):j4m l=true↔(∀c∈l,j0S c=true)/\l.Pairwise λa b=>a.1≠b.1:=by
 unfold j4m;rw[QF,j8X];constructor
 ·intro h;refine⟨λc k=> ?_,XE.2 λi j n d p m=> ?_⟩
  ·obtain⟨j,d,rfl⟩:=Xo k;have:=h j d;simp only[Xb,Xa]at this;exact this.1
  ·have f:=h i n;have g:=h j d;simp only[Xb,Xu,bne_eq_false_iff_eq]at f g;rw[m]at f;omega
 ·rintro⟨f,g⟩ j d;rw[f _ (Q7 d),Xu,jhW g d];simp
theorem j4z (l:List C):(ks:List ByteArray)->(d:Int)->(j13 l d ks=true↔(∀k∈ks,d<j02 l k/\(nth zC l (j02 l k)).2.2.1=true)/\ks.Pairwise λa b=>j02 l a<j02 l b)
 | [],_=>by simp[j13]
 |k::ks,d=>by
  simp only[j13,Q6,QF,Xk,j4z l ks,XM,Qp,forall_eq_or_imp];constructor
  ·rintro⟨j,h,g,i⟩;exact⟨⟨⟨by omega,h⟩,λq f=>⟨by have:=(g q f).1;omega,(g q f).2⟩⟩,λq f=>(g q f).1,i⟩
  ·rintro⟨⟨⟨j,h⟩,g⟩,i,m⟩;exact⟨by omega,h,λq f=>⟨i q f,(g q f).2⟩,m⟩
theorem j6d (t:T):j04 t=true↔j0h t.1=true/\1<=t.2.1.length/\t.2.1.length<=8/\1<=t.2.2.length/\j4m t.2.1=true/\j13 t.2.1 (-1) t.2.2=true:=by
 unfold j04;simp only[Q6,Ql,and_assoc]
theorem jqG {l:List C}{n:ByteArray}(h:∀c∈l,c.1≠n):j02 l n= -1:=
 jrH λc b=>by
  cases d:sEq c.1 n with
  |false=>rfl
  |true=>exact absurd ((j09 _ _).1 d) (h c b)
theorem j11 (l:List C)(n:ByteArray):(j02 l n= -1/\∀c∈l,c.1≠n)\/∃(i:Nat) (f:i<l.length),j02 l n=(i:Int)/\l[i].1=n/\∀(j:Nat) (g:j<i),(l[j]'(by omega)).1≠n:=by
 rcases j9I (λc:C=>sEq c.1 n) l with⟨b,d⟩ | ⟨i,f,b,d,h⟩
 ·exact .inl ⟨b,λc k e=>by have:=d c k;rw[e,Zag]at this;cases this⟩
 ·exact .inr ⟨i,f,b,(j09 _ _).1 d,λj g e=>by have:=h j g;rw[e,Zag]at this;cases this⟩
theorem jgq {l l':List C}{ks:List ByteArray}(g:ByteArray->ByteArray)(h:j13 l (-1) ks=true)(f:∀k∈ks,0<=j02 l' (g k)/\(nth zC l' (j02 l' (g k))).2.2.1=true)
  (i:∀a∈ks,∀b∈ks,j02 l a<j02 l b->j02 l' (g a)<j02 l' (g b)):j13 l' (-1) (ks.map g)=true:=by
 rw[j4z]at h ⊢;refine⟨λk n=> ?_,?_⟩
 ·obtain⟨q,p,rfl⟩:=X6.1 n;have:=f q p;exact⟨by omega,this.2⟩
 ·rw[List.pairwise_map];exact h.2.imp_of_mem λj m d=>i _ j _ m d
theorem j99 (l:List C)(r:List V):j0m l r=true↔r.length=l.length/\∀(i:Nat) (b:i<l.length) (d:i<r.length),j3n l[i] r[i]=true:=by
 unfold j0m;rw[Q6,Ql,QF,j8X];refine YN λf=> ?_
 constructor
 ·intro h i b d;have:=h i b;rw[Xu,Zax _ _ _ d,Xa]at this;exact this
 ·intro h i b;rw[Xu,Zax _ _ _ (f ▸ b),h i b (f ▸ b)];rfl
def jjr (t:T)(c:C):T:=(t.1,t.2.1++[c],t.2.2)
theorem jkJ {α:Type}(z:α)(l m:List α){i:Int}(h:0<=i/\i<(l.length:Int)):nth z (l++m) i=nth z l i:=by
 obtain⟨n,rfl⟩:∃n:Nat,i=(n:Int):=⟨i.toNat,by omega⟩
 rw[Zax _ _ _ (by rw[Q5];omega),Zax _ _ _ (by omega),Xw (by omega)]
theorem je9 {l:List C}{c:C}{n:ByteArray}(h:0<=j02 l n):j02 (l++[c]) n=j02 l n:=by
 rcases j11 l n with⟨b,_⟩ | ⟨i,g,b,d,f⟩
 ·omega
 ·rw[b];refine jhX (by rw[Q5];omega) ?_ λj k=> ?_
  ·rw[Xw g,d];exact Zag _
  ·rw[Xw (by omega)]
   cases m:sEq (l[j]'(by omega)).1 n with
   |false=>rfl
   |true=>exact absurd ((j09 _ _).1 m) (f j k)
theorem jtr {t:T}{c:C}(ht:j04 t=true)(z:j0S c=true)(F:j02 t.2.1 c.1<0)(E:t.2.1.length<8):j04 (jjr t c)=true:=by
 rw[j6d]at ht ⊢;obtain⟨r,A,B,w,g,j⟩:=ht;have q:=j14 t.2.2 (-1) (by omega) j
 refine⟨r,?_,?_,w,?_,?_⟩
 ·show 1<=(t.2.1++[c]).length;rw[Q5];omega
 ·show (t.2.1++[c]).length<=8;rw[Q5];simp;omega
 ·rw[j5V]at g ⊢;refine⟨λx f=> ?_,?_⟩
  ·rcases Qr.1 f with f | f
   ·exact g.1 x f
   ·rw[QB.1 f];exact z
  ·show (t.2.1++[c]).Pairwise _
   rw[List.pairwise_append];refine⟨g.2,List.pairwise_singleton _ _,λa m b p=> ?_⟩
   rw[QB.1 p];rcases j11 t.2.1 c.1 with⟨_,h⟩ | ⟨i,D,h,_⟩
   ·exact h a m
   ·omega
 ·have:=jgq (l':=t.2.1++[c]) id j (λk d=>by
   have l:=q k d;have y:j02 (t.2.1++[c]) k=j02 t.2.1 k:=je9 l.1;simp only[id];rw[y,jkJ _ _ _ l];exact⟨l.1,((j4z _ _ _).1 j).1 k d |>.2⟩) (λa m b p n=>by
   simp only[id];rw[je9 (q a m).1,je9 (q b p).1];exact n)
  rw[List.map_id]at this;exact this
theorem jsn {t:T}{c:C}(ht:j04 t=true){r:List V}(f:r.length=t.2.1.length)(v:V):j06 (jjr t c) (r++[v])=j06 t r:=by
 have d:=j14 t.2.2 (-1) (by omega) (j1z ht).2.2.2.2.2
 refine Yd λk b=> ?_
 have:=d k b;show nth zV (r++[v]) (j02 (t.2.1++[c]) k)=_
 rw[je9 this.1,jkJ _ _ _ ⟨this.1,by omega⟩]
theorem jtq {l:List C}{c:C}{r:List V}(b:j0m l r=true){v:V}(g:j3n c v=true):j0m (l++[c]) (r++[v])=true:=by
 rw[j99]at b ⊢;refine⟨by rw[Q5,Q5,b.1];rfl,λi d f=> ?_⟩
 by_cases h:i<l.length
 ·rw[Xw h,Xw (b.1 ▸ h)];exact b.2 i h _
 ·rw[Q5]at d;simp only[Q8,QE]at d;have:i=l.length:=by omega
  subst this;rw[Xh (Qq _),Xh (by omega)]
  simpa using g
theorem jsD {c:C}(d:j0S c=true)(h:(c.2.2.2.1|| !c.2.2.1)=true):j3n c c.2.2.2.2=true:=by
 unfold j0S at d;simp only[Q6]at d;obtain⟨_,_,g,b⟩:=d;unfold j3n;rw[g,Qd];cases f:c.2.2.2.1
 ·rw[f]at h b;rw[Q0]at b;unfold jiP at b;rw[Q6]at b;rw[XY]at h;rw[b.1,h,Bool.and_self,Bool.or_true]
 ·rw[f,Q1]at b;exact b
def jgx (t:T)(n:ByteArray):T:=(t.1,t.2.1.filter λc=> !sEq c.1 n,t.2.2)
theorem joT {l:List C}(h:l.Pairwise λa b=>a.1≠b.1){i:Nat}(g:i<l.length):(l.filter λc=> !sEq c.1 l[i].1)=l.eraseIdx i:=by
 induction l generalizing i with
 |nil=>simp at g
 |cons a l m=>
  rw[XM]at h;cases i with
  |zero=>
   simp only[Yp,List.filter_cons,Zag,Q4,List.eraseIdx_zero,List.tail_cons];rw[QN (by simp),List.filter_eq_self]
   intro c k;have:=h.1 c k;cases f:sEq c.1 a.1 with
   |false=>rfl
   |true=>exact absurd ((j09 _ _).1 f).symm this
  |succ i=>
   simp only[Q8]at g;have d:i<l.length:=by omega
   have j:sEq a.1 l[i].1=false:=by
    cases f:sEq a.1 l[i].1 with
    |false=>rfl
    |true=>exact absurd ((j09 _ _).1 f) (h.1 _ (Q7 d))
   simp only[Yo,List.filter_cons,j,QQ,XH,List.eraseIdx_cons_succ];rw[m h.2 d]
theorem jbw {l:List C}(h:l.Pairwise λa b=>a.1≠b.1){i:Nat}(n:i<l.length){j:Nat}(q:j<l.length)(p:j≠i) :
  j02 (l.eraseIdx i) l[j].1=if j<i then (j:Int) else (j:Int)-1:=by
 have k:(l.eraseIdx i).Pairwise λa b=>a.1≠b.1:=h.sublist (YS _ _)
 have g:(l.eraseIdx i).length=l.length-1:=List.length_eraseIdx_of_lt n;by_cases d:j<i
 ·rw[QM d];have f:(l.eraseIdx i)[j]'(by omega)=l[j]:=by rw[Yg,Yr d]
  rw[<-f];exact jhW k _
 ·rw[QN d];obtain⟨m,rfl⟩:∃m,j=m+1:=⟨j-1,by omega⟩
  have f:(l.eraseIdx i)[m]'(by omega)=l[m+1]:=by rw[Yg,Yy (by omega)]
  rw[<-f,jhW k];omega
theorem jmZ {α:Type}(z:α)(l:List α){i j:Nat}(f:i<l.length)(h:j<l.length)(g:j≠i):nth z (l.eraseIdx i) (if j<i then (j:Int) else (j:Int)-1)=l[j]:=by
 have d:(l.eraseIdx i).length=l.length-1:=List.length_eraseIdx_of_lt f;by_cases b:j<i
 ·rw[QM b,Zax _ _ _ (by omega),Yg,Yr b]
 ·rw[QN b];obtain⟨m,rfl⟩:∃m,j=m+1:=⟨j-1,by omega⟩
  rw[show ((m+1:Nat):Int)-1=(m:Int) by omega,Zax _ _ _ (by omega),Yg,Yy (by omega)]
theorem jfI {t:T}(ht:j04 t=true){n k:ByteArray}(g:k∈t.2.2)(h:(t.2.2.any λx=>sEq x n)=false){i:Nat}(r:j02 t.2.1 n=(i:Int)):∃(j:Nat) (f:j<t.2.1.length),j02 t.2.1 k=(j:Int)/\t.2.1[j].1=k/\j≠i:=by
 have w:=j14 t.2.2 (-1) (by omega) (j1z ht).2.2.2.2.2 k g
 rcases j11 t.2.1 k with⟨b,_⟩ | ⟨j,f,b,d,_⟩
 ·omega
 ·refine⟨j,f,b,d,λe=> ?_⟩
  rcases j11 t.2.1 n with⟨l,_⟩ | ⟨q,p,l,m,_⟩
  ·omega
  ·have:j=q:=by omega
   subst this;rw[Yx]at h;exact h k g (by rw[<-d,m];exact Zag _)
theorem jmo {t:T}(ht:j04 t=true){n:ByteArray}{i:Nat}(j:j02 t.2.1 n=(i:Int)):i<t.2.1.length/\jgx t n=(t.1,t.2.1.eraseIdx i,t.2.2):=by
 have g:=((j5V _).1 (j1z ht).2.2.2.2.1).2;rcases j11 t.2.1 n with⟨d,_⟩ | ⟨h,b,d,f,_⟩
 ·omega
 ·have:i=h:=by omega
  subst this;refine⟨b,?_⟩;unfold jgx;rw[<-f,joT g b]
theorem jtF {t:T}(ht:j04 t=true){n:ByteArray}{i:Nat}(q:j02 t.2.1 n=(i:Int))(y:(t.2.2.any λx=>sEq x n)=false):j04 (jgx t n)=true:=by
 obtain⟨d,M⟩:=jmo ht q;have g:=ht;rw[M];rw[j6d]at ht ⊢;obtain⟨H,P,Q,I,h,F⟩:=ht;rw[j5V]at h;have G:(t.2.1.eraseIdx i).length=t.2.1.length-1:=List.length_eraseIdx_of_lt d;refine⟨H,?_,?_,I,?_,?_⟩
 ·show 1<=(t.2.1.eraseIdx i).length
  obtain⟨k,w⟩:∃k,k∈t.2.2:=⟨t.2.2[0]'(by omega),Q7 _⟩
  obtain⟨j,l,_,_,f⟩:=jfI g w y q;omega
 ·show (t.2.1.eraseIdx i).length<=8
  omega
 ·show j4m (t.2.1.eraseIdx i)=true
  rw[j5V];exact⟨λc L=>h.1 c (List.mem_of_mem_eraseIdx L),h.2.sublist (YS _ _)⟩
 ·have:=jgq (l':=t.2.1.eraseIdx i) id F (λk w=>by
   obtain⟨j,l,z,B,f⟩:=jfI g w y q;simp only[id];have m:=jbw h.2 d l f;rw[B]at m;rw[m];refine⟨by split<;>omega,?_⟩
   rw[jmZ zC t.2.1 d l f];have:=((j4z _ _ _).1 F).1 k w |>.2
   rw[z,Zax _ _ _ l]at this;exact this) (λa J b K D=>by
   obtain⟨j,l,z,B,f⟩:=jfI g J y q;obtain⟨R,E,A,C,r⟩:=jfI g K y q;simp only[id];have m:=jbw h.2 d l f;have p:=jbw h.2 d E r;rw[B]at m;rw[C]at p;rw[m,p];rw[z,A]at D;split<;>split<;>omega)
  rw[List.map_id]at this;exact this
theorem jsR {t:T}(ht:j04 t=true){n:ByteArray}{i:Nat}(g:j02 t.2.1 n=(i:Int))(w:(t.2.2.any λx=>sEq x n)=false){r:List V}(z:r.length=t.2.1.length):j06 (jgx t n) (r.eraseIdx i)=j06 t r:=by
 obtain⟨d,m⟩:=jmo ht g;have y:=((j5V _).1 (j1z ht).2.2.2.2.1).2;rw[m];refine Yd λk q=> ?_
 obtain⟨j,p,h,l,b⟩:=jfI ht q w g;show nth zV (r.eraseIdx i) (j02 (t.2.1.eraseIdx i) k)=_
 have f:=jbw y d p b;rw[l]at f;rw[f,jmZ zV r (by omega) (by omega) b,h,Zax _ _ _ (by omega)]
theorem jtE {l:List C}{r:List V}(d:j0m l r=true)(i:Nat):j0m (l.eraseIdx i) (r.eraseIdx i)=true:=by
 rw[j99]at d ⊢;refine⟨by rw[Yk,Yk,d.1],λj b f=> ?_⟩
 have g:j+1<=l.length:=by
  rw[Yk]at b;split at b<;>omega
 rw[Yg,Yg];by_cases h:j<i
 ·rw[Yr h,Yr h];exact d.2 _ _ _
 ·rw[Yy h,Yy h];have:j+1<l.length:=by
   rw[Yk]at b;split at b<;>omega
  exact d.2 _ this _
def ren (n m s:ByteArray):ByteArray:=bif sEq s n then m else s
def j8e (n m:ByteArray)(c:C):C:=(ren n m c.1,c.2)
def jeo (t:T)(n m:ByteArray):T:=(t.1,t.2.1.map (j8e n m),t.2.2.map (ren n m))
theorem jmq {n m a b:ByteArray}(g:a≠m)(i:b≠m)(h:ren n m a=ren n m b):a=b:=by
 unfold ren at h;cases d:sEq a n<;>cases f:sEq b n<;>rw[d,f]at h<;>simp only[Q1,Q0]at h
 ·exact h
 ·exact absurd h g
 ·exact absurd h.symm i
 ·rw[(j09 _ _).1 d,(j09 _ _).1 f]
theorem jea {l:List C}{n m:ByteArray}(f:∀c∈l,c.1≠m){s:ByteArray}(g:s≠m):j02 (l.map (j8e n m)) (ren n m s)=j02 l s:=by
 rcases j11 l s with⟨b,d⟩ | ⟨i,q,b,d,k⟩
 ·rw[b];refine jqG λc p=> ?_
  obtain⟨x,h,rfl⟩:=X6.1 p;exact λe=>d x h (jmq (f x h) g e)
 ·rw[b];refine jhX (by rw[Qy];exact q) ?_ λj r=> ?_
  ·rw[Xn];show sEq (ren n m l[i].1) (ren n m s)=true
   rw[d];exact Zag _
  ·rw[Xn];show sEq (ren n m (l[j]'(by omega)).1) (ren n m s)=false
   cases w:sEq (ren n m (l[j]'(by omega)).1) (ren n m s)with
   |false=>rfl
   |true=>exact absurd (jmq (f _ (Q7 _)) g ((j09 _ _).1 w)) (k j r)
theorem jtG {n m:ByteArray}(d:j0h m=true){c:C}(b:j0S c=true):j0S (j8e n m c)=true:=by
 unfold j0S j8e at *;simp only[Q6]at b ⊢;refine⟨?_,b.2⟩;unfold ren;cases sEq c.1 n
 ·exact b.1
 ·exact d
theorem jsO {t:T}(ht:j04 t=true){n m:ByteArray}(H:j0h m=true)(J:j02 t.2.1 m<0):j04 (jeo t n m)=true:=by
 rw[j6d]at ht ⊢;obtain⟨B,C,D,E,p,q⟩:=ht;have A:=j14 t.2.2 (-1) (by omega) q
 have f:∀c∈t.2.1,c.1≠m:=by
  rcases j11 t.2.1 m with⟨_,h⟩ | ⟨i,_,h,_⟩
  ·exact h
  ·omega
 have l:∀k∈t.2.2,k≠m:=λk d e=>by
  have:=(A k d).1;rw[e]at this;omega
 refine⟨B,?_,?_,?_,?_,?_⟩
 ·show 1<=(t.2.1.map _).length;rw[Qy];exact C
 ·show (t.2.1.map _).length<=8;rw[Qy];exact D
 ·show 1<=(t.2.2.map _).length;rw[Qy];exact E
 ·show j4m (t.2.1.map (j8e n m))=true
  rw[j5V]at p ⊢;refine⟨λc F=> ?_,?_⟩
  ·obtain⟨x,I,rfl⟩:=X6.1 F;exact jtG H (p.1 x I)
  ·rw[List.pairwise_map];exact p.2.imp_of_mem λw y g e=>g (jmq (f _ w) (f _ y) e)
 ·refine jgq (l':=t.2.1.map (j8e n m)) (ren n m) q (λk d=> ?_) (λa w b y g=> ?_)
  ·rw[jea f (l k d)];have z:=A k d;refine⟨z.1,?_⟩;have r:=((j4z _ _ _).1 q).1 k d |>.2
   obtain⟨j,G⟩:∃j:Nat,j02 t.2.1 k=(j:Int):=⟨(j02 t.2.1 k).toNat,by omega⟩
   rw[G]at z r ⊢;rw[Zax _ _ _ (by omega)]at r
   rw[Zax _ _ _ (by rw[Qy];omega),Xn]
   exact r
  ·rw[jea f (l a w),jea f (l b y)];exact g
theorem jrR {t:T}(ht:j04 t=true){n m:ByteArray}(g:j02 t.2.1 m<0)(r:List V):j06 (jeo t n m) r=j06 t r:=by
 have f:=j14 t.2.2 (-1) (by omega) (j1z ht).2.2.2.2.2
 have d:∀c∈t.2.1,c.1≠m:=by
  rcases j11 t.2.1 m with⟨_,h⟩ | ⟨i,_,h,_⟩
  ·exact h
  ·omega
 show ((t.2.2.map (ren n m)).map λk=>nth zV r (j02 (t.2.1.map (j8e n m)) k))=_
 rw[Yq];refine Yd λk b=> ?_
 simp only[Function.comp];rw[jea d λe=>by have:=(f k b).1;rw[e]at this;omega]
theorem jsE {n m:ByteArray}(c:C)(v:V):j3n (j8e n m c) v=j3n c v:=rfl
theorem jsN {l:List C}{r:List V}(d:j0m l r=true)(n m:ByteArray):j0m (l.map (j8e n m)) r=true:=by
 rw[j99]at d ⊢;refine⟨by rw[Qy];exact d.1,λi f b=> ?_⟩
 rw[Xn,jsE];exact d.2 i (by rw[Qy]at f;exact f) b
theorem jie {t t':T}{l:List (List V)}(f:List V->List V)(h:j08 t l=true)(ht:j04 t'=true)(p:∀r,j0m t.2.1 r=true->j0m t'.2.1 (f r)=true)(i:∀r,j0m t.2.1 r=true->j06 t' (f r)=j06 t r):j08 t' (l.map f)=true:=by
 rw[j5X]at h ⊢;obtain⟨_,j,b,k⟩:=h;refine⟨ht,by rw[Qy];exact j,λr g=> ?_,?_⟩
 ·obtain⟨x,q,rfl⟩:=X6.1 g;exact p x (b x q)
 ·rw[List.pairwise_map];refine k.imp_of_mem λm n d=> ?_
  rw[i _ (b _ m),i _ (b _ n)];exact d
end Go.PI.G
namespace Go.PI.G
noncomputable section
open Go Go.PI
def j1q {α:Type}(z:α)(f:α->α->Bool)(a b:List α):Bool:=decide (a.length=b.length)&& !Z70 (λi x=> !f x (nth z b (i:Int))) 0 a
theorem jqD {α:Type}{z:α}{f:α->α->Bool}(d:∀x y,f x y=true↔x=y)(a b:List α):j1q z f a b=true↔a=b:=by
 unfold j1q;rw[Q6,Ql,QF,j8X];constructor
 ·rintro⟨m,h⟩;refine Y0 m λi g k=> ?_
  have:=h i g;rw[Xu,Zax _ _ _ k,Xa]at this;exact(d _ _).1 this
 ·rintro rfl;refine⟨rfl,λj l=> ?_⟩
  rw[Xu,Zax _ _ _ l,(d _ _).2 rfl];rfl
theorem j4l (a b:List V):j1q zV veq a b=true↔a=b:=jqD jg8 a b
def j07 (t:T)(l:List (List V))(b:List V):Int:=Z9E (λr=>j1q zV veq (j06 t r) b) l
theorem jdy (t:T)(l:List (List V))(b:List V):(j07 t l b= -1/\∀r∈l,j06 t r≠b)\/∃(i:Nat) (g:i<l.length),j07 t l b=(i:Int)/\j06 t l[i]=b:=by
 rcases j9I (λr=>j1q zV veq (j06 t r) b) l with⟨d,f⟩ | ⟨i,g,d,f,j⟩
 ·refine .inl ⟨d,λr h e=> ?_⟩
  have:=f r h;rw[(j4l _ _).2 e]at this;cases this
 ·exact .inr ⟨i,g,d,(j4l _ _).1 f⟩
theorem jlg (t:T)(l:List (List V))(b:List V):decide (j07 t l b<0)= !l.any λr=>j1q zV veq (j06 t r) b:=by
 rcases jdy t l b with⟨f,d⟩ | ⟨i,j,f,d⟩
 ·rw[Q3 (by omega)]
  have:(l.any λr=>j1q zV veq (j06 t r) b)=false:=by
   rw[Yx];intro r g h;exact d r g ((j4l _ _).1 h)
  rw[this];rfl
 ·rw[Q2 (by omega)]
  have:(l.any λr=>j1q zV veq (j06 t r) b)=true:=by
   rw[Yn];exact⟨l[i],Q7 _,(j4l _ _).2 d⟩
  rw[this];rfl
def lay {α:Type}(R:α->α->Bool)(x:α)(l:List α):List α:=l.takeWhile (λy=> !R x y)++x::l.dropWhile (λy=> !R x y)
theorem jm9 {α:Type}{R:α->α->Bool}{x z:α}{l:List α}:z∈lay R x l↔z=x\/z∈l:=by
 unfold lay;rw[Qr,Qp];have:z∈l↔z∈l.takeWhile (λy=> !R x y)\/z∈l.dropWhile (λy=> !R x y):=by
  rw[<-Qr,Y2]
 rw[this];constructor
 ·rintro (h | h | h)
  ·exact .inr (.inl h)
  ·exact .inl h
  ·exact .inr (.inr h)
 ·rintro (h | h | h)
  ·exact .inr (.inl h)
  ·exact .inl h
  ·exact .inr (.inr h)
theorem jm7 {α:Type}(R:α->α->Bool)(x:α)(l:List α):(lay R x l).length=l.length+1:=by
 unfold lay;have:=Xv List.length (Y2 (p:=λy=> !R x y) (l:=l))
 rw[Q5]at this;rw[Q5,Q8];omega
theorem jpc {α:Type}{R:α->α->Bool}(i:∀a b c,R a b=true->R b c=true->R a c=true)(x:α):(l:List α)->(l.Pairwise λa b=>R a b=true)->(∀y∈l,R x y=true\/R y x=true)->(lay R x l).Pairwise λa b=>R a b=true
 | [],_,_=>List.pairwise_singleton _ _
 |y::l,h,ht=>by
  rw[XM]at h;cases d:R x y
  ·have e:lay R x (y::l)=y::lay R x l:=by
    unfold lay;rw[List.takeWhile_cons,List.dropWhile_cons,d];rfl
   rw[e,XM];refine⟨λz f=> ?_,jpc i x l h.2 λz f=>ht z (Qa _ f)⟩
   rcases jm9.1 f with rfl | f
   ·rcases ht y (by simp)with g | g
    ·rw[d]at g;cases g
    ·exact g
   ·exact h.1 z f
  ·have e:lay R x (y::l)=x::y::l:=by
    unfold lay;rw[List.takeWhile_cons,List.dropWhile_cons,d];rfl
   rw[e,XM];refine⟨λz f=> ?_,XM.2 h⟩
   rcases Qp.1 f with rfl | f
   ·exact d
   ·exact i _ _ _ d (h.1 z f)
theorem jqw {α:Type}{R:α->α->Bool}(g:∀a b,R a b=true->R b a=false){x:α}{l:List α}(ht:∀y∈l,R x y=true\/R y x=true) :
  ∃i,i<=l.length/\i=(l.takeWhile λy=>R y x).length/\lay R x l=l.take i++x::l.drop i:=by
 have f:∀(l:List α),(∀y∈l,R x y=true\/R y x=true)->l.takeWhile (λy=> !R x y)=l.takeWhile λy=>R y x:=by
  intro l;induction l with
  |nil=>intro _;rfl
  |cons y l m=>
   intro h;have e:(!R x y)=R y x:=by
    rcases h y (by simp)with d | d
    ·rw[d,g _ _ d];rfl
    ·rw[d,g _ _ d];rfl
   rw[List.takeWhile_cons,List.takeWhile_cons,e,m λz k=>h z (Qa _ k)]
 have d:=Y2 (p:=λy=> !R x y) (l:=l)
 have j:=f l ht;refine⟨(l.takeWhile λy=>R y x).length,?_,rfl,?_⟩
 ·have:=Xv List.length d;rw[Q5,j]at this;omega
 ·unfold lay;rw[j]at d ⊢;generalize l.takeWhile (λy=>R y x)=a at d ⊢
  generalize l.dropWhile (λy=> !R x y)=b at d ⊢
  rw[<-d];simp
def kR (t:T)(a b:List V):Bool:=klt (j06 t a) (j06 t b)
def jgs (t:T)(l:List (List V))(r:List V):List (List V):=lay (kR t) r l
def j9S (t:T)(b:List V):Bool:=j04 t&&(decide (b.length=t.2.2.length)&& !Z70 (λi k=> !j3n (nth zC t.2.1 (j02 t.2.1 k)) (nth zV b (i:Int))) 0 t.2.2)
def j5t (t:T)(l:List (List V))(r:List V):List (List V)×Int:=
 bif !j08 t l then ([],1) else bif !j0m t.2.1 r then ([],2) else bif !decide (j07 t l (j06 t r)<0) then ([],3) else bif l.length==60 then ([],4) else (jgs t l r,0)
def j5u (t:T)(l:List (List V))(b r:List V):List (List V)×Int:=
 bif !j08 t l then ([],1) else bif !j0m t.2.1 r then ([],2) else bif !j9S t b||decide (j07 t l b<0) then ([],5) else
 bif !decide (j07 t (l.eraseIdx (j07 t l b).toNat) (j06 t r)<0) then ([],3) else (jgs t (l.eraseIdx (j07 t l b).toNat) r,0)
def j5s (t:T)(l:List (List V))(b:List V):List (List V)×Int:=
 bif !j08 t l then ([],1) else bif !j9S t b||decide (j07 t l b<0) then ([],5) else (l.eraseIdx (j07 t l b).toNat,0)
theorem jpm {l:List C}{r:List V}(h:j0m l r=true):∀v∈r,j0n v=true:=by
 intro v d;obtain⟨i,b,rfl⟩:=Xo d;rw[j99]at h;have:=h.2 i (by omega) b
 unfold j3n at this;rw[Q6]at this;exact this.1
theorem jp9 {t:T}(ht:j04 t=true){r:List V}(h:j0m t.2.1 r=true):∀v∈j06 t r,j0n v=true:=by
 intro v f;obtain⟨k,b,rfl⟩:=X6.1 f;have:=j14 t.2.2 (-1) (by omega) (j1z ht).2.2.2.2.2 k b
 obtain⟨n,d⟩:∃n:Nat,j02 t.2.1 k=(n:Int):=⟨(j02 t.2.1 k).toNat,by omega⟩
 have g:=((j99 _ _).1 h).1;rw[d,Zax _ _ _ (by omega)]
 exact jpm h _ (Q7 _)
theorem jp8 {t:T}(ht:j04 t=true){a b:List V}(d:j0m t.2.1 a=true)(f:j0m t.2.1 b=true)(h:j06 t a≠j06 t b):kR t a b=true\/kR t b a=true:=
 jmY _ _ (jp9 ht d) (jp9 ht f) h
theorem jqv {t:T}{l:List (List V)}{r:List V}(h:j08 t l=true)(i:j0m t.2.1 r=true)(n:∀x∈l,j06 t x≠j06 t r)(m:l.length<60):j08 t (jgs t l r)=true:=by
 rw[j5X]at h ⊢;obtain⟨f,p,g,k⟩:=h;refine⟨f,by unfold jgs;rw[jm7];omega,λx d=> ?_,?_⟩
 ·rcases jm9.1 d with rfl | d
  ·exact i
  ·exact g x d
 ·exact jpc (R:=kR t) (λa b c=>jej _ _ _) r l k λy j=>jp8 f i (g y j) λe=>n y j e.symm
theorem jec {t:T}{l:List (List V)}(b:j08 t l=true)(i:Nat):j08 t (l.eraseIdx i)=true:=by
 rw[j5X]at b ⊢;obtain⟨d,j,f,g⟩:=b;refine⟨d,?_,λx h=>f x (List.mem_of_mem_eraseIdx h),g.sublist (YS _ _)⟩
 rw[Yk];split<;>omega
theorem jqT {t:T}{l:List (List V)}(k:j08 t l=true){i j:Nat}(f:i<l.length)(g:j<l.length)(h:j06 t l[i]=j06 t l[j]):i=j:=by
 have d:=((j5X _ _).1 k).2.2.2;rw[XE]at d;rcases Nat.lt_trichotomy i j with b | b | b
 ·exact absurd h (jrN (d i j f g b))
 ·exact b
 ·exact absurd h.symm (jrN (d j i g f b))
theorem jn8 {t:T}{l:List (List V)}(y:j08 t l=true){b now:List V}(h:¬ j07 t l b<0) :
  (!decide (j07 t (l.eraseIdx (j07 t l b).toNat) now<0))=(!j1q zV veq now b&& !decide (j07 t l now<0)):=by
 rcases jdy t l b with⟨n,_⟩ | ⟨i,w,n,p⟩
 ·omega
 rw[n,QS,jlg,jlg,Bool.not_not,Bool.not_not];by_cases g:now=b
 ·subst g;rw[(j4l _ _).2 rfl,Q4,QW,Yx];intro r f h;obtain⟨j,k,m,rfl⟩:=List.mem_eraseIdx_iff_getElem.1 f;exact m (jqT y k w (((j4l _ _).1 h).trans p.symm))
 ·have:j1q zV veq now b=false:=by
   cases d:j1q zV veq now b with
   |false=>rfl
   |true=>exact absurd ((j4l _ _).1 d) g
  rw[this,QQ,Qd];cases d:l.any λr=>j1q zV veq (j06 t r) now with
  |false=>
   rw[Yx]at d ⊢;exact λr f=>d r (List.mem_of_mem_eraseIdx f)
  |true=>
   rw[Yn]at d ⊢;obtain⟨r,f,q⟩:=d;refine⟨r,List.mem_eraseIdx_iff_getElem.2 ?_,q⟩;obtain⟨j,k,rfl⟩:=Xo f;exact⟨j,k,λe=>g (by subst e;rw[<-(j4l _ _).1 q,p]),rfl⟩
theorem jpe {t:T}{l:List (List V)}{b:List V}(h:j07 t l b<0):∀x∈l,j06 t x≠b:=by
 rcases jdy t l b with⟨_,d⟩ | ⟨i,g,f,_⟩
 ·exact d
 ·omega
def j2n (t:T)(l:List (List V))(s:ST):List (List V)×Int:=
 bif s.1==1 then j5t t l s.2.2.2.1 else bif s.1==2 then j5u t l s.2.2.1 s.2.2.2.1 else bif s.1==3 then j5s t l s.2.2.1 else ([],0)
theorem jr1 {t:T}{l:List (List V)}{r:List V}(h:(j5t t l r).2=0):j08 t (j5t t l r).1=true:=by
 unfold j5t at h ⊢;cases b:j08 t l<;>rw[b]at h
 ·cases h
 cases d:j0m t.2.1 r<;>rw[d]at h
 ·cases h
 cases f:decide (j07 t l (j06 t r)<0)<;>rw[f]at h
 ·cases h
 cases g:l.length==60<;>rw[g]at h
 ·refine jqv b d (jpe (QT f)) ?_;have:=((j5X _ _).1 b).2.1;have i:l.length≠60:=by simpa using g
  omega
 ·cases h
theorem jr2 {t:T}{l:List (List V)}{b r:List V}(h:(j5u t l b r).2=0):j08 t (j5u t l b r).1=true:=by
 unfold j5u at h ⊢;cases d:j08 t l<;>rw[d]at h
 ·cases h
 cases f:j0m t.2.1 r<;>rw[f]at h
 ·cases h
 cases g: !j9S t b||decide (j07 t l b<0)<;>rw[g]at h
 ·cases i:decide (j07 t (l.eraseIdx (j07 t l b).toNat) (j06 t r)<0)<;>rw[i]at h
  ·cases h
  ·refine jqv (jec d _) f (jpe (QT i)) ?_;rw[Xb,Xk]at g;have m:=((j5X _ _).1 d).2.1;have j:=(jcG (λr=>j1q zV veq (j06 t r) b) l).2
   have k:(j07 t l b).toNat<l.length:=by
    have:j07 t l b<(l.length:Int):=j;omega
   rw[List.length_eraseIdx_of_lt k];omega
 ·cases h
theorem jr0 {t:T}{l:List (List V)}{b:List V}(h:(j5s t l b).2=0):j08 t (j5s t l b).1=true:=by
 unfold j5s at h ⊢;cases d:j08 t l<;>rw[d]at h
 ·cases h
 cases f: !j9S t b||decide (j07 t l b<0)<;>rw[f]at h
 ·exact jec d _
 ·cases h
theorem jn7 {t:T}(h:j04 t=true):j08 t []=true:=(j5X _ _).2 ⟨h,by simp,by simp,List.Pairwise.nil⟩
theorem jsY {t:T}(ht:j04 t=true){l:List (List V)}{s:ST}(h:(j2n t l s).2=0):j08 t (j2n t l s).1=true:=by
 unfold j2n at h ⊢;cases b:s.1==1<;>rw[b]at h
 ·cases d:s.1==2<;>rw[d]at h
  ·cases f:s.1==3<;>rw[f]at h
   ·exact jn7 ht
   ·exact jr0 h
  ·exact jr2 h
 ·exact jr1 h
def tR (a b:T):Bool:=sLt a.1 b.1
def j0p (t:T)(d:D):Int:=
 bif d.1==3 then (bif !decide (j02 t.2.1 (nth zC d.2.2.1 0).1<0) then 5 else bif t.2.1.length==8 then 6 else 0)
 else bif d.1==4 then (bif decide (j02 t.2.1 d.2.2.2.2.1<0) then 7 else bif t.2.2.any (λx=>sEq x d.2.2.2.2.1) then 8 else 0)
 else bif d.1==5 then (bif !decide (j02 t.2.1 d.2.2.2.2.2<0) then 5 else bif decide (j02 t.2.1 d.2.2.2.2.1<0) then 7 else 0)
 else 0
def j9H (t:T)(d:D):T:=bif d.1==3 then jjr t (nth zC d.2.2.1 0) else bif d.1==4 then jgx t d.2.2.2.2.1 else jeo t d.2.2.2.2.1 d.2.2.2.2.2
def j0b (c:List T)(d:D):Int:=
 bif d.1==1 then (bif !decide (j05 c d.2.1<0) then 2 else bif c.length==6 then 3 else 0)
 else bif decide (j05 c d.2.1<0) then 4 else j0p (nth zT c (j05 c d.2.1)) d
def j0U (c:List T)(d:D):List T:=
 bif d.1==1 then lay tR (d.2.1,d.2.2.1,d.2.2.2.1) c
 else bif d.1==2 then c.eraseIdx (j05 c d.2.1).toNat
 else c.set (j05 c d.2.1).toNat (j9H (nth zT c (j05 c d.2.1)) d)
def jf1 (c:List T)(d:D):List T×Int:=
 bif !j1T c|| !j0T d then ([],1) else bif j0b c d != 0 then ([],j0b c d) else (j0U c d,0)
theorem j0w (c:List T)(n:ByteArray):(j05 c n= -1/\∀t∈c,t.1≠n)\/∃(i:Nat) (f:i<c.length),j05 c n=(i:Int)/\c[i].1=n:=by
 rcases j9I (λt:T=>sEq t.1 n) c with⟨b,d⟩ | ⟨i,f,b,d,g⟩
 ·exact .inl ⟨b,λt ht e=>by have:=d t ht;rw[e,Zag]at this;cases this⟩
 ·exact .inr ⟨i,f,b,(j09 _ _).1 d⟩
theorem jez {c:List T}(h:c.Pairwise λa b=>sLt a.1 b.1=true){i:Nat}(g:i<c.length):j05 c c[i].1=(i:Int):=by
 refine jqs g (Zag _) λj k f=> ?_
 have f:=(j09 _ _).1 f;rw[XE]at h;rcases Nat.lt_trichotomy i j with d | d | d
 ·exact absurd f.symm (jrZ (h i j g k d))
 ·exact d.symm
 ·exact absurd f (jrZ (h j i k g d))
theorem jhV (t:T)(d:D):(j9H t d).1=t.1:=by
 unfold j9H;cases d.1==3
 ·cases d.1==4<;>rfl
 ·rfl
theorem jrs {t:T}(ht:j04 t=true){d:D}(q:j0T d=true)(j:3<=d.1)(b:j0p t d=0):j04 (j9H t d)=true:=by
 obtain⟨_,h⟩:=j7F q;rcases h with⟨n,cs,ks,rfl,_⟩ | ⟨n,rfl⟩ | ⟨n,c,rfl,l⟩ | ⟨n,m,rfl,r⟩ | ⟨n,m,p,rfl,r,w⟩
 ·simp at j
 ·simp at j
 ·show j04 (jjr t c)=true
  change (bif !decide (j02 t.2.1 c.1<0) then (5:Int) else bif t.2.1.length==8 then 6 else 0)=0 at b
  cases f:decide (j02 t.2.1 c.1<0)<;>rw[f]at b
  ·cases b
  ·cases g:t.2.1.length==8<;>rw[g]at b
   ·have k:t.2.1.length≠8:=by simpa using g
    have:=(j1z ht).2.2.1;exact jtr ht l (QT f) (by omega)
   ·cases b
 ·show j04 (jgx t m)=true
  change (bif decide (j02 t.2.1 m<0) then (7:Int) else bif t.2.2.any (λx=>sEq x m) then 8 else 0)=0 at b
  cases f:decide (j02 t.2.1 m<0)<;>rw[f]at b
  ·cases g:t.2.2.any λx=>sEq x m<;>rw[g]at b
   ·have k:=of_decide_eq_false f;exact jtF ht (i:=(j02 t.2.1 m).toNat) (by omega) g
   ·cases b
  ·cases b
 ·show j04 (jeo t m p)=true
  change (bif !decide (j02 t.2.1 p<0) then (5:Int) else bif decide (j02 t.2.1 m<0) then 7 else 0)=0 at b
  cases f:decide (j02 t.2.1 p<0)<;>rw[f]at b
  ·cases b
  ·exact jsO ht w (QT f)
theorem jmQ {c:List T}(f:j1T c=true){t:T}(ht:j04 t=true)(p:j05 c t.1<0)(m:c.length<6):j1T (lay tR t c)=true:=by
 rw[j0e]at f ⊢;obtain⟨l,g,j⟩:=f;refine⟨by rw[jm7];omega,λx d=> ?_,?_⟩
 ·rcases jm9.1 d with rfl | d
  ·exact ht
  ·exact g x d
 ·refine jpc (R:=tR) (λa b c=>jer) t c j λy k=>jif λe=> ?_
  rcases j0w c t.1 with⟨_,h⟩ | ⟨i,n,h,_⟩
  ·exact h y k e.symm
  ·omega
theorem jpg {α:Type}{R:α->α->Prop}{l:List α}(h:l.Pairwise R){i:Nat}{x:α}(m:i<l.length)(j:∀y,R y l[i]->R y x)(k:∀y,R l[i] y->R x y):(l.set i x).Pairwise R:=by
 rw[XE]at h ⊢;intro a b f g d;rw[List.length_set]at f g;rw[List.getElem_set,List.getElem_set];split
 ·rename_i e;subst e;split
  ·omega
  ·exact k _ (h _ _ f g d)
 ·split
  ·rename_i e;subst e;exact j _ (h _ _ f g d)
  ·exact h _ _ f g d
theorem jqA {c:List T}(d:j1T c=true){i:Nat}(l:i<c.length){t:T}(ht:j04 t=true)(f:t.1=c[i].1):j1T (c.set i t)=true:=by
 rw[j0e]at d ⊢;obtain⟨g,j,k⟩:=d;refine⟨by rw[List.length_set];exact g,λx b=> ?_,?_⟩
 ·rcases List.mem_or_eq_of_mem_set b with b | rfl
  ·exact j x b
  ·exact ht
 ·refine jpg k l (λy h=> ?_) (λy h=> ?_)
  ·rw[f];exact h
  ·rw[f];exact h
theorem jmU {c:List T}(b:j1T c=true)(i:Nat):j1T (c.eraseIdx i)=true:=by
 rw[j0e]at b ⊢;obtain⟨h,d,f⟩:=b;refine⟨?_,λx g=>d x (List.mem_of_mem_eraseIdx g),f.sublist (YS _ _)⟩
 rw[Yk];split<;>omega
theorem joO {d:D}(b:j0T d=true):d.1=1\/d.1=2\/3<=d.1:=by
 obtain⟨_,h⟩:=j7F b;rcases h with⟨n,cs,ks,rfl,_⟩ | ⟨n,rfl⟩ | ⟨n,c,rfl,g⟩ | ⟨n,m,rfl,f⟩ | ⟨n,m,p,rfl,f,i⟩<;>simp
theorem jlW {c:List T}{d:D}(k:j1T c=true)(j:j0T d=true)(h:j0b c d=0):j1T (j0U c d)=true:=by
 have l:=(j0e c).1 k;unfold j0b at h;unfold j0U;rcases joO j with f | f | f
 ·rw[f]at h ⊢;rw[show ((1:Int)==1)=true from rfl,Q1]at h ⊢
  cases g:decide (j05 c d.2.1<0)<;>rw[g]at h
  ·cases h
  ·cases b:c.length==6<;>rw[b]at h
   ·have p:c.length≠6:=by simpa using b
    have n:j04 (d.2.1,d.2.2.1,d.2.2.2.1)=true:=by
     unfold j0T at j;rw[f]at j;simp only[Q6,Xe,Q1]at j;exact j.2.2.2
    exact jmQ k n (QT g) (by omega)
   ·cases h
 ·rw[f]at h ⊢;rw[show ((2:Int)==1)=false from rfl,show ((2:Int)==2)=true from rfl,Q0,Q1]
  exact jmU k _
 ·rw[show (d.1==1)=false by simp;omega,Q0]at h
  rw[show (d.1==1)=false by simp;omega,show (d.1==2)=false by simp;omega,Q0,Q0]
  cases g:decide (j05 c d.2.1<0)<;>rw[g]at h
  ·rcases j0w c d.2.1 with⟨b,_⟩ | ⟨i,m,b,p⟩
   ·rw[b]at g;cases g
   ·rw[Q0]at h;rw[b,Zax _ _ _ m]at h;rw[b,Zax _ _ _ m,QS];exact jqA k m (jrs (l.2.1 _ (Q7 _)) j f h) (jhV _ _)
  ·cases h
def jf0 (t:T)(d:D)(l:List (List V)):List (List V):=
 bif d.1==3 then l.map (λr=>r++[(nth zC d.2.2.1 0).2.2.2.2]) else bif d.1==4 then l.map (λr=>r.eraseIdx (j02 t.2.1 d.2.2.2.2.1).toNat) else l
def jiN (d:DB)(x:D):List (List (List V)):=
 bif x.1==1 then d.2.take (j05 (j0U d.1 x) x.2.1).toNat++[]::d.2.drop (j05 (j0U d.1 x) x.2.1).toNat
 else bif x.1==2 then d.2.eraseIdx (j05 d.1 x.2.1).toNat
 else d.2.set (j05 d.1 x.2.1).toNat (jf0 (nth zT d.1 (j05 d.1 x.2.1)) x (nth [] d.2 (j05 d.1 x.2.1)))
abbrev zDB:DB:=([],[])
def j1K (d:DB)(s:ST):DB×Int:=
 bif decide (j05 d.1 s.2.1<0)&& !((s.1==5)&&(s.2.2.2.2.1==1)) then (zDB,4)
 else bif s.1==5 then (bif j0b d.1 s.2.2.2.2 != 0 then (zDB,10+j0b d.1 s.2.2.2.2) else ((j0U d.1 s.2.2.2.2,jiN d s.2.2.2.2),0))
 else bif (j2n (nth zT d.1 (j05 d.1 s.2.1)) (nth [] d.2 (j05 d.1 s.2.1)) s).2 != 0 then (zDB,10+(j2n (nth zT d.1 (j05 d.1 s.2.1)) (nth [] d.2 (j05 d.1 s.2.1)) s).2)
 else ((d.1,d.2.set (j05 d.1 s.2.1).toNat (j2n (nth zT d.1 (j05 d.1 s.2.1)) (nth [] d.2 (j05 d.1 s.2.1)) s).1),0)
theorem jtt {t:T}(ht:j04 t=true){d:D}(j:j0T d=true)(k:3<=d.1)(f:j0p t d=0){l:List (List V)}(w:j08 t l=true):j08 (j9H t d) (jf0 t d l)=true:=by
 have g:=jrs ht j k f;obtain⟨_,h⟩:=j7F j;rcases h with⟨n,cs,ks,rfl,_⟩ | ⟨n,rfl⟩ | ⟨n,c,rfl,A⟩ | ⟨n,m,rfl,B⟩ | ⟨n,m,p,rfl,B,E⟩
 ·simp at k
 ·simp at k
 ·have q:(c.2.2.2.1|| !c.2.2.1)=true:=by
   unfold j0T at j;rw[Q6]at j;have:=j.2;simp only[show ((3:Int)==1)=false from rfl,show ((3:Int)==2)=false from rfl,show ((3:Int)==3)=true from rfl,Q0,Q1,Q6]at this
   exact this.2.2.1
  show j08 (jjr t c) (l.map λr=>r++[c.2.2.2.2])=true
  exact jie _ w g (λr b=>jtq b (jsD A q)) (λr b=>jsn ht ((j99 _ _).1 b).1 _)
 ·change (bif decide (j02 t.2.1 m<0) then (7:Int) else bif t.2.2.any (λx=>sEq x m) then 8 else 0)=0 at f
  show j08 (jgx t m) (l.map λr=>r.eraseIdx (j02 t.2.1 m).toNat)=true
  cases i:decide (j02 t.2.1 m<0)<;>rw[i]at f
  ·cases y:t.2.2.any λx=>sEq x m<;>rw[y]at f
   ·have C:=of_decide_eq_false i;have z:j02 t.2.1 m=(((j02 t.2.1 m).toNat:Nat):Int):=by omega
    refine jie _ w g (λr b=> ?_) (λr b=>jsR ht z y ((j99 _ _).1 b).1)
    rw[(jmo ht z).2];exact jtE b _
   ·cases f
  ·cases f
 ·change (bif !decide (j02 t.2.1 p<0) then (5:Int) else bif decide (j02 t.2.1 m<0) then 7 else 0)=0 at f
  show j08 (jeo t m p) l=true
  cases i:decide (j02 t.2.1 p<0)<;>rw[i]at f
  ·cases f
  ·have:=jie (t':=jeo t m p) id w g (λr b=>jsN b m p) (λr b=>jrR ht (QT i) r)
   rw[List.map_id]at this;exact this
theorem jqq {c:List T}{l:List (List (List V))}(h:dbB (c,l)=true){i:Nat}(n:i<c.length){t:T}(p:t.1=c[i].1){r:List (List V)}(m:j08 t r=true):dbB (c.set i t,l.set i r)=true:=by
 rw[j1A]at h ⊢;obtain⟨d,f,g⟩:=h;dsimp only at d f g ⊢;refine⟨jqA d n ((j5X _ _).1 m).1 p,by rw[List.length_set,List.length_set];exact f,λj k b=> ?_⟩
 rw[List.getElem_set,List.getElem_set];split
 ·exact m
 ·rw[List.length_set]at k b;exact g j k b
theorem jrw {c:List T}{l:List (List (List V))}(h:dbB (c,l)=true)(i:Nat):dbB (c.eraseIdx i,l.eraseIdx i)=true:=by
 rw[j1A]at h ⊢;obtain⟨d,f,b⟩:=h;dsimp only at d f b ⊢;refine⟨jmU d i,by rw[List.length_eraseIdx,List.length_eraseIdx,f],λj k g=> ?_⟩
 rw[Yg,Yg];split
 ·exact b _ _ _
 ·exact b _ _ _
theorem jsH (c:List T)(t:T):∃i,i<=c.length/\lay tR t c=c.take i++t::c.drop i:=by
 refine⟨(c.takeWhile λy=> !tR t y).length,?_,?_⟩
 ·have:=Xv List.length (Y2 (p:=λy=> !tR t y) (l:=c))
  rw[Q5]at this;omega
 ·have d:=Y2 (p:=λy=> !tR t y) (l:=c)
  unfold lay;generalize c.takeWhile (λy=> !tR t y)=a at d ⊢
  generalize c.dropWhile (λy=> !tR t y)=b at d ⊢
  rw[<-d];simp
theorem jpb {c:List T}(h:j1T c=true){t:T}(ht:j04 t=true)(k:j05 c t.1<0)(g:c.length<6):∃i:Nat,i<=c.length/\j05 (lay tR t c) t.1=(i:Int)/\lay tR t c=c.take i++t::c.drop i:=by
 obtain⟨i,f,d⟩:=jsH c t;refine⟨i,f,?_,d⟩;have l:=((j0e _).1 (jmQ h ht k g)).2.2;have b:i<(lay tR t c).length:=by rw[jm7];omega
 have j:(lay tR t c)[i]=t:=by
  simp only[d];rw[Xh (by rw[Qf];omega)]
  simp[Qf,YE f]
 have:=jez l b;rw[j]at this;exact this
theorem jqr {α:Type}(l:List α){i:Nat}(g:i<=l.length)(x:α)(j:Nat)(f:j<(l.take i++x::l.drop i).length):(l.take i++x::l.drop i)[j]=if h:j<i then l[j] else if b:j=i then x else l[j-1]'(by simp at f;omega):=by
 have d:(l.take i).length=i:=by rw[Qf];omega
 by_cases h:j<i
 ·rw[Yr h,Xw (by omega),Y7]
 ·rw[Yy h];by_cases b:j=i
  ·subst b;rw[Yr rfl,Xh (by omega)]
   simp[d]
  ·rw[Yy b];obtain⟨m,rfl⟩:∃m,j=i+1+m:=⟨j-i-1,by omega⟩
   rw[Xh (by omega)]
   simp only[d,show i+1+m-i=m+1 by omega,Yo,YH]
   congr 1;omega
theorem jtw {c:List T}{l:List (List (List V))}(h:dbB (c,l)=true){i:Nat}(q:i<=c.length){t:T}(ht:j04 t=true)(p:j1T (c.take i++t::c.drop i)=true):dbB (c.take i++t::c.drop i,l.take i++[]::l.drop i)=true:=by
 rw[j1A]at h ⊢;obtain⟨m,n,f⟩:=h;dsimp only at m n f ⊢;refine⟨p,by simp only[List.length_append,List.length_cons,List.length_take,List.length_drop];omega,λj k g=> ?_⟩
 rw[jqr c q t j k,jqr l (by omega) [] j g]
 have r:j<c.length+1:=by
  simp only[Q5,Q8,Qf,Qu]at k;omega
 by_cases b:j<i
 ·rw[Yr b,Yr b];exact f j (by omega) (by omega)
 ·rw[Yy b,Yy b];by_cases d:j=i
  ·rw[Yr d,Yr d];exact jn7 ht
  ·rw[Yy d,Yy d];exact f (j-1) (by omega) (by omega)
theorem jgk:dbB zDB=true:=(j1A _).2 ⟨(j0e _).2 ⟨by simp,by simp,List.Pairwise.nil⟩,rfl,λi b=>by simp at b⟩
theorem jtA {d:DB}(h:dbB d=true){s:ST}(I:stB s=true)(g:(j1K d s).2=0):dbB (j1K d s).1=true:=by
 obtain⟨c,l⟩:=d;have A:=(j1A _).1 h;obtain⟨p,E,B⟩:=A;dsimp only at p E B;unfold j1K at g ⊢;dsimp only at g ⊢;cases D:decide (j05 c s.2.1<0)&& !((s.1==5)&&(s.2.2.2.2.1==1))<;>rw[D]at g
 ·rw[Q0]at g ⊢;cases y:s.1==5<;>rw[y]at g
  ·rw[Q0]at g ⊢;rw[y,QW,QQ,Xm,Xk]at D;rcases j0w c s.2.1 with⟨e,_⟩ | ⟨i,k,e,C⟩
   ·omega
   rw[e,Zax _ _ _ k,Zax _ _ _ (by omega),QS]at g ⊢
   cases b:(j2n c[i] (l[i]'(by omega)) s).2 != 0<;>rw[b]at g
   ·rw[Q0];have H:=jsY (t:=c[i]) (l:=l[i]'(by omega)) (s:=s) (((j0e _).1 p).2.1 _ (Q7 _)) (by simpa using b)
    have:=jqq h k (t:=c[i]) rfl H;rw[List.set_getElem_self]at this;exact this
   ·exact jgk
  ·rw[Q1]at g ⊢;cases b:j0b c s.2.2.2.2 != 0<;>rw[b]at g
   ·rw[Q0];have b:j0b c s.2.2.2.2=0:=by simpa using b
    have f:j0T s.2.2.2.2=true:=by
     obtain⟨_,h⟩:=js0 I;rcases h with⟨t,r,rfl,_⟩ | ⟨t,q,r,rfl,_⟩ | ⟨t,q,rfl,_⟩ | ⟨t,rfl⟩ | ⟨d,rfl,A⟩
     ·cases y
     ·cases y
     ·cases y
     ·cases y
     ·exact A
    have j:=jlW p f b;generalize s.2.2.2.2=x at b f j ⊢;unfold jiN;dsimp only;rcases joO f with m | m | m
    ·rw[m,show ((1:Int)==1)=true from rfl,Q1]
     unfold j0b at b;unfold j0U at j ⊢;rw[m,show ((1:Int)==1)=true from rfl,Q1]at b j ⊢
     cases w:decide (j05 c x.2.1<0)<;>rw[w]at b
     ·cases b
     ·cases n:c.length==6<;>rw[n]at b
      ·have G:c.length≠6:=by simpa using n
       have z:j04 (x.2.1,x.2.2.1,x.2.2.2.1)=true:=by
        unfold j0T at f;rw[m]at f;simp only[Q6,Xe,Q1]at f;exact f.2.2.2
       have J:=((j0e _).1 p).1;obtain⟨i,k,F,C⟩:=jpb p z (QT w) (by omega)
       rw[F,QS];rw[C]at j ⊢;exact jtw h k z j
      ·cases b
    ·rw[m,show ((2:Int)==1)=false from rfl,show ((2:Int)==2)=true from rfl,Q0,Q1]
     unfold j0U;rw[m,show ((2:Int)==1)=false from rfl,show ((2:Int)==2)=true from rfl,Q0,Q1]
     exact jrw h _
    ·rw[show (x.1==1)=false by simp;omega,show (x.1==2)=false by simp;omega,Q0,Q0]
     unfold j0b at b;rw[show (x.1==1)=false by simp;omega,Q0]at b
     unfold j0U;rw[show (x.1==1)=false by simp;omega,show (x.1==2)=false by simp;omega,Q0,Q0]
     cases w:decide (j05 c x.2.1<0)<;>rw[w]at b
     ·rcases j0w c x.2.1 with⟨n,_⟩ | ⟨i,k,n,G⟩
      ·rw[n]at w;cases w
      ·rw[Q0,n,Zax _ _ _ k]at b;rw[n,Zax _ _ _ k,Zax _ _ _ (by omega),QS]
       exact jqq h k (jhV _ _) (jtt (((j0e _).1 p).2.1 _ (Q7 _)) f m b (B i k (by omega)))
     ·cases b
   ·exact jgk
 ·cases g
end
end Go.PI.G
namespace Go.PI.G
noncomputable section
open Go Go.PI
def j81 (i:Nat)(d:DB)(s:ST):Except (Int×Int) DB:=bif !stB s then .error (1,(i:Int)) else bif (j1K d s).2 != 0 then .error ((j1K d s).2,(i:Int)) else .ok (j1K d s).1
def j0B (d:DB)(l:List ST):DB×Int×Int:=bif !dbB d then (([],[]),1,0) else match Z1R j81 0 l d with | .ok b=>(b,0,0) | .error e=>(([],[]),e.1,e.2)
theorem jkh {i:Nat}{d j:DB}{s:ST}(h:dbB d=true)(b:j81 i d s= .ok j):dbB j=true:=by
 unfold j81 at b;cases f:stB s
 ·rw[f]at b;cases b
 ·rw[f,Q4,Q0]at b;cases g:((j1K d s).2 != 0)
  ·rw[g,Q0]at b;cases b;exact jtA h f (by simpa using g)
  ·rw[g,Q1]at b;cases b
theorem jq0 {d:DB}{l:List ST}(h:(j0B d l).2.1=0):dbB (j0B d l).1=true:=by
 unfold j0B at h ⊢;cases g:dbB d
 ·rw[g]at h;cases h
 rw[g,Q4,Q0]at h;rw[Q4,Q0];cases k:Z1R j81 0 l d with
 |ok q=>exact Z90 (λ_ a=>dbB a=true) l 0 d q g (λj x a p _ r b=>jkh r b) k
 |error e=>
  rw[k]at h;exfalso;have h:e.1=0:=h;have m:∀(l:List ST) (i:Nat) (a:DB) (e:Int×Int),Z1R j81 i l a= .error e->e.1≠0:=by
   intro l;induction l with
   |nil=>intro i a e h;simp[Z1R]at h
   |cons x l y=>
    intro i a e h;simp only[Z1R]at h;cases b:j81 i a x with
    |ok p=>rw[b]at h;exact y _ _ _ h
    |error z=>
     rw[b]at h;cases h;unfold j81 at b;cases n:stB x
     ·rw[n]at b;cases b;exact λw=>absurd (show (1:Int)=0 from w) (by decide)
     ·rw[n,Q4,Q0]at b;cases f:((j1K a x).2 != 0)
      ·rw[f]at b;cases b
      ·rw[f]at b;cases b;simpa using f
  exact m l 0 d e k h
abbrev RC:=Int×Int×ST
abbrev yRC:Ty:= .pair (.int .i64) (.pair (.int .i64) yST)
def jjz (s:ST):Bool:=(s.1==0)&&(sEq s.2.1 eS&&((s.2.2.1.length==0)&&((s.2.2.2.1.length==0)&&noD s.2.2.2.2)))
theorem jsP (s:ST):jjz s=true↔s=zST:=by
 obtain⟨a,b,c,e,d⟩:=s;unfold jjz;simp only[Q6,QG,j09,Qs,Qv,jfO]
def jc6 (r:RC):Bool:=decide (1<=r.1/\r.1<=4)&&(decide (1<=r.2.1/\r.2.1<=1000000)&&(bif r.1==2 then stB r.2.2 else jjz r.2.2))
theorem jqZ {r:RC}(h:jc6 r=true):(1<=r.1/\r.1<=4)/\(1<=r.2.1/\r.2.1<=1000000)/\((r.1=2/\stB r.2.2=true)\/(r.1≠2/\r.2.2=zST)):=by
 unfold jc6 at h;rw[Q6,Q6,Ql,Ql]at h;refine⟨h.1,h.2.1,?_⟩;have b:=h.2.2;cases d:r.1==2
 ·rw[d,Q0]at b;exact .inr ⟨by simpa using d,(jsP _).1 b⟩
 ·rw[d,Q1]at b;exact .inl ⟨by simpa using d,b⟩
def j6f (l:List RC)(x:Int):Bool:=l.any λr=>(r.1==1)&&(r.2.1==x)
def j3o (l:List Int)(n:Int):Bool:=l.any λx=>x==n
def j8L (o:List Int)(r:RC):List Int:=
 bif r.1==1 then (bif j3o o r.2.1 then o else o++[r.2.1]) else bif (r.1==3)||(r.1==4) then o.filter (λy=> !(y==r.2.1)) else o
def j1s (l:List RC):List Int:=l.foldl j8L []
def j72 (l:List RC):List Int:=(l.filter λr=>r.1==1).map λr=>r.2.1
def jiM (x:Int)(_:Int)(r:RC):List ST:=bif (r.1==2)&&(r.2.1==x) then [r.2.2] else []
def j31 (l:List RC)(x:Int):List ST:=Z4q (jiM x) 0 l
def jcP (p:List RC)(d:DB)(r:RC):Except Unit DB:=
 bif !jc6 r then .error () else
 bif r.1==1 then (bif j6f p r.2.1 then .error () else .ok d) else
 bif !j3o (j1s p) r.2.1 then .error () else
 bif r.1==3 then (bif (j0B d (j31 p r.2.1)).2.1 != 0 then .error () else .ok (j0B d (j31 p r.2.1)).1) else .ok d
def jgy (d:DB)(l:List RC):Except Unit DB:=Z1R (λi d r=>jcP (l.take i) d r) 0 l d
def jtY {A E:Type}(r:Except E A):Bool:=match r with
 |.ok _=>true
 |.error _=>false
def jjy (l:List RC):Bool:=decide (l.length<=400)&&jtY (jgy zDB l)
theorem jph {p:List RC}{d f:DB}{r:RC}(i:dbB d=true)(h:jcP p d r= .ok f):dbB f=true:=by
 unfold jcP at h;cases j:jc6 r<;>rw[j]at h
 ·cases h
 rw[Q4,Q0]at h;cases k:r.1==1<;>rw[k]at h
 ·rw[Q0]at h;cases b:j3o (j1s p) r.2.1<;>rw[b]at h
  ·cases h
  rw[Q4,Q0]at h;cases l:r.1==3<;>rw[l]at h
  ·cases h;exact i
  ·rw[Q1]at h;cases g:(j0B d (j31 p r.2.1)).2.1 != 0<;>rw[g]at h
   ·cases h;exact jq0 (by simpa using g)
   ·cases h
 ·rw[Q1]at h;cases b:j6f p r.2.1<;>rw[b]at h
  ·cases h;exact i
  ·cases h
theorem jl4 (l:List RC)(r:RC):j1s (l++[r])=j8L (j1s l) r:=by
 unfold j1s;rw[List.foldl_append];rfl
theorem jrm (l:List RC)(r:RC)(x:Int):j6f (l++[r]) x=(j6f l x||((r.1==1)&&(r.2.1==x))):=by
 unfold j6f;rw[List.any_append];simp
theorem jrl (l:List RC)(r:RC):j72 (l++[r])=bif r.1==1 then j72 l++[r.2.1] else j72 l:=by
 unfold j72;rw[List.filter_append,QU];cases h:r.1==1
 ·rw[Xr (by rw[h];simp),List.filter_nil,Yh,Qe,Q0]
 ·rw[Xs (p:=λr:RC=>r.1==1) h,List.filter_nil,Q1]
  rfl
theorem jsg (l:List RC)(x:Int):j3o (j72 l) x=j6f l x:=by
 unfold j3o j72 j6f;rw[List.any_map,List.any_filter];rfl
theorem jsh (l:List RC):(j72 l).length<=l.length:=by
 unfold j72;rw[Qy];exact Y3 _ _
theorem jsF (a:List Int)(y x:Int):j3o (a++[y]) x=(j3o a x||(y==x)):=by
 unfold j3o;rw[List.any_append];simp
theorem jrT (x:Int):(n:Nat)->(l:List RC)->l.length=n->j3o (j1s l) x=true->j6f l x=true:=by
 intro n;induction n with
 |zero=>
  intro l f h;have:l=[]:=Qv.1 f;subst this;exact absurd h (by unfold j1s j3o;simp)
 |succ n i=>
  intro l f h;have d:l≠[]:=λe=>by rw[e]at f;simp at f
  have e:l=l.dropLast++[l.getLast d]:=(List.dropLast_concat_getLast d).symm;generalize p:l.dropLast=m at e;generalize l.getLast d=r at e;have b:m.length=n:=by rw[<-p,List.length_dropLast];omega
  subst e;rw[jl4]at h;rw[jrm,Xq];unfold j8L at h;cases k:r.1==1<;>rw[k]at h
  ·rw[Q0]at h;refine .inl (i m b ?_);cases g:(r.1==3)||(r.1==4)<;>rw[g]at h
   ·exact h
   ·rw[Q1]at h;unfold j3o at h ⊢;rw[List.any_filter]at h;obtain⟨y,q,j⟩:=Yn.1 h;exact Yn.2 ⟨y,q,(by rw[Q6]at j;exact j.2)⟩
  ·rw[Q1]at h;cases g:j3o (j1s m) r.2.1<;>rw[g]at h
   ·rw[Q0,jsF,Xq]at h;rcases h with h | h
    ·exact .inl (i m b h)
    ·exact .inr (by rw[h];rfl)
   ·exact .inl (i m b h)
theorem jqY {l:List RC}{x:Int}(h:j6f l x=false):j3o (j1s l) x=false:=by
 cases b:j3o (j1s l) x
 ·rfl
 ·rw[jrT x _ l rfl b]at h;cases h
theorem jn0 (o:List Int)(r:RC):(j8L o r).length<=o.length+1:=by
 unfold j8L;cases r.1==1
 ·cases (r.1==3)||(r.1==4)
  ·exact Nat.le_succ _
  ·exact Nat.le_succ_of_le (Y3 _ _)
 ·cases j3o o r.2.1
  ·show (o++[r.2.1]).length<=_;simp
  ·exact Nat.le_succ _
theorem jfH:(l:List RC)->(o:List Int)->(l.foldl j8L o).length<=o.length+l.length
 | [],o=>Qq _
 |r::l,o=>by
  have b:=jfH l (j8L o r);have d:=jn0 o r;rw[QY,Q8];omega
theorem jn1 (l:List RC):(j1s l).length<=l.length:=by
 have:=jfH l [];simpa[j1s]using this
theorem jki (x i:Int)(r:RC):(jiM x i r).length<=1:=by
 unfold jiM;cases (r.1==2)&&(r.2.1==x)
 ·exact Qg _
 ·exact Qq _
theorem jlu (l:List RC)(x:Int):(j31 l x).length<=l.length:=Z93 _ (jki x) 0 l
theorem jmM {α β:Type}{g:Int->α->List β}{P:β->Prop}:(j:Nat)->(l:List α)->(h:∀i,∀x∈l,∀y∈g i x,P y)->∀y∈Z4q g j l,P y
 |_,[],h,y,b=>by cases b
 |j,x::l,h,y,b=>by
  rcases Qr.1 b with b | b
  ·exact h _ x (by simp) y b
  ·exact jmM (j+1) l (λi x d=>h i x (Qa _ d)) y b
theorem jrb {l:List RC}{x:Int}{s:ST}(f:s∈j31 l x):∃r∈l,s=r.2.2:=
 jmM (P:=λs=>∃r∈l,s=r.2.2) 0 l (λi r d y b=>by
  unfold jiM at b;cases h:(r.1==2)&&(r.2.1==x)<;>rw[h]at b
  ·cases b
  ·exact⟨r,d,by simpa using b⟩) s f
end
end Go.PI.G
namespace Go.PI.G
open Go Go.PI Go.Proofs
abbrev FT:=DB×Int×Int
noncomputable def jf2 (f:FT):Bool:=dbB f.1&&(decide (0<=f.2.1/\f.2.1<=400)&&decide (f.2.2>=0))
theorem jlq (f:FT)(h:msr yDB f.1<=1048576)(k:Bool->Res):j7Y f k=k (jf2 f):=by
 unfold j7Y jf2;rw[jet _ h];cases dbB f.1
 ·rfl
 rw[Q1,Qd];by_cases b:f.2.1>=0
 ·by_cases d:f.2.1<=400
  ·rw[Q3 b,Q1,Q3 d,Q1,Q3 (show 0<=f.2.1/\f.2.1<=400 from ⟨b,d⟩),Qd]
  ·rw[Q3 b,Q1,Q2 d,Q2 (show ¬ (0<=f.2.1/\f.2.1<=400) from λh=>d h.2)];rfl
 ·rw[Q2 b,Q2 (show ¬ (0<=f.2.1/\f.2.1<=400) from λh=>b h.1)];rfl
theorem jkA (f:FT)(h:msr yDB f.1<=1048576)(k:Bool->Res):j61 f k=k (jf2 f):=by
 unfold j61 jf2;rw[jmV _ h,j4P];cases dbB f.1
 ·rfl
 ·cases decide (0<=f.2.1/\f.2.1<=400)<;>rfl
end Go.PI.G
namespace Go.PI.G
open Go Go.PI Go.Proofs
theorem jbM (l:List ByteArray)(k:Bool->Res):j1Q l [] k=k (l.length==0):=by
 unfold j1Q;rw[jqV];cases l with
 |nil=>
  obtain⟨m,b⟩:=joi;rw[show (!(([]:List ByteArray).length==([]:List ByteArray).length))=false from rfl,Q0]
  unfold j8D;rw[b,Z9X];rfl
 |cons x l=>rfl
theorem jeb (l:List C)(k:Bool->Res):j1d l [] k=k (l.length==0):=by
 unfold j1d;rw[jqV];cases l with
 |nil=>
  obtain⟨m,b⟩:=joi;rw[show (!(([]:List C).length==([]:List C).length))=false from rfl,Q0]
  unfold j6K;rw[b,Z9X];rfl
 |cons x l=>rfl
theorem jqI (l:List C)(h:l.length<=LIM)(k:Bool->Res):j1d l l k=k true:=by
 unfold j1d j6K;rw[jqV,Xe,Q4,Q0];have:=Za1 l (λi=>i) (λ_=>false) (step:=j5I l l (nI l.length)) ((λ(_:Unit)=>k true),(λ(_:Unit)=>k false)) (k true) (k false) h (λi rec b=>by
  show j1k _ _ _ _ _ _ _=_
  unfold j1k;unfold LIM at h;have d:∀x:Bool,(x==x)=true:=by decide
  rw[ZaP b,Q1,j00 b,Q1,Q1];simp only[Zag,Xe,d,Xm,Q4,Q0];rw[j01 (by omega)]) (λrec=>by
  show j1k _ _ _ _ _ _ _=_
  unfold j1k;rw[ZaO,Q0])
 refine this.trans ?_;have:(l.any λ_=>false)=false:=by simp
 rw[this,Q0]
theorem jti {d:D}(h:dSm d):tSm (d.2.1,d.2.2.1,d.2.2.2.1):=⟨h.1,h.2.1,h.2.2.1,h.2.2.2.1,h.2.2.2.2.1⟩
theorem jtL (d:D)(K:Bool->Res):j6t d K=K (jbS d):=by
 unfold j6t jbS;rw[j3g,j3g];cases d.2.2.1.length==0<;>rfl
theorem jgC (d:D)(h:dSm d)(k:Bool->Res):j22 d k=k (j0T d):=by
 have i:=jti h;obtain⟨w,y,z,j,A,B,C⟩:=h;obtain⟨b,t,cs,ks,n,m⟩:=d;dsimp only at w y z j A B C i;unfold j22 j0T;rw[jtL];generalize r:jbS (b,t,cs,ks,n,m)=g;dsimp only;rw[j39 _ (by unfold LIM;omega),j3g]
 cases j0h t
 ·rfl
 ·rw[Q4,Q0,Qd];cases b==1
  ·cases b==2
   ·cases b==3
    ·cases b==4
     ·cases b==5
      ·rfl
      ·rw[Q0,Q0,Q0,Q0,Q1,Q0,Q0,Q0,Q0,Q1,j39 n (by unfold LIM;omega),j39 m (by unfold LIM;omega)]
       cases g
       ·rfl
       ·cases j0h n<;>rfl
     ·rw[Q0,Q0,Q0,Q1,Q0,Q0,Q0,Q1,j39 n (by unfold LIM;omega)]
      cases g
      ·rfl
      ·cases j0h n<;>rfl
    ·rw[Q0,Q0,Q1,Q0,Q0,Q1,jrQ];cases q:cs.length==1
     ·rfl
     ·have f:cs.length=1:=by simpa using q
      have p:inb 0 cs.length=true:=by rw[f];rfl
      have l:(nth zC cs 0).1.size<=LIM:=by
       have:=j (nth zC cs 0) (by rw[show (0:Int)=((0:Nat):Int) by rfl,Zax _ _ _ (by omega)];exact Q7 _)
       unfold LIM;omega
      rw[Q1,p,Q1,jlo _ l,Qd];cases j0S (nth zC cs 0)
      ·rfl
      ·rw[Q1,Q1,Q1,Qd];cases (nth zC cs 0).2.2.2.1
       ·cases (nth zC cs 0).2.2.1
        ·cases ks.length==0
         ·rfl
         ·cases sEq n eS<;>rfl
        ·rfl
       ·cases ks.length==0
        ·rfl
        ·cases sEq n eS<;>rfl
   ·rw[Q0,Q1,Q0,Q1];cases g
    ·rfl
    ·cases sEq n eS<;>rfl
  ·rw[Q1,Q1,jjk _ i];cases sEq n eS
   ·rfl
   ·cases sEq m eS<;>rfl
theorem jja (d:D)(h:dSm d)(k:T->Res):j2v d k=k (d.2.1,d.2.2.1,d.2.2.2.1):=by
 unfold j2v j3d j3e;have b:=h.2.1;have f:=h.2.2.1;dsimp only;rw[ZaK (by unfold LIM;omega),cond_true,ZaK (by unfold LIM;omega),cond_true]
theorem jgm (d:D)(h:dSm d)(k:Bool->Res):j20 d k=k (j0T d):=by
 have i:=jti h;have f:=jja d h;obtain⟨z,A,B,j,C,E,F⟩:=h;obtain⟨b,t,cs,ks,n,m⟩:=d;dsimp only at z A B j C E F i f;unfold j20 j0T jbS;dsimp only;rw[j37 _ (by unfold LIM;omega)]
 have l:cs.length<=LIM:=by unfold LIM;omega
 have G:ks.length<=LIM:=by unfold LIM;omega
 cases j0h t
 ·rfl
 ·rw[Q4,Q0,Qd];cases q:b==1
  ·cases b==2
   ·cases b==3
    ·cases b==4
     ·cases b==5
      ·rfl
      ·rw[cond_false,cond_false,cond_false,cond_false,cond_true,cond_false,cond_false,cond_false,cond_false,cond_true];unfold j0f;dsimp only;rw[beq_self_eq_true,cond_true,Zag,cond_true,jeb,jbM,Zag,cond_true,Zag,j37 n (by unfold LIM;omega),j37 m (by unfold LIM;omega)]
       cases cs.length==0
       ·rfl
       ·cases ks.length==0
        ·rfl
        ·cases j0h n<;>rfl
     ·rw[cond_false,cond_false,cond_false,cond_true,cond_false,cond_false,cond_false,cond_true];unfold j0f;dsimp only;rw[beq_self_eq_true,cond_true,Zag,cond_true,jeb,jbM,Zag,cond_true,j37 n (by unfold LIM;omega)]
      cases cs.length==0
      ·rfl
      ·cases ks.length==0
       ·rfl
       ·cases sEq m eS<;>cases j0h n<;>rfl
    ·rw[cond_false,cond_false,cond_true,cond_false,cond_false,cond_true,jrQ];unfold j0f;dsimp only;rw[beq_self_eq_true,cond_true,Zag,cond_true,jqI _ l,cond_true,jbM];cases y:cs.length==1
     ·cases ks.length==0
      ·rfl
      ·cases sEq n eS
       ·rfl
       ·cases sEq m eS<;>rfl
     ·have g:cs.length=1:=by simpa using y
      have w:inb 0 cs.length=true:=by rw[g];rfl
      have r:(nth zC cs 0).1.size<=LIM:=by
       have:=j (nth zC cs 0) (by rw[show (0:Int)=((0:Nat):Int) by rfl,Zax _ _ _ (by omega)];exact Q7 _)
       unfold LIM;omega
      rw[w,jkz _ r];cases ks.length==0
      ·cases j0S (nth zC cs 0)<;>cases (nth zC cs 0).2.2.2.1<;>cases (nth zC cs 0).2.2.1<;>rfl
      ·cases sEq n eS
       ·cases j0S (nth zC cs 0)<;>cases (nth zC cs 0).2.2.2.1<;>cases (nth zC cs 0).2.2.1<;>rfl
       ·cases sEq m eS<;>cases j0S (nth zC cs 0)<;>cases (nth zC cs 0).2.2.2.1<;>cases (nth zC cs 0).2.2.1<;>rfl
   ·rw[cond_false,cond_true,cond_false,cond_true];unfold j0f;dsimp only;rw[beq_self_eq_true,cond_true,Zag,cond_true,jeb,jbM];cases cs.length==0
    ·rfl
    ·cases ks.length==0
     ·rfl
     ·cases sEq n eS<;>rfl
  ·have p:b=1:=by simpa using q
   subst p;rw[Q1,Q1,f,jjb _ i];cases j04 (t,cs,ks)
   ·cases sEq n eS
    ·rfl
    ·cases sEq m eS<;>rfl
   ·cases sEq n eS<;>cases sEq m eS<;>rfl
theorem jls (d:D)(k:Bool->Res):j1b d k=k (noD d):=by
 unfold j1b noD;rw[j3g,j3g];cases d.1==0
 ·rfl
 ·cases sEq d.2.1 eS
  ·rfl
  ·cases d.2.2.1.length==0
   ·rfl
   ·cases d.2.2.2.1.length==0
    ·rfl
    ·cases sEq d.2.2.2.2.1 eS<;>rfl
theorem jkB (d:D)(k:Bool->Res):j0f d zD k=k (noD d):=by
 unfold j0f noD;rw[jeb,jbM];cases d.1==0
 ·rfl
 ·cases sEq d.2.1 eS
  ·rfl
  ·cases d.2.2.1.length==0
   ·rfl
   ·cases d.2.2.2.1.length==0
    ·rfl
    ·cases sEq d.2.2.2.2.1 eS<;>rfl
theorem jjl (l:List V)(h:l.length<=LIM)(k:Bool->Res):j2g l k=k (j2u l):=by
 unfold j2g jey j2u;have:=Za1 l (λi=>i) (λv=> !j0n v) (step:=j8l l (nI l.length)) ((λ(_:Unit)=>bif decide ((nI l.length)>=1) then k (decide ((nI l.length)<=8)) else k false),(λ(_:Unit)=>k false)) (bif decide ((nI l.length)>=1) then k (decide ((nI l.length)<=8)) else k false) (k false) h (λi rec d=>by
  show j30 _ _ _ _ _ _=_
  unfold j30;unfold LIM at h;rw[ZaP d,Q1,j00 d,Q1,Zax _ _ _ d,j7W,j01 (n:=(i:Int)+1) (by omega)]) (λrec=>by
  show j30 _ _ _ _ _ _=_
  unfold j30;rw[ZaO,Q0])
 refine this.trans ?_;have b:(l.any λv=> !j0n v)= !l.all j0n:=by rw[Y5];simp
 rw[b];unfold nI;cases l.all j0n
 ·rfl
 ·rw[Q4,Q0,Qd];by_cases f:1<=l.length
  ·rw[Q3 (show (l.length:Int)>=1 by omega),Q1,Q3 f,Qd]
   congr 1;exact Xt.2 (by omega)
  ·rw[Q2 (show ¬ (l.length:Int)>=1 by omega),Q0,Q2 f,QW]
theorem jjc (l:List V)(h:l.length<=LIM)(k:Bool->Res):j1r l k=k (j2u l):=by
 unfold j1r j1L j68 j84 j2u;rw[j4P];have f:decide (1<=nI l.length/\nI l.length<=8)=(decide (1<=l.length)&&decide (l.length<=8)):=by
  rw[<-Bool.decide_and];exact Xt.2 (by unfold nI;omega)
 rw[f];cases decide (1<=l.length)&&decide (l.length<=8)
 ·rw[XF];rfl
 ·rw[Q1,Xm];have:=Z9R l (λi=>i) (λv=> !j0n v) (step:=j36 l (nI l.length)) ((λ(_:Unit)=>k (!decide ((-1:Int)>=0))),(λ(t:Int)=>k (!decide (t>=0)))) (λr=>k (!decide (r>=0))) h (λi rec b=>by
   show j0O _ _ _ _ _ _=_
   unfold j0O jc4;unfold LIM at h;rw[ZaP b,Q1,j00 b,Q1,Zax _ _ _ b,j7G,j01 (n:=(i:Int)+1) (by omega)]) (λrec=>by
   show j0O _ _ _ _ _ _=_
   unfold j0O;rw[ZaO,Q0])
  refine this.trans ?_;congr 1;unfold Z9E;cases d:l.findIdx? λv=> !j0n v with
  |none=>
   rw[Y8]at d;symm;show l.all j0n=true
   rw[QD];intro v j;simpa using d v j
  |some i=>
   dsimp only;rw[decide_eq_true (show (i:Int)>=0 by omega)]
   obtain⟨b,g,_⟩:=Xl.1 d;symm;show l.all j0n=false
   rw[List.all_eq_false];exact⟨l[i],Q7 _,by simpa using g⟩
theorem jiJ (s:ST)(h:j1Y s)(k:Bool->Res):j3a s k=k (stB s):=by
 obtain⟨g,i,j,f⟩:=h;unfold j3a stB j5N;have b:s.2.2.1.length<=LIM:=by unfold LIM;omega
 have d:s.2.2.2.1.length<=LIM:=by unfold LIM;omega
 rw[j39 _ (by unfold LIM;omega),j3g,j3g]
 simp only[jjl _ b,jjl _ d,jls,jgC _ f];cases j0h s.2.1
 ·rfl
 ·rw[Q4,Q0,Qd];cases s.1==1
  ·cases s.1==2
   ·cases s.1==3
    ·cases s.1==4
     ·cases s.1==5
      ·rfl
      ·cases s.2.2.1.length==0
       ·rfl
       ·cases s.2.2.2.1.length==0
        ·rfl
        ·cases j0T s.2.2.2.2<;>rfl
     ·cases s.2.2.1.length==0
      ·rfl
      ·cases s.2.2.2.1.length==0<;>rfl
    ·cases j2u s.2.2.1
     ·rfl
     ·cases s.2.2.2.1.length==0<;>rfl
   ·cases j2u s.2.2.1
    ·rfl
    ·cases j2u s.2.2.2.1<;>rfl
  ·cases s.2.2.1.length==0
   ·rfl
   ·cases j2u s.2.2.2.1<;>rfl
theorem jrx {d:D}(h:j0T d=true):j0h d.2.1=true:=by
 unfold j0T at h;rw[Q6]at h;exact h.1
theorem jmW (s:ST)(h:j1Y s)(k:Bool->Res):j38 s k=k (stB s):=by
 obtain⟨n,p,q,m⟩:=h;unfold j38 stB j5k;have d:s.2.2.1.length<=LIM:=by unfold LIM;omega
 have f:s.2.2.2.1.length<=LIM:=by unfold LIM;omega
 rw[j37 _ (by unfold LIM;omega),j3g,j3g]
 simp only[jjc _ d,jjc _ f,jkB,jgm _ m];cases i:s.1==5
 ·rw[Q0];cases j0h s.2.1
  ·rfl
  ·rw[Q4,Q0,Qd];cases s.1==1
   ·cases s.1==2
    ·cases s.1==3
     ·cases s.1==4
      ·cases noD s.2.2.2.2<;>rfl
      ·cases noD s.2.2.2.2<;>cases s.2.2.1.length==0<;>cases s.2.2.2.1.length==0<;>rfl
     ·cases noD s.2.2.2.2<;>cases j2u s.2.2.1<;>cases s.2.2.2.1.length==0<;>rfl
    ·cases noD s.2.2.2.2<;>cases j2u s.2.2.1<;>cases j2u s.2.2.2.1<;>rfl
   ·cases noD s.2.2.2.2<;>cases s.2.2.1.length==0<;>cases j2u s.2.2.2.1<;>rfl
 ·have g:s.1=5:=by simpa using i
  rw[Q1,g,show ((5:Int)==1)=false from rfl,show ((5:Int)==2)=false from rfl,show ((5:Int)==3)=false from rfl,show ((5:Int)==4)=false from rfl,Q0,Q0,Q0,Q0,Q1]
  cases j:j0T s.2.2.2.2
  ·rw[Q0];cases j0h s.2.1<;>cases s.2.2.1.length==0<;>cases s.2.2.2.1.length==0<;>rfl
  ·rw[Q1,Zaf s.2.1];cases l:sEq s.2.2.2.2.2.1 s.2.1
   ·rw[Q0];cases j0h s.2.1<;>cases s.2.2.1.length==0<;>cases s.2.2.2.1.length==0<;>rfl
   ·have b:=jrx j;rw[(j09 _ _).1 l]at b;rw[b];cases s.2.2.1.length==0<;>cases s.2.2.2.1.length==0<;>rfl
end Go.PI.G
namespace Go.PI.G
open Go Go.PI Go.Proofs
theorem jqh (s:ST)(k:Bool->Res):j5U s k=k (jjz s):=by
 unfold j5U jjz;rw[j3g,j3g,jls];cases s.1==0
 ·rfl
 ·cases sEq s.2.1 eS
  ·rfl
  ·cases s.2.2.1.length==0
   ·rfl
   ·cases s.2.2.2.1.length==0<;>rfl
theorem jq6 (s:ST)(k:Bool->Res):j6p s k=k (jjz s):=by
 unfold j6p jjz;rw[j3g,j3g,jkB];cases s.1==0
 ·rfl
 ·cases sEq s.2.1 eS
  ·rfl
  ·cases s.2.2.1.length==0
   ·rfl
   ·cases s.2.2.2.1.length==0<;>rfl
theorem jr9 (r:RC)(h:j1Y r.2.2)(k:Bool->Res):j80 r k=k (jc6 r):=by
 unfold j80 j8Q jc6;by_cases d:1<=r.1/\r.1<=4
 ·rw[Q2 (show ¬ r.1<1 by omega),Q0,Q2 (show ¬ r.1>4 by omega),Q0,Q3 d,Qd]
  by_cases f:1<=r.2.1/\r.2.1<=1000000
  ·rw[Q2 (show ¬ r.2.1<1 by omega),Q0,Q2 (show ¬ r.2.1>1000000 by omega),Q3 f,Qd]
   dsimp only;rw[cond_false,jiJ _ h,jqh];cases r.1==2<;>rfl
  ·rw[Q2 f];by_cases b:r.2.1<1
   ·rw[Q3 b];rfl
   ·rw[Q2 b,Q3 (show r.2.1>1000000 by omega)];rfl
 ·rw[Q2 d];by_cases b:r.1<1
  ·rw[Q3 b];rfl
  ·rw[Q2 b,Q3 (show r.1>4 by omega)];rfl
theorem jqR (r:RC)(h:j1Y r.2.2)(k:Bool->Res):j7I r k=k (jc6 r):=by
 unfold j7I jc6;rw[j4P,j4P];cases decide (1<=r.1/\r.1<=4)
 ·rfl
 ·cases decide (1<=r.2.1/\r.2.1<=1000000)
  ·rfl
  ·rw[Q4,Q0,Q0,jmW _ h,jq6];cases r.1==2<;>rfl
end Go.PI.G
namespace Go.PI.G
open Go Go.PI Go.Proofs
theorem jkp {α K:Type}(z:α)(f:α->α->Bool)(a b:List α){step:Int->(Int->Res)->K->Res}(q:K)(x y:Res)(h:a.length<=LIM)(g:a.length=b.length)
  (k:∀(i:Nat) rec,(d:i<a.length)->(l:i<b.length)->step (i:Int) rec q=bif f a[i] b[i] then rec ((i:Int)+1) else y) (j:∀rec,step (a.length:Int) rec q=x) :
  Z1e step Z1b 0 q=bif j1q z f a b then x else y:=by
 have:=Z9O a (λi=>i) (λi u=> !f u (nth z b (i:Int))) (step:=step) q x y h (λi rec d=>by
  rw[k i rec d (g ▸ d),Zax _ _ _ (g ▸ d)];cases f a[i] (b[i]'(g ▸ d))<;>rfl) j
 refine this.trans ?_;unfold j1q;rw[Q3 g,Qd];cases Z70 (λi u=> !f u (nth z b (i:Int))) 0 a<;>rfl
theorem jkI {α β:Type}{a:List α}{b:List β}(h:¬ a.length=b.length):(nI a.length != nI b.length)=true:=by unfold nI;simp;omega
theorem jkH {α β:Type}{a:List α}{b:List β}(h:a.length=b.length):(nI a.length != nI b.length)=false:=by rw[h,ZaN]
theorem joJ {α:Type}{z:α}{f:α->α->Bool}{a b:List α}(h:¬ a.length=b.length):j1q z f a b=false:=by
 unfold j1q;rw[Q2 h,QW]
theorem jlt (a b:List V)(g:a.length<=LIM)(k:Bool->Res):j3Y a b k=k (j1q zV veq a b):=by
 unfold j3Y;by_cases d:a.length=b.length
 ·rw[jkH d,Q0];unfold jaU;unfold LIM at g;have:=jkp zV veq a b (step:=j5T a b (nI a.length)) ((λ(_:Unit)=>k true),(λ(_:Unit)=>k false)) (k true) (k false) g d (λi rec f h=>by
   show j1o _ _ _ _ _ _ _=_
   unfold j1o;rw[ZaP f,Q1,j00 f,Q1,j00 h,Q1,Zax _ _ _ f,Zax _ _ _ h,j01 (n:=(i:Int)+1) (by omega)]
   show (bif !veq a[i] b[i] then _ else _)=_
   cases veq a[i] b[i]<;>rfl) (λrec=>by
   show j1o _ _ _ _ _ _ _=_
   unfold j1o;rw[ZaO,Q0])
  refine this.trans ?_;cases j1q zV veq a b<;>rfl
 ·rw[jkI d,Q1,joJ d]
theorem jee (a b:List V)(g:a.length<=LIM)(k:Bool->Res):j1e a b k=k (j1q zV veq a b):=by
 unfold j1e;by_cases d:a.length=b.length
 ·rw[jkH d,Q0];unfold jaS;unfold LIM at g;have:=jkp zV veq a b (step:=j5J a b (nI a.length)) ((λ(_:Unit)=>k true),(λ(_:Unit)=>k false)) (k true) (k false) g d (λi rec f h=>by
   show j1l _ _ _ _ _ _ _=_
   unfold j1l;rw[ZaP f,Q1,j00 f,Q1,j00 h,Q1,Zax _ _ _ f,Zax _ _ _ h,j01 (n:=(i:Int)+1) (by omega)]
   show (bif !veq a[i] b[i] then _ else _)=_
   cases veq a[i] b[i]<;>rfl) (λrec=>by
   show j1l _ _ _ _ _ _ _=_
   unfold j1l;rw[ZaO,Q0])
  refine this.trans ?_;cases j1q zV veq a b<;>rfl
 ·rw[jkI d,Q1,joJ d]
theorem jan (t:T)(h:msr yT t<=1048576)(l:List (List V))(f:j08 t l=true)(b:List V)(k:Int->Res):j1v t l b k=k (j07 t l b):=by
 obtain⟨m,p,q,w,y⟩:=j2m h;obtain⟨g,z,j⟩:=j0i f;unfold j1v;rw[j6D t h,f,Q4,Q0];unfold jcj;refine Z9R l (λi=>i) (λr=>j1q zV veq (j06 t r) b) (step:=j4K b l (nI l.length) t) _ k (by unfold LIM;omega) (λi rec d=> ?_) (λrec=> ?_)
 ·show j2q b _ _ t _ _ _ _=_
  unfold j2q;rw[ZaP d,Q1,j00 d,Q1,Zax _ _ _ d,j69 t h g _ (j0r (j _ (Q7 d))),jlt _ _ (by rw[j92];unfold LIM;omega),j01 (n:=(i:Int)+1) (by omega)]
 ·show j2q b _ _ t _ _ _ _=_
  unfold j2q;rw[ZaO,Q0]
theorem j3p (t:T)(h:msr yT t<=1048576)(l:List (List V))(f:j08 t l=true)(b:List V)(k:Int->Res):j0W t l b k=k (j07 t l b):=by
 obtain⟨m,p,q,w,y⟩:=j2m h;obtain⟨g,z,j⟩:=j0i f;unfold j0W j67 j83;refine Z9R l (λi=>i) (λr=>j1q zV veq (j06 t r) b) (step:=j35 l (t,b) (nI l.length)) _ k (by unfold LIM;omega) (λi rec d=> ?_) (λrec=> ?_)
 ·show j0N _ _ _ _ _ _ _=_
  unfold j0N jbx;rw[ZaP d,Q1,j00 d,Q1,Zax _ _ _ d,j32 t h g _ (j0r (j _ (Q7 d))),jee _ _ (by rw[j92];unfold LIM;omega),j01 (n:=(i:Int)+1) (by omega)]
 ·show j0N _ _ _ _ _ _ _=_
  unfold j0N;rw[ZaO,Q0]
theorem jpl (t:T)(l:List (List V))(b:List V): -1<=j07 t l b/\j07 t l b<(l.length:Int):=jcG _ _
end Go.PI.G
namespace Go.PI.G
open Go Go.PI Go.Proofs
theorem jdE (c:List T)(n:ByteArray)(h:c.length<=LIM)(k:Int->Res):j24 c n k=k (j05 c n):=by
 unfold j24 jhs;refine Z9R c (λi=>i) (λt=>sEq t.1 n) (step:=jav n c (nI c.length)) _ k h (λi rec b=> ?_) (λrec=> ?_)
 ·show j4O n _ _ _ _ _ _=_
  unfold j4O;unfold LIM at h;rw[ZaP b,Q1,j00 b,Q1,Zax _ _ _ b,j01 (n:=(i:Int)+1) (by omega)]
 ·show j4O n _ _ _ _ _ _=_
  unfold j4O;rw[ZaO,Q0]
theorem j79 (c:List T)(n:ByteArray)(h:c.length<=LIM)(k:Int->Res):j0k c n k=k (j05 c n):=by
 unfold j0k j4V j6V;refine Z9R c (λi=>i) (λt=>sEq t.1 n) (step:=j2e c n (nI c.length)) _ k h (λi rec b=> ?_) (λrec=> ?_)
 ·show j0C _ n _ _ _ _ _=_
  unfold j0C jdh;unfold LIM at h;rw[ZaP b,Q1,j00 b,Q1,Zax _ _ _ b,j01 (n:=(i:Int)+1) (by omega)]
 ·show j0C _ n _ _ _ _ _=_
  unfold j0C;rw[ZaO,Q0]
end Go.PI.G
