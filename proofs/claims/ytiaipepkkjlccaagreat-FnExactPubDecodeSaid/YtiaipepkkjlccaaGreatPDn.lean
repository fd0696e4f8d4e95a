/-
  Program's code interpreted over typed values; printed texts; plain laws. No conditions.
-/
import Derived.Test.YtiaipepkkjlccaaGreatPDm
import Derived.Test.YtiaipepkkjlccaaGreatPDl
import Derived.Test.YtiaipepkkjlccaaGreatPDh
import Derived.Test.YtiaipepkkjlccaaGreatPDj
import Derived.Test.YtiaipepkkjlccaaGreatPDi
set_option linter.unusedVariables false
set_option linter.unusedSimpArgs false
namespace Go.PI.G
noncomputable section
open Go Go.PI
def jbr (d:DB)(t:ByteArray):List ByteArray×List ByteArray:=
 bif decide (j07 d.1 t<0) then ([],[]) else ((nth zT d.1 (j07 d.1 t)).2.1.map λc=>c.1,(nth zT d.1 (j07 d.1 t)).2.2)
def j9q (d:DB)(s:ST):PT:=(s,bif s.1 != 5 then jbr d s.2.1 else ([],[]))
def jaK (_:Nat)(a:DB×List PT)(s:ST):Except Unit (DB×List PT):=
 bif !stB s then .error () else bif (j1o a.1 s).2 != 0 then .error () else .ok ((j1o a.1 s).1,a.2++[j9q a.1 s])
def j2k (d:DB)(l:List ST):List PT×Bool:=bif !dbB d then ([],false) else match Z1R jaK 0 l (d,[])with
 |.ok a=>(a.2,true)
 |.error _=>([],false)
def jcw (l:List RC)(b p:Int):BT:=(p,b,(j2k (j2N l (p-1)) (j08 (l.take p.toNat) (nth zRC l (p-1)).2.1)).1)
def j2l:List Int->Int->List (Int×Int)
 | [],_=>[]
 |c::cs,b=>(b,c)::j2l cs c
def j0V (l:List RC)(b:Int):List BT:=((j2l (j04 l) 0).filter λq=>decide (q.2>b)).map λq=>jcw l q.1 q.2
theorem juc {i:Nat}{a b:DB×List PT}{s:ST}(h:dbB a.1=true)(d:jaK i a s= .ok b):dbB b.1=true/\b.2=a.2++[j9q a.1 s]/\stB s=true:=by
 unfold jaK at d;cases f:stB s<;>rw[f]at d
 ·cases d
 ·rw[Q4,Q0]at d;cases g:(j1o a.1 s).2 != 0<;>rw[g]at d
  ·cases d;exact⟨juU h f (by simpa using g),rfl,rfl⟩
  ·cases d
theorem jwn {d:DB}(h:dbB d=true)(t:ByteArray):msr (.slice .str) (jbr d t).1<=72/\msr (.slice .str) (jbr d t).2<=72:=by
 obtain⟨q,B,C⟩:=(j1m d).1 h;unfold jbr;rcases j0p d.1 t with⟨e,_⟩ | ⟨i,m,e,_⟩
 ·rw[e];exact⟨Qg _,Qg _⟩
 ·rw[e,Q2 (by omega),Q0,Zax _ _ _ m]
  have ht:j06 d.1[i]=true:=((j0h _).1 q).2.1 _ (Q7 m);generalize d.1[i]=u at ht;obtain⟨E,F,z,G,A,n⟩:=(j5H _).1 ht;have b:∀c∈u.2.1,c.1.size<=8:=λc g=>by
   have:=(j6b _).1 A |>.1 c g
   unfold j19 at this;rw[Q6]at this;exact(j4H this.1).2
  constructor
  ·have f:=j4P (e:= .str) 8 (u.2.1.map λc=>c.1) (λx l=>by
    obtain⟨c,g,rfl⟩:=X6.1 l;exact b c g)
   rw[Qy]at f;have:u.2.1.length * 9<=8 * 9:=Qt _ z;exact Qx f this
  ·obtain⟨y,D⟩:=(j4A _ _ _).1 n;have k:u.2.2.length<=8:=by
    have:=ji4 u.2.2 (-1) (by omega) n
    omega
   have f:=j4P (e:= .str) 8 u.2.2 (λx l=>by
    rcases j1h u.2.1 x with⟨p,_⟩ | ⟨j,r,p,w,_⟩
    ·have:=(y x l).1;omega
    ·have:=b _ (Q7 r);rw[w]at this;exact this)
   have:u.2.2.length * 9<=8 * 9:=Qt _ k;exact Qx f this
theorem jxi {d:DB}(h:dbB d=true){s:ST}(b:stB s=true):msr yPT (j9q d s)<=1244:=by
 have f:=jy3 b;have e:msr yPT (j9q d s)=msr yST s+(msr (.slice .str) (j9q d s).2.1+msr (.slice .str) (j9q d s).2.2):=rfl;have g:msr (.slice .str) (j9q d s).2.1<=72/\msr (.slice .str) (j9q d s).2.2<=72:=by
  unfold j9q;cases s.1 != 5
  ·exact⟨Qg _,Qg _⟩
  ·exact jwn h _
 omega
theorem jyn {l:List ST}:(i:Nat)->(a b:DB×List PT)->dbB a.1=true->(∀p∈a.2,msr yPT p<=1244)->Z1R jaK i l a= .ok b->dbB b.1=true/\b.2.length=a.2.length+l.length/\∀p∈b.2,msr yPT p<=1244:=by
 induction l with
 |nil=>
  intro i a b h f e;simp only[Z1R,Except.ok.injEq]at e;subst e;exact⟨h,rfl,f⟩
 |cons s l q=>
  intro i a b h f e;simp only[Z1R]at e;cases g:jaK i a s with
  |error x=>rw[g]at e;cases e
  |ok k=>
   rw[g]at e;obtain⟨r,j,w⟩:=juc h g;obtain⟨y,z,A⟩:=q (i+1) k b r (λp d=>by
    rw[j]at d;rcases Qr.1 d with d | d
    ·exact f p d
    ·rw[QB]at d;rw[d];exact jxi h w) e
   refine⟨y,?_,A⟩;have n:(s::l).length=l.length+1:=rfl;have m:([j9q a.1 s]).length=1:=rfl;rw[z,j,Q5,m,n];omega
theorem jvz (d:DB)(l:List ST):(j2k d l).1.length<=l.length/\∀p∈(j2k d l).1,msr yPT p<=1244:=by
 unfold j2k;cases h:dbB d
 ·exact⟨Qg _,λp b=>by cases b⟩
 ·rw[Q4,Q0];cases g:Z1R jaK 0 l (d,[])with
  |error e=>exact⟨Qg _,λp b=>by cases b⟩
  |ok a=>
   obtain⟨_,f,i⟩:=jyn 0 (d,[]) a h (λp b=>by cases b) g
   refine⟨?_,i⟩;dsimp only at f ⊢;rw[f];simp
theorem jq6 (l:List RC)(r:RC)(x:Int):j08 (l++[r]) x=j08 l x++bif (r.1==2)&&(r.2.1==x) then [r.2.2] else []:=by
 unfold j08;rw[jhT];rfl
def jko (l:List RC):Nat:=((j0q l).map λx=>(j08 l x).length).sum
def jkb (l:List RC)(n:Nat):Nat:=((Z4q j2f 0 (l.take n)).map λp=>(j08 (l.take (p-1).toNat) (nth zRC l (p-1)).2.1).length).sum
theorem jmC {α:Type}{f g:α->Nat}:(l:List α)->(∀x∈l,f x=g x)->(l.map f).sum=(l.map g).sum
 | [],h=>rfl
 |x::l,h=>by
  rw[Qz,Qz,QX,QX,h x (by simp),jmC l λy b=>h y (Qa _ b)]
theorem jmJ (f:Int->Nat)(x:Int):(l:List Int)->l.Nodup->x∈l->(l.map f).sum=f x+((l.filter λy=> !(y==x)).map f).sum
 | [],_,h=>by cases h
 |y::l,i,h=>by
  obtain⟨b,d⟩:=Xx.1 i;by_cases e:y=x
  ·subst e;have g:(l.filter λz=> !(z==y))=l:=List.filter_eq_self.2 λz k=>by
    have:z≠y:=λe=>b (e ▸ k)
    simp[this]
   rw[Xr (by simp),g,Qz,QX]
  ·have j:x∈l:=by
    rcases Qp.1 h with h | h
    ·exact absurd h.symm e
    ·exact h
   rw[Xs (by simp[e]),Qz,Qz,QX,QX,jmJ f x l d j]
   omega
structure Few (l:List RC)(n:Nat):Prop where
 nod:(j0q (l.take n)).Nodup
 used:∀x,j08 (l.take n) x≠[]->j3N (l.take n) x=true
 few:jkb l n+jko (l.take n)<=n
theorem few {l:List RC}(h:j3R l=true):(n:Nat)->n<=l.length->Few l n
 | 0,_=>by
  refine⟨?_,λx i=> ?_,?_⟩
  ·rw[XX];exact List.nodup_nil
  ·rw[XX]at i;exact absurd rfl i
  ·unfold jkb jko;rw[XX];exact Qq _
 |n+1,hn=>by
  obtain⟨C,P,Q⟩:=few h n (by omega)
  have j:n<l.length:=by omega
  obtain⟨Z,step⟩:=jvt h n j;have ht:l.take (n+1)=l.take n++[l[n]]:=QA j;have E:jkb l (n+1)=jkb l n+(bif l[n].1==3 then (j08 (l.take n) l[n].2.1).length else 0):=by
   unfold jkb;rw[ht,jhT,QU,YC,Qf,YE (Nat.le_of_lt j),show ((0:Nat):Int)+(n:Int)=(n:Int) by omega]
   unfold j2f;cases l[n].1==3
   ·rfl
   ·rw[Q1,Q1,Qz,Yh,QX,List.sum_nil,show (n:Int)+1-1=(n:Int) by omega,Zax _ _ _ j,QS]
    rfl
  suffices g:(j0q (l.take (n+1))).Nodup/\(∀x,j08 (l.take (n+1)) x≠[]->j3N (l.take (n+1)) x=true)/\jkb l n+(bif l[n].1==3 then (j08 (l.take n) l[n].2.1).length else 0)+jko (l.take (n+1))<=n+1 from
   ⟨g.1,g.2.1,by rw[E];exact g.2.2⟩
  rw[ht];generalize hp:l.take n=p at *;generalize l[n]=r at *;have f:=λx=>jq6 p r x
  rcases step with⟨A,X,_⟩ | ⟨A,U,L⟩
  ·have I:(r.1==1)=true:=by simpa using A
   have D:(r.1==2)=false:=by rw[A];rfl
   have J:(r.1==3)=false:=by rw[A];rfl
   have k:∀x,j08 (p++[r]) x=j08 p x:=λx=>by rw[f,D,QW,Q0,Qe]
   have d:=jpD X;have m:j0q (p++[r])=j0q p++[r.2.1]:=by
    rw[jcW];unfold j8q;rw[I,d];rfl
   have z:j08 p r.2.1=[]:=by
    cases H:j08 p r.2.1 with
    |nil=>rfl
    |cons a b=>
     have:=P r.2.1 (by rw[H];exact Yc _ _)
     rw[X]at this;cases this
   refine⟨?_,λx i=> ?_,?_⟩
   ·rw[m];refine Qj.2 ⟨C,by simp,λa Y b B=> ?_⟩
    rw[QB]at B;subst B;intro e;subst e;rw[(je9 _ _).2 Y]at d;cases d
   ·rw[k]at i;rw[jkE,P x i];rfl
   ·unfold jko;rw[m,QU,YC,J];simp only[k];rw[Qz,Yh,QX,List.sum_nil,z];unfold jko at Q;show jkb l n+0+_<=n+1
    simp only[QE];omega
  ·have I:(r.1==1)=false:=by simpa using A
   have w:r.2.1∈j0q p:=(je9 _ _).1 U;have q:∀x,j08 (p++[r]) x≠[]->j3N (p++[r]) x=true:=λx i=>by
    rw[jkE];by_cases H:j08 p x=[]
    ·rw[f,H,Qk]at i;cases B:((r.1==2)&&(r.2.1==x))<;>rw[B]at i
     ·exact absurd rfl i
     ·rw[Q6,QG,QG]at B;rw[<-B.2,jry _ _ _ rfl U];rfl
    ·rw[P x H];rfl
   cases D:r.1==2
   ·have k:∀x,j08 (p++[r]) x=j08 p x:=λx=>by rw[f,D,QW,Q0,Qe]
    have hk:=(jpS Z).1;have n1:r.1≠1:=A;have n2:r.1≠2:=by simpa using D
    have R:((r.1==3)||(r.1==4))=true:=by
     rw[Xq,QG,QG];omega
    have m:j0q (p++[r])=(j0q p).filter λy=> !(y==r.2.1):=by
     rw[jcW];unfold j8q;rw[I,R];rfl
    have F:=jmJ (λx=>(j08 p x).length) r.2.1 (j0q p) C w
    refine⟨?_,q,?_⟩
    ·rw[m];exact C.filter _
    ·unfold jko at Q ⊢;rw[m];simp only[k];cases r.1==3
     ·rw[Q0];omega
     ·rw[Q1];omega
   ·have T:r.1=2:=by simpa using D
    have J:(r.1==3)=false:=by rw[T];rfl
    have m:j0q (p++[r])=j0q p:=by
     rw[jcW];unfold j8q;rw[I,J,T];rfl
    have F:=jmJ (λx=>(j08 p x).length) r.2.1 (j0q p) C w
    have M:=jmJ (λx=>(j08 (p++[r]) x).length) r.2.1 (j0q p) C w
    have W:(((j0q p).filter λy=> !(y==r.2.1)).map λx=>(j08 (p++[r]) x).length).sum=(((j0q p).filter λy=> !(y==r.2.1)).map λx=>(j08 p x).length).sum:=jmC _ λx i=>by
     have G:=(List.mem_filter.1 i).2;have K:(r.2.1==x)=false:=by
      rw[QF]at G;have:x≠r.2.1:=by simpa using G
      simpa using λe=>this e.symm
     rw[f,K,XF,Q0,Qe]
    have V:(j08 (p++[r]) r.2.1).length=(j08 p r.2.1).length+1:=by
     rw[f,D,show (r.2.1==r.2.1)=true by simp]
     simp
    refine⟨by rw[m];exact C,q,?_⟩
    unfold jko at Q ⊢;rw[m,J,Q0];omega
theorem jxW {l:List RC}(h:j3R l=true):jkb l l.length<=l.length:=by
 have:=(few h l.length (Qq _)).few;omega
theorem jmk:(c:List Int)->(b:Int)->∀q∈j2l c b,q.2∈c
 | [],_,q,h=>by cases h
 |x::c,b,q,h=>by
  rcases Qp.1 h with h | h
  ·rw[h];simp
  ·exact Qa _ (jmk c x q h)
theorem ji9:(c:List Int)->(b:Int)->(j2l c b).map Prod.snd=c
 | [],_=>rfl
 |x::c,b=>by
  show x::(j2l c x).map Prod.snd=_
  rw[ji9 c x]
theorem jsG {α:Type}(q:α->Bool)(f:α->Nat)(l:List α):((l.filter q).map f).sum<=(l.map f).sum:=by
 induction l with
 |nil=>exact Qq _
 |cons x l d=>
  cases b:q x
  ·rw[Xr (by rw[b];simp),Qz,QX]
   omega
  ·rw[Xs b,Qz,Qz,QX,QX];omega
theorem jud {α:Type}{f g:α->Nat}:(l:List α)->(∀x∈l,f x<=g x)->(l.map f).sum<=(l.map g).sum
 | [],_=>Qq _
 |x::l,h=>by
  have d:=h x (by simp)
  have i:=jud l λy b=>h y (Qa _ b)
  rw[Qz,Qz,QX,QX];omega
theorem jv9 {α:Type}(f:α->Nat)(c:Nat):(l:List α)->(l.map λx=>f x * c).sum=(l.map f).sum * c
 | []=>by simp
 |x::l=>by rw[Qz,Qz,QX,QX,jv9 f c l,QC]
theorem jxT {l:List RC}(b p:Int)(n:Nat)(h:(j08 (l.take p.toNat) (nth zRC l (p-1)).2.1).length<=n):msr yBT (jcw l b p)<=n * 1245:=by
 obtain⟨d,f⟩:=jvz (j2N l (p-1)) (j08 (l.take p.toNat) (nth zRC l (p-1)).2.1);have g:=j4P (e:=yPT) 1244 _ f;have e:msr yBT (jcw l b p)=0+(0+msr (.slice yPT) (jcw l b p).2.2):=rfl;have i:(j2k (j2N l (p-1)) (j08 (l.take p.toNat) (nth zRC l (p-1)).2.1)).1.length * 1245<=n * 1245:=Qt _ (Qx d h);have j:msr (.slice yPT) (jcw l b p).2.2<=n * 1245:=Qx g i;omega
end
end Go.PI.G
namespace Go.PI.G
open Go Go.PI
theorem jvX:(l:List RC)->(j:Nat)->(∀x∈Z4q j2f j l,(j:Int)<x)/\(Z4q j2f j l).Pairwise (·< ·)
 | [],_=>⟨λx b=>(by cases b),List.Pairwise.nil⟩
 |r::l,j=>by
  obtain⟨d,f⟩:=jvX l (j+1);have e:Z4q j2f j (r::l)=j2f j r++Z4q j2f (j+1) l:=rfl;rw[e];unfold j2f;cases r.1==3
  ·rw[Q0,Qk];exact⟨λx b=>by have:=d x b;omega,f⟩
  ·rw[Q1];refine⟨λx b=> ?_,?_⟩
   ·rcases Qp.1 b with b | b
    ·omega
    ·have:=d x b;omega
   ·show List.Pairwise (·< ·) (((j:Int)+1)::Z4q j2f (j+1) l)
    exact XM.2 ⟨λx b=>by have:=d x b;omega,f⟩
theorem jvi (l:List RC):(∀x∈j04 l,0<x)/\(j04 l).Pairwise (·< ·):=by
 unfold j04;cases j3R l
 ·exact⟨λx b=>(by cases b),List.Pairwise.nil⟩
 ·obtain⟨d,f⟩:=jvX l 0;exact⟨λx b=>by have:=d x b;omega,f⟩
def jfn (p a x:Int):Int:=bif decide (x<p) then x else a
theorem jt6 (p:Int):(c:List Int)->(a:Int)->(∀x∈c,p<=x)->c.foldl (jfn p) a=a
 | [],_,_=>rfl
 |x::c,a,h=>by
  have:=h x (by simp)
  rw[QY];unfold jfn;rw[Q2 (by omega),Q0]
  exact jt6 p c a λy b=>h y (Qa _ b)
theorem jrA:(c:List Int)->(b:Int)->c.Pairwise (·< ·)->∀q∈j2l c b,c.foldl (jfn q.2) b=q.1
 | [],_,_,q,h=>by cases h
 |x::c,b,g,q,h=>by
  obtain⟨d,f⟩:=XM.1 g;rw[QY];rcases Qp.1 h with h | h
  ·rw[h];show c.foldl (jfn x) (jfn x b x)=b
   unfold jfn;rw[Q2 (by omega),Q0]
   exact jt6 x c b λy i=>by have:=d y i;omega
  ·have j:=d q.2 (jmk c x q h);have:jfn q.2 b x=x:=by
    unfold jfn;rw[Q3 (by omega),Q1]
   rw[this];exact jrA c x f q h
theorem jwx {l:List RC}{i:Nat}(d:i<l.length)(b:l[i].1=3)(x:Int):j08 (l.take (i+1)) x=j08 (l.take i) x:=by
 rw[QA d,jq6,show (l[i].1==2)=false by rw[b];rfl,QW,Q0,Qe]
noncomputable def jkC (l:List RC)(p:Int):Nat:=(j08 (l.take p.toNat) (nth zRC l (p-1)).2.1).length
theorem jy9 {l:List RC}(h:j3R l=true):((j04 l).map (jkC l)).sum<=l.length:=by
 have b:=jxW h;refine Qx (Nat.le_of_eq ?_) b;have e:j04 l=Z4q j2f 0 (l.take l.length):=by
  unfold j04;rw[h,Xi];rfl
 unfold jkb;rw[<-e];refine jmC _ λp j=> ?_
 have f:jt8 l p=true:=(je9 _ _).2 j;obtain⟨_,i,g,rfl,d⟩:=(jnT l p).1 f;unfold jkC;rw[show ((i:Int)+1).toNat=i+1 by omega,show (i:Int)+1-1=(i:Int) by omega,QS,jwx g d]
theorem jp4 (l:List RC)(b:Int):(j0V l b).length<=400/\((j0V l b).map (msr yBT)).sum<=498000:=by
 unfold j0V;cases d:j3R l
 ·have:j04 l=[]:=by unfold j04;rw[d];rfl
  rw[this];exact⟨Qg _,Qg _⟩
 ·have f:=((jhc l).1 d).1;have g:(j2l (j04 l) 0).length=(j04 l).length:=by
   have:=Xv List.length (ji9 (j04 l) 0);rwa[Qy]at this
  have m:=jgR l;refine⟨?_,?_⟩
  ·rw[Qy];have:=Y3 (λq:Int×Int=>decide (q.2>b)) (j2l (j04 l) 0)
   omega
  ·rw[Yq];refine Qx (jud _ λq n=>jxT (l:=l) q.1 q.2 (jkC l q.2) (Qq _)) ?_
   rw[jv9];have i:=jsG (λq:Int×Int=>decide (q.2>b)) (λq=>jkC l q.2) (j2l (j04 l) 0)
   have j:((j2l (j04 l) 0).map λq=>jkC l q.2).sum=((j04 l).map (jkC l)).sum:=by
    have:(j2l (j04 l) 0).map (λq=>jkC l q.2)=((j2l (j04 l) 0).map Prod.snd).map (jkC l):=by
     rw[Yq];rfl
    rw[this,ji9]
   have k:=jy9 d;have h:(((j2l (j04 l) 0).filter λq=>decide (q.2>b)).map λq=>jkC l q.2).sum * 1245<=400 * 1245:=Qt _ (by omega)
   exact h
end Go.PI.G
namespace Go.PI.G
open Go Go.PI Go.Proofs
theorem jgO {α β:Type}(g:α->β):(j:Nat)->(l:List α)->Z4q (λ_ x=>[g x]) j l=l.map g
 |_,[]=>rfl
 |j,x::l=>by
  show g x::Z4q (λ_ x=>[g x]) (j+1) l=_
  rw[jgO g (j+1) l];rfl
theorem jtI {t:T}(h:j06 t=true):t.2.1.length<=8/\t.2.2.length<=8:=by
 obtain⟨_,_,b,_,_,d⟩:=(j5H t).1 h;have:=ji4 t.2.2 (-1) (by omega) d
 exact⟨b,by omega⟩
theorem juD (t:T)(h:t.2.1.length<=8)(k:List ByteArray->Res):j9C (nI t.2.1.length) t Z1b [] 0 k=k (t.2.1.map λc=>c.1):=by
 unfold j9C;have:=Za2 t.2.1 (λ_ (c:C)=>[c.1]) (λi b=>(b,i)) (step:=j76 (nI t.2.1.length) t) k (λb=>k b) (by unfold LIM;omega) (λi x=>Qq 1) (λb i rec d f=>by
  show j4k _ _ _ _ _ _=_
  unfold j4k;dsimp only;rw[ZaP d,cond_true,j00 d,cond_true,Zax _ _ _ d,j01 (n:=(i:Int)+1) (by omega),ZaK (by unfold LIM;omega),cond_true]) (λb rec=>by
  show j4k _ _ _ _ _ _=_
  unfold j4k;dsimp only;rw[ZaO,cond_false])
 rw[jgO (λc:C=>c.1) 0 t.2.1]at this
 exact this
theorem juv (t:T)(h:t.2.1.length<=8)(k:List ByteArray->Res):jcI t k=k (t.2.1.map λc=>c.1):=by
 unfold jcI jl7;have:=Za2 t.2.1 (λ_ (c:C)=>[c.1]) (λi b=>(b,i)) (step:=jcJ t.2.1 (nI t.2.1.length)) (λb=>k b) (λb=>k b) (by unfold LIM;omega) (λi x=>Qq 1) (λb i rec d f=>by
  show j6o _ _ _ _ _ _=_
  unfold j6o;dsimp only;rw[ZaP d,cond_true,j00 d,cond_true,Zax _ _ _ d,j01 (n:=(i:Int)+1) (by omega),ZaK (by unfold LIM;omega),cond_true]) (λb rec=>by
  show j6o _ _ _ _ _ _=_
  unfold j6o;dsimp only;rw[ZaO,cond_false])
 rw[jgO (λc:C=>c.1) 0 t.2.1]at this
 exact this
theorem ju7 (d:DB)(h:dbB d=true)(t:ByteArray)(k:List ByteArray->List ByteArray->Res):jab d t k=k (jbr d t).1 (jbr d t).2:=by
 have b:=((j1m d).1 h).1;have n:=((j0h _).1 b).1;have j:=je5 b;unfold jab jac jbr;rw[jdh _ _ (by unfold LIM;omega),jkx _ j,b,Q4,Q0]
 rcases j0p d.1 t with⟨e,_⟩ | ⟨i,f,e,_⟩
 ·rw[e];rfl
 ·have ht:j06 d.1[i]=true:=((j0h _).1 b).2.1 _ (Q7 f);have g:msr yT d.1[i]<=1048576:=j0b j (Q7 f);obtain⟨l,m⟩:=jtI ht;rw[e,Q2 (by omega),Q0,Q0,j00 f,Q1,Zax _ _ _ f,ju3 _ g]
  dsimp only;rw[Bool.not_true,cond_false,jfb d (jgT h),h,Bool.not_true,cond_false,juD _ l,ZaK (by unfold LIM;omega),cond_true]
theorem jto (d:DB)(h:dbB d=true)(t:ByteArray)(k:List ByteArray->List ByteArray->Res):j9W d t k=k (jbr d t).1 (jbr d t).2:=by
 have f:=((j1m d).1 h).1;have l:=((j0h _).1 f).1;unfold j9W jbr;rw[j7n _ _ (by unfold LIM;omega)]
 rcases j0p d.1 t with⟨e,_⟩ | ⟨i,b,e,_⟩
 ·rw[e];rfl
 ·have ht:j06 d.1[i]=true:=((j0h _).1 f).2.1 _ (Q7 b);obtain⟨g,j⟩:=jtI ht;unfold j0t;rw[e,Q2 (by omega),Q0,Q0,j00 b,Q1,Q1,Zax _ _ _ b,juv _ g,ZaK (by unfold LIM;omega),Q1]
theorem ju8 (d:DB)(h:dbB d=true)(s:ST)(k:PT->Res):j6I (s.1 != 5) d s (s,[],[]) k=k (j9q d s):=by
 unfold j6I j9q;cases s.1 != 5
 ·rfl
 ·rw[Q1,Q1,ju7 d h]
theorem jtp (d:DB)(h:dbB d=true)(s:ST)(k:PT->Res):j6i (s.1 != 5) d s (s,[],[]) k=k (j9q d s):=by
 unfold j6i j9q;cases s.1 != 5
 ·rfl
 ·rw[Q1,Q1,jto d h]
theorem jpQ {l:List ST}(i:Nat)(a b:DB×List PT)(h:i<l.length)(d:dbB a.1=true/\a.2.length<=i)(e:jaK i a l[i]= .ok b):dbB b.1=true/\b.2.length<=i+1:=by
 obtain⟨f,g,_⟩:=juc d.1 e;refine⟨f,?_⟩;rw[g,Q5];exact Nat.add_le_add d.2 (Qq 1)
theorem jra (d:DB)(r:msr yDB d<=1048576)(l:List ST)(y:l.length<=1048576)(w:∀s∈l,j12 s)(k:List PT->Bool->Res):j80 d l k=k (j2k d l).1 (j2k d l).2:=by
 unfold j80 j2k;rw[jfb d r];cases h:dbB d
 ·rfl
 rw[Q4,Q0,Q0];unfold jdn;refine(Z3Y l (λi (a:DB×List PT)=>(a.2,i,a.1)) jaK (λi a=>dbB a.1=true/\a.2.length<=i) (step:=j4l l (nI l.length)) ((λ(j:List PT)=>k j true),(λ(_:Unit)=>k [] false)) (λa=>k a.2 true) (λ_=>k [] false) (d,[]) (by unfold LIM;omega) ⟨h,Qq _⟩ (λi a p g b e=>jpQ i a p g b e) (λi a rec g b=>by
  show j2z _ _ _ _ _ _ _ _=_
  unfold j2z jaK;dsimp only;have f:=w _ (List.getElem_mem g);have q:=b.2;rw[ZaP g,cond_true,j00 g,cond_true,Zax _ _ _ g,jkB _ f,ju8 _ b.1,j01 (n:=(i:Int)+1) (by omega),ZaK (by unfold LIM;omega)]
  cases m:stB l[i]
  ·rw[jmw _ b.1 _ f m];rfl
  ·rw[jny _ b.1 _ f m];cases (j1o a.1 l[i]).2 != 0
   ·rfl
   ·rfl) (λa rec b=>by
  show j2z _ _ _ _ _ _ _ _=_
  unfold j2z;dsimp only;rw[ZaO,cond_false])).trans ?_
 cases Z1R jaK 0 l (d,[])<;>rfl
theorem jqA (d:DB)(r:msr yDB d<=1048576)(l:List ST)(y:l.length<=1048576)(w:∀s∈l,j12 s)(k:List PT->Bool->Res):j7r d l k=k (j2k d l).1 (j2k d l).2:=by
 unfold j7r j2k;rw[jrr d r];cases h:dbB d
 ·rfl
 rw[Q4,Q0,Q0];unfold j9k;refine(Z3Y l (λi (a:DB×List PT)=>(a.2,i,a.1)) jaK (λi a=>dbB a.1=true/\a.2.length<=i) (step:=j41 l (nI l.length)) ((λ(j:List PT)=>k j true),(λ(_:Unit)=>k [] false)) (λa=>k a.2 true) (λ_=>k [] false) (d,[]) (by unfold LIM;omega) ⟨h,Qq _⟩ (λi a m g f e=>jpQ i a m g f e) (λi a rec g f=>by
  show j2w _ _ _ _ _ _ _ _=_
  unfold j2w jaK;dsimp only;have b:=w _ (List.getElem_mem g);have q:=f.2;rw[ZaP g,cond_true,j00 g,cond_true,Zax _ _ _ g,jkg _ b,jtp _ f.1,ji0 _ b,j01 (n:=(i:Int)+1) (by omega),ZaK (by unfold LIM;omega)]
  cases p:stB l[i]
  ·rfl
  ·rw[Q4,Q0,jno _ f.1 _ b p];cases (j1o a.1 l[i]).2 != 0
   ·rfl
   ·rfl) (λa rec f=>by
  show j2w _ _ _ _ _ _ _ _=_
  unfold j2w;dsimp only;rw[ZaO,cond_false])).trans ?_
 cases Z1R jaK 0 l (d,[])<;>rfl
end Go.PI.G
namespace Go.PI.G
open Go Go.PI Go.Proofs
theorem jpY (l:List RC)(h:l.length<=1048576)(f:∀r∈l,j12 r.2.2)(k:List Int->Res):j3v l k=k (j04 l):=by
 unfold j3v j04;rw[jq2 l h f];cases j3R l
 ·rfl
 unfold jdl;refine Za2 l j2f (λi b=>(b,i)) (step:=j74 l (nI l.length)) (λb=>k b) k (by unfold LIM;omega) jt9 (λb i rec d g=>by
  show j4h _ _ _ _ _ _=_
  unfold j4h j2f;dsimp only;rw[ZaP d,cond_true,j00 d,cond_true,Zax _ _ _ d,j01 (n:=(i:Int)+1) (by omega),ZaK (by unfold LIM;omega),cond_true]
  cases l[i].1==3
  ·show _=rec (b++[],_)
   rw[Qe];rfl
  ·rfl) (λb rec=>by
  show j4h _ _ _ _ _ _=_
  unfold j4h;dsimp only;rw[ZaO,cond_false])
end Go.PI.G
namespace Go.PI.G
open Go Go.PI Go.Proofs
theorem jup (l:List RC)(n:Int):(jeU l n=false/\j2N l n=zDB)\/∃m:Nat,n=(m:Int)/\m<=l.length/\j3R l=true/\jeU l n=true:=by
 cases h:jeU l n
 ·left;unfold j2N;rw[h];exact⟨rfl,rfl⟩
 ·right;unfold jeU at h;rw[Q6,Ql]at h;exact⟨n.toNat,by omega,by omega,h.1,rfl⟩
theorem ju4 (l:List RC)(h:l.length<=1048576)(d:∀r∈l,j12 r.2.2)(n:Int)(k:Bool->Res):ja9 l n k=k (!jeU l n):=by
 unfold ja9 jeU;rw[jq2 l h d];cases j3R l
 ·rfl
 rw[Q4,Q0,Qd];by_cases b:n<0
 ·rw[Q3 b,Q2 (show ¬ (0<=n/\n<=(l.length:Int)) by omega)];rfl
 ·rw[Q2 b,Q0];by_cases f:n<=(l.length:Int)
  ·rw[Q3 (show 0<=n/\n<=(l.length:Int) by omega),Q2 (show ¬ n>nI l.length by unfold nI;omega)];rfl
  ·rw[Q2 (show ¬ (0<=n/\n<=(l.length:Int)) by omega),Q3 (show n>nI l.length by unfold nI;omega)];rfl
theorem juF (l:List RC)(h:l.length<=1048576)(g:∀r∈l,j12 r.2.2)(n:Int)(k:DB->Bool->Res):jcp l n k=k (j2N l n) (jeU l n):=by
 unfold jcp;rw[ju4 l h g];rcases jup l n with⟨b,i⟩ | ⟨m,rfl,f,d,b⟩
 ·rw[b,i];rfl
 ·have j:=((jhc l).1 d).1;rw[b,Bool.not_true,cond_false,je6 f,cond_true,jgp,jnB _ (j3X h m) (jaN g m),(jjt d f).1];dsimp only;rw[decide_eq_true (by rw[List.length_take];omega)]
end Go.PI.G
namespace Go.PI.G
open Go Go.PI
noncomputable def jvb (l:List RC)(q:Int×Int):BT:=(q.2,q.1,(j2k (jxL (j2d zDB (l.take (q.2-1).toNat))) (j08 (l.take q.2.toNat) (nth zRC l (q.2-1)).2.1)).1)
noncomputable def j9P (l:List RC)(i:Nat)(a:DB×List BT×Int)(r:RC):Except (List BT×Int) (DB×List BT×Int):=
 match j2O (l.take i) a.1 r with
 |.ok d=> .ok (d,bif r.1==3 then (a.2.1++[((i:Int)+1,a.2.2,(j2k a.1 (j08 (l.take (i+1)) r.2.1)).1)],(i:Int)+1) else a.2)
 |.error _=> .error a.2
structure BatP (l:List RC)(i:Nat)(a:DB×List BT×Int):Prop where
 db:dbB a.1=true
 len:a.2.1.length<=i
 play:j2d zDB (l.take i)= .ok a.1
 out:a.2.1=(j2l (Z4q j2f 0 (l.take i)) 0).map (jvb l)
 bef:a.2.2=(Z4q j2f 0 (l.take i)).getLastD 0
theorem jpR:(c:List Int)->(b x:Int)->j2l (c++[x]) b=j2l c b++[(c.getLastD b,x)]
 | [],b,x=>rfl
 |y::c,b,x=>by
  show (b,y)::j2l (c++[x]) y=(b,y)::(j2l c y++[((y::c).getLastD b,x)])
  rw[jpR c y x];cases c<;>rfl
theorem jrg (l:List RC):BatP l 0 (zDB,[],0):=by
 refine⟨jgS,Qq _,?_,?_,?_⟩
 ·rw[XX];rfl
 ·rw[XX];rfl
 ·rw[XX];rfl
theorem jrf {l:List RC}{i:Nat}(j:i<l.length){a n:DB×List BT×Int}(h:BatP l i a)(e:j9P l i a l[i]= .ok n):BatP l (i+1) n:=by
 obtain⟨z,p,q,r,w⟩:=h;unfold j9P at e;cases k:j2O (l.take i) a.1 l[i]with
 |error x=>rw[k]at e;cases e
 |ok d=>
  rw[k]at e;have b:Z4q j2f 0 (l.take (i+1))=Z4q j2f 0 (l.take i)++j2f (i:Int) l[i]:=by
   rw[QA j,jhT,Qf,YE (Nat.le_of_lt j),show ((0:Nat):Int)+(i:Int)=(i:Int) by omega]
  have f:j2d zDB (l.take (i+1))= .ok d:=by
   rw[jmj _ _ _ j,q];exact k
  have y:=joC z k;injection e with e;subst e;cases g:l[i].1==3
  ·have m:j2f (i:Int) l[i]=[]:=by unfold j2f;rw[g];rfl
   rw[m,Qe]at b;refine⟨y,?_,f,?_,?_⟩
   ·exact Nat.le_succ_of_le p
   ·rw[b];exact r
   ·rw[b];exact w
  ·have m:j2f (i:Int) l[i]=[(i:Int)+1]:=by unfold j2f;rw[g];rfl
   rw[m]at b;refine⟨y,?_,f,?_,?_⟩
   ·show (a.2.1++[_]).length<=i+1
    rw[Q5];exact Nat.add_le_add p (Qq 1)
   ·rw[b,jpR,QU,<-r,<-w];show a.2.1++[_]=a.2.1++[jvb l (a.2.2,(i:Int)+1)]
    congr 2;unfold jvb;dsimp only;rw[show (i:Int)+1-1=(i:Int) by omega,Int.toNat_natCast,q,Zax _ _ _ j,show ((i:Int)+1).toNat=i+1 by omega]
    rfl
   ·rw[b];show (i:Int)+1=_
    simp
theorem jxS {l:List RC}(h:j3R l=true){a:DB×List BT×Int}(b:BatP l l.length a):a.2.1=(j2l (j04 l) 0).map λq=>jcw l q.1 q.2:=by
 have e:j04 l=Z4q j2f 0 (l.take l.length):=by
  unfold j04;rw[h,Xi];rfl
 rw[b.out,<-e];refine Yd λq k=> ?_
 have g:=jmk _ _ q k;have d:jt8 l q.2=true:=(je9 _ _).2 g;obtain⟨_,i,f,j,_⟩:=(jnT l q.2).1 d;unfold jvb jcw;rw[j,show (i:Int)+1-1=(i:Int) by omega,QS,(jjt h (Nat.le_of_lt f)).1]
 rfl
theorem jt4 {l:List RC}:(i:Nat)->(m:List RC)->(a b:DB×List BT×Int)->Z1R (j9P l) i m a= .ok b->Z1R (λi d r=>j2O (l.take i) d r) i m a.1= .ok b.1
 |_,[],a,b,h=>by
  simp only[Z1R,Except.ok.injEq]at h ⊢;rw[h]
 |i,r::m,a,b,h=>by
  simp only[Z1R]at h ⊢;unfold j9P at h;cases f:j2O (l.take i) a.1 r with
  |error x=>rw[f]at h;cases h
  |ok d=>
   rw[f]at h;exact jt4 (i+1) m _ b h
theorem jt5 {l:List RC}:(i:Nat)->(m:List RC)->(a:DB×List BT×Int)->(e:List BT×Int)->Z1R (j9P l) i m a= .error e->∃x,Z1R (λi d r=>j2O (l.take i) d r) i m a.1= .error x
 |_,[],a,e,h=>by cases h
 |i,r::m,a,e,h=>by
  simp only[Z1R]at h ⊢;unfold j9P at h;cases b:j2O (l.take i) a.1 r with
  |error x=>exact⟨x,rfl⟩
  |ok d=>
   rw[b]at h;exact jt5 (i+1) m _ e h
theorem jte {α β:Type}(c:α->Bool)(f:α->β):(j:Nat)->(l:List α)->Z4q (λ_ x=>bif c x then [f x] else []) j l=(l.filter c).map f
 |_,[]=>rfl
 |j,x::l=>by
  show (bif c x then [f x] else [])++Z4q _ (j+1) l=_
  rw[jte c f (j+1) l];cases h:c x
  ·rw[Xr (by rw[h];simp)];rfl
  ·rw[Xs h];rfl
def jnS (c:List Int)(p:Int):Int:=c.foldl (jfn p) 0
theorem jw0 (l:List RC)(b:Int):j0V l b=((j04 l).filter λp=>decide (p>b)).map λp=>jcw l (jnS (j04 l) p) p:=by
 unfold j0V;have d:((j2l (j04 l) 0).filter λq=>decide (q.2>b)).map (λq=>jcw l q.1 q.2)=((j2l (j04 l) 0).filter λq=>decide (q.2>b)).map (λq=>jcw l (jnS (j04 l) q.2) q.2):=
  Yd λq g=>by
   have:=jrA (j04 l) 0 (jvi l).2 q (List.mem_filter.1 g).1;unfold jnS;rw[this]
 rw[d];have f:(j04 l).filter (λp=>decide (p>b))=((j2l (j04 l) 0).filter λq=>decide (q.2>b)).map Prod.snd:=by
  conv=>lhs;rw[<-ji9 (j04 l) 0]
  rw[List.filter_map];rfl
 rw[f,Yq];rfl
def jt3 (p:Int)(a:Bool×BT)(x:Int):Bool×BT:=(bif x==p then true else a.1,bif decide (x<p) then (a.2.1,x,a.2.2.2) else a.2)
theorem jrh (p:Int):(c:List Int)->(b:Bool)->(q:Int)->c.foldl (jt3 p) (b,p,q,[])=(b||j1u c p,p,c.foldl (jfn p) q,[])
 | [],b,q=>by simp[j1u]
 |x::c,b,q=>by
  rw[QY,QY];have e:jt3 p (b,p,q,[]) x=(b||(x==p),p,jfn p q x,[]):=by
   unfold jt3 jfn;cases x==p<;>cases decide (x<p)<;>cases b<;>rfl
  rw[e,jrh p c _ _];unfold j1u;rw[List.any_cons,Bool.or_assoc]
end Go.PI.G
namespace Go.PI.G
open Go Go.PI Go.Proofs
theorem juC (c:List Int)(h:c.length<=1048576)(p:Int)(K:Bool->BT->Res):j9A p c (nI c.length) Z1b false 0 (p,0,[]) K=K (j1u c p) (p,jnS c p,[]):=by
 unfold j9A;refine(Z8h c (λi (a:Bool×BT)=>(a.1,i,a.2)) (jt3 p) (λ_ _=>True) (step:=j73 p c (nI c.length)) K (λa=>K a.1 a.2) (false,p,0,[]) (by unfold LIM;omega) trivial (λ_ _ _ _=>trivial) (λj a rec b _=>by
  show j4f _ _ _ _ _ _ _ _=_
  unfold j4f jt3;dsimp only;rw[ZaP b,cond_true,j00 b,cond_true,Zax _ _ _ b,j01 (n:=(j:Int)+1) (by omega)]
  cases decide (c[j]<p)<;>cases c[j]==p<;>rfl) (λa rec _=>by
  show j4f _ _ _ _ _ _ _ _=_
  unfold j4f;dsimp only;rw[ZaO,cond_false])).trans ?_
 rw[jrh];rfl
theorem jr7 (l:List RC)(h:l.length<=1048576)(b:∀r∈l,j12 r.2.2)(p:Int)(w:p∈j04 l)(k:BT->Bool->Res):ja8 l p k=k (jcw l (jnS (j04 l) p) p) true:=by
 have n:=jgR l;have g:jt8 l p=true:=(je9 _ _).2 w;obtain⟨m,i,j,e,E⟩:=(jnT l p).1 g;have f:=((jhc l).1 m).1;have d:p=((i+1:Nat):Int):=by omega
 have y:Z8d 0 p l.length=true:=by rw[d];exact je6 (by omega)
 have z:Z9J (p-1)=p-1:=j01 (by omega)
 have A:inb (p-1) l.length=true:=by rw[show p-1=(i:Int) by omega];exact j00 j
 have B:sub l 0 p=l.take p.toNat:=by rw[d,jgp,QS]
 have C:dbB (j2N l (p-1))=true:=by
  rw[show p-1=(i:Int) by omega]
  exact(jjt m (Nat.le_of_lt j)).2
 have F:=jaM (l.take p.toNat) (nth zRC l (p-1)).2.1;have q:=j3X h p.toNat;have D:j1u (j04 l) p=true:=g;unfold ja8;rw[jpY l h b,juC _ (by omega),D,Q4,Q0,z,juF l h b,y,Q1,A,Q1,B,jjP _ _ q (jaN b _),jra _ (jgT C) _ (Qx (jaM _ _) q) (jq5 (jaN b _) _),Z9P]
 rfl
theorem jsB (l:List RC)(h:l.length<=1048576)(j:∀r∈l,j12 r.2.2)(f:Int)(k:List BT->Res):j98 l f k=k (j0V l f):=by
 have g:=jgR l;unfold j98;rw[jpY l h j];unfold jeE;have:=Za2 (j04 l) (λ_ p=>bif decide (p>f) then [jcw l (jnS (j04 l) p) p] else []) (λi b=>(b,i)) (step:=j8z l f (j04 l) (nI (j04 l).length)) (λb=>k b) (λb=>k b) (by unfold LIM;omega) (λi x=>jqt _ _) (λb i rec d m=>by
  show j5u _ _ _ _ _ _ _ _=_
  unfold j5u;dsimp only;rw[ZaP d,cond_true,j00 d,cond_true,Zax _ _ _ d,jr7 l h j _ (List.getElem_mem d),j01 (n:=(i:Int)+1) (by omega),ZaK (by unfold LIM;omega),cond_true]
  cases decide ((j04 l)[i]>f)
  ·show _=rec (b++[],_)
   rw[Qe];rfl
  ·rfl) (λb rec=>by
  show j5u _ _ _ _ _ _ _ _=_
  unfold j5u;dsimp only;rw[ZaO,cond_false])
 refine this.trans ?_;rw[jte (λp=>decide (p>f)) (λp=>jcw l (jnS (j04 l) p) p),<-jw0]
end Go.PI.G
namespace Go.PI.G
open Go Go.PI Go.Proofs
theorem juO {l:List RC}:(m:List RC)->(i:Nat)->(a b:DB×List BT×Int)->i<=l.length->l.drop i=m->BatP l i a->Z1R (j9P l) i m a= .ok b->BatP l l.length b
 | [],i,a,b,q,f,j,h=>by
  simp only[Z1R,Except.ok.injEq]at h;subst h;have:l.length<=i:=List.drop_eq_nil_iff.1 f;rw[show l.length=i by omega]
  exact j
 |r::m,i,a,b,q,f,j,h=>by
  have d:i<l.length:=by
   have g:=Xv List.length f;rw[Qu,Q8]at g;omega
  rw[QJ d]at f;injection f with g p;subst g;simp only[Z1R]at h;cases k:j9P l i a l[i]with
  |error x=>rw[k]at h;cases h
  |ok n=>
   rw[k]at h;exact juO m (i+1) n b d p (jrf d j k) h
theorem juP {l:List RC}:(m:List RC)->(i:Nat)->(a:DB×List BT×Int)->(e:List BT×Int)->a.2.1.length<=i->Z1R (j9P l) i m a= .error e->e.1.length<=i+m.length
 | [],i,a,e,g,h=>by cases h
 |r::m,i,a,e,g,h=>by
  simp only[Z1R]at h;cases b:j9P l i a r with
  |error x=>
   rw[b]at h;unfold j9P at b;cases f:j2O (l.take i) a.1 r with
   |error y=>
    rw[f]at b;injection b with b;injection h with h;rw[<-h,<-b];omega
   |ok d=>rw[f]at b;cases b
  |ok j=>
   rw[b]at h;have k:j.2.1.length<=i+1:=by
    unfold j9P at b;cases f:j2O (l.take i) a.1 r with
    |error y=>rw[f]at b;cases b
    |ok d=>
     rw[f]at b;injection b with b;subst b;cases r.1==3
     ·exact Nat.le_succ_of_le g
     ·show (a.2.1++[_]).length<=i+1
      rw[Q5];exact Nat.add_le_add g (Qq 1)
   have:=juP m (i+1) j e k h;rw[Q8];omega
noncomputable def jvc (l:List RC)(i:Int)(a:DB×List BT×Int):List Int×List Int×Int×DB×List RC×List BT×Int×Int:=(j0q (l.take i.toNat),j9I (l.take i.toNat),i,a.1,l,a.2.1,0,a.2.2)
theorem jvd (l:List RC)(i:Nat)(b:i<l.length)(a:DB×List BT×Int):jvc l ((i:Int)+1) a=(j8q (j0q (l.take i)) l[i],(bif l[i].1==1 then j9I (l.take i)++[l[i].2.1] else j9I (l.take i)),(i:Int)+1,a.1,l,a.2.1,0,a.2.2):=by
 unfold jvc;rw[show ((i:Int)+1).toNat=i+1 by omega,QA b,jcW,jvM]
theorem jts (l:List RC)(h:l.length<=1048576)(b:∀r∈l,j12 r.2.2)(i:Nat)(g:i<=l.length)(d:DB)(f:dbB d=true)(r:RC)(k:Int->DB->Res) :
  j4M l (i:Int) d r k=k (j0u d (j08 (l.take i) r.2.1)).2.1 (j0u d (j08 (l.take i) r.2.1)).1:=by
 unfold j4M;rw[je6 g,Q1];simp only[Z9P];rw[jgp,jjy _ _ (j3X h i) (jaN b i),jqz d (jgT f) _ (Qx (jaM _ _) (j3X h i)) (jq5 (jaN b i) _)]
theorem jwa (l:List RC)(h:l.length<=1048576)(j:∀r∈l,j12 r.2.2)(i:Nat)(g:i<l.length)(d:DB)(p:dbB d=true)(f:List BT)(y:f.length<=i)(b:Int)(k:List RC->List BT->Int->Int->Res) :
  j63 ((i:Int)+1) d l f 0 b k=k l (f++[((i:Int)+1,b,(j2k d (j08 (l.take (i+1)) l[i].2.1)).1)]) 0 ((i:Int)+1):=by
 have z:=jaM (l.take (i+1)) l[i].2.1;have m:=j3X h (i+1);have e:(i:Int)+1=((i+1:Nat):Int):=by omega
 have q:Z8d 0 ((i:Int)+1) l.length=true:=by rw[e];exact je6 g
 have w:sub l 0 ((i:Int)+1)=l.take (i+1):=by rw[e,jgp]
 unfold j63;rw[q,Q1,show (i:Int)+1-1=(i:Int) by omega,j01 (n:=(i:Int)) (by omega),j00 g,Q1,Zax _ _ _ g,w,jjy _ _ m (jaN j _),jqA _ (jgT p) _ (Qx (jaM _ _) m) (jq5 (jaN j _) _),ZaK (by unfold LIM;omega),Q1,show (0:Int)+((i:Int)+1)=(i:Int)+1 by omega,j01 (n:=(i:Int)+1) (by omega)]
theorem jtu (l:List RC)(h:l.length<=1048576)(F:∀r∈l,j12 r.2.2)(k:DB->Bool->List RC->List BT->Int->Int->Res) :
  jeX zDB l l [] 0 0 k=match Z1R (j9P l) 0 l (zDB,[],0)with | .ok a=>k a.1 true l a.2.1 0 a.2.2 | .error e=>k ([],[]) false l e.1 0 e.2:=by
 unfold jeX jei jjz;refine(Z3Y l (jvc l) (j9P l) (BatP l) (step:=j8n l l (nI l.length)) ((λ(y:DB) (e:List RC) (f:List BT) (z:Int) (A:Int)=>k y true e f z A),(λ(B:List RC) (C:List BT) (D:Int) (b:Int)=>k ([],[]) false B C D b)) (λa=>k a.1 true l a.2.1 0 a.2.2) (λe=>k ([],[]) false l e.1 0 e.2) (zDB,[],0) (by unfold LIM;omega) (jrg l) (λi a L q w e=>jrf q w e) (λi a rec q w=>by
  show j32 l l (nI l.length) (j0q (l.take (i:Int).toNat)) (j9I (l.take (i:Int).toNat)) (i:Int) a.1 l a.2.1 0 a.2.2 (λo u j d E g m p=>rec (o,u,j,d,E,g,m,p)) (λy e f z A=>k y true e f z A) (λB C D b=>k ([],[]) false B C D b)=_
  have G:=F _ (Q7 q);have H:(j0q (l.take i)).length<=1048576:=Qx (jrx _) (j3X h i);have J:(j9I (l.take i)).length<=1048576:=Qx (jwF _) (j3X h i);unfold j32 j7y j9P j2O;simp only[jvd l i q];rw[QS,ZaP q,Q1,j00 q,Q1,Zax _ _ _ q,jvq _ G,jnp _ _ J,jnp _ _ H,jwE,j01 (n:=(i:Int)+1) (by omega),ZaK (by unfold LIM;omega),ZaK (by unfold LIM;omega),Q1,Q1]
  simp only[jts l h F i (by omega) a.1 w.db,jxZ _ _ H,jwa l h F i q a.1 w.db a.2.1 w.len]
  generalize l[i]=r;cases I:jd0 r
  ·rfl
  rw[Q4,Q0,Q0];cases g:r.1==1
  ·rw[Q0,Q0];cases j1u (j0q (l.take i)) r.2.1
   ·rfl
   rw[Q4,Q0,Q0];unfold j8q;rw[g,Q0];cases p:r.1==3
   ·rw[Q0,Q0,XY];unfold bne;cases m:r.1==2
    ·have T:=(jpS I).1;have f:(r.1==4)=true:=by
      rw[QG];have M:r.1≠1:=by simpa using g
      have P:r.1≠2:=by simpa using m
      have Q:r.1≠3:=by simpa using p
      omega
     rw[f];rfl
    ·have f:(r.1==4)=false:=by
      have:r.1=2:=by simpa using m
      rw[this];rfl
     rw[f];rfl
   ·have m:(r.1 != 2)=true:=by
     have:r.1=3:=by simpa using p
     rw[this];rfl
    rw[Q1,Q1,Bool.true_or];cases R:(j0u a.1 (j08 (l.take i) r.2.1)).2.1 != 0
    ·rw[Q0,Q0,m];rfl
    ·rfl
  ·rw[Q1,Q1];cases K:j3N (l.take i) r.2.1
   ·have p:(r.1==3)=false:=by
     have:r.1=1:=by simpa using g
     rw[this];rfl
    unfold j8q;rw[g,p,Q1,Q1,jpD K];rfl
   ·rfl) (λa rec w=>by
  show j32 l l (nI l.length) (j0q (l.take ((l.length:Nat):Int).toNat)) (j9I (l.take ((l.length:Nat):Int).toNat)) (l.length:Int) a.1 l a.2.1 0 a.2.2 (λo u j d E g m p=>rec (o,u,j,d,E,g,m,p)) (λy e f z A=>k y true e f z A) (λB C D b=>k ([],[]) false B C D b)=_
  unfold j32;rw[ZaO,Q0])).trans ?_
 cases Z1R (j9P l) 0 l (zDB,[],0)<;>rfl
theorem jnk {l:List RC}(h:j3R l=false)(f:Int):j0V l f=[]:=by
 have:j04 l=[]:=by unfold j04;rw[h];rfl
 unfold j0V;rw[this];rfl
theorem jvj (l:List RC)(f:Int):((j2l (j04 l) 0).map λq=>jcw l q.1 q.2).filter (λx=>decide (x.1>f))=j0V l f:=by
 unfold j0V;rw[List.filter_map];rfl
theorem jt0 {α β:Type}:(j:Nat)->(l:List α)->Z4q (λ_ _=>([]:List β)) j l=[]
 |_,[]=>rfl
 |j,x::l=>jt0 (j+1) l
theorem jnn (f:Int)(b:List BT)(ok:Bool)(h:b.length<=1048576)(k:List BT->Res):j7q f b ok (nI b.length) Z1b [] 0 k=k (bif ok then b.filter (λx=>decide (x.1>f)) else []):=by
 unfold j7q;have:=Za2 b (λ_ x=>bif ok then (bif decide (x.1>f) then [x] else []) else []) (λi d=>(d,i)) (step:=j8j f b ok (nI b.length)) k (λd=>k d) (by unfold LIM;omega) (λi x=>by
  cases ok
  ·exact Qg _
  ·exact jqt _ _) (λd i rec g j=>by
  show j50 _ _ _ _ _ _ _ _=_
  unfold j50;dsimp only;rw[ZaP g,cond_true,j00 g,cond_true,Zax _ _ _ g,j01 (n:=(i:Int)+1) (by omega),ZaK (by unfold LIM;omega),cond_true]
  cases ok
  ·show _=rec (d++[],_)
   rw[Qe];rfl
  cases decide (b[i].1>f)
  ·show _=rec (d++[],_)
   rw[Qe];rfl
  ·rfl) (λd rec=>by
  show j50 _ _ _ _ _ _ _ _=_
  unfold j50;dsimp only;rw[ZaO,cond_false])
 refine this.trans ?_;cases ok
 ·exact Xv k (jt0 0 b)
 ·exact Xv k (jiK (λx:BT=>decide (x.1>f)) 0 b)
theorem jsb (l:List RC)(h:l.length<=1048576)(p:∀r∈l,j12 r.2.2)(f:Int)(k:List BT->Res):j90 l f k=k (j0V l f):=by
 unfold j90;rw[jxM];cases b:decide (l.length<=400)
 ·rw[jnk (by unfold j3R;rw[b];rfl)]
  rfl
 have d:l.length<=400:=QT b;unfold jcE;rw[Q4,Q0,jtu l h p];cases j:Z1R (j9P l) 0 l (zDB,[],0)with
 |error e=>
  dsimp only;have g:=juP l 0 (zDB,[],0) e (Nat.le_refl _) j;obtain⟨x,i⟩:=jt5 0 l (zDB,[],0) e j;have i:j2d zDB l= .error x:=i;rw[jnn _ _ _ (by omega),jnk (by unfold j3R;rw[b,i];rfl)]
  rfl
 |ok a=>
  dsimp only;have m:=juO l 0 (zDB,[],0) a (Nat.zero_le _) rfl (jrg l) j;have i:j2d zDB l= .ok a.1:=jt4 0 l (zDB,[],0) a j;have n:j3R l=true:=(jhc l).2 ⟨d,a.1,i⟩;have g:=m.len;rw[jnn _ _ _ (by omega),jxS n m,cond_true,jvj]
end Go.PI.G
namespace Go.PI.G
open Go Go.PI Go.Proofs
theorem jl9 (k:ByteArray->Res):∀(m n d:Nat) (s:ByteArray),n<m->0<n->n<=4294967296->n<10 ^ (d+1)->s.size+d<=1000 ->
  Z1e j6u m ((n:Int),s) k=k (jkc n++s)
 | 0,n,d,s,h,_,_,_,_=>by omega
 |m+1,n,d,s,h,q,p,i,r=>by
  rw[Z9X];show j3o _ _ _ _=_
  unfold j3o;have l:decide ((n:Int)>0)=true:=Q3 (by omega)
  rw[l,Q1,jxB,jxC,ZaG (n:=((n / 10:Nat):Int)) (by omega) (by omega)]
  show (bif lim ((dgt ((n % 10:Nat):Int)).size+s.size) then Z1e j6u m (((n / 10:Nat):Int),dgt ((n % 10:Nat):Int)++s) k else none)=_
  rw[jgU,ZaK (by unfold LIM;omega),Q1]
  by_cases b:n<10
  ·have f:n / 10=0:=by omega
   have g:n % 10=n:=by omega
   rw[f,g,jqv b];obtain⟨m,rfl⟩:∃e,m=e+1:=⟨m-1,by omega⟩
   rw[Z9X];show j3o _ _ _ _=_
   unfold j3o;have j:decide (((0:Nat):Int)>0)=false:=Q2 (by omega)
   rw[j,Q0]
  ·obtain⟨d,rfl⟩:∃e,d=e+1:=by
    cases d with
    |zero=>exact absurd (by simpa using i) b
    |succ d=>exact⟨d,rfl⟩
   rw[jl9 k m (n / 10) d _ (by omega) (by omega) (by omega) (Nat.div_lt_of_lt_mul (by rw[Nat.pow_succ]at i;omega)) (by rw[Qi,jgU];omega),juT b,X1]
theorem j1F (k:Int)(h:1<=k/\k<=4294967296)(K:ByteArray->Res):j05 k K=K (mT k):=by
 unfold j05 jh7;have d:decide (k<=0)=false:=Q2 (by omega)
 have:=jl9 (λ(b:ByteArray)=>bif lim (1+(ByteArray.size b)) then K (z_m++b) else none) Z1b k.toNat 12 eS (Z2a (by omega)) (by omega) (by omega) (by omega) (by show 0+12<=1000;omega)
 rw[show ((k.toNat:Nat):Int)=k by omega,jye]at this
 rw[d,Q0];refine this.trans ?_;have f:=jrm 12 k.toNat (by omega)
 rw[ZaK (by unfold LIM;omega),Q1]
 rfl
end Go.PI.G
set_option maxRecDepth 10000
namespace Go.PI.G
open Go Go.PI Go.Proofs
theorem jmE (a:(List ByteArray))(h:msr y8 a<=1048576)(k:(List ByteArray)->Res):j4O a k=k a:=by
 have g:a.length<=1048576:=j0f h;unfold j4O;rw[Zau (by unfold LIM;omega),Q1]
 have:=ZaB (eS) a id (step:=j9e a) (λb=>k b) (by unfold LIM;omega) (λb i rec d f=>by
  show j2U a _ _ _ _=_
  unfold j2U;dsimp only;simp only[ZaP d,cond_true,j00 d,j00 (show i<b.length by omega),Zax _ _ _ d,ZaE,j01 (n:=(i:Int)+1) (by omega)]
  rfl) (λb rec=>by
  show j2U a _ _ _ _=_
  unfold j2U;dsimp only;rw[ZaO,cond_false])
 rw[List.map_id]at this;exact this
theorem jmD (a:(List ByteArray))(left:Int)(j:0<=left)(l:left<=1048576)(p:Wf y8 a)(k:Int->Res):j4N a left k=k (szR left (msr y8 a)):=by
 have m:a.length<=maxLen:=p.1;have r:msr y8 a=a.length+(a.map (msr .str)).sum:=rfl;rw[r];unfold j4N;refine jq8 (F:=λq=>jaY a Z1b q 0 (λd=>k d) (λ_=>k (-1))) (k:=k) j l m λb=> ?_
 unfold jaY;rw[ZaA (msr .str) a _ (by omega) (λleft i rec f j l=> ?_) (λleft rec=> ?_) _ (by omega) (by omega)]
 ·by_cases b:(((a.map (msr .str)).sum:Nat):Int)<=left-a.length
  ·rw[QM b,Zaz b]
  ·rw[QN b,Zay b]
 ·show j2T a _ _ _ _ _=_
  have h:=p.2 _ (Q7 f);unfold j2T;have h:a[i].size<=maxLen:=h;unfold maxLen at h m;rw[ZaP f,Q1,j00 f,Q1,Zax _ _ _ f,j01 (n:=left-nI a[i].size) (by unfold nI;omega),j01 (n:=(i:Int)+1) (by omega)]
  unfold nI;by_cases b:((msr .str a[i]:Nat):Int)<=left
  ·have g:(a[i].size:Int)<=left:=b;rw[QM b,Za3 (by omega),Q0];rfl
  ·have g:¬ (a[i].size:Int)<=left:=b;rw[QN b,Za4 (by omega),Q1]
 ·show j2T a _ _ _ _ _=_
  unfold j2T;rw[ZaO,Q0]
theorem jcy (a:(List ByteArray))(h:msr y8 a<=1048576)(k:Bool->Res):j1r a a k=k true:=by
 have d:a.length<=1048576:=j0f h;unfold j1r;rw[ZaN,Q0];unfold jfT;rw[Zaq a _ (by unfold LIM;omega) (λi rec b=> ?_) (λrec=> ?_)]
 ·show j2S a a _ _ _ _=_
  unfold j2S;simp only[ZaP b,Q1,j00 b,Zax _ _ _ b,j01 (n:=(i:Int)+1) (by omega),ZaN,Zah,Q0,Q4]
 ·show j2S a a _ _ _ _=_
  unfold j2S;rw[ZaO,Q0]
theorem jem (a:(List ByteArray))(k:Int)(h:msr y8 a<=1048576)(w:1<=k)(m:k+(wgt y8 a:Int)<=4294967296)(K:Int->(List ByteArray)->Res):j0P a k K=K (k+(wgt y8 a:Int)) (mkL (wgt .str) (mk .str) a k):=by
 have y:a.length<=1048576:=j0f h;have f:wgt y8 a=(a.map (wgt .str)).sum:=rfl;rw[f]at m ⊢;unfold j0P jdR;have:=Z9Y (wgt .str) (mk .str) a k (λl k i=>(l,k,i)) (step:=j7A) (λl k=>K k l) (λl k=>K k l) (by unfold LIM;omega) (λl i rec g b n d=>by
  have q:=Z7A (wgt .str) a i g;have r:=Z9K (wgt .str) a (i+1);generalize A:k+((((a.take i).map (wgt .str)).sum:Nat):Int)=κ;have p:1<=κ/\κ+(wgt .str a[i]:Int)<=4294967296:=by omega
  have z:(wgt .str a[i]:Int)=1:=by
   have:wgt .str a[i]=1:=by first | rfl | (simp only[wgt];done) | (simp only[wgt];omega)
   first | rfl | omega
  show j1Y _ _ _ _ _=_
  dsimp only;unfold j1Y;rw[<-b]at g;have j:i<a.length:=by omega
  simp (disch:=first | assumption | omega) only [show nI a.length=nI l.length by rw[b],ZaP,j00,jgq,Q1,jgo,jgr,Zax,d,j01,j1F,<-b]
  rw[ZaE];congr 3<;>first | rfl | omega | (simp only[j20,j1c,j3q,j6v,j1Z,j3r,j1e,j28,j1d,j29,Int.natCast_add,Int.natCast_one,<-Int.add_assoc];done) | (simp only[j20,j1c,j3q,j6v,j1Z,j3r,j1e,j28,j1d,j29,Int.natCast_add,Int.natCast_one,<-Int.add_assoc];rfl) | skip) (λl k rec b=>by
  show j1Y _ _ _ _ _=_
  dsimp only;unfold j1Y;rw[<-b,ZaO,cond_false])
 exact this
theorem jqx (a:(List ByteArray))(k:Int)(h:msr y8 a<=1048576)(y:1<=k)(p:k+(wgt y8 a:Int)<=4294967296)(K:Int->Res):j1P (mkL (wgt .str) (mk .str) a k) k K=K (k+(wgt y8 a:Int)):=by
 have z:a.length<=1048576:=j0f h;have f:wgt y8 a=(a.map (wgt .str)).sum:=rfl;rw[f]at p ⊢;have d:=Z6r (wgt .str) (mk .str) a k;have j:=Zat (wgt .str) (mk .str) a k;generalize mkL (wgt .str) (mk .str) a k=l at d j;unfold j1P jdQ;have:=Z9V (wgt .str) a k (λk i=>(k,i)) (step:=j7z l) ((λ(g:Int)=>K g),(λ(_:Unit)=>K (-1))) (λk=>K k) (by unfold LIM;omega) (λi rec m=>by
  have r:=Z7A (wgt .str) a i m;have w:=Z9K (wgt .str) a (i+1);have b:=j i m (by omega)
  generalize B:k+((((a.take i).map (wgt .str)).sum:Nat):Int)=κ at b;have q:1<=κ/\κ+(wgt .str a[i]:Int)<=4294967296:=by omega
  have A:(wgt .str a[i]:Int)=1:=by
   have:wgt .str a[i]=1:=by first | rfl | (simp only[wgt];done) | (simp only[wgt];omega)
   first | rfl | omega
  show j1V _ _ _ _ _ _=_
  dsimp only;unfold j1V;have n:i<l.length:=by omega
  simp (disch:=first | assumption | omega) only [ZaP,j00,Q1,Q0,Zax,b,j20,j1c,j3q,j6v,j1Z,j3r,j1e,j28,j1d,j29,Int.natCast_add,Int.natCast_one,<-Int.add_assoc,j01,j1F,ZaN,Zah,Xe,Q4,Za3]
  all_goals (congr 2;omega)) (λk rec=>by
  show j1V _ _ _ _ _ _=_
  dsimp only;unfold j1V;rw[<-d,ZaO,cond_false])
 exact this
end Go.PI.G
namespace Go.PI.G
open Go Go.PI Go.Proofs
theorem jkD (a:List ByteArray)(h:msr y8 a<=1048576)(k:(List ByteArray)->Res):j4B a k=k a:=by
 have b:msr y8 a<=1048576:=h;unfold j4B;simp only[jmE _ b]
theorem jxw (a:List ByteArray)(left:Int)(g:0<=left)(h:left<=1048576)(f:Wf y8 a)(k:Int->Res):jcR a left k=k (szR left (msr y8 a)):=by
 have d:msr y8 a=msr y8 a+0:=rfl;rw[d];unfold jcR;rw[jmD _ _ (by omega) (by omega) f]
 by_cases b:((msr y8 a:Nat):Int)<=left;rotate_left
 ·rw[Zay b,Zak b,Za4 (by omega),Q1]
 rw[Zaz b,Zaj b,Za3 (by omega),Q0]
 exact jhu (by omega)
theorem jwX (a:List ByteArray)(h:msr y8 a<=1048576)(k:Bool->Res):jcO a a k=k true:=by
 have b:msr y8 a<=1048576:=h;unfold jcO;simp only[ZaN,Zah,Xe,Q0,Q4,jcy _ b]
theorem jvu (a:List ByteArray)(k:Int)(h:msr y8 a<=1048576)(d:1<=k)(g:k+(jba y8 a:Int)<=4294967296)(K:Int->(List ByteArray)->Res):j9Y a k K=K (k+(jba y8 a:Int)) (mkT y8 a k):=by
 have d:msr y8 a<=1048576:=h;have f:msr y8 a<=1048576:=h;have b:jba y8 a=wgt y8 a:=rfl;have i:jba y8 a=wgt y8 a:=by first | rfl | (simp only[jrP,b,jkG,jio,jkH,Xu,XK];done) | (simp only[jrP,b,jkG,jio,jkH,Xu,XK];omega)
 unfold j9Y;simp (disch:=first | assumption | omega) only [jem]
 first | rfl | (simp only[jru,jv3,jtF,jv4,b,jkG,jio,jkH,Int.natCast_add,Int.natCast_zero,Int.cast_ofNat_Int,Xu,XK,Int.add_zero,<-Int.add_assoc];done) | (simp only[jru,jv3,jtF,jv4,b,jkG,jio,jkH,Int.natCast_add,Int.natCast_zero,Int.cast_ofNat_Int,Xu,XK,Int.add_zero,<-Int.add_assoc];rfl)
end Go.PI.G
namespace Go.PI.G
open Go Go.PI Go.Proofs
theorem jug (a:Int×Int×ByteArray)(h:msr y1 a<=1048576)(k:qV->Res):jcV a k=k a:=by
 unfold jcV;rfl
theorem jue (a:Int×Int×ByteArray)(left:Int)(h:0<=left)(i:left<=1048576)(g:Wf y1 a)(k:Int->Res):jcT a left k=k (szR left (msr y1 a)):=by
 have f:msr y1 a=ByteArray.size a.2.2+0:=by simp only[msr]<;>omega
 rw[f];unfold jcT;have d:ByteArray.size a.2.2<=maxLen:=g.2.2;unfold maxLen at d;rw[j01 (by unfold nI;omega)]
 by_cases b:((ByteArray.size a.2.2:Nat):Int)<=left;rotate_left
 ·rw[Zak b,Za4 (by unfold nI;omega),Q1]
 rw[Za3 (by unfold nI;omega),Q0,Zaj b,show left-nI (ByteArray.size a.2.2)=left-((ByteArray.size a.2.2:Nat):Int) from rfl]
 exact jhu (by omega)
theorem jtd (a:Int×Int×ByteArray)(h:msr y1 a<=1048576)(k:Bool->Res):jcQ a a k=k true:=by
 unfold jcQ;simp only[ZaN,Zah,Xe,Q0,Q4]
end Go.PI.G
namespace Go.PI.G
open Go Go.PI Go.Proofs
theorem jxD (a:ByteArray×Int×Bool×Bool×Int×Int×ByteArray)(h:msr y6 a<=1048576)(k:qC->Res):jgd a k=k a:=by
 have b:msr y1 a.2.2.2.2<=1048576:=(Qx (@j02 .bool y1 a.2.2.2) (Qx (@j02 .bool y3 a.2.2) (Qx (@j02 (.int .i64) y4 a.2) (Qx (@j02 .str y5 a) h))));unfold jgd;simp only[jug _ b]
theorem jxu (a:ByteArray×Int×Bool×Bool×Int×Int×ByteArray)(left:Int)(i:0<=left)(j:left<=1048576)(g:Wf y6 a)(k:Int->Res):jgb a left k=k (szR left (msr y6 a)):=by
 have h:msr y6 a=ByteArray.size a.1+(msr y1 a.2.2.2.2+0):=by simp only[msr]<;>omega
 rw[h];unfold jgb;have f:ByteArray.size a.1<=maxLen:=g.1;unfold maxLen at f;rw[j01 (by unfold nI;omega)]
 by_cases d:((ByteArray.size a.1:Nat):Int)<=left;rotate_left
 ·rw[Zak d,Za4 (by unfold nI;omega),Q1]
 rw[Za3 (by unfold nI;omega),Q0,Zaj d,show left-nI (ByteArray.size a.1)=left-((ByteArray.size a.1:Nat):Int) from rfl]
 rw[jue _ _ (by omega) (by omega) g.2.2.2.2]
 by_cases b:((msr y1 a.2.2.2.2:Nat):Int)<=left-(ByteArray.size a.1:Nat);rotate_left
 ·rw[Zay b,Zak b,Za4 (by omega),Q1]
 rw[Zaz b,Zaj b,Za3 (by omega),Q0]
 exact jhu (by omega)
theorem jwV (a:ByteArray×Int×Bool×Bool×Int×Int×ByteArray)(h:msr y6 a<=1048576)(k:Bool->Res):jg9 a a k=k true:=by
 have b:msr y1 a.2.2.2.2<=1048576:=(Qx (@j02 .bool y1 a.2.2.2) (Qx (@j02 .bool y3 a.2.2) (Qx (@j02 (.int .i64) y4 a.2) (Qx (@j02 .str y5 a) h))));unfold jg9;simp only[ZaN,Zah,Xe,Q0,Q4,jtd _ b]
end Go.PI.G
namespace Go.PI.G
open Go Go.PI Go.Proofs
theorem jwB (a:qE)(h:msr y7 a<=1048576)(k:qE->Res):jbp a k=k a:=by
 have g:a.length<=1048576:=j0f h;unfold jbp;rw[Zau (by unfold LIM;omega),Q1]
 have:=ZaB ((eS,0,false,false,0,0,eS)) a id (step:=jbN a) (λb=>k b) (by unfold LIM;omega) (λb i rec d f=>by
  show j5n a _ _ _ _=_
  unfold j5n;dsimp only;simp only[ZaP d,cond_true,j00 d,j00 (show i<b.length by omega),Zax _ _ _ d,ZaE,j01 (n:=(i:Int)+1) (by omega),jxD _ (j0b h (List.getElem_mem d))]
  rfl) (λb rec=>by
  show j5n a _ _ _ _=_
  unfold j5n;dsimp only;rw[ZaO,cond_false])
 rw[List.map_id]at this;exact this
theorem jwy (a:qE)(left:Int)(g:0<=left)(h:left<=1048576)(l:Wf y7 a)(k:Int->Res):jbm a left k=k (szR left (msr y7 a)):=by
 have j:a.length<=maxLen:=l.1;have p:msr y7 a=a.length+(a.map (msr y6)).sum:=rfl;rw[p];unfold jbm;refine jq8 (F:=λq=>jej a Z1b q 0 (λd=>k d) (λ_=>k (-1))) (k:=k) g h j λb=> ?_
 unfold jej;rw[ZaA (msr y6) a _ (by omega) (λleft i rec f g h=> ?_) (λleft rec=> ?_) _ (by omega) (by omega)]
 ·by_cases b:(((a.map (msr y6)).sum:Nat):Int)<=left-a.length
  ·rw[QM b,Zaz b]
  ·rw[QN b,Zay b]
 ·show j5k a _ _ _ _ _=_
  have r:=l.2 _ (Q7 f);unfold j5k;rw[ZaP f,Q1,j00 f,Q1,Zax _ _ _ f,jxu _ _ g h r];have m:(i:Int)<4611686018427387904:=by unfold maxLen at j;omega
  rw[j01 (n:=(i:Int)+1) (by omega)]
  by_cases b:((msr y6 a[i]:Nat):Int)<=left
  ·rw[QM b,Zaz b,Za3 (by omega),Q0]
  ·rw[QN b,Zay b,Za4 (by omega),Q1]
 ·show j5k a _ _ _ _ _=_
  unfold j5k;rw[ZaO,Q0]
theorem jw6 (a:qE)(h:msr y7 a<=1048576)(k:Bool->Res):jbj a a k=k true:=by
 have d:a.length<=1048576:=j0f h;unfold jbj;rw[ZaN,Q0];unfold jjB;rw[Zaq a _ (by unfold LIM;omega) (λi rec b=> ?_) (λrec=> ?_)]
 ·show j57 a a _ _ _ _=_
  unfold j57;simp only[ZaP b,Q1,j00 b,Zax _ _ _ b,j01 (n:=(i:Int)+1) (by omega),ZaN,Zah,Q0,Q4,jwV _ (j0b h (Q7 b))]
 ·show j57 a a _ _ _ _=_
  unfold j57;rw[ZaO,Q0]
theorem jnt (a:qE)(k:Int)(h:msr y7 a<=1048576)(w:1<=k)(m:k+(wgt y7 a:Int)<=4294967296)(K:Int->qE->Res):j65 a k K=K (k+(wgt y7 a:Int)) (mkL (wgt y6) (mk y6) a k):=by
 have y:a.length<=1048576:=j0f h;have f:wgt y7 a=(a.map (wgt y6)).sum:=rfl;rw[f]at m ⊢;unfold j65 jh5;have:=Z9Y (wgt y6) (mk y6) a k (λl k i=>(l,k,i)) (step:=j6s) (λl k=>K k l) (λl k=>K k l) (by unfold LIM;omega) (λl i rec g b n d=>by
  have q:=Z7A (wgt y6) a i g;have r:=Z9K (wgt y6) a (i+1);generalize A:k+((((a.take i).map (wgt y6)).sum:Nat):Int)=κ;have p:1<=κ/\κ+(wgt y6 a[i]:Int)<=4294967296:=by omega
  have z:(wgt y6 a[i]:Int)=1+1+1+1+1+1+1:=by
   have:wgt y6 a[i]=1+1+1+1+1+1+1:=by first | rfl | (simp only[wgt];done) | (simp only[wgt];omega)
   first | rfl | omega
  show j1W _ _ _ _ _=_
  dsimp only;unfold j1W j5a j5b j5c;rw[<-b]at g;have j:i<a.length:=by omega
  simp (disch:=first | assumption | omega) only [show nI a.length=nI l.length by rw[b],ZaP,j00,jgq,Q1,jgo,jgr,Zax,d,j01,j1F,<-b]
  rw[ZaE];congr 3<;>first | rfl | omega | (simp only[j20,j1c,j3q,j6v,j1Z,j3r,j1e,j28,j1d,j29,Int.natCast_add,Int.natCast_one,<-Int.add_assoc];done) | (simp only[j20,j1c,j3q,j6v,j1Z,j3r,j1e,j28,j1d,j29,Int.natCast_add,Int.natCast_one,<-Int.add_assoc];rfl) | skip) (λl k rec b=>by
  show j1W _ _ _ _ _=_
  dsimp only;unfold j1W j5a j5b j5c;rw[<-b,ZaO,cond_false])
 exact this
theorem jus (a:qE)(k:Int)(h:msr y7 a<=1048576)(y:1<=k)(p:k+(wgt y7 a:Int)<=4294967296)(K:Int->Res):j8S (mkL (wgt y6) (mk y6) a k) k K=K (k+(wgt y7 a:Int)):=by
 have z:a.length<=1048576:=j0f h;have f:wgt y7 a=(a.map (wgt y6)).sum:=rfl;rw[f]at p ⊢;have d:=Z6r (wgt y6) (mk y6) a k;have j:=Zat (wgt y6) (mk y6) a k;generalize mkL (wgt y6) (mk y6) a k=l at d j;unfold j8S jh3;have:=Z9V (wgt y6) a k (λk i=>(k,i)) (step:=j6q l) ((λ(g:Int)=>K g),(λ(_:Unit)=>K (-1))) (λk=>K k) (by unfold LIM;omega) (λi rec m=>by
  have r:=Z7A (wgt y6) a i m;have w:=Z9K (wgt y6) a (i+1);have b:=j i m (by omega)
  generalize B:k+((((a.take i).map (wgt y6)).sum:Nat):Int)=κ at b;have q:1<=κ/\κ+(wgt y6 a[i]:Int)<=4294967296:=by omega
  have A:(wgt y6 a[i]:Int)=1+1+1+1+1+1+1:=by
   have:wgt y6 a[i]=1+1+1+1+1+1+1:=by first | rfl | (simp only[wgt];done) | (simp only[wgt];omega)
   first | rfl | omega
  show j1U _ _ _ _ _ _=_
  dsimp only;unfold j1U;have n:i<l.length:=by omega
  simp (disch:=first | assumption | omega) only [ZaP,j00,Q1,Q0,Zax,b,j20,j1c,j3q,j6v,j1Z,j3r,j1e,j28,j1d,j29,Int.natCast_add,Int.natCast_one,<-Int.add_assoc,j01,j1F,ZaN,Zah,Xe,Q4,Za3]
  all_goals (congr 2;omega)) (λk rec=>by
  show j1U _ _ _ _ _ _=_
  dsimp only;unfold j1U;rw[<-d,ZaO,cond_false])
 exact this
end Go.PI.G
namespace Go.PI.G
open Go Go.PI Go.Proofs
theorem jxE (a:Int×ByteArray×qE×List ByteArray×ByteArray×ByteArray)(h:msr y13 a<=1048576)(k:(Int×ByteArray×qE×List ByteArray×ByteArray×ByteArray)->Res):jaA a k=k a:=by
 have b:msr y7 a.2.2.1<=1048576:=(Qx (@j0l y7 y10 a.2.2) (Qx (@j02 .str y11 a.2) (Qx (@j02 (.int .i64) y12 a) h)));have d:msr y8 a.2.2.2.1<=1048576:=(Qx (@j0l y8 y9 a.2.2.2) (Qx (@j02 y7 y10 a.2.2) (Qx (@j02 .str y11 a.2) (Qx (@j02 (.int .i64) y12 a) h))));unfold jaA;simp only[jwB _ b,jmE _ d]
theorem jxv (a:Int×ByteArray×qE×List ByteArray×ByteArray×ByteArray)(left:Int)(p:0<=left)(q:left<=1048576)(i:Wf y13 a)(k:Int->Res):jaz a left k=k (szR left (msr y13 a)):=by
 have n:msr y13 a=ByteArray.size a.2.1+(msr y7 a.2.2.1+(msr y8 a.2.2.2.1+(ByteArray.size a.2.2.2.2.1+(ByteArray.size a.2.2.2.2.2+0)))):=by simp only[msr]<;>omega
 rw[n];unfold jaz;have j:ByteArray.size a.2.1<=maxLen:=i.2.1;unfold maxLen at j;rw[j01 (by unfold nI;omega)]
 by_cases f:((ByteArray.size a.2.1:Nat):Int)<=left;rotate_left
 ·rw[Zak f,Za4 (by unfold nI;omega),Q1]
 rw[Za3 (by unfold nI;omega),Q0,Zaj f,show left-nI (ByteArray.size a.2.1)=left-((ByteArray.size a.2.1:Nat):Int) from rfl]
 rw[jwy _ _ (by omega) (by omega) i.2.2.1]
 by_cases b:((msr y7 a.2.2.1:Nat):Int)<=left-(ByteArray.size a.2.1:Nat);rotate_left
 ·rw[Zay b,Zak b,Za4 (by omega),Q1]
 rw[Zaz b,Zaj b,Za3 (by omega),Q0]
 rw[jmD _ _ (by omega) (by omega) i.2.2.2.1]
 by_cases d:((msr y8 a.2.2.2.1:Nat):Int)<=left-(ByteArray.size a.2.1:Nat)-(msr y7 a.2.2.1:Nat);rotate_left
 ·rw[Zay d,Zak d,Za4 (by omega),Q1]
 rw[Zaz d,Zaj d,Za3 (by omega),Q0]
 have l:ByteArray.size a.2.2.2.2.1<=maxLen:=i.2.2.2.2.1;unfold maxLen at l;rw[j01 (by unfold nI;omega)]
 by_cases g:((ByteArray.size a.2.2.2.2.1:Nat):Int)<=left-(ByteArray.size a.2.1:Nat)-(msr y7 a.2.2.1:Nat)-(msr y8 a.2.2.2.1:Nat);rotate_left
 ·rw[Zak g,Za4 (by unfold nI;omega),Q1]
 rw[Za3 (by unfold nI;omega),Q0,Zaj g,show left-(ByteArray.size a.2.1:Nat)-(msr y7 a.2.2.1:Nat)-(msr y8 a.2.2.2.1:Nat)-nI (ByteArray.size a.2.2.2.2.1)=left-(ByteArray.size a.2.1:Nat)-(msr y7 a.2.2.1:Nat)-(msr y8 a.2.2.2.1:Nat)-((ByteArray.size a.2.2.2.2.1:Nat):Int) from rfl]
 have m:ByteArray.size a.2.2.2.2.2<=maxLen:=i.2.2.2.2.2;unfold maxLen at m;rw[j01 (by unfold nI;omega)]
 by_cases h:((ByteArray.size a.2.2.2.2.2:Nat):Int)<=left-(ByteArray.size a.2.1:Nat)-(msr y7 a.2.2.1:Nat)-(msr y8 a.2.2.2.1:Nat)-(ByteArray.size a.2.2.2.2.1:Nat);rotate_left
 ·rw[Zak h,Za4 (by unfold nI;omega),Q1]
 rw[Za3 (by unfold nI;omega),Q0,Zaj h,show left-(ByteArray.size a.2.1:Nat)-(msr y7 a.2.2.1:Nat)-(msr y8 a.2.2.2.1:Nat)-(ByteArray.size a.2.2.2.2.1:Nat)-nI (ByteArray.size a.2.2.2.2.2)=left-(ByteArray.size a.2.1:Nat)-(msr y7 a.2.2.1:Nat)-(msr y8 a.2.2.2.1:Nat)-(ByteArray.size a.2.2.2.2.1:Nat)-((ByteArray.size a.2.2.2.2.2:Nat):Int) from rfl]
 exact jhu (by omega)
theorem jwW (a:Int×ByteArray×qE×List ByteArray×ByteArray×ByteArray)(h:msr y13 a<=1048576)(k:Bool->Res):jaw a a k=k true:=by
 have b:msr y7 a.2.2.1<=1048576:=(Qx (@j0l y7 y10 a.2.2) (Qx (@j02 .str y11 a.2) (Qx (@j02 (.int .i64) y12 a) h)));have d:msr y8 a.2.2.2.1<=1048576:=(Qx (@j0l y8 y9 a.2.2.2) (Qx (@j02 y7 y10 a.2.2) (Qx (@j02 .str y11 a.2) (Qx (@j02 (.int .i64) y12 a) h))));unfold jaw;simp only[ZaN,Zah,Xe,Q0,Q4,jw6 _ b,jcy _ d]
end Go.PI.G
namespace Go.PI.G
open Go Go.PI Go.Proofs
theorem jrN (a:qW)(h:msr y2 a<=1048576)(k:qW->Res):j96 a k=k a:=by
 have g:a.length<=1048576:=j0f h;unfold j96;rw[Zau (by unfold LIM;omega),Q1]
 have:=ZaB ((0,0,eS)) a id (step:=jbP a) (λb=>k b) (by unfold LIM;omega) (λb i rec d f=>by
  show j5p a _ _ _ _=_
  unfold j5p;dsimp only;simp only[ZaP d,cond_true,j00 d,j00 (show i<b.length by omega),Zax _ _ _ d,ZaE,j01 (n:=(i:Int)+1) (by omega),jug _ (j0b h (List.getElem_mem d))]
  rfl) (λb rec=>by
  show j5p a _ _ _ _=_
  unfold j5p;dsimp only;rw[ZaO,cond_false])
 rw[List.map_id]at this;exact this
theorem jrM (a:qW)(left:Int)(g:0<=left)(h:left<=1048576)(l:Wf y2 a)(k:Int->Res):j95 a left k=k (szR left (msr y2 a)):=by
 have j:a.length<=maxLen:=l.1;have p:msr y2 a=a.length+(a.map (msr y1)).sum:=rfl;rw[p];unfold j95;refine jq8 (F:=λq=>jel a Z1b q 0 (λd=>k d) (λ_=>k (-1))) (k:=k) g h j λb=> ?_
 unfold jel;rw[ZaA (msr y1) a _ (by omega) (λleft i rec f g h=> ?_) (λleft rec=> ?_) _ (by omega) (by omega)]
 ·by_cases b:(((a.map (msr y1)).sum:Nat):Int)<=left-a.length
  ·rw[QM b,Zaz b]
  ·rw[QN b,Zay b]
 ·show j5m a _ _ _ _ _=_
  have r:=l.2 _ (Q7 f);unfold j5m;rw[ZaP f,Q1,j00 f,Q1,Zax _ _ _ f,jue _ _ g h r];have m:(i:Int)<4611686018427387904:=by unfold maxLen at j;omega
  rw[j01 (n:=(i:Int)+1) (by omega)]
  by_cases b:((msr y1 a[i]:Nat):Int)<=left
  ·rw[QM b,Zaz b,Za3 (by omega),Q0]
  ·rw[QN b,Zay b,Za4 (by omega),Q1]
 ·show j5m a _ _ _ _ _=_
  unfold j5m;rw[ZaO,Q0]
theorem jro (a:qW)(h:msr y2 a<=1048576)(k:Bool->Res):j94 a a k=k true:=by
 have d:a.length<=1048576:=j0f h;unfold j94;rw[ZaN,Q0];unfold jjD;rw[Zaq a _ (by unfold LIM;omega) (λi rec b=> ?_) (λrec=> ?_)]
 ·show j59 a a _ _ _ _=_
  unfold j59;simp only[ZaP b,Q1,j00 b,Zax _ _ _ b,j01 (n:=(i:Int)+1) (by omega),ZaN,Zah,Q0,Q4,jtd _ (j0b h (Q7 b))]
 ·show j59 a a _ _ _ _=_
  unfold j59;rw[ZaO,Q0]
theorem jnu (a:qW)(k:Int)(h:msr y2 a<=1048576)(w:1<=k)(m:k+(wgt y2 a:Int)<=4294967296)(K:Int->qW->Res):j1I a k K=K (k+(wgt y2 a:Int)) (mkL (wgt y1) (mk y1) a k):=by
 have y:a.length<=1048576:=j0f h;have f:wgt y2 a=(a.map (wgt y1)).sum:=rfl;rw[f]at m ⊢;unfold j1I jh8;have:=Z9Y (wgt y1) (mk y1) a k (λl k i=>(l,k,i)) (step:=j9Z) (λl k=>K k l) (λl k=>K k l) (by unfold LIM;omega) (λl i rec g b n d=>by
  have q:=Z7A (wgt y1) a i g;have r:=Z9K (wgt y1) a (i+1);generalize A:k+((((a.take i).map (wgt y1)).sum:Nat):Int)=κ;have p:1<=κ/\κ+(wgt y1 a[i]:Int)<=4294967296:=by omega
  have z:(wgt y1 a[i]:Int)=1+1+1:=by
   have:wgt y1 a[i]=1+1+1:=by first | rfl | (simp only[wgt];done) | (simp only[wgt];omega)
   first | rfl | omega
  show j3p _ _ _ _ _=_
  dsimp only;unfold j3p;rw[<-b]at g;have j:i<a.length:=by omega
  simp (disch:=first | assumption | omega) only [show nI a.length=nI l.length by rw[b],ZaP,j00,jgq,Q1,jgo,jgr,Zax,d,j01,j1F,<-b]
  rw[ZaE];congr 3<;>first | rfl | omega | (simp only[j20,j1c,j3q,j6v,j1Z,j3r,j1e,j28,j1d,j29,Int.natCast_add,Int.natCast_one,<-Int.add_assoc];done) | (simp only[j20,j1c,j3q,j6v,j1Z,j3r,j1e,j28,j1d,j29,Int.natCast_add,Int.natCast_one,<-Int.add_assoc];rfl) | skip) (λl k rec b=>by
  show j3p _ _ _ _ _=_
  dsimp only;unfold j3p;rw[<-b,ZaO,cond_false])
 exact this
theorem jut (a:qW)(k:Int)(h:msr y2 a<=1048576)(y:1<=k)(p:k+(wgt y2 a:Int)<=4294967296)(K:Int->Res):j64 (mkL (wgt y1) (mk y1) a k) k K=K (k+(wgt y2 a:Int)):=by
 have z:a.length<=1048576:=j0f h;have f:wgt y2 a=(a.map (wgt y1)).sum:=rfl;rw[f]at p ⊢;have d:=Z6r (wgt y1) (mk y1) a k;have j:=Zat (wgt y1) (mk y1) a k;generalize mkL (wgt y1) (mk y1) a k=l at d j;unfold j64 jh4;have:=Z9V (wgt y1) a k (λk i=>(k,i)) (step:=j9X l) ((λ(g:Int)=>K g),(λ(_:Unit)=>K (-1))) (λk=>K k) (by unfold LIM;omega) (λi rec m=>by
  have r:=Z7A (wgt y1) a i m;have w:=Z9K (wgt y1) a (i+1);have b:=j i m (by omega)
  generalize B:k+((((a.take i).map (wgt y1)).sum:Nat):Int)=κ at b;have q:1<=κ/\κ+(wgt y1 a[i]:Int)<=4294967296:=by omega
  have A:(wgt y1 a[i]:Int)=1+1+1:=by
   have:wgt y1 a[i]=1+1+1:=by first | rfl | (simp only[wgt];done) | (simp only[wgt];omega)
   first | rfl | omega
  show j3n _ _ _ _ _ _=_
  dsimp only;unfold j3n;have n:i<l.length:=by omega
  simp (disch:=first | assumption | omega) only [ZaP,j00,Q1,Q0,Zax,b,j20,j1c,j3q,j6v,j1Z,j3r,j1e,j28,j1d,j29,Int.natCast_add,Int.natCast_one,<-Int.add_assoc,j01,j1F,ZaN,Zah,Xe,Q4,Za3]
  all_goals (congr 2;omega)) (λk rec=>by
  show j3n _ _ _ _ _ _=_
  dsimp only;unfold j3n;rw[<-d,ZaO,cond_false])
 exact this
end Go.PI.G
namespace Go.PI.G
open Go Go.PI Go.Proofs
theorem jxG (a:List qV)(h:msr y2 a<=1048576)(k:qW->Res):jcU a k=k a:=by
 have b:msr y2 a<=1048576:=h;unfold jcU;simp only[jrN _ b]
theorem jxz (a:List qV)(left:Int)(g:0<=left)(h:left<=1048576)(f:Wf y2 a)(k:Int->Res):jcS a left k=k (szR left (msr y2 a)):=by
 have d:msr y2 a=msr y2 a+0:=rfl;rw[d];unfold jcS;rw[jrM _ _ (by omega) (by omega) f]
 by_cases b:((msr y2 a:Nat):Int)<=left;rotate_left
 ·rw[Zay b,Zak b,Za4 (by omega),Q1]
 rw[Zaz b,Zaj b,Za3 (by omega),Q0]
 exact jhu (by omega)
theorem jwZ (a:List qV)(h:msr y2 a<=1048576)(k:Bool->Res):jcP a a k=k true:=by
 have b:msr y2 a<=1048576:=h;unfold jcP;simp only[ZaN,Zah,Xe,Q0,Q4,jro _ b]
end Go.PI.G
