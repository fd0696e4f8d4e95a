/-
  Program's code interpreted over typed values; printed texts; plain laws. No conditions.
-/
import Derived.Test.YtiaipepkkjlccaaGreatPDj
set_option linter.unusedVariables false
set_option linter.unusedSimpArgs false
namespace Go.PI.G
open Go Go.PI
theorem jvv {v:V}(h:j0w v=true):msr yV v<=30:=by
 have e:msr yV v=0+(0+v.2.2.size):=rfl;have:=jwH h;omega
theorem j4P {e:Ty}(c:Nat):(l:List (El e))->(∀x∈l,msr e x<=c)->msr (.slice e) l<=l.length * (c+1)
 | [],_=>Qg _
 |x::l,h=>by
  have b:=j4P c l λy d=>h y (Qa _ d)
  have f:=h x (by simp)
  rw[jf6]at b ⊢;simp only[Qz,QX,Q8];rw[Nat.succ_mul];omega
theorem ji7 {l:List V}(h:j2t l=true):msr (.slice yV) l<=248:=by
 have b:=juM h;have f:=j4P (e:=yV) 30 l λv d=>jvv (b.2.2 v d)
 have g:l.length * 31<=8 * 31:=Qt _ b.2.1;omega
theorem jtG {c:C}(h:j19 c=true):msr yC c<=38:=by
 have e:msr yC c=c.1.size+(0+(0+(0+msr yV c.2.2.2.2))):=rfl;unfold j19 at h;simp only[Q6]at h;have b:=j4H h.1;have d:=jvv h.2.2.1;omega
theorem jvW {l:List C}(h:j6a l=true){c:C}(b:c∈l):j19 c=true:=by
 obtain⟨i,d,rfl⟩:=Xo b;exact jrj h i d
theorem jvV {l:List C}{n:ByteArray}(h:0<=j03 l n):∃c∈l,c.1=n:=by
 unfold j03 Z9E at h;cases b:List.findIdx? (λc:C=>sEq c.1 n) l with
 |none=>rw[b]at h;dsimp only at h;omega
 |some i=>
  obtain⟨d,f,_⟩:=Xl.1 b;exact⟨l[i],Q7 d,(j0i _ _).1 f⟩
theorem ji4 {l:List C}:(ks:List ByteArray)->(b:Int)->b<(l.length:Int)->j1D l b ks=true->b+(ks.length:Int)<(l.length:Int)
 | [],b,d,_=>by simpa using d
 |q::ks,b,d,h=>by
  simp only[j1D,Q6,QF,Xk]at h;have f:=ji4 ks (j03 l q) (jbg l q).2 h.2.2;rw[Q8];omega
theorem jtH {t:ByteArray}{cs:List C}{ks:List ByteArray}(h:j06 (t,cs,ks)=true):t.size<=8/\msr (.slice yC) cs<=312/\msr (.slice .str) ks<=72:=by
 have b:=j2s h;dsimp only at b;have d:∀c∈cs,j19 c=true:=λc d=>jvW b.2.2.2.2.1 d
 have m:=j4P (e:=yC) 38 cs λc h=>jtG (d c h)
 have n:cs.length * 39<=8 * 39:=Qt _ b.2.2.1;have j:=j1E ks (-1) (by omega) b.2.2.2.2.2
 have r:=ji4 ks (-1) (by omega) b.2.2.2.2.2
 have p:=j4P (e:= .str) 8 ks λk l=>by
  obtain⟨c,g,i⟩:=jvV (j k l).1;have f:=d c g;unfold j19 at f;rw[Q6]at f;have:=(j4H f.1).2;rw[i]at this;exact this
 have q:ks.length * 9<=8 * 9:=Qt _ (by omega)
 exact⟨(j4H b.1).2,by omega,by omega⟩
theorem jxa {d:D}(h:j1a d=true):msr yD d<=500:=by
 have e:∀d:D,msr yD d=0+(d.2.1.size+(msr (.slice yC) d.2.2.1+(msr (.slice .str) d.2.2.2.1+(d.2.2.2.2.1.size+d.2.2.2.2.2.size)))):=λ_=>rfl
 have l:msr (.slice yC) ([]:List C)=0:=rfl;have p:msr (.slice .str) ([]:List ByteArray)=0:=rfl;have q:eS.size=0:=rfl;rw[e];obtain⟨ht,g⟩:=j8h h;have ht:=(j4H ht).2;rcases g with⟨t,cs,ks,rfl,b⟩ | ⟨t,rfl⟩ | ⟨t,c,rfl,b⟩ | ⟨t,n,rfl,b⟩ | ⟨t,n,m,rfl,b,f⟩
 ·have:=jtH b;dsimp only at *;omega
 ·dsimp only at *;omega
 ·have j:=j4P (e:=yC) 38 [c] λx i=>by rw[QB.1 i];exact jtG b
  have k:[c].length * (38+1)=39:=rfl;dsimp only at *;omega
 ·have:=(j4H b).2;dsimp only at *;omega
 ·have:=(j4H b).2;have:=(j4H f).2;dsimp only at *;omega
theorem jy3 {s:ST}(h:stB s=true):msr yST s<=1100:=by
 have e:∀s:ST,msr yST s=0+(s.2.1.size+(msr (.slice yV) s.2.2.1+(msr (.slice yV) s.2.2.2.1+msr yD s.2.2.2.2))):=λ_=>rfl
 have i:msr (.slice yV) ([]:List V)=0:=rfl;have j:msr yD zD=0:=rfl;rw[e];obtain⟨ht,g⟩:=jrL h;have ht:=(j4H ht).2;rcases g with⟨t,r,rfl,b⟩ | ⟨t,q,r,rfl,b,f⟩ | ⟨t,q,rfl,b⟩ | ⟨t,rfl⟩ | ⟨d,rfl,b⟩
 ·have:=ji7 b;dsimp only at *;omega
 ·have:=ji7 b;have:=ji7 f;dsimp only at *;omega
 ·have:=ji7 b;dsimp only at *;omega
 ·dsimp only at *;omega
 ·have:=jxa b;dsimp only at *;omega
end Go.PI.G
namespace Go.PI.G
open Go Go.PI
theorem jre:(x:List UInt8)->Op.bytesLess x x=false
 | []=>rfl
 |a::x=>by simp[Op.bytesLess,jre x]
theorem jt2:(x y z:List UInt8)->Op.bytesLess x y=true->Op.bytesLess y z=true->Op.bytesLess x z=true
 |_,_,[],_,h=>by simp[Op.bytesLess]at h
 |_,[],_::_,h,_=>by simp[Op.bytesLess]at h
 | [],_::_,_::_,_,_=>by simp[Op.bytesLess]
 |a::x,b::y,c::z,h,k=>by
  simp only[Op.bytesLess,Xq,Q6,Ql,QG]at h k ⊢;rcases h with h | ⟨rfl,h⟩
  ·rcases k with k | ⟨rfl,k⟩
   ·exact .inl (UInt8.lt_trans h k)
   ·exact .inl h
  ·rcases k with k | ⟨rfl,k⟩
   ·exact .inl k
   ·exact .inr ⟨rfl,jt2 x y z h k⟩
theorem jt1:(x y:List UInt8)->x≠y->Op.bytesLess x y=true\/Op.bytesLess y x=true
 | [],[],h=>absurd rfl h
 | [],_::_,_=> .inl (by simp[Op.bytesLess])
 |_::_,[],_=> .inr (by simp[Op.bytesLess])
 |a::x,b::y,h=>by
  simp only[Op.bytesLess,Xq,Q6,Ql,QG];by_cases f:a=b
  ·subst f;rcases jt1 x y (λe=>h (by rw[e]))with d | d
   ·exact .inl (.inr ⟨rfl,d⟩)
   ·exact .inr (.inr ⟨rfl,d⟩)
  ·rcases UInt8.lt_or_lt_of_ne f with d | d
   ·exact .inl (.inl d)
   ·exact .inr (.inl d)
theorem toList_inj {a b:ByteArray}(h:a.toList=b.toList):a=b:=(j0i a b).1 (by unfold sEq;rw[h];simp)
theorem jgi (a:ByteArray):sLt a a=false:=jre _
theorem jic {a b c:ByteArray}(h:sLt a b=true)(k:sLt b c=true):sLt a c=true:=jt2 _ _ _ h k
theorem jmn {a b:ByteArray}(h:a≠b):sLt a b=true\/sLt b a=true:=jt1 _ _ λe=>h (toList_inj e)
theorem jwv {a b:ByteArray}(h:sLt a b=true):a≠b:=λe=>by rw[e,jgi]at h;cases h
theorem jwu {a b:ByteArray}(h:sLt a b=true):sLt b a=false:=by
 cases d:sLt b a with
 |false=>rfl
 |true=>rw[<-jgi a];exact(jic h d).symm
theorem jmK (a b:V):vlt a b=true↔j0w a=true/\j0w b=true/\(a.1<b.1\/(a.1=b.1/\(a.2.1<b.2.1\/(a.2.1=b.2.1/\sLt a.2.2 b.2.2=true)))):=by
 unfold vlt;simp only[Q6];refine YN λ_=>YN λ_=> ?_
 by_cases d:a.1=b.1
 ·rw[d,ZaN,Q0];by_cases f:a.2.1=b.2.1
  ·rw[f,ZaN,Q0];simp
  ·rw[show (a.2.1 != b.2.1)=true by simp[f],Q1]
   simp[f]
 ·rw[show (a.1 != b.1)=true by simp[d],Q1]
  simp[d]
theorem jvO (a:V):vlt a a=false:=by
 cases h:vlt a a with
 |false=>rfl
 |true=>
  have:=(jmK a a).1 h;rw[jgi]at this;rcases this.2.2 with h | ⟨_,h | ⟨_,h⟩⟩
  ·omega
  ·omega
  ·cases h
theorem jwJ {a b c:V}(h:vlt a b=true)(k:vlt b c=true):vlt a c=true:=by
 rw[jmK]at h k ⊢;obtain⟨g,_,h⟩:=h;obtain⟨_,i,k⟩:=k;refine⟨g,i,?_⟩;rcases h with h | ⟨j,h⟩
 ·rcases k with k | ⟨d,k⟩
  ·exact .inl (by omega)
  ·exact .inl (by omega)
 ·rcases k with k | ⟨d,k⟩
  ·exact .inl (by omega)
  ·refine .inr ⟨by omega,?_⟩
   rcases h with h | ⟨l,h⟩
   ·rcases k with k | ⟨f,k⟩
    ·exact .inl (by omega)
    ·exact .inl (by omega)
   ·rcases k with k | ⟨f,k⟩
    ·exact .inl (by omega)
    ·exact .inr ⟨by omega,jic h k⟩
theorem jwI {a b:V}(d:j0w a=true)(f:j0w b=true)(h:a≠b):vlt a b=true\/vlt b a=true:=by
 rw[jmK,jmK];by_cases g:a.1=b.1
 ·by_cases j:a.2.1=b.2.1
  ·have i:a.2.2≠b.2.2:=λe=>h (Prod.ext g (Prod.ext j e))
   rcases jmn i with k | k
   ·exact .inl ⟨d,f,.inr ⟨g,.inr ⟨j,k⟩⟩⟩
   ·exact .inr ⟨f,d,.inr ⟨g.symm,.inr ⟨j.symm,k⟩⟩⟩
  ·by_cases i:a.2.1<b.2.1
   ·exact .inl ⟨d,f,.inr ⟨g,.inl i⟩⟩
   ·exact .inr ⟨f,d,.inr ⟨g.symm,.inl (by omega)⟩⟩
 ·by_cases i:a.1<b.1
  ·exact .inl ⟨d,f,.inl i⟩
  ·exact .inr ⟨f,d,.inl (by omega)⟩
theorem juj (a:V):veq a a=true:=(jjX a a).2 rfl
theorem jvN {a b:V}(h:a≠b):veq a b=false:=by
 cases d:veq a b with
 |false=>rfl
 |true=>exact absurd ((jjX a b).1 d) h
theorem jkk:(a:List V)->klt a a=false
 | []=>rfl
 |x::a=>by show (bif veq x x then klt a a else vlt x x)=false;rw[juj,Q1];exact jkk a
theorem ji5:(a b c:List V)->klt a b=true->klt b c=true->klt a c=true
 |_,[],_,h,k=>by
  rename_i a c;cases a<;>cases h
 |_,_::_,[],h,k=>by cases k
 | [],_::_,_::_,h,k=>rfl
 |x::a,y::b,z::c,h,k=>by
  change (bif veq x y then klt a b else vlt x y)=true at h
  change (bif veq y z then klt b c else vlt y z)=true at k
  show (bif veq x z then klt a c else vlt x z)=true
  cases f:veq x y
  ·rw[f,Q0]at h;cases d:veq y z
   ·rw[d,Q0]at k;have g:=jwJ h k;rw[jvN λe=>by rw[e,jvO]at g;cases g]
    exact g
   ·have e:=(jjX y z).1 d;subst e;rw[f];exact h
  ·have e:=(jjX x y).1 f;subst e;rw[f,Q1]at h;cases d:veq x z
   ·rw[d,Q0]at k;exact k
   ·rw[d,Q1]at k;rw[Q1];exact ji5 a b c h k
theorem jrt:(a b:List V)->(∀v∈a,j0w v=true)->(∀v∈b,j0w v=true)->a≠b->klt a b=true\/klt b a=true
 | [],[],_,_,h=>absurd rfl h
 | [],_::_,_,_,_=> .inl rfl
 |_::_,[],_,_,_=> .inr rfl
 |x::a,y::b,g,i,h=>by
  show (bif veq x y then klt a b else vlt x y)=true\/(bif veq y x then klt b a else vlt y x)=true
  by_cases d:x=y
  ·subst d;rw[juj,Q1,Q1];exact jrt a b (λv f=>g v (Qa _ f)) (λv f=>i v (Qa _ f)) λe=>h (by rw[e])
  ·rw[jvN d,jvN (Ne.symm d),Q0,Q0];exact jwI (g x (by simp)) (i y (by simp)) d
theorem jwg {a b:List V}(h:klt a b=true):a≠b:=λe=>by rw[e,jkk]at h;cases h
theorem jwf {a b:List V}(h:klt a b=true):klt b a=false:=by
 cases d:klt b a with
 |false=>rfl
 |true=>rw[<-jkk a];exact(ji5 a b a h d).symm
theorem jbH {α:Type}{f:Nat->α->Bool}:(l:List α)->(i:Nat)->(Z70 f i l=false↔∀(j:Nat) (h:j<l.length),f (i+j) l[j]=false)
 | [],_=>⟨λ_ j h=>by simp at h,λ_=>rfl⟩
 |x::l,i=>by
  refine⟨jg7 (x::l) i,λh=> ?_⟩
  simp only[Z70,Xb];refine⟨h 0 (by simp),(jbH l (i+1)).2 λj b=> ?_⟩
  have:=h (j+1) (by simpa using b)
  rw[show i+1+j=i+(j+1) by omega]
  simpa using this
theorem jwD {α:Type}(z:α)(R:α->α->Bool)(r:∀a b c,R a b=true->R b c=true->R a c=true)(l:List α) :
  (∀(j:Nat) (h:j<l.length),(decide (0<j)&& !R (nth z l ((j:Int)-1)) l[j])=false)↔l.Pairwise λa b=>R a b=true:=by
 rw[XE];constructor
 ·intro h i j f g p;have step:∀(d i:Nat) (f:i+d+1<l.length),R l[i] l[i+d+1]=true:=by
   intro d;induction d with
   |zero=>
    intro i f;have:=h (i+1) (by omega)
    rw[show ((i+1:Nat):Int)-1=(i:Int) by omega,Zax _ _ _ (by omega)]at this
    simpa using this
   |succ d q=>
    intro i f;have m:=q i (by omega)
    have:=h (i+d+2) (by omega)
    rw[show ((i+d+2:Nat):Int)-1=((i+d+1:Nat):Int) by omega,Zax _ _ _ (by omega)]at this
    have n:R l[i+d+1] l[i+d+2]=true:=by simpa using this
    exact r _ _ _ m n
  have:=step (j-i-1) i (by omega)
  have e:i+(j-i-1)+1=j:=by omega
  simp only[e]at this;exact this
 ·intro h j g;by_cases k:0<j
  ·have e:((j:Int)-1)=((j-1:Nat):Int):=by omega
   rw[e,Zax _ _ _ (by omega),h (j-1) j (by omega) g (by omega)]
   simp
  ·rw[Q2 k];rfl
theorem j0h (c:List T):j2Z c=true↔c.length<=6/\(∀t∈c,j06 t=true)/\c.Pairwise λa b=>sLt a.1 b.1=true:=by
 unfold j2Z;rw[Q6,Ql,QF,jbH];refine YN λ_=> ?_
 rw[<-jwD zT (λa b:T=>sLt a.1 b.1) (λa b c=>jic)]
 constructor
 ·intro h;refine⟨λt ht=> ?_,λj d=> ?_⟩
  ·obtain⟨j,d,rfl⟩:=Xo ht;have:=h j d;simp only[Xb,Xa]at this;exact this.1
  ·have:=h j d;rw[Xu]at this;rw[Xb]at this;exact this.2
 ·rintro⟨f,g⟩ j d;rw[Xu,f _ (Q7 d)];exact g j d
theorem j8c (t:T)(l:List (List V)):j0e t l=true↔j06 t=true/\l.length<=60/\(∀r∈l,j0z t.2.1 r=true)/\l.Pairwise λa b=>klt (j09 t a) (j09 t b)=true:=by
 unfold j0e;rw[Q6,Q6,Ql,QF,jbH];refine YN λ_=>YN λ_=> ?_
 rw[<-jwD [] (λa b:List V=>klt (j09 t a) (j09 t b)) (λa b c=>ji5 _ _ _)]
 constructor
 ·intro h;refine⟨λr i=> ?_,λj d=> ?_⟩
  ·obtain⟨j,d,rfl⟩:=Xo i;have:=h j d;simp only[Xb,Xa]at this;exact this.1
  ·have:=h j d;rw[Xu]at this;rw[Xb]at this;exact this.2
 ·rintro⟨f,g⟩ j d;rw[Xu,f _ (Q7 d)];exact g j d
theorem j1m (d:DB):dbB d=true↔j2Z d.1=true/\d.2.length=d.1.length/\∀(i:Nat) (h:i<d.1.length) (j:i<d.2.length),j0e d.1[i] d.2[i]=true:=by
 unfold dbB;rw[Q6,Q6,Ql,QF,jbH];refine YN λ_=>YN λg=> ?_
 constructor
 ·intro h i b f;have:=h i b;rw[Xu,Zax _ _ _ f,Xa]at this;exact this
 ·intro h i b;rw[Xu,Zax _ _ _ (g ▸ b),h i b (g ▸ b)];rfl
theorem jlU {α:Type}{p:α->Bool}{l:List α}{i:Nat}(g:i<l.length)(d:p l[i]=true)(f:∀(j:Nat) (b:j<i),p (l[j]'(by omega))=false):Z9E p l=(i:Int):=by
 unfold Z9E;have:l.findIdx? p=some i:=Xl.2 ⟨g,d,λj b=>by rw[f j b];decide⟩
 rw[this]
theorem jw9 {α:Type}{p:α->Bool}{l:List α}(h:∀x∈l,p x=false):Z9E p l= -1:=by
 unfold Z9E;have:l.findIdx? p=none:=Y8.2 h;rw[this]
theorem jcz {α:Type}(p:α->Bool)(l:List α):(Z9E p l= -1/\∀x∈l,p x=false)\/∃(i:Nat) (b:i<l.length),Z9E p l=(i:Int)/\p l[i]=true/\∀(j:Nat) (d:j<i),p (l[j]'(by omega))=false:=by
 unfold Z9E;cases h:l.findIdx? p with
 |none=>exact .inl ⟨rfl,Y8.1 h⟩
 |some i=>
  obtain⟨b,f,g⟩:=Xl.1 h;exact .inr ⟨i,b,rfl,f,λj d=>by simpa using g j d⟩
theorem juW {α:Type}{p:α->Bool}{l:List α}{i:Nat}(d:i<l.length)(b:p l[i]=true)(g:∀(j:Nat) (f:j<l.length),p l[j]=true->j=i):Z9E p l=(i:Int):=
 jlU d b λj f=>by
  cases h:p (l[j]'(by omega))with
  |false=>rfl
  |true=>exact absurd (g j (by omega) h) (by omega)
end Go.PI.G
namespace Go.PI.G
open Go Go.PI
theorem jlS {l:List C}(h:l.Pairwise λa b=>a.1≠b.1){i:Nat}(g:i<l.length):j03 l l[i].1=(i:Int):=by
 unfold j03;refine juW g (Zag _) λj k f=> ?_
 have f:=(j0i _ _).1 f;rw[XE]at h;rcases Nat.lt_trichotomy i j with d | d | d
 ·exact absurd f.symm (h i j g k d)
 ·exact d.symm
 ·exact absurd f (h j i k g d)
theorem j6b (l:List C):j6a l=true↔(∀c∈l,j19 c=true)/\l.Pairwise λa b=>a.1≠b.1:=by
 unfold j6a;rw[QF,jbH];constructor
 ·intro h;refine⟨λc k=> ?_,XE.2 λi j n d p m=> ?_⟩
  ·obtain⟨j,d,rfl⟩:=Xo k;have:=h j d;simp only[Xb,Xa]at this;exact this.1
  ·have f:=h i n;have g:=h j d;simp only[Xb,Xu,bne_eq_false_iff_eq]at f g;rw[m]at f;omega
 ·rintro⟨f,g⟩ j d;rw[f _ (Q7 d),Xu,jlS g d];simp
theorem j4A (l:List C):(ks:List ByteArray)->(d:Int)->(j1D l d ks=true↔(∀k∈ks,d<j03 l k/\(nth zC l (j03 l k)).2.2.1=true)/\ks.Pairwise λa b=>j03 l a<j03 l b)
 | [],_=>by simp[j1D]
 |k::ks,d=>by
  simp only[j1D,Q6,QF,Xk,j4A l ks,XM,Qp,forall_eq_or_imp];constructor
  ·rintro⟨j,h,g,i⟩;exact⟨⟨⟨by omega,h⟩,λq f=>⟨by have:=(g q f).1;omega,(g q f).2⟩⟩,λq f=>(g q f).1,i⟩
  ·rintro⟨⟨⟨j,h⟩,g⟩,i,m⟩;exact⟨by omega,h,λq f=>⟨i q f,(g q f).2⟩,m⟩
theorem j5H (t:T):j06 t=true↔j0g t.1=true/\1<=t.2.1.length/\t.2.1.length<=8/\1<=t.2.2.length/\j6a t.2.1=true/\j1D t.2.1 (-1) t.2.2=true:=by
 unfold j06;simp only[Q6,Ql,and_assoc]
theorem jvh {l:List C}{n:ByteArray}(h:∀c∈l,c.1≠n):j03 l n= -1:=
 jw9 λc b=>by
  cases d:sEq c.1 n with
  |false=>rfl
  |true=>exact absurd ((j0i _ _).1 d) (h c b)
theorem j1h (l:List C)(n:ByteArray):(j03 l n= -1/\∀c∈l,c.1≠n)\/∃(i:Nat) (f:i<l.length),j03 l n=(i:Int)/\l[i].1=n/\∀(j:Nat) (g:j<i),(l[j]'(by omega)).1≠n:=by
 rcases jcz (λc:C=>sEq c.1 n) l with⟨b,d⟩ | ⟨i,f,b,d,h⟩
 ·exact .inl ⟨b,λc k e=>by have:=d c k;rw[e,Zag]at this;cases this⟩
 ·exact .inr ⟨i,f,b,(j0i _ _).1 d,λj g e=>by have:=h j g;rw[e,Zag]at this;cases this⟩
theorem jkj {l l':List C}{ks:List ByteArray}(g:ByteArray->ByteArray)(h:j1D l (-1) ks=true)(f:∀k∈ks,0<=j03 l' (g k)/\(nth zC l' (j03 l' (g k))).2.2.1=true)
  (i:∀a∈ks,∀b∈ks,j03 l a<j03 l b->j03 l' (g a)<j03 l' (g b)):j1D l' (-1) (ks.map g)=true:=by
 rw[j4A]at h ⊢;refine⟨λk n=> ?_,?_⟩
 ·obtain⟨q,p,rfl⟩:=X6.1 n;have:=f q p;exact⟨by omega,this.2⟩
 ·rw[List.pairwise_map];exact h.2.imp_of_mem λj m d=>i _ j _ m d
theorem jbQ (l:List C)(r:List V):j0z l r=true↔r.length=l.length/\∀(i:Nat) (b:i<l.length) (d:i<r.length),j4Y l[i] r[i]=true:=by
 unfold j0z;rw[Q6,Ql,QF,jbH];refine YN λf=> ?_
 constructor
 ·intro h i b d;have:=h i b;rw[Xu,Zax _ _ _ d,Xa]at this;exact this
 ·intro h i b;rw[Xu,Zax _ _ _ (f ▸ b),h i b (f ▸ b)];rfl
def jnP (t:T)(c:C):T:=(t.1,t.2.1++[c],t.2.2)
theorem jpi {α:Type}(z:α)(l m:List α){i:Int}(h:0<=i/\i<(l.length:Int)):nth z (l++m) i=nth z l i:=by
 obtain⟨n,rfl⟩:∃n:Nat,i=(n:Int):=⟨i.toNat,by omega⟩
 rw[Zax _ _ _ (by rw[Q5];omega),Zax _ _ _ (by omega),Xw (by omega)]
theorem jhU {l:List C}{c:C}{n:ByteArray}(h:0<=j03 l n):j03 (l++[c]) n=j03 l n:=by
 rcases j1h l n with⟨b,_⟩ | ⟨i,g,b,d,f⟩
 ·omega
 ·rw[b];refine jlU (by rw[Q5];omega) ?_ λj k=> ?_
  ·rw[Xw g,d];exact Zag _
  ·rw[Xw (by omega)]
   cases m:sEq (l[j]'(by omega)).1 n with
   |false=>rfl
   |true=>exact absurd ((j0i _ _).1 m) (f j k)
theorem jxR {t:T}{c:C}(ht:j06 t=true)(z:j19 c=true)(F:j03 t.2.1 c.1<0)(E:t.2.1.length<8):j06 (jnP t c)=true:=by
 rw[j5H]at ht ⊢;obtain⟨r,A,B,w,g,j⟩:=ht;have q:=j1E t.2.2 (-1) (by omega) j
 refine⟨r,?_,?_,w,?_,?_⟩
 ·show 1<=(t.2.1++[c]).length;rw[Q5];omega
 ·show (t.2.1++[c]).length<=8;rw[Q5];simp;omega
 ·rw[j6b]at g ⊢;refine⟨λx f=> ?_,?_⟩
  ·rcases Qr.1 f with f | f
   ·exact g.1 x f
   ·rw[QB.1 f];exact z
  ·show (t.2.1++[c]).Pairwise _
   rw[List.pairwise_append];refine⟨g.2,List.pairwise_singleton _ _,λa m b p=> ?_⟩
   rw[QB.1 p];rcases j1h t.2.1 c.1 with⟨_,h⟩ | ⟨i,D,h,_⟩
   ·exact h a m
   ·omega
 ·have:=jkj (l':=t.2.1++[c]) id j (λk d=>by
   have l:=q k d;have y:j03 (t.2.1++[c]) k=j03 t.2.1 k:=jhU l.1;simp only[id];rw[y,jpi _ _ _ l];exact⟨l.1,((j4A _ _ _).1 j).1 k d |>.2⟩) (λa m b p n=>by
   simp only[id];rw[jhU (q a m).1,jhU (q b p).1];exact n)
  rw[List.map_id]at this;exact this
theorem jwL {t:T}{c:C}(ht:j06 t=true){r:List V}(f:r.length=t.2.1.length)(v:V):j09 (jnP t c) (r++[v])=j09 t r:=by
 have d:=j1E t.2.2 (-1) (by omega) (j2s ht).2.2.2.2.2
 refine Yd λk b=> ?_
 have:=d k b;show nth zV (r++[v]) (j03 (t.2.1++[c]) k)=_
 rw[jhU this.1,jpi _ _ _ ⟨this.1,by omega⟩]
theorem jxQ {l:List C}{c:C}{r:List V}(b:j0z l r=true){v:V}(g:j4Y c v=true):j0z (l++[c]) (r++[v])=true:=by
 rw[jbQ]at b ⊢;refine⟨by rw[Q5,Q5,b.1];rfl,λi d f=> ?_⟩
 by_cases h:i<l.length
 ·rw[Xw h,Xw (b.1 ▸ h)];exact b.2 i h _
 ·rw[Q5]at d;simp only[Q8,QE]at d;have:i=l.length:=by omega
  subst this;rw[Xh (Qq _),Xh (by omega)]
  simpa using g
theorem jx1 {c:C}(d:j19 c=true)(h:(c.2.2.2.1|| !c.2.2.1)=true):j4Y c c.2.2.2.2=true:=by
 unfold j19 at d;simp only[Q6]at d;obtain⟨_,_,g,b⟩:=d;unfold j4Y;rw[g,Qd];cases f:c.2.2.2.1
 ·rw[f]at h b;rw[Q0]at b;unfold jmI at b;rw[Q6]at b;rw[XY]at h;rw[b.1,h,Bool.and_self,Bool.or_true]
 ·rw[f,Q1]at b;exact b
def jkt (t:T)(n:ByteArray):T:=(t.1,t.2.1.filter λc=> !sEq c.1 n,t.2.2)
theorem jtf {l:List C}(h:l.Pairwise λa b=>a.1≠b.1){i:Nat}(g:i<l.length):(l.filter λc=> !sEq c.1 l[i].1)=l.eraseIdx i:=by
 induction l generalizing i with
 |nil=>simp at g
 |cons a l m=>
  rw[XM]at h;cases i with
  |zero=>
   simp only[Yp,List.filter_cons,Zag,Q4,List.eraseIdx_zero,List.tail_cons];rw[QN (by simp),List.filter_eq_self]
   intro c k;have:=h.1 c k;cases f:sEq c.1 a.1 with
   |false=>rfl
   |true=>exact absurd ((j0i _ _).1 f).symm this
  |succ i=>
   simp only[Q8]at g;have d:i<l.length:=by omega
   have j:sEq a.1 l[i].1=false:=by
    cases f:sEq a.1 l[i].1 with
    |false=>rfl
    |true=>exact absurd ((j0i _ _).1 f) (h.1 _ (Q7 d))
   simp only[Yo,List.filter_cons,j,QQ,XH,List.eraseIdx_cons_succ];rw[m h.2 d]
theorem jeT {l:List C}(h:l.Pairwise λa b=>a.1≠b.1){i:Nat}(n:i<l.length){j:Nat}(q:j<l.length)(p:j≠i) :
  j03 (l.eraseIdx i) l[j].1=if j<i then (j:Int) else (j:Int)-1:=by
 have k:(l.eraseIdx i).Pairwise λa b=>a.1≠b.1:=h.sublist (YS _ _)
 have g:(l.eraseIdx i).length=l.length-1:=List.length_eraseIdx_of_lt n;by_cases d:j<i
 ·rw[QM d];have f:(l.eraseIdx i)[j]'(by omega)=l[j]:=by rw[Yg,Yr d]
  rw[<-f];exact jlS k _
 ·rw[QN d];obtain⟨m,rfl⟩:∃m,j=m+1:=⟨j-1,by omega⟩
  have f:(l.eraseIdx i)[m]'(by omega)=l[m+1]:=by rw[Yg,Yy (by omega)]
  rw[<-f,jlS k];omega
theorem jrv {α:Type}(z:α)(l:List α){i j:Nat}(f:i<l.length)(h:j<l.length)(g:j≠i):nth z (l.eraseIdx i) (if j<i then (j:Int) else (j:Int)-1)=l[j]:=by
 have d:(l.eraseIdx i).length=l.length-1:=List.length_eraseIdx_of_lt f;by_cases b:j<i
 ·rw[QM b,Zax _ _ _ (by omega),Yg,Yr b]
 ·rw[QN b];obtain⟨m,rfl⟩:∃m,j=m+1:=⟨j-1,by omega⟩
  rw[show ((m+1:Nat):Int)-1=(m:Int) by omega,Zax _ _ _ (by omega),Yg,Yy (by omega)]
theorem jjA {t:T}(ht:j06 t=true){n k:ByteArray}(g:k∈t.2.2)(h:(t.2.2.any λx=>sEq x n)=false){i:Nat}(r:j03 t.2.1 n=(i:Int)):∃(j:Nat) (f:j<t.2.1.length),j03 t.2.1 k=(j:Int)/\t.2.1[j].1=k/\j≠i:=by
 have w:=j1E t.2.2 (-1) (by omega) (j2s ht).2.2.2.2.2 k g
 rcases j1h t.2.1 k with⟨b,_⟩ | ⟨j,f,b,d,_⟩
 ·omega
 ·refine⟨j,f,b,d,λe=> ?_⟩
  rcases j1h t.2.1 n with⟨l,_⟩ | ⟨q,p,l,m,_⟩
  ·omega
  ·have:j=q:=by omega
   subst this;rw[Yx]at h;exact h k g (by rw[<-d,m];exact Zag _)
theorem jqY {t:T}(ht:j06 t=true){n:ByteArray}{i:Nat}(j:j03 t.2.1 n=(i:Int)):i<t.2.1.length/\jkt t n=(t.1,t.2.1.eraseIdx i,t.2.2):=by
 have g:=((j6b _).1 (j2s ht).2.2.2.2.1).2;rcases j1h t.2.1 n with⟨d,_⟩ | ⟨h,b,d,f,_⟩
 ·omega
 ·have:i=h:=by omega
  subst this;refine⟨b,?_⟩;unfold jkt;rw[<-f,jtf g b]
theorem jy6 {t:T}(ht:j06 t=true){n:ByteArray}{i:Nat}(q:j03 t.2.1 n=(i:Int))(y:(t.2.2.any λx=>sEq x n)=false):j06 (jkt t n)=true:=by
 obtain⟨d,M⟩:=jqY ht q;have g:=ht;rw[M];rw[j5H]at ht ⊢;obtain⟨H,P,Q,I,h,F⟩:=ht;rw[j6b]at h;have G:(t.2.1.eraseIdx i).length=t.2.1.length-1:=List.length_eraseIdx_of_lt d;refine⟨H,?_,?_,I,?_,?_⟩
 ·show 1<=(t.2.1.eraseIdx i).length
  obtain⟨k,w⟩:∃k,k∈t.2.2:=⟨t.2.2[0]'(by omega),Q7 _⟩
  obtain⟨j,l,_,_,f⟩:=jjA g w y q;omega
 ·show (t.2.1.eraseIdx i).length<=8
  omega
 ·show j6a (t.2.1.eraseIdx i)=true
  rw[j6b];exact⟨λc L=>h.1 c (List.mem_of_mem_eraseIdx L),h.2.sublist (YS _ _)⟩
 ·have:=jkj (l':=t.2.1.eraseIdx i) id F (λk w=>by
   obtain⟨j,l,z,B,f⟩:=jjA g w y q;simp only[id];have m:=jeT h.2 d l f;rw[B]at m;rw[m];refine⟨by split<;>omega,?_⟩
   rw[jrv zC t.2.1 d l f];have:=((j4A _ _ _).1 F).1 k w |>.2
   rw[z,Zax _ _ _ l]at this;exact this) (λa J b K D=>by
   obtain⟨j,l,z,B,f⟩:=jjA g J y q;obtain⟨R,E,A,C,r⟩:=jjA g K y q;simp only[id];have m:=jeT h.2 d l f;have p:=jeT h.2 d E r;rw[B]at m;rw[C]at p;rw[m,p];rw[z,A]at D;split<;>split<;>omega)
  rw[List.map_id]at this;exact this
theorem jxh {t:T}(ht:j06 t=true){n:ByteArray}{i:Nat}(g:j03 t.2.1 n=(i:Int))(w:(t.2.2.any λx=>sEq x n)=false){r:List V}(z:r.length=t.2.1.length):j09 (jkt t n) (r.eraseIdx i)=j09 t r:=by
 obtain⟨d,m⟩:=jqY ht g;have y:=((j6b _).1 (j2s ht).2.2.2.2.1).2;rw[m];refine Yd λk q=> ?_
 obtain⟨j,p,h,l,b⟩:=jjA ht q w g;show nth zV (r.eraseIdx i) (j03 (t.2.1.eraseIdx i) k)=_
 have f:=jeT y d p b;rw[l]at f;rw[f,jrv zV r (by omega) (by omega) b,h,Zax _ _ _ (by omega)]
theorem jy5 {l:List C}{r:List V}(d:j0z l r=true)(i:Nat):j0z (l.eraseIdx i) (r.eraseIdx i)=true:=by
 rw[jbQ]at d ⊢;refine⟨by rw[Yk,Yk,d.1],λj b f=> ?_⟩
 have g:j+1<=l.length:=by
  rw[Yk]at b;split at b<;>omega
 rw[Yg,Yg];by_cases h:j<i
 ·rw[Yr h,Yr h];exact d.2 _ _ _
 ·rw[Yy h,Yy h];have:j+1<l.length:=by
   rw[Yk]at b;split at b<;>omega
  exact d.2 _ this _
def ren (n m s:ByteArray):ByteArray:=bif sEq s n then m else s
def jaZ (n m:ByteArray)(c:C):C:=(ren n m c.1,c.2)
def ji8 (t:T)(n m:ByteArray):T:=(t.1,t.2.1.map (jaZ n m),t.2.2.map (ren n m))
theorem jr0 {n m a b:ByteArray}(g:a≠m)(i:b≠m)(h:ren n m a=ren n m b):a=b:=by
 unfold ren at h;cases d:sEq a n<;>cases f:sEq b n<;>rw[d,f]at h<;>simp only[Q1,Q0]at h
 ·exact h
 ·exact absurd h g
 ·exact absurd h.symm i
 ·rw[(j0i _ _).1 d,(j0i _ _).1 f]
theorem jhV {l:List C}{n m:ByteArray}(f:∀c∈l,c.1≠m){s:ByteArray}(g:s≠m):j03 (l.map (jaZ n m)) (ren n m s)=j03 l s:=by
 rcases j1h l s with⟨b,d⟩ | ⟨i,q,b,d,k⟩
 ·rw[b];refine jvh λc p=> ?_
  obtain⟨x,h,rfl⟩:=X6.1 p;exact λe=>d x h (jr0 (f x h) g e)
 ·rw[b];refine jlU (by rw[Qy];exact q) ?_ λj r=> ?_
  ·rw[Xn];show sEq (ren n m l[i].1) (ren n m s)=true
   rw[d];exact Zag _
  ·rw[Xn];show sEq (ren n m (l[j]'(by omega)).1) (ren n m s)=false
   cases w:sEq (ren n m (l[j]'(by omega)).1) (ren n m s)with
   |false=>rfl
   |true=>exact absurd (jr0 (f _ (Q7 _)) g ((j0i _ _).1 w)) (k j r)
theorem jy8 {n m:ByteArray}(d:j0g m=true){c:C}(b:j19 c=true):j19 (jaZ n m c)=true:=by
 unfold j19 jaZ at *;simp only[Q6]at b ⊢;refine⟨?_,b.2⟩;unfold ren;cases sEq c.1 n
 ·exact b.1
 ·exact d
theorem jxe {t:T}(ht:j06 t=true){n m:ByteArray}(H:j0g m=true)(J:j03 t.2.1 m<0):j06 (ji8 t n m)=true:=by
 rw[j5H]at ht ⊢;obtain⟨B,C,D,E,p,q⟩:=ht;have A:=j1E t.2.2 (-1) (by omega) q
 have f:∀c∈t.2.1,c.1≠m:=by
  rcases j1h t.2.1 m with⟨_,h⟩ | ⟨i,_,h,_⟩
  ·exact h
  ·omega
 have l:∀k∈t.2.2,k≠m:=λk d e=>by
  have:=(A k d).1;rw[e]at this;omega
 refine⟨B,?_,?_,?_,?_,?_⟩
 ·show 1<=(t.2.1.map _).length;rw[Qy];exact C
 ·show (t.2.1.map _).length<=8;rw[Qy];exact D
 ·show 1<=(t.2.2.map _).length;rw[Qy];exact E
 ·show j6a (t.2.1.map (jaZ n m))=true
  rw[j6b]at p ⊢;refine⟨λc F=> ?_,?_⟩
  ·obtain⟨x,I,rfl⟩:=X6.1 F;exact jy8 H (p.1 x I)
  ·rw[List.pairwise_map];exact p.2.imp_of_mem λw y g e=>g (jr0 (f _ w) (f _ y) e)
 ·refine jkj (l':=t.2.1.map (jaZ n m)) (ren n m) q (λk d=> ?_) (λa w b y g=> ?_)
  ·rw[jhV f (l k d)];have z:=A k d;refine⟨z.1,?_⟩;have r:=((j4A _ _ _).1 q).1 k d |>.2
   obtain⟨j,G⟩:∃j:Nat,j03 t.2.1 k=(j:Int):=⟨(j03 t.2.1 k).toNat,by omega⟩
   rw[G]at z r ⊢;rw[Zax _ _ _ (by omega)]at r
   rw[Zax _ _ _ (by rw[Qy];omega),Xn]
   exact r
  ·rw[jhV f (l a w),jhV f (l b y)];exact g
theorem jwm {t:T}(ht:j06 t=true){n m:ByteArray}(g:j03 t.2.1 m<0)(r:List V):j09 (ji8 t n m) r=j09 t r:=by
 have f:=j1E t.2.2 (-1) (by omega) (j2s ht).2.2.2.2.2
 have d:∀c∈t.2.1,c.1≠m:=by
  rcases j1h t.2.1 m with⟨_,h⟩ | ⟨i,_,h,_⟩
  ·exact h
  ·omega
 show ((t.2.2.map (ren n m)).map λk=>nth zV r (j03 (t.2.1.map (jaZ n m)) k))=_
 rw[Yq];refine Yd λk b=> ?_
 simp only[Function.comp];rw[jhV d λe=>by have:=(f k b).1;rw[e]at this;omega]
theorem jx2 {n m:ByteArray}(c:C)(v:V):j4Y (jaZ n m c) v=j4Y c v:=rfl
theorem jxd {l:List C}{r:List V}(d:j0z l r=true)(n m:ByteArray):j0z (l.map (jaZ n m)) r=true:=by
 rw[jbQ]at d ⊢;refine⟨by rw[Qy];exact d.1,λi f b=> ?_⟩
 rw[Xn,jx2];exact d.2 i (by rw[Qy]at f;exact f) b
theorem jmm {t t':T}{l:List (List V)}(f:List V->List V)(h:j0e t l=true)(ht:j06 t'=true)(p:∀r,j0z t.2.1 r=true->j0z t'.2.1 (f r)=true)(i:∀r,j0z t.2.1 r=true->j09 t' (f r)=j09 t r):j0e t' (l.map f)=true:=by
 rw[j8c]at h ⊢;obtain⟨_,j,b,k⟩:=h;refine⟨ht,by rw[Qy];exact j,λr g=> ?_,?_⟩
 ·obtain⟨x,q,rfl⟩:=X6.1 g;exact p x (b x q)
 ·rw[List.pairwise_map];refine k.imp_of_mem λm n d=> ?_
  rw[i _ (b _ m),i _ (b _ n)];exact d
end Go.PI.G
namespace Go.PI.G
noncomputable section
open Go Go.PI
def j2c {α:Type}(z:α)(f:α->α->Bool)(a b:List α):Bool:=decide (a.length=b.length)&& !Z70 (λi x=> !f x (nth z b (i:Int))) 0 a
theorem jva {α:Type}{z:α}{f:α->α->Bool}(d:∀x y,f x y=true↔x=y)(a b:List α):j2c z f a b=true↔a=b:=by
 unfold j2c;rw[Q6,Ql,QF,jbH];constructor
 ·rintro⟨m,h⟩;refine Y0 m λi g k=> ?_
  have:=h i g;rw[Xu,Zax _ _ _ k,Xa]at this;exact(d _ _).1 this
 ·rintro rfl;refine⟨rfl,λj l=> ?_⟩
  rw[Xu,Zax _ _ _ l,(d _ _).2 rfl];rfl
theorem j69 (a b:List V):j2c zV veq a b=true↔a=b:=jva jjX a b
def j0a (t:T)(l:List (List V))(b:List V):Int:=Z9E (λr=>j2c zV veq (j09 t r) b) l
theorem jhg (t:T)(l:List (List V))(b:List V):(j0a t l b= -1/\∀r∈l,j09 t r≠b)\/∃(i:Nat) (g:i<l.length),j0a t l b=(i:Int)/\j09 t l[i]=b:=by
 rcases jcz (λr=>j2c zV veq (j09 t r) b) l with⟨d,f⟩ | ⟨i,g,d,f,j⟩
 ·refine .inl ⟨d,λr h e=> ?_⟩
  have:=f r h;rw[(j69 _ _).2 e]at this;cases this
 ·exact .inr ⟨i,g,d,(j69 _ _).1 f⟩
theorem jpT (t:T)(l:List (List V))(b:List V):decide (j0a t l b<0)= !l.any λr=>j2c zV veq (j09 t r) b:=by
 rcases jhg t l b with⟨f,d⟩ | ⟨i,j,f,d⟩
 ·rw[Q3 (by omega)]
  have:(l.any λr=>j2c zV veq (j09 t r) b)=false:=by
   rw[Yx];intro r g h;exact d r g ((j69 _ _).1 h)
  rw[this];rfl
 ·rw[Q2 (by omega)]
  have:(l.any λr=>j2c zV veq (j09 t r) b)=true:=by
   rw[Yn];exact⟨l[i],Q7 _,(j69 _ _).2 d⟩
  rw[this];rfl
def lay {α:Type}(R:α->α->Bool)(x:α)(l:List α):List α:=l.takeWhile (λy=> !R x y)++x::l.dropWhile (λy=> !R x y)
theorem jqI {α:Type}{R:α->α->Bool}{x z:α}{l:List α}:z∈lay R x l↔z=x\/z∈l:=by
 unfold lay;rw[Qr,Qp];have:z∈l↔z∈l.takeWhile (λy=> !R x y)\/z∈l.dropWhile (λy=> !R x y):=by
  rw[<-Qr,Y2]
 rw[this];constructor
 ·rintro (h | h | h)
  ·exact .inr (.inl h)
  ·exact .inl h
  ·exact .inr (.inr h)
 ·rintro (h | h | h)
  ·exact .inr (.inl h)
  ·exact .inl h
  ·exact .inr (.inr h)
theorem jqG {α:Type}(R:α->α->Bool)(x:α)(l:List α):(lay R x l).length=l.length+1:=by
 unfold lay;have:=Xv List.length (Y2 (p:=λy=> !R x y) (l:=l))
 rw[Q5]at this;rw[Q5,Q8];omega
theorem jtC {α:Type}{R:α->α->Bool}(i:∀a b c,R a b=true->R b c=true->R a c=true)(x:α):(l:List α)->(l.Pairwise λa b=>R a b=true)->(∀y∈l,R x y=true\/R y x=true)->(lay R x l).Pairwise λa b=>R a b=true
 | [],_,_=>List.pairwise_singleton _ _
 |y::l,h,ht=>by
  rw[XM]at h;cases d:R x y
  ·have e:lay R x (y::l)=y::lay R x l:=by
    unfold lay;rw[List.takeWhile_cons,List.dropWhile_cons,d];rfl
   rw[e,XM];refine⟨λz f=> ?_,jtC i x l h.2 λz f=>ht z (Qa _ f)⟩
   rcases jqI.1 f with rfl | f
   ·rcases ht y (by simp)with g | g
    ·rw[d]at g;cases g
    ·exact g
   ·exact h.1 z f
  ·have e:lay R x (y::l)=x::y::l:=by
    unfold lay;rw[List.takeWhile_cons,List.dropWhile_cons,d];rfl
   rw[e,XM];refine⟨λz f=> ?_,XM.2 h⟩
   rcases Qp.1 f with rfl | f
   ·exact d
   ·exact i _ _ _ d (h.1 z f)
theorem jv0 {α:Type}{R:α->α->Bool}(g:∀a b,R a b=true->R b a=false){x:α}{l:List α}(ht:∀y∈l,R x y=true\/R y x=true) :
  ∃i,i<=l.length/\i=(l.takeWhile λy=>R y x).length/\lay R x l=l.take i++x::l.drop i:=by
 have f:∀(l:List α),(∀y∈l,R x y=true\/R y x=true)->l.takeWhile (λy=> !R x y)=l.takeWhile λy=>R y x:=by
  intro l;induction l with
  |nil=>intro _;rfl
  |cons y l m=>
   intro h;have e:(!R x y)=R y x:=by
    rcases h y (by simp)with d | d
    ·rw[d,g _ _ d];rfl
    ·rw[d,g _ _ d];rfl
   rw[List.takeWhile_cons,List.takeWhile_cons,e,m λz k=>h z (Qa _ k)]
 have d:=Y2 (p:=λy=> !R x y) (l:=l)
 have j:=f l ht;refine⟨(l.takeWhile λy=>R y x).length,?_,rfl,?_⟩
 ·have:=Xv List.length d;rw[Q5,j]at this;omega
 ·unfold lay;rw[j]at d ⊢;generalize l.takeWhile (λy=>R y x)=a at d ⊢
  generalize l.dropWhile (λy=> !R x y)=b at d ⊢
  rw[<-d];simp
def kR (t:T)(a b:List V):Bool:=klt (j09 t a) (j09 t b)
def jkl (t:T)(l:List (List V))(r:List V):List (List V):=lay (kR t) r l
def jcL (t:T)(b:List V):Bool:=j06 t&&(decide (b.length=t.2.2.length)&& !Z70 (λi k=> !j4Y (nth zC t.2.1 (j03 t.2.1 k)) (nth zV b (i:Int))) 0 t.2.2)
def j7C (t:T)(l:List (List V))(r:List V):List (List V)×Int:=
 bif !j0e t l then ([],1) else bif !j0z t.2.1 r then ([],2) else bif !decide (j0a t l (j09 t r)<0) then ([],3) else bif l.length==60 then ([],4) else (jkl t l r,0)
def j7D (t:T)(l:List (List V))(b r:List V):List (List V)×Int:=
 bif !j0e t l then ([],1) else bif !j0z t.2.1 r then ([],2) else bif !jcL t b||decide (j0a t l b<0) then ([],5) else
 bif !decide (j0a t (l.eraseIdx (j0a t l b).toNat) (j09 t r)<0) then ([],3) else (jkl t (l.eraseIdx (j0a t l b).toNat) r,0)
def j7B (t:T)(l:List (List V))(b:List V):List (List V)×Int:=
 bif !j0e t l then ([],1) else bif !jcL t b||decide (j0a t l b<0) then ([],5) else (l.eraseIdx (j0a t l b).toNat,0)
theorem jtQ {l:List C}{r:List V}(h:j0z l r=true):∀v∈r,j0w v=true:=by
 intro v d;obtain⟨i,b,rfl⟩:=Xo d;rw[jbQ]at h;have:=h.2 i (by omega) b
 unfold j4Y at this;rw[Q6]at this;exact this.1
theorem jtz {t:T}(ht:j06 t=true){r:List V}(h:j0z t.2.1 r=true):∀v∈j09 t r,j0w v=true:=by
 intro v f;obtain⟨k,b,rfl⟩:=X6.1 f;have:=j1E t.2.2 (-1) (by omega) (j2s ht).2.2.2.2.2 k b
 obtain⟨n,d⟩:∃n:Nat,j03 t.2.1 k=(n:Int):=⟨(j03 t.2.1 k).toNat,by omega⟩
 have g:=((jbQ _ _).1 h).1;rw[d,Zax _ _ _ (by omega)]
 exact jtQ h _ (Q7 _)
theorem jty {t:T}(ht:j06 t=true){a b:List V}(d:j0z t.2.1 a=true)(f:j0z t.2.1 b=true)(h:j09 t a≠j09 t b):kR t a b=true\/kR t b a=true:=
 jrt _ _ (jtz ht d) (jtz ht f) h
theorem juZ {t:T}{l:List (List V)}{r:List V}(h:j0e t l=true)(i:j0z t.2.1 r=true)(n:∀x∈l,j09 t x≠j09 t r)(m:l.length<60):j0e t (jkl t l r)=true:=by
 rw[j8c]at h ⊢;obtain⟨f,p,g,k⟩:=h;refine⟨f,by unfold jkl;rw[jqG];omega,λx d=> ?_,?_⟩
 ·rcases jqI.1 d with rfl | d
  ·exact i
  ·exact g x d
 ·exact jtC (R:=kR t) (λa b c=>ji5 _ _ _) r l k λy j=>jty f i (g y j) λe=>n y j e.symm
theorem jhX {t:T}{l:List (List V)}(b:j0e t l=true)(i:Nat):j0e t (l.eraseIdx i)=true:=by
 rw[j8c]at b ⊢;obtain⟨d,j,f,g⟩:=b;refine⟨d,?_,λx h=>f x (List.mem_of_mem_eraseIdx h),g.sublist (YS _ _)⟩
 rw[Yk];split<;>omega
theorem jvr {t:T}{l:List (List V)}(k:j0e t l=true){i j:Nat}(f:i<l.length)(g:j<l.length)(h:j09 t l[i]=j09 t l[j]):i=j:=by
 have d:=((j8c _ _).1 k).2.2.2;rw[XE]at d;rcases Nat.lt_trichotomy i j with b | b | b
 ·exact absurd h (jwg (d i j f g b))
 ·exact b
 ·exact absurd h.symm (jwg (d j i g f b))
theorem jrI {t:T}{l:List (List V)}(y:j0e t l=true){b now:List V}(h:¬ j0a t l b<0) :
  (!decide (j0a t (l.eraseIdx (j0a t l b).toNat) now<0))=(!j2c zV veq now b&& !decide (j0a t l now<0)):=by
 rcases jhg t l b with⟨n,_⟩ | ⟨i,w,n,p⟩
 ·omega
 rw[n,QS,jpT,jpT,Bool.not_not,Bool.not_not];by_cases g:now=b
 ·subst g;rw[(j69 _ _).2 rfl,Q4,QW,Yx];intro r f h;obtain⟨j,k,m,rfl⟩:=List.mem_eraseIdx_iff_getElem.1 f;exact m (jvr y k w (((j69 _ _).1 h).trans p.symm))
 ·have:j2c zV veq now b=false:=by
   cases d:j2c zV veq now b with
   |false=>rfl
   |true=>exact absurd ((j69 _ _).1 d) g
  rw[this,QQ,Qd];cases d:l.any λr=>j2c zV veq (j09 t r) now with
  |false=>
   rw[Yx]at d ⊢;exact λr f=>d r (List.mem_of_mem_eraseIdx f)
  |true=>
   rw[Yn]at d ⊢;obtain⟨r,f,q⟩:=d;refine⟨r,List.mem_eraseIdx_iff_getElem.2 ?_,q⟩;obtain⟨j,k,rfl⟩:=Xo f;exact⟨j,k,λe=>g (by subst e;rw[<-(j69 _ _).1 q,p]),rfl⟩
theorem jtJ {t:T}{l:List (List V)}{b:List V}(h:j0a t l b<0):∀x∈l,j09 t x≠b:=by
 rcases jhg t l b with⟨_,d⟩ | ⟨i,g,f,_⟩
 ·exact d
 ·omega
def j3H (t:T)(l:List (List V))(s:ST):List (List V)×Int:=
 bif s.1==1 then j7C t l s.2.2.2.1 else bif s.1==2 then j7D t l s.2.2.1 s.2.2.2.1 else bif s.1==3 then j7B t l s.2.2.1 else ([],0)
theorem jvC {t:T}{l:List (List V)}{r:List V}(h:(j7C t l r).2=0):j0e t (j7C t l r).1=true:=by
 unfold j7C at h ⊢;cases b:j0e t l<;>rw[b]at h
 ·cases h
 cases d:j0z t.2.1 r<;>rw[d]at h
 ·cases h
 cases f:decide (j0a t l (j09 t r)<0)<;>rw[f]at h
 ·cases h
 cases g:l.length==60<;>rw[g]at h
 ·refine juZ b d (jtJ (QT f)) ?_;have:=((j8c _ _).1 b).2.1;have i:l.length≠60:=by simpa using g
  omega
 ·cases h
theorem jvD {t:T}{l:List (List V)}{b r:List V}(h:(j7D t l b r).2=0):j0e t (j7D t l b r).1=true:=by
 unfold j7D at h ⊢;cases d:j0e t l<;>rw[d]at h
 ·cases h
 cases f:j0z t.2.1 r<;>rw[f]at h
 ·cases h
 cases g: !jcL t b||decide (j0a t l b<0)<;>rw[g]at h
 ·cases i:decide (j0a t (l.eraseIdx (j0a t l b).toNat) (j09 t r)<0)<;>rw[i]at h
  ·cases h
  ·refine juZ (jhX d _) f (jtJ (QT i)) ?_;rw[Xb,Xk]at g;have m:=((j8c _ _).1 d).2.1;have j:=(jg8 (λr=>j2c zV veq (j09 t r) b) l).2
   have k:(j0a t l b).toNat<l.length:=by
    have:j0a t l b<(l.length:Int):=j;omega
   rw[List.length_eraseIdx_of_lt k];omega
 ·cases h
theorem jvB {t:T}{l:List (List V)}{b:List V}(h:(j7B t l b).2=0):j0e t (j7B t l b).1=true:=by
 unfold j7B at h ⊢;cases d:j0e t l<;>rw[d]at h
 ·cases h
 cases f: !jcL t b||decide (j0a t l b<0)<;>rw[f]at h
 ·exact jhX d _
 ·cases h
theorem jrG {t:T}(h:j06 t=true):j0e t []=true:=(j8c _ _).2 ⟨h,by simp,by simp,List.Pairwise.nil⟩
theorem jxr {t:T}(ht:j06 t=true){l:List (List V)}{s:ST}(h:(j3H t l s).2=0):j0e t (j3H t l s).1=true:=by
 unfold j3H at h ⊢;cases b:s.1==1<;>rw[b]at h
 ·cases d:s.1==2<;>rw[d]at h
  ·cases f:s.1==3<;>rw[f]at h
   ·exact jrG ht
   ·exact jvB h
  ·exact jvD h
 ·exact jvC h
def tR (a b:T):Bool:=sLt a.1 b.1
def j0B (t:T)(d:D):Int:=
 bif d.1==3 then (bif !decide (j03 t.2.1 (nth zC d.2.2.1 0).1<0) then 5 else bif t.2.1.length==8 then 6 else 0)
 else bif d.1==4 then (bif decide (j03 t.2.1 d.2.2.2.2.1<0) then 7 else bif t.2.2.any (λx=>sEq x d.2.2.2.2.1) then 8 else 0)
 else bif d.1==5 then (bif !decide (j03 t.2.1 d.2.2.2.2.2<0) then 5 else bif decide (j03 t.2.1 d.2.2.2.2.1<0) then 7 else 0)
 else 0
def jcx (t:T)(d:D):T:=bif d.1==3 then jnP t (nth zC d.2.2.1 0) else bif d.1==4 then jkt t d.2.2.2.2.1 else ji8 t d.2.2.2.2.1 d.2.2.2.2.2
def j0j (c:List T)(d:D):Int:=
 bif d.1==1 then (bif !decide (j07 c d.2.1<0) then 2 else bif c.length==6 then 3 else 0)
 else bif decide (j07 c d.2.1<0) then 4 else j0B (nth zT c (j07 c d.2.1)) d
def j1n (c:List T)(d:D):List T:=
 bif d.1==1 then lay tR (d.2.1,d.2.2.1,d.2.2.2.1) c
 else bif d.1==2 then c.eraseIdx (j07 c d.2.1).toNat
 else c.set (j07 c d.2.1).toNat (jcx (nth zT c (j07 c d.2.1)) d)
def jiM (c:List T)(d:D):List T×Int:=
 bif !j2Z c|| !j1a d then ([],1) else bif j0j c d != 0 then ([],j0j c d) else (j1n c d,0)
theorem j0p (c:List T)(n:ByteArray):(j07 c n= -1/\∀t∈c,t.1≠n)\/∃(i:Nat) (f:i<c.length),j07 c n=(i:Int)/\c[i].1=n:=by
 rcases jcz (λt:T=>sEq t.1 n) c with⟨b,d⟩ | ⟨i,f,b,d,g⟩
 ·exact .inl ⟨b,λt ht e=>by have:=d t ht;rw[e,Zag]at this;cases this⟩
 ·exact .inr ⟨i,f,b,(j0i _ _).1 d⟩
theorem jim {c:List T}(h:c.Pairwise λa b=>sLt a.1 b.1=true){i:Nat}(g:i<c.length):j07 c c[i].1=(i:Int):=by
 refine juW g (Zag _) λj k f=> ?_
 have f:=(j0i _ _).1 f;rw[XE]at h;rcases Nat.lt_trichotomy i j with d | d | d
 ·exact absurd f.symm (jwv (h i j g k d))
 ·exact d.symm
 ·exact absurd f (jwv (h j i k g d))
theorem jlR (t:T)(d:D):(jcx t d).1=t.1:=by
 unfold jcx;cases d.1==3
 ·cases d.1==4<;>rfl
 ·rfl
theorem jvT {t:T}(ht:j06 t=true){d:D}(q:j1a d=true)(j:3<=d.1)(b:j0B t d=0):j06 (jcx t d)=true:=by
 obtain⟨_,h⟩:=j8h q;rcases h with⟨n,cs,ks,rfl,_⟩ | ⟨n,rfl⟩ | ⟨n,c,rfl,l⟩ | ⟨n,m,rfl,r⟩ | ⟨n,m,p,rfl,r,w⟩
 ·simp at j
 ·simp at j
 ·show j06 (jnP t c)=true
  change (bif !decide (j03 t.2.1 c.1<0) then (5:Int) else bif t.2.1.length==8 then 6 else 0)=0 at b
  cases f:decide (j03 t.2.1 c.1<0)<;>rw[f]at b
  ·cases b
  ·cases g:t.2.1.length==8<;>rw[g]at b
   ·have k:t.2.1.length≠8:=by simpa using g
    have:=(j2s ht).2.2.1;exact jxR ht l (QT f) (by omega)
   ·cases b
 ·show j06 (jkt t m)=true
  change (bif decide (j03 t.2.1 m<0) then (7:Int) else bif t.2.2.any (λx=>sEq x m) then 8 else 0)=0 at b
  cases f:decide (j03 t.2.1 m<0)<;>rw[f]at b
  ·cases g:t.2.2.any λx=>sEq x m<;>rw[g]at b
   ·have k:=of_decide_eq_false f;exact jy6 ht (i:=(j03 t.2.1 m).toNat) (by omega) g
   ·cases b
  ·cases b
 ·show j06 (ji8 t m p)=true
  change (bif !decide (j03 t.2.1 p<0) then (5:Int) else bif decide (j03 t.2.1 m<0) then 7 else 0)=0 at b
  cases f:decide (j03 t.2.1 p<0)<;>rw[f]at b
  ·cases b
  ·exact jxe ht w (QT f)
theorem jrk {c:List T}(f:j2Z c=true){t:T}(ht:j06 t=true)(p:j07 c t.1<0)(m:c.length<6):j2Z (lay tR t c)=true:=by
 rw[j0h]at f ⊢;obtain⟨l,g,j⟩:=f;refine⟨by rw[jqG];omega,λx d=> ?_,?_⟩
 ·rcases jqI.1 d with rfl | d
  ·exact ht
  ·exact g x d
 ·refine jtC (R:=tR) (λa b c=>jic) t c j λy k=>jmn λe=> ?_
  rcases j0p c t.1 with⟨_,h⟩ | ⟨i,n,h,_⟩
  ·exact h y k e.symm
  ·omega
theorem jtL {α:Type}{R:α->α->Prop}{l:List α}(h:l.Pairwise R){i:Nat}{x:α}(m:i<l.length)(j:∀y,R y l[i]->R y x)(k:∀y,R l[i] y->R x y):(l.set i x).Pairwise R:=by
 rw[XE]at h ⊢;intro a b f g d;rw[List.length_set]at f g;rw[List.getElem_set,List.getElem_set];split
 ·rename_i e;subst e;split
  ·omega
  ·exact k _ (h _ _ f g d)
 ·split
  ·rename_i e;subst e;exact j _ (h _ _ f g d)
  ·exact h _ _ f g d
theorem jv6 {c:List T}(d:j2Z c=true){i:Nat}(l:i<c.length){t:T}(ht:j06 t=true)(f:t.1=c[i].1):j2Z (c.set i t)=true:=by
 rw[j0h]at d ⊢;obtain⟨g,j,k⟩:=d;refine⟨by rw[List.length_set];exact g,λx b=> ?_,?_⟩
 ·rcases List.mem_or_eq_of_mem_set b with b | rfl
  ·exact j x b
  ·exact ht
 ·refine jtL k l (λy h=> ?_) (λy h=> ?_)
  ·rw[f];exact h
  ·rw[f];exact h
theorem jrp {c:List T}(b:j2Z c=true)(i:Nat):j2Z (c.eraseIdx i)=true:=by
 rw[j0h]at b ⊢;obtain⟨h,d,f⟩:=b;refine⟨?_,λx g=>d x (List.mem_of_mem_eraseIdx g),f.sublist (YS _ _)⟩
 rw[Yk];split<;>omega
theorem jtb {d:D}(b:j1a d=true):d.1=1\/d.1=2\/3<=d.1:=by
 obtain⟨_,h⟩:=j8h b;rcases h with⟨n,cs,ks,rfl,_⟩ | ⟨n,rfl⟩ | ⟨n,c,rfl,g⟩ | ⟨n,m,rfl,f⟩ | ⟨n,m,p,rfl,f,i⟩<;>simp
theorem jqw {c:List T}{d:D}(k:j2Z c=true)(j:j1a d=true)(h:j0j c d=0):j2Z (j1n c d)=true:=by
 have l:=(j0h c).1 k;unfold j0j at h;unfold j1n;rcases jtb j with f | f | f
 ·rw[f]at h ⊢;rw[show ((1:Int)==1)=true from rfl,Q1]at h ⊢
  cases g:decide (j07 c d.2.1<0)<;>rw[g]at h
  ·cases h
  ·cases b:c.length==6<;>rw[b]at h
   ·have p:c.length≠6:=by simpa using b
    have n:j06 (d.2.1,d.2.2.1,d.2.2.2.1)=true:=by
     unfold j1a at j;rw[f]at j;simp only[Q6,Xe,Q1]at j;exact j.2.2.2
    exact jrk k n (QT g) (by omega)
   ·cases h
 ·rw[f]at h ⊢;rw[show ((2:Int)==1)=false from rfl,show ((2:Int)==2)=true from rfl,Q0,Q1]
  exact jrp k _
 ·rw[show (d.1==1)=false by simp;omega,Q0]at h
  rw[show (d.1==1)=false by simp;omega,show (d.1==2)=false by simp;omega,Q0,Q0]
  cases g:decide (j07 c d.2.1<0)<;>rw[g]at h
  ·rcases j0p c d.2.1 with⟨b,_⟩ | ⟨i,m,b,p⟩
   ·rw[b]at g;cases g
   ·rw[Q0]at h;rw[b,Zax _ _ _ m]at h;rw[b,Zax _ _ _ m,QS];exact jv6 k m (jvT (l.2.1 _ (Q7 _)) j f h) (jlR _ _)
  ·cases h
def jiL (t:T)(d:D)(l:List (List V)):List (List V):=
 bif d.1==3 then l.map (λr=>r++[(nth zC d.2.2.1 0).2.2.2.2]) else bif d.1==4 then l.map (λr=>r.eraseIdx (j03 t.2.1 d.2.2.2.2.1).toNat) else l
def jmG (d:DB)(x:D):List (List (List V)):=
 bif x.1==1 then d.2.take (j07 (j1n d.1 x) x.2.1).toNat++[]::d.2.drop (j07 (j1n d.1 x) x.2.1).toNat
 else bif x.1==2 then d.2.eraseIdx (j07 d.1 x.2.1).toNat
 else d.2.set (j07 d.1 x.2.1).toNat (jiL (nth zT d.1 (j07 d.1 x.2.1)) x (nth [] d.2 (j07 d.1 x.2.1)))
abbrev zDB:DB:=([],[])
def j1o (d:DB)(s:ST):DB×Int:=
 bif decide (j07 d.1 s.2.1<0)&& !((s.1==5)&&(s.2.2.2.2.1==1)) then (zDB,4)
 else bif s.1==5 then (bif j0j d.1 s.2.2.2.2 != 0 then (zDB,10+j0j d.1 s.2.2.2.2) else ((j1n d.1 s.2.2.2.2,jmG d s.2.2.2.2),0))
 else bif (j3H (nth zT d.1 (j07 d.1 s.2.1)) (nth [] d.2 (j07 d.1 s.2.1)) s).2 != 0 then (zDB,10+(j3H (nth zT d.1 (j07 d.1 s.2.1)) (nth [] d.2 (j07 d.1 s.2.1)) s).2)
 else ((d.1,d.2.set (j07 d.1 s.2.1).toNat (j3H (nth zT d.1 (j07 d.1 s.2.1)) (nth [] d.2 (j07 d.1 s.2.1)) s).1),0)
theorem jxU {t:T}(ht:j06 t=true){d:D}(j:j1a d=true)(k:3<=d.1)(f:j0B t d=0){l:List (List V)}(w:j0e t l=true):j0e (jcx t d) (jiL t d l)=true:=by
 have g:=jvT ht j k f;obtain⟨_,h⟩:=j8h j;rcases h with⟨n,cs,ks,rfl,_⟩ | ⟨n,rfl⟩ | ⟨n,c,rfl,A⟩ | ⟨n,m,rfl,B⟩ | ⟨n,m,p,rfl,B,E⟩
 ·simp at k
 ·simp at k
 ·have q:(c.2.2.2.1|| !c.2.2.1)=true:=by
   unfold j1a at j;rw[Q6]at j;have:=j.2;simp only[show ((3:Int)==1)=false from rfl,show ((3:Int)==2)=false from rfl,show ((3:Int)==3)=true from rfl,Q0,Q1,Q6]at this
   exact this.2.2.1
  show j0e (jnP t c) (l.map λr=>r++[c.2.2.2.2])=true
  exact jmm _ w g (λr b=>jxQ b (jx1 A q)) (λr b=>jwL ht ((jbQ _ _).1 b).1 _)
 ·change (bif decide (j03 t.2.1 m<0) then (7:Int) else bif t.2.2.any (λx=>sEq x m) then 8 else 0)=0 at f
  show j0e (jkt t m) (l.map λr=>r.eraseIdx (j03 t.2.1 m).toNat)=true
  cases i:decide (j03 t.2.1 m<0)<;>rw[i]at f
  ·cases y:t.2.2.any λx=>sEq x m<;>rw[y]at f
   ·have C:=of_decide_eq_false i;have z:j03 t.2.1 m=(((j03 t.2.1 m).toNat:Nat):Int):=by omega
    refine jmm _ w g (λr b=> ?_) (λr b=>jxh ht z y ((jbQ _ _).1 b).1)
    rw[(jqY ht z).2];exact jy5 b _
   ·cases f
  ·cases f
 ·change (bif !decide (j03 t.2.1 p<0) then (5:Int) else bif decide (j03 t.2.1 m<0) then 7 else 0)=0 at f
  show j0e (ji8 t m p) l=true
  cases i:decide (j03 t.2.1 p<0)<;>rw[i]at f
  ·cases f
  ·have:=jmm (t':=ji8 t m p) id w g (λr b=>jxd b m p) (λr b=>jwm ht (QT i) r)
   rw[List.map_id]at this;exact this
theorem juS {c:List T}{l:List (List (List V))}(h:dbB (c,l)=true){i:Nat}(n:i<c.length){t:T}(p:t.1=c[i].1){r:List (List V)}(m:j0e t r=true):dbB (c.set i t,l.set i r)=true:=by
 rw[j1m]at h ⊢;obtain⟨d,f,g⟩:=h;dsimp only at d f g ⊢;refine⟨jv6 d n ((j8c _ _).1 m).1 p,by rw[List.length_set,List.length_set];exact f,λj k b=> ?_⟩
 rw[List.getElem_set,List.getElem_set];split
 ·exact m
 ·rw[List.length_set]at k b;exact g j k b
theorem jvY {c:List T}{l:List (List (List V))}(h:dbB (c,l)=true)(i:Nat):dbB (c.eraseIdx i,l.eraseIdx i)=true:=by
 rw[j1m]at h ⊢;obtain⟨d,f,b⟩:=h;dsimp only at d f b ⊢;refine⟨jrp d i,by rw[List.length_eraseIdx,List.length_eraseIdx,f],λj k g=> ?_⟩
 rw[Yg,Yg];split
 ·exact b _ _ _
 ·exact b _ _ _
theorem jx7 (c:List T)(t:T):∃i,i<=c.length/\lay tR t c=c.take i++t::c.drop i:=by
 refine⟨(c.takeWhile λy=> !tR t y).length,?_,?_⟩
 ·have:=Xv List.length (Y2 (p:=λy=> !tR t y) (l:=c))
  rw[Q5]at this;omega
 ·have d:=Y2 (p:=λy=> !tR t y) (l:=c)
  unfold lay;generalize c.takeWhile (λy=> !tR t y)=a at d ⊢
  generalize c.dropWhile (λy=> !tR t y)=b at d ⊢
  rw[<-d];simp
theorem jtB {c:List T}(h:j2Z c=true){t:T}(ht:j06 t=true)(k:j07 c t.1<0)(g:c.length<6):∃i:Nat,i<=c.length/\j07 (lay tR t c) t.1=(i:Int)/\lay tR t c=c.take i++t::c.drop i:=by
 obtain⟨i,f,d⟩:=jx7 c t;refine⟨i,f,?_,d⟩;have l:=((j0h _).1 (jrk h ht k g)).2.2;have b:i<(lay tR t c).length:=by rw[jqG];omega
 have j:(lay tR t c)[i]=t:=by
  simp only[d];rw[Xh (by rw[Qf];omega)]
  simp[Qf,YE f]
 have:=jim l b;rw[j]at this;exact this
theorem juV {α:Type}(l:List α){i:Nat}(g:i<=l.length)(x:α)(j:Nat)(f:j<(l.take i++x::l.drop i).length):(l.take i++x::l.drop i)[j]=if h:j<i then l[j] else if b:j=i then x else l[j-1]'(by simp at f;omega):=by
 have d:(l.take i).length=i:=by rw[Qf];omega
 by_cases h:j<i
 ·rw[Yr h,Xw (by omega),Y7]
 ·rw[Yy h];by_cases b:j=i
  ·subst b;rw[Yr rfl,Xh (by omega)]
   simp[d]
  ·rw[Yy b];obtain⟨m,rfl⟩:∃m,j=i+1+m:=⟨j-i-1,by omega⟩
   rw[Xh (by omega)]
   simp only[d,show i+1+m-i=m+1 by omega,Yo,YH]
   congr 1;omega
theorem jxY {c:List T}{l:List (List (List V))}(h:dbB (c,l)=true){i:Nat}(q:i<=c.length){t:T}(ht:j06 t=true)(p:j2Z (c.take i++t::c.drop i)=true):dbB (c.take i++t::c.drop i,l.take i++[]::l.drop i)=true:=by
 rw[j1m]at h ⊢;obtain⟨m,n,f⟩:=h;dsimp only at m n f ⊢;refine⟨p,by simp only[List.length_append,List.length_cons,List.length_take,List.length_drop];omega,λj k g=> ?_⟩
 rw[juV c q t j k,juV l (by omega) [] j g]
 have r:j<c.length+1:=by
  simp only[Q5,Q8,Qf,Qu]at k;omega
 by_cases b:j<i
 ·rw[Yr b,Yr b];exact f j (by omega) (by omega)
 ·rw[Yy b,Yy b];by_cases d:j=i
  ·rw[Yr d,Yr d];exact jrG ht
  ·rw[Yy d,Yy d];exact f (j-1) (by omega) (by omega)
theorem jgS:dbB zDB=true:=(j1m _).2 ⟨(j0h _).2 ⟨by simp,by simp,List.Pairwise.nil⟩,rfl,λi b=>by simp at b⟩
theorem juU {d:DB}(h:dbB d=true){s:ST}(I:stB s=true)(g:(j1o d s).2=0):dbB (j1o d s).1=true:=by
 obtain⟨c,l⟩:=d;have A:=(j1m _).1 h;obtain⟨p,E,B⟩:=A;dsimp only at p E B;unfold j1o at g ⊢;dsimp only at g ⊢;cases D:decide (j07 c s.2.1<0)&& !((s.1==5)&&(s.2.2.2.2.1==1))<;>rw[D]at g
 ·rw[Q0]at g ⊢;cases y:s.1==5<;>rw[y]at g
  ·rw[Q0]at g ⊢;rw[y,QW,QQ,Xm,Xk]at D;rcases j0p c s.2.1 with⟨e,_⟩ | ⟨i,k,e,C⟩
   ·omega
   rw[e,Zax _ _ _ k,Zax _ _ _ (by omega),QS]at g ⊢
   cases b:(j3H c[i] (l[i]'(by omega)) s).2 != 0<;>rw[b]at g
   ·rw[Q0];have H:=jxr (t:=c[i]) (l:=l[i]'(by omega)) (s:=s) (((j0h _).1 p).2.1 _ (Q7 _)) (by simpa using b)
    have:=juS h k (t:=c[i]) rfl H;rw[List.set_getElem_self]at this;exact this
   ·exact jgS
  ·rw[Q1]at g ⊢;cases b:j0j c s.2.2.2.2 != 0<;>rw[b]at g
   ·rw[Q0];have b:j0j c s.2.2.2.2=0:=by simpa using b
    have f:j1a s.2.2.2.2=true:=by
     obtain⟨_,h⟩:=jrL I;rcases h with⟨t,r,rfl,_⟩ | ⟨t,q,r,rfl,_⟩ | ⟨t,q,rfl,_⟩ | ⟨t,rfl⟩ | ⟨d,rfl,A⟩
     ·cases y
     ·cases y
     ·cases y
     ·cases y
     ·exact A
    have j:=jqw p f b;generalize s.2.2.2.2=x at b f j ⊢;unfold jmG;dsimp only;rcases jtb f with m | m | m
    ·rw[m,show ((1:Int)==1)=true from rfl,Q1]
     unfold j0j at b;unfold j1n at j ⊢;rw[m,show ((1:Int)==1)=true from rfl,Q1]at b j ⊢
     cases w:decide (j07 c x.2.1<0)<;>rw[w]at b
     ·cases b
     ·cases n:c.length==6<;>rw[n]at b
      ·have G:c.length≠6:=by simpa using n
       have z:j06 (x.2.1,x.2.2.1,x.2.2.2.1)=true:=by
        unfold j1a at f;rw[m]at f;simp only[Q6,Xe,Q1]at f;exact f.2.2.2
       have J:=((j0h _).1 p).1;obtain⟨i,k,F,C⟩:=jtB p z (QT w) (by omega)
       rw[F,QS];rw[C]at j ⊢;exact jxY h k z j
      ·cases b
    ·rw[m,show ((2:Int)==1)=false from rfl,show ((2:Int)==2)=true from rfl,Q0,Q1]
     unfold j1n;rw[m,show ((2:Int)==1)=false from rfl,show ((2:Int)==2)=true from rfl,Q0,Q1]
     exact jvY h _
    ·rw[show (x.1==1)=false by simp;omega,show (x.1==2)=false by simp;omega,Q0,Q0]
     unfold j0j at b;rw[show (x.1==1)=false by simp;omega,Q0]at b
     unfold j1n;rw[show (x.1==1)=false by simp;omega,show (x.1==2)=false by simp;omega,Q0,Q0]
     cases w:decide (j07 c x.2.1<0)<;>rw[w]at b
     ·rcases j0p c x.2.1 with⟨n,_⟩ | ⟨i,k,n,G⟩
      ·rw[n]at w;cases w
      ·rw[Q0,n,Zax _ _ _ k]at b;rw[n,Zax _ _ _ k,Zax _ _ _ (by omega),QS]
       exact juS h k (jlR _ _) (jxU (((j0h _).1 p).2.1 _ (Q7 _)) f m b (B i k (by omega)))
     ·cases b
   ·exact jgS
 ·cases g
end
end Go.PI.G
namespace Go.PI.G
noncomputable section
open Go Go.PI
def jaL (i:Nat)(d:DB)(s:ST):Except (Int×Int) DB:=bif !stB s then .error (1,(i:Int)) else bif (j1o d s).2 != 0 then .error ((j1o d s).2,(i:Int)) else .ok (j1o d s).1
def j0u (d:DB)(l:List ST):DB×Int×Int:=bif !dbB d then (([],[]),1,0) else match Z1R jaL 0 l d with | .ok b=>(b,0,0) | .error e=>(([],[]),e.1,e.2)
theorem joL {i:Nat}{d j:DB}{s:ST}(h:dbB d=true)(b:jaL i d s= .ok j):dbB j=true:=by
 unfold jaL at b;cases f:stB s
 ·rw[f]at b;cases b
 ·rw[f,Q4,Q0]at b;cases g:((j1o d s).2 != 0)
  ·rw[g,Q0]at b;cases b;exact juU h f (by simpa using g)
  ·rw[g,Q1]at b;cases b
theorem juq {d:DB}{l:List ST}(h:(j0u d l).2.1=0):dbB (j0u d l).1=true:=by
 unfold j0u at h ⊢;cases g:dbB d
 ·rw[g]at h;cases h
 rw[g,Q4,Q0]at h;rw[Q4,Q0];cases k:Z1R jaL 0 l d with
 |ok q=>exact Z90 (λ_ a=>dbB a=true) l 0 d q g (λj x a p _ r b=>joL r b) k
 |error e=>
  rw[k]at h;exfalso;have h:e.1=0:=h;have m:∀(l:List ST) (i:Nat) (a:DB) (e:Int×Int),Z1R jaL i l a= .error e->e.1≠0:=by
   intro l;induction l with
   |nil=>intro i a e h;simp[Z1R]at h
   |cons x l y=>
    intro i a e h;simp only[Z1R]at h;cases b:jaL i a x with
    |ok p=>rw[b]at h;exact y _ _ _ h
    |error z=>
     rw[b]at h;cases h;unfold jaL at b;cases n:stB x
     ·rw[n]at b;cases b;exact λw=>absurd (show (1:Int)=0 from w) (by decide)
     ·rw[n,Q4,Q0]at b;cases f:((j1o a x).2 != 0)
      ·rw[f]at b;cases b
      ·rw[f]at b;cases b;simpa using f
  exact m l 0 d e k h
abbrev RC:=Int×Int×ST
abbrev yRC:Ty:= .pair (.int .i64) (.pair (.int .i64) yST)
abbrev zRC:RC:=(0,0,0,eS,[],[],0,eS,[],[],eS,eS)
def jnW (s:ST):Bool:=(s.1==0)&&(sEq s.2.1 eS&&((s.2.2.1.length==0)&&((s.2.2.2.1.length==0)&&noD s.2.2.2.2)))
theorem jxf (s:ST):jnW s=true↔s=zST:=by
 obtain⟨a,b,c,e,d⟩:=s;unfold jnW;simp only[Q6,QG,j0i,Qs,Qv,jjE]
def jd0 (r:RC):Bool:=decide (1<=r.1/\r.1<=4)&&(decide (1<=r.2.1/\r.2.1<=1000000)&&(bif r.1==2 then stB r.2.2 else jnW r.2.2))
theorem jpS {r:RC}(h:jd0 r=true):(1<=r.1/\r.1<=4)/\(1<=r.2.1/\r.2.1<=1000000)/\((r.1=2/\stB r.2.2=true)\/(r.1≠2/\r.2.2=zST)):=by
 unfold jd0 at h;rw[Q6,Q6,Ql,Ql]at h;refine⟨h.1,h.2.1,?_⟩;have b:=h.2.2;cases d:r.1==2
 ·rw[d,Q0]at b;exact .inr ⟨by simpa using d,(jxf _).1 b⟩
 ·rw[d,Q1]at b;exact .inl ⟨by simpa using d,b⟩
def j3N (l:List RC)(x:Int):Bool:=l.any λr=>(r.1==1)&&(r.2.1==x)
def j1u (l:List Int)(n:Int):Bool:=l.any λx=>x==n
def j8q (o:List Int)(r:RC):List Int:=
 bif r.1==1 then (bif j1u o r.2.1 then o else o++[r.2.1]) else bif (r.1==3)||(r.1==4) then o.filter (λy=> !(y==r.2.1)) else o
def j0q (l:List RC):List Int:=l.foldl j8q []
def j9I (l:List RC):List Int:=(l.filter λr=>r.1==1).map λr=>r.2.1
def jmB (x:Int)(_:Int)(r:RC):List ST:=bif (r.1==2)&&(r.2.1==x) then [r.2.2] else []
def j08 (l:List RC)(x:Int):List ST:=Z4q (jmB x) 0 l
def j2O (p:List RC)(d:DB)(r:RC):Except Unit DB:=
 bif !jd0 r then .error () else
 bif r.1==1 then (bif j3N p r.2.1 then .error () else .ok d) else
 bif !j1u (j0q p) r.2.1 then .error () else
 bif r.1==3 then (bif (j0u d (j08 p r.2.1)).2.1 != 0 then .error () else .ok (j0u d (j08 p r.2.1)).1) else .ok d
def j2d (d:DB)(l:List RC):Except Unit DB:=Z1R (λi d r=>j2O (l.take i) d r) 0 l d
def jx6 {A E:Type}(r:Except E A):Bool:=match r with
 |.ok _=>true
 |.error _=>false
def jxL (r:Except Unit DB):DB:=match r with
 |.ok d=>d
 |.error _=>zDB
def j3R (l:List RC):Bool:=decide (l.length<=400)&&jx6 (j2d zDB l)
theorem jrO {α A E:Type}(f:Nat->A->α->Except E A):(l m:List α)->(i:Nat)->(a:A)->Z1R f i (l++m) a=match Z1R f i l a with | .ok b=>Z1R f (i+l.length) m b | .error e=> .error e
 | [],m,i,a=>rfl
 |x::l,m,i,a=>by
  simp only[QL,Z1R];cases f i a x with
  |ok b=>
   dsimp only;rw[jrO f l m (i+1) b,List.length_cons,show i+1+l.length=i+(l.length+1) by omega]
  |error e=>rfl
theorem jnG {α A E:Type}{f g:Nat->A->α->Except E A}:(l:List α)->(i:Nat)->(∀j a,(h:j<l.length)->f (i+j) a l[j]=g (i+j) a l[j])->∀a,Z1R f i l a=Z1R g i l a
 | [],i,h,a=>rfl
 |x::l,i,h,a=>by
  have k:=h 0 a (Nat.succ_pos _);simp only[Z1R];rw[show f i a x=g i a x from k]
  cases g i a x with
  |ok d=>
   refine jnG l (i+1) (λj b m=> ?_) d
   have:=h (j+1) b (Nat.succ_lt_succ m);rw[show i+(j+1)=i+1+j by omega]at this
   exact this
  |error e=>rfl
theorem jws (d:DB)(l:List RC)(r:RC):j2d d (l++[r])=match j2d d l with | .ok b=>j2O l b r | .error e=> .error e:=by
 unfold j2d;rw[jrO,jnG (g:=λi d r=>j2O (l.take i) d r) l 0 (λj a h=>by
  rw[Xu,XN (Nat.le_of_lt h)])]
 cases Z1R (λi d r=>j2O (l.take i) d r) 0 l d with
 |error e=>rfl
 |ok b=>
  simp only[Z1R,Xu];rw[YD rfl];cases j2O l b r<;>rfl
theorem jmj (d:DB)(l:List RC)(i:Nat)(f:i<l.length):j2d d (l.take (i+1))=match j2d d (l.take i)with | .ok b=>j2O (l.take i) b l[i] | .error e=> .error e:=by
 rw[QA f,jws]
theorem jxj {d i:DB}{l:List RC}(h:j2d d l= .ok i)(n:Nat):∃b,j2d d (l.take n)= .ok b:=by
 have g:∀(m k:Nat),k+m=l.length->∃b,j2d d (l.take k)= .ok b:=by
  intro m;induction m with
  |zero=>intro k q;rw[Xd (by omega)];exact⟨i,h⟩
  |succ m w=>
   intro k q;obtain⟨b,f⟩:=w (k+1) (by omega)
   rw[jmj d l k (by omega)]at f
   cases r:j2d d (l.take k)with
   |ok p=>exact⟨p,rfl⟩
   |error e=>rw[r]at f;cases f
 rcases Yi n l.length with j | j
 ·exact g (l.length-n) n (by omega)
 ·exact g 0 l.length (by omega) |>.elim λb f=>⟨b,by rw[Xd j];rw[Xd (Qq _)]at f;exact f⟩
theorem joC {p:List RC}{d f:DB}{r:RC}(i:dbB d=true)(h:j2O p d r= .ok f):dbB f=true:=by
 unfold j2O at h;cases j:jd0 r<;>rw[j]at h
 ·cases h
 rw[Q4,Q0]at h;cases k:r.1==1<;>rw[k]at h
 ·rw[Q0]at h;cases b:j1u (j0q p) r.2.1<;>rw[b]at h
  ·cases h
  rw[Q4,Q0]at h;cases l:r.1==3<;>rw[l]at h
  ·cases h;exact i
  ·rw[Q1]at h;cases g:(j0u d (j08 p r.2.1)).2.1 != 0<;>rw[g]at h
   ·cases h;exact juq (by simpa using g)
   ·cases h
 ·rw[Q1]at h;cases b:j3N p r.2.1<;>rw[b]at h
  ·cases h;exact i
  ·cases h
theorem jy7 {d b:DB}{l:List RC}(g:dbB d=true)(h:j2d d l= .ok b):dbB b=true:=
 Z90 (λ_ a=>dbB a=true) l 0 d b g (λj x a k _ f i=>joC f i) h
theorem jhc (l:List RC):j3R l=true↔l.length<=400/\∃d,j2d zDB l= .ok d:=by
 unfold j3R;rw[Q6,Ql];cases j2d zDB l with
 |ok d=>simp[jx6]
 |error e=>simp[jx6]
theorem jx9 {l:List RC}(h:j3R l=true)(n:Nat):∃d,j2d zDB (l.take n)= .ok d/\dbB d=true:=by
 obtain⟨_,d,g⟩:=(jhc l).1 h;obtain⟨f,b⟩:=jxj g n;exact⟨f,b,jy7 jgS b⟩
theorem jcW (l:List RC)(r:RC):j0q (l++[r])=j8q (j0q l) r:=by
 unfold j0q;rw[List.foldl_append];rfl
theorem jkE (l:List RC)(r:RC)(x:Int):j3N (l++[r]) x=(j3N l x||((r.1==1)&&(r.2.1==x))):=by
 unfold j3N;rw[List.any_append];simp
theorem jvM (l:List RC)(r:RC):j9I (l++[r])=bif r.1==1 then j9I l++[r.2.1] else j9I l:=by
 unfold j9I;rw[List.filter_append,QU];cases h:r.1==1
 ·rw[Xr (by rw[h];simp),List.filter_nil,Yh,Qe,Q0]
 ·rw[Xs (p:=λr:RC=>r.1==1) h,List.filter_nil,Q1]
  rfl
theorem jwE (l:List RC)(x:Int):j1u (j9I l) x=j3N l x:=by
 unfold j1u j9I j3N;rw[List.any_map,List.any_filter];rfl
theorem jwF (l:List RC):(j9I l).length<=l.length:=by
 unfold j9I;rw[Qy];exact Y3 _ _
theorem jx4 (a:List Int)(y x:Int):j1u (a++[y]) x=(j1u a x||(y==x)):=by
 unfold j1u;rw[List.any_append];simp
theorem jry (x:Int):(n:Nat)->(l:List RC)->l.length=n->j1u (j0q l) x=true->j3N l x=true:=by
 intro n;induction n with
 |zero=>
  intro l f h;have:l=[]:=Qv.1 f;subst this;exact absurd h (by unfold j0q j1u;simp)
 |succ n i=>
  intro l f h;have d:l≠[]:=λe=>by rw[e]at f;simp at f
  have e:l=l.dropLast++[l.getLast d]:=(List.dropLast_concat_getLast d).symm;generalize p:l.dropLast=m at e;generalize l.getLast d=r at e;have b:m.length=n:=by rw[<-p,List.length_dropLast];omega
  subst e;rw[jcW]at h;rw[jkE,Xq];unfold j8q at h;cases k:r.1==1<;>rw[k]at h
  ·rw[Q0]at h;refine .inl (i m b ?_);cases g:(r.1==3)||(r.1==4)<;>rw[g]at h
   ·exact h
   ·rw[Q1]at h;unfold j1u at h ⊢;rw[List.any_filter]at h;obtain⟨y,q,j⟩:=Yn.1 h;exact Yn.2 ⟨y,q,(by rw[Q6]at j;exact j.2)⟩
  ·rw[Q1]at h;cases g:j1u (j0q m) r.2.1<;>rw[g]at h
   ·rw[Q0,jx4,Xq]at h;rcases h with h | h
    ·exact .inl (i m b h)
    ·exact .inr (by rw[h];rfl)
   ·exact .inl (i m b h)
theorem jpD {l:List RC}{x:Int}(h:j3N l x=false):j1u (j0q l) x=false:=by
 cases b:j1u (j0q l) x
 ·rfl
 ·rw[jry x _ l rfl b]at h;cases h
theorem jrw (o:List Int)(r:RC):(j8q o r).length<=o.length+1:=by
 unfold j8q;cases r.1==1
 ·cases (r.1==3)||(r.1==4)
  ·exact Nat.le_succ _
  ·exact Nat.le_succ_of_le (Y3 _ _)
 ·cases j1u o r.2.1
  ·show (o++[r.2.1]).length<=_;simp
  ·exact Nat.le_succ _
theorem jjx:(l:List RC)->(o:List Int)->(l.foldl j8q o).length<=o.length+l.length
 | [],o=>Qq _
 |r::l,o=>by
  have b:=jjx l (j8q o r);have d:=jrw o r;rw[QY,Q8];omega
theorem jrx (l:List RC):(j0q l).length<=l.length:=by
 have:=jjx l [];simpa[j0q]using this
theorem joM (x i:Int)(r:RC):(jmB x i r).length<=1:=by
 unfold jmB;cases (r.1==2)&&(r.2.1==x)
 ·exact Qg _
 ·exact Qq _
theorem jaM (l:List RC)(x:Int):(j08 l x).length<=l.length:=Z93 _ (joM x) 0 l
theorem jrd {α β:Type}{g:Int->α->List β}{P:β->Prop}:(j:Nat)->(l:List α)->(h:∀i,∀x∈l,∀y∈g i x,P y)->∀y∈Z4q g j l,P y
 |_,[],h,y,b=>by cases b
 |j,x::l,h,y,b=>by
  rcases Qr.1 b with b | b
  ·exact h _ x (by simp) y b
  ·exact jrd (j+1) l (λi x d=>h i x (Qa _ d)) y b
theorem jvL {l:List RC}{x:Int}{s:ST}(f:s∈j08 l x):∃r∈l,s=r.2.2:=
 jrd (P:=λs=>∃r∈l,s=r.2.2) 0 l (λi r d y b=>by
  unfold jmB at b;cases h:(r.1==2)&&(r.2.1==x)<;>rw[h]at b
  ·cases b
  ·exact⟨r,d,by simpa using b⟩) s f
def j2f (i:Int)(r:RC):List Int:=bif r.1==3 then [i+1] else []
def j04 (l:List RC):List Int:=bif j3R l then Z4q j2f 0 l else []
theorem jt9 (i:Int)(r:RC):(j2f i r).length<=1:=by
 unfold j2f;cases r.1==3
 ·exact Qg _
 ·exact Qq _
theorem jgR (l:List RC):(j04 l).length<=l.length:=by
 unfold j04;cases j3R l
 ·exact Qg _
 ·exact Z93 _ jt9 0 l
theorem juR {c:Int}:(l:List RC)->(j:Nat)->(c∈Z4q j2f j l↔∃(i:Nat) (h:i<l.length),c=(j:Int)+i+1/\(l[i].1==3)=true)
 | [],j=>by simp[Z4q]
 |r::l,j=>by
  show c∈j2f j r++Z4q j2f (j+1) l↔_
  rw[Qr,juR l (j+1)];constructor
  ·rintro (h | ⟨i,d,f,b⟩)
   ·unfold j2f at h;cases g:r.1==3<;>rw[g]at h
    ·cases h
    ·exact⟨0,Nat.succ_pos _,by simpa using h,g⟩
   ·exact⟨i+1,Nat.succ_lt_succ d,by omega,b⟩
  ·rintro⟨i,d,f,b⟩;cases i with
   |zero=>
    refine .inl ?_;have b:(r.1==3)=true:=b;unfold j2f;rw[b,Q1];simpa using f
   |succ i=>exact .inr ⟨i,Nat.lt_of_succ_lt_succ d,by omega,b⟩
end
end Go.PI.G
namespace Go.PI.G
open Go Go.PI
theorem jyl {d:D}(h:msr yD d<=1048576):dSm d:=by
 have j:msr yD d=0+(d.2.1.size+(msr (.slice yC) d.2.2.1+(msr (.slice .str) d.2.2.2.1+(d.2.2.2.2.1.size+d.2.2.2.2.2.size)))):=rfl;have b:msr (.slice yC) d.2.2.1<=1048576:=by omega
 have f:msr (.slice .str) d.2.2.2.1<=1048576:=by omega
 refine⟨by omega,j0f b,j0f f,λc g=> ?_,λx i=>j0b f i,by omega,by omega⟩
 have:=j0b b g;have k:msr yC c=c.1.size+msr (.pair (.int .i64) (.pair .bool (.pair .bool yV))) c.2:=rfl;omega
theorem jwk {s:ST}(h:msr yST s<=1048576):j12 s:=by
 have f:msr yST s=0+(s.2.1.size+(msr (.slice yV) s.2.2.1+(msr (.slice yV) s.2.2.2.1+msr yD s.2.2.2.2))):=rfl;have b:msr (.slice yV) s.2.2.1<=1048576:=by omega
 have d:msr (.slice yV) s.2.2.2.1<=1048576:=by omega
 exact⟨by omega,j0f b,j0f d,jyl (by omega)⟩
end Go.PI.G
namespace Go.PI.G
open Go Go.PI
end Go.PI.G
namespace Go.PI.G
open Go Go.PI
end Go.PI.G
