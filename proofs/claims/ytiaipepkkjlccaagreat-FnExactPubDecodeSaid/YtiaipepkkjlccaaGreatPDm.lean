/-
  Program's code interpreted over typed values; printed texts; plain laws. No conditions.
-/
import Derived.Test.YtiaipepkkjlccaaGreatPDl
import Derived.Test.YtiaipepkkjlccaaGreatPDd
import Derived.Test.YtiaipepkkjlccaaGreatPDj
import Derived.Test.YtiaipepkkjlccaaGreatPDg
import Derived.Test.YtiaipepkkjlccaaGreatPDk
import Derived.Test.YtiaipepkkjlccaaGreatPDh
import Derived.Test.YtiaipepkkjlccaaGreatPDe
import Derived.Test.YtiaipepkkjlccaaGreatPDf
set_option linter.unusedVariables false
set_option linter.unusedSimpArgs false
namespace Go.PI.G
open Go Go.PI Go.Proofs
theorem juA (t:T)(b:t.2.1.length<=1048576)(d:t.2.2.length<=1048576)(k:T->Res):j4L t k=k t:=by
 unfold j4L j0t;rw[jeY b,Q1,jeY d,Q1]
theorem jnl (c:List T)(f:msr (.slice yT) c<=1048576)(k:List T->Res):j54 c k=k c:=by
 obtain⟨h,ht⟩:=jgQ f;unfold j54 ji3;have:=Z9S c (λi b=>(i,b)) (λx=>[x]) 1048576 [] (step:=jaX c (nI c.length)) (λb=>k b) (λb=>k b) (by unfold LIM;omega) (λi d _=>by
  rw[j0Y,Qk,Qf];omega) (by simp) (λi b rec d j g=>by
  show j47 _ _ _ _ _ _=_
  unfold j47;obtain⟨l,m,p,q,r⟩:=ht _ (List.getElem_mem d);dsimp only;rw[ZaP d,cond_true,j00 d,cond_true,Zax _ _ _ d,juA _ (by omega) (by omega),ZaK (by unfold LIM;omega),cond_true,j01 (n:=(i:Int)+1) (by omega)]) (λb rec=>by
  show j47 _ _ _ _ _ _=_
  unfold j47;dsimp only;rw[ZaO,cond_false])
 refine this.trans ?_;rw[j0Y,Qk]
theorem jnm (c:List T)(d:D)(y:msr (.slice yT) c<=1048576)(f:j1a d=true)(k:Int->Res):j3l c d k=k (j0j c d):=by
 obtain⟨A,p⟩:=jgQ y;obtain⟨z,w⟩:=jju f;unfold j3l j0j;rw[j7n _ _ (by unfold LIM;omega)]
 cases q:(d.1==1)
 ·rw[Q0,Q0];rcases j0p c d.2.1 with⟨m,_⟩ | ⟨i,g,m,_⟩
  ·rw[m];rfl
  ·have l:decide (j07 c d.2.1<0)=false:=Q2 (by omega)
   rw[l,Q0,Q0,m,j00 g,Q1,Zax _ _ _ g];obtain⟨B,C,E,F,G⟩:=p _ (Q7 g);generalize c[i]=t at *;have b:∀n (K:Int->Res),j0n t n K=K (j03 t.2.1 n):=λn K=>j9R _ _ (by unfold LIM;omega) K
   unfold j6l j9p j6m j0B;have r:d.1≠1:=by simpa using q
   rcases z with h | h | h | h | h
   ·exact absurd h r
   ·rw[h];rfl
   ·have j:inb 0 d.2.2.1.length=true:=j00 (i:=0) (w h);rw[h];show (bif inb 0 d.2.2.1.length then _ else none)=_
    rw[j,Q1,b,jka];show _=k (bif !decide (j03 t.2.1 (nth zC d.2.2.1 0).1<0) then 5 else bif t.2.1.length==8 then 6 else 0)
    cases !decide (j03 t.2.1 (nth zC d.2.2.1 0).1<0)
    ·show (bif (nI t.2.1.length==(8:Int)) then k 6 else _)=_
     rw[show (nI t.2.1.length==(8:Int))=(t.2.1.length==8) from jqH _ 8]
     cases (t.2.1.length==8)<;>rfl
    ·rfl
   ·rw[h];simp only[show ((4:Int)==3)=false from rfl,show ((4:Int)==4)=true from rfl,show ((4:Int)==5)=false from rfl,Q0,Q1,b]
    cases decide (j03 t.2.1 d.2.2.2.2.1<0)
    ·rw[Q0,Q0,jpa _ _ (by unfold LIM;omega)]
     show (bif j9Q t.2.2 d.2.2.2.2.1 then k 8 else k 0)=k (bif j9Q t.2.2 d.2.2.2.2.1 then 8 else 0)
     cases j9Q t.2.2 d.2.2.2.2.1<;>rfl
    ·rfl
   ·rw[h];simp only[show ((5:Int)==3)=false from rfl,show ((5:Int)==4)=false from rfl,show ((5:Int)==5)=true from rfl,Q0,Q1,b,jka]
    cases !decide (j03 t.2.1 d.2.2.2.2.2<0)
    ·simp only[Q0];cases decide (j03 t.2.1 d.2.2.2.2.1<0)<;>rfl
    ·rfl
 ·rw[Q1,Q1,juf];cases decide (j07 c d.2.1<0)
  ·rfl
  ·rw[Q4,Q0,Q0,show (nI c.length==(6:Int))=(c.length==6) from jqH _ 6]
   cases (c.length==6)<;>rfl
theorem jui {α:Type}(p:α->Bool):(l:List α)->(i:Nat)->i<(l.takeWhile p).length->∃h:i<l.length,p l[i]=true
 | [],i,h=>by simp at h
 |x::l,i,h=>by
  cases b:p x
  ·rw[YI (by rw[b];simp)]at h;simp at h
  ·rw[YJ b,Q8]at h;cases i with
   |zero=>exact⟨by simp,b⟩
   |succ i=>
    obtain⟨f,d⟩:=jui p l i (by omega)
    exact⟨by rw[Q8];omega,d⟩
theorem juh {α:Type}(p:α->Bool):(l:List α)->(h:(l.takeWhile p).length<l.length)->p l[(l.takeWhile p).length]=false
 | [],h=>by simp at h
 |x::l,h=>by
  cases b:p x
  ·have e:(x::l).takeWhile p=[]:=YI (by rw[b];simp)
   simp only[e,QE,Yp];exact b
  ·have e:(x::l).takeWhile p=x::l.takeWhile p:=YJ b;simp only[e,Q8,Yo]at h ⊢;exact juh p l (by omega)
theorem jtr (d:D)(c:List T)(l:c.length<=1048576)(k:Int->Res):jbL d c Z1b 0 k=k (((c.takeWhile λy=>sLt y.1 d.2.1).length:Nat):Int):=by
 have j:(c.takeWhile λy=>sLt y.1 d.2.1).length<=c.length:=(List.takeWhile_sublist _).length_le
 refine Z3t (step:=j6f d c) (λi=>(i:Int)) (c.takeWhile λy=>sLt y.1 d.2.1).length k _ (λi g rec=> ?_) (λrec=> ?_) Z1b (Z2a (by omega))
 ·obtain⟨b,f⟩:=jui _ c i g;show j3h _ _ _ _ _=_
  unfold j3h;rw[ZaP b,Q1,j00 b,Q1,Zax _ _ _ b,f,Q1,j01 (n:=(i:Int)+1) (by omega)]
  rfl
 ·show j3h _ _ _ _ _=_
  unfold j3h;by_cases h:(c.takeWhile λy=>sLt y.1 d.2.1).length<c.length
  ·rw[ZaP h,Q1,j00 h,Q1,Zax _ _ _ h,juh (λy:T=>sLt y.1 d.2.1) c h,Q0]
  ·rw[Q2 (show ¬ (((c.takeWhile λy=>sLt y.1 d.2.1).length:Nat):Int)<nI c.length by unfold nI;omega),Q0]
end Go.PI.G
namespace Go.PI.G
open Go Go.PI Go.Proofs
theorem jy2 (l:List ByteArray)(v:ByteArray)(h:l.length<=LIM)(k:Int->Res):j11 l v k=k (Z9E (λx=>sEq v x) l):=by
 unfold j11 j6W;refine Z9R l (λi=>i) (λx=>sEq v x) (step:=j2n l v (nI l.length)) ((λ(_:Unit)=>k (-1)),(λ(t:Int)=>k t)) k h (λi rec b=> ?_) (λrec=> ?_)
 ·show j0k _ _ _ _ _ _ _=_
  unfold j0k;unfold LIM at h;rw[ZaP b,Q1,j00 b,Q1,Zax _ _ _ b,j01 (n:=(i:Int)+1) (by omega)]
 ·show j0k _ _ _ _ _ _ _=_
  unfold j0k;rw[ZaO,Q0]
end Go.PI.G
namespace Go.PI.G
open Go Go.PI Go.Proofs
theorem jtc {α:Type}{g:α->(Bool->Res)->Res}(q:α->Bool):(l:List α)->(∀x∈l,∀k,g x k=k (q x))->(d:List α)->(k:List α->Res)->dgE g l d k=k (d++l.filter λx=> !q x)
 | [],_,d,k=>by rw[List.filter_nil,Qe];rfl
 |x::l,h,d,k=>by
  show g x (λb=>dgE g l (bif b then d else d++[x]) k)=_
  rw[h x (by simp),jtc q l λy i=>h y (Qa _ i)]
  cases f:q x
  ·rw[Xs (by rw[f];rfl),Q0,Qb];rfl
  ·rw[Xr (by rw[f];simp),Q1]
theorem jv7 {α:Type}(p:α->Bool)(g:α->α)(l:List α)(i:Nat)(n:i<l.length)(d:p l[i]=true)(f:∀j (b:j<l.length),j≠i->p l[j]=false):l.map (λx=>bif p x then g x else x)=l.set i (g l[i]):=by
 apply Y0
 ·simp
 ·intro j k m;have b:j<l.length:=by simpa using k
  rw[Xn,List.getElem_set];by_cases e:i=j
  ·subst e;rw[QM rfl,d,Q1]
  ·rw[QN e,f j b λh=>e h.symm,Q0]
theorem map_none {α:Type}(p:α->Bool)(g:α->α)(l:List α)(h:∀x∈l,p x=false):l.map (λx=>bif p x then g x else x)=l:=by
 induction l with
 |nil=>rfl
 |cons x l d=>rw[Qz,h x (by simp),Q0,d λy b=>h y (Qa _ b)]
theorem jqZ {α:Type}{R:α->α->Prop}{l:List α}(h:l.Pairwise R){i j:Nat}(d:i<l.length)(f:j<l.length)(e:i≠j):R l[i] l[j]\/R l[j] l[i]:=by
 rcases Nat.lt_or_gt_of_ne e with b | b
 ·exact .inl (XE.1 h i j d f b)
 ·exact .inr (XE.1 h j i f d b)
theorem jgf (n:Nat):(Z9n n n&&true)=true:=by
 rw[Xm];exact Nat.beq_refl n
theorem jxp {l:List C}(k:j6a l=true)(n m:ByteArray){i:Nat}(f:i<l.length)(h:l[i].1=n):l.map (jaZ n m)=l.set i (m,l[i].2):=by
 have p:=((j6b l).1 k).2;have:jaZ n m=λc:C=>bif sEq c.1 n then (m,c.2) else c:=by
  funext c;unfold jaZ ren;cases sEq c.1 n<;>rfl
 rw[this];refine jv7 (λc:C=>sEq c.1 n) (λc=>(m,c.2)) l i f ((j0i _ _).2 h) λj g e=> ?_
 have:l[j].1≠n:=λd=>by
  rcases jqZ p f g e.symm with b | b
  ·exact b (h.trans d.symm)
  ·exact b (d.trans h.symm)
 cases q:sEq l[j].1 n
 ·rfl
 ·exact absurd ((j0i _ _).1 q) this
theorem jxq {cs:List C}{ks:List ByteArray}(q:j1D cs (-1) ks=true)(n m:ByteArray):ks.map (ren n m)=bif decide (Z9E (λx=>sEq n x) ks>=0) then ks.set (Z9E (λx=>sEq n x) ks).toNat m else ks:=by
 have w:=((j4A cs ks (-1)).1 q).2;have:ren n m=λs=>bif sEq s n then m else s:=by funext s;rfl
 rw[this];have d:∀a b:ByteArray,sEq a b=sEq b a:=λa b=>by
  rw[Ym,j0i,j0i];exact⟨Eq.symm,Eq.symm⟩
 rcases jcz (λx=>sEq n x) ks with⟨g,f⟩ | ⟨i,k,g,f,_⟩
 ·rw[g];exact map_none (λs=>sEq s n) (λ_=>m) ks λx z=>by rw[d];exact f x z
 ·rw[g,Q3 (by omega),Q1,QS]
  refine jv7 (λs=>sEq s n) (λ_=>m) ks i k (by rw[d];exact f) λj p e=> ?_
  have r:n=ks[i]:=(j0i _ _).1 f;cases y:sEq ks[j] n
  ·rfl
  ·have l:ks[j]=ks[i]:=((j0i _ _).1 y).trans r;rcases jqZ w k p e.symm with h | h<;>rw[l]at h<;>exact absurd h (Int.lt_irrefl _)
theorem jyb {α:Type}(z:α)(l:List α)(i:Nat)(b:i<l.length)(x:α):nth z (upd l (i:Int) x) (i:Int)=x:=by
 rw[ZaE,Zax _ _ _ (by simpa using b),List.getElem_set_self]
theorem jvo (c:List T)(d:D)(i:Nat)(b:i<c.length)(Q:c.length<=1048576)(ht:j06 c[i]=true)(K:tSm c[i])(l:j0B c[i] d=0)(I:d.1=2\/d.1=3\/d.1=4\/d.1=5)(w:d.1=3->0<d.2.2.1.length)(k:List T->Res) :
  j1O (i:Int) d.1 d c k=k (bif d.1==2 then c.eraseIdx i else c.set i (jcx c[i] d)):=by
 obtain⟨V,W,X,Y,Z⟩:=K;obtain⟨_,t1,t2,t3,L,M⟩:=(j5H _).1 ht;unfold j1O;have f:inb (i:Int) c.length=true:=j00 b;rcases I with h | h | h | h
 ·rw[h];simp only[show ((2:Int)==1)=false from rfl,show ((2:Int)==2)=true from rfl,Q0,Q1]
  unfold j5R je7;rw[j01 (n:=(i:Int)+1) (by omega),show Z8d (i:Int) ((i:Int)+1) c.length=true from jbJ (j:=i+1) ⟨by omega,by omega⟩,Q1,XR]
  rfl
 ·have w:=w h;have m:∀x:T,inb (i:Int) (c.set i x).length=true:=λx=>j00 (by simpa using b)
  have p:inb 0 d.2.2.1.length=true:=j00 (i:=0) w;rw[h];simp only[show ((3:Int)==1)=false from rfl,show ((3:Int)==2)=false from rfl,show ((3:Int)==3)=true from rfl,Q0,Q1]
  rw[f,Q1,p,Q1,Zax _ _ _ b,ZaK (by unfold LIM;omega),Q1,ZaE,m,Q1,jgf,Q1]
  unfold jcx jnP;rw[h];rfl
 ·rw[h];simp only[show ((4:Int)==1)=false from rfl,show ((4:Int)==2)=false from rfl,show ((4:Int)==3)=false from rfl,show ((4:Int)==4)=true from rfl,Q0,Q1]
  rw[f,Q1,Zax _ _ _ b];unfold j3I;rw[ZaK (by unfold LIM;omega),Q1,jtc (g:=λ(e:C) k=>jeb e d k) (λx:C=>sEq x.1 d.2.2.2.2.1) c[i].2.1 (λx R U=>rfl),Qk]
  simp only[jgf,Q1,ZaE];unfold jcx jkt;rw[h];rfl
 ·have P:¬ j03 c[i].2.1 d.2.2.2.2.1<0:=λA=>by
   unfold j0B at l;rw[h]at l;simp only[show ((5:Int)==3)=false from rfl,show ((5:Int)==4)=false from rfl,show ((5:Int)==5)=true from rfl,Q0,Q1,Q3 A]at l
   cases H: !decide (j03 c[i].2.1 d.2.2.2.2.2<0)<;>rw[H]at l<;>cases l
  rcases j1h c[i].2.1 d.2.2.2.2.1 with⟨B,_⟩ | ⟨j,y,B,z,_⟩
  ·omega
  rw[h];simp only[show ((5:Int)==1)=false from rfl,show ((5:Int)==2)=false from rfl,show ((5:Int)==3)=false from rfl,show ((5:Int)==4)=false from rfl,show ((5:Int)==5)=true from rfl,Q0,Q1]
  rw[f,Q1,j9R _ _ (by rw[Zax _ _ _ b];unfold LIM;omega)]
  simp only[Zax _ _ _ b,jyb _ _ _ b];rw[B];simp only[Zax _ _ _ y];rw[j00 y,Q1,jy2 _ _ (by unfold LIM;omega)]
  have E:=jxp L d.2.2.2.2.1 d.2.2.2.2.2 y z;have F:=jxq M d.2.2.2.2.1 d.2.2.2.2.2;have G:jcx c[i] d=(c[i].1,c[i].2.1.map (jaZ d.2.2.2.2.1 d.2.2.2.2.2),c[i].2.2.map (ren d.2.2.2.2.1 d.2.2.2.2.2)):=by
   unfold jcx ji8;rw[h];rfl
  rw[G,E,F];rcases jcz (λx=>sEq d.2.2.2.2.1 x) c[i].2.2 with⟨r,_⟩ | ⟨q,J,r,_,_⟩
  ·rw[r,ZaE,ZaE];rfl
  ·rw[r,Q3 (by omega),Q1,Q1,j00 J,Q1]
   simp only[ZaE,QS];rw[List.set_set]
theorem juw (c:List T)(d:D)(z:msr (.slice yT) c<=1048576)(n:dSm d)(k:List T->Int->Res):j61 c d k=k (jiM c d).1 (jiM c d).2:=by
 obtain⟨G,C⟩:=jgQ z;unfold j61 jiM;rw[jp8 c z];cases A:j2Z c
 ·rfl
 rw[Q4,Q0,XY,jke d n];cases m:j1a d
 ·rfl
 rw[Q4,Q0,Q0,jnm _ _ z m,jnl c z,j7n _ _ (by unfold LIM;omega)]
 obtain⟨L,H⟩:=jju m;cases f:(j0j c d != 0);rotate_left
 ·rfl
 rw[Q0,Q0];have f:j0j c d=0:=by simpa using f
 have B:=(j0h c).1 A;by_cases F:d.1=1
 ·unfold j0j at f;unfold j1n;rw[F]at f ⊢;simp only[show ((1:Int)==1)=true from rfl,Q1]at f ⊢
  rcases j0p c d.2.1 with⟨w,r⟩ | ⟨i,j,w,_⟩
  ·unfold j1O;simp only[show ((1:Int)==1)=true from rfl,Q1]
   rw[jtr _ _ G,jnq _ n];unfold j5S jiP;obtain⟨p,M,g,q⟩:=jv0 (R:=tR) (λa b h=>jwu h) (x:=((d.2.1,d.2.2.1,d.2.2.2.1):T)) (l:=c) (λy K=>jmn λe=>r y K e.symm)
   have g:p=(c.takeWhile λy=>sLt y.1 d.2.1).length:=g
   rw[<-g];have I:jnV (p:Int) c.length [((d.2.1,d.2.2.1,d.2.2.2.1):T)].length=true:=Q3 ⟨by omega,by omega,by simp,by simp;unfold LIM;omega⟩
   rw[I,Q1,q,QS,Qb];rfl
  ·rw[Q2 (by omega)]at f
   cases f
 ·have J:d.1=2\/d.1=3\/d.1=4\/d.1=5:=by omega
  unfold j0j at f;unfold j1n;have E:(d.1==1)=false:=by simpa using F
  rw[E,Q0]at f;rw[E,Q0];rcases j0p c d.2.1 with⟨w,r⟩ | ⟨i,j,w,_⟩
  ·rw[Q3 (by omega)]at f
   cases f
  ·rw[Q2 (by omega),Q0,w,Zax _ _ _ j]at f
   rw[w,Zax _ _ _ j,QS,jvo c d i j G (B.2.1 _ (Q7 j)) (C _ (Q7 j)) f J H]
end Go.PI.G
namespace Go.PI.G
open Go Go.PI Go.Proofs
theorem j9S (l:List (List V))(h:l.length<=1048576)(f:∀x∈l,x.length<=1048576)(k:List (List V)->Res):j0A l k=k l:=by
 unfold j0A jgY;have:=Z9S l (λi b=>(b,i)) (λx=>[x]) 1048576 [] (step:=j9U l (nI l.length)) (λb=>k b) (λb=>k b) (by unfold LIM;omega) (λi d _=>by
  rw[j0Y,Qk,Qf];omega) (by simp) (λi b rec d j g=>by
  show j3k _ _ _ _ _ _=_
  unfold j3k j1j;dsimp only;rw[ZaP d,cond_true,j00 d,cond_true,Zax _ _ _ d,jeY (f _ (List.getElem_mem d)),cond_true,ZaK (by unfold LIM;omega),cond_true,j01 (n:=(i:Int)+1) (by omega)]) (λb rec=>by
  show j3k _ _ _ _ _ _=_
  unfold j3k;dsimp only;rw[ZaO,cond_false])
 refine this.trans ?_;rw[j0Y,Qk]
theorem jpc (t:T)(h:msr yT t<=1048576)(ht:j06 t=true)(l:List (List V))(r:List V)(g:∀x∈l,x.length=t.2.1.length)(p:l.length<=60)(j:r.length=t.2.1.length)(k:Int->Res) :
  jeh l t r Z1b 0 k=k (((l.takeWhile λy=>kR t y r).length:Nat):Int):=by
 have f:∀x:List V,(j09 t x).length<=LIM:=λx=>by
  rw[jbM];have:=(j3b h).2.2.1;unfold LIM;omega
 have q:(l.takeWhile λy=>kR t y r).length<=l.length:=(List.takeWhile_sublist _).length_le
 refine Z3t (step:=j56 l t r) (λi=>(i:Int)) (l.takeWhile λy=>kR t y r).length k _ (λi m rec=> ?_) (λrec=> ?_) Z1b (Z2a (by omega))
 ·obtain⟨b,d⟩:=jui _ l i m;have d:klt (j09 t l[i]) (j09 t r)=true:=d;show j31 _ _ _ _ _ _=_
  unfold j31;rw[ZaP b,Q1,j00 b,Q1,Zax _ _ _ b,j4y t h ht _ (g _ (Q7 b)),j4y t h ht r j,jea _ _ (f _),d,Q1,j01 (n:=(i:Int)+1) (by omega)]
  rfl
 ·show j31 _ _ _ _ _ _=_
  unfold j31;by_cases b:(l.takeWhile λy=>kR t y r).length<l.length
  ·have d:klt (j09 t l[(l.takeWhile λy=>kR t y r).length]) (j09 t r)=false:=juh (λy=>kR t y r) l b
   rw[ZaP b,Q1,j00 b,Q1,Zax _ _ _ b,j4y t h ht _ (g _ (Q7 b)),j4y t h ht r j,jea _ _ (f _),d,Q0]
  ·rw[Q2 (show ¬ (((l.takeWhile λy=>kR t y r).length:Nat):Int)<nI l.length by unfold nI;omega),Q0]
theorem jvs (t:T):∀a b:List V,kR t a b=true->kR t b a=false:=λa b h=>jwf h
theorem jl4 (t:T)(h:msr yT t<=1048576)(ht:j06 t=true)(l:List (List V))(r:List V)(n:∀x∈l,j0z t.2.1 x=true)(f:l.length<=60)(q:j0z t.2.1 r=true)(g:∀x∈l,j09 t x≠j09 t r)(k:List (List V)->Res) :
  j39 t l r k=k (jkl t l r):=by
 have A:=(j3b h).2.1;have b:∀x∈l,x.length=t.2.1.length:=λx m=>j0E (n x m)
 have j:=j0E q;unfold j39;rw[jpc t h ht l r b f j,j9S l (by omega) (λx m=>by rw[b x m];omega)]
 unfold j1j j72 jiP;rw[jeY (by omega),Q1]
 obtain⟨p,B,i,d⟩:=jv0 (R:=kR t) (jvs t) (x:=r) (l:=l) (λy w=>jty ht q (n y w) (λe=>g y w e.symm))
 rw[<-i];have z:jnV (p:Int) l.length [r].length=true:=Q3 ⟨by omega,by omega,by simp,by simp;unfold LIM;omega⟩
 dsimp only;rw[z,cond_true,Int.toNat_natCast,List.append_assoc];unfold jkl;rw[d];rfl
theorem jxN {t:T}{l:List (List V)}{b:List V}(h:j0a t l b<0):∀x∈l,j09 t x≠b:=jtJ h
theorem jse (t:T)(h:msr yT t<=1048576)(l:List (List V))(r:List V)(k:List (List V)->Int->Res):j92 t l r k=k (j7C t l r).1 (j7C t l r).2:=by
 unfold j92 j7C;rw[jbi t h];cases d:j0e t l
 ·rfl
 obtain⟨ht,g,i⟩:=j0s d;rw[Q4,Q0,Q0,jkf t h];cases f:j0z t.2.1 r
 ·rfl
 rw[Q4,Q0,Q0,j4y t h ht r (j0E f),j4Z t h l d,jku];by_cases b:j0a t l (j09 t r)<0;rotate_left
 ·rw[Q2 b];rfl
 rw[Q3 b,Q4,Q0,Q0,show (nI l.length==(60:Int))=(l.length==60) from jv1 _ 60]
 cases (l.length==60)
 ·rw[Q0,Q0,jl4 t h ht l r i g f (jxN b)]
 ·rfl
theorem jwe {t:T}(ht:j06 t=true){n:ByteArray}(d:n∈t.2.2)(v:V):j4Y (nth zC t.2.1 (j03 t.2.1 n)) v=(j0w v&&(v.1==(nth zC t.2.1 (j03 t.2.1 n)).2.1)):=by
 have b:=(((j4A _ _ _).1 ((j5H t).1 ht).2.2.2.2.2).1 n d).2;unfold j4Y;rw[b,Q4,XF,Bool.or_false]
theorem jlV (t:T)(h:msr yT t<=1048576)(b:List V)(k:Bool->Res):j6g t b k=k (jcL t b):=by
 unfold j6g jcL;obtain⟨p,q,r,w,y⟩:=j3b h;rw[jkh t h];cases ht:j06 t
 ·rfl
 rw[Q4,Q0,Qd];by_cases f:b.length=t.2.2.length;rotate_left
 ·rw[jpg f,Q1,Q2 f,QW]
 rw[jpf f,Q0,Q3 f,Qd];unfold jfp;have:=Z9O t.2.2 (λi=>i) (λi n=> !j4Y (nth zC t.2.1 (j03 t.2.1 n)) (nth zV b (i:Int))) (step:=j6h b t.2.2 (nI t.2.2.length) t) ((λ(_:Unit)=>k true),(λ(_:Unit)=>k false)) (k true) (k false) (by unfold LIM;omega) (λi rec d=>by
  have g:=jwe ht (Q7 d) (nth zV b (i:Int));obtain⟨j,l,m⟩:=jtA ht (Q7 d);show j3E _ _ _ _ _ _ _ _=_
  unfold j3E;rw[g,ZaP d,Q1,j00 d,Q1,j00 (f ▸ d),Q1,jas,Zax _ _ _ d];cases j0w (nth zV b (i:Int))
  ·rfl
  ·rw[Q4,Q0,Q1,j9R _ _ (by unfold LIM;omega),m,j00 l,Q1,j01 (n:=(i:Int)+1) (by omega),Qd]
   rfl) (λrec=>by
  show j3E _ _ _ _ _ _ _ _=_
  unfold j3E;rw[ZaO,Q0])
 refine this.trans ?_;cases Z70 (λi n=> !j4Y (nth zC t.2.1 (j03 t.2.1 n)) (nth zV b (i:Int))) 0 t.2.2<;>rfl
theorem jrl (l:List (List V))(i:Nat)(b:i<l.length)(d:l.length<=60)(k:List (List V)->Res):j0Z l (i:Int) (Z9J ((i:Int)+1)) k=k (l.eraseIdx i):=by
 unfold j0Z je7;rw[j01 (n:=(i:Int)+1) (by omega),show Z8d (i:Int) ((i:Int)+1) l.length=true from jbJ (j:=i+1) ⟨by omega,by omega⟩,Q1,XR]
 rfl
theorem jsf (t:T)(h:msr yT t<=1048576)(l:List (List V))(d r:List V)(k:List (List V)->Int->Res):j93 t l d r k=k (j7D t l d r).1 (j7D t l d r).2:=by
 unfold j93 j7D;rw[jbi t h];cases g:j0e t l
 ·rfl
 obtain⟨ht,D,H⟩:=j0s g;rw[Q4,Q0,Q0,jkf t h];cases w:j0z t.2.1 r
 ·rfl
 rw[Q4,Q0,Q0,jlV t h];cases jcL t d
 ·rfl
 rw[Q4,Q0,XY,j4Z t h l g];by_cases f:j0a t l d<0
 ·rw[Q3 f];rfl
 rw[Q2 f,Q0,Q0,j4y t h ht r (j0E w),jrI g f];obtain⟨i,A,m⟩:=jia f;have p:=jhX g i;obtain⟨_,B,C⟩:=j0s p;have b:=jrI g (now:=j09 t r) f;rw[m,QS]at b;have n:(j09 t r).length<=LIM:=by
  rw[jbM];have:=(j3b h).2.2.1;unfold LIM;omega
 unfold j7s;rw[jhZ _ _ n,m,QS,j4Z t h l g,jku];have j:decide (j0a t (l.eraseIdx i) (j09 t r)<0)=true->j0A l (λE=>j0Z E (i:Int) (Z9J ((i:Int)+1)) λF=>j39 t F r λG=>k G 0)=k (jkl t (l.eraseIdx i) r) 0:=λz=>by
  rw[j9S l (by omega) (jjF h g),jrl l i A D,jl4 t h ht _ r C B w (jxN (QT z))]
 cases q:j2c zV veq (j09 t r) d
 ·rw[q]at b;rw[QQ,Q1,Qd];rw[QQ,Qd]at b;cases y: !decide (j0a t l (j09 t r)<0)
  ·rw[y]at b;rw[Q0,Q0,j4Z t h l g,m];exact j (by simpa using b)
  ·rfl
 ·rw[q]at b;rw[Q4,Q0,QW,Q0,j4Z t h l g,m];exact j (by simpa using b)
theorem jsd (t:T)(h:msr yT t<=1048576)(l:List (List V))(b:List V)(k:List (List V)->Int->Res):j91 t l b k=k (j7B t l b).1 (j7B t l b).2:=by
 unfold j91 j7B;rw[jbi t h];cases f:j0e t l
 ·rfl
 obtain⟨ht,m,n⟩:=j0s f;rw[Q4,Q0,Q0,jlV t h];cases jcL t b
 ·rfl
 rw[Q4,Q0,XY,j4Z t h l f];by_cases d:j0a t l b<0
 ·rw[Q3 d];rfl
 rw[Q2 d,Q0,Q0];obtain⟨i,j,g⟩:=jia d;rw[j4Z t h l f,g,QS,j9S l (by omega) (jjF h f),jrl l i j m]
end Go.PI.G
namespace Go.PI.G
open Go Go.PI Go.Proofs
theorem jvU {t:T}{d:D}(g:d.2.1=t.1)(f:d.1≠1):j0j [t] d=j0B t d:=by
 have b:j07 [t] d.2.1=(0:Int):=by
  have:=jim (c:=[t]) (by simp) (i:=0) (by simp)
  rw[g];exact this
 unfold j0j;rw[show (d.1==1)=false by simpa using f,Q0,b]
 rfl
theorem jtl (d:D)(l:List (List V))(m:l.length<=60)(j:∀x∈l,x.length<=1048576)(h:0<d.2.2.1.length)(k:List (List V)->Res):j9l (nI l.length) d Z1b l 0 k=k (l.map λx=>x++[(nth zC d.2.2.1 0).2.2.2.2]):=by
 unfold j9l;have:=Z3t (step:=j6Z (nI l.length) d) (λi=>((l.take i).map (λx:List V=>x++[(nth zC d.2.2.1 0).2.2.2.2])++l.drop i,(i:Int))) l.length k (k (l.map λx=>x++[(nth zC d.2.2.1 0).2.2.2.2])) (λi b rec=> ?_) (λrec=> ?_) Z1b (Z2a (by omega))
 ·refine Y4 ?_ this;simp
 ·show j42 _ _ _ _ _ _=_
  unfold j42;dsimp only;have p:=j _ (List.getElem_mem b);have g:inb (i:Int) ((l.take i).map (λx:List V=>x++[(nth zC d.2.2.1 0).2.2.2.2])++l.drop i).length=true:=j00 (by rw[jjw];exact b)
  have f:∀y:List V,inb (i:Int) (((l.take i).map (λx:List V=>x++[(nth zC d.2.2.1 0).2.2.2.2])++l.drop i).set i y).length=true:=λy=>j00 (by rw[List.length_set,jjw];exact b)
  rw[ZaP b,Q1,g,Q1,show inb 0 d.2.2.1.length=true from j00 (i:=0) h,Q1,jtg _ _ _ _ b,ZaK (by unfold LIM;omega),Q1,ZaE,f,Q1,jgf,Q1,j01 (n:=(i:Int)+1) (by omega),<-jth _ _ _ b]
  rfl
 ·show j42 _ _ _ _ _ _=_
  unfold j42;dsimp only;rw[ZaO,cond_false,List.take_length,List.drop_length,List.append_nil]
theorem jtn (a:Nat)(l:List (List V))(z:l.length<=60)(q:∀x∈l,a<x.length/\x.length<=1048576)(k:List (List V)->Res):j9m (a:Int) (nI l.length) Z1b l 0 k=k (l.map λx=>x.eraseIdx a):=by
 unfold j9m;have:=Z3t (step:=j70 (a:Int) (nI l.length)) (λi=>((l.take i).map (λx:List V=>x.eraseIdx a)++l.drop i,(i:Int))) l.length k (k (l.map λx=>x.eraseIdx a)) (λi b rec=> ?_) (λrec=> ?_) Z1b (Z2a (by omega))
 ·refine Y4 ?_ this;simp
 ·show j43 _ _ _ _ _ _=_
  unfold j43 jb3 je7;dsimp only;obtain⟨r,w⟩:=q _ (List.getElem_mem b);have f:inb (i:Int) ((l.take i).map (λx:List V=>x.eraseIdx a)++l.drop i).length=true:=j00 (by rw[jjw];exact b)
  have d:∀y:List V,inb (i:Int) (((l.take i).map (λx:List V=>x.eraseIdx a)++l.drop i).set i y).length=true:=λy=>j00 (by rw[List.length_set,jjw];exact b)
  have p:l[i].take a++l[i].drop (a+1)=l[i].eraseIdx a:=(XR _ _).symm;have m:Z8d (a:Int) ((a:Int)+1) l[i].length=true:=jbJ (j:=a+1) ⟨by omega,by omega⟩
  have g:(a:Int).toNat=a:=QS a;have h:((a:Int)+1).toNat=a+1:=by omega
  rw[ZaP b,Q1,f,Q1,jtg _ _ _ _ b,j01 (n:=(a:Int)+1) (by omega),m,Q1,g,h,p,ZaE,d,Q1,jgf,Q1,j01 (n:=(i:Int)+1) (by omega),<-jth _ _ _ b]
  rfl
 ·show j43 _ _ _ _ _ _=_
  unfold j43;dsimp only;rw[ZaO,cond_false,List.take_length,List.drop_length,List.append_nil]
theorem jqB (t:T)(h:msr yT t<=1048576)(l:List (List V))(g:j0e t l=true)(d:D)(n:dSm d)(m:j1a d=true)(w:d.2.1=t.1)(i:d.1≠1)(k:List (List V)->Int->Res) :
  j7t t l d k=k (bif j0B t d != 0 then [] else bif d.1==2 then [] else jiL t d l) (j0B t d):=by
 obtain⟨ht,z,F⟩:=j0s g;obtain⟨f,A⟩:=jju m;unfold j7t j6k;rw[jbi t h,g,Q4,Q0,jke d n,m,Q4,Q0];have r:sNe d.2.1 t.1=false:=by unfold sNe;rw[w];simp
 rw[r,Q0,show (d.1==1)=false by simpa using i]
 dsimp only;rw[cond_false,jnm _ _ (jqu ht).2 m,jvU w i];cases B:(j0B t d != 0);rotate_left
 ·rfl
 have b:j0B t d=0:=by simpa using B
 have q:=(j3b h).2.1;rw[Q0,Q0,j9S l (by omega) (jjF h g),b]
 rcases f with e | e | e | e | e
 ·exact absurd e i
 ·rw[e];rfl
 ·unfold jiL;rw[e];simp only[show ((3:Int)==2)=false from rfl,show ((3:Int)==3)=true from rfl,Q0,Q1]
  rw[jtl d l z (jjF h g) (A e)]
 ·unfold jiL;have G:¬ j03 t.2.1 d.2.2.2.2.1<0:=λp=>by
   unfold j0B at b;rw[e]at b;simp only[show ((4:Int)==3)=false from rfl,show ((4:Int)==4)=true from rfl,Q0,Q1,Q3 p]at b
   cases b
  rcases j1h t.2.1 d.2.2.2.2.1 with⟨y,_⟩ | ⟨j,C,y,_,_⟩
  ·omega
  rw[e];simp only[show ((4:Int)==2)=false from rfl,show ((4:Int)==3)=false from rfl,show ((4:Int)==4)=true from rfl,Q0,Q1]
  rw[j9R _ _ (by unfold LIM;omega),y,jtn j l z (λx E=>by rw[j0E (F x E)];exact⟨C,q⟩)]
  rfl
 ·unfold jiL;rw[e];rfl
end Go.PI.G
namespace Go.PI.G
open Go Go.PI Go.Proofs
theorem je5 {c:List T}(h:j2Z c=true):msr (.slice yT) c<=1048576:=by
 obtain⟨b,d,_⟩:=(j0h c).1 h;have:=j4P (e:=yT) 400 c (λt ht=>jen (d t ht))
 have f:c.length * (400+1)<=6 * 401:=YK b (Qq _);omega
theorem jmy (l:List (List V))(h:l.length<=1048576)(f:∀x∈l,x.length<=1048576)(k:List (List V)->Res):j84 l k=k l:=by
 unfold j84 jik;have:=Z9S l (λi b=>(b,i)) (λx=>[x]) 1048576 [] (step:=jb8 l (nI l.length)) (λb=>k b) (λb=>k b) (by unfold LIM;omega) (λi d _=>by
  rw[j0Y,Qk,Qf];omega) (by simp) (λi b rec d j g=>by
  show j4s _ _ _ _ _ _=_
  unfold j4s j0H;dsimp only;rw[ZaP d,cond_true,j00 d,cond_true,Zax _ _ _ d,jeY (f _ (List.getElem_mem d)),cond_true,ZaK (by unfold LIM;omega),cond_true,j01 (n:=(i:Int)+1) (by omega)]) (λb rec=>by
  show j4s _ _ _ _ _ _=_
  unfold j4s;dsimp only;rw[ZaO,cond_false])
 refine this.trans ?_;rw[j0Y,Qk]
theorem jnU {d:DB}(h:dbB d=true):j2Z d.1=true/\d.1.length<=6/\d.2.length=d.1.length/\∀x∈d.2,x.length<=60/\∀r∈x,r.length<=1048576:=by
 obtain⟨b,k,l⟩:=(j1m d).1 h;have n:=je5 b;refine⟨b,((j0h _).1 b).1,k,λx p=> ?_⟩
 obtain⟨i,m,rfl⟩:=X2.1 p;have g:=l i (by omega) m
 refine⟨(j0s g).2.1,λr f=> ?_⟩
 have q:=j0E ((j0s g).2.2 r f);have j:=(jgQ n).2 _ (Q7 (show i<d.1.length by omega))
 have:=j.2.1;omega
theorem jpZ (d:DB)(h:dbB d=true)(k:DB->Res):j2r d k=k d:=by
 obtain⟨g,m,p,j⟩:=jnU h;unfold j2r;rw[jnw _ (je5 g)];unfold jdr;have:=Z9S d.2 (λi b=>(i,(d.1,b))) (λx=>[x]) 1048576 [] (step:=j7e d.2 (nI d.2.length)) (λb=>k b) (λb=>k (d.1,b)) (by unfold LIM;omega) (λi f _=>by
  rw[j0Y,Qk,Qf];omega) (by simp) (λi b rec f r q=>by
  show j4u _ _ _ _ _ _=_
  unfold j4u;obtain⟨w,l⟩:=j _ (List.getElem_mem f);dsimp only;rw[ZaP f,cond_true,j00 f,cond_true,Zax _ _ _ f,jmy _ (by omega) l,ZaK (by unfold LIM;omega),cond_true,j01 (n:=(i:Int)+1) (by omega)]) (λb rec=>by
  show j4u _ _ _ _ _ _=_
  unfold j4u;dsimp only;rw[ZaO,cond_false])
 refine this.trans ?_;rw[j0Y,Qk]
theorem jkd (d:DB)(h:dbB d=true)(k:DB->Res):j1C d k=k d:=by
 obtain⟨g,m,p,j⟩:=jnU h;unfold j1C;rw[jnl _ (je5 g)];unfold jeg;have:=Z9S d.2 (λi b=>(i,(d.1,b))) (λx=>[x]) 1048576 [] (step:=j8m d.2 (nI d.2.length)) (λb=>k b) (λb=>k (d.1,b)) (by unfold LIM;omega) (λi f _=>by
  rw[j0Y,Qk,Qf];omega) (by simp) (λi b rec f r q=>by
  show j55 _ _ _ _ _ _=_
  unfold j55;obtain⟨w,l⟩:=j _ (List.getElem_mem f);dsimp only;rw[ZaP f,cond_true,j00 f,cond_true,Zax _ _ _ f,j9S _ (by omega) l,ZaK (by unfold LIM;omega),cond_true,j01 (n:=(i:Int)+1) (by omega)]) (λb rec=>by
  show j55 _ _ _ _ _ _=_
  unfold j55;dsimp only;rw[ZaO,cond_false])
 refine this.trans ?_;rw[j0Y,Qk]
theorem jub (t:T)(h:msr yT t<=1048576)(l:List (List V))(s:ST)(b:s.1≠5)(k:List (List V)->Int->Res):j1G t l s k=k (j3H t l s).1 (j3H t l s).2:=by
 unfold j1G j3H;cases (s.1==1)
 ·rw[Q0,Q0];cases (s.1==2)
  ·rw[Q0,Q0];cases (s.1==3)
   ·rw[Q0,Q0,show (s.1==5)=false by simpa using b]
    rfl
   ·rw[Q1,Q1,jsD t h]
  ·rw[Q1,Q1,jsF t h]
 ·rw[Q1,Q1,jsE t h]
end Go.PI.G
namespace Go.PI.G
open Go Go.PI Go.Proofs
theorem jym (b:Int)(s:ST)(a z:Res):jaa b s (λ_=>a) (λ_=>z)=bif decide (b<0)&& !((s.1==5)&&(s.2.2.2.2.1==1)) then z else a:=by
 unfold jaa;cases decide (b<0)
 ·rfl
 ·rw[Q1,Qd];unfold bne;cases (s.1==5)
  ·rfl
  ·cases (s.2.2.2.2.1==1)<;>rfl
theorem juQ {t:T}{l:List (List V)}{s:ST}:0<=(j3H t l s).2/\(j3H t l s).2<=5:=by
 unfold j3H j7C j7D j7B;cases (s.1==1)
 ·cases (s.1==2)
  ·cases (s.1==3)
   ·simp
   ·simp only[Q1,Q0];cases j0e t l
    ·simp
    ·cases (!jcL t s.2.2.1||decide (j0a t l s.2.2.1<0))<;>simp
  ·simp only[Q1,Q0];cases j0e t l
   ·simp
   ·cases j0z t.2.1 s.2.2.2.1
    ·simp
    ·cases (!jcL t s.2.2.1||decide (j0a t l s.2.2.1<0))
     ·cases !decide (j0a t (l.eraseIdx (j0a t l s.2.2.1).toNat) (j09 t s.2.2.2.1)<0)<;>simp
     ·simp
 ·simp only[Q1,Q0];cases j0e t l
  ·simp
  ·cases j0z t.2.1 s.2.2.2.1
   ·simp
   ·cases !decide (j0a t l (j09 t s.2.2.2.1)<0)
    ·cases (l.length==60)<;>simp
    ·simp
theorem ju5 (d:DB)(h:dbB d=true)(s:ST)(q:s.1≠5)(i:Nat)(f:i<d.1.length)(g:j07 d.1 s.2.1=(i:Int))(k:DB->Int->Res) :
  (bif inb (i:Int) d.1.length then
          bif inb (i:Int) d.2.length then
           j1G (nth zT d.1 (i:Int)) (nth [] d.2 (i:Int)) s λ(w:List (List V)) (r:Int)=>
            bif (r != 0) then
             k ([],[]) (Z9J (10+r))
            else
             j2r d λ(m:DB)=>
              bif inb (i:Int) (List.length m.2) then
               k (m.1,upd m.2 (i:Int) w) 0
              else none
          else none
         else none)=k (j1o d s).1 (j1o d s).2:=by
 obtain⟨p,y,z⟩:=(j1m d).1 h;have b:i<d.2.length:=by omega
 have B:=(jgQ (je5 p)).2 _ (Q7 f);have ht:j06 d.1[i]=true:=((j0h _).1 p).2.1 _ (Q7 f);have j:msr yT d.1[i]<=1048576:=Qx (jen ht) (by omega)
 rw[j00 f,Q1,j00 b,Q1,Zax _ _ _ f,Zax _ _ _ b,jub _ j _ _ q];unfold j1o;rw[g,Q2 (by omega),QW,Q0,show (s.1==5)=false by simpa using q,Q0,Zax _ _ _ f,Zax _ _ _ b]
 have A:=juQ (t:=d.1[i]) (l:=d.2[i]) (s:=s);cases C:((j3H d.1[i] d.2[i] s).2 != 0)
 ·rw[Q0,Q0,jpZ d h,j00 b,Q1,ZaE,QS]
 ·rw[Q1,Q1,j01 (n:=10+(j3H d.1[i] d.2[i] s).2) (by omega)]
end Go.PI.G
namespace Go.PI.G
open Go Go.PI Go.Proofs
noncomputable def jby (d:DB)(x:D)(u:T):List (List V):=
 bif decide (j07 d.1 u.1>=0)&&sEq u.1 x.2.1 then (bif x.1==2 then [] else jiL (nth zT d.1 (j07 d.1 u.1)) x (nth [] d.2 (j07 d.1 u.1)))
 else bif decide (j07 d.1 u.1>=0) then nth [] d.2 (j07 d.1 u.1) else []
theorem jvH (d:DB)(h:dbB d=true)(s:ST)(z:s.1=5)(B:s.2.2.2.2.2.1=s.2.1)(q:dSm s.2.2.2.2)(E:j1a s.2.2.2.2=true)(l:j0j d.1 s.2.2.2.2=0)(u:T)(k:List (List V)->Res) :
  (j1M d.1 u.1 λ(r:Int)=>j4t r s u λ(t:Bool)=>j2C r t d s [] k)=k (jby d s.2.2.2.2 u):=by
 obtain⟨C,J,D⟩:=(j1m d).1 h;obtain⟨_,G,_,g⟩:=jnU h;rw[jdh _ _ (by unfold LIM;omega)]
 unfold j4t j2C jby
 rw[B];rcases j0p d.1 u.1 with⟨p,_⟩ | ⟨i,n,p,A⟩
 ·rw[p];rfl
 ·have w:decide (j07 d.1 u.1>=0)=true:=Q3 (by omega)
  have f:i<d.2.length:=by omega
  rw[w,Qd,Q1,p,j00 n,j00 f,Zax _ _ _ n,Zax _ _ _ f];cases H:sEq u.1 s.2.1
  ·obtain⟨K,I⟩:=g _ (Q7 f);simp only[Q0,Q1];rw[jmy _ (by omega) I]
  ·have b:u.1=s.2.1:=(j0i _ _).1 H;have ht:j06 d.1[i]=true:=((j0h _).1 C).2.1 _ (Q7 n);have y:msr yT d.1[i]<=1048576:=Qx (jen ht) (by omega)
   have m:j07 d.1 s.2.2.2.2.2.1=(i:Int):=by rw[B,<-b];exact p
   have j:s.2.2.2.2.1≠1:=λe=>by
    unfold j0j at l;rw[e,m]at l;rw[Q2 (show ¬ (i:Int)<0 by omega)]at l
    cases l
   have F:j0B d.1[i] s.2.2.2.2=0:=by
    unfold j0j at l;rw[show (s.2.2.2.2.1==1)=false by simpa using j,Q0,m,Q2 (show ¬ (i:Int)<0 by omega),Q0,Zax _ _ _ n]at l
    exact l
   simp only[Q1];unfold j1G;rw[z];simp only[show ((5:Int)==1)=false from rfl,show ((5:Int)==2)=false from rfl,show ((5:Int)==3)=false from rfl,show ((5:Int)==5)=true from rfl,Q0,Q1,Z9P]
   rw[jrb _ y _ (D i n f) _ q E (by rw[B,<-b];exact A.symm) j,F]
   rfl
theorem jta {c:List T}{d:D}(b:j2Z c=true)(f:j1a d=true):jiM c d=bif j0j c d != 0 then ([],j0j c d) else (j1n c d,0):=by
 unfold jiM;rw[b,f];rfl
theorem jp3 (c:List T)(d:D):0<=j0j c d/\j0j c d<=8:=by
 unfold j0j j0B;cases (d.1==1)
 ·cases decide (j07 c d.2.1<0)
  ·generalize nth zT c (j07 c d.2.1)=t;cases (d.1==3)
   ·cases (d.1==4)
    ·cases (d.1==5)
     ·simp
     ·cases decide (j03 t.2.1 d.2.2.2.2.2<0)
      ·simp
      ·cases decide (j03 t.2.1 d.2.2.2.2.1<0)<;>simp
    ·cases decide (j03 t.2.1 d.2.2.2.2.1<0)
     ·cases t.2.2.any (λx=>sEq x d.2.2.2.2.1)<;>simp
     ·simp
   ·cases decide (j03 t.2.1 (nth zC d.2.2.1 0).1<0)
    ·simp
    ·cases (t.2.1.length==8)<;>simp
  ·simp
 ·cases decide (j07 c d.2.1<0)
  ·simp
  ·cases (c.length==6)<;>simp
theorem jr8 (d:DB)(h:dbB d=true)(s:ST)(q:s.1=5)(y:s.2.2.2.2.2.1=s.2.1)(j:dSm s.2.2.2.2)(p:j1a s.2.2.2.2=true)(k:DB->Int->Res) :
  j4V d s k=bif j0j d.1 s.2.2.2.2 != 0 then k ([],[]) (10+j0j d.1 s.2.2.2.2) else k (j1n d.1 s.2.2.2.2,(j1n d.1 s.2.2.2.2).map (jby d s.2.2.2.2)) 0:=by
 obtain⟨m,z,A⟩:=(j1m d).1 h;have D:=jp3 d.1 s.2.2.2.2;unfold j4V;rw[jnx _ _ (je5 m) j,jta m p];cases r:(j0j d.1 s.2.2.2.2 != 0);rotate_left
 ·rw[cond_true];dsimp only;rw[r,cond_true,cond_true,j01 (n:=10+j0j d.1 s.2.2.2.2) (by omega)]
 have g:j0j d.1 s.2.2.2.2=0:=by simpa using r
 have f:=jqw m p g;have w:=((j0h _).1 f).1;rw[Q0,Q0];show (j7d (j1n d.1 s.2.2.2.2) (nI (j1n d.1 s.2.2.2.2).length) d s Z1b 0 (j1n d.1 s.2.2.2.2,[]) λb=>k b 0)=_
 generalize j1n d.1 s.2.2.2.2=c' at *;unfold j7d;have:=Z9S c' (λi b=>(i,(c',b))) (λu=>[jby d s.2.2.2.2 u]) 6 [] (step:=j2Y c' (nI c'.length) d s) (λb=>k b 0) (λb=>k (c',b) 0) (by unfold LIM;omega) (λi l _=>by
  rw[jhY,Qk,Qy,Qf];omega) (by simp) (λi b rec l C B=>by
  show j1B _ _ _ _ _ _ _ _=_
  unfold j1B;dsimp only;rw[ZaP l,cond_true,j00 l,cond_true,Zax _ _ _ l,jvH d h s q y j p g,ZaK (by unfold LIM;omega),cond_true,j01 (n:=(i:Int)+1) (by omega)]) (λb rec=>by
  show j1B _ _ _ _ _ _ _ _=_
  unfold j1B;dsimp only;rw[ZaO,cond_false])
 refine this.trans ?_;rw[jhY,Qk]
end Go.PI.G
namespace Go.PI.G
open Go Go.PI Go.Proofs
theorem jwj {d:DB}(h:msr yDB d<=1048576):msr (.slice yT) d.1<=1048576/\d.1.length<=1048576/\d.2.length<=1048576/\(∀t∈d.1,msr yT t<=1048576)/\∀l∈d.2,l.length<=1048576:=by
 have i:msr yDB d=msr (.slice yT) d.1+msr (.slice (.slice (.slice yV))) d.2:=rfl;have b:msr (.slice yT) d.1<=1048576:=by omega
 have f:msr (.slice (.slice (.slice yV))) d.2<=1048576:=by omega
 exact⟨b,j0f b,j0f f,λt ht=>j0b b ht,λl g=>j0f (j0b f g)⟩
theorem jfb (d:DB)(h:msr yDB d<=1048576)(k:Bool->Res):j2L d k=k (dbB d):=by
 obtain⟨j,m,p,l,q⟩:=jwj h;unfold j2L dbB;rw[jkx _ j];cases j2Z d.1
 ·rfl
 ·rw[Q4,Q0,Qd];by_cases f:d.2.length=d.1.length
  ·have g:(nI d.2.length != nI d.1.length)=false:=by rw[f,ZaN]
   rw[g,Q0,Q3 f,Qd];unfold jhs;have:=Z9O d.1 (λi=>i) (λi t=> !j0e t (nth [] d.2 (i:Int))) (step:=jaG d.1 (nI d.1.length) d) ((λ(_:Unit)=>k true),(λ(_:Unit)=>k false)) (k true) (k false) (by unfold LIM;omega) (λi rec b=>by
    show j7Z _ _ d _ _ _ _=_
    unfold j7Z;rw[ZaP b,Q1,j00 b,Q1,j00 (f ▸ b),Q1,Zax _ _ _ b,j97 _ (l _ (Q7 b)),j01 (n:=(i:Int)+1) (by omega)]) (λrec=>by
    show j7Z _ _ d _ _ _ _=_
    unfold j7Z;rw[ZaO,Q0])
   refine this.trans ?_;cases Z70 (λi t=> !j0e t (nth [] d.2 (i:Int))) 0 d.1<;>rfl
  ·have g:(nI d.2.length != nI d.1.length)=true:=by unfold nI;simp;omega
   rw[g,Q1,Q2 f,QW]
theorem jrr (d:DB)(h:msr yDB d<=1048576)(k:Bool->Res):j8a d k=k (dbB d):=by
 obtain⟨j,m,p,l,q⟩:=jwj h;unfold j8a dbB;rw[jp8 _ j];cases j2Z d.1
 ·rfl
 ·rw[Q4,Q0,Qd];by_cases f:d.2.length=d.1.length
  ·have g:(nI d.2.length != nI d.1.length)=false:=by rw[f,ZaN]
   rw[g,Q0,Q3 f,Qd];unfold jgX;have:=Z9O d.1 (λi=>i) (λi t=> !j0e t (nth [] d.2 (i:Int))) (step:=jat d.1 (nI d.1.length) d) ((λ(_:Unit)=>k true),(λ(_:Unit)=>k false)) (k true) (k false) (by unfold LIM;omega) (λi rec b=>by
    show j7p _ _ d _ _ _ _=_
    unfold j7p;rw[ZaP b,Q1,j00 b,Q1,j00 (f ▸ b),Q1,Zax _ _ _ b,jbi _ (l _ (Q7 b)),j01 (n:=(i:Int)+1) (by omega)]) (λrec=>by
    show j7p _ _ d _ _ _ _=_
    unfold j7p;rw[ZaO,Q0])
   refine this.trans ?_;cases Z70 (λi t=> !j0e t (nth [] d.2 (i:Int))) 0 d.1<;>rfl
  ·have g:(nI d.2.length != nI d.1.length)=true:=by unfold nI;simp;omega
   rw[g,Q1,Q2 f,QW]
end Go.PI.G
namespace Go.PI.G
open Go Go.PI Go.Proofs
theorem jnv {d:DB}(h:dbB d=true)(x:D){j:Nat}(i:j<d.1.length)(b:j<d.2.length)(k:d.1[j].1≠x.2.1):jby d x d.1[j]=d.2[j]:=by
 obtain⟨g,l,m⟩:=(j1m d).1 h;unfold jby
 have f:sEq d.1[j].1 x.2.1=false:=by
  cases f:sEq d.1[j].1 x.2.1
  ·rfl
  ·exact absurd ((j0i _ _).1 f) k
 rw[f,XF,Q0,jim ((j0h _).1 g).2.2 i,Q3 (by omega),Q1,Zax _ _ _ b]
theorem jwt {d:DB}(h:dbB d=true)(x:D){i:Nat}(n:i<d.1.length)(q:i<d.2.length)(r:d.1[i].1=x.2.1):d.1.map (jby d x)=d.2.set i (jby d x d.1[i]):=by
 obtain⟨l,m,y⟩:=(j1m d).1 h;apply Y0
 ·simp[m]
 ·intro j w z;have g:j<d.1.length:=by simpa using w
  rw[Xn,List.getElem_set];by_cases e:i=j
  ·subst e;rw[QM rfl]
  ·rw[QN e];refine jnv h x g (by omega) λk=> ?_
   have p:=((j0h _).1 l).2.2;have b:=jqZ p n g e;rw[r,k,jgi]at b;rcases b with f | f<;>cases f
theorem jxX {d:DB}(h:dbB d=true){x:D}(K:j1a x=true)(A:j0j d.1 x=0):(j1n d.1 x).map (jby d x)=jmG d x:=by
 obtain⟨F,J,P⟩:=(j1m d).1 h;have C:=(j0h _).1 F;unfold jmG;cases r:(x.1==1)
 ·rw[Q0];rcases j0p d.1 x.2.1 with⟨l,_⟩ | ⟨i,B,l,z⟩
  ·unfold j0j at A;rw[r,Q0,Q3 (by omega),Q1]at A
   cases A
  ·have k:i<d.2.length:=by omega
   have g:=jwt h x B k z;unfold j1n;rw[r,Q0,l,Zax _ _ _ B,Zax _ _ _ k,QS];cases I:(x.1==2)
   ·rw[Q0,Q0,List.map_set,g,List.set_set];congr 1;unfold jby
    rw[jlR,z,Zag,Xm,l,Q3 (by omega),Q1,I,Q0,Zax _ _ _ B,Zax _ _ _ k]
   ·rw[Q1,Q1,XR,XR,QU,List.map_take,List.map_drop,g,List.take_set,List.set_eq_of_length_le (by rw[Qf];omega),List.drop_set_of_lt (by omega)]
 ·rw[Q1];have e:x.1=1:=by simpa using r
  have b:=A;unfold j0j at b;rw[r,Q1]at b;rcases j0p d.1 x.2.1 with⟨l,E⟩ | ⟨i,B,l,_⟩
  rotate_left
  ·rw[Q2 (by omega)]at b
   cases b
  have ht:j06 (x.2.1,x.2.2.1,x.2.2.2.1)=true:=by
   obtain⟨_,⟨t,cs,ks,rfl,ht⟩ | ⟨t,rfl⟩ | ⟨t,c,rfl,_⟩ | ⟨t,n,rfl,_⟩ | ⟨t,n,m,rfl,_⟩⟩:=j8h K
   ·exact ht
   all_goals exact absurd e (by simp)
  have G:d.1.length<6:=by
   rw[Q3 (by omega),Q4,Q0]at b
   have G:=C.1;rcases Yi d.1.length 6 with q | q
   ·exact q
   ·rw[show (d.1.length==6)=true from QG.2 (by omega)]at b
    cases b
  obtain⟨p,Q,f,y⟩:=jtB F ht (show j07 d.1 x.2.1<0 by omega) G
  have w:d.1.map (jby d x)=d.2:=by
   apply Y0
   ·simp[J]
   ·intro j L M;have H:j<d.1.length:=by simpa using L
    rw[Xn];exact jnv h x H M (E _ (Q7 H))
  unfold j1n;rw[r,Q1];have f:j07 (lay tR (x.2.1,x.2.2.1,x.2.2.2.1) d.1) x.2.1=(p:Int):=f;rw[f,QS,y,QU,Qz,List.map_take,List.map_drop,w];congr 2;unfold jby
  rw[l];rfl
theorem jxc {t:T}{l:List (List V)}(h:j0e t l=true)(n:t.2.1.length<=8):msr (.slice (.slice yV)) l<=14940:=by
 obtain⟨ht,g,d⟩:=j0s h;have:=j4P (e:= .slice yV) 248 l (λr b=>by
  have i:=j4P (e:=yV) 30 r (λv f=>jvv (jtQ (d r b) v f))
  have j:=j0E (d r b);have k:r.length * (30+1)<=8 * 31:=YK (by omega) (Qq _)
  omega)
 have m:l.length * (248+1)<=60 * 249:=YK g (Qq _);omega
theorem jgT {d:DB}(h:dbB d=true):msr yDB d<=1048576:=by
 obtain⟨g,m,j⟩:=(j1m d).1 h;have f:=((j0h _).1 g).1;have q:=j4P (e:=yT) 400 d.1 (λt ht=>jen (((j0h _).1 g).2.1 t ht))
 have n:d.1.length * (400+1)<=6 * 401:=YK f (Qq _);have r:=j4P (e:= .slice (.slice yV)) 14940 d.2 (λx l=>by
  obtain⟨i,k,rfl⟩:=X2.1 l;have b:=j i (by omega) k
  exact jxc b ((j5H _).1 (j0s b).1).2.2.1)
 have p:d.2.length * (14940+1)<=6 * 14941:=YK (by omega) (Qq _)
 have e:msr yDB d=msr (.slice yT) d.1+msr (.slice (.slice (.slice yV))) d.2:=rfl;omega
theorem jww {s:ST}(d:stB s=true)(f:s.1=5):j1a s.2.2.2.2=true/\s.2.2.2.2.2.1=s.2.1:=by
 unfold stB at d;rw[f,Q6]at d;have b:=d.2;simp only[show ((5:Int)==1)=false from rfl,show ((5:Int)==2)=false from rfl,show ((5:Int)==3)=false from rfl,show ((5:Int)==4)=false from rfl,show ((5:Int)==5)=true from rfl,Q0,Q1,Q6]at b
 exact⟨b.2.2.1,(j0i _ _).1 b.2.2.2⟩
theorem jny (d:DB)(h:dbB d=true)(s:ST)(b:j12 s)(n:stB s=true)(k:DB->Int->Res):j6F d s k=k (j1o d s).1 (j1o d s).2:=by
 obtain⟨p,A,B⟩:=(j1m d).1 h;have y:=((j0h _).1 p).1;unfold j6F;rw[jfb d (jgT h),h,Q4,Q0,jig s b,n,Q4,Q0,jdh _ _ (by unfold LIM;omega),jym]
 cases g:(decide (j07 d.1 s.2.1<0)&& !((s.1==5)&&(s.2.2.2.2.1==1)));rotate_left
 ·unfold j1o;rw[g];rfl
 rw[Q0];cases f:(s.1==5)
 ·rw[f,QW,QQ,Xm]at g;have r:¬ j07 d.1 s.2.1<0:=of_decide_eq_false g;rcases j0p d.1 s.2.1 with⟨j,_⟩ | ⟨i,w,j,_⟩
  ·omega
  rw[Q0,j];exact ju5 d h s (by simpa using f) i w j k
 ·have l:s.1=5:=by simpa using f
  obtain⟨m,z⟩:=jww n l;rw[Q1,jr8 d h s l z b.2.2.2 m];unfold j1o;rw[g,f,Q0,Q1];cases q:(j0j d.1 s.2.2.2.2 != 0)
  ·rw[Q0,Q0,jxX h m (by simpa using q)]
  ·rfl
end Go.PI.G
namespace Go.PI.G
open Go Go.PI Go.Proofs
theorem jyf (b:Int)(s:ST)(a z:Res):j9V b s (λ_=>a) (λ_=>z)=bif decide (b<0)&& !((s.1==5)&&(s.2.2.2.2.1==1)) then z else a:=by
 unfold j9V;cases decide (b<0)
 ·rfl
 ·rw[Q1,Qd];unfold bne;cases (s.1==5)
  ·rfl
  ·cases (s.2.2.2.2.1==1)<;>rfl
theorem jtt (t:T)(h:msr yT t<=1048576)(l:List (List V))(s:ST)(k:List (List V)->Int->Res):j7x l 0 s.1 s t k=k (j3H t l s).1 (j3H t l s).2:=by
 unfold j7x j3H;cases (s.1==1)
 ·rw[Q0,Q0];cases (s.1==2)
  ·rw[Q0,Q0];cases (s.1==3)
   ·rfl
   ·rw[Q1,Q1,jsd t h]
  ·rw[Q1,Q1,jsf t h]
 ·rw[Q1,Q1,jse t h]
theorem jqy (d:DB)(h:dbB d=true)(x:D)(A:dSm x)(E:j1a x=true)(k:DB->Int->Res) :
  j7v d x k=bif j0j d.1 x != 0 then k ([],[]) (j0j d.1 x) else k (j1n d.1 x,jmG d x) 0:=by
 obtain⟨y,Y,K⟩:=(j1m d).1 h;have R:=((j0h _).1 y).1;unfold j7v;rw[juw _ _ (je5 y) A,jta y E];cases I:(j0j d.1 x != 0);rotate_left
 ·rw[cond_true];dsimp only;rw[I,cond_true,cond_true]
 have f:j0j d.1 x=0:=by simpa using I
 have l:=jqw y E f;have P:=((j0h _).1 l).1;rw[Q0,Q0];show (j1C d λW=>j0o d.1 x.2.1 λX=>j3F X x.1 d x (j1n d.1 x) W λH=>k (j1n d.1 x,H.2) 0)=_
 rw[jkd d h,j7n _ _ (by unfold LIM;omega)]
 unfold j3F jmG;cases w:(x.1==1)
 ·rw[Q0,Q0];rcases j0p d.1 x.2.1 with⟨B,_⟩ | ⟨i,z,B,G⟩
  ·unfold j0j at f;rw[w,Q0,Q3 (by omega),Q1]at f
   cases f
  ·have r:i<d.2.length:=by omega
   rw[B,QS];cases J:(x.1==2)
   ·have ht:j06 d.1[i]=true:=((j0h _).1 y).2.1 _ (Q7 z);have F:msr yT d.1[i]<=1048576:=Qx (jen ht) (by omega)
    have Q:j0B d.1[i] x=0:=by
     unfold j0j at f;rw[w,Q0,B,Q2 (show ¬ (i:Int)<0 by omega),Q0,Zax _ _ _ z]at f
     exact f
    rw[Q0,Q0,j00 z,Q1,j00 r,Q1,Zax _ _ _ z,Zax _ _ _ r,jqB _ F _ (K i z r) _ A E G.symm (by simpa using w),Q,J,Q1,ZaE]
    rfl
   ·rw[Q1,Q1];unfold j6A je7;rw[j01 (n:=(i:Int)+1) (by omega),show Z8d (i:Int) ((i:Int)+1) d.2.length=true from jbJ (j:=i+1) ⟨by omega,by omega⟩,Q1,XR]
    rfl
 ·rw[Q1,Q1];simp only[Z9P];have C:∃p:Nat,p<=d.2.length/\j07 (j1n d.1 x) x.2.1=(p:Int):=by
   have e:x.1=1:=by simpa using w
   have b:=f;unfold j0j at b;rw[w,Q1]at b;rcases j0p d.1 x.2.1 with⟨B,T⟩ | ⟨i,z,B,_⟩
   rotate_left
   ·rw[Q2 (by omega)]at b
    cases b
   have ht:j06 (x.2.1,x.2.2.1,x.2.2.2.1)=true:=by
    obtain⟨_,⟨t,cs,ks,rfl,ht⟩ | ⟨t,rfl⟩ | ⟨t,c,rfl,_⟩ | ⟨t,n,rfl,_⟩ | ⟨t,n,m,rfl,_⟩⟩:=j8h E
    ·exact ht
    all_goals exact absurd e (by simp)
   have L:d.1.length<6:=by
    rw[Q3 (by omega),Q4,Q0]at b
    rcases Yi d.1.length 6 with q | q
    ·exact q
    ·rw[show (d.1.length==6)=true from QG.2 (by omega)]at b
     cases b
   obtain⟨p,U,g,_⟩:=jtB y ht (show j07 d.1 x.2.1<0 by omega) L
   refine⟨p,by omega,?_⟩
   unfold j1n;rw[w,Q1];exact g
  obtain⟨p,U,g⟩:=C;rw[j7n _ _ (by unfold LIM;omega),g]
  unfold j25 jiP;have M:jnV (p:Int) d.2.length [([]:List (List V))].length=true:=Q3 ⟨by omega,by omega,by simp,by simp;unfold LIM;omega⟩
  rw[M,Q1,QS,Qb];rfl
theorem jno (d:DB)(h:dbB d=true)(s:ST)(p:j12 s)(D:stB s=true)(k:DB->Int->Res):j8b d s k=k (j1o d s).1 (j1o d s).2:=by
 obtain⟨q,E,F⟩:=(j1m d).1 h;have B:=((j0h _).1 q).1;unfold j8b;rw[j7n _ _ (by unfold LIM;omega),jyf]
 cases f:(decide (j07 d.1 s.2.1<0)&& !((s.1==5)&&(s.2.2.2.2.1==1)));rotate_left
 ·unfold j1o;rw[f];rfl
 rw[Q0];cases g:(s.1==5)
 ·unfold j1o;rw[f,g,Q0,Q0,Q0];rw[g,QW,QQ,Xm]at f;have A:¬ j07 d.1 s.2.1<0:=of_decide_eq_false f;rcases j0p d.1 s.2.1 with⟨r,_⟩ | ⟨i,j,r,_⟩
  ·omega
  have b:i<d.2.length:=by omega
  have ht:j06 d.1[i]=true:=((j0h _).1 q).2.1 _ (Q7 j);have m:msr yT d.1[i]<=1048576:=Qx (jen ht) (by omega)
  have y:=juQ (t:=d.1[i]) (l:=d.2[i]) (s:=s);unfold jcG;rw[r];simp only[j00 j,j00 b,Q1,Z9P];rw[Zax _ _ _ j,Zax _ _ _ b,jtt _ m];cases f:((j3H d.1[i] d.2[i] s).2 != 0)
  ·rw[Q0,Q0,jkd d h,j00 b,Q1,ZaE,QS]
  ·rw[Q1,Q1,j01 (n:=10+(j3H d.1[i] d.2[i] s).2) (by omega)]
 ·have w:s.1=5:=by simpa using g
  obtain⟨z,G⟩:=jww D w;have C:=jp3 d.1 s.2.2.2.2;rw[Q1,jqy d h _ p.2.2.2 z];unfold j1o;rw[f,g,Q0,Q1];cases y:(j0j d.1 s.2.2.2.2 != 0)
  ·rfl
  ·rw[Q1,Q1,Q1,j01 (n:=10+j0j d.1 s.2.2.2.2) (by omega)]
end Go.PI.G
namespace Go.PI.G
open Go Go.PI Go.Proofs
theorem jmw (d:DB)(h:dbB d=true)(s:ST)(b:j12 s)(f:stB s=false)(k:DB->Int->Res):j6F d s k=k ([],[]) 1:=by
 unfold j6F;rw[jfb d (jgT h),h,Q4,Q0,jig s b,f];rfl
theorem jr9 (d:DB)(p:msr yDB d<=1048576)(l:List ST)(z:l.length<=1048576)(j:∀s∈l,j12 s)(k:DB->Int->Int->Res):j3w d l k=k (j0u d l).1 (j0u d l).2.1 (j0u d l).2.2:=by
 unfold j3w j0u;rw[jfb d p];cases h:dbB d
 ·rfl
 rw[Q4,Q0,Q0,jpZ d h];unfold j9B;have:=Z3Y l (λi (a:DB)=>(i,a)) jaL (λ_ a=>dbB a=true) (step:=j75 l (nI l.length)) ((λ(now:DB)=>k now 0 0),(λ(t:Int) (r:Int)=>k ([],[]) t r)) (λa=>k a 0 0) (λe=>k ([],[]) e.1 e.2) d (by unfold LIM;omega) h (λi a w f b q=>joL b q) (λi a rec f b=>by
  show j4i _ _ _ _ _ _ _=_
  unfold j4i jaL;dsimp only;have g:=j _ (List.getElem_mem f);rw[ZaP f,cond_true,j00 f,cond_true,Zax _ _ _ f];cases m:stB l[i]
  ·rw[jmw a b _ g m];rfl
  ·rw[jny a b _ g m,Q4,Q0];cases y:((j1o a l[i]).2 != 0)
   ·rw[Q0,Q0,j01 (n:=(i:Int)+1) (by omega)]
   ·rfl) (λa rec b=>by
  show j4i _ _ _ _ _ _ _=_
  unfold j4i;dsimp only;rw[ZaO,cond_false])
 refine this.trans ?_;cases Z1R jaL 0 l d<;>rfl
theorem jqz (d:DB)(p:msr yDB d<=1048576)(l:List ST)(z:l.length<=1048576)(j:∀s∈l,j12 s)(k:DB->Int->Int->Res):j3i d l k=k (j0u d l).1 (j0u d l).2.1 (j0u d l).2.2:=by
 unfold j3i j0u;rw[jrr d p];cases h:dbB d
 ·rfl
 rw[Q4,Q0,Q0,jkd d h];unfold jcC;have:=Z3Y l (λi (a:DB)=>(i,a)) jaL (λ_ a=>dbB a=true) (step:=j3Z l (nI l.length)) ((λ(now:DB)=>k now 0 0),(λ(t:Int) (r:Int)=>k ([],[]) t r)) (λa=>k a 0 0) (λe=>k ([],[]) e.1 e.2) d (by unfold LIM;omega) h (λi a w b g q=>joL g q) (λi a rec b g=>by
  show j2v _ _ _ _ _ _ _=_
  unfold j2v jaL;dsimp only;have f:=j _ (List.getElem_mem b);rw[ZaP b,cond_true,j00 b,cond_true,Zax _ _ _ b,ji0 _ f];cases m:stB l[i]
  ·rfl
  ·rw[Q4,Q0,Q0,jno a g _ f m];cases y:((j1o a l[i]).2 != 0)
   ·rw[Q0,Q0,j01 (n:=(i:Int)+1) (by omega)]
   ·rfl) (λa rec g=>by
  show j2v _ _ _ _ _ _ _=_
  unfold j2v;dsimp only;rw[ZaO,cond_false])
 refine this.trans ?_;cases Z1R jaL 0 l d<;>rfl
end Go.PI.G
namespace Go.PI.G
noncomputable section
open Go Go.PI
theorem je9 (l:List Int)(n:Int):j1u l n=true↔n∈l:=by
 unfold j1u;rw[Yn];constructor
 ·rintro⟨x,b,h⟩;rw[QG]at h;exact h ▸ b
 ·intro h;exact⟨n,h,by simp⟩
def jeU (l:List RC)(n:Int):Bool:=j3R l&&decide (0<=n/\n<=(l.length:Int))
def j2N (l:List RC)(n:Int):DB:=bif jeU l n then jxL (j2d zDB (l.take n.toNat)) else zDB
theorem jjt {l:List RC}{n:Nat}(h:j3R l=true)(i:n<=l.length):j2d zDB (l.take n)= .ok (j2N l n)/\dbB (j2N l n)=true:=by
 obtain⟨d,b,f⟩:=jx9 h n;have g:jeU l n=true:=by
  unfold jeU;rw[h,Q3 (by omega)]
  rfl
 have:j2N l n=d:=by
  unfold j2N;rw[g,Q1,QS,b];rfl
 rw[this];exact⟨b,f⟩
def jt8 (l:List RC)(p:Int):Bool:=j1u (j04 l) p
theorem jnT (l:List RC)(p:Int):jt8 l p=true↔j3R l=true/\∃(i:Nat) (h:i<l.length),p=(i:Int)+1/\l[i].1=3:=by
 unfold jt8 j04;rw[je9];cases j3R l
 ·simp
 ·rw[Q1,juR l 0];simp
end
end Go.PI.G
namespace Go.PI.G
open Go Go.PI Go.Proofs
theorem jxb {l:List RC}(h:msr (.slice yRC) l<=1048576):l.length<=1048576/\∀r∈l,j12 r.2.2:=
 ⟨j0f h,λr b=>by
  have e:msr yRC r=0+(0+msr yST r.2.2):=rfl;have:=j0b (e:=yRC) h b;exact jwk (by omega)⟩
theorem jfr {n:Nat}(h:n<=1048576):lim (0+n)=true:=ZaK (by unfold LIM;omega)
theorem jkB (s:ST)(h:j12 s)(k:ST->Res):j0U s k=k s:=by
 obtain⟨g,d,f,b⟩:=h;unfold j0U j0H;simp only[jfr d,jfr f,jfr b.2.1,jfr b.2.2.1,Q1]
 try rfl
theorem jkg (s:ST)(h:j12 s)(k:ST->Res):j1H s k=k s:=by
 obtain⟨g,d,f,b⟩:=h;unfold j1H j1j jcF j0t;simp only[jfr d,jfr f,jfr b.2.1,jfr b.2.2.1,Q1]
 try rfl
theorem jnA (l:List Int)(n:Int)(h:l.length<=1048576)(k:Bool->Res):j6Y l n k=k (j1u l n):=by
 unfold j6Y jjV j1u;have:=Za1 l (λi=>i) (λx=>x==n) (step:=jc4 n l (nI l.length)) ((λ(_:Unit)=>k false),(λ(_:Unit)=>k true)) (k false) (k true) (by unfold LIM;omega) (λi rec b=>by
  show j5G _ _ _ _ _ _ _=_
  unfold j5G;rw[ZaP b,Q1,j00 b,Q1,Zax _ _ _ b,j01 (n:=(i:Int)+1) (by omega)]) (λrec=>by
  show j5G _ _ _ _ _ _ _=_
  unfold j5G;rw[ZaO,Q0])
 refine this.trans ?_;cases l.any λx=>x==n<;>rfl
theorem jnp (l:List Int)(n:Int)(h:l.length<=1048576)(k:Bool->Res):j1z l n k=k (j1u l n):=by
 unfold j1z jbX jdV j1u;have:=Z9R l (λi=>i) (λx=>n==x) (step:=j7X l n (nI l.length)) ((λ(_:Unit)=>k (decide ((-1:Int)>=0))),(λ(t:Int)=>k (decide (t>=0)))) (λr=>k (decide (r>=0))) (by unfold LIM;omega) (λi rec b=>by
  show j24 _ _ _ _ _ _ _=_
  unfold j24;rw[ZaP b,Q1,j00 b,Q1,Zax _ _ _ b,j01 (n:=(i:Int)+1) (by omega)]) (λrec=>by
  show j24 _ _ _ _ _ _ _=_
  unfold j24;rw[ZaO,Q0])
 refine this.trans ?_;rw[jtk];have:(λx:Int=>n==x)=λx=>x==n:=by funext x;exact Ym.2 (by rw[QG,QG];exact eq_comm)
 rw[this]
theorem jiK {α:Type}(p:α->Bool):(j:Nat)->(l:List α)->Z4q (λ_ x=>bif p x then [x] else []) j l=l.filter p
 |_,[]=>rfl
 |j,x::l=>by
  show (bif p x then [x] else [])++Z4q _ (j+1) l=_
  rw[jiK p (j+1) l];cases h:p x
  ·rw[Xr (by rw[h];simp)];rfl
  ·rw[Xs h];rfl
theorem jqt {α:Type}(b:Bool)(x:α):(bif b then [x] else []).length<=1:=by cases b<;>simp
theorem jvG (l:List Int)(n:Int)(h:l.length<=1048576)(k:List Int->Res):j9c l n k=k (l.filter λy=> !(y==n)):=by
 unfold j9c jjU;have:=Za2 l (λ_ x=>bif !(x==n) then [x] else []) (λi b=>(b,i)) (step:=jc3 n l (nI l.length)) (λb=>k b) k (by unfold LIM;omega) (λ_ x=>jqt _ _) (λb i rec d f=>by
  show j5F _ _ _ _ _ _ _=_
  unfold j5F;dsimp only;rw[ZaP d,cond_true,j00 d,cond_true,Zax _ _ _ d,j01 (n:=(i:Int)+1) (by omega),ZaK (by unfold LIM;omega),cond_true]
  unfold bne;cases l[i]==n
  ·rfl
  ·show _=rec (b++[],_)
   rw[Qe];rfl) (λb rec=>by
  show j5F _ _ _ _ _ _ _=_
  unfold j5F;dsimp only;rw[ZaO,cond_false])
 refine this.trans ?_;rw[jiK]
theorem juJ (l:List RC)(h:l.length<=1048576)(k:List Int->Res):jcq l k=k (j0q l):=by
 unfold jcq jmz j0q;refine Z8h l (λi b=>(b,i)) j8q (λi a=>a.length<=i) (step:=jaI l (nI l.length)) (λb=>k b) k [] (by unfold LIM;omega) (by simp) (λi a d f=>Qx (jrw _ _) (by omega)) (λi a rec d f=>by
  show j4S _ _ _ _ _ _=_
  unfold j4S jdm;dsimp only;rw[ZaP d,cond_true,j00 d,cond_true,Zax _ _ _ d,j01 (n:=(i:Int)+1) (by omega),jnA _ _ (by omega),ZaK (by unfold LIM;omega),cond_true]
  generalize l[i]=r;unfold j8q;cases g:r.1==1
  ·rw[Q0,Q0,jvG _ _ (by omega)]
   cases r.1==3
   ·rw[Q0,XY];cases r.1==4<;>rfl
   ·rfl
  ·have e:r.1=1:=by simpa using g
   have j:(r.1==3)=false:=by rw[e];rfl
   have m:(r.1==4)=false:=by rw[e];rfl
   rw[Q1,Q1,j,m];cases j1u a r.2.1<;>rfl) (λa rec f=>by
  show j4S _ _ _ _ _ _=_
  unfold j4S;dsimp only;rw[ZaO,cond_false])
theorem juL (l:List RC)(x:Int)(h:l.length<=1048576)(k:Bool->Res):jfc l x k=k (j3N l x):=by
 unfold jfc jmA j3N;have:=Za1 l (λi=>i) (λr:RC=>(r.1==1)&&(r.2.1==x)) (step:=jeG x l (nI l.length)) ((λ(_:Unit)=>k false),(λ(_:Unit)=>k true)) (k false) (k true) (by unfold LIM;omega) (λi rec b=>by
  show j83 _ _ _ _ _ _ _=_
  unfold j83;rw[ZaP b,Q1,j00 b,Q1,Zax _ _ _ b,j01 (n:=(i:Int)+1) (by omega)]
  cases l[i].1==1<;>rfl) (λrec=>by
  show j83 _ _ _ _ _ _ _=_
  unfold j83;rw[ZaO,Q0])
 refine this.trans ?_;cases l.any λr:RC=>(r.1==1)&&(r.2.1==x)<;>rfl
theorem jjP (l:List RC)(x:Int)(h:l.length<=1048576)(f:∀r∈l,j12 r.2.2)(k:List ST->Res):j3y l x k=k (j08 l x):=by
 unfold j3y jii j08;refine Za2 l (jmB x) (λi b=>(b,i)) (step:=jb6 x l (nI l.length)) (λb=>k b) k (by unfold LIM;omega) (joM x) (λb i rec d g=>by
  show j4o _ _ _ _ _ _ _=_
  unfold j4o jmB;dsimp only;rw[ZaP d,cond_true,j00 d,cond_true,Zax _ _ _ d,jkB _ (f _ (List.getElem_mem d)),j01 (n:=(i:Int)+1) (by omega),ZaK (by unfold LIM;omega),cond_true]
  cases l[i].1==2
  ·show _=rec (b++[],_)
   rw[Qe];rfl
  ·cases l[i].2.1==x
   ·show _=rec (b++[],_)
    rw[Qe];rfl
   ·rfl) (λb rec=>by
  show j4o _ _ _ _ _ _ _=_
  unfold j4o;dsimp only;rw[ZaO,cond_false])
theorem jjy (l:List RC)(x:Int)(h:l.length<=1048576)(f:∀r∈l,j12 r.2.2)(k:List ST->Res):j3j l x k=k (j08 l x):=by
 unfold j3j ji2 j08;refine Za2 l (jmB x) (λi b=>(b,i)) (step:=jaW x l (nI l.length)) (λb=>k b) k (by unfold LIM;omega) (joM x) (λb i rec d g=>by
  show j44 _ _ _ _ _ _ _=_
  unfold j44 jmB;dsimp only;rw[ZaP d,cond_true,j00 d,cond_true,Zax _ _ _ d,jkg _ (f _ (List.getElem_mem d)),j01 (n:=(i:Int)+1) (by omega),ZaK (by unfold LIM;omega),cond_true]
  cases l[i].1==2
  ·show _=rec (b++[],_)
   rw[Qe];rfl
  ·cases l[i].2.1==x
   ·show _=rec (b++[],_)
    rw[Qe];rfl
   ·rfl) (λb rec=>by
  show j44 _ _ _ _ _ _ _=_
  unfold j44;dsimp only;rw[ZaO,cond_false])
theorem jgp {α:Type}(l:List α)(i:Nat):sub l 0 (i:Int)=l.take i:=jv8 l 0 i
theorem je6 {i n:Nat}(h:i<=n):Z8d 0 (i:Int) n=true:=jbJ (i:=0) ⟨Qg _,h⟩
theorem jaN {l:List RC}(d:∀r∈l,j12 r.2.2)(i:Nat):∀r∈l.take i,j12 r.2.2:=λr b=>d r (X7 b)
theorem j3X {l:List RC}(h:l.length<=1048576)(i:Nat):(l.take i).length<=1048576:=by rw[Qf];omega
theorem jq5 {l:List RC}(f:∀r∈l,j12 r.2.2)(x:Int):∀s∈j08 l x,j12 s:=λs b=>by
 obtain⟨r,d,rfl⟩:=jvL b;exact f r d
theorem jwr (l:List RC)(h:l.length<=1048576)(i:Nat)(f:i<=l.length)(r:RC)(j:j12 r.2.2)(k:Bool->Res) :
  j3L l (i:Int) r k=k (!jd0 r||(bif r.1==1 then j3N (l.take i) r.2.1 else !j1u (j0q (l.take i)) r.2.1)):=by
 unfold j3L;have g:(j0q (l.take i)).length<=1048576:=Qx (jrx _) (j3X h i);rw[jvK _ j,je6 f,Q1,Q1,jgp,juL _ _ (j3X h i),juJ _ (j3X h i)];simp only[jnA _ _ g];cases jd0 r
 ·rfl
 cases d:r.1==1
 ·have b:(r.1 != 1)=true:=by unfold bne;rw[d];rfl
  rw[b];rfl
 ·have b:(r.1 != 1)=false:=by unfold bne;rw[d];rfl
  rw[b];cases j3N (l.take i) r.2.1<;>rfl
theorem jua (l:List RC)(h:l.length<=1048576)(b:∀r∈l,j12 r.2.2)(i:Nat)(g:i<=l.length)(d:DB)(f:dbB d=true)(r:RC)(k:Int->DB->Res) :
  j3M l (i:Int) d r k=k (j0u d (j08 (l.take i) r.2.1)).2.1 (j0u d (j08 (l.take i) r.2.1)).1:=by
 unfold j3M;rw[je6 g,Q1];simp only[Z9P];rw[jgp,jjP _ _ (j3X h i) (jaN b i),jr9 d (jgT f) _ (Qx (jaM _ _) (j3X h i)) (jq5 (jaN b i) _)]
theorem jyk (n:Nat):decide (nI n<=400)=decide (n<=400):=Xt.2 (by unfold nI;omega)
theorem jxM (n:Nat):decide (nI n>400)= !decide (n<=400):=by
 by_cases h:n<=400
 ·rw[Q3 h,Q2 (by unfold nI;omega)];rfl
 ·rw[Q2 h,Q3 (by unfold nI;omega)];rfl
theorem jnB (l:List RC)(h:l.length<=1048576)(g:∀r∈l,j12 r.2.2)(k:DB->Bool->Res) :
  j88 l k=match j2d zDB l with | .ok d=>k d (decide (l.length<=400)) | .error _=>k ([],[]) false:=by
 unfold j88 jds;rw[jyk];refine(Z3Y l (λi (a:DB)=>(i,a)) (λi d r=>j2O (l.take i) d r) (λ_ a=>dbB a=true) (step:=j7f l l (nI l.length)) ((λ(d:DB)=>k d (decide (l.length<=400))),(λ(_:Unit)=>k ([],[]) false)) (λa=>k a (decide (l.length<=400))) (λ_=>k ([],[]) false) zDB (by unfold LIM;omega) jgS (λi a q b f g=>joC f g) (λi a rec b f=>by
  show j2D _ _ _ _ _ _ _ _=_
  unfold j2D j2O;dsimp only;have j:=g _ (List.getElem_mem b);rw[ZaP b,cond_true,j00 b,cond_true,Zax _ _ _ b,jwr l h i (by omega) _ j,jua l h g i (by omega) a f,j01 (n:=(i:Int)+1) (by omega)]
  generalize l[i]=r;cases jd0 r
  ·rfl
  cases p:r.1==1
  ·cases j1u (j0q (l.take i)) r.2.1
   ·rfl
   ·cases r.1==3
    ·rfl
    ·cases m:(j0u a (j08 (l.take i) r.2.1)).2.1 != 0
     ·simp only[Q1,Q0,Q4,Bool.or_false,m]
     ·simp only[Q1,Q0,Q4,Bool.or_false,m]
  ·cases j3N (l.take i) r.2.1
   ·have e:r.1=1:=by simpa using p
    rw[e];rfl
   ·rfl) (λa rec f=>by
  show j2D _ _ _ _ _ _ _ _=_
  unfold j2D;dsimp only;rw[ZaO,cond_false])).trans ?_
 unfold j2d;cases Z1R (λi d r=>j2O (l.take i) d r) 0 l zDB<;>rfl
end Go.PI.G
namespace Go.PI.G
open Go Go.PI Go.Proofs
noncomputable def jbs (p:List ByteArray)(x:BT):BT:=bif !jeo p then (0,0,[]) else bif !jk9 x then (0,0,[]) else (x.1,x.2.1,x.2.2.filter λq=>j9Q p q.1.2.1)
theorem jvw {e:Ty}(q:El e->Bool)(l:List (El e)):msr (.slice e) (l.filter q)<=msr (.slice e) l:=by
 have h:((l.filter q).map (msr e)).sum<=(l.map (msr e)).sum:=by
  induction l with
  |nil=>exact Qq _
  |cons x l f=>
   cases b:q x
   ·rw[Xr (by rw[b];simp),Qz,QX]
    omega
   ·rw[Xs b,Qz,Qz,QX,QX];omega
 have d:=Y3 q l;rw[jf6,jf6];exact Nat.add_le_add d h
theorem jvI (q:PT)(h:jxk q)(k:PT->Res):j89 q k=k q:=by
 obtain⟨b,d,f⟩:=h;unfold j89;simp only[Z9P];simp only[jkB _ b,jfr d.1,jfr f.1,Q1]
 try rfl
theorem jvp (q:PT)(h:jxk q)(k:PT->Res):j8P q k=k q:=by
 obtain⟨b,d,f⟩:=h;unfold j8P j0t;simp only[jkg _ b,jfr d.1,jfr f.1,Q1]
 try rfl
theorem juK (p:List ByteArray)(t:ByteArray)(b:msr (.slice .str) p<=1048576)(d:jeo p=true)(k:Bool->Res):jcr p t k=k (j9Q p t):=by
 have f:=(jsJ b).1;unfold jcr;rw[jkz p b,d,Q1,jq0 _ _ (by unfold LIM;omega)]
theorem jrq (q:PT->Bool)(l:List PT):l.flatMap (λx=>bif q x then [x] else [])=l.filter q:=by
 induction l with
 |nil=>rfl
 |cons x l d=>
  rw[QH,d];cases b:q x
  ·rw[Xr (by rw[b];simp)];rfl
  ·rw[Xs b];rfl
theorem jx0 (q:PT->Bool)(l:List PT)(i:Nat):((l.take i).flatMap λx=>bif q x then [x] else []).length<=l.length:=by
 rw[jrq];exact Qx (Y3 _ _) (by rw[Qf];exact Nat.min_le_right _ _)
theorem jrH (l:List PT):l.flatMap (λx=>[x])=l:=by
 induction l with
 |nil=>rfl
 |cons x l b=>rw[QH,b];rfl
theorem ju9 (p:List ByteArray)(x:BT)(h:msr (.slice .str) p<=1048576)(l:msr yBT x<=1048576)(k:BT->Res):j8X p x k=k (jbs p x):=by
 have f:=jwi l;have j:=f.1;unfold j8X jbs;rw[jkz p h];cases g:jeo p
 ·rfl
 rw[Q4,Q0,Q0,jvF x f];cases jk9 x
 ·rfl
 rw[Q4,Q0,Q0];unfold jbY;have:=Z9S x.2.2 (λi b=>(i,(x.1,x.2.1,b))) (λq=>bif j9Q p q.1.2.1 then [q] else []) 1048576 [] (step:=j3x x.2.2 (nI x.2.2.length) p) (λb=>k b) (λb=>k (x.1,x.2.1,b)) (by unfold LIM;omega) (λi d r=> ?_) (by simp) (λi b rec d w m=>by
  show j26 _ _ _ _ _ _ _=_
  unfold j26;dsimp only;rw[ZaP d,cond_true,j00 d,cond_true,Zax _ _ _ d,juK p _ h g,j01 (n:=(i:Int)+1) (by omega)]
  cases j9Q p x.2.2[i].1.2.1
  ·rw[Q0,Q0,Qe]
  ·rw[Q1,Q1,jvI _ (f.2 _ (Q7 d)),ZaK (by unfold LIM;omega),Q1]) (λb rec=>by
  show j26 _ _ _ _ _ _ _=_
  unfold j26;dsimp only;rw[ZaO,cond_false])
 ·refine this.trans ?_;rw[jrq,Qk]
 ·rw[Qk];exact Qx (jx0 _ _ _) j
theorem juu (x:BT)(f:jve x)(k:BT->Res):j7w x k=k x:=by
 have j:=f.1;unfold j7w jfR;have:=Z9S x.2.2 (λi b=>(i,(x.1,x.2.1,b))) (λq=>[q]) 1048576 [] (step:=j9d x.2.2 (nI x.2.2.length)) (λb=>k b) (λb=>k (x.1,x.2.1,b)) (by unfold LIM;omega) (λi d h=> ?_) (by simp) (λi b rec d l g=>by
  show j2R _ _ _ _ _ _=_
  unfold j2R;dsimp only;rw[ZaP d,cond_true,j00 d,cond_true,Zax _ _ _ d,jvp _ (f.2 _ (List.getElem_mem d)),ZaK (by unfold LIM;omega),cond_true,j01 (n:=(i:Int)+1) (by omega)]) (λb rec=>by
  show j2R _ _ _ _ _ _=_
  unfold j2R;dsimp only;rw[ZaO,cond_false])
 ·refine this.trans ?_;rw[jrH,Qk]
 ·rw[jrH,Qk,Qf];omega
theorem jw4 {α:Type}{g:α->(Bool->Res)->Res}(q:α->Bool):(l:List α)->(∀x∈l,∀k,g x k=k (q x))->(d:List α)->(k:List α->Res)->dgE g l d k=k (d++l.filter λx=> !q x)
 | [],_,d,k=>by rw[List.filter_nil,Qe];rfl
 |x::l,h,d,k=>by
  show g x (λb=>dgE g l (bif b then d else d++[x]) k)=_
  rw[h x (by simp),jw4 q l λy i=>h y (Qa _ i)]
  cases f:q x
  ·rw[Xs (by rw[f];rfl),Q0,Qb];rfl
  ·rw[Xr (by rw[f];simp),Q1]
theorem jtq (p:List ByteArray)(x:BT)(d:msr (.slice .str) p<=1048576)(h:msr yBT x<=1048576)(k:BT->Res):j8O p x k=k (jbs p x):=by
 have b:=jwi h;have i:=b.1;have g:=(jsJ d).1;unfold j8O jbs;rw[jpd p d];cases f:jeo p
 ·rfl
 rw[Q4,Q0,Q0,jvn x b];cases jk9 x
 ·rfl
 rw[Q4,Q0,Q0,juu x b];unfold j3d;rw[ZaK (by unfold LIM;omega),Q1,jw4 (λq:PT=> !j9Q p q.1.2.1) x.2.2 (λq j l=>by
  unfold jec;rw[jpa _ _ (by unfold LIM;omega)])]
 simp only[Bool.not_not,Qk]
end Go.PI.G
namespace Go.PI.G
open Go Go.PI Go.Proofs
theorem jxZ (o:List Int)(r:RC)(h:o.length<=1048576)(k:List Int->RC->Res):j21 o r k=k (o.filter λy=> !(y==r.2.1)) r:=by
 unfold j21;rw[ZaK (by unfold LIM;omega),Q1,jtc (g:=λe k=>jki e r k) (λy=>y==r.2.1) o (λy b k=>rfl) [],Qk]
theorem jq2 (l:List RC)(h:l.length<=1048576)(d:∀r∈l,j12 r.2.2)(k:Bool->Res):jaH l k=k (j3R l):=by
 unfold jaH j3R;rw[jxM];cases b:decide (l.length<=400)
 ·rfl
 rw[Q4,Q0,jnB l h d,b];cases j2d zDB l<;>rfl
end Go.PI.G
namespace Go.PI.G
open Go Go.PI Go.Proofs
theorem ju3 (t:T)(h:msr yT t<=1048576)(k:T->Res):j1l t k=k t:=by
 obtain⟨b,d,f,g,i⟩:=j3b h;unfold j1l;simp only[Z9P];rw[ZaK (by unfold LIM;omega),Q1,ZaK (by unfold LIM;omega),Q1]
end Go.PI.G
namespace Go.PI.G
open Go Go.PI
theorem jvt {l:List RC}(h:j3R l=true)(i:Nat)(j:i<l.length):jd0 l[i]=true /\
  ((l[i].1=1/\j3N (l.take i) l[i].2.1=false/\j2N l ((i:Int)+1)=j2N l i) \/
   (l[i].1≠1/\j1u (j0q (l.take i)) l[i].2.1=true /\
    ((l[i].1=3/\(j0u (j2N l i) (j08 (l.take i) l[i].2.1)).2.1=0/\j2N l ((i:Int)+1)=(j0u (j2N l i) (j08 (l.take i) l[i].2.1)).1) \/
    (l[i].1≠3/\j2N l ((i:Int)+1)=j2N l i)))):=by
 have m:=(jjt h (Nat.le_of_lt j)).1;have b:=(jjt (n:=i+1) h j).1;rw[jmj _ _ _ j,m]at b;have e:((i+1:Nat):Int)=(i:Int)+1:=by omega
 rw[e]at b;have b:j2O (l.take i) (j2N l i) l[i]= .ok (j2N l ((i:Int)+1)):=b;generalize j2N l ((i:Int)+1)=y at b;generalize j2N l i=d at b;generalize l[i]=r at b;unfold j2O at b;cases p:jd0 r<;>rw[p]at b
 ·cases b
 rw[Q4,Q0]at b;refine⟨rfl,?_⟩;cases f:r.1==1<;>rw[f]at b
 ·right;rw[Q0]at b;cases q:j1u (j0q (l.take i)) r.2.1<;>rw[q]at b
  ·cases b
  rw[Q4,Q0]at b;refine⟨by simpa using f,rfl,?_⟩
  cases g:r.1==3<;>rw[g]at b
  ·right;cases b;exact⟨by simpa using g,rfl⟩
  ·left;rw[Q1]at b;cases k:(j0u d (j08 (l.take i) r.2.1)).2.1 != 0<;>rw[k]at b
   ·cases b;exact⟨by simpa using g,by simpa using k,rfl⟩
   ·cases b
 ·left;rw[Q1]at b;cases w:j3N (l.take i) r.2.1<;>rw[w]at b
  ·cases b;exact⟨by simpa using f,rfl,rfl⟩
  ·cases b
theorem jhT {α β:Type}(g:Int->α->List β):(j:Nat)->(l:List α)->(x:α)->Z4q g j (l++[x])=Z4q g j l++g ((j:Int)+l.length) x
 |j,[],x=>by simp[Z4q]
 |j,y::l,x=>by
  show g j y++Z4q g (j+1) (l++[x])=(g j y++Z4q g (j+1) l)++_
  rw[jhT g (j+1) l x,Qb,Q8,show ((j+1:Nat):Int)+(l.length:Int)=(j:Int)+((l.length+1:Nat):Int) by omega]
end Go.PI.G
