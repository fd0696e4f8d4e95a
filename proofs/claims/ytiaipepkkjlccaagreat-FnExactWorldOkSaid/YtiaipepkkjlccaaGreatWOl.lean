/-
  Program's code interpreted over typed values; printed texts; plain laws. No conditions.
-/
import Derived.Test.YtiaipepkkjlccaaGreatWOk
import Derived.Test.YtiaipepkkjlccaaGreatWOi
import Derived.Test.YtiaipepkkjlccaaGreatWOj
import Derived.Test.YtiaipepkkjlccaaGreatWOg
import Derived.Test.YtiaipepkkjlccaaGreatWOh
set_option linter.unusedVariables false
set_option linter.unusedSimpArgs false
namespace Go.PI.G
open Go Go.PI Go.Proofs
theorem jjd {d:DB}(h:dbB d=true)(x:D){j:Nat}(i:j<d.1.length)(b:j<d.2.length)(k:d.1[j].1≠x.2.1):j8M d x d.1[j]=d.2[j]:=by
 obtain⟨g,l,m⟩:=(j1A d).1 h;unfold j8M;have f:sEq d.1[j].1 x.2.1=false:=by
  cases f:sEq d.1[j].1 x.2.1
  ·rfl
  ·exact absurd ((j09 _ _).1 f) k
 rw[f,XF,Q0,jez ((j0e _).1 g).2.2 i,Q3 (by omega),Q1,Zax _ _ _ b]
theorem jrX {d:DB}(h:dbB d=true)(x:D){i:Nat}(n:i<d.1.length)(q:i<d.2.length)(r:d.1[i].1=x.2.1):d.1.map (j8M d x)=d.2.set i (j8M d x d.1[i]):=by
 obtain⟨l,m,y⟩:=(j1A d).1 h;apply Y0
 ·simp[m]
 ·intro j w z;have g:j<d.1.length:=by simpa using w
  rw[Xn,List.getElem_set];by_cases e:i=j
  ·subst e;rw[QM rfl]
  ·rw[QN e];refine jjd h x g (by omega) λk=> ?_
   have p:=((j0e _).1 l).2.2;have b:=jmp p n g e;rw[r,k,jcR]at b;rcases b with f | f<;>cases f
theorem jtv {d:DB}(h:dbB d=true){x:D}(K:j0T x=true)(A:j0b d.1 x=0):(j0U d.1 x).map (j8M d x)=jiN d x:=by
 obtain⟨F,J,P⟩:=(j1A d).1 h;have C:=(j0e _).1 F;unfold jiN;cases r:(x.1==1)
 ·rw[Q0];rcases j0w d.1 x.2.1 with⟨l,_⟩ | ⟨i,B,l,z⟩
  ·unfold j0b at A;rw[r,Q0,Q3 (by omega),Q1]at A
   cases A
  ·have k:i<d.2.length:=by omega
   have g:=jrX h x B k z;unfold j0U;rw[r,Q0,l,Zax _ _ _ B,Zax _ _ _ k,QS];cases I:(x.1==2)
   ·rw[Q0,Q0,List.map_set,g,List.set_set];congr 1;unfold j8M;rw[jhV,z,Zag,Xm,l,Q3 (by omega),Q1,I,Q0,Zax _ _ _ B,Zax _ _ _ k]
   ·rw[Q1,Q1,XR,XR,QU,List.map_take,List.map_drop,g,List.take_set,List.set_eq_of_length_le (by rw[Qf];omega),List.drop_set_of_lt (by omega)]
 ·rw[Q1];have e:x.1=1:=by simpa using r
  have b:=A;unfold j0b at b;rw[r,Q1]at b;rcases j0w d.1 x.2.1 with⟨l,E⟩ | ⟨i,B,l,_⟩
  rotate_left
  ·rw[Q2 (by omega)]at b
   cases b
  have ht:j04 (x.2.1,x.2.2.1,x.2.2.2.1)=true:=by
   obtain⟨_,⟨t,cs,ks,rfl,ht⟩ | ⟨t,rfl⟩ | ⟨t,c,rfl,_⟩ | ⟨t,n,rfl,_⟩ | ⟨t,n,m,rfl,_⟩⟩:=j7F K
   ·exact ht
   all_goals exact absurd e (by simp)
  have G:d.1.length<6:=by
   rw[Q3 (by omega),Q4,Q0]at b
   have G:=C.1;rcases Yi d.1.length 6 with q | q
   ·exact q
   ·rw[show (d.1.length==6)=true from QG.2 (by omega)]at b
    cases b
  obtain⟨p,Q,f,y⟩:=jpb F ht (show j05 d.1 x.2.1<0 by omega) G
  have w:d.1.map (j8M d x)=d.2:=by
   apply Y0
   ·simp[J]
   ·intro j L M;have H:j<d.1.length:=by simpa using L
    rw[Xn];exact jjd h x H M (E _ (Q7 H))
  unfold j0U;rw[r,Q1];have f:j05 (lay tR (x.2.1,x.2.2.1,x.2.2.2.1) d.1) x.2.1=(p:Int):=f;rw[f,QS,y,QU,Qz,List.map_take,List.map_drop,w];congr 2;unfold j8M;rw[l];rfl
theorem jsL {t:T}{l:List (List V)}(h:j08 t l=true)(n:t.2.1.length<=8):msr (.slice (.slice yV)) l<=14940:=by
 obtain⟨ht,g,d⟩:=j0i h;have:=j9A (e:= .slice yV) 248 l (λr b=>by
  have i:=j9A (e:=yV) 30 r (λv f=>jtm (jpm (d r b) v f))
  have j:=j0r (d r b);have k:r.length * (30+1)<=8 * 31:=YK (by omega) (Qq _)
  omega)
 have m:l.length * (248+1)<=60 * 249:=YK g (Qq _);omega
theorem jku {d:DB}(h:dbB d=true):msr yDB d<=1048576:=by
 obtain⟨g,m,j⟩:=(j1A d).1 h;have f:=((j0e _).1 g).1;have q:=j9A (e:=yT) 400 d.1 (λt ht=>jb9 (((j0e _).1 g).2.1 t ht))
 have n:d.1.length * (400+1)<=6 * 401:=YK f (Qq _);have r:=j9A (e:= .slice (.slice yV)) 14940 d.2 (λx l=>by
  obtain⟨i,k,rfl⟩:=X2.1 l;have b:=j i (by omega) k
  exact jsL b ((j6d _).1 (j0i b).1).2.2.1)
 have p:d.2.length * (14940+1)<=6 * 14941:=YK (by omega) (Qq _)
 have e:msr yDB d=msr (.slice yT) d.1+msr (.slice (.slice (.slice yV))) d.2:=rfl;omega
theorem js1 {s:ST}(d:stB s=true)(f:s.1=5):j0T s.2.2.2.2=true/\s.2.2.2.2.2.1=s.2.1:=by
 unfold stB at d;rw[f,Q6]at d;have b:=d.2;simp only[show ((5:Int)==1)=false from rfl,show ((5:Int)==2)=false from rfl,show ((5:Int)==3)=false from rfl,show ((5:Int)==4)=false from rfl,show ((5:Int)==5)=true from rfl,Q0,Q1,Q6]at b
 exact⟨b.2.2.1,(j09 _ _).1 b.2.2.2⟩
theorem jqe (d:DB)(h:dbB d=true)(s:ST)(b:j1Y s)(n:stB s=true)(k:DB->Int->Res):j7s d s k=k (j1K d s).1 (j1K d s).2:=by
 obtain⟨p,A,B⟩:=(j1A d).1 h;have y:=((j0e _).1 p).1;unfold j7s;rw[jet d (jku h),h,Q4,Q0,jiJ s b,n,Q4,Q0,jdE _ _ (by unfold LIM;omega),jtW]
 cases g:(decide (j05 d.1 s.2.1<0)&& !((s.1==5)&&(s.2.2.2.2.1==1)));rotate_left
 ·unfold j1K;rw[g];rfl
 rw[Q0];cases f:(s.1==5)
 ·rw[f,QW,QQ,Xm]at g;have r:¬ j05 d.1 s.2.1<0:=of_decide_eq_false g;rcases j0w d.1 s.2.1 with⟨j,_⟩ | ⟨i,w,j,_⟩
  ·omega
  rw[Q0,j];exact jpz d h s (by simpa using f) i w j k
 ·have l:s.1=5:=by simpa using f
  obtain⟨m,z⟩:=js1 n l;rw[Q1,jmG d h s l z b.2.2.2 m];unfold j1K;rw[g,f,Q0,Q1];cases q:(j0b d.1 s.2.2.2.2 != 0)
  ·rw[Q0,Q0,jtv h m (by simpa using q)]
  ·rfl
end Go.PI.G
namespace Go.PI.G
open Go Go.PI Go.Proofs
theorem jtP (b:Int)(s:ST)(a z:Res):j7c b s (λ_=>a) (λ_=>z)=bif decide (b<0)&& !((s.1==5)&&(s.2.2.2.2.1==1)) then z else a:=by
 unfold j7c;cases decide (b<0)
 ·rfl
 ·rw[Q1,Qd];unfold bne;cases (s.1==5)
  ·rfl
  ·cases (s.2.2.2.2.1==1)<;>rfl
theorem jp3 (t:T)(h:msr yT t<=1048576)(l:List (List V))(s:ST)(k:List (List V)->Int->Res):j5o l 0 s.1 s t k=k (j2n t l s).1 (j2n t l s).2:=by
 unfold j5o j2n;cases (s.1==1)
 ·rw[Q0,Q0];cases (s.1==2)
  ·rw[Q0,Q0];cases (s.1==3)
   ·rfl
   ·rw[Q1,Q1,jnD t h]
  ·rw[Q1,Q1,jnF t h]
 ·rw[Q1,Q1,jnE t h]
theorem jlX (d:DB)(h:dbB d=true)(x:D)(A:dSm x)(E:j0T x=true)(k:DB->Int->Res) :
  j5n d x k=bif j0b d.1 x != 0 then k ([],[]) (j0b d.1 x) else k (j0U d.1 x,jiN d x) 0:=by
 obtain⟨y,Y,K⟩:=(j1A d).1 h;have R:=((j0e _).1 y).1;unfold j5n;rw[jq2 _ _ (jcV y) A,joN y E];cases I:(j0b d.1 x != 0);rotate_left
 ·rw[cond_true];dsimp only;rw[I,cond_true,cond_true]
 have f:j0b d.1 x=0:=by simpa using I
 have l:=jlW y E f;have P:=((j0e _).1 l).1;rw[Q0,Q0];show (j12 d λW=>j0k d.1 x.2.1 λX=>j2l X x.1 d x (j0U d.1 x) W λH=>k (j0U d.1 x,H.2) 0)=_
 rw[jgl d h,j79 _ _ (by unfold LIM;omega)]
 unfold j2l jiN;cases w:(x.1==1)
 ·rw[Q0,Q0];rcases j0w d.1 x.2.1 with⟨B,_⟩ | ⟨i,z,B,G⟩
  ·unfold j0b at f;rw[w,Q0,Q3 (by omega),Q1]at f
   cases f
  ·have r:i<d.2.length:=by omega
   rw[B,QS];cases J:(x.1==2)
   ·have ht:j04 d.1[i]=true:=((j0e _).1 y).2.1 _ (Q7 z);have F:msr yT d.1[i]<=1048576:=Qx (jb9 ht) (by omega)
    have Q:j0p d.1[i] x=0:=by
     unfold j0b at f;rw[w,Q0,B,Q2 (show ¬ (i:Int)<0 by omega),Q0,Zax _ _ _ z]at f
     exact f
    rw[Q0,Q0,j00 z,Q1,j00 r,Q1,Zax _ _ _ z,Zax _ _ _ r,jlZ _ F _ (K i z r) _ A E G.symm (by simpa using w),Q,J,Q1,ZaE]
    rfl
   ·rw[Q1,Q1];unfold j4C jaX;rw[j01 (n:=(i:Int)+1) (by omega),show Z8d (i:Int) ((i:Int)+1) d.2.length=true from j8Z (j:=i+1) ⟨by omega,by omega⟩,Q1,XR]
    rfl
 ·rw[Q1,Q1];simp only[Z9P];have C:∃p:Nat,p<=d.2.length/\j05 (j0U d.1 x) x.2.1=(p:Int):=by
   have e:x.1=1:=by simpa using w
   have b:=f;unfold j0b at b;rw[w,Q1]at b;rcases j0w d.1 x.2.1 with⟨B,T⟩ | ⟨i,z,B,_⟩
   rotate_left
   ·rw[Q2 (by omega)]at b
    cases b
   have ht:j04 (x.2.1,x.2.2.1,x.2.2.2.1)=true:=by
    obtain⟨_,⟨t,cs,ks,rfl,ht⟩ | ⟨t,rfl⟩ | ⟨t,c,rfl,_⟩ | ⟨t,n,rfl,_⟩ | ⟨t,n,m,rfl,_⟩⟩:=j7F E
    ·exact ht
    all_goals exact absurd e (by simp)
   have L:d.1.length<6:=by
    rw[Q3 (by omega),Q4,Q0]at b
    rcases Yi d.1.length 6 with q | q
    ·exact q
    ·rw[show (d.1.length==6)=true from QG.2 (by omega)]at b
     cases b
   obtain⟨p,U,g,_⟩:=jpb y ht (show j05 d.1 x.2.1<0 by omega) L
   refine⟨p,by omega,?_⟩
   unfold j0U;rw[w,Q1];exact g
  obtain⟨p,U,g⟩:=C;rw[j79 _ _ (by unfold LIM;omega),g]
  unfold j1n jf6;have M:jjw (p:Int) d.2.length [([]:List (List V))].length=true:=Q3 ⟨by omega,by omega,by simp,by simp;unfold LIM;omega⟩
  rw[M,Q1,QS,Qb];rfl
theorem jq3 (d:DB)(h:dbB d=true)(s:ST)(p:j1Y s)(D:stB s=true)(k:DB->Int->Res):j9y d s k=k (j1K d s).1 (j1K d s).2:=by
 obtain⟨q,E,F⟩:=(j1A d).1 h;have B:=((j0e _).1 q).1;unfold j9y;rw[j79 _ _ (by unfold LIM;omega),jtP]
 cases f:(decide (j05 d.1 s.2.1<0)&& !((s.1==5)&&(s.2.2.2.2.1==1)));rotate_left
 ·unfold j1K;rw[f];rfl
 rw[Q0];cases g:(s.1==5)
 ·unfold j1K;rw[f,g,Q0,Q0,Q0];rw[g,QW,QQ,Xm]at f;have A:¬ j05 d.1 s.2.1<0:=of_decide_eq_false f;rcases j0w d.1 s.2.1 with⟨r,_⟩ | ⟨i,j,r,_⟩
  ·omega
  have b:i<d.2.length:=by omega
  have ht:j04 d.1[i]=true:=((j0e _).1 q).2.1 _ (Q7 j);have m:msr yT d.1[i]<=1048576:=Qx (jb9 ht) (by omega)
  have y:=jqp (t:=d.1[i]) (l:=d.2[i]) (s:=s);unfold j9P;rw[r];simp only[j00 j,j00 b,Q1,Z9P];rw[Zax _ _ _ j,Zax _ _ _ b,jp3 _ m];cases f:((j2n d.1[i] d.2[i] s).2 != 0)
  ·rw[Q0,Q0,jgl d h,j00 b,Q1,ZaE,QS]
  ·rw[Q1,Q1,j01 (n:=10+(j2n d.1[i] d.2[i] s).2) (by omega)]
 ·have w:s.1=5:=by simpa using g
  obtain⟨z,G⟩:=js1 D w;have C:=jkt d.1 s.2.2.2.2;rw[Q1,jlX d h _ p.2.2.2 z];unfold j1K;rw[f,g,Q0,Q1];cases y:(j0b d.1 s.2.2.2.2 != 0)
  ·rfl
  ·rw[Q1,Q1,Q1,j01 (n:=10+j0b d.1 s.2.2.2.2) (by omega)]
end Go.PI.G
namespace Go.PI.G
open Go Go.PI Go.Proofs
theorem jpA (d:DB)(h:dbB d=true)(s:ST)(b:j1Y s)(f:stB s=false)(k:DB->Int->Res):j7s d s k=k ([],[]) 1:=by
 unfold j7s;rw[jet d (jku h),h,Q4,Q0,jiJ s b,f];rfl
theorem jmH (d:DB)(p:msr yDB d<=1048576)(l:List ST)(z:l.length<=1048576)(j:∀s∈l,j1Y s)(k:DB->Int->Int->Res):j2f d l k=k (j0B d l).1 (j0B d l).2.1 (j0B d l).2.2:=by
 unfold j2f j0B;rw[jet d p];cases h:dbB d
 ·rfl
 rw[Q4,Q0,Q0,jlp d h];unfold j6W;have:=Z3Y l (λi (a:DB)=>(i,a)) j81 (λ_ a=>dbB a=true) (step:=j52 l (nI l.length)) ((λ(now:DB)=>k now 0 0),(λ(t:Int) (r:Int)=>k ([],[]) t r)) (λa=>k a 0 0) (λe=>k ([],[]) e.1 e.2) d (by unfold LIM;omega) h (λi a w f b q=>jkh b q) (λi a rec f b=>by
  show j2P _ _ _ _ _ _ _=_
  unfold j2P j81;dsimp only;have g:=j _ (List.getElem_mem f);rw[ZaP f,cond_true,j00 f,cond_true,Zax _ _ _ f];cases m:stB l[i]
  ·rw[jpA a b _ g m];rfl
  ·rw[jqe a b _ g m,Q4,Q0];cases y:((j1K a l[i]).2 != 0)
   ·rw[Q0,Q0,j01 (n:=(i:Int)+1) (by omega)]
   ·rfl) (λa rec b=>by
  show j2P _ _ _ _ _ _ _=_
  unfold j2P;dsimp only;rw[ZaO,cond_false])
 refine this.trans ?_;cases Z1R j81 0 l d<;>rfl
theorem jlY (d:DB)(p:msr yDB d<=1048576)(l:List ST)(z:l.length<=1048576)(j:∀s∈l,j1Y s)(k:DB->Int->Int->Res):j26 d l k=k (j0B d l).1 (j0B d l).2.1 (j0B d l).2.2:=by
 unfold j26 j0B;rw[jmV d p];cases h:dbB d
 ·rfl
 rw[Q4,Q0,Q0,jgl d h];unfold j9K;have:=Z3Y l (λi (a:DB)=>(i,a)) j81 (λ_ a=>dbB a=true) (step:=j2z l (nI l.length)) ((λ(now:DB)=>k now 0 0),(λ(t:Int) (r:Int)=>k ([],[]) t r)) (λa=>k a 0 0) (λe=>k ([],[]) e.1 e.2) d (by unfold LIM;omega) h (λi a w b g q=>jkh g q) (λi a rec b g=>by
  show j1B _ _ _ _ _ _ _=_
  unfold j1B j81;dsimp only;have f:=j _ (List.getElem_mem b);rw[ZaP b,cond_true,j00 b,cond_true,Zax _ _ _ b,jmW _ f];cases m:stB l[i]
  ·rfl
  ·rw[Q4,Q0,Q0,jq3 a g _ f m];cases y:((j1K a l[i]).2 != 0)
   ·rw[Q0,Q0,j01 (n:=(i:Int)+1) (by omega)]
   ·rfl) (λa rec g=>by
  show j1B _ _ _ _ _ _ _=_
  unfold j1B;dsimp only;rw[ZaO,cond_false])
 refine this.trans ?_;cases Z1R j81 0 l d<;>rfl
end Go.PI.G
namespace Go.PI.G
open Go Go.PI
theorem jtV {d:D}(h:msr yD d<=1048576):dSm d:=by
 have j:msr yD d=0+(d.2.1.size+(msr (.slice yC) d.2.2.1+(msr (.slice .str) d.2.2.2.1+(d.2.2.2.2.1.size+d.2.2.2.2.2.size)))):=rfl;have b:msr (.slice yC) d.2.2.1<=1048576:=by omega
 have f:msr (.slice .str) d.2.2.2.1<=1048576:=by omega
 refine⟨by omega,j0d b,j0d f,λc g=> ?_,λx i=>j0y f i,by omega,by omega⟩
 have:=j0y b g;have k:msr yC c=c.1.size+msr (.pair (.int .i64) (.pair .bool (.pair .bool yV))) c.2:=rfl;omega
theorem jtQ {s:ST}(h:msr yST s<=1048576):j1Y s:=by
 have f:msr yST s=0+(s.2.1.size+(msr (.slice yV) s.2.2.1+(msr (.slice yV) s.2.2.2.1+msr yD s.2.2.2.2))):=rfl;have b:msr (.slice yV) s.2.2.1<=1048576:=by omega
 have d:msr (.slice yV) s.2.2.2.1<=1048576:=by omega
 exact⟨by omega,j0d b,j0d d,jtV (by omega)⟩
end Go.PI.G
namespace Go.PI.G
open Go Go.PI
end Go.PI.G
namespace Go.PI.G
open Go Go.PI Go.Proofs
theorem jsK {l:List RC}(h:msr (.slice yRC) l<=1048576):l.length<=1048576/\∀r∈l,j1Y r.2.2:=
 ⟨j0d h,λr b=>by
  have e:msr yRC r=0+(0+msr yST r.2.2):=rfl;have:=j0y (e:=yRC) h b;exact jtQ (by omega)⟩
theorem ji1 {n:Nat}(h:n<=1048576):lim (0+n)=true:=ZaK (by unfold LIM;omega)
theorem jra (s:ST)(h:j1Y s)(k:ST->Res):jaz s k=k s:=by
 obtain⟨g,d,f,b⟩:=h;unfold jaz j0v;simp only[ji1 d,ji1 f,ji1 b.2.1,ji1 b.2.2.1,Q1]
 try rfl
theorem jqS (s:ST)(h:j1Y s)(k:ST->Res):j6o s k=k s:=by
 obtain⟨g,d,f,b⟩:=h;unfold j6o j0Q j9O j3e;simp only[ji1 d,ji1 f,ji1 b.2.1,ji1 b.2.2.1,Q1]
 try rfl
theorem jji (l:List Int)(n:Int)(h:l.length<=1048576)(k:Bool->Res):j4X l n k=k (j3o l n):=by
 unfold j4X jg6 j3o;have:=Za1 l (λi=>i) (λx=>x==n) (step:=j9m n l (nI l.length)) ((λ(_:Unit)=>k false),(λ(_:Unit)=>k true)) (k false) (k true) (by unfold LIM;omega) (λi rec b=>by
  show j40 _ _ _ _ _ _ _=_
  unfold j40;rw[ZaP b,Q1,j00 b,Q1,Zax _ _ _ b,j01 (n:=(i:Int)+1) (by omega)]) (λrec=>by
  show j40 _ _ _ _ _ _ _=_
  unfold j40;rw[ZaO,Q0])
 refine this.trans ?_;cases l.any λx=>x==n<;>rfl
theorem jj9 (l:List Int)(n:Int)(h:l.length<=1048576)(k:Bool->Res):j0Y l n k=k (j3o l n):=by
 unfold j0Y j9g jaT j3o;have:=Z9R l (λi=>i) (λx=>n==x) (step:=j5K l n (nI l.length)) ((λ(_:Unit)=>k (decide ((-1:Int)>=0))),(λ(t:Int)=>k (decide (t>=0)))) (λr=>k (decide (r>=0))) (by unfold LIM;omega) (λi rec b=>by
  show j1m _ _ _ _ _ _ _=_
  unfold j1m;rw[ZaP b,Q1,j00 b,Q1,Zax _ _ _ b,j01 (n:=(i:Int)+1) (by omega)]) (λrec=>by
  show j1m _ _ _ _ _ _ _=_
  unfold j1m;rw[ZaO,Q0])
 refine this.trans ?_;rw[joX];have:(λx:Int=>n==x)=λx=>x==n:=by funext x;exact Ym.2 (by rw[QG,QG];exact eq_comm)
 rw[this]
theorem jj6 {α:Type}(p:α->Bool):(j:Nat)->(l:List α)->Z4q (λ_ x=>bif p x then [x] else []) j l=l.filter p
 |_,[]=>rfl
 |j,x::l=>by
  show (bif p x then [x] else [])++Z4q _ (j+1) l=_
  rw[jj6 p (j+1) l];cases h:p x
  ·rw[Xr (by rw[h];simp)];rfl
  ·rw[Xs h];rfl
theorem jts {α:Type}(b:Bool)(x:α):(bif b then [x] else []).length<=1:=by cases b<;>simp
theorem jr3 (l:List Int)(n:Int)(h:l.length<=1048576)(k:List Int->Res):j6H l n k=k (l.filter λy=> !(y==n)):=by
 unfold j6H jg5;have:=Za2 l (λ_ x=>bif !(x==n) then [x] else []) (λi b=>(b,i)) (step:=j9l n l (nI l.length)) (λb=>k b) k (by unfold LIM;omega) (λ_ x=>jts _ _) (λb i rec d f=>by
  show j3Z _ _ _ _ _ _ _=_
  unfold j3Z;dsimp only;rw[ZaP d,cond_true,j00 d,cond_true,Zax _ _ _ d,j01 (n:=(i:Int)+1) (by omega),ZaK (by unfold LIM;omega),cond_true]
  unfold bne;cases l[i]==n
  ·rfl
  ·show _=rec (b++[],_)
   rw[Qe];rfl) (λb rec=>by
  show j3Z _ _ _ _ _ _ _=_
  unfold j3Z;dsimp only;rw[ZaO,cond_false])
 refine this.trans ?_;rw[jj6]
theorem jqi (l:List RC)(h:l.length<=1048576)(k:List Int->Res):j9C l k=k (j1s l):=by
 unfold j9C jiK j1s;refine Z8h l (λi b=>(b,i)) j8L (λi a=>a.length<=i) (step:=j7Z l (nI l.length)) (λb=>k b) k [] (by unfold LIM;omega) (by simp) (λi a d f=>Qx (jn0 _ _) (by omega)) (λi a rec d f=>by
  show j3i _ _ _ _ _ _=_
  unfold j3i jar;dsimp only;rw[ZaP d,cond_true,j00 d,cond_true,Zax _ _ _ d,j01 (n:=(i:Int)+1) (by omega),jji _ _ (by omega),ZaK (by unfold LIM;omega),cond_true]
  generalize l[i]=r;unfold j8L;cases g:r.1==1
  ·rw[Q0,Q0,jr3 _ _ (by omega)]
   cases r.1==3
   ·rw[Q0,XY];cases r.1==4<;>rfl
   ·rfl
  ·have e:r.1=1:=by simpa using g
   have j:(r.1==3)=false:=by rw[e];rfl
   have m:(r.1==4)=false:=by rw[e];rfl
   rw[Q1,Q1,j,m];cases j3o a r.2.1<;>rfl) (λa rec f=>by
  show j3i _ _ _ _ _ _=_
  unfold j3i;dsimp only;rw[ZaO,cond_false])
theorem jqk (l:List RC)(x:Int)(h:l.length<=1048576)(k:Bool->Res):jbV l x k=k (j6f l x):=by
 unfold jbV jiL j6f;have:=Za1 l (λi=>i) (λr:RC=>(r.1==1)&&(r.2.1==x)) (step:=jbk x l (nI l.length)) ((λ(_:Unit)=>k false),(λ(_:Unit)=>k true)) (k false) (k true) (by unfold LIM;omega) (λi rec b=>by
  show j5P _ _ _ _ _ _ _=_
  unfold j5P;rw[ZaP b,Q1,j00 b,Q1,Zax _ _ _ b,j01 (n:=(i:Int)+1) (by omega)]
  cases l[i].1==1<;>rfl) (λrec=>by
  show j5P _ _ _ _ _ _ _=_
  unfold j5P;rw[ZaO,Q0])
 refine this.trans ?_;cases l.any λr:RC=>(r.1==1)&&(r.2.1==x)<;>rfl
theorem jmJ (l:List RC)(x:Int)(h:l.length<=1048576)(f:∀r∈l,j1Y r.2.2)(k:List ST->Res):j5O l x k=k (j31 l x):=by
 unfold j5O jev j31;refine Za2 l (jiM x) (λi b=>(b,i)) (step:=j8i x l (nI l.length)) (λb=>k b) k (by unfold LIM;omega) (jki x) (λb i rec d g=>by
  show j2T _ _ _ _ _ _ _=_
  unfold j2T jiM;dsimp only;rw[ZaP d,cond_true,j00 d,cond_true,Zax _ _ _ d,jra _ (f _ (List.getElem_mem d)),j01 (n:=(i:Int)+1) (by omega),ZaK (by unfold LIM;omega),cond_true]
  cases l[i].1==2
  ·show _=rec (b++[],_)
   rw[Qe];rfl
  ·cases l[i].2.1==x
   ·show _=rec (b++[],_)
    rw[Qe];rfl
   ·rfl) (λb rec=>by
  show j2T _ _ _ _ _ _ _=_
  unfold j2T;dsimp only;rw[ZaO,cond_false])
theorem jm0 (l:List RC)(x:Int)(h:l.length<=1048576)(f:∀r∈l,j1Y r.2.2)(k:List ST->Res):j5l l x k=k (j31 l x):=by
 unfold j5l jeg j31;refine Za2 l (jiM x) (λi b=>(b,i)) (step:=j88 x l (nI l.length)) (λb=>k b) k (by unfold LIM;omega) (jki x) (λb i rec d g=>by
  show j2D _ _ _ _ _ _ _=_
  unfold j2D jiM;dsimp only;rw[ZaP d,cond_true,j00 d,cond_true,Zax _ _ _ d,jqS _ (f _ (List.getElem_mem d)),j01 (n:=(i:Int)+1) (by omega),ZaK (by unfold LIM;omega),cond_true]
  cases l[i].1==2
  ·show _=rec (b++[],_)
   rw[Qe];rfl
  ·cases l[i].2.1==x
   ·show _=rec (b++[],_)
    rw[Qe];rfl
   ·rfl) (λb rec=>by
  show j2D _ _ _ _ _ _ _=_
  unfold j2D;dsimp only;rw[ZaO,cond_false])
theorem jmK {α:Type}(l:List α)(i:Nat):sub l 0 (i:Int)=l.take i:=jqC l 0 i
theorem jju {i n:Nat}(h:i<=n):Z8d 0 (i:Int) n=true:=j8Z (i:=0) ⟨Qg _,h⟩
theorem jiQ {l:List RC}(d:∀r∈l,j1Y r.2.2)(i:Nat):∀r∈l.take i,j1Y r.2.2:=λr b=>d r (X7 b)
theorem j6e {l:List RC}(h:l.length<=1048576)(i:Nat):(l.take i).length<=1048576:=by rw[Qf];omega
theorem js2 {l:List RC}(f:∀r∈l,j1Y r.2.2)(x:Int):∀s∈j31 l x,j1Y s:=λs b=>by
 obtain⟨r,d,rfl⟩:=jrb b;exact f r d
theorem jrV (l:List RC)(h:l.length<=1048576)(i:Nat)(f:i<=l.length)(r:RC)(j:j1Y r.2.2)(k:Bool->Res) :
  j2r l (i:Int) r k=k (!jc6 r||(bif r.1==1 then j6f (l.take i) r.2.1 else !j3o (j1s (l.take i)) r.2.1)):=by
 unfold j2r;have g:(j1s (l.take i)).length<=1048576:=Qx (jn1 _) (j6e h i);rw[jr9 _ j,jju f,Q1,Q1,jmK,jqk _ _ (j6e h i),jqi _ (j6e h i)];simp only[jji _ _ g];cases jc6 r
 ·rfl
 cases d:r.1==1
 ·have b:(r.1 != 1)=true:=by unfold bne;rw[d];rfl
  rw[b];rfl
 ·have b:(r.1 != 1)=false:=by unfold bne;rw[d];rfl
  rw[b];cases j6f (l.take i) r.2.1<;>rfl
theorem jpC (l:List RC)(h:l.length<=1048576)(b:∀r∈l,j1Y r.2.2)(i:Nat)(g:i<=l.length)(d:DB)(f:dbB d=true)(r:RC)(k:Int->DB->Res) :
  j2s l (i:Int) d r k=k (j0B d (j31 (l.take i) r.2.1)).2.1 (j0B d (j31 (l.take i) r.2.1)).1:=by
 unfold j2s;rw[jju g,Q1];simp only[Z9P];rw[jmK,jmJ _ _ (j6e h i) (jiQ b i),jmH d (jku f) _ (Qx (jlu _ _) (j6e h i)) (js2 (jiQ b i) _)]
theorem jp2 (l:List RC)(h:l.length<=1048576)(b:∀r∈l,j1Y r.2.2)(i:Nat)(g:i<=l.length)(d:DB)(f:dbB d=true)(r:RC)(k:Int->DB->Res) :
  j5p l (i:Int) d r k=k (j0B d (j31 (l.take i) r.2.1)).2.1 (j0B d (j31 (l.take i) r.2.1)).1:=by
 unfold j5p;rw[jju g,Q1];simp only[Z9P];rw[jmK,jm0 _ _ (j6e h i) (jiQ b i),jlY d (jku f) _ (Qx (jlu _ _) (j6e h i)) (js2 (jiQ b i) _)]
theorem jtU (n:Nat):decide (nI n<=400)=decide (n<=400):=Xt.2 (by unfold nI;omega)
theorem jtk (n:Nat):decide (nI n>400)= !decide (n<=400):=by
 by_cases h:n<=400
 ·rw[Q3 h,Q2 (by unfold nI;omega)];rfl
 ·rw[Q2 h,Q3 (by unfold nI;omega)];rfl
theorem jqj (l:List RC)(h:l.length<=1048576)(g:∀r∈l,j1Y r.2.2)(k:DB->Bool->Res) :
  jax l k=match jgy zDB l with | .ok d=>k d (decide (l.length<=400)) | .error _=>k ([],[]) false:=by
 unfold jax jay;rw[jtU];refine(Z3Y l (λi (a:DB)=>(i,a)) (λi d r=>jcP (l.take i) d r) (λ_ a=>dbB a=true) (step:=j5b l l (nI l.length)) ((λ(d:DB)=>k d (decide (l.length<=400))),(λ(_:Unit)=>k ([],[]) false)) (λa=>k a (decide (l.length<=400))) (λ_=>k ([],[]) false) zDB (by unfold LIM;omega) jgk (λi a q b f g=>jph f g) (λi a rec b f=>by
  show j1G _ _ _ _ _ _ _ _=_
  unfold j1G jcP;dsimp only;have j:=g _ (List.getElem_mem b);rw[ZaP b,cond_true,j00 b,cond_true,Zax _ _ _ b,jrV l h i (by omega) _ j,jpC l h g i (by omega) a f,j01 (n:=(i:Int)+1) (by omega)]
  generalize l[i]=r;cases jc6 r
  ·rfl
  cases p:r.1==1
  ·cases j3o (j1s (l.take i)) r.2.1
   ·rfl
   ·cases r.1==3
    ·rfl
    ·cases m:(j0B a (j31 (l.take i) r.2.1)).2.1 != 0
     ·simp only[Q1,Q0,Q4,Bool.or_false,m]
     ·simp only[Q1,Q0,Q4,Bool.or_false,m]
  ·cases j6f (l.take i) r.2.1
   ·have e:r.1=1:=by simpa using p
    rw[e];rfl
   ·rfl) (λa rec f=>by
  show j1G _ _ _ _ _ _ _ _=_
  unfold j1G;dsimp only;rw[ZaO,cond_false])).trans ?_
 unfold jgy;cases Z1R (λi d r=>jcP (l.take i) d r) 0 l zDB<;>rfl
end Go.PI.G
namespace Go.PI.G
open Go Go.PI Go.Proofs
theorem jtx (o:List Int)(r:RC)(h:o.length<=1048576)(k:List Int->RC->Res):j1j o r k=k (o.filter λy=> !(y==r.2.1)) r:=by
 unfold j1j;rw[ZaK (by unfold LIM;omega),Q1,joP (g:=λe k=>jgp e r k) (λy=>y==r.2.1) o (λy b k=>rfl) [],Qk]
noncomputable def jpP (l:List RC)(i:Int)(d:DB):List Int×List Int×Int×DB:=(j1s (l.take i.toNat),j72 (l.take i.toNat),i,d)
theorem jqn (l:List RC)(i:Nat)(b:i<l.length)(d:DB):jpP l ((i:Int)+1) d=(j8L (j1s (l.take i)) l[i],(bif l[i].1==1 then j72 (l.take i)++[l[i].2.1] else j72 (l.take i)),(i:Int)+1,d):=by
 unfold jpP;rw[show ((i:Int)+1).toNat=i+1 by omega,QA b,jl4,jrl]
theorem jq8 (d:DB)(B:dbB d=true)(l:List RC)(h:l.length<=1048576)(p:∀r∈l,j1Y r.2.2)(k:DB->Bool->Res) :
  jei d l k=match jgy d l with | .ok d=>k d true | .error _=>k ([],[]) false:=by
 unfold jei jdk jhZ;refine(Z3Y l (jpP l) (λi d r=>jcP (l.take i) d r) (λ_ a=>dbB a=true) (step:=j7J l l (nI l.length)) ((λ(f:DB)=>k f true),(λ(_:Unit)=>k ([],[]) false)) (λa=>k a true) (λ_=>k ([],[]) false) d (by unfold LIM;omega) B (λi a F b m p=>jph m p) (λi a rec b m=>by
  show j3f l l (nI l.length) (j1s (l.take (i:Int).toNat)) (j72 (l.take (i:Int).toNat)) (i:Int) a (λo u j d=>rec (o,u,j,d)) (λf=>k f true) (λ_=>k ([],[]) false)=_
  have y:=p _ (Q7 b);have A:(j1s (l.take i)).length<=1048576:=Qx (jn1 _) (j6e h i);have D:(j72 (l.take i)).length<=1048576:=Qx (jsh _) (j6e h i);unfold j3f j7d jcP;simp only[jqn l i b];rw[QS,ZaP b,Q1,j00 b,Q1,Zax _ _ _ b,jqR _ y,jj9 _ _ D,jj9 _ _ A,jsg,j01 (n:=(i:Int)+1) (by omega),ZaK (by unfold LIM;omega),ZaK (by unfold LIM;omega),Q1,Q1]
  simp only[jp2 l h p i (by omega) a m,jtx _ _ A]
  generalize l[i]=r;cases C:jc6 r
  ·rfl
  rw[Q4,Q0,Q0];cases q:r.1==1
  ·rw[Q0,Q0];cases j3o (j1s (l.take i)) r.2.1
   ·rfl
   rw[Q4,Q0,Q0];unfold j8L;rw[q,Q0,Q0];cases z:r.1==3
   ·rw[Q0,Q0,XY];unfold bne;cases g:r.1==2
    ·have K:=(jqZ C).1;have w:(r.1==4)=true:=by
      rw[QG];have G:r.1≠1:=by simpa using q
      have H:r.1≠2:=by simpa using g
      have I:r.1≠3:=by simpa using z
      omega
     rw[w];rfl
    ·have w:(r.1==4)=false:=by
      have:r.1=2:=by simpa using g
      rw[this];rfl
     rw[w];rfl
   ·have g:(r.1 != 2)=true:=by
     have:r.1=3:=by simpa using z
     rw[this];rfl
    rw[Q1,Q1,Bool.true_or];cases J:(j0B a (j31 (l.take i) r.2.1)).2.1 != 0
    ·rw[Q0,Q0,g];rfl
    ·rfl
  ·rw[Q1,Q1];cases E:j6f (l.take i) r.2.1
   ·unfold j8L;rw[q,Q1,Q1,jqY E];rfl
   ·rfl) (λa rec m=>by
  show j3f l l (nI l.length) (j1s (l.take ((l.length:Nat):Int).toNat)) (j72 (l.take ((l.length:Nat):Int).toNat)) (l.length:Int) a (λo u j d=>rec (o,u,j,d)) (λf=>k f true) (λ_=>k ([],[]) false)=_
  unfold j3f;rw[ZaO,Q0])).trans ?_
 unfold jgy;cases Z1R (λi d r=>jcP (l.take i) d r) 0 l d<;>rfl
theorem jr5 (l:List RC)(h:l.length<=1048576)(d:∀r∈l,j1Y r.2.2)(k:Bool->Res):jaq l k=k (jjy l):=by
 unfold jaq jjy;rw[jtk];cases b:decide (l.length<=400)
 ·rfl
 rw[Q4,Q0,jqj l h d,b];cases jgy zDB l<;>rfl
theorem jqP (l:List RC)(h:l.length<=1048576)(d:∀r∈l,j1Y r.2.2)(k:Bool->Res):j9L l k=k (jjy l):=by
 unfold j9L jjy;rw[jtk];cases b:decide (l.length<=400)
 ·rfl
 rw[Q4,Q0,jq8 _ jgk l h d];cases jgy zDB l<;>rfl
end Go.PI.G
namespace Go.PI.G
open Go Go.PI Go.Proofs
noncomputable def jkc (p:List ByteArray):Bool:= !Z70 (λi s=> !j0h s||(decide (0<i)&&sGe (nth eS p ((i:Int)-1)) s)) 0 p&&decide (p.length<=6)
theorem jpi (c:List ByteArray)(i:Nat)(d:i<c.length)(b:c.length<=LIM)(x:Res)(y:Res):(bif decide ((i:Int)>0) then (bif inb (Z9J ((i:Int)-1)) c.length then (bif sGe (nth eS c (Z9J ((i:Int)-1))) c[i] then x else y) else none) else y) =
  bif (decide (0<i)&&sGe (nth eS c ((i:Int)-1)) c[i]) then x else y:=by
 by_cases h:0<i
 ·unfold LIM at b;rw[Q3 (show (i:Int)>0 by omega),Q3 h,Q1,j01 (by omega),ZaJ (by omega) (by omega),Q1,Qd]
 ·rw[Q2 (show ¬ (i:Int)>0 by omega),Q2 h];rfl
theorem jtl {p:List ByteArray}(h:msr (.slice .str) p<=1048576):p.length<=1048576/\∀x∈p,x.size<=1048576:=⟨j0d h,λx b=>j0y h b⟩
theorem jr7 (p:List ByteArray)(h:msr (.slice .str) p<=1048576)(k:Bool->Res):jas p k=k (jkc p):=by
 obtain⟨g,f⟩:=jtl h;unfold jas jhr jkc;have:=Z9O p (λi=>i) (λi s=> !j0h s||(decide (0<i)&&sGe (nth eS p ((i:Int)-1)) s)) (step:=jat p (nI p.length) p) ((λ(_:Unit)=>k (decide (nI p.length<=6))),(λ(_:Unit)=>k false)) (k (decide (nI p.length<=6))) (k false) (by unfold LIM;omega) (λi rec b=>by
  show j4J _ _ p _ _ _ _=_
  unfold j4J;rw[ZaP b,Q1,j00 b,Q1,Zax _ _ _ b,j39 _ (by have:=f _ (Q7 b);unfold LIM;omega),j01 (n:=(i:Int)+1) (by omega),jpi p i b (by unfold LIM;omega)]
  cases j0h p[i]
  ·rfl
  ·cases (decide (0<i)&&sGe (nth eS p ((i:Int)-1)) p[i])<;>rfl) (λrec=>by
  show j4J _ _ p _ _ _ _=_
  unfold j4J;rw[ZaO,Q0])
 refine this.trans ?_;have d:decide (nI p.length<=6)=decide (p.length<=6):=Xt.2 (by unfold nI;omega)
 rw[d];cases Z70 (λi s=> !j0h s||(decide (0<i)&&sGe (nth eS p ((i:Int)-1)) s)) 0 p
 ·rw[Q0,QQ,Qd]
 ·rfl
theorem jqQ (p:List ByteArray)(h:msr (.slice .str) p<=1048576)(k:Bool->Res):j9M p k=k (jkc p):=by
 obtain⟨g,f⟩:=jtl h;unfold j9M jha jkc;have:=Z9O p (λi=>i) (λi s=> !j0h s||(decide (0<i)&&sGe (nth eS p ((i:Int)-1)) s)) (step:=j9N p (nI p.length) p) ((λ(_:Unit)=>k (decide (nI p.length<=6))),(λ(_:Unit)=>k false)) (k (decide (nI p.length<=6))) (k false) (by unfold LIM;omega) (λi rec b=>by
  show j4t _ _ p _ _ _ _=_
  unfold j4t;rw[ZaP b,Q1,j00 b,Q1,Zax _ _ _ b,j37 _ (by have:=f _ (Q7 b);unfold LIM;omega),j01 (n:=(i:Int)+1) (by omega),jpi p i b (by unfold LIM;omega)]
  cases j0h p[i]
  ·rfl
  ·cases (decide (0<i)&&sGe (nth eS p ((i:Int)-1)) p[i])<;>rfl) (λrec=>by
  show j4t _ _ p _ _ _ _=_
  unfold j4t;rw[ZaO,Q0])
 refine this.trans ?_;have d:decide (nI p.length<=6)=decide (p.length<=6):=Xt.2 (by unfold nI;omega)
 rw[d];cases Z70 (λi s=> !j0h s||(decide (0<i)&&sGe (nth eS p ((i:Int)-1)) s)) 0 p
 ·rw[Q0,QQ,Qd]
 ·rfl
end Go.PI.G
namespace Go.PI.G
open Go Go.PI Go.Proofs
abbrev WT:=List RC×List ByteArray×FT×FT×List (List Int)×List Int
abbrev yFT:Ty:= .pair yDB (.pair (.int .i64) (.int .i64))
abbrev yNT:Ty:= .slice (.slice (.int .u8))
abbrev yWT:Ty:= .pair (.slice yRC) (.pair (.slice .str) (.pair yFT (.pair yFT (.pair yNT (.slice (.int .i64))))))
noncomputable def jlv (w:WT):Bool:=jjy w.1&&(jkc w.2.1&&(jf2 w.2.2.1&&(jf2 w.2.2.2.1&&(decide (nI w.2.2.2.2.1.length<=30)&&decide (w.2.2.2.1.2.1<=w.2.2.1.2.1)))))
structure WSm (w:WT):Prop where
 len:w.1.length<=1048576
 recs:∀r∈w.1,j1Y r.2.2
 log:msr (.slice yRC) w.1<=1048576
 pub:msr (.slice .str) w.2.1<=1048576
 fol:msr yDB w.2.2.1.1<=1048576
 sav:msr yDB w.2.2.2.1.1<=1048576
 net:msr yNT w.2.2.2.2.1<=1048576
theorem jtg {w:WT}(h:msr yWT w<=1048576):WSm w:=by
 have e:msr yWT w=msr (.slice yRC) w.1+(msr (.slice .str) w.2.1+((msr yDB w.2.2.1.1+(0+0))+((msr yDB w.2.2.2.1.1+(0+0))+(msr yNT w.2.2.2.2.1+msr (.slice (.int .i64)) w.2.2.2.2.2)))):=rfl;have b:msr (.slice yRC) w.1<=1048576:=by omega
 obtain⟨d,f⟩:=jsK b;exact⟨d,f,b,by omega,by omega,by omega,by omega⟩
theorem jpE (w:WT)(h:WSm w)(k:Bool->Res):j5Q w k=k (jlv w):=by
 unfold j5Q jcT jlv;simp only[jr5 _ h.len h.recs,jr7 _ h.pub,jlq _ h.fol,jlq _ h.sav];cases jjy w.1
 ·rfl
 cases jkc w.2.1
 ·rfl
 cases jf2 w.2.2.1
 ·rfl
 cases jf2 w.2.2.2.1
 ·rfl
 cases decide (nI w.2.2.2.2.1.length<=30)<;>rfl
theorem jp4 (w:WT)(h:WSm w)(k:Bool->Res):j5m w k=k (jlv w):=by
 unfold j5m jcH jlv;simp only[jqP _ h.len h.recs,jqQ _ h.pub,jkA _ h.fol,jkA _ h.sav];cases jjy w.1
 ·rfl
 cases jkc w.2.1
 ·rfl
 cases jf2 w.2.2.1
 ·rfl
 cases jf2 w.2.2.2.1
 ·rfl
 cases decide (nI w.2.2.2.2.1.length<=30)<;>rfl
end Go.PI.G
namespace Go.PI.G
open Go Go.PI Go.Proofs
end Go.PI.G
set_option maxRecDepth 10000
namespace Go.PI.G
open Go Go.PI Go.Proofs
theorem jpL (a:Int×Int×ByteArray)(h:msr y1 a<=1048576)(k:qV->Res):jac a k=k a:=by
 unfold jac;rfl
theorem jpH (a:Int×Int×ByteArray)(left:Int)(h:0<=left)(i:left<=1048576)(g:Wf y1 a)(k:Int->Res):ja6 a left k=k (szR left (msr y1 a)):=by
 have f:msr y1 a=ByteArray.size a.2.2+0:=by simp only[msr]<;>omega
 rw[f];unfold ja6;have d:ByteArray.size a.2.2<=maxLen:=g.2.2;unfold maxLen at d;rw[j01 (by unfold nI;omega)]
 by_cases b:((ByteArray.size a.2.2:Nat):Int)<=left;rotate_left
 ·rw[Zak b,Za4 (by unfold nI;omega),Q1]
 rw[Za3 (by unfold nI;omega),Q0,Zaj b,show left-nI (ByteArray.size a.2.2)=left-((ByteArray.size a.2.2:Nat):Int) from rfl]
 exact j2h (by omega)
theorem joS (a:Int×Int×ByteArray)(h:msr y1 a<=1048576)(k:Bool->Res):j9Y a a k=k true:=by
 unfold j9Y;simp only[ZaN,Zah,Xe,Q0,Q4]
end Go.PI.G
namespace Go.PI.G
open Go Go.PI Go.Proofs
theorem jta (a:ByteArray×Int×Bool×Bool×Int×Int×ByteArray)(h:msr y6 a<=1048576)(k:qC->Res):jcM a k=k a:=by
 have b:msr y1 a.2.2.2.2<=1048576:=(Qx (@j03 .bool y1 a.2.2.2) (Qx (@j03 .bool y3 a.2.2) (Qx (@j03 (.int .i64) y4 a.2) (Qx (@j03 .str y5 a) h))));unfold jcM;simp only[jpL _ b]
theorem jt2 (a:ByteArray×Int×Bool×Bool×Int×Int×ByteArray)(left:Int)(i:0<=left)(j:left<=1048576)(g:Wf y6 a)(k:Int->Res):jcK a left k=k (szR left (msr y6 a)):=by
 have h:msr y6 a=ByteArray.size a.1+(msr y1 a.2.2.2.2+0):=by simp only[msr]<;>omega
 rw[h];unfold jcK;have f:ByteArray.size a.1<=maxLen:=g.1;unfold maxLen at f;rw[j01 (by unfold nI;omega)]
 by_cases d:((ByteArray.size a.1:Nat):Int)<=left;rotate_left
 ·rw[Zak d,Za4 (by unfold nI;omega),Q1]
 rw[Za3 (by unfold nI;omega),Q0,Zaj d,show left-nI (ByteArray.size a.1)=left-((ByteArray.size a.1:Nat):Int) from rfl]
 rw[jpH _ _ (by omega) (by omega) g.2.2.2.2]
 by_cases b:((msr y1 a.2.2.2.2:Nat):Int)<=left-(ByteArray.size a.1:Nat);rotate_left
 ·rw[Zay b,Zak b,Za4 (by omega),Q1]
 rw[Zaz b,Zaj b,Za3 (by omega),Q0]
 exact j2h (by omega)
theorem jsy (a:ByteArray×Int×Bool×Bool×Int×Int×ByteArray)(h:msr y6 a<=1048576)(k:Bool->Res):jcI a a k=k true:=by
 have b:msr y1 a.2.2.2.2<=1048576:=(Qx (@j03 .bool y1 a.2.2.2) (Qx (@j03 .bool y3 a.2.2) (Qx (@j03 (.int .i64) y4 a.2) (Qx (@j03 .str y5 a) h))));unfold jcI;simp only[ZaN,Zah,Xe,Q0,Q4,joS _ b]
end Go.PI.G
namespace Go.PI.G
open Go Go.PI Go.Proofs
theorem jnc (a:qE)(h:msr y7 a<=1048576)(k:qE->Res):j4U a k=k a:=by
 have g:a.length<=1048576:=j0d h;unfold j4U;rw[Zau (by unfold LIM;omega),Q1]
 have:=ZaB ((eS,0,false,false,0,0,eS)) a id (step:=j94 a) (λb=>k b) (by unfold LIM;omega) (λb i rec d f=>by
  show j3F a _ _ _ _=_
  unfold j3F;dsimp only;simp only[ZaP d,cond_true,j00 d,j00 (show i<b.length by omega),Zax _ _ _ d,ZaE,j01 (n:=(i:Int)+1) (by omega),jta _ (j0y h (List.getElem_mem d))]
  rfl) (λb rec=>by
  show j3F a _ _ _ _=_
  unfold j3F;dsimp only;rw[ZaO,cond_false])
 rw[List.map_id]at this;exact this
theorem jna (a:qE)(left:Int)(g:0<=left)(h:left<=1048576)(l:Wf y7 a)(k:Int->Res):j4T a left k=k (szR left (msr y7 a)):=by
 have j:a.length<=maxLen:=l.1;have p:msr y7 a=a.length+(a.map (msr y6)).sum:=rfl;rw[p];unfold j4T;refine j8G (F:=λq=>jb5 a Z1b q 0 (λd=>k d) (λ_=>k (-1))) (k:=k) g h j λb=> ?_
 unfold jb5;rw[ZaA (msr y6) a _ (by omega) (λleft i rec f g h=> ?_) (λleft rec=> ?_) _ (by omega) (by omega)]
 ·by_cases b:(((a.map (msr y6)).sum:Nat):Int)<=left-a.length
  ·rw[QM b,Zaz b]
  ·rw[QN b,Zay b]
 ·show j3B a _ _ _ _ _=_
  have r:=l.2 _ (Q7 f);unfold j3B;rw[ZaP f,Q1,j00 f,Q1,Zax _ _ _ f,jt2 _ _ g h r];have m:(i:Int)<4611686018427387904:=by unfold maxLen at j;omega
  rw[j01 (n:=(i:Int)+1) (by omega)]
  by_cases b:((msr y6 a[i]:Nat):Int)<=left
  ·rw[QM b,Zaz b,Za3 (by omega),Q0]
  ·rw[QN b,Zay b,Za4 (by omega),Q1]
 ·show j3B a _ _ _ _ _=_
  unfold j3B;rw[ZaO,Q0]
theorem jmS (a:qE)(h:msr y7 a<=1048576)(k:Bool->Res):j4S a a k=k true:=by
 have d:a.length<=1048576:=j0d h;unfold j4S;rw[ZaN,Q0];unfold jfJ;rw[Zaq a _ (by unfold LIM;omega) (λi rec b=> ?_) (λrec=> ?_)]
 ·show j3w a a _ _ _ _=_
  unfold j3w;simp only[ZaP b,Q1,j00 b,Zax _ _ _ b,j01 (n:=(i:Int)+1) (by omega),ZaN,Zah,Q0,Q4,jsy _ (j0y h (Q7 b))]
 ·show j3w a a _ _ _ _=_
  unfold j3w;rw[ZaO,Q0]
end Go.PI.G
namespace Go.PI.G
open Go Go.PI Go.Proofs
theorem jdH (a:(List ByteArray))(h:msr y8 a<=1048576)(k:(List ByteArray)->Res):j1h a k=k a:=by
 have g:a.length<=1048576:=j0d h;unfold j1h;rw[Zau (by unfold LIM;omega),Q1]
 have:=ZaB (eS) a id (step:=j6I a) (λb=>k b) (by unfold LIM;omega) (λb i rec d f=>by
  show j1P a _ _ _ _=_
  unfold j1P;dsimp only;simp only[ZaP d,cond_true,j00 d,j00 (show i<b.length by omega),Zax _ _ _ d,ZaE,j01 (n:=(i:Int)+1) (by omega)]
  rfl) (λb rec=>by
  show j1P a _ _ _ _=_
  unfold j1P;dsimp only;rw[ZaO,cond_false])
 rw[List.map_id]at this;exact this
theorem jdG (a:(List ByteArray))(left:Int)(j:0<=left)(l:left<=1048576)(p:Wf y8 a)(k:Int->Res):j1g a left k=k (szR left (msr y8 a)):=by
 have m:a.length<=maxLen:=p.1;have r:msr y8 a=a.length+(a.map (msr .str)).sum:=rfl;rw[r];unfold j1g;refine j8G (F:=λq=>j8a a Z1b q 0 (λd=>k d) (λ_=>k (-1))) (k:=k) j l m λb=> ?_
 unfold j8a;rw[ZaA (msr .str) a _ (by omega) (λleft i rec f j l=> ?_) (λleft rec=> ?_) _ (by omega) (by omega)]
 ·by_cases b:(((a.map (msr .str)).sum:Nat):Int)<=left-a.length
  ·rw[QM b,Zaz b]
  ·rw[QN b,Zay b]
 ·show j1O a _ _ _ _ _=_
  have h:=p.2 _ (Q7 f);unfold j1O;have h:a[i].size<=maxLen:=h;unfold maxLen at h m;rw[ZaP f,Q1,j00 f,Q1,Zax _ _ _ f,j01 (n:=left-nI a[i].size) (by unfold nI;omega),j01 (n:=(i:Int)+1) (by omega)]
  unfold nI;by_cases b:((msr .str a[i]:Nat):Int)<=left
  ·have g:(a[i].size:Int)<=left:=b;rw[QM b,Za3 (by omega),Q0];rfl
  ·have g:¬ (a[i].size:Int)<=left:=b;rw[QN b,Za4 (by omega),Q1]
 ·show j1O a _ _ _ _ _=_
  unfold j1O;rw[ZaO,Q0]
theorem jdg (a:(List ByteArray))(h:msr y8 a<=1048576)(k:Bool->Res):j1f a a k=k true:=by
 have d:a.length<=1048576:=j0d h;unfold j1f;rw[ZaN,Q0];unfold jcx;rw[Zaq a _ (by unfold LIM;omega) (λi rec b=> ?_) (λrec=> ?_)]
 ·show j1N a a _ _ _ _=_
  unfold j1N;simp only[ZaP b,Q1,j00 b,Zax _ _ _ b,j01 (n:=(i:Int)+1) (by omega),ZaN,Zah,Q0,Q4]
 ·show j1N a a _ _ _ _=_
  unfold j1N;rw[ZaO,Q0]
end Go.PI.G
namespace Go.PI.G
open Go Go.PI Go.Proofs
theorem jrk (a:ByteArray×qE×List ByteArray)(h:msr y22 a<=1048576)(k:qT->Res):j7j a k=k a:=by
 have b:msr y7 a.2.1<=1048576:=(Qx (@j0x y7 y8 a.2) (Qx (@j03 .str y21 a) h));have d:msr y8 a.2.2<=1048576:=(Qx (@j03 y7 y8 a.2) (Qx (@j03 .str y21 a) h));unfold j7j;simp only[jnc _ b,jdH _ d]
theorem jrf (a:ByteArray×qE×List ByteArray)(left:Int)(j:0<=left)(l:left<=1048576)(g:Wf y22 a)(k:Int->Res):j7h a left k=k (szR left (msr y22 a)):=by
 have i:msr y22 a=ByteArray.size a.1+(msr y7 a.2.1+(msr y8 a.2.2+0)):=by simp only[msr]<;>omega
 rw[i];unfold j7h;have h:ByteArray.size a.1<=maxLen:=g.1;unfold maxLen at h;rw[j01 (by unfold nI;omega)]
 by_cases f:((ByteArray.size a.1:Nat):Int)<=left;rotate_left
 ·rw[Zak f,Za4 (by unfold nI;omega),Q1]
 rw[Za3 (by unfold nI;omega),Q0,Zaj f,show left-nI (ByteArray.size a.1)=left-((ByteArray.size a.1:Nat):Int) from rfl]
 rw[jna _ _ (by omega) (by omega) g.2.1]
 by_cases b:((msr y7 a.2.1:Nat):Int)<=left-(ByteArray.size a.1:Nat);rotate_left
 ·rw[Zay b,Zak b,Za4 (by omega),Q1]
 rw[Zaz b,Zaj b,Za3 (by omega),Q0]
 rw[jdG _ _ (by omega) (by omega) g.2.2]
 by_cases d:((msr y8 a.2.2:Nat):Int)<=left-(ByteArray.size a.1:Nat)-(msr y7 a.2.1:Nat);rotate_left
 ·rw[Zay d,Zak d,Za4 (by omega),Q1]
 rw[Zaz d,Zaj d,Za3 (by omega),Q0]
 exact j2h (by omega)
theorem jqL (a:ByteArray×qE×List ByteArray)(h:msr y22 a<=1048576)(k:Bool->Res):j7f a a k=k true:=by
 have b:msr y7 a.2.1<=1048576:=(Qx (@j0x y7 y8 a.2) (Qx (@j03 .str y21 a) h));have d:msr y8 a.2.2<=1048576:=(Qx (@j03 y7 y8 a.2) (Qx (@j03 .str y21 a) h));unfold j7f;simp only[ZaN,Zah,Xe,Q0,Q4,jmS _ b,jdg _ d]
end Go.PI.G
namespace Go.PI.G
open Go Go.PI Go.Proofs
theorem jqm (a:qF)(h:msr y23 a<=1048576)(k:qF->Res):j8K a k=k a:=by
 have g:a.length<=1048576:=j0d h;unfold j8K;rw[Zau (by unfold LIM;omega),Q1]
 have:=ZaB ((eS,[],[])) a id (step:=j7k a) (λb=>k b) (by unfold LIM;omega) (λb i rec d f=>by
  show j2b a _ _ _ _=_
  unfold j2b;dsimp only;simp only[ZaP d,cond_true,j00 d,j00 (show i<b.length by omega),Zax _ _ _ d,ZaE,j01 (n:=(i:Int)+1) (by omega),jrk _ (j0y h (List.getElem_mem d))]
  rfl) (λb rec=>by
  show j2b a _ _ _ _=_
  unfold j2b;dsimp only;rw[ZaO,cond_false])
 rw[List.map_id]at this;exact this
theorem jql (a:qF)(left:Int)(g:0<=left)(h:left<=1048576)(l:Wf y23 a)(k:Int->Res):j8J a left k=k (szR left (msr y23 a)):=by
 have j:a.length<=maxLen:=l.1;have p:msr y23 a=a.length+(a.map (msr y22)).sum:=rfl;rw[p];unfold j8J;refine j8G (F:=λq=>j93 a Z1b q 0 (λd=>k d) (λ_=>k (-1))) (k:=k) g h j λb=> ?_
 unfold j93;rw[ZaA (msr y22) a _ (by omega) (λleft i rec f g h=> ?_) (λleft rec=> ?_) _ (by omega) (by omega)]
 ·by_cases b:(((a.map (msr y22)).sum:Nat):Int)<=left-a.length
  ·rw[QM b,Zaz b]
  ·rw[QN b,Zay b]
 ·show j2a a _ _ _ _ _=_
  have r:=l.2 _ (Q7 f);unfold j2a;rw[ZaP f,Q1,j00 f,Q1,Zax _ _ _ f,jrf _ _ g h r];have m:(i:Int)<4611686018427387904:=by unfold maxLen at j;omega
  rw[j01 (n:=(i:Int)+1) (by omega)]
  by_cases b:((msr y22 a[i]:Nat):Int)<=left
  ·rw[QM b,Zaz b,Za3 (by omega),Q0]
  ·rw[QN b,Zay b,Za4 (by omega),Q1]
 ·show j2a a _ _ _ _ _=_
  unfold j2a;rw[ZaO,Q0]
theorem jpZ (a:qF)(h:msr y23 a<=1048576)(k:Bool->Res):j8I a a k=k true:=by
 have d:a.length<=1048576:=j0d h;unfold j8I;rw[ZaN,Q0];unfold jdp;rw[Zaq a _ (by unfold LIM;omega) (λi rec b=> ?_) (λrec=> ?_)]
 ·show j29 a a _ _ _ _=_
  unfold j29;simp only[ZaP b,Q1,j00 b,Zax _ _ _ b,j01 (n:=(i:Int)+1) (by omega),ZaN,Zah,Q0,Q4,jqL _ (j0y h (Q7 b))]
 ·show j29 a a _ _ _ _=_
  unfold j29;rw[ZaO,Q0]
end Go.PI.G
namespace Go.PI.G
open Go Go.PI Go.Proofs
theorem jt9 (a:List qT)(h:msr y23 a<=1048576)(k:qF->Res):ja8 a k=k a:=by
 have b:msr y23 a<=1048576:=h;unfold ja8;simp only[jqm _ b]
theorem jt1 (a:List qT)(left:Int)(g:0<=left)(h:left<=1048576)(f:Wf y23 a)(k:Int->Res):ja0 a left k=k (szR left (msr y23 a)):=by
 have d:msr y23 a=msr y23 a+0:=rfl;rw[d];unfold ja0;rw[jql _ _ (by omega) (by omega) f]
 by_cases b:((msr y23 a:Nat):Int)<=left;rotate_left
 ·rw[Zay b,Zak b,Za4 (by omega),Q1]
 rw[Zaz b,Zaj b,Za3 (by omega),Q0]
 exact j2h (by omega)
theorem jsx (a:List qT)(h:msr y23 a<=1048576)(k:Bool->Res):j9U a a k=k true:=by
 have b:msr y23 a<=1048576:=h;unfold j9U;simp only[ZaN,Zah,Xe,Q0,Q4,jpZ _ b]
end Go.PI.G
namespace Go.PI.G
open Go Go.PI Go.Proofs
theorem jnd (a:qW)(h:msr y2 a<=1048576)(k:qW->Res):j6C a k=k a:=by
 have g:a.length<=1048576:=j0d h;unfold j6C;rw[Zau (by unfold LIM;omega),Q1]
 have:=ZaB ((0,0,eS)) a id (step:=j98 a) (λb=>k b) (by unfold LIM;omega) (λb i rec d f=>by
  show j3J a _ _ _ _=_
  unfold j3J;dsimp only;simp only[ZaP d,cond_true,j00 d,j00 (show i<b.length by omega),Zax _ _ _ d,ZaE,j01 (n:=(i:Int)+1) (by omega),jpL _ (j0y h (List.getElem_mem d))]
  rfl) (λb rec=>by
  show j3J a _ _ _ _=_
  unfold j3J;dsimp only;rw[ZaO,cond_false])
 rw[List.map_id]at this;exact this
theorem jnb (a:qW)(left:Int)(g:0<=left)(h:left<=1048576)(l:Wf y2 a)(k:Int->Res):j6B a left k=k (szR left (msr y2 a)):=by
 have j:a.length<=maxLen:=l.1;have p:msr y2 a=a.length+(a.map (msr y1)).sum:=rfl;rw[p];unfold j6B;refine j8G (F:=λq=>jb8 a Z1b q 0 (λd=>k d) (λ_=>k (-1))) (k:=k) g h j λb=> ?_
 unfold jb8;rw[ZaA (msr y1) a _ (by omega) (λleft i rec f g h=> ?_) (λleft rec=> ?_) _ (by omega) (by omega)]
 ·by_cases b:(((a.map (msr y1)).sum:Nat):Int)<=left-a.length
  ·rw[QM b,Zaz b]
  ·rw[QN b,Zay b]
 ·show j3E a _ _ _ _ _=_
  have r:=l.2 _ (Q7 f);unfold j3E;rw[ZaP f,Q1,j00 f,Q1,Zax _ _ _ f,jpH _ _ g h r];have m:(i:Int)<4611686018427387904:=by unfold maxLen at j;omega
  rw[j01 (n:=(i:Int)+1) (by omega)]
  by_cases b:((msr y1 a[i]:Nat):Int)<=left
  ·rw[QM b,Zaz b,Za3 (by omega),Q0]
  ·rw[QN b,Zay b,Za4 (by omega),Q1]
 ·show j3E a _ _ _ _ _=_
  unfold j3E;rw[ZaO,Q0]
theorem jmT (a:qW)(h:msr y2 a<=1048576)(k:Bool->Res):j6A a a k=k true:=by
 have d:a.length<=1048576:=j0d h;unfold j6A;rw[ZaN,Q0];unfold jfN;rw[Zaq a _ (by unfold LIM;omega) (λi rec b=> ?_) (λrec=> ?_)]
 ·show j3A a a _ _ _ _=_
  unfold j3A;simp only[ZaP b,Q1,j00 b,Zax _ _ _ b,j01 (n:=(i:Int)+1) (by omega),ZaN,Zah,Q0,Q4,joS _ (j0y h (Q7 b))]
 ·show j3A a a _ _ _ _=_
  unfold j3A;rw[ZaO,Q0]
end Go.PI.G
namespace Go.PI.G
open Go Go.PI Go.Proofs
theorem jpK (a:List qV)(h:msr y2 a<=1048576)(k:qW->Res):j7T a k=k a:=by
 have b:msr y2 a<=1048576:=h;unfold j7T;simp only[jnd _ b]
theorem jpG (a:List qV)(left:Int)(g:0<=left)(h:left<=1048576)(f:Wf y2 a)(k:Int->Res):j7Q a left k=k (szR left (msr y2 a)):=by
 have d:msr y2 a=msr y2 a+0:=rfl;rw[d];unfold j7Q;rw[jnb _ _ (by omega) (by omega) f]
 by_cases b:((msr y2 a:Nat):Int)<=left;rotate_left
 ·rw[Zay b,Zak b,Za4 (by omega),Q1]
 rw[Zaz b,Zaj b,Za3 (by omega),Q0]
 exact j2h (by omega)
theorem joR (a:List qV)(h:msr y2 a<=1048576)(k:Bool->Res):j7N a a k=k true:=by
 have b:msr y2 a<=1048576:=h;unfold j7N;simp only[ZaN,Zah,Xe,Q0,Q4,jmT _ b]
end Go.PI.G
namespace Go.PI.G
open Go Go.PI Go.Proofs
theorem jsc (a:qR)(h:msr y24 a<=1048576)(k:qR->Res):jbG a k=k a:=by
 have g:a.length<=1048576:=j0d h;unfold jbG;rw[Zau (by unfold LIM;omega),Q1]
 have:=ZaB ([]) a id (step:=j97 a) (λb=>k b) (by unfold LIM;omega) (λb i rec d f=>by
  show j3I a _ _ _ _=_
  unfold j3I;dsimp only;simp only[ZaP d,cond_true,j00 d,j00 (show i<b.length by omega),Zax _ _ _ d,ZaE,j01 (n:=(i:Int)+1) (by omega),jpK _ (j0y h (List.getElem_mem d))]
  rfl) (λb rec=>by
  show j3I a _ _ _ _=_
  unfold j3I;dsimp only;rw[ZaO,cond_false])
 rw[List.map_id]at this;exact this
theorem js6 (a:qR)(left:Int)(g:0<=left)(h:left<=1048576)(l:Wf y24 a)(k:Int->Res):jbD a left k=k (szR left (msr y24 a)):=by
 have j:a.length<=maxLen:=l.1;have p:msr y24 a=a.length+(a.map (msr y2)).sum:=rfl;rw[p];unfold jbD;refine j8G (F:=λq=>jb7 a Z1b q 0 (λd=>k d) (λ_=>k (-1))) (k:=k) g h j λb=> ?_
 unfold jb7;rw[ZaA (msr y2) a _ (by omega) (λleft i rec f g h=> ?_) (λleft rec=> ?_) _ (by omega) (by omega)]
 ·by_cases b:(((a.map (msr y2)).sum:Nat):Int)<=left-a.length
  ·rw[QM b,Zaz b]
  ·rw[QN b,Zay b]
 ·show j3D a _ _ _ _ _=_
  have r:=l.2 _ (Q7 f);unfold j3D;rw[ZaP f,Q1,j00 f,Q1,Zax _ _ _ f,jpG _ _ g h r];have m:(i:Int)<4611686018427387904:=by unfold maxLen at j;omega
  rw[j01 (n:=(i:Int)+1) (by omega)]
  by_cases b:((msr y2 a[i]:Nat):Int)<=left
  ·rw[QM b,Zaz b,Za3 (by omega),Q0]
  ·rw[QN b,Zay b,Za4 (by omega),Q1]
 ·show j3D a _ _ _ _ _=_
  unfold j3D;rw[ZaO,Q0]
theorem jrE (a:qR)(h:msr y24 a<=1048576)(k:Bool->Res):jbA a a k=k true:=by
 have d:a.length<=1048576:=j0d h;unfold jbA;rw[ZaN,Q0];unfold jfM;rw[Zaq a _ (by unfold LIM;omega) (λi rec b=> ?_) (λrec=> ?_)]
 ·show j3z a a _ _ _ _=_
  unfold j3z;simp only[ZaP b,Q1,j00 b,Zax _ _ _ b,j01 (n:=(i:Int)+1) (by omega),ZaN,Zah,Q0,Q4,joR _ (j0y h (Q7 b))]
 ·show j3z a a _ _ _ _=_
  unfold j3z;rw[ZaO,Q0]
end Go.PI.G
namespace Go.PI.G
open Go Go.PI Go.Proofs
theorem jsd (a:List qW)(h:msr y24 a<=1048576)(k:qR->Res):jbH a k=k a:=by
 have b:msr y24 a<=1048576:=h;unfold jbH;simp only[jsc _ b]
theorem js7 (a:List qW)(left:Int)(g:0<=left)(h:left<=1048576)(f:Wf y24 a)(k:Int->Res):jbE a left k=k (szR left (msr y24 a)):=by
 have d:msr y24 a=msr y24 a+0:=rfl;rw[d];unfold jbE;rw[js6 _ _ (by omega) (by omega) f]
 by_cases b:((msr y24 a:Nat):Int)<=left;rotate_left
 ·rw[Zay b,Zak b,Za4 (by omega),Q1]
 rw[Zaz b,Zaj b,Za3 (by omega),Q0]
 exact j2h (by omega)
theorem jrF (a:List qW)(h:msr y24 a<=1048576)(k:Bool->Res):jbB a a k=k true:=by
 have b:msr y24 a<=1048576:=h;unfold jbB;simp only[ZaN,Zah,Xe,Q0,Q4,jrE _ b]
end Go.PI.G
namespace Go.PI.G
open Go Go.PI Go.Proofs
theorem jrj (a:qX)(h:msr y25 a<=1048576)(k:qX->Res):j7i a k=k a:=by
 have g:a.length<=1048576:=j0d h;unfold j7i;rw[Zau (by unfold LIM;omega),Q1]
 have:=ZaB ([]) a id (step:=j8d a) (λb=>k b) (by unfold LIM;omega) (λb i rec d f=>by
  show j2O a _ _ _ _=_
  unfold j2O;dsimp only;simp only[ZaP d,cond_true,j00 d,j00 (show i<b.length by omega),Zax _ _ _ d,ZaE,j01 (n:=(i:Int)+1) (by omega),jsd _ (j0y h (List.getElem_mem d))]
  rfl) (λb rec=>by
  show j2O a _ _ _ _=_
  unfold j2O;dsimp only;rw[ZaO,cond_false])
 rw[List.map_id]at this;exact this
theorem jre (a:qX)(left:Int)(g:0<=left)(h:left<=1048576)(l:Wf y25 a)(k:Int->Res):j7g a left k=k (szR left (msr y25 a)):=by
 have j:a.length<=maxLen:=l.1;have p:msr y25 a=a.length+(a.map (msr y24)).sum:=rfl;rw[p];unfold j7g;refine j8G (F:=λq=>ja5 a Z1b q 0 (λd=>k d) (λ_=>k (-1))) (k:=k) g h j λb=> ?_
 unfold ja5;rw[ZaA (msr y24) a _ (by omega) (λleft i rec f g h=> ?_) (λleft rec=> ?_) _ (by omega) (by omega)]
 ·by_cases b:(((a.map (msr y24)).sum:Nat):Int)<=left-a.length
  ·rw[QM b,Zaz b]
  ·rw[QN b,Zay b]
 ·show j2L a _ _ _ _ _=_
  have r:=l.2 _ (Q7 f);unfold j2L;rw[ZaP f,Q1,j00 f,Q1,Zax _ _ _ f,js7 _ _ g h r];have m:(i:Int)<4611686018427387904:=by unfold maxLen at j;omega
  rw[j01 (n:=(i:Int)+1) (by omega)]
  by_cases b:((msr y24 a[i]:Nat):Int)<=left
  ·rw[QM b,Zaz b,Za3 (by omega),Q0]
  ·rw[QN b,Zay b,Za4 (by omega),Q1]
 ·show j2L a _ _ _ _ _=_
  unfold j2L;rw[ZaO,Q0]
theorem jqK (a:qX)(h:msr y25 a<=1048576)(k:Bool->Res):j7e a a k=k true:=by
 have d:a.length<=1048576:=j0d h;unfold j7e;rw[ZaN,Q0];unfold jem;rw[Zaq a _ (by unfold LIM;omega) (λi rec b=> ?_) (λrec=> ?_)]
 ·show j2J a a _ _ _ _=_
  unfold j2J;simp only[ZaP b,Q1,j00 b,Zax _ _ _ b,j01 (n:=(i:Int)+1) (by omega),ZaN,Zah,Q0,Q4,jrF _ (j0y h (Q7 b))]
 ·show j2J a a _ _ _ _=_
  unfold j2J;rw[ZaO,Q0]
end Go.PI.G
namespace Go.PI.G
open Go Go.PI Go.Proofs
theorem jtJ (a:qF×List qR)(h:msr y26 a<=1048576)(k:qD->Res):jbR a k=k a:=by
 have b:msr y23 a.1<=1048576:=(Qx (@j0x y23 y25 a) h);have d:msr y25 a.2<=1048576:=(Qx (@j03 y23 y25 a) h);unfold jbR;simp only[jt9 _ b,jrj _ d]
theorem jtH (a:qF×List qR)(left:Int)(h:0<=left)(i:left<=1048576)(f:Wf y26 a)(k:Int->Res):jbP a left k=k (szR left (msr y26 a)):=by
 have g:msr y26 a=msr y23 a.1+(msr y25 a.2+0):=by simp only[msr]<;>omega
 rw[g];unfold jbP;rw[jt1 _ _ (by omega) (by omega) f.1]
 by_cases b:((msr y23 a.1:Nat):Int)<=left;rotate_left
 ·rw[Zay b,Zak b,Za4 (by omega),Q1]
 rw[Zaz b,Zaj b,Za3 (by omega),Q0]
 rw[jre _ _ (by omega) (by omega) f.2]
 by_cases d:((msr y25 a.2:Nat):Int)<=left-(msr y23 a.1:Nat);rotate_left
 ·rw[Zay d,Zak d,Za4 (by omega),Q1]
 rw[Zaz d,Zaj d,Za3 (by omega),Q0]
 exact j2h (by omega)
theorem jtz (a:qF×List qR)(h:msr y26 a<=1048576)(k:Bool->Res):jbN a a k=k true:=by
 have b:msr y23 a.1<=1048576:=(Qx (@j0x y23 y25 a) h);have d:msr y25 a.2<=1048576:=(Qx (@j03 y23 y25 a) h);unfold jbN;simp only[ZaN,Zah,Xe,Q0,Q4,jsx _ b,jqK _ d]
end Go.PI.G
namespace Go.PI.G
open Go Go.PI Go.Proofs
theorem jpJ (a:qD×Int×Int)(h:msr y28 a<=1048576)(k:(qD×Int×Int)->Res):j7S a k=k a:=by
 have b:msr y26 a.1<=1048576:=(Qx (@j0x y26 y27 a) h);unfold j7S;simp only[jtJ _ b]
theorem jpF (a:qD×Int×Int)(left:Int)(g:0<=left)(h:left<=1048576)(f:Wf y28 a)(k:Int->Res):j7P a left k=k (szR left (msr y28 a)):=by
 have d:msr y28 a=msr y26 a.1+0:=by simp only[msr]<;>omega
 rw[d];unfold j7P;rw[jtH _ _ (by omega) (by omega) f.1]
 by_cases b:((msr y26 a.1:Nat):Int)<=left;rotate_left
 ·rw[Zay b,Zak b,Za4 (by omega),Q1]
 rw[Zaz b,Zaj b,Za3 (by omega),Q0]
 exact j2h (by omega)
theorem joQ (a:qD×Int×Int)(h:msr y28 a<=1048576)(k:Bool->Res):j7M a a k=k true:=by
 have b:msr y26 a.1<=1048576:=(Qx (@j0x y26 y27 a) h);unfold j7M;simp only[ZaN,Zah,Xe,Q0,Q4,jtz _ b]
end Go.PI.G
namespace Go.PI.G
open Go Go.PI Go.Proofs
theorem js9 (a:(List Int))(h:msr y31 a<=1048576)(k:(List Int)->Res):j8z a k=k a:=by
 have g:a.length<=1048576:=j0d h;unfold j8z;rw[Zau (by unfold LIM;omega),Q1]
 have:=ZaB (0) a id (step:=j95 a) (λb=>k b) (by unfold LIM;omega) (λb i rec d f=>by
  show j3G a _ _ _ _=_
  unfold j3G;dsimp only;simp only[ZaP d,cond_true,j00 d,j00 (show i<b.length by omega),Zax _ _ _ d,ZaE,j01 (n:=(i:Int)+1) (by omega)]
  rfl) (λb rec=>by
  show j3G a _ _ _ _=_
  unfold j3G;dsimp only;rw[ZaO,cond_false])
 rw[List.map_id]at this;exact this
theorem js3 (a:(List Int))(left:Int)(b:0<=left)(d:left<=1048576)(h:Wf y31 a)(k:Int->Res):j8w a left k=k (szR left (msr y31 a)):=by
 have f:a.length<=maxLen:=h.1;have g:msr y31 a=a.length+0:=by
  have:∀l:List Int,(l.map (msr (.int .i64))).sum=0:=λl=>by
   induction l with
   |nil=>rfl
   |cons x l i=>simpa[msr]using i
  rw[jen,this]
 rw[g];unfold j8w;exact j8G b d f λj=>j2h (by omega)
theorem jrB (a:(List Int))(h:msr y31 a<=1048576)(k:Bool->Res):j8t a a k=k true:=by
 have d:a.length<=1048576:=j0d h;unfold j8t;rw[ZaN,Q0];unfold jfK;rw[Zaq a _ (by unfold LIM;omega) (λi rec b=> ?_) (λrec=> ?_)]
 ·show j3x a a _ _ _ _=_
  unfold j3x;simp only[ZaP b,Q1,j00 b,Zax _ _ _ b,j01 (n:=(i:Int)+1) (by omega),ZaN,Zah,Q0,Q4]
 ·show j3x a a _ _ _ _=_
  unfold j3x;rw[ZaO,Q0]
end Go.PI.G
namespace Go.PI.G
open Go Go.PI Go.Proofs
theorem jrh (a:(List Int))(h:msr y29 a<=1048576)(k:(List Int)->Res):ja7 a k=k a:=by
 have g:a.length<=1048576:=j0d h;unfold ja7;rw[Zau (by unfold LIM;omega),Q1]
 have:=ZaB (0) a id (step:=j8b a) (λb=>k b) (by unfold LIM;omega) (λb i rec d f=>by
  show j2M a _ _ _ _=_
  unfold j2M;dsimp only;simp only[ZaP d,cond_true,j00 d,j00 (show i<b.length by omega),Zax _ _ _ d,ZaE,j01 (n:=(i:Int)+1) (by omega)]
  rfl) (λb rec=>by
  show j2M a _ _ _ _=_
  unfold j2M;dsimp only;rw[ZaO,cond_false])
 rw[List.map_id]at this;exact this
theorem jrc (a:(List Int))(left:Int)(b:0<=left)(d:left<=1048576)(h:Wf y29 a)(k:Int->Res):j9Z a left k=k (szR left (msr y29 a)):=by
 have f:a.length<=maxLen:=h.1;have g:msr y29 a=a.length+0:=by
  have:∀l:List Int,(l.map (msr (.int .u8))).sum=0:=λl=>by
   induction l with
   |nil=>rfl
   |cons x l i=>simpa[msr]using i
  rw[jen,this]
 rw[g];unfold j9Z;exact j8G b d f λj=>j2h (by omega)
theorem jqH (a:(List Int))(h:msr y29 a<=1048576)(k:Bool->Res):j9T a a k=k true:=by
 have d:a.length<=1048576:=j0d h;unfold j9T;rw[ZaN,Q0];unfold jek;rw[Zaq a _ (by unfold LIM;omega) (λi rec b=> ?_) (λrec=> ?_)]
 ·show j2H a a _ _ _ _=_
  unfold j2H;simp only[ZaP b,Q1,j00 b,Zax _ _ _ b,j01 (n:=(i:Int)+1) (by omega),ZaN,Zah,Q0,Q4]
 ·show j2H a a _ _ _ _=_
  unfold j2H;rw[ZaO,Q0]
end Go.PI.G
namespace Go.PI.G
open Go Go.PI Go.Proofs
theorem jsa (a:List Int)(h:msr y29 a<=1048576)(k:(List Int)->Res):jbF a k=k a:=by
 have b:msr y29 a<=1048576:=h;unfold jbF;simp only[jrh _ b]
theorem js4 (a:List Int)(left:Int)(g:0<=left)(h:left<=1048576)(f:Wf y29 a)(k:Int->Res):jbC a left k=k (szR left (msr y29 a)):=by
 have d:msr y29 a=msr y29 a+0:=rfl;rw[d];unfold jbC;rw[jrc _ _ (by omega) (by omega) f]
 by_cases b:((msr y29 a:Nat):Int)<=left;rotate_left
 ·rw[Zay b,Zak b,Za4 (by omega),Q1]
 rw[Zaz b,Zaj b,Za3 (by omega),Q0]
 exact j2h (by omega)
theorem jrC (a:List Int)(h:msr y29 a<=1048576)(k:Bool->Res):jbz a a k=k true:=by
 have b:msr y29 a<=1048576:=h;unfold jbz;simp only[ZaN,Zah,Xe,Q0,Q4,jqH _ b]
end Go.PI.G
namespace Go.PI.G
open Go Go.PI Go.Proofs
theorem jri (a:(List (List Int)))(h:msr y30 a<=1048576)(k:(List (List Int))->Res):jaa a k=k a:=by
 have g:a.length<=1048576:=j0d h;unfold jaa;rw[Zau (by unfold LIM;omega),Q1]
 have:=ZaB ([]) a id (step:=j8c a) (λb=>k b) (by unfold LIM;omega) (λb i rec d f=>by
  show j2N a _ _ _ _=_
  unfold j2N;dsimp only;simp only[ZaP d,cond_true,j00 d,j00 (show i<b.length by omega),Zax _ _ _ d,ZaE,j01 (n:=(i:Int)+1) (by omega),jsa _ (j0y h (List.getElem_mem d))]
  rfl) (λb rec=>by
  show j2N a _ _ _ _=_
  unfold j2N;dsimp only;rw[ZaO,cond_false])
 rw[List.map_id]at this;exact this
theorem jrd (a:(List (List Int)))(left:Int)(g:0<=left)(h:left<=1048576)(l:Wf y30 a)(k:Int->Res):ja2 a left k=k (szR left (msr y30 a)):=by
 have j:a.length<=maxLen:=l.1;have p:msr y30 a=a.length+(a.map (msr y29)).sum:=rfl;rw[p];unfold ja2;refine j8G (F:=λq=>ja3 a Z1b q 0 (λd=>k d) (λ_=>k (-1))) (k:=k) g h j λb=> ?_
 unfold ja3;rw[ZaA (msr y29) a _ (by omega) (λleft i rec f g h=> ?_) (λleft rec=> ?_) _ (by omega) (by omega)]
 ·by_cases b:(((a.map (msr y29)).sum:Nat):Int)<=left-a.length
  ·rw[QM b,Zaz b]
  ·rw[QN b,Zay b]
 ·show j2K a _ _ _ _ _=_
  have r:=l.2 _ (Q7 f);unfold j2K;rw[ZaP f,Q1,j00 f,Q1,Zax _ _ _ f,js4 _ _ g h r];have m:(i:Int)<4611686018427387904:=by unfold maxLen at j;omega
  rw[j01 (n:=(i:Int)+1) (by omega)]
  by_cases b:((msr y29 a[i]:Nat):Int)<=left
  ·rw[QM b,Zaz b,Za3 (by omega),Q0]
  ·rw[QN b,Zay b,Za4 (by omega),Q1]
 ·show j2K a _ _ _ _ _=_
  unfold j2K;rw[ZaO,Q0]
theorem jqJ (a:(List (List Int)))(h:msr y30 a<=1048576)(k:Bool->Res):j9W a a k=k true:=by
 have d:a.length<=1048576:=j0d h;unfold j9W;rw[ZaN,Q0];unfold jel;rw[Zaq a _ (by unfold LIM;omega) (λi rec b=> ?_) (λrec=> ?_)]
 ·show j2I a a _ _ _ _=_
  unfold j2I;simp only[ZaP b,Q1,j00 b,Zax _ _ _ b,j01 (n:=(i:Int)+1) (by omega),ZaN,Zah,Q0,Q4,jrC _ (j0y h (Q7 b))]
 ·show j2I a a _ _ _ _=_
  unfold j2I;rw[ZaO,Q0]
end Go.PI.G
namespace Go.PI.G
open Go Go.PI Go.Proofs
theorem jtc (a:List (List Int))(h:msr y30 a<=1048576)(k:(List (List Int))->Res):ja9 a k=k a:=by
 have b:msr y30 a<=1048576:=h;unfold ja9;simp only[jri _ b]
theorem jt4 (a:List (List Int))(left:Int)(g:0<=left)(h:left<=1048576)(f:Wf y30 a)(k:Int->Res):ja1 a left k=k (szR left (msr y30 a)):=by
 have d:msr y30 a=msr y30 a+0:=rfl;rw[d];unfold ja1;rw[jrd _ _ (by omega) (by omega) f]
 by_cases b:((msr y30 a:Nat):Int)<=left;rotate_left
 ·rw[Zay b,Zak b,Za4 (by omega),Q1]
 rw[Zaz b,Zaj b,Za3 (by omega),Q0]
 exact j2h (by omega)
theorem jsA (a:List (List Int))(h:msr y30 a<=1048576)(k:Bool->Res):j9V a a k=k true:=by
 have b:msr y30 a<=1048576:=h;unfold j9V;simp only[ZaN,Zah,Xe,Q0,Q4,jqJ _ b]
end Go.PI.G
namespace Go.PI.G
open Go Go.PI Go.Proofs
theorem jtd (a:List ByteArray)(h:msr y8 a<=1048576)(k:(List ByteArray)->Res):jab a k=k a:=by
 have b:msr y8 a<=1048576:=h;unfold jab;simp only[jdH _ b]
theorem jt5 (a:List ByteArray)(left:Int)(g:0<=left)(h:left<=1048576)(f:Wf y8 a)(k:Int->Res):ja4 a left k=k (szR left (msr y8 a)):=by
 have d:msr y8 a=msr y8 a+0:=rfl;rw[d];unfold ja4;rw[jdG _ _ (by omega) (by omega) f]
 by_cases b:((msr y8 a:Nat):Int)<=left;rotate_left
 ·rw[Zay b,Zak b,Za4 (by omega),Q1]
 rw[Zaz b,Zaj b,Za3 (by omega),Q0]
 exact j2h (by omega)
theorem jsB (a:List ByteArray)(h:msr y8 a<=1048576)(k:Bool->Res):j9X a a k=k true:=by
 have b:msr y8 a<=1048576:=h;unfold j9X;simp only[ZaN,Zah,Xe,Q0,Q4,jdg _ b]
end Go.PI.G
namespace Go.PI.G
open Go Go.PI Go.Proofs
theorem jtb (a:Int×ByteArray×qE×List ByteArray×ByteArray×ByteArray)(h:msr y13 a<=1048576)(k:(Int×ByteArray×qE×List ByteArray×ByteArray×ByteArray)->Res):j7R a k=k a:=by
 have b:msr y7 a.2.2.1<=1048576:=(Qx (@j0x y7 y10 a.2.2) (Qx (@j03 .str y11 a.2) (Qx (@j03 (.int .i64) y12 a) h)));have d:msr y8 a.2.2.2.1<=1048576:=(Qx (@j0x y8 y9 a.2.2.2) (Qx (@j03 y7 y10 a.2.2) (Qx (@j03 .str y11 a.2) (Qx (@j03 (.int .i64) y12 a) h))));unfold j7R;simp only[jnc _ b,jdH _ d]
theorem jt3 (a:Int×ByteArray×qE×List ByteArray×ByteArray×ByteArray)(left:Int)(p:0<=left)(q:left<=1048576)(i:Wf y13 a)(k:Int->Res):j7O a left k=k (szR left (msr y13 a)):=by
 have n:msr y13 a=ByteArray.size a.2.1+(msr y7 a.2.2.1+(msr y8 a.2.2.2.1+(ByteArray.size a.2.2.2.2.1+(ByteArray.size a.2.2.2.2.2+0)))):=by simp only[msr]<;>omega
 rw[n];unfold j7O;have j:ByteArray.size a.2.1<=maxLen:=i.2.1;unfold maxLen at j;rw[j01 (by unfold nI;omega)]
 by_cases f:((ByteArray.size a.2.1:Nat):Int)<=left;rotate_left
 ·rw[Zak f,Za4 (by unfold nI;omega),Q1]
 rw[Za3 (by unfold nI;omega),Q0,Zaj f,show left-nI (ByteArray.size a.2.1)=left-((ByteArray.size a.2.1:Nat):Int) from rfl]
 rw[jna _ _ (by omega) (by omega) i.2.2.1]
 by_cases b:((msr y7 a.2.2.1:Nat):Int)<=left-(ByteArray.size a.2.1:Nat);rotate_left
 ·rw[Zay b,Zak b,Za4 (by omega),Q1]
 rw[Zaz b,Zaj b,Za3 (by omega),Q0]
 rw[jdG _ _ (by omega) (by omega) i.2.2.2.1]
 by_cases d:((msr y8 a.2.2.2.1:Nat):Int)<=left-(ByteArray.size a.2.1:Nat)-(msr y7 a.2.2.1:Nat);rotate_left
 ·rw[Zay d,Zak d,Za4 (by omega),Q1]
 rw[Zaz d,Zaj d,Za3 (by omega),Q0]
 have l:ByteArray.size a.2.2.2.2.1<=maxLen:=i.2.2.2.2.1;unfold maxLen at l;rw[j01 (by unfold nI;omega)]
 by_cases g:((ByteArray.size a.2.2.2.2.1:Nat):Int)<=left-(ByteArray.size a.2.1:Nat)-(msr y7 a.2.2.1:Nat)-(msr y8 a.2.2.2.1:Nat);rotate_left
 ·rw[Zak g,Za4 (by unfold nI;omega),Q1]
 rw[Za3 (by unfold nI;omega),Q0,Zaj g,show left-(ByteArray.size a.2.1:Nat)-(msr y7 a.2.2.1:Nat)-(msr y8 a.2.2.2.1:Nat)-nI (ByteArray.size a.2.2.2.2.1)=left-(ByteArray.size a.2.1:Nat)-(msr y7 a.2.2.1:Nat)-(msr y8 a.2.2.2.1:Nat)-((ByteArray.size a.2.2.2.2.1:Nat):Int) from rfl]
 have m:ByteArray.size a.2.2.2.2.2<=maxLen:=i.2.2.2.2.2;unfold maxLen at m;rw[j01 (by unfold nI;omega)]
 by_cases h:((ByteArray.size a.2.2.2.2.2:Nat):Int)<=left-(ByteArray.size a.2.1:Nat)-(msr y7 a.2.2.1:Nat)-(msr y8 a.2.2.2.1:Nat)-(ByteArray.size a.2.2.2.2.1:Nat);rotate_left
 ·rw[Zak h,Za4 (by unfold nI;omega),Q1]
 rw[Za3 (by unfold nI;omega),Q0,Zaj h,show left-(ByteArray.size a.2.1:Nat)-(msr y7 a.2.2.1:Nat)-(msr y8 a.2.2.2.1:Nat)-(ByteArray.size a.2.2.2.2.1:Nat)-nI (ByteArray.size a.2.2.2.2.2)=left-(ByteArray.size a.2.1:Nat)-(msr y7 a.2.2.1:Nat)-(msr y8 a.2.2.2.1:Nat)-(ByteArray.size a.2.2.2.2.1:Nat)-((ByteArray.size a.2.2.2.2.2:Nat):Int) from rfl]
 exact j2h (by omega)
theorem jsz (a:Int×ByteArray×qE×List ByteArray×ByteArray×ByteArray)(h:msr y13 a<=1048576)(k:Bool->Res):j7L a a k=k true:=by
 have b:msr y7 a.2.2.1<=1048576:=(Qx (@j0x y7 y10 a.2.2) (Qx (@j03 .str y11 a.2) (Qx (@j03 (.int .i64) y12 a) h)));have d:msr y8 a.2.2.2.1<=1048576:=(Qx (@j0x y8 y9 a.2.2.2) (Qx (@j03 y7 y10 a.2.2) (Qx (@j03 .str y11 a.2) (Qx (@j03 (.int .i64) y12 a) h))));unfold j7L;simp only[ZaN,Zah,Xe,Q0,Q4,jmS _ b,jdg _ d]
end Go.PI.G
