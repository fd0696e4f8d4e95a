/-
  Program's code interpreted over typed values; printed texts; plain laws. No conditions.
-/
import Derived.Test.YtiaipepkkjlccaaGreatPDk
import Derived.Test.YtiaipepkkjlccaaGreatPDh
import Derived.Test.YtiaipepkkjlccaaGreatPDj
import Derived.Test.YtiaipepkkjlccaaGreatPDd
import Derived.Test.YtiaipepkkjlccaaGreatPDe
import Derived.Test.YtiaipepkkjlccaaGreatPDg
import Derived.Test.YtiaipepkkjlccaaGreatPDf
set_option linter.unusedVariables false
set_option linter.unusedSimpArgs false
namespace Go.PI.G
noncomputable section
open Go Go.PI
abbrev PT:=ST×List ByteArray×List ByteArray
abbrev BT:=Int×Int×List PT
abbrev yPT:Ty:= .pair yST (.pair (.slice .str) (.slice .str))
abbrev yBT:Ty:= .pair (.int .i64) (.pair (.int .i64) (.slice yPT))
def jdu (l:List ByteArray):Bool:=l.all j0g&&decide (l.length<=8)
def jcX (p:PT):Bool:=stB p.1&&(jdu p.2.1&&jdu p.2.2)
def jbh (x:BT):Bool:=decide (1<=x.1/\x.1<=400/\0<=x.2.1/\x.2.1<x.1/\nI x.2.2.length<=60)
def jk9 (x:BT):Bool:=jbh x&&x.2.2.all jcX
end
end Go.PI.G
namespace Go.PI.G
noncomputable section
open Go Go.PI Go.Proofs
def jvP (l:List ByteArray):Prop:=l.length<=1048576/\∀w∈l,w.size<=1048576
theorem jrK (l:List ByteArray)(h:jvP l)(k:Bool->Res):j67 l k=k (jdu l):=by
 unfold j67 jht jdu;have f:=h.1;have:=Za1 l (λi=>i) (λv=> !j0g v) (step:=jae l (nI l.length)) ((λ(_:Unit)=>k (decide (nI l.length<=8))),(λ(_:Unit)=>k false)) (k (decide (nI l.length<=8))) (k false) (by unfold LIM;omega) (λi rec d=>by
  show j3A _ _ _ _ _ _=_
  unfold j3A;have g:=h.2 _ (Q7 d);rw[ZaP d,Q1,j00 d,Q1,Zax _ _ _ d,j3e _ (by unfold LIM;omega),j01 (n:=(i:Int)+1) (by omega)]) (λrec=>by
  show j3A _ _ _ _ _ _=_
  unfold j3A;rw[ZaO,Q0])
 refine this.trans ?_;have b:(l.any λv=> !j0g v)= !l.all j0g:=by rw[Y5];simp
 rw[b];cases l.all j0g
 ·rfl
 ·rw[Q4,Q0,Qd];congr 1;exact Xt.2 (by unfold nI;omega)
theorem jrs (l:List ByteArray)(h:jvP l)(k:Bool->Res):j62 l k=k (jdu l):=by
 unfold j62 j3W j5Y j8V jdu;have m:=h.1;have f:decide (nI l.length<=8)=decide (l.length<=8):=Xt.2 (by unfold nI;omega)
 rw[f];cases decide (l.length<=8)
 ·rw[XF];rfl
 ·rw[Q1,Xm];have:=Z9R l (λi=>i) (λv=> !j0g v) (step:=j33 l (nI l.length)) ((λ(_:Unit)=>k (!decide ((-1:Int)>=0))),(λ(t:Int)=>k (!decide (t>=0)))) (λr=>k (!decide (r>=0))) (by unfold LIM;omega) (λi rec b=>by
   show j0L _ _ _ _ _ _=_
   unfold j0L jef;have p:=h.2 _ (Q7 b);rw[ZaP b,Q1,j00 b,Q1,Zax _ _ _ b,j37 _ (by unfold LIM;omega),j01 (n:=(i:Int)+1) (by omega)]) (λrec=>by
   show j0L _ _ _ _ _ _=_
   unfold j0L;rw[ZaO,Q0])
  refine this.trans ?_;congr 1;unfold Z9E;cases d:l.findIdx? λv=> !j0g v with
  |none=>
   rw[Y8]at d;symm;show l.all j0g=true
   rw[QD];intro v j;simpa using d v j
  |some i=>
   dsimp only;rw[decide_eq_true (show (i:Int)>=0 by omega)]
   obtain⟨b,g,_⟩:=Xl.1 d;symm;show l.all j0g=false
   rw[List.all_eq_false];exact⟨l[i],Q7 _,by simpa using g⟩
def jxk (p:PT):Prop:=j12 p.1/\jvP p.2.1/\jvP p.2.2
def jve (x:BT):Prop:=x.2.2.length<=1048576/\∀p∈x.2.2,jxk p
theorem jrz (p:PT)(a z:Res):(bif !stB p.1 then z else bif !jdu p.2.1 then z else bif !jdu p.2.2 then z else a)=bif !jcX p then z else a:=by
 unfold jcX;cases stB p.1
 ·rfl
 ·cases jdu p.2.1
  ·rfl
  ·rfl
theorem jx3 (x:BT)(i:x.2.2.length<=1048576)(K:Bool->Res):j6B x K=K (!jbh x):=by
 unfold j6B;by_cases b:x.1<1
 ·rw[Q3 b,Q1];congr 1;unfold jbh;rw[Q2 (by omega)];rfl
 rw[Q2 b,Q0];by_cases d:x.1>400
 ·rw[Q3 d,Q1];congr 1;unfold jbh;rw[Q2 (by omega)];rfl
 rw[Q2 d,Q0];by_cases f:x.2.1<0
 ·rw[Q3 f,Q1];congr 1;unfold jbh;rw[Q2 (by omega)];rfl
 rw[Q2 f,Q0];by_cases g:x.2.1>=x.1
 ·rw[Q3 g,Q1];congr 1;unfold jbh;rw[Q2 (by omega)];rfl
 rw[Q2 g,Q0];congr 1;unfold jbh;by_cases h:nI x.2.2.length>60
 ·rw[Q3 h,Q2 (by omega)];rfl
 ·rw[Q2 h,Q3 (by omega)];rfl
theorem jvF (x:BT)(h:jve x)(k:Bool->Res):j7Y x k=k (jk9 x):=by
 unfold j7Y;rw[jx3 x h.1];have j:=h.1;cases g:jbh x
 ·unfold jk9;rw[g];rfl
 ·rw[Q4,Q0];unfold jdi;refine(Za1 x.2.2 (λi=>i) (λp=> !jcX p) (step:=j4g x.2.2 (nI x.2.2.length)) ((λ(_:Unit)=>k true),(λ(_:Unit)=>k false)) (k true) (k false) (by unfold LIM;omega) (λi rec d=>by
   show j2y _ _ _ _ _ _=_
   unfold j2y;have f:=h.2 _ (Q7 d);rw[ZaP d,Q1,j00 d,Q1,Zax _ _ _ d,jig _ f.1];simp only[jrK _ f.2.1,jrK _ f.2.2];rw[j01 (n:=(i:Int)+1) (by omega)]
   exact jrz _ _ _) (λrec=>by
   show j2y _ _ _ _ _ _=_
   unfold j2y;rw[ZaO,Q0])).trans ?_
  have b:(x.2.2.any λv=> !jcX v)= !x.2.2.all jcX:=by rw[Y5];simp
  unfold jk9;rw[b,g,Qd];cases x.2.2.all jcX<;>rfl
theorem jvn (x:BT)(h:jve x)(k:Bool->Res):j7o x k=k (jk9 x):=by
 unfold j7o jcA;have q:=h.1;refine(Za1 x.2.2 (λi=>i) (λp=> !jcX p) (step:=j3Y x.2.2 (nI x.2.2.length)) ((λ(_:Unit)=>j0d x.1 1 400 λ(r:Bool)=>bif r then j0d x.2.1 0 (Z9J (x.1-1)) λ(m:Bool)=>bif m then k (decide (nI x.2.2.length<=60)) else k false else k false),(λ(_:Unit)=>k false)) (k (jbh x)) (k false) (by unfold LIM;omega) (λi rec f=>by
  show j2u _ _ _ _ _ _=_
  unfold j2u;have l:=h.2 _ (Q7 f);rw[ZaP f,Q1,j00 f,Q1,Zax _ _ _ f,ji0 _ l.1];simp only[jrs _ l.2.1,jrs _ l.2.2];rw[j01 (n:=(i:Int)+1) (by omega)]
  exact jrz _ _ _) (λrec=>by
  show j2u _ _ _ _ _ _=_
  unfold j2u;rw[ZaO,Q0];simp only[j6P];unfold jbh;by_cases d:1<=x.1/\x.1<=400
  ·rw[Q3 d,Q1,j01 (by omega)]
   by_cases g:0<=x.2.1/\x.2.1<=x.1-1
   ·rw[Q3 g,Q1];congr 1;exact Xt.2 ⟨λj=>⟨d.1,d.2,g.1,by omega,j⟩,λj=>j.2.2.2.2⟩
   ·rw[Q2 g,Q0,Q2 (by omega)]
  ·rw[Q2 d,Q0,Q2 (by omega)])).trans ?_
 have b:(x.2.2.any λv=> !jcX v)= !x.2.2.all jcX:=by rw[Y5];simp
 unfold jk9;rw[b];cases x.2.2.all jcX
 ·rw[XF];rfl
 ·rw[Xm];rfl
theorem jwi {x:BT}(h:msr yBT x<=1048576):jve x:=by
 have j:msr yBT x=0+(0+msr (.slice yPT) x.2.2):=rfl;have d:msr (.slice yPT) x.2.2<=1048576:=by omega
 refine⟨j0f d,λp i=> ?_⟩
 have l:=j0b d i;have k:msr yPT p=msr yST p.1+(msr (.slice .str) p.2.1+msr (.slice .str) p.2.2):=rfl;have f:msr (.slice .str) p.2.1<=1048576:=by omega
 have g:msr (.slice .str) p.2.2<=1048576:=by omega
 exact⟨jwk (by omega),⟨j0f f,λw b=>j0b f b⟩,⟨j0f g,λw b=>j0b g b⟩⟩
end
end Go.PI.G
namespace Go.PI.G
open Go Go.PI Go.Proofs
noncomputable def jeo (p:List ByteArray):Bool:= !Z70 (λi s=> !j0g s||(decide (0<i)&&sGe (nth eS p ((i:Int)-1)) s)) 0 p&&decide (p.length<=6)
theorem jtM (c:List ByteArray)(i:Nat)(d:i<c.length)(b:c.length<=LIM)(x:Res)(y:Res):(bif decide ((i:Int)>0) then (bif inb (Z9J ((i:Int)-1)) c.length then (bif sGe (nth eS c (Z9J ((i:Int)-1))) c[i] then x else y) else none) else y) =
  bif (decide (0<i)&&sGe (nth eS c ((i:Int)-1)) c[i]) then x else y:=by
 by_cases h:0<i
 ·unfold LIM at b;rw[Q3 (show (i:Int)>0 by omega),Q3 h,Q1,j01 (by omega),ZaJ (by omega) (by omega),Q1,Qd]
 ·rw[Q2 (show ¬ (i:Int)>0 by omega),Q2 h];rfl
theorem jsJ {p:List ByteArray}(h:msr (.slice .str) p<=1048576):p.length<=1048576/\∀x∈p,x.size<=1048576:=⟨j0f h,λx b=>j0b h b⟩
theorem jkz (p:List ByteArray)(h:msr (.slice .str) p<=1048576)(k:Bool->Res):j4G p k=k (jeo p):=by
 obtain⟨g,f⟩:=jsJ h;unfold j4G jll jeo;have:=Z9O p (λi=>i) (λi s=> !j0g s||(decide (0<i)&&sGe (nth eS p ((i:Int)-1)) s)) (step:=jdo p (nI p.length) p) ((λ(_:Unit)=>k (decide (nI p.length<=6))),(λ(_:Unit)=>k false)) (k (decide (nI p.length<=6))) (k false) (by unfold LIM;omega) (λi rec b=>by
  show j6J _ _ p _ _ _ _=_
  unfold j6J;rw[ZaP b,Q1,j00 b,Q1,Zax _ _ _ b,j3e _ (by have:=f _ (Q7 b);unfold LIM;omega),j01 (n:=(i:Int)+1) (by omega),jtM p i b (by unfold LIM;omega)]
  cases j0g p[i]
  ·rfl
  ·cases (decide (0<i)&&sGe (nth eS p ((i:Int)-1)) p[i])<;>rfl) (λrec=>by
  show j6J _ _ p _ _ _ _=_
  unfold j6J;rw[ZaO,Q0])
 refine this.trans ?_;have d:decide (nI p.length<=6)=decide (p.length<=6):=Xt.2 (by unfold nI;omega)
 rw[d];cases Z70 (λi s=> !j0g s||(decide (0<i)&&sGe (nth eS p ((i:Int)-1)) s)) 0 p
 ·rw[Q0,QQ,Qd]
 ·rfl
theorem jpd (p:List ByteArray)(h:msr (.slice .str) p<=1048576)(k:Bool->Res):j8k p k=k (jeo p):=by
 obtain⟨g,f⟩:=jsJ h;unfold j8k jl5 jeo;have:=Z9O p (λi=>i) (λi s=> !j0g s||(decide (0<i)&&sGe (nth eS p ((i:Int)-1)) s)) (step:=jcD p (nI p.length) p) ((λ(_:Unit)=>k (decide (nI p.length<=6))),(λ(_:Unit)=>k false)) (k (decide (nI p.length<=6))) (k false) (by unfold LIM;omega) (λi rec b=>by
  show j6j _ _ p _ _ _ _=_
  unfold j6j;rw[ZaP b,Q1,j00 b,Q1,Zax _ _ _ b,j37 _ (by have:=f _ (Q7 b);unfold LIM;omega),j01 (n:=(i:Int)+1) (by omega),jtM p i b (by unfold LIM;omega)]
  cases j0g p[i]
  ·rfl
  ·cases (decide (0<i)&&sGe (nth eS p ((i:Int)-1)) p[i])<;>rfl) (λrec=>by
  show j6j _ _ p _ _ _ _=_
  unfold j6j;rw[ZaO,Q0])
 refine this.trans ?_;have d:decide (nI p.length<=6)=decide (p.length<=6):=Xt.2 (by unfold nI;omega)
 rw[d];cases Z70 (λi s=> !j0g s||(decide (0<i)&&sGe (nth eS p ((i:Int)-1)) s)) 0 p
 ·rw[Q0,QQ,Qd]
 ·rfl
end Go.PI.G
namespace Go.PI.G
open Go Go.PI Go.Proofs
noncomputable def j9Q (p:List ByteArray)(s:ByteArray):Bool:=p.any λx=>sEq x s
theorem jtk {α:Type}(q:α->Bool)(l:List α):decide (Z9E q l>=0)=l.any q:=by
 unfold Z9E;cases h:l.findIdx? q with
 |none=>
  have:=Y8.1 h;have b:l.any q=false:=by
   rw[Yx];intro x g;rw[this x g];simp
  rw[b];rfl
 |some i=>
  have:=Xl.1 h;obtain⟨d,f,_⟩:=this;have b:l.any q=true:=Yn.2 ⟨l[i],Q7 d,f⟩;rw[b];show decide ((i:Int)>=0)=true
  exact Q3 (by omega)
theorem jpa (l:List ByteArray)(s:ByteArray)(h:l.length<=LIM)(k:Bool->Res):j0X l s k=k (j9Q l s):=by
 unfold j0X j11 j6W j9Q;have:=Z9R l (λi=>i) (λx=>sEq s x) (step:=j2n l s (nI l.length)) ((λ(_:Unit)=>k (decide ((-1:Int)>=0))),(λ(t:Int)=>k (decide (t>=0)))) (λr=>k (decide (r>=0))) h (λi rec b=>by
  show j0k _ _ _ _ _ _ _=_
  unfold j0k;unfold LIM at h;rw[ZaP b,Q1,j00 b,Q1,Zax _ _ _ b,j01 (n:=(i:Int)+1) (by omega)]) (λrec=>by
  show j0k _ _ _ _ _ _ _=_
  unfold j0k;rw[ZaO,Q0])
 refine this.trans ?_;rw[jtk];have:(λx=>sEq s x)=λx=>sEq x s:=by funext x;exact Zaf s x
 rw[this]
end Go.PI.G
namespace Go.PI.G
open Go Go.PI Go.Proofs
theorem jq0 (l:List ByteArray)(s:ByteArray)(h:l.length<=LIM)(k:Bool->Res):j6X l s k=k (j9Q l s):=by
 unfold j6X jjS j9Q;have:=Za1 l (λi=>i) (λx=>sEq x s) (step:=jc0 s l (nI l.length)) ((λ(_:Unit)=>k false),(λ(_:Unit)=>k true)) (k false) (k true) h (λi rec b=>by
  show j5z _ _ _ _ _ _ _=_
  unfold j5z;unfold LIM at h;rw[ZaP b,Q1,j00 b,Q1,Zax _ _ _ b,j01 (n:=(i:Int)+1) (by omega)]) (λrec=>by
  show j5z _ _ _ _ _ _ _=_
  unfold j5z;rw[ZaO,Q0])
 refine this.trans ?_;cases l.any λx=>sEq x s<;>rfl
end Go.PI.G
namespace Go.PI.G
open Go Go.PI Go.Proofs
theorem juI (s:ST)(k:Bool->Res):j87 s k=k (jnW s):=by
 unfold j87 jnW;rw[j4Q,j4Q,jq3];cases s.1==0
 ·rfl
 ·cases sEq s.2.1 eS
  ·rfl
  ·cases s.2.2.1.length==0
   ·rfl
   ·cases s.2.2.2.1.length==0<;>rfl
theorem juz (s:ST)(k:Bool->Res):j8Q s k=k (jnW s):=by
 unfold j8Q jnW;rw[j4Q,j4Q,jpb];cases s.1==0
 ·rfl
 ·cases sEq s.2.1 eS
  ·rfl
  ·cases s.2.2.1.length==0
   ·rfl
   ·cases s.2.2.2.1.length==0<;>rfl
theorem jvK (r:RC)(h:j12 r.2.2)(k:Bool->Res):jaJ r k=k (jd0 r):=by
 unfold jaJ jbC jd0;by_cases d:1<=r.1/\r.1<=4
 ·rw[Q2 (show ¬ r.1<1 by omega),Q0,Q2 (show ¬ r.1>4 by omega),Q0,Q3 d,Qd]
  by_cases f:1<=r.2.1/\r.2.1<=1000000
  ·rw[Q2 (show ¬ r.2.1<1 by omega),Q0,Q2 (show ¬ r.2.1>1000000 by omega),Q3 f,Qd]
   dsimp only;rw[cond_false,jig _ h,juI];cases r.1==2<;>rfl
  ·rw[Q2 f];by_cases b:r.2.1<1
   ·rw[Q3 b];rfl
   ·rw[Q2 b,Q3 (show r.2.1>1000000 by omega)];rfl
 ·rw[Q2 d];by_cases b:r.1<1
  ·rw[Q3 b];rfl
  ·rw[Q2 b,Q3 (show r.1>4 by omega)];rfl
theorem jvq (r:RC)(h:j12 r.2.2)(k:Bool->Res):jau r k=k (jd0 r):=by
 unfold jau jd0;rw[j6P,j6P];cases decide (1<=r.1/\r.1<=4)
 ·rfl
 ·cases decide (1<=r.2.1/\r.2.1<=1000000)
  ·rfl
  ·rw[Q4,Q0,Q0,ji0 _ h,juz];cases r.1==2<;>rfl
end Go.PI.G
namespace Go.PI.G
open Go Go.PI Go.Proofs
theorem juH (a b:V)(k:Bool->Res):jad a b k=k (vlt a b):=by
 unfold jad vlt;rw[jaF,jaF];cases j0w a
 ·rfl
 ·cases j0w b
  ·rfl
  ·rw[Q4,Q0,Q0,Qd,Qd];cases a.1 != b.1
   ·rw[Q0,Q0];by_cases h:a.2.1=b.2.1
    ·rw[h,ZaN,Q0,Q2 (by omega),Q0,Xe,Q1]
    ·have d:(a.2.1 != b.2.1)=true:=by simp[h]
     have f:(a.2.1==b.2.1)=false:=by simp[h]
     rw[d,f,Q1,Q0];cases decide (a.2.1<b.2.1)<;>rfl
   ·rfl
theorem juy (a b:V)(k:Bool->Res):j9T a b k=k (vlt a b):=by
 unfold j9T vlt;rw[jas,jas];cases j0w a
 ·rfl
 ·cases j0w b
  ·rfl
  ·rw[Q4,Q0,Q0,Qd,Qd];cases a.1 != b.1
   ·rw[Q0,Q0];cases a.2.1 != b.2.1<;>rfl
   ·rfl
end Go.PI.G
namespace Go.PI.G
open Go Go.PI Go.Proofs
theorem jrc {α V K:Type}(l:List α)(j:Int->V)(b:Nat->α->Bool)(p:Nat->Prop){step:V->(V->Res)->K->Res}(q:K)(d k:Res)(r:l.length<=LIM)(n:p 0)
  (z:∀(i:Nat),(g:i<l.length)->p i->b i l[i]=false->p (i+1))
  (A:∀(i:Nat) rec,(g:i<l.length)->p i->step (j i) rec q=bif b i l[i] then k else rec (j ((i:Int)+1))) (y:∀rec,step (j (l.length:Int)) rec q=d) :
  Z1e step Z1b (j 0) q=bif Z70 b 0 l then k else d:=by
 have h:=Z3Y l (λi (_:Unit)=>j i) (λi _ x=>if b i x then .error () else (.ok ():Except Unit Unit)) (λi _=>p i) q (λ_=>d) (λ_=>k) () r n (λi a C g f m=>by
   refine z i g f ?_;cases w:b i l[i]with
   |false=>rfl
   |true=>rw[w]at m;cases m)
  (λi a rec g f=>by
   rw[A i rec g f];cases b i l[i]<;>rfl) (λa rec _=>y rec)
 rw[h];have:∀(l:List α) (i:Nat),Z1R (λi _ x=>if b i x then .error () else (.ok ():Except Unit Unit)) i l ()=bif Z70 b i l then .error () else .ok ():=by
  intro l;induction l with
  |nil=>intro i;rfl
  |cons x l B=>
   intro i;simp only[Z1R,Z70];cases b i x with
   |true=>rfl
   |false=>exact B _
 rw[this];cases Z70 b 0 l<;>rfl
theorem jnz (c:C)(f:j19 c=true)(v:V)(k:Bool->Res):j5B c v k=k (j4Y c v):=by
 have g:=jxV f;unfold j5B j4Y;rw[jaF,jaF];cases b:v.1==0
 ·cases j0w v
  ·rfl
  ·rw[Q0,Q1,QW,Bool.or_false,Qd]
 ·have d:(v.1==c.2.1)=false:=by
   rw[QG]at b;simp;omega
  rw[d,Qd,XY];cases j0w v<;>rfl
theorem jux (c:C)(v:V)(k:Bool->Res):jeW c v k=k (j4Y c v):=by
 unfold jeW j4Y;rw[jas];cases j0w v
 ·rfl
 ·cases v.1==c.2.1
  ·cases v.1==0<;>rfl
  ·rfl
theorem jkA (t:T)(h:msr yT t<=1048576)(r:List V)(k:Bool->Res):j3g t r k=k (j06 t&&j0z t.2.1 r):=by
 obtain⟨g,j,l,m,p⟩:=j3b h;unfold j3g;rw[jgk t h];cases ht:j06 t
 ·rfl
 ·rw[Q4,Q0,Qd];unfold j0z;by_cases d:r.length=t.2.1.length
  ·have f:(nI r.length != nI t.2.1.length)=false:=by rw[d,ZaN]
   rw[f,Q0,Q3 d,Qd];unfold jfH;have:=Z9O t.2.1 (λi=>i) (λi c=> !j4Y c (nth zV r (i:Int))) (step:=j9D t.2.1 (nI t.2.1.length) r) ((λ(_:Unit)=>k true),(λ(_:Unit)=>k false)) (k true) (k false) (by unfold LIM;omega) (λi rec b=>by
    show j6L _ _ r _ _ _ _=_
    unfold j6L;rw[ZaP b,Q1,j00 b,Q1,j00 (d ▸ b),Q1,Zax _ _ _ b,jnz _ (jrj (j2s ht).2.2.2.2.1 i b),j01 (n:=(i:Int)+1) (by omega)]) (λrec=>by
    show j6L _ _ r _ _ _ _=_
    unfold j6L;rw[ZaO,Q0])
   refine this.trans ?_;cases Z70 (λi c=> !j4Y c (nth zV r (i:Int))) 0 t.2.1<;>rfl
  ·have f:(nI r.length != nI t.2.1.length)=true:=by unfold nI;simp;omega
   rw[f,Q1,Q2 d,QW]
theorem jkf (t:T)(h:msr yT t<=1048576)(r:List V)(k:Bool->Res):j4z t r k=k (j0z t.2.1 r):=by
 obtain⟨g,j,l,m,p⟩:=j3b h;unfold j4z j0z;by_cases b:r.length=t.2.1.length
 ·have d:(nI r.length != nI t.2.1.length)=false:=by rw[b,ZaN]
  rw[d,Q0,Q3 b,Qd];unfold jl8;have:=Z9O t.2.1 (λi=>i) (λi c=> !j4Y c (nth zV r (i:Int))) (step:=jcK r (nI r.length) t) ((λ(_:Unit)=>k true),(λ(_:Unit)=>k false)) (k true) (k false) (by unfold LIM;omega) (λi rec f=>by
   show j6p _ _ t _ _ _ _=_
   unfold j6p;rw[b,ZaP f,Q1,j00 f,Q1,Q1,Zax zC _ _ f,jux,j01 (n:=(i:Int)+1) (by omega)]) (λrec=>by
   show j6p _ _ t _ _ _ _=_
   unfold j6p;rw[b,ZaO,Q0])
  refine this.trans ?_;cases Z70 (λi c=> !j4Y c (nth zV r (i:Int))) 0 t.2.1<;>rfl
 ·have d:(nI r.length != nI t.2.1.length)=true:=by unfold nI;simp;omega
  rw[d,Q1,Q2 b,QW]
theorem j0E {l:List C}{r:List V}(h:j0z l r=true):r.length=l.length:=by
 unfold j0z at h;rw[Q6,Ql]at h;exact h.1
theorem jbK {α β:Type}(f:α->β):(l:List α)->l.flatMap (λx=>[f x])=l.map f
 | []=>rfl
 |x::l=>by rw[QH,jbK f l];rfl
theorem jbM (t:T)(r:List V):(j09 t r).length=t.2.2.length:=by unfold j09;simp
theorem j8x (t:T)(h:msr yT t<=1048576)(ht:j06 t=true)(r:List V)(m:r.length=t.2.1.length)(k:List V->Res):j0G t r k=k (j09 t r):=by
 obtain⟨p,q,w,y,z⟩:=j3b h;unfold j0G jjT;have g:=j1E t.2.2 (-1) (by omega) (j2s ht).2.2.2.2.2
 have:=Z9S t.2.2 (λi b=>(b,i)) (λn=>[nth zV r (j03 t.2.1 n)]) 1048576 [] (step:=jc2 t.2.2 (nI t.2.2.length) t r) (λb=>k b) (λb=>k b) (by unfold LIM;omega) (λi d _=>by
  rw[jbK,Qk,Qy,Qf];omega) (by simp) (λi b rec d l _=>by
  show j5C _ _ t r _ _ _ _=_
  unfold j5C;have f:=g _ (Q7 d);have j:b.length=i:=by
   rw[l,jbK,Qk,Qy,Qf];omega
  dsimp only;rw[ZaP d,cond_true,j00 d,cond_true,Zax _ _ _ d,j8d t _ (by unfold LIM;omega),ZaJ f.1 (by omega),cond_true,ZaK (by unfold LIM;omega),cond_true,j01 (n:=(i:Int)+1) (by omega)]) (λb rec=>by
  show j5C _ _ t r _ _ _ _=_
  unfold j5C;dsimp only;rw[ZaO,cond_false])
 refine this.trans ?_;rw[jbK,Qk];rfl
theorem jjO (a b:List V)(j:a.length<=LIM)(k:Bool->Res):j5v a b k=k (klt a b):=by
 unfold j5v jih;unfold LIM at j;have h:∀(d i n:Nat),i+d=a.length->d<n->i<=b.length->Z1e (jb4 a b) n (i:Int) ((λ(_:Unit)=>k (decide (nI a.length<nI b.length))),(λ(t:Bool)=>k t))=k (klt (a.drop i) (b.drop i)):=by
  intro d;induction d with
  |zero=>
   intro i n p q l;obtain⟨n,rfl⟩:∃m,n=m+1:=⟨n-1,by omega⟩
   have:i=a.length:=by omega
   subst this;show j4j a b _ _ _ _=_
   unfold j4j;rw[ZaO,Q0,YT];show k (decide (nI a.length<nI b.length))=_
   by_cases g:a.length<b.length
   ·rw[QJ g,Q3 (show nI a.length<nI b.length by unfold nI;omega)]
    rfl
   ·rw[List.drop_of_length_le (by omega),Q2 (show ¬ nI a.length<nI b.length by unfold nI;omega)]
    rfl
  |succ d r=>
   intro i n p q l;obtain⟨n,rfl⟩:∃m,n=m+1:=⟨n-1,by omega⟩
   have f:i<a.length:=by omega
   show j4j a b _ _ _ _=_
   unfold j4j;rw[ZaP f,Q1,QJ f];by_cases g:i<b.length
   ·rw[ZaP g,Q1,j00 f,Q1,j00 g,Q1,QJ g,Zax _ _ _ f,Zax _ _ _ g,Q1,Q1,juH,j01 (n:=(i:Int)+1) (by omega)]
    show (bif !veq a[i] b[i] then _ else _)=k (bif veq a[i] b[i] then _ else _)
    cases veq a[i] b[i]
    ·rfl
    ·exact r (i+1) n (by omega) (by omega) (by omega)
   ·have:i=b.length:=by omega
    subst this;rw[ZaO,Q0,YT];show k (decide (nI a.length<nI b.length))=_
    rw[Q2 (show ¬ nI a.length<nI b.length by unfold nI;omega)]
    rfl
 exact h a.length 0 Z1b (by omega) (Z2a (by omega)) (by omega)
theorem j4y (t:T)(h:msr yT t<=1048576)(ht:j06 t=true)(r:List V)(m:r.length=t.2.1.length)(k:List V->Res):j0O t r k=k (j09 t r):=by
 obtain⟨p,q,w,y,z⟩:=j3b h;unfold j0O jl6;have g:=j1E t.2.2 (-1) (by omega) (j2s ht).2.2.2.2.2
 have:=Z9S t.2.2 (λi b=>(b,i)) (λn=>[nth zV r (j03 t.2.1 n)]) 1048576 [] (step:=jcH t.2.2 (nI t.2.2.length) t r) (λb=>k b) (λb=>k b) (by unfold LIM;omega) (λi d _=>by
  rw[jbK,Qk,Qy,Qf];omega) (by simp) (λi b rec d l _=>by
  show j6n _ _ t r _ _ _ _=_
  unfold j6n;have f:=g _ (Q7 d);have j:b.length=i:=by
   rw[l,jbK,Qk,Qy,Qf];omega
  dsimp only;rw[ZaP d,cond_true,j00 d,cond_true,Zax _ _ _ d,j9R t _ (by unfold LIM;omega),ZaJ f.1 (by omega),cond_true,ZaK (by unfold LIM;omega),cond_true,j01 (n:=(i:Int)+1) (by omega)]) (λb rec=>by
  show j6n _ _ t r _ _ _ _=_
  unfold j6n;dsimp only;rw[ZaO,cond_false])
 refine this.trans ?_;rw[jbK,Qk];rfl
theorem jea (a b:List V)(j:a.length<=LIM)(k:Bool->Res):j51 a b k=k (klt a b):=by
 unfold j51 ji1;unfold LIM at j;have h:∀(d i n:Nat),i+d=a.length->d<n->i<=b.length->Z1e (jaU a b) n (i:Int) ((λ(_:Unit)=>k (decide (nI a.length<nI b.length))),(λ(t:Bool)=>k t))=k (klt (a.drop i) (b.drop i)):=by
  intro d;induction d with
  |zero=>
   intro i n p q l;obtain⟨n,rfl⟩:∃m,n=m+1:=⟨n-1,by omega⟩
   have:i=a.length:=by omega
   subst this;show j40 a b _ _ _ _=_
   unfold j40;rw[ZaO,Q0,YT];show k (decide (nI a.length<nI b.length))=_
   by_cases g:a.length<b.length
   ·rw[QJ g,Q3 (show nI a.length<nI b.length by unfold nI;omega)]
    rfl
   ·rw[List.drop_of_length_le (by omega),Q2 (show ¬ nI a.length<nI b.length by unfold nI;omega)]
    rfl
  |succ d r=>
   intro i n p q l;obtain⟨n,rfl⟩:∃m,n=m+1:=⟨n-1,by omega⟩
   have f:i<a.length:=by omega
   show j40 a b _ _ _ _=_
   unfold j40;rw[ZaP f,Q1,QJ f];by_cases g:i<b.length
   ·rw[ZaP g,Q1,j00 f,Q1,j00 g,Q1,QJ g,Zax _ _ _ f,Zax _ _ _ g,Q1,Q1,juy,j01 (n:=(i:Int)+1) (by omega)]
    show (bif !veq a[i] b[i] then _ else _)=k (bif veq a[i] b[i] then _ else _)
    cases veq a[i] b[i]
    ·rfl
    ·exact r (i+1) n (by omega) (by omega) (by omega)
   ·have:i=b.length:=by omega
    subst this;rw[ZaO,Q0,YT];show k (decide (nI a.length<nI b.length))=_
    rw[Q2 (show ¬ nI a.length<nI b.length by unfold nI;omega)]
    rfl
 exact h a.length 0 Z1b (by omega) (Z2a (by omega)) (by omega)
theorem j97 (t:T)(h:msr yT t<=1048576)(l:List (List V))(k:Bool->Res):j0F t l k=k (j0e t l):=by
 obtain⟨B,C,D,E,F⟩:=j3b h;unfold j0F j0e;rw[jgk t h];cases ht:j06 t
 ·rfl
 ·rw[Q4,Q0,Qd];by_cases q:l.length<=60
  ·rw[Q2 (show ¬ nI l.length>60 by unfold nI;omega),Q0,Q3 q,Qd]
   unfold jeF;have:=jrc l (λi=>i) (λi r=> !j0z t.2.1 r||(decide (0<i)&& !klt (j09 t (nth [] l ((i:Int)-1))) (j09 t r))) (λi=>∀(j:Nat) (g:j<l.length),j<i->j0z t.2.1 l[j]=true) (step:=j5w l l (nI l.length) t) ((λ(_:Unit)=>k true),(λ(_:Unit)=>k false)) (k true) (k false) (by unfold LIM;omega) (λj _ g=>absurd g (by omega)) (λi f m w j g z=>by
    rw[Xb,Xa]at w;by_cases d:j<i
    ·exact m j g d
    ·have:j=i:=by omega
     subst this;exact w.1) (λi rec f m=>by
    show j34 l _ _ t _ _ _ _=_
    unfold j34;rw[ZaP f,Q1,j00 f,Q1,Zax _ _ _ f,jkA t h];rw[ht,Qd];cases A:j0z t.2.1 l[i]
    ·rfl
    ·rw[Q4,Q0,XY,j01 (n:=(i:Int)+1) (by omega)]
     by_cases p:0<i
     ·have b:i-1<l.length:=by omega
      have y:((i:Int)-1)=((i-1:Nat):Int):=by omega
      rw[Q3 (show (i:Int)>0 by omega),Q1,Q3 p,Qd,j01 (n:=(i:Int)-1) (by omega),y,j00 b,Q1,Zax _ _ _ b,j8x t h ht _ (j0E (m _ b (by omega))),j8x t h ht _ (j0E A),jjO _ _ (by rw[jbM];unfold LIM;omega)]
     ·rw[Q2 (show ¬ (i:Int)>0 by omega),Q0,Q2 p,QW,Q0]) (λrec=>by
    show j34 l _ _ t _ _ _ _=_
    unfold j34;rw[ZaO,Q0])
   refine this.trans ?_;cases Z70 (λi r=> !j0z t.2.1 r||(decide (0<i)&& !klt (j09 t (nth [] l ((i:Int)-1))) (j09 t r))) 0 l<;>rfl
  ·rw[Q3 (show nI l.length>60 by unfold nI;omega),Q1,Q2 q,QW]
theorem jbi (t:T)(h:msr yT t<=1048576)(l:List (List V))(k:Bool->Res):j0W t l k=k (j0e t l):=by
 obtain⟨B,C,D,E,F⟩:=j3b h;unfold j0W j0e;rw[jkh t h];cases ht:j06 t
 ·rfl
 ·rw[Q4,Q0,Qd];by_cases q:l.length<=60
  ·rw[Q2 (show ¬ nI l.length>60 by unfold nI;omega),Q0,Q3 q,Qd]
   unfold jed;have:=jrc l (λi=>i) (λi r=> !j0z t.2.1 r||(decide (0<i)&& !klt (j09 t (nth [] l ((i:Int)-1))) (j09 t r))) (λi=>∀(j:Nat) (g:j<l.length),j<i->j0z t.2.1 l[j]=true) (step:=j52 l l (nI l.length) t) ((λ(_:Unit)=>k true),(λ(_:Unit)=>k false)) (k true) (k false) (by unfold LIM;omega) (λj _ g=>absurd g (by omega)) (λi f m w j g z=>by
    rw[Xb,Xa]at w;by_cases d:j<i
    ·exact m j g d
    ·have:j=i:=by omega
     subst this;exact w.1) (λi rec f m=>by
    show j30 l _ _ t _ _ _ _=_
    unfold j30;rw[ZaP f,Q1,j00 f,Q1,Zax _ _ _ f,jkf t h];cases A:j0z t.2.1 l[i]
    ·rfl
    ·rw[Q4,Q0,XY,j01 (n:=(i:Int)+1) (by omega)]
     by_cases p:0<i
     ·have b:i-1<l.length:=by omega
      have y:((i:Int)-1)=((i-1:Nat):Int):=by omega
      rw[Q3 (show (i:Int)>0 by omega),Q1,Q3 p,Qd,j01 (n:=(i:Int)-1) (by omega),y,j00 b,Q1,Zax _ _ _ b,j4y t h ht _ (j0E (m _ b (by omega))),j4y t h ht _ (j0E A),jea _ _ (by rw[jbM];unfold LIM;omega)]
     ·rw[Q2 (show ¬ (i:Int)>0 by omega),Q0,Q2 p,QW,Q0]) (λrec=>by
    show j30 l _ _ t _ _ _ _=_
    unfold j30;rw[ZaO,Q0])
   refine this.trans ?_;cases Z70 (λi r=> !j0z t.2.1 r||(decide (0<i)&& !klt (j09 t (nth [] l ((i:Int)-1))) (j09 t r))) 0 l<;>rfl
  ·rw[Q3 (show nI l.length>60 by unfold nI;omega),Q1,Q2 q,QW]
theorem j0s {t:T}{l:List (List V)}(h:j0e t l=true):j06 t=true/\l.length<=60/\∀r∈l,j0z t.2.1 r=true:=by
 unfold j0e at h;simp only[Q6,Ql,QF]at h;refine⟨h.1,h.2.1,λr d=> ?_⟩
 obtain⟨i,b,rfl⟩:=Xo d;have:=jg7 l 0 h.2.2 i b;simp only[Xb,Xa]at this;exact this.1
end Go.PI.G
namespace Go.PI.G
open Go Go.PI Go.Proofs
theorem joZ {α K:Type}(z:α)(f:α->α->Bool)(a b:List α){step:Int->(Int->Res)->K->Res}(q:K)(x y:Res)(h:a.length<=LIM)(g:a.length=b.length)
  (k:∀(i:Nat) rec,(d:i<a.length)->(l:i<b.length)->step (i:Int) rec q=bif f a[i] b[i] then rec ((i:Int)+1) else y) (j:∀rec,step (a.length:Int) rec q=x) :
  Z1e step Z1b 0 q=bif j2c z f a b then x else y:=by
 have:=Z9O a (λi=>i) (λi u=> !f u (nth z b (i:Int))) (step:=step) q x y h (λi rec d=>by
  rw[k i rec d (g ▸ d),Zax _ _ _ (g ▸ d)];cases f a[i] (b[i]'(g ▸ d))<;>rfl) j
 refine this.trans ?_;unfold j2c;rw[Q3 g,Qd];cases Z70 (λi u=> !f u (nth z b (i:Int))) 0 a<;>rfl
theorem jpg {α β:Type}{a:List α}{b:List β}(h:¬ a.length=b.length):(nI a.length != nI b.length)=true:=by unfold nI;simp;omega
theorem jpf {α β:Type}{a:List α}{b:List β}(h:a.length=b.length):(nI a.length != nI b.length)=false:=by rw[h,ZaN]
theorem jsZ {α:Type}{z:α}{f:α->α->Bool}{a b:List α}(h:¬ a.length=b.length):j2c z f a b=false:=by
 unfold j2c;rw[Q2 h,QW]
theorem jq4 (a b:List V)(g:a.length<=LIM)(k:Bool->Res):j5E a b k=k (j2c zV veq a b):=by
 unfold j5E;by_cases d:a.length=b.length
 ·rw[jpf d,Q0];unfold jdW;unfold LIM at g;have:=joZ zV veq a b (step:=j86 a b (nI a.length)) ((λ(_:Unit)=>k true),(λ(_:Unit)=>k false)) (k true) (k false) g d (λi rec f h=>by
   show j27 _ _ _ _ _ _ _=_
   unfold j27;rw[ZaP f,Q1,j00 f,Q1,j00 h,Q1,Zax _ _ _ f,Zax _ _ _ h,j01 (n:=(i:Int)+1) (by omega)]
   show (bif !veq a[i] b[i] then _ else _)=_
   cases veq a[i] b[i]<;>rfl) (λrec=>by
   show j27 _ _ _ _ _ _ _=_
   unfold j27;rw[ZaO,Q0])
  refine this.trans ?_;cases j2c zV veq a b<;>rfl
 ·rw[jpg d,Q1,jsZ d]
theorem jhZ (a b:List V)(g:a.length<=LIM)(k:Bool->Res):j1R a b k=k (j2c zV veq a b):=by
 unfold j1R;by_cases d:a.length=b.length
 ·rw[jpf d,Q0];unfold jdU;unfold LIM at g;have:=joZ zV veq a b (step:=j7W a b (nI a.length)) ((λ(_:Unit)=>k true),(λ(_:Unit)=>k false)) (k true) (k false) g d (λi rec f h=>by
   show j23 _ _ _ _ _ _ _=_
   unfold j23;rw[ZaP f,Q1,j00 f,Q1,j00 h,Q1,Zax _ _ _ f,Zax _ _ _ h,j01 (n:=(i:Int)+1) (by omega)]
   show (bif !veq a[i] b[i] then _ else _)=_
   cases veq a[i] b[i]<;>rfl) (λrec=>by
   show j23 _ _ _ _ _ _ _=_
   unfold j23;rw[ZaO,Q0])
  refine this.trans ?_;cases j2c zV veq a b<;>rfl
 ·rw[jpg d,Q1,jsZ d]
theorem jdg (t:T)(h:msr yT t<=1048576)(l:List (List V))(f:j0e t l=true)(b:List V)(k:Int->Res):j2o t l b k=k (j0a t l b):=by
 obtain⟨m,p,q,w,y⟩:=j3b h;obtain⟨g,z,j⟩:=j0s f;unfold j2o;rw[j97 t h,f,Q4,Q0];unfold jfG;refine Z9R l (λi=>i) (λr=>j2c zV veq (j09 t r) b) (step:=j6K b l (nI l.length) t) _ k (by unfold LIM;omega) (λi rec d=> ?_) (λrec=> ?_)
 ·show j3K b _ _ t _ _ _ _=_
  unfold j3K;rw[ZaP d,Q1,j00 d,Q1,Zax _ _ _ d,j8x t h g _ (j0E (j _ (Q7 d))),jq4 _ _ (by rw[jbM];unfold LIM;omega),j01 (n:=(i:Int)+1) (by omega)]
 ·show j3K b _ _ t _ _ _ _=_
  unfold j3K;rw[ZaO,Q0]
theorem j4Z (t:T)(h:msr yT t<=1048576)(l:List (List V))(f:j0e t l=true)(b:List V)(k:Int->Res):j1q t l b k=k (j0a t l b):=by
 obtain⟨m,p,q,w,y⟩:=j3b h;obtain⟨g,z,j⟩:=j0s f;unfold j1q j8v jaQ;refine Z9R l (λi=>i) (λr=>j2c zV veq (j09 t r) b) (step:=j4D l (t,b) (nI l.length)) _ k (by unfold LIM;omega) (λi rec d=> ?_) (λrec=> ?_)
 ·show j16 _ _ _ _ _ _ _=_
  unfold j16 jeV;rw[ZaP d,Q1,j00 d,Q1,Zax _ _ _ d,j4y t h g _ (j0E (j _ (Q7 d))),jhZ _ _ (by rw[jbM];unfold LIM;omega),j01 (n:=(i:Int)+1) (by omega)]
 ·show j16 _ _ _ _ _ _ _=_
  unfold j16;rw[ZaO,Q0]
theorem jtP (t:T)(l:List (List V))(b:List V): -1<=j0a t l b/\j0a t l b<(l.length:Int):=jg8 _ _
end Go.PI.G
namespace Go.PI.G
open Go Go.PI Go.Proofs
theorem jv5 {c:List T}(h:msr (.slice yT) c<=1048576):c.length<=1048576/\∀t∈c,msr yT t<=1048576:=⟨j0f h,λt ht=>j0b h ht⟩
theorem ju1 (c:List T)(h:msr (.slice yT) c<=1048576)(a b:Unit->Res):jfE c (nI c.length) c Z1b 0 a b=bif Z70 (λi t=> !j06 t||(decide (0<i)&&sGe (nth zT c ((i:Int)-1)).1 t.1)) 0 c then b () else a ():=by
 obtain⟨g,f⟩:=jv5 h;unfold jfE;exact Z9O c (λi=>i) (λi t=> !j06 t||(decide (0<i)&&sGe (nth zT c ((i:Int)-1)).1 t.1)) (step:=jdj c (nI c.length) c) (a,b) (a ()) (b ()) (by unfold LIM;omega) (λi rec d=>by
  show j6C _ _ c _ _ _ _=_
  unfold j6C;rw[ZaP d,Q1,j00 d,Q1,Zax _ _ _ d,jgk _ (f _ (Q7 d)),j01 (n:=(i:Int)+1) (by omega),jt7 c i d (by unfold LIM;omega)]
  cases j06 c[i]
  ·rfl
  ·cases (decide (0<i)&&sGe (nth zT c ((i:Int)-1)).1 c[i].1)<;>rfl) (λrec=>by
  show j6C _ _ c _ _ _ _=_
  unfold j6C;rw[ZaO,Q0])
theorem jtm (c:List T)(h:msr (.slice yT) c<=1048576)(a b:Unit->Res):jfo c (nI c.length) c Z1b 0 a b=bif Z70 (λi t=> !j06 t||(decide (0<i)&&sGe (nth zT c ((i:Int)-1)).1 t.1)) 0 c then b () else a ():=by
 obtain⟨g,f⟩:=jv5 h;unfold jfo;exact Z9O c (λi=>i) (λi t=> !j06 t||(decide (0<i)&&sGe (nth zT c ((i:Int)-1)).1 t.1)) (step:=jcB c (nI c.length) c) (a,b) (a ()) (b ()) (by unfold LIM;omega) (λi rec d=>by
  show j6d _ _ c _ _ _ _=_
  unfold j6d;rw[ZaP d,Q1,j00 d,Q1,Zax _ _ _ d,jkh _ (f _ (Q7 d)),j01 (n:=(i:Int)+1) (by omega),jt7 c i d (by unfold LIM;omega)]
  cases j06 c[i]
  ·rfl
  ·cases (decide (0<i)&&sGe (nth zT c ((i:Int)-1)).1 c[i].1)<;>rfl) (λrec=>by
  show j6d _ _ c _ _ _ _=_
  unfold j6d;rw[ZaO,Q0])
theorem jkx (c:List T)(h:msr (.slice yT) c<=1048576)(k:Bool->Res):j4F c k=k (j2Z c):=by
 unfold j4F j2Z;rw[ju1 c h];by_cases b:c.length<=6
 ·rw[Q2 (show ¬ nI c.length>6 by unfold nI;omega),Q0,Q3 b,Qd]
  cases Z70 (λi t=> !j06 t||(decide (0<i)&&sGe (nth zT c ((i:Int)-1)).1 t.1)) 0 c<;>rfl
 ·rw[Q3 (show nI c.length>6 by unfold nI;omega),Q1,Q2 b,QW]
theorem jp8 (c:List T)(h:msr (.slice yT) c<=1048576)(k:Bool->Res):j8i c k=k (j2Z c):=by
 unfold j8i j2Z;rw[jtm c h];have:decide (nI c.length<=6)=decide (c.length<=6):=Xt.2 (by unfold nI;omega)
 rw[this];cases Z70 (λi t=> !j06 t||(decide (0<i)&&sGe (nth zT c ((i:Int)-1)).1 t.1)) 0 c
 ·rw[QQ,Xm];rfl
 ·rw[Q4,XF];rfl
end Go.PI.G
namespace Go.PI.G
open Go Go.PI Go.Proofs
theorem jdh (c:List T)(n:ByteArray)(h:c.length<=LIM)(k:Int->Res):j1M c n k=k (j07 c n):=by
 unfold j1M jlm;refine Z9R c (λi=>i) (λt=>sEq t.1 n) (step:=jdq n c (nI c.length)) _ k h (λi rec b=> ?_) (λrec=> ?_)
 ·show j6O n _ _ _ _ _ _=_
  unfold j6O;unfold LIM at h;rw[ZaP b,Q1,j00 b,Q1,Zax _ _ _ b,j01 (n:=(i:Int)+1) (by omega)]
 ·show j6O n _ _ _ _ _ _=_
  unfold j6O;rw[ZaO,Q0]
theorem j7n (c:List T)(n:ByteArray)(h:c.length<=LIM)(k:Int->Res):j0o c n k=k (j07 c n):=by
 unfold j0o j6V j9z;refine Z9R c (λi=>i) (λt=>sEq t.1 n) (step:=j3u c n (nI c.length)) _ k h (λi rec b=> ?_) (λrec=> ?_)
 ·show j0M _ n _ _ _ _ _=_
  unfold j0M jgW;unfold LIM at h;rw[ZaP b,Q1,j00 b,Q1,Zax _ _ _ b,j01 (n:=(i:Int)+1) (by omega)]
 ·show j0M _ n _ _ _ _ _=_
  unfold j0M;rw[ZaO,Q0]
end Go.PI.G
namespace Go.PI.G
open Go Go.PI Go.Proofs
theorem jeY {n:Nat}(h:n<=1048576):lim (0+n)=true:=ZaK (by unfold LIM;omega)
theorem jnC (t:T)(b:t.2.1.length<=1048576)(d:t.2.2.length<=1048576)(k:T->Res):j1l t k=k t:=by
 unfold j1l;simp only[Z9P];rw[jeY b,Q1,jeY d,Q1]
theorem jgQ {c:List T}(b:msr (.slice yT) c<=1048576):c.length<=1048576/\∀t∈c,tSm t:=⟨j0f b,λt ht=>j3b (j0b b ht)⟩
theorem j0Y {α:Type}:(l:List α)->l.flatMap (λx=>[x])=l
 | []=>rfl
 |x::l=>by rw[QH,j0Y l];rfl
theorem jnw (c:List T)(f:msr (.slice yT) c<=1048576)(k:List T->Res):j5y c k=k c:=by
 obtain⟨h,ht⟩:=jgQ f;unfold j5y jij;have:=Z9S c (λi b=>(i,b)) (λx=>[x]) 1048576 [] (step:=jb7 c (nI c.length)) (λb=>k b) (λb=>k b) (by unfold LIM;omega) (λi d _=>by
  rw[j0Y,Qk,Qf];omega) (by simp) (λi b rec d j g=>by
  show j4r _ _ _ _ _ _=_
  unfold j4r;obtain⟨l,m,p,q,r⟩:=ht _ (List.getElem_mem d);dsimp only;rw[ZaP d,cond_true,j00 d,cond_true,Zax _ _ _ d,jnC _ (by omega) (by omega),ZaK (by unfold LIM;omega),cond_true,j01 (n:=(i:Int)+1) (by omega)]) (λb rec=>by
  show j4r _ _ _ _ _ _=_
  unfold j4r;dsimp only;rw[ZaO,cond_false])
 refine this.trans ?_;rw[j0Y,Qk]
noncomputable def jcY (t:T)(a:Bool×List T)(x:T):Bool×List T:=bif !a.1&&tR t x then (true,a.2++[t]++[x]) else (a.1,a.2++[x])
theorem jrB (t:T):(l:List T)->(b:List T)->l.foldl (jcY t) (true,b)=(true,b++l)
 | [],b=>by simp
 |x::l,b=>by
  rw[QY];show l.foldl (jcY t) (true,b++[x])=_
  rw[jrB t l,Qb];rfl
theorem jtN (t:T):(l:List T)->(b:List T)->(bif !(l.foldl (jcY t) (false,b)).1 then (l.foldl (jcY t) (false,b)).2++[t] else (l.foldl (jcY t) (false,b)).2)=b++lay tR t l
 | [],b=>rfl
 |x::l,b=>by
  rw[QY];unfold lay;cases d:tR t x
  ·have:jcY t (false,b) x=(false,b++[x]):=by unfold jcY;rw[d];rfl
   rw[this,jtN t l,YJ (by rw[d];rfl),List.dropWhile_cons_of_pos (by rw[d];rfl)]
   unfold lay;simp
  ·have:jcY t (false,b) x=(true,b++[t]++[x]):=by unfold jcY;rw[d];rfl
   rw[this,jrB,YI (by rw[d];simp),List.dropWhile_cons_of_neg (by rw[d];simp)]
   simp
theorem jxl (t:T)(a:Bool×List T)(x:T):(jcY t a x).2.length<=a.2.length+2:=by
 unfold jcY;cases !a.1&&tR t x<;>simp
theorem jvJ (c:List T)(t:T)(j:c.length<=1048576)(k:List T->Res):jbw c t k=k (lay tR t c):=by
 unfold jbw jeH;have:=Z8h c (λi (a:Bool×List T)=>(a.1,i,a.2)) (jcY t) (λi a=>a.2.length<=2 * i) (step:=jc1 c (nI c.length) t) (λdone b=>bif !done then bif lim (b.length+1) then k (b++[t]) else none else k b)
  (λa=>bif !a.1 then k (a.2++[t]) else k a.2) (false,[]) (by unfold LIM;omega) (by simp) (λi a f h=>by have:=jxl t a c[i];omega) (λi a rec f h=>by
  show j5A _ _ _ _ _ _ _ _=_
  unfold j5A jeI;dsimp only;rw[ZaP f,cond_true,j00 f,cond_true,Zax _ _ _ f];have g:lim (a.2.length+1)=true:=ZaK (by unfold LIM;omega)
  have d:lim ((a.2++[t]).length+1)=true:=ZaK (by unfold LIM;simp;omega)
  unfold jcY tR;cases a.1
  ·rw[QQ,Q1,Qd];cases sLt t.1 c[i].1
   ·rw[Q0,Q0,g,Q1,j01 (n:=(i:Int)+1) (by omega)]
   ·rw[Q1,Q1,g,Q1,d,Q1,j01 (n:=(i:Int)+1) (by omega)]
  ·rw[Q4,Q0,QW,Q0,g,Q1,j01 (n:=(i:Int)+1) (by omega)]) (λa rec h=>by
  show j5A _ _ _ _ _ _ _ _=_
  unfold j5A;dsimp only;rw[ZaO,cond_false];cases a.1
  ·rw[QQ,Q1,Q1,ZaK (by unfold LIM;omega),Q1]
  ·rfl)
 refine this.trans ?_;have d:=jtN t c [];rw[Qk]at d;rw[<-d];cases (c.foldl (jcY t) (false,[])).1<;>rfl
theorem jka (l:List C)(n:ByteArray):decide (j03 l n>=0)= !decide (j03 l n<0):=by
 by_cases h:j03 l n<0
 ·rw[Q3 h,Q2 (by omega)];rfl
 ·rw[Q2 h,Q3 (by omega)];rfl
theorem ju6 (t:T)(d:D)(l:t.2.1.length<=1048576)(m:t.2.2.length<=1048576)(b:d.1=3->0<d.2.2.1.length)(k:Int->Res):j66 t d k=k (j0B t d):=by
 unfold j66 j0B;rw[j8d _ _ (by unfold LIM;omega)]
 cases f:(d.1==3)
 ·rw[Q0,Q0];cases h:(d.1==4)
  ·rw[Q0,Q0];cases j:(d.1==5)
   ·rfl
   ·rw[Q1,Q1,j8d _ _ (by unfold LIM;omega),jka]
    cases !decide (j03 t.2.1 d.2.2.2.2.2<0)
    ·cases decide (j03 t.2.1 d.2.2.2.2.1<0)<;>rfl
    ·rfl
  ·rw[Q1,Q1];cases decide (j03 t.2.1 d.2.2.2.2.1<0)
   ·rw[Q0,Q0,jq0 _ _ (by unfold LIM;omega)]
    show (bif j9Q t.2.2 d.2.2.2.2.1 then k 8 else k 0)=k (bif j9Q t.2.2 d.2.2.2.2.1 then 8 else 0)
    cases j9Q t.2.2 d.2.2.2.2.1<;>rfl
   ·rfl
 ·rw[Q1,Q1];have b:=b (by simpa using f)
  have g:inb 0 d.2.2.1.length=true:=j00 (i:=0) b;rw[g,Q1,j8d _ _ (by unfold LIM;omega),jka]
  cases !decide (j03 t.2.1 (nth zC d.2.2.1 0).1<0)
  ·rw[Q0,Q0];have:(nI t.2.1.length==8)=(t.2.1.length==8):=by
    unfold nI;rw[Ym];simp only[QG];omega
   rw[this];cases (t.2.1.length==8)<;>rfl
  ·rfl
end Go.PI.G
namespace Go.PI.G
open Go Go.PI Go.Proofs
noncomputable def jcZ {α:Type}(R:α->α->Bool)(t:α)(a:Bool×List α)(x:α):Bool×List α:=bif !a.1&&R t x then (true,a.2++[t]++[x]) else (a.1,a.2++[x])
theorem jrC {α:Type}(R:α->α->Bool)(t:α):(l:List α)->(b:List α)->l.foldl (jcZ R t) (true,b)=(true,b++l)
 | [],b=>by simp
 |x::l,b=>by
  rw[QY];show l.foldl (jcZ R t) (true,b++[x])=_
  rw[jrC R t l,Qb];rfl
theorem jtO {α:Type}(R:α->α->Bool)(t:α):(l:List α)->(b:List α)->(bif !(l.foldl (jcZ R t) (false,b)).1 then (l.foldl (jcZ R t) (false,b)).2++[t] else (l.foldl (jcZ R t) (false,b)).2)=b++lay R t l
 | [],b=>rfl
 |x::l,b=>by
  rw[QY];unfold lay;cases d:R t x
  ·have:jcZ R t (false,b) x=(false,b++[x]):=by unfold jcZ;rw[d];rfl
   rw[this,jtO R t l,YJ (by rw[d];rfl),List.dropWhile_cons_of_pos (by rw[d];rfl)]
   unfold lay;simp
  ·have:jcZ R t (false,b) x=(true,b++[t]++[x]):=by unfold jcZ;rw[d];rfl
   rw[this,jrC,YI (by rw[d];simp),List.dropWhile_cons_of_neg (by rw[d];simp)]
   simp
theorem jxm {α:Type}(R:α->α->Bool)(t:α)(a:Bool×List α)(x:α):(jcZ R t a x).2.length<=a.2.length+2:=by
 unfold jcZ;cases !a.1&&R t x<;>simp
theorem jr1 {t:T}(ht:j06 t=true){r:List V}(h:r.length=t.2.1.length):lim (0+r.length)=true:=by
 have:=((j5H t).1 ht).2.2.1;exact jeY (by omega)
theorem jq1 (t:T)(h:msr yT t<=1048576)(ht:j06 t=true)(l:List (List V))(r:List V)(z:∀x∈l,x.length=t.2.1.length)(A:l.length<=60)(n:r.length=t.2.1.length)(k:List (List V)->Res):j4J t l r k=k (jkl t l r):=by
 have p:∀x:List V,(j09 t x).length<=LIM:=λx=>by
  rw[jbM];have:=(j3b h).2.2.1;unfold LIM;omega
 unfold j4J jeJ j0H;have:=Z8h l (λi (a:Bool×List (List V))=>(a.2,a.1,i)) (jcZ (kR t) r) (λi a=>a.2.length<=2 * i) (step:=j5D l (nI l.length) t r) (λb done=>bif !done then bif lim (0+r.length) then bif lim (b.length+1) then k (b++[r]) else none else none else k b)
  (λa=>bif !a.1 then k (a.2++[r]) else k a.2) (false,[]) (by unfold LIM;omega) (by simp) (λi a d p=>by have:=jxm (kR t) r a l[i];omega) (λi a rec d y=>by
  show j35 _ _ _ _ _ _ _ _ _=_
  unfold j35 j85 j0H;dsimp only;have q:=z _ (List.getElem_mem d);rw[ZaP d,cond_true,j00 d,cond_true,Zax _ _ _ d];have g:lim (a.2.length+1)=true:=ZaK (by unfold LIM;omega)
  have f:lim ((a.2++[r]).length+1)=true:=ZaK (by unfold LIM;simp;omega)
  have j:lim (0+(l[i]).length)=true:=jr1 ht q;have w:lim (0+r.length)=true:=jr1 ht n;have m:Z9J ((i:Int)+1)=(i:Int)+1:=j01 (by omega)
  unfold jcZ;cases a.1
  ·simp only[QQ,Q1,Qd];rw[j8x t h ht r n,j8x t h ht _ q,jjO _ _ (p _)];unfold kR;cases klt (j09 t r) (j09 t l[i])
   ·simp only[Q0,Q1,j,g,m]
   ·simp only[Q1,w,g,j,f,m]
  ·simp only[Q4,Q0,QW,j,g,m,Q1]) (λa rec y=>by
  show j35 _ _ _ _ _ _ _ _ _=_
  unfold j35;dsimp only;rw[ZaO,cond_false];cases a.1
  ·simp only[QQ,Q1,jr1 ht n];rw[ZaK (by unfold LIM;omega),Q1]
  ·rfl)
 refine this.trans ?_;have f:=jtO (kR t) r l [];rw[Qk]at f;unfold jkl;rw[<-f];cases (l.foldl (jcZ (kR t) r) (false,[])).1<;>rfl
theorem jp6 {α:Type}(l:List α)(a i:Nat)(f:i<l.length):(l.take (i+1)).eraseIdx a=bif i==a then (l.take i).eraseIdx a else (l.take i).eraseIdx a++[l[i]]:=by
 have g:(l.take i).length=i:=by rw[Qf];omega
 rw[QA f];by_cases h:a<i
 ·rw[List.eraseIdx_append_of_lt_length (by omega),show (i==a)=false from Ye.2 (by omega),Q0]
 ·rw[List.eraseIdx_append_of_length_le (by omega),g]
  by_cases e:i=a
  ·subst e;have b:[l[i]].eraseIdx (i-i)=[]:=by rw[Nat.sub_self];rfl
   have d:(l.take i).eraseIdx i=l.take i:=List.eraseIdx_of_length_le (by omega)
   rw[show (i==i)=true from Xe i,Q1,b,d,Qe]
  ·have b:[l[i]].eraseIdx (a-i)=[l[i]]:=List.eraseIdx_of_length_le (by simp only[Q8,QE];omega)
   have d:(l.take i).eraseIdx a=l.take i:=List.eraseIdx_of_length_le (by omega)
   rw[show (i==a)=false from Ye.2 e,Q0,b,d]
theorem jjQ (l:List (List V))(a:Nat)(j:l.length<=60)(h:∀x∈l,x.length<=1048576)(k:List (List V)->Res):j2p l (a:Int) k=k (l.eraseIdx a):=by
 unfold j2p jfd;have:=Z3t (step:=j8A (a:Int) l (nI l.length)) (λi=>((l.take i).eraseIdx a,(i:Int))) l.length (λd=>k d) (k (l.eraseIdx a)) (λi b rec=> ?_) (λrec=> ?_) Z1b (Z2a (by omega))
 ·refine Y4 ?_ this;rw[XX,List.eraseIdx_nil];rfl
 ·show j2q _ _ _ _ _ _ _=_
  unfold j2q j0H;dsimp only;have g:((l.take i).eraseIdx a).length<=60:=Nat.le_trans (List.eraseIdx_sublist _ _).length_le (by rw[List.length_take];omega)
  rw[ZaP b,Q1,j00 b,Q1,Zax _ _ _ b,j01 (n:=(i:Int)+1) (by omega),jp6 l a i b]
  have f:((i:Int) != (a:Int))= !(i==a):=by
   rw[Ym];simp only[bne_iff_ne,QF,Ye,ne_eq,Int.natCast_inj]
  rw[f];cases (i==a)
  ·rw[QQ,Q1,jeY (h _ (Q7 b)),Q1,ZaK (by unfold LIM;omega),Q1,Q0]
   rfl
  ·rw[Q4,Q0,Q1];rfl
 ·show j2q _ _ _ _ _ _ _=_
  unfold j2q;dsimp only;rw[ZaO,cond_false,List.take_length]
end Go.PI.G
namespace Go.PI.G
open Go Go.PI Go.Proofs
theorem jtA {t:T}(ht:j06 t=true){n:ByteArray}(f:n∈t.2.2):∃(j:Nat) (b:j<t.2.1.length),j03 t.2.1 n=(j:Int):=by
 have g:=(((j4A _ _ _).1 ((j5H t).1 ht).2.2.2.2.2).1 n f).1;rcases j1h t.2.1 n with⟨d,_⟩ | ⟨j,b,d,_⟩
 ·omega
 ·exact⟨j,b,d⟩
theorem jya {t:T}(ht:j06 t=true){c:C}(b:c∈t.2.1):j19 c=true:=((j6b _).1 ((j5H t).1 ht).2.2.2.2.1).1 c b
theorem jmx (t:T)(h:msr yT t<=1048576)(b:List V)(k:Bool->Res):j6G t b k=k (jcL t b):=by
 unfold j6G jcL;obtain⟨m,p,q,r,w⟩:=j3b h;rw[jgk t h];cases ht:j06 t
 ·rfl
 rw[Q4,Q0,Qd];by_cases f:b.length=t.2.2.length;rotate_left
 ·rw[jpg f,Q1,Q2 f,QW]
 rw[jpf f,Q0,Q3 f,Qd];unfold jfF;have:=Z9O t.2.2 (λi=>i) (λi n=> !j4Y (nth zC t.2.1 (j03 t.2.1 n)) (nth zV b (i:Int))) (step:=j6H b t.2.2 (nI t.2.2.length) t) ((λ(_:Unit)=>k true),(λ(_:Unit)=>k false)) (k true) (k false) (by unfold LIM;omega) (λi rec d=>by
  obtain⟨j,g,l⟩:=jtA ht (Q7 d);show j3J _ _ _ _ _ _ _ _=_
  unfold j3J;rw[ZaP d,Q1,j00 d,Q1,j00 (f ▸ d),Q1,Zax _ _ _ d,j8d _ _ (by unfold LIM;omega),l,j00 g,Q1,Zax _ _ _ g,jnz _ (jya ht (Q7 g)),j01 (n:=(i:Int)+1) (by omega)]) (λrec=>by
  show j3J _ _ _ _ _ _ _ _=_
  unfold j3J;rw[ZaO,Q0])
 refine this.trans ?_;cases Z70 (λi n=> !j4Y (nth zC t.2.1 (j03 t.2.1 n)) (nth zV b (i:Int))) 0 t.2.2<;>rfl
theorem jku (t:T)(l:List (List V))(b:List V):decide (j0a t l b>=0)= !decide (j0a t l b<0):=by
 by_cases h:j0a t l b<0
 ·rw[Q3 h,Q2 (by omega)];rfl
 ·rw[Q2 h,Q3 (by omega)];rfl
theorem jv1 (n:Nat)(m:Nat):(nI n==(m:Int))=(n==m):=by
 unfold nI;rw[Ym];simp only[QG];omega
theorem jsE (t:T)(h:msr yT t<=1048576)(l:List (List V))(r:List V)(k:List (List V)->Int->Res):j9a t l r k=k (j7C t l r).1 (j7C t l r).2:=by
 unfold j9a j7C;rw[j97 t h];cases b:j0e t l
 ·rfl
 obtain⟨ht,g,i⟩:=j0s b;rw[Q4,Q0,Q0,jkA t h,ht,Qd];cases d:j0z t.2.1 r
 ·rfl
 rw[Q4,Q0,Q0,j8x t h ht r (j0E d),jdg t h l b,jku];cases !decide (j0a t l (j09 t r)<0);rotate_left
 ·rfl
 rw[Q0,Q0,show (nI l.length==(60:Int))=(l.length==60) from jv1 _ 60]
 cases (l.length==60)
 ·rw[Q0,Q0,jq1 t h ht l r (λx f=>j0E (i x f)) g (j0E d)]
 ·rfl
theorem jjF {t:T}(h:msr yT t<=1048576){l:List (List V)}(b:j0e t l=true):∀x∈l,x.length<=1048576:=λx d=>by
 have f:=j0E ((j0s b).2.2 x d);have g:=(j3b h).2.1;omega
theorem jia {t:T}{l:List (List V)}{b:List V}(h:¬ j0a t l b<0):∃i:Nat,i<l.length/\j0a t l b=(i:Int):=by
 have:=jtP t l b;exact⟨(j0a t l b).toNat,by omega,by omega⟩
theorem jsF (t:T)(h:msr yT t<=1048576)(l:List (List V))(b r:List V)(k:List (List V)->Int->Res):j9b t l b r k=k (j7D t l b r).1 (j7D t l b r).2:=by
 unfold j9b j7D;rw[j97 t h];cases g:j0e t l
 ·rfl
 obtain⟨ht,w,z⟩:=j0s g;rw[Q4,Q0,Q0,jkA t h,ht,Qd];cases j:j0z t.2.1 r
 ·rfl
 rw[Q4,Q0,Q0,jdg t h l g,jmx t h];cases jcL t b
 ·rfl
 rw[Q4,Q0,XY];by_cases d:j0a t l b<0
 ·rw[Q3 d];rfl
 rw[Q2 d,Q0,Q0];obtain⟨i,y,m⟩:=jia d;have f:=jhX g i;obtain⟨_,p,q⟩:=j0s f;rw[m,QS,jjQ l i w (jjF h g),j8x t h ht r (j0E j),jdg t h _ f,jku];cases !decide (j0a t (l.eraseIdx i) (j09 t r)<0)
 ·rw[Q0,Q0,jq1 t h ht _ r (λx n=>j0E (q x n)) p (j0E j)]
 ·rfl
theorem jsD (t:T)(h:msr yT t<=1048576)(l:List (List V))(b:List V)(k:List (List V)->Int->Res):j99 t l b k=k (j7B t l b).1 (j7B t l b).2:=by
 unfold j99 j7B;rw[j97 t h];cases f:j0e t l
 ·rfl
 obtain⟨ht,j,n⟩:=j0s f;rw[Q4,Q0,Q0,jdg t h l f,jmx t h];cases jcL t b
 ·rfl
 rw[Q4,Q0,XY];by_cases d:j0a t l b<0
 ·rw[Q3 d];rfl
 rw[Q2 d,Q0,Q0];obtain⟨i,m,g⟩:=jia d;rw[g,QS,jjQ l i j (jjF h f)]
end Go.PI.G
namespace Go.PI.G
open Go Go.PI
def goL {α A E:Type}(f:A->α->Except E A):List α->A->Except E A
 | [],a=> .ok a
 |x::xs,a=>match f a x with
  |.ok b=>goL f xs b
  |.error e=> .error e
def jyo (x:Int):Bool:=decide (48<=x/\x<=57)
def dgF (n x:Int):Except Unit Int:=bif jyo x then .ok (n * 10+(x-48)) else .error ()
def rdN (l:List Int):Option Int:=bif l.headD 0==45 then (match goL dgF l.tail 0 with | .ok n=>some (-n) | .error _=>none) else match goL dgF l 0 with | .ok n=>some n | .error _=>none
theorem jxs {α:Type}(l:List α)(i:Nat):sub l (i:Int) (nI l.length)=l.drop i:=by
 unfold sub nI;rw[show ((l.length:Int)).toNat=l.length by omega,show ((i:Int)).toNat=i by omega,Xi]
theorem jv8 {α:Type}(l:List α)(i j:Nat):sub l (i:Int) (j:Int)=(l.take j).drop i:=by
 unfold sub;rw[show ((j:Int)).toNat=j by omega,show ((i:Int)).toNat=i by omega]
theorem jbJ {i j n:Nat}(h:i<=j/\j<=n):Z8d (i:Int) (j:Int) n=true:=Q3 (by omega)
end Go.PI.G
namespace Go.PI.G
open Go Go.PI Go.Proofs
theorem jjw {α:Type}(f:α->α)(l:List α)(i:Nat):((l.take i).map f++l.drop i).length=l.length:=by
 rw[Q5,Qy,Qf,Qu];omega
theorem jtg {α:Type}(f:α->α)(z:α)(l:List α)(i:Nat)(b:i<l.length):nth z ((l.take i).map f++l.drop i) (i:Int)=l[i]:=by
 rw[Zax _ _ _ (by rw[jjw];exact b),Xh (by rw[Qy,Qf];omega),YH]
 congr 1;rw[Qy,Qf];omega
theorem jth {α:Type}(f:α->α)(l:List α)(i:Nat)(b:i<l.length):((l.take i).map f++l.drop i).set i (f l[i])=(l.take (i+1)).map f++l.drop (i+1):=by
 rw[List.set_append_right _ _ (by rw[Qy,Qf];omega),Qy,Qf,YE (by omega),Nat.sub_self,QJ b,List.set_cons_zero,QA b,QU,Qb]
 rfl
theorem jy1 {α:Type}(f:α->α)(l:List α)(i:Nat)(b:i<l.length)(h:f l[i]=l[i]):(l.take (i+1)).map f++l.drop (i+1)=(l.take i).map f++l.drop i:=by
 rw[QA b,QU,Qb,QJ b];show (l.take i).map f++([f l[i]]++l.drop (i+1))=_
 rw[h];rfl
noncomputable def jbI (d:D)(c:C):List C:=bif (d.1==4)&&sEq c.1 d.2.2.2.2.1 then [] else [bif (d.1==5)&&sEq c.1 d.2.2.2.2.1 then (d.2.2.2.2.2,c.2) else c]
theorem jwN (d:D)(l:List C):(l.flatMap (jbI d)).length<=l.length:=by
 induction l with
 |nil=>exact Qq _
 |cons c l b=>
  rw[QH,Q5,Q8];have:(jbI d c).length<=1:=by
   unfold jbI;cases (d.1==4)&&sEq c.1 d.2.2.2.2.1<;>simp
  omega
theorem juE (d:D)(t:T)(l:t.2.1.length<=1048576)(k:T->Res):j78 t.2.1 (nI t.2.1.length) d Z1b 0 (t.1,[],t.2.2) k=k (t.1,t.2.1.flatMap (jbI d),t.2.2):=by
 unfold j78;have:=Z9S t.2.1 (λi b=>(i,(t.1,b,t.2.2))) (jbI d) 1048576 [] (step:=j2X t.2.1 (nI t.2.1.length) d) k (λb=>k (t.1,b,t.2.2)) (by unfold LIM;omega) (λi f _=>by
  rw[Qk];exact Qx (jwN _ _) (by rw[Qf];omega)) (by simp) (λi b rec f p m=>by
  show j1A _ _ _ _ _ _ _=_
  unfold j1A j7b j7c;dsimp only;have g:lim (b.length+1)=true:=ZaK (by unfold LIM;omega)
  rw[ZaP f,Q1,j00 f,Q1,Zax _ _ _ f,j01 (n:=(i:Int)+1) (by omega)]
  unfold jbI;cases j:(d.1==4)
  ·rw[Q0,QW,Q0];cases h:(d.1==5)
   ·rw[Q0,g,Q1,QW,Q0]
   ·rw[Q1,Qd];cases sEq t.2.1[i].1 d.2.2.2.2.1
    ·rw[Q0,g,Q1,Q0]
    ·rw[Q1,g,Q1,Q1]
  ·rw[Q1,Qd];cases sEq t.2.1[i].1 d.2.2.2.2.1
   ·rw[Q0,Q0];have h:(d.1==5)=false:=by
     have:d.1=4:=by simpa using j
     rw[this];rfl
    rw[h];simp only[Q0,Q1,g,QW]
   ·rw[Q1,Q1,Qe]) (λb rec=>by
  show j1A _ _ _ _ _ _ _=_
  unfold j1A;dsimp only;rw[ZaO,cond_false])
 refine this.trans ?_;rw[Qk]
theorem juG (d:D)(a:ByteArray)(cs:List C)(ks:List ByteArray)(j:ks.length<=1048576)(k:T->Res):j79 (nI ks.length) d Z1b 0 (a,cs,ks) k=k (a,cs,bif d.1==5 then ks.map (ren d.2.2.2.2.1 d.2.2.2.2.2) else ks):=by
 unfold j79;cases g:(d.1==5)
 ·refine Z3t (λi=>((i:Int),(a,cs,ks))) ks.length k (k (a,cs,ks)) (λi b rec=> ?_) (λrec=> ?_) Z1b (Z2a (by omega))
  ·show j0v _ _ _ _ _ _=_
   unfold j0v;rw[ZaP b,Q1,g,Q0,j01 (n:=(i:Int)+1) (by omega)]
   rfl
  ·show j0v _ _ _ _ _ _=_
   unfold j0v;rw[ZaO,Q0]
 ·have:=Z3t (step:=j5U (nI ks.length) d) (λi=>((i:Int),(a,cs,(ks.take i).map (ren d.2.2.2.2.1 d.2.2.2.2.2)++ks.drop i))) ks.length k (k (a,cs,ks.map (ren d.2.2.2.2.1 d.2.2.2.2.2))) (λi b rec=> ?_) (λrec=> ?_) Z1b (Z2a (by omega))
  ·refine Y4 ?_ this;simp
  ·show j0v _ _ _ _ _ _=_
   unfold j0v;dsimp only;have f:inb (i:Int) ((ks.take i).map (ren d.2.2.2.2.1 d.2.2.2.2.2)++ks.drop i).length=true:=j00 (by rw[jjw];exact b)
   rw[ZaP b,Q1,g,Q1,f,Q1,jtg _ _ _ _ b,j01 (n:=(i:Int)+1) (by omega)]
   cases h:sEq ks[i] d.2.2.2.2.1
   ·rw[Q0,jy1 _ _ _ b (by unfold ren;rw[h];rfl)]
    rfl
   ·rw[Q1,Q1,ZaE];have:ren d.2.2.2.2.1 d.2.2.2.2.2 ks[i]=d.2.2.2.2.2:=by unfold ren;rw[h];rfl
    rw[<-jth _ _ _ b,this];rfl
  ·show j0v _ _ _ _ _ _=_
   unfold j0v;dsimp only;rw[ZaO,cond_false,List.take_length,List.drop_length,List.append_nil]
theorem jti (n:ByteArray)(l:List C):(l.flatMap λc=>bif sEq c.1 n then [] else [c])=l.filter λc=> !sEq c.1 n:=by
 induction l with
 |nil=>rfl
 |cons c l b=>
  rw[QH,b];cases h:sEq c.1 n
  ·rw[Xs (by rw[h];rfl)];rfl
  ·rw[Xr (by rw[h];simp)];rfl
theorem jhY {α β:Type}(f:α->β)(l:List α):l.flatMap (λx=>[f x])=l.map f:=by
 induction l with
 |nil=>rfl
 |cons c l b=>rw[QH,b];rfl
theorem jwM (d:D)(l:List C):(d.1=3->l.flatMap (jbI d)=l)/\(d.1=4->l.flatMap (jbI d)=l.filter λc=> !sEq c.1 d.2.2.2.2.1)/\(d.1=5->l.flatMap (jbI d)=l.map (jaZ d.2.2.2.2.1 d.2.2.2.2.2)):=by
 refine⟨λh=> ?_,λh=> ?_,λh=> ?_⟩
 ·have:jbI d=λc=>[c]:=by funext c;unfold jbI;rw[h];rfl
  rw[this,j0Y]
 ·have:jbI d=λc=>bif sEq c.1 d.2.2.2.2.1 then [] else [c]:=by funext c;unfold jbI;rw[h];rfl
  rw[this,jti]
 ·have:jbI d=λc=>[jaZ d.2.2.2.2.1 d.2.2.2.2.2 c]:=by
   funext c;unfold jbI jaZ ren;rw[h];cases sEq c.1 d.2.2.2.2.1<;>rfl
  rw[this,jhY]
theorem jsz (t:T)(d:D)(g:t.2.1.length<=1048576)(f:t.2.2.length<=1048576)(b:d.1=3->0<d.2.2.1.length)(j:d.1=3\/d.1=4\/d.1=5)(k:T->Res):j4U t d k=k (jcx t d):=by
 obtain⟨m,n,p⟩:=jwM d t.2.1;unfold j4U j7a;simp only[Z9P];rw[jeY f,cond_true,juE _ _ g];dsimp only;rw[juG _ _ _ _ f];dsimp only;rcases j with h | h | h
 ·have b:=b h;have l:inb 0 d.2.2.1.length=true:=j00 (i:=0) b;rw[m h,show (d.1==3)=true by rw[h];rfl,show (d.1==5)=false by rw[h];rfl,Q1,l,Q1,ZaK (by unfold LIM;omega),Q1,Q0]
  unfold jcx jnP;rw[h];rfl
 ·rw[n h,show (d.1==3)=false by rw[h];rfl,show (d.1==5)=false by rw[h];rfl,Q0,Q0]
  unfold jcx jkt;rw[h];rfl
 ·rw[p h,show (d.1==3)=false by rw[h];rfl,show (d.1==5)=true by rw[h];rfl,Q0,Q1]
  unfold jcx ji8;rw[h];rfl
theorem jju {d:D}(b:j1a d=true):(d.1=1\/d.1=2\/d.1=3\/d.1=4\/d.1=5)/\(d.1=3->0<d.2.2.1.length):=by
 obtain⟨_,⟨t,cs,ks,rfl,_⟩ | ⟨t,rfl⟩ | ⟨t,c,rfl,_⟩ | ⟨t,n,rfl,_⟩ | ⟨t,n,m,rfl,_⟩⟩:=j8h b<;>simp
theorem juf (c:List T)(n:ByteArray):decide (j07 c n>=0)= !decide (j07 c n<0):=by
 by_cases h:j07 c n<0
 ·rw[Q3 h,Q2 (by omega)];rfl
 ·rw[Q2 h,Q3 (by omega)];rfl
theorem jqH (n:Nat)(m:Nat):(nI n==(m:Int))=(n==m):=by
 unfold nI;rw[Ym];simp only[QG];omega
theorem jxt {α:Type}(l:List α)(i:Nat):sub l 0 (i:Int)=l.take i:=by
 have:=jv8 l 0 i;simpa using this
theorem jnx (c:List T)(d:D)(j:msr (.slice yT) c<=1048576)(b:dSm d)(k:List T->Int->Res):j2M c d k=k (jiM c d).1 (jiM c d).2:=by
 obtain⟨y,m⟩:=jgQ j;unfold j2M jiM;rw[jkx c j];cases w:j2Z c
 ·rfl
 rw[Q4,Q0,XY,jky d b];cases f:j1a d
 ·rfl
 rw[Q4,Q0,Q0,jdh _ _ (by unfold LIM;omega),jnw c j]
 obtain⟨H,p⟩:=jju f;unfold j0j j1n;cases q:(d.1==1)
 ·rw[Q0,Q0,Q0];rcases j0p c d.2.1 with⟨l,_⟩ | ⟨i,g,l,_⟩
  ·rw[l];rfl
  ·have h:decide (j07 c d.2.1<0)=false:=Q2 (by omega)
   rw[h,Q0,Q0,l,j00 g,Q1,Zax _ _ _ g];obtain⟨I,J,K,L,M⟩:=m _ (Q7 g);rw[ju6 _ _ (by omega) (by omega) p]
   cases G:(j0B c[i] d != 0)
   ·rw[Q0,Q0];cases r:(d.1==2)
    ·rw[Q0,Q0,Q1,jsz _ _ (by omega) (by omega) p (by
      have E:d.1≠1:=by simpa using q
      have F:d.1≠2:=by simpa using r
      omega),Q1,ZaE,QS]
    ·rw[Q1,Q1,QS];unfold j8y;have z:(sub c 0 (i:Int))=c.take i:=jxt c i;have A:(sub c (Z9J ((i:Int)+1)) (nI c.length))=c.drop (i+1):=by
      rw[j01 (n:=(i:Int)+1) (by omega)]
      exact jxs c (i+1)
     have B:Z8d 0 (i:Int) c.length=true:=jbJ (i:=0) ⟨Qg _,by omega⟩
     have C:Z8d (Z9J ((i:Int)+1)) (nI c.length) c.length=true:=by
      rw[j01 (n:=(i:Int)+1) (by omega)]
      exact jbJ (i:=i+1) ⟨by omega,Qq _⟩
     rw[B,Q1,C,Q1,z,A,ZaK (by unfold LIM;simp;omega),Q1,ZaK (by unfold LIM;simp;omega),Q1,XR]
   ·rfl
 ·rw[Q1,Q1,Q1,juf];cases decide (j07 c d.2.1<0)
  ·rfl
  ·rw[Q4,Q0,Q0,show (nI c.length==(6:Int))=(c.length==6) from jqH _ 6]
   cases (c.length==6)
   ·rw[Q0,Q0];unfold j5t;rw[jnC _ b.2.1 b.2.2.1,jvJ _ _ y];rfl
   ·rfl
end Go.PI.G
namespace Go.PI.G
open Go Go.PI Go.Proofs
theorem jen {t:T}(ht:j06 t=true):msr yT t<=400:=by
 obtain⟨a,b,c⟩:=t;obtain⟨d,f,g⟩:=jtH ht;have:msr yT (a,b,c)=a.size+(msr (.slice yC) b+msr (.slice .str) c):=rfl;omega
theorem jqu {t:T}(ht:j06 t=true):j2Z [t]=true/\msr (.slice yT) [t]<=1048576:=by
 refine⟨(j0h _).2 ⟨by simp,by simpa using ht,by simp⟩,?_⟩
 have:=jen ht;rw[jf6];simp;omega
theorem jwP {t:T}(ht:j06 t=true){d:D}(j:j1a d=true)(k:d.2.1=t.1)(f:d.1≠1):(jiM [t] d).2=j0B t d:=by
 have b:j07 [t] d.2.1=(0:Int):=by
  have:=jim (c:=[t]) (by simp) (i:=0) (by simp)
  rw[k];exact this
 have g:j0j [t] d=j0B t d:=by
  unfold j0j;rw[show (d.1==1)=false by simpa using f,Q0,b]
  rfl
 unfold jiM;rw[(jqu ht).1,j,g];show (bif (j0B t d != 0) then (([]:List T),j0B t d) else _).2=_
 cases h:(j0B t d != 0)
 ·have:j0B t d=0:=by simpa using h
  rw[this];rfl
 ·rfl
noncomputable def jml (d:D)(j:Nat)(x:List V):List V:=bif d.1==3 then x++[(nth zC d.2.2.1 0).2.2.2.2] else bif d.1==4 then x.eraseIdx j else x
theorem jwO (t:T)(d:D)(l:List (List V)):jiL t d l=l.map (jml d (j03 t.2.1 d.2.2.2.2.1).toNat):=by
 unfold jiL jml;cases (d.1==3)
 ·cases (d.1==4)
  ·simp
  ·rfl
 ·rfl
theorem ju2 (d:D)(b:Int)(x:List V)(r:x.length<=1048576)(j:d.1=4->0<=b)(k:List V->Res):j9E b x (nI x.length) d Z1b 0 [] k=k (bif d.1==4 then x.eraseIdx b.toNat else x):=by
 unfold j9E;cases h:(d.1==4)
 ·have:=Z9S x (λi g=>(i,g)) (λv=>[v]) 1048576 [] (step:=j4m b x (nI x.length) d) k k (by unfold LIM;omega) (λi f _=>by
   rw[j0Y,Qk,Qf];omega) (by simp) (λi g rec f q p=>by
   show j0J _ _ _ _ _ _ _ _=_
   unfold j0J;dsimp only;rw[ZaP f,cond_true,j00 f,cond_true,show (d.1 != 4)=true by rw[bne,h];rfl,cond_true,Zax _ _ _ f,ZaK (by unfold LIM;omega),cond_true,j01 (n:=(i:Int)+1) (by omega)]) (λg rec=>by
   show j0J _ _ _ _ _ _ _ _=_
   unfold j0J;rw[ZaO,Q0])
  refine this.trans ?_;rw[j0Y,Qk];rfl
 ·have j:=j (by simpa using h)
  obtain⟨a,rfl⟩:∃a:Nat,b=(a:Int):=⟨b.toNat,by omega⟩
  have:=Z3t (step:=j4m (a:Int) x (nI x.length) d) (λi=>((i:Int),(x.take i).eraseIdx a)) x.length k (k (x.eraseIdx a)) (λi f rec=> ?_) (λrec=> ?_) Z1b (Z2a (by omega))
  ·refine Y4 ?_ this;rw[XX,List.eraseIdx_nil];rfl
  ·show j0J _ _ _ _ _ _ _ _=_
   unfold j0J;dsimp only;have m:((x.take i).eraseIdx a).length<=1048576:=Nat.le_trans (List.eraseIdx_sublist _ _).length_le (by rw[List.length_take];omega)
   rw[ZaP f,Q1,j00 f,Q1,show (d.1 != 4)=false by rw[bne,h];rfl,Q0,Zax _ _ _ f,j01 (n:=(i:Int)+1) (by omega),jp6 x a i f]
   have l:((i:Int) != (a:Int))= !(i==a):=by
    rw[Ym];simp only[bne_iff_ne,QF,Ye,ne_eq,Int.natCast_inj]
   rw[l];cases (i==a)
   ·rw[QQ,Q1,ZaK (by unfold LIM;omega),Q1,Q0]
    rfl
   ·rw[Q4,Q0,Q1];rfl
  ·show j0J _ _ _ _ _ _ _ _=_
   unfold j0J;dsimp only;rw[ZaO,cond_false,List.take_length]
theorem jrb (t:T)(h:msr yT t<=1048576)(l:List (List V))(F:j0e t l=true)(d:D)(g:dSm d)(w:j1a d=true)(G:d.2.1=t.1)(E:d.1≠1)(k:List (List V)->Int->Res) :
  j81 t l d k=k (bif j0B t d != 0 then [] else bif d.1==2 then [] else jiL t d l) (j0B t d):=by
 obtain⟨ht,X,P⟩:=j0s F;obtain⟨H,J⟩:=jju w;unfold j81 j6M;rw[j97 t h,F,Q4,Q0,jky d g,w,Q4,Q0];have B:sNe d.2.1 t.1=false:=by unfold sNe;rw[G];simp
 rw[B,Q0,show (d.1==1)=false by simpa using E]
 dsimp only;rw[cond_false,jnx _ _ (jqu ht).2 g,jwP ht w G E];cases K:(j0B t d != 0);rotate_left
 ·rfl
 have f:j0B t d=0:=by simpa using K
 have M:=(j3b h).2.1;rw[Q0,Q0,j8d _ _ (by unfold LIM;omega),f]
 have L:d.1=4->0<=j03 t.2.1 d.2.2.2.2.1:=λr=>by
  by_cases A:j03 t.2.1 d.2.2.2.2.1<0
  ·unfold j0B at f;rw[r]at f;simp only[show ((4:Int)==3)=false from rfl,show ((4:Int)==4)=true from rfl,Q0,Q1,Q3 A]at f
   cases f
  ·omega
 unfold jdp;have:=Z9S l (λi b=>(b,i)) (λx=>bif d.1 != 2 then [jml d (j03 t.2.1 d.2.2.2.2.1).toNat x] else []) 60 [] (step:=j4n (j03 t.2.1 d.2.2.2.2.1) l (nI l.length) d) (λb=>k b 0) (λb=>k b 0) (by unfold LIM;omega) (λi j _=> ?_) (by simp) (λi b rec j R Q=>by
  have U:l[i].length=t.2.1.length:=j0E (P _ (Q7 j));show j2A _ _ _ _ _ _ _ _=_
  unfold j2A j9F;dsimp only;rw[ZaP j,cond_true,j00 j,cond_true,Zax _ _ _ j,ju2 d _ _ (by omega) L,j01 (n:=(i:Int)+1) (by omega)]
  have p:lim (b.length+1)=true:=ZaK (by unfold LIM;omega)
  cases q:(d.1==3)
  ·rw[Q0];cases (d.1 != 2)
   ·rw[Q0,Q0,Qe]
   ·rw[Q1,Q1,p,Q1];unfold jml;rw[q,Q0]
  ·have e:d.1=3:=by simpa using q
   have z:inb 0 d.2.2.1.length=true:=j00 (i:=0) (J e);have r:(d.1==4)=false:=by rw[e];rfl
   have I:(d.1 != 2)=true:=by rw[e];rfl
   rw[Q1,r,Q0,z,Q1,ZaK (by unfold LIM;omega),Q1,I,Q1,Q1,p,Q1]
   unfold jml;rw[q,Q1]) (λb rec=>by
  show j2A _ _ _ _ _ _ _ _=_
  unfold j2A;dsimp only;rw[ZaO,cond_false])
 ·refine this.trans ?_;rw[Qk];congr 1;cases C:(d.1==2)
  ·have:(d.1 != 2)=true:=by rw[bne,C];rfl
   rw[this,Q0,jwO];show l.flatMap (λx=>[jml d _ x])=_
   exact jhY _ _
  ·have:(d.1 != 2)=false:=by rw[bne,C];rfl
   rw[this,Q1];show l.flatMap (λx=>[])=_
   simp
 ·rw[Qk];have:∀m:List (List V),(m.flatMap λx=>bif d.1 != 2 then [jml d (j03 t.2.1 d.2.2.2.2.1).toNat x] else []).length<=m.length:=by
   intro m;induction m with
   |nil=>exact Qq _
   |cons y m W=>
    rw[QH,Q5,Q8];have:(bif d.1 != 2 then [jml d (j03 t.2.1 d.2.2.2.2.1).toNat y] else []).length<=1:=by cases (d.1 != 2)<;>simp
    omega
  exact Qx (this _) (by rw[Qf];omega)
end Go.PI.G
