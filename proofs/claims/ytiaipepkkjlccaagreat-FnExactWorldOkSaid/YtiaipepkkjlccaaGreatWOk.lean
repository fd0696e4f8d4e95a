/-
  Program's code interpreted over typed values; printed texts; plain laws. No conditions.
-/
import Derived.Test.YtiaipepkkjlccaaGreatWOd
import Derived.Test.YtiaipepkkjlccaaGreatWOi
import Derived.Test.YtiaipepkkjlccaaGreatWOe
import Derived.Test.YtiaipepkkjlccaaGreatWOj
import Derived.Test.YtiaipepkkjlccaaGreatWOg
set_option linter.unusedVariables false
set_option linter.unusedSimpArgs false
namespace Go.PI.G
open Go Go.PI Go.Proofs
noncomputable def jf3 (p:List ByteArray)(s:ByteArray):Bool:=p.any λx=>sEq x s
theorem joX {α:Type}(q:α->Bool)(l:List α):decide (Z9E q l>=0)=l.any q:=by
 unfold Z9E;cases h:l.findIdx? q with
 |none=>
  have:=Y8.1 h;have b:l.any q=false:=by
   rw[Yx];intro x g;rw[this x g];simp
  rw[b];rfl
 |some i=>
  have:=Xl.1 h;obtain⟨d,f,_⟩:=this;have b:l.any q=true:=Yn.2 ⟨l[i],Q7 d,f⟩;rw[b];show decide ((i:Int)>=0)=true
  exact Q3 (by omega)
theorem jqO (l:List ByteArray)(s:ByteArray)(h:l.length<=LIM)(k:Bool->Res):j15 l s k=k (jf3 l s):=by
 unfold j15 j0K j4W jf3;have:=Z9R l (λi=>i) (λx=>sEq s x) (step:=j1u l s (nI l.length)) ((λ(_:Unit)=>k (decide ((-1:Int)>=0))),(λ(t:Int)=>k (decide (t>=0)))) (λr=>k (decide (r>=0))) h (λi rec b=>by
  show j0c _ _ _ _ _ _ _=_
  unfold j0c;unfold LIM at h;rw[ZaP b,Q1,j00 b,Q1,Zax _ _ _ b,j01 (n:=(i:Int)+1) (by omega)]) (λrec=>by
  show j0c _ _ _ _ _ _ _=_
  unfold j0c;rw[ZaO,Q0])
 refine this.trans ?_;rw[joX];have:(λx=>sEq s x)=λx=>sEq x s:=by funext x;exact Zaf s x
 rw[this]
end Go.PI.G
namespace Go.PI.G
open Go Go.PI Go.Proofs
theorem jr4 (l:List ByteArray)(s:ByteArray)(h:l.length<=LIM)(k:Bool->Res):j8E l s k=k (jf3 l s):=by
 unfold j8E jg3 jf3;have:=Za1 l (λi=>i) (λx=>sEq x s) (step:=j9i s l (nI l.length)) ((λ(_:Unit)=>k false),(λ(_:Unit)=>k true)) (k false) (k true) h (λi rec b=>by
  show j3T _ _ _ _ _ _ _=_
  unfold j3T;unfold LIM at h;rw[ZaP b,Q1,j00 b,Q1,Zax _ _ _ b,j01 (n:=(i:Int)+1) (by omega)]) (λrec=>by
  show j3T _ _ _ _ _ _ _=_
  unfold j3T;rw[ZaO,Q0])
 refine this.trans ?_;cases l.any λx=>sEq x s<;>rfl
end Go.PI.G
namespace Go.PI.G
open Go Go.PI Go.Proofs
theorem jbI {n:Nat}(h:n<=1048576):lim (0+n)=true:=ZaK (by unfold LIM;omega)
theorem jjj (t:T)(b:t.2.1.length<=1048576)(d:t.2.2.length<=1048576)(k:T->Res):j4i t k=k t:=by
 unfold j4i;simp only[Z9P];rw[jbI b,Q1,jbI d,Q1]
theorem jdf {c:List T}(b:msr (.slice yT) c<=1048576):c.length<=1048576/\∀t∈c,tSm t:=⟨j0d b,λt ht=>j2m (j0y b ht)⟩
theorem j0I {α:Type}:(l:List α)->l.flatMap (λx=>[x])=l
 | []=>rfl
 |x::l=>by rw[QH,j0I l];rfl
theorem jjf (c:List T)(f:msr (.slice yT) c<=1048576)(k:List T->Res):j3S c k=k c:=by
 obtain⟨h,ht⟩:=jdf f;unfold j3S jew;have:=Z9S c (λi b=>(i,b)) (λx=>[x]) 1048576 [] (step:=j8j c (nI c.length)) (λb=>k b) (λb=>k b) (by unfold LIM;omega) (λi d _=>by
  rw[j0I,Qk,Qf];omega) (by simp) (λi b rec d j g=>by
  show j2W _ _ _ _ _ _=_
  unfold j2W;obtain⟨l,m,p,q,r⟩:=ht _ (List.getElem_mem d);dsimp only;rw[ZaP d,cond_true,j00 d,cond_true,Zax _ _ _ d,jjj _ (by omega) (by omega),ZaK (by unfold LIM;omega),cond_true,j01 (n:=(i:Int)+1) (by omega)]) (λb rec=>by
  show j2W _ _ _ _ _ _=_
  unfold j2W;dsimp only;rw[ZaO,cond_false])
 refine this.trans ?_;rw[j0I,Qk]
noncomputable def jad (t:T)(a:Bool×List T)(x:T):Bool×List T:=bif !a.1&&tR t x then (true,a.2++[t]++[x]) else (a.1,a.2++[x])
theorem jn2 (t:T):(l:List T)->(b:List T)->l.foldl (jad t) (true,b)=(true,b++l)
 | [],b=>by simp
 |x::l,b=>by
  rw[QY];show l.foldl (jad t) (true,b++[x])=_
  rw[jn2 t l,Qb];rfl
theorem jpj (t:T):(l:List T)->(b:List T)->(bif !(l.foldl (jad t) (false,b)).1 then (l.foldl (jad t) (false,b)).2++[t] else (l.foldl (jad t) (false,b)).2)=b++lay tR t l
 | [],b=>rfl
 |x::l,b=>by
  rw[QY];unfold lay;cases d:tR t x
  ·have:jad t (false,b) x=(false,b++[x]):=by unfold jad;rw[d];rfl
   rw[this,jpj t l,YJ (by rw[d];rfl),List.dropWhile_cons_of_pos (by rw[d];rfl)]
   unfold lay;simp
  ·have:jad t (false,b) x=(true,b++[t]++[x]):=by unfold jad;rw[d];rfl
   rw[this,jn2,YI (by rw[d];simp),List.dropWhile_cons_of_neg (by rw[d];simp)]
   simp
theorem jsS (t:T)(a:Bool×List T)(x:T):(jad t a x).2.length<=a.2.length+2:=by
 unfold jad;cases !a.1&&tR t x<;>simp
theorem jr8 (c:List T)(t:T)(j:c.length<=1048576)(k:List T->Res):j8F c t k=k (lay tR t c):=by
 unfold j8F jbl;have:=Z8h c (λi (a:Bool×List T)=>(a.1,i,a.2)) (jad t) (λi a=>a.2.length<=2 * i) (step:=j9j c (nI c.length) t) (λdone b=>bif !done then bif lim (b.length+1) then k (b++[t]) else none else k b)
  (λa=>bif !a.1 then k (a.2++[t]) else k a.2) (false,[]) (by unfold LIM;omega) (by simp) (λi a f h=>by have:=jsS t a c[i];omega) (λi a rec f h=>by
  show j3U _ _ _ _ _ _ _ _=_
  unfold j3U jbm;dsimp only;rw[ZaP f,cond_true,j00 f,cond_true,Zax _ _ _ f];have g:lim (a.2.length+1)=true:=ZaK (by unfold LIM;omega)
  have d:lim ((a.2++[t]).length+1)=true:=ZaK (by unfold LIM;simp;omega)
  unfold jad tR;cases a.1
  ·rw[QQ,Q1,Qd];cases sLt t.1 c[i].1
   ·rw[Q0,Q0,g,Q1,j01 (n:=(i:Int)+1) (by omega)]
   ·rw[Q1,Q1,g,Q1,d,Q1,j01 (n:=(i:Int)+1) (by omega)]
  ·rw[Q4,Q0,QW,Q0,g,Q1,j01 (n:=(i:Int)+1) (by omega)]) (λa rec h=>by
  show j3U _ _ _ _ _ _ _ _=_
  unfold j3U;dsimp only;rw[ZaO,cond_false];cases a.1
  ·rw[QQ,Q1,Q1,ZaK (by unfold LIM;omega),Q1]
  ·rfl)
 refine this.trans ?_;have d:=jpj t c [];rw[Qk]at d;rw[<-d];cases (c.foldl (jad t) (false,[])).1<;>rfl
theorem jgj (l:List C)(n:ByteArray):decide (j02 l n>=0)= !decide (j02 l n<0):=by
 by_cases h:j02 l n<0
 ·rw[Q3 h,Q2 (by omega)];rfl
 ·rw[Q2 h,Q3 (by omega)];rfl
theorem jpB (t:T)(d:D)(l:t.2.1.length<=1048576)(m:t.2.2.length<=1048576)(b:d.1=3->0<d.2.2.1.length)(k:Int->Res):j4h t d k=k (j0p t d):=by
 unfold j4h j0p;rw[j5Y _ _ (by unfold LIM;omega)]
 cases f:(d.1==3)
 ·rw[Q0,Q0];cases h:(d.1==4)
  ·rw[Q0,Q0];cases j:(d.1==5)
   ·rfl
   ·rw[Q1,Q1,j5Y _ _ (by unfold LIM;omega),jgj]
    cases !decide (j02 t.2.1 d.2.2.2.2.2<0)
    ·cases decide (j02 t.2.1 d.2.2.2.2.1<0)<;>rfl
    ·rfl
  ·rw[Q1,Q1];cases decide (j02 t.2.1 d.2.2.2.2.1<0)
   ·rw[Q0,Q0,jr4 _ _ (by unfold LIM;omega)]
    show (bif jf3 t.2.2 d.2.2.2.2.1 then k 8 else k 0)=k (bif jf3 t.2.2 d.2.2.2.2.1 then 8 else 0)
    cases jf3 t.2.2 d.2.2.2.2.1<;>rfl
   ·rfl
 ·rw[Q1,Q1];have b:=b (by simpa using f)
  have g:inb 0 d.2.2.1.length=true:=j00 (i:=0) b;rw[g,Q1,j5Y _ _ (by unfold LIM;omega),jgj]
  cases !decide (j02 t.2.1 (nth zC d.2.2.1 0).1<0)
  ·rw[Q0,Q0];have:(nI t.2.1.length==8)=(t.2.1.length==8):=by
    unfold nI;rw[Ym];simp only[QG];omega
   rw[this];cases (t.2.1.length==8)<;>rfl
  ·rfl
end Go.PI.G
namespace Go.PI.G
open Go Go.PI Go.Proofs
noncomputable def jae {α:Type}(R:α->α->Bool)(t:α)(a:Bool×List α)(x:α):Bool×List α:=bif !a.1&&R t x then (true,a.2++[t]++[x]) else (a.1,a.2++[x])
theorem jn3 {α:Type}(R:α->α->Bool)(t:α):(l:List α)->(b:List α)->l.foldl (jae R t) (true,b)=(true,b++l)
 | [],b=>by simp
 |x::l,b=>by
  rw[QY];show l.foldl (jae R t) (true,b++[x])=_
  rw[jn3 R t l,Qb];rfl
theorem jpk {α:Type}(R:α->α->Bool)(t:α):(l:List α)->(b:List α)->(bif !(l.foldl (jae R t) (false,b)).1 then (l.foldl (jae R t) (false,b)).2++[t] else (l.foldl (jae R t) (false,b)).2)=b++lay R t l
 | [],b=>rfl
 |x::l,b=>by
  rw[QY];unfold lay;cases d:R t x
  ·have:jae R t (false,b) x=(false,b++[x]):=by unfold jae;rw[d];rfl
   rw[this,jpk R t l,YJ (by rw[d];rfl),List.dropWhile_cons_of_pos (by rw[d];rfl)]
   unfold lay;simp
  ·have:jae R t (false,b) x=(true,b++[t]++[x]):=by unfold jae;rw[d];rfl
   rw[this,jn3,YI (by rw[d];simp),List.dropWhile_cons_of_neg (by rw[d];simp)]
   simp
theorem jsT {α:Type}(R:α->α->Bool)(t:α)(a:Bool×List α)(x:α):(jae R t a x).2.length<=a.2.length+2:=by
 unfold jae;cases !a.1&&R t x<;>simp
theorem jmr {t:T}(ht:j04 t=true){r:List V}(h:r.length=t.2.1.length):lim (0+r.length)=true:=by
 have:=((j6d t).1 ht).2.2.1;exact jbI (by omega)
theorem jlr (t:T)(h:msr yT t<=1048576)(ht:j04 t=true)(l:List (List V))(r:List V)(z:∀x∈l,x.length=t.2.1.length)(A:l.length<=60)(n:r.length=t.2.1.length)(k:List (List V)->Res):j3b t l r k=k (jgs t l r):=by
 have p:∀x:List V,(j06 t x).length<=LIM:=λx=>by
  rw[j92];have:=(j2m h).2.2.1;unfold LIM;omega
 unfold j3b jbn j0v;have:=Z8h l (λi (a:Bool×List (List V))=>(a.2,a.1,i)) (jae (kR t) r) (λi a=>a.2.length<=2 * i) (step:=j3X l (nI l.length) t r) (λb done=>bif !done then bif lim (0+r.length) then bif lim (b.length+1) then k (b++[r]) else none else none else k b)
  (λa=>bif !a.1 then k (a.2++[r]) else k a.2) (false,[]) (by unfold LIM;omega) (by simp) (λi a d p=>by have:=jsT (kR t) r a l[i];omega) (λi a rec d y=>by
  show j1X _ _ _ _ _ _ _ _ _=_
  unfold j1X j5S j0v;dsimp only;have q:=z _ (List.getElem_mem d);rw[ZaP d,cond_true,j00 d,cond_true,Zax _ _ _ d];have g:lim (a.2.length+1)=true:=ZaK (by unfold LIM;omega)
  have f:lim ((a.2++[r]).length+1)=true:=ZaK (by unfold LIM;simp;omega)
  have j:lim (0+(l[i]).length)=true:=jmr ht q;have w:lim (0+r.length)=true:=jmr ht n;have m:Z9J ((i:Int)+1)=(i:Int)+1:=j01 (by omega)
  unfold jae;cases a.1
  ·simp only[QQ,Q1,Qd];rw[j69 t h ht r n,j69 t h ht _ q,jg0 _ _ (p _)];unfold kR;cases klt (j06 t r) (j06 t l[i])
   ·simp only[Q0,Q1,j,g,m]
   ·simp only[Q1,w,g,j,f,m]
  ·simp only[Q4,Q0,QW,j,g,m,Q1]) (λa rec y=>by
  show j1X _ _ _ _ _ _ _ _ _=_
  unfold j1X;dsimp only;rw[ZaO,cond_false];cases a.1
  ·simp only[QQ,Q1,jmr ht n];rw[ZaK (by unfold LIM;omega),Q1]
  ·rfl)
 refine this.trans ?_;have f:=jpk (kR t) r l [];rw[Qk]at f;unfold jgs;rw[<-f];cases (l.foldl (jae (kR t) r) (false,[])).1<;>rfl
theorem jkw {α:Type}(l:List α)(a i:Nat)(f:i<l.length):(l.take (i+1)).eraseIdx a=bif i==a then (l.take i).eraseIdx a else (l.take i).eraseIdx a++[l[i]]:=by
 have g:(l.take i).length=i:=by rw[Qf];omega
 rw[QA f];by_cases h:a<i
 ·rw[List.eraseIdx_append_of_lt_length (by omega),show (i==a)=false from Ye.2 (by omega),Q0]
 ·rw[List.eraseIdx_append_of_length_le (by omega),g]
  by_cases e:i=a
  ·subst e;have b:[l[i]].eraseIdx (i-i)=[]:=by rw[Nat.sub_self];rfl
   have d:(l.take i).eraseIdx i=l.take i:=List.eraseIdx_of_length_le (by omega)
   rw[show (i==i)=true from Xe i,Q1,b,d,Qe]
  ·have b:[l[i]].eraseIdx (a-i)=[l[i]]:=List.eraseIdx_of_length_le (by simp only[Q8,QE];omega)
   have d:(l.take i).eraseIdx a=l.take i:=List.eraseIdx_of_length_le (by omega)
   rw[show (i==a)=false from Ye.2 e,Q0,b,d]
theorem jg1 (l:List (List V))(a:Nat)(j:l.length<=60)(h:∀x∈l,x.length<=1048576)(k:List (List V)->Res):j1w l (a:Int) k=k (l.eraseIdx a):=by
 unfold j1w jbW;have:=Z3t (step:=j6c (a:Int) l (nI l.length)) (λi=>((l.take i).eraseIdx a,(i:Int))) l.length (λd=>k d) (k (l.eraseIdx a)) (λi b rec=> ?_) (λrec=> ?_) Z1b (Z2a (by omega))
 ·refine Y4 ?_ this;rw[XX,List.eraseIdx_nil];rfl
 ·show j1x _ _ _ _ _ _ _=_
  unfold j1x j0v;dsimp only;have g:((l.take i).eraseIdx a).length<=60:=Nat.le_trans (List.eraseIdx_sublist _ _).length_le (by rw[List.length_take];omega)
  rw[ZaP b,Q1,j00 b,Q1,Zax _ _ _ b,j01 (n:=(i:Int)+1) (by omega),jkw l a i b]
  have f:((i:Int) != (a:Int))= !(i==a):=by
   rw[Ym];simp only[bne_iff_ne,QF,Ye,ne_eq,Int.natCast_inj]
  rw[f];cases (i==a)
  ·rw[QQ,Q1,jbI (h _ (Q7 b)),Q1,ZaK (by unfold LIM;omega),Q1,Q0]
   rfl
  ·rw[Q4,Q0,Q1];rfl
 ·show j1x _ _ _ _ _ _ _=_
  unfold j1x;dsimp only;rw[ZaO,cond_false,List.take_length]
end Go.PI.G
namespace Go.PI.G
open Go Go.PI Go.Proofs
theorem jpa {t:T}(ht:j04 t=true){n:ByteArray}(f:n∈t.2.2):∃(j:Nat) (b:j<t.2.1.length),j02 t.2.1 n=(j:Int):=by
 have g:=(((j4z _ _ _).1 ((j6d t).1 ht).2.2.2.2.2).1 n f).1;rcases j11 t.2.1 n with⟨d,_⟩ | ⟨j,b,d,_⟩
 ·omega
 ·exact⟨j,b,d⟩
theorem jtI {t:T}(ht:j04 t=true){c:C}(b:c∈t.2.1):j0S c=true:=((j5V _).1 ((j6d t).1 ht).2.2.2.2.1).1 c b
theorem jiH (t:T)(h:msr yT t<=1048576)(b:List V)(k:Bool->Res):j4H t b k=k (j9S t b):=by
 unfold j4H j9S;obtain⟨m,p,q,r,w⟩:=j2m h;rw[jcS t h];cases ht:j04 t
 ·rfl
 rw[Q4,Q0,Qd];by_cases f:b.length=t.2.2.length;rotate_left
 ·rw[jkI f,Q1,Q2 f,QW]
 rw[jkH f,Q0,Q3 f,Qd];unfold jci;have:=Z9O t.2.2 (λi=>i) (λi n=> !j3n (nth zC t.2.1 (j02 t.2.1 n)) (nth zV b (i:Int))) (step:=j4I b t.2.2 (nI t.2.2.length) t) ((λ(_:Unit)=>k true),(λ(_:Unit)=>k false)) (k true) (k false) (by unfold LIM;omega) (λi rec d=>by
  obtain⟨j,g,l⟩:=jpa ht (Q7 d);show j2p _ _ _ _ _ _ _ _=_
  unfold j2p;rw[ZaP d,Q1,j00 d,Q1,j00 (f ▸ d),Q1,Zax _ _ _ d,j5Y _ _ (by unfold LIM;omega),l,j00 g,Q1,Zax _ _ _ g,jjh _ (jtI ht (Q7 g)),j01 (n:=(i:Int)+1) (by omega)]) (λrec=>by
  show j2p _ _ _ _ _ _ _ _=_
  unfold j2p;rw[ZaO,Q0])
 refine this.trans ?_;cases Z70 (λi n=> !j3n (nth zC t.2.1 (j02 t.2.1 n)) (nth zV b (i:Int))) 0 t.2.2<;>rfl
theorem jgz (t:T)(l:List (List V))(b:List V):decide (j07 t l b>=0)= !decide (j07 t l b<0):=by
 by_cases h:j07 t l b<0
 ·rw[Q3 h,Q2 (by omega)];rfl
 ·rw[Q2 h,Q3 (by omega)];rfl
theorem jqx (n:Nat)(m:Nat):(nI n==(m:Int))=(n==m):=by
 unfold nI;rw[Ym];simp only[QG];omega
theorem jod (t:T)(h:msr yT t<=1048576)(l:List (List V))(r:List V)(k:List (List V)->Int->Res):j6F t l r k=k (j5t t l r).1 (j5t t l r).2:=by
 unfold j6F j5t;rw[j6D t h];cases b:j08 t l
 ·rfl
 obtain⟨ht,g,i⟩:=j0i b;rw[Q4,Q0,Q0,jgD t h,ht,Qd];cases d:j0m t.2.1 r
 ·rfl
 rw[Q4,Q0,Q0,j69 t h ht r (j0r d),jan t h l b,jgz];cases !decide (j07 t l (j06 t r)<0);rotate_left
 ·rfl
 rw[Q0,Q0,show (nI l.length==(60:Int))=(l.length==60) from jqx _ 60]
 cases (l.length==60)
 ·rw[Q0,Q0,jlr t h ht l r (λx f=>j0r (i x f)) g (j0r d)]
 ·rfl
theorem jfP {t:T}(h:msr yT t<=1048576){l:List (List V)}(b:j08 t l=true):∀x∈l,x.length<=1048576:=λx d=>by
 have f:=j0r ((j0i b).2.2 x d);have g:=(j2m h).2.1;omega
theorem jep {t:T}{l:List (List V)}{b:List V}(h:¬ j07 t l b<0):∃i:Nat,i<l.length/\j07 t l b=(i:Int):=by
 have:=jpl t l b;exact⟨(j07 t l b).toNat,by omega,by omega⟩
theorem joe (t:T)(h:msr yT t<=1048576)(l:List (List V))(b r:List V)(k:List (List V)->Int->Res):j6G t l b r k=k (j5u t l b r).1 (j5u t l b r).2:=by
 unfold j6G j5u;rw[j6D t h];cases g:j08 t l
 ·rfl
 obtain⟨ht,w,z⟩:=j0i g;rw[Q4,Q0,Q0,jgD t h,ht,Qd];cases j:j0m t.2.1 r
 ·rfl
 rw[Q4,Q0,Q0,jan t h l g,jiH t h];cases j9S t b
 ·rfl
 rw[Q4,Q0,XY];by_cases d:j07 t l b<0
 ·rw[Q3 d];rfl
 rw[Q2 d,Q0,Q0];obtain⟨i,y,m⟩:=jep d;have f:=jec g i;obtain⟨_,p,q⟩:=j0i f;rw[m,QS,jg1 l i w (jfP h g),j69 t h ht r (j0r j),jan t h _ f,jgz];cases !decide (j07 t (l.eraseIdx i) (j06 t r)<0)
 ·rw[Q0,Q0,jlr t h ht _ r (λx n=>j0r (q x n)) p (j0r j)]
 ·rfl
theorem joc (t:T)(h:msr yT t<=1048576)(l:List (List V))(b:List V)(k:List (List V)->Int->Res):j6E t l b k=k (j5s t l b).1 (j5s t l b).2:=by
 unfold j6E j5s;rw[j6D t h];cases f:j08 t l
 ·rfl
 obtain⟨ht,j,n⟩:=j0i f;rw[Q4,Q0,Q0,jan t h l f,jiH t h];cases j9S t b
 ·rfl
 rw[Q4,Q0,XY];by_cases d:j07 t l b<0
 ·rw[Q3 d];rfl
 rw[Q2 d,Q0,Q0];obtain⟨i,m,g⟩:=jep d;rw[g,QS,jg1 l i j (jfP h f)]
end Go.PI.G
namespace Go.PI.G
open Go Go.PI
def goL {α A E:Type}(f:A->α->Except E A):List α->A->Except E A
 | [],a=> .ok a
 |x::xs,a=>match f a x with
  |.ok b=>goL f xs b
  |.error e=> .error e
def jtX (x:Int):Bool:=decide (48<=x/\x<=57)
def dgF (n x:Int):Except Unit Int:=bif jtX x then .ok (n * 10+(x-48)) else .error ()
def rdN (l:List Int):Option Int:=bif l.headD 0==45 then (match goL dgF l.tail 0 with | .ok n=>some (-n) | .error _=>none) else match goL dgF l 0 with | .ok n=>some n | .error _=>none
theorem jsZ {α:Type}(l:List α)(i:Nat):sub l (i:Int) (nI l.length)=l.drop i:=by
 unfold sub nI;rw[show ((l.length:Int)).toNat=l.length by omega,show ((i:Int)).toNat=i by omega,Xi]
theorem jqC {α:Type}(l:List α)(i j:Nat):sub l (i:Int) (j:Int)=(l.take j).drop i:=by
 unfold sub;rw[show ((j:Int)).toNat=j by omega,show ((i:Int)).toNat=i by omega]
theorem j8Z {i j n:Nat}(h:i<=j/\j<=n):Z8d (i:Int) (j:Int) n=true:=Q3 (by omega)
end Go.PI.G
namespace Go.PI.G
open Go Go.PI Go.Proofs
theorem jfG {α:Type}(f:α->α)(l:List α)(i:Nat):((l.take i).map f++l.drop i).length=l.length:=by
 rw[Q5,Qy,Qf,Qu];omega
theorem joU {α:Type}(f:α->α)(z:α)(l:List α)(i:Nat)(b:i<l.length):nth z ((l.take i).map f++l.drop i) (i:Int)=l[i]:=by
 rw[Zax _ _ _ (by rw[jfG];exact b),Xh (by rw[Qy,Qf];omega),YH]
 congr 1;rw[Qy,Qf];omega
theorem joV {α:Type}(f:α->α)(l:List α)(i:Nat)(b:i<l.length):((l.take i).map f++l.drop i).set i (f l[i])=(l.take (i+1)).map f++l.drop (i+1):=by
 rw[List.set_append_right _ _ (by rw[Qy,Qf];omega),Qy,Qf,YE (by omega),Nat.sub_self,QJ b,List.set_cons_zero,QA b,QU,Qb]
 rfl
theorem jtB {α:Type}(f:α->α)(l:List α)(i:Nat)(b:i<l.length)(h:f l[i]=l[i]):(l.take (i+1)).map f++l.drop (i+1)=(l.take i).map f++l.drop i:=by
 rw[QA b,QU,Qb,QJ b];show (l.take i).map f++([f l[i]]++l.drop (i+1))=_
 rw[h];rfl
noncomputable def j8Y (d:D)(c:C):List C:=bif (d.1==4)&&sEq c.1 d.2.2.2.2.1 then [] else [bif (d.1==5)&&sEq c.1 d.2.2.2.2.1 then (d.2.2.2.2.2,c.2) else c]
theorem jsp (d:D)(l:List C):(l.flatMap (j8Y d)).length<=l.length:=by
 induction l with
 |nil=>exact Qq _
 |cons c l b=>
  rw[QH,Q5,Q8];have:(j8Y d c).length<=1:=by
   unfold j8Y;cases (d.1==4)&&sEq c.1 d.2.2.2.2.1<;>simp
  omega
theorem jqd (d:D)(t:T)(l:t.2.1.length<=1048576)(k:T->Res):j54 t.2.1 (nI t.2.1.length) d Z1b 0 (t.1,[],t.2.2) k=k (t.1,t.2.1.flatMap (j8Y d),t.2.2):=by
 unfold j54;have:=Z9S t.2.1 (λi b=>(i,(t.1,b,t.2.2))) (j8Y d) 1048576 [] (step:=j1R t.2.1 (nI t.2.1.length) d) k (λb=>k (t.1,b,t.2.2)) (by unfold LIM;omega) (λi f _=>by
  rw[Qk];exact Qx (jsp _ _) (by rw[Qf];omega)) (by simp) (λi b rec f p m=>by
  show j0Z _ _ _ _ _ _ _=_
  unfold j0Z j57 j58;dsimp only;have g:lim (b.length+1)=true:=ZaK (by unfold LIM;omega)
  rw[ZaP f,Q1,j00 f,Q1,Zax _ _ _ f,j01 (n:=(i:Int)+1) (by omega)]
  unfold j8Y;cases j:(d.1==4)
  ·rw[Q0,QW,Q0];cases h:(d.1==5)
   ·rw[Q0,g,Q1,QW,Q0]
   ·rw[Q1,Qd];cases sEq t.2.1[i].1 d.2.2.2.2.1
    ·rw[Q0,g,Q1,Q0]
    ·rw[Q1,g,Q1,Q1]
  ·rw[Q1,Qd];cases sEq t.2.1[i].1 d.2.2.2.2.1
   ·rw[Q0,Q0];have h:(d.1==5)=false:=by
     have:d.1=4:=by simpa using j
     rw[this];rfl
    rw[h];simp only[Q0,Q1,g,QW]
   ·rw[Q1,Q1,Qe]) (λb rec=>by
  show j0Z _ _ _ _ _ _ _=_
  unfold j0Z;dsimp only;rw[ZaO,cond_false])
 refine this.trans ?_;rw[Qk]
theorem jqf (d:D)(a:ByteArray)(cs:List C)(ks:List ByteArray)(j:ks.length<=1048576)(k:T->Res):j55 (nI ks.length) d Z1b 0 (a,cs,ks) k=k (a,cs,bif d.1==5 then ks.map (ren d.2.2.2.2.1 d.2.2.2.2.2) else ks):=by
 unfold j55;cases g:(d.1==5)
 ·refine Z3t (λi=>((i:Int),(a,cs,ks))) ks.length k (k (a,cs,ks)) (λi b rec=> ?_) (λrec=> ?_) Z1b (Z2a (by omega))
  ·show j0j _ _ _ _ _ _=_
   unfold j0j;rw[ZaP b,Q1,g,Q0,j01 (n:=(i:Int)+1) (by omega)]
   rfl
  ·show j0j _ _ _ _ _ _=_
   unfold j0j;rw[ZaO,Q0]
 ·have:=Z3t (step:=j49 (nI ks.length) d) (λi=>((i:Int),(a,cs,(ks.take i).map (ren d.2.2.2.2.1 d.2.2.2.2.2)++ks.drop i))) ks.length k (k (a,cs,ks.map (ren d.2.2.2.2.1 d.2.2.2.2.2))) (λi b rec=> ?_) (λrec=> ?_) Z1b (Z2a (by omega))
  ·refine Y4 ?_ this;simp
  ·show j0j _ _ _ _ _ _=_
   unfold j0j;dsimp only;have f:inb (i:Int) ((ks.take i).map (ren d.2.2.2.2.1 d.2.2.2.2.2)++ks.drop i).length=true:=j00 (by rw[jfG];exact b)
   rw[ZaP b,Q1,g,Q1,f,Q1,joU _ _ _ _ b,j01 (n:=(i:Int)+1) (by omega)]
   cases h:sEq ks[i] d.2.2.2.2.1
   ·rw[Q0,jtB _ _ _ b (by unfold ren;rw[h];rfl)]
    rfl
   ·rw[Q1,Q1,ZaE];have:ren d.2.2.2.2.1 d.2.2.2.2.2 ks[i]=d.2.2.2.2.2:=by unfold ren;rw[h];rfl
    rw[<-joV _ _ _ b,this];rfl
  ·show j0j _ _ _ _ _ _=_
   unfold j0j;dsimp only;rw[ZaO,cond_false,List.take_length,List.drop_length,List.append_nil]
theorem joW (n:ByteArray)(l:List C):(l.flatMap λc=>bif sEq c.1 n then [] else [c])=l.filter λc=> !sEq c.1 n:=by
 induction l with
 |nil=>rfl
 |cons c l b=>
  rw[QH,b];cases h:sEq c.1 n
  ·rw[Xs (by rw[h];rfl)];rfl
  ·rw[Xr (by rw[h];simp)];rfl
theorem jed {α β:Type}(f:α->β)(l:List α):l.flatMap (λx=>[f x])=l.map f:=by
 induction l with
 |nil=>rfl
 |cons c l b=>rw[QH,b];rfl
theorem jso (d:D)(l:List C):(d.1=3->l.flatMap (j8Y d)=l)/\(d.1=4->l.flatMap (j8Y d)=l.filter λc=> !sEq c.1 d.2.2.2.2.1)/\(d.1=5->l.flatMap (j8Y d)=l.map (j8e d.2.2.2.2.1 d.2.2.2.2.2)):=by
 refine⟨λh=> ?_,λh=> ?_,λh=> ?_⟩
 ·have:j8Y d=λc=>[c]:=by funext c;unfold j8Y;rw[h];rfl
  rw[this,j0I]
 ·have:j8Y d=λc=>bif sEq c.1 d.2.2.2.2.1 then [] else [c]:=by funext c;unfold j8Y;rw[h];rfl
  rw[this,joW]
 ·have:j8Y d=λc=>[j8e d.2.2.2.2.1 d.2.2.2.2.2 c]:=by
   funext c;unfold j8Y j8e ren;rw[h];cases sEq c.1 d.2.2.2.2.1<;>rfl
  rw[this,jed]
theorem jo9 (t:T)(d:D)(g:t.2.1.length<=1048576)(f:t.2.2.length<=1048576)(b:d.1=3->0<d.2.2.1.length)(j:d.1=3\/d.1=4\/d.1=5)(k:T->Res):j3j t d k=k (j9H t d):=by
 obtain⟨m,n,p⟩:=jso d t.2.1;unfold j3j j56;simp only[Z9P];rw[jbI f,cond_true,jqd _ _ g];dsimp only;rw[jqf _ _ _ _ f];dsimp only;rcases j with h | h | h
 ·have b:=b h;have l:inb 0 d.2.2.1.length=true:=j00 (i:=0) b;rw[m h,show (d.1==3)=true by rw[h];rfl,show (d.1==5)=false by rw[h];rfl,Q1,l,Q1,ZaK (by unfold LIM;omega),Q1,Q0]
  unfold j9H jjr;rw[h];rfl
 ·rw[n h,show (d.1==3)=false by rw[h];rfl,show (d.1==5)=false by rw[h];rfl,Q0,Q0]
  unfold j9H jgx;rw[h];rfl
 ·rw[p h,show (d.1==3)=false by rw[h];rfl,show (d.1==5)=true by rw[h];rfl,Q0,Q1]
  unfold j9H jeo;rw[h];rfl
theorem jfE {d:D}(b:j0T d=true):(d.1=1\/d.1=2\/d.1=3\/d.1=4\/d.1=5)/\(d.1=3->0<d.2.2.1.length):=by
 obtain⟨_,⟨t,cs,ks,rfl,_⟩ | ⟨t,rfl⟩ | ⟨t,c,rfl,_⟩ | ⟨t,n,rfl,_⟩ | ⟨t,n,m,rfl,_⟩⟩:=j7F b<;>simp
theorem jpI (c:List T)(n:ByteArray):decide (j05 c n>=0)= !decide (j05 c n<0):=by
 by_cases h:j05 c n<0
 ·rw[Q3 h,Q2 (by omega)];rfl
 ·rw[Q2 h,Q3 (by omega)];rfl
theorem jm8 (n:Nat)(m:Nat):(nI n==(m:Int))=(n==m):=by
 unfold nI;rw[Ym];simp only[QG];omega
theorem jt0 {α:Type}(l:List α)(i:Nat):sub l 0 (i:Int)=l.take i:=by
 have:=jqC l 0 i;simpa using this
theorem jjg (c:List T)(d:D)(j:msr (.slice yT) c<=1048576)(b:dSm d)(k:List T->Int->Res):j1J c d k=k (jf1 c d).1 (jf1 c d).2:=by
 obtain⟨y,m⟩:=jdf j;unfold j1J jf1;rw[jln c j];cases w:j1T c
 ·rfl
 rw[Q4,Q0,XY,jgC d b];cases f:j0T d
 ·rfl
 rw[Q4,Q0,Q0,jdE _ _ (by unfold LIM;omega),jjf c j]
 obtain⟨H,p⟩:=jfE f;unfold j0b j0U;cases q:(d.1==1)
 ·rw[Q0,Q0,Q0];rcases j0w c d.2.1 with⟨l,_⟩ | ⟨i,g,l,_⟩
  ·rw[l];rfl
  ·have h:decide (j05 c d.2.1<0)=false:=Q2 (by omega)
   rw[h,Q0,Q0,l,j00 g,Q1,Zax _ _ _ g];obtain⟨I,J,K,L,M⟩:=m _ (Q7 g);rw[jpB _ _ (by omega) (by omega) p]
   cases G:(j0p c[i] d != 0)
   ·rw[Q0,Q0];cases r:(d.1==2)
    ·rw[Q0,Q0,Q1,jo9 _ _ (by omega) (by omega) p (by
      have E:d.1≠1:=by simpa using q
      have F:d.1≠2:=by simpa using r
      omega),Q1,ZaE,QS]
    ·rw[Q1,Q1,QS];unfold j6b;have z:(sub c 0 (i:Int))=c.take i:=jt0 c i;have A:(sub c (Z9J ((i:Int)+1)) (nI c.length))=c.drop (i+1):=by
      rw[j01 (n:=(i:Int)+1) (by omega)]
      exact jsZ c (i+1)
     have B:Z8d 0 (i:Int) c.length=true:=j8Z (i:=0) ⟨Qg _,by omega⟩
     have C:Z8d (Z9J ((i:Int)+1)) (nI c.length) c.length=true:=by
      rw[j01 (n:=(i:Int)+1) (by omega)]
      exact j8Z (i:=i+1) ⟨by omega,Qq _⟩
     rw[B,Q1,C,Q1,z,A,ZaK (by unfold LIM;simp;omega),Q1,ZaK (by unfold LIM;simp;omega),Q1,XR]
   ·rfl
 ·rw[Q1,Q1,Q1,jpI];cases decide (j05 c d.2.1<0)
  ·rfl
  ·rw[Q4,Q0,Q0,show (nI c.length==(6:Int))=(c.length==6) from jm8 _ 6]
   cases (c.length==6)
   ·rw[Q0,Q0];unfold j3O;rw[jjj _ b.2.1 b.2.2.1,jr8 _ _ y];rfl
   ·rfl
end Go.PI.G
namespace Go.PI.G
open Go Go.PI Go.Proofs
theorem jb9 {t:T}(ht:j04 t=true):msr yT t<=400:=by
 obtain⟨a,b,c⟩:=t;obtain⟨d,f,g⟩:=jsM ht;have:msr yT (a,b,c)=a.size+(msr (.slice yC) b+msr (.slice .str) c):=rfl;omega
theorem jlV {t:T}(ht:j04 t=true):j1T [t]=true/\msr (.slice yT) [t]<=1048576:=by
 refine⟨(j0e _).2 ⟨by simp,by simpa using ht,by simp⟩,?_⟩
 have:=jb9 ht;rw[jen];simp;omega
theorem jsr {t:T}(ht:j04 t=true){d:D}(j:j0T d=true)(k:d.2.1=t.1)(f:d.1≠1):(jf1 [t] d).2=j0p t d:=by
 have b:j05 [t] d.2.1=(0:Int):=by
  have:=jez (c:=[t]) (by simp) (i:=0) (by simp)
  rw[k];exact this
 have g:j0b [t] d=j0p t d:=by
  unfold j0b;rw[show (d.1==1)=false by simpa using f,Q0,b]
  rfl
 unfold jf1;rw[(jlV ht).1,j,g];show (bif (j0p t d != 0) then (([]:List T),j0p t d) else _).2=_
 cases h:(j0p t d != 0)
 ·have:j0p t d=0:=by simpa using h
  rw[this];rfl
 ·rfl
noncomputable def jid (d:D)(j:Nat)(x:List V):List V:=bif d.1==3 then x++[(nth zC d.2.2.1 0).2.2.2.2] else bif d.1==4 then x.eraseIdx j else x
theorem jsq (t:T)(d:D)(l:List (List V)):jf0 t d l=l.map (jid d (j02 t.2.1 d.2.2.2.2.1).toNat):=by
 unfold jf0 jid;cases (d.1==3)
 ·cases (d.1==4)
  ·simp
  ·rfl
 ·rfl
theorem jpy (d:D)(b:Int)(x:List V)(r:x.length<=1048576)(j:d.1=4->0<=b)(k:List V->Res):j6Y b x (nI x.length) d Z1b 0 [] k=k (bif d.1==4 then x.eraseIdx b.toNat else x):=by
 unfold j6Y;cases h:(d.1==4)
 ·have:=Z9S x (λi g=>(i,g)) (λv=>[v]) 1048576 [] (step:=j2R b x (nI x.length) d) k k (by unfold LIM;omega) (λi f _=>by
   rw[j0I,Qk,Qf];omega) (by simp) (λi g rec f q p=>by
   show j0A _ _ _ _ _ _ _ _=_
   unfold j0A;dsimp only;rw[ZaP f,cond_true,j00 f,cond_true,show (d.1 != 4)=true by rw[bne,h];rfl,cond_true,Zax _ _ _ f,ZaK (by unfold LIM;omega),cond_true,j01 (n:=(i:Int)+1) (by omega)]) (λg rec=>by
   show j0A _ _ _ _ _ _ _ _=_
   unfold j0A;rw[ZaO,Q0])
  refine this.trans ?_;rw[j0I,Qk];rfl
 ·have j:=j (by simpa using h)
  obtain⟨a,rfl⟩:∃a:Nat,b=(a:Int):=⟨b.toNat,by omega⟩
  have:=Z3t (step:=j2R (a:Int) x (nI x.length) d) (λi=>((i:Int),(x.take i).eraseIdx a)) x.length k (k (x.eraseIdx a)) (λi f rec=> ?_) (λrec=> ?_) Z1b (Z2a (by omega))
  ·refine Y4 ?_ this;rw[XX,List.eraseIdx_nil];rfl
  ·show j0A _ _ _ _ _ _ _ _=_
   unfold j0A;dsimp only;have m:((x.take i).eraseIdx a).length<=1048576:=Nat.le_trans (List.eraseIdx_sublist _ _).length_le (by rw[List.length_take];omega)
   rw[ZaP f,Q1,j00 f,Q1,show (d.1 != 4)=false by rw[bne,h];rfl,Q0,Zax _ _ _ f,j01 (n:=(i:Int)+1) (by omega),jkw x a i f]
   have l:((i:Int) != (a:Int))= !(i==a):=by
    rw[Ym];simp only[bne_iff_ne,QF,Ye,ne_eq,Int.natCast_inj]
   rw[l];cases (i==a)
   ·rw[QQ,Q1,ZaK (by unfold LIM;omega),Q1,Q0]
    rfl
   ·rw[Q4,Q0,Q1];rfl
  ·show j0A _ _ _ _ _ _ _ _=_
   unfold j0A;dsimp only;rw[ZaO,cond_false,List.take_length]
theorem jmI (t:T)(h:msr yT t<=1048576)(l:List (List V))(F:j08 t l=true)(d:D)(g:dSm d)(w:j0T d=true)(G:d.2.1=t.1)(E:d.1≠1)(k:List (List V)->Int->Res) :
  j5M t l d k=k (bif j0p t d != 0 then [] else bif d.1==2 then [] else jf0 t d l) (j0p t d):=by
 obtain⟨ht,X,P⟩:=j0i F;obtain⟨H,J⟩:=jfE w;unfold j5M j4M;rw[j6D t h,F,Q4,Q0,jgC d g,w,Q4,Q0];have B:sNe d.2.1 t.1=false:=by unfold sNe;rw[G];simp
 rw[B,Q0,show (d.1==1)=false by simpa using E]
 dsimp only;rw[cond_false,jjg _ _ (jlV ht).2 g,jsr ht w G E];cases K:(j0p t d != 0);rotate_left
 ·rfl
 have f:j0p t d=0:=by simpa using K
 have M:=(j2m h).2.1;rw[Q0,Q0,j5Y _ _ (by unfold LIM;omega),f]
 have L:d.1=4->0<=j02 t.2.1 d.2.2.2.2.1:=λr=>by
  by_cases A:j02 t.2.1 d.2.2.2.2.1<0
  ·unfold j0p at f;rw[r]at f;simp only[show ((4:Int)==3)=false from rfl,show ((4:Int)==4)=true from rfl,Q0,Q1,Q3 A]at f
   cases f
  ·omega
 unfold jau;have:=Z9S l (λi b=>(b,i)) (λx=>bif d.1 != 2 then [jid d (j02 t.2.1 d.2.2.2.2.1).toNat x] else []) 60 [] (step:=j2S (j02 t.2.1 d.2.2.2.2.1) l (nI l.length) d) (λb=>k b 0) (λb=>k b 0) (by unfold LIM;omega) (λi j _=> ?_) (by simp) (λi b rec j R Q=>by
  have U:l[i].length=t.2.1.length:=j0r (P _ (Q7 j));show j1D _ _ _ _ _ _ _ _=_
  unfold j1D j6Z;dsimp only;rw[ZaP j,cond_true,j00 j,cond_true,Zax _ _ _ j,jpy d _ _ (by omega) L,j01 (n:=(i:Int)+1) (by omega)]
  have p:lim (b.length+1)=true:=ZaK (by unfold LIM;omega)
  cases q:(d.1==3)
  ·rw[Q0];cases (d.1 != 2)
   ·rw[Q0,Q0,Qe]
   ·rw[Q1,Q1,p,Q1];unfold jid;rw[q,Q0]
  ·have e:d.1=3:=by simpa using q
   have z:inb 0 d.2.2.1.length=true:=j00 (i:=0) (J e);have r:(d.1==4)=false:=by rw[e];rfl
   have I:(d.1 != 2)=true:=by rw[e];rfl
   rw[Q1,r,Q0,z,Q1,ZaK (by unfold LIM;omega),Q1,I,Q1,Q1,p,Q1]
   unfold jid;rw[q,Q1]) (λb rec=>by
  show j1D _ _ _ _ _ _ _ _=_
  unfold j1D;dsimp only;rw[ZaO,cond_false])
 ·refine this.trans ?_;rw[Qk];congr 1;cases C:(d.1==2)
  ·have:(d.1 != 2)=true:=by rw[bne,C];rfl
   rw[this,Q0,jsq];show l.flatMap (λx=>[jid d _ x])=_
   exact jed _ _
  ·have:(d.1 != 2)=false:=by rw[bne,C];rfl
   rw[this,Q1];show l.flatMap (λx=>[])=_
   simp
 ·rw[Qk];have:∀m:List (List V),(m.flatMap λx=>bif d.1 != 2 then [jid d (j02 t.2.1 d.2.2.2.2.1).toNat x] else []).length<=m.length:=by
   intro m;induction m with
   |nil=>exact Qq _
   |cons y m W=>
    rw[QH,Q5,Q8];have:(bif d.1 != 2 then [jid d (j02 t.2.1 d.2.2.2.2.1).toNat y] else []).length<=1:=by cases (d.1 != 2)<;>simp
    omega
  exact Qx (this _) (by rw[Qf];omega)
end Go.PI.G
namespace Go.PI.G
open Go Go.PI Go.Proofs
theorem jq7 (t:T)(b:t.2.1.length<=1048576)(d:t.2.2.length<=1048576)(k:T->Res):j3d t k=k t:=by
 unfold j3d j3e;rw[jbI b,Q1,jbI d,Q1]
theorem jj7 (c:List T)(f:msr (.slice yT) c<=1048576)(k:List T->Res):j3t c k=k c:=by
 obtain⟨h,ht⟩:=jdf f;unfold j3t jeh;have:=Z9S c (λi b=>(i,b)) (λx=>[x]) 1048576 [] (step:=j89 c (nI c.length)) (λb=>k b) (λb=>k b) (by unfold LIM;omega) (λi d _=>by
  rw[j0I,Qk,Qf];omega) (by simp) (λi b rec d j g=>by
  show j2G _ _ _ _ _ _=_
  unfold j2G;obtain⟨l,m,p,q,r⟩:=ht _ (List.getElem_mem d);dsimp only;rw[ZaP d,cond_true,j00 d,cond_true,Zax _ _ _ d,jq7 _ (by omega) (by omega),ZaK (by unfold LIM;omega),cond_true,j01 (n:=(i:Int)+1) (by omega)]) (λb rec=>by
  show j2G _ _ _ _ _ _=_
  unfold j2G;dsimp only;rw[ZaO,cond_false])
 refine this.trans ?_;rw[j0I,Qk]
theorem jj8 (c:List T)(d:D)(y:msr (.slice yT) c<=1048576)(f:j0T d=true)(k:Int->Res):j28 c d k=k (j0b c d):=by
 obtain⟨A,p⟩:=jdf y;obtain⟨z,w⟩:=jfE f;unfold j28 j0b;rw[j79 _ _ (by unfold LIM;omega)]
 cases q:(d.1==1)
 ·rw[Q0,Q0];rcases j0w c d.2.1 with⟨m,_⟩ | ⟨i,g,m,_⟩
  ·rw[m];rfl
  ·have l:decide (j05 c d.2.1<0)=false:=Q2 (by omega)
   rw[l,Q0,Q0,m,j00 g,Q1,Zax _ _ _ g];obtain⟨B,C,E,F,G⟩:=p _ (Q7 g);generalize c[i]=t at *;have b:∀n (K:Int->Res),j0g t n K=K (j02 t.2.1 n):=λn K=>j77 _ _ (by unfold LIM;omega) K
   unfold j4v j6Q j4w j0p;have r:d.1≠1:=by simpa using q
   rcases z with h | h | h | h | h
   ·exact absurd h r
   ·rw[h];rfl
   ·have j:inb 0 d.2.2.1.length=true:=j00 (i:=0) (w h);rw[h];show (bif inb 0 d.2.2.1.length then _ else none)=_
    rw[j,Q1,b,jgj];show _=k (bif !decide (j02 t.2.1 (nth zC d.2.2.1 0).1<0) then 5 else bif t.2.1.length==8 then 6 else 0)
    cases !decide (j02 t.2.1 (nth zC d.2.2.1 0).1<0)
    ·show (bif (nI t.2.1.length==(8:Int)) then k 6 else _)=_
     rw[show (nI t.2.1.length==(8:Int))=(t.2.1.length==8) from jm8 _ 8]
     cases (t.2.1.length==8)<;>rfl
    ·rfl
   ·rw[h];simp only[show ((4:Int)==3)=false from rfl,show ((4:Int)==4)=true from rfl,show ((4:Int)==5)=false from rfl,Q0,Q1,b]
    cases decide (j02 t.2.1 d.2.2.2.2.1<0)
    ·rw[Q0,Q0,jqO _ _ (by unfold LIM;omega)]
     show (bif jf3 t.2.2 d.2.2.2.2.1 then k 8 else k 0)=k (bif jf3 t.2.2 d.2.2.2.2.1 then 8 else 0)
     cases jf3 t.2.2 d.2.2.2.2.1<;>rfl
    ·rfl
   ·rw[h];simp only[show ((5:Int)==3)=false from rfl,show ((5:Int)==4)=false from rfl,show ((5:Int)==5)=true from rfl,Q0,Q1,b,jgj]
    cases !decide (j02 t.2.1 d.2.2.2.2.2<0)
    ·simp only[Q0];cases decide (j02 t.2.1 d.2.2.2.2.1<0)<;>rfl
    ·rfl
 ·rw[Q1,Q1,jpI];cases decide (j05 c d.2.1<0)
  ·rfl
  ·rw[Q4,Q0,Q0,show (nI c.length==(6:Int))=(c.length==6) from jm8 _ 6]
   cases (c.length==6)<;>rfl
theorem jpN {α:Type}(p:α->Bool):(l:List α)->(i:Nat)->i<(l.takeWhile p).length->∃h:i<l.length,p l[i]=true
 | [],i,h=>by simp at h
 |x::l,i,h=>by
  cases b:p x
  ·rw[YI (by rw[b];simp)]at h;simp at h
  ·rw[YJ b,Q8]at h;cases i with
   |zero=>exact⟨by simp,b⟩
   |succ i=>
    obtain⟨f,d⟩:=jpN p l i (by omega)
    exact⟨by rw[Q8];omega,d⟩
theorem jpM {α:Type}(p:α->Bool):(l:List α)->(h:(l.takeWhile p).length<l.length)->p l[(l.takeWhile p).length]=false
 | [],h=>by simp at h
 |x::l,h=>by
  cases b:p x
  ·have e:(x::l).takeWhile p=[]:=YI (by rw[b];simp)
   simp only[e,QE,Yp];exact b
  ·have e:(x::l).takeWhile p=x::l.takeWhile p:=YJ b;simp only[e,Q8,Yo]at h ⊢;exact jpM p l (by omega)
theorem jp1 (d:D)(c:List T)(l:c.length<=1048576)(k:Int->Res):j91 d c Z1b 0 k=k (((c.takeWhile λy=>sLt y.1 d.2.1).length:Nat):Int):=by
 have j:(c.takeWhile λy=>sLt y.1 d.2.1).length<=c.length:=(List.takeWhile_sublist _).length_le
 refine Z3t (step:=j4q d c) (λi=>(i:Int)) (c.takeWhile λy=>sLt y.1 d.2.1).length k _ (λi g rec=> ?_) (λrec=> ?_) Z1b (Z2a (by omega))
 ·obtain⟨b,f⟩:=jpN _ c i g;show j25 _ _ _ _ _=_
  unfold j25;rw[ZaP b,Q1,j00 b,Q1,Zax _ _ _ b,f,Q1,j01 (n:=(i:Int)+1) (by omega)]
  rfl
 ·show j25 _ _ _ _ _=_
  unfold j25;by_cases h:(c.takeWhile λy=>sLt y.1 d.2.1).length<c.length
  ·rw[ZaP h,Q1,j00 h,Q1,Zax _ _ _ h,jpM (λy:T=>sLt y.1 d.2.1) c h,Q0]
  ·rw[Q2 (show ¬ (((c.takeWhile λy=>sLt y.1 d.2.1).length:Nat):Int)<nI c.length by unfold nI;omega),Q0]
end Go.PI.G
namespace Go.PI.G
open Go Go.PI Go.Proofs
theorem jtC (l:List ByteArray)(v:ByteArray)(h:l.length<=LIM)(k:Int->Res):j0K l v k=k (Z9E (λx=>sEq v x) l):=by
 unfold j0K j4W;refine Z9R l (λi=>i) (λx=>sEq v x) (step:=j1u l v (nI l.length)) ((λ(_:Unit)=>k (-1)),(λ(t:Int)=>k t)) k h (λi rec b=> ?_) (λrec=> ?_)
 ·show j0c _ _ _ _ _ _ _=_
  unfold j0c;unfold LIM at h;rw[ZaP b,Q1,j00 b,Q1,Zax _ _ _ b,j01 (n:=(i:Int)+1) (by omega)]
 ·show j0c _ _ _ _ _ _ _=_
  unfold j0c;rw[ZaO,Q0]
end Go.PI.G
namespace Go.PI.G
open Go Go.PI Go.Proofs
theorem joP {α:Type}{g:α->(Bool->Res)->Res}(q:α->Bool):(l:List α)->(∀x∈l,∀k,g x k=k (q x))->(d:List α)->(k:List α->Res)->dgE g l d k=k (d++l.filter λx=> !q x)
 | [],_,d,k=>by rw[List.filter_nil,Qe];rfl
 |x::l,h,d,k=>by
  show g x (λb=>dgE g l (bif b then d else d++[x]) k)=_
  rw[h x (by simp),joP q l λy i=>h y (Qa _ i)]
  cases f:q x
  ·rw[Xs (by rw[f];rfl),Q0,Qb];rfl
  ·rw[Xr (by rw[f];simp),Q1]
theorem jqB {α:Type}(p:α->Bool)(g:α->α)(l:List α)(i:Nat)(n:i<l.length)(d:p l[i]=true)(f:∀j (b:j<l.length),j≠i->p l[j]=false):l.map (λx=>bif p x then g x else x)=l.set i (g l[i]):=by
 apply Y0
 ·simp
 ·intro j k m;have b:j<l.length:=by simpa using k
  rw[Xn,List.getElem_set];by_cases e:i=j
  ·subst e;rw[QM rfl,d,Q1]
  ·rw[QN e,f j b λh=>e h.symm,Q0]
theorem map_none {α:Type}(p:α->Bool)(g:α->α)(l:List α)(h:∀x∈l,p x=false):l.map (λx=>bif p x then g x else x)=l:=by
 induction l with
 |nil=>rfl
 |cons x l d=>rw[Qz,h x (by simp),Q0,d λy b=>h y (Qa _ b)]
theorem jmp {α:Type}{R:α->α->Prop}{l:List α}(h:l.Pairwise R){i j:Nat}(d:i<l.length)(f:j<l.length)(e:i≠j):R l[i] l[j]\/R l[j] l[i]:=by
 rcases Nat.lt_or_gt_of_ne e with b | b
 ·exact .inl (XE.1 h i j d f b)
 ·exact .inr (XE.1 h j i f d b)
theorem jcO (n:Nat):(Z9n n n&&true)=true:=by
 rw[Xm];exact Nat.beq_refl n
theorem jsW {l:List C}(k:j4m l=true)(n m:ByteArray){i:Nat}(f:i<l.length)(h:l[i].1=n):l.map (j8e n m)=l.set i (m,l[i].2):=by
 have p:=((j5V l).1 k).2;have:j8e n m=λc:C=>bif sEq c.1 n then (m,c.2) else c:=by
  funext c;unfold j8e ren;cases sEq c.1 n<;>rfl
 rw[this];refine jqB (λc:C=>sEq c.1 n) (λc=>(m,c.2)) l i f ((j09 _ _).2 h) λj g e=> ?_
 have:l[j].1≠n:=λd=>by
  rcases jmp p f g e.symm with b | b
  ·exact b (h.trans d.symm)
  ·exact b (d.trans h.symm)
 cases q:sEq l[j].1 n
 ·rfl
 ·exact absurd ((j09 _ _).1 q) this
theorem jsX {cs:List C}{ks:List ByteArray}(q:j13 cs (-1) ks=true)(n m:ByteArray):ks.map (ren n m)=bif decide (Z9E (λx=>sEq n x) ks>=0) then ks.set (Z9E (λx=>sEq n x) ks).toNat m else ks:=by
 have w:=((j4z cs ks (-1)).1 q).2;have:ren n m=λs=>bif sEq s n then m else s:=by funext s;rfl
 rw[this];have d:∀a b:ByteArray,sEq a b=sEq b a:=λa b=>by
  rw[Ym,j09,j09];exact⟨Eq.symm,Eq.symm⟩
 rcases j9I (λx=>sEq n x) ks with⟨g,f⟩ | ⟨i,k,g,f,_⟩
 ·rw[g];exact map_none (λs=>sEq s n) (λ_=>m) ks λx z=>by rw[d];exact f x z
 ·rw[g,Q3 (by omega),Q1,QS]
  refine jqB (λs=>sEq s n) (λ_=>m) ks i k (by rw[d];exact f) λj p e=> ?_
  have r:n=ks[i]:=(j09 _ _).1 f;cases y:sEq ks[j] n
  ·rfl
  ·have l:ks[j]=ks[i]:=((j09 _ _).1 y).trans r;rcases jmp w k p e.symm with h | h<;>rw[l]at h<;>exact absurd h (Int.lt_irrefl _)
theorem jtK {α:Type}(z:α)(l:List α)(i:Nat)(b:i<l.length)(x:α):nth z (upd l (i:Int) x) (i:Int)=x:=by
 rw[ZaE,Zax _ _ _ (by simpa using b),List.getElem_set_self]
theorem jqN (c:List T)(d:D)(i:Nat)(b:i<c.length)(Q:c.length<=1048576)(ht:j04 c[i]=true)(K:tSm c[i])(l:j0p c[i] d=0)(I:d.1=2\/d.1=3\/d.1=4\/d.1=5)(w:d.1=3->0<d.2.2.1.length)(k:List T->Res) :
  j1c (i:Int) d.1 d c k=k (bif d.1==2 then c.eraseIdx i else c.set i (j9H c[i] d)):=by
 obtain⟨V,W,X,Y,Z⟩:=K;obtain⟨_,t1,t2,t3,L,M⟩:=(j6d _).1 ht;unfold j1c;have f:inb (i:Int) c.length=true:=j00 b;rcases I with h | h | h | h
 ·rw[h];simp only[show ((2:Int)==1)=false from rfl,show ((2:Int)==2)=true from rfl,Q0,Q1]
  unfold j47 jaX;rw[j01 (n:=(i:Int)+1) (by omega),show Z8d (i:Int) ((i:Int)+1) c.length=true from j8Z (j:=i+1) ⟨by omega,by omega⟩,Q1,XR]
  rfl
 ·have w:=w h;have m:∀x:T,inb (i:Int) (c.set i x).length=true:=λx=>j00 (by simpa using b)
  have p:inb 0 d.2.2.1.length=true:=j00 (i:=0) w;rw[h];simp only[show ((3:Int)==1)=false from rfl,show ((3:Int)==2)=false from rfl,show ((3:Int)==3)=true from rfl,Q0,Q1]
  rw[f,Q1,p,Q1,Zax _ _ _ b,ZaK (by unfold LIM;omega),Q1,ZaE,m,Q1,jcO,Q1]
  unfold j9H jjr;rw[h];rfl
 ·rw[h];simp only[show ((4:Int)==1)=false from rfl,show ((4:Int)==2)=false from rfl,show ((4:Int)==3)=false from rfl,show ((4:Int)==4)=true from rfl,Q0,Q1]
  rw[f,Q1,Zax _ _ _ b];unfold j2o;rw[ZaK (by unfold LIM;omega),Q1,joP (g:=λ(e:C) k=>jb0 e d k) (λx:C=>sEq x.1 d.2.2.2.2.1) c[i].2.1 (λx R U=>rfl),Qk]
  simp only[jcO,Q1,ZaE];unfold j9H jgx;rw[h];rfl
 ·have P:¬ j02 c[i].2.1 d.2.2.2.2.1<0:=λA=>by
   unfold j0p at l;rw[h]at l;simp only[show ((5:Int)==3)=false from rfl,show ((5:Int)==4)=false from rfl,show ((5:Int)==5)=true from rfl,Q0,Q1,Q3 A]at l
   cases H: !decide (j02 c[i].2.1 d.2.2.2.2.2<0)<;>rw[H]at l<;>cases l
  rcases j11 c[i].2.1 d.2.2.2.2.1 with⟨B,_⟩ | ⟨j,y,B,z,_⟩
  ·omega
  rw[h];simp only[show ((5:Int)==1)=false from rfl,show ((5:Int)==2)=false from rfl,show ((5:Int)==3)=false from rfl,show ((5:Int)==4)=false from rfl,show ((5:Int)==5)=true from rfl,Q0,Q1]
  rw[f,Q1,j77 _ _ (by rw[Zax _ _ _ b];unfold LIM;omega)]
  simp only[Zax _ _ _ b,jtK _ _ _ b];rw[B];simp only[Zax _ _ _ y];rw[j00 y,Q1,jtC _ _ (by unfold LIM;omega)]
  have E:=jsW L d.2.2.2.2.1 d.2.2.2.2.2 y z;have F:=jsX M d.2.2.2.2.1 d.2.2.2.2.2;have G:j9H c[i] d=(c[i].1,c[i].2.1.map (j8e d.2.2.2.2.1 d.2.2.2.2.2),c[i].2.2.map (ren d.2.2.2.2.1 d.2.2.2.2.2)):=by
   unfold j9H jeo;rw[h];rfl
  rw[G,E,F];rcases j9I (λx=>sEq d.2.2.2.2.1 x) c[i].2.2 with⟨r,_⟩ | ⟨q,J,r,_,_⟩
  ·rw[r,ZaE,ZaE];rfl
  ·rw[r,Q3 (by omega),Q1,Q1,j00 J,Q1]
   simp only[ZaE,QS];rw[List.set_set]
theorem jq2 (c:List T)(d:D)(z:msr (.slice yT) c<=1048576)(n:dSm d)(k:List T->Int->Res):j4g c d k=k (jf1 c d).1 (jf1 c d).2:=by
 obtain⟨G,C⟩:=jdf z;unfold j4g jf1;rw[jky c z];cases A:j1T c
 ·rfl
 rw[Q4,Q0,XY,jgm d n];cases m:j0T d
 ·rfl
 rw[Q4,Q0,Q0,jj8 _ _ z m,jj7 c z,j79 _ _ (by unfold LIM;omega)]
 obtain⟨L,H⟩:=jfE m;cases f:(j0b c d != 0);rotate_left
 ·rfl
 rw[Q0,Q0];have f:j0b c d=0:=by simpa using f
 have B:=(j0e c).1 A;by_cases F:d.1=1
 ·unfold j0b at f;unfold j0U;rw[F]at f ⊢;simp only[show ((1:Int)==1)=true from rfl,Q1]at f ⊢
  rcases j0w c d.2.1 with⟨w,r⟩ | ⟨i,j,w,_⟩
  ·unfold j1c;simp only[show ((1:Int)==1)=true from rfl,Q1]
   rw[jp1 _ _ G,jja _ n];unfold j48 jf6;obtain⟨p,M,g,q⟩:=jqw (R:=tR) (λa b h=>jrY h) (x:=((d.2.1,d.2.2.1,d.2.2.2.1):T)) (l:=c) (λy K=>jif λe=>r y K e.symm)
   have g:p=(c.takeWhile λy=>sLt y.1 d.2.1).length:=g
   rw[<-g];have I:jjw (p:Int) c.length [((d.2.1,d.2.2.1,d.2.2.2.1):T)].length=true:=Q3 ⟨by omega,by omega,by simp,by simp;unfold LIM;omega⟩
   rw[I,Q1,q,QS,Qb];rfl
  ·rw[Q2 (by omega)]at f
   cases f
 ·have J:d.1=2\/d.1=3\/d.1=4\/d.1=5:=by omega
  unfold j0b at f;unfold j0U;have E:(d.1==1)=false:=by simpa using F
  rw[E,Q0]at f;rw[E,Q0];rcases j0w c d.2.1 with⟨w,r⟩ | ⟨i,j,w,_⟩
  ·rw[Q3 (by omega)]at f
   cases f
  ·rw[Q2 (by omega),Q0,w,Zax _ _ _ j]at f
   rw[w,Zax _ _ _ j,QS,jqN c d i j G (B.2.1 _ (Q7 j)) (C _ (Q7 j)) f J H]
end Go.PI.G
namespace Go.PI.G
open Go Go.PI Go.Proofs
theorem j78 (l:List (List V))(h:l.length<=1048576)(f:∀x∈l,x.length<=1048576)(k:List (List V)->Res):j0o l k=k l:=by
 unfold j0o jdj;have:=Z9S l (λi b=>(b,i)) (λx=>[x]) 1048576 [] (step:=j7b l (nI l.length)) (λb=>k b) (λb=>k b) (by unfold LIM;omega) (λi d _=>by
  rw[j0I,Qk,Qf];omega) (by simp) (λi b rec d j g=>by
  show j27 _ _ _ _ _ _=_
  unfold j27 j0Q;dsimp only;rw[ZaP d,cond_true,j00 d,cond_true,Zax _ _ _ d,jbI (f _ (List.getElem_mem d)),cond_true,ZaK (by unfold LIM;omega),cond_true,j01 (n:=(i:Int)+1) (by omega)]) (λb rec=>by
  show j27 _ _ _ _ _ _=_
  unfold j27;dsimp only;rw[ZaO,cond_false])
 refine this.trans ?_;rw[j0I,Qk]
theorem jkC (t:T)(h:msr yT t<=1048576)(ht:j04 t=true)(l:List (List V))(r:List V)(g:∀x∈l,x.length=t.2.1.length)(p:l.length<=60)(j:r.length=t.2.1.length)(k:Int->Res) :
  jb4 l t r Z1b 0 k=k (((l.takeWhile λy=>kR t y r).length:Nat):Int):=by
 have f:∀x:List V,(j06 t x).length<=LIM:=λx=>by
  rw[j92];have:=(j2m h).2.2.1;unfold LIM;omega
 have q:(l.takeWhile λy=>kR t y r).length<=l.length:=(List.takeWhile_sublist _).length_le
 refine Z3t (step:=j3v l t r) (λi=>(i:Int)) (l.takeWhile λy=>kR t y r).length k _ (λi m rec=> ?_) (λrec=> ?_) Z1b (Z2a (by omega))
 ·obtain⟨b,d⟩:=jpN _ l i m;have d:klt (j06 t l[i]) (j06 t r)=true:=d;show j1V _ _ _ _ _ _=_
  unfold j1V;rw[ZaP b,Q1,j00 b,Q1,Zax _ _ _ b,j32 t h ht _ (g _ (Q7 b)),j32 t h ht r j,jaZ _ _ (f _),d,Q1,j01 (n:=(i:Int)+1) (by omega)]
  rfl
 ·show j1V _ _ _ _ _ _=_
  unfold j1V;by_cases b:(l.takeWhile λy=>kR t y r).length<l.length
  ·have d:klt (j06 t l[(l.takeWhile λy=>kR t y r).length]) (j06 t r)=false:=jpM (λy=>kR t y r) l b
   rw[ZaP b,Q1,j00 b,Q1,Zax _ _ _ b,j32 t h ht _ (g _ (Q7 b)),j32 t h ht r j,jaZ _ _ (f _),d,Q0]
  ·rw[Q2 (show ¬ (((l.takeWhile λy=>kR t y r).length:Nat):Int)<nI l.length by unfold nI;omega),Q0]
theorem jqU (t:T):∀a b:List V,kR t a b=true->kR t b a=false:=λa b h=>jrM h
theorem jh9 (t:T)(h:msr yT t<=1048576)(ht:j04 t=true)(l:List (List V))(r:List V)(n:∀x∈l,j0m t.2.1 x=true)(f:l.length<=60)(q:j0m t.2.1 r=true)(g:∀x∈l,j06 t x≠j06 t r)(k:List (List V)->Res) :
  j21 t l r k=k (jgs t l r):=by
 have A:=(j2m h).2.1;have b:∀x∈l,x.length=t.2.1.length:=λx m=>j0r (n x m)
 have j:=j0r q;unfold j21;rw[jkC t h ht l r b f j,j78 l (by omega) (λx m=>by rw[b x m];omega)]
 unfold j0Q j51 jf6;rw[jbI (by omega),Q1]
 obtain⟨p,B,i,d⟩:=jqw (R:=kR t) (jqU t) (x:=r) (l:=l) (λy w=>jp8 ht q (n y w) (λe=>g y w e.symm))
 rw[<-i];have z:jjw (p:Int) l.length [r].length=true:=Q3 ⟨by omega,by omega,by simp,by simp;unfold LIM;omega⟩
 dsimp only;rw[z,cond_true,Int.toNat_natCast,List.append_assoc];unfold jgs;rw[d];rfl
theorem jtn {t:T}{l:List (List V)}{b:List V}(h:j07 t l b<0):∀x∈l,j06 t x≠b:=jpe h
theorem jnE (t:T)(h:msr yT t<=1048576)(l:List (List V))(r:List V)(k:List (List V)->Int->Res):j6y t l r k=k (j5t t l r).1 (j5t t l r).2:=by
 unfold j6y j5t;rw[j8s t h];cases d:j08 t l
 ·rfl
 obtain⟨ht,g,i⟩:=j0i d;rw[Q4,Q0,Q0,jgn t h];cases f:j0m t.2.1 r
 ·rfl
 rw[Q4,Q0,Q0,j32 t h ht r (j0r f),j3p t h l d,jgz];by_cases b:j07 t l (j06 t r)<0;rotate_left
 ·rw[Q2 b];rfl
 rw[Q3 b,Q4,Q0,Q0,show (nI l.length==(60:Int))=(l.length==60) from jqx _ 60]
 cases (l.length==60)
 ·rw[Q0,Q0,jh9 t h ht l r i g f (jtn b)]
 ·rfl
theorem jrL {t:T}(ht:j04 t=true){n:ByteArray}(d:n∈t.2.2)(v:V):j3n (nth zC t.2.1 (j02 t.2.1 n)) v=(j0n v&&(v.1==(nth zC t.2.1 (j02 t.2.1 n)).2.1)):=by
 have b:=(((j4z _ _ _).1 ((j6d t).1 ht).2.2.2.2.2).1 n d).2;unfold j3n;rw[b,Q4,XF,Bool.or_false]
theorem jhY (t:T)(h:msr yT t<=1048576)(b:List V)(k:Bool->Res):j4r t b k=k (j9S t b):=by
 unfold j4r j9S;obtain⟨p,q,r,w,y⟩:=j2m h;rw[jgo t h];cases ht:j04 t
 ·rfl
 rw[Q4,Q0,Qd];by_cases f:b.length=t.2.2.length;rotate_left
 ·rw[jkI f,Q1,Q2 f,QW]
 rw[jkH f,Q0,Q3 f,Qd];unfold jc3;have:=Z9O t.2.2 (λi=>i) (λi n=> !j3n (nth zC t.2.1 (j02 t.2.1 n)) (nth zV b (i:Int))) (step:=j4s b t.2.2 (nI t.2.2.length) t) ((λ(_:Unit)=>k true),(λ(_:Unit)=>k false)) (k true) (k false) (by unfold LIM;omega) (λi rec d=>by
  have g:=jrL ht (Q7 d) (nth zV b (i:Int));obtain⟨j,l,m⟩:=jpa ht (Q7 d);show j2k _ _ _ _ _ _ _ _=_
  unfold j2k;rw[g,ZaP d,Q1,j00 d,Q1,j00 (f ▸ d),Q1,j7G,Zax _ _ _ d];cases j0n (nth zV b (i:Int))
  ·rfl
  ·rw[Q4,Q0,Q1,j77 _ _ (by unfold LIM;omega),m,j00 l,Q1,j01 (n:=(i:Int)+1) (by omega),Qd]
   rfl) (λrec=>by
  show j2k _ _ _ _ _ _ _ _=_
  unfold j2k;rw[ZaO,Q0])
 refine this.trans ?_;cases Z70 (λi n=> !j3n (nth zC t.2.1 (j02 t.2.1 n)) (nth zV b (i:Int))) 0 t.2.2<;>rfl
theorem jmR (l:List (List V))(i:Nat)(b:i<l.length)(d:l.length<=60)(k:List (List V)->Res):j0J l (i:Int) (Z9J ((i:Int)+1)) k=k (l.eraseIdx i):=by
 unfold j0J jaX;rw[j01 (n:=(i:Int)+1) (by omega),show Z8d (i:Int) ((i:Int)+1) l.length=true from j8Z (j:=i+1) ⟨by omega,by omega⟩,Q1,XR]
 rfl
theorem jnF (t:T)(h:msr yT t<=1048576)(l:List (List V))(d r:List V)(k:List (List V)->Int->Res):j6z t l d r k=k (j5u t l d r).1 (j5u t l d r).2:=by
 unfold j6z j5u;rw[j8s t h];cases g:j08 t l
 ·rfl
 obtain⟨ht,D,H⟩:=j0i g;rw[Q4,Q0,Q0,jgn t h];cases w:j0m t.2.1 r
 ·rfl
 rw[Q4,Q0,Q0,jhY t h];cases j9S t d
 ·rfl
 rw[Q4,Q0,XY,j3p t h l g];by_cases f:j07 t l d<0
 ·rw[Q3 f];rfl
 rw[Q2 f,Q0,Q0,j32 t h ht r (j0r w),jn8 g f];obtain⟨i,A,m⟩:=jep f;have p:=jec g i;obtain⟨_,B,C⟩:=j0i p;have b:=jn8 g (now:=j06 t r) f;rw[m,QS]at b;have n:(j06 t r).length<=LIM:=by
  rw[j92];have:=(j2m h).2.2.1;unfold LIM;omega
 unfold j5i;rw[jee _ _ n,m,QS,j3p t h l g,jgz];have j:decide (j07 t (l.eraseIdx i) (j06 t r)<0)=true->j0o l (λE=>j0J E (i:Int) (Z9J ((i:Int)+1)) λF=>j21 t F r λG=>k G 0)=k (jgs t (l.eraseIdx i) r) 0:=λz=>by
  rw[j78 l (by omega) (jfP h g),jmR l i A D,jh9 t h ht _ r C B w (jtn (QT z))]
 cases q:j1q zV veq (j06 t r) d
 ·rw[q]at b;rw[QQ,Q1,Qd];rw[QQ,Qd]at b;cases y: !decide (j07 t l (j06 t r)<0)
  ·rw[y]at b;rw[Q0,Q0,j3p t h l g,m];exact j (by simpa using b)
  ·rfl
 ·rw[q]at b;rw[Q4,Q0,QW,Q0,j3p t h l g,m];exact j (by simpa using b)
theorem jnD (t:T)(h:msr yT t<=1048576)(l:List (List V))(b:List V)(k:List (List V)->Int->Res):j6x t l b k=k (j5s t l b).1 (j5s t l b).2:=by
 unfold j6x j5s;rw[j8s t h];cases f:j08 t l
 ·rfl
 obtain⟨ht,m,n⟩:=j0i f;rw[Q4,Q0,Q0,jhY t h];cases j9S t b
 ·rfl
 rw[Q4,Q0,XY,j3p t h l f];by_cases d:j07 t l b<0
 ·rw[Q3 d];rfl
 rw[Q2 d,Q0,Q0];obtain⟨i,j,g⟩:=jep d;rw[j3p t h l f,g,QS,j78 l (by omega) (jfP h f),jmR l i j m]
end Go.PI.G
namespace Go.PI.G
open Go Go.PI Go.Proofs
theorem jrt {t:T}{d:D}(g:d.2.1=t.1)(f:d.1≠1):j0b [t] d=j0p t d:=by
 have b:j05 [t] d.2.1=(0:Int):=by
  have:=jez (c:=[t]) (by simp) (i:=0) (by simp)
  rw[g];exact this
 unfold j0b;rw[show (d.1==1)=false by simpa using f,Q0,b]
 rfl
theorem joY (d:D)(l:List (List V))(m:l.length<=60)(j:∀x∈l,x.length<=1048576)(h:0<d.2.2.1.length)(k:List (List V)->Res):j6M (nI l.length) d Z1b l 0 k=k (l.map λx=>x++[(nth zC d.2.2.1 0).2.2.2.2]):=by
 unfold j6M;have:=Z3t (step:=j4Y (nI l.length) d) (λi=>((l.take i).map (λx:List V=>x++[(nth zC d.2.2.1 0).2.2.2.2])++l.drop i,(i:Int))) l.length k (k (l.map λx=>x++[(nth zC d.2.2.1 0).2.2.2.2])) (λi b rec=> ?_) (λrec=> ?_) Z1b (Z2a (by omega))
 ·refine Y4 ?_ this;simp
 ·show j2B _ _ _ _ _ _=_
  unfold j2B;dsimp only;have p:=j _ (List.getElem_mem b);have g:inb (i:Int) ((l.take i).map (λx:List V=>x++[(nth zC d.2.2.1 0).2.2.2.2])++l.drop i).length=true:=j00 (by rw[jfG];exact b)
  have f:∀y:List V,inb (i:Int) (((l.take i).map (λx:List V=>x++[(nth zC d.2.2.1 0).2.2.2.2])++l.drop i).set i y).length=true:=λy=>j00 (by rw[List.length_set,jfG];exact b)
  rw[ZaP b,Q1,g,Q1,show inb 0 d.2.2.1.length=true from j00 (i:=0) h,Q1,joU _ _ _ _ b,ZaK (by unfold LIM;omega),Q1,ZaE,f,Q1,jcO,Q1,j01 (n:=(i:Int)+1) (by omega),<-joV _ _ _ b]
  rfl
 ·show j2B _ _ _ _ _ _=_
  unfold j2B;dsimp only;rw[ZaO,cond_false,List.take_length,List.drop_length,List.append_nil]
theorem jp0 (a:Nat)(l:List (List V))(z:l.length<=60)(q:∀x∈l,a<x.length/\x.length<=1048576)(k:List (List V)->Res):j6N (a:Int) (nI l.length) Z1b l 0 k=k (l.map λx=>x.eraseIdx a):=by
 unfold j6N;have:=Z3t (step:=j4Z (a:Int) (nI l.length)) (λi=>((l.take i).map (λx:List V=>x.eraseIdx a)++l.drop i,(i:Int))) l.length k (k (l.map λx=>x.eraseIdx a)) (λi b rec=> ?_) (λrec=> ?_) Z1b (Z2a (by omega))
 ·refine Y4 ?_ this;simp
 ·show j2C _ _ _ _ _ _=_
  unfold j2C j8g jaX;dsimp only;obtain⟨r,w⟩:=q _ (List.getElem_mem b);have f:inb (i:Int) ((l.take i).map (λx:List V=>x.eraseIdx a)++l.drop i).length=true:=j00 (by rw[jfG];exact b)
  have d:∀y:List V,inb (i:Int) (((l.take i).map (λx:List V=>x.eraseIdx a)++l.drop i).set i y).length=true:=λy=>j00 (by rw[List.length_set,jfG];exact b)
  have p:l[i].take a++l[i].drop (a+1)=l[i].eraseIdx a:=(XR _ _).symm;have m:Z8d (a:Int) ((a:Int)+1) l[i].length=true:=j8Z (j:=a+1) ⟨by omega,by omega⟩
  have g:(a:Int).toNat=a:=QS a;have h:((a:Int)+1).toNat=a+1:=by omega
  rw[ZaP b,Q1,f,Q1,joU _ _ _ _ b,j01 (n:=(a:Int)+1) (by omega),m,Q1,g,h,p,ZaE,d,Q1,jcO,Q1,j01 (n:=(i:Int)+1) (by omega),<-joV _ _ _ b]
  rfl
 ·show j2C _ _ _ _ _ _=_
  unfold j2C;dsimp only;rw[ZaO,cond_false,List.take_length,List.drop_length,List.append_nil]
theorem jlZ (t:T)(h:msr yT t<=1048576)(l:List (List V))(g:j08 t l=true)(d:D)(n:dSm d)(m:j0T d=true)(w:d.2.1=t.1)(i:d.1≠1)(k:List (List V)->Int->Res) :
  j5j t l d k=k (bif j0p t d != 0 then [] else bif d.1==2 then [] else jf0 t d l) (j0p t d):=by
 obtain⟨ht,z,F⟩:=j0i g;obtain⟨f,A⟩:=jfE m;unfold j5j j4u;rw[j8s t h,g,Q4,Q0,jgm d n,m,Q4,Q0];have r:sNe d.2.1 t.1=false:=by unfold sNe;rw[w];simp
 rw[r,Q0,show (d.1==1)=false by simpa using i]
 dsimp only;rw[cond_false,jj8 _ _ (jlV ht).2 m,jrt w i];cases B:(j0p t d != 0);rotate_left
 ·rfl
 have b:j0p t d=0:=by simpa using B
 have q:=(j2m h).2.1;rw[Q0,Q0,j78 l (by omega) (jfP h g),b]
 rcases f with e | e | e | e | e
 ·exact absurd e i
 ·rw[e];rfl
 ·unfold jf0;rw[e];simp only[show ((3:Int)==2)=false from rfl,show ((3:Int)==3)=true from rfl,Q0,Q1]
  rw[joY d l z (jfP h g) (A e)]
 ·unfold jf0;have G:¬ j02 t.2.1 d.2.2.2.2.1<0:=λp=>by
   unfold j0p at b;rw[e]at b;simp only[show ((4:Int)==3)=false from rfl,show ((4:Int)==4)=true from rfl,Q0,Q1,Q3 p]at b
   cases b
  rcases j11 t.2.1 d.2.2.2.2.1 with⟨y,_⟩ | ⟨j,C,y,_,_⟩
  ·omega
  rw[e];simp only[show ((4:Int)==2)=false from rfl,show ((4:Int)==3)=false from rfl,show ((4:Int)==4)=true from rfl,Q0,Q1]
  rw[j77 _ _ (by unfold LIM;omega),y,jp0 j l z (λx E=>by rw[j0r (F x E)];exact⟨C,q⟩)]
  rfl
 ·unfold jf0;rw[e];rfl
end Go.PI.G
namespace Go.PI.G
open Go Go.PI Go.Proofs
theorem jcV {c:List T}(h:j1T c=true):msr (.slice yT) c<=1048576:=by
 obtain⟨b,d,_⟩:=(j0e c).1 h;have:=j9A (e:=yT) 400 c (λt ht=>jb9 (d t ht))
 have f:c.length * (400+1)<=6 * 401:=YK b (Qq _);omega
theorem jiI (l:List (List V))(h:l.length<=1048576)(f:∀x∈l,x.length<=1048576)(k:List (List V)->Res):j5R l k=k l:=by
 unfold j5R jex;have:=Z9S l (λi b=>(b,i)) (λx=>[x]) 1048576 [] (step:=j8k l (nI l.length)) (λb=>k b) (λb=>k b) (by unfold LIM;omega) (λi d _=>by
  rw[j0I,Qk,Qf];omega) (by simp) (λi b rec d j g=>by
  show j2X _ _ _ _ _ _=_
  unfold j2X j0v;dsimp only;rw[ZaP d,cond_true,j00 d,cond_true,Zax _ _ _ d,jbI (f _ (List.getElem_mem d)),cond_true,ZaK (by unfold LIM;omega),cond_true,j01 (n:=(i:Int)+1) (by omega)]) (λb rec=>by
  show j2X _ _ _ _ _ _=_
  unfold j2X;dsimp only;rw[ZaO,cond_false])
 refine this.trans ?_;rw[j0I,Qk]
theorem jjv {d:DB}(h:dbB d=true):j1T d.1=true/\d.1.length<=6/\d.2.length=d.1.length/\∀x∈d.2,x.length<=60/\∀r∈x,r.length<=1048576:=by
 obtain⟨b,k,l⟩:=(j1A d).1 h;have n:=jcV b;refine⟨b,((j0e _).1 b).1,k,λx p=> ?_⟩
 obtain⟨i,m,rfl⟩:=X2.1 p;have g:=l i (by omega) m
 refine⟨(j0i g).2.1,λr f=> ?_⟩
 have q:=j0r ((j0i g).2.2 r f);have j:=(jdf n).2 _ (Q7 (show i<d.1.length by omega))
 have:=j.2.1;omega
theorem jlp (d:DB)(h:dbB d=true)(k:DB->Res):j1y d k=k d:=by
 obtain⟨g,m,p,j⟩:=jjv h;unfold j1y;rw[jjf _ (jcV g)];unfold jaw;have:=Z9S d.2 (λi b=>(i,(d.1,b))) (λx=>[x]) 1048576 [] (step:=j5a d.2 (nI d.2.length)) (λb=>k b) (λb=>k (d.1,b)) (by unfold LIM;omega) (λi f _=>by
  rw[j0I,Qk,Qf];omega) (by simp) (λi b rec f r q=>by
  show j2Z _ _ _ _ _ _=_
  unfold j2Z;obtain⟨w,l⟩:=j _ (List.getElem_mem f);dsimp only;rw[ZaP f,cond_true,j00 f,cond_true,Zax _ _ _ f,jiI _ (by omega) l,ZaK (by unfold LIM;omega),cond_true,j01 (n:=(i:Int)+1) (by omega)]) (λb rec=>by
  show j2Z _ _ _ _ _ _=_
  unfold j2Z;dsimp only;rw[ZaO,cond_false])
 refine this.trans ?_;rw[j0I,Qk]
theorem jgl (d:DB)(h:dbB d=true)(k:DB->Res):j12 d k=k d:=by
 obtain⟨g,m,p,j⟩:=jjv h;unfold j12;rw[jj7 _ (jcV g)];unfold jb3;have:=Z9S d.2 (λi b=>(i,(d.1,b))) (λx=>[x]) 1048576 [] (step:=j63 d.2 (nI d.2.length)) (λb=>k b) (λb=>k (d.1,b)) (by unfold LIM;omega) (λi f _=>by
  rw[j0I,Qk,Qf];omega) (by simp) (λi b rec f r q=>by
  show j3u _ _ _ _ _ _=_
  unfold j3u;obtain⟨w,l⟩:=j _ (List.getElem_mem f);dsimp only;rw[ZaP f,cond_true,j00 f,cond_true,Zax _ _ _ f,j78 _ (by omega) l,ZaK (by unfold LIM;omega),cond_true,j01 (n:=(i:Int)+1) (by omega)]) (λb rec=>by
  show j3u _ _ _ _ _ _=_
  unfold j3u;dsimp only;rw[ZaO,cond_false])
 refine this.trans ?_;rw[j0I,Qk]
theorem jpD (t:T)(h:msr yT t<=1048576)(l:List (List V))(s:ST)(b:s.1≠5)(k:List (List V)->Int->Res):j16 t l s k=k (j2n t l s).1 (j2n t l s).2:=by
 unfold j16 j2n;cases (s.1==1)
 ·rw[Q0,Q0];cases (s.1==2)
  ·rw[Q0,Q0];cases (s.1==3)
   ·rw[Q0,Q0,show (s.1==5)=false by simpa using b]
    rfl
   ·rw[Q1,Q1,joc t h]
  ·rw[Q1,Q1,joe t h]
 ·rw[Q1,Q1,jod t h]
end Go.PI.G
namespace Go.PI.G
open Go Go.PI Go.Proofs
theorem jtW (b:Int)(s:ST)(a z:Res):j7t b s (λ_=>a) (λ_=>z)=bif decide (b<0)&& !((s.1==5)&&(s.2.2.2.2.1==1)) then z else a:=by
 unfold j7t;cases decide (b<0)
 ·rfl
 ·rw[Q1,Qd];unfold bne;cases (s.1==5)
  ·rfl
  ·cases (s.2.2.2.2.1==1)<;>rfl
theorem jqp {t:T}{l:List (List V)}{s:ST}:0<=(j2n t l s).2/\(j2n t l s).2<=5:=by
 unfold j2n j5t j5u j5s;cases (s.1==1)
 ·cases (s.1==2)
  ·cases (s.1==3)
   ·simp
   ·simp only[Q1,Q0];cases j08 t l
    ·simp
    ·cases (!j9S t s.2.2.1||decide (j07 t l s.2.2.1<0))<;>simp
  ·simp only[Q1,Q0];cases j08 t l
   ·simp
   ·cases j0m t.2.1 s.2.2.2.1
    ·simp
    ·cases (!j9S t s.2.2.1||decide (j07 t l s.2.2.1<0))
     ·cases !decide (j07 t (l.eraseIdx (j07 t l s.2.2.1).toNat) (j06 t s.2.2.2.1)<0)<;>simp
     ·simp
 ·simp only[Q1,Q0];cases j08 t l
  ·simp
  ·cases j0m t.2.1 s.2.2.2.1
   ·simp
   ·cases !decide (j07 t l (j06 t s.2.2.2.1)<0)
    ·cases (l.length==60)<;>simp
    ·simp
theorem jpz (d:DB)(h:dbB d=true)(s:ST)(q:s.1≠5)(i:Nat)(f:i<d.1.length)(g:j05 d.1 s.2.1=(i:Int))(k:DB->Int->Res) :
  (bif inb (i:Int) d.1.length then
          bif inb (i:Int) d.2.length then
           j16 (nth zT d.1 (i:Int)) (nth [] d.2 (i:Int)) s λ(w:List (List V)) (r:Int)=>
            bif (r != 0) then
             k ([],[]) (Z9J (10+r))
            else
             j1y d λ(m:DB)=>
              bif inb (i:Int) (List.length m.2) then
               k (m.1,upd m.2 (i:Int) w) 0
              else none
          else none
         else none)=k (j1K d s).1 (j1K d s).2:=by
 obtain⟨p,y,z⟩:=(j1A d).1 h;have b:i<d.2.length:=by omega
 have B:=(jdf (jcV p)).2 _ (Q7 f);have ht:j04 d.1[i]=true:=((j0e _).1 p).2.1 _ (Q7 f);have j:msr yT d.1[i]<=1048576:=Qx (jb9 ht) (by omega)
 rw[j00 f,Q1,j00 b,Q1,Zax _ _ _ f,Zax _ _ _ b,jpD _ j _ _ q];unfold j1K;rw[g,Q2 (by omega),QW,Q0,show (s.1==5)=false by simpa using q,Q0,Zax _ _ _ f,Zax _ _ _ b]
 have A:=jqp (t:=d.1[i]) (l:=d.2[i]) (s:=s);cases C:((j2n d.1[i] d.2[i] s).2 != 0)
 ·rw[Q0,Q0,jlp d h,j00 b,Q1,ZaE,QS]
 ·rw[Q1,Q1,j01 (n:=10+(j2n d.1[i] d.2[i] s).2) (by omega)]
end Go.PI.G
namespace Go.PI.G
open Go Go.PI Go.Proofs
noncomputable def j8M (d:DB)(x:D)(u:T):List (List V):=
 bif decide (j05 d.1 u.1>=0)&&sEq u.1 x.2.1 then (bif x.1==2 then [] else jf0 (nth zT d.1 (j05 d.1 u.1)) x (nth [] d.2 (j05 d.1 u.1)))
 else bif decide (j05 d.1 u.1>=0) then nth [] d.2 (j05 d.1 u.1) else []
theorem jr6 (d:DB)(h:dbB d=true)(s:ST)(z:s.1=5)(B:s.2.2.2.2.2.1=s.2.1)(q:dSm s.2.2.2.2)(E:j0T s.2.2.2.2=true)(l:j0b d.1 s.2.2.2.2=0)(u:T)(k:List (List V)->Res) :
  (j24 d.1 u.1 λ(r:Int)=>j2Y r s u λ(t:Bool)=>j1F r t d s [] k)=k (j8M d s.2.2.2.2 u):=by
 obtain⟨C,J,D⟩:=(j1A d).1 h;obtain⟨_,G,_,g⟩:=jjv h;rw[jdE _ _ (by unfold LIM;omega)]
 unfold j2Y j1F j8M;rw[B];rcases j0w d.1 u.1 with⟨p,_⟩ | ⟨i,n,p,A⟩
 ·rw[p];rfl
 ·have w:decide (j05 d.1 u.1>=0)=true:=Q3 (by omega)
  have f:i<d.2.length:=by omega
  rw[w,Qd,Q1,p,j00 n,j00 f,Zax _ _ _ n,Zax _ _ _ f];cases H:sEq u.1 s.2.1
  ·obtain⟨K,I⟩:=g _ (Q7 f);simp only[Q0,Q1];rw[jiI _ (by omega) I]
  ·have b:u.1=s.2.1:=(j09 _ _).1 H;have ht:j04 d.1[i]=true:=((j0e _).1 C).2.1 _ (Q7 n);have y:msr yT d.1[i]<=1048576:=Qx (jb9 ht) (by omega)
   have m:j05 d.1 s.2.2.2.2.2.1=(i:Int):=by rw[B,<-b];exact p
   have j:s.2.2.2.2.1≠1:=λe=>by
    unfold j0b at l;rw[e,m]at l;rw[Q2 (show ¬ (i:Int)<0 by omega)]at l
    cases l
   have F:j0p d.1[i] s.2.2.2.2=0:=by
    unfold j0b at l;rw[show (s.2.2.2.2.1==1)=false by simpa using j,Q0,m,Q2 (show ¬ (i:Int)<0 by omega),Q0,Zax _ _ _ n]at l
    exact l
   simp only[Q1];unfold j16;rw[z];simp only[show ((5:Int)==1)=false from rfl,show ((5:Int)==2)=false from rfl,show ((5:Int)==3)=false from rfl,show ((5:Int)==5)=true from rfl,Q0,Q1,Z9P]
   rw[jmI _ y _ (D i n f) _ q E (by rw[B,<-b];exact A.symm) j,F]
   rfl
theorem joN {c:List T}{d:D}(b:j1T c=true)(f:j0T d=true):jf1 c d=bif j0b c d != 0 then ([],j0b c d) else (j0U c d,0):=by
 unfold jf1;rw[b,f];rfl
theorem jkt (c:List T)(d:D):0<=j0b c d/\j0b c d<=8:=by
 unfold j0b j0p;cases (d.1==1)
 ·cases decide (j05 c d.2.1<0)
  ·generalize nth zT c (j05 c d.2.1)=t;cases (d.1==3)
   ·cases (d.1==4)
    ·cases (d.1==5)
     ·simp
     ·cases decide (j02 t.2.1 d.2.2.2.2.2<0)
      ·simp
      ·cases decide (j02 t.2.1 d.2.2.2.2.1<0)<;>simp
    ·cases decide (j02 t.2.1 d.2.2.2.2.1<0)
     ·cases t.2.2.any (λx=>sEq x d.2.2.2.2.1)<;>simp
     ·simp
   ·cases decide (j02 t.2.1 (nth zC d.2.2.1 0).1<0)
    ·simp
    ·cases (t.2.1.length==8)<;>simp
  ·simp
 ·cases decide (j05 c d.2.1<0)
  ·simp
  ·cases (c.length==6)<;>simp
theorem jmG (d:DB)(h:dbB d=true)(s:ST)(q:s.1=5)(y:s.2.2.2.2.2.1=s.2.1)(j:dSm s.2.2.2.2)(p:j0T s.2.2.2.2=true)(k:DB->Int->Res) :
  j3k d s k=bif j0b d.1 s.2.2.2.2 != 0 then k ([],[]) (10+j0b d.1 s.2.2.2.2) else k (j0U d.1 s.2.2.2.2,(j0U d.1 s.2.2.2.2).map (j8M d s.2.2.2.2)) 0:=by
 obtain⟨m,z,A⟩:=(j1A d).1 h;have D:=jkt d.1 s.2.2.2.2;unfold j3k;rw[jjg _ _ (jcV m) j,joN m p];cases r:(j0b d.1 s.2.2.2.2 != 0);rotate_left
 ·rw[cond_true];dsimp only;rw[r,cond_true,cond_true,j01 (n:=10+j0b d.1 s.2.2.2.2) (by omega)]
 have g:j0b d.1 s.2.2.2.2=0:=by simpa using r
 have f:=jlW m p g;have w:=((j0e _).1 f).1;rw[Q0,Q0];show (j59 (j0U d.1 s.2.2.2.2) (nI (j0U d.1 s.2.2.2.2).length) d s Z1b 0 (j0U d.1 s.2.2.2.2,[]) λb=>k b 0)=_
 generalize j0U d.1 s.2.2.2.2=c' at *;unfold j59;have:=Z9S c' (λi b=>(i,(c',b))) (λu=>[j8M d s.2.2.2.2 u]) 6 [] (step:=j1S c' (nI c'.length) d s) (λb=>k b 0) (λb=>k (c',b) 0) (by unfold LIM;omega) (λi l _=>by
  rw[jed,Qk,Qy,Qf];omega) (by simp) (λi b rec l C B=>by
  show j10 _ _ _ _ _ _ _ _=_
  unfold j10;dsimp only;rw[ZaP l,cond_true,j00 l,cond_true,Zax _ _ _ l,jr6 d h s q y j p g,ZaK (by unfold LIM;omega),cond_true,j01 (n:=(i:Int)+1) (by omega)]) (λb rec=>by
  show j10 _ _ _ _ _ _ _ _=_
  unfold j10;dsimp only;rw[ZaO,cond_false])
 refine this.trans ?_;rw[jed,Qk]
end Go.PI.G
