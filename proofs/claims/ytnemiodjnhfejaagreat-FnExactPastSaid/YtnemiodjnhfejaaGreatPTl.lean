/-
  Program's code interpreted over typed values; printed texts; plain laws. No conditions.
-/
import Derived.Test.YtnemiodjnhfejaaGreatPTi
import Derived.Test.YtnemiodjnhfejaaGreatPTd
import Derived.Test.YtnemiodjnhfejaaGreatPTe
import Derived.Test.YtnemiodjnhfejaaGreatPTj
import Derived.Test.YtnemiodjnhfejaaGreatPTk
set_option linter.unusedVariables false
set_option linter.unusedSimpArgs false
namespace Go.PI.G
open Go Go.PI Go.Proofs
theorem jqR {c:List T} (h:msr (.slice yT) c<=1048576):c.length<=1048576/\∀ t∈c,msr yT t<=1048576:=⟨j0l h,λt ht=>j0M h ht⟩
theorem jpJ (c:List T) (h:msr (.slice yT) c<=1048576) (a b:Unit->Res):jdl c (nI c.length) c Z1c 0 a b=bif Z71 (λi t=> !j05 t||(decide (0<i)&&sGe (nth zT c ((i:Int)-1)).1 t.1)) 0 c then b () else a ():=by
 obtain ⟨g,f⟩:=jqR h
 unfold jdl
 exact Z9P c (λi=>i) (λi t=> !j05 t||(decide (0<i)&&sGe (nth zT c ((i:Int)-1)).1 t.1)) (step:=jbr c (nI c.length) c) (a,b) (a ()) (b ()) (by unfold LIM;omega) (λi rec d=>by
  show j5q _ _ c _ _ _ _=_
  unfold j5q
  rw [ZaQ d,cond_true,j00 d,cond_true,Zay _ _ _ d,jdY _ (f _ (List.getElem_mem d)),j01 (n:=(i:Int)+1) (by omega),joV c i d (by unfold LIM;omega)]
  cases j05 c[i]
  ·rfl
  ·cases (decide (0<i)&&sGe (nth zT c ((i:Int)-1)).1 c[i].1)<;>rfl) (λrec=>by
  show j5q _ _ c _ _ _ _=_
  unfold j5q
  rw [ZaP,cond_false])
theorem jp9 (c:List T) (h:msr (.slice yT) c<=1048576) (a b:Unit->Res):jd7 c (nI c.length) c Z1c 0 a b=bif Z71 (λi t=> !j05 t||(decide (0<i)&&sGe (nth zT c ((i:Int)-1)).1 t.1)) 0 c then b () else a ():=by
 obtain ⟨g,f⟩:=jqR h
 unfold jd7
 exact Z9P c (λi=>i) (λi t=> !j05 t||(decide (0<i)&&sGe (nth zT c ((i:Int)-1)).1 t.1)) (step:=jaY c (nI c.length) c) (a,b) (a ()) (b ()) (by unfold LIM;omega) (λi rec d=>by
  show j55 _ _ c _ _ _ _=_
  unfold j55
  rw [ZaQ d,cond_true,j00 d,cond_true,Zay _ _ _ d,jhn _ (f _ (List.getElem_mem d)),j01 (n:=(i:Int)+1) (by omega),joV c i d (by unfold LIM;omega)]
  cases j05 c[i]
  ·rfl
  ·cases (decide (0<i)&&sGe (nth zT c ((i:Int)-1)).1 c[i].1)<;>rfl) (λrec=>by
  show j55 _ _ c _ _ _ _=_
  unfold j55
  rw [ZaP,cond_false])
theorem jme (c:List T) (h:msr (.slice yT) c<=1048576) (k:Bool->Res):j7e c k=k (j2m c):=by
 unfold j7e j2m
 rw [jpJ c h]
 by_cases b:c.length<=6
 ·rw [decide_eq_false (show ¬ nI c.length>6 by unfold nI;omega),cond_false,decide_eq_true b,Bool.true_and]
  cases Z71 (λi t=> !j05 t||(decide (0<i)&&sGe (nth zT c ((i:Int)-1)).1 t.1)) 0 c<;>rfl
 ·rw [decide_eq_true (show nI c.length>6 by unfold nI;omega),cond_true,decide_eq_false b,Bool.false_and]
theorem jlo (c:List T) (h:msr (.slice yT) c<=1048576) (k:Bool->Res):j72 c k=k (j2m c):=by
 unfold j72 j2m
 rw [jp9 c h]
 have:decide (nI c.length<=6)=decide (c.length<=6):=decide_eq_decide.2 (by unfold nI;omega)
 rw [this]
 cases Z71 (λi t=> !j05 t||(decide (0<i)&&sGe (nth zT c ((i:Int)-1)).1 t.1)) 0 c
 ·rw [Bool.not_false,Bool.and_true];rfl
 ·rw [Bool.not_true,Bool.and_false];rfl
end Go.PI.G
namespace Go.PI.G
open Go Go.PI Go.Proofs
theorem j8y (c:List T) (n:ByteArray) (h:c.length<=LIM) (k:Int->Res):j1v c n k=k (j04 c n):=by
 unfold j1v jic
 refine Z9S c (λi=>i) (λt=>sEq t.1 n) (step:=jbw n c (nI c.length)) _ k h (λi rec b=> ?_) (λrec=> ?_)
 ·show j5z n _ _ _ _ _ _=_
  unfold j5z
  unfold LIM at h
  rw [ZaQ b,cond_true,j00 b,cond_true,Zay _ _ _ b,j01 (n:=(i:Int)+1) (by omega)]
 ·show j5z n _ _ _ _ _ _=_
  unfold j5z
  rw [ZaP,cond_false]
theorem j69 (c:List T) (n:ByteArray) (h:c.length<=LIM) (k:Int->Res):j0j c n k=k (j04 c n):=by
 unfold j0j j5G j84
 refine Z9S c (λi=>i) (λt=>sEq t.1 n) (step:=j2N c n (nI c.length)) _ k h (λi rec b=> ?_) (λrec=> ?_)
 ·show j0L _ n _ _ _ _ _=_
  unfold j0L jem
  unfold LIM at h
  rw [ZaQ b,cond_true,j00 b,cond_true,Zay _ _ _ b,j01 (n:=(i:Int)+1) (by omega)]
 ·show j0L _ n _ _ _ _ _=_
  unfold j0L
  rw [ZaP,cond_false]
end Go.PI.G
namespace Go.PI.G
open Go Go.PI Go.Proofs
noncomputable def jg2 (p:List ByteArray) (s:ByteArray):Bool:=p.any λx=>sEq x s
theorem jp7 {α:Type} (q:α->Bool) (l:List α):decide (Z9F q l>=0)=l.any q:=by
 unfold Z9F
 cases h:l.findIdx? q with
 | none=>
  have:=List.findIdx?_eq_none_iff.1 h
  have b:l.any q=false:=by
   rw [List.any_eq_false]
   intro x g
   rw [this x g];simp
  rw [b];rfl
 | some i=>
  have:=List.findIdx?_eq_some_iff_getElem.1 h
  obtain ⟨d,f,_⟩:=this
  have b:l.any q=true:=List.any_eq_true.2 ⟨l[i],List.getElem_mem d,f⟩
  rw [b]
  show decide ((i:Int)>=0)=true
  exact decide_eq_true (by omega)
theorem jr2 (l:List ByteArray) (s:ByteArray) (h:l.length<=LIM) (k:Bool->Res):j1o l s k=k (jg2 l s):=by
 unfold j1o j0Z j5H jg2
 have:=Z9S l (λi=>i) (λx=>sEq s x) (step:=j1R l s (nI l.length)) ((λ(_:Unit)=>k (decide ((-1:Int)>=0))),(λ(t:Int)=>k (decide (t>=0)))) (λr=>k (decide (r>=0))) h (λi rec b=>by
  show j0d _ _ _ _ _ _ _=_
  unfold j0d
  unfold LIM at h
  rw [ZaQ b,cond_true,j00 b,cond_true,Zay _ _ _ b,j01 (n:=(i:Int)+1) (by omega)]) (λrec=>by
  show j0d _ _ _ _ _ _ _=_
  unfold j0d
  rw [ZaP,cond_false])
 refine this.trans ?_
 rw [jp7]
 have:(λx=>sEq s x)=λx=>sEq x s:=by funext x;exact Zag s x
 rw [this]
end Go.PI.G
namespace Go.PI.G
open Go Go.PI Go.Proofs
theorem jrg (l:List ByteArray) (s:ByteArray) (h:l.length<=LIM) (k:Bool->Res):j9J l s k=k (jg2 l s):=by
 unfold j9J jgY jg2
 have:=Za2 l (λi=>i) (λx=>sEq x s) (step:=jam s l (nI l.length)) ((λ(_:Unit)=>k false),(λ(_:Unit)=>k true)) (k false) (k true) h (λi rec b=>by
  show j4z _ _ _ _ _ _ _=_
  unfold j4z
  unfold LIM at h
  rw [ZaQ b,cond_true,j00 b,cond_true,Zay _ _ _ b,j01 (n:=(i:Int)+1) (by omega)]) (λrec=>by
  show j4z _ _ _ _ _ _ _=_
  unfold j4z
  rw [ZaP,cond_false])
 refine this.trans ?_
 cases l.any λx=>sEq x s<;>rfl
end Go.PI.G
namespace Go.PI.G
open Go Go.PI Go.Proofs
theorem jcL {n:Nat} (h:n<=1048576):lim (0+n)=true:=ZaL (by unfold LIM;omega)
theorem jk9 (t:T) (b:t.2.1.length<=1048576) (d:t.2.2.length<=1048576) (k:T->Res):j4W t k=k t:=by
 unfold j4W
 simp only [Z9Q]
 rw [jcL b,cond_true,jcL d,cond_true]
theorem jeh {c:List T} (b:msr (.slice yT) c<=1048576):c.length<=1048576/\∀ t∈c,tSm t:=⟨j0l b,λt ht=>j2U (j0M b ht)⟩
theorem j0W {α:Type}:(l:List α)->l.flatMap (λx=>[x])=l
 | []=>rfl
 | x::l=>by rw [List.flatMap_cons,j0W l];rfl
theorem jk4 (c:List T) (f:msr (.slice yT) c<=1048576) (k:List T->Res):j4y c k=k c:=by
 obtain ⟨h,ht⟩:=jeh f
 unfold j4y jfw
 have:=Z9T c (λi b=>(i,b)) (λx=>[x]) 1048576 [] (step:=j9n c (nI c.length)) (λb=>k b) (λb=>k b) (by unfold LIM;omega) (λi d _=>by
  rw [j0W,List.nil_append,List.length_take];omega) (by simp) (λi b rec d j g=>by
  show j3t _ _ _ _ _ _=_
  unfold j3t
  obtain ⟨l,m,p,q,r⟩:=ht _ (List.getElem_mem d)
  dsimp only
  rw [ZaQ d,cond_true,j00 d,cond_true,Zay _ _ _ d,jk9 _ (by omega) (by omega),ZaL (by unfold LIM;omega),cond_true,j01 (n:=(i:Int)+1) (by omega)]) (λb rec=>by
  show j3t _ _ _ _ _ _=_
  unfold j3t
  dsimp only
  rw [ZaP,cond_false])
 refine this.trans ?_
 rw [j0W,List.nil_append]
noncomputable def jbd (t:T) (a:Bool×List T) (x:T):Bool×List T:=bif !a.1&&tR t x then (true,a.2++[t]++[x]) else (a.1,a.2++[x])
theorem jnw (t:T):(l:List T)->(b:List T)->l.foldl (jbd t) (true,b)=(true,b++l)
 | [],b=>by simp
 | x::l,b=>by
  rw [List.foldl_cons]
  show l.foldl (jbd t) (true,b++[x])=_
  rw [jnw t l,List.append_assoc];rfl
theorem jpv (t:T):(l:List T)->(b:List T)->(bif !(l.foldl (jbd t) (false,b)).1 then (l.foldl (jbd t) (false,b)).2++[t] else (l.foldl (jbd t) (false,b)).2)=b++lay tR t l
 | [],b=>rfl
 | x::l,b=>by
  rw [List.foldl_cons]
  unfold lay
  cases d:tR t x
  ·have:jbd t (false,b) x=(false,b++[x]):=by unfold jbd;rw [d];rfl
   rw [this,jpv t l,List.takeWhile_cons_of_pos (by rw [d];rfl),List.dropWhile_cons_of_pos (by rw [d];rfl)]
   unfold lay
   simp
  ·have:jbd t (false,b) x=(true,b++[t]++[x]):=by unfold jbd;rw [d];rfl
   rw [this,jnw,List.takeWhile_cons_of_neg (by rw [d];simp),List.dropWhile_cons_of_neg (by rw [d];simp)]
   simp
theorem jsQ (t:T) (a:Bool×List T) (x:T):(jbd t a x).2.length<=a.2.length+2:=by
 unfold jbd
 cases !a.1&&tR t x<;>simp
theorem jri (c:List T) (t:T) (j:c.length<=1048576) (k:List T->Res):j9K c t k=k (lay tR t c):=by
 unfold j9K jcs
 have:=Z8i c (λi (a:Bool×List T)=>(a.1,i,a.2)) (jbd t) (λi a=>a.2.length<=2 * i) (step:=jan c (nI c.length) t) (λdone b=>bif !done then bif lim (b.length+1) then k (b++[t]) else none else k b)
  (λa=>bif !a.1 then k (a.2++[t]) else k a.2) (false,[]) (by unfold LIM;omega) (by simp) (λi a f h=>by have:=jsQ t a c[i];omega) (λi a rec f h=>by
  show j4A _ _ _ _ _ _ _ _=_
  unfold j4A jct
  dsimp only
  rw [ZaQ f,cond_true,j00 f,cond_true,Zay _ _ _ f]
  have g:lim (a.2.length+1)=true:=ZaL (by unfold LIM;omega)
  have d:lim ((a.2++[t]).length+1)=true:=ZaL (by unfold LIM;simp;omega)
  unfold jbd tR
  cases a.1
  ·rw [Bool.not_false,cond_true,Bool.true_and]
   cases sLt t.1 c[i].1
   ·rw [cond_false,cond_false,g,cond_true,j01 (n:=(i:Int)+1) (by omega)]
   ·rw [cond_true,cond_true,g,cond_true,d,cond_true,j01 (n:=(i:Int)+1) (by omega)]
  ·rw [Bool.not_true,cond_false,Bool.false_and,cond_false,g,cond_true,j01 (n:=(i:Int)+1) (by omega)]) (λa rec h=>by
  show j4A _ _ _ _ _ _ _ _=_
  unfold j4A
  dsimp only
  rw [ZaP,cond_false]
  cases a.1
  ·rw [Bool.not_false,cond_true,cond_true,ZaL (by unfold LIM;omega),cond_true]
  ·rfl)
 refine this.trans ?_
 have d:=jpv t c []
 rw [List.nil_append] at d
 rw [<-d]
 cases (c.foldl (jbd t) (false,[])).1<;>rfl
theorem jhg (l:List C) (n:ByteArray):decide (j02 l n>=0)= !decide (j02 l n<0):=by
 by_cases h:j02 l n<0
 ·rw [decide_eq_true h,decide_eq_false (by omega)];rfl
 ·rw [decide_eq_false h,decide_eq_true (by omega)];rfl
theorem jpO (t:T) (d:D) (l:t.2.1.length<=1048576) (m:t.2.2.length<=1048576) (b:d.1=3->0<d.2.2.1.length) (k:Int->Res):j4V t d k=k (j0A t d):=by
 unfold j4V j0A
 rw [j6Y _ _ (by unfold LIM;omega)]
 cases f:(d.1==3)
 ·rw [cond_false,cond_false]
  cases h:(d.1==4)
  ·rw [cond_false,cond_false]
   cases j:(d.1==5)
   ·rfl
   ·rw [cond_true,cond_true,j6Y _ _ (by unfold LIM;omega),jhg]
    cases !decide (j02 t.2.1 d.2.2.2.2.2<0)
    ·cases decide (j02 t.2.1 d.2.2.2.2.1<0)<;>rfl
    ·rfl
  ·rw [cond_true,cond_true]
   cases decide (j02 t.2.1 d.2.2.2.2.1<0)
   ·rw [cond_false,cond_false,jrg _ _ (by unfold LIM;omega)]
    show (bif jg2 t.2.2 d.2.2.2.2.1 then k 8 else k 0)=k (bif jg2 t.2.2 d.2.2.2.2.1 then 8 else 0)
    cases jg2 t.2.2 d.2.2.2.2.1<;>rfl
   ·rfl
 ·rw [cond_true,cond_true]
  have b:=b (by simpa using f)
  have g:inb 0 d.2.2.1.length=true:=j00 (i:=0) b
  rw [g,cond_true,j6Y _ _ (by unfold LIM;omega),jhg]
  cases !decide (j02 t.2.1 (nth zC d.2.2.1 0).1<0)
  ·rw [cond_false,cond_false]
   have:(nI t.2.1.length==8)=(t.2.1.length==8):=by
    unfold nI
    rw [Bool.eq_iff_iff]
    simp only [beq_iff_eq]
    omega
   rw [this]
   cases (t.2.1.length==8)<;>rfl
  ·rfl
end Go.PI.G
namespace Go.PI.G
open Go Go.PI Go.Proofs
noncomputable def jbe {α:Type} (R:α->α->Bool) (t:α) (a:Bool×List α) (x:α):Bool×List α:=bif !a.1&&R t x then (true,a.2++[t]++[x]) else (a.1,a.2++[x])
theorem jnx {α:Type} (R:α->α->Bool) (t:α):(l:List α)->(b:List α)->l.foldl (jbe R t) (true,b)=(true,b++l)
 | [],b=>by simp
 | x::l,b=>by
  rw [List.foldl_cons]
  show l.foldl (jbe R t) (true,b++[x])=_
  rw [jnx R t l,List.append_assoc];rfl
theorem jpw {α:Type} (R:α->α->Bool) (t:α):(l:List α)->(b:List α)->(bif !(l.foldl (jbe R t) (false,b)).1 then (l.foldl (jbe R t) (false,b)).2++[t] else (l.foldl (jbe R t) (false,b)).2)=b++lay R t l
 | [],b=>rfl
 | x::l,b=>by
  rw [List.foldl_cons]
  unfold lay
  cases d:R t x
  ·have:jbe R t (false,b) x=(false,b++[x]):=by unfold jbe;rw [d];rfl
   rw [this,jpw R t l,List.takeWhile_cons_of_pos (by rw [d];rfl),List.dropWhile_cons_of_pos (by rw [d];rfl)]
   unfold lay
   simp
  ·have:jbe R t (false,b) x=(true,b++[t]++[x]):=by unfold jbe;rw [d];rfl
   rw [this,jnx,List.takeWhile_cons_of_neg (by rw [d];simp),List.dropWhile_cons_of_neg (by rw [d];simp)]
   simp
theorem jsR {α:Type} (R:α->α->Bool) (t:α) (a:Bool×List α) (x:α):(jbe R t a x).2.length<=a.2.length+2:=by
 unfold jbe
 cases !a.1&&R t x<;>simp
theorem jn4 {t:T} (ht:j05 t=true) {r:List V} (h:r.length=t.2.1.length):lim (0+r.length)=true:=by
 have:=((j7h t).1 ht).2.2.1
 exact jcL (by omega)
theorem jmh (t:T) (h:msr yT t<=1048576) (ht:j05 t=true) (l:List (List V)) (r:List V) (z:∀ x∈l,x.length=t.2.1.length) (A:l.length<=60) (n:r.length=t.2.1.length) (k:List (List V)->Res):j3J t l r k=k (jhr t l r):=by
 have p:∀ x:List V,(j07 t x).length<=LIM:=λx=>by
  rw [jab]
  have:=(j2U h).2.2.1
  unfold LIM;omega
 unfold j3J jcu j0b
 have:=Z8i l (λi (a:Bool×List (List V))=>(a.2,a.1,i)) (jbe (kR t) r) (λi a=>a.2.length<=2 * i) (step:=j4D l (nI l.length) t r) (λb done=>bif !done then bif lim (0+r.length) then bif lim (b.length+1) then k (b++[r]) else none else none else k b)
  (λa=>bif !a.1 then k (a.2++[r]) else k a.2) (false,[]) (by unfold LIM;omega) (by simp) (λi a d p=>by have:=jsR (kR t) r a l[i];omega) (λi a rec d y=>by
  show j2s _ _ _ _ _ _ _ _ _=_
  unfold j2s j6S j0b
  dsimp only
  have q:=z _ (List.getElem_mem d)
  rw [ZaQ d,cond_true,j00 d,cond_true,Zay _ _ _ d]
  have g:lim (a.2.length+1)=true:=ZaL (by unfold LIM;omega)
  have f:lim ((a.2++[r]).length+1)=true:=ZaL (by unfold LIM;simp;omega)
  have j:lim (0+(l[i]).length)=true:=jn4 ht q
  have w:lim (0+r.length)=true:=jn4 ht n
  have m:Z9K ((i:Int)+1)=(i:Int)+1:=j01 (by omega)
  unfold jbe
  cases a.1
  ·simp only [Bool.not_false,cond_true,Bool.true_and]
   rw [j7d t h ht r n,j7d t h ht _ q,jgV _ _ (p _)]
   unfold kR
   cases klt (j07 t r) (j07 t l[i])
   ·simp only [cond_false,cond_true,j,g,m]
   ·simp only [cond_true,w,g,j,f,m]
  ·simp only [Bool.not_true,cond_false,Bool.false_and,j,g,m,cond_true]) (λa rec y=>by
  show j2s _ _ _ _ _ _ _ _ _=_
  unfold j2s
  dsimp only
  rw [ZaP,cond_false]
  cases a.1
  ·simp only [Bool.not_false,cond_true,jn4 ht n]
   rw [ZaL (by unfold LIM;omega),cond_true]
  ·rfl)
 refine this.trans ?_
 have f:=jpw (kR t) r l []
 rw [List.nil_append] at f
 unfold jhr
 rw [<-f]
 cases (l.foldl (jbe (kR t) r) (false,[])).1<;>rfl
theorem jlm {α:Type} (l:List α) (a i:Nat) (f:i<l.length):(l.take (i+1)).eraseIdx a=bif i==a then (l.take i).eraseIdx a else (l.take i).eraseIdx a++[l[i]]:=by
 have g:(l.take i).length=i:=by rw [List.length_take];omega
 rw [List.take_succ_eq_append_getElem f]
 by_cases h:a<i
 ·rw [List.eraseIdx_append_of_lt_length (by omega),show (i==a)=false from beq_eq_false_iff_ne.2 (by omega),cond_false]
 ·rw [List.eraseIdx_append_of_length_le (by omega),g]
  by_cases e:i=a
  ·subst e
   have b:[l[i]].eraseIdx (i-i)=[]:=by rw [Nat.sub_self];rfl
   have d:(l.take i).eraseIdx i=l.take i:=List.eraseIdx_of_length_le (by omega)
   rw [show (i==i)=true from beq_self_eq_true i,cond_true,b,d,List.append_nil]
  ·have b:[l[i]].eraseIdx (a-i)=[l[i]]:=List.eraseIdx_of_length_le (by simp only [List.length_cons,List.length_nil];omega)
   have d:(l.take i).eraseIdx a=l.take i:=List.eraseIdx_of_length_le (by omega)
   rw [show (i==a)=false from beq_eq_false_iff_ne.2 e,cond_false,b,d]
theorem jgW (l:List (List V)) (a:Nat) (j:l.length<=60) (h:∀ x∈l,x.length<=1048576) (k:List (List V)->Res):j1S l (a:Int) k=k (l.eraseIdx a):=by
 unfold j1S jcW
 have:=Z3u (step:=j7g (a:Int) l (nI l.length)) (λi=>((l.take i).eraseIdx a,(i:Int))) l.length (λd=>k d) (k (l.eraseIdx a)) (λi b rec=> ?_) (λrec=> ?_) Z1c (Z2b (by omega))
 ·refine Eq.trans ?_ this
  rw [List.take_zero,List.eraseIdx_nil]
  rfl
 ·show j1T _ _ _ _ _ _ _=_
  unfold j1T j0b
  dsimp only
  have g:((l.take i).eraseIdx a).length<=60:=Nat.le_trans (List.eraseIdx_sublist _ _).length_le (by rw [List.length_take];omega)
  rw [ZaQ b,cond_true,j00 b,cond_true,Zay _ _ _ b,j01 (n:=(i:Int)+1) (by omega),jlm l a i b]
  have f:((i:Int) != (a:Int))= !(i==a):=by
   rw [Bool.eq_iff_iff]
   simp only [bne_iff_ne,Bool.not_eq_true',beq_eq_false_iff_ne,ne_eq,Int.natCast_inj]
  rw [f]
  cases (i==a)
  ·rw [Bool.not_false,cond_true,jcL (h _ (List.getElem_mem b)),cond_true,ZaL (by unfold LIM;omega),cond_true,cond_false]
   rfl
  ·rw [Bool.not_true,cond_false,cond_true]
   rfl
 ·show j1T _ _ _ _ _ _ _=_
  unfold j1T
  dsimp only
  rw [ZaP,cond_false,List.take_length]
end Go.PI.G
namespace Go.PI.G
open Go Go.PI Go.Proofs
theorem jpm {t:T} (ht:j05 t=true) {n:ByteArray} (f:n∈t.2.2):∃ (j:Nat) (b:j<t.2.1.length),j02 t.2.1 n=(j:Int):=by
 have g:=(((j5g _ _ _).1 ((j7h t).1 ht).2.2.2.2.2).1 n f).1
 rcases j1k t.2.1 n with ⟨d,_⟩ | ⟨j,b,d,_⟩
 ·omega
 ·exact ⟨j,b,d⟩
theorem jtA {t:T} (ht:j05 t=true) {c:C} (b:c∈t.2.1):j1a c=true:=((j6W _).1 ((j7h t).1 ht).2.2.2.2.1).1 c b
theorem jjg (t:T) (h:msr yT t<=1048576) (b:List V) (k:Bool->Res):j5t t b k=k (jb7 t b):=by
 unfold j5t jb7
 obtain ⟨m,p,q,r,w⟩:=j2U h
 rw [jdY t h]
 cases ht:j05 t
 ·rfl
 rw [Bool.not_true,cond_false,Bool.true_and]
 by_cases f:b.length=t.2.2.length
 rotate_left
 ·rw [jlx f,cond_true,decide_eq_false f,Bool.false_and]
 rw [jlw f,cond_false,decide_eq_true f,Bool.true_and]
 unfold jdm
 have:=Z9P t.2.2 (λi=>i) (λi n=> !j3Z (nth zC t.2.1 (j02 t.2.1 n)) (nth zV b (i:Int))) (step:=j5u b t.2.2 (nI t.2.2.length) t) ((λ(_:Unit)=>k true),(λ(_:Unit)=>k false)) (k true) (k false) (by unfold LIM;omega) (λi rec d=>by
  obtain ⟨j,g,l⟩:=jpm ht (List.getElem_mem d)
  show j2X _ _ _ _ _ _ _ _=_
  unfold j2X
  rw [ZaQ d,cond_true,j00 d,cond_true,j00 (f ▸ d),cond_true,Zay _ _ _ d,j6Y _ _ (by unfold LIM;omega),l,j00 g,cond_true,Zay _ _ _ g,jk6 _ (jtA ht (List.getElem_mem g)),j01 (n:=(i:Int)+1) (by omega)]) (λrec=>by
  show j2X _ _ _ _ _ _ _ _=_
  unfold j2X
  rw [ZaP,cond_false])
 refine this.trans ?_
 cases Z71 (λi n=> !j3Z (nth zC t.2.1 (j02 t.2.1 n)) (nth zV b (i:Int))) 0 t.2.2<;>rfl
theorem jhA (t:T) (l:List (List V)) (b:List V):decide (j06 t l b>=0)= !decide (j06 t l b<0):=by
 by_cases h:j06 t l b<0
 ·rw [decide_eq_true h,decide_eq_false (by omega)];rfl
 ·rw [decide_eq_false h,decide_eq_true (by omega)];rfl
theorem jqP (n:Nat) (m:Nat):(nI n==(m:Int))=(n==m):=by
 unfold nI
 rw [Bool.eq_iff_iff]
 simp only [beq_iff_eq]
 omega
theorem joF (t:T) (h:msr yT t<=1048576) (l:List (List V)) (r:List V) (k:List (List V)->Int->Res):j7L t l r k=k (j6q t l r).1 (j6q t l r).2:=by
 unfold j7L j6q
 rw [j7J t h]
 cases b:j09 t l
 ·rfl
 obtain ⟨ht,g,i⟩:=j0m b
 rw [Bool.not_true,cond_false,cond_false,jhE t h,ht,Bool.true_and]
 cases d:j0v t.2.1 r
 ·rfl
 rw [Bool.not_true,cond_false,cond_false,j7d t h ht r (j0D d),j6I t h l b,jhA]
 cases !decide (j06 t l (j07 t r)<0)
 rotate_left
 ·rfl
 rw [cond_false,cond_false,show (nI l.length==(60:Int))=(l.length==60) from jqP _ 60]
 cases (l.length==60)
 ·rw [cond_false,cond_false,jmh t h ht l r (λx f=>j0D (i x f)) g (j0D d)]
 ·rfl
theorem jgS {t:T} (h:msr yT t<=1048576) {l:List (List V)} (b:j09 t l=true):∀ x∈l,x.length<=1048576:=λx d=>by
 have f:=j0D ((j0m b).2.2 x d)
 have g:=(j2U h).2.1
 omega
theorem jfn {t:T} {l:List (List V)} {b:List V} (h:¬ j06 t l b<0):∃ i:Nat,i<l.length/\j06 t l b=(i:Int):=by
 have:=jpx t l b
 exact ⟨(j06 t l b).toNat,by omega,by omega⟩
theorem joG (t:T) (h:msr yT t<=1048576) (l:List (List V)) (b r:List V) (k:List (List V)->Int->Res):j7M t l b r k=k (j6r t l b r).1 (j6r t l b r).2:=by
 unfold j7M j6r
 rw [j7J t h]
 cases g:j09 t l
 ·rfl
 obtain ⟨ht,w,z⟩:=j0m g
 rw [Bool.not_true,cond_false,cond_false,jhE t h,ht,Bool.true_and]
 cases j:j0v t.2.1 r
 ·rfl
 rw [Bool.not_true,cond_false,cond_false,j6I t h l g,jjg t h]
 cases jb7 t b
 ·rfl
 rw [Bool.not_true,cond_false,Bool.false_or]
 by_cases d:j06 t l b<0
 ·rw [decide_eq_true d];rfl
 rw [decide_eq_false d,cond_false,cond_false]
 obtain ⟨i,y,m⟩:=jfn d
 have f:=jfe g i
 obtain ⟨_,p,q⟩:=j0m f
 rw [m,Int.toNat_natCast,jgW l i w (jgS h g),j7d t h ht r (j0D j),j6I t h _ f,jhA]
 cases !decide (j06 t (l.eraseIdx i) (j07 t r)<0)
 ·rw [cond_false,cond_false,jmh t h ht _ r (λx n=>j0D (q x n)) p (j0D j)]
 ·rfl
theorem joE (t:T) (h:msr yT t<=1048576) (l:List (List V)) (b:List V) (k:List (List V)->Int->Res):j7K t l b k=k (j6p t l b).1 (j6p t l b).2:=by
 unfold j7K j6p
 rw [j7J t h]
 cases f:j09 t l
 ·rfl
 obtain ⟨ht,j,n⟩:=j0m f
 rw [Bool.not_true,cond_false,cond_false,j6I t h l f,jjg t h]
 cases jb7 t b
 ·rfl
 rw [Bool.not_true,cond_false,Bool.false_or]
 by_cases d:j06 t l b<0
 ·rw [decide_eq_true d];rfl
 rw [decide_eq_false d,cond_false,cond_false]
 obtain ⟨i,m,g⟩:=jfn d
 rw [g,Int.toNat_natCast,jgW l i j (jgS h f)]
end Go.PI.G
namespace Go.PI.G
open Go Go.PI
def goL {α A E:Type} (f:A->α->Except E A):List α->A->Except E A
 | [],a=> .ok a
 | x::xs,a=>match f a x with
  | .ok b=>goL f xs b
  | .error e=> .error e
def jtQ (x:Int):Bool:=decide (48<=x/\x<=57)
def dgF (n x:Int):Except Unit Int:=bif jtQ x then .ok (n * 10+(x-48)) else .error ()
def rdN (l:List Int):Option Int:=bif l.headD 0==45 then (match goL dgF l.tail 0 with | .ok n=>some (-n) | .error _=>none) else match goL dgF l 0 with | .ok n=>some n | .error _=>none
theorem jpT {α:Type} (l:List α) (i:Nat):sub l (i:Int) (nI l.length)=l.drop i:=by
 unfold sub nI
 rw [show ((l.length:Int)).toNat=l.length by omega,show ((i:Int)).toNat=i by omega,List.take_length]
theorem jqV {α:Type} (l:List α) (i j:Nat):sub l (i:Int) (j:Int)=(l.take j).drop i:=by
 unfold sub
 rw [show ((j:Int)).toNat=j by omega,show ((i:Int)).toNat=i by omega]
theorem ja8 {i j n:Nat} (h:i<=j/\j<=n):Z8e (i:Int) (j:Int) n=true:=decide_eq_true (by omega)
theorem jsn {n:Nat} (h:1<=n):Z8e 1 (nI n) n=true:=decide_eq_true (by unfold nI;omega)
theorem jtz {α:Type} (l:List α):sub l 1 (nI l.length)=l.drop 1:=jpT l 1
end Go.PI.G
namespace Go.PI.G
open Go Go.PI Go.Proofs
theorem jgH {α:Type} (f:α->α) (l:List α) (i:Nat):((l.take i).map f++l.drop i).length=l.length:=by
 rw [List.length_append,List.length_map,List.length_take,List.length_drop];omega
theorem jp3 {α:Type} (f:α->α) (z:α) (l:List α) (i:Nat) (b:i<l.length):nth z ((l.take i).map f++l.drop i) (i:Int)=l[i]:=by
 rw [Zay _ _ _ (by rw [jgH];exact b),List.getElem_append_right (by rw [List.length_map,List.length_take];omega),List.getElem_drop]
 congr 1
 rw [List.length_map,List.length_take];omega
theorem jp4 {α:Type} (f:α->α) (l:List α) (i:Nat) (b:i<l.length):((l.take i).map f++l.drop i).set i (f l[i])=(l.take (i+1)).map f++l.drop (i+1):=by
 rw [List.set_append_right _ _ (by rw [List.length_map,List.length_take];omega),List.length_map,List.length_take,Nat.min_eq_left (by omega),Nat.sub_self,List.drop_eq_getElem_cons b,List.set_cons_zero,List.take_succ_eq_append_getElem b,List.map_append,List.append_assoc]
 rfl
theorem jts {α:Type} (f:α->α) (l:List α) (i:Nat) (b:i<l.length) (h:f l[i]=l[i]):(l.take (i+1)).map f++l.drop (i+1)=(l.take i).map f++l.drop i:=by
 rw [List.take_succ_eq_append_getElem b,List.map_append,List.append_assoc,List.drop_eq_getElem_cons b]
 show (l.take i).map f++([f l[i]]++l.drop (i+1))=_
 rw [h]
 rfl
noncomputable def ja6 (d:D) (c:C):List C:=bif (d.1==4)&&sEq c.1 d.2.2.2.2.1 then [] else [bif (d.1==5)&&sEq c.1 d.2.2.2.2.1 then (d.2.2.2.2.2,c.2) else c]
theorem jsi (d:D) (l:List C):(l.flatMap (ja6 d)).length<=l.length:=by
 induction l with
 | nil=>exact Nat.le_refl _
 | cons c l b=>
  rw [List.flatMap_cons,List.length_append,List.length_cons]
  have:(ja6 d c).length<=1:=by
   unfold ja6
   cases (d.1==4)&&sEq c.1 d.2.2.2.2.1<;>simp
  omega
theorem jqs (d:D) (t:T) (l:t.2.1.length<=1048576) (k:T->Res):j5U t.2.1 (nI t.2.1.length) d Z1c 0 (t.1,[],t.2.2) k=k (t.1,t.2.1.flatMap (ja6 d),t.2.2):=by
 unfold j5U
 have:=Z9T t.2.1 (λi b=>(i,(t.1,b,t.2.2))) (ja6 d) 1048576 [] (step:=j2k t.2.1 (nI t.2.1.length) d) k (λb=>k (t.1,b,t.2.2)) (by unfold LIM;omega) (λi f _=>by
  rw [List.nil_append]
  exact Nat.le_trans (jsi _ _) (by rw [List.length_take];omega)) (by simp) (λi b rec f p m=>by
  show j1i _ _ _ _ _ _ _=_
  unfold j1i j5X j5Y
  dsimp only
  have g:lim (b.length+1)=true:=ZaL (by unfold LIM;omega)
  rw [ZaQ f,cond_true,j00 f,cond_true,Zay _ _ _ f,j01 (n:=(i:Int)+1) (by omega)]
  unfold ja6
  cases j:(d.1==4)
  ·rw [cond_false,Bool.false_and,cond_false]
   cases h:(d.1==5)
   ·rw [cond_false,g,cond_true,Bool.false_and,cond_false]
   ·rw [cond_true,Bool.true_and]
    cases sEq t.2.1[i].1 d.2.2.2.2.1
    ·rw [cond_false,g,cond_true,cond_false]
    ·rw [cond_true,g,cond_true,cond_true]
  ·rw [cond_true,Bool.true_and]
   cases sEq t.2.1[i].1 d.2.2.2.2.1
   ·rw [cond_false,cond_false]
    have h:(d.1==5)=false:=by
     have:d.1=4:=by simpa using j
     rw [this];rfl
    rw [h]
    simp only [cond_false,cond_true,g,Bool.false_and]
   ·rw [cond_true,cond_true,List.append_nil]) (λb rec=>by
  show j1i _ _ _ _ _ _ _=_
  unfold j1i
  dsimp only
  rw [ZaP,cond_false])
 refine this.trans ?_
 rw [List.nil_append]
theorem jqv (d:D) (a:ByteArray) (cs:List C) (ks:List ByteArray) (j:ks.length<=1048576) (k:T->Res):j5V (nI ks.length) d Z1c 0 (a,cs,ks) k=k (a,cs,bif d.1==5 then ks.map (ren d.2.2.2.2.1 d.2.2.2.2.2) else ks):=by
 unfold j5V
 cases g:(d.1==5)
 ·refine Z3u (λi=>((i:Int),(a,cs,ks))) ks.length k (k (a,cs,ks)) (λi b rec=> ?_) (λrec=> ?_) Z1c (Z2b (by omega))
  ·show j0r _ _ _ _ _ _=_
   unfold j0r
   rw [ZaQ b,cond_true,g,cond_false,j01 (n:=(i:Int)+1) (by omega)]
   rfl
  ·show j0r _ _ _ _ _ _=_
   unfold j0r
   rw [ZaP,cond_false]
 ·have:=Z3u (step:=j4O (nI ks.length) d) (λi=>((i:Int),(a,cs,(ks.take i).map (ren d.2.2.2.2.1 d.2.2.2.2.2)++ks.drop i))) ks.length k (k (a,cs,ks.map (ren d.2.2.2.2.1 d.2.2.2.2.2))) (λi b rec=> ?_) (λrec=> ?_) Z1c (Z2b (by omega))
  ·refine Eq.trans ?_ this
   simp
  ·show j0r _ _ _ _ _ _=_
   unfold j0r
   dsimp only
   have f:inb (i:Int) ((ks.take i).map (ren d.2.2.2.2.1 d.2.2.2.2.2)++ks.drop i).length=true:=j00 (by rw [jgH];exact b)
   rw [ZaQ b,cond_true,g,cond_true,f,cond_true,jp3 _ _ _ _ b,j01 (n:=(i:Int)+1) (by omega)]
   cases h:sEq ks[i] d.2.2.2.2.1
   ·rw [cond_false,jts _ _ _ b (by unfold ren;rw [h];rfl)]
    rfl
   ·rw [cond_true,cond_true,ZaF]
    have:ren d.2.2.2.2.1 d.2.2.2.2.2 ks[i]=d.2.2.2.2.2:=by unfold ren;rw [h];rfl
    rw [<-jp4 _ _ _ b,this]
    rfl
  ·show j0r _ _ _ _ _ _=_
   unfold j0r
   dsimp only
   rw [ZaP,cond_false,List.take_length,List.drop_length,List.append_nil]
theorem jp5 (n:ByteArray) (l:List C):(l.flatMap λc=>bif sEq c.1 n then [] else [c])=l.filter λc=> !sEq c.1 n:=by
 induction l with
 | nil=>rfl
 | cons c l b=>
  rw [List.flatMap_cons,b]
  cases h:sEq c.1 n
  ·rw [List.filter_cons_of_pos (by rw [h];rfl)];rfl
  ·rw [List.filter_cons_of_neg (by rw [h];simp)];rfl
theorem jff {α β:Type} (f:α->β) (l:List α):l.flatMap (λx=>[f x])=l.map f:=by
 induction l with
 | nil=>rfl
 | cons c l b=>rw [List.flatMap_cons,b];rfl
theorem jsh (d:D) (l:List C):(d.1=3->l.flatMap (ja6 d)=l)/\(d.1=4->l.flatMap (ja6 d)=l.filter λc=> !sEq c.1 d.2.2.2.2.1)/\(d.1=5->l.flatMap (ja6 d)=l.map (j9i d.2.2.2.2.1 d.2.2.2.2.2)):=by
 refine ⟨λh=> ?_,λh=> ?_,λh=> ?_⟩
 ·have:ja6 d=λc=>[c]:=by funext c;unfold ja6;rw [h];rfl
  rw [this,j0W]
 ·have:ja6 d=λc=>bif sEq c.1 d.2.2.2.2.1 then [] else [c]:=by funext c;unfold ja6;rw [h];rfl
  rw [this,jp5]
 ·have:ja6 d=λc=>[j9i d.2.2.2.2.1 d.2.2.2.2.2 c]:=by
   funext c
   unfold ja6 j9i ren
   rw [h]
   cases sEq c.1 d.2.2.2.2.1<;>rfl
  rw [this,jff]
theorem joB (t:T) (d:D) (g:t.2.1.length<=1048576) (f:t.2.2.length<=1048576) (b:d.1=3->0<d.2.2.1.length) (j:d.1=3\/d.1=4\/d.1=5) (k:T->Res):j3V t d k=k (jaV t d):=by
 obtain ⟨m,n,p⟩:=jsh d t.2.1
 unfold j3V j5W
 simp only [Z9Q]
 rw [jcL f,cond_true,jqs _ _ g]
 dsimp only
 rw [jqv _ _ _ _ f]
 dsimp only
 rcases j with h | h | h
 ·have b:=b h
  have l:inb 0 d.2.2.1.length=true:=j00 (i:=0) b
  rw [m h,show (d.1==3)=true by rw [h];rfl,show (d.1==5)=false by rw [h];rfl,cond_true,l,cond_true,ZaL (by unfold LIM;omega),cond_true,cond_false]
  unfold jaV jko
  rw [h]
  rfl
 ·rw [n h,show (d.1==3)=false by rw [h];rfl,show (d.1==5)=false by rw [h];rfl,cond_false,cond_false]
  unfold jaV jhz
  rw [h]
  rfl
 ·rw [p h,show (d.1==3)=false by rw [h];rfl,show (d.1==5)=true by rw [h];rfl,cond_false,cond_true]
  unfold jaV jfm
  rw [h]
  rfl
theorem jgF {d:D} (b:j1b d=true):(d.1=1\/d.1=2\/d.1=3\/d.1=4\/d.1=5)/\(d.1=3->0<d.2.2.1.length):=by
 obtain ⟨_,⟨t,cs,ks,rfl,_⟩ | ⟨t,rfl⟩ | ⟨t,c,rfl,_⟩ | ⟨t,n,rfl,_⟩ | ⟨t,n,m,rfl,_⟩⟩:=j8P b<;>simp
theorem jpW (c:List T) (n:ByteArray):decide (j04 c n>=0)= !decide (j04 c n<0):=by
 by_cases h:j04 c n<0
 ·rw [decide_eq_true h,decide_eq_false (by omega)];rfl
 ·rw [decide_eq_false h,decide_eq_true (by omega)];rfl
theorem jmL (n:Nat) (m:Nat):(nI n==(m:Int))=(n==m):=by
 unfold nI
 rw [Bool.eq_iff_iff]
 simp only [beq_iff_eq]
 omega
theorem jsX {α:Type} (l:List α) (i:Nat):sub l 0 (i:Int)=l.take i:=by
 have:=jqV l 0 i
 simpa using this
theorem jk5 (c:List T) (d:D) (j:msr (.slice yT) c<=1048576) (b:dSm d) (k:List T->Int->Res):j28 c d k=k (jg1 c d).1 (jg1 c d).2:=by
 obtain ⟨y,m⟩:=jeh j
 unfold j28 jg1
 rw [jme c j]
 cases w:j2m c
 ·rfl
 rw [Bool.not_true,cond_false,Bool.false_or,jhD d b]
 cases f:j1b d
 ·rfl
 rw [Bool.not_true,cond_false,cond_false,j8y _ _ (by unfold LIM;omega),jk4 c j]
 obtain ⟨H,p⟩:=jgF f
 unfold j0c j1c
 cases q:(d.1==1)
 ·rw [cond_false,cond_false,cond_false]
  rcases j0s c d.2.1 with ⟨l,_⟩ | ⟨i,g,l,_⟩
  ·rw [l];rfl
  ·have h:decide (j04 c d.2.1<0)=false:=decide_eq_false (by omega)
   rw [h,cond_false,cond_false,l,j00 g,cond_true,Zay _ _ _ g]
   obtain ⟨I,J,K,L,M⟩:=m _ (List.getElem_mem g)
   rw [jpO _ _ (by omega) (by omega) p]
   cases G:(j0A c[i] d != 0)
   ·rw [cond_false,cond_false]
    cases r:(d.1==2)
    ·rw [cond_false,cond_false,cond_true,joB _ _ (by omega) (by omega) p (by
      have E:d.1≠1:=by simpa using q
      have F:d.1≠2:=by simpa using r
      omega),cond_true,ZaF,Int.toNat_natCast]
    ·rw [cond_true,cond_true,Int.toNat_natCast]
     unfold j7f
     have z:(sub c 0 (i:Int))=c.take i:=jsX c i
     have A:(sub c (Z9K ((i:Int)+1)) (nI c.length))=c.drop (i+1):=by
      rw [j01 (n:=(i:Int)+1) (by omega)]
      exact jpT c (i+1)
     have B:Z8e 0 (i:Int) c.length=true:=ja8 (i:=0) ⟨Nat.zero_le _,by omega⟩
     have C:Z8e (Z9K ((i:Int)+1)) (nI c.length) c.length=true:=by
      rw [j01 (n:=(i:Int)+1) (by omega)]
      exact ja8 (i:=i+1) ⟨by omega,Nat.le_refl _⟩
     rw [B,cond_true,C,cond_true,z,A,ZaL (by unfold LIM;simp;omega),cond_true,ZaL (by unfold LIM;simp;omega),cond_true,List.eraseIdx_eq_take_drop_succ]
   ·rfl
 ·rw [cond_true,cond_true,cond_true,jpW]
  cases decide (j04 c d.2.1<0)
  ·rfl
  ·rw [Bool.not_true,cond_false,cond_false,show (nI c.length==(6:Int))=(c.length==6) from jmL _ 6]
   cases (c.length==6)
   ·rw [cond_false,cond_false]
    unfold j4u
    rw [jk9 _ b.2.1 b.2.2.1,jri _ _ y]
    rfl
   ·rfl
end Go.PI.G
namespace Go.PI.G
open Go Go.PI Go.Proofs
theorem jaI {t:T} (ht:j05 t=true):msr yT t<=400:=by
 obtain ⟨a,b,c⟩:=t
 obtain ⟨d,f,g⟩:=jsI ht
 have:msr yT (a,b,c)=a.size+(msr (.slice yC) b+msr (.slice .str) c):=rfl
 omega
theorem jmB {t:T} (ht:j05 t=true):j2m [t]=true/\msr (.slice yT) [t]<=1048576:=by
 refine ⟨(j0e _).2 ⟨by simp,by simpa using ht,by simp⟩,?_⟩
 have:=jaI ht
 rw [jns]
 simp
 omega
theorem jso {t:T} (ht:j05 t=true) {d:D} (j:j1b d=true) (k:d.2.1=t.1) (f:d.1≠1):(jg1 [t] d).2=j0A t d:=by
 have b:j04 [t] d.2.1=(0:Int):=by
  have:=jfz (c:=[t]) (by simp) (i:=0) (by simp)
  rw [k]
  exact this
 have g:j0c [t] d=j0A t d:=by
  unfold j0c
  rw [show (d.1==1)=false by simpa using f,cond_false,b]
  rfl
 unfold jg1
 rw [(jmB ht).1,j,g]
 show (bif (j0A t d != 0) then (([]:List T),j0A t d) else _).2=_
 cases h:(j0A t d != 0)
 ·have:j0A t d=0:=by simpa using h
  rw [this];rfl
 ·rfl
noncomputable def jj5 (d:D) (j:Nat) (x:List V):List V:=bif d.1==3 then x++[(nth zC d.2.2.1 0).2.2.2.2] else bif d.1==4 then x.eraseIdx j else x
theorem jsj (t:T) (d:D) (l:List (List V)):jg0 t d l=l.map (jj5 d (j02 t.2.1 d.2.2.2.2.1).toNat):=by
 unfold jg0 jj5
 cases (d.1==3)
 ·cases (d.1==4)
  ·simp
  ·rfl
 ·rfl
theorem jpK (d:D) (b:Int) (x:List V) (r:x.length<=1048576) (j:d.1=4->0<=b) (k:List V->Res):j87 b x (nI x.length) d Z1c 0 [] k=k (bif d.1==4 then x.eraseIdx b.toNat else x):=by
 unfold j87
 cases h:(d.1==4)
 ·have:=Z9T x (λi g=>(i,g)) (λv=>[v]) 1048576 [] (step:=j3o b x (nI x.length) d) k k (by unfold LIM;omega) (λi f _=>by
   rw [j0W,List.nil_append,List.length_take];omega) (by simp) (λi g rec f q p=>by
   show j0H _ _ _ _ _ _ _ _=_
   unfold j0H
   dsimp only
   rw [ZaQ f,cond_true,j00 f,cond_true,show (d.1 != 4)=true by rw [bne,h];rfl,cond_true,Zay _ _ _ f,ZaL (by unfold LIM;omega),cond_true,j01 (n:=(i:Int)+1) (by omega)]) (λg rec=>by
   show j0H _ _ _ _ _ _ _ _=_
   unfold j0H
   rw [ZaP,cond_false])
  refine this.trans ?_
  rw [j0W,List.nil_append]
  rfl
 ·have j:=j (by simpa using h)
  obtain ⟨a,rfl⟩:∃ a:Nat,b=(a:Int):=⟨b.toNat,by omega⟩
  have:=Z3u (step:=j3o (a:Int) x (nI x.length) d) (λi=>((i:Int),(x.take i).eraseIdx a)) x.length k (k (x.eraseIdx a)) (λi f rec=> ?_) (λrec=> ?_) Z1c (Z2b (by omega))
  ·refine Eq.trans ?_ this
   rw [List.take_zero,List.eraseIdx_nil]
   rfl
  ·show j0H _ _ _ _ _ _ _ _=_
   unfold j0H
   dsimp only
   have m:((x.take i).eraseIdx a).length<=1048576:=Nat.le_trans (List.eraseIdx_sublist _ _).length_le (by rw [List.length_take];omega)
   rw [ZaQ f,cond_true,j00 f,cond_true,show (d.1 != 4)=false by rw [bne,h];rfl,cond_false,Zay _ _ _ f,j01 (n:=(i:Int)+1) (by omega),jlm x a i f]
   have l:((i:Int) != (a:Int))= !(i==a):=by
    rw [Bool.eq_iff_iff]
    simp only [bne_iff_ne,Bool.not_eq_true',beq_eq_false_iff_ne,ne_eq,Int.natCast_inj]
   rw [l]
   cases (i==a)
   ·rw [Bool.not_false,cond_true,ZaL (by unfold LIM;omega),cond_true,cond_false]
    rfl
   ·rw [Bool.not_true,cond_false,cond_true]
    rfl
  ·show j0H _ _ _ _ _ _ _ _=_
   unfold j0H
   dsimp only
   rw [ZaP,cond_false,List.take_length]
theorem jnb (t:T) (h:msr yT t<=1048576) (l:List (List V)) (F:j09 t l=true) (d:D) (g:dSm d) (w:j1b d=true) (G:d.2.1=t.1) (E:d.1≠1) (k:List (List V)->Int->Res) :
  j6N t l d k=k (bif j0A t d != 0 then [] else bif d.1==2 then [] else jg0 t d l) (j0A t d):=by
 obtain ⟨ht,X,P⟩:=j0m F
 obtain ⟨H,J⟩:=jgF w
 unfold j6N j5x
 rw [j7J t h,F,Bool.not_true,cond_false,jhD d g,w,Bool.not_true,cond_false]
 have B:sNe d.2.1 t.1=false:=by unfold sNe;rw [G];simp
 rw [B,cond_false,show (d.1==1)=false by simpa using E]
 dsimp only
 rw [cond_false,jk5 _ _ (jmB ht).2 g,jso ht w G E]
 cases K:(j0A t d != 0)
 rotate_left
 ·rfl
 have f:j0A t d=0:=by simpa using K
 have M:=(j2U h).2.1
 rw [cond_false,cond_false,j6Y _ _ (by unfold LIM;omega),f]
 have L:d.1=4->0<=j02 t.2.1 d.2.2.2.2.1:=λr=>by
  by_cases A:j02 t.2.1 d.2.2.2.2.1<0
  ·unfold j0A at f
   rw [r] at f
   simp only [show ((4:Int)==3)=false from rfl,show ((4:Int)==4)=true from rfl,cond_false,cond_true,decide_eq_true A] at f
   cases f
  ·omega
 unfold jbv
 have:=Z9T l (λi b=>(b,i)) (λx=>bif d.1 != 2 then [jj5 d (j02 t.2.1 d.2.2.2.2.1).toNat x] else []) 60 [] (step:=j3p (j02 t.2.1 d.2.2.2.2.1) l (nI l.length) d) (λb=>k b 0) (λb=>k b 0) (by unfold LIM;omega) (λi j _=> ?_) (by simp) (λi b rec j R Q=>by
  have U:l[i].length=t.2.1.length:=j0D (P _ (List.getElem_mem j))
  show j1Y _ _ _ _ _ _ _ _=_
  unfold j1Y j88
  dsimp only
  rw [ZaQ j,cond_true,j00 j,cond_true,Zay _ _ _ j,jpK d _ _ (by omega) L,j01 (n:=(i:Int)+1) (by omega)]
  have p:lim (b.length+1)=true:=ZaL (by unfold LIM;omega)
  cases q:(d.1==3)
  ·rw [cond_false]
   cases (d.1 != 2)
   ·rw [cond_false,cond_false,List.append_nil]
   ·rw [cond_true,cond_true,p,cond_true]
    unfold jj5
    rw [q,cond_false]
  ·have e:d.1=3:=by simpa using q
   have z:inb 0 d.2.2.1.length=true:=j00 (i:=0) (J e)
   have r:(d.1==4)=false:=by rw [e];rfl
   have I:(d.1 != 2)=true:=by rw [e];rfl
   rw [cond_true,r,cond_false,z,cond_true,ZaL (by unfold LIM;omega),cond_true,I,cond_true,cond_true,p,cond_true]
   unfold jj5
   rw [q,cond_true]) (λb rec=>by
  show j1Y _ _ _ _ _ _ _ _=_
  unfold j1Y
  dsimp only
  rw [ZaP,cond_false])
 ·refine this.trans ?_
  rw [List.nil_append]
  congr 1
  cases C:(d.1==2)
  ·have:(d.1 != 2)=true:=by rw [bne,C];rfl
   rw [this,cond_false,jsj]
   show l.flatMap (λx=>[jj5 d _ x])=_
   exact jff _ _
  ·have:(d.1 != 2)=false:=by rw [bne,C];rfl
   rw [this,cond_true]
   show l.flatMap (λx=>[])=_
   simp
 ·rw [List.nil_append]
  have:∀ m:List (List V),(m.flatMap λx=>bif d.1 != 2 then [jj5 d (j02 t.2.1 d.2.2.2.2.1).toNat x] else []).length<=m.length:=by
   intro m
   induction m with
   | nil=>exact Nat.le_refl _
   | cons y m W=>
    rw [List.flatMap_cons,List.length_append,List.length_cons]
    have:(bif d.1 != 2 then [jj5 d (j02 t.2.1 d.2.2.2.2.1).toNat y] else []).length<=1:=by cases (d.1 != 2)<;>simp
    omega
  exact Nat.le_trans (this _) (by rw [List.length_take];omega)
end Go.PI.G
namespace Go.PI.G
open Go Go.PI Go.Proofs
theorem jqn (t:T) (b:t.2.1.length<=1048576) (d:t.2.2.length<=1048576) (k:T->Res):j3M t k=k t:=by
 unfold j3M j3N
 rw [jcL b,cond_true,jcL d,cond_true]
theorem jjV (c:List T) (f:msr (.slice yT) c<=1048576) (k:List T->Res):j43 c k=k c:=by
 obtain ⟨h,ht⟩:=jeh f
 unfold j43 jfi
 have:=Z9T c (λi b=>(i,b)) (λx=>[x]) 1048576 [] (step:=j9g c (nI c.length)) (λb=>k b) (λb=>k b) (by unfold LIM;omega) (λi d _=>by
  rw [j0W,List.nil_append,List.length_take];omega) (by simp) (λi b rec d j g=>by
  show j3j _ _ _ _ _ _=_
  unfold j3j
  obtain ⟨l,m,p,q,r⟩:=ht _ (List.getElem_mem d)
  dsimp only
  rw [ZaQ d,cond_true,j00 d,cond_true,Zay _ _ _ d,jqn _ (by omega) (by omega),ZaL (by unfold LIM;omega),cond_true,j01 (n:=(i:Int)+1) (by omega)]) (λb rec=>by
  show j3j _ _ _ _ _ _=_
  unfold j3j
  dsimp only
  rw [ZaP,cond_false])
 refine this.trans ?_
 rw [j0W,List.nil_append]
theorem jjW (c:List T) (d:D) (y:msr (.slice yT) c<=1048576) (f:j1b d=true) (k:Int->Res):j2E c d k=k (j0c c d):=by
 obtain ⟨A,p⟩:=jeh y
 obtain ⟨z,w⟩:=jgF f
 unfold j2E j0c
 rw [j69 _ _ (by unfold LIM;omega)]
 cases q:(d.1==1)
 ·rw [cond_false,cond_false]
  rcases j0s c d.2.1 with ⟨m,_⟩ | ⟨i,g,m,_⟩
  ·rw [m];rfl
  ·have l:decide (j04 c d.2.1<0)=false:=decide_eq_false (by omega)
   rw [l,cond_false,cond_false,m,j00 g,cond_true,Zay _ _ _ g]
   obtain ⟨B,C,E,F,G⟩:=p _ (List.getElem_mem g)
   generalize c[i]=t at *
   have b:∀ n (K:Int->Res),j0h t n K=K (j02 t.2.1 n):=λn K=>j8g _ _ (by unfold LIM;omega) K
   unfold j5c j7Z j5d j0A
   have r:d.1≠1:=by simpa using q
   rcases z with h | h | h | h | h
   ·exact absurd h r
   ·rw [h];rfl
   ·have j:inb 0 d.2.2.1.length=true:=j00 (i:=0) (w h)
    rw [h]
    show (bif inb 0 d.2.2.1.length then _ else none)=_
    rw [j,cond_true,b,jhg]
    show _=k (bif !decide (j02 t.2.1 (nth zC d.2.2.1 0).1<0) then 5 else bif t.2.1.length==8 then 6 else 0)
    cases !decide (j02 t.2.1 (nth zC d.2.2.1 0).1<0)
    ·show (bif (nI t.2.1.length==(8:Int)) then k 6 else _)=_
     rw [show (nI t.2.1.length==(8:Int))=(t.2.1.length==8) from jmL _ 8]
     cases (t.2.1.length==8)<;>rfl
    ·rfl
   ·rw [h]
    simp only [show ((4:Int)==3)=false from rfl,show ((4:Int)==4)=true from rfl,show ((4:Int)==5)=false from rfl,cond_false,cond_true,b]
    cases decide (j02 t.2.1 d.2.2.2.2.1<0)
    ·rw [cond_false,cond_false,jr2 _ _ (by unfold LIM;omega)]
     show (bif jg2 t.2.2 d.2.2.2.2.1 then k 8 else k 0)=k (bif jg2 t.2.2 d.2.2.2.2.1 then 8 else 0)
     cases jg2 t.2.2 d.2.2.2.2.1<;>rfl
    ·rfl
   ·rw [h]
    simp only [show ((5:Int)==3)=false from rfl,show ((5:Int)==4)=false from rfl,show ((5:Int)==5)=true from rfl,cond_false,cond_true,b,jhg]
    cases !decide (j02 t.2.1 d.2.2.2.2.2<0)
    ·simp only [cond_false]
     cases decide (j02 t.2.1 d.2.2.2.2.1<0)<;>rfl
    ·rfl
 ·rw [cond_true,cond_true,jpW]
  cases decide (j04 c d.2.1<0)
  ·rfl
  ·rw [Bool.not_true,cond_false,cond_false,show (nI c.length==(6:Int))=(c.length==6) from jmL _ 6]
   cases (c.length==6)<;>rfl
theorem jq0 {α:Type} (p:α->Bool):(l:List α)->(i:Nat)->i<(l.takeWhile p).length->∃ h:i<l.length,p l[i]=true
 | [],i,h=>by simp at h
 | x::l,i,h=>by
  cases b:p x
  ·rw [List.takeWhile_cons_of_neg (by rw [b];simp)] at h;simp at h
  ·rw [List.takeWhile_cons_of_pos b,List.length_cons] at h
   cases i with
   | zero=>exact ⟨by simp,b⟩
   | succ i=>
    obtain ⟨f,d⟩:=jq0 p l i (by omega)
    exact ⟨by rw [List.length_cons];omega,d⟩
theorem jpZ {α:Type} (p:α->Bool):(l:List α)->(h:(l.takeWhile p).length<l.length)->p l[(l.takeWhile p).length]=false
 | [],h=>by simp at h
 | x::l,h=>by
  cases b:p x
  ·have e:(x::l).takeWhile p=[]:=List.takeWhile_cons_of_neg (by rw [b];simp)
   simp only [e,List.length_nil,List.getElem_cons_zero]
   exact b
  ·have e:(x::l).takeWhile p=x::l.takeWhile p:=List.takeWhile_cons_of_pos b
   simp only [e,List.length_cons,List.getElem_cons_succ] at h ⊢
   exact jpZ p l (by omega)
theorem jpc (d:D) (c:List T) (l:c.length<=1048576) (k:Int->Res):jaa d c Z1c 0 k=k (((c.takeWhile λy=>sLt y.1 d.2.1).length:Nat):Int):=by
 have j:(c.takeWhile λy=>sLt y.1 d.2.1).length<=c.length:=(List.takeWhile_sublist _).length_le
 refine Z3u (step:=j57 d c) (λi=>(i:Int)) (c.takeWhile λy=>sLt y.1 d.2.1).length k _ (λi g rec=> ?_) (λrec=> ?_) Z1c (Z2b (by omega))
 ·obtain ⟨b,f⟩:=jq0 _ c i g
  show j2C _ _ _ _ _=_
  unfold j2C
  rw [ZaQ b,cond_true,j00 b,cond_true,Zay _ _ _ b,f,cond_true,j01 (n:=(i:Int)+1) (by omega)]
  rfl
 ·show j2C _ _ _ _ _=_
  unfold j2C
  by_cases h:(c.takeWhile λy=>sLt y.1 d.2.1).length<c.length
  ·rw [ZaQ h,cond_true,j00 h,cond_true,Zay _ _ _ h,jpZ (λy:T=>sLt y.1 d.2.1) c h,cond_false]
  ·rw [decide_eq_false (show ¬ (((c.takeWhile λy=>sLt y.1 d.2.1).length:Nat):Int)<nI c.length by unfold nI;omega),cond_false]
end Go.PI.G
namespace Go.PI.G
open Go Go.PI Go.Proofs
theorem jtt (l:List ByteArray) (v:ByteArray) (h:l.length<=LIM) (k:Int->Res):j0Z l v k=k (Z9F (λx=>sEq v x) l):=by
 unfold j0Z j5H
 refine Z9S l (λi=>i) (λx=>sEq v x) (step:=j1R l v (nI l.length)) ((λ(_:Unit)=>k (-1)),(λ(t:Int)=>k t)) k h (λi rec b=> ?_) (λrec=> ?_)
 ·show j0d _ _ _ _ _ _ _=_
  unfold j0d
  unfold LIM at h
  rw [ZaQ b,cond_true,j00 b,cond_true,Zay _ _ _ b,j01 (n:=(i:Int)+1) (by omega)]
 ·show j0d _ _ _ _ _ _ _=_
  unfold j0d
  rw [ZaP,cond_false]
end Go.PI.G
namespace Go.PI.G
open Go Go.PI Go.Proofs
theorem joY {α:Type} {g:α->(Bool->Res)->Res} (q:α->Bool):(l:List α)->(∀ x∈l,∀ k,g x k=k (q x))->(d:List α)->(k:List α->Res)->dgE g l d k=k (d++l.filter λx=> !q x)
 | [],_,d,k=>by rw [List.filter_nil,List.append_nil];rfl
 | x::l,h,d,k=>by
  show g x (λb=>dgE g l (bif b then d else d++[x]) k)=_
  rw [h x (by simp),joY q l λy i=>h y (List.mem_cons_of_mem _ i)]
  cases f:q x
  ·rw [List.filter_cons_of_pos (by rw [f];rfl),cond_false,List.append_assoc];rfl
  ·rw [List.filter_cons_of_neg (by rw [f];simp),cond_true]
theorem jqU {α:Type} (p:α->Bool) (g:α->α) (l:List α) (i:Nat) (n:i<l.length) (d:p l[i]=true) (f:∀ j (b:j<l.length),j≠i->p l[j]=false):l.map (λx=>bif p x then g x else x)=l.set i (g l[i]):=by
 apply List.ext_getElem
 ·simp
 ·intro j k m
  have b:j<l.length:=by simpa using k
  rw [List.getElem_map,List.getElem_set]
  by_cases e:i=j
  ·subst e
   rw [if_pos rfl,d,cond_true]
  ·rw [if_neg e,f j b λh=>e h.symm,cond_false]
theorem map_none {α:Type} (p:α->Bool) (g:α->α) (l:List α) (h:∀ x∈l,p x=false):l.map (λx=>bif p x then g x else x)=l:=by
 induction l with
 | nil=>rfl
 | cons x l d=>rw [List.map_cons,h x (by simp),cond_false,d λy b=>h y (List.mem_cons_of_mem _ b)]
theorem jn1 {α:Type} {R:α->α->Prop} {l:List α} (h:l.Pairwise R) {i j:Nat} (d:i<l.length) (f:j<l.length) (e:i≠j):R l[i] l[j]\/R l[j] l[i]:=by
 rcases Nat.lt_or_gt_of_ne e with b | b
 ·exact .inl (List.pairwise_iff_getElem.1 h i j d f b)
 ·exact .inr (List.pairwise_iff_getElem.1 h j i f d b)
theorem jdV (n:Nat):(Z9o n n&&true)=true:=by
 rw [Bool.and_true]
 exact Nat.beq_refl n
theorem jsU {l:List C} (k:j53 l=true) (n m:ByteArray) {i:Nat} (f:i<l.length) (h:l[i].1=n):l.map (j9i n m)=l.set i (m,l[i].2):=by
 have p:=((j6W l).1 k).2
 have:j9i n m=λc:C=>bif sEq c.1 n then (m,c.2) else c:=by
  funext c
  unfold j9i ren
  cases sEq c.1 n<;>rfl
 rw [this]
 refine jqU (λc:C=>sEq c.1 n) (λc=>(m,c.2)) l i f ((j0a _ _).2 h) λj g e=> ?_
 have:l[j].1≠n:=λd=>by
  rcases jn1 p f g e.symm with b | b
  ·exact b (h.trans d.symm)
  ·exact b (d.trans h.symm)
 cases q:sEq l[j].1 n
 ·rfl
 ·exact absurd ((j0a _ _).1 q) this
theorem jsV {cs:List C} {ks:List ByteArray} (q:j1m cs (-1) ks=true) (n m:ByteArray):ks.map (ren n m)=bif decide (Z9F (λx=>sEq n x) ks>=0) then ks.set (Z9F (λx=>sEq n x) ks).toNat m else ks:=by
 have w:=((j5g cs ks (-1)).1 q).2
 have:ren n m=λs=>bif sEq s n then m else s:=by funext s;rfl
 rw [this]
 have d:∀ a b:ByteArray,sEq a b=sEq b a:=λa b=>by
  rw [Bool.eq_iff_iff,j0a,j0a]
  exact ⟨Eq.symm,Eq.symm⟩
 rcases jaW (λx=>sEq n x) ks with ⟨g,f⟩ | ⟨i,k,g,f,_⟩
 ·rw [g]
  exact map_none (λs=>sEq s n) (λ_=>m) ks λx z=>by rw [d];exact f x z
 ·rw [g,decide_eq_true (by omega),cond_true,Int.toNat_natCast]
  refine jqU (λs=>sEq s n) (λ_=>m) ks i k (by rw [d];exact f) λj p e=> ?_
  have r:n=ks[i]:=(j0a _ _).1 f
  cases y:sEq ks[j] n
  ·rfl
  ·have l:ks[j]=ks[i]:=((j0a _ _).1 y).trans r
   rcases jn1 w k p e.symm with h | h<;>rw [l] at h<;>exact absurd h (Int.lt_irrefl _)
theorem jtB {α:Type} (z:α) (l:List α) (i:Nat) (b:i<l.length) (x:α):nth z (upd l (i:Int) x) (i:Int)=x:=by
 rw [ZaF,Zay _ _ _ (by simpa using b),List.getElem_set_self]
theorem jr0 (c:List T) (d:D) (i:Nat) (b:i<c.length) (Q:c.length<=1048576) (ht:j05 c[i]=true) (K:tSm c[i]) (l:j0A c[i] d=0) (I:d.1=2\/d.1=3\/d.1=4\/d.1=5) (w:d.1=3->0<d.2.2.1.length) (k:List T->Res) :
  j1z (i:Int) d.1 d c k=k (bif d.1==2 then c.eraseIdx i else c.set i (jaV c[i] d)):=by
 obtain ⟨V,W,X,Y,Z⟩:=K
 obtain ⟨_,t1,t2,t3,L,M⟩:=(j7h _).1 ht
 unfold j1z
 have f:inb (i:Int) c.length=true:=j00 b
 rcases I with h | h | h | h
 ·rw [h]
  simp only [show ((2:Int)==1)=false from rfl,show ((2:Int)==2)=true from rfl,cond_false,cond_true]
  unfold j4M jc1
  rw [j01 (n:=(i:Int)+1) (by omega),show Z8e (i:Int) ((i:Int)+1) c.length=true from ja8 (j:=i+1) ⟨by omega,by omega⟩,cond_true,List.eraseIdx_eq_take_drop_succ]
  rfl
 ·have w:=w h
  have m:∀ x:T,inb (i:Int) (c.set i x).length=true:=λx=>j00 (by simpa using b)
  have p:inb 0 d.2.2.1.length=true:=j00 (i:=0) w
  rw [h]
  simp only [show ((3:Int)==1)=false from rfl,show ((3:Int)==2)=false from rfl,show ((3:Int)==3)=true from rfl,cond_false,cond_true]
  rw [f,cond_true,p,cond_true,Zay _ _ _ b,ZaL (by unfold LIM;omega),cond_true,ZaF,m,cond_true,jdV,cond_true]
  unfold jaV jko
  rw [h]
  rfl
 ·rw [h]
  simp only [show ((4:Int)==1)=false from rfl,show ((4:Int)==2)=false from rfl,show ((4:Int)==3)=false from rfl,show ((4:Int)==4)=true from rfl,cond_false,cond_true]
  rw [f,cond_true,Zay _ _ _ b]
  unfold j2W
  rw [ZaL (by unfold LIM;omega),cond_true,joY (g:=λ(e:C) k=>jc4 e d k) (λx:C=>sEq x.1 d.2.2.2.2.1) c[i].2.1 (λx R U=>rfl),List.nil_append]
  simp only [jdV,cond_true,ZaF]
  unfold jaV jhz
  rw [h]
  rfl
 ·have P:¬ j02 c[i].2.1 d.2.2.2.2.1<0:=λA=>by
   unfold j0A at l
   rw [h] at l
   simp only [show ((5:Int)==3)=false from rfl,show ((5:Int)==4)=false from rfl,show ((5:Int)==5)=true from rfl,cond_false,cond_true,decide_eq_true A] at l
   cases H: !decide (j02 c[i].2.1 d.2.2.2.2.2<0)<;>rw [H] at l<;>cases l
  rcases j1k c[i].2.1 d.2.2.2.2.1 with ⟨B,_⟩ | ⟨j,y,B,z,_⟩
  ·omega
  rw [h]
  simp only [show ((5:Int)==1)=false from rfl,show ((5:Int)==2)=false from rfl,show ((5:Int)==3)=false from rfl,show ((5:Int)==4)=false from rfl,show ((5:Int)==5)=true from rfl,cond_false,cond_true]
  rw [f,cond_true,j8g _ _ (by rw [Zay _ _ _ b];unfold LIM;omega)]
  simp only [Zay _ _ _ b,jtB _ _ _ b]
  rw [B]
  simp only [Zay _ _ _ y]
  rw [j00 y,cond_true,jtt _ _ (by unfold LIM;omega)]
  have E:=jsU L d.2.2.2.2.1 d.2.2.2.2.2 y z
  have F:=jsV M d.2.2.2.2.1 d.2.2.2.2.2
  have G:jaV c[i] d=(c[i].1,c[i].2.1.map (j9i d.2.2.2.2.1 d.2.2.2.2.2),c[i].2.2.map (ren d.2.2.2.2.1 d.2.2.2.2.2)):=by
   unfold jaV jfm
   rw [h]
   rfl
  rw [G,E,F]
  rcases jaW (λx=>sEq d.2.2.2.2.1 x) c[i].2.2 with ⟨r,_⟩ | ⟨q,J,r,_,_⟩
  ·rw [r,ZaF,ZaF]
   rfl
  ·rw [r,decide_eq_true (by omega),cond_true,cond_true,j00 J,cond_true]
   simp only [ZaF,Int.toNat_natCast]
   rw [List.set_set]
theorem jqi (c:List T) (d:D) (z:msr (.slice yT) c<=1048576) (n:dSm d) (k:List T->Int->Res):j4S c d k=k (jg1 c d).1 (jg1 c d).2:=by
 obtain ⟨G,C⟩:=jeh z
 unfold j4S jg1
 rw [jlo c z]
 cases A:j2m c
 ·rfl
 rw [Bool.not_true,cond_false,Bool.false_or,jhl d n]
 cases m:j1b d
 ·rfl
 rw [Bool.not_true,cond_false,cond_false,jjW _ _ z m,jjV c z,j69 _ _ (by unfold LIM;omega)]
 obtain ⟨L,H⟩:=jgF m
 cases f:(j0c c d != 0)
 rotate_left
 ·rfl
 rw [cond_false,cond_false]
 have f:j0c c d=0:=by simpa using f
 have B:=(j0e c).1 A
 by_cases F:d.1=1
 ·unfold j0c at f
  unfold j1c
  rw [F] at f ⊢
  simp only [show ((1:Int)==1)=true from rfl,cond_true] at f ⊢
  rcases j0s c d.2.1 with ⟨w,r⟩ | ⟨i,j,w,_⟩
  ·unfold j1z
   simp only [show ((1:Int)==1)=true from rfl,cond_true]
   rw [jpc _ _ G,jjX _ n]
   unfold j4N jg5
   obtain ⟨p,M,g,q⟩:=jqO (R:=tR) (λa b h=>js0 h) (x:=((d.2.1,d.2.2.1,d.2.2.2.1):T)) (l:=c) (λy K=>jj7 λe=>r y K e.symm)
   have g:p=(c.takeWhile λy=>sLt y.1 d.2.1).length:=g
   rw [<-g]
   have I:jkr (p:Int) c.length [((d.2.1,d.2.2.1,d.2.2.2.1):T)].length=true:=decide_eq_true ⟨by omega,by omega,by simp,by simp;unfold LIM;omega⟩
   rw [I,cond_true,q,Int.toNat_natCast,List.append_assoc]
   rfl
  ·rw [decide_eq_false (by omega)] at f
   cases f
 ·have J:d.1=2\/d.1=3\/d.1=4\/d.1=5:=by omega
  unfold j0c at f
  unfold j1c
  have E:(d.1==1)=false:=by simpa using F
  rw [E,cond_false] at f
  rw [E,cond_false]
  rcases j0s c d.2.1 with ⟨w,r⟩ | ⟨i,j,w,_⟩
  ·rw [decide_eq_true (by omega)] at f
   cases f
  ·rw [decide_eq_false (by omega),cond_false,w,Zay _ _ _ j] at f
   rw [w,Zay _ _ _ j,Int.toNat_natCast,jr0 c d i j G (B.2.1 _ (List.getElem_mem j)) (C _ (List.getElem_mem j)) f J H]
end Go.PI.G
namespace Go.PI.G
open Go Go.PI Go.Proofs
theorem j8h (l:List (List V)) (h:l.length<=1048576) (f:∀ x∈l,x.length<=1048576) (k:List (List V)->Res):j0x l k=k l:=by
 unfold j0x jeo
 have:=Z9T l (λi b=>(b,i)) (λx=>[x]) 1048576 [] (step:=j8k l (nI l.length)) (λb=>k b) (λb=>k b) (by unfold LIM;omega) (λi d _=>by
  rw [j0W,List.nil_append,List.length_take];omega) (by simp) (λi b rec d j g=>by
  show j2D _ _ _ _ _ _=_
  unfold j2D j0y
  dsimp only
  rw [ZaQ d,cond_true,j00 d,cond_true,Zay _ _ _ d,jcL (f _ (List.getElem_mem d)),cond_true,ZaL (by unfold LIM;omega),cond_true,j01 (n:=(i:Int)+1) (by omega)]) (λb rec=>by
  show j2D _ _ _ _ _ _=_
  unfold j2D
  dsimp only
  rw [ZaP,cond_false])
 refine this.trans ?_
 rw [j0W,List.nil_append]
theorem jls (t:T) (h:msr yT t<=1048576) (ht:j05 t=true) (l:List (List V)) (r:List V) (g:∀ x∈l,x.length=t.2.1.length) (p:l.length<=60) (j:r.length=t.2.1.length) (k:Int->Res) :
  jc8 l t r Z1c 0 k=k (((l.takeWhile λy=>kR t y r).length:Nat):Int):=by
 have f:∀ x:List V,(j07 t x).length<=LIM:=λx=>by
  rw [jab]
  have:=(j2U h).2.2.1
  unfold LIM;omega
 have q:(l.takeWhile λy=>kR t y r).length<=l.length:=(List.takeWhile_sublist _).length_le
 refine Z3u (step:=j45 l t r) (λi=>(i:Int)) (l.takeWhile λy=>kR t y r).length k _ (λi m rec=> ?_) (λrec=> ?_) Z1c (Z2b (by omega))
 ·obtain ⟨b,d⟩:=jq0 _ l i m
  have d:klt (j07 t l[i]) (j07 t r)=true:=d
  show j2o _ _ _ _ _ _=_
  unfold j2o
  rw [ZaQ b,cond_true,j00 b,cond_true,Zay _ _ _ b,j3A t h ht _ (g _ (List.getElem_mem b)),j3A t h ht r j,jc3 _ _ (f _),d,cond_true,j01 (n:=(i:Int)+1) (by omega)]
  rfl
 ·show j2o _ _ _ _ _ _=_
  unfold j2o
  by_cases b:(l.takeWhile λy=>kR t y r).length<l.length
  ·have d:klt (j07 t l[(l.takeWhile λy=>kR t y r).length]) (j07 t r)=false:=jpZ (λy=>kR t y r) l b
   rw [ZaQ b,cond_true,j00 b,cond_true,Zay _ _ _ b,j3A t h ht _ (g _ (List.getElem_mem b)),j3A t h ht r j,jc3 _ _ (f _),d,cond_false]
  ·rw [decide_eq_false (show ¬ (((l.takeWhile λy=>kR t y r).length:Nat):Int)<nI l.length by unfold nI;omega),cond_false]
theorem jr5 (t:T):∀ a b:List V,kR t a b=true->kR t b a=false:=λa b h=>jrO h
theorem ji0 (t:T) (h:msr yT t<=1048576) (ht:j05 t=true) (l:List (List V)) (r:List V) (n:∀ x∈l,j0v t.2.1 x=true) (f:l.length<=60) (q:j0v t.2.1 r=true) (g:∀ x∈l,j07 t x≠j07 t r) (k:List (List V)->Res) :
  j2x t l r k=k (jhr t l r):=by
 have A:=(j2U h).2.1
 have b:∀ x∈l,x.length=t.2.1.length:=λx m=>j0D (n x m)
 have j:=j0D q
 unfold j2x
 rw [jls t h ht l r b f j,j8h l (by omega) (λx m=>by rw [b x m];omega)]
 unfold j0y j5Q jg5
 rw [jcL (by omega),cond_true]
 obtain ⟨p,B,i,d⟩:=jqO (R:=kR t) (jr5 t) (x:=r) (l:=l) (λy w=>jpk ht q (n y w) (λe=>g y w e.symm))
 rw [<-i]
 have z:jkr (p:Int) l.length [r].length=true:=decide_eq_true ⟨by omega,by omega,by simp,by simp;unfold LIM;omega⟩
 dsimp only
 rw [z,cond_true,Int.toNat_natCast,List.append_assoc]
 unfold jhr
 rw [d]
 rfl
theorem jtf {t:T} {l:List (List V)} {b:List V} (h:j06 t l b<0):∀ x∈l,j07 t x≠b:=jpr h
theorem jo7 (t:T) (h:msr yT t<=1048576) (l:List (List V)) (r:List V) (k:List (List V)->Int->Res):j7G t l r k=k (j6q t l r).1 (j6q t l r).2:=by
 unfold j7G j6q
 rw [j9w t h]
 cases d:j09 t l
 ·rfl
 obtain ⟨ht,g,i⟩:=j0m d
 rw [Bool.not_true,cond_false,cond_false,jhm t h]
 cases f:j0v t.2.1 r
 ·rfl
 rw [Bool.not_true,cond_false,cond_false,j3A t h ht r (j0D f),j1M t h l d,jhA]
 by_cases b:j06 t l (j07 t r)<0
 rotate_left
 ·rw [decide_eq_false b];rfl
 rw [decide_eq_true b,Bool.not_true,cond_false,cond_false,show (nI l.length==(60:Int))=(l.length==60) from jqP _ 60]
 cases (l.length==60)
 ·rw [cond_false,cond_false,ji0 t h ht l r i g f (jtf b)]
 ·rfl
theorem jrN {t:T} (ht:j05 t=true) {n:ByteArray} (d:n∈t.2.2) (v:V):j3Z (nth zC t.2.1 (j02 t.2.1 n)) v=(j0w v&&(v.1==(nth zC t.2.1 (j02 t.2.1 n)).2.1)):=by
 have b:=(((j5g _ _ _).1 ((j7h t).1 ht).2.2.2.2.2).1 n d).2
 unfold j3Z
 rw [b,Bool.not_true,Bool.and_false,Bool.or_false]
theorem jiO (t:T) (h:msr yT t<=1048576) (b:List V) (k:Bool->Res):j58 t b k=k (jb7 t b):=by
 unfold j58 jb7
 obtain ⟨p,q,r,w,y⟩:=j2U h
 rw [jhn t h]
 cases ht:j05 t
 ·rfl
 rw [Bool.not_true,cond_false,Bool.true_and]
 by_cases f:b.length=t.2.2.length
 rotate_left
 ·rw [jlx f,cond_true,decide_eq_false f,Bool.false_and]
 rw [jlw f,cond_false,decide_eq_true f,Bool.true_and]
 unfold jd8
 have:=Z9P t.2.2 (λi=>i) (λi n=> !j3Z (nth zC t.2.1 (j02 t.2.1 n)) (nth zV b (i:Int))) (step:=j59 b t.2.2 (nI t.2.2.length) t) ((λ(_:Unit)=>k true),(λ(_:Unit)=>k false)) (k true) (k false) (by unfold LIM;omega) (λi rec d=>by
  have g:=jrN ht (List.getElem_mem d) (nth zV b (i:Int))
  obtain ⟨j,l,m⟩:=jpm ht (List.getElem_mem d)
  show j2S _ _ _ _ _ _ _ _=_
  unfold j2S
  rw [g,ZaQ d,cond_true,j00 d,cond_true,j00 (f ▸ d),cond_true,j8Q,Zay _ _ _ d]
  cases j0w (nth zV b (i:Int))
  ·rfl
  ·rw [Bool.not_true,cond_false,cond_true,j8g _ _ (by unfold LIM;omega),m,j00 l,cond_true,j01 (n:=(i:Int)+1) (by omega),Bool.true_and]
   rfl) (λrec=>by
  show j2S _ _ _ _ _ _ _ _=_
  unfold j2S
  rw [ZaP,cond_false])
 refine this.trans ?_
 cases Z71 (λi n=> !j3Z (nth zC t.2.1 (j02 t.2.1 n)) (nth zV b (i:Int))) 0 t.2.2<;>rfl
theorem jnl (l:List (List V)) (i:Nat) (b:i<l.length) (d:l.length<=60) (k:List (List V)->Res):j0X l (i:Int) (Z9K ((i:Int)+1)) k=k (l.eraseIdx i):=by
 unfold j0X jc1
 rw [j01 (n:=(i:Int)+1) (by omega),show Z8e (i:Int) ((i:Int)+1) l.length=true from ja8 (j:=i+1) ⟨by omega,by omega⟩,cond_true,List.eraseIdx_eq_take_drop_succ]
 rfl
theorem jo8 (t:T) (h:msr yT t<=1048576) (l:List (List V)) (d r:List V) (k:List (List V)->Int->Res):j7H t l d r k=k (j6r t l d r).1 (j6r t l d r).2:=by
 unfold j7H j6r
 rw [j9w t h]
 cases g:j09 t l
 ·rfl
 obtain ⟨ht,D,H⟩:=j0m g
 rw [Bool.not_true,cond_false,cond_false,jhm t h]
 cases w:j0v t.2.1 r
 ·rfl
 rw [Bool.not_true,cond_false,cond_false,jiO t h]
 cases jb7 t d
 ·rfl
 rw [Bool.not_true,cond_false,Bool.false_or,j1M t h l g]
 by_cases f:j06 t l d<0
 ·rw [decide_eq_true f];rfl
 rw [decide_eq_false f,cond_false,cond_false,j3A t h ht r (j0D w),jnD g f]
 obtain ⟨i,A,m⟩:=jfn f
 have p:=jfe g i
 obtain ⟨_,B,C⟩:=j0m p
 have b:=jnD g (now:=j07 t r) f
 rw [m,Int.toNat_natCast] at b
 have n:(j07 t r).length<=LIM:=by
  rw [jab]
  have:=(j2U h).2.2.1
  unfold LIM;omega
 unfold j6d
 rw [jaX _ _ n,m,Int.toNat_natCast,j1M t h l g,jhA]
 have j:decide (j06 t (l.eraseIdx i) (j07 t r)<0)=true->j0x l (λE=>j0X E (i:Int) (Z9K ((i:Int)+1)) λF=>j2x t F r λG=>k G 0)=k (jhr t (l.eraseIdx i) r) 0:=λz=>by
  rw [j8h l (by omega) (jgS h g),jnl l i A D,ji0 t h ht _ r C B w (jtf (of_decide_eq_true z))]
 cases q:j0z zV veq (j07 t r) d
 ·rw [q] at b
  rw [Bool.not_false,cond_true,Bool.true_and]
  rw [Bool.not_false,Bool.true_and] at b
  cases y: !decide (j06 t l (j07 t r)<0)
  ·rw [y] at b
   rw [cond_false,cond_false,j1M t h l g,m]
   exact j (by simpa using b)
  ·rfl
 ·rw [q] at b
  rw [Bool.not_true,cond_false,Bool.false_and,cond_false,j1M t h l g,m]
  exact j (by simpa using b)
theorem jo6 (t:T) (h:msr yT t<=1048576) (l:List (List V)) (b:List V) (k:List (List V)->Int->Res):j7F t l b k=k (j6p t l b).1 (j6p t l b).2:=by
 unfold j7F j6p
 rw [j9w t h]
 cases f:j09 t l
 ·rfl
 obtain ⟨ht,m,n⟩:=j0m f
 rw [Bool.not_true,cond_false,cond_false,jiO t h]
 cases jb7 t b
 ·rfl
 rw [Bool.not_true,cond_false,Bool.false_or,j1M t h l f]
 by_cases d:j06 t l b<0
 ·rw [decide_eq_true d];rfl
 rw [decide_eq_false d,cond_false,cond_false]
 obtain ⟨i,j,g⟩:=jfn d
 rw [j1M t h l f,g,Int.toNat_natCast,j8h l (by omega) (jgS h f),jnl l i j m]
end Go.PI.G
