/-
  Program's code interpreted over typed values; printed texts; plain laws. No conditions.
-/
import Derived.Test.YtnemiodjnhfejaaGreatMIi
import Derived.Test.YtnemiodjnhfejaaGreatMIe
import Derived.Test.YtnemiodjnhfejaaGreatMIf
import Derived.Test.YtnemiodjnhfejaaGreatMIk
import Derived.Test.YtnemiodjnhfejaaGreatMIj
set_option linter.unusedVariables false
set_option linter.unusedSimpArgs false
namespace Go.PI.G
open Go Go.PI Go.Proofs
theorem jcr (c:List T) (n:ByteArray) (h:c.length<=LIM) (k:Int->Res):j22 c n k=k (j04 c n):=by
 unfold j22 jfx
 refine Z9S c (λi=>i) (λt=>sEq t.1 n) (step:=j9E n c (nI c.length)) _ k h (λi rec b=> ?_) (λrec=> ?_)
 ·show j4s n _ _ _ _ _ _=_
  unfold j4s
  unfold LIM at h
  rw [ZaQ b,cond_true,j00 b,cond_true,Zay _ _ _ b,j01 (n:=(i:Int)+1) (by omega)]
 ·show j4s n _ _ _ _ _ _=_
  unfold j4s
  rw [ZaP,cond_false]
theorem j6U (c:List T) (n:ByteArray) (h:c.length<=LIM) (k:Int->Res):j0i c n k=k (j04 c n):=by
 unfold j0i j4y j6E
 refine Z9S c (λi=>i) (λt=>sEq t.1 n) (step:=j29 c n (nI c.length)) _ k h (λi rec b=> ?_) (λrec=> ?_)
 ·show j0z _ n _ _ _ _ _=_
  unfold j0z jc3
  unfold LIM at h
  rw [ZaQ b,cond_true,j00 b,cond_true,Zay _ _ _ b,j01 (n:=(i:Int)+1) (by omega)]
 ·show j0z _ n _ _ _ _ _=_
  unfold j0z
  rw [ZaP,cond_false]
end Go.PI.G
namespace Go.PI.G
open Go Go.PI Go.Proofs
noncomputable def jdv (p:List ByteArray) (s:ByteArray):Bool:=p.any λx=>sEq x s
theorem jlN {α:Type} (q:α->Bool) (l:List α):decide (Z9F q l>=0)=l.any q:=by
 unfold Z9F
 cases h:l.findIdx? q with
 | none=>
  have:=List.findIdx?_eq_none_iff.1 h
  have b:l.any q=false:=by
   rw [List.any_eq_false]
   intro x g
   rw [this x g];simp
  rw [b];rfl
 | some i=>
  have:=List.findIdx?_eq_some_iff_getElem.1 h
  obtain ⟨d,f,_⟩:=this
  have b:l.any q=true:=List.any_eq_true.2 ⟨l[i],List.getElem_mem d,f⟩
  rw [b]
  show decide ((i:Int)>=0)=true
  exact decide_eq_true (by omega)
theorem jnv (l:List ByteArray) (s:ByteArray) (h:l.length<=LIM) (k:Bool->Res):j14 l s k=k (jdv l s):=by
 unfold j14 j0H j4z jdv
 have:=Z9S l (λi=>i) (λx=>sEq s x) (step:=j1q l s (nI l.length)) ((λ(_:Unit)=>k (decide ((-1:Int)>=0))),(λ(t:Int)=>k (decide (t>=0)))) (λr=>k (decide (r>=0))) h (λi rec b=>by
  show j0c _ _ _ _ _ _ _=_
  unfold j0c
  unfold LIM at h
  rw [ZaQ b,cond_true,j00 b,cond_true,Zay _ _ _ b,j01 (n:=(i:Int)+1) (by omega)]) (λrec=>by
  show j0c _ _ _ _ _ _ _=_
  unfold j0c
  rw [ZaP,cond_false])
 refine this.trans ?_
 rw [jlN]
 have:(λx=>sEq s x)=λx=>sEq x s:=by funext x;exact Zag s x
 rw [this]
end Go.PI.G
namespace Go.PI.G
open Go Go.PI Go.Proofs
theorem jnM (l:List ByteArray) (s:ByteArray) (h:l.length<=LIM) (k:Bool->Res):j8b l s k=k (jdv l s):=by
 unfold j8b jen jdv
 have:=Za2 l (λi=>i) (λx=>sEq x s) (step:=j8E s l (nI l.length)) ((λ(_:Unit)=>k false),(λ(_:Unit)=>k true)) (k false) (k true) h (λi rec b=>by
  show j3B _ _ _ _ _ _ _=_
  unfold j3B
  unfold LIM at h
  rw [ZaQ b,cond_true,j00 b,cond_true,Zay _ _ _ b,j01 (n:=(i:Int)+1) (by omega)]) (λrec=>by
  show j3B _ _ _ _ _ _ _=_
  unfold j3B
  rw [ZaP,cond_false])
 refine this.trans ?_
 cases l.any λx=>sEq x s<;>rfl
end Go.PI.G
namespace Go.PI.G
open Go Go.PI Go.Proofs
theorem jaO {n:Nat} (h:n<=1048576):lim (0+n)=true:=ZaL (by unfold LIM;omega)
theorem jhb (t:T) (b:t.2.1.length<=1048576) (d:t.2.2.length<=1048576) (k:T->Res):j3Z t k=k t:=by
 unfold j3Z
 simp only [Z9Q]
 rw [jaO b,cond_true,jaO d,cond_true]
theorem jc1 {c:List T} (b:msr (.slice yT) c<=1048576):c.length<=1048576/\∀ t∈c,tSm t:=⟨j0M b,λt ht=>j2g (j1U b ht)⟩
theorem j0F {α:Type}:(l:List α)->l.flatMap (λx=>[x])=l
 | []=>rfl
 | x::l=>by rw [List.flatMap_cons,j0F l];rfl
theorem jh8 (c:List T) (f:msr (.slice yT) c<=1048576) (k:List T->Res):j3A c k=k c:=by
 obtain ⟨h,ht⟩:=jc1 f
 unfold j3A jd4
 have:=Z9T c (λi b=>(i,b)) (λx=>[x]) 1048576 [] (step:=j7R c (nI c.length)) (λb=>k b) (λb=>k b) (by unfold LIM;omega) (λi d _=>by
  rw [j0F,List.nil_append,List.length_take];omega) (by simp) (λi b rec d j g=>by
  show j2L _ _ _ _ _ _=_
  unfold j2L
  obtain ⟨l,m,p,q,r⟩:=ht _ (List.getElem_mem d)
  dsimp only
  rw [ZaQ d,cond_true,j00 d,cond_true,Zay _ _ _ d,jhb _ (by omega) (by omega),ZaL (by unfold LIM;omega),cond_true,j01 (n:=(i:Int)+1) (by omega)]) (λb rec=>by
  show j2L _ _ _ _ _ _=_
  unfold j2L
  dsimp only
  rw [ZaP,cond_false])
 refine this.trans ?_
 rw [j0F,List.nil_append]
noncomputable def j9n (t:T) (a:Bool×List T) (x:T):Bool×List T:=bif !a.1&&tR t x then (true,a.2++[t]++[x]) else (a.1,a.2++[x])
theorem jkg (t:T):(l:List T)->(b:List T)->l.foldl (j9n t) (true,b)=(true,b++l)
 | [],b=>by simp
 | x::l,b=>by
  rw [List.foldl_cons]
  show l.foldl (j9n t) (true,b++[x])=_
  rw [jkg t l,List.append_assoc];rfl
theorem jm9 (t:T):(l:List T)->(b:List T)->(bif !(l.foldl (j9n t) (false,b)).1 then (l.foldl (j9n t) (false,b)).2++[t] else (l.foldl (j9n t) (false,b)).2)=b++lay tR t l
 | [],b=>rfl
 | x::l,b=>by
  rw [List.foldl_cons]
  unfold lay
  cases d:tR t x
  ·have:j9n t (false,b) x=(false,b++[x]):=by unfold j9n;rw [d];rfl
   rw [this,jm9 t l,List.takeWhile_cons_of_pos (by rw [d];rfl),List.dropWhile_cons_of_pos (by rw [d];rfl)]
   unfold lay
   simp
  ·have:j9n t (false,b) x=(true,b++[t]++[x]):=by unfold j9n;rw [d];rfl
   rw [this,jkg,List.takeWhile_cons_of_neg (by rw [d];simp),List.dropWhile_cons_of_neg (by rw [d];simp)]
   simp
theorem jpi (t:T) (a:Bool×List T) (x:T):(j9n t a x).2.length<=a.2.length+2:=by
 unfold j9n
 cases !a.1&&tR t x<;>simp
theorem jnP (c:List T) (t:T) (j:c.length<=1048576) (k:List T->Res):j8c c t k=k (lay tR t c):=by
 unfold j8c jax
 have:=Z8i c (λi (a:Bool×List T)=>(a.1,i,a.2)) (j9n t) (λi a=>a.2.length<=2 * i) (step:=j8F c (nI c.length) t) (λdone b=>bif !done then bif lim (b.length+1) then k (b++[t]) else none else k b)
  (λa=>bif !a.1 then k (a.2++[t]) else k a.2) (false,[]) (by unfold LIM;omega) (by simp) (λi a f h=>by have:=jpi t a c[i];omega) (λi a rec f h=>by
  show j3C _ _ _ _ _ _ _ _=_
  unfold j3C jay
  dsimp only
  rw [ZaQ f,cond_true,j00 f,cond_true,Zay _ _ _ f]
  have g:lim (a.2.length+1)=true:=ZaL (by unfold LIM;omega)
  have d:lim ((a.2++[t]).length+1)=true:=ZaL (by unfold LIM;simp;omega)
  unfold j9n tR
  cases a.1
  ·rw [Bool.not_false,cond_true,Bool.true_and]
   cases sLt t.1 c[i].1
   ·rw [cond_false,cond_false,g,cond_true,j01 (n:=(i:Int)+1) (by omega)]
   ·rw [cond_true,cond_true,g,cond_true,d,cond_true,j01 (n:=(i:Int)+1) (by omega)]
  ·rw [Bool.not_true,cond_false,Bool.false_and,cond_false,g,cond_true,j01 (n:=(i:Int)+1) (by omega)]) (λa rec h=>by
  show j3C _ _ _ _ _ _ _ _=_
  unfold j3C
  dsimp only
  rw [ZaP,cond_false]
  cases a.1
  ·rw [Bool.not_false,cond_true,cond_true,ZaL (by unfold LIM;omega),cond_true]
  ·rfl)
 refine this.trans ?_
 have d:=jm9 t c []
 rw [List.nil_append] at d
 rw [<-d]
 cases (c.foldl (j9n t) (false,[])).1<;>rfl
theorem jeD (l:List C) (n:ByteArray):decide (j02 l n>=0)= !decide (j02 l n<0):=by
 by_cases h:j02 l n<0
 ·rw [decide_eq_true h,decide_eq_false (by omega)];rfl
 ·rw [decide_eq_false h,decide_eq_true (by omega)];rfl
theorem jmr (t:T) (d:D) (l:t.2.1.length<=1048576) (m:t.2.2.length<=1048576) (b:d.1=3->0<d.2.2.1.length) (k:Int->Res):j3Y t d k=k (j0n t d):=by
 unfold j3Y j0n
 rw [j5G _ _ (by unfold LIM;omega)]
 cases f:(d.1==3)
 ·rw [cond_false,cond_false]
  cases h:(d.1==4)
  ·rw [cond_false,cond_false]
   cases j:(d.1==5)
   ·rfl
   ·rw [cond_true,cond_true,j5G _ _ (by unfold LIM;omega),jeD]
    cases !decide (j02 t.2.1 d.2.2.2.2.2<0)
    ·cases decide (j02 t.2.1 d.2.2.2.2.1<0)<;>rfl
    ·rfl
  ·rw [cond_true,cond_true]
   cases decide (j02 t.2.1 d.2.2.2.2.1<0)
   ·rw [cond_false,cond_false,jnM _ _ (by unfold LIM;omega)]
    show (bif jdv t.2.2 d.2.2.2.2.1 then k 8 else k 0)=k (bif jdv t.2.2 d.2.2.2.2.1 then 8 else 0)
    cases jdv t.2.2 d.2.2.2.2.1<;>rfl
   ·rfl
 ·rw [cond_true,cond_true]
  have b:=b (by simpa using f)
  have g:inb 0 d.2.2.1.length=true:=j00 (i:=0) b
  rw [g,cond_true,j5G _ _ (by unfold LIM;omega),jeD]
  cases !decide (j02 t.2.1 (nth zC d.2.2.1 0).1<0)
  ·rw [cond_false,cond_false]
   have:(nI t.2.1.length==8)=(t.2.1.length==8):=by
    unfold nI
    rw [Bool.eq_iff_iff]
    simp only [beq_iff_eq]
    omega
   rw [this]
   cases (t.2.1.length==8)<;>rfl
  ·rfl
end Go.PI.G
namespace Go.PI.G
open Go Go.PI Go.Proofs
noncomputable def j9o {α:Type} (R:α->α->Bool) (t:α) (a:Bool×List α) (x:α):Bool×List α:=bif !a.1&&R t x then (true,a.2++[t]++[x]) else (a.1,a.2++[x])
theorem jkh {α:Type} (R:α->α->Bool) (t:α):(l:List α)->(b:List α)->l.foldl (j9o R t) (true,b)=(true,b++l)
 | [],b=>by simp
 | x::l,b=>by
  rw [List.foldl_cons]
  show l.foldl (j9o R t) (true,b++[x])=_
  rw [jkh R t l,List.append_assoc];rfl
theorem jma {α:Type} (R:α->α->Bool) (t:α):(l:List α)->(b:List α)->(bif !(l.foldl (j9o R t) (false,b)).1 then (l.foldl (j9o R t) (false,b)).2++[t] else (l.foldl (j9o R t) (false,b)).2)=b++lay R t l
 | [],b=>rfl
 | x::l,b=>by
  rw [List.foldl_cons]
  unfold lay
  cases d:R t x
  ·have:j9o R t (false,b) x=(false,b++[x]):=by unfold j9o;rw [d];rfl
   rw [this,jma R t l,List.takeWhile_cons_of_pos (by rw [d];rfl),List.dropWhile_cons_of_pos (by rw [d];rfl)]
   unfold lay
   simp
  ·have:j9o R t (false,b) x=(true,b++[t]++[x]):=by unfold j9o;rw [d];rfl
   rw [this,jkh,List.takeWhile_cons_of_neg (by rw [d];simp),List.dropWhile_cons_of_neg (by rw [d];simp)]
   simp
theorem jpj {α:Type} (R:α->α->Bool) (t:α) (a:Bool×List α) (x:α):(j9o R t a x).2.length<=a.2.length+2:=by
 unfold j9o
 cases !a.1&&R t x<;>simp
theorem jjK {t:T} (ht:j03 t=true) {r:List V} (h:r.length=t.2.1.length):lim (0+r.length)=true:=by
 have:=((j5W t).1 ht).2.2.1
 exact jaO (by omega)
theorem jiZ (t:T) (h:msr yT t<=1048576) (ht:j03 t=true) (l:List (List V)) (r:List V) (z:∀ x∈l,x.length=t.2.1.length) (A:l.length<=60) (n:r.length=t.2.1.length) (k:List (List V)->Res):j2Z t l r k=k (jeL t l r):=by
 have p:∀ x:List V,(j05 t x).length<=LIM:=λx=>by
  rw [j8t]
  have:=(j2g h).2.2.1
  unfold LIM;omega
 unfold j2Z jaz j0t
 have:=Z8i l (λi (a:Bool×List (List V))=>(a.2,a.1,i)) (j9o (kR t) r) (λi a=>a.2.length<=2 * i) (step:=j3F l (nI l.length) t r) (λb done=>bif !done then bif lim (0+r.length) then bif lim (b.length+1) then k (b++[r]) else none else none else k b)
  (λa=>bif !a.1 then k (a.2++[r]) else k a.2) (false,[]) (by unfold LIM;omega) (by simp) (λi a d p=>by have:=jpj (kR t) r a l[i];omega) (λi a rec d y=>by
  show j1W _ _ _ _ _ _ _ _ _=_
  unfold j1W j5A j0t
  dsimp only
  have q:=z _ (List.getElem_mem d)
  rw [ZaQ d,cond_true,j00 d,cond_true,Zay _ _ _ d]
  have g:lim (a.2.length+1)=true:=ZaL (by unfold LIM;omega)
  have f:lim ((a.2++[r]).length+1)=true:=ZaL (by unfold LIM;simp;omega)
  have j:lim (0+(l[i]).length)=true:=jjK ht q
  have w:lim (0+r.length)=true:=jjK ht n
  have m:Z9K ((i:Int)+1)=(i:Int)+1:=j01 (by omega)
  unfold j9o
  cases a.1
  ·simp only [Bool.not_false,cond_true,Bool.true_and]
   rw [j5S t h ht r n,j5S t h ht _ q,jek _ _ (p _)]
   unfold kR
   cases klt (j05 t r) (j05 t l[i])
   ·simp only [cond_false,cond_true,j,g,m]
   ·simp only [cond_true,w,g,j,f,m]
  ·simp only [Bool.not_true,cond_false,Bool.false_and,j,g,m,cond_true]) (λa rec y=>by
  show j1W _ _ _ _ _ _ _ _ _=_
  unfold j1W
  dsimp only
  rw [ZaP,cond_false]
  cases a.1
  ·simp only [Bool.not_false,cond_true,jjK ht n]
   rw [ZaL (by unfold LIM;omega),cond_true]
  ·rfl)
 refine this.trans ?_
 have f:=jma (kR t) r l []
 rw [List.nil_append] at f
 unfold jeL
 rw [<-f]
 cases (l.foldl (j9o (kR t) r) (false,[])).1<;>rfl
theorem jih {α:Type} (l:List α) (a i:Nat) (f:i<l.length):(l.take (i+1)).eraseIdx a=bif i==a then (l.take i).eraseIdx a else (l.take i).eraseIdx a++[l[i]]:=by
 have g:(l.take i).length=i:=by rw [List.length_take];omega
 rw [List.take_succ_eq_append_getElem f]
 by_cases h:a<i
 ·rw [List.eraseIdx_append_of_lt_length (by omega),show (i==a)=false from beq_eq_false_iff_ne.2 (by omega),cond_false]
 ·rw [List.eraseIdx_append_of_length_le (by omega),g]
  by_cases e:i=a
  ·subst e
   have b:[l[i]].eraseIdx (i-i)=[]:=by rw [Nat.sub_self];rfl
   have d:(l.take i).eraseIdx i=l.take i:=List.eraseIdx_of_length_le (by omega)
   rw [show (i==i)=true from beq_self_eq_true i,cond_true,b,d,List.append_nil]
  ·have b:[l[i]].eraseIdx (a-i)=[l[i]]:=List.eraseIdx_of_length_le (by simp only [List.length_cons,List.length_nil];omega)
   have d:(l.take i).eraseIdx a=l.take i:=List.eraseIdx_of_length_le (by omega)
   rw [show (i==a)=false from beq_eq_false_iff_ne.2 e,cond_false,b,d]
theorem jel (l:List (List V)) (a:Nat) (j:l.length<=60) (h:∀ x∈l,x.length<=1048576) (k:List (List V)->Res):j1t l (a:Int) k=k (l.eraseIdx a):=by
 unfold j1t jaW
 have:=Z3u (step:=j5V (a:Int) l (nI l.length)) (λi=>((l.take i).eraseIdx a,(i:Int))) l.length (λd=>k d) (k (l.eraseIdx a)) (λi b rec=> ?_) (λrec=> ?_) Z1c (Z2b (by omega))
 ·refine Eq.trans ?_ this
  rw [List.take_zero,List.eraseIdx_nil]
  rfl
 ·show j1u _ _ _ _ _ _ _=_
  unfold j1u j0t
  dsimp only
  have g:((l.take i).eraseIdx a).length<=60:=Nat.le_trans (List.eraseIdx_sublist _ _).length_le (by rw [List.length_take];omega)
  rw [ZaQ b,cond_true,j00 b,cond_true,Zay _ _ _ b,j01 (n:=(i:Int)+1) (by omega),jih l a i b]
  have f:((i:Int) != (a:Int))= !(i==a):=by
   rw [Bool.eq_iff_iff]
   simp only [bne_iff_ne,Bool.not_eq_true',beq_eq_false_iff_ne,ne_eq,Int.natCast_inj]
  rw [f]
  cases (i==a)
  ·rw [Bool.not_false,cond_true,jaO (h _ (List.getElem_mem b)),cond_true,ZaL (by unfold LIM;omega),cond_true,cond_false]
   rfl
  ·rw [Bool.not_true,cond_false,cond_true]
   rfl
 ·show j1u _ _ _ _ _ _ _=_
  unfold j1u
  dsimp only
  rw [ZaP,cond_false,List.take_length]
end Go.PI.G
namespace Go.PI.G
open Go Go.PI Go.Proofs
theorem jm1 {t:T} (ht:j03 t=true) {n:ByteArray} (f:n∈t.2.2):∃ (j:Nat) (b:j<t.2.1.length),j02 t.2.1 n=(j:Int):=by
 have g:=(((j4f _ _ _).1 ((j5W t).1 ht).2.2.2.2.2).1 n f).1
 rcases j10 t.2.1 n with ⟨d,_⟩ | ⟨j,b,d,_⟩
 ·omega
 ·exact ⟨j,b,d⟩
theorem jq3 {t:T} (ht:j03 t=true) {c:C} (b:c∈t.2.1):j0R c=true:=((j5E _).1 ((j5W t).1 ht).2.2.2.2.1).1 c b
theorem jgz (t:T) (h:msr yT t<=1048576) (b:List V) (k:Bool->Res):j4m t b k=k (j9g t b):=by
 unfold j4m j9g
 obtain ⟨m,p,q,r,w⟩:=j2g h
 rw [jbI t h]
 cases ht:j03 t
 ·rfl
 rw [Bool.not_true,cond_false,Bool.true_and]
 by_cases f:b.length=t.2.2.length
 rotate_left
 ·rw [jip f,cond_true,decide_eq_false f,Bool.false_and]
 rw [jio f,cond_false,decide_eq_true f,Bool.true_and]
 unfold jbf
 have:=Z9P t.2.2 (λi=>i) (λi n=> !j3b (nth zC t.2.1 (j02 t.2.1 n)) (nth zV b (i:Int))) (step:=j4n b t.2.2 (nI t.2.2.length) t) ((λ(_:Unit)=>k true),(λ(_:Unit)=>k false)) (k true) (k false) (by unfold LIM;omega) (λi rec d=>by
  obtain ⟨j,g,l⟩:=jm1 ht (List.getElem_mem d)
  show j2k _ _ _ _ _ _ _ _=_
  unfold j2k
  rw [ZaQ d,cond_true,j00 d,cond_true,j00 (f ▸ d),cond_true,Zay _ _ _ d,j5G _ _ (by unfold LIM;omega),l,j00 g,cond_true,Zay _ _ _ g,jha _ (jq3 ht (List.getElem_mem g)),j01 (n:=(i:Int)+1) (by omega)]) (λrec=>by
  show j2k _ _ _ _ _ _ _ _=_
  unfold j2k
  rw [ZaP,cond_false])
 refine this.trans ?_
 cases Z71 (λi n=> !j3b (nth zC t.2.1 (j02 t.2.1 n)) (nth zV b (i:Int))) 0 t.2.2<;>rfl
theorem jeR (t:T) (l:List (List V)) (b:List V):decide (j06 t l b>=0)= !decide (j06 t l b<0):=by
 by_cases h:j06 t l b<0
 ·rw [decide_eq_true h,decide_eq_false (by omega)];rfl
 ·rw [decide_eq_false h,decide_eq_true (by omega)];rfl
theorem jng (n:Nat) (m:Nat):(nI n==(m:Int))=(n==m):=by
 unfold nI
 rw [Bool.eq_iff_iff]
 simp only [beq_iff_eq]
 omega
theorem jlf (t:T) (h:msr yT t<=1048576) (l:List (List V)) (r:List V) (k:List (List V)->Int->Res):j6n t l r k=k (j5b t l r).1 (j5b t l r).2:=by
 unfold j6n j5b
 rw [j6l t h]
 cases b:j08 t l
 ·rfl
 obtain ⟨ht,g,i⟩:=j0g b
 rw [Bool.not_true,cond_false,cond_false,jeV t h,ht,Bool.true_and]
 cases d:j0k t.2.1 r
 ·rfl
 rw [Bool.not_true,cond_false,cond_false,j5S t h ht r (j0q d),j9x t h l b,jeR]
 cases !decide (j06 t l (j05 t r)<0)
 rotate_left
 ·rfl
 rw [cond_false,cond_false,show (nI l.length==(60:Int))=(l.length==60) from jng _ 60]
 cases (l.length==60)
 ·rw [cond_false,cond_false,jiZ t h ht l r (λx f=>j0q (i x f)) g (j0q d)]
 ·rfl
theorem jeg {t:T} (h:msr yT t<=1048576) {l:List (List V)} (b:j08 t l=true):∀ x∈l,x.length<=1048576:=λx d=>by
 have f:=j0q ((j0g b).2.2 x d)
 have g:=(j2g h).2.1
 omega
theorem jcY {t:T} {l:List (List V)} {b:List V} (h:¬ j06 t l b<0):∃ i:Nat,i<l.length/\j06 t l b=(i:Int):=by
 have:=jmb t l b
 exact ⟨(j06 t l b).toNat,by omega,by omega⟩
theorem jlg (t:T) (h:msr yT t<=1048576) (l:List (List V)) (b r:List V) (k:List (List V)->Int->Res):j6o t l b r k=k (j5c t l b r).1 (j5c t l b r).2:=by
 unfold j6o j5c
 rw [j6l t h]
 cases g:j08 t l
 ·rfl
 obtain ⟨ht,w,z⟩:=j0g g
 rw [Bool.not_true,cond_false,cond_false,jeV t h,ht,Bool.true_and]
 cases j:j0k t.2.1 r
 ·rfl
 rw [Bool.not_true,cond_false,cond_false,j9x t h l g,jgz t h]
 cases j9g t b
 ·rfl
 rw [Bool.not_true,cond_false,Bool.false_or]
 by_cases d:j06 t l b<0
 ·rw [decide_eq_true d];rfl
 rw [decide_eq_false d,cond_false,cond_false]
 obtain ⟨i,y,m⟩:=jcY d
 have f:=jcP g i
 obtain ⟨_,p,q⟩:=j0g f
 rw [m,Int.toNat_natCast,jel l i w (jeg h g),j5S t h ht r (j0q j),j9x t h _ f,jeR]
 cases !decide (j06 t (l.eraseIdx i) (j05 t r)<0)
 ·rw [cond_false,cond_false,jiZ t h ht _ r (λx n=>j0q (q x n)) p (j0q j)]
 ·rfl
theorem jle (t:T) (h:msr yT t<=1048576) (l:List (List V)) (b:List V) (k:List (List V)->Int->Res):j6m t l b k=k (j5a t l b).1 (j5a t l b).2:=by
 unfold j6m j5a
 rw [j6l t h]
 cases f:j08 t l
 ·rfl
 obtain ⟨ht,j,n⟩:=j0g f
 rw [Bool.not_true,cond_false,cond_false,j9x t h l f,jgz t h]
 cases j9g t b
 ·rfl
 rw [Bool.not_true,cond_false,Bool.false_or]
 by_cases d:j06 t l b<0
 ·rw [decide_eq_true d];rfl
 rw [decide_eq_false d,cond_false,cond_false]
 obtain ⟨i,m,g⟩:=jcY d
 rw [g,Int.toNat_natCast,jel l i j (jeg h f)]
end Go.PI.G
namespace Go.PI.G
open Go Go.PI
def goL {α A E:Type} (f:A->α->Except E A):List α->A->Except E A
 | [],a=> .ok a
 | x::xs,a=>match f a x with
  | .ok b=>goL f xs b
  | .error e=> .error e
def jqh (x:Int):Bool:=decide (48<=x/\x<=57)
def dgF (n x:Int):Except Unit Int:=bif jqh x then .ok (n * 10+(x-48)) else .error ()
def rdN (l:List Int):Option Int:=bif l.headD 0==45 then (match goL dgF l.tail 0 with | .ok n=>some (-n) | .error _=>none) else match goL dgF l 0 with | .ok n=>some n | .error _=>none
theorem jpq {α:Type} (l:List α) (i:Nat):sub l (i:Int) (nI l.length)=l.drop i:=by
 unfold sub nI
 rw [show ((l.length:Int)).toNat=l.length by omega,show ((i:Int)).toNat=i by omega,List.take_length]
theorem jjU {α:Type} (l:List α) (i j:Nat):sub l (i:Int) (j:Int)=(l.take j).drop i:=by
 unfold sub
 rw [show ((j:Int)).toNat=j by omega,show ((i:Int)).toNat=i by omega]
theorem j6R {i j n:Nat} (h:i<=j/\j<=n):Z8e (i:Int) (j:Int) n=true:=decide_eq_true (by omega)
end Go.PI.G
namespace Go.PI.G
open Go Go.PI Go.Proofs
theorem je8 {α:Type} (f:α->α) (l:List α) (i:Nat):((l.take i).map f++l.drop i).length=l.length:=by
 rw [List.length_append,List.length_map,List.length_take,List.length_drop];omega
theorem jlK {α:Type} (f:α->α) (z:α) (l:List α) (i:Nat) (b:i<l.length):nth z ((l.take i).map f++l.drop i) (i:Int)=l[i]:=by
 rw [Zay _ _ _ (by rw [je8];exact b),List.getElem_append_right (by rw [List.length_map,List.length_take];omega),List.getElem_drop]
 congr 1
 rw [List.length_map,List.length_take];omega
theorem jlL {α:Type} (f:α->α) (l:List α) (i:Nat) (b:i<l.length):((l.take i).map f++l.drop i).set i (f l[i])=(l.take (i+1)).map f++l.drop (i+1):=by
 rw [List.set_append_right _ _ (by rw [List.length_map,List.length_take];omega),List.length_map,List.length_take,Nat.min_eq_left (by omega),Nat.sub_self,List.drop_eq_getElem_cons b,List.set_cons_zero,List.take_succ_eq_append_getElem b,List.map_append,List.append_assoc]
 rfl
theorem jpW {α:Type} (f:α->α) (l:List α) (i:Nat) (b:i<l.length) (h:f l[i]=l[i]):(l.take (i+1)).map f++l.drop (i+1)=(l.take i).map f++l.drop i:=by
 rw [List.take_succ_eq_append_getElem b,List.map_append,List.append_assoc,List.drop_eq_getElem_cons b]
 show (l.take i).map f++([f l[i]]++l.drop (i+1))=_
 rw [h]
 rfl
noncomputable def j8q (d:D) (c:C):List C:=bif (d.1==4)&&sEq c.1 d.2.2.2.2.1 then [] else [bif (d.1==5)&&sEq c.1 d.2.2.2.2.1 then (d.2.2.2.2.2,c.2) else c]
theorem joN (d:D) (l:List C):(l.flatMap (j8q d)).length<=l.length:=by
 induction l with
 | nil=>exact Nat.le_refl _
 | cons c l b=>
  rw [List.flatMap_cons,List.length_append,List.length_cons]
  have:(j8q d c).length<=1:=by
   unfold j8q
   cases (d.1==4)&&sEq c.1 d.2.2.2.2.1<;>simp
  omega
theorem jmV (d:D) (t:T) (l:t.2.1.length<=1048576) (k:T->Res):j4J t.2.1 (nI t.2.1.length) d Z1c 0 (t.1,[],t.2.2) k=k (t.1,t.2.1.flatMap (j8q d),t.2.2):=by
 unfold j4J
 have:=Z9T t.2.1 (λi b=>(i,(t.1,b,t.2.2))) (j8q d) 1048576 [] (step:=j1O t.2.1 (nI t.2.1.length) d) k (λb=>k (t.1,b,t.2.2)) (by unfold LIM;omega) (λi f _=>by
  rw [List.nil_append]
  exact Nat.le_trans (joN _ _) (by rw [List.length_take];omega)) (by simp) (λi b rec f p m=>by
  show j0Y _ _ _ _ _ _ _=_
  unfold j0Y j4M j4N
  dsimp only
  have g:lim (b.length+1)=true:=ZaL (by unfold LIM;omega)
  rw [ZaQ f,cond_true,j00 f,cond_true,Zay _ _ _ f,j01 (n:=(i:Int)+1) (by omega)]
  unfold j8q
  cases j:(d.1==4)
  ·rw [cond_false,Bool.false_and,cond_false]
   cases h:(d.1==5)
   ·rw [cond_false,g,cond_true,Bool.false_and,cond_false]
   ·rw [cond_true,Bool.true_and]
    cases sEq t.2.1[i].1 d.2.2.2.2.1
    ·rw [cond_false,g,cond_true,cond_false]
    ·rw [cond_true,g,cond_true,cond_true]
  ·rw [cond_true,Bool.true_and]
   cases sEq t.2.1[i].1 d.2.2.2.2.1
   ·rw [cond_false,cond_false]
    have h:(d.1==5)=false:=by
     have:d.1=4:=by simpa using j
     rw [this];rfl
    rw [h]
    simp only [cond_false,cond_true,g,Bool.false_and]
   ·rw [cond_true,cond_true,List.append_nil]) (λb rec=>by
  show j0Y _ _ _ _ _ _ _=_
  unfold j0Y
  dsimp only
  rw [ZaP,cond_false])
 refine this.trans ?_
 rw [List.nil_append]
theorem jmY (d:D) (a:ByteArray) (cs:List C) (ks:List ByteArray) (j:ks.length<=1048576) (k:T->Res):j4K (nI ks.length) d Z1c 0 (a,cs,ks) k=k (a,cs,bif d.1==5 then ks.map (ren d.2.2.2.2.1 d.2.2.2.2.2) else ks):=by
 unfold j4K
 cases g:(d.1==5)
 ·refine Z3u (λi=>((i:Int),(a,cs,ks))) ks.length k (k (a,cs,ks)) (λi b rec=> ?_) (λrec=> ?_) Z1c (Z2b (by omega))
  ·show j0h _ _ _ _ _ _=_
   unfold j0h
   rw [ZaQ b,cond_true,g,cond_false,j01 (n:=(i:Int)+1) (by omega)]
   rfl
  ·show j0h _ _ _ _ _ _=_
   unfold j0h
   rw [ZaP,cond_false]
 ·have:=Z3u (step:=j3R (nI ks.length) d) (λi=>((i:Int),(a,cs,(ks.take i).map (ren d.2.2.2.2.1 d.2.2.2.2.2)++ks.drop i))) ks.length k (k (a,cs,ks.map (ren d.2.2.2.2.1 d.2.2.2.2.2))) (λi b rec=> ?_) (λrec=> ?_) Z1c (Z2b (by omega))
  ·refine Eq.trans ?_ this
   simp
  ·show j0h _ _ _ _ _ _=_
   unfold j0h
   dsimp only
   have f:inb (i:Int) ((ks.take i).map (ren d.2.2.2.2.1 d.2.2.2.2.2)++ks.drop i).length=true:=j00 (by rw [je8];exact b)
   rw [ZaQ b,cond_true,g,cond_true,f,cond_true,jlK _ _ _ _ b,j01 (n:=(i:Int)+1) (by omega)]
   cases h:sEq ks[i] d.2.2.2.2.1
   ·rw [cond_false,jpW _ _ _ b (by unfold ren;rw [h];rfl)]
    rfl
   ·rw [cond_true,cond_true,ZaF]
    have:ren d.2.2.2.2.1 d.2.2.2.2.2 ks[i]=d.2.2.2.2.2:=by unfold ren;rw [h];rfl
    rw [<-jlL _ _ _ b,this]
    rfl
  ·show j0h _ _ _ _ _ _=_
   unfold j0h
   dsimp only
   rw [ZaP,cond_false,List.take_length,List.drop_length,List.append_nil]
theorem jlM (n:ByteArray) (l:List C):(l.flatMap λc=>bif sEq c.1 n then [] else [c])=l.filter λc=> !sEq c.1 n:=by
 induction l with
 | nil=>rfl
 | cons c l b=>
  rw [List.flatMap_cons,b]
  cases h:sEq c.1 n
  ·rw [List.filter_cons_of_pos (by rw [h];rfl)];rfl
  ·rw [List.filter_cons_of_neg (by rw [h];simp)];rfl
theorem jcQ {α β:Type} (f:α->β) (l:List α):l.flatMap (λx=>[f x])=l.map f:=by
 induction l with
 | nil=>rfl
 | cons c l b=>rw [List.flatMap_cons,b];rfl
theorem joM (d:D) (l:List C):(d.1=3->l.flatMap (j8q d)=l)/\(d.1=4->l.flatMap (j8q d)=l.filter λc=> !sEq c.1 d.2.2.2.2.1)/\(d.1=5->l.flatMap (j8q d)=l.map (j7M d.2.2.2.2.1 d.2.2.2.2.2)):=by
 refine ⟨λh=> ?_,λh=> ?_,λh=> ?_⟩
 ·have:j8q d=λc=>[c]:=by funext c;unfold j8q;rw [h];rfl
  rw [this,j0F]
 ·have:j8q d=λc=>bif sEq c.1 d.2.2.2.2.1 then [] else [c]:=by funext c;unfold j8q;rw [h];rfl
  rw [this,jlM]
 ·have:j8q d=λc=>[j7M d.2.2.2.2.1 d.2.2.2.2.2 c]:=by
   funext c
   unfold j8q j7M ren
   rw [h]
   cases sEq c.1 d.2.2.2.2.1<;>rfl
  rw [this,jcQ]
theorem jlb (t:T) (d:D) (g:t.2.1.length<=1048576) (f:t.2.2.length<=1048576) (b:d.1=3->0<d.2.2.1.length) (j:d.1=3\/d.1=4\/d.1=5) (k:T->Res):j37 t d k=k (j98 t d):=by
 obtain ⟨m,n,p⟩:=joM d t.2.1
 unfold j37 j4L
 simp only [Z9Q]
 rw [jaO f,cond_true,jmV _ _ g]
 dsimp only
 rw [jmY _ _ _ _ f]
 dsimp only
 rcases j with h | h | h
 ·have b:=b h
  have l:inb 0 d.2.2.1.length=true:=j00 (i:=0) b
  rw [m h,show (d.1==3)=true by rw [h];rfl,show (d.1==5)=false by rw [h];rfl,cond_true,l,cond_true,ZaL (by unfold LIM;omega),cond_true,cond_false]
  unfold j98 jhn
  rw [h]
  rfl
 ·rw [n h,show (d.1==3)=false by rw [h];rfl,show (d.1==5)=false by rw [h];rfl,cond_false,cond_false]
  unfold j98 jeQ
  rw [h]
  rfl
 ·rw [p h,show (d.1==3)=false by rw [h];rfl,show (d.1==5)=true by rw [h];rfl,cond_false,cond_true]
  unfold j98 jcX
  rw [h]
  rfl
theorem je6 {d:D} (b:j0S d=true):(d.1=1\/d.1=2\/d.1=3\/d.1=4\/d.1=5)/\(d.1=3->0<d.2.2.1.length):=by
 obtain ⟨_,⟨t,cs,ks,rfl,_⟩ | ⟨t,rfl⟩ | ⟨t,c,rfl,_⟩ | ⟨t,n,rfl,_⟩ | ⟨t,n,m,rfl,_⟩⟩:=j7k b<;>simp
theorem jmx (c:List T) (n:ByteArray):decide (j04 c n>=0)= !decide (j04 c n<0):=by
 by_cases h:j04 c n<0
 ·rw [decide_eq_true h,decide_eq_false (by omega)];rfl
 ·rw [decide_eq_false h,decide_eq_true (by omega)];rfl
theorem jjr (n:Nat) (m:Nat):(nI n==(m:Int))=(n==m):=by
 unfold nI
 rw [Bool.eq_iff_iff]
 simp only [beq_iff_eq]
 omega
theorem jpr {α:Type} (l:List α) (i:Nat):sub l 0 (i:Int)=l.take i:=by
 have:=jjU l 0 i
 simpa using this
theorem jh9 (c:List T) (d:D) (j:msr (.slice yT) c<=1048576) (b:dSm d) (k:List T->Int->Res):j1G c d k=k (jdu c d).1 (jdu c d).2:=by
 obtain ⟨y,m⟩:=jc1 j
 unfold j1G jdu
 rw [jiW c j]
 cases w:j1Q c
 ·rfl
 rw [Bool.not_true,cond_false,Bool.false_or,jeU d b]
 cases f:j0S d
 ·rfl
 rw [Bool.not_true,cond_false,cond_false,jcr _ _ (by unfold LIM;omega),jh8 c j]
 obtain ⟨H,p⟩:=je6 f
 unfold j0b j0T
 cases q:(d.1==1)
 ·rw [cond_false,cond_false,cond_false]
  rcases j0u c d.2.1 with ⟨l,_⟩ | ⟨i,g,l,_⟩
  ·rw [l];rfl
  ·have h:decide (j04 c d.2.1<0)=false:=decide_eq_false (by omega)
   rw [h,cond_false,cond_false,l,j00 g,cond_true,Zay _ _ _ g]
   obtain ⟨I,J,K,L,M⟩:=m _ (List.getElem_mem g)
   rw [jmr _ _ (by omega) (by omega) p]
   cases G:(j0n c[i] d != 0)
   ·rw [cond_false,cond_false]
    cases r:(d.1==2)
    ·rw [cond_false,cond_false,cond_true,jlb _ _ (by omega) (by omega) p (by
      have E:d.1≠1:=by simpa using q
      have F:d.1≠2:=by simpa using r
      omega),cond_true,ZaF,Int.toNat_natCast]
    ·rw [cond_true,cond_true,Int.toNat_natCast]
     unfold j5U
     have z:(sub c 0 (i:Int))=c.take i:=jpr c i
     have A:(sub c (Z9K ((i:Int)+1)) (nI c.length))=c.drop (i+1):=by
      rw [j01 (n:=(i:Int)+1) (by omega)]
      exact jpq c (i+1)
     have B:Z8e 0 (i:Int) c.length=true:=j6R (i:=0) ⟨Nat.zero_le _,by omega⟩
     have C:Z8e (Z9K ((i:Int)+1)) (nI c.length) c.length=true:=by
      rw [j01 (n:=(i:Int)+1) (by omega)]
      exact j6R (i:=i+1) ⟨by omega,Nat.le_refl _⟩
     rw [B,cond_true,C,cond_true,z,A,ZaL (by unfold LIM;simp;omega),cond_true,ZaL (by unfold LIM;simp;omega),cond_true,List.eraseIdx_eq_take_drop_succ]
   ·rfl
 ·rw [cond_true,cond_true,cond_true,jmx]
  cases decide (j04 c d.2.1<0)
  ·rfl
  ·rw [Bool.not_true,cond_false,cond_false,show (nI c.length==(6:Int))=(c.length==6) from jjr _ 6]
   cases (c.length==6)
   ·rw [cond_false,cond_false]
    unfold j3w
    rw [jhb _ b.2.1 b.2.2.1,jnP _ _ y]
    rfl
   ·rfl
end Go.PI.G
namespace Go.PI.G
open Go Go.PI Go.Proofs
theorem jaj {t:T} (ht:j03 t=true):msr yT t<=400:=by
 obtain ⟨a,b,c⟩:=t
 obtain ⟨d,f,g⟩:=jpb ht
 have:msr yT (a,b,c)=a.size+(msr (.slice yC) b+msr (.slice .str) c):=rfl
 omega
theorem jjg {t:T} (ht:j03 t=true):j1Q [t]=true/\msr (.slice yT) [t]<=1048576:=by
 refine ⟨(j0d _).2 ⟨by simp,by simpa using ht,by simp⟩,?_⟩
 have:=jaj ht
 rw [jka]
 simp
 omega
theorem joP {t:T} (ht:j03 t=true) {d:D} (j:j0S d=true) (k:d.2.1=t.1) (f:d.1≠1):(jdu [t] d).2=j0n t d:=by
 have b:j04 [t] d.2.1=(0:Int):=by
  have:=jd7 (c:=[t]) (by simp) (i:=0) (by simp)
  rw [k]
  exact this
 have g:j0b [t] d=j0n t d:=by
  unfold j0b
  rw [show (d.1==1)=false by simpa using f,cond_false,b]
  rfl
 unfold jdu
 rw [(jjg ht).1,j,g]
 show (bif (j0n t d != 0) then (([]:List T),j0n t d) else _).2=_
 cases h:(j0n t d != 0)
 ·have:j0n t d=0:=by simpa using h
  rw [this];rfl
 ·rfl
noncomputable def jgl (d:D) (j:Nat) (x:List V):List V:=bif d.1==3 then x++[(nth zC d.2.2.1 0).2.2.2.2] else bif d.1==4 then x.eraseIdx j else x
theorem joO (t:T) (d:D) (l:List (List V)):jds t d l=l.map (jgl d (j02 t.2.1 d.2.2.2.2.1).toNat):=by
 unfold jds jgl
 cases (d.1==3)
 ·cases (d.1==4)
  ·simp
  ·rfl
 ·rfl
theorem jmo (d:D) (b:Int) (x:List V) (r:x.length<=1048576) (j:d.1=4->0<=b) (k:List V->Res):j6I b x (nI x.length) d Z1c 0 [] k=k (bif d.1==4 then x.eraseIdx b.toNat else x):=by
 unfold j6I
 cases h:(d.1==4)
 ·have:=Z9T x (λi g=>(i,g)) (λv=>[v]) 1048576 [] (step:=j2G b x (nI x.length) d) k k (by unfold LIM;omega) (λi f _=>by
   rw [j0F,List.nil_append,List.length_take];omega) (by simp) (λi g rec f q p=>by
   show j0w _ _ _ _ _ _ _ _=_
   unfold j0w
   dsimp only
   rw [ZaQ f,cond_true,j00 f,cond_true,show (d.1 != 4)=true by rw [bne,h];rfl,cond_true,Zay _ _ _ f,ZaL (by unfold LIM;omega),cond_true,j01 (n:=(i:Int)+1) (by omega)]) (λg rec=>by
   show j0w _ _ _ _ _ _ _ _=_
   unfold j0w
   rw [ZaP,cond_false])
  refine this.trans ?_
  rw [j0F,List.nil_append]
  rfl
 ·have j:=j (by simpa using h)
  obtain ⟨a,rfl⟩:∃ a:Nat,b=(a:Int):=⟨b.toNat,by omega⟩
  have:=Z3u (step:=j2G (a:Int) x (nI x.length) d) (λi=>((i:Int),(x.take i).eraseIdx a)) x.length k (k (x.eraseIdx a)) (λi f rec=> ?_) (λrec=> ?_) Z1c (Z2b (by omega))
  ·refine Eq.trans ?_ this
   rw [List.take_zero,List.eraseIdx_nil]
   rfl
  ·show j0w _ _ _ _ _ _ _ _=_
   unfold j0w
   dsimp only
   have m:((x.take i).eraseIdx a).length<=1048576:=Nat.le_trans (List.eraseIdx_sublist _ _).length_le (by rw [List.length_take];omega)
   rw [ZaQ f,cond_true,j00 f,cond_true,show (d.1 != 4)=false by rw [bne,h];rfl,cond_false,Zay _ _ _ f,j01 (n:=(i:Int)+1) (by omega),jih x a i f]
   have l:((i:Int) != (a:Int))= !(i==a):=by
    rw [Bool.eq_iff_iff]
    simp only [bne_iff_ne,Bool.not_eq_true',beq_eq_false_iff_ne,ne_eq,Int.natCast_inj]
   rw [l]
   cases (i==a)
   ·rw [Bool.not_false,cond_true,ZaL (by unfold LIM;omega),cond_true,cond_false]
    rfl
   ·rw [Bool.not_true,cond_false,cond_true]
    rfl
  ·show j0w _ _ _ _ _ _ _ _=_
   unfold j0w
   dsimp only
   rw [ZaP,cond_false,List.take_length]
theorem jjS (t:T) (h:msr yT t<=1048576) (l:List (List V)) (F:j08 t l=true) (d:D) (g:dSm d) (w:j0S d=true) (G:d.2.1=t.1) (E:d.1≠1) (k:List (List V)->Int->Res) :
  j5v t l d k=k (bif j0n t d != 0 then [] else bif d.1==2 then [] else jds t d l) (j0n t d):=by
 obtain ⟨ht,X,P⟩:=j0g F
 obtain ⟨H,J⟩:=je6 w
 unfold j5v j4q
 rw [j6l t h,F,Bool.not_true,cond_false,jeU d g,w,Bool.not_true,cond_false]
 have B:sNe d.2.1 t.1=false:=by unfold sNe;rw [G];simp
 rw [B,cond_false,show (d.1==1)=false by simpa using E]
 dsimp only
 rw [cond_false,jh9 _ _ (jjg ht).2 g,joP ht w G E]
 cases K:(j0n t d != 0)
 rotate_left
 ·rfl
 have f:j0n t d=0:=by simpa using K
 have M:=(j2g h).2.1
 rw [cond_false,cond_false,j5G _ _ (by unfold LIM;omega),f]
 have L:d.1=4->0<=j02 t.2.1 d.2.2.2.2.1:=λr=>by
  by_cases A:j02 t.2.1 d.2.2.2.2.1<0
  ·unfold j0n at f
   rw [r] at f
   simp only [show ((4:Int)==3)=false from rfl,show ((4:Int)==4)=true from rfl,cond_false,cond_true,decide_eq_true A] at f
   cases f
  ·omega
 unfold j9D
 have:=Z9T l (λi b=>(b,i)) (λx=>bif d.1 != 2 then [jgl d (j02 t.2.1 d.2.2.2.2.1).toNat x] else []) 60 [] (step:=j2H (j02 t.2.1 d.2.2.2.2.1) l (nI l.length) d) (λb=>k b 0) (λb=>k b 0) (by unfold LIM;omega) (λi j _=> ?_) (by simp) (λi b rec j R Q=>by
  have U:l[i].length=t.2.1.length:=j0q (P _ (List.getElem_mem j))
  show j1A _ _ _ _ _ _ _ _=_
  unfold j1A j6J
  dsimp only
  rw [ZaQ j,cond_true,j00 j,cond_true,Zay _ _ _ j,jmo d _ _ (by omega) L,j01 (n:=(i:Int)+1) (by omega)]
  have p:lim (b.length+1)=true:=ZaL (by unfold LIM;omega)
  cases q:(d.1==3)
  ·rw [cond_false]
   cases (d.1 != 2)
   ·rw [cond_false,cond_false,List.append_nil]
   ·rw [cond_true,cond_true,p,cond_true]
    unfold jgl
    rw [q,cond_false]
  ·have e:d.1=3:=by simpa using q
   have z:inb 0 d.2.2.1.length=true:=j00 (i:=0) (J e)
   have r:(d.1==4)=false:=by rw [e];rfl
   have I:(d.1 != 2)=true:=by rw [e];rfl
   rw [cond_true,r,cond_false,z,cond_true,ZaL (by unfold LIM;omega),cond_true,I,cond_true,cond_true,p,cond_true]
   unfold jgl
   rw [q,cond_true]) (λb rec=>by
  show j1A _ _ _ _ _ _ _ _=_
  unfold j1A
  dsimp only
  rw [ZaP,cond_false])
 ·refine this.trans ?_
  rw [List.nil_append]
  congr 1
  cases C:(d.1==2)
  ·have:(d.1 != 2)=true:=by rw [bne,C];rfl
   rw [this,cond_false,joO]
   show l.flatMap (λx=>[jgl d _ x])=_
   exact jcQ _ _
  ·have:(d.1 != 2)=false:=by rw [bne,C];rfl
   rw [this,cond_true]
   show l.flatMap (λx=>[])=_
   simp
 ·rw [List.nil_append]
  have:∀ m:List (List V),(m.flatMap λx=>bif d.1 != 2 then [jgl d (j02 t.2.1 d.2.2.2.2.1).toNat x] else []).length<=m.length:=by
   intro m
   induction m with
   | nil=>exact Nat.le_refl _
   | cons y m W=>
    rw [List.flatMap_cons,List.length_append,List.length_cons]
    have:(bif d.1 != 2 then [jgl d (j02 t.2.1 d.2.2.2.2.1).toNat y] else []).length<=1:=by cases (d.1 != 2)<;>simp
    omega
  exact Nat.le_trans (this _) (by rw [List.length_take];omega)
end Go.PI.G
namespace Go.PI.G
open Go Go.PI Go.Proofs
theorem jmS (t:T) (b:t.2.1.length<=1048576) (d:t.2.2.length<=1048576) (k:T->Res):j31 t k=k t:=by
 unfold j31 j32
 rw [jaO b,cond_true,jaO d,cond_true]
theorem jgZ (c:List T) (f:msr (.slice yT) c<=1048576) (k:List T->Res):j3g c k=k c:=by
 obtain ⟨h,ht⟩:=jc1 f
 unfold j3g jcU
 have:=Z9T c (λi b=>(i,b)) (λx=>[x]) 1048576 [] (step:=j7K c (nI c.length)) (λb=>k b) (λb=>k b) (by unfold LIM;omega) (λi d _=>by
  rw [j0F,List.nil_append,List.length_take];omega) (by simp) (λi b rec d j g=>by
  show j2B _ _ _ _ _ _=_
  unfold j2B
  obtain ⟨l,m,p,q,r⟩:=ht _ (List.getElem_mem d)
  dsimp only
  rw [ZaQ d,cond_true,j00 d,cond_true,Zay _ _ _ d,jmS _ (by omega) (by omega),ZaL (by unfold LIM;omega),cond_true,j01 (n:=(i:Int)+1) (by omega)]) (λb rec=>by
  show j2B _ _ _ _ _ _=_
  unfold j2B
  dsimp only
  rw [ZaP,cond_false])
 refine this.trans ?_
 rw [j0F,List.nil_append]
theorem jh0 (c:List T) (d:D) (y:msr (.slice yT) c<=1048576) (f:j0S d=true) (k:Int->Res):j27 c d k=k (j0b c d):=by
 obtain ⟨A,p⟩:=jc1 y
 obtain ⟨z,w⟩:=je6 f
 unfold j27 j0b
 rw [j6U _ _ (by unfold LIM;omega)]
 cases q:(d.1==1)
 ·rw [cond_false,cond_false]
  rcases j0u c d.2.1 with ⟨m,_⟩ | ⟨i,g,m,_⟩
  ·rw [m];rfl
  ·have l:decide (j04 c d.2.1<0)=false:=decide_eq_false (by omega)
   rw [l,cond_false,cond_false,m,j00 g,cond_true,Zay _ _ _ g]
   obtain ⟨B,C,E,F,G⟩:=p _ (List.getElem_mem g)
   generalize c[i]=t at *
   have b:∀ n (K:Int->Res),j0f t n K=K (j02 t.2.1 n):=λn K=>j6S _ _ (by unfold LIM;omega) K
   unfold j4b j6z j4c j0n
   have r:d.1≠1:=by simpa using q
   rcases z with h | h | h | h | h
   ·exact absurd h r
   ·rw [h];rfl
   ·have j:inb 0 d.2.2.1.length=true:=j00 (i:=0) (w h)
    rw [h]
    show (bif inb 0 d.2.2.1.length then _ else none)=_
    rw [j,cond_true,b,jeD]
    show _=k (bif !decide (j02 t.2.1 (nth zC d.2.2.1 0).1<0) then 5 else bif t.2.1.length==8 then 6 else 0)
    cases !decide (j02 t.2.1 (nth zC d.2.2.1 0).1<0)
    ·show (bif (nI t.2.1.length==(8:Int)) then k 6 else _)=_
     rw [show (nI t.2.1.length==(8:Int))=(t.2.1.length==8) from jjr _ 8]
     cases (t.2.1.length==8)<;>rfl
    ·rfl
   ·rw [h]
    simp only [show ((4:Int)==3)=false from rfl,show ((4:Int)==4)=true from rfl,show ((4:Int)==5)=false from rfl,cond_false,cond_true,b]
    cases decide (j02 t.2.1 d.2.2.2.2.1<0)
    ·rw [cond_false,cond_false,jnv _ _ (by unfold LIM;omega)]
     show (bif jdv t.2.2 d.2.2.2.2.1 then k 8 else k 0)=k (bif jdv t.2.2 d.2.2.2.2.1 then 8 else 0)
     cases jdv t.2.2 d.2.2.2.2.1<;>rfl
    ·rfl
   ·rw [h]
    simp only [show ((5:Int)==3)=false from rfl,show ((5:Int)==4)=false from rfl,show ((5:Int)==5)=true from rfl,cond_false,cond_true,b,jeD]
    cases !decide (j02 t.2.1 d.2.2.2.2.2<0)
    ·simp only [cond_false]
     cases decide (j02 t.2.1 d.2.2.2.2.1<0)<;>rfl
    ·rfl
 ·rw [cond_true,cond_true,jmx]
  cases decide (j04 c d.2.1<0)
  ·rfl
  ·rw [Bool.not_true,cond_false,cond_false,show (nI c.length==(6:Int))=(c.length==6) from jjr _ 6]
   cases (c.length==6)<;>rfl
theorem jmB {α:Type} (p:α->Bool):(l:List α)->(i:Nat)->i<(l.takeWhile p).length->∃ h:i<l.length,p l[i]=true
 | [],i,h=>by simp at h
 | x::l,i,h=>by
  cases b:p x
  ·rw [List.takeWhile_cons_of_neg (by rw [b];simp)] at h;simp at h
  ·rw [List.takeWhile_cons_of_pos b,List.length_cons] at h
   cases i with
   | zero=>exact ⟨by simp,b⟩
   | succ i=>
    obtain ⟨f,d⟩:=jmB p l i (by omega)
    exact ⟨by rw [List.length_cons];omega,d⟩
theorem jmA {α:Type} (p:α->Bool):(l:List α)->(h:(l.takeWhile p).length<l.length)->p l[(l.takeWhile p).length]=false
 | [],h=>by simp at h
 | x::l,h=>by
  cases b:p x
  ·have e:(x::l).takeWhile p=[]:=List.takeWhile_cons_of_neg (by rw [b];simp)
   simp only [e,List.length_nil,List.getElem_cons_zero]
   exact b
  ·have e:(x::l).takeWhile p=x::l.takeWhile p:=List.takeWhile_cons_of_pos b
   simp only [e,List.length_cons,List.getElem_cons_succ] at h ⊢
   exact jmA p l (by omega)
theorem jlS (d:D) (c:List T) (l:c.length<=1048576) (k:Int->Res):j8s d c Z1c 0 k=k (((c.takeWhile λy=>sLt y.1 d.2.1).length:Nat):Int):=by
 have j:(c.takeWhile λy=>sLt y.1 d.2.1).length<=c.length:=(List.takeWhile_sublist _).length_le
 refine Z3u (step:=j47 d c) (λi=>(i:Int)) (c.takeWhile λy=>sLt y.1 d.2.1).length k _ (λi g rec=> ?_) (λrec=> ?_) Z1c (Z2b (by omega))
 ·obtain ⟨b,f⟩:=jmB _ c i g
  show j24 _ _ _ _ _=_
  unfold j24
  rw [ZaQ b,cond_true,j00 b,cond_true,Zay _ _ _ b,f,cond_true,j01 (n:=(i:Int)+1) (by omega)]
  rfl
 ·show j24 _ _ _ _ _=_
  unfold j24
  by_cases h:(c.takeWhile λy=>sLt y.1 d.2.1).length<c.length
  ·rw [ZaQ h,cond_true,j00 h,cond_true,Zay _ _ _ h,jmA (λy:T=>sLt y.1 d.2.1) c h,cond_false]
  ·rw [decide_eq_false (show ¬ (((c.takeWhile λy=>sLt y.1 d.2.1).length:Nat):Int)<nI c.length by unfold nI;omega),cond_false]
end Go.PI.G
namespace Go.PI.G
open Go Go.PI Go.Proofs
theorem jpX (l:List ByteArray) (v:ByteArray) (h:l.length<=LIM) (k:Int->Res):j0H l v k=k (Z9F (λx=>sEq v x) l):=by
 unfold j0H j4z
 refine Z9S l (λi=>i) (λx=>sEq v x) (step:=j1q l v (nI l.length)) ((λ(_:Unit)=>k (-1)),(λ(t:Int)=>k t)) k h (λi rec b=> ?_) (λrec=> ?_)
 ·show j0c _ _ _ _ _ _ _=_
  unfold j0c
  unfold LIM at h
  rw [ZaQ b,cond_true,j00 b,cond_true,Zay _ _ _ b,j01 (n:=(i:Int)+1) (by omega)]
 ·show j0c _ _ _ _ _ _ _=_
  unfold j0c
  rw [ZaP,cond_false]
end Go.PI.G
namespace Go.PI.G
open Go Go.PI Go.Proofs
theorem jlG {α:Type} {g:α->(Bool->Res)->Res} (q:α->Bool):(l:List α)->(∀ x∈l,∀ k,g x k=k (q x))->(d:List α)->(k:List α->Res)->dgE g l d k=k (d++l.filter λx=> !q x)
 | [],_,d,k=>by rw [List.filter_nil,List.append_nil];rfl
 | x::l,h,d,k=>by
  show g x (λb=>dgE g l (bif b then d else d++[x]) k)=_
  rw [h x (by simp),jlG q l λy i=>h y (List.mem_cons_of_mem _ i)]
  cases f:q x
  ·rw [List.filter_cons_of_pos (by rw [f];rfl),cond_false,List.append_assoc];rfl
  ·rw [List.filter_cons_of_neg (by rw [f];simp),cond_true]
theorem jnm {α:Type} (p:α->Bool) (g:α->α) (l:List α) (i:Nat) (n:i<l.length) (d:p l[i]=true) (f:∀ j (b:j<l.length),j≠i->p l[j]=false):l.map (λx=>bif p x then g x else x)=l.set i (g l[i]):=by
 apply List.ext_getElem
 ·simp
 ·intro j k m
  have b:j<l.length:=by simpa using k
  rw [List.getElem_map,List.getElem_set]
  by_cases e:i=j
  ·subst e
   rw [if_pos rfl,d,cond_true]
  ·rw [if_neg e,f j b λh=>e h.symm,cond_false]
theorem map_none {α:Type} (p:α->Bool) (g:α->α) (l:List α) (h:∀ x∈l,p x=false):l.map (λx=>bif p x then g x else x)=l:=by
 induction l with
 | nil=>rfl
 | cons x l d=>rw [List.map_cons,h x (by simp),cond_false,d λy b=>h y (List.mem_cons_of_mem _ b)]
theorem jjI {α:Type} {R:α->α->Prop} {l:List α} (h:l.Pairwise R) {i j:Nat} (d:i<l.length) (f:j<l.length) (e:i≠j):R l[i] l[j]\/R l[j] l[i]:=by
 rcases Nat.lt_or_gt_of_ne e with b | b
 ·exact .inl (List.pairwise_iff_getElem.1 h i j d f b)
 ·exact .inr (List.pairwise_iff_getElem.1 h j i f d b)
theorem jbF (n:Nat):(Z9o n n&&true)=true:=by
 rw [Bool.and_true]
 exact Nat.beq_refl n
theorem jpm {l:List C} (k:j43 l=true) (n m:ByteArray) {i:Nat} (f:i<l.length) (h:l[i].1=n):l.map (j7M n m)=l.set i (m,l[i].2):=by
 have p:=((j5E l).1 k).2
 have:j7M n m=λc:C=>bif sEq c.1 n then (m,c.2) else c:=by
  funext c
  unfold j7M ren
  cases sEq c.1 n<;>rfl
 rw [this]
 refine jnm (λc:C=>sEq c.1 n) (λc=>(m,c.2)) l i f ((j09 _ _).2 h) λj g e=> ?_
 have:l[j].1≠n:=λd=>by
  rcases jjI p f g e.symm with b | b
  ·exact b (h.trans d.symm)
  ·exact b (d.trans h.symm)
 cases q:sEq l[j].1 n
 ·rfl
 ·exact absurd ((j09 _ _).1 q) this
theorem jpn {cs:List C} {ks:List ByteArray} (q:j12 cs (-1) ks=true) (n m:ByteArray):ks.map (ren n m)=bif decide (Z9F (λx=>sEq n x) ks>=0) then ks.set (Z9F (λx=>sEq n x) ks).toNat m else ks:=by
 have w:=((j4f cs ks (-1)).1 q).2
 have:ren n m=λs=>bif sEq s n then m else s:=by funext s;rfl
 rw [this]
 have d:∀ a b:ByteArray,sEq a b=sEq b a:=λa b=>by
  rw [Bool.eq_iff_iff,j09,j09]
  exact ⟨Eq.symm,Eq.symm⟩
 rcases j5J (λx=>sEq n x) ks with ⟨g,f⟩ | ⟨i,k,g,f,_⟩
 ·rw [g]
  exact map_none (λs=>sEq s n) (λ_=>m) ks λx z=>by rw [d];exact f x z
 ·rw [g,decide_eq_true (by omega),cond_true,Int.toNat_natCast]
  refine jnm (λs=>sEq s n) (λ_=>m) ks i k (by rw [d];exact f) λj p e=> ?_
  have r:n=ks[i]:=(j09 _ _).1 f
  cases y:sEq ks[j] n
  ·rfl
  ·have l:ks[j]=ks[i]:=((j09 _ _).1 y).trans r
   rcases jjI w k p e.symm with h | h<;>rw [l] at h<;>exact absurd h (Int.lt_irrefl _)
theorem jq4 {α:Type} (z:α) (l:List α) (i:Nat) (b:i<l.length) (x:α):nth z (upd l (i:Int) x) (i:Int)=x:=by
 rw [ZaF,Zay _ _ _ (by simpa using b),List.getElem_set_self]
theorem jnu (c:List T) (d:D) (i:Nat) (b:i<c.length) (Q:c.length<=1048576) (ht:j03 c[i]=true) (K:tSm c[i]) (l:j0n c[i] d=0) (I:d.1=2\/d.1=3\/d.1=4\/d.1=5) (w:d.1=3->0<d.2.2.1.length) (k:List T->Res) :
  j1a (i:Int) d.1 d c k=k (bif d.1==2 then c.eraseIdx i else c.set i (j98 c[i] d)):=by
 obtain ⟨V,W,X,Y,Z⟩:=K
 obtain ⟨_,t1,t2,t3,L,M⟩:=(j5W _).1 ht
 unfold j1a
 have f:inb (i:Int) c.length=true:=j00 b
 rcases I with h | h | h | h
 ·rw [h]
  simp only [show ((2:Int)==1)=false from rfl,show ((2:Int)==2)=true from rfl,cond_false,cond_true]
  unfold j3P ja8
  rw [j01 (n:=(i:Int)+1) (by omega),show Z8e (i:Int) ((i:Int)+1) c.length=true from j6R (j:=i+1) ⟨by omega,by omega⟩,cond_true,List.eraseIdx_eq_take_drop_succ]
  rfl
 ·have w:=w h
  have m:∀ x:T,inb (i:Int) (c.set i x).length=true:=λx=>j00 (by simpa using b)
  have p:inb 0 d.2.2.1.length=true:=j00 (i:=0) w
  rw [h]
  simp only [show ((3:Int)==1)=false from rfl,show ((3:Int)==2)=false from rfl,show ((3:Int)==3)=true from rfl,cond_false,cond_true]
  rw [f,cond_true,p,cond_true,Zay _ _ _ b,ZaL (by unfold LIM;omega),cond_true,ZaF,m,cond_true,jbF,cond_true]
  unfold j98 jhn
  rw [h]
  rfl
 ·rw [h]
  simp only [show ((4:Int)==1)=false from rfl,show ((4:Int)==2)=false from rfl,show ((4:Int)==3)=false from rfl,show ((4:Int)==4)=true from rfl,cond_false,cond_true]
  rw [f,cond_true,Zay _ _ _ b]
  unfold j2j
  rw [ZaL (by unfold LIM;omega),cond_true,jlG (g:=λ(e:C) k=>jab e d k) (λx:C=>sEq x.1 d.2.2.2.2.1) c[i].2.1 (λx R U=>rfl),List.nil_append]
  simp only [jbF,cond_true,ZaF]
  unfold j98 jeQ
  rw [h]
  rfl
 ·have P:¬ j02 c[i].2.1 d.2.2.2.2.1<0:=λA=>by
   unfold j0n at l
   rw [h] at l
   simp only [show ((5:Int)==3)=false from rfl,show ((5:Int)==4)=false from rfl,show ((5:Int)==5)=true from rfl,cond_false,cond_true,decide_eq_true A] at l
   cases H: !decide (j02 c[i].2.1 d.2.2.2.2.2<0)<;>rw [H] at l<;>cases l
  rcases j10 c[i].2.1 d.2.2.2.2.1 with ⟨B,_⟩ | ⟨j,y,B,z,_⟩
  ·omega
  rw [h]
  simp only [show ((5:Int)==1)=false from rfl,show ((5:Int)==2)=false from rfl,show ((5:Int)==3)=false from rfl,show ((5:Int)==4)=false from rfl,show ((5:Int)==5)=true from rfl,cond_false,cond_true]
  rw [f,cond_true,j6S _ _ (by rw [Zay _ _ _ b];unfold LIM;omega)]
  simp only [Zay _ _ _ b,jq4 _ _ _ b]
  rw [B]
  simp only [Zay _ _ _ y]
  rw [j00 y,cond_true,jpX _ _ (by unfold LIM;omega)]
  have E:=jpm L d.2.2.2.2.1 d.2.2.2.2.2 y z
  have F:=jpn M d.2.2.2.2.1 d.2.2.2.2.2
  have G:j98 c[i] d=(c[i].1,c[i].2.1.map (j7M d.2.2.2.2.1 d.2.2.2.2.2),c[i].2.2.map (ren d.2.2.2.2.1 d.2.2.2.2.2)):=by
   unfold j98 jcX
   rw [h]
   rfl
  rw [G,E,F]
  rcases j5J (λx=>sEq d.2.2.2.2.1 x) c[i].2.2 with ⟨r,_⟩ | ⟨q,J,r,_,_⟩
  ·rw [r,ZaF,ZaF]
   rfl
  ·rw [r,decide_eq_true (by omega),cond_true,cond_true,j00 J,cond_true]
   simp only [ZaF,Int.toNat_natCast]
   rw [List.set_set]
theorem jmN (c:List T) (d:D) (z:msr (.slice yT) c<=1048576) (n:dSm d) (k:List T->Int->Res):j3W c d k=k (jdu c d).1 (jdu c d).2:=by
 obtain ⟨G,C⟩:=jc1 z
 unfold j3W jdu
 rw [jij c z]
 cases A:j1Q c
 ·rfl
 rw [Bool.not_true,cond_false,Bool.false_or,jeF d n]
 cases m:j0S d
 ·rfl
 rw [Bool.not_true,cond_false,cond_false,jh0 _ _ z m,jgZ c z,j6U _ _ (by unfold LIM;omega)]
 obtain ⟨L,H⟩:=je6 m
 cases f:(j0b c d != 0)
 rotate_left
 ·rfl
 rw [cond_false,cond_false]
 have f:j0b c d=0:=by simpa using f
 have B:=(j0d c).1 A
 by_cases F:d.1=1
 ·unfold j0b at f
  unfold j0T
  rw [F] at f ⊢
  simp only [show ((1:Int)==1)=true from rfl,cond_true] at f ⊢
  rcases j0u c d.2.1 with ⟨w,r⟩ | ⟨i,j,w,_⟩
  ·unfold j1a
   simp only [show ((1:Int)==1)=true from rfl,cond_true]
   rw [jlS _ _ G,jh2 _ n]
   unfold j3Q jdy
   obtain ⟨p,M,g,q⟩:=jnf (R:=tR) (λa b h=>jot h) (x:=((d.2.1,d.2.2.1,d.2.2.2.1):T)) (l:=c) (λy K=>jgn λe=>r y K e.symm)
   have g:p=(c.takeWhile λy=>sLt y.1 d.2.1).length:=g
   rw [<-g]
   have I:jhs (p:Int) c.length [((d.2.1,d.2.2.1,d.2.2.2.1):T)].length=true:=decide_eq_true ⟨by omega,by omega,by simp,by simp;unfold LIM;omega⟩
   rw [I,cond_true,q,Int.toNat_natCast,List.append_assoc]
   rfl
  ·rw [decide_eq_false (by omega)] at f
   cases f
 ·have J:d.1=2\/d.1=3\/d.1=4\/d.1=5:=by omega
  unfold j0b at f
  unfold j0T
  have E:(d.1==1)=false:=by simpa using F
  rw [E,cond_false] at f
  rw [E,cond_false]
  rcases j0u c d.2.1 with ⟨w,r⟩ | ⟨i,j,w,_⟩
  ·rw [decide_eq_true (by omega)] at f
   cases f
  ·rw [decide_eq_false (by omega),cond_false,w,Zay _ _ _ j] at f
   rw [w,Zay _ _ _ j,Int.toNat_natCast,jnu c d i j G (B.2.1 _ (List.getElem_mem j)) (C _ (List.getElem_mem j)) f J H]
end Go.PI.G
namespace Go.PI.G
open Go Go.PI Go.Proofs
theorem j6T (l:List (List V)) (h:l.length<=1048576) (f:∀ x∈l,x.length<=1048576) (k:List (List V)->Res):j0m l k=k l:=by
 unfold j0m jc5
 have:=Z9T l (λi b=>(b,i)) (λx=>[x]) 1048576 [] (step:=j6W l (nI l.length)) (λb=>k b) (λb=>k b) (by unfold LIM;omega) (λi d _=>by
  rw [j0F,List.nil_append,List.length_take];omega) (by simp) (λi b rec d j g=>by
  show j26 _ _ _ _ _ _=_
  unfold j26 j0O
  dsimp only
  rw [ZaQ d,cond_true,j00 d,cond_true,Zay _ _ _ d,jaO (f _ (List.getElem_mem d)),cond_true,ZaL (by unfold LIM;omega),cond_true,j01 (n:=(i:Int)+1) (by omega)]) (λb rec=>by
  show j26 _ _ _ _ _ _=_
  unfold j26
  dsimp only
  rw [ZaP,cond_false])
 refine this.trans ?_
 rw [j0F,List.nil_append]
theorem jim (t:T) (h:msr yT t<=1048576) (ht:j03 t=true) (l:List (List V)) (r:List V) (g:∀ x∈l,x.length=t.2.1.length) (p:l.length<=60) (j:r.length=t.2.1.length) (k:Int->Res) :
  jaf l t r Z1c 0 k=k (((l.takeWhile λy=>kR t y r).length:Nat):Int):=by
 have f:∀ x:List V,(j05 t x).length<=LIM:=λx=>by
  rw [j8t]
  have:=(j2g h).2.2.1
  unfold LIM;omega
 have q:(l.takeWhile λy=>kR t y r).length<=l.length:=(List.takeWhile_sublist _).length_le
 refine Z3u (step:=j3i l t r) (λi=>(i:Int)) (l.takeWhile λy=>kR t y r).length k _ (λi m rec=> ?_) (λrec=> ?_) Z1c (Z2b (by omega))
 ·obtain ⟨b,d⟩:=jmB _ l i m
  have d:klt (j05 t l[i]) (j05 t r)=true:=d
  show j1T _ _ _ _ _ _=_
  unfold j1T
  rw [ZaQ b,cond_true,j00 b,cond_true,Zay _ _ _ b,j2S t h ht _ (g _ (List.getElem_mem b)),j2S t h ht r j,jaa _ _ (f _),d,cond_true,j01 (n:=(i:Int)+1) (by omega)]
  rfl
 ·show j1T _ _ _ _ _ _=_
  unfold j1T
  by_cases b:(l.takeWhile λy=>kR t y r).length<l.length
  ·have d:klt (j05 t l[(l.takeWhile λy=>kR t y r).length]) (j05 t r)=false:=jmA (λy=>kR t y r) l b
   rw [ZaQ b,cond_true,j00 b,cond_true,Zay _ _ _ b,j2S t h ht _ (g _ (List.getElem_mem b)),j2S t h ht r j,jaa _ _ (f _),d,cond_false]
  ·rw [decide_eq_false (show ¬ (((l.takeWhile λy=>kR t y r).length:Nat):Int)<nI l.length by unfold nI;omega),cond_false]
theorem jnA (t:T):∀ a b:List V,kR t a b=true->kR t b a=false:=λa b h=>joi h
theorem jfg (t:T) (h:msr yT t<=1048576) (ht:j03 t=true) (l:List (List V)) (r:List V) (n:∀ x∈l,j0k t.2.1 x=true) (f:l.length<=60) (q:j0k t.2.1 r=true) (g:∀ x∈l,j05 t x≠j05 t r) (k:List (List V)->Res) :
  j1Z t l r k=k (jeL t l r):=by
 have A:=(j2g h).2.1
 have b:∀ x∈l,x.length=t.2.1.length:=λx m=>j0q (n x m)
 have j:=j0q q
 unfold j1Z
 rw [jim t h ht l r b f j,j6T l (by omega) (λx m=>by rw [b x m];omega)]
 unfold j0O j4F jdy
 rw [jaO (by omega),cond_true]
 obtain ⟨p,B,i,d⟩:=jnf (R:=kR t) (jnA t) (x:=r) (l:=l) (λy w=>jlZ ht q (n y w) (λe=>g y w e.symm))
 rw [<-i]
 have z:jhs (p:Int) l.length [r].length=true:=decide_eq_true ⟨by omega,by omega,by simp,by simp;unfold LIM;omega⟩
 dsimp only
 rw [z,cond_true,Int.toNat_natCast,List.append_assoc]
 unfold jeL
 rw [d]
 rfl
theorem jpI {t:T} {l:List (List V)} {b:List V} (h:j06 t l b<0):∀ x∈l,j05 t x≠b:=jm6 h
theorem jkO (t:T) (h:msr yT t<=1048576) (l:List (List V)) (r:List V) (k:List (List V)->Int->Res):j6g t l r k=k (j5b t l r).1 (j5b t l r).2:=by
 unfold j6g j5b
 rw [j80 t h]
 cases d:j08 t l
 ·rfl
 obtain ⟨ht,g,i⟩:=j0g d
 rw [Bool.not_true,cond_false,cond_false,jeG t h]
 cases f:j0k t.2.1 r
 ·rfl
 rw [Bool.not_true,cond_false,cond_false,j2S t h ht r (j0q f),j3c t h l d,jeR]
 by_cases b:j06 t l (j05 t r)<0
 rotate_left
 ·rw [decide_eq_false b];rfl
 rw [decide_eq_true b,Bool.not_true,cond_false,cond_false,show (nI l.length==(60:Int))=(l.length==60) from jng _ 60]
 cases (l.length==60)
 ·rw [cond_false,cond_false,jfg t h ht l r i g f (jpI b)]
 ·rfl
theorem joh {t:T} (ht:j03 t=true) {n:ByteArray} (d:n∈t.2.2) (v:V):j3b (nth zC t.2.1 (j02 t.2.1 n)) v=(j0l v&&(v.1==(nth zC t.2.1 (j02 t.2.1 n)).2.1)):=by
 have b:=(((j4f _ _ _).1 ((j5W t).1 ht).2.2.2.2.2).1 n d).2
 unfold j3b
 rw [b,Bool.not_true,Bool.and_false,Bool.or_false]
theorem jg6 (t:T) (h:msr yT t<=1048576) (b:List V) (k:Bool->Res):j48 t b k=k (j9g t b):=by
 unfold j48 j9g
 obtain ⟨p,q,r,w,y⟩:=j2g h
 rw [jeH t h]
 cases ht:j03 t
 ·rfl
 rw [Bool.not_true,cond_false,Bool.true_and]
 by_cases f:b.length=t.2.2.length
 rotate_left
 ·rw [jip f,cond_true,decide_eq_false f,Bool.false_and]
 rw [jio f,cond_false,decide_eq_true f,Bool.true_and]
 unfold jb4
 have:=Z9P t.2.2 (λi=>i) (λi n=> !j3b (nth zC t.2.1 (j02 t.2.1 n)) (nth zV b (i:Int))) (step:=j49 b t.2.2 (nI t.2.2.length) t) ((λ(_:Unit)=>k true),(λ(_:Unit)=>k false)) (k true) (k false) (by unfold LIM;omega) (λi rec d=>by
  have g:=joh ht (List.getElem_mem d) (nth zV b (i:Int))
  obtain ⟨j,l,m⟩:=jm1 ht (List.getElem_mem d)
  show j2e _ _ _ _ _ _ _ _=_
  unfold j2e
  rw [g,ZaQ d,cond_true,j00 d,cond_true,j00 (f ▸ d),cond_true,j7l,Zay _ _ _ d]
  cases j0l (nth zV b (i:Int))
  ·rfl
  ·rw [Bool.not_true,cond_false,cond_true,j6S _ _ (by unfold LIM;omega),m,j00 l,cond_true,j01 (n:=(i:Int)+1) (by omega),Bool.true_and]
   rfl) (λrec=>by
  show j2e _ _ _ _ _ _ _ _=_
  unfold j2e
  rw [ZaP,cond_false])
 refine this.trans ?_
 cases Z71 (λi n=> !j3b (nth zC t.2.1 (j02 t.2.1 n)) (nth zV b (i:Int))) 0 t.2.2<;>rfl
theorem jk2 (l:List (List V)) (i:Nat) (b:i<l.length) (d:l.length<=60) (k:List (List V)->Res):j0G l (i:Int) (Z9K ((i:Int)+1)) k=k (l.eraseIdx i):=by
 unfold j0G ja8
 rw [j01 (n:=(i:Int)+1) (by omega),show Z8e (i:Int) ((i:Int)+1) l.length=true from j6R (j:=i+1) ⟨by omega,by omega⟩,cond_true,List.eraseIdx_eq_take_drop_succ]
 rfl
theorem jkP (t:T) (h:msr yT t<=1048576) (l:List (List V)) (d r:List V) (k:List (List V)->Int->Res):j6h t l d r k=k (j5c t l d r).1 (j5c t l d r).2:=by
 unfold j6h j5c
 rw [j80 t h]
 cases g:j08 t l
 ·rfl
 obtain ⟨ht,D,H⟩:=j0g g
 rw [Bool.not_true,cond_false,cond_false,jeG t h]
 cases w:j0k t.2.1 r
 ·rfl
 rw [Bool.not_true,cond_false,cond_false,jg6 t h]
 cases j9g t d
 ·rfl
 rw [Bool.not_true,cond_false,Bool.false_or,j3c t h l g]
 by_cases f:j06 t l d<0
 ·rw [decide_eq_true f];rfl
 rw [decide_eq_false f,cond_false,cond_false,j2S t h ht r (j0q w),jkm g f]
 obtain ⟨i,A,m⟩:=jcY f
 have p:=jcP g i
 obtain ⟨_,B,C⟩:=j0g p
 have b:=jkm g (now:=j05 t r) f
 rw [m,Int.toNat_natCast] at b
 have n:(j05 t r).length<=LIM:=by
  rw [j8t]
  have:=(j2g h).2.2.1
  unfold LIM;omega
 unfold j4Z
 rw [jcR _ _ n,m,Int.toNat_natCast,j3c t h l g,jeR]
 have j:decide (j06 t (l.eraseIdx i) (j05 t r)<0)=true->j0m l (λE=>j0G E (i:Int) (Z9K ((i:Int)+1)) λF=>j1Z t F r λG=>k G 0)=k (jeL t (l.eraseIdx i) r) 0:=λz=>by
  rw [j6T l (by omega) (jeg h g),jk2 l i A D,jfg t h ht _ r C B w (jpI (of_decide_eq_true z))]
 cases q:j1l zV veq (j05 t r) d
 ·rw [q] at b
  rw [Bool.not_false,cond_true,Bool.true_and]
  rw [Bool.not_false,Bool.true_and] at b
  cases y: !decide (j06 t l (j05 t r)<0)
  ·rw [y] at b
   rw [cond_false,cond_false,j3c t h l g,m]
   exact j (by simpa using b)
  ·rfl
 ·rw [q] at b
  rw [Bool.not_true,cond_false,Bool.false_and,cond_false,j3c t h l g,m]
  exact j (by simpa using b)
theorem jkN (t:T) (h:msr yT t<=1048576) (l:List (List V)) (b:List V) (k:List (List V)->Int->Res):j6f t l b k=k (j5a t l b).1 (j5a t l b).2:=by
 unfold j6f j5a
 rw [j80 t h]
 cases f:j08 t l
 ·rfl
 obtain ⟨ht,m,n⟩:=j0g f
 rw [Bool.not_true,cond_false,cond_false,jg6 t h]
 cases j9g t b
 ·rfl
 rw [Bool.not_true,cond_false,Bool.false_or,j3c t h l f]
 by_cases d:j06 t l b<0
 ·rw [decide_eq_true d];rfl
 rw [decide_eq_false d,cond_false,cond_false]
 obtain ⟨i,j,g⟩:=jcY d
 rw [j3c t h l f,g,Int.toNat_natCast,j6T l (by omega) (jeg h f),jk2 l i j m]
end Go.PI.G
namespace Go.PI.G
open Go Go.PI Go.Proofs
theorem jo1 {t:T} {d:D} (g:d.2.1=t.1) (f:d.1≠1):j0b [t] d=j0n t d:=by
 have b:j04 [t] d.2.1=(0:Int):=by
  have:=jd7 (c:=[t]) (by simp) (i:=0) (by simp)
  rw [g]
  exact this
 unfold j0b
 rw [show (d.1==1)=false by simpa using f,cond_false,b]
 rfl
theorem jlO (d:D) (l:List (List V)) (m:l.length<=60) (j:∀ x∈l,x.length<=1048576) (h:0<d.2.2.1.length) (k:List (List V)->Res):j6v (nI l.length) d Z1c l 0 k=k (l.map λx=>x++[(nth zC d.2.2.1 0).2.2.2.2]):=by
 unfold j6v
 have:=Z3u (step:=j4B (nI l.length) d) (λi=>((l.take i).map (λx:List V=>x++[(nth zC d.2.2.1 0).2.2.2.2])++l.drop i,(i:Int))) l.length k (k (l.map λx=>x++[(nth zC d.2.2.1 0).2.2.2.2])) (λi b rec=> ?_) (λrec=> ?_) Z1c (Z2b (by omega))
 ·refine Eq.trans ?_ this
  simp
 ·show j2w _ _ _ _ _ _=_
  unfold j2w
  dsimp only
  have p:=j _ (List.getElem_mem b)
  have g:inb (i:Int) ((l.take i).map (λx:List V=>x++[(nth zC d.2.2.1 0).2.2.2.2])++l.drop i).length=true:=j00 (by rw [je8];exact b)
  have f:∀ y:List V,inb (i:Int) (((l.take i).map (λx:List V=>x++[(nth zC d.2.2.1 0).2.2.2.2])++l.drop i).set i y).length=true:=λy=>j00 (by rw [List.length_set,je8];exact b)
  rw [ZaQ b,cond_true,g,cond_true,show inb 0 d.2.2.1.length=true from j00 (i:=0) h,cond_true,jlK _ _ _ _ b,ZaL (by unfold LIM;omega),cond_true,ZaF,f,cond_true,jbF,cond_true,j01 (n:=(i:Int)+1) (by omega),<-jlL _ _ _ b]
  rfl
 ·show j2w _ _ _ _ _ _=_
  unfold j2w
  dsimp only
  rw [ZaP,cond_false,List.take_length,List.drop_length,List.append_nil]
theorem jlQ (a:Nat) (l:List (List V)) (z:l.length<=60) (q:∀ x∈l,a<x.length/\x.length<=1048576) (k:List (List V)->Res):j6w (a:Int) (nI l.length) Z1c l 0 k=k (l.map λx=>x.eraseIdx a):=by
 unfold j6w
 have:=Z3u (step:=j4C (a:Int) (nI l.length)) (λi=>((l.take i).map (λx:List V=>x.eraseIdx a)++l.drop i,(i:Int))) l.length k (k (l.map λx=>x.eraseIdx a)) (λi b rec=> ?_) (λrec=> ?_) Z1c (Z2b (by omega))
 ·refine Eq.trans ?_ this
  simp
 ·show j2x _ _ _ _ _ _=_
  unfold j2x j7O ja8
  dsimp only
  obtain ⟨r,w⟩:=q _ (List.getElem_mem b)
  have f:inb (i:Int) ((l.take i).map (λx:List V=>x.eraseIdx a)++l.drop i).length=true:=j00 (by rw [je8];exact b)
  have d:∀ y:List V,inb (i:Int) (((l.take i).map (λx:List V=>x.eraseIdx a)++l.drop i).set i y).length=true:=λy=>j00 (by rw [List.length_set,je8];exact b)
  have p:l[i].take a++l[i].drop (a+1)=l[i].eraseIdx a:=(List.eraseIdx_eq_take_drop_succ _ _).symm
  have m:Z8e (a:Int) ((a:Int)+1) l[i].length=true:=j6R (j:=a+1) ⟨by omega,by omega⟩
  have g:(a:Int).toNat=a:=Int.toNat_natCast a
  have h:((a:Int)+1).toNat=a+1:=by omega
  rw [ZaQ b,cond_true,f,cond_true,jlK _ _ _ _ b,j01 (n:=(a:Int)+1) (by omega),m,cond_true,g,h,p,ZaF,d,cond_true,jbF,cond_true,j01 (n:=(i:Int)+1) (by omega),<-jlL _ _ _ b]
  rfl
 ·show j2x _ _ _ _ _ _=_
  unfold j2x
  dsimp only
  rw [ZaP,cond_false,List.take_length,List.drop_length,List.append_nil]
theorem jjk (t:T) (h:msr yT t<=1048576) (l:List (List V)) (g:j08 t l=true) (d:D) (n:dSm d) (m:j0S d=true) (w:d.2.1=t.1) (i:d.1≠1) (k:List (List V)->Int->Res) :
  j50 t l d k=k (bif j0n t d != 0 then [] else bif d.1==2 then [] else jds t d l) (j0n t d):=by
 obtain ⟨ht,z,F⟩:=j0g g
 obtain ⟨f,A⟩:=je6 m
 unfold j50 j4a
 rw [j80 t h,g,Bool.not_true,cond_false,jeF d n,m,Bool.not_true,cond_false]
 have r:sNe d.2.1 t.1=false:=by unfold sNe;rw [w];simp
 rw [r,cond_false,show (d.1==1)=false by simpa using i]
 dsimp only
 rw [cond_false,jh0 _ _ (jjg ht).2 m,jo1 w i]
 cases B:(j0n t d != 0)
 rotate_left
 ·rfl
 have b:j0n t d=0:=by simpa using B
 have q:=(j2g h).2.1
 rw [cond_false,cond_false,j6T l (by omega) (jeg h g),b]
 rcases f with e | e | e | e | e
 ·exact absurd e i
 ·rw [e];rfl
 ·unfold jds
  rw [e]
  simp only [show ((3:Int)==2)=false from rfl,show ((3:Int)==3)=true from rfl,cond_false,cond_true]
  rw [jlO d l z (jeg h g) (A e)]
 ·unfold jds
  have G:¬ j02 t.2.1 d.2.2.2.2.1<0:=λp=>by
   unfold j0n at b
   rw [e] at b
   simp only [show ((4:Int)==3)=false from rfl,show ((4:Int)==4)=true from rfl,cond_false,cond_true,decide_eq_true p] at b
   cases b
  rcases j10 t.2.1 d.2.2.2.2.1 with ⟨y,_⟩ | ⟨j,C,y,_,_⟩
  ·omega
  rw [e]
  simp only [show ((4:Int)==2)=false from rfl,show ((4:Int)==3)=false from rfl,show ((4:Int)==4)=true from rfl,cond_false,cond_true]
  rw [j6S _ _ (by unfold LIM;omega),y,jlQ j l z (λx E=>by rw [j0q (F x E)];exact ⟨C,q⟩)]
  rfl
 ·unfold jds
  rw [e]
  rfl
end Go.PI.G
