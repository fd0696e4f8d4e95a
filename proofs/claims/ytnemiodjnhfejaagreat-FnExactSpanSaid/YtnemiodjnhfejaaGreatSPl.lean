/-
  Program's code interpreted over typed values; printed texts; plain laws. No conditions.
-/
import Derived.Test.YtnemiodjnhfejaaGreatSPi
import Derived.Test.YtnemiodjnhfejaaGreatSPe
import Derived.Test.YtnemiodjnhfejaaGreatSPf
import Derived.Test.YtnemiodjnhfejaaGreatSPk
import Derived.Test.YtnemiodjnhfejaaGreatSPj
set_option linter.unusedVariables false
set_option linter.unusedSimpArgs false
namespace Go.PI.G
open Go Go.PI Go.Proofs
theorem jci (c:List T) (n:ByteArray) (h:c.length<=LIM) (k:Int->Res):j1Z c n k=k (j04 c n):=by
 unfold j1Z jfk
 refine Z9A c (λi=>i) (λt=>sEq t.1 n) (step:=j9v n c (nI c.length)) _ k h (λi rec b=> ?_) (λrec=> ?_)
 ·show j4q n _ _ _ _ _ _=_
  unfold j4q
  unfold LIM at h
  rw [Zam b,cond_true,j00 b,cond_true,Za7 _ _ _ b,j01 (n:=(i:Int)+1) (by omega)]
 ·show j4q n _ _ _ _ _ _=_
  unfold j4q
  rw [Zal,cond_false]
theorem j6P (c:List T) (n:ByteArray) (h:c.length<=LIM) (k:Int->Res):j0i c n k=k (j04 c n):=by
 unfold j0i j4w j6A
 refine Z9A c (λi=>i) (λt=>sEq t.1 n) (step:=j27 c n (nI c.length)) _ k h (λi rec b=> ?_) (λrec=> ?_)
 ·show j0z _ n _ _ _ _ _=_
  unfold j0z jbU
  unfold LIM at h
  rw [Zam b,cond_true,j00 b,cond_true,Za7 _ _ _ b,j01 (n:=(i:Int)+1) (by omega)]
 ·show j0z _ n _ _ _ _ _=_
  unfold j0z
  rw [Zal,cond_false]
end Go.PI.G
namespace Go.PI.G
open Go Go.PI Go.Proofs
noncomputable def jdm (p:List ByteArray) (s:ByteArray):Bool:=p.any λx=>sEq x s
theorem jlw {α:Type} (q:α->Bool) (l:List α):decide (Z9t q l>=0)=l.any q:=by
 unfold Z9t
 cases h:l.findIdx? q with
 | none=>
  have:=List.findIdx?_eq_none_iff.1 h
  have b:l.any q=false:=by
   rw [List.any_eq_false]
   intro x g
   rw [this x g];simp
  rw [b];rfl
 | some i=>
  have:=List.findIdx?_eq_some_iff_getElem.1 h
  obtain ⟨d,f,_⟩:=this
  have b:l.any q=true:=List.any_eq_true.2 ⟨l[i],List.getElem_mem d,f⟩
  rw [b]
  show decide ((i:Int)>=0)=true
  exact decide_eq_true (by omega)
theorem jnf (l:List ByteArray) (s:ByteArray) (h:l.length<=LIM) (k:Bool->Res):j14 l s k=k (jdm l s):=by
 unfold j14 j0H j4x jdm
 have:=Z9A l (λi=>i) (λx=>sEq s x) (step:=j1p l s (nI l.length)) ((λ(_:Unit)=>k (decide ((-1:Int)>=0))),(λ(t:Int)=>k (decide (t>=0)))) (λr=>k (decide (r>=0))) h (λi rec b=>by
  show j0c _ _ _ _ _ _ _=_
  unfold j0c
  unfold LIM at h
  rw [Zam b,cond_true,j00 b,cond_true,Za7 _ _ _ b,j01 (n:=(i:Int)+1) (by omega)]) (λrec=>by
  show j0c _ _ _ _ _ _ _=_
  unfold j0c
  rw [Zal,cond_false])
 refine this.trans ?_
 rw [jlw]
 have:(λx=>sEq s x)=λx=>sEq x s:=by funext x;exact Z9Q s x
 rw [this]
end Go.PI.G
namespace Go.PI.G
open Go Go.PI Go.Proofs
theorem jnw (l:List ByteArray) (s:ByteArray) (h:l.length<=LIM) (k:Bool->Res):j84 l s k=k (jdm l s):=by
 unfold j84 jeb jdm
 have:=Z9D l (λi=>i) (λx=>sEq x s) (step:=j8w s l (nI l.length)) ((λ(_:Unit)=>k false),(λ(_:Unit)=>k true)) (k false) (k true) h (λi rec b=>by
  show j3z _ _ _ _ _ _ _=_
  unfold j3z
  unfold LIM at h
  rw [Zam b,cond_true,j00 b,cond_true,Za7 _ _ _ b,j01 (n:=(i:Int)+1) (by omega)]) (λrec=>by
  show j3z _ _ _ _ _ _ _=_
  unfold j3z
  rw [Zal,cond_false])
 refine this.trans ?_
 cases l.any λx=>sEq x s<;>rfl
end Go.PI.G
namespace Go.PI.G
open Go Go.PI Go.Proofs
theorem jaC {n:Nat} (h:n<=1048576):lim (0+n)=true:=Zai (by unfold LIM;omega)
theorem jgW (t:T) (b:t.2.1.length<=1048576) (d:t.2.2.length<=1048576) (k:T->Res):j3X t k=k t:=by
 unfold j3X
 simp only [Z9z]
 rw [jaC b,cond_true,jaC d,cond_true]
theorem jbS {c:List T} (b:msr (.slice yT) c<=1048576):c.length<=1048576/\∀ t∈c,tSm t:=⟨j0M b,λt ht=>j2e (j1R b ht)⟩
theorem j0F {α:Type}:(l:List α)->l.flatMap (λx=>[x])=l
 | []=>rfl
 | x::l=>by rw [List.flatMap_cons,j0F l];rfl
theorem jgT (c:List T) (f:msr (.slice yT) c<=1048576) (k:List T->Res):j3y c k=k c:=by
 obtain ⟨h,ht⟩:=jbS f
 unfold j3y jcV
 have:=Z9B c (λi b=>(i,b)) (λx=>[x]) 1048576 [] (step:=j7K c (nI c.length)) (λb=>k b) (λb=>k b) (by unfold LIM;omega) (λi d _=>by
  rw [j0F,List.nil_append,List.length_take];omega) (by simp) (λi b rec d j g=>by
  show j2I _ _ _ _ _ _=_
  unfold j2I
  obtain ⟨l,m,p,q,r⟩:=ht _ (List.getElem_mem d)
  dsimp only
  rw [Zam d,cond_true,j00 d,cond_true,Za7 _ _ _ d,jgW _ (by omega) (by omega),Zai (by unfold LIM;omega),cond_true,j01 (n:=(i:Int)+1) (by omega)]) (λb rec=>by
  show j2I _ _ _ _ _ _=_
  unfold j2I
  dsimp only
  rw [Zal,cond_false])
 refine this.trans ?_
 rw [j0F,List.nil_append]
noncomputable def j9e (t:T) (a:Bool×List T) (x:T):Bool×List T:=bif !a.1&&tR t x then (true,a.2++[t]++[x]) else (a.1,a.2++[x])
theorem jjZ (t:T):(l:List T)->(b:List T)->l.foldl (j9e t) (true,b)=(true,b++l)
 | [],b=>by simp
 | x::l,b=>by
  rw [List.foldl_cons]
  show l.foldl (j9e t) (true,b++[x])=_
  rw [jjZ t l,List.append_assoc];rfl
theorem jlR (t:T):(l:List T)->(b:List T)->(bif !(l.foldl (j9e t) (false,b)).1 then (l.foldl (j9e t) (false,b)).2++[t] else (l.foldl (j9e t) (false,b)).2)=b++lay tR t l
 | [],b=>rfl
 | x::l,b=>by
  rw [List.foldl_cons]
  unfold lay
  cases d:tR t x
  ·have:j9e t (false,b) x=(false,b++[x]):=by unfold j9e;rw [d];rfl
   rw [this,jlR t l,List.takeWhile_cons_of_pos (by rw [d];rfl),List.dropWhile_cons_of_pos (by rw [d];rfl)]
   unfold lay
   simp
  ·have:j9e t (false,b) x=(true,b++[t]++[x]):=by unfold j9e;rw [d];rfl
   rw [this,jjZ,List.takeWhile_cons_of_neg (by rw [d];simp),List.dropWhile_cons_of_neg (by rw [d];simp)]
   simp
theorem jp2 (t:T) (a:Bool×List T) (x:T):(j9e t a x).2.length<=a.2.length+2:=by
 unfold j9e
 cases !a.1&&tR t x<;>simp
theorem jnz (c:List T) (t:T) (j:c.length<=1048576) (k:List T->Res):j85 c t k=k (lay tR t c):=by
 unfold j85 jao
 have:=Z8b c (λi (a:Bool×List T)=>(a.1,i,a.2)) (j9e t) (λi a=>a.2.length<=2 * i) (step:=j8x c (nI c.length) t) (λdone b=>bif !done then bif lim (b.length+1) then k (b++[t]) else none else k b)
  (λa=>bif !a.1 then k (a.2++[t]) else k a.2) (false,[]) (by unfold LIM;omega) (by simp) (λi a f h=>by have:=jp2 t a c[i];omega) (λi a rec f h=>by
  show j3A _ _ _ _ _ _ _ _=_
  unfold j3A jap
  dsimp only
  rw [Zam f,cond_true,j00 f,cond_true,Za7 _ _ _ f]
  have g:lim (a.2.length+1)=true:=Zai (by unfold LIM;omega)
  have d:lim ((a.2++[t]).length+1)=true:=Zai (by unfold LIM;simp;omega)
  unfold j9e tR
  cases a.1
  ·rw [Bool.not_false,cond_true,Bool.true_and]
   cases sLt t.1 c[i].1
   ·rw [cond_false,cond_false,g,cond_true,j01 (n:=(i:Int)+1) (by omega)]
   ·rw [cond_true,cond_true,g,cond_true,d,cond_true,j01 (n:=(i:Int)+1) (by omega)]
  ·rw [Bool.not_true,cond_false,Bool.false_and,cond_false,g,cond_true,j01 (n:=(i:Int)+1) (by omega)]) (λa rec h=>by
  show j3A _ _ _ _ _ _ _ _=_
  unfold j3A
  dsimp only
  rw [Zal,cond_false]
  cases a.1
  ·rw [Bool.not_false,cond_true,cond_true,Zai (by unfold LIM;omega),cond_true]
  ·rfl)
 refine this.trans ?_
 have d:=jlR t c []
 rw [List.nil_append] at d
 rw [<-d]
 cases (c.foldl (j9e t) (false,[])).1<;>rfl
theorem jeq (l:List C) (n:ByteArray):decide (j02 l n>=0)= !decide (j02 l n<0):=by
 by_cases h:j02 l n<0
 ·rw [decide_eq_true h,decide_eq_false (by omega)];rfl
 ·rw [decide_eq_false h,decide_eq_true (by omega)];rfl
theorem jm9 (t:T) (d:D) (l:t.2.1.length<=1048576) (m:t.2.2.length<=1048576) (b:d.1=3->0<d.2.2.1.length) (k:Int->Res):j3W t d k=k (j0n t d):=by
 unfold j3W j0n
 rw [j5D _ _ (by unfold LIM;omega)]
 cases f:(d.1==3)
 ·rw [cond_false,cond_false]
  cases h:(d.1==4)
  ·rw [cond_false,cond_false]
   cases j:(d.1==5)
   ·rfl
   ·rw [cond_true,cond_true,j5D _ _ (by unfold LIM;omega),jeq]
    cases !decide (j02 t.2.1 d.2.2.2.2.2<0)
    ·cases decide (j02 t.2.1 d.2.2.2.2.1<0)<;>rfl
    ·rfl
  ·rw [cond_true,cond_true]
   cases decide (j02 t.2.1 d.2.2.2.2.1<0)
   ·rw [cond_false,cond_false,jnw _ _ (by unfold LIM;omega)]
    show (bif jdm t.2.2 d.2.2.2.2.1 then k 8 else k 0)=k (bif jdm t.2.2 d.2.2.2.2.1 then 8 else 0)
    cases jdm t.2.2 d.2.2.2.2.1<;>rfl
   ·rfl
 ·rw [cond_true,cond_true]
  have b:=b (by simpa using f)
  have g:inb 0 d.2.2.1.length=true:=j00 (i:=0) b
  rw [g,cond_true,j5D _ _ (by unfold LIM;omega),jeq]
  cases !decide (j02 t.2.1 (nth zC d.2.2.1 0).1<0)
  ·rw [cond_false,cond_false]
   have:(nI t.2.1.length==8)=(t.2.1.length==8):=by
    unfold nI
    rw [Bool.eq_iff_iff]
    simp only [beq_iff_eq]
    omega
   rw [this]
   cases (t.2.1.length==8)<;>rfl
  ·rfl
end Go.PI.G
namespace Go.PI.G
open Go Go.PI Go.Proofs
noncomputable def j9f {α:Type} (R:α->α->Bool) (t:α) (a:Bool×List α) (x:α):Bool×List α:=bif !a.1&&R t x then (true,a.2++[t]++[x]) else (a.1,a.2++[x])
theorem jk0 {α:Type} (R:α->α->Bool) (t:α):(l:List α)->(b:List α)->l.foldl (j9f R t) (true,b)=(true,b++l)
 | [],b=>by simp
 | x::l,b=>by
  rw [List.foldl_cons]
  show l.foldl (j9f R t) (true,b++[x])=_
  rw [jk0 R t l,List.append_assoc];rfl
theorem jlS {α:Type} (R:α->α->Bool) (t:α):(l:List α)->(b:List α)->(bif !(l.foldl (j9f R t) (false,b)).1 then (l.foldl (j9f R t) (false,b)).2++[t] else (l.foldl (j9f R t) (false,b)).2)=b++lay R t l
 | [],b=>rfl
 | x::l,b=>by
  rw [List.foldl_cons]
  unfold lay
  cases d:R t x
  ·have:j9f R t (false,b) x=(false,b++[x]):=by unfold j9f;rw [d];rfl
   rw [this,jlS R t l,List.takeWhile_cons_of_pos (by rw [d];rfl),List.dropWhile_cons_of_pos (by rw [d];rfl)]
   unfold lay
   simp
  ·have:j9f R t (false,b) x=(true,b++[t]++[x]):=by unfold j9f;rw [d];rfl
   rw [this,jk0,List.takeWhile_cons_of_neg (by rw [d];simp),List.dropWhile_cons_of_neg (by rw [d];simp)]
   simp
theorem jp3 {α:Type} (R:α->α->Bool) (t:α) (a:Bool×List α) (x:α):(j9f R t a x).2.length<=a.2.length+2:=by
 unfold j9f
 cases !a.1&&R t x<;>simp
theorem jju {t:T} (ht:j03 t=true) {r:List V} (h:r.length=t.2.1.length):lim (0+r.length)=true:=by
 have:=((j5T t).1 ht).2.2.1
 exact jaC (by omega)
theorem jiK (t:T) (h:msr yT t<=1048576) (ht:j03 t=true) (l:List (List V)) (r:List V) (z:∀ x∈l,x.length=t.2.1.length) (A:l.length<=60) (n:r.length=t.2.1.length) (k:List (List V)->Res):j2W t l r k=k (jey t l r):=by
 have p:∀ x:List V,(j05 t x).length<=LIM:=λx=>by
  rw [j8l]
  have:=(j2e h).2.2.1
  unfold LIM;omega
 unfold j2W jaq j0t
 have:=Z8b l (λi (a:Bool×List (List V))=>(a.2,a.1,i)) (j9f (kR t) r) (λi a=>a.2.length<=2 * i) (step:=j3D l (nI l.length) t r) (λb done=>bif !done then bif lim (0+r.length) then bif lim (b.length+1) then k (b++[r]) else none else none else k b)
  (λa=>bif !a.1 then k (a.2++[r]) else k a.2) (false,[]) (by unfold LIM;omega) (by simp) (λi a d p=>by have:=jp3 (kR t) r a l[i];omega) (λi a rec d y=>by
  show j1T _ _ _ _ _ _ _ _ _=_
  unfold j1T j5y j0t
  dsimp only
  have q:=z _ (List.getElem_mem d)
  rw [Zam d,cond_true,j00 d,cond_true,Za7 _ _ _ d]
  have g:lim (a.2.length+1)=true:=Zai (by unfold LIM;omega)
  have f:lim ((a.2++[r]).length+1)=true:=Zai (by unfold LIM;simp;omega)
  have j:lim (0+(l[i]).length)=true:=jju ht q
  have w:lim (0+r.length)=true:=jju ht n
  have m:Z9x ((i:Int)+1)=(i:Int)+1:=j01 (by omega)
  unfold j9f
  cases a.1
  ·simp only [Bool.not_false,cond_true,Bool.true_and]
   rw [j5P t h ht r n,j5P t h ht _ q,je8 _ _ (p _)]
   unfold kR
   cases klt (j05 t r) (j05 t l[i])
   ·simp only [cond_false,cond_true,j,g,m]
   ·simp only [cond_true,w,g,j,f,m]
  ·simp only [Bool.not_true,cond_false,Bool.false_and,j,g,m,cond_true]) (λa rec y=>by
  show j1T _ _ _ _ _ _ _ _ _=_
  unfold j1T
  dsimp only
  rw [Zal,cond_false]
  cases a.1
  ·simp only [Bool.not_false,cond_true,jju ht n]
   rw [Zai (by unfold LIM;omega),cond_true]
  ·rfl)
 refine this.trans ?_
 have f:=jlS (kR t) r l []
 rw [List.nil_append] at f
 unfold jey
 rw [<-f]
 cases (l.foldl (j9f (kR t) r) (false,[])).1<;>rfl
theorem ji2 {α:Type} (l:List α) (a i:Nat) (f:i<l.length):(l.take (i+1)).eraseIdx a=bif i==a then (l.take i).eraseIdx a else (l.take i).eraseIdx a++[l[i]]:=by
 have g:(l.take i).length=i:=by rw [List.length_take];omega
 rw [List.take_succ_eq_append_getElem f]
 by_cases h:a<i
 ·rw [List.eraseIdx_append_of_lt_length (by omega),show (i==a)=false from beq_eq_false_iff_ne.2 (by omega),cond_false]
 ·rw [List.eraseIdx_append_of_length_le (by omega),g]
  by_cases e:i=a
  ·subst e
   have b:[l[i]].eraseIdx (i-i)=[]:=by rw [Nat.sub_self];rfl
   have d:(l.take i).eraseIdx i=l.take i:=List.eraseIdx_of_length_le (by omega)
   rw [show (i==i)=true from beq_self_eq_true i,cond_true,b,d,List.append_nil]
  ·have b:[l[i]].eraseIdx (a-i)=[l[i]]:=List.eraseIdx_of_length_le (by simp only [List.length_cons,List.length_nil];omega)
   have d:(l.take i).eraseIdx a=l.take i:=List.eraseIdx_of_length_le (by omega)
   rw [show (i==a)=false from beq_eq_false_iff_ne.2 e,cond_false,b,d]
theorem je9 (l:List (List V)) (a:Nat) (j:l.length<=60) (h:∀ x∈l,x.length<=1048576) (k:List (List V)->Res):j1r l (a:Int) k=k (l.eraseIdx a):=by
 unfold j1r jaN
 have:=Z5X (step:=j5S (a:Int) l (nI l.length)) (λi=>((l.take i).eraseIdx a,(i:Int))) l.length (λd=>k d) (k (l.eraseIdx a)) (λi b rec=> ?_) (λrec=> ?_) Z1Y (Z48 (by omega))
 ·refine Eq.trans ?_ this
  rw [List.take_zero,List.eraseIdx_nil]
  rfl
 ·show j1s _ _ _ _ _ _ _=_
  unfold j1s j0t
  dsimp only
  have g:((l.take i).eraseIdx a).length<=60:=Nat.le_trans (List.eraseIdx_sublist _ _).length_le (by rw [List.length_take];omega)
  rw [Zam b,cond_true,j00 b,cond_true,Za7 _ _ _ b,j01 (n:=(i:Int)+1) (by omega),ji2 l a i b]
  have f:((i:Int) != (a:Int))= !(i==a):=by
   rw [Bool.eq_iff_iff]
   simp only [bne_iff_ne,Bool.not_eq_true',beq_eq_false_iff_ne,ne_eq,Int.natCast_inj]
  rw [f]
  cases (i==a)
  ·rw [Bool.not_false,cond_true,jaC (h _ (List.getElem_mem b)),cond_true,Zai (by unfold LIM;omega),cond_true,cond_false]
   rfl
  ·rw [Bool.not_true,cond_false,cond_true]
   rfl
 ·show j1s _ _ _ _ _ _ _=_
  unfold j1s
  dsimp only
  rw [Zal,cond_false,List.take_length]
end Go.PI.G
namespace Go.PI.G
open Go Go.PI Go.Proofs
theorem jlJ {t:T} (ht:j03 t=true) {n:ByteArray} (f:n∈t.2.2):∃ (j:Nat) (b:j<t.2.1.length),j02 t.2.1 n=(j:Int):=by
 have g:=(((j4d _ _ _).1 ((j5T t).1 ht).2.2.2.2.2).1 n f).1
 rcases j10 t.2.1 n with ⟨d,_⟩ | ⟨j,b,d,_⟩
 ·omega
 ·exact ⟨j,b,d⟩
theorem jpN {t:T} (ht:j03 t=true) {c:C} (b:c∈t.2.1):j0R c=true:=((j5B _).1 ((j5T t).1 ht).2.2.2.2.1).1 c b
theorem jgk (t:T) (h:msr yT t<=1048576) (b:List V) (k:Bool->Res):j4k t b k=k (j97 t b):=by
 unfold j4k j97
 obtain ⟨m,p,q,r,w⟩:=j2e h
 rw [jbz t h]
 cases ht:j03 t
 ·rfl
 rw [Bool.not_true,cond_false,Bool.true_and]
 by_cases f:b.length=t.2.2.length
 rotate_left
 ·rw [jia f,cond_true,decide_eq_false f,Bool.false_and]
 rw [ji9 f,cond_false,decide_eq_true f,Bool.true_and]
 unfold jb6
 have:=Z9y t.2.2 (λi=>i) (λi n=> !j38 (nth zC t.2.1 (j02 t.2.1 n)) (nth zV b (i:Int))) (step:=j4l b t.2.2 (nI t.2.2.length) t) ((λ(_:Unit)=>k true),(λ(_:Unit)=>k false)) (k true) (k false) (by unfold LIM;omega) (λi rec d=>by
  obtain ⟨j,g,l⟩:=jlJ ht (List.getElem_mem d)
  show j2i _ _ _ _ _ _ _ _=_
  unfold j2i
  rw [Zam d,cond_true,j00 d,cond_true,j00 (f ▸ d),cond_true,Za7 _ _ _ d,j5D _ _ (by unfold LIM;omega),l,j00 g,cond_true,Za7 _ _ _ g,jgV _ (jpN ht (List.getElem_mem g)),j01 (n:=(i:Int)+1) (by omega)]) (λrec=>by
  show j2i _ _ _ _ _ _ _ _=_
  unfold j2i
  rw [Zal,cond_false])
 refine this.trans ?_
 cases Z6V (λi n=> !j38 (nth zC t.2.1 (j02 t.2.1 n)) (nth zV b (i:Int))) 0 t.2.2<;>rfl
theorem jeE (t:T) (l:List (List V)) (b:List V):decide (j06 t l b>=0)= !decide (j06 t l b<0):=by
 by_cases h:j06 t l b<0
 ·rw [decide_eq_true h,decide_eq_false (by omega)];rfl
 ·rw [decide_eq_false h,decide_eq_true (by omega)];rfl
theorem jn3 (n:Nat) (m:Nat):(nI n==(m:Int))=(n==m):=by
 unfold nI
 rw [Bool.eq_iff_iff]
 simp only [beq_iff_eq]
 omega
theorem jkY (t:T) (h:msr yT t<=1048576) (l:List (List V)) (r:List V) (k:List (List V)->Int->Res):j6k t l r k=k (j59 t l r).1 (j59 t l r).2:=by
 unfold j6k j59
 rw [j6i t h]
 cases b:j08 t l
 ·rfl
 obtain ⟨ht,g,i⟩:=j0g b
 rw [Bool.not_true,cond_false,cond_false,jeI t h,ht,Bool.true_and]
 cases d:j0k t.2.1 r
 ·rfl
 rw [Bool.not_true,cond_false,cond_false,j5P t h ht r (j0q d),j9o t h l b,jeE]
 cases !decide (j06 t l (j05 t r)<0)
 rotate_left
 ·rfl
 rw [cond_false,cond_false,show (nI l.length==(60:Int))=(l.length==60) from jn3 _ 60]
 cases (l.length==60)
 ·rw [cond_false,cond_false,jiK t h ht l r (λx f=>j0q (i x f)) g (j0q d)]
 ·rfl
theorem je5 {t:T} (h:msr yT t<=1048576) {l:List (List V)} (b:j08 t l=true):∀ x∈l,x.length<=1048576:=λx d=>by
 have f:=j0q ((j0g b).2.2 x d)
 have g:=(j2e h).2.1
 omega
theorem jcP {t:T} {l:List (List V)} {b:List V} (h:¬ j06 t l b<0):∃ i:Nat,i<l.length/\j06 t l b=(i:Int):=by
 have:=jlT t l b
 exact ⟨(j06 t l b).toNat,by omega,by omega⟩
theorem jkZ (t:T) (h:msr yT t<=1048576) (l:List (List V)) (b r:List V) (k:List (List V)->Int->Res):j6l t l b r k=k (j5a t l b r).1 (j5a t l b r).2:=by
 unfold j6l j5a
 rw [j6i t h]
 cases g:j08 t l
 ·rfl
 obtain ⟨ht,w,z⟩:=j0g g
 rw [Bool.not_true,cond_false,cond_false,jeI t h,ht,Bool.true_and]
 cases j:j0k t.2.1 r
 ·rfl
 rw [Bool.not_true,cond_false,cond_false,j9o t h l g,jgk t h]
 cases j97 t b
 ·rfl
 rw [Bool.not_true,cond_false,Bool.false_or]
 by_cases d:j06 t l b<0
 ·rw [decide_eq_true d];rfl
 rw [decide_eq_false d,cond_false,cond_false]
 obtain ⟨i,y,m⟩:=jcP d
 have f:=jcG g i
 obtain ⟨_,p,q⟩:=j0g f
 rw [m,Int.toNat_natCast,je9 l i w (je5 h g),j5P t h ht r (j0q j),j9o t h _ f,jeE]
 cases !decide (j06 t (l.eraseIdx i) (j05 t r)<0)
 ·rw [cond_false,cond_false,jiK t h ht _ r (λx n=>j0q (q x n)) p (j0q j)]
 ·rfl
theorem jkX (t:T) (h:msr yT t<=1048576) (l:List (List V)) (b:List V) (k:List (List V)->Int->Res):j6j t l b k=k (j58 t l b).1 (j58 t l b).2:=by
 unfold j6j j58
 rw [j6i t h]
 cases f:j08 t l
 ·rfl
 obtain ⟨ht,j,n⟩:=j0g f
 rw [Bool.not_true,cond_false,cond_false,j9o t h l f,jgk t h]
 cases j97 t b
 ·rfl
 rw [Bool.not_true,cond_false,Bool.false_or]
 by_cases d:j06 t l b<0
 ·rw [decide_eq_true d];rfl
 rw [decide_eq_false d,cond_false,cond_false]
 obtain ⟨i,m,g⟩:=jcP d
 rw [g,Int.toNat_natCast,je9 l i j (je5 h f)]
end Go.PI.G
namespace Go.PI.G
open Go Go.PI
def goL {α A E:Type} (f:A->α->Except E A):List α->A->Except E A
 | [],a=> .ok a
 | x::xs,a=>match f a x with
  | .ok b=>goL f xs b
  | .error e=> .error e
def jq1 (x:Int):Bool:=decide (48<=x/\x<=57)
def dgF (n x:Int):Except Unit Int:=bif jq1 x then .ok (n * 10+(x-48)) else .error ()
def rdN (l:List Int):Option Int:=bif l.headD 0==45 then (match goL dgF l.tail 0 with | .ok n=>some (-n) | .error _=>none) else match goL dgF l 0 with | .ok n=>some n | .error _=>none
theorem jp9 {α:Type} (l:List α) (i:Nat):sub l (i:Int) (nI l.length)=l.drop i:=by
 unfold sub nI
 rw [show ((l.length:Int)).toNat=l.length by omega,show ((i:Int)).toNat=i by omega,List.take_length]
theorem jjF {α:Type} (l:List α) (i j:Nat):sub l (i:Int) (j:Int)=(l.take j).drop i:=by
 unfold sub
 rw [show ((j:Int)).toNat=j by omega,show ((i:Int)).toNat=i by omega]
theorem j6M {i j n:Nat} (h:i<=j/\j<=n):Z87 (i:Int) (j:Int) n=true:=decide_eq_true (by omega)
end Go.PI.G
namespace Go.PI.G
open Go Go.PI Go.Proofs
theorem jdY {α:Type} (f:α->α) (l:List α) (i:Nat):((l.take i).map f++l.drop i).length=l.length:=by
 rw [List.length_append,List.length_map,List.length_take,List.length_drop];omega
theorem jlt {α:Type} (f:α->α) (z:α) (l:List α) (i:Nat) (b:i<l.length):nth z ((l.take i).map f++l.drop i) (i:Int)=l[i]:=by
 rw [Za7 _ _ _ (by rw [jdY];exact b),List.getElem_append_right (by rw [List.length_map,List.length_take];omega),List.getElem_drop]
 congr 1
 rw [List.length_map,List.length_take];omega
theorem jlu {α:Type} (f:α->α) (l:List α) (i:Nat) (b:i<l.length):((l.take i).map f++l.drop i).set i (f l[i])=(l.take (i+1)).map f++l.drop (i+1):=by
 rw [List.set_append_right _ _ (by rw [List.length_map,List.length_take];omega),List.length_map,List.length_take,Nat.min_eq_left (by omega),Nat.sub_self,List.drop_eq_getElem_cons b,List.set_cons_zero,List.take_succ_eq_append_getElem b,List.map_append,List.append_assoc]
 rfl
theorem jpG {α:Type} (f:α->α) (l:List α) (i:Nat) (b:i<l.length) (h:f l[i]=l[i]):(l.take (i+1)).map f++l.drop (i+1)=(l.take i).map f++l.drop i:=by
 rw [List.take_succ_eq_append_getElem b,List.map_append,List.append_assoc,List.drop_eq_getElem_cons b]
 show (l.take i).map f++([f l[i]]++l.drop (i+1))=_
 rw [h]
 rfl
noncomputable def j8i (d:D) (c:C):List C:=bif (d.1==4)&&sEq c.1 d.2.2.2.2.1 then [] else [bif (d.1==5)&&sEq c.1 d.2.2.2.2.1 then (d.2.2.2.2.2,c.2) else c]
theorem jox (d:D) (l:List C):(l.flatMap (j8i d)).length<=l.length:=by
 induction l with
 | nil=>exact Nat.le_refl _
 | cons c l b=>
  rw [List.flatMap_cons,List.length_append,List.length_cons]
  have:(j8i d c).length<=1:=by
   unfold j8i
   cases (d.1==4)&&sEq c.1 d.2.2.2.2.1<;>simp
  omega
theorem jmH (d:D) (t:T) (l:t.2.1.length<=1048576) (k:T->Res):j4H t.2.1 (nI t.2.1.length) d Z1Y 0 (t.1,[],t.2.2) k=k (t.1,t.2.1.flatMap (j8i d),t.2.2):=by
 unfold j4H
 have:=Z9B t.2.1 (λi b=>(i,(t.1,b,t.2.2))) (j8i d) 1048576 [] (step:=j1L t.2.1 (nI t.2.1.length) d) k (λb=>k (t.1,b,t.2.2)) (by unfold LIM;omega) (λi f _=>by
  rw [List.nil_append]
  exact Nat.le_trans (jox _ _) (by rw [List.length_take];omega)) (by simp) (λi b rec f p m=>by
  show j0Y _ _ _ _ _ _ _=_
  unfold j0Y j4K j4L
  dsimp only
  have g:lim (b.length+1)=true:=Zai (by unfold LIM;omega)
  rw [Zam f,cond_true,j00 f,cond_true,Za7 _ _ _ f,j01 (n:=(i:Int)+1) (by omega)]
  unfold j8i
  cases j:(d.1==4)
  ·rw [cond_false,Bool.false_and,cond_false]
   cases h:(d.1==5)
   ·rw [cond_false,g,cond_true,Bool.false_and,cond_false]
   ·rw [cond_true,Bool.true_and]
    cases sEq t.2.1[i].1 d.2.2.2.2.1
    ·rw [cond_false,g,cond_true,cond_false]
    ·rw [cond_true,g,cond_true,cond_true]
  ·rw [cond_true,Bool.true_and]
   cases sEq t.2.1[i].1 d.2.2.2.2.1
   ·rw [cond_false,cond_false]
    have h:(d.1==5)=false:=by
     have:d.1=4:=by simpa using j
     rw [this];rfl
    rw [h]
    simp only [cond_false,cond_true,g,Bool.false_and]
   ·rw [cond_true,cond_true,List.append_nil]) (λb rec=>by
  show j0Y _ _ _ _ _ _ _=_
  unfold j0Y
  dsimp only
  rw [Zal,cond_false])
 refine this.trans ?_
 rw [List.nil_append]
theorem jmK (d:D) (a:ByteArray) (cs:List C) (ks:List ByteArray) (j:ks.length<=1048576) (k:T->Res):j4I (nI ks.length) d Z1Y 0 (a,cs,ks) k=k (a,cs,bif d.1==5 then ks.map (ren d.2.2.2.2.1 d.2.2.2.2.2) else ks):=by
 unfold j4I
 cases g:(d.1==5)
 ·refine Z5X (λi=>((i:Int),(a,cs,ks))) ks.length k (k (a,cs,ks)) (λi b rec=> ?_) (λrec=> ?_) Z1Y (Z48 (by omega))
  ·show j0h _ _ _ _ _ _=_
   unfold j0h
   rw [Zam b,cond_true,g,cond_false,j01 (n:=(i:Int)+1) (by omega)]
   rfl
  ·show j0h _ _ _ _ _ _=_
   unfold j0h
   rw [Zal,cond_false]
 ·have:=Z5X (step:=j3P (nI ks.length) d) (λi=>((i:Int),(a,cs,(ks.take i).map (ren d.2.2.2.2.1 d.2.2.2.2.2)++ks.drop i))) ks.length k (k (a,cs,ks.map (ren d.2.2.2.2.1 d.2.2.2.2.2))) (λi b rec=> ?_) (λrec=> ?_) Z1Y (Z48 (by omega))
  ·refine Eq.trans ?_ this
   simp
  ·show j0h _ _ _ _ _ _=_
   unfold j0h
   dsimp only
   have f:inb (i:Int) ((ks.take i).map (ren d.2.2.2.2.1 d.2.2.2.2.2)++ks.drop i).length=true:=j00 (by rw [jdY];exact b)
   rw [Zam b,cond_true,g,cond_true,f,cond_true,jlt _ _ _ _ b,j01 (n:=(i:Int)+1) (by omega)]
   cases h:sEq ks[i] d.2.2.2.2.1
   ·rw [cond_false,jpG _ _ _ b (by unfold ren;rw [h];rfl)]
    rfl
   ·rw [cond_true,cond_true,Zad]
    have:ren d.2.2.2.2.1 d.2.2.2.2.2 ks[i]=d.2.2.2.2.2:=by unfold ren;rw [h];rfl
    rw [<-jlu _ _ _ b,this]
    rfl
  ·show j0h _ _ _ _ _ _=_
   unfold j0h
   dsimp only
   rw [Zal,cond_false,List.take_length,List.drop_length,List.append_nil]
theorem jlv (n:ByteArray) (l:List C):(l.flatMap λc=>bif sEq c.1 n then [] else [c])=l.filter λc=> !sEq c.1 n:=by
 induction l with
 | nil=>rfl
 | cons c l b=>
  rw [List.flatMap_cons,b]
  cases h:sEq c.1 n
  ·rw [List.filter_cons_of_pos (by rw [h];rfl)];rfl
  ·rw [List.filter_cons_of_neg (by rw [h];simp)];rfl
theorem jcH {α β:Type} (f:α->β) (l:List α):l.flatMap (λx=>[f x])=l.map f:=by
 induction l with
 | nil=>rfl
 | cons c l b=>rw [List.flatMap_cons,b];rfl
theorem jow (d:D) (l:List C):(d.1=3->l.flatMap (j8i d)=l)/\(d.1=4->l.flatMap (j8i d)=l.filter λc=> !sEq c.1 d.2.2.2.2.1)/\(d.1=5->l.flatMap (j8i d)=l.map (j7F d.2.2.2.2.1 d.2.2.2.2.2)):=by
 refine ⟨λh=> ?_,λh=> ?_,λh=> ?_⟩
 ·have:j8i d=λc=>[c]:=by funext c;unfold j8i;rw [h];rfl
  rw [this,j0F]
 ·have:j8i d=λc=>bif sEq c.1 d.2.2.2.2.1 then [] else [c]:=by funext c;unfold j8i;rw [h];rfl
  rw [this,jlv]
 ·have:j8i d=λc=>[j7F d.2.2.2.2.1 d.2.2.2.2.2 c]:=by
   funext c
   unfold j8i j7F ren
   rw [h]
   cases sEq c.1 d.2.2.2.2.1<;>rfl
  rw [this,jcH]
theorem jkU (t:T) (d:D) (g:t.2.1.length<=1048576) (f:t.2.2.length<=1048576) (b:d.1=3->0<d.2.2.1.length) (j:d.1=3\/d.1=4\/d.1=5) (k:T->Res):j34 t d k=k (j8Z t d):=by
 obtain ⟨m,n,p⟩:=jow d t.2.1
 unfold j34 j4J
 simp only [Z9z]
 rw [jaC f,cond_true,jmH _ _ g]
 dsimp only
 rw [jmK _ _ _ _ f]
 dsimp only
 rcases j with h | h | h
 ·have b:=b h
  have l:inb 0 d.2.2.1.length=true:=j00 (i:=0) b
  rw [m h,show (d.1==3)=true by rw [h];rfl,show (d.1==5)=false by rw [h];rfl,cond_true,l,cond_true,Zai (by unfold LIM;omega),cond_true,cond_false]
  unfold j8Z jh8
  rw [h]
  rfl
 ·rw [n h,show (d.1==3)=false by rw [h];rfl,show (d.1==5)=false by rw [h];rfl,cond_false,cond_false]
  unfold j8Z jeD
  rw [h]
  rfl
 ·rw [p h,show (d.1==3)=false by rw [h];rfl,show (d.1==5)=true by rw [h];rfl,cond_false,cond_true]
  unfold j8Z jcO
  rw [h]
  rfl
theorem jdW {d:D} (b:j0S d=true):(d.1=1\/d.1=2\/d.1=3\/d.1=4\/d.1=5)/\(d.1=3->0<d.2.2.1.length):=by
 obtain ⟨_,⟨t,cs,ks,rfl,_⟩ | ⟨t,rfl⟩ | ⟨t,c,rfl,_⟩ | ⟨t,n,rfl,_⟩ | ⟨t,n,m,rfl,_⟩⟩:=j7f b<;>simp
theorem jme (c:List T) (n:ByteArray):decide (j04 c n>=0)= !decide (j04 c n<0):=by
 by_cases h:j04 c n<0
 ·rw [decide_eq_true h,decide_eq_false (by omega)];rfl
 ·rw [decide_eq_false h,decide_eq_true (by omega)];rfl
theorem jjd (n:Nat) (m:Nat):(nI n==(m:Int))=(n==m):=by
 unfold nI
 rw [Bool.eq_iff_iff]
 simp only [beq_iff_eq]
 omega
theorem jpa {α:Type} (l:List α) (i:Nat):sub l 0 (i:Int)=l.take i:=by
 have:=jjF l 0 i
 simpa using this
theorem jgU (c:List T) (d:D) (j:msr (.slice yT) c<=1048576) (b:dSm d) (k:List T->Int->Res):j1E c d k=k (jdl c d).1 (jdl c d).2:=by
 obtain ⟨y,m⟩:=jbS j
 unfold j1E jdl
 rw [jiH c j]
 cases w:j1N c
 ·rfl
 rw [Bool.not_true,cond_false,Bool.false_or,jeH d b]
 cases f:j0S d
 ·rfl
 rw [Bool.not_true,cond_false,cond_false,jci _ _ (by unfold LIM;omega),jgT c j]
 obtain ⟨H,p⟩:=jdW f
 unfold j0b j0T
 cases q:(d.1==1)
 ·rw [cond_false,cond_false,cond_false]
  rcases j0u c d.2.1 with ⟨l,_⟩ | ⟨i,g,l,_⟩
  ·rw [l];rfl
  ·have h:decide (j04 c d.2.1<0)=false:=decide_eq_false (by omega)
   rw [h,cond_false,cond_false,l,j00 g,cond_true,Za7 _ _ _ g]
   obtain ⟨I,J,K,L,M⟩:=m _ (List.getElem_mem g)
   rw [jm9 _ _ (by omega) (by omega) p]
   cases G:(j0n c[i] d != 0)
   ·rw [cond_false,cond_false]
    cases r:(d.1==2)
    ·rw [cond_false,cond_false,cond_true,jkU _ _ (by omega) (by omega) p (by
      have E:d.1≠1:=by simpa using q
      have F:d.1≠2:=by simpa using r
      omega),cond_true,Zad,Int.toNat_natCast]
    ·rw [cond_true,cond_true,Int.toNat_natCast]
     unfold j5R
     have z:(sub c 0 (i:Int))=c.take i:=jpa c i
     have A:(sub c (Z9x ((i:Int)+1)) (nI c.length))=c.drop (i+1):=by
      rw [j01 (n:=(i:Int)+1) (by omega)]
      exact jp9 c (i+1)
     have B:Z87 0 (i:Int) c.length=true:=j6M (i:=0) ⟨Nat.zero_le _,by omega⟩
     have C:Z87 (Z9x ((i:Int)+1)) (nI c.length) c.length=true:=by
      rw [j01 (n:=(i:Int)+1) (by omega)]
      exact j6M (i:=i+1) ⟨by omega,Nat.le_refl _⟩
     rw [B,cond_true,C,cond_true,z,A,Zai (by unfold LIM;simp;omega),cond_true,Zai (by unfold LIM;simp;omega),cond_true,List.eraseIdx_eq_take_drop_succ]
   ·rfl
 ·rw [cond_true,cond_true,cond_true,jme]
  cases decide (j04 c d.2.1<0)
  ·rfl
  ·rw [Bool.not_true,cond_false,cond_false,show (nI c.length==(6:Int))=(c.length==6) from jjd _ 6]
   cases (c.length==6)
   ·rw [cond_false,cond_false]
    unfold j3u
    rw [jgW _ b.2.1 b.2.2.1,jnz _ _ y]
    rfl
   ·rfl
end Go.PI.G
namespace Go.PI.G
open Go Go.PI Go.Proofs
theorem jaa {t:T} (ht:j03 t=true):msr yT t<=400:=by
 obtain ⟨a,b,c⟩:=t
 obtain ⟨d,f,g⟩:=joV ht
 have:msr yT (a,b,c)=a.size+(msr (.slice yC) b+msr (.slice .str) c):=rfl
 omega
theorem jj2 {t:T} (ht:j03 t=true):j1N [t]=true/\msr (.slice yT) [t]<=1048576:=by
 refine ⟨(j0d _).2 ⟨by simp,by simpa using ht,by simp⟩,?_⟩
 have:=jaa ht
 rw [jjT]
 simp
 omega
theorem joz {t:T} (ht:j03 t=true) {d:D} (j:j0S d=true) (k:d.2.1=t.1) (f:d.1≠1):(jdl [t] d).2=j0n t d:=by
 have b:j04 [t] d.2.1=(0:Int):=by
  have:=jcY (c:=[t]) (by simp) (i:=0) (by simp)
  rw [k]
  exact this
 have g:j0b [t] d=j0n t d:=by
  unfold j0b
  rw [show (d.1==1)=false by simpa using f,cond_false,b]
  rfl
 unfold jdl
 rw [(jj2 ht).1,j,g]
 show (bif (j0n t d != 0) then (([]:List T),j0n t d) else _).2=_
 cases h:(j0n t d != 0)
 ·have:j0n t d=0:=by simpa using h
  rw [this];rfl
 ·rfl
noncomputable def jg8 (d:D) (j:Nat) (x:List V):List V:=bif d.1==3 then x++[(nth zC d.2.2.1 0).2.2.2.2] else bif d.1==4 then x.eraseIdx j else x
theorem joy (t:T) (d:D) (l:List (List V)):jdj t d l=l.map (jg8 d (j02 t.2.1 d.2.2.2.2.1).toNat):=by
 unfold jdj jg8
 cases (d.1==3)
 ·cases (d.1==4)
  ·simp
  ·rfl
 ·rfl
theorem jm6 (d:D) (b:Int) (x:List V) (r:x.length<=1048576) (j:d.1=4->0<=b) (k:List V->Res):j6D b x (nI x.length) d Z1Y 0 [] k=k (bif d.1==4 then x.eraseIdx b.toNat else x):=by
 unfold j6D
 cases h:(d.1==4)
 ·have:=Z9B x (λi g=>(i,g)) (λv=>[v]) 1048576 [] (step:=j2D b x (nI x.length) d) k k (by unfold LIM;omega) (λi f _=>by
   rw [j0F,List.nil_append,List.length_take];omega) (by simp) (λi g rec f q p=>by
   show j0w _ _ _ _ _ _ _ _=_
   unfold j0w
   dsimp only
   rw [Zam f,cond_true,j00 f,cond_true,show (d.1 != 4)=true by rw [bne,h];rfl,cond_true,Za7 _ _ _ f,Zai (by unfold LIM;omega),cond_true,j01 (n:=(i:Int)+1) (by omega)]) (λg rec=>by
   show j0w _ _ _ _ _ _ _ _=_
   unfold j0w
   rw [Zal,cond_false])
  refine this.trans ?_
  rw [j0F,List.nil_append]
  rfl
 ·have j:=j (by simpa using h)
  obtain ⟨a,rfl⟩:∃ a:Nat,b=(a:Int):=⟨b.toNat,by omega⟩
  have:=Z5X (step:=j2D (a:Int) x (nI x.length) d) (λi=>((i:Int),(x.take i).eraseIdx a)) x.length k (k (x.eraseIdx a)) (λi f rec=> ?_) (λrec=> ?_) Z1Y (Z48 (by omega))
  ·refine Eq.trans ?_ this
   rw [List.take_zero,List.eraseIdx_nil]
   rfl
  ·show j0w _ _ _ _ _ _ _ _=_
   unfold j0w
   dsimp only
   have m:((x.take i).eraseIdx a).length<=1048576:=Nat.le_trans (List.eraseIdx_sublist _ _).length_le (by rw [List.length_take];omega)
   rw [Zam f,cond_true,j00 f,cond_true,show (d.1 != 4)=false by rw [bne,h];rfl,cond_false,Za7 _ _ _ f,j01 (n:=(i:Int)+1) (by omega),ji2 x a i f]
   have l:((i:Int) != (a:Int))= !(i==a):=by
    rw [Bool.eq_iff_iff]
    simp only [bne_iff_ne,Bool.not_eq_true',beq_eq_false_iff_ne,ne_eq,Int.natCast_inj]
   rw [l]
   cases (i==a)
   ·rw [Bool.not_false,cond_true,Zai (by unfold LIM;omega),cond_true,cond_false]
    rfl
   ·rw [Bool.not_true,cond_false,cond_true]
    rfl
  ·show j0w _ _ _ _ _ _ _ _=_
   unfold j0w
   dsimp only
   rw [Zal,cond_false,List.take_length]
theorem jjD (t:T) (h:msr yT t<=1048576) (l:List (List V)) (F:j08 t l=true) (d:D) (g:dSm d) (w:j0S d=true) (G:d.2.1=t.1) (E:d.1≠1) (k:List (List V)->Int->Res) :
  j5t t l d k=k (bif j0n t d != 0 then [] else bif d.1==2 then [] else jdj t d l) (j0n t d):=by
 obtain ⟨ht,X,P⟩:=j0g F
 obtain ⟨H,J⟩:=jdW w
 unfold j5t j4o
 rw [j6i t h,F,Bool.not_true,cond_false,jeH d g,w,Bool.not_true,cond_false]
 have B:sNe d.2.1 t.1=false:=by unfold sNe;rw [G];simp
 rw [B,cond_false,show (d.1==1)=false by simpa using E]
 dsimp only
 rw [cond_false,jgU _ _ (jj2 ht).2 g,joz ht w G E]
 cases K:(j0n t d != 0)
 rotate_left
 ·rfl
 have f:j0n t d=0:=by simpa using K
 have M:=(j2e h).2.1
 rw [cond_false,cond_false,j5D _ _ (by unfold LIM;omega),f]
 have L:d.1=4->0<=j02 t.2.1 d.2.2.2.2.1:=λr=>by
  by_cases A:j02 t.2.1 d.2.2.2.2.1<0
  ·unfold j0n at f
   rw [r] at f
   simp only [show ((4:Int)==3)=false from rfl,show ((4:Int)==4)=true from rfl,cond_false,cond_true,decide_eq_true A] at f
   cases f
  ·omega
 unfold j9u
 have:=Z9B l (λi b=>(b,i)) (λx=>bif d.1 != 2 then [jg8 d (j02 t.2.1 d.2.2.2.2.1).toNat x] else []) 60 [] (step:=j2E (j02 t.2.1 d.2.2.2.2.1) l (nI l.length) d) (λb=>k b 0) (λb=>k b 0) (by unfold LIM;omega) (λi j _=> ?_) (by simp) (λi b rec j R Q=>by
  have U:l[i].length=t.2.1.length:=j0q (P _ (List.getElem_mem j))
  show j1y _ _ _ _ _ _ _ _=_
  unfold j1y j6E
  dsimp only
  rw [Zam j,cond_true,j00 j,cond_true,Za7 _ _ _ j,jm6 d _ _ (by omega) L,j01 (n:=(i:Int)+1) (by omega)]
  have p:lim (b.length+1)=true:=Zai (by unfold LIM;omega)
  cases q:(d.1==3)
  ·rw [cond_false]
   cases (d.1 != 2)
   ·rw [cond_false,cond_false,List.append_nil]
   ·rw [cond_true,cond_true,p,cond_true]
    unfold jg8
    rw [q,cond_false]
  ·have e:d.1=3:=by simpa using q
   have z:inb 0 d.2.2.1.length=true:=j00 (i:=0) (J e)
   have r:(d.1==4)=false:=by rw [e];rfl
   have I:(d.1 != 2)=true:=by rw [e];rfl
   rw [cond_true,r,cond_false,z,cond_true,Zai (by unfold LIM;omega),cond_true,I,cond_true,cond_true,p,cond_true]
   unfold jg8
   rw [q,cond_true]) (λb rec=>by
  show j1y _ _ _ _ _ _ _ _=_
  unfold j1y
  dsimp only
  rw [Zal,cond_false])
 ·refine this.trans ?_
  rw [List.nil_append]
  congr 1
  cases C:(d.1==2)
  ·have:(d.1 != 2)=true:=by rw [bne,C];rfl
   rw [this,cond_false,joy]
   show l.flatMap (λx=>[jg8 d _ x])=_
   exact jcH _ _
  ·have:(d.1 != 2)=false:=by rw [bne,C];rfl
   rw [this,cond_true]
   show l.flatMap (λx=>[])=_
   simp
 ·rw [List.nil_append]
  have:∀ m:List (List V),(m.flatMap λx=>bif d.1 != 2 then [jg8 d (j02 t.2.1 d.2.2.2.2.1).toNat x] else []).length<=m.length:=by
   intro m
   induction m with
   | nil=>exact Nat.le_refl _
   | cons y m W=>
    rw [List.flatMap_cons,List.length_append,List.length_cons]
    have:(bif d.1 != 2 then [jg8 d (j02 t.2.1 d.2.2.2.2.1).toNat y] else []).length<=1:=by cases (d.1 != 2)<;>simp
    omega
  exact Nat.le_trans (this _) (by rw [List.length_take];omega)
end Go.PI.G
namespace Go.PI.G
open Go Go.PI Go.Proofs
theorem jmD (t:T) (b:t.2.1.length<=1048576) (d:t.2.2.length<=1048576) (k:T->Res):j2Y t k=k t:=by
 unfold j2Y j2Z
 rw [jaC b,cond_true,jaC d,cond_true]
theorem jgJ (c:List T) (f:msr (.slice yT) c<=1048576) (k:List T->Res):j3d c k=k c:=by
 obtain ⟨h,ht⟩:=jbS f
 unfold j3d jcL
 have:=Z9B c (λi b=>(i,b)) (λx=>[x]) 1048576 [] (step:=j7D c (nI c.length)) (λb=>k b) (λb=>k b) (by unfold LIM;omega) (λi d _=>by
  rw [j0F,List.nil_append,List.length_take];omega) (by simp) (λi b rec d j g=>by
  show j2z _ _ _ _ _ _=_
  unfold j2z
  obtain ⟨l,m,p,q,r⟩:=ht _ (List.getElem_mem d)
  dsimp only
  rw [Zam d,cond_true,j00 d,cond_true,Za7 _ _ _ d,jmD _ (by omega) (by omega),Zai (by unfold LIM;omega),cond_true,j01 (n:=(i:Int)+1) (by omega)]) (λb rec=>by
  show j2z _ _ _ _ _ _=_
  unfold j2z
  dsimp only
  rw [Zal,cond_false])
 refine this.trans ?_
 rw [j0F,List.nil_append]
theorem jgK (c:List T) (d:D) (y:msr (.slice yT) c<=1048576) (f:j0S d=true) (k:Int->Res):j24 c d k=k (j0b c d):=by
 obtain ⟨A,p⟩:=jbS y
 obtain ⟨z,w⟩:=jdW f
 unfold j24 j0b
 rw [j6P _ _ (by unfold LIM;omega)]
 cases q:(d.1==1)
 ·rw [cond_false,cond_false]
  rcases j0u c d.2.1 with ⟨m,_⟩ | ⟨i,g,m,_⟩
  ·rw [m];rfl
  ·have l:decide (j04 c d.2.1<0)=false:=decide_eq_false (by omega)
   rw [l,cond_false,cond_false,m,j00 g,cond_true,Za7 _ _ _ g]
   obtain ⟨B,C,E,F,G⟩:=p _ (List.getElem_mem g)
   generalize c[i]=t at *
   have b:∀ n (K:Int->Res),j0f t n K=K (j02 t.2.1 n):=λn K=>j6N _ _ (by unfold LIM;omega) K
   unfold j49 j6v j4a j0n
   have r:d.1≠1:=by simpa using q
   rcases z with h | h | h | h | h
   ·exact absurd h r
   ·rw [h];rfl
   ·have j:inb 0 d.2.2.1.length=true:=j00 (i:=0) (w h)
    rw [h]
    show (bif inb 0 d.2.2.1.length then _ else none)=_
    rw [j,cond_true,b,jeq]
    show _=k (bif !decide (j02 t.2.1 (nth zC d.2.2.1 0).1<0) then 5 else bif t.2.1.length==8 then 6 else 0)
    cases !decide (j02 t.2.1 (nth zC d.2.2.1 0).1<0)
    ·show (bif (nI t.2.1.length==(8:Int)) then k 6 else _)=_
     rw [show (nI t.2.1.length==(8:Int))=(t.2.1.length==8) from jjd _ 8]
     cases (t.2.1.length==8)<;>rfl
    ·rfl
   ·rw [h]
    simp only [show ((4:Int)==3)=false from rfl,show ((4:Int)==4)=true from rfl,show ((4:Int)==5)=false from rfl,cond_false,cond_true,b]
    cases decide (j02 t.2.1 d.2.2.2.2.1<0)
    ·rw [cond_false,cond_false,jnf _ _ (by unfold LIM;omega)]
     show (bif jdm t.2.2 d.2.2.2.2.1 then k 8 else k 0)=k (bif jdm t.2.2 d.2.2.2.2.1 then 8 else 0)
     cases jdm t.2.2 d.2.2.2.2.1<;>rfl
    ·rfl
   ·rw [h]
    simp only [show ((5:Int)==3)=false from rfl,show ((5:Int)==4)=false from rfl,show ((5:Int)==5)=true from rfl,cond_false,cond_true,b,jeq]
    cases !decide (j02 t.2.1 d.2.2.2.2.2<0)
    ·simp only [cond_false]
     cases decide (j02 t.2.1 d.2.2.2.2.1<0)<;>rfl
    ·rfl
 ·rw [cond_true,cond_true,jme]
  cases decide (j04 c d.2.1<0)
  ·rfl
  ·rw [Bool.not_true,cond_false,cond_false,show (nI c.length==(6:Int))=(c.length==6) from jjd _ 6]
   cases (c.length==6)<;>rfl
theorem jmi {α:Type} (p:α->Bool):(l:List α)->(i:Nat)->i<(l.takeWhile p).length->∃ h:i<l.length,p l[i]=true
 | [],i,h=>by simp at h
 | x::l,i,h=>by
  cases b:p x
  ·rw [List.takeWhile_cons_of_neg (by rw [b];simp)] at h;simp at h
  ·rw [List.takeWhile_cons_of_pos b,List.length_cons] at h
   cases i with
   | zero=>exact ⟨by simp,b⟩
   | succ i=>
    obtain ⟨f,d⟩:=jmi p l i (by omega)
    exact ⟨by rw [List.length_cons];omega,d⟩
theorem jmh {α:Type} (p:α->Bool):(l:List α)->(h:(l.takeWhile p).length<l.length)->p l[(l.takeWhile p).length]=false
 | [],h=>by simp at h
 | x::l,h=>by
  cases b:p x
  ·have e:(x::l).takeWhile p=[]:=List.takeWhile_cons_of_neg (by rw [b];simp)
   simp only [e,List.length_nil,List.getElem_cons_zero]
   exact b
  ·have e:(x::l).takeWhile p=x::l.takeWhile p:=List.takeWhile_cons_of_pos b
   simp only [e,List.length_cons,List.getElem_cons_succ] at h ⊢
   exact jmh p l (by omega)
theorem jlA (d:D) (c:List T) (l:c.length<=1048576) (k:Int->Res):j8k d c Z1Y 0 k=k (((c.takeWhile λy=>sLt y.1 d.2.1).length:Nat):Int):=by
 have j:(c.takeWhile λy=>sLt y.1 d.2.1).length<=c.length:=(List.takeWhile_sublist _).length_le
 refine Z5X (step:=j45 d c) (λi=>(i:Int)) (c.takeWhile λy=>sLt y.1 d.2.1).length k _ (λi g rec=> ?_) (λrec=> ?_) Z1Y (Z48 (by omega))
 ·obtain ⟨b,f⟩:=jmi _ c i g
  show j21 _ _ _ _ _=_
  unfold j21
  rw [Zam b,cond_true,j00 b,cond_true,Za7 _ _ _ b,f,cond_true,j01 (n:=(i:Int)+1) (by omega)]
  rfl
 ·show j21 _ _ _ _ _=_
  unfold j21
  by_cases h:(c.takeWhile λy=>sLt y.1 d.2.1).length<c.length
  ·rw [Zam h,cond_true,j00 h,cond_true,Za7 _ _ _ h,jmh (λy:T=>sLt y.1 d.2.1) c h,cond_false]
  ·rw [decide_eq_false (show ¬ (((c.takeWhile λy=>sLt y.1 d.2.1).length:Nat):Int)<nI c.length by unfold nI;omega),cond_false]
end Go.PI.G
namespace Go.PI.G
open Go Go.PI Go.Proofs
theorem jpH (l:List ByteArray) (v:ByteArray) (h:l.length<=LIM) (k:Int->Res):j0H l v k=k (Z9t (λx=>sEq v x) l):=by
 unfold j0H j4x
 refine Z9A l (λi=>i) (λx=>sEq v x) (step:=j1p l v (nI l.length)) ((λ(_:Unit)=>k (-1)),(λ(t:Int)=>k t)) k h (λi rec b=> ?_) (λrec=> ?_)
 ·show j0c _ _ _ _ _ _ _=_
  unfold j0c
  unfold LIM at h
  rw [Zam b,cond_true,j00 b,cond_true,Za7 _ _ _ b,j01 (n:=(i:Int)+1) (by omega)]
 ·show j0c _ _ _ _ _ _ _=_
  unfold j0c
  rw [Zal,cond_false]
end Go.PI.G
namespace Go.PI.G
open Go Go.PI Go.Proofs
theorem jlp {α:Type} {g:α->(Bool->Res)->Res} (q:α->Bool):(l:List α)->(∀ x∈l,∀ k,g x k=k (q x))->(d:List α)->(k:List α->Res)->dgE g l d k=k (d++l.filter λx=> !q x)
 | [],_,d,k=>by rw [List.filter_nil,List.append_nil];rfl
 | x::l,h,d,k=>by
  show g x (λb=>dgE g l (bif b then d else d++[x]) k)=_
  rw [h x (by simp),jlp q l λy i=>h y (List.mem_cons_of_mem _ i)]
  cases f:q x
  ·rw [List.filter_cons_of_pos (by rw [f];rfl),cond_false,List.append_assoc];rfl
  ·rw [List.filter_cons_of_neg (by rw [f];simp),cond_true]
theorem jn7 {α:Type} (p:α->Bool) (g:α->α) (l:List α) (i:Nat) (n:i<l.length) (d:p l[i]=true) (f:∀ j (b:j<l.length),j≠i->p l[j]=false):l.map (λx=>bif p x then g x else x)=l.set i (g l[i]):=by
 apply List.ext_getElem
 ·simp
 ·intro j k m
  have b:j<l.length:=by simpa using k
  rw [List.getElem_map,List.getElem_set]
  by_cases e:i=j
  ·subst e
   rw [if_pos rfl,d,cond_true]
  ·rw [if_neg e,f j b λh=>e h.symm,cond_false]
theorem map_none {α:Type} (p:α->Bool) (g:α->α) (l:List α) (h:∀ x∈l,p x=false):l.map (λx=>bif p x then g x else x)=l:=by
 induction l with
 | nil=>rfl
 | cons x l d=>rw [List.map_cons,h x (by simp),cond_false,d λy b=>h y (List.mem_cons_of_mem _ b)]
theorem jjs {α:Type} {R:α->α->Prop} {l:List α} (h:l.Pairwise R) {i j:Nat} (d:i<l.length) (f:j<l.length) (e:i≠j):R l[i] l[j]\/R l[j] l[i]:=by
 rcases Nat.lt_or_gt_of_ne e with b | b
 ·exact .inl (List.pairwise_iff_getElem.1 h i j d f b)
 ·exact .inr (List.pairwise_iff_getElem.1 h j i f d b)
theorem jbw (n:Nat):(Z9e n n&&true)=true:=by
 rw [Bool.and_true]
 exact Nat.beq_refl n
theorem jp6 {l:List C} (k:j41 l=true) (n m:ByteArray) {i:Nat} (f:i<l.length) (h:l[i].1=n):l.map (j7F n m)=l.set i (m,l[i].2):=by
 have p:=((j5B l).1 k).2
 have:j7F n m=λc:C=>bif sEq c.1 n then (m,c.2) else c:=by
  funext c
  unfold j7F ren
  cases sEq c.1 n<;>rfl
 rw [this]
 refine jn7 (λc:C=>sEq c.1 n) (λc=>(m,c.2)) l i f ((j09 _ _).2 h) λj g e=> ?_
 have:l[j].1≠n:=λd=>by
  rcases jjs p f g e.symm with b | b
  ·exact b (h.trans d.symm)
  ·exact b (d.trans h.symm)
 cases q:sEq l[j].1 n
 ·rfl
 ·exact absurd ((j09 _ _).1 q) this
theorem jp7 {cs:List C} {ks:List ByteArray} (q:j12 cs (-1) ks=true) (n m:ByteArray):ks.map (ren n m)=bif decide (Z9t (λx=>sEq n x) ks>=0) then ks.set (Z9t (λx=>sEq n x) ks).toNat m else ks:=by
 have w:=((j4d cs ks (-1)).1 q).2
 have:ren n m=λs=>bif sEq s n then m else s:=by funext s;rfl
 rw [this]
 have d:∀ a b:ByteArray,sEq a b=sEq b a:=λa b=>by
  rw [Bool.eq_iff_iff,j09,j09]
  exact ⟨Eq.symm,Eq.symm⟩
 rcases j5G (λx=>sEq n x) ks with ⟨g,f⟩ | ⟨i,k,g,f,_⟩
 ·rw [g]
  exact map_none (λs=>sEq s n) (λ_=>m) ks λx z=>by rw [d];exact f x z
 ·rw [g,decide_eq_true (by omega),cond_true,Int.toNat_natCast]
  refine jn7 (λs=>sEq s n) (λ_=>m) ks i k (by rw [d];exact f) λj p e=> ?_
  have r:n=ks[i]:=(j09 _ _).1 f
  cases y:sEq ks[j] n
  ·rfl
  ·have l:ks[j]=ks[i]:=((j09 _ _).1 y).trans r
   rcases jjs w k p e.symm with h | h<;>rw [l] at h<;>exact absurd h (Int.lt_irrefl _)
theorem jpO {α:Type} (z:α) (l:List α) (i:Nat) (b:i<l.length) (x:α):nth z (upd l (i:Int) x) (i:Int)=x:=by
 rw [Zad,Za7 _ _ _ (by simpa using b),List.getElem_set_self]
theorem jne (c:List T) (d:D) (i:Nat) (b:i<c.length) (Q:c.length<=1048576) (ht:j03 c[i]=true) (K:tSm c[i]) (l:j0n c[i] d=0) (I:d.1=2\/d.1=3\/d.1=4\/d.1=5) (w:d.1=3->0<d.2.2.1.length) (k:List T->Res) :
  j1a (i:Int) d.1 d c k=k (bif d.1==2 then c.eraseIdx i else c.set i (j8Z c[i] d)):=by
 obtain ⟨V,W,X,Y,Z⟩:=K
 obtain ⟨_,t1,t2,t3,L,M⟩:=(j5T _).1 ht
 unfold j1a
 have f:inb (i:Int) c.length=true:=j00 b
 rcases I with h | h | h | h
 ·rw [h]
  simp only [show ((2:Int)==1)=false from rfl,show ((2:Int)==2)=true from rfl,cond_false,cond_true]
  unfold j3N j9Z
  rw [j01 (n:=(i:Int)+1) (by omega),show Z87 (i:Int) ((i:Int)+1) c.length=true from j6M (j:=i+1) ⟨by omega,by omega⟩,cond_true,List.eraseIdx_eq_take_drop_succ]
  rfl
 ·have w:=w h
  have m:∀ x:T,inb (i:Int) (c.set i x).length=true:=λx=>j00 (by simpa using b)
  have p:inb 0 d.2.2.1.length=true:=j00 (i:=0) w
  rw [h]
  simp only [show ((3:Int)==1)=false from rfl,show ((3:Int)==2)=false from rfl,show ((3:Int)==3)=true from rfl,cond_false,cond_true]
  rw [f,cond_true,p,cond_true,Za7 _ _ _ b,Zai (by unfold LIM;omega),cond_true,Zad,m,cond_true,jbw,cond_true]
  unfold j8Z jh8
  rw [h]
  rfl
 ·rw [h]
  simp only [show ((4:Int)==1)=false from rfl,show ((4:Int)==2)=false from rfl,show ((4:Int)==3)=false from rfl,show ((4:Int)==4)=true from rfl,cond_false,cond_true]
  rw [f,cond_true,Za7 _ _ _ b]
  unfold j2h
  rw [Zai (by unfold LIM;omega),cond_true,jlp (g:=λ(e:C) k=>ja2 e d k) (λx:C=>sEq x.1 d.2.2.2.2.1) c[i].2.1 (λx R U=>rfl),List.nil_append]
  simp only [jbw,cond_true,Zad]
  unfold j8Z jeD
  rw [h]
  rfl
 ·have P:¬ j02 c[i].2.1 d.2.2.2.2.1<0:=λA=>by
   unfold j0n at l
   rw [h] at l
   simp only [show ((5:Int)==3)=false from rfl,show ((5:Int)==4)=false from rfl,show ((5:Int)==5)=true from rfl,cond_false,cond_true,decide_eq_true A] at l
   cases H: !decide (j02 c[i].2.1 d.2.2.2.2.2<0)<;>rw [H] at l<;>cases l
  rcases j10 c[i].2.1 d.2.2.2.2.1 with ⟨B,_⟩ | ⟨j,y,B,z,_⟩
  ·omega
  rw [h]
  simp only [show ((5:Int)==1)=false from rfl,show ((5:Int)==2)=false from rfl,show ((5:Int)==3)=false from rfl,show ((5:Int)==4)=false from rfl,show ((5:Int)==5)=true from rfl,cond_false,cond_true]
  rw [f,cond_true,j6N _ _ (by rw [Za7 _ _ _ b];unfold LIM;omega)]
  simp only [Za7 _ _ _ b,jpO _ _ _ b]
  rw [B]
  simp only [Za7 _ _ _ y]
  rw [j00 y,cond_true,jpH _ _ (by unfold LIM;omega)]
  have E:=jp6 L d.2.2.2.2.1 d.2.2.2.2.2 y z
  have F:=jp7 M d.2.2.2.2.1 d.2.2.2.2.2
  have G:j8Z c[i] d=(c[i].1,c[i].2.1.map (j7F d.2.2.2.2.1 d.2.2.2.2.2),c[i].2.2.map (ren d.2.2.2.2.1 d.2.2.2.2.2)):=by
   unfold j8Z jcO
   rw [h]
   rfl
  rw [G,E,F]
  rcases j5G (λx=>sEq d.2.2.2.2.1 x) c[i].2.2 with ⟨r,_⟩ | ⟨q,J,r,_,_⟩
  ·rw [r,Zad,Zad]
   rfl
  ·rw [r,decide_eq_true (by omega),cond_true,cond_true,j00 J,cond_true]
   simp only [Zad,Int.toNat_natCast]
   rw [List.set_set]
theorem jmx (c:List T) (d:D) (z:msr (.slice yT) c<=1048576) (n:dSm d) (k:List T->Int->Res):j3U c d k=k (jdl c d).1 (jdl c d).2:=by
 obtain ⟨G,C⟩:=jbS z
 unfold j3U jdl
 rw [ji4 c z]
 cases A:j1N c
 ·rfl
 rw [Bool.not_true,cond_false,Bool.false_or,jes d n]
 cases m:j0S d
 ·rfl
 rw [Bool.not_true,cond_false,cond_false,jgK _ _ z m,jgJ c z,j6P _ _ (by unfold LIM;omega)]
 obtain ⟨L,H⟩:=jdW m
 cases f:(j0b c d != 0)
 rotate_left
 ·rfl
 rw [cond_false,cond_false]
 have f:j0b c d=0:=by simpa using f
 have B:=(j0d c).1 A
 by_cases F:d.1=1
 ·unfold j0b at f
  unfold j0T
  rw [F] at f ⊢
  simp only [show ((1:Int)==1)=true from rfl,cond_true] at f ⊢
  rcases j0u c d.2.1 with ⟨w,r⟩ | ⟨i,j,w,_⟩
  ·unfold j1a
   simp only [show ((1:Int)==1)=true from rfl,cond_true]
   rw [jlA _ _ G,jgM _ n]
   unfold j3O jdp
   obtain ⟨p,M,g,q⟩:=jn2 (R:=tR) (λa b h=>jod h) (x:=((d.2.1,d.2.2.1,d.2.2.2.1):T)) (l:=c) (λy K=>jga λe=>r y K e.symm)
   have g:p=(c.takeWhile λy=>sLt y.1 d.2.1).length:=g
   rw [<-g]
   have I:jhd (p:Int) c.length [((d.2.1,d.2.2.1,d.2.2.2.1):T)].length=true:=decide_eq_true ⟨by omega,by omega,by simp,by simp;unfold LIM;omega⟩
   rw [I,cond_true,q,Int.toNat_natCast,List.append_assoc]
   rfl
  ·rw [decide_eq_false (by omega)] at f
   cases f
 ·have J:d.1=2\/d.1=3\/d.1=4\/d.1=5:=by omega
  unfold j0b at f
  unfold j0T
  have E:(d.1==1)=false:=by simpa using F
  rw [E,cond_false] at f
  rw [E,cond_false]
  rcases j0u c d.2.1 with ⟨w,r⟩ | ⟨i,j,w,_⟩
  ·rw [decide_eq_true (by omega)] at f
   cases f
  ·rw [decide_eq_false (by omega),cond_false,w,Za7 _ _ _ j] at f
   rw [w,Za7 _ _ _ j,Int.toNat_natCast,jne c d i j G (B.2.1 _ (List.getElem_mem j)) (C _ (List.getElem_mem j)) f J H]
end Go.PI.G
namespace Go.PI.G
open Go Go.PI Go.Proofs
theorem j6O (l:List (List V)) (h:l.length<=1048576) (f:∀ x∈l,x.length<=1048576) (k:List (List V)->Res):j0m l k=k l:=by
 unfold j0m jbW
 have:=Z9B l (λi b=>(b,i)) (λx=>[x]) 1048576 [] (step:=j6R l (nI l.length)) (λb=>k b) (λb=>k b) (by unfold LIM;omega) (λi d _=>by
  rw [j0F,List.nil_append,List.length_take];omega) (by simp) (λi b rec d j g=>by
  show j23 _ _ _ _ _ _=_
  unfold j23 j0O
  dsimp only
  rw [Zam d,cond_true,j00 d,cond_true,Za7 _ _ _ d,jaC (f _ (List.getElem_mem d)),cond_true,Zai (by unfold LIM;omega),cond_true,j01 (n:=(i:Int)+1) (by omega)]) (λb rec=>by
  show j23 _ _ _ _ _ _=_
  unfold j23
  dsimp only
  rw [Zal,cond_false])
 refine this.trans ?_
 rw [j0F,List.nil_append]
theorem ji7 (t:T) (h:msr yT t<=1048576) (ht:j03 t=true) (l:List (List V)) (r:List V) (g:∀ x∈l,x.length=t.2.1.length) (p:l.length<=60) (j:r.length=t.2.1.length) (k:Int->Res) :
  ja6 l t r Z1Y 0 k=k (((l.takeWhile λy=>kR t y r).length:Nat):Int):=by
 have f:∀ x:List V,(j05 t x).length<=LIM:=λx=>by
  rw [j8l]
  have:=(j2e h).2.2.1
  unfold LIM;omega
 have q:(l.takeWhile λy=>kR t y r).length<=l.length:=(List.takeWhile_sublist _).length_le
 refine Z5X (step:=j3f l t r) (λi=>(i:Int)) (l.takeWhile λy=>kR t y r).length k _ (λi m rec=> ?_) (λrec=> ?_) Z1Y (Z48 (by omega))
 ·obtain ⟨b,d⟩:=jmi _ l i m
  have d:klt (j05 t l[i]) (j05 t r)=true:=d
  show j1Q _ _ _ _ _ _=_
  unfold j1Q
  rw [Zam b,cond_true,j00 b,cond_true,Za7 _ _ _ b,j2P t h ht _ (g _ (List.getElem_mem b)),j2P t h ht r j,ja1 _ _ (f _),d,cond_true,j01 (n:=(i:Int)+1) (by omega)]
  rfl
 ·show j1Q _ _ _ _ _ _=_
  unfold j1Q
  by_cases b:(l.takeWhile λy=>kR t y r).length<l.length
  ·have d:klt (j05 t l[(l.takeWhile λy=>kR t y r).length]) (j05 t r)=false:=jmh (λy=>kR t y r) l b
   rw [Zam b,cond_true,j00 b,cond_true,Za7 _ _ _ b,j2P t h ht _ (g _ (List.getElem_mem b)),j2P t h ht r j,ja1 _ _ (f _),d,cond_false]
  ·rw [decide_eq_false (show ¬ (((l.takeWhile λy=>kR t y r).length:Nat):Int)<nI l.length by unfold nI;omega),cond_false]
theorem jnk (t:T):∀ a b:List V,kR t a b=true->kR t b a=false:=λa b h=>jo2 h
theorem jf3 (t:T) (h:msr yT t<=1048576) (ht:j03 t=true) (l:List (List V)) (r:List V) (n:∀ x∈l,j0k t.2.1 x=true) (f:l.length<=60) (q:j0k t.2.1 r=true) (g:∀ x∈l,j05 t x≠j05 t r) (k:List (List V)->Res) :
  j1W t l r k=k (jey t l r):=by
 have A:=(j2e h).2.1
 have b:∀ x∈l,x.length=t.2.1.length:=λx m=>j0q (n x m)
 have j:=j0q q
 unfold j1W
 rw [ji7 t h ht l r b f j,j6O l (by omega) (λx m=>by rw [b x m];omega)]
 unfold j0O j4D jdp
 rw [jaC (by omega),cond_true]
 obtain ⟨p,B,i,d⟩:=jn2 (R:=kR t) (jnk t) (x:=r) (l:=l) (λy w=>jlH ht q (n y w) (λe=>g y w e.symm))
 rw [<-i]
 have z:jhd (p:Int) l.length [r].length=true:=decide_eq_true ⟨by omega,by omega,by simp,by simp;unfold LIM;omega⟩
 dsimp only
 rw [z,cond_true,Int.toNat_natCast,List.append_assoc]
 unfold jey
 rw [d]
 rfl
theorem jpr {t:T} {l:List (List V)} {b:List V} (h:j06 t l b<0):∀ x∈l,j05 t x≠b:=jlO h
theorem jkx (t:T) (h:msr yT t<=1048576) (l:List (List V)) (r:List V) (k:List (List V)->Int->Res):j6d t l r k=k (j59 t l r).1 (j59 t l r).2:=by
 unfold j6d j59
 rw [j7T t h]
 cases d:j08 t l
 ·rfl
 obtain ⟨ht,g,i⟩:=j0g d
 rw [Bool.not_true,cond_false,cond_false,jet t h]
 cases f:j0k t.2.1 r
 ·rfl
 rw [Bool.not_true,cond_false,cond_false,j2P t h ht r (j0q f),j39 t h l d,jeE]
 by_cases b:j06 t l (j05 t r)<0
 rotate_left
 ·rw [decide_eq_false b];rfl
 rw [decide_eq_true b,Bool.not_true,cond_false,cond_false,show (nI l.length==(60:Int))=(l.length==60) from jn3 _ 60]
 cases (l.length==60)
 ·rw [cond_false,cond_false,jf3 t h ht l r i g f (jpr b)]
 ·rfl
theorem jo1 {t:T} (ht:j03 t=true) {n:ByteArray} (d:n∈t.2.2) (v:V):j38 (nth zC t.2.1 (j02 t.2.1 n)) v=(j0l v&&(v.1==(nth zC t.2.1 (j02 t.2.1 n)).2.1)):=by
 have b:=(((j4d _ _ _).1 ((j5T t).1 ht).2.2.2.2.2).1 n d).2
 unfold j38
 rw [b,Bool.not_true,Bool.and_false,Bool.or_false]
theorem jfT (t:T) (h:msr yT t<=1048576) (b:List V) (k:Bool->Res):j46 t b k=k (j97 t b):=by
 unfold j46 j97
 obtain ⟨p,q,r,w,y⟩:=j2e h
 rw [jeu t h]
 cases ht:j03 t
 ·rfl
 rw [Bool.not_true,cond_false,Bool.true_and]
 by_cases f:b.length=t.2.2.length
 rotate_left
 ·rw [jia f,cond_true,decide_eq_false f,Bool.false_and]
 rw [ji9 f,cond_false,decide_eq_true f,Bool.true_and]
 unfold jaV
 have:=Z9y t.2.2 (λi=>i) (λi n=> !j38 (nth zC t.2.1 (j02 t.2.1 n)) (nth zV b (i:Int))) (step:=j47 b t.2.2 (nI t.2.2.length) t) ((λ(_:Unit)=>k true),(λ(_:Unit)=>k false)) (k true) (k false) (by unfold LIM;omega) (λi rec d=>by
  have g:=jo1 ht (List.getElem_mem d) (nth zV b (i:Int))
  obtain ⟨j,l,m⟩:=jlJ ht (List.getElem_mem d)
  show j2c _ _ _ _ _ _ _ _=_
  unfold j2c
  rw [g,Zam d,cond_true,j00 d,cond_true,j00 (f ▸ d),cond_true,j7g,Za7 _ _ _ d]
  cases j0l (nth zV b (i:Int))
  ·rfl
  ·rw [Bool.not_true,cond_false,cond_true,j6N _ _ (by unfold LIM;omega),m,j00 l,cond_true,j01 (n:=(i:Int)+1) (by omega),Bool.true_and]
   rfl) (λrec=>by
  show j2c _ _ _ _ _ _ _ _=_
  unfold j2c
  rw [Zal,cond_false])
 refine this.trans ?_
 cases Z6V (λi n=> !j38 (nth zC t.2.1 (j02 t.2.1 n)) (nth zV b (i:Int))) 0 t.2.2<;>rfl
theorem jjN (l:List (List V)) (i:Nat) (b:i<l.length) (d:l.length<=60) (k:List (List V)->Res):j0G l (i:Int) (Z9x ((i:Int)+1)) k=k (l.eraseIdx i):=by
 unfold j0G j9Z
 rw [j01 (n:=(i:Int)+1) (by omega),show Z87 (i:Int) ((i:Int)+1) l.length=true from j6M (j:=i+1) ⟨by omega,by omega⟩,cond_true,List.eraseIdx_eq_take_drop_succ]
 rfl
theorem jky (t:T) (h:msr yT t<=1048576) (l:List (List V)) (d r:List V) (k:List (List V)->Int->Res):j6e t l d r k=k (j5a t l d r).1 (j5a t l d r).2:=by
 unfold j6e j5a
 rw [j7T t h]
 cases g:j08 t l
 ·rfl
 obtain ⟨ht,D,H⟩:=j0g g
 rw [Bool.not_true,cond_false,cond_false,jet t h]
 cases w:j0k t.2.1 r
 ·rfl
 rw [Bool.not_true,cond_false,cond_false,jfT t h]
 cases j97 t d
 ·rfl
 rw [Bool.not_true,cond_false,Bool.false_or,j39 t h l g]
 by_cases f:j06 t l d<0
 ·rw [decide_eq_true f];rfl
 rw [decide_eq_false f,cond_false,cond_false,j2P t h ht r (j0q w),jk5 g f]
 obtain ⟨i,A,m⟩:=jcP f
 have p:=jcG g i
 obtain ⟨_,B,C⟩:=j0g p
 have b:=jk5 g (now:=j05 t r) f
 rw [m,Int.toNat_natCast] at b
 have n:(j05 t r).length<=LIM:=by
  rw [j8l]
  have:=(j2e h).2.2.1
  unfold LIM;omega
 unfold j4X
 rw [jcI _ _ n,m,Int.toNat_natCast,j39 t h l g,jeE]
 have j:decide (j06 t (l.eraseIdx i) (j05 t r)<0)=true->j0m l (λE=>j0G E (i:Int) (Z9x ((i:Int)+1)) λF=>j1W t F r λG=>k G 0)=k (jey t (l.eraseIdx i) r) 0:=λz=>by
  rw [j6O l (by omega) (je5 h g),jjN l i A D,jf3 t h ht _ r C B w (jpr (of_decide_eq_true z))]
 cases q:j1l zV veq (j05 t r) d
 ·rw [q] at b
  rw [Bool.not_false,cond_true,Bool.true_and]
  rw [Bool.not_false,Bool.true_and] at b
  cases y: !decide (j06 t l (j05 t r)<0)
  ·rw [y] at b
   rw [cond_false,cond_false,j39 t h l g,m]
   exact j (by simpa using b)
  ·rfl
 ·rw [q] at b
  rw [Bool.not_true,cond_false,Bool.false_and,cond_false,j39 t h l g,m]
  exact j (by simpa using b)
theorem jkw (t:T) (h:msr yT t<=1048576) (l:List (List V)) (b:List V) (k:List (List V)->Int->Res):j6c t l b k=k (j58 t l b).1 (j58 t l b).2:=by
 unfold j6c j58
 rw [j7T t h]
 cases f:j08 t l
 ·rfl
 obtain ⟨ht,m,n⟩:=j0g f
 rw [Bool.not_true,cond_false,cond_false,jfT t h]
 cases j97 t b
 ·rfl
 rw [Bool.not_true,cond_false,Bool.false_or,j39 t h l f]
 by_cases d:j06 t l b<0
 ·rw [decide_eq_true d];rfl
 rw [decide_eq_false d,cond_false,cond_false]
 obtain ⟨i,j,g⟩:=jcP d
 rw [j39 t h l f,g,Int.toNat_natCast,j6O l (by omega) (je5 h f),jjN l i j m]
end Go.PI.G
namespace Go.PI.G
open Go Go.PI Go.Proofs
theorem jnL {t:T} {d:D} (g:d.2.1=t.1) (f:d.1≠1):j0b [t] d=j0n t d:=by
 have b:j04 [t] d.2.1=(0:Int):=by
  have:=jcY (c:=[t]) (by simp) (i:=0) (by simp)
  rw [g]
  exact this
 unfold j0b
 rw [show (d.1==1)=false by simpa using f,cond_false,b]
 rfl
theorem jlx (d:D) (l:List (List V)) (m:l.length<=60) (j:∀ x∈l,x.length<=1048576) (h:0<d.2.2.1.length) (k:List (List V)->Res):j6r (nI l.length) d Z1Y l 0 k=k (l.map λx=>x++[(nth zC d.2.2.1 0).2.2.2.2]):=by
 unfold j6r
 have:=Z5X (step:=j4z (nI l.length) d) (λi=>((l.take i).map (λx:List V=>x++[(nth zC d.2.2.1 0).2.2.2.2])++l.drop i,(i:Int))) l.length k (k (l.map λx=>x++[(nth zC d.2.2.1 0).2.2.2.2])) (λi b rec=> ?_) (λrec=> ?_) Z1Y (Z48 (by omega))
 ·refine Eq.trans ?_ this
  simp
 ·show j2u _ _ _ _ _ _=_
  unfold j2u
  dsimp only
  have p:=j _ (List.getElem_mem b)
  have g:inb (i:Int) ((l.take i).map (λx:List V=>x++[(nth zC d.2.2.1 0).2.2.2.2])++l.drop i).length=true:=j00 (by rw [jdY];exact b)
  have f:∀ y:List V,inb (i:Int) (((l.take i).map (λx:List V=>x++[(nth zC d.2.2.1 0).2.2.2.2])++l.drop i).set i y).length=true:=λy=>j00 (by rw [List.length_set,jdY];exact b)
  rw [Zam b,cond_true,g,cond_true,show inb 0 d.2.2.1.length=true from j00 (i:=0) h,cond_true,jlt _ _ _ _ b,Zai (by unfold LIM;omega),cond_true,Zad,f,cond_true,jbw,cond_true,j01 (n:=(i:Int)+1) (by omega),<-jlu _ _ _ b]
  rfl
 ·show j2u _ _ _ _ _ _=_
  unfold j2u
  dsimp only
  rw [Zal,cond_false,List.take_length,List.drop_length,List.append_nil]
theorem jlz (a:Nat) (l:List (List V)) (z:l.length<=60) (q:∀ x∈l,a<x.length/\x.length<=1048576) (k:List (List V)->Res):j6s (a:Int) (nI l.length) Z1Y l 0 k=k (l.map λx=>x.eraseIdx a):=by
 unfold j6s
 have:=Z5X (step:=j4A (a:Int) (nI l.length)) (λi=>((l.take i).map (λx:List V=>x.eraseIdx a)++l.drop i,(i:Int))) l.length k (k (l.map λx=>x.eraseIdx a)) (λi b rec=> ?_) (λrec=> ?_) Z1Y (Z48 (by omega))
 ·refine Eq.trans ?_ this
  simp
 ·show j2v _ _ _ _ _ _=_
  unfold j2v j7H j9Z
  dsimp only
  obtain ⟨r,w⟩:=q _ (List.getElem_mem b)
  have f:inb (i:Int) ((l.take i).map (λx:List V=>x.eraseIdx a)++l.drop i).length=true:=j00 (by rw [jdY];exact b)
  have d:∀ y:List V,inb (i:Int) (((l.take i).map (λx:List V=>x.eraseIdx a)++l.drop i).set i y).length=true:=λy=>j00 (by rw [List.length_set,jdY];exact b)
  have p:l[i].take a++l[i].drop (a+1)=l[i].eraseIdx a:=(List.eraseIdx_eq_take_drop_succ _ _).symm
  have m:Z87 (a:Int) ((a:Int)+1) l[i].length=true:=j6M (j:=a+1) ⟨by omega,by omega⟩
  have g:(a:Int).toNat=a:=Int.toNat_natCast a
  have h:((a:Int)+1).toNat=a+1:=by omega
  rw [Zam b,cond_true,f,cond_true,jlt _ _ _ _ b,j01 (n:=(a:Int)+1) (by omega),m,cond_true,g,h,p,Zad,d,cond_true,jbw,cond_true,j01 (n:=(i:Int)+1) (by omega),<-jlu _ _ _ b]
  rfl
 ·show j2v _ _ _ _ _ _=_
  unfold j2v
  dsimp only
  rw [Zal,cond_false,List.take_length,List.drop_length,List.append_nil]
theorem jj6 (t:T) (h:msr yT t<=1048576) (l:List (List V)) (g:j08 t l=true) (d:D) (n:dSm d) (m:j0S d=true) (w:d.2.1=t.1) (i:d.1≠1) (k:List (List V)->Int->Res) :
  j4Y t l d k=k (bif j0n t d != 0 then [] else bif d.1==2 then [] else jdj t d l) (j0n t d):=by
 obtain ⟨ht,z,F⟩:=j0g g
 obtain ⟨f,A⟩:=jdW m
 unfold j4Y j48
 rw [j7T t h,g,Bool.not_true,cond_false,jes d n,m,Bool.not_true,cond_false]
 have r:sNe d.2.1 t.1=false:=by unfold sNe;rw [w];simp
 rw [r,cond_false,show (d.1==1)=false by simpa using i]
 dsimp only
 rw [cond_false,jgK _ _ (jj2 ht).2 m,jnL w i]
 cases B:(j0n t d != 0)
 rotate_left
 ·rfl
 have b:j0n t d=0:=by simpa using B
 have q:=(j2e h).2.1
 rw [cond_false,cond_false,j6O l (by omega) (je5 h g),b]
 rcases f with e | e | e | e | e
 ·exact absurd e i
 ·rw [e];rfl
 ·unfold jdj
  rw [e]
  simp only [show ((3:Int)==2)=false from rfl,show ((3:Int)==3)=true from rfl,cond_false,cond_true]
  rw [jlx d l z (je5 h g) (A e)]
 ·unfold jdj
  have G:¬ j02 t.2.1 d.2.2.2.2.1<0:=λp=>by
   unfold j0n at b
   rw [e] at b
   simp only [show ((4:Int)==3)=false from rfl,show ((4:Int)==4)=true from rfl,cond_false,cond_true,decide_eq_true p] at b
   cases b
  rcases j10 t.2.1 d.2.2.2.2.1 with ⟨y,_⟩ | ⟨j,C,y,_,_⟩
  ·omega
  rw [e]
  simp only [show ((4:Int)==2)=false from rfl,show ((4:Int)==3)=false from rfl,show ((4:Int)==4)=true from rfl,cond_false,cond_true]
  rw [j6N _ _ (by unfold LIM;omega),y,jlz j l z (λx E=>by rw [j0q (F x E)];exact ⟨C,q⟩)]
  rfl
 ·unfold jdj
  rw [e]
  rfl
end Go.PI.G
