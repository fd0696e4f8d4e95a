/-
  Program's code interpreted over typed values; printed texts; plain laws. No conditions.
-/
import Derived.Test.YtnemiodjnhfejaaGreatRWd
import Derived.Test.YtnemiodjnhfejaaGreatRWi
import Derived.Test.YtnemiodjnhfejaaGreatRWe
import Derived.Test.YtnemiodjnhfejaaGreatRWk
import Derived.Test.YtnemiodjnhfejaaGreatRWj
set_option linter.unusedVariables false
set_option linter.unusedSimpArgs false
namespace Go.PI.G
open Go Go.PI Go.Proofs
noncomputable def jfe (p:List ByteArray) (s:ByteArray):Bool:=p.any λx=>sEq x s
theorem jnX {α:Type} (q:α->Bool) (l:List α):decide (Z9F q l>=0)=l.any q:=by
 unfold Z9F
 cases h:l.findIdx? q with
 | none=>
  have:=List.findIdx?_eq_none_iff.1 h
  have b:l.any q=false:=by
   rw [List.any_eq_false]
   intro x g
   rw [this x g];simp
  rw [b];rfl
 | some i=>
  have:=List.findIdx?_eq_some_iff_getElem.1 h
  obtain ⟨d,f,_⟩:=this
  have b:l.any q=true:=List.any_eq_true.2 ⟨l[i],List.getElem_mem d,f⟩
  rw [b]
  show decide ((i:Int)>=0)=true
  exact decide_eq_true (by omega)
theorem jpL (l:List ByteArray) (s:ByteArray) (h:l.length<=LIM) (k:Bool->Res):j1m l s k=k (jfe l s):=by
 unfold j1m j0W j5t jfe
 have:=Z9S l (λi=>i) (λx=>sEq s x) (step:=j1U l s (nI l.length)) ((λ(_:Unit)=>k (decide ((-1:Int)>=0))),(λ(t:Int)=>k (decide (t>=0)))) (λr=>k (decide (r>=0))) h (λi rec b=>by
  show j0c _ _ _ _ _ _ _=_
  unfold j0c
  unfold LIM at h
  rw [ZaQ b,cond_true,j00 b,cond_true,Zay _ _ _ b,j01 (n:=(i:Int)+1) (by omega)]) (λrec=>by
  show j0c _ _ _ _ _ _ _=_
  unfold j0c
  rw [ZaP,cond_false])
 refine this.trans ?_
 rw [jnX]
 have:(λx=>sEq s x)=λx=>sEq x s:=by funext x;exact Zag s x
 rw [this]
end Go.PI.G
namespace Go.PI.G
open Go Go.PI Go.Proofs
theorem jpY (l:List ByteArray) (s:ByteArray) (h:l.length<=LIM) (k:Bool->Res):j9m l s k=k (jfe l s):=by
 unfold j9m jgb jfe
 have:=Za2 l (λi=>i) (λx=>sEq x s) (step:=j9S s l (nI l.length)) ((λ(_:Unit)=>k false),(λ(_:Unit)=>k true)) (k false) (k true) h (λi rec b=>by
  show j4k _ _ _ _ _ _ _=_
  unfold j4k
  unfold LIM at h
  rw [ZaQ b,cond_true,j00 b,cond_true,Zay _ _ _ b,j01 (n:=(i:Int)+1) (by omega)]) (λrec=>by
  show j4k _ _ _ _ _ _ _=_
  unfold j4k
  rw [ZaP,cond_false])
 refine this.trans ?_
 cases l.any λx=>sEq x s<;>rfl
end Go.PI.G
namespace Go.PI.G
open Go Go.PI Go.Proofs
theorem jce {n:Nat} (h:n<=1048576):lim (0+n)=true:=ZaL (by unfold LIM;omega)
theorem jjj (t:T) (b:t.2.1.length<=1048576) (d:t.2.2.length<=1048576) (k:T->Res):j4K t k=k t:=by
 unfold j4K
 simp only [Z9Q]
 rw [jce b,cond_true,jce d,cond_true]
theorem jdC {c:List T} (b:msr (.slice yT) c<=1048576):c.length<=1048576/\∀ t∈c,tSm t:=⟨j0v b,λt ht=>j2O (j0S b ht)⟩
theorem j0T {α:Type}:(l:List α)->l.flatMap (λx=>[x])=l
 | []=>rfl
 | x::l=>by rw [List.flatMap_cons,j0T l];rfl
theorem jje (c:List T) (f:msr (.slice yT) c<=1048576) (k:List T->Res):j4j c k=k c:=by
 obtain ⟨h,ht⟩:=jdC f
 unfold j4j jeL
 have:=Z9T c (λi b=>(i,b)) (λx=>[x]) 1048576 [] (step:=j90 c (nI c.length)) (λb=>k b) (λb=>k b) (by unfold LIM;omega) (λi d _=>by
  rw [j0T,List.nil_append,List.length_take];omega) (by simp) (λi b rec d j g=>by
  show j3g _ _ _ _ _ _=_
  unfold j3g
  obtain ⟨l,m,p,q,r⟩:=ht _ (List.getElem_mem d)
  dsimp only
  rw [ZaQ d,cond_true,j00 d,cond_true,Zay _ _ _ d,jjj _ (by omega) (by omega),ZaL (by unfold LIM;omega),cond_true,j01 (n:=(i:Int)+1) (by omega)]) (λb rec=>by
  show j3g _ _ _ _ _ _=_
  unfold j3g
  dsimp only
  rw [ZaP,cond_false])
 refine this.trans ?_
 rw [j0T,List.nil_append]
noncomputable def jaM (t:T) (a:Bool×List T) (x:T):Bool×List T:=bif !a.1&&tR t x then (true,a.2++[t]++[x]) else (a.1,a.2++[x])
theorem jmr (t:T):(l:List T)->(b:List T)->l.foldl (jaM t) (true,b)=(true,b++l)
 | [],b=>by simp
 | x::l,b=>by
  rw [List.foldl_cons]
  show l.foldl (jaM t) (true,b++[x])=_
  rw [jmr t l,List.append_assoc];rfl
theorem jok (t:T):(l:List T)->(b:List T)->(bif !(l.foldl (jaM t) (false,b)).1 then (l.foldl (jaM t) (false,b)).2++[t] else (l.foldl (jaM t) (false,b)).2)=b++lay tR t l
 | [],b=>rfl
 | x::l,b=>by
  rw [List.foldl_cons]
  unfold lay
  cases d:tR t x
  ·have:jaM t (false,b) x=(false,b++[x]):=by unfold jaM;rw [d];rfl
   rw [this,jok t l,List.takeWhile_cons_of_pos (by rw [d];rfl),List.dropWhile_cons_of_pos (by rw [d];rfl)]
   unfold lay
   simp
  ·have:jaM t (false,b) x=(true,b++[t]++[x]):=by unfold jaM;rw [d];rfl
   rw [this,jmr,List.takeWhile_cons_of_neg (by rw [d];simp),List.dropWhile_cons_of_neg (by rw [d];simp)]
   simp
theorem jrr (t:T) (a:Bool×List T) (x:T):(jaM t a x).2.length<=a.2.length+2:=by
 unfold jaM
 cases !a.1&&tR t x<;>simp
theorem jq1 (c:List T) (t:T) (j:c.length<=1048576) (k:List T->Res):j9n c t k=k (lay tR t c):=by
 unfold j9n jbY
 have:=Z8i c (λi (a:Bool×List T)=>(a.1,i,a.2)) (jaM t) (λi a=>a.2.length<=2 * i) (step:=j9T c (nI c.length) t) (λdone b=>bif !done then bif lim (b.length+1) then k (b++[t]) else none else k b)
  (λa=>bif !a.1 then k (a.2++[t]) else k a.2) (false,[]) (by unfold LIM;omega) (by simp) (λi a f h=>by have:=jrr t a c[i];omega) (λi a rec f h=>by
  show j4l _ _ _ _ _ _ _ _=_
  unfold j4l jbZ
  dsimp only
  rw [ZaQ f,cond_true,j00 f,cond_true,Zay _ _ _ f]
  have g:lim (a.2.length+1)=true:=ZaL (by unfold LIM;omega)
  have d:lim ((a.2++[t]).length+1)=true:=ZaL (by unfold LIM;simp;omega)
  unfold jaM tR
  cases a.1
  ·rw [Bool.not_false,cond_true,Bool.true_and]
   cases sLt t.1 c[i].1
   ·rw [cond_false,cond_false,g,cond_true,j01 (n:=(i:Int)+1) (by omega)]
   ·rw [cond_true,cond_true,g,cond_true,d,cond_true,j01 (n:=(i:Int)+1) (by omega)]
  ·rw [Bool.not_true,cond_false,Bool.false_and,cond_false,g,cond_true,j01 (n:=(i:Int)+1) (by omega)]) (λa rec h=>by
  show j4l _ _ _ _ _ _ _ _=_
  unfold j4l
  dsimp only
  rw [ZaP,cond_false]
  cases a.1
  ·rw [Bool.not_false,cond_true,cond_true,ZaL (by unfold LIM;omega),cond_true]
  ·rfl)
 refine this.trans ?_
 have d:=jok t c []
 rw [List.nil_append] at d
 rw [<-d]
 cases (c.foldl (jaM t) (false,[])).1<;>rfl
theorem jgq (l:List C) (n:ByteArray):decide (j02 l n>=0)= !decide (j02 l n<0):=by
 by_cases h:j02 l n<0
 ·rw [decide_eq_true h,decide_eq_false (by omega)];rfl
 ·rw [decide_eq_false h,decide_eq_true (by omega)];rfl
theorem joE (t:T) (d:D) (l:t.2.1.length<=1048576) (m:t.2.2.length<=1048576) (b:d.1=3->0<d.2.2.1.length) (k:Int->Res):j4J t d k=k (j0w t d):=by
 unfold j4J j0w
 rw [j6D _ _ (by unfold LIM;omega)]
 cases f:(d.1==3)
 ·rw [cond_false,cond_false]
  cases h:(d.1==4)
  ·rw [cond_false,cond_false]
   cases j:(d.1==5)
   ·rfl
   ·rw [cond_true,cond_true,j6D _ _ (by unfold LIM;omega),jgq]
    cases !decide (j02 t.2.1 d.2.2.2.2.2<0)
    ·cases decide (j02 t.2.1 d.2.2.2.2.1<0)<;>rfl
    ·rfl
  ·rw [cond_true,cond_true]
   cases decide (j02 t.2.1 d.2.2.2.2.1<0)
   ·rw [cond_false,cond_false,jpY _ _ (by unfold LIM;omega)]
    show (bif jfe t.2.2 d.2.2.2.2.1 then k 8 else k 0)=k (bif jfe t.2.2 d.2.2.2.2.1 then 8 else 0)
    cases jfe t.2.2 d.2.2.2.2.1<;>rfl
   ·rfl
 ·rw [cond_true,cond_true]
  have b:=b (by simpa using f)
  have g:inb 0 d.2.2.1.length=true:=j00 (i:=0) b
  rw [g,cond_true,j6D _ _ (by unfold LIM;omega),jgq]
  cases !decide (j02 t.2.1 (nth zC d.2.2.1 0).1<0)
  ·rw [cond_false,cond_false]
   have:(nI t.2.1.length==8)=(t.2.1.length==8):=by
    unfold nI
    rw [Bool.eq_iff_iff]
    simp only [beq_iff_eq]
    omega
   rw [this]
   cases (t.2.1.length==8)<;>rfl
  ·rfl
end Go.PI.G
namespace Go.PI.G
open Go Go.PI Go.Proofs
noncomputable def jaN {α:Type} (R:α->α->Bool) (t:α) (a:Bool×List α) (x:α):Bool×List α:=bif !a.1&&R t x then (true,a.2++[t]++[x]) else (a.1,a.2++[x])
theorem jms {α:Type} (R:α->α->Bool) (t:α):(l:List α)->(b:List α)->l.foldl (jaN R t) (true,b)=(true,b++l)
 | [],b=>by simp
 | x::l,b=>by
  rw [List.foldl_cons]
  show l.foldl (jaN R t) (true,b++[x])=_
  rw [jms R t l,List.append_assoc];rfl
theorem jol {α:Type} (R:α->α->Bool) (t:α):(l:List α)->(b:List α)->(bif !(l.foldl (jaN R t) (false,b)).1 then (l.foldl (jaN R t) (false,b)).2++[t] else (l.foldl (jaN R t) (false,b)).2)=b++lay R t l
 | [],b=>rfl
 | x::l,b=>by
  rw [List.foldl_cons]
  unfold lay
  cases d:R t x
  ·have:jaN R t (false,b) x=(false,b++[x]):=by unfold jaN;rw [d];rfl
   rw [this,jol R t l,List.takeWhile_cons_of_pos (by rw [d];rfl),List.dropWhile_cons_of_pos (by rw [d];rfl)]
   unfold lay
   simp
  ·have:jaN R t (false,b) x=(true,b++[t]++[x]):=by unfold jaN;rw [d];rfl
   rw [this,jms,List.takeWhile_cons_of_neg (by rw [d];simp),List.dropWhile_cons_of_neg (by rw [d];simp)]
   simp
theorem jrs {α:Type} (R:α->α->Bool) (t:α) (a:Bool×List α) (x:α):(jaN R t a x).2.length<=a.2.length+2:=by
 unfold jaN
 cases !a.1&&R t x<;>simp
theorem jm3 {t:T} (ht:j05 t=true) {r:List V} (h:r.length=t.2.1.length):lim (0+r.length)=true:=by
 have:=((j6W t).1 ht).2.2.1
 exact jce (by omega)
theorem jlg (t:T) (h:msr yT t<=1048576) (ht:j05 t=true) (l:List (List V)) (r:List V) (z:∀ x∈l,x.length=t.2.1.length) (A:l.length<=60) (n:r.length=t.2.1.length) (k:List (List V)->Res):j3x t l r k=k (jgA t l r):=by
 have p:∀ x:List V,(j07 t x).length<=LIM:=λx=>by
  rw [j9I]
  have:=(j2O h).2.2.1
  unfold LIM;omega
 unfold j3x jc0 j0h
 have:=Z8i l (λi (a:Bool×List (List V))=>(a.2,a.1,i)) (jaN (kR t) r) (λi a=>a.2.length<=2 * i) (step:=j4o l (nI l.length) t r) (λb done=>bif !done then bif lim (0+r.length) then bif lim (b.length+1) then k (b++[r]) else none else none else k b)
  (λa=>bif !a.1 then k (a.2++[r]) else k a.2) (false,[]) (by unfold LIM;omega) (by simp) (λi a d p=>by have:=jrs (kR t) r a l[i];omega) (λi a rec d y=>by
  show j2r _ _ _ _ _ _ _ _ _=_
  unfold j2r j6x j0h
  dsimp only
  have q:=z _ (List.getElem_mem d)
  rw [ZaQ d,cond_true,j00 d,cond_true,Zay _ _ _ d]
  have g:lim (a.2.length+1)=true:=ZaL (by unfold LIM;omega)
  have f:lim ((a.2++[r]).length+1)=true:=ZaL (by unfold LIM;simp;omega)
  have j:lim (0+(l[i]).length)=true:=jm3 ht q
  have w:lim (0+r.length)=true:=jm3 ht n
  have m:Z9K ((i:Int)+1)=(i:Int)+1:=j01 (by omega)
  unfold jaN
  cases a.1
  ·simp only [Bool.not_false,cond_true,Bool.true_and]
   rw [j6S t h ht r n,j6S t h ht _ q,jg8 _ _ (p _)]
   unfold kR
   cases klt (j07 t r) (j07 t l[i])
   ·simp only [cond_false,cond_true,j,g,m]
   ·simp only [cond_true,w,g,j,f,m]
  ·simp only [Bool.not_true,cond_false,Bool.false_and,j,g,m,cond_true]) (λa rec y=>by
  show j2r _ _ _ _ _ _ _ _ _=_
  unfold j2r
  dsimp only
  rw [ZaP,cond_false]
  cases a.1
  ·simp only [Bool.not_false,cond_true,jm3 ht n]
   rw [ZaL (by unfold LIM;omega),cond_true]
  ·rfl)
 refine this.trans ?_
 have f:=jol (kR t) r l []
 rw [List.nil_append] at f
 unfold jgA
 rw [<-f]
 cases (l.foldl (jaN (kR t) r) (false,[])).1<;>rfl
theorem jko {α:Type} (l:List α) (a i:Nat) (f:i<l.length):(l.take (i+1)).eraseIdx a=bif i==a then (l.take i).eraseIdx a else (l.take i).eraseIdx a++[l[i]]:=by
 have g:(l.take i).length=i:=by rw [List.length_take];omega
 rw [List.take_succ_eq_append_getElem f]
 by_cases h:a<i
 ·rw [List.eraseIdx_append_of_lt_length (by omega),show (i==a)=false from beq_eq_false_iff_ne.2 (by omega),cond_false]
 ·rw [List.eraseIdx_append_of_length_le (by omega),g]
  by_cases e:i=a
  ·subst e
   have b:[l[i]].eraseIdx (i-i)=[]:=by rw [Nat.sub_self];rfl
   have d:(l.take i).eraseIdx i=l.take i:=List.eraseIdx_of_length_le (by omega)
   rw [show (i==i)=true from beq_self_eq_true i,cond_true,b,d,List.append_nil]
  ·have b:[l[i]].eraseIdx (a-i)=[l[i]]:=List.eraseIdx_of_length_le (by simp only [List.length_cons,List.length_nil];omega)
   have d:(l.take i).eraseIdx a=l.take i:=List.eraseIdx_of_length_le (by omega)
   rw [show (i==a)=false from beq_eq_false_iff_ne.2 e,cond_false,b,d]
theorem jg9 (l:List (List V)) (a:Nat) (j:l.length<=60) (h:∀ x∈l,x.length<=1048576) (k:List (List V)->Res):j1V l (a:Int) k=k (l.eraseIdx a):=by
 unfold j1V jcp
 have:=Z3u (step:=j6V (a:Int) l (nI l.length)) (λi=>((l.take i).eraseIdx a,(i:Int))) l.length (λd=>k d) (k (l.eraseIdx a)) (λi b rec=> ?_) (λrec=> ?_) Z1c (Z2b (by omega))
 ·refine Eq.trans ?_ this
  rw [List.take_zero,List.eraseIdx_nil]
  rfl
 ·show j1W _ _ _ _ _ _ _=_
  unfold j1W j0h
  dsimp only
  have g:((l.take i).eraseIdx a).length<=60:=Nat.le_trans (List.eraseIdx_sublist _ _).length_le (by rw [List.length_take];omega)
  rw [ZaQ b,cond_true,j00 b,cond_true,Zay _ _ _ b,j01 (n:=(i:Int)+1) (by omega),jko l a i b]
  have f:((i:Int) != (a:Int))= !(i==a):=by
   rw [Bool.eq_iff_iff]
   simp only [bne_iff_ne,Bool.not_eq_true',beq_eq_false_iff_ne,ne_eq,Int.natCast_inj]
  rw [f]
  cases (i==a)
  ·rw [Bool.not_false,cond_true,jce (h _ (List.getElem_mem b)),cond_true,ZaL (by unfold LIM;omega),cond_true,cond_false]
   rfl
  ·rw [Bool.not_true,cond_false,cond_true]
   rfl
 ·show j1W _ _ _ _ _ _ _=_
  unfold j1W
  dsimp only
  rw [ZaP,cond_false,List.take_length]
end Go.PI.G
namespace Go.PI.G
open Go Go.PI Go.Proofs
theorem joc {t:T} (ht:j05 t=true) {n:ByteArray} (f:n∈t.2.2):∃ (j:Nat) (b:j<t.2.1.length),j02 t.2.1 n=(j:Int):=by
 have g:=(((j52 _ _ _).1 ((j6W t).1 ht).2.2.2.2.2).1 n f).1
 rcases j1g t.2.1 n with ⟨d,_⟩ | ⟨j,b,d,_⟩
 ·omega
 ·exact ⟨j,b,d⟩
theorem jsb {t:T} (ht:j05 t=true) {c:C} (b:c∈t.2.1):j13 c=true:=((j6B _).1 ((j6W t).1 ht).2.2.2.2.1).1 c b
theorem jik (t:T) (h:msr yT t<=1048576) (b:List V) (k:Bool->Res):j5f t b k=k (jaE t b):=by
 unfold j5f jaE
 obtain ⟨m,p,q,r,w⟩:=j2O h
 rw [jdj t h]
 cases ht:j05 t
 ·rfl
 rw [Bool.not_true,cond_false,Bool.true_and]
 by_cases f:b.length=t.2.2.length
 rotate_left
 ·rw [jky f,cond_true,decide_eq_false f,Bool.false_and]
 rw [jkx f,cond_false,decide_eq_true f,Bool.true_and]
 unfold jcL
 have:=Z9P t.2.2 (λi=>i) (λi n=> !j3K (nth zC t.2.1 (j02 t.2.1 n)) (nth zV b (i:Int))) (step:=j5g b t.2.2 (nI t.2.2.length) t) ((λ(_:Unit)=>k true),(λ(_:Unit)=>k false)) (k true) (k false) (by unfold LIM;omega) (λi rec d=>by
  obtain ⟨j,g,l⟩:=joc ht (List.getElem_mem d)
  show j2R _ _ _ _ _ _ _ _=_
  unfold j2R
  rw [ZaQ d,cond_true,j00 d,cond_true,j00 (f ▸ d),cond_true,Zay _ _ _ d,j6D _ _ (by unfold LIM;omega),l,j00 g,cond_true,Zay _ _ _ g,jjg _ (jsb ht (List.getElem_mem g)),j01 (n:=(i:Int)+1) (by omega)]) (λrec=>by
  show j2R _ _ _ _ _ _ _ _=_
  unfold j2R
  rw [ZaP,cond_false])
 refine this.trans ?_
 cases Z71 (λi n=> !j3K (nth zC t.2.1 (j02 t.2.1 n)) (nth zV b (i:Int))) 0 t.2.2<;>rfl
theorem jgI (t:T) (l:List (List V)) (b:List V):decide (j06 t l b>=0)= !decide (j06 t l b<0):=by
 by_cases h:j06 t l b<0
 ·rw [decide_eq_true h,decide_eq_false (by omega)];rfl
 ·rw [decide_eq_false h,decide_eq_true (by omega)];rfl
theorem jpy (n:Nat) (m:Nat):(nI n==(m:Int))=(n==m):=by
 unfold nI
 rw [Bool.eq_iff_iff]
 simp only [beq_iff_eq]
 omega
theorem jnt (t:T) (h:msr yT t<=1048576) (l:List (List V)) (r:List V) (k:List (List V)->Int->Res):j7p t l r k=k (j66 t l r).1 (j66 t l r).2:=by
 unfold j7p j66
 rw [j7n t h]
 cases b:j08 t l
 ·rfl
 obtain ⟨ht,g,i⟩:=j0i b
 rw [Bool.not_true,cond_false,cond_false,jgM t h,ht,Bool.true_and]
 cases d:j0r t.2.1 r
 ·rfl
 rw [Bool.not_true,cond_false,cond_false,j6S t h ht r (j0z d),j6p t h l b,jgI]
 cases !decide (j06 t l (j07 t r)<0)
 rotate_left
 ·rfl
 rw [cond_false,cond_false,show (nI l.length==(60:Int))=(l.length==60) from jpy _ 60]
 cases (l.length==60)
 ·rw [cond_false,cond_false,jlg t h ht l r (λx f=>j0z (i x f)) g (j0z d)]
 ·rfl
theorem jg5 {t:T} (h:msr yT t<=1048576) {l:List (List V)} (b:j08 t l=true):∀ x∈l,x.length<=1048576:=λx d=>by
 have f:=j0z ((j0i b).2.2 x d)
 have g:=(j2O h).2.1
 omega
theorem jeE {t:T} {l:List (List V)} {b:List V} (h:¬ j06 t l b<0):∃ i:Nat,i<l.length/\j06 t l b=(i:Int):=by
 have:=jom t l b
 exact ⟨(j06 t l b).toNat,by omega,by omega⟩
theorem jnu (t:T) (h:msr yT t<=1048576) (l:List (List V)) (b r:List V) (k:List (List V)->Int->Res):j7q t l b r k=k (j67 t l b r).1 (j67 t l b r).2:=by
 unfold j7q j67
 rw [j7n t h]
 cases g:j08 t l
 ·rfl
 obtain ⟨ht,w,z⟩:=j0i g
 rw [Bool.not_true,cond_false,cond_false,jgM t h,ht,Bool.true_and]
 cases j:j0r t.2.1 r
 ·rfl
 rw [Bool.not_true,cond_false,cond_false,j6p t h l g,jik t h]
 cases jaE t b
 ·rfl
 rw [Bool.not_true,cond_false,Bool.false_or]
 by_cases d:j06 t l b<0
 ·rw [decide_eq_true d];rfl
 rw [decide_eq_false d,cond_false,cond_false]
 obtain ⟨i,y,m⟩:=jeE d
 have f:=jeu g i
 obtain ⟨_,p,q⟩:=j0i f
 rw [m,Int.toNat_natCast,jg9 l i w (jg5 h g),j6S t h ht r (j0z j),j6p t h _ f,jgI]
 cases !decide (j06 t (l.eraseIdx i) (j07 t r)<0)
 ·rw [cond_false,cond_false,jlg t h ht _ r (λx n=>j0z (q x n)) p (j0z j)]
 ·rfl
theorem jns (t:T) (h:msr yT t<=1048576) (l:List (List V)) (b:List V) (k:List (List V)->Int->Res):j7o t l b k=k (j65 t l b).1 (j65 t l b).2:=by
 unfold j7o j65
 rw [j7n t h]
 cases f:j08 t l
 ·rfl
 obtain ⟨ht,j,n⟩:=j0i f
 rw [Bool.not_true,cond_false,cond_false,j6p t h l f,jik t h]
 cases jaE t b
 ·rfl
 rw [Bool.not_true,cond_false,Bool.false_or]
 by_cases d:j06 t l b<0
 ·rw [decide_eq_true d];rfl
 rw [decide_eq_false d,cond_false,cond_false]
 obtain ⟨i,m,g⟩:=jeE d
 rw [g,Int.toNat_natCast,jg9 l i j (jg5 h f)]
end Go.PI.G
namespace Go.PI.G
open Go Go.PI
def goL {α A E:Type} (f:A->α->Except E A):List α->A->Except E A
 | [],a=> .ok a
 | x::xs,a=>match f a x with
  | .ok b=>goL f xs b
  | .error e=> .error e
def jsq (x:Int):Bool:=decide (48<=x/\x<=57)
def dgF (n x:Int):Except Unit Int:=bif jsq x then .ok (n * 10+(x-48)) else .error ()
def rdN (l:List Int):Option Int:=bif l.headD 0==45 then (match goL dgF l.tail 0 with | .ok n=>some (-n) | .error _=>none) else match goL dgF l 0 with | .ok n=>some n | .error _=>none
theorem jry {α:Type} (l:List α) (i:Nat):sub l (i:Int) (nI l.length)=l.drop i:=by
 unfold sub nI
 rw [show ((l.length:Int)).toNat=l.length by omega,show ((i:Int)).toNat=i by omega,List.take_length]
theorem jpE {α:Type} (l:List α) (i j:Nat):sub l (i:Int) (j:Int)=(l.take j).drop i:=by
 unfold sub
 rw [show ((j:Int)).toNat=j by omega,show ((i:Int)).toNat=i by omega]
theorem j9F {i j n:Nat} (h:i<=j/\j<=n):Z8e (i:Int) (j:Int) n=true:=decide_eq_true (by omega)
end Go.PI.G
namespace Go.PI.G
open Go Go.PI Go.Proofs
theorem jfV {α:Type} (f:α->α) (l:List α) (i:Nat):((l.take i).map f++l.drop i).length=l.length:=by
 rw [List.length_append,List.length_map,List.length_take,List.length_drop];omega
theorem jnU {α:Type} (f:α->α) (z:α) (l:List α) (i:Nat) (b:i<l.length):nth z ((l.take i).map f++l.drop i) (i:Int)=l[i]:=by
 rw [Zay _ _ _ (by rw [jfV];exact b),List.getElem_append_right (by rw [List.length_map,List.length_take];omega),List.getElem_drop]
 congr 1
 rw [List.length_map,List.length_take];omega
theorem jnV {α:Type} (f:α->α) (l:List α) (i:Nat) (b:i<l.length):((l.take i).map f++l.drop i).set i (f l[i])=(l.take (i+1)).map f++l.drop (i+1):=by
 rw [List.set_append_right _ _ (by rw [List.length_map,List.length_take];omega),List.length_map,List.length_take,Nat.min_eq_left (by omega),Nat.sub_self,List.drop_eq_getElem_cons b,List.set_cons_zero,List.take_succ_eq_append_getElem b,List.map_append,List.append_assoc]
 rfl
theorem js4 {α:Type} (f:α->α) (l:List α) (i:Nat) (b:i<l.length) (h:f l[i]=l[i]):(l.take (i+1)).map f++l.drop (i+1)=(l.take i).map f++l.drop i:=by
 rw [List.take_succ_eq_append_getElem b,List.map_append,List.append_assoc,List.drop_eq_getElem_cons b]
 show (l.take i).map f++([f l[i]]++l.drop (i+1))=_
 rw [h]
 rfl
noncomputable def j9E (d:D) (c:C):List C:=bif (d.1==4)&&sEq c.1 d.2.2.2.2.1 then [] else [bif (d.1==5)&&sEq c.1 d.2.2.2.2.1 then (d.2.2.2.2.2,c.2) else c]
theorem jqY (d:D) (l:List C):(l.flatMap (j9E d)).length<=l.length:=by
 induction l with
 | nil=>exact Nat.le_refl _
 | cons c l b=>
  rw [List.flatMap_cons,List.length_append,List.length_cons]
  have:(j9E d c).length<=1:=by
   unfold j9E
   cases (d.1==4)&&sEq c.1 d.2.2.2.2.1<;>simp
  omega
theorem jpe (d:D) (t:T) (l:t.2.1.length<=1048576) (k:T->Res):j5C t.2.1 (nI t.2.1.length) d Z1c 0 (t.1,[],t.2.2) k=k (t.1,t.2.1.flatMap (j9E d),t.2.2):=by
 unfold j5C
 have:=Z9T t.2.1 (λi b=>(i,(t.1,b,t.2.2))) (j9E d) 1048576 [] (step:=j2k t.2.1 (nI t.2.1.length) d) k (λb=>k (t.1,b,t.2.2)) (by unfold LIM;omega) (λi f _=>by
  rw [List.nil_append]
  exact Nat.le_trans (jqY _ _) (by rw [List.length_take];omega)) (by simp) (λi b rec f p m=>by
  show j1e _ _ _ _ _ _ _=_
  unfold j1e j5F j5G
  dsimp only
  have g:lim (b.length+1)=true:=ZaL (by unfold LIM;omega)
  rw [ZaQ f,cond_true,j00 f,cond_true,Zay _ _ _ f,j01 (n:=(i:Int)+1) (by omega)]
  unfold j9E
  cases j:(d.1==4)
  ·rw [cond_false,Bool.false_and,cond_false]
   cases h:(d.1==5)
   ·rw [cond_false,g,cond_true,Bool.false_and,cond_false]
   ·rw [cond_true,Bool.true_and]
    cases sEq t.2.1[i].1 d.2.2.2.2.1
    ·rw [cond_false,g,cond_true,cond_false]
    ·rw [cond_true,g,cond_true,cond_true]
  ·rw [cond_true,Bool.true_and]
   cases sEq t.2.1[i].1 d.2.2.2.2.1
   ·rw [cond_false,cond_false]
    have h:(d.1==5)=false:=by
     have:d.1=4:=by simpa using j
     rw [this];rfl
    rw [h]
    simp only [cond_false,cond_true,g,Bool.false_and]
   ·rw [cond_true,cond_true,List.append_nil]) (λb rec=>by
  show j1e _ _ _ _ _ _ _=_
  unfold j1e
  dsimp only
  rw [ZaP,cond_false])
 refine this.trans ?_
 rw [List.nil_append]
theorem jph (d:D) (a:ByteArray) (cs:List C) (ks:List ByteArray) (j:ks.length<=1048576) (k:T->Res):j5D (nI ks.length) d Z1c 0 (a,cs,ks) k=k (a,cs,bif d.1==5 then ks.map (ren d.2.2.2.2.1 d.2.2.2.2.2) else ks):=by
 unfold j5D
 cases g:(d.1==5)
 ·refine Z3u (λi=>((i:Int),(a,cs,ks))) ks.length k (k (a,cs,ks)) (λi b rec=> ?_) (λrec=> ?_) Z1c (Z2b (by omega))
  ·show j0n _ _ _ _ _ _=_
   unfold j0n
   rw [ZaQ b,cond_true,g,cond_false,j01 (n:=(i:Int)+1) (by omega)]
   rfl
  ·show j0n _ _ _ _ _ _=_
   unfold j0n
   rw [ZaP,cond_false]
 ·have:=Z3u (step:=j4A (nI ks.length) d) (λi=>((i:Int),(a,cs,(ks.take i).map (ren d.2.2.2.2.1 d.2.2.2.2.2)++ks.drop i))) ks.length k (k (a,cs,ks.map (ren d.2.2.2.2.1 d.2.2.2.2.2))) (λi b rec=> ?_) (λrec=> ?_) Z1c (Z2b (by omega))
  ·refine Eq.trans ?_ this
   simp
  ·show j0n _ _ _ _ _ _=_
   unfold j0n
   dsimp only
   have f:inb (i:Int) ((ks.take i).map (ren d.2.2.2.2.1 d.2.2.2.2.2)++ks.drop i).length=true:=j00 (by rw [jfV];exact b)
   rw [ZaQ b,cond_true,g,cond_true,f,cond_true,jnU _ _ _ _ b,j01 (n:=(i:Int)+1) (by omega)]
   cases h:sEq ks[i] d.2.2.2.2.1
   ·rw [cond_false,js4 _ _ _ b (by unfold ren;rw [h];rfl)]
    rfl
   ·rw [cond_true,cond_true,ZaF]
    have:ren d.2.2.2.2.1 d.2.2.2.2.2 ks[i]=d.2.2.2.2.2:=by unfold ren;rw [h];rfl
    rw [<-jnV _ _ _ b,this]
    rfl
  ·show j0n _ _ _ _ _ _=_
   unfold j0n
   dsimp only
   rw [ZaP,cond_false,List.take_length,List.drop_length,List.append_nil]
theorem jnW (n:ByteArray) (l:List C):(l.flatMap λc=>bif sEq c.1 n then [] else [c])=l.filter λc=> !sEq c.1 n:=by
 induction l with
 | nil=>rfl
 | cons c l b=>
  rw [List.flatMap_cons,b]
  cases h:sEq c.1 n
  ·rw [List.filter_cons_of_pos (by rw [h];rfl)];rfl
  ·rw [List.filter_cons_of_neg (by rw [h];simp)];rfl
theorem jev {α β:Type} (f:α->β) (l:List α):l.flatMap (λx=>[f x])=l.map f:=by
 induction l with
 | nil=>rfl
 | cons c l b=>rw [List.flatMap_cons,b];rfl
theorem jqX (d:D) (l:List C):(d.1=3->l.flatMap (j9E d)=l)/\(d.1=4->l.flatMap (j9E d)=l.filter λc=> !sEq c.1 d.2.2.2.2.1)/\(d.1=5->l.flatMap (j9E d)=l.map (j8V d.2.2.2.2.1 d.2.2.2.2.2)):=by
 refine ⟨λh=> ?_,λh=> ?_,λh=> ?_⟩
 ·have:j9E d=λc=>[c]:=by funext c;unfold j9E;rw [h];rfl
  rw [this,j0T]
 ·have:j9E d=λc=>bif sEq c.1 d.2.2.2.2.1 then [] else [c]:=by funext c;unfold j9E;rw [h];rfl
  rw [this,jnW]
 ·have:j9E d=λc=>[j8V d.2.2.2.2.1 d.2.2.2.2.2 c]:=by
   funext c
   unfold j9E j8V ren
   rw [h]
   cases sEq c.1 d.2.2.2.2.1<;>rfl
  rw [this,jev]
theorem jnp (t:T) (d:D) (g:t.2.1.length<=1048576) (f:t.2.2.length<=1048576) (b:d.1=3->0<d.2.2.1.length) (j:d.1=3\/d.1=4\/d.1=5) (k:T->Res):j3G t d k=k (jau t d):=by
 obtain ⟨m,n,p⟩:=jqX d t.2.1
 unfold j3G j5E
 simp only [Z9Q]
 rw [jce f,cond_true,jpe _ _ g]
 dsimp only
 rw [jph _ _ _ _ f]
 dsimp only
 rcases j with h | h | h
 ·have b:=b h
  have l:inb 0 d.2.2.1.length=true:=j00 (i:=0) b
  rw [m h,show (d.1==3)=true by rw [h];rfl,show (d.1==5)=false by rw [h];rfl,cond_true,l,cond_true,ZaL (by unfold LIM;omega),cond_true,cond_false]
  unfold jau jjw
  rw [h]
  rfl
 ·rw [n h,show (d.1==3)=false by rw [h];rfl,show (d.1==5)=false by rw [h];rfl,cond_false,cond_false]
  unfold jau jgG
  rw [h]
  rfl
 ·rw [p h,show (d.1==3)=false by rw [h];rfl,show (d.1==5)=true by rw [h];rfl,cond_false,cond_true]
  unfold jau jeD
  rw [h]
  rfl
theorem jfT {d:D} (b:j14 d=true):(d.1=1\/d.1=2\/d.1=3\/d.1=4\/d.1=5)/\(d.1=3->0<d.2.2.1.length):=by
 obtain ⟨_,⟨t,cs,ks,rfl,_⟩ | ⟨t,rfl⟩ | ⟨t,c,rfl,_⟩ | ⟨t,n,rfl,_⟩ | ⟨t,n,m,rfl,_⟩⟩:=j8p b<;>simp
theorem joK (c:List T) (n:ByteArray):decide (j04 c n>=0)= !decide (j04 c n<0):=by
 by_cases h:j04 c n<0
 ·rw [decide_eq_true h,decide_eq_false (by omega)];rfl
 ·rw [decide_eq_false h,decide_eq_true (by omega)];rfl
theorem jlJ (n:Nat) (m:Nat):(nI n==(m:Int))=(n==m):=by
 unfold nI
 rw [Bool.eq_iff_iff]
 simp only [beq_iff_eq]
 omega
theorem jrz {α:Type} (l:List α) (i:Nat):sub l 0 (i:Int)=l.take i:=by
 have:=jpE l 0 i
 simpa using this
theorem jjf (c:List T) (d:D) (j:msr (.slice yT) c<=1048576) (b:dSm d) (k:List T->Int->Res):j2b c d k=k (jfd c d).1 (jfd c d).2:=by
 obtain ⟨y,m⟩:=jdC j
 unfold j2b jfd
 rw [jld c j]
 cases w:j2m c
 ·rfl
 rw [Bool.not_true,cond_false,Bool.false_or,jgL d b]
 cases f:j14 d
 ·rfl
 rw [Bool.not_true,cond_false,cond_false,j88 _ _ (by unfold LIM;omega),jje c j]
 obtain ⟨H,p⟩:=jfT f
 unfold j0b j15
 cases q:(d.1==1)
 ·rw [cond_false,cond_false,cond_false]
  rcases j0o c d.2.1 with ⟨l,_⟩ | ⟨i,g,l,_⟩
  ·rw [l];rfl
  ·have h:decide (j04 c d.2.1<0)=false:=decide_eq_false (by omega)
   rw [h,cond_false,cond_false,l,j00 g,cond_true,Zay _ _ _ g]
   obtain ⟨I,J,K,L,M⟩:=m _ (List.getElem_mem g)
   rw [joE _ _ (by omega) (by omega) p]
   cases G:(j0w c[i] d != 0)
   ·rw [cond_false,cond_false]
    cases r:(d.1==2)
    ·rw [cond_false,cond_false,cond_true,jnp _ _ (by omega) (by omega) p (by
      have E:d.1≠1:=by simpa using q
      have F:d.1≠2:=by simpa using r
      omega),cond_true,ZaF,Int.toNat_natCast]
    ·rw [cond_true,cond_true,Int.toNat_natCast]
     unfold j6U
     have z:(sub c 0 (i:Int))=c.take i:=jrz c i
     have A:(sub c (Z9K ((i:Int)+1)) (nI c.length))=c.drop (i+1):=by
      rw [j01 (n:=(i:Int)+1) (by omega)]
      exact jry c (i+1)
     have B:Z8e 0 (i:Int) c.length=true:=j9F (i:=0) ⟨Nat.zero_le _,by omega⟩
     have C:Z8e (Z9K ((i:Int)+1)) (nI c.length) c.length=true:=by
      rw [j01 (n:=(i:Int)+1) (by omega)]
      exact j9F (i:=i+1) ⟨by omega,Nat.le_refl _⟩
     rw [B,cond_true,C,cond_true,z,A,ZaL (by unfold LIM;simp;omega),cond_true,ZaL (by unfold LIM;simp;omega),cond_true,List.eraseIdx_eq_take_drop_succ]
   ·rfl
 ·rw [cond_true,cond_true,cond_true,joK]
  cases decide (j04 c d.2.1<0)
  ·rfl
  ·rw [Bool.not_true,cond_false,cond_false,show (nI c.length==(6:Int))=(c.length==6) from jlJ _ 6]
   cases (c.length==6)
   ·rw [cond_false,cond_false]
    unfold j4f
    rw [jjj _ b.2.1 b.2.2.1,jq1 _ _ y]
    rfl
   ·rfl
end Go.PI.G
namespace Go.PI.G
open Go Go.PI Go.Proofs
theorem jag {t:T} (ht:j05 t=true):msr yT t<=400:=by
 obtain ⟨a,b,c⟩:=t
 obtain ⟨d,f,g⟩:=jrk ht
 have:msr yT (a,b,c)=a.size+(msr (.slice yC) b+msr (.slice .str) c):=rfl
 omega
theorem jlz {t:T} (ht:j05 t=true):j2m [t]=true/\msr (.slice yT) [t]<=1048576:=by
 refine ⟨(j0d _).2 ⟨by simp,by simpa using ht,by simp⟩,?_⟩
 have:=jag ht
 rw [jmo]
 simp
 omega
theorem jr0 {t:T} (ht:j05 t=true) {d:D} (j:j14 d=true) (k:d.2.1=t.1) (f:d.1≠1):(jfd [t] d).2=j0w t d:=by
 have b:j04 [t] d.2.1=(0:Int):=by
  have:=jeO (c:=[t]) (by simp) (i:=0) (by simp)
  rw [k]
  exact this
 have g:j0b [t] d=j0w t d:=by
  unfold j0b
  rw [show (d.1==1)=false by simpa using f,cond_false,b]
  rfl
 unfold jfd
 rw [(jlz ht).1,j,g]
 show (bif (j0w t d != 0) then (([]:List T),j0w t d) else _).2=_
 cases h:(j0w t d != 0)
 ·have:j0w t d=0:=by simpa using h
  rw [this];rfl
 ·rfl
noncomputable def ji7 (d:D) (j:Nat) (x:List V):List V:=bif d.1==3 then x++[(nth zC d.2.2.1 0).2.2.2.2] else bif d.1==4 then x.eraseIdx j else x
theorem jqZ (t:T) (d:D) (l:List (List V)):jfc t d l=l.map (ji7 d (j02 t.2.1 d.2.2.2.2.1).toNat):=by
 unfold jfc ji7
 cases (d.1==3)
 ·cases (d.1==4)
  ·simp
  ·rfl
 ·rfl
theorem joA (d:D) (b:Int) (x:List V) (r:x.length<=1048576) (j:d.1=4->0<=b) (k:List V->Res):j7I b x (nI x.length) d Z1c 0 [] k=k (bif d.1==4 then x.eraseIdx b.toNat else x):=by
 unfold j7I
 cases h:(d.1==4)
 ·have:=Z9T x (λi g=>(i,g)) (λv=>[v]) 1048576 [] (step:=j3b b x (nI x.length) d) k k (by unfold LIM;omega) (λi f _=>by
   rw [j0T,List.nil_append,List.length_take];omega) (by simp) (λi g rec f q p=>by
   show j0D _ _ _ _ _ _ _ _=_
   unfold j0D
   dsimp only
   rw [ZaQ f,cond_true,j00 f,cond_true,show (d.1 != 4)=true by rw [bne,h];rfl,cond_true,Zay _ _ _ f,ZaL (by unfold LIM;omega),cond_true,j01 (n:=(i:Int)+1) (by omega)]) (λg rec=>by
   show j0D _ _ _ _ _ _ _ _=_
   unfold j0D
   rw [ZaP,cond_false])
  refine this.trans ?_
  rw [j0T,List.nil_append]
  rfl
 ·have j:=j (by simpa using h)
  obtain ⟨a,rfl⟩:∃ a:Nat,b=(a:Int):=⟨b.toNat,by omega⟩
  have:=Z3u (step:=j3b (a:Int) x (nI x.length) d) (λi=>((i:Int),(x.take i).eraseIdx a)) x.length k (k (x.eraseIdx a)) (λi f rec=> ?_) (λrec=> ?_) Z1c (Z2b (by omega))
  ·refine Eq.trans ?_ this
   rw [List.take_zero,List.eraseIdx_nil]
   rfl
  ·show j0D _ _ _ _ _ _ _ _=_
   unfold j0D
   dsimp only
   have m:((x.take i).eraseIdx a).length<=1048576:=Nat.le_trans (List.eraseIdx_sublist _ _).length_le (by rw [List.length_take];omega)
   rw [ZaQ f,cond_true,j00 f,cond_true,show (d.1 != 4)=false by rw [bne,h];rfl,cond_false,Zay _ _ _ f,j01 (n:=(i:Int)+1) (by omega),jko x a i f]
   have l:((i:Int) != (a:Int))= !(i==a):=by
    rw [Bool.eq_iff_iff]
    simp only [bne_iff_ne,Bool.not_eq_true',beq_eq_false_iff_ne,ne_eq,Int.natCast_inj]
   rw [l]
   cases (i==a)
   ·rw [Bool.not_false,cond_true,ZaL (by unfold LIM;omega),cond_true,cond_false]
    rfl
   ·rw [Bool.not_true,cond_false,cond_true]
    rfl
  ·show j0D _ _ _ _ _ _ _ _=_
   unfold j0D
   dsimp only
   rw [ZaP,cond_false,List.take_length]
theorem jma (t:T) (h:msr yT t<=1048576) (l:List (List V)) (F:j08 t l=true) (d:D) (g:dSm d) (w:j14 d=true) (G:d.2.1=t.1) (E:d.1≠1) (k:List (List V)->Int->Res) :
  j6s t l d k=k (bif j0w t d != 0 then [] else bif d.1==2 then [] else jfc t d l) (j0w t d):=by
 obtain ⟨ht,X,P⟩:=j0i F
 obtain ⟨H,J⟩:=jfT w
 unfold j6s j5j
 rw [j7n t h,F,Bool.not_true,cond_false,jgL d g,w,Bool.not_true,cond_false]
 have B:sNe d.2.1 t.1=false:=by unfold sNe;rw [G];simp
 rw [B,cond_false,show (d.1==1)=false by simpa using E]
 dsimp only
 rw [cond_false,jjf _ _ (jlz ht).2 g,jr0 ht w G E]
 cases K:(j0w t d != 0)
 rotate_left
 ·rfl
 have f:j0w t d=0:=by simpa using K
 have M:=(j2O h).2.1
 rw [cond_false,cond_false,j6D _ _ (by unfold LIM;omega),f]
 have L:d.1=4->0<=j02 t.2.1 d.2.2.2.2.1:=λr=>by
  by_cases A:j02 t.2.1 d.2.2.2.2.1<0
  ·unfold j0w at f
   rw [r] at f
   simp only [show ((4:Int)==3)=false from rfl,show ((4:Int)==4)=true from rfl,cond_false,cond_true,decide_eq_true A] at f
   cases f
  ·omega
 unfold jb0
 have:=Z9T l (λi b=>(b,i)) (λx=>bif d.1 != 2 then [ji7 d (j02 t.2.1 d.2.2.2.2.1).toNat x] else []) 60 [] (step:=j3c (j02 t.2.1 d.2.2.2.2.1) l (nI l.length) d) (λb=>k b 0) (λb=>k b 0) (by unfold LIM;omega) (λi j _=> ?_) (by simp) (λi b rec j R Q=>by
  have U:l[i].length=t.2.1.length:=j0z (P _ (List.getElem_mem j))
  show j22 _ _ _ _ _ _ _ _=_
  unfold j22 j7J
  dsimp only
  rw [ZaQ j,cond_true,j00 j,cond_true,Zay _ _ _ j,joA d _ _ (by omega) L,j01 (n:=(i:Int)+1) (by omega)]
  have p:lim (b.length+1)=true:=ZaL (by unfold LIM;omega)
  cases q:(d.1==3)
  ·rw [cond_false]
   cases (d.1 != 2)
   ·rw [cond_false,cond_false,List.append_nil]
   ·rw [cond_true,cond_true,p,cond_true]
    unfold ji7
    rw [q,cond_false]
  ·have e:d.1=3:=by simpa using q
   have z:inb 0 d.2.2.1.length=true:=j00 (i:=0) (J e)
   have r:(d.1==4)=false:=by rw [e];rfl
   have I:(d.1 != 2)=true:=by rw [e];rfl
   rw [cond_true,r,cond_false,z,cond_true,ZaL (by unfold LIM;omega),cond_true,I,cond_true,cond_true,p,cond_true]
   unfold ji7
   rw [q,cond_true]) (λb rec=>by
  show j22 _ _ _ _ _ _ _ _=_
  unfold j22
  dsimp only
  rw [ZaP,cond_false])
 ·refine this.trans ?_
  rw [List.nil_append]
  congr 1
  cases C:(d.1==2)
  ·have:(d.1 != 2)=true:=by rw [bne,C];rfl
   rw [this,cond_false,jqZ]
   show l.flatMap (λx=>[ji7 d _ x])=_
   exact jev _ _
  ·have:(d.1 != 2)=false:=by rw [bne,C];rfl
   rw [this,cond_true]
   show l.flatMap (λx=>[])=_
   simp
 ·rw [List.nil_append]
  have:∀ m:List (List V),(m.flatMap λx=>bif d.1 != 2 then [ji7 d (j02 t.2.1 d.2.2.2.2.1).toNat x] else []).length<=m.length:=by
   intro m
   induction m with
   | nil=>exact Nat.le_refl _
   | cons y m W=>
    rw [List.flatMap_cons,List.length_append,List.length_cons]
    have:(bif d.1 != 2 then [ji7 d (j02 t.2.1 d.2.2.2.2.1).toNat y] else []).length<=1:=by cases (d.1 != 2)<;>simp
    omega
  exact Nat.le_trans (this _) (by rw [List.length_take];omega)
end Go.PI.G
namespace Go.PI.G
open Go Go.PI Go.Proofs
theorem jp9 (t:T) (b:t.2.1.length<=1048576) (d:t.2.2.length<=1048576) (k:T->Res):j3z t k=k t:=by
 unfold j3z j3A
 rw [jce b,cond_true,jce d,cond_true]
theorem jj3 (c:List T) (f:msr (.slice yT) c<=1048576) (k:List T->Res):j3O c k=k c:=by
 obtain ⟨h,ht⟩:=jdC f
 unfold j3O jez
 have:=Z9T c (λi b=>(i,b)) (λx=>[x]) 1048576 [] (step:=j8T c (nI c.length)) (λb=>k b) (λb=>k b) (by unfold LIM;omega) (λi d _=>by
  rw [j0T,List.nil_append,List.length_take];omega) (by simp) (λi b rec d j g=>by
  show j38 _ _ _ _ _ _=_
  unfold j38
  obtain ⟨l,m,p,q,r⟩:=ht _ (List.getElem_mem d)
  dsimp only
  rw [ZaQ d,cond_true,j00 d,cond_true,Zay _ _ _ d,jp9 _ (by omega) (by omega),ZaL (by unfold LIM;omega),cond_true,j01 (n:=(i:Int)+1) (by omega)]) (λb rec=>by
  show j38 _ _ _ _ _ _=_
  unfold j38
  dsimp only
  rw [ZaP,cond_false])
 refine this.trans ?_
 rw [j0T,List.nil_append]
theorem jj4 (c:List T) (d:D) (y:msr (.slice yT) c<=1048576) (f:j14 d=true) (k:Int->Res):j2A c d k=k (j0b c d):=by
 obtain ⟨A,p⟩:=jdC y
 obtain ⟨z,w⟩:=jfT f
 unfold j2A j0b
 rw [j5S _ _ (by unfold LIM;omega)]
 cases q:(d.1==1)
 ·rw [cond_false,cond_false]
  rcases j0o c d.2.1 with ⟨m,_⟩ | ⟨i,g,m,_⟩
  ·rw [m];rfl
  ·have l:decide (j04 c d.2.1<0)=false:=decide_eq_false (by omega)
   rw [l,cond_false,cond_false,m,j00 g,cond_true,Zay _ _ _ g]
   obtain ⟨B,C,E,F,G⟩:=p _ (List.getElem_mem g)
   generalize c[i]=t at *
   have b:∀ n (K:Int->Res),j0f t n K=K (j02 t.2.1 n):=λn K=>j7Q _ _ (by unfold LIM;omega) K
   unfold j4Y j7z j4Z j0w
   have r:d.1≠1:=by simpa using q
   rcases z with h | h | h | h | h
   ·exact absurd h r
   ·rw [h];rfl
   ·have j:inb 0 d.2.2.1.length=true:=j00 (i:=0) (w h)
    rw [h]
    show (bif inb 0 d.2.2.1.length then _ else none)=_
    rw [j,cond_true,b,jgq]
    show _=k (bif !decide (j02 t.2.1 (nth zC d.2.2.1 0).1<0) then 5 else bif t.2.1.length==8 then 6 else 0)
    cases !decide (j02 t.2.1 (nth zC d.2.2.1 0).1<0)
    ·show (bif (nI t.2.1.length==(8:Int)) then k 6 else _)=_
     rw [show (nI t.2.1.length==(8:Int))=(t.2.1.length==8) from jlJ _ 8]
     cases (t.2.1.length==8)<;>rfl
    ·rfl
   ·rw [h]
    simp only [show ((4:Int)==3)=false from rfl,show ((4:Int)==4)=true from rfl,show ((4:Int)==5)=false from rfl,cond_false,cond_true,b]
    cases decide (j02 t.2.1 d.2.2.2.2.1<0)
    ·rw [cond_false,cond_false,jpL _ _ (by unfold LIM;omega)]
     show (bif jfe t.2.2 d.2.2.2.2.1 then k 8 else k 0)=k (bif jfe t.2.2 d.2.2.2.2.1 then 8 else 0)
     cases jfe t.2.2 d.2.2.2.2.1<;>rfl
    ·rfl
   ·rw [h]
    simp only [show ((5:Int)==3)=false from rfl,show ((5:Int)==4)=false from rfl,show ((5:Int)==5)=true from rfl,cond_false,cond_true,b,jgq]
    cases !decide (j02 t.2.1 d.2.2.2.2.2<0)
    ·simp only [cond_false]
     cases decide (j02 t.2.1 d.2.2.2.2.1<0)<;>rfl
    ·rfl
 ·rw [cond_true,cond_true,joK]
  cases decide (j04 c d.2.1<0)
  ·rfl
  ·rw [Bool.not_true,cond_false,cond_false,show (nI c.length==(6:Int))=(c.length==6) from jlJ _ 6]
   cases (c.length==6)<;>rfl
theorem joO {α:Type} (p:α->Bool):(l:List α)->(i:Nat)->i<(l.takeWhile p).length->∃ h:i<l.length,p l[i]=true
 | [],i,h=>by simp at h
 | x::l,i,h=>by
  cases b:p x
  ·rw [List.takeWhile_cons_of_neg (by rw [b];simp)] at h;simp at h
  ·rw [List.takeWhile_cons_of_pos b,List.length_cons] at h
   cases i with
   | zero=>exact ⟨by simp,b⟩
   | succ i=>
    obtain ⟨f,d⟩:=joO p l i (by omega)
    exact ⟨by rw [List.length_cons];omega,d⟩
theorem joN {α:Type} (p:α->Bool):(l:List α)->(h:(l.takeWhile p).length<l.length)->p l[(l.takeWhile p).length]=false
 | [],h=>by simp at h
 | x::l,h=>by
  cases b:p x
  ·have e:(x::l).takeWhile p=[]:=List.takeWhile_cons_of_neg (by rw [b];simp)
   simp only [e,List.length_nil,List.getElem_cons_zero]
   exact b
  ·have e:(x::l).takeWhile p=x::l.takeWhile p:=List.takeWhile_cons_of_pos b
   simp only [e,List.length_cons,List.getElem_cons_succ] at h ⊢
   exact joN p l (by omega)
theorem jo2 (d:D) (c:List T) (l:c.length<=1048576) (k:Int->Res):j9H d c Z1c 0 k=k (((c.takeWhile λy=>sLt y.1 d.2.1).length:Nat):Int):=by
 have j:(c.takeWhile λy=>sLt y.1 d.2.1).length<=c.length:=(List.takeWhile_sublist _).length_le
 refine Z3u (step:=j4T d c) (λi=>(i:Int)) (c.takeWhile λy=>sLt y.1 d.2.1).length k _ (λi g rec=> ?_) (λrec=> ?_) Z1c (Z2b (by omega))
 ·obtain ⟨b,f⟩:=joO _ c i g
  show j2x _ _ _ _ _=_
  unfold j2x
  rw [ZaQ b,cond_true,j00 b,cond_true,Zay _ _ _ b,f,cond_true,j01 (n:=(i:Int)+1) (by omega)]
  rfl
 ·show j2x _ _ _ _ _=_
  unfold j2x
  by_cases h:(c.takeWhile λy=>sLt y.1 d.2.1).length<c.length
  ·rw [ZaQ h,cond_true,j00 h,cond_true,Zay _ _ _ h,joN (λy:T=>sLt y.1 d.2.1) c h,cond_false]
  ·rw [decide_eq_false (show ¬ (((c.takeWhile λy=>sLt y.1 d.2.1).length:Nat):Int)<nI c.length by unfold nI;omega),cond_false]
end Go.PI.G
namespace Go.PI.G
open Go Go.PI Go.Proofs
theorem js5 (l:List ByteArray) (v:ByteArray) (h:l.length<=LIM) (k:Int->Res):j0W l v k=k (Z9F (λx=>sEq v x) l):=by
 unfold j0W j5t
 refine Z9S l (λi=>i) (λx=>sEq v x) (step:=j1U l v (nI l.length)) ((λ(_:Unit)=>k (-1)),(λ(t:Int)=>k t)) k h (λi rec b=> ?_) (λrec=> ?_)
 ·show j0c _ _ _ _ _ _ _=_
  unfold j0c
  unfold LIM at h
  rw [ZaQ b,cond_true,j00 b,cond_true,Zay _ _ _ b,j01 (n:=(i:Int)+1) (by omega)]
 ·show j0c _ _ _ _ _ _ _=_
  unfold j0c
  rw [ZaP,cond_false]
end Go.PI.G
namespace Go.PI.G
open Go Go.PI Go.Proofs
theorem jnQ {α:Type} {g:α->(Bool->Res)->Res} (q:α->Bool):(l:List α)->(∀ x∈l,∀ k,g x k=k (q x))->(d:List α)->(k:List α->Res)->dgE g l d k=k (d++l.filter λx=> !q x)
 | [],_,d,k=>by rw [List.filter_nil,List.append_nil];rfl
 | x::l,h,d,k=>by
  show g x (λb=>dgE g l (bif b then d else d++[x]) k)=_
  rw [h x (by simp),jnQ q l λy i=>h y (List.mem_cons_of_mem _ i)]
  cases f:q x
  ·rw [List.filter_cons_of_pos (by rw [f];rfl),cond_false,List.append_assoc];rfl
  ·rw [List.filter_cons_of_neg (by rw [f];simp),cond_true]
theorem jpD {α:Type} (p:α->Bool) (g:α->α) (l:List α) (i:Nat) (n:i<l.length) (d:p l[i]=true) (f:∀ j (b:j<l.length),j≠i->p l[j]=false):l.map (λx=>bif p x then g x else x)=l.set i (g l[i]):=by
 apply List.ext_getElem
 ·simp
 ·intro j k m
  have b:j<l.length:=by simpa using k
  rw [List.getElem_map,List.getElem_set]
  by_cases e:i=j
  ·subst e
   rw [if_pos rfl,d,cond_true]
  ·rw [if_neg e,f j b λh=>e h.symm,cond_false]
theorem map_none {α:Type} (p:α->Bool) (g:α->α) (l:List α) (h:∀ x∈l,p x=false):l.map (λx=>bif p x then g x else x)=l:=by
 induction l with
 | nil=>rfl
 | cons x l d=>rw [List.map_cons,h x (by simp),cond_false,d λy b=>h y (List.mem_cons_of_mem _ b)]
theorem jm1 {α:Type} {R:α->α->Prop} {l:List α} (h:l.Pairwise R) {i j:Nat} (d:i<l.length) (f:j<l.length) (e:i≠j):R l[i] l[j]\/R l[j] l[i]:=by
 rcases Nat.lt_or_gt_of_ne e with b | b
 ·exact .inl (List.pairwise_iff_getElem.1 h i j d f b)
 ·exact .inr (List.pairwise_iff_getElem.1 h j i f d b)
theorem jdg (n:Nat):(Z9o n n&&true)=true:=by
 rw [Bool.and_true]
 exact Nat.beq_refl n
theorem jrv {l:List C} (k:j4P l=true) (n m:ByteArray) {i:Nat} (f:i<l.length) (h:l[i].1=n):l.map (j8V n m)=l.set i (m,l[i].2):=by
 have p:=((j6B l).1 k).2
 have:j8V n m=λc:C=>bif sEq c.1 n then (m,c.2) else c:=by
  funext c
  unfold j8V ren
  cases sEq c.1 n<;>rfl
 rw [this]
 refine jpD (λc:C=>sEq c.1 n) (λc=>(m,c.2)) l i f ((j09 _ _).2 h) λj g e=> ?_
 have:l[j].1≠n:=λd=>by
  rcases jm1 p f g e.symm with b | b
  ·exact b (h.trans d.symm)
  ·exact b (d.trans h.symm)
 cases q:sEq l[j].1 n
 ·rfl
 ·exact absurd ((j09 _ _).1 q) this
theorem jrw {cs:List C} {ks:List ByteArray} (q:j1h cs (-1) ks=true) (n m:ByteArray):ks.map (ren n m)=bif decide (Z9F (λx=>sEq n x) ks>=0) then ks.set (Z9F (λx=>sEq n x) ks).toNat m else ks:=by
 have w:=((j52 cs ks (-1)).1 q).2
 have:ren n m=λs=>bif sEq s n then m else s:=by funext s;rfl
 rw [this]
 have d:∀ a b:ByteArray,sEq a b=sEq b a:=λa b=>by
  rw [Bool.eq_iff_iff,j09,j09]
  exact ⟨Eq.symm,Eq.symm⟩
 rcases jaw (λx=>sEq n x) ks with ⟨g,f⟩ | ⟨i,k,g,f,_⟩
 ·rw [g]
  exact map_none (λs=>sEq s n) (λ_=>m) ks λx z=>by rw [d];exact f x z
 ·rw [g,decide_eq_true (by omega),cond_true,Int.toNat_natCast]
  refine jpD (λs=>sEq s n) (λ_=>m) ks i k (by rw [d];exact f) λj p e=> ?_
  have r:n=ks[i]:=(j09 _ _).1 f
  cases y:sEq ks[j] n
  ·rfl
  ·have l:ks[j]=ks[i]:=((j09 _ _).1 y).trans r
   rcases jm1 w k p e.symm with h | h<;>rw [l] at h<;>exact absurd h (Int.lt_irrefl _)
theorem jsc {α:Type} (z:α) (l:List α) (i:Nat) (b:i<l.length) (x:α):nth z (upd l (i:Int) x) (i:Int)=x:=by
 rw [ZaF,Zay _ _ _ (by simpa using b),List.getElem_set_self]
theorem jpK (c:List T) (d:D) (i:Nat) (b:i<c.length) (Q:c.length<=1048576) (ht:j05 c[i]=true) (K:tSm c[i]) (l:j0w c[i] d=0) (I:d.1=2\/d.1=3\/d.1=4\/d.1=5) (w:d.1=3->0<d.2.2.1.length) (k:List T->Res) :
  j1w (i:Int) d.1 d c k=k (bif d.1==2 then c.eraseIdx i else c.set i (jau c[i] d)):=by
 obtain ⟨V,W,X,Y,Z⟩:=K
 obtain ⟨_,t1,t2,t3,L,M⟩:=(j6W _).1 ht
 unfold j1w
 have f:inb (i:Int) c.length=true:=j00 b
 rcases I with h | h | h | h
 ·rw [h]
  simp only [show ((2:Int)==1)=false from rfl,show ((2:Int)==2)=true from rfl,cond_false,cond_true]
  unfold j4y jby
  rw [j01 (n:=(i:Int)+1) (by omega),show Z8e (i:Int) ((i:Int)+1) c.length=true from j9F (j:=i+1) ⟨by omega,by omega⟩,cond_true,List.eraseIdx_eq_take_drop_succ]
  rfl
 ·have w:=w h
  have m:∀ x:T,inb (i:Int) (c.set i x).length=true:=λx=>j00 (by simpa using b)
  have p:inb 0 d.2.2.1.length=true:=j00 (i:=0) w
  rw [h]
  simp only [show ((3:Int)==1)=false from rfl,show ((3:Int)==2)=false from rfl,show ((3:Int)==3)=true from rfl,cond_false,cond_true]
  rw [f,cond_true,p,cond_true,Zay _ _ _ b,ZaL (by unfold LIM;omega),cond_true,ZaF,m,cond_true,jdg,cond_true]
  unfold jau jjw
  rw [h]
  rfl
 ·rw [h]
  simp only [show ((4:Int)==1)=false from rfl,show ((4:Int)==2)=false from rfl,show ((4:Int)==3)=false from rfl,show ((4:Int)==4)=true from rfl,cond_false,cond_true]
  rw [f,cond_true,Zay _ _ _ b]
  unfold j2Q
  rw [ZaL (by unfold LIM;omega),cond_true,jnQ (g:=λ(e:C) k=>jbB e d k) (λx:C=>sEq x.1 d.2.2.2.2.1) c[i].2.1 (λx R U=>rfl),List.nil_append]
  simp only [jdg,cond_true,ZaF]
  unfold jau jgG
  rw [h]
  rfl
 ·have P:¬ j02 c[i].2.1 d.2.2.2.2.1<0:=λA=>by
   unfold j0w at l
   rw [h] at l
   simp only [show ((5:Int)==3)=false from rfl,show ((5:Int)==4)=false from rfl,show ((5:Int)==5)=true from rfl,cond_false,cond_true,decide_eq_true A] at l
   cases H: !decide (j02 c[i].2.1 d.2.2.2.2.2<0)<;>rw [H] at l<;>cases l
  rcases j1g c[i].2.1 d.2.2.2.2.1 with ⟨B,_⟩ | ⟨j,y,B,z,_⟩
  ·omega
  rw [h]
  simp only [show ((5:Int)==1)=false from rfl,show ((5:Int)==2)=false from rfl,show ((5:Int)==3)=false from rfl,show ((5:Int)==4)=false from rfl,show ((5:Int)==5)=true from rfl,cond_false,cond_true]
  rw [f,cond_true,j7Q _ _ (by rw [Zay _ _ _ b];unfold LIM;omega)]
  simp only [Zay _ _ _ b,jsc _ _ _ b]
  rw [B]
  simp only [Zay _ _ _ y]
  rw [j00 y,cond_true,js5 _ _ (by unfold LIM;omega)]
  have E:=jrv L d.2.2.2.2.1 d.2.2.2.2.2 y z
  have F:=jrw M d.2.2.2.2.1 d.2.2.2.2.2
  have G:jau c[i] d=(c[i].1,c[i].2.1.map (j8V d.2.2.2.2.1 d.2.2.2.2.2),c[i].2.2.map (ren d.2.2.2.2.1 d.2.2.2.2.2)):=by
   unfold jau jeD
   rw [h]
   rfl
  rw [G,E,F]
  rcases jaw (λx=>sEq d.2.2.2.2.1 x) c[i].2.2 with ⟨r,_⟩ | ⟨q,J,r,_,_⟩
  ·rw [r,ZaF,ZaF]
   rfl
  ·rw [r,decide_eq_true (by omega),cond_true,cond_true,j00 J,cond_true]
   simp only [ZaF,Int.toNat_natCast]
   rw [List.set_set]
theorem jp4 (c:List T) (d:D) (z:msr (.slice yT) c<=1048576) (n:dSm d) (k:List T->Int->Res):j4F c d k=k (jfd c d).1 (jfd c d).2:=by
 obtain ⟨G,C⟩:=jdC z
 unfold j4F jfd
 rw [jkr c z]
 cases A:j2m c
 ·rfl
 rw [Bool.not_true,cond_false,Bool.false_or,jgt d n]
 cases m:j14 d
 ·rfl
 rw [Bool.not_true,cond_false,cond_false,jj4 _ _ z m,jj3 c z,j5S _ _ (by unfold LIM;omega)]
 obtain ⟨L,H⟩:=jfT m
 cases f:(j0b c d != 0)
 rotate_left
 ·rfl
 rw [cond_false,cond_false]
 have f:j0b c d=0:=by simpa using f
 have B:=(j0d c).1 A
 by_cases F:d.1=1
 ·unfold j0b at f
  unfold j15
  rw [F] at f ⊢
  simp only [show ((1:Int)==1)=true from rfl,cond_true] at f ⊢
  rcases j0o c d.2.1 with ⟨w,r⟩ | ⟨i,j,w,_⟩
  ·unfold j1w
   simp only [show ((1:Int)==1)=true from rfl,cond_true]
   rw [jo2 _ _ G,jj5 _ n]
   unfold j4z jfh
   obtain ⟨p,M,g,q⟩:=jpx (R:=tR) (λa b h=>jqH h) (x:=((d.2.1,d.2.2.1,d.2.2.2.1):T)) (l:=c) (λy K=>ji9 λe=>r y K e.symm)
   have g:p=(c.takeWhile λy=>sLt y.1 d.2.1).length:=g
   rw [<-g]
   have I:jjz (p:Int) c.length [((d.2.1,d.2.2.1,d.2.2.2.1):T)].length=true:=decide_eq_true ⟨by omega,by omega,by simp,by simp;unfold LIM;omega⟩
   rw [I,cond_true,q,Int.toNat_natCast,List.append_assoc]
   rfl
  ·rw [decide_eq_false (by omega)] at f
   cases f
 ·have J:d.1=2\/d.1=3\/d.1=4\/d.1=5:=by omega
  unfold j0b at f
  unfold j15
  have E:(d.1==1)=false:=by simpa using F
  rw [E,cond_false] at f
  rw [E,cond_false]
  rcases j0o c d.2.1 with ⟨w,r⟩ | ⟨i,j,w,_⟩
  ·rw [decide_eq_true (by omega)] at f
   cases f
  ·rw [decide_eq_false (by omega),cond_false,w,Zay _ _ _ j] at f
   rw [w,Zay _ _ _ j,Int.toNat_natCast,jpK c d i j G (B.2.1 _ (List.getElem_mem j)) (C _ (List.getElem_mem j)) f J H]
end Go.PI.G
namespace Go.PI.G
open Go Go.PI Go.Proofs
theorem j7R (l:List (List V)) (h:l.length<=1048576) (f:∀ x∈l,x.length<=1048576) (k:List (List V)->Res):j0t l k=k l:=by
 unfold j0t jdG
 have:=Z9T l (λi b=>(b,i)) (λx=>[x]) 1048576 [] (step:=j7T l (nI l.length)) (λb=>k b) (λb=>k b) (by unfold LIM;omega) (λi d _=>by
  rw [j0T,List.nil_append,List.length_take];omega) (by simp) (λi b rec d j g=>by
  show j2z _ _ _ _ _ _=_
  unfold j2z j0u
  dsimp only
  rw [ZaQ d,cond_true,j00 d,cond_true,Zay _ _ _ d,jce (f _ (List.getElem_mem d)),cond_true,ZaL (by unfold LIM;omega),cond_true,j01 (n:=(i:Int)+1) (by omega)]) (λb rec=>by
  show j2z _ _ _ _ _ _=_
  unfold j2z
  dsimp only
  rw [ZaP,cond_false])
 refine this.trans ?_
 rw [j0T,List.nil_append]
theorem jku (t:T) (h:msr yT t<=1048576) (ht:j05 t=true) (l:List (List V)) (r:List V) (g:∀ x∈l,x.length=t.2.1.length) (p:l.length<=60) (j:r.length=t.2.1.length) (k:Int->Res) :
  jbF l t r Z1c 0 k=k (((l.takeWhile λy=>kR t y r).length:Nat):Int):=by
 have f:∀ x:List V,(j07 t x).length<=LIM:=λx=>by
  rw [j9I]
  have:=(j2O h).2.2.1
  unfold LIM;omega
 have q:(l.takeWhile λy=>kR t y r).length<=l.length:=(List.takeWhile_sublist _).length_le
 refine Z3u (step:=j3Q l t r) (λi=>(i:Int)) (l.takeWhile λy=>kR t y r).length k _ (λi m rec=> ?_) (λrec=> ?_) Z1c (Z2b (by omega))
 ·obtain ⟨b,d⟩:=joO _ l i m
  have d:klt (j07 t l[i]) (j07 t r)=true:=d
  show j2o _ _ _ _ _ _=_
  unfold j2o
  rw [ZaQ b,cond_true,j00 b,cond_true,Zay _ _ _ b,j3o t h ht _ (g _ (List.getElem_mem b)),j3o t h ht r j,jbA _ _ (f _),d,cond_true,j01 (n:=(i:Int)+1) (by omega)]
  rfl
 ·show j2o _ _ _ _ _ _=_
  unfold j2o
  by_cases b:(l.takeWhile λy=>kR t y r).length<l.length
  ·have d:klt (j07 t l[(l.takeWhile λy=>kR t y r).length]) (j07 t r)=false:=joN (λy=>kR t y r) l b
   rw [ZaQ b,cond_true,j00 b,cond_true,Zay _ _ _ b,j3o t h ht _ (g _ (List.getElem_mem b)),j3o t h ht r j,jbA _ _ (f _),d,cond_false]
  ·rw [decide_eq_false (show ¬ (((l.takeWhile λy=>kR t y r).length:Nat):Int)<nI l.length by unfold nI;omega),cond_false]
theorem jpP (t:T):∀ a b:List V,kR t a b=true->kR t b a=false:=λa b h=>jqu h
theorem jh6 (t:T) (h:msr yT t<=1048576) (ht:j05 t=true) (l:List (List V)) (r:List V) (n:∀ x∈l,j0r t.2.1 x=true) (f:l.length<=60) (q:j0r t.2.1 r=true) (g:∀ x∈l,j07 t x≠j07 t r) (k:List (List V)->Res) :
  j2u t l r k=k (jgA t l r):=by
 have A:=(j2O h).2.1
 have b:∀ x∈l,x.length=t.2.1.length:=λx m=>j0z (n x m)
 have j:=j0z q
 unfold j2u
 rw [jku t h ht l r b f j,j7R l (by omega) (λx m=>by rw [b x m];omega)]
 unfold j0u j5z jfh
 rw [jce (by omega),cond_true]
 obtain ⟨p,B,i,d⟩:=jpx (R:=kR t) (jpP t) (x:=r) (l:=l) (λy w=>joa ht q (n y w) (λe=>g y w e.symm))
 rw [<-i]
 have z:jjz (p:Int) l.length [r].length=true:=decide_eq_true ⟨by omega,by omega,by simp,by simp;unfold LIM;omega⟩
 dsimp only
 rw [z,cond_true,Int.toNat_natCast,List.append_assoc]
 unfold jgA
 rw [d]
 rfl
theorem jrS {t:T} {l:List (List V)} {b:List V} (h:j06 t l b<0):∀ x∈l,j07 t x≠b:=joh h
theorem jn1 (t:T) (h:msr yT t<=1048576) (l:List (List V)) (r:List V) (k:List (List V)->Int->Res):j7l t l r k=k (j66 t l r).1 (j66 t l r).2:=by
 unfold j7l j66
 rw [j9a t h]
 cases d:j08 t l
 ·rfl
 obtain ⟨ht,g,i⟩:=j0i d
 rw [Bool.not_true,cond_false,cond_false,jgu t h]
 cases f:j0r t.2.1 r
 ·rfl
 rw [Bool.not_true,cond_false,cond_false,j3o t h ht r (j0z f),j1P t h l d,jgI]
 by_cases b:j06 t l (j07 t r)<0
 rotate_left
 ·rw [decide_eq_false b];rfl
 rw [decide_eq_true b,Bool.not_true,cond_false,cond_false,show (nI l.length==(60:Int))=(l.length==60) from jpy _ 60]
 cases (l.length==60)
 ·rw [cond_false,cond_false,jh6 t h ht l r i g f (jrS b)]
 ·rfl
theorem jqt {t:T} (ht:j05 t=true) {n:ByteArray} (d:n∈t.2.2) (v:V):j3K (nth zC t.2.1 (j02 t.2.1 n)) v=(j0s v&&(v.1==(nth zC t.2.1 (j02 t.2.1 n)).2.1)):=by
 have b:=(((j52 _ _ _).1 ((j6W t).1 ht).2.2.2.2.2).1 n d).2
 unfold j3K
 rw [b,Bool.not_true,Bool.and_false,Bool.or_false]
theorem jhS (t:T) (h:msr yT t<=1048576) (b:List V) (k:Bool->Res):j4U t b k=k (jaE t b):=by
 unfold j4U jaE
 obtain ⟨p,q,r,w,y⟩:=j2O h
 rw [jgv t h]
 cases ht:j05 t
 ·rfl
 rw [Bool.not_true,cond_false,Bool.true_and]
 by_cases f:b.length=t.2.2.length
 rotate_left
 ·rw [jky f,cond_true,decide_eq_false f,Bool.false_and]
 rw [jkx f,cond_false,decide_eq_true f,Bool.true_and]
 unfold jcy
 have:=Z9P t.2.2 (λi=>i) (λi n=> !j3K (nth zC t.2.1 (j02 t.2.1 n)) (nth zV b (i:Int))) (step:=j4V b t.2.2 (nI t.2.2.length) t) ((λ(_:Unit)=>k true),(λ(_:Unit)=>k false)) (k true) (k false) (by unfold LIM;omega) (λi rec d=>by
  have g:=jqt ht (List.getElem_mem d) (nth zV b (i:Int))
  obtain ⟨j,l,m⟩:=joc ht (List.getElem_mem d)
  show j2M _ _ _ _ _ _ _ _=_
  unfold j2M
  rw [g,ZaQ d,cond_true,j00 d,cond_true,j00 (f ▸ d),cond_true,j8q,Zay _ _ _ d]
  cases j0s (nth zV b (i:Int))
  ·rfl
  ·rw [Bool.not_true,cond_false,cond_true,j7Q _ _ (by unfold LIM;omega),m,j00 l,cond_true,j01 (n:=(i:Int)+1) (by omega),Bool.true_and]
   rfl) (λrec=>by
  show j2M _ _ _ _ _ _ _ _=_
  unfold j2M
  rw [ZaP,cond_false])
 refine this.trans ?_
 cases Z71 (λi n=> !j3K (nth zC t.2.1 (j02 t.2.1 n)) (nth zV b (i:Int))) 0 t.2.2<;>rfl
theorem jmi (l:List (List V)) (i:Nat) (b:i<l.length) (d:l.length<=60) (k:List (List V)->Res):j0U l (i:Int) (Z9K ((i:Int)+1)) k=k (l.eraseIdx i):=by
 unfold j0U jby
 rw [j01 (n:=(i:Int)+1) (by omega),show Z8e (i:Int) ((i:Int)+1) l.length=true from j9F (j:=i+1) ⟨by omega,by omega⟩,cond_true,List.eraseIdx_eq_take_drop_succ]
 rfl
theorem jn2 (t:T) (h:msr yT t<=1048576) (l:List (List V)) (d r:List V) (k:List (List V)->Int->Res):j7m t l d r k=k (j67 t l d r).1 (j67 t l d r).2:=by
 unfold j7m j67
 rw [j9a t h]
 cases g:j08 t l
 ·rfl
 obtain ⟨ht,D,H⟩:=j0i g
 rw [Bool.not_true,cond_false,cond_false,jgu t h]
 cases w:j0r t.2.1 r
 ·rfl
 rw [Bool.not_true,cond_false,cond_false,jhS t h]
 cases jaE t d
 ·rfl
 rw [Bool.not_true,cond_false,Bool.false_or,j1P t h l g]
 by_cases f:j06 t l d<0
 ·rw [decide_eq_true f];rfl
 rw [decide_eq_false f,cond_false,cond_false,j3o t h ht r (j0z w),jmx g f]
 obtain ⟨i,A,m⟩:=jeE f
 have p:=jeu g i
 obtain ⟨_,B,C⟩:=j0i p
 have b:=jmx g (now:=j07 t r) f
 rw [m,Int.toNat_natCast] at b
 have n:(j07 t r).length<=LIM:=by
  rw [j9I]
  have:=(j2O h).2.2.1
  unfold LIM;omega
 unfold j5U
 rw [jew _ _ n,m,Int.toNat_natCast,j1P t h l g,jgI]
 have j:decide (j06 t (l.eraseIdx i) (j07 t r)<0)=true->j0t l (λE=>j0U E (i:Int) (Z9K ((i:Int)+1)) λF=>j2u t F r λG=>k G 0)=k (jgA t (l.eraseIdx i) r) 0:=λz=>by
  rw [j7R l (by omega) (jg5 h g),jmi l i A D,jh6 t h ht _ r C B w (jrS (of_decide_eq_true z))]
 cases q:j1M zV veq (j07 t r) d
 ·rw [q] at b
  rw [Bool.not_false,cond_true,Bool.true_and]
  rw [Bool.not_false,Bool.true_and] at b
  cases y: !decide (j06 t l (j07 t r)<0)
  ·rw [y] at b
   rw [cond_false,cond_false,j1P t h l g,m]
   exact j (by simpa using b)
  ·rfl
 ·rw [q] at b
  rw [Bool.not_true,cond_false,Bool.false_and,cond_false,j1P t h l g,m]
  exact j (by simpa using b)
theorem jn0 (t:T) (h:msr yT t<=1048576) (l:List (List V)) (b:List V) (k:List (List V)->Int->Res):j7k t l b k=k (j65 t l b).1 (j65 t l b).2:=by
 unfold j7k j65
 rw [j9a t h]
 cases f:j08 t l
 ·rfl
 obtain ⟨ht,m,n⟩:=j0i f
 rw [Bool.not_true,cond_false,cond_false,jhS t h]
 cases jaE t b
 ·rfl
 rw [Bool.not_true,cond_false,Bool.false_or,j1P t h l f]
 by_cases d:j06 t l b<0
 ·rw [decide_eq_true d];rfl
 rw [decide_eq_false d,cond_false,cond_false]
 obtain ⟨i,j,g⟩:=jeE d
 rw [j1P t h l f,g,Int.toNat_natCast,j7R l (by omega) (jg5 h f),jmi l i j m]
end Go.PI.G
namespace Go.PI.G
open Go Go.PI Go.Proofs
theorem jqd {t:T} {d:D} (g:d.2.1=t.1) (f:d.1≠1):j0b [t] d=j0w t d:=by
 have b:j04 [t] d.2.1=(0:Int):=by
  have:=jeO (c:=[t]) (by simp) (i:=0) (by simp)
  rw [g]
  exact this
 unfold j0b
 rw [show (d.1==1)=false by simpa using f,cond_false,b]
 rfl
theorem jnY (d:D) (l:List (List V)) (m:l.length<=60) (j:∀ x∈l,x.length<=1048576) (h:0<d.2.2.1.length) (k:List (List V)->Res):j7v (nI l.length) d Z1c l 0 k=k (l.map λx=>x++[(nth zC d.2.2.1 0).2.2.2.2]):=by
 unfold j7v
 have:=Z3u (step:=j5w (nI l.length) d) (λi=>((l.take i).map (λx:List V=>x++[(nth zC d.2.2.1 0).2.2.2.2])++l.drop i,(i:Int))) l.length k (k (l.map λx=>x++[(nth zC d.2.2.1 0).2.2.2.2])) (λi b rec=> ?_) (λrec=> ?_) Z1c (Z2b (by omega))
 ·refine Eq.trans ?_ this
  simp
 ·show j33 _ _ _ _ _ _=_
  unfold j33
  dsimp only
  have p:=j _ (List.getElem_mem b)
  have g:inb (i:Int) ((l.take i).map (λx:List V=>x++[(nth zC d.2.2.1 0).2.2.2.2])++l.drop i).length=true:=j00 (by rw [jfV];exact b)
  have f:∀ y:List V,inb (i:Int) (((l.take i).map (λx:List V=>x++[(nth zC d.2.2.1 0).2.2.2.2])++l.drop i).set i y).length=true:=λy=>j00 (by rw [List.length_set,jfV];exact b)
  rw [ZaQ b,cond_true,g,cond_true,show inb 0 d.2.2.1.length=true from j00 (i:=0) h,cond_true,jnU _ _ _ _ b,ZaL (by unfold LIM;omega),cond_true,ZaF,f,cond_true,jdg,cond_true,j01 (n:=(i:Int)+1) (by omega),<-jnV _ _ _ b]
  rfl
 ·show j33 _ _ _ _ _ _=_
  unfold j33
  dsimp only
  rw [ZaP,cond_false,List.take_length,List.drop_length,List.append_nil]
theorem jo0 (a:Nat) (l:List (List V)) (z:l.length<=60) (q:∀ x∈l,a<x.length/\x.length<=1048576) (k:List (List V)->Res):j7w (a:Int) (nI l.length) Z1c l 0 k=k (l.map λx=>x.eraseIdx a):=by
 unfold j7w
 have:=Z3u (step:=j5x (a:Int) (nI l.length)) (λi=>((l.take i).map (λx:List V=>x.eraseIdx a)++l.drop i,(i:Int))) l.length k (k (l.map λx=>x.eraseIdx a)) (λi b rec=> ?_) (λrec=> ?_) Z1c (Z2b (by omega))
 ·refine Eq.trans ?_ this
  simp
 ·show j34 _ _ _ _ _ _=_
  unfold j34 j8X jby
  dsimp only
  obtain ⟨r,w⟩:=q _ (List.getElem_mem b)
  have f:inb (i:Int) ((l.take i).map (λx:List V=>x.eraseIdx a)++l.drop i).length=true:=j00 (by rw [jfV];exact b)
  have d:∀ y:List V,inb (i:Int) (((l.take i).map (λx:List V=>x.eraseIdx a)++l.drop i).set i y).length=true:=λy=>j00 (by rw [List.length_set,jfV];exact b)
  have p:l[i].take a++l[i].drop (a+1)=l[i].eraseIdx a:=(List.eraseIdx_eq_take_drop_succ _ _).symm
  have m:Z8e (a:Int) ((a:Int)+1) l[i].length=true:=j9F (j:=a+1) ⟨by omega,by omega⟩
  have g:(a:Int).toNat=a:=Int.toNat_natCast a
  have h:((a:Int)+1).toNat=a+1:=by omega
  rw [ZaQ b,cond_true,f,cond_true,jnU _ _ _ _ b,j01 (n:=(a:Int)+1) (by omega),m,cond_true,g,h,p,ZaF,d,cond_true,jdg,cond_true,j01 (n:=(i:Int)+1) (by omega),<-jnV _ _ _ b]
  rfl
 ·show j34 _ _ _ _ _ _=_
  unfold j34
  dsimp only
  rw [ZaP,cond_false,List.take_length,List.drop_length,List.append_nil]
theorem jlD (t:T) (h:msr yT t<=1048576) (l:List (List V)) (g:j08 t l=true) (d:D) (n:dSm d) (m:j14 d=true) (w:d.2.1=t.1) (i:d.1≠1) (k:List (List V)->Int->Res) :
  j5V t l d k=k (bif j0w t d != 0 then [] else bif d.1==2 then [] else jfc t d l) (j0w t d):=by
 obtain ⟨ht,z,F⟩:=j0i g
 obtain ⟨f,A⟩:=jfT m
 unfold j5V j4X
 rw [j9a t h,g,Bool.not_true,cond_false,jgt d n,m,Bool.not_true,cond_false]
 have r:sNe d.2.1 t.1=false:=by unfold sNe;rw [w];simp
 rw [r,cond_false,show (d.1==1)=false by simpa using i]
 dsimp only
 rw [cond_false,jj4 _ _ (jlz ht).2 m,jqd w i]
 cases B:(j0w t d != 0)
 rotate_left
 ·rfl
 have b:j0w t d=0:=by simpa using B
 have q:=(j2O h).2.1
 rw [cond_false,cond_false,j7R l (by omega) (jg5 h g),b]
 rcases f with e | e | e | e | e
 ·exact absurd e i
 ·rw [e];rfl
 ·unfold jfc
  rw [e]
  simp only [show ((3:Int)==2)=false from rfl,show ((3:Int)==3)=true from rfl,cond_false,cond_true]
  rw [jnY d l z (jg5 h g) (A e)]
 ·unfold jfc
  have G:¬ j02 t.2.1 d.2.2.2.2.1<0:=λp=>by
   unfold j0w at b
   rw [e] at b
   simp only [show ((4:Int)==3)=false from rfl,show ((4:Int)==4)=true from rfl,cond_false,cond_true,decide_eq_true p] at b
   cases b
  rcases j1g t.2.1 d.2.2.2.2.1 with ⟨y,_⟩ | ⟨j,C,y,_,_⟩
  ·omega
  rw [e]
  simp only [show ((4:Int)==2)=false from rfl,show ((4:Int)==3)=false from rfl,show ((4:Int)==4)=true from rfl,cond_false,cond_true]
  rw [j7Q _ _ (by unfold LIM;omega),y,jo0 j l z (λx E=>by rw [j0z (F x E)];exact ⟨C,q⟩)]
  rfl
 ·unfold jfc
  rw [e]
  rfl
end Go.PI.G
