/-
  Program's code interpreted over typed values; printed texts; plain laws. No conditions.
-/
import Derived.Test.YtnemiodjnhfejaaGreatBOi
import Derived.Test.YtnemiodjnhfejaaGreatBOd
import Derived.Test.YtnemiodjnhfejaaGreatBOh
import Derived.Test.YtnemiodjnhfejaaGreatBOe
import Derived.Test.YtnemiodjnhfejaaGreatBOj
set_option linter.unusedVariables false
set_option linter.unusedSimpArgs false
namespace Go.PI.G
open Go Go.PI Go.Proofs
theorem joD {c:List T} (h:msr (.slice yT) c<=1048576):c.length<=1048576/\∀ t∈c,msr yT t<=1048576:=⟨j0Y h,λt ht=>j29 h ht⟩
theorem jns (c:List T) (h:msr (.slice yT) c<=1048576) (a b:Unit->Res):jc1 c (nI c.length) c Z1c 0 a b=bif Z71 (λi t=> !j04 t||(decide (0<i)&&sGe (nth zT c ((i:Int)-1)).1 t.1)) 0 c then b () else a ():=by
 obtain ⟨g,f⟩:=joD h
 unfold jc1
 exact Z9P c (λi=>i) (λi t=> !j04 t||(decide (0<i)&&sGe (nth zT c ((i:Int)-1)).1 t.1)) (step:=jaa c (nI c.length) c) (a,b) (a ()) (b ()) (by unfold LIM;omega) (λi rec d=>by
  show j4D _ _ c _ _ _ _=_
  unfold j4D
  rw [ZaQ d,cond_true,j00 d,cond_true,Zay _ _ _ d,jcx _ (f _ (List.getElem_mem d)),j01 (n:=(i:Int)+1) (by omega),jmG c i d (by unfold LIM;omega)]
  cases j04 c[i]
  ·rfl
  ·cases (decide (0<i)&&sGe (nth zT c ((i:Int)-1)).1 c[i].1)<;>rfl) (λrec=>by
  show j4D _ _ c _ _ _ _=_
  unfold j4D
  rw [ZaP,cond_false])
theorem jmT (c:List T) (h:msr (.slice yT) c<=1048576) (a b:Unit->Res):jbM c (nI c.length) c Z1c 0 a b=bif Z71 (λi t=> !j04 t||(decide (0<i)&&sGe (nth zT c ((i:Int)-1)).1 t.1)) 0 c then b () else a ():=by
 obtain ⟨g,f⟩:=joD h
 unfold jbM
 exact Z9P c (λi=>i) (λi t=> !j04 t||(decide (0<i)&&sGe (nth zT c ((i:Int)-1)).1 t.1)) (step:=j9H c (nI c.length) c) (a,b) (a ()) (b ()) (by unfold LIM;omega) (λi rec d=>by
  show j4n _ _ c _ _ _ _=_
  unfold j4n
  rw [ZaQ d,cond_true,j00 d,cond_true,Zay _ _ _ d,jfG _ (f _ (List.getElem_mem d)),j01 (n:=(i:Int)+1) (by omega),jmG c i d (by unfold LIM;omega)]
  cases j04 c[i]
  ·rfl
  ·cases (decide (0<i)&&sGe (nth zT c ((i:Int)-1)).1 c[i].1)<;>rfl) (λrec=>by
  show j4n _ _ c _ _ _ _=_
  unfold j4n
  rw [ZaP,cond_false])
theorem jk5 (c:List T) (h:msr (.slice yT) c<=1048576) (k:Bool->Res):j6m c k=k (j24 c):=by
 unfold j6m j24
 rw [jns c h]
 by_cases b:c.length<=6
 ·rw [decide_eq_false (show ¬ nI c.length>6 by unfold nI;omega),cond_false,decide_eq_true b,Bool.true_and]
  cases Z71 (λi t=> !j04 t||(decide (0<i)&&sGe (nth zT c ((i:Int)-1)).1 t.1)) 0 c<;>rfl
 ·rw [decide_eq_true (show nI c.length>6 by unfold nI;omega),cond_true,decide_eq_false b,Bool.false_and]
theorem jjh (c:List T) (h:msr (.slice yT) c<=1048576) (k:Bool->Res):j6b c k=k (j24 c):=by
 unfold j6b j24
 rw [jmT c h]
 have:decide (nI c.length<=6)=decide (c.length<=6):=decide_eq_decide.2 (by unfold nI;omega)
 rw [this]
 cases Z71 (λi t=> !j04 t||(decide (0<i)&&sGe (nth zT c ((i:Int)-1)).1 t.1)) 0 c
 ·rw [Bool.not_false,Bool.and_true];rfl
 ·rw [Bool.not_true,Bool.and_false];rfl
end Go.PI.G
namespace Go.PI.G
open Go Go.PI Go.Proofs
theorem j7t (c:List T) (n:ByteArray) (h:c.length<=LIM) (k:Int->Res):j1l c n k=k (j03 c n):=by
 unfold j1l jgu
 refine Z9S c (λi=>i) (λt=>sEq t.1 n) (step:=jaf n c (nI c.length)) _ k h (λi rec b=> ?_) (λrec=> ?_)
 ·show j4M n _ _ _ _ _ _=_
  unfold j4M
  unfold LIM at h
  rw [ZaQ b,cond_true,j00 b,cond_true,Zay _ _ _ b,j01 (n:=(i:Int)+1) (by omega)]
 ·show j4M n _ _ _ _ _ _=_
  unfold j4M
  rw [ZaP,cond_false]
theorem j5k (c:List T) (n:ByteArray) (h:c.length<=LIM) (k:Int->Res):j0j c n k=k (j03 c n):=by
 unfold j0j j4T j72
 refine Z9S c (λi=>i) (λt=>sEq t.1 n) (step:=j2r c n (nI c.length)) _ k h (λi rec b=> ?_) (λrec=> ?_)
 ·show j0G _ n _ _ _ _ _=_
  unfold j0G jcT
  unfold LIM at h
  rw [ZaQ b,cond_true,j00 b,cond_true,Zay _ _ _ b,j01 (n:=(i:Int)+1) (by omega)]
 ·show j0G _ n _ _ _ _ _=_
  unfold j0G
  rw [ZaP,cond_false]
end Go.PI.G
namespace Go.PI.G
open Go Go.PI Go.Proofs
noncomputable def jes (p:List ByteArray) (s:ByteArray):Bool:=p.any λx=>sEq x s
theorem jmR {α:Type} (q:α->Bool) (l:List α):decide (Z9F q l>=0)=l.any q:=by
 unfold Z9F
 cases h:l.findIdx? q with
 | none=>
  have:=List.findIdx?_eq_none_iff.1 h
  have b:l.any q=false:=by
   rw [List.any_eq_false]
   intro x g
   rw [this x g];simp
  rw [b];rfl
 | some i=>
  have:=List.findIdx?_eq_some_iff_getElem.1 h
  obtain ⟨d,f,_⟩:=this
  have b:l.any q=true:=List.any_eq_true.2 ⟨l[i],List.getElem_mem d,f⟩
  rw [b]
  show decide ((i:Int)>=0)=true
  exact decide_eq_true (by omega)
theorem joO (l:List ByteArray) (s:ByteArray) (h:l.length<=LIM) (k:Bool->Res):j1f l s k=k (jes l s):=by
 unfold j1f j0T j4U jes
 have:=Z9S l (λi=>i) (λx=>sEq s x) (step:=j1E l s (nI l.length)) ((λ(_:Unit)=>k (decide ((-1:Int)>=0))),(λ(t:Int)=>k (decide (t>=0)))) (λr=>k (decide (r>=0))) h (λi rec b=>by
  show j0c _ _ _ _ _ _ _=_
  unfold j0c
  unfold LIM at h
  rw [ZaQ b,cond_true,j00 b,cond_true,Zay _ _ _ b,j01 (n:=(i:Int)+1) (by omega)]) (λrec=>by
  show j0c _ _ _ _ _ _ _=_
  unfold j0c
  rw [ZaP,cond_false])
 refine this.trans ?_
 rw [jmR]
 have:(λx=>sEq s x)=λx=>sEq x s:=by funext x;exact Zag s x
 rw [this]
end Go.PI.G
namespace Go.PI.G
open Go Go.PI Go.Proofs
theorem jp0 (l:List ByteArray) (s:ByteArray) (h:l.length<=LIM) (k:Bool->Res):j8A l s k=k (jes l s):=by
 unfold j8A jfl jes
 have:=Za2 l (λi=>i) (λx=>sEq x s) (step:=j94 s l (nI l.length)) ((λ(_:Unit)=>k false),(λ(_:Unit)=>k true)) (k false) (k true) h (λi rec b=>by
  show j3W _ _ _ _ _ _ _=_
  unfold j3W
  unfold LIM at h
  rw [ZaQ b,cond_true,j00 b,cond_true,Zay _ _ _ b,j01 (n:=(i:Int)+1) (by omega)]) (λrec=>by
  show j3W _ _ _ _ _ _ _=_
  unfold j3W
  rw [ZaP,cond_false])
 refine this.trans ?_
 cases l.any λx=>sEq x s<;>rfl
end Go.PI.G
namespace Go.PI.G
open Go Go.PI Go.Proofs
theorem jbq {n:Nat} (h:n<=1048576):lim (0+n)=true:=ZaL (by unfold LIM;omega)
theorem ji9 (t:T) (b:t.2.1.length<=1048576) (d:t.2.2.length<=1048576) (k:T->Res):j4g t k=k t:=by
 unfold j4g
 simp only [Z9Q]
 rw [jbq b,cond_true,jbq d,cond_true]
theorem jcQ {c:List T} (b:msr (.slice yT) c<=1048576):c.length<=1048576/\∀ t∈c,tSm t:=⟨j0Y b,λt ht=>j2y (j29 b ht)⟩
theorem j0R {α:Type}:(l:List α)->l.flatMap (λx=>[x])=l
 | []=>rfl
 | x::l=>by rw [List.flatMap_cons,j0R l];rfl
theorem ji4 (c:List T) (f:msr (.slice yT) c<=1048576) (k:List T->Res):j3V c k=k c:=by
 obtain ⟨h,ht⟩:=jcQ f
 unfold j3V jdW
 have:=Z9T c (λi b=>(i,b)) (λx=>[x]) 1048576 [] (step:=j8f c (nI c.length)) (λb=>k b) (λb=>k b) (by unfold LIM;omega) (λi d _=>by
  rw [j0R,List.nil_append,List.length_take];omega) (by simp) (λi b rec d j g=>by
  show j33 _ _ _ _ _ _=_
  unfold j33
  obtain ⟨l,m,p,q,r⟩:=ht _ (List.getElem_mem d)
  dsimp only
  rw [ZaQ d,cond_true,j00 d,cond_true,Zay _ _ _ d,ji9 _ (by omega) (by omega),ZaL (by unfold LIM;omega),cond_true,j01 (n:=(i:Int)+1) (by omega)]) (λb rec=>by
  show j33 _ _ _ _ _ _=_
  unfold j33
  dsimp only
  rw [ZaP,cond_false])
 refine this.trans ?_
 rw [j0R,List.nil_append]
noncomputable def j9X (t:T) (a:Bool×List T) (x:T):Bool×List T:=bif !a.1&&tR t x then (true,a.2++[t]++[x]) else (a.1,a.2++[x])
theorem jlg (t:T):(l:List T)->(b:List T)->l.foldl (j9X t) (true,b)=(true,b++l)
 | [],b=>by simp
 | x::l,b=>by
  rw [List.foldl_cons]
  show l.foldl (j9X t) (true,b++[x])=_
  rw [jlg t l,List.append_assoc];rfl
theorem jne (t:T):(l:List T)->(b:List T)->(bif !(l.foldl (j9X t) (false,b)).1 then (l.foldl (j9X t) (false,b)).2++[t] else (l.foldl (j9X t) (false,b)).2)=b++lay tR t l
 | [],b=>rfl
 | x::l,b=>by
  rw [List.foldl_cons]
  unfold lay
  cases d:tR t x
  ·have:j9X t (false,b) x=(false,b++[x]):=by unfold j9X;rw [d];rfl
   rw [this,jne t l,List.takeWhile_cons_of_pos (by rw [d];rfl),List.dropWhile_cons_of_pos (by rw [d];rfl)]
   unfold lay
   simp
  ·have:j9X t (false,b) x=(true,b++[t]++[x]):=by unfold j9X;rw [d];rfl
   rw [this,jlg,List.takeWhile_cons_of_neg (by rw [d];simp),List.dropWhile_cons_of_neg (by rw [d];simp)]
   simp
theorem jqA (t:T) (a:Bool×List T) (x:T):(j9X t a x).2.length<=a.2.length+2:=by
 unfold j9X
 cases !a.1&&tR t x<;>simp
theorem jp2 (c:List T) (t:T) (j:c.length<=1048576) (k:List T->Res):j8B c t k=k (lay tR t c):=by
 unfold j8B jb9
 have:=Z8i c (λi (a:Bool×List T)=>(a.1,i,a.2)) (j9X t) (λi a=>a.2.length<=2 * i) (step:=j95 c (nI c.length) t) (λdone b=>bif !done then bif lim (b.length+1) then k (b++[t]) else none else k b)
  (λa=>bif !a.1 then k (a.2++[t]) else k a.2) (false,[]) (by unfold LIM;omega) (by simp) (λi a f h=>by have:=jqA t a c[i];omega) (λi a rec f h=>by
  show j3X _ _ _ _ _ _ _ _=_
  unfold j3X jba
  dsimp only
  rw [ZaQ f,cond_true,j00 f,cond_true,Zay _ _ _ f]
  have g:lim (a.2.length+1)=true:=ZaL (by unfold LIM;omega)
  have d:lim ((a.2++[t]).length+1)=true:=ZaL (by unfold LIM;simp;omega)
  unfold j9X tR
  cases a.1
  ·rw [Bool.not_false,cond_true,Bool.true_and]
   cases sLt t.1 c[i].1
   ·rw [cond_false,cond_false,g,cond_true,j01 (n:=(i:Int)+1) (by omega)]
   ·rw [cond_true,cond_true,g,cond_true,d,cond_true,j01 (n:=(i:Int)+1) (by omega)]
  ·rw [Bool.not_true,cond_false,Bool.false_and,cond_false,g,cond_true,j01 (n:=(i:Int)+1) (by omega)]) (λa rec h=>by
  show j3X _ _ _ _ _ _ _ _=_
  unfold j3X
  dsimp only
  rw [ZaP,cond_false]
  cases a.1
  ·rw [Bool.not_false,cond_true,cond_true,ZaL (by unfold LIM;omega),cond_true]
  ·rfl)
 refine this.trans ?_
 have d:=jne t c []
 rw [List.nil_append] at d
 rw [<-d]
 cases (c.foldl (j9X t) (false,[])).1<;>rfl
theorem jfB (l:List C) (n:ByteArray):decide (j02 l n>=0)= !decide (j02 l n<0):=by
 by_cases h:j02 l n<0
 ·rw [decide_eq_true h,decide_eq_false (by omega)];rfl
 ·rw [decide_eq_false h,decide_eq_true (by omega)];rfl
theorem jnx (t:T) (d:D) (l:t.2.1.length<=1048576) (m:t.2.2.length<=1048576) (b:d.1=3->0<d.2.2.1.length) (k:Int->Res):j4f t d k=k (j0u t d):=by
 unfold j4f j0u
 rw [j67 _ _ (by unfold LIM;omega)]
 cases f:(d.1==3)
 ·rw [cond_false,cond_false]
  cases h:(d.1==4)
  ·rw [cond_false,cond_false]
   cases j:(d.1==5)
   ·rfl
   ·rw [cond_true,cond_true,j67 _ _ (by unfold LIM;omega),jfB]
    cases !decide (j02 t.2.1 d.2.2.2.2.2<0)
    ·cases decide (j02 t.2.1 d.2.2.2.2.1<0)<;>rfl
    ·rfl
  ·rw [cond_true,cond_true]
   cases decide (j02 t.2.1 d.2.2.2.2.1<0)
   ·rw [cond_false,cond_false,jp0 _ _ (by unfold LIM;omega)]
    show (bif jes t.2.2 d.2.2.2.2.1 then k 8 else k 0)=k (bif jes t.2.2 d.2.2.2.2.1 then 8 else 0)
    cases jes t.2.2 d.2.2.2.2.1<;>rfl
   ·rfl
 ·rw [cond_true,cond_true]
  have b:=b (by simpa using f)
  have g:inb 0 d.2.2.1.length=true:=j00 (i:=0) b
  rw [g,cond_true,j67 _ _ (by unfold LIM;omega),jfB]
  cases !decide (j02 t.2.1 (nth zC d.2.2.1 0).1<0)
  ·rw [cond_false,cond_false]
   have:(nI t.2.1.length==8)=(t.2.1.length==8):=by
    unfold nI
    rw [Bool.eq_iff_iff]
    simp only [beq_iff_eq]
    omega
   rw [this]
   cases (t.2.1.length==8)<;>rfl
  ·rfl
end Go.PI.G
namespace Go.PI.G
open Go Go.PI Go.Proofs
noncomputable def j9Y {α:Type} (R:α->α->Bool) (t:α) (a:Bool×List α) (x:α):Bool×List α:=bif !a.1&&R t x then (true,a.2++[t]++[x]) else (a.1,a.2++[x])
theorem jlh {α:Type} (R:α->α->Bool) (t:α):(l:List α)->(b:List α)->l.foldl (j9Y R t) (true,b)=(true,b++l)
 | [],b=>by simp
 | x::l,b=>by
  rw [List.foldl_cons]
  show l.foldl (j9Y R t) (true,b++[x])=_
  rw [jlh R t l,List.append_assoc];rfl
theorem jnf {α:Type} (R:α->α->Bool) (t:α):(l:List α)->(b:List α)->(bif !(l.foldl (j9Y R t) (false,b)).1 then (l.foldl (j9Y R t) (false,b)).2++[t] else (l.foldl (j9Y R t) (false,b)).2)=b++lay R t l
 | [],b=>rfl
 | x::l,b=>by
  rw [List.foldl_cons]
  unfold lay
  cases d:R t x
  ·have:j9Y R t (false,b) x=(false,b++[x]):=by unfold j9Y;rw [d];rfl
   rw [this,jnf R t l,List.takeWhile_cons_of_pos (by rw [d];rfl),List.dropWhile_cons_of_pos (by rw [d];rfl)]
   unfold lay
   simp
  ·have:j9Y R t (false,b) x=(true,b++[t]++[x]):=by unfold j9Y;rw [d];rfl
   rw [this,jlh,List.takeWhile_cons_of_neg (by rw [d];simp),List.dropWhile_cons_of_neg (by rw [d];simp)]
   simp
theorem jqB {α:Type} (R:α->α->Bool) (t:α) (a:Bool×List α) (x:α):(j9Y R t a x).2.length<=a.2.length+2:=by
 unfold j9Y
 cases !a.1&&R t x<;>simp
theorem jkQ {t:T} (ht:j04 t=true) {r:List V} (h:r.length=t.2.1.length):lim (0+r.length)=true:=by
 have:=((j6p t).1 ht).2.2.1
 exact jbq (by omega)
theorem jk8 (t:T) (h:msr yT t<=1048576) (ht:j04 t=true) (l:List (List V)) (r:List V) (z:∀ x∈l,x.length=t.2.1.length) (A:l.length<=60) (n:r.length=t.2.1.length) (k:List (List V)->Res):j3h t l r k=k (jfK t l r):=by
 have p:∀ x:List V,(j06 t x).length<=LIM:=λx=>by
  rw [j8U]
  have:=(j2y h).2.2.1
  unfold LIM;omega
 unfold j3h jbb j0a
 have:=Z8i l (λi (a:Bool×List (List V))=>(a.2,a.1,i)) (j9Y (kR t) r) (λi a=>a.2.length<=2 * i) (step:=j40 l (nI l.length) t r) (λb done=>bif !done then bif lim (0+r.length) then bif lim (b.length+1) then k (b++[r]) else none else none else k b)
  (λa=>bif !a.1 then k (a.2++[r]) else k a.2) (false,[]) (by unfold LIM;omega) (by simp) (λi a d p=>by have:=jqB (kR t) r a l[i];omega) (λi a rec d y=>by
  show j2b _ _ _ _ _ _ _ _ _=_
  unfold j2b j61 j0a
  dsimp only
  have q:=z _ (List.getElem_mem d)
  rw [ZaQ d,cond_true,j00 d,cond_true,Zay _ _ _ d]
  have g:lim (a.2.length+1)=true:=ZaL (by unfold LIM;omega)
  have f:lim ((a.2++[r]).length+1)=true:=ZaL (by unfold LIM;simp;omega)
  have j:lim (0+(l[i]).length)=true:=jkQ ht q
  have w:lim (0+r.length)=true:=jkQ ht n
  have m:Z9K ((i:Int)+1)=(i:Int)+1:=j01 (by omega)
  unfold j9Y
  cases a.1
  ·simp only [Bool.not_false,cond_true,Bool.true_and]
   rw [j6l t h ht r n,j6l t h ht _ q,jfi _ _ (p _)]
   unfold kR
   cases klt (j06 t r) (j06 t l[i])
   ·simp only [cond_false,cond_true,j,g,m]
   ·simp only [cond_true,w,g,j,f,m]
  ·simp only [Bool.not_true,cond_false,Bool.false_and,j,g,m,cond_true]) (λa rec y=>by
  show j2b _ _ _ _ _ _ _ _ _=_
  unfold j2b
  dsimp only
  rw [ZaP,cond_false]
  cases a.1
  ·simp only [Bool.not_false,cond_true,jkQ ht n]
   rw [ZaL (by unfold LIM;omega),cond_true]
  ·rfl)
 refine this.trans ?_
 have f:=jnf (kR t) r l []
 rw [List.nil_append] at f
 unfold jfK
 rw [<-f]
 cases (l.foldl (j9Y (kR t) r) (false,[])).1<;>rfl
theorem jjf {α:Type} (l:List α) (a i:Nat) (f:i<l.length):(l.take (i+1)).eraseIdx a=bif i==a then (l.take i).eraseIdx a else (l.take i).eraseIdx a++[l[i]]:=by
 have g:(l.take i).length=i:=by rw [List.length_take];omega
 rw [List.take_succ_eq_append_getElem f]
 by_cases h:a<i
 ·rw [List.eraseIdx_append_of_lt_length (by omega),show (i==a)=false from beq_eq_false_iff_ne.2 (by omega),cond_false]
 ·rw [List.eraseIdx_append_of_length_le (by omega),g]
  by_cases e:i=a
  ·subst e
   have b:[l[i]].eraseIdx (i-i)=[]:=by rw [Nat.sub_self];rfl
   have d:(l.take i).eraseIdx i=l.take i:=List.eraseIdx_of_length_le (by omega)
   rw [show (i==i)=true from beq_self_eq_true i,cond_true,b,d,List.append_nil]
  ·have b:[l[i]].eraseIdx (a-i)=[l[i]]:=List.eraseIdx_of_length_le (by simp only [List.length_cons,List.length_nil];omega)
   have d:(l.take i).eraseIdx a=l.take i:=List.eraseIdx_of_length_le (by omega)
   rw [show (i==a)=false from beq_eq_false_iff_ne.2 e,cond_false,b,d]
theorem jfj (l:List (List V)) (a:Nat) (j:l.length<=60) (h:∀ x∈l,x.length<=1048576) (k:List (List V)->Res):j1F l (a:Int) k=k (l.eraseIdx a):=by
 unfold j1F jbC
 have:=Z3u (step:=j6o (a:Int) l (nI l.length)) (λi=>((l.take i).eraseIdx a,(i:Int))) l.length (λd=>k d) (k (l.eraseIdx a)) (λi b rec=> ?_) (λrec=> ?_) Z1c (Z2b (by omega))
 ·refine Eq.trans ?_ this
  rw [List.take_zero,List.eraseIdx_nil]
  rfl
 ·show j1G _ _ _ _ _ _ _=_
  unfold j1G j0a
  dsimp only
  have g:((l.take i).eraseIdx a).length<=60:=Nat.le_trans (List.eraseIdx_sublist _ _).length_le (by rw [List.length_take];omega)
  rw [ZaQ b,cond_true,j00 b,cond_true,Zay _ _ _ b,j01 (n:=(i:Int)+1) (by omega),jjf l a i b]
  have f:((i:Int) != (a:Int))= !(i==a):=by
   rw [Bool.eq_iff_iff]
   simp only [bne_iff_ne,Bool.not_eq_true',beq_eq_false_iff_ne,ne_eq,Int.natCast_inj]
  rw [f]
  cases (i==a)
  ·rw [Bool.not_false,cond_true,jbq (h _ (List.getElem_mem b)),cond_true,ZaL (by unfold LIM;omega),cond_true,cond_false]
   rfl
  ·rw [Bool.not_true,cond_false,cond_true]
   rfl
 ·show j1G _ _ _ _ _ _ _=_
  unfold j1G
  dsimp only
  rw [ZaP,cond_false,List.take_length]
end Go.PI.G
namespace Go.PI.G
open Go Go.PI Go.Proofs
theorem jn6 {t:T} (ht:j04 t=true) {n:ByteArray} (f:n∈t.2.2):∃ (j:Nat) (b:j<t.2.1.length),j02 t.2.1 n=(j:Int):=by
 have g:=(((j4y _ _ _).1 ((j6p t).1 ht).2.2.2.2.2).1 n f).1
 rcases j1b t.2.1 n with ⟨d,_⟩ | ⟨j,b,d,_⟩
 ·omega
 ·exact ⟨j,b,d⟩
theorem jrj {t:T} (ht:j04 t=true) {c:C} (b:c∈t.2.1):j12 c=true:=((j65 _).1 ((j6p t).1 ht).2.2.2.2.1).1 c b
theorem jhu (t:T) (h:msr yT t<=1048576) (b:List V) (k:Bool->Res):j4G t b k=k (j9Q t b):=by
 unfold j4G j9Q
 obtain ⟨m,p,q,r,w⟩:=j2y h
 rw [jcx t h]
 cases ht:j04 t
 ·rfl
 rw [Bool.not_true,cond_false,Bool.true_and]
 by_cases f:b.length=t.2.2.length
 rotate_left
 ·rw [jjq f,cond_true,decide_eq_false f,Bool.false_and]
 rw [jjp f,cond_false,decide_eq_true f,Bool.true_and]
 unfold jc2
 have:=Z9P t.2.2 (λi=>i) (λi n=> !j3w (nth zC t.2.1 (j02 t.2.1 n)) (nth zV b (i:Int))) (step:=j4H b t.2.2 (nI t.2.2.length) t) ((λ(_:Unit)=>k true),(λ(_:Unit)=>k false)) (k true) (k false) (by unfold LIM;omega) (λi rec d=>by
  obtain ⟨j,g,l⟩:=jn6 ht (List.getElem_mem d)
  show j2B _ _ _ _ _ _ _ _=_
  unfold j2B
  rw [ZaQ d,cond_true,j00 d,cond_true,j00 (f ▸ d),cond_true,Zay _ _ _ d,j67 _ _ (by unfold LIM;omega),l,j00 g,cond_true,Zay _ _ _ g,ji6 _ (jrj ht (List.getElem_mem g)),j01 (n:=(i:Int)+1) (by omega)]) (λrec=>by
  show j2B _ _ _ _ _ _ _ _=_
  unfold j2B
  rw [ZaP,cond_false])
 refine this.trans ?_
 cases Z71 (λi n=> !j3w (nth zC t.2.1 (j02 t.2.1 n)) (nth zV b (i:Int))) 0 t.2.2<;>rfl
theorem jfR (t:T) (l:List (List V)) (b:List V):decide (j05 t l b>=0)= !decide (j05 t l b<0):=by
 by_cases h:j05 t l b<0
 ·rw [decide_eq_true h,decide_eq_false (by omega)];rfl
 ·rw [decide_eq_false h,decide_eq_true (by omega)];rfl
theorem joB (n:Nat) (m:Nat):(nI n==(m:Int))=(n==m):=by
 unfold nI
 rw [Bool.eq_iff_iff]
 simp only [beq_iff_eq]
 omega
theorem jmn (t:T) (h:msr yT t<=1048576) (l:List (List V)) (r:List V) (k:List (List V)->Int->Res):j6N t l r k=k (j5z t l r).1 (j5z t l r).2:=by
 unfold j6N j5z
 rw [j6L t h]
 cases b:j08 t l
 ·rfl
 obtain ⟨ht,g,i⟩:=j0l b
 rw [Bool.not_true,cond_false,cond_false,jfV t h,ht,Bool.true_and]
 cases d:j0q t.2.1 r
 ·rfl
 rw [Bool.not_true,cond_false,cond_false,j6l t h ht r (j0x d),j5R t h l b,jfR]
 cases !decide (j05 t l (j06 t r)<0)
 rotate_left
 ·rfl
 rw [cond_false,cond_false,show (nI l.length==(60:Int))=(l.length==60) from joB _ 60]
 cases (l.length==60)
 ·rw [cond_false,cond_false,jk8 t h ht l r (λx f=>j0x (i x f)) g (j0x d)]
 ·rfl
theorem jff {t:T} (h:msr yT t<=1048576) {l:List (List V)} (b:j08 t l=true):∀ x∈l,x.length<=1048576:=λx d=>by
 have f:=j0x ((j0l b).2.2 x d)
 have g:=(j2y h).2.1
 omega
theorem jdN {t:T} {l:List (List V)} {b:List V} (h:¬ j05 t l b<0):∃ i:Nat,i<l.length/\j05 t l b=(i:Int):=by
 have:=jng t l b
 exact ⟨(j05 t l b).toNat,by omega,by omega⟩
theorem jmo (t:T) (h:msr yT t<=1048576) (l:List (List V)) (b r:List V) (k:List (List V)->Int->Res):j6O t l b r k=k (j5A t l b r).1 (j5A t l b r).2:=by
 unfold j6O j5A
 rw [j6L t h]
 cases g:j08 t l
 ·rfl
 obtain ⟨ht,w,z⟩:=j0l g
 rw [Bool.not_true,cond_false,cond_false,jfV t h,ht,Bool.true_and]
 cases j:j0q t.2.1 r
 ·rfl
 rw [Bool.not_true,cond_false,cond_false,j5R t h l g,jhu t h]
 cases j9Q t b
 ·rfl
 rw [Bool.not_true,cond_false,Bool.false_or]
 by_cases d:j05 t l b<0
 ·rw [decide_eq_true d];rfl
 rw [decide_eq_false d,cond_false,cond_false]
 obtain ⟨i,y,m⟩:=jdN d
 have f:=jdF g i
 obtain ⟨_,p,q⟩:=j0l f
 rw [m,Int.toNat_natCast,jfj l i w (jff h g),j6l t h ht r (j0x j),j5R t h _ f,jfR]
 cases !decide (j05 t (l.eraseIdx i) (j06 t r)<0)
 ·rw [cond_false,cond_false,jk8 t h ht _ r (λx n=>j0x (q x n)) p (j0x j)]
 ·rfl
theorem jmm (t:T) (h:msr yT t<=1048576) (l:List (List V)) (b:List V) (k:List (List V)->Int->Res):j6M t l b k=k (j5y t l b).1 (j5y t l b).2:=by
 unfold j6M j5y
 rw [j6L t h]
 cases f:j08 t l
 ·rfl
 obtain ⟨ht,j,n⟩:=j0l f
 rw [Bool.not_true,cond_false,cond_false,j5R t h l f,jhu t h]
 cases j9Q t b
 ·rfl
 rw [Bool.not_true,cond_false,Bool.false_or]
 by_cases d:j05 t l b<0
 ·rw [decide_eq_true d];rfl
 rw [decide_eq_false d,cond_false,cond_false]
 obtain ⟨i,m,g⟩:=jdN d
 rw [g,Int.toNat_natCast,jfj l i j (jff h f)]
end Go.PI.G
namespace Go.PI.G
open Go Go.PI
def goL {α A E:Type} (f:A->α->Except E A):List α->A->Except E A
 | [],a=> .ok a
 | x::xs,a=>match f a x with
  | .ok b=>goL f xs b
  | .error e=> .error e
def jrA (x:Int):Bool:=decide (48<=x/\x<=57)
def dgF (n x:Int):Except Unit Int:=bif jrA x then .ok (n * 10+(x-48)) else .error ()
def rdN (l:List Int):Option Int:=bif l.headD 0==45 then (match goL dgF l.tail 0 with | .ok n=>some (-n) | .error _=>none) else match goL dgF l 0 with | .ok n=>some n | .error _=>none
theorem jnC {α:Type} (l:List α) (i:Nat):sub l (i:Int) (nI l.length)=l.drop i:=by
 unfold sub nI
 rw [show ((l.length:Int)).toNat=l.length by omega,show ((i:Int)).toNat=i by omega,List.take_length]
theorem joH {α:Type} (l:List α) (i j:Nat):sub l (i:Int) (j:Int)=(l.take j).drop i:=by
 unfold sub
 rw [show ((j:Int)).toNat=j by omega,show ((i:Int)).toNat=i by omega]
theorem j8R {i j n:Nat} (h:i<=j/\j<=n):Z8e (i:Int) (j:Int) n=true:=decide_eq_true (by omega)
theorem jq6 {n:Nat} (h:1<=n):Z8e 1 (nI n) n=true:=decide_eq_true (by unfold nI;omega)
theorem jri {α:Type} (l:List α):sub l 1 (nI l.length)=l.drop 1:=jnC l 1
end Go.PI.G
namespace Go.PI.G
open Go Go.PI Go.Proofs
theorem jf5 {α:Type} (f:α->α) (l:List α) (i:Nat):((l.take i).map f++l.drop i).length=l.length:=by
 rw [List.length_append,List.length_map,List.length_take,List.length_drop];omega
theorem jmN {α:Type} (f:α->α) (z:α) (l:List α) (i:Nat) (b:i<l.length):nth z ((l.take i).map f++l.drop i) (i:Int)=l[i]:=by
 rw [Zay _ _ _ (by rw [jf5];exact b),List.getElem_append_right (by rw [List.length_map,List.length_take];omega),List.getElem_drop]
 congr 1
 rw [List.length_map,List.length_take];omega
theorem jmO {α:Type} (f:α->α) (l:List α) (i:Nat) (b:i<l.length):((l.take i).map f++l.drop i).set i (f l[i])=(l.take (i+1)).map f++l.drop (i+1):=by
 rw [List.set_append_right _ _ (by rw [List.length_map,List.length_take];omega),List.length_map,List.length_take,Nat.min_eq_left (by omega),Nat.sub_self,List.drop_eq_getElem_cons b,List.set_cons_zero,List.take_succ_eq_append_getElem b,List.map_append,List.append_assoc]
 rfl
theorem jrb {α:Type} (f:α->α) (l:List α) (i:Nat) (b:i<l.length) (h:f l[i]=l[i]):(l.take (i+1)).map f++l.drop (i+1)=(l.take i).map f++l.drop i:=by
 rw [List.take_succ_eq_append_getElem b,List.map_append,List.append_assoc,List.drop_eq_getElem_cons b]
 show (l.take i).map f++([f l[i]]++l.drop (i+1))=_
 rw [h]
 rfl
noncomputable def j8P (d:D) (c:C):List C:=bif (d.1==4)&&sEq c.1 d.2.2.2.2.1 then [] else [bif (d.1==5)&&sEq c.1 d.2.2.2.2.1 then (d.2.2.2.2.2,c.2) else c]
theorem jq1 (d:D) (l:List C):(l.flatMap (j8P d)).length<=l.length:=by
 induction l with
 | nil=>exact Nat.le_refl _
 | cons c l b=>
  rw [List.flatMap_cons,List.length_append,List.length_cons]
  have:(j8P d c).length<=1:=by
   unfold j8P
   cases (d.1==4)&&sEq c.1 d.2.2.2.2.1<;>simp
  omega
theorem jof (d:D) (t:T) (l:t.2.1.length<=1048576) (k:T->Res):j57 t.2.1 (nI t.2.1.length) d Z1c 0 (t.1,[],t.2.2) k=k (t.1,t.2.1.flatMap (j8P d),t.2.2):=by
 unfold j57
 have:=Z9T t.2.1 (λi b=>(i,(t.1,b,t.2.2))) (j8P d) 1048576 [] (step:=j22 t.2.1 (nI t.2.1.length) d) k (λb=>k (t.1,b,t.2.2)) (by unfold LIM;omega) (λi f _=>by
  rw [List.nil_append]
  exact Nat.le_trans (jq1 _ _) (by rw [List.length_take];omega)) (by simp) (λi b rec f p m=>by
  show j19 _ _ _ _ _ _ _=_
  unfold j19 j5a j5b
  dsimp only
  have g:lim (b.length+1)=true:=ZaL (by unfold LIM;omega)
  rw [ZaQ f,cond_true,j00 f,cond_true,Zay _ _ _ f,j01 (n:=(i:Int)+1) (by omega)]
  unfold j8P
  cases j:(d.1==4)
  ·rw [cond_false,Bool.false_and,cond_false]
   cases h:(d.1==5)
   ·rw [cond_false,g,cond_true,Bool.false_and,cond_false]
   ·rw [cond_true,Bool.true_and]
    cases sEq t.2.1[i].1 d.2.2.2.2.1
    ·rw [cond_false,g,cond_true,cond_false]
    ·rw [cond_true,g,cond_true,cond_true]
  ·rw [cond_true,Bool.true_and]
   cases sEq t.2.1[i].1 d.2.2.2.2.1
   ·rw [cond_false,cond_false]
    have h:(d.1==5)=false:=by
     have:d.1=4:=by simpa using j
     rw [this];rfl
    rw [h]
    simp only [cond_false,cond_true,g,Bool.false_and]
   ·rw [cond_true,cond_true,List.append_nil]) (λb rec=>by
  show j19 _ _ _ _ _ _ _=_
  unfold j19
  dsimp only
  rw [ZaP,cond_false])
 refine this.trans ?_
 rw [List.nil_append]
theorem joi (d:D) (a:ByteArray) (cs:List C) (ks:List ByteArray) (j:ks.length<=1048576) (k:T->Res):j58 (nI ks.length) d Z1c 0 (a,cs,ks) k=k (a,cs,bif d.1==5 then ks.map (ren d.2.2.2.2.1 d.2.2.2.2.2) else ks):=by
 unfold j58
 cases g:(d.1==5)
 ·refine Z3u (λi=>((i:Int),(a,cs,ks))) ks.length k (k (a,cs,ks)) (λi b rec=> ?_) (λrec=> ?_) Z1c (Z2b (by omega))
  ·show j0n _ _ _ _ _ _=_
   unfold j0n
   rw [ZaQ b,cond_true,g,cond_false,j01 (n:=(i:Int)+1) (by omega)]
   rfl
  ·show j0n _ _ _ _ _ _=_
   unfold j0n
   rw [ZaP,cond_false]
 ·have:=Z3u (step:=j4b (nI ks.length) d) (λi=>((i:Int),(a,cs,(ks.take i).map (ren d.2.2.2.2.1 d.2.2.2.2.2)++ks.drop i))) ks.length k (k (a,cs,ks.map (ren d.2.2.2.2.1 d.2.2.2.2.2))) (λi b rec=> ?_) (λrec=> ?_) Z1c (Z2b (by omega))
  ·refine Eq.trans ?_ this
   simp
  ·show j0n _ _ _ _ _ _=_
   unfold j0n
   dsimp only
   have f:inb (i:Int) ((ks.take i).map (ren d.2.2.2.2.1 d.2.2.2.2.2)++ks.drop i).length=true:=j00 (by rw [jf5];exact b)
   rw [ZaQ b,cond_true,g,cond_true,f,cond_true,jmN _ _ _ _ b,j01 (n:=(i:Int)+1) (by omega)]
   cases h:sEq ks[i] d.2.2.2.2.1
   ·rw [cond_false,jrb _ _ _ b (by unfold ren;rw [h];rfl)]
    rfl
   ·rw [cond_true,cond_true,ZaF]
    have:ren d.2.2.2.2.1 d.2.2.2.2.2 ks[i]=d.2.2.2.2.2:=by unfold ren;rw [h];rfl
    rw [<-jmO _ _ _ b,this]
    rfl
  ·show j0n _ _ _ _ _ _=_
   unfold j0n
   dsimp only
   rw [ZaP,cond_false,List.take_length,List.drop_length,List.append_nil]
theorem jmP (n:ByteArray) (l:List C):(l.flatMap λc=>bif sEq c.1 n then [] else [c])=l.filter λc=> !sEq c.1 n:=by
 induction l with
 | nil=>rfl
 | cons c l b=>
  rw [List.flatMap_cons,b]
  cases h:sEq c.1 n
  ·rw [List.filter_cons_of_pos (by rw [h];rfl)];rfl
  ·rw [List.filter_cons_of_neg (by rw [h];simp)];rfl
theorem jdG {α β:Type} (f:α->β) (l:List α):l.flatMap (λx=>[f x])=l.map f:=by
 induction l with
 | nil=>rfl
 | cons c l b=>rw [List.flatMap_cons,b];rfl
theorem jq0 (d:D) (l:List C):(d.1=3->l.flatMap (j8P d)=l)/\(d.1=4->l.flatMap (j8P d)=l.filter λc=> !sEq c.1 d.2.2.2.2.1)/\(d.1=5->l.flatMap (j8P d)=l.map (j8a d.2.2.2.2.1 d.2.2.2.2.2)):=by
 refine ⟨λh=> ?_,λh=> ?_,λh=> ?_⟩
 ·have:j8P d=λc=>[c]:=by funext c;unfold j8P;rw [h];rfl
  rw [this,j0R]
 ·have:j8P d=λc=>bif sEq c.1 d.2.2.2.2.1 then [] else [c]:=by funext c;unfold j8P;rw [h];rfl
  rw [this,jmP]
 ·have:j8P d=λc=>[j8a d.2.2.2.2.1 d.2.2.2.2.2 c]:=by
   funext c
   unfold j8P j8a ren
   rw [h]
   cases sEq c.1 d.2.2.2.2.1<;>rfl
  rw [this,jdG]
theorem jmj (t:T) (d:D) (g:t.2.1.length<=1048576) (f:t.2.2.length<=1048576) (b:d.1=3->0<d.2.2.1.length) (j:d.1=3\/d.1=4\/d.1=5) (k:T->Res):j3s t d k=k (j9E t d):=by
 obtain ⟨m,n,p⟩:=jq0 d t.2.1
 unfold j3s j59
 simp only [Z9Q]
 rw [jbq f,cond_true,jof _ _ g]
 dsimp only
 rw [joi _ _ _ _ f]
 dsimp only
 rcases j with h | h | h
 ·have b:=b h
  have l:inb 0 d.2.2.1.length=true:=j00 (i:=0) b
  rw [m h,show (d.1==3)=true by rw [h];rfl,show (d.1==5)=false by rw [h];rfl,cond_true,l,cond_true,ZaL (by unfold LIM;omega),cond_true,cond_false]
  unfold j9E jim
  rw [h]
  rfl
 ·rw [n h,show (d.1==3)=false by rw [h];rfl,show (d.1==5)=false by rw [h];rfl,cond_false,cond_false]
  unfold j9E jfQ
  rw [h]
  rfl
 ·rw [p h,show (d.1==3)=false by rw [h];rfl,show (d.1==5)=true by rw [h];rfl,cond_false,cond_true]
  unfold j9E jdM
  rw [h]
  rfl
theorem jf3 {d:D} (b:j13 d=true):(d.1=1\/d.1=2\/d.1=3\/d.1=4\/d.1=5)/\(d.1=3->0<d.2.2.1.length):=by
 obtain ⟨_,⟨t,cs,ks,rfl,_⟩ | ⟨t,rfl⟩ | ⟨t,c,rfl,_⟩ | ⟨t,n,rfl,_⟩ | ⟨t,n,m,rfl,_⟩⟩:=j7J b<;>simp
theorem jnF (c:List T) (n:ByteArray):decide (j03 c n>=0)= !decide (j03 c n<0):=by
 by_cases h:j03 c n<0
 ·rw [decide_eq_true h,decide_eq_false (by omega)];rfl
 ·rw [decide_eq_false h,decide_eq_true (by omega)];rfl
theorem jky (n:Nat) (m:Nat):(nI n==(m:Int))=(n==m):=by
 unfold nI
 rw [Bool.eq_iff_iff]
 simp only [beq_iff_eq]
 omega
theorem jqH {α:Type} (l:List α) (i:Nat):sub l 0 (i:Int)=l.take i:=by
 have:=joH l 0 i
 simpa using this
theorem ji5 (c:List T) (d:D) (j:msr (.slice yT) c<=1048576) (b:dSm d) (k:List T->Int->Res):j1U c d k=k (jer c d).1 (jer c d).2:=by
 obtain ⟨y,m⟩:=jcQ j
 unfold j1U jer
 rw [jk5 c j]
 cases w:j24 c
 ·rfl
 rw [Bool.not_true,cond_false,Bool.false_or,jfU d b]
 cases f:j13 d
 ·rfl
 rw [Bool.not_true,cond_false,cond_false,j7t _ _ (by unfold LIM;omega),ji4 c j]
 obtain ⟨H,p⟩:=jf3 f
 unfold j0b j14
 cases q:(d.1==1)
 ·rw [cond_false,cond_false,cond_false]
  rcases j0o c d.2.1 with ⟨l,_⟩ | ⟨i,g,l,_⟩
  ·rw [l];rfl
  ·have h:decide (j03 c d.2.1<0)=false:=decide_eq_false (by omega)
   rw [h,cond_false,cond_false,l,j00 g,cond_true,Zay _ _ _ g]
   obtain ⟨I,J,K,L,M⟩:=m _ (List.getElem_mem g)
   rw [jnx _ _ (by omega) (by omega) p]
   cases G:(j0u c[i] d != 0)
   ·rw [cond_false,cond_false]
    cases r:(d.1==2)
    ·rw [cond_false,cond_false,cond_true,jmj _ _ (by omega) (by omega) p (by
      have E:d.1≠1:=by simpa using q
      have F:d.1≠2:=by simpa using r
      omega),cond_true,ZaF,Int.toNat_natCast]
    ·rw [cond_true,cond_true,Int.toNat_natCast]
     unfold j6n
     have z:(sub c 0 (i:Int))=c.take i:=jqH c i
     have A:(sub c (Z9K ((i:Int)+1)) (nI c.length))=c.drop (i+1):=by
      rw [j01 (n:=(i:Int)+1) (by omega)]
      exact jnC c (i+1)
     have B:Z8e 0 (i:Int) c.length=true:=j8R (i:=0) ⟨Nat.zero_le _,by omega⟩
     have C:Z8e (Z9K ((i:Int)+1)) (nI c.length) c.length=true:=by
      rw [j01 (n:=(i:Int)+1) (by omega)]
      exact j8R (i:=i+1) ⟨by omega,Nat.le_refl _⟩
     rw [B,cond_true,C,cond_true,z,A,ZaL (by unfold LIM;simp;omega),cond_true,ZaL (by unfold LIM;simp;omega),cond_true,List.eraseIdx_eq_take_drop_succ]
   ·rfl
 ·rw [cond_true,cond_true,cond_true,jnF]
  cases decide (j03 c d.2.1<0)
  ·rfl
  ·rw [Bool.not_true,cond_false,cond_false,show (nI c.length==(6:Int))=(c.length==6) from jky _ 6]
   cases (c.length==6)
   ·rw [cond_false,cond_false]
    unfold j3R
    rw [ji9 _ b.2.1 b.2.2.1,jp2 _ _ y]
    rfl
   ·rfl
end Go.PI.G
namespace Go.PI.G
open Go Go.PI Go.Proofs
theorem j9t {t:T} (ht:j04 t=true):msr yT t<=400:=by
 obtain ⟨a,b,c⟩:=t
 obtain ⟨d,f,g⟩:=jqs ht
 have:msr yT (a,b,c)=a.size+(msr (.slice yC) b+msr (.slice .str) c):=rfl
 omega
theorem jkp {t:T} (ht:j04 t=true):j24 [t]=true/\msr (.slice yT) [t]<=1048576:=by
 refine ⟨(j0d _).2 ⟨by simp,by simpa using ht,by simp⟩,?_⟩
 have:=j9t ht
 rw [jlc]
 simp
 omega
theorem jq7 {t:T} (ht:j04 t=true) {d:D} (j:j13 d=true) (k:d.2.1=t.1) (f:d.1≠1):(jer [t] d).2=j0u t d:=by
 have b:j03 [t] d.2.1=(0:Int):=by
  have:=jdZ (c:=[t]) (by simp) (i:=0) (by simp)
  rw [k]
  exact this
 have g:j0b [t] d=j0u t d:=by
  unfold j0b
  rw [show (d.1==1)=false by simpa using f,cond_false,b]
  rfl
 unfold jer
 rw [(jkp ht).1,j,g]
 show (bif (j0u t d != 0) then (([]:List T),j0u t d) else _).2=_
 cases h:(j0u t d != 0)
 ·have:j0u t d=0:=by simpa using h
  rw [this];rfl
 ·rfl
noncomputable def jhj (d:D) (j:Nat) (x:List V):List V:=bif d.1==3 then x++[(nth zC d.2.2.1 0).2.2.2.2] else bif d.1==4 then x.eraseIdx j else x
theorem jq2 (t:T) (d:D) (l:List (List V)):jep t d l=l.map (jhj d (j02 t.2.1 d.2.2.2.2.1).toNat):=by
 unfold jep jhj
 cases (d.1==3)
 ·cases (d.1==4)
  ·simp
  ·rfl
 ·rfl
theorem jnt (d:D) (b:Int) (x:List V) (r:x.length<=1048576) (j:d.1=4->0<=b) (k:List V->Res):j75 b x (nI x.length) d Z1c 0 [] k=k (bif d.1==4 then x.eraseIdx b.toNat else x):=by
 unfold j75
 cases h:(d.1==4)
 ·have:=Z9T x (λi g=>(i,g)) (λv=>[v]) 1048576 [] (step:=j2Y b x (nI x.length) d) k k (by unfold LIM;omega) (λi f _=>by
   rw [j0R,List.nil_append,List.length_take];omega) (by simp) (λi g rec f q p=>by
   show j0C _ _ _ _ _ _ _ _=_
   unfold j0C
   dsimp only
   rw [ZaQ f,cond_true,j00 f,cond_true,show (d.1 != 4)=true by rw [bne,h];rfl,cond_true,Zay _ _ _ f,ZaL (by unfold LIM;omega),cond_true,j01 (n:=(i:Int)+1) (by omega)]) (λg rec=>by
   show j0C _ _ _ _ _ _ _ _=_
   unfold j0C
   rw [ZaP,cond_false])
  refine this.trans ?_
  rw [j0R,List.nil_append]
  rfl
 ·have j:=j (by simpa using h)
  obtain ⟨a,rfl⟩:∃ a:Nat,b=(a:Int):=⟨b.toNat,by omega⟩
  have:=Z3u (step:=j2Y (a:Int) x (nI x.length) d) (λi=>((i:Int),(x.take i).eraseIdx a)) x.length k (k (x.eraseIdx a)) (λi f rec=> ?_) (λrec=> ?_) Z1c (Z2b (by omega))
  ·refine Eq.trans ?_ this
   rw [List.take_zero,List.eraseIdx_nil]
   rfl
  ·show j0C _ _ _ _ _ _ _ _=_
   unfold j0C
   dsimp only
   have m:((x.take i).eraseIdx a).length<=1048576:=Nat.le_trans (List.eraseIdx_sublist _ _).length_le (by rw [List.length_take];omega)
   rw [ZaQ f,cond_true,j00 f,cond_true,show (d.1 != 4)=false by rw [bne,h];rfl,cond_false,Zay _ _ _ f,j01 (n:=(i:Int)+1) (by omega),jjf x a i f]
   have l:((i:Int) != (a:Int))= !(i==a):=by
    rw [Bool.eq_iff_iff]
    simp only [bne_iff_ne,Bool.not_eq_true',beq_eq_false_iff_ne,ne_eq,Int.natCast_inj]
   rw [l]
   cases (i==a)
   ·rw [Bool.not_false,cond_true,ZaL (by unfold LIM;omega),cond_true,cond_false]
    rfl
   ·rw [Bool.not_true,cond_false,cond_true]
    rfl
  ·show j0C _ _ _ _ _ _ _ _=_
   unfold j0C
   dsimp only
   rw [ZaP,cond_false,List.take_length]
theorem jkX (t:T) (h:msr yT t<=1048576) (l:List (List V)) (F:j08 t l=true) (d:D) (g:dSm d) (w:j13 d=true) (G:d.2.1=t.1) (E:d.1≠1) (k:List (List V)->Int->Res) :
  j5W t l d k=k (bif j0u t d != 0 then [] else bif d.1==2 then [] else jep t d l) (j0u t d):=by
 obtain ⟨ht,X,P⟩:=j0l F
 obtain ⟨H,J⟩:=jf3 w
 unfold j5W j4K
 rw [j6L t h,F,Bool.not_true,cond_false,jfU d g,w,Bool.not_true,cond_false]
 have B:sNe d.2.1 t.1=false:=by unfold sNe;rw [G];simp
 rw [B,cond_false,show (d.1==1)=false by simpa using E]
 dsimp only
 rw [cond_false,ji5 _ _ (jkp ht).2 g,jq7 ht w G E]
 cases K:(j0u t d != 0)
 rotate_left
 ·rfl
 have f:j0u t d=0:=by simpa using K
 have M:=(j2y h).2.1
 rw [cond_false,cond_false,j67 _ _ (by unfold LIM;omega),f]
 have L:d.1=4->0<=j02 t.2.1 d.2.2.2.2.1:=λr=>by
  by_cases A:j02 t.2.1 d.2.2.2.2.1<0
  ·unfold j0u at f
   rw [r] at f
   simp only [show ((4:Int)==3)=false from rfl,show ((4:Int)==4)=true from rfl,cond_false,cond_true,decide_eq_true A] at f
   cases f
  ·omega
 unfold jae
 have:=Z9T l (λi b=>(b,i)) (λx=>bif d.1 != 2 then [jhj d (j02 t.2.1 d.2.2.2.2.1).toNat x] else []) 60 [] (step:=j2Z (j02 t.2.1 d.2.2.2.2.1) l (nI l.length) d) (λb=>k b 0) (λb=>k b 0) (by unfold LIM;omega) (λi j _=> ?_) (by simp) (λi b rec j R Q=>by
  have U:l[i].length=t.2.1.length:=j0x (P _ (List.getElem_mem j))
  show j1M _ _ _ _ _ _ _ _=_
  unfold j1M j76
  dsimp only
  rw [ZaQ j,cond_true,j00 j,cond_true,Zay _ _ _ j,jnt d _ _ (by omega) L,j01 (n:=(i:Int)+1) (by omega)]
  have p:lim (b.length+1)=true:=ZaL (by unfold LIM;omega)
  cases q:(d.1==3)
  ·rw [cond_false]
   cases (d.1 != 2)
   ·rw [cond_false,cond_false,List.append_nil]
   ·rw [cond_true,cond_true,p,cond_true]
    unfold jhj
    rw [q,cond_false]
  ·have e:d.1=3:=by simpa using q
   have z:inb 0 d.2.2.1.length=true:=j00 (i:=0) (J e)
   have r:(d.1==4)=false:=by rw [e];rfl
   have I:(d.1 != 2)=true:=by rw [e];rfl
   rw [cond_true,r,cond_false,z,cond_true,ZaL (by unfold LIM;omega),cond_true,I,cond_true,cond_true,p,cond_true]
   unfold jhj
   rw [q,cond_true]) (λb rec=>by
  show j1M _ _ _ _ _ _ _ _=_
  unfold j1M
  dsimp only
  rw [ZaP,cond_false])
 ·refine this.trans ?_
  rw [List.nil_append]
  congr 1
  cases C:(d.1==2)
  ·have:(d.1 != 2)=true:=by rw [bne,C];rfl
   rw [this,cond_false,jq2]
   show l.flatMap (λx=>[jhj d _ x])=_
   exact jdG _ _
  ·have:(d.1 != 2)=false:=by rw [bne,C];rfl
   rw [this,cond_true]
   show l.flatMap (λx=>[])=_
   simp
 ·rw [List.nil_append]
  have:∀ m:List (List V),(m.flatMap λx=>bif d.1 != 2 then [jhj d (j02 t.2.1 d.2.2.2.2.1).toNat x] else []).length<=m.length:=by
   intro m
   induction m with
   | nil=>exact Nat.le_refl _
   | cons y m W=>
    rw [List.flatMap_cons,List.length_append,List.length_cons]
    have:(bif d.1 != 2 then [jhj d (j02 t.2.1 d.2.2.2.2.1).toNat y] else []).length<=1:=by cases (d.1 != 2)<;>simp
    omega
  exact Nat.le_trans (this _) (by rw [List.length_take];omega)
end Go.PI.G
namespace Go.PI.G
open Go Go.PI Go.Proofs
theorem jo9 (t:T) (b:t.2.1.length<=1048576) (d:t.2.2.length<=1048576) (k:T->Res):j3k t k=k t:=by
 unfold j3k j3l
 rw [jbq b,cond_true,jbq d,cond_true]
theorem jhU (c:List T) (f:msr (.slice yT) c<=1048576) (k:List T->Res):j3A c k=k c:=by
 obtain ⟨h,ht⟩:=jcQ f
 unfold j3A jdJ
 have:=Z9T c (λi b=>(i,b)) (λx=>[x]) 1048576 [] (step:=j88 c (nI c.length)) (λb=>k b) (λb=>k b) (by unfold LIM;omega) (λi d _=>by
  rw [j0R,List.nil_append,List.length_take];omega) (by simp) (λi b rec d j g=>by
  show j2U _ _ _ _ _ _=_
  unfold j2U
  obtain ⟨l,m,p,q,r⟩:=ht _ (List.getElem_mem d)
  dsimp only
  rw [ZaQ d,cond_true,j00 d,cond_true,Zay _ _ _ d,jo9 _ (by omega) (by omega),ZaL (by unfold LIM;omega),cond_true,j01 (n:=(i:Int)+1) (by omega)]) (λb rec=>by
  show j2U _ _ _ _ _ _=_
  unfold j2U
  dsimp only
  rw [ZaP,cond_false])
 refine this.trans ?_
 rw [j0R,List.nil_append]
theorem jhV (c:List T) (d:D) (y:msr (.slice yT) c<=1048576) (f:j13 d=true) (k:Int->Res):j2m c d k=k (j0b c d):=by
 obtain ⟨A,p⟩:=jcQ y
 obtain ⟨z,w⟩:=jf3 f
 unfold j2m j0b
 rw [j5k _ _ (by unfold LIM;omega)]
 cases q:(d.1==1)
 ·rw [cond_false,cond_false]
  rcases j0o c d.2.1 with ⟨m,_⟩ | ⟨i,g,m,_⟩
  ·rw [m];rfl
  ·have l:decide (j03 c d.2.1<0)=false:=decide_eq_false (by omega)
   rw [l,cond_false,cond_false,m,j00 g,cond_true,Zay _ _ _ g]
   obtain ⟨B,C,E,F,G⟩:=p _ (List.getElem_mem g)
   generalize c[i]=t at *
   have b:∀ n (K:Int->Res),j0h t n K=K (j02 t.2.1 n):=λn K=>j7e _ _ (by unfold LIM;omega) K
   unfold j4u j6Y j4v j0u
   have r:d.1≠1:=by simpa using q
   rcases z with h | h | h | h | h
   ·exact absurd h r
   ·rw [h];rfl
   ·have j:inb 0 d.2.2.1.length=true:=j00 (i:=0) (w h)
    rw [h]
    show (bif inb 0 d.2.2.1.length then _ else none)=_
    rw [j,cond_true,b,jfB]
    show _=k (bif !decide (j02 t.2.1 (nth zC d.2.2.1 0).1<0) then 5 else bif t.2.1.length==8 then 6 else 0)
    cases !decide (j02 t.2.1 (nth zC d.2.2.1 0).1<0)
    ·show (bif (nI t.2.1.length==(8:Int)) then k 6 else _)=_
     rw [show (nI t.2.1.length==(8:Int))=(t.2.1.length==8) from jky _ 8]
     cases (t.2.1.length==8)<;>rfl
    ·rfl
   ·rw [h]
    simp only [show ((4:Int)==3)=false from rfl,show ((4:Int)==4)=true from rfl,show ((4:Int)==5)=false from rfl,cond_false,cond_true,b]
    cases decide (j02 t.2.1 d.2.2.2.2.1<0)
    ·rw [cond_false,cond_false,joO _ _ (by unfold LIM;omega)]
     show (bif jes t.2.2 d.2.2.2.2.1 then k 8 else k 0)=k (bif jes t.2.2 d.2.2.2.2.1 then 8 else 0)
     cases jes t.2.2 d.2.2.2.2.1<;>rfl
    ·rfl
   ·rw [h]
    simp only [show ((5:Int)==3)=false from rfl,show ((5:Int)==4)=false from rfl,show ((5:Int)==5)=true from rfl,cond_false,cond_true,b,jfB]
    cases !decide (j02 t.2.1 d.2.2.2.2.2<0)
    ·simp only [cond_false]
     cases decide (j02 t.2.1 d.2.2.2.2.1<0)<;>rfl
    ·rfl
 ·rw [cond_true,cond_true,jnF]
  cases decide (j03 c d.2.1<0)
  ·rfl
  ·rw [Bool.not_true,cond_false,cond_false,show (nI c.length==(6:Int))=(c.length==6) from jky _ 6]
   cases (c.length==6)<;>rfl
theorem jnJ {α:Type} (p:α->Bool):(l:List α)->(i:Nat)->i<(l.takeWhile p).length->∃ h:i<l.length,p l[i]=true
 | [],i,h=>by simp at h
 | x::l,i,h=>by
  cases b:p x
  ·rw [List.takeWhile_cons_of_neg (by rw [b];simp)] at h;simp at h
  ·rw [List.takeWhile_cons_of_pos b,List.length_cons] at h
   cases i with
   | zero=>exact ⟨by simp,b⟩
   | succ i=>
    obtain ⟨f,d⟩:=jnJ p l i (by omega)
    exact ⟨by rw [List.length_cons];omega,d⟩
theorem jnI {α:Type} (p:α->Bool):(l:List α)->(h:(l.takeWhile p).length<l.length)->p l[(l.takeWhile p).length]=false
 | [],h=>by simp at h
 | x::l,h=>by
  cases b:p x
  ·have e:(x::l).takeWhile p=[]:=List.takeWhile_cons_of_neg (by rw [b];simp)
   simp only [e,List.length_nil,List.getElem_cons_zero]
   exact b
  ·have e:(x::l).takeWhile p=x::l.takeWhile p:=List.takeWhile_cons_of_pos b
   simp only [e,List.length_cons,List.getElem_cons_succ] at h ⊢
   exact jnI p l (by omega)
theorem jmW (d:D) (c:List T) (l:c.length<=1048576) (k:Int->Res):j8T d c Z1c 0 k=k (((c.takeWhile λy=>sLt y.1 d.2.1).length:Nat):Int):=by
 have j:(c.takeWhile λy=>sLt y.1 d.2.1).length<=c.length:=(List.takeWhile_sublist _).length_le
 refine Z3u (step:=j4p d c) (λi=>(i:Int)) (c.takeWhile λy=>sLt y.1 d.2.1).length k _ (λi g rec=> ?_) (λrec=> ?_) Z1c (Z2b (by omega))
 ·obtain ⟨b,f⟩:=jnJ _ c i g
  show j2k _ _ _ _ _=_
  unfold j2k
  rw [ZaQ b,cond_true,j00 b,cond_true,Zay _ _ _ b,f,cond_true,j01 (n:=(i:Int)+1) (by omega)]
  rfl
 ·show j2k _ _ _ _ _=_
  unfold j2k
  by_cases h:(c.takeWhile λy=>sLt y.1 d.2.1).length<c.length
  ·rw [ZaQ h,cond_true,j00 h,cond_true,Zay _ _ _ h,jnI (λy:T=>sLt y.1 d.2.1) c h,cond_false]
  ·rw [decide_eq_false (show ¬ (((c.takeWhile λy=>sLt y.1 d.2.1).length:Nat):Int)<nI c.length by unfold nI;omega),cond_false]
end Go.PI.G
namespace Go.PI.G
open Go Go.PI Go.Proofs
theorem jrc (l:List ByteArray) (v:ByteArray) (h:l.length<=LIM) (k:Int->Res):j0T l v k=k (Z9F (λx=>sEq v x) l):=by
 unfold j0T j4U
 refine Z9S l (λi=>i) (λx=>sEq v x) (step:=j1E l v (nI l.length)) ((λ(_:Unit)=>k (-1)),(λ(t:Int)=>k t)) k h (λi rec b=> ?_) (λrec=> ?_)
 ·show j0c _ _ _ _ _ _ _=_
  unfold j0c
  unfold LIM at h
  rw [ZaQ b,cond_true,j00 b,cond_true,Zay _ _ _ b,j01 (n:=(i:Int)+1) (by omega)]
 ·show j0c _ _ _ _ _ _ _=_
  unfold j0c
  rw [ZaP,cond_false]
end Go.PI.G
namespace Go.PI.G
open Go Go.PI Go.Proofs
theorem jmJ {α:Type} {g:α->(Bool->Res)->Res} (q:α->Bool):(l:List α)->(∀ x∈l,∀ k,g x k=k (q x))->(d:List α)->(k:List α->Res)->dgE g l d k=k (d++l.filter λx=> !q x)
 | [],_,d,k=>by rw [List.filter_nil,List.append_nil];rfl
 | x::l,h,d,k=>by
  show g x (λb=>dgE g l (bif b then d else d++[x]) k)=_
  rw [h x (by simp),jmJ q l λy i=>h y (List.mem_cons_of_mem _ i)]
  cases f:q x
  ·rw [List.filter_cons_of_pos (by rw [f];rfl),cond_false,List.append_assoc];rfl
  ·rw [List.filter_cons_of_neg (by rw [f];simp),cond_true]
theorem joG {α:Type} (p:α->Bool) (g:α->α) (l:List α) (i:Nat) (n:i<l.length) (d:p l[i]=true) (f:∀ j (b:j<l.length),j≠i->p l[j]=false):l.map (λx=>bif p x then g x else x)=l.set i (g l[i]):=by
 apply List.ext_getElem
 ·simp
 ·intro j k m
  have b:j<l.length:=by simpa using k
  rw [List.getElem_map,List.getElem_set]
  by_cases e:i=j
  ·subst e
   rw [if_pos rfl,d,cond_true]
  ·rw [if_neg e,f j b λh=>e h.symm,cond_false]
theorem map_none {α:Type} (p:α->Bool) (g:α->α) (l:List α) (h:∀ x∈l,p x=false):l.map (λx=>bif p x then g x else x)=l:=by
 induction l with
 | nil=>rfl
 | cons x l d=>rw [List.map_cons,h x (by simp),cond_false,d λy b=>h y (List.mem_cons_of_mem _ b)]
theorem jkN {α:Type} {R:α->α->Prop} {l:List α} (h:l.Pairwise R) {i j:Nat} (d:i<l.length) (f:j<l.length) (e:i≠j):R l[i] l[j]\/R l[j] l[i]:=by
 rcases Nat.lt_or_gt_of_ne e with b | b
 ·exact .inl (List.pairwise_iff_getElem.1 h i j d f b)
 ·exact .inr (List.pairwise_iff_getElem.1 h j i f d b)
theorem jct (n:Nat):(Z9o n n&&true)=true:=by
 rw [Bool.and_true]
 exact Nat.beq_refl n
theorem jqE {l:List C} (k:j4l l=true) (n m:ByteArray) {i:Nat} (f:i<l.length) (h:l[i].1=n):l.map (j8a n m)=l.set i (m,l[i].2):=by
 have p:=((j65 l).1 k).2
 have:j8a n m=λc:C=>bif sEq c.1 n then (m,c.2) else c:=by
  funext c
  unfold j8a ren
  cases sEq c.1 n<;>rfl
 rw [this]
 refine joG (λc:C=>sEq c.1 n) (λc=>(m,c.2)) l i f ((j09 _ _).2 h) λj g e=> ?_
 have:l[j].1≠n:=λd=>by
  rcases jkN p f g e.symm with b | b
  ·exact b (h.trans d.symm)
  ·exact b (d.trans h.symm)
 cases q:sEq l[j].1 n
 ·rfl
 ·exact absurd ((j09 _ _).1 q) this
theorem jqF {cs:List C} {ks:List ByteArray} (q:j1d cs (-1) ks=true) (n m:ByteArray):ks.map (ren n m)=bif decide (Z9F (λx=>sEq n x) ks>=0) then ks.set (Z9F (λx=>sEq n x) ks).toNat m else ks:=by
 have w:=((j4y cs ks (-1)).1 q).2
 have:ren n m=λs=>bif sEq s n then m else s:=by funext s;rfl
 rw [this]
 have d:∀ a b:ByteArray,sEq a b=sEq b a:=λa b=>by
  rw [Bool.eq_iff_iff,j09,j09]
  exact ⟨Eq.symm,Eq.symm⟩
 rcases j9F (λx=>sEq n x) ks with ⟨g,f⟩ | ⟨i,k,g,f,_⟩
 ·rw [g]
  exact map_none (λs=>sEq s n) (λ_=>m) ks λx z=>by rw [d];exact f x z
 ·rw [g,decide_eq_true (by omega),cond_true,Int.toNat_natCast]
  refine joG (λs=>sEq s n) (λ_=>m) ks i k (by rw [d];exact f) λj p e=> ?_
  have r:n=ks[i]:=(j09 _ _).1 f
  cases y:sEq ks[j] n
  ·rfl
  ·have l:ks[j]=ks[i]:=((j09 _ _).1 y).trans r
   rcases jkN w k p e.symm with h | h<;>rw [l] at h<;>exact absurd h (Int.lt_irrefl _)
theorem jrk {α:Type} (z:α) (l:List α) (i:Nat) (b:i<l.length) (x:α):nth z (upd l (i:Int) x) (i:Int)=x:=by
 rw [ZaF,Zay _ _ _ (by simpa using b),List.getElem_set_self]
theorem joM (c:List T) (d:D) (i:Nat) (b:i<c.length) (Q:c.length<=1048576) (ht:j04 c[i]=true) (K:tSm c[i]) (l:j0u c[i] d=0) (I:d.1=2\/d.1=3\/d.1=4\/d.1=5) (w:d.1=3->0<d.2.2.1.length) (k:List T->Res) :
  j1n (i:Int) d.1 d c k=k (bif d.1==2 then c.eraseIdx i else c.set i (j9E c[i] d)):=by
 obtain ⟨V,W,X,Y,Z⟩:=K
 obtain ⟨_,t1,t2,t3,L,M⟩:=(j6p _).1 ht
 unfold j1n
 have f:inb (i:Int) c.length=true:=j00 b
 rcases I with h | h | h | h
 ·rw [h]
  simp only [show ((2:Int)==1)=false from rfl,show ((2:Int)==2)=true from rfl,cond_false,cond_true]
  unfold j49 jaI
  rw [j01 (n:=(i:Int)+1) (by omega),show Z8e (i:Int) ((i:Int)+1) c.length=true from j8R (j:=i+1) ⟨by omega,by omega⟩,cond_true,List.eraseIdx_eq_take_drop_succ]
  rfl
 ·have w:=w h
  have m:∀ x:T,inb (i:Int) (c.set i x).length=true:=λx=>j00 (by simpa using b)
  have p:inb 0 d.2.2.1.length=true:=j00 (i:=0) w
  rw [h]
  simp only [show ((3:Int)==1)=false from rfl,show ((3:Int)==2)=false from rfl,show ((3:Int)==3)=true from rfl,cond_false,cond_true]
  rw [f,cond_true,p,cond_true,Zay _ _ _ b,ZaL (by unfold LIM;omega),cond_true,ZaF,m,cond_true,jct,cond_true]
  unfold j9E jim
  rw [h]
  rfl
 ·rw [h]
  simp only [show ((4:Int)==1)=false from rfl,show ((4:Int)==2)=false from rfl,show ((4:Int)==3)=false from rfl,show ((4:Int)==4)=true from rfl,cond_false,cond_true]
  rw [f,cond_true,Zay _ _ _ b]
  unfold j2A
  rw [ZaL (by unfold LIM;omega),cond_true,jmJ (g:=λ(e:C) k=>jaL e d k) (λx:C=>sEq x.1 d.2.2.2.2.1) c[i].2.1 (λx R U=>rfl),List.nil_append]
  simp only [jct,cond_true,ZaF]
  unfold j9E jfQ
  rw [h]
  rfl
 ·have P:¬ j02 c[i].2.1 d.2.2.2.2.1<0:=λA=>by
   unfold j0u at l
   rw [h] at l
   simp only [show ((5:Int)==3)=false from rfl,show ((5:Int)==4)=false from rfl,show ((5:Int)==5)=true from rfl,cond_false,cond_true,decide_eq_true A] at l
   cases H: !decide (j02 c[i].2.1 d.2.2.2.2.2<0)<;>rw [H] at l<;>cases l
  rcases j1b c[i].2.1 d.2.2.2.2.1 with ⟨B,_⟩ | ⟨j,y,B,z,_⟩
  ·omega
  rw [h]
  simp only [show ((5:Int)==1)=false from rfl,show ((5:Int)==2)=false from rfl,show ((5:Int)==3)=false from rfl,show ((5:Int)==4)=false from rfl,show ((5:Int)==5)=true from rfl,cond_false,cond_true]
  rw [f,cond_true,j7e _ _ (by rw [Zay _ _ _ b];unfold LIM;omega)]
  simp only [Zay _ _ _ b,jrk _ _ _ b]
  rw [B]
  simp only [Zay _ _ _ y]
  rw [j00 y,cond_true,jrc _ _ (by unfold LIM;omega)]
  have E:=jqE L d.2.2.2.2.1 d.2.2.2.2.2 y z
  have F:=jqF M d.2.2.2.2.1 d.2.2.2.2.2
  have G:j9E c[i] d=(c[i].1,c[i].2.1.map (j8a d.2.2.2.2.1 d.2.2.2.2.2),c[i].2.2.map (ren d.2.2.2.2.1 d.2.2.2.2.2)):=by
   unfold j9E jdM
   rw [h]
   rfl
  rw [G,E,F]
  rcases j9F (λx=>sEq d.2.2.2.2.1 x) c[i].2.2 with ⟨r,_⟩ | ⟨q,J,r,_,_⟩
  ·rw [r,ZaF,ZaF]
   rfl
  ·rw [r,decide_eq_true (by omega),cond_true,cond_true,j00 J,cond_true]
   simp only [ZaF,Int.toNat_natCast]
   rw [List.set_set]
theorem jo3 (c:List T) (d:D) (z:msr (.slice yT) c<=1048576) (n:dSm d) (k:List T->Int->Res):j4e c d k=k (jer c d).1 (jer c d).2:=by
 obtain ⟨G,C⟩:=jcQ z
 unfold j4e jer
 rw [jjh c z]
 cases A:j24 c
 ·rfl
 rw [Bool.not_true,cond_false,Bool.false_or,jfE d n]
 cases m:j13 d
 ·rfl
 rw [Bool.not_true,cond_false,cond_false,jhV _ _ z m,jhU c z,j5k _ _ (by unfold LIM;omega)]
 obtain ⟨L,H⟩:=jf3 m
 cases f:(j0b c d != 0)
 rotate_left
 ·rfl
 rw [cond_false,cond_false]
 have f:j0b c d=0:=by simpa using f
 have B:=(j0d c).1 A
 by_cases F:d.1=1
 ·unfold j0b at f
  unfold j14
  rw [F] at f ⊢
  simp only [show ((1:Int)==1)=true from rfl,cond_true] at f ⊢
  rcases j0o c d.2.1 with ⟨w,r⟩ | ⟨i,j,w,_⟩
  ·unfold j1n
   simp only [show ((1:Int)==1)=true from rfl,cond_true]
   rw [jmW _ _ G,jhW _ n]
   unfold j4a jev
   obtain ⟨p,M,g,q⟩:=joA (R:=tR) (λa b h=>jpI h) (x:=((d.2.1,d.2.2.1,d.2.2.2.1):T)) (l:=c) (λy K=>jhl λe=>r y K e.symm)
   have g:p=(c.takeWhile λy=>sLt y.1 d.2.1).length:=g
   rw [<-g]
   have I:jip (p:Int) c.length [((d.2.1,d.2.2.1,d.2.2.2.1):T)].length=true:=decide_eq_true ⟨by omega,by omega,by simp,by simp;unfold LIM;omega⟩
   rw [I,cond_true,q,Int.toNat_natCast,List.append_assoc]
   rfl
  ·rw [decide_eq_false (by omega)] at f
   cases f
 ·have J:d.1=2\/d.1=3\/d.1=4\/d.1=5:=by omega
  unfold j0b at f
  unfold j14
  have E:(d.1==1)=false:=by simpa using F
  rw [E,cond_false] at f
  rw [E,cond_false]
  rcases j0o c d.2.1 with ⟨w,r⟩ | ⟨i,j,w,_⟩
  ·rw [decide_eq_true (by omega)] at f
   cases f
  ·rw [decide_eq_false (by omega),cond_false,w,Zay _ _ _ j] at f
   rw [w,Zay _ _ _ j,Int.toNat_natCast,joM c d i j G (B.2.1 _ (List.getElem_mem j)) (C _ (List.getElem_mem j)) f J H]
end Go.PI.G
namespace Go.PI.G
open Go Go.PI Go.Proofs
theorem j7f (l:List (List V)) (h:l.length<=1048576) (f:∀ x∈l,x.length<=1048576) (k:List (List V)->Res):j0s l k=k l:=by
 unfold j0s jcV
 have:=Z9T l (λi b=>(b,i)) (λx=>[x]) 1048576 [] (step:=j7i l (nI l.length)) (λb=>k b) (λb=>k b) (by unfold LIM;omega) (λi d _=>by
  rw [j0R,List.nil_append,List.length_take];omega) (by simp) (λi b rec d j g=>by
  show j2l _ _ _ _ _ _=_
  unfold j2l j0t
  dsimp only
  rw [ZaQ d,cond_true,j00 d,cond_true,Zay _ _ _ d,jbq (f _ (List.getElem_mem d)),cond_true,ZaL (by unfold LIM;omega),cond_true,j01 (n:=(i:Int)+1) (by omega)]) (λb rec=>by
  show j2l _ _ _ _ _ _=_
  unfold j2l
  dsimp only
  rw [ZaP,cond_false])
 refine this.trans ?_
 rw [j0R,List.nil_append]
theorem jjl (t:T) (h:msr yT t<=1048576) (ht:j04 t=true) (l:List (List V)) (r:List V) (g:∀ x∈l,x.length=t.2.1.length) (p:l.length<=60) (j:r.length=t.2.1.length) (k:Int->Res) :
  jaP l t r Z1c 0 k=k (((l.takeWhile λy=>kR t y r).length:Nat):Int):=by
 have f:∀ x:List V,(j06 t x).length<=LIM:=λx=>by
  rw [j8U]
  have:=(j2y h).2.2.1
  unfold LIM;omega
 have q:(l.takeWhile λy=>kR t y r).length<=l.length:=(List.takeWhile_sublist _).length_le
 refine Z3u (step:=j3C l t r) (λi=>(i:Int)) (l.takeWhile λy=>kR t y r).length k _ (λi m rec=> ?_) (λrec=> ?_) Z1c (Z2b (by omega))
 ·obtain ⟨b,d⟩:=jnJ _ l i m
  have d:klt (j06 t l[i]) (j06 t r)=true:=d
  show j26 _ _ _ _ _ _=_
  unfold j26
  rw [ZaQ b,cond_true,j00 b,cond_true,Zay _ _ _ b,j38 t h ht _ (g _ (List.getElem_mem b)),j38 t h ht r j,jaK _ _ (f _),d,cond_true,j01 (n:=(i:Int)+1) (by omega)]
  rfl
 ·show j26 _ _ _ _ _ _=_
  unfold j26
  by_cases b:(l.takeWhile λy=>kR t y r).length<l.length
  ·have d:klt (j06 t l[(l.takeWhile λy=>kR t y r).length]) (j06 t r)=false:=jnI (λy=>kR t y r) l b
   rw [ZaQ b,cond_true,j00 b,cond_true,Zay _ _ _ b,j38 t h ht _ (g _ (List.getElem_mem b)),j38 t h ht r j,jaK _ _ (f _),d,cond_false]
  ·rw [decide_eq_false (show ¬ (((l.takeWhile λy=>kR t y r).length:Nat):Int)<nI l.length by unfold nI;omega),cond_false]
theorem joR (t:T):∀ a b:List V,kR t a b=true->kR t b a=false:=λa b h=>jpx h
theorem jgg (t:T) (h:msr yT t<=1048576) (ht:j04 t=true) (l:List (List V)) (r:List V) (n:∀ x∈l,j0q t.2.1 x=true) (f:l.length<=60) (q:j0q t.2.1 r=true) (g:∀ x∈l,j06 t x≠j06 t r) (k:List (List V)->Res) :
  j2g t l r k=k (jfK t l r):=by
 have A:=(j2y h).2.1
 have b:∀ x∈l,x.length=t.2.1.length:=λx m=>j0x (n x m)
 have j:=j0x q
 unfold j2g
 rw [jjl t h ht l r b f j,j7f l (by omega) (λx m=>by rw [b x m];omega)]
 unfold j0t j53 jev
 rw [jbq (by omega),cond_true]
 obtain ⟨p,B,i,d⟩:=joA (R:=kR t) (joR t) (x:=r) (l:=l) (λy w=>jn4 ht q (n y w) (λe=>g y w e.symm))
 rw [<-i]
 have z:jip (p:Int) l.length [r].length=true:=decide_eq_true ⟨by omega,by omega,by simp,by simp;unfold LIM;omega⟩
 dsimp only
 rw [z,cond_true,Int.toNat_natCast,List.append_assoc]
 unfold jfK
 rw [d]
 rfl
theorem jqY {t:T} {l:List (List V)} {b:List V} (h:j05 t l b<0):∀ x∈l,j06 t x≠b:=jnb h
theorem jlQ (t:T) (h:msr yT t<=1048576) (l:List (List V)) (r:List V) (k:List (List V)->Int->Res):j6J t l r k=k (j5z t l r).1 (j5z t l r).2:=by
 unfold j6J j5z
 rw [j8o t h]
 cases d:j08 t l
 ·rfl
 obtain ⟨ht,g,i⟩:=j0l d
 rw [Bool.not_true,cond_false,cond_false,jfF t h]
 cases f:j0q t.2.1 r
 ·rfl
 rw [Bool.not_true,cond_false,cond_false,j38 t h ht r (j0x f),j1z t h l d,jfR]
 by_cases b:j05 t l (j06 t r)<0
 rotate_left
 ·rw [decide_eq_false b];rfl
 rw [decide_eq_true b,Bool.not_true,cond_false,cond_false,show (nI l.length==(60:Int))=(l.length==60) from joB _ 60]
 cases (l.length==60)
 ·rw [cond_false,cond_false,jgg t h ht l r i g f (jqY b)]
 ·rfl
theorem jpw {t:T} (ht:j04 t=true) {n:ByteArray} (d:n∈t.2.2) (v:V):j3w (nth zC t.2.1 (j02 t.2.1 n)) v=(j0r v&&(v.1==(nth zC t.2.1 (j02 t.2.1 n)).2.1)):=by
 have b:=(((j4y _ _ _).1 ((j6p t).1 ht).2.2.2.2.2).1 n d).2
 unfold j3w
 rw [b,Bool.not_true,Bool.and_false,Bool.or_false]
theorem jh4 (t:T) (h:msr yT t<=1048576) (b:List V) (k:Bool->Res):j4q t b k=k (j9Q t b):=by
 unfold j4q j9Q
 obtain ⟨p,q,r,w,y⟩:=j2y h
 rw [jfG t h]
 cases ht:j04 t
 ·rfl
 rw [Bool.not_true,cond_false,Bool.true_and]
 by_cases f:b.length=t.2.2.length
 rotate_left
 ·rw [jjq f,cond_true,decide_eq_false f,Bool.false_and]
 rw [jjp f,cond_false,decide_eq_true f,Bool.true_and]
 unfold jbN
 have:=Z9P t.2.2 (λi=>i) (λi n=> !j3w (nth zC t.2.1 (j02 t.2.1 n)) (nth zV b (i:Int))) (step:=j4r b t.2.2 (nI t.2.2.length) t) ((λ(_:Unit)=>k true),(λ(_:Unit)=>k false)) (k true) (k false) (by unfold LIM;omega) (λi rec d=>by
  have g:=jpw ht (List.getElem_mem d) (nth zV b (i:Int))
  obtain ⟨j,l,m⟩:=jn6 ht (List.getElem_mem d)
  show j2w _ _ _ _ _ _ _ _=_
  unfold j2w
  rw [g,ZaQ d,cond_true,j00 d,cond_true,j00 (f ▸ d),cond_true,j7K,Zay _ _ _ d]
  cases j0r (nth zV b (i:Int))
  ·rfl
  ·rw [Bool.not_true,cond_false,cond_true,j7e _ _ (by unfold LIM;omega),m,j00 l,cond_true,j01 (n:=(i:Int)+1) (by omega),Bool.true_and]
   rfl) (λrec=>by
  show j2w _ _ _ _ _ _ _ _=_
  unfold j2w
  rw [ZaP,cond_false])
 refine this.trans ?_
 cases Z71 (λi n=> !j3w (nth zC t.2.1 (j02 t.2.1 n)) (nth zV b (i:Int))) 0 t.2.2<;>rfl
theorem jl7 (l:List (List V)) (i:Nat) (b:i<l.length) (d:l.length<=60) (k:List (List V)->Res):j0S l (i:Int) (Z9K ((i:Int)+1)) k=k (l.eraseIdx i):=by
 unfold j0S jaI
 rw [j01 (n:=(i:Int)+1) (by omega),show Z8e (i:Int) ((i:Int)+1) l.length=true from j8R (j:=i+1) ⟨by omega,by omega⟩,cond_true,List.eraseIdx_eq_take_drop_succ]
 rfl
theorem jlR (t:T) (h:msr yT t<=1048576) (l:List (List V)) (d r:List V) (k:List (List V)->Int->Res):j6K t l d r k=k (j5A t l d r).1 (j5A t l d r).2:=by
 unfold j6K j5A
 rw [j8o t h]
 cases g:j08 t l
 ·rfl
 obtain ⟨ht,D,H⟩:=j0l g
 rw [Bool.not_true,cond_false,cond_false,jfF t h]
 cases w:j0q t.2.1 r
 ·rfl
 rw [Bool.not_true,cond_false,cond_false,jh4 t h]
 cases j9Q t d
 ·rfl
 rw [Bool.not_true,cond_false,Bool.false_or,j1z t h l g]
 by_cases f:j05 t l d<0
 ·rw [decide_eq_true f];rfl
 rw [decide_eq_false f,cond_false,cond_false,j38 t h ht r (j0x w),jlm g f]
 obtain ⟨i,A,m⟩:=jdN f
 have p:=jdF g i
 obtain ⟨_,B,C⟩:=j0l p
 have b:=jlm g (now:=j06 t r) f
 rw [m,Int.toNat_natCast] at b
 have n:(j06 t r).length<=LIM:=by
  rw [j8U]
  have:=(j2y h).2.2.1
  unfold LIM;omega
 unfold j5o
 rw [j9G _ _ n,m,Int.toNat_natCast,j1z t h l g,jfR]
 have j:decide (j05 t (l.eraseIdx i) (j06 t r)<0)=true->j0s l (λE=>j0S E (i:Int) (Z9K ((i:Int)+1)) λF=>j2g t F r λG=>k G 0)=k (jfK t (l.eraseIdx i) r) 0:=λz=>by
  rw [j7f l (by omega) (jff h g),jl7 l i A D,jgg t h ht _ r C B w (jqY (of_decide_eq_true z))]
 cases q:j0A zV veq (j06 t r) d
 ·rw [q] at b
  rw [Bool.not_false,cond_true,Bool.true_and]
  rw [Bool.not_false,Bool.true_and] at b
  cases y: !decide (j05 t l (j06 t r)<0)
  ·rw [y] at b
   rw [cond_false,cond_false,j1z t h l g,m]
   exact j (by simpa using b)
  ·rfl
 ·rw [q] at b
  rw [Bool.not_true,cond_false,Bool.false_and,cond_false,j1z t h l g,m]
  exact j (by simpa using b)
theorem jlP (t:T) (h:msr yT t<=1048576) (l:List (List V)) (b:List V) (k:List (List V)->Int->Res):j6I t l b k=k (j5y t l b).1 (j5y t l b).2:=by
 unfold j6I j5y
 rw [j8o t h]
 cases f:j08 t l
 ·rfl
 obtain ⟨ht,m,n⟩:=j0l f
 rw [Bool.not_true,cond_false,cond_false,jh4 t h]
 cases j9Q t b
 ·rfl
 rw [Bool.not_true,cond_false,Bool.false_or,j1z t h l f]
 by_cases d:j05 t l b<0
 ·rw [decide_eq_true d];rfl
 rw [decide_eq_false d,cond_false,cond_false]
 obtain ⟨i,j,g⟩:=jdN d
 rw [j1z t h l f,g,Int.toNat_natCast,j7f l (by omega) (jff h f),jl7 l i j m]
end Go.PI.G
