/-
  Program's code interpreted over typed values; printed texts; plain laws. No conditions.
-/
import Derived.Test.YtnemiodjnhfejaaGreatSQk
import Derived.Test.YtnemiodjnhfejaaGreatSQj
import Derived.Test.YtnemiodjnhfejaaGreatSQd
import Derived.Test.YtnemiodjnhfejaaGreatSQi
import Derived.Test.YtnemiodjnhfejaaGreatSQg
set_option linter.unusedVariables false
set_option linter.unusedSimpArgs false
namespace Go.PI.G
open Go Go.PI Go.Proofs
theorem joQ {t:T} (ht:j08 t=true) {n:ByteArray} (f:n∈t.2.2):∃ (j:Nat) (b:j<t.2.1.length),j02 t.2.1 n=(j:Int):=by
 have g:=(((j5F _ _ _).1 ((j7x t).1 ht).2.2.2.2.2).1 n f).1
 rcases j1u t.2.1 n with ⟨d,_⟩ | ⟨j,b,d,_⟩
 ·omega
 ·exact ⟨j,b,d⟩
theorem jsI {t:T} (ht:j08 t=true) {c:C} (b:c∈t.2.1):j1e c=true:=((j78 _).1 ((j7x t).1 ht).2.2.2.2.1).1 c b
theorem jj7 (t:T) (h:msr yT t<=1048576) (b:List V) (k:Bool->Res):j5O t b k=k (jb8 t b):=by
 unfold j5O jb8
 obtain ⟨m,p,q,r,w⟩:=j1l h
 rw [j9o t h]
 cases ht:j08 t
 ·rfl
 rw [Bool.not_true,cond_false,Bool.true_and]
 by_cases f:b.length=t.2.2.length
 rotate_left
 ·rw [j9Z f,cond_true,decide_eq_false f,Bool.false_and]
 rw [j9Y f,cond_false,decide_eq_true f,Bool.true_and]
 unfold jdo
 have:=Z9P t.2.2 (λi=>i) (λi n=> !j48 (nth zC t.2.1 (j02 t.2.1 n)) (nth zV b (i:Int))) (step:=j5P b t.2.2 (nI t.2.2.length) t) ((λ(_:Unit)=>k true),(λ(_:Unit)=>k false)) (k true) (k false) (by unfold LIM;omega) (λi rec d=>by
  obtain ⟨j,g,l⟩:=joQ ht (List.getElem_mem d)
  show j3q _ _ _ _ _ _ _ _=_
  unfold j3q
  rw [ZaQ d,cond_true,j00 d,cond_true,j00 (f ▸ d),cond_true,Zay _ _ _ d,j7a _ _ (by unfold LIM;omega),l,j00 g,cond_true,Zay _ _ _ g,jk8 _ (jsI ht (List.getElem_mem g)),j01 (n:=(i:Int)+1) (by omega)]) (λrec=>by
  show j3q _ _ _ _ _ _ _ _=_
  unfold j3q
  rw [ZaP,cond_false])
 refine this.trans ?_
 cases Z71 (λi n=> !j48 (nth zC t.2.1 (j02 t.2.1 n)) (nth zV b (i:Int))) 0 t.2.2<;>rfl
theorem jhl (t:T) (l:List (List V)) (b:List V):decide (j05 t l b>=0)= !decide (j05 t l b<0):=by
 by_cases h:j05 t l b<0
 ·rw [decide_eq_true h,decide_eq_false (by omega)];rfl
 ·rw [decide_eq_false h,decide_eq_true (by omega)];rfl
theorem jq2 (n:Nat) (m:Nat):(nI n==(m:Int))=(n==m):=by
 unfold nI
 rw [Bool.eq_iff_iff]
 simp only [beq_iff_eq]
 omega
theorem joh (t:T) (h:msr yT t<=1048576) (l:List (List V)) (r:List V) (k:List (List V)->Int->Res):j7U t l r k=k (j6J t l r).1 (j6J t l r).2:=by
 unfold j7U j6J
 rw [j4g t h]
 cases b:j07 t l
 ·rfl
 obtain ⟨ht,g,i⟩:=j04 b
 rw [Bool.not_true,cond_false,cond_false,jhn t h,ht,Bool.true_and]
 cases d:j0t t.2.1 r
 ·rfl
 rw [Bool.not_true,cond_false,cond_false,j1G t h ht r (j0g d),j4Q t h l b,jhl]
 cases !decide (j05 t l (j06 t r)<0)
 rotate_left
 ·rfl
 rw [cond_false,cond_false,show (nI l.length==(60:Int))=(l.length==60) from jq2 _ 60]
 cases (l.length==60)
 ·rw [cond_false,cond_false,jm2 t h ht l r (λx f=>j0g (i x f)) g (j0g d)]
 ·rfl
theorem jgF {t:T} (h:msr yT t<=1048576) {l:List (List V)} (b:j07 t l=true):∀ x∈l,x.length<=1048576:=λx d=>by
 have f:=j0g ((j04 b).2.2 x d)
 have g:=(j1l h).2.1
 omega
theorem jfu {t:T} {l:List (List V)} {b:List V} (h:¬ j05 t l b<0):∃ i:Nat,i<l.length/\j05 t l b=(i:Int):=by
 have:=jeO t l b
 exact ⟨(j05 t l b).toNat,by omega,by omega⟩
theorem joi (t:T) (h:msr yT t<=1048576) (l:List (List V)) (b r:List V) (k:List (List V)->Int->Res):j7V t l b r k=k (j6K t l b r).1 (j6K t l b r).2:=by
 unfold j7V j6K
 rw [j4g t h]
 cases g:j07 t l
 ·rfl
 obtain ⟨ht,w,z⟩:=j04 g
 rw [Bool.not_true,cond_false,cond_false,jhn t h,ht,Bool.true_and]
 cases j:j0t t.2.1 r
 ·rfl
 rw [Bool.not_true,cond_false,cond_false,j4Q t h l g,jj7 t h]
 cases jb8 t b
 ·rfl
 rw [Bool.not_true,cond_false,Bool.false_or]
 by_cases d:j05 t l b<0
 ·rw [decide_eq_true d];rfl
 rw [decide_eq_false d,cond_false,cond_false]
 obtain ⟨i,y,m⟩:=jfu d
 have f:=jfl g i
 obtain ⟨_,p,q⟩:=j04 f
 rw [m,Int.toNat_natCast,jgO l i w (jgF h g),j1G t h ht r (j0g j),j4Q t h _ f,jhl]
 cases !decide (j05 t (l.eraseIdx i) (j06 t r)<0)
 ·rw [cond_false,cond_false,jm2 t h ht _ r (λx n=>j0g (q x n)) p (j0g j)]
 ·rfl
theorem jog (t:T) (h:msr yT t<=1048576) (l:List (List V)) (b:List V) (k:List (List V)->Int->Res):j7T t l b k=k (j6I t l b).1 (j6I t l b).2:=by
 unfold j7T j6I
 rw [j4g t h]
 cases f:j07 t l
 ·rfl
 obtain ⟨ht,j,n⟩:=j04 f
 rw [Bool.not_true,cond_false,cond_false,j4Q t h l f,jj7 t h]
 cases jb8 t b
 ·rfl
 rw [Bool.not_true,cond_false,Bool.false_or]
 by_cases d:j05 t l b<0
 ·rw [decide_eq_true d];rfl
 rw [decide_eq_false d,cond_false,cond_false]
 obtain ⟨i,m,g⟩:=jfu d
 rw [g,Int.toNat_natCast,jgO l i j (jgF h f)]
end Go.PI.G
namespace Go.PI.G
open Go Go.PI
def goL {α A E:Type} (f:A->α->Except E A):List α->A->Except E A
 | [],a=> .ok a
 | x::xs,a=>match f a x with
  | .ok b=>goL f xs b
  | .error e=> .error e
def jsX (x:Int):Bool:=decide (48<=x/\x<=57)
def dgF (n x:Int):Except Unit Int:=bif jsX x then .ok (n * 10+(x-48)) else .error ()
def rdN (l:List Int):Option Int:=bif l.headD 0==45 then (match goL dgF l.tail 0 with | .ok n=>some (-n) | .error _=>none) else match goL dgF l 0 with | .ok n=>some n | .error _=>none
theorem js3 {α:Type} (l:List α) (i:Nat):sub l (i:Int) (nI l.length)=l.drop i:=by
 unfold sub nI
 rw [show ((l.length:Int)).toNat=l.length by omega,show ((i:Int)).toNat=i by omega,List.take_length]
theorem jsG {α:Type} (l:List α) (i j:Nat):sub l (i:Int) (j:Int)=(l.take j).drop i:=by
 unfold sub
 rw [show ((j:Int)).toNat=j by omega,show ((i:Int)).toNat=i by omega]
theorem jc1 {i j n:Nat} (h:i<=j/\j<=n):Z8e (i:Int) (j:Int) n=true:=decide_eq_true (by omega)
end Go.PI.G
namespace Go.PI.G
open Go Go.PI Go.Proofs
theorem jgz {α:Type} (f:α->α) (l:List α) (i:Nat):((l.take i).map f++l.drop i).length=l.length:=by
 rw [List.length_append,List.length_map,List.length_take,List.length_drop];omega
theorem joC {α:Type} (f:α->α) (z:α) (l:List α) (i:Nat) (b:i<l.length):nth z ((l.take i).map f++l.drop i) (i:Int)=l[i]:=by
 rw [Zay _ _ _ (by rw [jgz];exact b),List.getElem_append_right (by rw [List.length_map,List.length_take];omega),List.getElem_drop]
 congr 1
 rw [List.length_map,List.length_take];omega
theorem joD {α:Type} (f:α->α) (l:List α) (i:Nat) (b:i<l.length):((l.take i).map f++l.drop i).set i (f l[i])=(l.take (i+1)).map f++l.drop (i+1):=by
 rw [List.set_append_right _ _ (by rw [List.length_map,List.length_take];omega),List.length_map,List.length_take,Nat.min_eq_left (by omega),Nat.sub_self,List.drop_eq_getElem_cons b,List.set_cons_zero,List.take_succ_eq_append_getElem b,List.map_append,List.append_assoc]
 rfl
theorem jsy {α:Type} (f:α->α) (l:List α) (i:Nat) (b:i<l.length) (h:f l[i]=l[i]):(l.take (i+1)).map f++l.drop (i+1)=(l.take i).map f++l.drop i:=by
 rw [List.take_succ_eq_append_getElem b,List.map_append,List.append_assoc,List.drop_eq_getElem_cons b]
 show (l.take i).map f++([f l[i]]++l.drop (i+1))=_
 rw [h]
 rfl
noncomputable def jah (d:D) (c:C):List C:=bif (d.1==4)&&sEq c.1 d.2.2.2.2.1 then [] else [bif (d.1==5)&&sEq c.1 d.2.2.2.2.1 then (d.2.2.2.2.2,c.2) else c]
theorem jrx (d:D) (l:List C):(l.flatMap (jah d)).length<=l.length:=by
 induction l with
 | nil=>exact Nat.le_refl _
 | cons c l b=>
  rw [List.flatMap_cons,List.length_append,List.length_cons]
  have:(jah d c).length<=1:=by
   unfold jah
   cases (d.1==4)&&sEq c.1 d.2.2.2.2.1<;>simp
  omega
theorem jpJ (d:D) (t:T) (l:t.2.1.length<=1048576) (k:T->Res):j6h t.2.1 (nI t.2.1.length) d Z1c 0 (t.1,[],t.2.2) k=k (t.1,t.2.1.flatMap (jah d),t.2.2):=by
 unfold j6h
 have:=Z9T t.2.1 (λi b=>(i,(t.1,b,t.2.2))) (jah d) 1048576 [] (step:=j2y t.2.1 (nI t.2.1.length) d) k (λb=>k (t.1,b,t.2.2)) (by unfold LIM;omega) (λi f _=>by
  rw [List.nil_append]
  exact Nat.le_trans (jrx _ _) (by rw [List.length_take];omega)) (by simp) (λi b rec f p m=>by
  show j1q _ _ _ _ _ _ _=_
  unfold j1q j6k j6l
  dsimp only
  have g:lim (b.length+1)=true:=ZaL (by unfold LIM;omega)
  rw [ZaQ f,cond_true,j00 f,cond_true,Zay _ _ _ f,j01 (n:=(i:Int)+1) (by omega)]
  unfold jah
  cases j:(d.1==4)
  ·rw [cond_false,Bool.false_and,cond_false]
   cases h:(d.1==5)
   ·rw [cond_false,g,cond_true,Bool.false_and,cond_false]
   ·rw [cond_true,Bool.true_and]
    cases sEq t.2.1[i].1 d.2.2.2.2.1
    ·rw [cond_false,g,cond_true,cond_false]
    ·rw [cond_true,g,cond_true,cond_true]
  ·rw [cond_true,Bool.true_and]
   cases sEq t.2.1[i].1 d.2.2.2.2.1
   ·rw [cond_false,cond_false]
    have h:(d.1==5)=false:=by
     have:d.1=4:=by simpa using j
     rw [this];rfl
    rw [h]
    simp only [cond_false,cond_true,g,Bool.false_and]
   ·rw [cond_true,cond_true,List.append_nil]) (λb rec=>by
  show j1q _ _ _ _ _ _ _=_
  unfold j1q
  dsimp only
  rw [ZaP,cond_false])
 refine this.trans ?_
 rw [List.nil_append]
theorem jpL (d:D) (a:ByteArray) (cs:List C) (ks:List ByteArray) (j:ks.length<=1048576) (k:T->Res):j6i (nI ks.length) d Z1c 0 (a,cs,ks) k=k (a,cs,bif d.1==5 then ks.map (ren d.2.2.2.2.1 d.2.2.2.2.2) else ks):=by
 unfold j6i
 cases g:(d.1==5)
 ·refine Z3u (λi=>((i:Int),(a,cs,ks))) ks.length k (k (a,cs,ks)) (λi b rec=> ?_) (λrec=> ?_) Z1c (Z2b (by omega))
  ·show j0y _ _ _ _ _ _=_
   unfold j0y
   rw [ZaQ b,cond_true,g,cond_false,j01 (n:=(i:Int)+1) (by omega)]
   rfl
  ·show j0y _ _ _ _ _ _=_
   unfold j0y
   rw [ZaP,cond_false]
 ·have:=Z3u (step:=j5e (nI ks.length) d) (λi=>((i:Int),(a,cs,(ks.take i).map (ren d.2.2.2.2.1 d.2.2.2.2.2)++ks.drop i))) ks.length k (k (a,cs,ks.map (ren d.2.2.2.2.1 d.2.2.2.2.2))) (λi b rec=> ?_) (λrec=> ?_) Z1c (Z2b (by omega))
  ·refine Eq.trans ?_ this
   simp
  ·show j0y _ _ _ _ _ _=_
   unfold j0y
   dsimp only
   have f:inb (i:Int) ((ks.take i).map (ren d.2.2.2.2.1 d.2.2.2.2.2)++ks.drop i).length=true:=j00 (by rw [jgz];exact b)
   rw [ZaQ b,cond_true,g,cond_true,f,cond_true,joC _ _ _ _ b,j01 (n:=(i:Int)+1) (by omega)]
   cases h:sEq ks[i] d.2.2.2.2.1
   ·rw [cond_false,jsy _ _ _ b (by unfold ren;rw [h];rfl)]
    rfl
   ·rw [cond_true,cond_true,ZaF]
    have:ren d.2.2.2.2.1 d.2.2.2.2.2 ks[i]=d.2.2.2.2.2:=by unfold ren;rw [h];rfl
    rw [<-joD _ _ _ b,this]
    rfl
  ·show j0y _ _ _ _ _ _=_
   unfold j0y
   dsimp only
   rw [ZaP,cond_false,List.take_length,List.drop_length,List.append_nil]
theorem joE (n:ByteArray) (l:List C):(l.flatMap λc=>bif sEq c.1 n then [] else [c])=l.filter λc=> !sEq c.1 n:=by
 induction l with
 | nil=>rfl
 | cons c l b=>
  rw [List.flatMap_cons,b]
  cases h:sEq c.1 n
  ·rw [List.filter_cons_of_pos (by rw [h];rfl)];rfl
  ·rw [List.filter_cons_of_neg (by rw [h];simp)];rfl
theorem jfm {α β:Type} (f:α->β) (l:List α):l.flatMap (λx=>[f x])=l.map f:=by
 induction l with
 | nil=>rfl
 | cons c l b=>rw [List.flatMap_cons,b];rfl
theorem jrw (d:D) (l:List C):(d.1=3->l.flatMap (jah d)=l)/\(d.1=4->l.flatMap (jah d)=l.filter λc=> !sEq c.1 d.2.2.2.2.1)/\(d.1=5->l.flatMap (jah d)=l.map (j9E d.2.2.2.2.1 d.2.2.2.2.2)):=by
 refine ⟨λh=> ?_,λh=> ?_,λh=> ?_⟩
 ·have:jah d=λc=>[c]:=by funext c;unfold jah;rw [h];rfl
  rw [this,j0X]
 ·have:jah d=λc=>bif sEq c.1 d.2.2.2.2.1 then [] else [c]:=by funext c;unfold jah;rw [h];rfl
  rw [this,joE]
 ·have:jah d=λc=>[j9E d.2.2.2.2.1 d.2.2.2.2.2 c]:=by
   funext c
   unfold jah j9E ren
   rw [h]
   cases sEq c.1 d.2.2.2.2.1<;>rfl
  rw [this,jfm]
theorem joc (t:T) (d:D) (g:t.2.1.length<=1048576) (f:t.2.2.length<=1048576) (b:d.1=3->0<d.2.2.1.length) (j:d.1=3\/d.1=4\/d.1=5) (k:T->Res):j4n t d k=k (jb0 t d):=by
 obtain ⟨m,n,p⟩:=jrw d t.2.1
 unfold j4n j6j
 simp only [Z9Q]
 rw [jcH f,cond_true,jpJ _ _ g]
 dsimp only
 rw [jpL _ _ _ _ f]
 dsimp only
 rcases j with h | h | h
 ·have b:=b h
  have l:inb 0 d.2.2.1.length=true:=j00 (i:=0) b
  rw [m h,show (d.1==3)=true by rw [h];rfl,show (d.1==5)=false by rw [h];rfl,cond_true,l,cond_true,ZaL (by unfold LIM;omega),cond_true,cond_false]
  unfold jb0 jkm
  rw [h]
  rfl
 ·rw [n h,show (d.1==3)=false by rw [h];rfl,show (d.1==5)=false by rw [h];rfl,cond_false,cond_false]
  unfold jb0 jhk
  rw [h]
  rfl
 ·rw [p h,show (d.1==3)=false by rw [h];rfl,show (d.1==5)=true by rw [h];rfl,cond_false,cond_true]
  unfold jb0 jft
  rw [h]
  rfl
theorem jgy {d:D} (b:j1f d=true):(d.1=1\/d.1=2\/d.1=3\/d.1=4\/d.1=5)/\(d.1=3->0<d.2.2.1.length):=by
 obtain ⟨_,⟨t,cs,ks,rfl,_⟩ | ⟨t,rfl⟩ | ⟨t,c,rfl,_⟩ | ⟨t,n,rfl,_⟩ | ⟨t,n,m,rfl,_⟩⟩:=j98 b<;>simp
theorem jpj (c:List T) (n:ByteArray):decide (j0a c n>=0)= !decide (j0a c n<0):=by
 by_cases h:j0a c n<0
 ·rw [decide_eq_true h,decide_eq_false (by omega)];rfl
 ·rw [decide_eq_false h,decide_eq_true (by omega)];rfl
theorem jmx (n:Nat) (m:Nat):(nI n==(m:Int))=(n==m):=by
 unfold nI
 rw [Bool.eq_iff_iff]
 simp only [beq_iff_eq]
 omega
theorem js4 {α:Type} (l:List α) (i:Nat):sub l 0 (i:Int)=l.take i:=by
 have:=jsG l 0 i
 simpa using this
theorem jk7 (c:List T) (d:D) (j:msr (.slice yT) c<=1048576) (b:dSm d) (k:List T->Int->Res):j2l c d k=k (jfX c d).1 (jfX c d).2:=by
 obtain ⟨y,m⟩:=jep j
 unfold j2l jfX
 rw [jlZ c j]
 cases w:j25 c
 ·rfl
 rw [Bool.not_true,cond_false,Bool.false_or,jhm d b]
 cases f:j1f d
 ·rfl
 rw [Bool.not_true,cond_false,cond_false,jeS _ _ (by unfold LIM;omega),jk6 c j]
 obtain ⟨H,p⟩:=jgy f
 unfold j0i j1g
 cases q:(d.1==1)
 ·rw [cond_false,cond_false,cond_false]
  rcases j0G c d.2.1 with ⟨l,_⟩ | ⟨i,g,l,_⟩
  ·rw [l];rfl
  ·have h:decide (j0a c d.2.1<0)=false:=decide_eq_false (by omega)
   rw [h,cond_false,cond_false,l,j00 g,cond_true,Zay _ _ _ g]
   obtain ⟨I,J,K,L,M⟩:=m _ (List.getElem_mem g)
   rw [jpd _ _ (by omega) (by omega) p]
   cases G:(j0D c[i] d != 0)
   ·rw [cond_false,cond_false]
    cases r:(d.1==2)
    ·rw [cond_false,cond_false,cond_true,joc _ _ (by omega) (by omega) p (by
      have E:d.1≠1:=by simpa using q
      have F:d.1≠2:=by simpa using r
      omega),cond_true,ZaF,Int.toNat_natCast]
    ·rw [cond_true,cond_true,Int.toNat_natCast]
     unfold j7s
     have z:(sub c 0 (i:Int))=c.take i:=js4 c i
     have A:(sub c (Z9K ((i:Int)+1)) (nI c.length))=c.drop (i+1):=by
      rw [j01 (n:=(i:Int)+1) (by omega)]
      exact js3 c (i+1)
     have B:Z8e 0 (i:Int) c.length=true:=jc1 (i:=0) ⟨Nat.zero_le _,by omega⟩
     have C:Z8e (Z9K ((i:Int)+1)) (nI c.length) c.length=true:=by
      rw [j01 (n:=(i:Int)+1) (by omega)]
      exact jc1 (i:=i+1) ⟨by omega,Nat.le_refl _⟩
     rw [B,cond_true,C,cond_true,z,A,ZaL (by unfold LIM;simp;omega),cond_true,ZaL (by unfold LIM;simp;omega),cond_true,List.eraseIdx_eq_take_drop_succ]
   ·rfl
 ·rw [cond_true,cond_true,cond_true,jpj]
  cases decide (j0a c d.2.1<0)
  ·rfl
  ·rw [Bool.not_true,cond_false,cond_false,show (nI c.length==(6:Int))=(c.length==6) from jmx _ 6]
   cases (c.length==6)
   ·rw [cond_false,cond_false]
    unfold j4R
    rw [jk9 _ b.2.1 b.2.2.1,jqC _ _ y]
    rfl
   ·rfl
end Go.PI.G
namespace Go.PI.G
open Go Go.PI Go.Proofs
theorem jcd {t:T} (ht:j08 t=true):msr yT t<=400:=by
 obtain ⟨a,b,c⟩:=t
 obtain ⟨d,f,g⟩:=jrR ht
 have:msr yT (a,b,c)=a.size+(msr (.slice yC) b+msr (.slice .str) c):=rfl
 omega
theorem jmk {t:T} (ht:j08 t=true):j25 [t]=true/\msr (.slice yT) [t]<=1048576:=by
 refine ⟨(j0k _).2 ⟨by simp,by simpa using ht,by simp⟩,?_⟩
 have:=jcd ht
 rw [jcT]
 simp
 omega
theorem jrz {t:T} (ht:j08 t=true) {d:D} (j:j1f d=true) (k:d.2.1=t.1) (f:d.1≠1):(jfX [t] d).2=j0D t d:=by
 have b:j0a [t] d.2.1=(0:Int):=by
  have:=jfD (c:=[t]) (by simp) (i:=0) (by simp)
  rw [k]
  exact this
 have g:j0i [t] d=j0D t d:=by
  unfold j0i
  rw [show (d.1==1)=false by simpa using f,cond_false,b]
  rfl
 unfold jfX
 rw [(jmk ht).1,j,g]
 show (bif (j0D t d != 0) then (([]:List T),j0D t d) else _).2=_
 cases h:(j0D t d != 0)
 ·have:j0D t d=0:=by simpa using h
  rw [this];rfl
 ·rfl
noncomputable def jiT (d:D) (j:Nat) (x:List V):List V:=bif d.1==3 then x++[(nth zC d.2.2.1 0).2.2.2.2] else bif d.1==4 then x.eraseIdx j else x
theorem jry (t:T) (d:D) (l:List (List V)):jfW t d l=l.map (jiT d (j02 t.2.1 d.2.2.2.2.1).toNat):=by
 unfold jfW jiT
 cases (d.1==3)
 ·cases (d.1==4)
  ·simp
  ·rfl
 ·rfl
theorem jpa (d:D) (b:Int) (x:List V) (r:x.length<=1048576) (j:d.1=4->0<=b) (k:List V->Res):j8i b x (nI x.length) d Z1c 0 [] k=k (bif d.1==4 then x.eraseIdx b.toNat else x):=by
 unfold j8i
 cases h:(d.1==4)
 ·have:=Z9T x (λi g=>(i,g)) (λv=>[v]) 1048576 [] (step:=j3T b x (nI x.length) d) k k (by unfold LIM;omega) (λi f _=>by
   rw [j0X,List.nil_append,List.length_take];omega) (by simp) (λi g rec f q p=>by
   show j0H _ _ _ _ _ _ _ _=_
   unfold j0H
   dsimp only
   rw [ZaQ f,cond_true,j00 f,cond_true,show (d.1 != 4)=true by rw [bne,h];rfl,cond_true,Zay _ _ _ f,ZaL (by unfold LIM;omega),cond_true,j01 (n:=(i:Int)+1) (by omega)]) (λg rec=>by
   show j0H _ _ _ _ _ _ _ _=_
   unfold j0H
   rw [ZaP,cond_false])
  refine this.trans ?_
  rw [j0X,List.nil_append]
  rfl
 ·have j:=j (by simpa using h)
  obtain ⟨a,rfl⟩:∃ a:Nat,b=(a:Int):=⟨b.toNat,by omega⟩
  have:=Z3u (step:=j3T (a:Int) x (nI x.length) d) (λi=>((i:Int),(x.take i).eraseIdx a)) x.length k (k (x.eraseIdx a)) (λi f rec=> ?_) (λrec=> ?_) Z1c (Z2b (by omega))
  ·refine Eq.trans ?_ this
   rw [List.take_zero,List.eraseIdx_nil]
   rfl
  ·show j0H _ _ _ _ _ _ _ _=_
   unfold j0H
   dsimp only
   have m:((x.take i).eraseIdx a).length<=1048576:=Nat.le_trans (List.eraseIdx_sublist _ _).length_le (by rw [List.length_take];omega)
   rw [ZaQ f,cond_true,j00 f,cond_true,show (d.1 != 4)=false by rw [bne,h];rfl,cond_false,Zay _ _ _ f,j01 (n:=(i:Int)+1) (by omega),jlk x a i f]
   have l:((i:Int) != (a:Int))= !(i==a):=by
    rw [Bool.eq_iff_iff]
    simp only [bne_iff_ne,Bool.not_eq_true',beq_eq_false_iff_ne,ne_eq,Int.natCast_inj]
   rw [l]
   cases (i==a)
   ·rw [Bool.not_false,cond_true,ZaL (by unfold LIM;omega),cond_true,cond_false]
    rfl
   ·rw [Bool.not_true,cond_false,cond_true]
    rfl
  ·show j0H _ _ _ _ _ _ _ _=_
   unfold j0H
   dsimp only
   rw [ZaP,cond_false,List.take_length]
theorem jmY (t:T) (h:msr yT t<=1048576) (l:List (List V)) (F:j07 t l=true) (d:D) (g:dSm d) (w:j1f d=true) (G:d.2.1=t.1) (E:d.1≠1) (k:List (List V)->Int->Res) :
  j73 t l d k=k (bif j0D t d != 0 then [] else bif d.1==2 then [] else jfW t d l) (j0D t d):=by
 obtain ⟨ht,X,P⟩:=j04 F
 obtain ⟨H,J⟩:=jgy w
 unfold j73 j5S
 rw [j4g t h,F,Bool.not_true,cond_false,jhm d g,w,Bool.not_true,cond_false]
 have B:sNe d.2.1 t.1=false:=by unfold sNe;rw [G];simp
 rw [B,cond_false,show (d.1==1)=false by simpa using E]
 dsimp only
 rw [cond_false,jk7 _ _ (jmk ht).2 g,jrz ht w G E]
 cases K:(j0D t d != 0)
 rotate_left
 ·rfl
 have f:j0D t d=0:=by simpa using K
 have M:=(j1l h).2.1
 rw [cond_false,cond_false,j7a _ _ (by unfold LIM;omega),f]
 have L:d.1=4->0<=j02 t.2.1 d.2.2.2.2.1:=λr=>by
  by_cases A:j02 t.2.1 d.2.2.2.2.1<0
  ·unfold j0D at f
   rw [r] at f
   simp only [show ((4:Int)==3)=false from rfl,show ((4:Int)==4)=true from rfl,cond_false,cond_true,decide_eq_true A] at f
   cases f
  ·omega
 unfold jbw
 have:=Z9T l (λi b=>(b,i)) (λx=>bif d.1 != 2 then [jiT d (j02 t.2.1 d.2.2.2.2.1).toNat x] else []) 60 [] (step:=j3U (j02 t.2.1 d.2.2.2.2.1) l (nI l.length) d) (λb=>k b 0) (λb=>k b 0) (by unfold LIM;omega) (λi j _=> ?_) (by simp) (λi b rec j R Q=>by
  have U:l[i].length=t.2.1.length:=j0g (P _ (List.getElem_mem j))
  show j2f _ _ _ _ _ _ _ _=_
  unfold j2f j8j
  dsimp only
  rw [ZaQ j,cond_true,j00 j,cond_true,Zay _ _ _ j,jpa d _ _ (by omega) L,j01 (n:=(i:Int)+1) (by omega)]
  have p:lim (b.length+1)=true:=ZaL (by unfold LIM;omega)
  cases q:(d.1==3)
  ·rw [cond_false]
   cases (d.1 != 2)
   ·rw [cond_false,cond_false,List.append_nil]
   ·rw [cond_true,cond_true,p,cond_true]
    unfold jiT
    rw [q,cond_false]
  ·have e:d.1=3:=by simpa using q
   have z:inb 0 d.2.2.1.length=true:=j00 (i:=0) (J e)
   have r:(d.1==4)=false:=by rw [e];rfl
   have I:(d.1 != 2)=true:=by rw [e];rfl
   rw [cond_true,r,cond_false,z,cond_true,ZaL (by unfold LIM;omega),cond_true,I,cond_true,cond_true,p,cond_true]
   unfold jiT
   rw [q,cond_true]) (λb rec=>by
  show j2f _ _ _ _ _ _ _ _=_
  unfold j2f
  dsimp only
  rw [ZaP,cond_false])
 ·refine this.trans ?_
  rw [List.nil_append]
  congr 1
  cases C:(d.1==2)
  ·have:(d.1 != 2)=true:=by rw [bne,C];rfl
   rw [this,cond_false,jry]
   show l.flatMap (λx=>[jiT d _ x])=_
   exact jfm _ _
  ·have:(d.1 != 2)=false:=by rw [bne,C];rfl
   rw [this,cond_true]
   show l.flatMap (λx=>[])=_
   simp
 ·rw [List.nil_append]
  have:∀ m:List (List V),(m.flatMap λx=>bif d.1 != 2 then [jiT d (j02 t.2.1 d.2.2.2.2.1).toNat x] else []).length<=m.length:=by
   intro m
   induction m with
   | nil=>exact Nat.le_refl _
   | cons y m W=>
    rw [List.flatMap_cons,List.length_append,List.length_cons]
    have:(bif d.1 != 2 then [jiT d (j02 t.2.1 d.2.2.2.2.1).toNat y] else []).length<=1:=by cases (d.1 != 2)<;>simp
    omega
  exact Nat.le_trans (this _) (by rw [List.length_take];omega)
end Go.PI.G
namespace Go.PI.G
open Go Go.PI Go.Proofs
theorem jpH (t:T) (b:t.2.1.length<=1048576) (d:t.2.2.length<=1048576) (k:T->Res):j4i t k=k t:=by
 unfold j4i j9d
 rw [jcH b,cond_true,jcH d,cond_true]
theorem jjU (c:List T) (f:msr (.slice yT) c<=1048576) (k:List T->Res):j4t c k=k c:=by
 obtain ⟨h,ht⟩:=jep f
 unfold j4t jfo
 have:=Z9T c (λi b=>(i,b)) (λx=>[x]) 1048576 [] (step:=j9A c (nI c.length)) (λb=>k b) (λb=>k b) (by unfold LIM;omega) (λi d _=>by
  rw [j0X,List.nil_append,List.length_take];omega) (by simp) (λi b rec d j g=>by
  show j3G _ _ _ _ _ _=_
  unfold j3G
  obtain ⟨l,m,p,q,r⟩:=ht _ (List.getElem_mem d)
  dsimp only
  rw [ZaQ d,cond_true,j00 d,cond_true,Zay _ _ _ d,jpH _ (by omega) (by omega),ZaL (by unfold LIM;omega),cond_true,j01 (n:=(i:Int)+1) (by omega)]) (λb rec=>by
  show j3G _ _ _ _ _ _=_
  unfold j3G
  dsimp only
  rw [ZaP,cond_false])
 refine this.trans ?_
 rw [j0X,List.nil_append]
theorem jjV (c:List T) (d:D) (y:msr (.slice yT) c<=1048576) (f:j1f d=true) (k:Int->Res):j2S c d k=k (j0i c d):=by
 obtain ⟨A,p⟩:=jep y
 obtain ⟨z,w⟩:=jgy f
 unfold j2S j0i
 rw [j8u _ _ (by unfold LIM;omega)]
 cases q:(d.1==1)
 ·rw [cond_false,cond_false]
  rcases j0G c d.2.1 with ⟨m,_⟩ | ⟨i,g,m,_⟩
  ·rw [m];rfl
  ·have l:decide (j0a c d.2.1<0)=false:=decide_eq_false (by omega)
   rw [l,cond_false,cond_false,m,j00 g,cond_true,Zay _ _ _ g]
   obtain ⟨B,C,E,F,G⟩:=p _ (List.getElem_mem g)
   generalize c[i]=t at *
   have b:∀ n (K:Int->Res),j0l t n K=K (j02 t.2.1 n):=λn K=>j8s _ _ (by unfold LIM;omega) K
   unfold j5B j88 j5C j0D
   have r:d.1≠1:=by simpa using q
   rcases z with h | h | h | h | h
   ·exact absurd h r
   ·rw [h];rfl
   ·have j:inb 0 d.2.2.1.length=true:=j00 (i:=0) (w h)
    rw [h]
    show (bif inb 0 d.2.2.1.length then _ else none)=_
    rw [j,cond_true,b,jh4]
    show _=k (bif !decide (j02 t.2.1 (nth zC d.2.2.1 0).1<0) then 5 else bif t.2.1.length==8 then 6 else 0)
    cases !decide (j02 t.2.1 (nth zC d.2.2.1 0).1<0)
    ·show (bif (nI t.2.1.length==(8:Int)) then k 6 else _)=_
     rw [show (nI t.2.1.length==(8:Int))=(t.2.1.length==8) from jmx _ 8]
     cases (t.2.1.length==8)<;>rfl
    ·rfl
   ·rw [h]
    simp only [show ((4:Int)==3)=false from rfl,show ((4:Int)==4)=true from rfl,show ((4:Int)==5)=false from rfl,cond_false,cond_true,b]
    cases decide (j02 t.2.1 d.2.2.2.2.1<0)
    ·rw [cond_false,cond_false,jqm _ _ (by unfold LIM;omega)]
     show (bif jfY t.2.2 d.2.2.2.2.1 then k 8 else k 0)=k (bif jfY t.2.2 d.2.2.2.2.1 then 8 else 0)
     cases jfY t.2.2 d.2.2.2.2.1<;>rfl
    ·rfl
   ·rw [h]
    simp only [show ((5:Int)==3)=false from rfl,show ((5:Int)==4)=false from rfl,show ((5:Int)==5)=true from rfl,cond_false,cond_true,b,jh4]
    cases !decide (j02 t.2.1 d.2.2.2.2.2<0)
    ·simp only [cond_false]
     cases decide (j02 t.2.1 d.2.2.2.2.1<0)<;>rfl
    ·rfl
 ·rw [cond_true,cond_true,jpj]
  cases decide (j0a c d.2.1<0)
  ·rfl
  ·rw [Bool.not_true,cond_false,cond_false,show (nI c.length==(6:Int))=(c.length==6) from jmx _ 6]
   cases (c.length==6)<;>rfl
theorem jpn {α:Type} (p:α->Bool):(l:List α)->(i:Nat)->i<(l.takeWhile p).length->∃ h:i<l.length,p l[i]=true
 | [],i,h=>by simp at h
 | x::l,i,h=>by
  cases b:p x
  ·rw [List.takeWhile_cons_of_neg (by rw [b];simp)] at h;simp at h
  ·rw [List.takeWhile_cons_of_pos b,List.length_cons] at h
   cases i with
   | zero=>exact ⟨by simp,b⟩
   | succ i=>
    obtain ⟨f,d⟩:=jpn p l i (by omega)
    exact ⟨by rw [List.length_cons];omega,d⟩
theorem jpm {α:Type} (p:α->Bool):(l:List α)->(h:(l.takeWhile p).length<l.length)->p l[(l.takeWhile p).length]=false
 | [],h=>by simp at h
 | x::l,h=>by
  cases b:p x
  ·have e:(x::l).takeWhile p=[]:=List.takeWhile_cons_of_neg (by rw [b];simp)
   simp only [e,List.length_nil,List.getElem_cons_zero]
   exact b
  ·have e:(x::l).takeWhile p=x::l.takeWhile p:=List.takeWhile_cons_of_pos b
   simp only [e,List.length_cons,List.getElem_cons_succ] at h ⊢
   exact jpm p l (by omega)
theorem joJ (d:D) (c:List T) (l:c.length<=1048576) (k:Int->Res):jaj d c Z1c 0 k=k (((c.takeWhile λy=>sLt y.1 d.2.1).length:Nat):Int):=by
 have j:(c.takeWhile λy=>sLt y.1 d.2.1).length<=c.length:=(List.takeWhile_sublist _).length_le
 refine Z3u (step:=j5x d c) (λi=>(i:Int)) (c.takeWhile λy=>sLt y.1 d.2.1).length k _ (λi g rec=> ?_) (λrec=> ?_) Z1c (Z2b (by omega))
 ·obtain ⟨b,f⟩:=jpn _ c i g
  show j2Q _ _ _ _ _=_
  unfold j2Q
  rw [ZaQ b,cond_true,j00 b,cond_true,Zay _ _ _ b,f,cond_true,j01 (n:=(i:Int)+1) (by omega)]
  rfl
 ·show j2Q _ _ _ _ _=_
  unfold j2Q
  by_cases h:(c.takeWhile λy=>sLt y.1 d.2.1).length<c.length
  ·rw [ZaQ h,cond_true,j00 h,cond_true,Zay _ _ _ h,jpm (λy:T=>sLt y.1 d.2.1) c h,cond_false]
  ·rw [decide_eq_false (show ¬ (((c.takeWhile λy=>sLt y.1 d.2.1).length:Nat):Int)<nI c.length by unfold nI;omega),cond_false]
end Go.PI.G
namespace Go.PI.G
open Go Go.PI Go.Proofs
theorem jsz (l:List ByteArray) (v:ByteArray) (h:l.length<=LIM) (k:Int->Res):j10 l v k=k (Z9F (λx=>sEq v x) l):=by
 unfold j10 j68
 refine Z9S l (λi=>i) (λx=>sEq v x) (step:=j28 l v (nI l.length)) ((λ(_:Unit)=>k (-1)),(λ(t:Int)=>k t)) k h (λi rec b=> ?_) (λrec=> ?_)
 ·show j0j _ _ _ _ _ _ _=_
  unfold j0j
  unfold LIM at h
  rw [ZaQ b,cond_true,j00 b,cond_true,Zay _ _ _ b,j01 (n:=(i:Int)+1) (by omega)]
 ·show j0j _ _ _ _ _ _ _=_
  unfold j0j
  rw [ZaP,cond_false]
end Go.PI.G
namespace Go.PI.G
open Go Go.PI Go.Proofs
theorem jqV {α:Type} {g:α->(Bool->Res)->Res} (q:α->Bool):(l:List α)->(∀ x∈l,∀ k,g x k=k (q x))->(d:List α)->(k:List α->Res)->dgE g l d k=k (d++l.filter λx=> !q x)
 | [],_,d,k=>by rw [List.filter_nil,List.append_nil];rfl
 | x::l,h,d,k=>by
  show g x (λb=>dgE g l (bif b then d else d++[x]) k)=_
  rw [h x (by simp),jqV q l λy i=>h y (List.mem_cons_of_mem _ i)]
  cases f:q x
  ·rw [List.filter_cons_of_pos (by rw [f];rfl),cond_false,List.append_assoc];rfl
  ·rw [List.filter_cons_of_neg (by rw [f];simp),cond_true]
theorem jq7 {α:Type} (p:α->Bool) (g:α->α) (l:List α) (i:Nat) (n:i<l.length) (d:p l[i]=true) (f:∀ j (b:j<l.length),j≠i->p l[j]=false):l.map (λx=>bif p x then g x else x)=l.set i (g l[i]):=by
 apply List.ext_getElem
 ·simp
 ·intro j k m
  have b:j<l.length:=by simpa using k
  rw [List.getElem_map,List.getElem_set]
  by_cases e:i=j
  ·subst e
   rw [if_pos rfl,d,cond_true]
  ·rw [if_neg e,f j b λh=>e h.symm,cond_false]
theorem map_none {α:Type} (p:α->Bool) (g:α->α) (l:List α) (h:∀ x∈l,p x=false):l.map (λx=>bif p x then g x else x)=l:=by
 induction l with
 | nil=>rfl
 | cons x l d=>rw [List.map_cons,h x (by simp),cond_false,d λy b=>h y (List.mem_cons_of_mem _ b)]
theorem jmN {α:Type} {R:α->α->Prop} {l:List α} (h:l.Pairwise R) {i j:Nat} (d:i<l.length) (f:j<l.length) (e:i≠j):R l[i] l[j]\/R l[j] l[i]:=by
 rcases Nat.lt_or_gt_of_ne e with b | b
 ·exact .inl (List.pairwise_iff_getElem.1 h i j d f b)
 ·exact .inr (List.pairwise_iff_getElem.1 h j i f d b)
theorem jdZ (n:Nat):(Z9o n n&&true)=true:=by
 rw [Bool.and_true]
 exact Nat.beq_refl n
theorem js0 {l:List C} (k:j5t l=true) (n m:ByteArray) {i:Nat} (f:i<l.length) (h:l[i].1=n):l.map (j9E n m)=l.set i (m,l[i].2):=by
 have p:=((j78 l).1 k).2
 have:j9E n m=λc:C=>bif sEq c.1 n then (m,c.2) else c:=by
  funext c
  unfold j9E ren
  cases sEq c.1 n<;>rfl
 rw [this]
 refine jq7 (λc:C=>sEq c.1 n) (λc=>(m,c.2)) l i f ((j0d _ _).2 h) λj g e=> ?_
 have:l[j].1≠n:=λd=>by
  rcases jmN p f g e.symm with b | b
  ·exact b (h.trans d.symm)
  ·exact b (d.trans h.symm)
 cases q:sEq l[j].1 n
 ·rfl
 ·exact absurd ((j0d _ _).1 q) this
theorem js1 {cs:List C} {ks:List ByteArray} (q:j18 cs (-1) ks=true) (n m:ByteArray):ks.map (ren n m)=bif decide (Z9F (λx=>sEq n x) ks>=0) then ks.set (Z9F (λx=>sEq n x) ks).toNat m else ks:=by
 have w:=((j5F cs ks (-1)).1 q).2
 have:ren n m=λs=>bif sEq s n then m else s:=by funext s;rfl
 rw [this]
 have d:∀ a b:ByteArray,sEq a b=sEq b a:=λa b=>by
  rw [Bool.eq_iff_iff,j0d,j0d]
  exact ⟨Eq.symm,Eq.symm⟩
 rcases jb1 (λx=>sEq n x) ks with ⟨g,f⟩ | ⟨i,k,g,f,_⟩
 ·rw [g]
  exact map_none (λs=>sEq s n) (λ_=>m) ks λx z=>by rw [d];exact f x z
 ·rw [g,decide_eq_true (by omega),cond_true,Int.toNat_natCast]
  refine jq7 (λs=>sEq s n) (λ_=>m) ks i k (by rw [d];exact f) λj p e=> ?_
  have r:n=ks[i]:=(j0d _ _).1 f
  cases y:sEq ks[j] n
  ·rfl
  ·have l:ks[j]=ks[i]:=((j0d _ _).1 y).trans r
   rcases jmN w k p e.symm with h | h<;>rw [l] at h<;>exact absurd h (Int.lt_irrefl _)
theorem jsJ {α:Type} (z:α) (l:List α) (i:Nat) (b:i<l.length) (x:α):nth z (upd l (i:Int) x) (i:Int)=x:=by
 rw [ZaF,Zay _ _ _ (by simpa using b),List.getElem_set_self]
theorem jql (c:List T) (d:D) (i:Nat) (b:i<c.length) (Q:c.length<=1048576) (ht:j08 c[i]=true) (K:tSm c[i]) (l:j0D c[i] d=0) (I:d.1=2\/d.1=3\/d.1=4\/d.1=5) (w:d.1=3->0<d.2.2.1.length) (k:List T->Res) :
  j1I (i:Int) d.1 d c k=k (bif d.1==2 then c.eraseIdx i else c.set i (jb0 c[i] d)):=by
 obtain ⟨V,W,X,Y,Z⟩:=K
 obtain ⟨_,t1,t2,t3,L,M⟩:=(j7x _).1 ht
 unfold j1I
 have f:inb (i:Int) c.length=true:=j00 b
 rcases I with h | h | h | h
 ·rw [h]
  simp only [show ((2:Int)==1)=false from rfl,show ((2:Int)==2)=true from rfl,cond_false,cond_true]
  unfold j59 jc2
  rw [j01 (n:=(i:Int)+1) (by omega),show Z8e (i:Int) ((i:Int)+1) c.length=true from jc1 (j:=i+1) ⟨by omega,by omega⟩,cond_true,List.eraseIdx_eq_take_drop_succ]
  rfl
 ·have w:=w h
  have m:∀ x:T,inb (i:Int) (c.set i x).length=true:=λx=>j00 (by simpa using b)
  have p:inb 0 d.2.2.1.length=true:=j00 (i:=0) w
  rw [h]
  simp only [show ((3:Int)==1)=false from rfl,show ((3:Int)==2)=false from rfl,show ((3:Int)==3)=true from rfl,cond_false,cond_true]
  rw [f,cond_true,p,cond_true,Zay _ _ _ b,ZaL (by unfold LIM;omega),cond_true,ZaF,m,cond_true,jdZ,cond_true]
  unfold jb0 jkm
  rw [h]
  rfl
 ·rw [h]
  simp only [show ((4:Int)==1)=false from rfl,show ((4:Int)==2)=false from rfl,show ((4:Int)==3)=false from rfl,show ((4:Int)==4)=true from rfl,cond_false,cond_true]
  rw [f,cond_true,Zay _ _ _ b]
  unfold j3o
  rw [ZaL (by unfold LIM;omega),cond_true,jqV (g:=λ(e:C) k=>jc5 e d k) (λx:C=>sEq x.1 d.2.2.2.2.1) c[i].2.1 (λx R U=>rfl),List.nil_append]
  simp only [jdZ,cond_true,ZaF]
  unfold jb0 jhk
  rw [h]
  rfl
 ·have P:¬ j02 c[i].2.1 d.2.2.2.2.1<0:=λA=>by
   unfold j0D at l
   rw [h] at l
   simp only [show ((5:Int)==3)=false from rfl,show ((5:Int)==4)=false from rfl,show ((5:Int)==5)=true from rfl,cond_false,cond_true,decide_eq_true A] at l
   cases H: !decide (j02 c[i].2.1 d.2.2.2.2.2<0)<;>rw [H] at l<;>cases l
  rcases j1u c[i].2.1 d.2.2.2.2.1 with ⟨B,_⟩ | ⟨j,y,B,z,_⟩
  ·omega
  rw [h]
  simp only [show ((5:Int)==1)=false from rfl,show ((5:Int)==2)=false from rfl,show ((5:Int)==3)=false from rfl,show ((5:Int)==4)=false from rfl,show ((5:Int)==5)=true from rfl,cond_false,cond_true]
  rw [f,cond_true,j8s _ _ (by rw [Zay _ _ _ b];unfold LIM;omega)]
  simp only [Zay _ _ _ b,jsJ _ _ _ b]
  rw [B]
  simp only [Zay _ _ _ y]
  rw [j00 y,cond_true,jsz _ _ (by unfold LIM;omega)]
  have E:=js0 L d.2.2.2.2.1 d.2.2.2.2.2 y z
  have F:=js1 M d.2.2.2.2.1 d.2.2.2.2.2
  have G:jb0 c[i] d=(c[i].1,c[i].2.1.map (j9E d.2.2.2.2.1 d.2.2.2.2.2),c[i].2.2.map (ren d.2.2.2.2.1 d.2.2.2.2.2)):=by
   unfold jb0 jft
   rw [h]
   rfl
  rw [G,E,F]
  rcases jb1 (λx=>sEq d.2.2.2.2.1 x) c[i].2.2 with ⟨r,_⟩ | ⟨q,J,r,_,_⟩
  ·rw [r,ZaF,ZaF]
   rfl
  ·rw [r,decide_eq_true (by omega),cond_true,cond_true,j00 J,cond_true]
   simp only [ZaF,Int.toNat_natCast]
   rw [List.set_set]
theorem jpB (c:List T) (d:D) (z:msr (.slice yT) c<=1048576) (n:dSm d) (k:List T->Int->Res):j5l c d k=k (jfX c d).1 (jfX c d).2:=by
 obtain ⟨G,C⟩:=jep z
 unfold j5l jfX
 rw [jll c z]
 cases A:j25 c
 ·rfl
 rw [Bool.not_true,cond_false,Bool.false_or,jh7 d n]
 cases m:j1f d
 ·rfl
 rw [Bool.not_true,cond_false,cond_false,jjV _ _ z m,jjU c z,j8u _ _ (by unfold LIM;omega)]
 obtain ⟨L,H⟩:=jgy m
 cases f:(j0i c d != 0)
 rotate_left
 ·rfl
 rw [cond_false,cond_false]
 have f:j0i c d=0:=by simpa using f
 have B:=(j0k c).1 A
 by_cases F:d.1=1
 ·unfold j0i at f
  unfold j1g
  rw [F] at f ⊢
  simp only [show ((1:Int)==1)=true from rfl,cond_true] at f ⊢
  rcases j0G c d.2.1 with ⟨w,r⟩ | ⟨i,j,w,_⟩
  ·unfold j1I
   simp only [show ((1:Int)==1)=true from rfl,cond_true]
   rw [joJ _ _ G,jjW _ n]
   unfold j5b jg0
   obtain ⟨p,M,g,q⟩:=jq1 (R:=tR) (λa b h=>jrf h) (x:=((d.2.1,d.2.2.1,d.2.2.2.1):T)) (l:=c) (λy K=>jiV λe=>r y K e.symm)
   have g:p=(c.takeWhile λy=>sLt y.1 d.2.1).length:=g
   rw [<-g]
   have I:jks (p:Int) c.length [((d.2.1,d.2.2.1,d.2.2.2.1):T)].length=true:=decide_eq_true ⟨by omega,by omega,by simp,by simp;unfold LIM;omega⟩
   rw [I,cond_true,q,Int.toNat_natCast,List.append_assoc]
   rfl
  ·rw [decide_eq_false (by omega)] at f
   cases f
 ·have J:d.1=2\/d.1=3\/d.1=4\/d.1=5:=by omega
  unfold j0i at f
  unfold j1g
  have E:(d.1==1)=false:=by simpa using F
  rw [E,cond_false] at f
  rw [E,cond_false]
  rcases j0G c d.2.1 with ⟨w,r⟩ | ⟨i,j,w,_⟩
  ·rw [decide_eq_true (by omega)] at f
   cases f
  ·rw [decide_eq_false (by omega),cond_false,w,Zay _ _ _ j] at f
   rw [w,Zay _ _ _ j,Int.toNat_natCast,jql c d i j G (B.2.1 _ (List.getElem_mem j)) (C _ (List.getElem_mem j)) f J H]
end Go.PI.G
namespace Go.PI.G
open Go Go.PI Go.Proofs
theorem j8t (l:List (List V)) (h:l.length<=1048576) (f:∀ x∈l,x.length<=1048576) (k:List (List V)->Res):j0B l k=k l:=by
 unfold j0B jev
 have:=Z9T l (λi b=>(b,i)) (λx=>[x]) 1048576 [] (step:=j8x l (nI l.length)) (λb=>k b) (λb=>k b) (by unfold LIM;omega) (λi d _=>by
  rw [j0X,List.nil_append,List.length_take];omega) (by simp) (λi b rec d j g=>by
  show j2R _ _ _ _ _ _=_
  unfold j2R j0I
  dsimp only
  rw [ZaQ d,cond_true,j00 d,cond_true,Zay _ _ _ d,jcH (f _ (List.getElem_mem d)),cond_true,ZaL (by unfold LIM;omega),cond_true,j01 (n:=(i:Int)+1) (by omega)]) (λb rec=>by
  show j2R _ _ _ _ _ _=_
  unfold j2R
  dsimp only
  rw [ZaP,cond_false])
 refine this.trans ?_
 rw [j0X,List.nil_append]
theorem jln (t:T) (h:msr yT t<=1048576) (ht:j08 t=true) (l:List (List V)) (r:List V) (g:∀ x∈l,x.length=t.2.1.length) (p:l.length<=60) (j:r.length=t.2.1.length) (k:Int->Res) :
  jc9 l t r Z1c 0 k=k (((l.takeWhile λy=>kR t y r).length:Nat):Int):=by
 have f:∀ x:List V,(j06 t x).length<=LIM:=λx=>by
  rw [j8z]
  have:=(j1l h).2.2.1
  unfold LIM;omega
 have q:(l.takeWhile λy=>kR t y r).length<=l.length:=(List.takeWhile_sublist _).length_le
 refine Z3u (step:=j4w l t r) (λi=>(i:Int)) (l.takeWhile λy=>kR t y r).length k _ (λi m rec=> ?_) (λrec=> ?_) Z1c (Z2b (by omega))
 ·obtain ⟨b,d⟩:=jpn _ l i m
  have d:klt (j06 t l[i]) (j06 t r)=true:=d
  show j2C _ _ _ _ _ _=_
  unfold j2C
  rw [ZaQ b,cond_true,j00 b,cond_true,Zay _ _ _ b,j1F t h ht _ (g _ (List.getElem_mem b)),j1F t h ht r j,jc4 _ _ (f _),d,cond_true,j01 (n:=(i:Int)+1) (by omega)]
  rfl
 ·show j2C _ _ _ _ _ _=_
  unfold j2C
  by_cases b:(l.takeWhile λy=>kR t y r).length<l.length
  ·have d:klt (j06 t l[(l.takeWhile λy=>kR t y r).length]) (j06 t r)=false:=jpm (λy=>kR t y r) l b
   rw [ZaQ b,cond_true,j00 b,cond_true,Zay _ _ _ b,j1F t h ht _ (g _ (List.getElem_mem b)),j1F t h ht r j,jc4 _ _ (f _),d,cond_false]
  ·rw [decide_eq_false (show ¬ (((l.takeWhile λy=>kR t y r).length:Nat):Int)<nI l.length by unfold nI;omega),cond_false]
theorem jqp (t:T):∀ a b:List V,kR t a b=true->kR t b a=false:=λa b h=>jr6 h
theorem jhQ (t:T) (h:msr yT t<=1048576) (ht:j08 t=true) (l:List (List V)) (r:List V) (n:∀ x∈l,j0t t.2.1 x=true) (f:l.length<=60) (q:j0t t.2.1 r=true) (g:∀ x∈l,j06 t x≠j06 t r) (k:List (List V)->Res) :
  j2L t l r k=k (jhc t l r):=by
 have A:=(j1l h).2.1
 have b:∀ x∈l,x.length=t.2.1.length:=λx m=>j0g (n x m)
 have j:=j0g q
 unfold j2L
 rw [jln t h ht l r b f j,j8t l (by omega) (λx m=>by rw [b x m];omega)]
 unfold j0I j6e jg0
 rw [jcH (by omega),cond_true]
 obtain ⟨p,B,i,d⟩:=jq1 (R:=kR t) (jqp t) (x:=r) (l:=l) (λy w=>joN ht q (n y w) (λe=>g y w e.symm))
 rw [<-i]
 have z:jks (p:Int) l.length [r].length=true:=decide_eq_true ⟨by omega,by omega,by simp,by simp;unfold LIM;omega⟩
 dsimp only
 rw [z,cond_true,Int.toNat_natCast,List.append_assoc]
 unfold jhc
 rw [d]
 rfl
theorem jsl {t:T} {l:List (List V)} {b:List V} (h:j05 t l b<0):∀ x∈l,j06 t x≠b:=joW h
theorem jnO (t:T) (h:msr yT t<=1048576) (l:List (List V)) (r:List V) (k:List (List V)->Int->Res):j7M t l r k=k (j6J t l r).1 (j6J t l r).2:=by
 unfold j7M j6J
 rw [j9U t h]
 cases d:j07 t l
 ·rfl
 obtain ⟨ht,g,i⟩:=j04 d
 rw [Bool.not_true,cond_false,cond_false,jh8 t h]
 cases f:j0t t.2.1 r
 ·rfl
 rw [Bool.not_true,cond_false,cond_false,j1F t h ht r (j0g f),j1v t h l d,jhl]
 by_cases b:j05 t l (j06 t r)<0
 rotate_left
 ·rw [decide_eq_false b];rfl
 rw [decide_eq_true b,Bool.not_true,cond_false,cond_false,show (nI l.length==(60:Int))=(l.length==60) from jq2 _ 60]
 cases (l.length==60)
 ·rw [cond_false,cond_false,jhQ t h ht l r i g f (jsl b)]
 ·rfl
theorem jr5 {t:T} (ht:j08 t=true) {n:ByteArray} (d:n∈t.2.2) (v:V):j48 (nth zC t.2.1 (j02 t.2.1 n)) v=(j0w v&&(v.1==(nth zC t.2.1 (j02 t.2.1 n)).2.1)):=by
 have b:=(((j5F _ _ _).1 ((j7x t).1 ht).2.2.2.2.2).1 n d).2
 unfold j48
 rw [b,Bool.not_true,Bool.and_false,Bool.or_false]
theorem jit (t:T) (h:msr yT t<=1048576) (b:List V) (k:Bool->Res):j5y t b k=k (jb8 t b):=by
 unfold j5y jb8
 obtain ⟨p,q,r,w,y⟩:=j1l h
 rw [jh9 t h]
 cases ht:j08 t
 ·rfl
 rw [Bool.not_true,cond_false,Bool.true_and]
 by_cases f:b.length=t.2.2.length
 rotate_left
 ·rw [j9Z f,cond_true,decide_eq_false f,Bool.false_and]
 rw [j9Y f,cond_false,decide_eq_true f,Bool.true_and]
 unfold jd7
 have:=Z9P t.2.2 (λi=>i) (λi n=> !j48 (nth zC t.2.1 (j02 t.2.1 n)) (nth zV b (i:Int))) (step:=j5z b t.2.2 (nI t.2.2.length) t) ((λ(_:Unit)=>k true),(λ(_:Unit)=>k false)) (k true) (k false) (by unfold LIM;omega) (λi rec d=>by
  have g:=jr5 ht (List.getElem_mem d) (nth zV b (i:Int))
  obtain ⟨j,l,m⟩:=joQ ht (List.getElem_mem d)
  show j3k _ _ _ _ _ _ _ _=_
  unfold j3k
  rw [g,ZaQ d,cond_true,j00 d,cond_true,j00 (f ▸ d),cond_true,j9a,Zay _ _ _ d]
  cases j0w (nth zV b (i:Int))
  ·rfl
  ·rw [Bool.not_true,cond_false,cond_true,j8s _ _ (by unfold LIM;omega),m,j00 l,cond_true,j01 (n:=(i:Int)+1) (by omega),Bool.true_and]
   rfl) (λrec=>by
  show j3k _ _ _ _ _ _ _ _=_
  unfold j3k
  rw [ZaP,cond_false])
 refine this.trans ?_
 cases Z71 (λi n=> !j48 (nth zC t.2.1 (j02 t.2.1 n)) (nth zV b (i:Int))) 0 t.2.2<;>rfl
theorem jn5 (l:List (List V)) (i:Nat) (b:i<l.length) (d:l.length<=60) (k:List (List V)->Res):j0Y l (i:Int) (Z9K ((i:Int)+1)) k=k (l.eraseIdx i):=by
 unfold j0Y jc2
 rw [j01 (n:=(i:Int)+1) (by omega),show Z8e (i:Int) ((i:Int)+1) l.length=true from jc1 (j:=i+1) ⟨by omega,by omega⟩,cond_true,List.eraseIdx_eq_take_drop_succ]
 rfl
theorem jnP (t:T) (h:msr yT t<=1048576) (l:List (List V)) (d r:List V) (k:List (List V)->Int->Res):j7N t l d r k=k (j6K t l d r).1 (j6K t l d r).2:=by
 unfold j7N j6K
 rw [j9U t h]
 cases g:j07 t l
 ·rfl
 obtain ⟨ht,D,H⟩:=j04 g
 rw [Bool.not_true,cond_false,cond_false,jh8 t h]
 cases w:j0t t.2.1 r
 ·rfl
 rw [Bool.not_true,cond_false,cond_false,jit t h]
 cases jb8 t d
 ·rfl
 rw [Bool.not_true,cond_false,Bool.false_or,j1v t h l g]
 by_cases f:j05 t l d<0
 ·rw [decide_eq_true f];rfl
 rw [decide_eq_false f,cond_false,cond_false,j1F t h ht r (j0g w),jnk g f]
 obtain ⟨i,A,m⟩:=jfu f
 have p:=jfl g i
 obtain ⟨_,B,C⟩:=j04 p
 have b:=jnk g (now:=j06 t r) f
 rw [m,Int.toNat_natCast] at b
 have n:(j06 t r).length<=LIM:=by
  rw [j8z]
  have:=(j1l h).2.2.1
  unfold LIM;omega
 unfold j6A
 rw [jb2 _ _ n,m,Int.toNat_natCast,j1v t h l g,jhl]
 have j:decide (j05 t (l.eraseIdx i) (j06 t r)<0)=true->j0B l (λE=>j0Y E (i:Int) (Z9K ((i:Int)+1)) λF=>j2L t F r λG=>k G 0)=k (jhc t (l.eraseIdx i) r) 0:=λz=>by
  rw [j8t l (by omega) (jgF h g),jn5 l i A D,jhQ t h ht _ r C B w (jsl (of_decide_eq_true z))]
 cases q:j0f zV veq (j06 t r) d
 ·rw [q] at b
  rw [Bool.not_false,cond_true,Bool.true_and]
  rw [Bool.not_false,Bool.true_and] at b
  cases y: !decide (j05 t l (j06 t r)<0)
  ·rw [y] at b
   rw [cond_false,cond_false,j1v t h l g,m]
   exact j (by simpa using b)
  ·rfl
 ·rw [q] at b
  rw [Bool.not_true,cond_false,Bool.false_and,cond_false,j1v t h l g,m]
  exact j (by simpa using b)
theorem jnN (t:T) (h:msr yT t<=1048576) (l:List (List V)) (b:List V) (k:List (List V)->Int->Res):j7L t l b k=k (j6I t l b).1 (j6I t l b).2:=by
 unfold j7L j6I
 rw [j9U t h]
 cases f:j07 t l
 ·rfl
 obtain ⟨ht,m,n⟩:=j04 f
 rw [Bool.not_true,cond_false,cond_false,jit t h]
 cases jb8 t b
 ·rfl
 rw [Bool.not_true,cond_false,Bool.false_or,j1v t h l f]
 by_cases d:j05 t l b<0
 ·rw [decide_eq_true d];rfl
 rw [decide_eq_false d,cond_false,cond_false]
 obtain ⟨i,j,g⟩:=jfu d
 rw [j1v t h l f,g,Int.toNat_natCast,j8t l (by omega) (jgF h f),jn5 l i j m]
end Go.PI.G
namespace Go.PI.G
open Go Go.PI Go.Proofs
theorem jqO {t:T} {d:D} (g:d.2.1=t.1) (f:d.1≠1):j0i [t] d=j0D t d:=by
 have b:j0a [t] d.2.1=(0:Int):=by
  have:=jfD (c:=[t]) (by simp) (i:=0) (by simp)
  rw [g]
  exact this
 unfold j0i
 rw [show (d.1==1)=false by simpa using f,cond_false,b]
 rfl
theorem joF (d:D) (l:List (List V)) (m:l.length<=60) (j:∀ x∈l,x.length<=1048576) (h:0<d.2.2.1.length) (k:List (List V)->Res):j84 (nI l.length) d Z1c l 0 k=k (l.map λx=>x++[(nth zC d.2.2.1 0).2.2.2.2]):=by
 unfold j84
 have:=Z3u (step:=j6b (nI l.length) d) (λi=>((l.take i).map (λx:List V=>x++[(nth zC d.2.2.1 0).2.2.2.2])++l.drop i,(i:Int))) l.length k (k (l.map λx=>x++[(nth zC d.2.2.1 0).2.2.2.2])) (λi b rec=> ?_) (λrec=> ?_) Z1c (Z2b (by omega))
 ·refine Eq.trans ?_ this
  simp
 ·show j3C _ _ _ _ _ _=_
  unfold j3C
  dsimp only
  have p:=j _ (List.getElem_mem b)
  have g:inb (i:Int) ((l.take i).map (λx:List V=>x++[(nth zC d.2.2.1 0).2.2.2.2])++l.drop i).length=true:=j00 (by rw [jgz];exact b)
  have f:∀ y:List V,inb (i:Int) (((l.take i).map (λx:List V=>x++[(nth zC d.2.2.1 0).2.2.2.2])++l.drop i).set i y).length=true:=λy=>j00 (by rw [List.length_set,jgz];exact b)
  rw [ZaQ b,cond_true,g,cond_true,show inb 0 d.2.2.1.length=true from j00 (i:=0) h,cond_true,joC _ _ _ _ b,ZaL (by unfold LIM;omega),cond_true,ZaF,f,cond_true,jdZ,cond_true,j01 (n:=(i:Int)+1) (by omega),<-joD _ _ _ b]
  rfl
 ·show j3C _ _ _ _ _ _=_
  unfold j3C
  dsimp only
  rw [ZaP,cond_false,List.take_length,List.drop_length,List.append_nil]
theorem joH (a:Nat) (l:List (List V)) (z:l.length<=60) (q:∀ x∈l,a<x.length/\x.length<=1048576) (k:List (List V)->Res):j85 (a:Int) (nI l.length) Z1c l 0 k=k (l.map λx=>x.eraseIdx a):=by
 unfold j85
 have:=Z3u (step:=j6c (a:Int) (nI l.length)) (λi=>((l.take i).map (λx:List V=>x.eraseIdx a)++l.drop i,(i:Int))) l.length k (k (l.map λx=>x.eraseIdx a)) (λi b rec=> ?_) (λrec=> ?_) Z1c (Z2b (by omega))
 ·refine Eq.trans ?_ this
  simp
 ·show j3D _ _ _ _ _ _=_
  unfold j3D j9G jc2
  dsimp only
  obtain ⟨r,w⟩:=q _ (List.getElem_mem b)
  have f:inb (i:Int) ((l.take i).map (λx:List V=>x.eraseIdx a)++l.drop i).length=true:=j00 (by rw [jgz];exact b)
  have d:∀ y:List V,inb (i:Int) (((l.take i).map (λx:List V=>x.eraseIdx a)++l.drop i).set i y).length=true:=λy=>j00 (by rw [List.length_set,jgz];exact b)
  have p:l[i].take a++l[i].drop (a+1)=l[i].eraseIdx a:=(List.eraseIdx_eq_take_drop_succ _ _).symm
  have m:Z8e (a:Int) ((a:Int)+1) l[i].length=true:=jc1 (j:=a+1) ⟨by omega,by omega⟩
  have g:(a:Int).toNat=a:=Int.toNat_natCast a
  have h:((a:Int)+1).toNat=a+1:=by omega
  rw [ZaQ b,cond_true,f,cond_true,joC _ _ _ _ b,j01 (n:=(a:Int)+1) (by omega),m,cond_true,g,h,p,ZaF,d,cond_true,jdZ,cond_true,j01 (n:=(i:Int)+1) (by omega),<-joD _ _ _ b]
  rfl
 ·show j3D _ _ _ _ _ _=_
  unfold j3D
  dsimp only
  rw [ZaP,cond_false,List.take_length,List.drop_length,List.append_nil]
theorem jmq (t:T) (h:msr yT t<=1048576) (l:List (List V)) (g:j07 t l=true) (d:D) (n:dSm d) (m:j1f d=true) (w:d.2.1=t.1) (i:d.1≠1) (k:List (List V)->Int->Res) :
  j6B t l d k=k (bif j0D t d != 0 then [] else bif d.1==2 then [] else jfW t d l) (j0D t d):=by
 obtain ⟨ht,z,F⟩:=j04 g
 obtain ⟨f,A⟩:=jgy m
 unfold j6B j5A
 rw [j9U t h,g,Bool.not_true,cond_false,jh7 d n,m,Bool.not_true,cond_false]
 have r:sNe d.2.1 t.1=false:=by unfold sNe;rw [w];simp
 rw [r,cond_false,show (d.1==1)=false by simpa using i]
 dsimp only
 rw [cond_false,jjV _ _ (jmk ht).2 m,jqO w i]
 cases B:(j0D t d != 0)
 rotate_left
 ·rfl
 have b:j0D t d=0:=by simpa using B
 have q:=(j1l h).2.1
 rw [cond_false,cond_false,j8t l (by omega) (jgF h g),b]
 rcases f with e | e | e | e | e
 ·exact absurd e i
 ·rw [e];rfl
 ·unfold jfW
  rw [e]
  simp only [show ((3:Int)==2)=false from rfl,show ((3:Int)==3)=true from rfl,cond_false,cond_true]
  rw [joF d l z (jgF h g) (A e)]
 ·unfold jfW
  have G:¬ j02 t.2.1 d.2.2.2.2.1<0:=λp=>by
   unfold j0D at b
   rw [e] at b
   simp only [show ((4:Int)==3)=false from rfl,show ((4:Int)==4)=true from rfl,cond_false,cond_true,decide_eq_true p] at b
   cases b
  rcases j1u t.2.1 d.2.2.2.2.1 with ⟨y,_⟩ | ⟨j,C,y,_,_⟩
  ·omega
  rw [e]
  simp only [show ((4:Int)==2)=false from rfl,show ((4:Int)==3)=false from rfl,show ((4:Int)==4)=true from rfl,cond_false,cond_true]
  rw [j8s _ _ (by unfold LIM;omega),y,joH j l z (λx E=>by rw [j0g (F x E)];exact ⟨C,q⟩)]
  rfl
 ·unfold jfW
  rw [e]
  rfl
end Go.PI.G
namespace Go.PI.G
open Go Go.PI Go.Proofs
theorem je3 {c:List T} (h:j25 c=true):msr (.slice yT) c<=1048576:=by
 obtain ⟨b,d,_⟩:=(j0k c).1 h
 have:=jaR (e:=yT) 400 c (λt ht=>jcd (d t ht))
 have f:c.length * (400+1)<=6 * 401:=Nat.mul_le_mul b (Nat.le_refl _)
 omega
theorem jj8 (l:List (List V)) (h:l.length<=1048576) (f:∀ x∈l,x.length<=1048576) (k:List (List V)->Res):j75 l k=k l:=by
 unfold j75 jfB
 have:=Z9T l (λi b=>(b,i)) (λx=>[x]) 1048576 [] (step:=j9L l (nI l.length)) (λb=>k b) (λb=>k b) (by unfold LIM;omega) (λi d _=>by
  rw [j0X,List.nil_append,List.length_take];omega) (by simp) (λi b rec d j g=>by
  show j40 _ _ _ _ _ _=_
  unfold j40 j0n
  dsimp only
  rw [ZaQ d,cond_true,j00 d,cond_true,Zay _ _ _ d,jcH (f _ (List.getElem_mem d)),cond_true,ZaL (by unfold LIM;omega),cond_true,j01 (n:=(i:Int)+1) (by omega)]) (λb rec=>by
  show j40 _ _ _ _ _ _=_
  unfold j40
  dsimp only
  rw [ZaP,cond_false])
 refine this.trans ?_
 rw [j0X,List.nil_append]
theorem jkq {d:DB} (h:dbB d=true):j25 d.1=true/\d.1.length<=6/\d.2.length=d.1.length/\∀ x∈d.2,x.length<=60/\∀ r∈x,r.length<=1048576:=by
 obtain ⟨b,k,l⟩:=(j2c d).1 h
 have n:=je3 b
 refine ⟨b,((j0k _).1 b).1,k,λx p=> ?_⟩
 obtain ⟨i,m,rfl⟩:=List.mem_iff_getElem.1 p
 have g:=l i (by omega) m
 refine ⟨(j04 g).2.1,λr f=> ?_⟩
 have q:=j0g ((j04 g).2.2 r f)
 have j:=(jep n).2 _ (List.getElem_mem (show i<d.1.length by omega))
 have:=j.2.1
 omega
theorem jm1 (d:DB) (h:dbB d=true) (k:DB->Res):j2b d k=k d:=by
 obtain ⟨g,m,p,j⟩:=jkq h
 unfold j2b
 rw [jk6 _ (je3 g)]
 unfold jby
 have:=Z9T d.2 (λi b=>(i,(d.1,b))) (λx=>[x]) 1048576 [] (step:=j6n d.2 (nI d.2.length)) (λb=>k b) (λb=>k (d.1,b)) (by unfold LIM;omega) (λi f _=>by
  rw [j0X,List.nil_append,List.length_take];omega) (by simp) (λi b rec f r q=>by
  show j42 _ _ _ _ _ _=_
  unfold j42
  obtain ⟨w,l⟩:=j _ (List.getElem_mem f)
  dsimp only
  rw [ZaQ f,cond_true,j00 f,cond_true,Zay _ _ _ f,jj8 _ (by omega) l,ZaL (by unfold LIM;omega),cond_true,j01 (n:=(i:Int)+1) (by omega)]) (λb rec=>by
  show j42 _ _ _ _ _ _=_
  unfold j42
  dsimp only
  rw [ZaP,cond_false])
 refine this.trans ?_
 rw [j0X,List.nil_append]
theorem jh6 (d:DB) (h:dbB d=true) (k:DB->Res):j1w d k=k d:=by
 obtain ⟨g,m,p,j⟩:=jkq h
 unfold j1w
 rw [jjU _ (je3 g)]
 unfold jc8
 have:=Z9T d.2 (λi b=>(i,(d.1,b))) (λx=>[x]) 1048576 [] (step:=j7h d.2 (nI d.2.length)) (λb=>k b) (λb=>k (d.1,b)) (by unfold LIM;omega) (λi f _=>by
  rw [j0X,List.nil_append,List.length_take];omega) (by simp) (λi b rec f r q=>by
  show j4u _ _ _ _ _ _=_
  unfold j4u
  obtain ⟨w,l⟩:=j _ (List.getElem_mem f)
  dsimp only
  rw [ZaQ f,cond_true,j00 f,cond_true,Zay _ _ _ f,j8t _ (by omega) l,ZaL (by unfold LIM;omega),cond_true,j01 (n:=(i:Int)+1) (by omega)]) (λb rec=>by
  show j4u _ _ _ _ _ _=_
  unfold j4u
  dsimp only
  rw [ZaP,cond_false])
 refine this.trans ?_
 rw [j0X,List.nil_append]
theorem jpf (t:T) (h:msr yT t<=1048576) (l:List (List V)) (s:ST) (b:s.1≠5) (k:List (List V)->Int->Res):j1D t l s k=k (j3m t l s).1 (j3m t l s).2:=by
 unfold j1D j3m
 cases (s.1==1)
 ·rw [cond_false,cond_false]
  cases (s.1==2)
  ·rw [cond_false,cond_false]
   cases (s.1==3)
   ·rw [cond_false,cond_false,show (s.1==5)=false by simpa using b]
    rfl
   ·rw [cond_true,cond_true,jog t h]
  ·rw [cond_true,cond_true,joi t h]
 ·rw [cond_true,cond_true,joh t h]
end Go.PI.G
namespace Go.PI.G
open Go Go.PI Go.Proofs
theorem jsW (b:Int) (s:ST) (a z:Res):j8U b s (λ_=>a) (λ_=>z)=bif decide (b<0)&& !((s.1==5)&&(s.2.2.2.2.1==1)) then z else a:=by
 unfold j8U
 cases decide (b<0)
 ·rfl
 ·rw [cond_true,Bool.true_and]
  unfold bne
  cases (s.1==5)
  ·rfl
  ·cases (s.2.2.2.2.1==1)<;>rfl
theorem jpT {t:T} {l:List (List V)} {s:ST}:0<=(j3m t l s).2/\(j3m t l s).2<=5:=by
 unfold j3m j6J j6K j6I
 cases (s.1==1)
 ·cases (s.1==2)
  ·cases (s.1==3)
   ·simp
   ·simp only [cond_true,cond_false]
    cases j07 t l
    ·simp
    ·cases (!jb8 t s.2.2.1||decide (j05 t l s.2.2.1<0))<;>simp
  ·simp only [cond_true,cond_false]
   cases j07 t l
   ·simp
   ·cases j0t t.2.1 s.2.2.2.1
    ·simp
    ·cases (!jb8 t s.2.2.1||decide (j05 t l s.2.2.1<0))
     ·cases !decide (j05 t (l.eraseIdx (j05 t l s.2.2.1).toNat) (j06 t s.2.2.2.1)<0)<;>simp
     ·simp
 ·simp only [cond_true,cond_false]
  cases j07 t l
  ·simp
  ·cases j0t t.2.1 s.2.2.2.1
   ·simp
   ·cases !decide (j05 t l (j06 t s.2.2.2.1)<0)
    ·cases (l.length==60)<;>simp
    ·simp
theorem jpb (d:DB) (h:dbB d=true) (s:ST) (q:s.1≠5) (i:Nat) (f:i<d.1.length) (g:j0a d.1 s.2.1=(i:Int)) (k:DB->Int->Res) :
  (bif inb (i:Int) d.1.length then
          bif inb (i:Int) d.2.length then
           j1D (nth zT d.1 (i:Int)) (nth [] d.2 (i:Int)) s λ(w:List (List V)) (r:Int)=>
            bif (r != 0) then
             k ([],[]) (Z9K (10+r))
            else
             j2b d λ(m:DB)=>
              bif inb (i:Int) (List.length m.2) then
               k (m.1,upd m.2 (i:Int) w) 0
              else none
          else none
         else none)=k (j2n d s).1 (j2n d s).2:=by
 obtain ⟨p,y,z⟩:=(j2c d).1 h
 have b:i<d.2.length:=by omega
 have B:=(jep (je3 p)).2 _ (List.getElem_mem f)
 have ht:j08 d.1[i]=true:=((j0k _).1 p).2.1 _ (List.getElem_mem f)
 have j:msr yT d.1[i]<=1048576:=Nat.le_trans (jcd ht) (by omega)
 rw [j00 f,cond_true,j00 b,cond_true,Zay _ _ _ f,Zay _ _ _ b,jpf _ j _ _ q]
 unfold j2n
 rw [g,decide_eq_false (by omega),Bool.false_and,cond_false,show (s.1==5)=false by simpa using q,cond_false,Zay _ _ _ f,Zay _ _ _ b]
 have A:=jpT (t:=d.1[i]) (l:=d.2[i]) (s:=s)
 cases C:((j3m d.1[i] d.2[i] s).2 != 0)
 ·rw [cond_false,cond_false,jm1 d h,j00 b,cond_true,ZaF,Int.toNat_natCast]
 ·rw [cond_true,cond_true,j01 (n:=10+(j3m d.1[i] d.2[i] s).2) (by omega)]
end Go.PI.G
namespace Go.PI.G
open Go Go.PI Go.Proofs
noncomputable def jab (d:DB) (x:D) (u:T):List (List V):=
 bif decide (j0a d.1 u.1>=0)&&sEq u.1 x.2.1 then (bif x.1==2 then [] else jfW (nth zT d.1 (j0a d.1 u.1)) x (nth [] d.2 (j0a d.1 u.1)))
 else bif decide (j0a d.1 u.1>=0) then nth [] d.2 (j0a d.1 u.1) else []
theorem jqB (d:DB) (h:dbB d=true) (s:ST) (z:s.1=5) (B:s.2.2.2.2.2.1=s.2.1) (q:dSm s.2.2.2.2) (E:j1f s.2.2.2.2=true) (l:j0i d.1 s.2.2.2.2=0) (u:T) (k:List (List V)->Res) :
  (j2O d.1 u.1 λ(r:Int)=>j41 r s u λ(t:Bool)=>j2h r t d s [] k)=k (jab d s.2.2.2.2 u):=by
 obtain ⟨C,J,D⟩:=(j2c d).1 h
 obtain ⟨_,G,_,g⟩:=jkq h
 rw [jeS _ _ (by unfold LIM;omega)]
 unfold j41 j2h jab
 rw [B]
 rcases j0G d.1 u.1 with ⟨p,_⟩ | ⟨i,n,p,A⟩
 ·rw [p]
  rfl
 ·have w:decide (j0a d.1 u.1>=0)=true:=decide_eq_true (by omega)
  have f:i<d.2.length:=by omega
  rw [w,Bool.true_and,cond_true,p,j00 n,j00 f,Zay _ _ _ n,Zay _ _ _ f]
  cases H:sEq u.1 s.2.1
  ·obtain ⟨K,I⟩:=g _ (List.getElem_mem f)
   simp only [cond_false,cond_true]
   rw [jj8 _ (by omega) I]
  ·have b:u.1=s.2.1:=(j0d _ _).1 H
   have ht:j08 d.1[i]=true:=((j0k _).1 C).2.1 _ (List.getElem_mem n)
   have y:msr yT d.1[i]<=1048576:=Nat.le_trans (jcd ht) (by omega)
   have m:j0a d.1 s.2.2.2.2.2.1=(i:Int):=by rw [B,<-b];exact p
   have j:s.2.2.2.2.1≠1:=λe=>by
    unfold j0i at l
    rw [e,m] at l
    rw [decide_eq_false (show ¬ (i:Int)<0 by omega)] at l
    cases l
   have F:j0D d.1[i] s.2.2.2.2=0:=by
    unfold j0i at l
    rw [show (s.2.2.2.2.1==1)=false by simpa using j,cond_false,m,decide_eq_false (show ¬ (i:Int)<0 by omega),cond_false,Zay _ _ _ n] at l
    exact l
   simp only [cond_true]
   unfold j1D
   rw [z]
   simp only [show ((5:Int)==1)=false from rfl,show ((5:Int)==2)=false from rfl,show ((5:Int)==3)=false from rfl,show ((5:Int)==5)=true from rfl,cond_false,cond_true,Z9Q]
   rw [jmY _ y _ (D i n f) _ q E (by rw [B,<-b];exact A.symm) j,F]
   rfl
theorem jox {c:List T} {d:D} (b:j25 c=true) (f:j1f d=true):jfX c d=bif j0i c d != 0 then ([],j0i c d) else (j1g c d,0):=by
 unfold jfX
 rw [b,f]
 rfl
theorem jlh (c:List T) (d:D):0<=j0i c d/\j0i c d<=8:=by
 unfold j0i j0D
 cases (d.1==1)
 ·cases decide (j0a c d.2.1<0)
  ·generalize nth zT c (j0a c d.2.1)=t
   cases (d.1==3)
   ·cases (d.1==4)
    ·cases (d.1==5)
     ·simp
     ·cases decide (j02 t.2.1 d.2.2.2.2.2<0)
      ·simp
      ·cases decide (j02 t.2.1 d.2.2.2.2.1<0)<;>simp
    ·cases decide (j02 t.2.1 d.2.2.2.2.1<0)
     ·cases t.2.2.any (λx=>sEq x d.2.2.2.2.1)<;>simp
     ·simp
   ·cases decide (j02 t.2.1 (nth zC d.2.2.1 0).1<0)
    ·simp
    ·cases (t.2.1.length==8)<;>simp
  ·simp
 ·cases decide (j0a c d.2.1<0)
  ·simp
  ·cases (c.length==6)<;>simp
theorem jmW (d:DB) (h:dbB d=true) (s:ST) (q:s.1=5) (y:s.2.2.2.2.2.1=s.2.1) (j:dSm s.2.2.2.2) (p:j1f s.2.2.2.2=true) (k:DB->Int->Res) :
  j4o d s k=bif j0i d.1 s.2.2.2.2 != 0 then k ([],[]) (10+j0i d.1 s.2.2.2.2) else k (j1g d.1 s.2.2.2.2,(j1g d.1 s.2.2.2.2).map (jab d s.2.2.2.2)) 0:=by
 obtain ⟨m,z,A⟩:=(j2c d).1 h
 have D:=jlh d.1 s.2.2.2.2
 unfold j4o
 rw [jk7 _ _ (je3 m) j,jox m p]
 cases r:(j0i d.1 s.2.2.2.2 != 0)
 rotate_left
 ·rw [cond_true]
  dsimp only
  rw [r,cond_true,cond_true,j01 (n:=10+j0i d.1 s.2.2.2.2) (by omega)]
 have g:j0i d.1 s.2.2.2.2=0:=by simpa using r
 have f:=jmm m p g
 have w:=((j0k _).1 f).1
 rw [cond_false,cond_false]
 show (j6m (j1g d.1 s.2.2.2.2) (nI (j1g d.1 s.2.2.2.2).length) d s Z1c 0 (j1g d.1 s.2.2.2.2,[]) λb=>k b 0)=_
 generalize j1g d.1 s.2.2.2.2=c' at *
 unfold j6m
 have:=Z9T c' (λi b=>(i,(c',b))) (λu=>[jab d s.2.2.2.2 u]) 6 [] (step:=j2z c' (nI c'.length) d s) (λb=>k b 0) (λb=>k (c',b) 0) (by unfold LIM;omega) (λi l _=>by
  rw [jfm,List.nil_append,List.length_map,List.length_take];omega) (by simp) (λi b rec l C B=>by
  show j1r _ _ _ _ _ _ _ _=_
  unfold j1r
  dsimp only
  rw [ZaQ l,cond_true,j00 l,cond_true,Zay _ _ _ l,jqB d h s q y j p g,ZaL (by unfold LIM;omega),cond_true,j01 (n:=(i:Int)+1) (by omega)]) (λb rec=>by
  show j1r _ _ _ _ _ _ _ _=_
  unfold j1r
  dsimp only
  rw [ZaP,cond_false])
 refine this.trans ?_
 rw [jfm,List.nil_append]
end Go.PI.G
namespace Go.PI.G
open Go Go.PI Go.Proofs
theorem jiw {d:DB} (h:msr yDB d<=1048576):msr (.slice yT) d.1<=1048576/\d.1.length<=1048576/\d.2.length<=1048576/\(∀ t∈d.1,msr yT t<=1048576)/\∀ l∈d.2,l.length<=1048576:=by
 have i:msr yDB d=msr (.slice yT) d.1+msr (.slice (.slice (.slice yV))) d.2:=rfl
 have b:msr (.slice yT) d.1<=1048576:=by omega
 have f:msr (.slice (.slice (.slice yV))) d.2<=1048576:=by omega
 exact ⟨b,j0c b,j0c f,λt ht=>j0h b ht,λl g=>j0c (j0h f g)⟩
theorem jcW (d:DB) (h:msr yDB d<=1048576) (k:Bool->Res):j3c d k=k (dbB d):=by
 obtain ⟨j,m,p,l,q⟩:=jiw h
 unfold j3c dbB
 rw [jlZ _ j]
 cases j25 d.1
 ·rfl
 ·rw [Bool.not_true,cond_false,Bool.true_and]
  by_cases f:d.2.length=d.1.length
  ·have g:(nI d.2.length != nI d.1.length)=false:=by rw [f,ZaO]
   rw [g,cond_false,decide_eq_true f,Bool.true_and]
   unfold jeT
   have:=Z9P d.1 (λi=>i) (λi t=> !j07 t (nth [] d.2 (i:Int))) (step:=j9q d.1 (nI d.1.length) d) ((λ(_:Unit)=>k true),(λ(_:Unit)=>k false)) (k true) (k false) (by unfold LIM;omega) (λi rec b=>by
    show j70 _ _ d _ _ _ _=_
    unfold j70
    rw [ZaQ b,cond_true,j00 b,cond_true,j00 (f ▸ b),cond_true,Zay _ _ _ b,j4g _ (l _ (List.getElem_mem b)),j01 (n:=(i:Int)+1) (by omega)]) (λrec=>by
    show j70 _ _ d _ _ _ _=_
    unfold j70
    rw [ZaP,cond_false])
   refine this.trans ?_
   cases Z71 (λi t=> !j07 t (nth [] d.2 (i:Int))) 0 d.1<;>rfl
  ·have g:(nI d.2.length != nI d.1.length)=true:=by unfold nI;simp;omega
   rw [g,cond_true,decide_eq_false f,Bool.false_and]
theorem jis (d:DB) (h:msr yDB d<=1048576) (k:Bool->Res):j5w d k=k (dbB d):=by
 obtain ⟨j,m,p,l,q⟩:=jiw h
 unfold j5w dbB
 rw [jll _ j]
 cases j25 d.1
 ·rfl
 ·rw [Bool.not_true,cond_false,Bool.true_and]
  by_cases f:d.2.length=d.1.length
  ·have g:(nI d.2.length != nI d.1.length)=false:=by rw [f,ZaO]
   rw [g,cond_false,decide_eq_true f,Bool.true_and]
   unfold jet
   have:=Z9P d.1 (λi=>i) (λi t=> !j07 t (nth [] d.2 (i:Int))) (step:=j9b d.1 (nI d.1.length) d) ((λ(_:Unit)=>k true),(λ(_:Unit)=>k false)) (k true) (k false) (by unfold LIM;omega) (λi rec b=>by
    show j6x _ _ d _ _ _ _=_
    unfold j6x
    rw [ZaQ b,cond_true,j00 b,cond_true,j00 (f ▸ b),cond_true,Zay _ _ _ b,j9U _ (l _ (List.getElem_mem b)),j01 (n:=(i:Int)+1) (by omega)]) (λrec=>by
    show j6x _ _ d _ _ _ _=_
    unfold j6x
    rw [ZaP,cond_false])
   refine this.trans ?_
   cases Z71 (λi t=> !j07 t (nth [] d.2 (i:Int))) 0 d.1<;>rfl
  ·have g:(nI d.2.length != nI d.1.length)=true:=by unfold nI;simp;omega
   rw [g,cond_true,decide_eq_false f,Bool.false_and]
theorem jaM {d:DB} (h:dbB d=true):j25 d.1=true/\d.2.length=d.1.length/\∀ (i:Nat) (f:i<d.1.length) (b:i<d.2.length),j07 d.1[i] d.2[i]=true:=by
 unfold dbB at h
 simp only [Bool.and_eq_true,decide_eq_true_eq,Bool.not_eq_true'] at h
 refine ⟨h.1,h.2.1,λi f b=> ?_⟩
 have:=j7e d.1 0 h.2.2 i f
 rw [Bool.not_eq_false',show 0+i=i by omega,Zay _ _ _ b] at this
 exact this
end Go.PI.G
