/-
  Program's code interpreted over typed values; printed texts; plain laws. No conditions.
-/
import Derived.Test.YtnemiodjnhfejaaGreatSQf
import Derived.Test.YtnemiodjnhfejaaGreatSQi
set_option linter.unusedVariables false
set_option linter.unusedSimpArgs false
namespace Go.PI.G
open Go Go.PI Go.Proofs
theorem jn0 {α V K:Type} (l:List α) (j:Int->V) (b:Nat->α->Bool) (p:Nat->Prop) {step:V->(V->Res)->K->Res} (q:K) (d k:Res) (r:l.length<=LIM) (n:p 0)
  (z:∀ (i:Nat),(g:i<l.length)->p i->b i l[i]=false->p (i+1))
  (A:∀ (i:Nat) rec,(g:i<l.length)->p i->step (j i) rec q=bif b i l[i] then k else rec (j ((i:Int)+1))) (y:∀ rec,step (j (l.length:Int)) rec q=d) :
  Z1f step Z1c (j 0) q=bif Z71 b 0 l then k else d:=by
 have h:=Z3Z l (λi (_:Unit)=>j i) (λi _ x=>if b i x then .error () else (.ok ():Except Unit Unit)) (λi _=>p i) q (λ_=>d) (λ_=>k) () r n (λi a C g f m=>by
   refine z i g f ?_
   cases w:b i l[i] with
   | false=>rfl
   | true=>rw [w] at m;cases m)
  (λi a rec g f=>by
   rw [A i rec g f]
   cases b i l[i]<;>rfl) (λa rec _=>y rec)
 rw [h]
 have:∀ (l:List α) (i:Nat),Z1S (λi _ x=>if b i x then .error () else (.ok ():Except Unit Unit)) i l ()=bif Z71 b i l then .error () else .ok ():=by
  intro l
  induction l with
  | nil=>intro i;rfl
  | cons x l B=>
   intro i
   simp only [Z1S,Z71]
   cases b i x with
   | true=>rfl
   | false=>exact B _
 rw [this]
 cases Z71 b 0 l<;>rfl
theorem jk8 (c:C) (f:j1e c=true) (v:V) (k:Bool->Res):j4Y c v k=k (j48 c v):=by
 have g:=jss f
 unfold j4Y j48
 rw [j9p,j9p]
 cases b:v.1==0
 ·cases j0w v
  ·rfl
  ·rw [cond_false,cond_true,Bool.false_and,Bool.or_false,Bool.true_and]
 ·have d:(v.1==c.2.1)=false:=by
   rw [beq_iff_eq] at b
   simp;omega
  rw [d,Bool.true_and,Bool.false_or]
  cases j0w v<;>rfl
theorem jpD (c:C) (v:V) (k:Bool->Res):jcA c v k=k (j48 c v):=by
 unfold jcA j48
 rw [j9a]
 cases j0w v
 ·rfl
 ·cases v.1==c.2.1
  ·cases v.1==0<;>rfl
  ·rfl
theorem jhn (t:T) (h:msr yT t<=1048576) (r:List V) (k:Bool->Res):j2N t r k=k (j08 t&&j0t t.2.1 r):=by
 obtain ⟨g,j,l,m,p⟩:=j1l h
 unfold j2N
 rw [j9o t h]
 cases ht:j08 t
 ·rfl
 ·rw [Bool.not_true,cond_false,Bool.true_and]
  unfold j0t
  by_cases d:r.length=t.2.1.length
  ·have f:(nI r.length != nI t.2.1.length)=false:=by rw [d,ZaO]
   rw [f,cond_false,decide_eq_true d,Bool.true_and]
   unfold jdq
   have:=Z9P t.2.1 (λi=>i) (λi c=> !j48 c (nth zV r (i:Int))) (step:=j8h t.2.1 (nI t.2.1.length) r) ((λ(_:Unit)=>k true),(λ(_:Unit)=>k false)) (k true) (k false) (by unfold LIM;omega) (λi rec b=>by
    show j5R _ _ r _ _ _ _=_
    unfold j5R
    rw [ZaQ b,cond_true,j00 b,cond_true,j00 (d ▸ b),cond_true,Zay _ _ _ b,jk8 _ (jn3 (j0R ht).2.2.2.2.1 i b),j01 (n:=(i:Int)+1) (by omega)]) (λrec=>by
    show j5R _ _ r _ _ _ _=_
    unfold j5R
    rw [ZaP,cond_false])
   refine this.trans ?_
   cases Z71 (λi c=> !j48 c (nth zV r (i:Int))) 0 t.2.1<;>rfl
  ·have f:(nI r.length != nI t.2.1.length)=true:=by unfold nI;simp;omega
   rw [f,cond_true,decide_eq_false d,Bool.false_and]
theorem jh8 (t:T) (h:msr yT t<=1048576) (r:List V) (k:Bool->Res):j49 t r k=k (j0t t.2.1 r):=by
 obtain ⟨g,j,l,m,p⟩:=j1l h
 unfold j49 j0t
 by_cases b:r.length=t.2.1.length
 ·have d:(nI r.length != nI t.2.1.length)=false:=by rw [b,ZaO]
  rw [d,cond_false,decide_eq_true b,Bool.true_and]
  unfold jhS
  have:=Z9P t.2.1 (λi=>i) (λi c=> !j48 c (nth zV r (i:Int))) (step:=jb7 r (nI r.length) t) ((λ(_:Unit)=>k true),(λ(_:Unit)=>k false)) (k true) (k false) (by unfold LIM;omega) (λi rec f=>by
   show j5E _ _ t _ _ _ _=_
   unfold j5E
   rw [b,ZaQ f,cond_true,j00 f,cond_true,cond_true,Zay zC _ _ f,jpD,j01 (n:=(i:Int)+1) (by omega)]) (λrec=>by
   show j5E _ _ t _ _ _ _=_
   unfold j5E
   rw [b,ZaP,cond_false])
  refine this.trans ?_
  cases Z71 (λi c=> !j48 c (nth zV r (i:Int))) 0 t.2.1<;>rfl
 ·have d:(nI r.length != nI t.2.1.length)=true:=by unfold nI;simp;omega
  rw [d,cond_true,decide_eq_false b,Bool.false_and]
theorem j0g {l:List C} {r:List V} (h:j0t l r=true):r.length=l.length:=by
 unfold j0t at h
 rw [Bool.and_eq_true,decide_eq_true_eq] at h
 exact h.1
theorem jai {α β:Type} (f:α->β):(l:List α)->l.flatMap (λx=>[f x])=l.map f
 | []=>rfl
 | x::l=>by rw [List.flatMap_cons,jai f l];rfl
theorem j8z (t:T) (r:List V):(j06 t r).length=t.2.2.length:=by unfold j06;simp
theorem j1G (t:T) (h:msr yT t<=1048576) (ht:j08 t=true) (r:List V) (m:r.length=t.2.1.length) (k:List V->Res):j0e t r k=k (j06 t r):=by
 obtain ⟨p,q,w,y,z⟩:=j1l h
 unfold j0e jgR
 have g:=j19 t.2.2 (-1) (by omega) (j0R ht).2.2.2.2.2
 have:=Z9T t.2.2 (λi b=>(b,i)) (λn=>[nth zV r (j02 t.2.1 n)]) 1048576 [] (step:=jaz t.2.2 (nI t.2.2.length) t r) (λb=>k b) (λb=>k b) (by unfold LIM;omega) (λi d _=>by
  rw [jai,List.nil_append,List.length_map,List.length_take];omega) (by simp) (λi b rec d l _=>by
  show j4Z _ _ t r _ _ _ _=_
  unfold j4Z
  have f:=g _ (List.getElem_mem d)
  have j:b.length=i:=by
   rw [l,jai,List.nil_append,List.length_map,List.length_take];omega
  dsimp only
  rw [ZaQ d,cond_true,j00 d,cond_true,Zay _ _ _ d,j7a t _ (by unfold LIM;omega),ZaK f.1 (by omega),cond_true,ZaL (by unfold LIM;omega),cond_true,j01 (n:=(i:Int)+1) (by omega)]) (λb rec=>by
  show j4Z _ _ t r _ _ _ _=_
  unfold j4Z
  dsimp only
  rw [ZaP,cond_false])
 refine this.trans ?_
 rw [jai,List.nil_append]
 rfl
theorem jgN (a b:List V) (j:a.length<=LIM) (k:Bool->Res):j4S a b k=k (klt a b):=by
 unfold j4S jfz
 unfold LIM at j
 have h:∀ (d i n:Nat),i+d=a.length->d<n->i<=b.length->Z1f (j9H a b) n (i:Int) ((λ(_:Unit)=>k (decide (nI a.length<nI b.length))),(λ(t:Bool)=>k t))=k (klt (a.drop i) (b.drop i)):=by
  intro d
  induction d with
  | zero=>
   intro i n p q l
   obtain ⟨n,rfl⟩:∃ m,n=m+1:=⟨n-1,by omega⟩
   have:i=a.length:=by omega
   subst this
   show j3S a b _ _ _ _=_
   unfold j3S
   rw [ZaP,cond_false,List.drop_length]
   show k (decide (nI a.length<nI b.length))=_
   by_cases g:a.length<b.length
   ·rw [List.drop_eq_getElem_cons g,decide_eq_true (show nI a.length<nI b.length by unfold nI;omega)]
    rfl
   ·rw [List.drop_of_length_le (by omega),decide_eq_false (show ¬ nI a.length<nI b.length by unfold nI;omega)]
    rfl
  | succ d r=>
   intro i n p q l
   obtain ⟨n,rfl⟩:∃ m,n=m+1:=⟨n-1,by omega⟩
   have f:i<a.length:=by omega
   show j3S a b _ _ _ _=_
   unfold j3S
   rw [ZaQ f,cond_true,List.drop_eq_getElem_cons f]
   by_cases g:i<b.length
   ·rw [ZaQ g,cond_true,j00 f,cond_true,j00 g,cond_true,List.drop_eq_getElem_cons g,Zay _ _ _ f,Zay _ _ _ g,cond_true,cond_true,jpM,j01 (n:=(i:Int)+1) (by omega)]
    show (bif !veq a[i] b[i] then _ else _)=k (bif veq a[i] b[i] then _ else _)
    cases veq a[i] b[i]
    ·rfl
    ·exact r (i+1) n (by omega) (by omega) (by omega)
   ·have:i=b.length:=by omega
    subst this
    rw [ZaP,cond_false,List.drop_length]
    show k (decide (nI a.length<nI b.length))=_
    rw [decide_eq_false (show ¬ nI a.length<nI b.length by unfold nI;omega)]
    rfl
 exact h a.length 0 Z1c (by omega) (Z2b (by omega)) (by omega)
theorem j1F (t:T) (h:msr yT t<=1048576) (ht:j08 t=true) (r:List V) (m:r.length=t.2.1.length) (k:List V->Res):j0m t r k=k (j06 t r):=by
 obtain ⟨p,q,w,y,z⟩:=j1l h
 unfold j0m jhR
 have g:=j19 t.2.2 (-1) (by omega) (j0R ht).2.2.2.2.2
 have:=Z9T t.2.2 (λi b=>(b,i)) (λn=>[nth zV r (j02 t.2.1 n)]) 1048576 [] (step:=jb6 t.2.2 (nI t.2.2.length) t r) (λb=>k b) (λb=>k b) (by unfold LIM;omega) (λi d _=>by
  rw [jai,List.nil_append,List.length_map,List.length_take];omega) (by simp) (λi b rec d l _=>by
  show j5D _ _ t r _ _ _ _=_
  unfold j5D
  have f:=g _ (List.getElem_mem d)
  have j:b.length=i:=by
   rw [l,jai,List.nil_append,List.length_map,List.length_take];omega
  dsimp only
  rw [ZaQ d,cond_true,j00 d,cond_true,Zay _ _ _ d,j8s t _ (by unfold LIM;omega),ZaK f.1 (by omega),cond_true,ZaL (by unfold LIM;omega),cond_true,j01 (n:=(i:Int)+1) (by omega)]) (λb rec=>by
  show j5D _ _ t r _ _ _ _=_
  unfold j5D
  dsimp only
  rw [ZaP,cond_false])
 refine this.trans ?_
 rw [jai,List.nil_append]
 rfl
theorem jc4 (a b:List V) (j:a.length<=LIM) (k:Bool->Res):j4q a b k=k (klt a b):=by
 unfold j4q jfn
 unfold LIM at j
 have h:∀ (d i n:Nat),i+d=a.length->d<n->i<=b.length->Z1f (j9z a b) n (i:Int) ((λ(_:Unit)=>k (decide (nI a.length<nI b.length))),(λ(t:Bool)=>k t))=k (klt (a.drop i) (b.drop i)):=by
  intro d
  induction d with
  | zero=>
   intro i n p q l
   obtain ⟨n,rfl⟩:∃ m,n=m+1:=⟨n-1,by omega⟩
   have:i=a.length:=by omega
   subst this
   show j3B a b _ _ _ _=_
   unfold j3B
   rw [ZaP,cond_false,List.drop_length]
   show k (decide (nI a.length<nI b.length))=_
   by_cases g:a.length<b.length
   ·rw [List.drop_eq_getElem_cons g,decide_eq_true (show nI a.length<nI b.length by unfold nI;omega)]
    rfl
   ·rw [List.drop_of_length_le (by omega),decide_eq_false (show ¬ nI a.length<nI b.length by unfold nI;omega)]
    rfl
  | succ d r=>
   intro i n p q l
   obtain ⟨n,rfl⟩:∃ m,n=m+1:=⟨n-1,by omega⟩
   have f:i<a.length:=by omega
   show j3B a b _ _ _ _=_
   unfold j3B
   rw [ZaQ f,cond_true,List.drop_eq_getElem_cons f]
   by_cases g:i<b.length
   ·rw [ZaQ g,cond_true,j00 f,cond_true,j00 g,cond_true,List.drop_eq_getElem_cons g,Zay _ _ _ f,Zay _ _ _ g,cond_true,cond_true,jpE,j01 (n:=(i:Int)+1) (by omega)]
    show (bif !veq a[i] b[i] then _ else _)=k (bif veq a[i] b[i] then _ else _)
    cases veq a[i] b[i]
    ·rfl
    ·exact r (i+1) n (by omega) (by omega) (by omega)
   ·have:i=b.length:=by omega
    subst this
    rw [ZaP,cond_false,List.drop_length]
    show k (decide (nI a.length<nI b.length))=_
    rw [decide_eq_false (show ¬ nI a.length<nI b.length by unfold nI;omega)]
    rfl
 exact h a.length 0 Z1c (by omega) (Z2b (by omega)) (by omega)
theorem j4g (t:T) (h:msr yT t<=1048576) (l:List (List V)) (k:Bool->Res):j0q t l k=k (j07 t l):=by
 obtain ⟨B,C,D,E,F⟩:=j1l h
 unfold j0q j07
 rw [j9o t h]
 cases ht:j08 t
 ·rfl
 ·rw [Bool.not_true,cond_false,Bool.true_and]
  by_cases q:l.length<=60
  ·rw [decide_eq_false (show ¬ nI l.length>60 by unfold nI;omega),cond_false,decide_eq_true q,Bool.true_and]
   unfold jcl
   have:=jn0 l (λi=>i) (λi r=> !j0t t.2.1 r||(decide (0<i)&& !klt (j06 t (nth [] l ((i:Int)-1))) (j06 t r))) (λi=>∀ (j:Nat) (g:j<l.length),j<i->j0t t.2.1 l[j]=true) (step:=j4T l l (nI l.length) t) ((λ(_:Unit)=>k true),(λ(_:Unit)=>k false)) (k true) (k false) (by unfold LIM;omega) (λj _ g=>absurd g (by omega)) (λi f m w j g z=>by
    rw [Bool.or_eq_false_iff,Bool.not_eq_false'] at w
    by_cases d:j<i
    ·exact m j g d
    ·have:j=i:=by omega
     subst this
     exact w.1) (λi rec f m=>by
    show j2H l _ _ t _ _ _ _=_
    unfold j2H
    rw [ZaQ f,cond_true,j00 f,cond_true,Zay _ _ _ f,jhn t h]
    rw [ht,Bool.true_and]
    cases A:j0t t.2.1 l[i]
    ·rfl
    ·rw [Bool.not_true,cond_false,Bool.false_or,j01 (n:=(i:Int)+1) (by omega)]
     by_cases p:0<i
     ·have b:i-1<l.length:=by omega
      have y:((i:Int)-1)=((i-1:Nat):Int):=by omega
      rw [decide_eq_true (show (i:Int)>0 by omega),cond_true,decide_eq_true p,Bool.true_and,j01 (n:=(i:Int)-1) (by omega),y,j00 b,cond_true,Zay _ _ _ b,j1G t h ht _ (j0g (m _ b (by omega))),j1G t h ht _ (j0g A),jgN _ _ (by rw [j8z];unfold LIM;omega)]
     ·rw [decide_eq_false (show ¬ (i:Int)>0 by omega),cond_false,decide_eq_false p,Bool.false_and,cond_false]) (λrec=>by
    show j2H l _ _ t _ _ _ _=_
    unfold j2H
    rw [ZaP,cond_false])
   refine this.trans ?_
   cases Z71 (λi r=> !j0t t.2.1 r||(decide (0<i)&& !klt (j06 t (nth [] l ((i:Int)-1))) (j06 t r))) 0 l<;>rfl
  ·rw [decide_eq_true (show nI l.length>60 by unfold nI;omega),cond_true,decide_eq_false q,Bool.false_and]
theorem j9U (t:T) (h:msr yT t<=1048576) (l:List (List V)) (k:Bool->Res):j0V t l k=k (j07 t l):=by
 obtain ⟨B,C,D,E,F⟩:=j1l h
 unfold j0V j07
 rw [jh9 t h]
 cases ht:j08 t
 ·rfl
 ·rw [Bool.not_true,cond_false,Bool.true_and]
  by_cases q:l.length<=60
  ·rw [decide_eq_false (show ¬ nI l.length>60 by unfold nI;omega),cond_false,decide_eq_true q,Bool.true_and]
   unfold jc6
   have:=jn0 l (λi=>i) (λi r=> !j0t t.2.1 r||(decide (0<i)&& !klt (j06 t (nth [] l ((i:Int)-1))) (j06 t r))) (λi=>∀ (j:Nat) (g:j<l.length),j<i->j0t t.2.1 l[j]=true) (step:=j4r l l (nI l.length) t) ((λ(_:Unit)=>k true),(λ(_:Unit)=>k false)) (k true) (k false) (by unfold LIM;omega) (λj _ g=>absurd g (by omega)) (λi f m w j g z=>by
    rw [Bool.or_eq_false_iff,Bool.not_eq_false'] at w
    by_cases d:j<i
    ·exact m j g d
    ·have:j=i:=by omega
     subst this
     exact w.1) (λi rec f m=>by
    show j2B l _ _ t _ _ _ _=_
    unfold j2B
    rw [ZaQ f,cond_true,j00 f,cond_true,Zay _ _ _ f,jh8 t h]
    cases A:j0t t.2.1 l[i]
    ·rfl
    ·rw [Bool.not_true,cond_false,Bool.false_or,j01 (n:=(i:Int)+1) (by omega)]
     by_cases p:0<i
     ·have b:i-1<l.length:=by omega
      have y:((i:Int)-1)=((i-1:Nat):Int):=by omega
      rw [decide_eq_true (show (i:Int)>0 by omega),cond_true,decide_eq_true p,Bool.true_and,j01 (n:=(i:Int)-1) (by omega),y,j00 b,cond_true,Zay _ _ _ b,j1F t h ht _ (j0g (m _ b (by omega))),j1F t h ht _ (j0g A),jc4 _ _ (by rw [j8z];unfold LIM;omega)]
     ·rw [decide_eq_false (show ¬ (i:Int)>0 by omega),cond_false,decide_eq_false p,Bool.false_and,cond_false]) (λrec=>by
    show j2B l _ _ t _ _ _ _=_
    unfold j2B
    rw [ZaP,cond_false])
   refine this.trans ?_
   cases Z71 (λi r=> !j0t t.2.1 r||(decide (0<i)&& !klt (j06 t (nth [] l ((i:Int)-1))) (j06 t r))) 0 l<;>rfl
  ·rw [decide_eq_true (show nI l.length>60 by unfold nI;omega),cond_true,decide_eq_false q,Bool.false_and]
theorem j04 {t:T} {l:List (List V)} (h:j07 t l=true):j08 t=true/\l.length<=60/\∀ r∈l,j0t t.2.1 r=true:=by
 unfold j07 at h
 simp only [Bool.and_eq_true,decide_eq_true_eq,Bool.not_eq_true'] at h
 refine ⟨h.1,h.2.1,λr d=> ?_⟩
 obtain ⟨i,b,rfl⟩:=List.getElem_of_mem d
 have:=j7e l 0 h.2.2 i b
 simp only [Bool.or_eq_false_iff,Bool.not_eq_false'] at this
 exact this.1
end Go.PI.G
namespace Go.PI.G
open Go Go.PI
def free (b:Int) (s:ByteArray):Prop:=b ∉ Z1n s
theorem jhp {s:ByteArray} (h:j0u s=true):1<=s.size/\s.size<=8:=by
 unfold j0u at h
 simp only [Bool.and_eq_true,decide_eq_true_eq] at h
 exact h.2
end Go.PI.G
namespace Go.PI.G
open Go Go.PI
abbrev D:=Int×ByteArray×List C×List ByteArray×ByteArray×ByteArray
abbrev ST:=Int×ByteArray×List V×List V×D
abbrev yD:Ty:= .pair (.int .i64) (.pair .str (.pair (.slice yC) (.pair (.slice .str) (.pair .str .str))))
abbrev yST:Ty:= .pair (.int .i64) (.pair .str (.pair (.slice yV) (.pair (.slice yV) yD)))
abbrev zD:D:=(0,eS,[],[],eS,eS)
theorem jom:∃ m,Z1c=m+1:=⟨Z1c-1,by have:=Z2b (n:=1) (by omega);omega⟩
theorem j9l (n:Nat):(nI n==0)=(n==0):=by
 unfold nI
 cases n with
 | zero=>rfl
 | succ n=>show ((((n+1:Nat):Int))==0)=false;simp;omega
theorem jrb (n:Nat):(nI n==1)=(n==1):=by
 unfold nI
 by_cases h:n=1
 ·subst h;rfl
 ·have b:(n==1)=false:=by simp [h]
  have d:((n:Int)==1)=false:=by simp;omega
  rw [b,d]
theorem jqu (m n:Nat):(nI m != nI n)= !(m==n):=by
 unfold nI
 by_cases h:m=n
 ·subst h;simp
 ·have b:(m==n)=false:=by simp [h]
  have d:((m:Int) != n)=true:=by simp;omega
  rw [b,d];rfl
def noD (d:D):Bool:=(d.1==0)&&(sEq d.2.1 eS&&((d.2.2.1.length==0)&&((d.2.2.2.1.length==0)&&(sEq d.2.2.2.2.1 eS&&sEq d.2.2.2.2.2 eS))))
def jcU (d:D):Bool:=(d.2.2.1.length==0)&&(d.2.2.2.1.length==0)
noncomputable def j1f (d:D):Bool:=j0u d.2.1 &&
 (bif d.1==1 then sEq d.2.2.2.2.1 eS&&(sEq d.2.2.2.2.2 eS&&j08 (d.2.1,d.2.2.1,d.2.2.2.1))
  else bif d.1==2 then jcU d&&(sEq d.2.2.2.2.1 eS&&sEq d.2.2.2.2.2 eS)
  else bif d.1==3 then (d.2.2.1.length==1)&&(j1e (nth zC d.2.2.1 0)&&(((nth zC d.2.2.1 0).2.2.2.1|| !(nth zC d.2.2.1 0).2.2.1)&&((d.2.2.2.1.length==0)&&(sEq d.2.2.2.2.1 eS&&sEq d.2.2.2.2.2 eS))))
  else bif d.1==4 then jcU d&&(j0u d.2.2.2.2.1&&sEq d.2.2.2.2.2 eS)
  else bif d.1==5 then jcU d&&(j0u d.2.2.2.2.1&&j0u d.2.2.2.2.2)
  else false)
def j3s (l:List V):Bool:=l.all j0w&&(decide (1<=l.length)&&decide (l.length<=8))
noncomputable def stB (s:ST):Bool:=j0u s.2.1 &&
 (bif s.1==1 then (s.2.2.1.length==0)&&(j3s s.2.2.2.1&&noD s.2.2.2.2)
  else bif s.1==2 then j3s s.2.2.1&&(j3s s.2.2.2.1&&noD s.2.2.2.2)
  else bif s.1==3 then j3s s.2.2.1&&((s.2.2.2.1.length==0)&&noD s.2.2.2.2)
  else bif s.1==4 then (s.2.2.1.length==0)&&((s.2.2.2.1.length==0)&&noD s.2.2.2.2)
  else bif s.1==5 then (s.2.2.1.length==0)&&((s.2.2.2.1.length==0)&&(j1f s.2.2.2.2&&sEq s.2.2.2.2.2.1 s.2.1))
  else false)
def dSm (d:D):Prop:=d.2.1.size<=1048576/\d.2.2.1.length<=1048576/\d.2.2.2.1.length<=1048576/\(∀ c∈d.2.2.1,c.1.size<=1048576)/\(∀ x∈d.2.2.2.1,x.size<=1048576)/\d.2.2.2.2.1.size<=1048576/\d.2.2.2.2.2.size<=1048576
def jj9 (s:ST):Prop:=s.2.1.size<=1048576/\s.2.2.1.length<=1048576/\s.2.2.2.1.length<=1048576/\dSm s.2.2.2.2
theorem jji (d:D):noD d=true↔d=zD:=by
 obtain ⟨a,b,c,e,f,g⟩:=d
 unfold noD
 simp only [Bool.and_eq_true,beq_iff_eq,j0d,Prod.mk.injEq,List.length_eq_zero_iff]
theorem j98 {d:D} (h:j1f d=true):j0u d.2.1=true /\
  ((∃ t cs ks,d=(1,t,cs,ks,eS,eS)/\j08 (t,cs,ks)=true)\/(∃ t,d=(2,t,[],[],eS,eS))\/(∃ t c,d=(3,t,[c],[],eS,eS)/\j1e c=true) \/
   (∃ t n,d=(4,t,[],[],n,eS)/\j0u n=true)\/∃ t n m,d=(5,t,[],[],n,m)/\j0u n=true/\j0u m=true):=by
 obtain ⟨k,t,cs,ks,n,m⟩:=d
 unfold j1f jcU at h
 dsimp only at h ⊢
 rw [Bool.and_eq_true] at h
 refine ⟨h.1,?_⟩
 have h:=h.2
 cases g:k==1
 ·cases i:k==2
  ·cases j:k==3
   ·cases l:k==4
    ·cases p:k==5
     ·rw [g,i,j,l,p] at h;cases h
     ·rw [g,i,j,l,p] at h
      simp only [cond_false,cond_true,Bool.and_eq_true,beq_iff_eq] at h p
      obtain ⟨⟨a,b⟩,c,e⟩:=h
      rw [List.length_eq_zero_iff] at a b
      subst a;subst b;subst p
      exact .inr (.inr (.inr (.inr ⟨t,n,m,rfl,c,e⟩)))
    ·rw [g,i,j,l] at h
     simp only [cond_false,cond_true,Bool.and_eq_true,beq_iff_eq,j0d] at h l
     obtain ⟨⟨a,b⟩,c,e⟩:=h
     rw [List.length_eq_zero_iff] at a b
     subst a;subst b;subst l;subst e
     exact .inr (.inr (.inr (.inl ⟨t,n,rfl,c⟩)))
   ·rw [g,i,j] at h
    simp only [cond_false,cond_true,Bool.and_eq_true,beq_iff_eq,j0d] at h j
    obtain ⟨a,b,_,c,e,f⟩:=h
    obtain ⟨c0,rfl⟩:=List.length_eq_one_iff.1 a
    rw [List.length_eq_zero_iff] at c
    subst c;subst j;subst e;subst f
    exact .inr (.inr (.inl ⟨t,c0,rfl,b⟩))
  ·rw [g,i] at h
   simp only [cond_false,cond_true,Bool.and_eq_true,beq_iff_eq,j0d] at h i
   obtain ⟨⟨a,b⟩,e,f⟩:=h
   rw [List.length_eq_zero_iff] at a b
   subst a;subst b;subst i;subst e;subst f
   exact .inr (.inl ⟨t,rfl⟩)
 ·rw [g] at h
  simp only [cond_true,Bool.and_eq_true,beq_iff_eq,j0d] at h g
  obtain ⟨e,f,a⟩:=h
  subst g;subst e;subst f
  exact .inl ⟨t,cs,ks,rfl,a⟩
theorem jrh {s:ST} (h:stB s=true):j0u s.2.1=true /\
  ((∃ t r,s=(1,t,[],r,zD)/\j3s r=true)\/(∃ t q r,s=(2,t,q,r,zD)/\j3s q=true/\j3s r=true)\/(∃ t q,s=(3,t,q,[],zD)/\j3s q=true) \/
   (∃ t,s=(4,t,[],[],zD))\/∃ d:D,s=(5,d.2.1,[],[],d)/\j1f d=true):=by
 obtain ⟨k,t,q,r,d⟩:=s
 unfold stB at h
 dsimp only at h ⊢
 rw [Bool.and_eq_true] at h
 refine ⟨h.1,?_⟩
 have h:=h.2
 cases f:k==1
 ·cases g:k==2
  ·cases i:k==3
   ·cases j:k==4
    ·cases l:k==5
     ·rw [f,g,i,j,l] at h;cases h
     ·rw [f,g,i,j,l] at h
      simp only [cond_false,cond_true,Bool.and_eq_true,beq_iff_eq,j0d] at h l
      obtain ⟨a,b,c,e⟩:=h
      rw [List.length_eq_zero_iff] at a b
      subst a;subst b;subst l;subst e
      exact .inr (.inr (.inr (.inr ⟨d,rfl,c⟩)))
    ·rw [f,g,i,j] at h
     simp only [cond_false,cond_true,Bool.and_eq_true,beq_iff_eq,jji] at h j
     obtain ⟨a,b,c⟩:=h
     rw [List.length_eq_zero_iff] at a b
     subst a;subst b;subst j;subst c
     exact .inr (.inr (.inr (.inl ⟨t,rfl⟩)))
   ·rw [f,g,i] at h
    simp only [cond_false,cond_true,Bool.and_eq_true,beq_iff_eq,jji] at h i
    obtain ⟨a,b,c⟩:=h
    rw [List.length_eq_zero_iff] at b
    subst b;subst i;subst c
    exact .inr (.inr (.inl ⟨t,q,rfl,a⟩))
  ·rw [f,g] at h
   simp only [cond_false,cond_true,Bool.and_eq_true,beq_iff_eq,jji] at h g
   obtain ⟨a,b,c⟩:=h
   subst g;subst c
   exact .inr (.inl ⟨t,q,r,rfl,a,b⟩)
 ·rw [f] at h
  simp only [cond_true,Bool.and_eq_true,beq_iff_eq,jji] at h f
  obtain ⟨a,b,c⟩:=h
  rw [List.length_eq_zero_iff] at a
  subst a;subst f;subst c
  exact .inl ⟨t,r,rfl,b⟩
end Go.PI.G
namespace Go.PI.G
open Go Go.PI
theorem jsk {v:V} (h:j0w v=true):msr yV v<=30:=by
 have e:msr yV v=0+(0+v.2.2.size):=rfl
 have:=jnr h
 omega
theorem jaR {e:Ty} (c:Nat):(l:List (El e))->(∀ x∈l,msr e x<=c)->msr (.slice e) l<=l.length * (c+1)
 | [],_=>Nat.zero_le _
 | x::l,h=>by
  have b:=jaR c l λy d=>h y (List.mem_cons_of_mem _ d)
  have f:=h x (by simp)
  rw [jcT] at b ⊢
  simp only [List.map_cons,List.sum_cons,List.length_cons]
  rw [Nat.succ_mul]
  omega
theorem jrP {c:C} (h:j1e c=true):msr yC c<=38:=by
 have e:msr yC c=c.1.size+(0+(0+(0+msr yV c.2.2.2.2))):=rfl
 unfold j1e at h
 simp only [Bool.and_eq_true] at h
 have b:=jhp h.1
 have d:=jsk h.2.2.1
 omega
theorem jqQ {l:List C} (h:j5t l=true) {c:C} (b:c∈l):j1e c=true:=by
 obtain ⟨i,d,rfl⟩:=List.getElem_of_mem b
 exact jn3 h i d
theorem jqP {l:List C} {n:ByteArray} (h:0<=j02 l n):∃ c∈l,c.1=n:=by
 unfold j02 Z9F at h
 cases b:List.findIdx? (λc:C=>sEq c.1 n) l with
 | none=>rw [b] at h;dsimp only at h;omega
 | some i=>
  obtain ⟨d,f,_⟩:=List.findIdx?_eq_some_iff_getElem.1 b
  exact ⟨l[i],List.getElem_mem d,(j0d _ _).1 f⟩
theorem jna {l:List C}:(ks:List ByteArray)->(b:Int)->b<(l.length:Int)->j18 l b ks=true->b+(ks.length:Int)<(l.length:Int)
 | [],b,d,_=>by simpa using d
 | q::ks,b,d,h=>by
  simp only [j18,Bool.and_eq_true,Bool.not_eq_true',decide_eq_false_iff_not] at h
  have f:=jna ks (j02 l q) (j7K l q).2 h.2.2
  rw [List.length_cons]
  omega
theorem jrR {t:ByteArray} {cs:List C} {ks:List ByteArray} (h:j08 (t,cs,ks)=true):t.size<=8/\msr (.slice yC) cs<=312/\msr (.slice .str) ks<=72:=by
 have b:=j0R h
 dsimp only at b
 have d:∀ c∈cs,j1e c=true:=λc d=>jqQ b.2.2.2.2.1 d
 have m:=jaR (e:=yC) 38 cs λc h=>jrP (d c h)
 have n:cs.length * 39<=8 * 39:=Nat.mul_le_mul_right _ b.2.2.1
 have j:=j19 ks (-1) (by omega) b.2.2.2.2.2
 have r:=jna ks (-1) (by omega) b.2.2.2.2.2
 have p:=jaR (e:= .str) 8 ks λk l=>by
  obtain ⟨c,g,i⟩:=jqP (j k l).1
  have f:=d c g
  unfold j1e at f
  rw [Bool.and_eq_true] at f
  have:=(jhp f.1).2
  rw [i] at this
  exact this
 have q:ks.length * 9<=8 * 9:=Nat.mul_le_mul_right _ (by omega)
 exact ⟨(jhp b.1).2,by omega,by omega⟩
end Go.PI.G
namespace Go.PI.G
open Go Go.PI
theorem jn1:(x:List UInt8)->Op.bytesLess x x=false
 | []=>rfl
 | a::x=>by simp [Op.bytesLess,jn1 x]
theorem jou:(x y z:List UInt8)->Op.bytesLess x y=true->Op.bytesLess y z=true->Op.bytesLess x z=true
 | _,_,[],_,h=>by simp [Op.bytesLess] at h
 | _,[],_::_,h,_=>by simp [Op.bytesLess] at h
 | [],_::_,_::_,_,_=>by simp [Op.bytesLess]
 | a::x,b::y,c::z,h,k=>by
  simp only [Op.bytesLess,Bool.or_eq_true,Bool.and_eq_true,decide_eq_true_eq,beq_iff_eq] at h k ⊢
  rcases h with h | ⟨rfl,h⟩
  ·rcases k with k | ⟨rfl,k⟩
   ·exact .inl (UInt8.lt_trans h k)
   ·exact .inl h
  ·rcases k with k | ⟨rfl,k⟩
   ·exact .inl k
   ·exact .inr ⟨rfl,jou x y z h k⟩
theorem jot:(x y:List UInt8)->x≠y->Op.bytesLess x y=true\/Op.bytesLess y x=true
 | [],[],h=>absurd rfl h
 | [],_::_,_=> .inl (by simp [Op.bytesLess])
 | _::_,[],_=> .inr (by simp [Op.bytesLess])
 | a::x,b::y,h=>by
  simp only [Op.bytesLess,Bool.or_eq_true,Bool.and_eq_true,decide_eq_true_eq,beq_iff_eq]
  by_cases f:a=b
  ·subst f
   rcases jot x y (λe=>h (by rw [e])) with d | d
   ·exact .inl (.inr ⟨rfl,d⟩)
   ·exact .inr (.inr ⟨rfl,d⟩)
  ·rcases UInt8.lt_or_lt_of_ne f with d | d
   ·exact .inl (.inl d)
   ·exact .inr (.inl d)
theorem toList_inj {a b:ByteArray} (h:a.toList=b.toList):a=b:=(j0d a b).1 (by unfold sEq;rw [h];simp)
theorem je1 (a:ByteArray):sLt a a=false:=jn1 _
theorem jfw {a b c:ByteArray} (h:sLt a b=true) (k:sLt b c=true):sLt a c=true:=jou _ _ _ h k
theorem jiV {a b:ByteArray} (h:a≠b):sLt a b=true\/sLt b a=true:=jot _ _ λe=>h (toList_inj e)
theorem jrg {a b:ByteArray} (h:sLt a b=true):a≠b:=λe=>by rw [e,je1] at h;cases h
theorem jrf {a b:ByteArray} (h:sLt a b=true):sLt b a=false:=by
 cases d:sLt b a with
 | false=>rfl
 | true=>rw [<-je1 a];exact (jfw h d).symm
theorem jjl (a b:V):vlt a b=true↔j0w a=true/\j0w b=true/\(a.1<b.1\/(a.1=b.1/\(a.2.1<b.2.1\/(a.2.1=b.2.1/\sLt a.2.2 b.2.2=true)))):=by
 unfold vlt
 simp only [Bool.and_eq_true]
 refine and_congr_right λ_=>and_congr_right λ_=> ?_
 by_cases d:a.1=b.1
 ·rw [d,ZaO,cond_false]
  by_cases f:a.2.1=b.2.1
  ·rw [f,ZaO,cond_false]
   simp
  ·rw [show (a.2.1 != b.2.1)=true by simp [f],cond_true]
   simp [f]
 ·rw [show (a.1 != b.1)=true by simp [d],cond_true]
  simp [d]
theorem jqJ (a:V):vlt a a=false:=by
 cases h:vlt a a with
 | false=>rfl
 | true=>
  have:=(jjl a a).1 h
  rw [je1] at this
  rcases this.2.2 with h | ⟨_,h | ⟨_,h⟩⟩
  ·omega
  ·omega
  ·cases h
theorem jrs {a b c:V} (h:vlt a b=true) (k:vlt b c=true):vlt a c=true:=by
 rw [jjl] at h k ⊢
 obtain ⟨g,_,h⟩:=h
 obtain ⟨_,i,k⟩:=k
 refine ⟨g,i,?_⟩
 rcases h with h | ⟨j,h⟩
 ·rcases k with k | ⟨d,k⟩
  ·exact .inl (by omega)
  ·exact .inl (by omega)
 ·rcases k with k | ⟨d,k⟩
  ·exact .inl (by omega)
  ·refine .inr ⟨by omega,?_⟩
   rcases h with h | ⟨l,h⟩
   ·rcases k with k | ⟨f,k⟩
    ·exact .inl (by omega)
    ·exact .inl (by omega)
   ·rcases k with k | ⟨f,k⟩
    ·exact .inl (by omega)
    ·exact .inr ⟨by omega,jfw h k⟩
theorem jrr {a b:V} (d:j0w a=true) (f:j0w b=true) (h:a≠b):vlt a b=true\/vlt b a=true:=by
 rw [jjl,jjl]
 by_cases g:a.1=b.1
 ·by_cases j:a.2.1=b.2.1
  ·have i:a.2.2≠b.2.2:=λe=>h (Prod.ext g (Prod.ext j e))
   rcases jiV i with k | k
   ·exact .inl ⟨d,f,.inr ⟨g,.inr ⟨j,k⟩⟩⟩
   ·exact .inr ⟨f,d,.inr ⟨g.symm,.inr ⟨j.symm,k⟩⟩⟩
  ·by_cases i:a.2.1<b.2.1
   ·exact .inl ⟨d,f,.inr ⟨g,.inl i⟩⟩
   ·exact .inr ⟨f,d,.inr ⟨g.symm,.inl (by omega)⟩⟩
 ·by_cases i:a.1<b.1
  ·exact .inl ⟨d,f,.inl i⟩
  ·exact .inr ⟨f,d,.inl (by omega)⟩
theorem jpo (a:V):veq a a=true:=(jgT a a).2 rfl
theorem jqI {a b:V} (h:a≠b):veq a b=false:=by
 cases d:veq a b with
 | false=>rfl
 | true=>exact absurd ((jgT a b).1 d) h
theorem jhb:(a:List V)->klt a a=false
 | []=>rfl
 | x::a=>by show (bif veq x x then klt a a else vlt x x)=false;rw [jpo,cond_true];exact jhb a
theorem jfp:(a b c:List V)->klt a b=true->klt b c=true->klt a c=true
 | _,[],_,h,k=>by
  rename_i a c
  cases a<;>cases h
 | _,_::_,[],h,k=>by cases k
 | [],_::_,_::_,h,k=>rfl
 | x::a,y::b,z::c,h,k=>by
  change (bif veq x y then klt a b else vlt x y)=true at h
  change (bif veq y z then klt b c else vlt y z)=true at k
  show (bif veq x z then klt a c else vlt x z)=true
  cases f:veq x y
  ·rw [f,cond_false] at h
   cases d:veq y z
   ·rw [d,cond_false] at k
    have g:=jrs h k
    rw [jqI λe=>by rw [e,jqJ] at g;cases g]
    exact g
   ·have e:=(jgT y z).1 d
    subst e
    rw [f];exact h
  ·have e:=(jgT x y).1 f
   subst e
   rw [f,cond_true] at h
   cases d:veq x z
   ·rw [d,cond_false] at k;exact k
   ·rw [d,cond_true] at k
    rw [cond_true]
    exact jfp a b c h k
theorem jnb:(a b:List V)->(∀ v∈a,j0w v=true)->(∀ v∈b,j0w v=true)->a≠b->klt a b=true\/klt b a=true
 | [],[],_,_,h=>absurd rfl h
 | [],_::_,_,_,_=> .inl rfl
 | _::_,[],_,_,_=> .inr rfl
 | x::a,y::b,g,i,h=>by
  show (bif veq x y then klt a b else vlt x y)=true\/(bif veq y x then klt b a else vlt y x)=true
  by_cases d:x=y
  ·subst d
   rw [jpo,cond_true,cond_true]
   exact jnb a b (λv f=>g v (List.mem_cons_of_mem _ f)) (λv f=>i v (List.mem_cons_of_mem _ f)) λe=>h (by rw [e])
  ·rw [jqI d,jqI (Ne.symm d),cond_false,cond_false]
   exact jrr (g x (by simp)) (i y (by simp)) d
theorem jr7 {a b:List V} (h:klt a b=true):a≠b:=λe=>by rw [e,jhb] at h;cases h
theorem jr6 {a b:List V} (h:klt a b=true):klt b a=false:=by
 cases d:klt b a with
 | false=>rfl
 | true=>rw [<-jhb a];exact (jfp a b a h d).symm
theorem jag {α:Type} {f:Nat->α->Bool}:(l:List α)->(i:Nat)->(Z71 f i l=false↔∀ (j:Nat) (h:j<l.length),f (i+j) l[j]=false)
 | [],_=>⟨λ_ j h=>by simp at h,λ_=>rfl⟩
 | x::l,i=>by
  refine ⟨j7e (x::l) i,λh=> ?_⟩
  simp only [Z71,Bool.or_eq_false_iff]
  refine ⟨h 0 (by simp),(jag l (i+1)).2 λj b=> ?_⟩
  have:=h (j+1) (by simpa using b)
  rw [show i+1+j=i+(j+1) by omega]
  simpa using this
theorem jrp {α:Type} (z:α) (R:α->α->Bool) (r:∀ a b c,R a b=true->R b c=true->R a c=true) (l:List α) :
  (∀ (j:Nat) (h:j<l.length),(decide (0<j)&& !R (nth z l ((j:Int)-1)) l[j])=false)↔l.Pairwise λa b=>R a b=true:=by
 rw [List.pairwise_iff_getElem]
 constructor
 ·intro h i j f g p
  have step:∀ (d i:Nat) (f:i+d+1<l.length),R l[i] l[i+d+1]=true:=by
   intro d
   induction d with
   | zero=>
    intro i f
    have:=h (i+1) (by omega)
    rw [show ((i+1:Nat):Int)-1=(i:Int) by omega,Zay _ _ _ (by omega)] at this
    simpa using this
   | succ d q=>
    intro i f
    have m:=q i (by omega)
    have:=h (i+d+2) (by omega)
    rw [show ((i+d+2:Nat):Int)-1=((i+d+1:Nat):Int) by omega,Zay _ _ _ (by omega)] at this
    have n:R l[i+d+1] l[i+d+2]=true:=by simpa using this
    exact r _ _ _ m n
  have:=step (j-i-1) i (by omega)
  have e:i+(j-i-1)+1=j:=by omega
  simp only [e] at this
  exact this
 ·intro h j g
  by_cases k:0<j
  ·have e:((j:Int)-1)=((j-1:Nat):Int):=by omega
   rw [e,Zay _ _ _ (by omega),h (j-1) j (by omega) g (by omega)]
   simp
  ·rw [decide_eq_false k];rfl
theorem j0k (c:List T):j25 c=true↔c.length<=6/\(∀ t∈c,j08 t=true)/\c.Pairwise λa b=>sLt a.1 b.1=true:=by
 unfold j25
 rw [Bool.and_eq_true,decide_eq_true_eq,Bool.not_eq_true',jag]
 refine and_congr_right λ_=> ?_
 rw [<-jrp zT (λa b:T=>sLt a.1 b.1) (λa b c=>jfw)]
 constructor
 ·intro h
  refine ⟨λt ht=> ?_,λj d=> ?_⟩
  ·obtain ⟨j,d,rfl⟩:=List.getElem_of_mem ht
   have:=h j d
   simp only [Bool.or_eq_false_iff,Bool.not_eq_false'] at this
   exact this.1
  ·have:=h j d
   rw [Nat.zero_add] at this
   rw [Bool.or_eq_false_iff] at this
   exact this.2
 ·rintro ⟨f,g⟩ j d
  rw [Nat.zero_add,f _ (List.getElem_mem d)]
  exact g j d
theorem j79 (t:T) (l:List (List V)):j07 t l=true↔j08 t=true/\l.length<=60/\(∀ r∈l,j0t t.2.1 r=true)/\l.Pairwise λa b=>klt (j06 t a) (j06 t b)=true:=by
 unfold j07
 rw [Bool.and_eq_true,Bool.and_eq_true,decide_eq_true_eq,Bool.not_eq_true',jag]
 refine and_congr_right λ_=>and_congr_right λ_=> ?_
 rw [<-jrp [] (λa b:List V=>klt (j06 t a) (j06 t b)) (λa b c=>jfp _ _ _)]
 constructor
 ·intro h
  refine ⟨λr i=> ?_,λj d=> ?_⟩
  ·obtain ⟨j,d,rfl⟩:=List.getElem_of_mem i
   have:=h j d
   simp only [Bool.or_eq_false_iff,Bool.not_eq_false'] at this
   exact this.1
  ·have:=h j d
   rw [Nat.zero_add] at this
   rw [Bool.or_eq_false_iff] at this
   exact this.2
 ·rintro ⟨f,g⟩ j d
  rw [Nat.zero_add,f _ (List.getElem_mem d)]
  exact g j d
theorem j2c (d:DB):dbB d=true↔j25 d.1=true/\d.2.length=d.1.length/\∀ (i:Nat) (h:i<d.1.length) (j:i<d.2.length),j07 d.1[i] d.2[i]=true:=by
 unfold dbB
 rw [Bool.and_eq_true,Bool.and_eq_true,decide_eq_true_eq,Bool.not_eq_true',jag]
 refine and_congr_right λ_=>and_congr_right λg=> ?_
 constructor
 ·intro h i b f
  have:=h i b
  rw [Nat.zero_add,Zay _ _ _ f,Bool.not_eq_false'] at this
  exact this
 ·intro h i b
  rw [Nat.zero_add,Zay _ _ _ (g ▸ b),h i b (g ▸ b)]
  rfl
theorem jir {α:Type} {p:α->Bool} {l:List α} {i:Nat} (g:i<l.length) (d:p l[i]=true) (f:∀ (j:Nat) (b:j<i),p (l[j]'(by omega))=false):Z9F p l=(i:Int):=by
 unfold Z9F
 have:l.findIdx? p=some i:=List.findIdx?_eq_some_iff_getElem.2 ⟨g,d,λj b=>by rw [f j b];decide⟩
 rw [this]
theorem jr0 {α:Type} {p:α->Bool} {l:List α} (h:∀ x∈l,p x=false):Z9F p l= -1:=by
 unfold Z9F
 have:l.findIdx? p=none:=List.findIdx?_eq_none_iff.2 h
 rw [this]
theorem jb1 {α:Type} (p:α->Bool) (l:List α):(Z9F p l= -1/\∀ x∈l,p x=false)\/∃ (i:Nat) (b:i<l.length),Z9F p l=(i:Int)/\p l[i]=true/\∀ (j:Nat) (d:j<i),p (l[j]'(by omega))=false:=by
 unfold Z9F
 cases h:l.findIdx? p with
 | none=>exact .inl ⟨rfl,List.findIdx?_eq_none_iff.1 h⟩
 | some i=>
  obtain ⟨b,f,g⟩:=List.findIdx?_eq_some_iff_getElem.1 h
  exact .inr ⟨i,b,rfl,f,λj d=>by simpa using g j d⟩
theorem jpX {α:Type} {p:α->Bool} {l:List α} {i:Nat} (d:i<l.length) (b:p l[i]=true) (g:∀ (j:Nat) (f:j<l.length),p l[j]=true->j=i):Z9F p l=(i:Int):=
 jir d b λj f=>by
  cases h:p (l[j]'(by omega)) with
  | false=>rfl
  | true=>exact absurd (g j (by omega) h) (by omega)
end Go.PI.G
namespace Go.PI.G
open Go Go.PI
theorem jio {l:List C} (h:l.Pairwise λa b=>a.1≠b.1) {i:Nat} (g:i<l.length):j02 l l[i].1=(i:Int):=by
 unfold j02
 refine jpX g (Zah _) λj k f=> ?_
 have f:=(j0d _ _).1 f
 rw [List.pairwise_iff_getElem] at h
 rcases Nat.lt_trichotomy i j with d | d | d
 ·exact absurd f.symm (h i j g k d)
 ·exact d.symm
 ·exact absurd f (h j i k g d)
theorem j78 (l:List C):j5t l=true↔(∀ c∈l,j1e c=true)/\l.Pairwise λa b=>a.1≠b.1:=by
 unfold j5t
 rw [Bool.not_eq_true',jag]
 constructor
 ·intro h
  refine ⟨λc k=> ?_,List.pairwise_iff_getElem.2 λi j n d p m=> ?_⟩
  ·obtain ⟨j,d,rfl⟩:=List.getElem_of_mem k
   have:=h j d
   simp only [Bool.or_eq_false_iff,Bool.not_eq_false'] at this
   exact this.1
  ·have f:=h i n
   have g:=h j d
   simp only [Bool.or_eq_false_iff,Nat.zero_add,bne_eq_false_iff_eq] at f g
   rw [m] at f
   omega
 ·rintro ⟨f,g⟩ j d
  rw [f _ (List.getElem_mem d),Nat.zero_add,jio g d]
  simp
theorem j5F (l:List C):(ks:List ByteArray)->(d:Int)->(j18 l d ks=true↔(∀ k∈ks,d<j02 l k/\(nth zC l (j02 l k)).2.2.1=true)/\ks.Pairwise λa b=>j02 l a<j02 l b)
 | [],_=>by simp [j18]
 | k::ks,d=>by
  simp only [j18,Bool.and_eq_true,Bool.not_eq_true',decide_eq_false_iff_not,j5F l ks,List.pairwise_cons,List.mem_cons,forall_eq_or_imp]
  constructor
  ·rintro ⟨j,h,g,i⟩
   exact ⟨⟨⟨by omega,h⟩,λq f=>⟨by have:=(g q f).1;omega,(g q f).2⟩⟩,λq f=>(g q f).1,i⟩
  ·rintro ⟨⟨⟨j,h⟩,g⟩,i,m⟩
   exact ⟨by omega,h,λq f=>⟨i q f,(g q f).2⟩,m⟩
theorem j7x (t:T):j08 t=true↔j0u t.1=true/\1<=t.2.1.length/\t.2.1.length<=8/\1<=t.2.2.length/\j5t t.2.1=true/\j18 t.2.1 (-1) t.2.2=true:=by
 unfold j08
 simp only [Bool.and_eq_true,decide_eq_true_eq,and_assoc]
theorem jqf {l:List C} {n:ByteArray} (h:∀ c∈l,c.1≠n):j02 l n= -1:=
 jr0 λc b=>by
  cases d:sEq c.1 n with
  | false=>rfl
  | true=>exact absurd ((j0d _ _).1 d) (h c b)
theorem j1u (l:List C) (n:ByteArray):(j02 l n= -1/\∀ c∈l,c.1≠n)\/∃ (i:Nat) (f:i<l.length),j02 l n=(i:Int)/\l[i].1=n/\∀ (j:Nat) (g:j<i),(l[j]'(by omega)).1≠n:=by
 rcases jb1 (λc:C=>sEq c.1 n) l with ⟨b,d⟩ | ⟨i,f,b,d,h⟩
 ·exact .inl ⟨b,λc k e=>by have:=d c k;rw [e,Zah] at this;cases this⟩
 ·exact .inr ⟨i,f,b,(j0d _ _).1 d,λj g e=>by have:=h j g;rw [e,Zah] at this;cases this⟩
theorem jha {l l':List C} {ks:List ByteArray} (g:ByteArray->ByteArray) (h:j18 l (-1) ks=true) (f:∀ k∈ks,0<=j02 l' (g k)/\(nth zC l' (j02 l' (g k))).2.2.1=true)
  (i:∀ a∈ks,∀ b∈ks,j02 l a<j02 l b->j02 l' (g a)<j02 l' (g b)):j18 l' (-1) (ks.map g)=true:=by
 rw [j5F] at h ⊢
 refine ⟨λk n=> ?_,?_⟩
 ·obtain ⟨q,p,rfl⟩:=List.mem_map.1 n
  have:=f q p
  exact ⟨by omega,this.2⟩
 ·rw [List.pairwise_map]
  exact h.2.imp_of_mem λj m d=>i _ j _ m d
theorem jao (l:List C) (r:List V):j0t l r=true↔r.length=l.length/\∀ (i:Nat) (b:i<l.length) (d:i<r.length),j48 l[i] r[i]=true:=by
 unfold j0t
 rw [Bool.and_eq_true,decide_eq_true_eq,Bool.not_eq_true',jag]
 refine and_congr_right λf=> ?_
 constructor
 ·intro h i b d
  have:=h i b
  rw [Nat.zero_add,Zay _ _ _ d,Bool.not_eq_false'] at this
  exact this
 ·intro h i b
  rw [Nat.zero_add,Zay _ _ _ (f ▸ b),h i b (f ▸ b)]
  rfl
def jkm (t:T) (c:C):T:=(t.1,t.2.1++[c],t.2.2)
theorem jlt {α:Type} (z:α) (l m:List α) {i:Int} (h:0<=i/\i<(l.length:Int)):nth z (l++m) i=nth z l i:=by
 obtain ⟨n,rfl⟩:∃ n:Nat,i=(n:Int):=⟨i.toNat,by omega⟩
 rw [Zay _ _ _ (by rw [List.length_append];omega),Zay _ _ _ (by omega),List.getElem_append_left (by omega)]
theorem jfi {l:List C} {c:C} {n:ByteArray} (h:0<=j02 l n):j02 (l++[c]) n=j02 l n:=by
 rcases j1u l n with ⟨b,_⟩ | ⟨i,g,b,d,f⟩
 ·omega
 ·rw [b]
  refine jir (by rw [List.length_append];omega) ?_ λj k=> ?_
  ·rw [List.getElem_append_left g,d];exact Zah _
  ·rw [List.getElem_append_left (by omega)]
   cases m:sEq (l[j]'(by omega)).1 n with
   | false=>rfl
   | true=>exact absurd ((j0d _ _).1 m) (f j k)
theorem jsp {t:T} {c:C} (ht:j08 t=true) (z:j1e c=true) (F:j02 t.2.1 c.1<0) (E:t.2.1.length<8):j08 (jkm t c)=true:=by
 rw [j7x] at ht ⊢
 obtain ⟨r,A,B,w,g,j⟩:=ht
 have q:=j19 t.2.2 (-1) (by omega) j
 refine ⟨r,?_,?_,w,?_,?_⟩
 ·show 1<=(t.2.1++[c]).length;rw [List.length_append];omega
 ·show (t.2.1++[c]).length<=8;rw [List.length_append];simp;omega
 ·rw [j78] at g ⊢
  refine ⟨λx f=> ?_,?_⟩
  ·rcases List.mem_append.1 f with f | f
   ·exact g.1 x f
   ·rw [List.mem_singleton.1 f];exact z
  ·show (t.2.1++[c]).Pairwise _
   rw [List.pairwise_append]
   refine ⟨g.2,List.pairwise_singleton _ _,λa m b p=> ?_⟩
   rw [List.mem_singleton.1 p]
   rcases j1u t.2.1 c.1 with ⟨_,h⟩ | ⟨i,D,h,_⟩
   ·exact h a m
   ·omega
 ·have:=jha (l':=t.2.1++[c]) id j (λk d=>by
   have l:=q k d
   have y:j02 (t.2.1++[c]) k=j02 t.2.1 k:=jfi l.1
   simp only [id]
   rw [y,jlt _ _ _ l]
   exact ⟨l.1,((j5F _ _ _).1 j).1 k d |>.2⟩) (λa m b p n=>by
   simp only [id]
   rw [jfi (q a m).1,jfi (q b p).1]
   exact n)
  rw [List.map_id] at this
  exact this
theorem jrv {t:T} {c:C} (ht:j08 t=true) {r:List V} (f:r.length=t.2.1.length) (v:V):j06 (jkm t c) (r++[v])=j06 t r:=by
 have d:=j19 t.2.2 (-1) (by omega) (j0R ht).2.2.2.2.2
 refine List.map_congr_left λk b=> ?_
 have:=d k b
 show nth zV (r++[v]) (j02 (t.2.1++[c]) k)=_
 rw [jfi this.1,jlt _ _ _ ⟨this.1,by omega⟩]
theorem jso {l:List C} {c:C} {r:List V} (b:j0t l r=true) {v:V} (g:j48 c v=true):j0t (l++[c]) (r++[v])=true:=by
 rw [jao] at b ⊢
 refine ⟨by rw [List.length_append,List.length_append,b.1];rfl,λi d f=> ?_⟩
 by_cases h:i<l.length
 ·rw [List.getElem_append_left h,List.getElem_append_left (b.1 ▸ h)]
  exact b.2 i h _
 ·rw [List.length_append] at d
  simp only [List.length_cons,List.length_nil] at d
  have:i=l.length:=by omega
  subst this
  rw [List.getElem_append_right (Nat.le_refl _),List.getElem_append_right (by omega)]
  simpa using g
theorem jrG {c:C} (d:j1e c=true) (h:(c.2.2.2.1|| !c.2.2.1)=true):j48 c c.2.2.2.2=true:=by
 unfold j1e at d
 simp only [Bool.and_eq_true] at d
 obtain ⟨_,_,g,b⟩:=d
 unfold j48
 rw [g,Bool.true_and]
 cases f:c.2.2.2.1
 ·rw [f] at h b
  rw [cond_false] at b
  unfold jjj at b
  rw [Bool.and_eq_true] at b
  rw [Bool.false_or] at h
  rw [b.1,h,Bool.and_self,Bool.or_true]
 ·rw [f,cond_true] at b
  exact b
def jhk (t:T) (n:ByteArray):T:=(t.1,t.2.1.filter λc=> !sEq c.1 n,t.2.2)
theorem joB {l:List C} (h:l.Pairwise λa b=>a.1≠b.1) {i:Nat} (g:i<l.length):(l.filter λc=> !sEq c.1 l[i].1)=l.eraseIdx i:=by
 induction l generalizing i with
 | nil=>simp at g
 | cons a l m=>
  rw [List.pairwise_cons] at h
  cases i with
  | zero=>
   simp only [List.getElem_cons_zero,List.filter_cons,Zah,Bool.not_true,List.eraseIdx_zero,List.tail_cons]
   rw [if_neg (by simp),List.filter_eq_self]
   intro c k
   have:=h.1 c k
   cases f:sEq c.1 a.1 with
   | false=>rfl
   | true=>exact absurd ((j0d _ _).1 f).symm this
  | succ i=>
   simp only [List.length_cons] at g
   have d:i<l.length:=by omega
   have j:sEq a.1 l[i].1=false:=by
    cases f:sEq a.1 l[i].1 with
    | false=>rfl
    | true=>exact absurd ((j0d _ _).1 f) (h.1 _ (List.getElem_mem d))
   simp only [List.getElem_cons_succ,List.filter_cons,j,Bool.not_false,if_true,List.eraseIdx_cons_succ]
   rw [m h.2 d]
theorem jcx {l:List C} (h:l.Pairwise λa b=>a.1≠b.1) {i:Nat} (n:i<l.length) {j:Nat} (q:j<l.length) (p:j≠i) :
  j02 (l.eraseIdx i) l[j].1=if j<i then (j:Int) else (j:Int)-1:=by
 have k:(l.eraseIdx i).Pairwise λa b=>a.1≠b.1:=h.sublist (List.eraseIdx_sublist _ _)
 have g:(l.eraseIdx i).length=l.length-1:=List.length_eraseIdx_of_lt n
 by_cases d:j<i
 ·rw [if_pos d]
  have f:(l.eraseIdx i)[j]'(by omega)=l[j]:=by rw [List.getElem_eraseIdx,dif_pos d]
  rw [<-f]
  exact jio k _
 ·rw [if_neg d]
  obtain ⟨m,rfl⟩:∃ m,j=m+1:=⟨j-1,by omega⟩
  have f:(l.eraseIdx i)[m]'(by omega)=l[m+1]:=by rw [List.getElem_eraseIdx,dif_neg (by omega)]
  rw [<-f,jio k]
  omega
theorem jnc {α:Type} (z:α) (l:List α) {i j:Nat} (f:i<l.length) (h:j<l.length) (g:j≠i):nth z (l.eraseIdx i) (if j<i then (j:Int) else (j:Int)-1)=l[j]:=by
 have d:(l.eraseIdx i).length=l.length-1:=List.length_eraseIdx_of_lt f
 by_cases b:j<i
 ·rw [if_pos b,Zay _ _ _ (by omega),List.getElem_eraseIdx,dif_pos b]
 ·rw [if_neg b]
  obtain ⟨m,rfl⟩:∃ m,j=m+1:=⟨j-1,by omega⟩
  rw [show ((m+1:Nat):Int)-1=(m:Int) by omega,Zay _ _ _ (by omega),List.getElem_eraseIdx,dif_neg (by omega)]
theorem jgA {t:T} (ht:j08 t=true) {n k:ByteArray} (g:k∈t.2.2) (h:(t.2.2.any λx=>sEq x n)=false) {i:Nat} (r:j02 t.2.1 n=(i:Int)):∃ (j:Nat) (f:j<t.2.1.length),j02 t.2.1 k=(j:Int)/\t.2.1[j].1=k/\j≠i:=by
 have w:=j19 t.2.2 (-1) (by omega) (j0R ht).2.2.2.2.2 k g
 rcases j1u t.2.1 k with ⟨b,_⟩ | ⟨j,f,b,d,_⟩
 ·omega
 ·refine ⟨j,f,b,d,λe=> ?_⟩
  rcases j1u t.2.1 n with ⟨l,_⟩ | ⟨q,p,l,m,_⟩
  ·omega
  ·have:j=q:=by omega
   subst this
   rw [List.any_eq_false] at h
   exact h k g (by rw [<-d,m];exact Zah _)
theorem jmM {t:T} (ht:j08 t=true) {n:ByteArray} {i:Nat} (j:j02 t.2.1 n=(i:Int)):i<t.2.1.length/\jhk t n=(t.1,t.2.1.eraseIdx i,t.2.2):=by
 have g:=((j78 _).1 (j0R ht).2.2.2.2.1).2
 rcases j1u t.2.1 n with ⟨d,_⟩ | ⟨h,b,d,f,_⟩
 ·omega
 ·have:i=h:=by omega
  subst this
  refine ⟨b,?_⟩
  unfold jhk
  rw [<-f,joB g b]
theorem jsE {t:T} (ht:j08 t=true) {n:ByteArray} {i:Nat} (q:j02 t.2.1 n=(i:Int)) (y:(t.2.2.any λx=>sEq x n)=false):j08 (jhk t n)=true:=by
 obtain ⟨d,M⟩:=jmM ht q
 have g:=ht
 rw [M]
 rw [j7x] at ht ⊢
 obtain ⟨H,P,Q,I,h,F⟩:=ht
 rw [j78] at h
 have G:(t.2.1.eraseIdx i).length=t.2.1.length-1:=List.length_eraseIdx_of_lt d
 refine ⟨H,?_,?_,I,?_,?_⟩
 ·show 1<=(t.2.1.eraseIdx i).length
  obtain ⟨k,w⟩:∃ k,k∈t.2.2:=⟨t.2.2[0]'(by omega),List.getElem_mem _⟩
  obtain ⟨j,l,_,_,f⟩:=jgA g w y q
  omega
 ·show (t.2.1.eraseIdx i).length<=8
  omega
 ·show j5t (t.2.1.eraseIdx i)=true
  rw [j78]
  exact ⟨λc L=>h.1 c (List.mem_of_mem_eraseIdx L),h.2.sublist (List.eraseIdx_sublist _ _)⟩
 ·have:=jha (l':=t.2.1.eraseIdx i) id F (λk w=>by
   obtain ⟨j,l,z,B,f⟩:=jgA g w y q
   simp only [id]
   have m:=jcx h.2 d l f
   rw [B] at m
   rw [m]
   refine ⟨by split<;>omega,?_⟩
   rw [jnc zC t.2.1 d l f]
   have:=((j5F _ _ _).1 F).1 k w |>.2
   rw [z,Zay _ _ _ l] at this
   exact this) (λa J b K D=>by
   obtain ⟨j,l,z,B,f⟩:=jgA g J y q
   obtain ⟨R,E,A,C,r⟩:=jgA g K y q
   simp only [id]
   have m:=jcx h.2 d l f
   have p:=jcx h.2 d E r
   rw [B] at m
   rw [C] at p
   rw [m,p]
   rw [z,A] at D
   split<;>split<;>omega)
  rw [List.map_id] at this
  exact this
theorem jrV {t:T} (ht:j08 t=true) {n:ByteArray} {i:Nat} (g:j02 t.2.1 n=(i:Int)) (w:(t.2.2.any λx=>sEq x n)=false) {r:List V} (z:r.length=t.2.1.length):j06 (jhk t n) (r.eraseIdx i)=j06 t r:=by
 obtain ⟨d,m⟩:=jmM ht g
 have y:=((j78 _).1 (j0R ht).2.2.2.2.1).2
 rw [m]
 refine List.map_congr_left λk q=> ?_
 obtain ⟨j,p,h,l,b⟩:=jgA ht q w g
 show nth zV (r.eraseIdx i) (j02 (t.2.1.eraseIdx i) k)=_
 have f:=jcx y d p b
 rw [l] at f
 rw [f,jnc zV r (by omega) (by omega) b,h,Zay _ _ _ (by omega)]
theorem jsD {l:List C} {r:List V} (d:j0t l r=true) (i:Nat):j0t (l.eraseIdx i) (r.eraseIdx i)=true:=by
 rw [jao] at d ⊢
 refine ⟨by rw [List.length_eraseIdx,List.length_eraseIdx,d.1],λj b f=> ?_⟩
 have g:j+1<=l.length:=by
  rw [List.length_eraseIdx] at b
  split at b<;>omega
 rw [List.getElem_eraseIdx,List.getElem_eraseIdx]
 by_cases h:j<i
 ·rw [dif_pos h,dif_pos h];exact d.2 _ _ _
 ·rw [dif_neg h,dif_neg h]
  have:j+1<l.length:=by
   rw [List.length_eraseIdx] at b
   split at b<;>omega
  exact d.2 _ this _
def ren (n m s:ByteArray):ByteArray:=bif sEq s n then m else s
def j9E (n m:ByteArray) (c:C):C:=(ren n m c.1,c.2)
def jft (t:T) (n m:ByteArray):T:=(t.1,t.2.1.map (j9E n m),t.2.2.map (ren n m))
theorem jmO {n m a b:ByteArray} (g:a≠m) (i:b≠m) (h:ren n m a=ren n m b):a=b:=by
 unfold ren at h
 cases d:sEq a n<;>cases f:sEq b n<;>rw [d,f] at h<;>simp only [cond_true,cond_false] at h
 ·exact h
 ·exact absurd h g
 ·exact absurd h.symm i
 ·rw [(j0d _ _).1 d,(j0d _ _).1 f]
theorem jfj {l:List C} {n m:ByteArray} (f:∀ c∈l,c.1≠m) {s:ByteArray} (g:s≠m):j02 (l.map (j9E n m)) (ren n m s)=j02 l s:=by
 rcases j1u l s with ⟨b,d⟩ | ⟨i,q,b,d,k⟩
 ·rw [b]
  refine jqf λc p=> ?_
  obtain ⟨x,h,rfl⟩:=List.mem_map.1 p
  exact λe=>d x h (jmO (f x h) g e)
 ·rw [b]
  refine jir (by rw [List.length_map];exact q) ?_ λj r=> ?_
  ·rw [List.getElem_map]
   show sEq (ren n m l[i].1) (ren n m s)=true
   rw [d];exact Zah _
  ·rw [List.getElem_map]
   show sEq (ren n m (l[j]'(by omega)).1) (ren n m s)=false
   cases w:sEq (ren n m (l[j]'(by omega)).1) (ren n m s) with
   | false=>rfl
   | true=>exact absurd (jmO (f _ (List.getElem_mem _)) g ((j0d _ _).1 w)) (k j r)
theorem jsF {n m:ByteArray} (d:j0u m=true) {c:C} (b:j1e c=true):j1e (j9E n m c)=true:=by
 unfold j1e j9E at *
 simp only [Bool.and_eq_true] at b ⊢
 refine ⟨?_,b.2⟩
 unfold ren
 cases sEq c.1 n
 ·exact b.1
 ·exact d
theorem jrT {t:T} (ht:j08 t=true) {n m:ByteArray} (H:j0u m=true) (J:j02 t.2.1 m<0):j08 (jft t n m)=true:=by
 rw [j7x] at ht ⊢
 obtain ⟨B,C,D,E,p,q⟩:=ht
 have A:=j19 t.2.2 (-1) (by omega) q
 have f:∀ c∈t.2.1,c.1≠m:=by
  rcases j1u t.2.1 m with ⟨_,h⟩ | ⟨i,_,h,_⟩
  ·exact h
  ·omega
 have l:∀ k∈t.2.2,k≠m:=λk d e=>by
  have:=(A k d).1
  rw [e] at this
  omega
 refine ⟨B,?_,?_,?_,?_,?_⟩
 ·show 1<=(t.2.1.map _).length;rw [List.length_map];exact C
 ·show (t.2.1.map _).length<=8;rw [List.length_map];exact D
 ·show 1<=(t.2.2.map _).length;rw [List.length_map];exact E
 ·show j5t (t.2.1.map (j9E n m))=true
  rw [j78] at p ⊢
  refine ⟨λc F=> ?_,?_⟩
  ·obtain ⟨x,I,rfl⟩:=List.mem_map.1 F
   exact jsF H (p.1 x I)
  ·rw [List.pairwise_map]
   exact p.2.imp_of_mem λw y g e=>g (jmO (f _ w) (f _ y) e)
 ·refine jha (l':=t.2.1.map (j9E n m)) (ren n m) q (λk d=> ?_) (λa w b y g=> ?_)
  ·rw [jfj f (l k d)]
   have z:=A k d
   refine ⟨z.1,?_⟩
   have r:=((j5F _ _ _).1 q).1 k d |>.2
   obtain ⟨j,G⟩:∃ j:Nat,j02 t.2.1 k=(j:Int):=⟨(j02 t.2.1 k).toNat,by omega⟩
   rw [G] at z r ⊢
   rw [Zay _ _ _ (by omega)] at r
   rw [Zay _ _ _ (by rw [List.length_map];omega),List.getElem_map]
   exact r
  ·rw [jfj f (l a w),jfj f (l b y)]
   exact g
theorem jrc {t:T} (ht:j08 t=true) {n m:ByteArray} (g:j02 t.2.1 m<0) (r:List V):j06 (jft t n m) r=j06 t r:=by
 have f:=j19 t.2.2 (-1) (by omega) (j0R ht).2.2.2.2.2
 have d:∀ c∈t.2.1,c.1≠m:=by
  rcases j1u t.2.1 m with ⟨_,h⟩ | ⟨i,_,h,_⟩
  ·exact h
  ·omega
 show ((t.2.2.map (ren n m)).map λk=>nth zV r (j02 (t.2.1.map (j9E n m)) k))=_
 rw [List.map_map]
 refine List.map_congr_left λk b=> ?_
 simp only [Function.comp]
 rw [jfj d λe=>by have:=(f k b).1;rw [e] at this;omega]
theorem jrH {n m:ByteArray} (c:C) (v:V):j48 (j9E n m c) v=j48 c v:=rfl
theorem jrS {l:List C} {r:List V} (d:j0t l r=true) (n m:ByteArray):j0t (l.map (j9E n m)) r=true:=by
 rw [jao] at d ⊢
 refine ⟨by rw [List.length_map];exact d.1,λi f b=> ?_⟩
 rw [List.getElem_map,jrH]
 exact d.2 i (by rw [List.length_map] at f;exact f) b
theorem jiU {t t':T} {l:List (List V)} (f:List V->List V) (h:j07 t l=true) (ht:j08 t'=true) (p:∀ r,j0t t.2.1 r=true->j0t t'.2.1 (f r)=true) (i:∀ r,j0t t.2.1 r=true->j06 t' (f r)=j06 t r):j07 t' (l.map f)=true:=by
 rw [j79] at h ⊢
 obtain ⟨_,j,b,k⟩:=h
 refine ⟨ht,by rw [List.length_map];exact j,λr g=> ?_,?_⟩
 ·obtain ⟨x,q,rfl⟩:=List.mem_map.1 g
  exact p x (b x q)
 ·rw [List.pairwise_map]
  refine k.imp_of_mem λm n d=> ?_
  rw [i _ (b _ m),i _ (b _ n)]
  exact d
end Go.PI.G
