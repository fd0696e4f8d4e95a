/-
  Program's code interpreted over typed values; printed texts; plain laws. No conditions.
-/
import Derived.Test.YtnemiodjnhfejaaGreatDAf
import Derived.Test.YtnemiodjnhfejaaGreatDAj
import Derived.Test.YtnemiodjnhfejaaGreatDAk
import Derived.Test.YtnemiodjnhfejaaGreatDAd
import Derived.Test.YtnemiodjnhfejaaGreatDAe
set_option linter.unusedVariables false
set_option linter.unusedSimpArgs false
namespace Go.PI.G
open Go Go.PI Go.Proofs
theorem jo9 {α V K:Type} (l:List α) (j:Int->V) (b:Nat->α->Bool) (p:Nat->Prop) {step:V->(V->Res)->K->Res} (q:K) (d k:Res) (r:l.length<=LIM) (n:p 0)
  (z:∀ (i:Nat),(g:i<l.length)->p i->b i l[i]=false->p (i+1))
  (A:∀ (i:Nat) rec,(g:i<l.length)->p i->step (j i) rec q=bif b i l[i] then k else rec (j ((i:Int)+1))) (y:∀ rec,step (j (l.length:Int)) rec q=d) :
  Z1f step Z1c (j 0) q=bif Z71 b 0 l then k else d:=by
 have h:=Z3Z l (λi (_:Unit)=>j i) (λi _ x=>if b i x then .error () else (.ok ():Except Unit Unit)) (λi _=>p i) q (λ_=>d) (λ_=>k) () r n (λi a C g f m=>by
   refine z i g f ?_
   cases w:b i l[i] with
   | false=>rfl
   | true=>rw [w] at m;cases m)
  (λi a rec g f=>by
   rw [A i rec g f]
   cases b i l[i]<;>rfl) (λa rec _=>y rec)
 rw [h]
 have:∀ (l:List α) (i:Nat),Z1S (λi _ x=>if b i x then .error () else (.ok ():Except Unit Unit)) i l ()=bif Z71 b i l then .error () else .ok ():=by
  intro l
  induction l with
  | nil=>intro i;rfl
  | cons x l B=>
   intro i
   simp only [Z1S,Z71]
   cases b i x with
   | true=>rfl
   | false=>exact B _
 rw [this]
 cases Z71 b 0 l<;>rfl
theorem jkY (c:C) (f:j1g c=true) (v:V) (k:Bool->Res):j4S c v k=k (j4e c v):=by
 have g:=ju8 f
 unfold j4S j4e
 rw [j9A,j9A]
 cases b:v.1==0
 ·cases j0u v
  ·rfl
  ·rw [cond_false,cond_true,Bool.false_and,Bool.or_false,Bool.true_and]
 ·have d:(v.1==c.2.1)=false:=by
   rw [beq_iff_eq] at b
   simp;omega
  rw [d,Bool.true_and,Bool.false_or]
  cases j0u v<;>rfl
theorem jrg (c:C) (v:V) (k:Bool->Res):jda c v k=k (j4e c v):=by
 unfold jda j4e
 rw [j9m]
 cases j0u v
 ·rfl
 ·cases v.1==c.2.1
  ·cases v.1==0<;>rfl
  ·rfl
theorem jif (t:T) (h:msr yT t<=1048576) (r:List V) (k:Bool->Res):j2N t r k=k (j04 t&&j0z t.2.1 r):=by
 obtain ⟨g,j,l,m,p⟩:=j36 h
 unfold j2N
 rw [jel t h]
 cases ht:j04 t
 ·rfl
 ·rw [Bool.not_true,cond_false,Bool.true_and]
  unfold j0z
  by_cases d:r.length=t.2.1.length
  ·have f:(nI r.length != nI t.2.1.length)=false:=by rw [d,ZaO]
   rw [f,cond_false,decide_eq_true d,Bool.true_and]
   unfold jdO
   have:=Z9P t.2.1 (λi=>i) (λi c=> !j4e c (nth zV r (i:Int))) (step:=j8w t.2.1 (nI t.2.1.length) r) ((λ(_:Unit)=>k true),(λ(_:Unit)=>k false)) (k true) (k false) (by unfold LIM;omega) (λi rec b=>by
    show j5W _ _ r _ _ _ _=_
    unfold j5W
    rw [ZaQ b,cond_true,j01 b,cond_true,j01 (d ▸ b),cond_true,Zay _ _ _ b,jkY _ (jod (j29 ht).2.2.2.2.1 i b),j02 (n:=(i:Int)+1) (by omega)]) (λrec=>by
    show j5W _ _ r _ _ _ _=_
    unfold j5W
    rw [ZaP,cond_false])
   refine this.trans ?_
   cases Z71 (λi c=> !j4e c (nth zV r (i:Int))) 0 t.2.1<;>rfl
  ·have f:(nI r.length != nI t.2.1.length)=true:=by unfold nI;simp;omega
   rw [f,cond_true,decide_eq_false d,Bool.false_and]
theorem jhS (t:T) (h:msr yT t<=1048576) (r:List V) (k:Bool->Res):j3O t r k=k (j0z t.2.1 r):=by
 obtain ⟨g,j,l,m,p⟩:=j36 h
 unfold j3O j0z
 by_cases b:r.length=t.2.1.length
 ·have d:(nI r.length != nI t.2.1.length)=false:=by rw [b,ZaO]
  rw [d,cond_false,decide_eq_true b,Bool.true_and]
  unfold jiB
  have:=Z9P t.2.1 (λi=>i) (λi c=> !j4e c (nth zV r (i:Int))) (step:=jbo r (nI r.length) t) ((λ(_:Unit)=>k true),(λ(_:Unit)=>k false)) (k true) (k false) (by unfold LIM;omega) (λi rec f=>by
   show j5F _ _ t _ _ _ _=_
   unfold j5F
   rw [b,ZaQ f,cond_true,j01 f,cond_true,cond_true,Zay zC _ _ f,jrg,j02 (n:=(i:Int)+1) (by omega)]) (λrec=>by
   show j5F _ _ t _ _ _ _=_
   unfold j5F
   rw [b,ZaP,cond_false])
  refine this.trans ?_
  cases Z71 (λi c=> !j4e c (nth zV r (i:Int))) 0 t.2.1<;>rfl
 ·have d:(nI r.length != nI t.2.1.length)=true:=by unfold nI;simp;omega
  rw [d,cond_true,decide_eq_false b,Bool.false_and]
theorem j0F {l:List C} {r:List V} (h:j0z l r=true):r.length=l.length:=by
 unfold j0z at h
 rw [Bool.and_eq_true,decide_eq_true_eq] at h
 exact h.1
theorem jaB {α β:Type} (f:α->β):(l:List α)->l.flatMap (λx=>[f x])=l.map f
 | []=>rfl
 | x::l=>by rw [List.flatMap_cons,jaB f l];rfl
theorem jaD (t:T) (r:List V):(j08 t r).length=t.2.2.length:=by unfold j08;simp
theorem j7x (t:T) (h:msr yT t<=1048576) (ht:j04 t=true) (r:List V) (m:r.length=t.2.1.length) (k:List V->Res):j0H t r k=k (j08 t r):=by
 obtain ⟨p,q,w,y,z⟩:=j36 h
 unfold j0H jhy
 have g:=j1u t.2.2 (-1) (by omega) (j29 ht).2.2.2.2.2
 have:=Z9T t.2.2 (λi b=>(b,i)) (λn=>[nth zV r (j03 t.2.1 n)]) 1048576 [] (step:=jaP t.2.2 (nI t.2.2.length) t r) (λb=>k b) (λb=>k b) (by unfold LIM;omega) (λi d _=>by
  rw [jaB,List.nil_append,List.length_map,List.length_take];omega) (by simp) (λi b rec d l _=>by
  show j4T _ _ t r _ _ _ _=_
  unfold j4T
  have f:=g _ (List.getElem_mem d)
  have j:b.length=i:=by
   rw [l,jaB,List.nil_append,List.length_map,List.length_take];omega
  dsimp only
  rw [ZaQ d,cond_true,j01 d,cond_true,Zay _ _ _ d,j7h t _ (by unfold LIM;omega),ZaK f.1 (by omega),cond_true,ZaL (by unfold LIM;omega),cond_true,j02 (n:=(i:Int)+1) (by omega)]) (λb rec=>by
  show j4T _ _ t r _ _ _ _=_
  unfold j4T
  dsimp only
  rw [ZaP,cond_false])
 refine this.trans ?_
 rw [jaB,List.nil_append]
 rfl
theorem jhu (a b:List V) (j:a.length<=LIM) (k:Bool->Res):j4M a b k=k (klt a b):=by
 unfold j4M jg3
 unfold LIM at j
 have h:∀ (d i n:Nat),i+d=a.length->d<n->i<=b.length->Z1f (j9U a b) n (i:Int) ((λ(_:Unit)=>k (decide (nI a.length<nI b.length))),(λ(t:Bool)=>k t))=k (klt (a.drop i) (b.drop i)):=by
  intro d
  induction d with
  | zero=>
   intro i n p q l
   obtain ⟨n,rfl⟩:∃ m,n=m+1:=⟨n-1,by omega⟩
   have:i=a.length:=by omega
   subst this
   show j3z a b _ _ _ _=_
   unfold j3z
   rw [ZaP,cond_false,List.drop_length]
   show k (decide (nI a.length<nI b.length))=_
   by_cases g:a.length<b.length
   ·rw [List.drop_eq_getElem_cons g,decide_eq_true (show nI a.length<nI b.length by unfold nI;omega)]
    rfl
   ·rw [List.drop_of_length_le (by omega),decide_eq_false (show ¬ nI a.length<nI b.length by unfold nI;omega)]
    rfl
  | succ d r=>
   intro i n p q l
   obtain ⟨n,rfl⟩:∃ m,n=m+1:=⟨n-1,by omega⟩
   have f:i<a.length:=by omega
   show j3z a b _ _ _ _=_
   unfold j3z
   rw [ZaQ f,cond_true,List.drop_eq_getElem_cons f]
   by_cases g:i<b.length
   ·rw [ZaQ g,cond_true,j01 f,cond_true,j01 g,cond_true,List.drop_eq_getElem_cons g,Zay _ _ _ f,Zay _ _ _ g,cond_true,cond_true,jrs,j02 (n:=(i:Int)+1) (by omega)]
    show (bif !veq a[i] b[i] then _ else _)=k (bif veq a[i] b[i] then _ else _)
    cases veq a[i] b[i]
    ·rfl
    ·exact r (i+1) n (by omega) (by omega) (by omega)
   ·have:i=b.length:=by omega
    subst this
    rw [ZaP,cond_false,List.drop_length]
    show k (decide (nI a.length<nI b.length))=_
    rw [decide_eq_false (show ¬ nI a.length<nI b.length by unfold nI;omega)]
    rfl
 exact h a.length 0 Z1c (by omega) (Z2b (by omega)) (by omega)
theorem j3N (t:T) (h:msr yT t<=1048576) (ht:j04 t=true) (r:List V) (m:r.length=t.2.1.length) (k:List V->Res):j0V t r k=k (j08 t r):=by
 obtain ⟨p,q,w,y,z⟩:=j36 h
 unfold j0V jiA
 have g:=j1u t.2.2 (-1) (by omega) (j29 ht).2.2.2.2.2
 have:=Z9T t.2.2 (λi b=>(b,i)) (λn=>[nth zV r (j03 t.2.1 n)]) 1048576 [] (step:=jbn t.2.2 (nI t.2.2.length) t r) (λb=>k b) (λb=>k b) (by unfold LIM;omega) (λi d _=>by
  rw [jaB,List.nil_append,List.length_map,List.length_take];omega) (by simp) (λi b rec d l _=>by
  show j5E _ _ t r _ _ _ _=_
  unfold j5E
  have f:=g _ (List.getElem_mem d)
  have j:b.length=i:=by
   rw [l,jaB,List.nil_append,List.length_map,List.length_take];omega
  dsimp only
  rw [ZaQ d,cond_true,j01 d,cond_true,Zay _ _ _ d,j8I t _ (by unfold LIM;omega),ZaK f.1 (by omega),cond_true,ZaL (by unfold LIM;omega),cond_true,j02 (n:=(i:Int)+1) (by omega)]) (λb rec=>by
  show j5E _ _ t r _ _ _ _=_
  unfold j5E
  dsimp only
  rw [ZaP,cond_false])
 refine this.trans ?_
 rw [jaB,List.nil_append]
 rfl
theorem jcw (a b:List V) (j:a.length<=LIM) (k:Bool->Res):j4g a b k=k (klt a b):=by
 unfold j4g jfR
 unfold LIM at j
 have h:∀ (d i n:Nat),i+d=a.length->d<n->i<=b.length->Z1f (j9N a b) n (i:Int) ((λ(_:Unit)=>k (decide (nI a.length<nI b.length))),(λ(t:Bool)=>k t))=k (klt (a.drop i) (b.drop i)):=by
  intro d
  induction d with
  | zero=>
   intro i n p q l
   obtain ⟨n,rfl⟩:∃ m,n=m+1:=⟨n-1,by omega⟩
   have:i=a.length:=by omega
   subst this
   show j3q a b _ _ _ _=_
   unfold j3q
   rw [ZaP,cond_false,List.drop_length]
   show k (decide (nI a.length<nI b.length))=_
   by_cases g:a.length<b.length
   ·rw [List.drop_eq_getElem_cons g,decide_eq_true (show nI a.length<nI b.length by unfold nI;omega)]
    rfl
   ·rw [List.drop_of_length_le (by omega),decide_eq_false (show ¬ nI a.length<nI b.length by unfold nI;omega)]
    rfl
  | succ d r=>
   intro i n p q l
   obtain ⟨n,rfl⟩:∃ m,n=m+1:=⟨n-1,by omega⟩
   have f:i<a.length:=by omega
   show j3q a b _ _ _ _=_
   unfold j3q
   rw [ZaQ f,cond_true,List.drop_eq_getElem_cons f]
   by_cases g:i<b.length
   ·rw [ZaQ g,cond_true,j01 f,cond_true,j01 g,cond_true,List.drop_eq_getElem_cons g,Zay _ _ _ f,Zay _ _ _ g,cond_true,cond_true,jrh,j02 (n:=(i:Int)+1) (by omega)]
    show (bif !veq a[i] b[i] then _ else _)=k (bif veq a[i] b[i] then _ else _)
    cases veq a[i] b[i]
    ·rfl
    ·exact r (i+1) n (by omega) (by omega) (by omega)
   ·have:i=b.length:=by omega
    subst this
    rw [ZaP,cond_false,List.drop_length]
    show k (decide (nI a.length<nI b.length))=_
    rw [decide_eq_false (show ¬ nI a.length<nI b.length by unfold nI;omega)]
    rfl
 exact h a.length 0 Z1c (by omega) (Z2b (by omega)) (by omega)
theorem j89 (t:T) (h:msr yT t<=1048576) (l:List (List V)) (k:Bool->Res):j0G t l k=k (j0a t l):=by
 obtain ⟨B,C,D,E,F⟩:=j36 h
 unfold j0G j0a
 rw [jel t h]
 cases ht:j04 t
 ·rfl
 ·rw [Bool.not_true,cond_false,Bool.true_and]
  by_cases q:l.length<=60
  ·rw [decide_eq_false (show ¬ nI l.length>60 by unfold nI;omega),cond_false,decide_eq_true q,Bool.true_and]
   unfold jcR
   have:=jo9 l (λi=>i) (λi r=> !j0z t.2.1 r||(decide (0<i)&& !klt (j08 t (nth [] l ((i:Int)-1))) (j08 t r))) (λi=>∀ (j:Nat) (g:j<l.length),j<i->j0z t.2.1 l[j]=true) (step:=j4N l l (nI l.length) t) ((λ(_:Unit)=>k true),(λ(_:Unit)=>k false)) (k true) (k false) (by unfold LIM;omega) (λj _ g=>absurd g (by omega)) (λi f m w j g z=>by
    rw [Bool.or_eq_false_iff,Bool.not_eq_false'] at w
    by_cases d:j<i
    ·exact m j g d
    ·have:j=i:=by omega
     subst this
     exact w.1) (λi rec f m=>by
    show j2G l _ _ t _ _ _ _=_
    unfold j2G
    rw [ZaQ f,cond_true,j01 f,cond_true,Zay _ _ _ f,jif t h]
    rw [ht,Bool.true_and]
    cases A:j0z t.2.1 l[i]
    ·rfl
    ·rw [Bool.not_true,cond_false,Bool.false_or,j02 (n:=(i:Int)+1) (by omega)]
     by_cases p:0<i
     ·have b:i-1<l.length:=by omega
      have y:((i:Int)-1)=((i-1:Nat):Int):=by omega
      rw [decide_eq_true (show (i:Int)>0 by omega),cond_true,decide_eq_true p,Bool.true_and,j02 (n:=(i:Int)-1) (by omega),y,j01 b,cond_true,Zay _ _ _ b,j7x t h ht _ (j0F (m _ b (by omega))),j7x t h ht _ (j0F A),jhu _ _ (by rw [jaD];unfold LIM;omega)]
     ·rw [decide_eq_false (show ¬ (i:Int)>0 by omega),cond_false,decide_eq_false p,Bool.false_and,cond_false]) (λrec=>by
    show j2G l _ _ t _ _ _ _=_
    unfold j2G
    rw [ZaP,cond_false])
   refine this.trans ?_
   cases Z71 (λi r=> !j0z t.2.1 r||(decide (0<i)&& !klt (j08 t (nth [] l ((i:Int)-1))) (j08 t r))) 0 l<;>rfl
  ·rw [decide_eq_true (show nI l.length>60 by unfold nI;omega),cond_true,decide_eq_false q,Bool.false_and]
theorem ja6 (t:T) (h:msr yT t<=1048576) (l:List (List V)) (k:Bool->Res):j0Z t l k=k (j0a t l):=by
 obtain ⟨B,C,D,E,F⟩:=j36 h
 unfold j0Z j0a
 rw [jhU t h]
 cases ht:j04 t
 ·rfl
 ·rw [Bool.not_true,cond_false,Bool.true_and]
  by_cases q:l.length<=60
  ·rw [decide_eq_false (show ¬ nI l.length>60 by unfold nI;omega),cond_false,decide_eq_true q,Bool.true_and]
   unfold jcz
   have:=jo9 l (λi=>i) (λi r=> !j0z t.2.1 r||(decide (0<i)&& !klt (j08 t (nth [] l ((i:Int)-1))) (j08 t r))) (λi=>∀ (j:Nat) (g:j<l.length),j<i->j0z t.2.1 l[j]=true) (step:=j4h l l (nI l.length) t) ((λ(_:Unit)=>k true),(λ(_:Unit)=>k false)) (k true) (k false) (by unfold LIM;omega) (λj _ g=>absurd g (by omega)) (λi f m w j g z=>by
    rw [Bool.or_eq_false_iff,Bool.not_eq_false'] at w
    by_cases d:j<i
    ·exact m j g d
    ·have:j=i:=by omega
     subst this
     exact w.1) (λi rec f m=>by
    show j2A l _ _ t _ _ _ _=_
    unfold j2A
    rw [ZaQ f,cond_true,j01 f,cond_true,Zay _ _ _ f,jhS t h]
    cases A:j0z t.2.1 l[i]
    ·rfl
    ·rw [Bool.not_true,cond_false,Bool.false_or,j02 (n:=(i:Int)+1) (by omega)]
     by_cases p:0<i
     ·have b:i-1<l.length:=by omega
      have y:((i:Int)-1)=((i-1:Nat):Int):=by omega
      rw [decide_eq_true (show (i:Int)>0 by omega),cond_true,decide_eq_true p,Bool.true_and,j02 (n:=(i:Int)-1) (by omega),y,j01 b,cond_true,Zay _ _ _ b,j3N t h ht _ (j0F (m _ b (by omega))),j3N t h ht _ (j0F A),jcw _ _ (by rw [jaD];unfold LIM;omega)]
     ·rw [decide_eq_false (show ¬ (i:Int)>0 by omega),cond_false,decide_eq_false p,Bool.false_and,cond_false]) (λrec=>by
    show j2A l _ _ t _ _ _ _=_
    unfold j2A
    rw [ZaP,cond_false])
   refine this.trans ?_
   cases Z71 (λi r=> !j0z t.2.1 r||(decide (0<i)&& !klt (j08 t (nth [] l ((i:Int)-1))) (j08 t r))) 0 l<;>rfl
  ·rw [decide_eq_true (show nI l.length>60 by unfold nI;omega),cond_true,decide_eq_false q,Bool.false_and]
theorem j0q {t:T} {l:List (List V)} (h:j0a t l=true):j04 t=true/\l.length<=60/\∀ r∈l,j0z t.2.1 r=true:=by
 unfold j0a at h
 simp only [Bool.and_eq_true,decide_eq_true_eq,Bool.not_eq_true'] at h
 refine ⟨h.1,h.2.1,λr d=> ?_⟩
 obtain ⟨i,b,rfl⟩:=List.getElem_of_mem d
 have:=jeb l 0 h.2.2 i b
 simp only [Bool.or_eq_false_iff,Bool.not_eq_false'] at this
 exact this.1
end Go.PI.G
namespace Go.PI.G
open Go Go.PI Go.Proofs
theorem jm6 {α K:Type} (z:α) (f:α->α->Bool) (a b:List α) {step:Int->(Int->Res)->K->Res} (q:K) (x y:Res) (h:a.length<=LIM) (g:a.length=b.length)
  (k:∀ (i:Nat) rec,(d:i<a.length)->(l:i<b.length)->step (i:Int) rec q=bif f a[i] b[i] then rec ((i:Int)+1) else y) (j:∀ rec,step (a.length:Int) rec q=x) :
  Z1f step Z1c 0 q=bif j1S z f a b then x else y:=by
 have:=Z9P a (λi=>i) (λi u=> !f u (nth z b (i:Int))) (step:=step) q x y h (λi rec d=>by
  rw [k i rec d (g ▸ d),Zay _ _ _ (g ▸ d)]
  cases f a[i] (b[i]'(g ▸ d))<;>rfl) j
 refine this.trans ?_
 unfold j1S
 rw [decide_eq_true g,Bool.true_and]
 cases Z71 (λi u=> !f u (nth z b (i:Int))) 0 a<;>rfl
theorem jmn {α β:Type} {a:List α} {b:List β} (h:¬ a.length=b.length):(nI a.length != nI b.length)=true:=by unfold nI;simp;omega
theorem jmm {α β:Type} {a:List α} {b:List β} (h:a.length=b.length):(nI a.length != nI b.length)=false:=by rw [h,ZaO]
theorem jpV {α:Type} {z:α} {f:α->α->Bool} {a b:List α} (h:¬ a.length=b.length):j1S z f a b=false:=by
 unfold j1S;rw [decide_eq_false h,Bool.false_and]
theorem jn8 (a b:List V) (g:a.length<=LIM) (k:Bool->Res):j4V a b k=k (j1S zV veq a b):=by
 unfold j4V
 by_cases d:a.length=b.length
 ·rw [jmm d,cond_false]
  unfold jcm
  unfold LIM at g
  have:=jm6 zV veq a b (step:=j79 a b (nI a.length)) ((λ(_:Unit)=>k true),(λ(_:Unit)=>k false)) (k true) (k false) g d (λi rec f h=>by
   show j1P _ _ _ _ _ _ _=_
   unfold j1P
   rw [ZaQ f,cond_true,j01 f,cond_true,j01 h,cond_true,Zay _ _ _ f,Zay _ _ _ h,j02 (n:=(i:Int)+1) (by omega)]
   show (bif !veq a[i] b[i] then _ else _)=_
   cases veq a[i] b[i]<;>rfl) (λrec=>by
   show j1P _ _ _ _ _ _ _=_
   unfold j1P
   rw [ZaP,cond_false])
  refine this.trans ?_
  cases j1S zV veq a b<;>rfl
 ·rw [jmn d,cond_true,jpV d]
theorem jfQ (a b:List V) (g:a.length<=LIM) (k:Bool->Res):j1E a b k=k (j1S zV veq a b):=by
 unfold j1E
 by_cases d:a.length=b.length
 ·rw [jmm d,cond_false]
  unfold jck
  unfold LIM at g
  have:=jm6 zV veq a b (step:=j70 a b (nI a.length)) ((λ(_:Unit)=>k true),(λ(_:Unit)=>k false)) (k true) (k false) g d (λi rec f h=>by
   show j1M _ _ _ _ _ _ _=_
   unfold j1M
   rw [ZaQ f,cond_true,j01 f,cond_true,j01 h,cond_true,Zay _ _ _ f,Zay _ _ _ h,j02 (n:=(i:Int)+1) (by omega)]
   show (bif !veq a[i] b[i] then _ else _)=_
   cases veq a[i] b[i]<;>rfl) (λrec=>by
   show j1M _ _ _ _ _ _ _=_
   unfold j1M
   rw [ZaP,cond_false])
  refine this.trans ?_
  cases j1S zV veq a b<;>rfl
 ·rw [jmn d,cond_true,jpV d]
theorem jbN (t:T) (h:msr yT t<=1048576) (l:List (List V)) (f:j0a t l=true) (b:List V) (k:Int->Res):j25 t l b k=k (j09 t l b):=by
 obtain ⟨m,p,q,w,y⟩:=j36 h
 obtain ⟨g,z,j⟩:=j0q f
 unfold j25
 rw [j89 t h,f,Bool.not_true,cond_false]
 unfold jdN
 refine Z9S l (λi=>i) (λr=>j1S zV veq (j08 t r) b) (step:=j5V b l (nI l.length) t) _ k (by unfold LIM;omega) (λi rec d=> ?_) (λrec=> ?_)
 ·show j3b b _ _ t _ _ _ _=_
  unfold j3b
  rw [ZaQ d,cond_true,j01 d,cond_true,Zay _ _ _ d,j7x t h g _ (j0F (j _ (List.getElem_mem d))),jn8 _ _ (by rw [jaD];unfold LIM;omega),j02 (n:=(i:Int)+1) (by omega)]
 ·show j3b b _ _ t _ _ _ _=_
  unfold j3b
  rw [ZaP,cond_false]
theorem j4f (t:T) (h:msr yT t<=1048576) (l:List (List V)) (f:j0a t l=true) (b:List V) (k:Int->Res):j1k t l b k=k (j09 t l b):=by
 obtain ⟨m,p,q,w,y⟩:=j36 h
 obtain ⟨g,z,j⟩:=j0q f
 unfold j1k j7v j9J
 refine Z9S l (λi=>i) (λr=>j1S zV veq (j08 t r) b) (step:=j3T l (t,b) (nI l.length)) _ k (by unfold LIM;omega) (λi rec d=> ?_) (λrec=> ?_)
 ·show j19 _ _ _ _ _ _ _=_
  unfold j19 jd9
  rw [ZaQ d,cond_true,j01 d,cond_true,Zay _ _ _ d,j3N t h g _ (j0F (j _ (List.getElem_mem d))),jfQ _ _ (by rw [jaD];unfold LIM;omega),j02 (n:=(i:Int)+1) (by omega)]
 ·show j19 _ _ _ _ _ _ _=_
  unfold j19
  rw [ZaP,cond_false]
theorem jqy (t:T) (l:List (List V)) (b:List V): -1<=j09 t l b/\j09 t l b<(l.length:Int):=jec _ _
end Go.PI.G
namespace Go.PI.G
open Go Go.PI Go.Proofs
theorem jrJ {c:List T} (h:msr (.slice yT) c<=1048576):c.length<=1048576/\∀ t∈c,msr yT t<=1048576:=⟨j0p h,λt ht=>j0O h ht⟩
theorem jqJ (c:List T) (h:msr (.slice yT) c<=1048576) (a b:Unit->Res):jdL c (nI c.length) c Z1c 0 a b=bif Z71 (λi t=> !j04 t||(decide (0<i)&&sGe (nth zT c ((i:Int)-1)).1 t.1)) 0 c then b () else a ():=by
 obtain ⟨g,f⟩:=jrJ h
 unfold jdL
 exact Z9P c (λi=>i) (λi t=> !j04 t||(decide (0<i)&&sGe (nth zT c ((i:Int)-1)).1 t.1)) (step:=jbO c (nI c.length) c) (a,b) (a ()) (b ()) (by unfold LIM;omega) (λi rec d=>by
  show j5P _ _ c _ _ _ _=_
  unfold j5P
  rw [ZaQ d,cond_true,j01 d,cond_true,Zay _ _ _ d,jel _ (f _ (List.getElem_mem d)),j02 (n:=(i:Int)+1) (by omega),jpY c i d (by unfold LIM;omega)]
  cases j04 c[i]
  ·rfl
  ·cases (decide (0<i)&&sGe (nth zT c ((i:Int)-1)).1 c[i].1)<;>rfl) (λrec=>by
  show j5P _ _ c _ _ _ _=_
  unfold j5P
  rw [ZaP,cond_false])
theorem jq9 (c:List T) (h:msr (.slice yT) c<=1048576) (a b:Unit->Res):jdy c (nI c.length) c Z1c 0 a b=bif Z71 (λi t=> !j04 t||(decide (0<i)&&sGe (nth zT c ((i:Int)-1)).1 t.1)) 0 c then b () else a ():=by
 obtain ⟨g,f⟩:=jrJ h
 unfold jdy
 exact Z9P c (λi=>i) (λi t=> !j04 t||(decide (0<i)&&sGe (nth zT c ((i:Int)-1)).1 t.1)) (step:=jbi c (nI c.length) c) (a,b) (a ()) (b ()) (by unfold LIM;omega) (λi rec d=>by
  show j5v _ _ c _ _ _ _=_
  unfold j5v
  rw [ZaQ d,cond_true,j01 d,cond_true,Zay _ _ _ d,jhU _ (f _ (List.getElem_mem d)),j02 (n:=(i:Int)+1) (by omega),jpY c i d (by unfold LIM;omega)]
  cases j04 c[i]
  ·rfl
  ·cases (decide (0<i)&&sGe (nth zT c ((i:Int)-1)).1 c[i].1)<;>rfl) (λrec=>by
  show j5v _ _ c _ _ _ _=_
  unfold j5v
  rw [ZaP,cond_false])
theorem jn1 (c:List T) (h:msr (.slice yT) c<=1048576) (k:Bool->Res):j7y c k=k (j2z c):=by
 unfold j7y j2z
 rw [jqJ c h]
 by_cases b:c.length<=6
 ·rw [decide_eq_false (show ¬ nI c.length>6 by unfold nI;omega),cond_false,decide_eq_true b,Bool.true_and]
  cases Z71 (λi t=> !j04 t||(decide (0<i)&&sGe (nth zT c ((i:Int)-1)).1 t.1)) 0 c<;>rfl
 ·rw [decide_eq_true (show nI c.length>6 by unfold nI;omega),cond_true,decide_eq_false b,Bool.false_and]
theorem jmh (c:List T) (h:msr (.slice yT) c<=1048576) (k:Bool->Res):j7n c k=k (j2z c):=by
 unfold j7n j2z
 rw [jq9 c h]
 have:decide (nI c.length<=6)=decide (c.length<=6):=decide_eq_decide.2 (by unfold nI;omega)
 rw [this]
 cases Z71 (λi t=> !j04 t||(decide (0<i)&&sGe (nth zT c ((i:Int)-1)).1 t.1)) 0 c
 ·rw [Bool.not_false,Bool.and_true];rfl
 ·rw [Bool.not_true,Bool.and_false];rfl
end Go.PI.G
namespace Go.PI.G
open Go Go.PI Go.Proofs
theorem jfn (c:List T) (n:ByteArray) (h:c.length<=LIM) (k:Int->Res):j2O c n k=k (j07 c n):=by
 unfold j2O jiP
 refine Z9S c (λi=>i) (λt=>sEq t.1 n) (step:=jbS n c (nI c.length)) _ k h (λi rec b=> ?_) (λrec=> ?_)
 ·show j5Z n _ _ _ _ _ _=_
  unfold j5Z
  unfold LIM at h
  rw [ZaQ b,cond_true,j01 b,cond_true,Zay _ _ _ b,j02 (n:=(i:Int)+1) (by omega)]
 ·show j5Z n _ _ _ _ _ _=_
  unfold j5Z
  rw [ZaP,cond_false]
theorem j8K (c:List T) (n:ByteArray) (h:c.length<=LIM) (k:Int->Res):j0v c n k=k (j07 c n):=by
 unfold j0v j66 j8u
 refine Z9S c (λi=>i) (λt=>sEq t.1 n) (step:=j2Y c n (nI c.length)) _ k h (λi rec b=> ?_) (λrec=> ?_)
 ·show j0T _ n _ _ _ _ _=_
  unfold j0T jeO
  unfold LIM at h
  rw [ZaQ b,cond_true,j01 b,cond_true,Zay _ _ _ b,j02 (n:=(i:Int)+1) (by omega)]
 ·show j0T _ n _ _ _ _ _=_
  unfold j0T
  rw [ZaP,cond_false]
end Go.PI.G
namespace Go.PI.G
open Go Go.PI Go.Proofs
noncomputable def jgz (p:List ByteArray) (s:ByteArray):Bool:=p.any λx=>sEq x s
theorem jlj {α:Type} (q:α->Bool) (l:List α):decide (Z9F q l>=0)=l.any q:=by
 unfold Z9F
 cases h:l.findIdx? q with
 | none=>
  have:=List.findIdx?_eq_none_iff.1 h
  have b:l.any q=false:=by
   rw [List.any_eq_false]
   intro x g
   rw [this x g];simp
  rw [b];rfl
 | some i=>
  have:=List.findIdx?_eq_some_iff_getElem.1 h
  obtain ⟨d,f,_⟩:=this
  have b:l.any q=true:=List.any_eq_true.2 ⟨l[i],List.getElem_mem d,f⟩
  rw [b]
  show decide ((i:Int)>=0)=true
  exact decide_eq_true (by omega)
theorem jrU (l:List ByteArray) (s:ByteArray) (h:l.length<=LIM) (k:Bool->Res):j1v l s k=k (jgz l s):=by
 unfold j1v j13 j67 jgz
 have:=Z9S l (λi=>i) (λx=>sEq s x) (step:=j24 l s (nI l.length)) ((λ(_:Unit)=>k (decide ((-1:Int)>=0))),(λ(t:Int)=>k (decide (t>=0)))) (λr=>k (decide (r>=0))) h (λi rec b=>by
  show j0g _ _ _ _ _ _ _=_
  unfold j0g
  unfold LIM at h
  rw [ZaQ b,cond_true,j01 b,cond_true,Zay _ _ _ b,j02 (n:=(i:Int)+1) (by omega)]) (λrec=>by
  show j0g _ _ _ _ _ _ _=_
  unfold j0g
  rw [ZaP,cond_false])
 refine this.trans ?_
 rw [jlj]
 have:(λx=>sEq s x)=λx=>sEq x s:=by funext x;exact Zag s x
 rw [this]
end Go.PI.G
namespace Go.PI.G
open Go Go.PI Go.Proofs
theorem jsa (l:List ByteArray) (s:ByteArray) (h:l.length<=LIM) (k:Bool->Res):jah l s k=k (jgz l s):=by
 unfold jah jhx jgz
 have:=Za2 l (λi=>i) (λx=>sEq x s) (step:=jaN s l (nI l.length)) ((λ(_:Unit)=>k false),(λ(_:Unit)=>k true)) (k false) (k true) h (λi rec b=>by
  show j4Q _ _ _ _ _ _ _=_
  unfold j4Q
  unfold LIM at h
  rw [ZaQ b,cond_true,j01 b,cond_true,Zay _ _ _ b,j02 (n:=(i:Int)+1) (by omega)]) (λrec=>by
  show j4Q _ _ _ _ _ _ _=_
  unfold j4Q
  rw [ZaP,cond_false])
 refine this.trans ?_
 cases l.any λx=>sEq x s<;>rfl
end Go.PI.G
namespace Go.PI.G
open Go Go.PI Go.Proofs
theorem jdc {n:Nat} (h:n<=1048576):lim (0+n)=true:=ZaL (by unfold LIM;omega)
theorem jl1 (t:T) (b:t.2.1.length<=1048576) (d:t.2.2.length<=1048576) (k:T->Res):j5m t k=k t:=by
 unfold j5m
 simp only [Z9Q]
 rw [jdc b,cond_true,jdc d,cond_true]
theorem jeL {c:List T} (b:msr (.slice yT) c<=1048576):c.length<=1048576/\∀ t∈c,tSm t:=⟨j0p b,λt ht=>j36 (j0O b ht)⟩
theorem j10 {α:Type}:(l:List α)->l.flatMap (λx=>[x])=l
 | []=>rfl
 | x::l=>by rw [List.flatMap_cons,j10 l];rfl
theorem jkW (c:List T) (f:msr (.slice yT) c<=1048576) (k:List T->Res):j4P c k=k c:=by
 obtain ⟨h,ht⟩:=jeL f
 unfold j4P jg5
 have:=Z9T c (λi b=>(i,b)) (λx=>[x]) 1048576 [] (step:=j9W c (nI c.length)) (λb=>k b) (λb=>k b) (by unfold LIM;omega) (λi d _=>by
  rw [j10,List.nil_append,List.length_take];omega) (by simp) (λi b rec d j g=>by
  show j3F _ _ _ _ _ _=_
  unfold j3F
  obtain ⟨l,m,p,q,r⟩:=ht _ (List.getElem_mem d)
  dsimp only
  rw [ZaQ d,cond_true,j01 d,cond_true,Zay _ _ _ d,jl1 _ (by omega) (by omega),ZaL (by unfold LIM;omega),cond_true,j02 (n:=(i:Int)+1) (by omega)]) (λb rec=>by
  show j3F _ _ _ _ _ _=_
  unfold j3F
  dsimp only
  rw [ZaP,cond_false])
 refine this.trans ?_
 rw [j10,List.nil_append]
noncomputable def jbw (t:T) (a:Bool×List T) (x:T):Bool×List T:=bif !a.1&&tR t x then (true,a.2++[t]++[x]) else (a.1,a.2++[x])
theorem jop (t:T):(l:List T)->(b:List T)->l.foldl (jbw t) (true,b)=(true,b++l)
 | [],b=>by simp
 | x::l,b=>by
  rw [List.foldl_cons]
  show l.foldl (jbw t) (true,b++[x])=_
  rw [jop t l,List.append_assoc];rfl
theorem jqw (t:T):(l:List T)->(b:List T)->(bif !(l.foldl (jbw t) (false,b)).1 then (l.foldl (jbw t) (false,b)).2++[t] else (l.foldl (jbw t) (false,b)).2)=b++lay tR t l
 | [],b=>rfl
 | x::l,b=>by
  rw [List.foldl_cons]
  unfold lay
  cases d:tR t x
  ·have:jbw t (false,b) x=(false,b++[x]):=by unfold jbw;rw [d];rfl
   rw [this,jqw t l,List.takeWhile_cons_of_pos (by rw [d];rfl),List.dropWhile_cons_of_pos (by rw [d];rfl)]
   unfold lay
   simp
  ·have:jbw t (false,b) x=(true,b++[t]++[x]):=by unfold jbw;rw [d];rfl
   rw [this,jop,List.takeWhile_cons_of_neg (by rw [d];simp),List.dropWhile_cons_of_neg (by rw [d];simp)]
   simp
theorem jtB (t:T) (a:Bool×List T) (x:T):(jbw t a x).2.length<=a.2.length+2:=by
 unfold jbw
 cases !a.1&&tR t x<;>simp
theorem jsc (c:List T) (t:T) (j:c.length<=1048576) (k:List T->Res):jai c t k=k (lay tR t c):=by
 unfold jai jcT
 have:=Z8i c (λi (a:Bool×List T)=>(a.1,i,a.2)) (jbw t) (λi a=>a.2.length<=2 * i) (step:=jaO c (nI c.length) t) (λdone b=>bif !done then bif lim (b.length+1) then k (b++[t]) else none else k b)
  (λa=>bif !a.1 then k (a.2++[t]) else k a.2) (false,[]) (by unfold LIM;omega) (by simp) (λi a f h=>by have:=jtB t a c[i];omega) (λi a rec f h=>by
  show j4R _ _ _ _ _ _ _ _=_
  unfold j4R jcU
  dsimp only
  rw [ZaQ f,cond_true,j01 f,cond_true,Zay _ _ _ f]
  have g:lim (a.2.length+1)=true:=ZaL (by unfold LIM;omega)
  have d:lim ((a.2++[t]).length+1)=true:=ZaL (by unfold LIM;simp;omega)
  unfold jbw tR
  cases a.1
  ·rw [Bool.not_false,cond_true,Bool.true_and]
   cases sLt t.1 c[i].1
   ·rw [cond_false,cond_false,g,cond_true,j02 (n:=(i:Int)+1) (by omega)]
   ·rw [cond_true,cond_true,g,cond_true,d,cond_true,j02 (n:=(i:Int)+1) (by omega)]
  ·rw [Bool.not_true,cond_false,Bool.false_and,cond_false,g,cond_true,j02 (n:=(i:Int)+1) (by omega)]) (λa rec h=>by
  show j4R _ _ _ _ _ _ _ _=_
  unfold j4R
  dsimp only
  rw [ZaP,cond_false]
  cases a.1
  ·rw [Bool.not_false,cond_true,cond_true,ZaL (by unfold LIM;omega),cond_true]
  ·rfl)
 refine this.trans ?_
 have d:=jqw t c []
 rw [List.nil_append] at d
 rw [<-d]
 cases (c.foldl (jbw t) (false,[])).1<;>rfl
theorem jhN (l:List C) (n:ByteArray):decide (j03 l n>=0)= !decide (j03 l n<0):=by
 by_cases h:j03 l n<0
 ·rw [decide_eq_true h,decide_eq_false (by omega)];rfl
 ·rw [decide_eq_false h,decide_eq_true (by omega)];rfl
theorem jqN (t:T) (d:D) (l:t.2.1.length<=1048576) (m:t.2.2.length<=1048576) (b:d.1=3->0<d.2.2.1.length) (k:Int->Res):j5l t d k=k (j0B t d):=by
 unfold j5l j0B
 rw [j7h _ _ (by unfold LIM;omega)]
 cases f:(d.1==3)
 ·rw [cond_false,cond_false]
  cases h:(d.1==4)
  ·rw [cond_false,cond_false]
   cases j:(d.1==5)
   ·rfl
   ·rw [cond_true,cond_true,j7h _ _ (by unfold LIM;omega),jhN]
    cases !decide (j03 t.2.1 d.2.2.2.2.2<0)
    ·cases decide (j03 t.2.1 d.2.2.2.2.1<0)<;>rfl
    ·rfl
  ·rw [cond_true,cond_true]
   cases decide (j03 t.2.1 d.2.2.2.2.1<0)
   ·rw [cond_false,cond_false,jsa _ _ (by unfold LIM;omega)]
    show (bif jgz t.2.2 d.2.2.2.2.1 then k 8 else k 0)=k (bif jgz t.2.2 d.2.2.2.2.1 then 8 else 0)
    cases jgz t.2.2 d.2.2.2.2.1<;>rfl
   ·rfl
 ·rw [cond_true,cond_true]
  have b:=b (by simpa using f)
  have g:inb 0 d.2.2.1.length=true:=j01 (i:=0) b
  rw [g,cond_true,j7h _ _ (by unfold LIM;omega),jhN]
  cases !decide (j03 t.2.1 (nth zC d.2.2.1 0).1<0)
  ·rw [cond_false,cond_false]
   have:(nI t.2.1.length==8)=(t.2.1.length==8):=by
    unfold nI
    rw [Bool.eq_iff_iff]
    simp only [beq_iff_eq]
    omega
   rw [this]
   cases (t.2.1.length==8)<;>rfl
  ·rfl
end Go.PI.G
namespace Go.PI.G
open Go Go.PI Go.Proofs
noncomputable def jbx {α:Type} (R:α->α->Bool) (t:α) (a:Bool×List α) (x:α):Bool×List α:=bif !a.1&&R t x then (true,a.2++[t]++[x]) else (a.1,a.2++[x])
theorem joq {α:Type} (R:α->α->Bool) (t:α):(l:List α)->(b:List α)->l.foldl (jbx R t) (true,b)=(true,b++l)
 | [],b=>by simp
 | x::l,b=>by
  rw [List.foldl_cons]
  show l.foldl (jbx R t) (true,b++[x])=_
  rw [joq R t l,List.append_assoc];rfl
theorem jqx {α:Type} (R:α->α->Bool) (t:α):(l:List α)->(b:List α)->(bif !(l.foldl (jbx R t) (false,b)).1 then (l.foldl (jbx R t) (false,b)).2++[t] else (l.foldl (jbx R t) (false,b)).2)=b++lay R t l
 | [],b=>rfl
 | x::l,b=>by
  rw [List.foldl_cons]
  unfold lay
  cases d:R t x
  ·have:jbx R t (false,b) x=(false,b++[x]):=by unfold jbx;rw [d];rfl
   rw [this,jqx R t l,List.takeWhile_cons_of_pos (by rw [d];rfl),List.dropWhile_cons_of_pos (by rw [d];rfl)]
   unfold lay
   simp
  ·have:jbx R t (false,b) x=(true,b++[t]++[x]):=by unfold jbx;rw [d];rfl
   rw [this,joq,List.takeWhile_cons_of_neg (by rw [d];simp),List.dropWhile_cons_of_neg (by rw [d];simp)]
   simp
theorem jtC {α:Type} (R:α->α->Bool) (t:α) (a:Bool×List α) (x:α):(jbx R t a x).2.length<=a.2.length+2:=by
 unfold jbx
 cases !a.1&&R t x<;>simp
theorem jnZ {t:T} (ht:j04 t=true) {r:List V} (h:r.length=t.2.1.length):lim (0+r.length)=true:=by
 have:=((j7C t).1 ht).2.2.1
 exact jdc (by omega)
theorem jn4 (t:T) (h:msr yT t<=1048576) (ht:j04 t=true) (l:List (List V)) (r:List V) (z:∀ x∈l,x.length=t.2.1.length) (A:l.length<=60) (n:r.length=t.2.1.length) (k:List (List V)->Res):j3Y t l r k=k (ji1 t l r):=by
 have p:∀ x:List V,(j08 t x).length<=LIM:=λx=>by
  rw [jaD]
  have:=(j36 h).2.2.1
  unfold LIM;omega
 unfold j3Y jcV j0I
 have:=Z8i l (λi (a:Bool×List (List V))=>(a.2,a.1,i)) (jbx (kR t) r) (λi a=>a.2.length<=2 * i) (step:=j4U l (nI l.length) t r) (λb done=>bif !done then bif lim (0+r.length) then bif lim (b.length+1) then k (b++[r]) else none else none else k b)
  (λa=>bif !a.1 then k (a.2++[r]) else k a.2) (false,[]) (by unfold LIM;omega) (by simp) (λi a d p=>by have:=jtC (kR t) r a l[i];omega) (λi a rec d y=>by
  show j2H _ _ _ _ _ _ _ _ _=_
  unfold j2H j78 j0I
  dsimp only
  have q:=z _ (List.getElem_mem d)
  rw [ZaQ d,cond_true,j01 d,cond_true,Zay _ _ _ d]
  have g:lim (a.2.length+1)=true:=ZaL (by unfold LIM;omega)
  have f:lim ((a.2++[r]).length+1)=true:=ZaL (by unfold LIM;simp;omega)
  have j:lim (0+(l[i]).length)=true:=jnZ ht q
  have w:lim (0+r.length)=true:=jnZ ht n
  have m:Z9K ((i:Int)+1)=(i:Int)+1:=j02 (by omega)
  unfold jbx
  cases a.1
  ·simp only [Bool.not_false,cond_true,Bool.true_and]
   rw [j7x t h ht r n,j7x t h ht _ q,jhu _ _ (p _)]
   unfold kR
   cases klt (j08 t r) (j08 t l[i])
   ·simp only [cond_false,cond_true,j,g,m]
   ·simp only [cond_true,w,g,j,f,m]
  ·simp only [Bool.not_true,cond_false,Bool.false_and,j,g,m,cond_true]) (λa rec y=>by
  show j2H _ _ _ _ _ _ _ _ _=_
  unfold j2H
  dsimp only
  rw [ZaP,cond_false]
  cases a.1
  ·simp only [Bool.not_false,cond_true,jnZ ht n]
   rw [ZaL (by unfold LIM;omega),cond_true]
  ·rfl)
 refine this.trans ?_
 have f:=jqx (kR t) r l []
 rw [List.nil_append] at f
 unfold ji1
 rw [<-f]
 cases (l.foldl (jbx (kR t) r) (false,[])).1<;>rfl
theorem jmd {α:Type} (l:List α) (a i:Nat) (f:i<l.length):(l.take (i+1)).eraseIdx a=bif i==a then (l.take i).eraseIdx a else (l.take i).eraseIdx a++[l[i]]:=by
 have g:(l.take i).length=i:=by rw [List.length_take];omega
 rw [List.take_succ_eq_append_getElem f]
 by_cases h:a<i
 ·rw [List.eraseIdx_append_of_lt_length (by omega),show (i==a)=false from beq_eq_false_iff_ne.2 (by omega),cond_false]
 ·rw [List.eraseIdx_append_of_length_le (by omega),g]
  by_cases e:i=a
  ·subst e
   have b:[l[i]].eraseIdx (i-i)=[]:=by rw [Nat.sub_self];rfl
   have d:(l.take i).eraseIdx i=l.take i:=List.eraseIdx_of_length_le (by omega)
   rw [show (i==i)=true from beq_self_eq_true i,cond_true,b,d,List.append_nil]
  ·have b:[l[i]].eraseIdx (a-i)=[l[i]]:=List.eraseIdx_of_length_le (by simp only [List.length_cons,List.length_nil];omega)
   have d:(l.take i).eraseIdx a=l.take i:=List.eraseIdx_of_length_le (by omega)
   rw [show (i==a)=false from beq_eq_false_iff_ne.2 e,cond_false,b,d]
theorem jhv (l:List (List V)) (a:Nat) (j:l.length<=60) (h:∀ x∈l,x.length<=1048576) (k:List (List V)->Res):j26 l (a:Int) k=k (l.eraseIdx a):=by
 unfold j26 jdo
 have:=Z3u (step:=j7B (a:Int) l (nI l.length)) (λi=>((l.take i).eraseIdx a,(i:Int))) l.length (λd=>k d) (k (l.eraseIdx a)) (λi b rec=> ?_) (λrec=> ?_) Z1c (Z2b (by omega))
 ·refine Eq.trans ?_ this
  rw [List.take_zero,List.eraseIdx_nil]
  rfl
 ·show j27 _ _ _ _ _ _ _=_
  unfold j27 j0I
  dsimp only
  have g:((l.take i).eraseIdx a).length<=60:=Nat.le_trans (List.eraseIdx_sublist _ _).length_le (by rw [List.length_take];omega)
  rw [ZaQ b,cond_true,j01 b,cond_true,Zay _ _ _ b,j02 (n:=(i:Int)+1) (by omega),jmd l a i b]
  have f:((i:Int) != (a:Int))= !(i==a):=by
   rw [Bool.eq_iff_iff]
   simp only [bne_iff_ne,Bool.not_eq_true',beq_eq_false_iff_ne,ne_eq,Int.natCast_inj]
  rw [f]
  cases (i==a)
  ·rw [Bool.not_false,cond_true,jdc (h _ (List.getElem_mem b)),cond_true,ZaL (by unfold LIM;omega),cond_true,cond_false]
   rfl
  ·rw [Bool.not_true,cond_false,cond_true]
   rfl
 ·show j27 _ _ _ _ _ _ _=_
  unfold j27
  dsimp only
  rw [ZaP,cond_false,List.take_length]
end Go.PI.G
namespace Go.PI.G
open Go Go.PI Go.Proofs
theorem jqm {t:T} (ht:j04 t=true) {n:ByteArray} (f:n∈t.2.2):∃ (j:Nat) (b:j<t.2.1.length),j03 t.2.1 n=(j:Int):=by
 have g:=(((j5G _ _ _).1 ((j7C t).1 ht).2.2.2.2.2).1 n f).1
 rcases j1r t.2.1 n with ⟨d,_⟩ | ⟨j,b,d,_⟩
 ·omega
 ·exact ⟨j,b,d⟩
theorem jun {t:T} (ht:j04 t=true) {c:C} (b:c∈t.2.1):j1g c=true:=((j7e _).1 ((j7C t).1 ht).2.2.2.2.1).1 c b
theorem jjY (t:T) (h:msr yT t<=1048576) (b:List V) (k:Bool->Res):j5S t b k=k (jbp t b):=by
 unfold j5S jbp
 obtain ⟨m,p,q,r,w⟩:=j36 h
 rw [jel t h]
 cases ht:j04 t
 ·rfl
 rw [Bool.not_true,cond_false,Bool.true_and]
 by_cases f:b.length=t.2.2.length
 rotate_left
 ·rw [jmn f,cond_true,decide_eq_false f,Bool.false_and]
 rw [jmm f,cond_false,decide_eq_true f,Bool.true_and]
 unfold jdM
 have:=Z9P t.2.2 (λi=>i) (λi n=> !j4e (nth zC t.2.1 (j03 t.2.1 n)) (nth zV b (i:Int))) (step:=j5T b t.2.2 (nI t.2.2.length) t) ((λ(_:Unit)=>k true),(λ(_:Unit)=>k false)) (k true) (k false) (by unfold LIM;omega) (λi rec d=>by
  obtain ⟨j,g,l⟩:=jqm ht (List.getElem_mem d)
  show j3a _ _ _ _ _ _ _ _=_
  unfold j3a
  rw [ZaQ d,cond_true,j01 d,cond_true,j01 (f ▸ d),cond_true,Zay _ _ _ d,j7h _ _ (by unfold LIM;omega),l,j01 g,cond_true,Zay _ _ _ g,jkY _ (jun ht (List.getElem_mem g)),j02 (n:=(i:Int)+1) (by omega)]) (λrec=>by
  show j3a _ _ _ _ _ _ _ _=_
  unfold j3a
  rw [ZaP,cond_false])
 refine this.trans ?_
 cases Z71 (λi n=> !j4e (nth zC t.2.1 (j03 t.2.1 n)) (nth zV b (i:Int))) 0 t.2.2<;>rfl
theorem jib (t:T) (l:List (List V)) (b:List V):decide (j09 t l b>=0)= !decide (j09 t l b<0):=by
 by_cases h:j09 t l b<0
 ·rw [decide_eq_true h,decide_eq_false (by omega)];rfl
 ·rw [decide_eq_false h,decide_eq_true (by omega)];rfl
theorem jrH (n:Nat) (m:Nat):(nI n==(m:Int))=(n==m):=by
 unfold nI
 rw [Bool.eq_iff_iff]
 simp only [beq_iff_eq]
 omega
theorem jpy (t:T) (h:msr yT t<=1048576) (l:List (List V)) (r:List V) (k:List (List V)->Int->Res):j8b t l r k=k (j6L t l r).1 (j6L t l r).2:=by
 unfold j8b j6L
 rw [j89 t h]
 cases b:j0a t l
 ·rfl
 obtain ⟨ht,g,i⟩:=j0q b
 rw [Bool.not_true,cond_false,cond_false,jif t h,ht,Bool.true_and]
 cases d:j0z t.2.1 r
 ·rfl
 rw [Bool.not_true,cond_false,cond_false,j7x t h ht r (j0F d),jbN t h l b,jib]
 cases !decide (j09 t l (j08 t r)<0)
 rotate_left
 ·rfl
 rw [cond_false,cond_false,show (nI l.length==(60:Int))=(l.length==60) from jrH _ 60]
 cases (l.length==60)
 ·rw [cond_false,cond_false,jn4 t h ht l r (λx f=>j0F (i x f)) g (j0F d)]
 ·rfl
theorem jhp {t:T} (h:msr yT t<=1048576) {l:List (List V)} (b:j0a t l=true):∀ x∈l,x.length<=1048576:=λx d=>by
 have f:=j0F ((j0q b).2.2 x d)
 have g:=(j36 h).2.1
 omega
theorem jfZ {t:T} {l:List (List V)} {b:List V} (h:¬ j09 t l b<0):∃ i:Nat,i<l.length/\j09 t l b=(i:Int):=by
 have:=jqy t l b
 exact ⟨(j09 t l b).toNat,by omega,by omega⟩
theorem jpz (t:T) (h:msr yT t<=1048576) (l:List (List V)) (b r:List V) (k:List (List V)->Int->Res):j8c t l b r k=k (j6M t l b r).1 (j6M t l b r).2:=by
 unfold j8c j6M
 rw [j89 t h]
 cases g:j0a t l
 ·rfl
 obtain ⟨ht,w,z⟩:=j0q g
 rw [Bool.not_true,cond_false,cond_false,jif t h,ht,Bool.true_and]
 cases j:j0z t.2.1 r
 ·rfl
 rw [Bool.not_true,cond_false,cond_false,jbN t h l g,jjY t h]
 cases jbp t b
 ·rfl
 rw [Bool.not_true,cond_false,Bool.false_or]
 by_cases d:j09 t l b<0
 ·rw [decide_eq_true d];rfl
 rw [decide_eq_false d,cond_false,cond_false]
 obtain ⟨i,y,m⟩:=jfZ d
 have f:=jfO g i
 obtain ⟨_,p,q⟩:=j0q f
 rw [m,Int.toNat_natCast,jhv l i w (jhp h g),j7x t h ht r (j0F j),jbN t h _ f,jib]
 cases !decide (j09 t (l.eraseIdx i) (j08 t r)<0)
 ·rw [cond_false,cond_false,jn4 t h ht _ r (λx n=>j0F (q x n)) p (j0F j)]
 ·rfl
theorem jpx (t:T) (h:msr yT t<=1048576) (l:List (List V)) (b:List V) (k:List (List V)->Int->Res):j8a t l b k=k (j6K t l b).1 (j6K t l b).2:=by
 unfold j8a j6K
 rw [j89 t h]
 cases f:j0a t l
 ·rfl
 obtain ⟨ht,j,n⟩:=j0q f
 rw [Bool.not_true,cond_false,cond_false,jbN t h l f,jjY t h]
 cases jbp t b
 ·rfl
 rw [Bool.not_true,cond_false,Bool.false_or]
 by_cases d:j09 t l b<0
 ·rw [decide_eq_true d];rfl
 rw [decide_eq_false d,cond_false,cond_false]
 obtain ⟨i,m,g⟩:=jfZ d
 rw [g,Int.toNat_natCast,jhv l i j (jhp h f)]
end Go.PI.G
namespace Go.PI.G
open Go Go.PI
def goL {α A E:Type} (f:A->α->Except E A):List α->A->Except E A
 | [],a=> .ok a
 | x::xs,a=>match f a x with
  | .ok b=>goL f xs b
  | .error e=> .error e
def juC (x:Int):Bool:=decide (48<=x/\x<=57)
def dgF (n x:Int):Except Unit Int:=bif juC x then .ok (n * 10+(x-48)) else .error ()
def rdN (l:List Int):Option Int:=bif l.headD 0==45 then (match goL dgF l.tail 0 with | .ok n=>some (-n) | .error _=>none) else match goL dgF l 0 with | .ok n=>some n | .error _=>none
theorem jtJ {α:Type} (l:List α) (i:Nat):sub l (i:Int) (nI l.length)=l.drop i:=by
 unfold sub nI
 rw [show ((l.length:Int)).toNat=l.length by omega,show ((i:Int)).toNat=i by omega,List.take_length]
theorem jrM {α:Type} (l:List α) (i j:Nat):sub l (i:Int) (j:Int)=(l.take j).drop i:=by
 unfold sub
 rw [show ((j:Int)).toNat=j by omega,show ((i:Int)).toNat=i by omega]
theorem jaA {i j n:Nat} (h:i<=j/\j<=n):Z8e (i:Int) (j:Int) n=true:=decide_eq_true (by omega)
end Go.PI.G
namespace Go.PI.G
open Go Go.PI Go.Proofs
theorem jhd {α:Type} (f:α->α) (l:List α) (i:Nat):((l.take i).map f++l.drop i).length=l.length:=by
 rw [List.length_append,List.length_map,List.length_take,List.length_drop];omega
theorem jq5 {α:Type} (f:α->α) (z:α) (l:List α) (i:Nat) (b:i<l.length):nth z ((l.take i).map f++l.drop i) (i:Int)=l[i]:=by
 rw [Zay _ _ _ (by rw [jhd];exact b),List.getElem_append_right (by rw [List.length_map,List.length_take];omega),List.getElem_drop]
 congr 1
 rw [List.length_map,List.length_take];omega
theorem jq6 {α:Type} (f:α->α) (l:List α) (i:Nat) (b:i<l.length):((l.take i).map f++l.drop i).set i (f l[i])=(l.take (i+1)).map f++l.drop (i+1):=by
 rw [List.set_append_right _ _ (by rw [List.length_map,List.length_take];omega),List.length_map,List.length_take,Nat.min_eq_left (by omega),Nat.sub_self,List.drop_eq_getElem_cons b,List.set_cons_zero,List.take_succ_eq_append_getElem b,List.map_append,List.append_assoc]
 rfl
theorem jud {α:Type} (f:α->α) (l:List α) (i:Nat) (b:i<l.length) (h:f l[i]=l[i]):(l.take (i+1)).map f++l.drop (i+1)=(l.take i).map f++l.drop i:=by
 rw [List.take_succ_eq_append_getElem b,List.map_append,List.append_assoc,List.drop_eq_getElem_cons b]
 show (l.take i).map f++([f l[i]]++l.drop (i+1))=_
 rw [h]
 rfl
noncomputable def jaz (d:D) (c:C):List C:=bif (d.1==4)&&sEq c.1 d.2.2.2.2.1 then [] else [bif (d.1==5)&&sEq c.1 d.2.2.2.2.1 then (d.2.2.2.2.2,c.2) else c]
theorem jt7 (d:D) (l:List C):(l.flatMap (jaz d)).length<=l.length:=by
 induction l with
 | nil=>exact Nat.le_refl _
 | cons c l b=>
  rw [List.flatMap_cons,List.length_append,List.length_cons]
  have:(jaz d c).length<=1:=by
   unfold jaz
   cases (d.1==4)&&sEq c.1 d.2.2.2.2.1<;>simp
  omega
theorem jrp (d:D) (t:T) (l:t.2.1.length<=1048576) (k:T->Res):j6g t.2.1 (nI t.2.1.length) d Z1c 0 (t.1,[],t.2.2) k=k (t.1,t.2.1.flatMap (jaz d),t.2.2):=by
 unfold j6g
 have:=Z9T t.2.1 (λi b=>(i,(t.1,b,t.2.2))) (jaz d) 1048576 [] (step:=j2x t.2.1 (nI t.2.1.length) d) k (λb=>k (t.1,b,t.2.2)) (by unfold LIM;omega) (λi f _=>by
  rw [List.nil_append]
  exact Nat.le_trans (jt7 _ _) (by rw [List.length_take];omega)) (by simp) (λi b rec f p m=>by
  show j1p _ _ _ _ _ _ _=_
  unfold j1p j6j j6k
  dsimp only
  have g:lim (b.length+1)=true:=ZaL (by unfold LIM;omega)
  rw [ZaQ f,cond_true,j01 f,cond_true,Zay _ _ _ f,j02 (n:=(i:Int)+1) (by omega)]
  unfold jaz
  cases j:(d.1==4)
  ·rw [cond_false,Bool.false_and,cond_false]
   cases h:(d.1==5)
   ·rw [cond_false,g,cond_true,Bool.false_and,cond_false]
   ·rw [cond_true,Bool.true_and]
    cases sEq t.2.1[i].1 d.2.2.2.2.1
    ·rw [cond_false,g,cond_true,cond_false]
    ·rw [cond_true,g,cond_true,cond_true]
  ·rw [cond_true,Bool.true_and]
   cases sEq t.2.1[i].1 d.2.2.2.2.1
   ·rw [cond_false,cond_false]
    have h:(d.1==5)=false:=by
     have:d.1=4:=by simpa using j
     rw [this];rfl
    rw [h]
    simp only [cond_false,cond_true,g,Bool.false_and]
   ·rw [cond_true,cond_true,List.append_nil]) (λb rec=>by
  show j1p _ _ _ _ _ _ _=_
  unfold j1p
  dsimp only
  rw [ZaP,cond_false])
 refine this.trans ?_
 rw [List.nil_append]
theorem jrr (d:D) (a:ByteArray) (cs:List C) (ks:List ByteArray) (j:ks.length<=1048576) (k:T->Res):j6h (nI ks.length) d Z1c 0 (a,cs,ks) k=k (a,cs,bif d.1==5 then ks.map (ren d.2.2.2.2.1 d.2.2.2.2.2) else ks):=by
 unfold j6h
 cases g:(d.1==5)
 ·refine Z3u (λi=>((i:Int),(a,cs,ks))) ks.length k (k (a,cs,ks)) (λi b rec=> ?_) (λrec=> ?_) Z1c (Z2b (by omega))
  ·show j0r _ _ _ _ _ _=_
   unfold j0r
   rw [ZaQ b,cond_true,g,cond_false,j02 (n:=(i:Int)+1) (by omega)]
   rfl
  ·show j0r _ _ _ _ _ _=_
   unfold j0r
   rw [ZaP,cond_false]
 ·have:=Z3u (step:=j57 (nI ks.length) d) (λi=>((i:Int),(a,cs,(ks.take i).map (ren d.2.2.2.2.1 d.2.2.2.2.2)++ks.drop i))) ks.length k (k (a,cs,ks.map (ren d.2.2.2.2.1 d.2.2.2.2.2))) (λi b rec=> ?_) (λrec=> ?_) Z1c (Z2b (by omega))
  ·refine Eq.trans ?_ this
   simp
  ·show j0r _ _ _ _ _ _=_
   unfold j0r
   dsimp only
   have f:inb (i:Int) ((ks.take i).map (ren d.2.2.2.2.1 d.2.2.2.2.2)++ks.drop i).length=true:=j01 (by rw [jhd];exact b)
   rw [ZaQ b,cond_true,g,cond_true,f,cond_true,jq5 _ _ _ _ b,j02 (n:=(i:Int)+1) (by omega)]
   cases h:sEq ks[i] d.2.2.2.2.1
   ·rw [cond_false,jud _ _ _ b (by unfold ren;rw [h];rfl)]
    rfl
   ·rw [cond_true,cond_true,ZaF]
    have:ren d.2.2.2.2.1 d.2.2.2.2.2 ks[i]=d.2.2.2.2.2:=by unfold ren;rw [h];rfl
    rw [<-jq6 _ _ _ b,this]
    rfl
  ·show j0r _ _ _ _ _ _=_
   unfold j0r
   dsimp only
   rw [ZaP,cond_false,List.take_length,List.drop_length,List.append_nil]
theorem jq7 (n:ByteArray) (l:List C):(l.flatMap λc=>bif sEq c.1 n then [] else [c])=l.filter λc=> !sEq c.1 n:=by
 induction l with
 | nil=>rfl
 | cons c l b=>
  rw [List.flatMap_cons,b]
  cases h:sEq c.1 n
  ·rw [List.filter_cons_of_pos (by rw [h];rfl)];rfl
  ·rw [List.filter_cons_of_neg (by rw [h];simp)];rfl
theorem jfP {α β:Type} (f:α->β) (l:List α):l.flatMap (λx=>[f x])=l.map f:=by
 induction l with
 | nil=>rfl
 | cons c l b=>rw [List.flatMap_cons,b];rfl
theorem jt6 (d:D) (l:List C):(d.1=3->l.flatMap (jaz d)=l)/\(d.1=4->l.flatMap (jaz d)=l.filter λc=> !sEq c.1 d.2.2.2.2.1)/\(d.1=5->l.flatMap (jaz d)=l.map (j9R d.2.2.2.2.1 d.2.2.2.2.2)):=by
 refine ⟨λh=> ?_,λh=> ?_,λh=> ?_⟩
 ·have:jaz d=λc=>[c]:=by funext c;unfold jaz;rw [h];rfl
  rw [this,j10]
 ·have:jaz d=λc=>bif sEq c.1 d.2.2.2.2.1 then [] else [c]:=by funext c;unfold jaz;rw [h];rfl
  rw [this,jq7]
 ·have:jaz d=λc=>[j9R d.2.2.2.2.1 d.2.2.2.2.2 c]:=by
   funext c
   unfold jaz j9R ren
   rw [h]
   cases sEq c.1 d.2.2.2.2.1<;>rfl
  rw [this,jfP]
theorem jpu (t:T) (d:D) (g:t.2.1.length<=1048576) (f:t.2.2.length<=1048576) (b:d.1=3->0<d.2.2.1.length) (j:d.1=3\/d.1=4\/d.1=5) (k:T->Res):j49 t d k=k (jbg t d):=by
 obtain ⟨m,n,p⟩:=jt6 d t.2.1
 unfold j49 j6i
 simp only [Z9Q]
 rw [jdc f,cond_true,jrp _ _ g]
 dsimp only
 rw [jrr _ _ _ _ f]
 dsimp only
 rcases j with h | h | h
 ·have b:=b h
  have l:inb 0 d.2.2.1.length=true:=j01 (i:=0) b
  rw [m h,show (d.1==3)=true by rw [h];rfl,show (d.1==5)=false by rw [h];rfl,cond_true,l,cond_true,ZaL (by unfold LIM;omega),cond_true,cond_false]
  unfold jbg jlf
  rw [h]
  rfl
 ·rw [n h,show (d.1==3)=false by rw [h];rfl,show (d.1==5)=false by rw [h];rfl,cond_false,cond_false]
  unfold jbg ji8
  rw [h]
  rfl
 ·rw [p h,show (d.1==3)=false by rw [h];rfl,show (d.1==5)=true by rw [h];rfl,cond_false,cond_true]
  unfold jbg jfY
  rw [h]
  rfl
theorem jhb {d:D} (b:j1c d=true):(d.1=1\/d.1=2\/d.1=3\/d.1=4\/d.1=5)/\(d.1=3->0<d.2.2.1.length):=by
 obtain ⟨_,⟨t,cs,ks,rfl,_⟩ | ⟨t,rfl⟩ | ⟨t,c,rfl,_⟩ | ⟨t,n,rfl,_⟩ | ⟨t,n,m,rfl,_⟩⟩:=j7m b<;>simp
theorem jqU (c:List T) (n:ByteArray):decide (j07 c n>=0)= !decide (j07 c n<0):=by
 by_cases h:j07 c n<0
 ·rw [decide_eq_true h,decide_eq_false (by omega)];rfl
 ·rw [decide_eq_false h,decide_eq_true (by omega)];rfl
theorem jnD (n:Nat) (m:Nat):(nI n==(m:Int))=(n==m):=by
 unfold nI
 rw [Bool.eq_iff_iff]
 simp only [beq_iff_eq]
 omega
theorem jtK {α:Type} (l:List α) (i:Nat):sub l 0 (i:Int)=l.take i:=by
 have:=jrM l 0 i
 simpa using this
theorem jkX (c:List T) (d:D) (j:msr (.slice yT) c<=1048576) (b:dSm d) (k:List T->Int->Res):j2o c d k=k (jgy c d).1 (jgy c d).2:=by
 obtain ⟨y,m⟩:=jeL j
 unfold j2o jgy
 rw [jn1 c j]
 cases w:j2z c
 ·rfl
 rw [Bool.not_true,cond_false,Bool.false_or,jie d b]
 cases f:j1c d
 ·rfl
 rw [Bool.not_true,cond_false,cond_false,jfn _ _ (by unfold LIM;omega),jkW c j]
 obtain ⟨H,p⟩:=jhb f
 unfold j0f j1h
 cases q:(d.1==1)
 ·rw [cond_false,cond_false,cond_false]
  rcases j0J c d.2.1 with ⟨l,_⟩ | ⟨i,g,l,_⟩
  ·rw [l];rfl
  ·have h:decide (j07 c d.2.1<0)=false:=decide_eq_false (by omega)
   rw [h,cond_false,cond_false,l,j01 g,cond_true,Zay _ _ _ g]
   obtain ⟨I,J,K,L,M⟩:=m _ (List.getElem_mem g)
   rw [jqN _ _ (by omega) (by omega) p]
   cases G:(j0B c[i] d != 0)
   ·rw [cond_false,cond_false]
    cases r:(d.1==2)
    ·rw [cond_false,cond_false,cond_true,jpu _ _ (by omega) (by omega) p (by
      have E:d.1≠1:=by simpa using q
      have F:d.1≠2:=by simpa using r
      omega),cond_true,ZaF,Int.toNat_natCast]
    ·rw [cond_true,cond_true,Int.toNat_natCast]
     unfold j7z
     have z:(sub c 0 (i:Int))=c.take i:=jtK c i
     have A:(sub c (Z9K ((i:Int)+1)) (nI c.length))=c.drop (i+1):=by
      rw [j02 (n:=(i:Int)+1) (by omega)]
      exact jtJ c (i+1)
     have B:Z8e 0 (i:Int) c.length=true:=jaA (i:=0) ⟨Nat.zero_le _,by omega⟩
     have C:Z8e (Z9K ((i:Int)+1)) (nI c.length) c.length=true:=by
      rw [j02 (n:=(i:Int)+1) (by omega)]
      exact jaA (i:=i+1) ⟨by omega,Nat.le_refl _⟩
     rw [B,cond_true,C,cond_true,z,A,ZaL (by unfold LIM;simp;omega),cond_true,ZaL (by unfold LIM;simp;omega),cond_true,List.eraseIdx_eq_take_drop_succ]
   ·rfl
 ·rw [cond_true,cond_true,cond_true,jqU]
  cases decide (j07 c d.2.1<0)
  ·rfl
  ·rw [Bool.not_true,cond_false,cond_false,show (nI c.length==(6:Int))=(c.length==6) from jnD _ 6]
   cases (c.length==6)
   ·rw [cond_false,cond_false]
    unfold j4L
    rw [jl1 _ b.2.1 b.2.2.1,jsc _ _ y]
    rfl
   ·rfl
end Go.PI.G
namespace Go.PI.G
open Go Go.PI Go.Proofs
theorem jcH {t:T} (ht:j04 t=true):msr yT t<=400:=by
 obtain ⟨a,b,c⟩:=t
 obtain ⟨d,f,g⟩:=jqs ht
 have:msr yT (a,b,c)=a.size+(msr (.slice yC) b+msr (.slice .str) c):=rfl
 omega
theorem jns {t:T} (ht:j04 t=true):j2z [t]=true/\msr (.slice yT) [t]<=1048576:=by
 refine ⟨(j0h _).2 ⟨by simp,by simpa using ht,by simp⟩,?_⟩
 have:=jcH ht
 rw [jju]
 simp
 omega
theorem jta {t:T} (ht:j04 t=true) {d:D} (j:j1c d=true) (k:d.2.1=t.1) (f:d.1≠1):(jgy [t] d).2=j0B t d:=by
 have b:j07 [t] d.2.1=(0:Int):=by
  have:=jg9 (c:=[t]) (by simp) (i:=0) (by simp)
  rw [k]
  exact this
 have g:j0f [t] d=j0B t d:=by
  unfold j0f
  rw [show (d.1==1)=false by simpa using f,cond_false,b]
  rfl
 unfold jgy
 rw [(jns ht).1,j,g]
 show (bif (j0B t d != 0) then (([]:List T),j0B t d) else _).2=_
 cases h:(j0B t d != 0)
 ·have:j0B t d=0:=by simpa using h
  rw [this];rfl
 ·rfl
noncomputable def jjI (d:D) (j:Nat) (x:List V):List V:=bif d.1==3 then x++[(nth zC d.2.2.1 0).2.2.2.2] else bif d.1==4 then x.eraseIdx j else x
theorem jt8 (t:T) (d:D) (l:List (List V)):jgx t d l=l.map (jjI d (j03 t.2.1 d.2.2.2.2.1).toNat):=by
 unfold jgx jjI
 cases (d.1==3)
 ·cases (d.1==4)
  ·simp
  ·rfl
 ·rfl
theorem jqK (d:D) (b:Int) (x:List V) (r:x.length<=1048576) (j:d.1=4->0<=b) (k:List V->Res):j8x b x (nI x.length) d Z1c 0 [] k=k (bif d.1==4 then x.eraseIdx b.toNat else x):=by
 unfold j8x
 cases h:(d.1==4)
 ·have:=Z9T x (λi g=>(i,g)) (λv=>[v]) 1048576 [] (step:=j3A b x (nI x.length) d) k k (by unfold LIM;omega) (λi f _=>by
   rw [j10,List.nil_append,List.length_take];omega) (by simp) (λi g rec f q p=>by
   show j0L _ _ _ _ _ _ _ _=_
   unfold j0L
   dsimp only
   rw [ZaQ f,cond_true,j01 f,cond_true,show (d.1 != 4)=true by rw [bne,h];rfl,cond_true,Zay _ _ _ f,ZaL (by unfold LIM;omega),cond_true,j02 (n:=(i:Int)+1) (by omega)]) (λg rec=>by
   show j0L _ _ _ _ _ _ _ _=_
   unfold j0L
   rw [ZaP,cond_false])
  refine this.trans ?_
  rw [j10,List.nil_append]
  rfl
 ·have j:=j (by simpa using h)
  obtain ⟨a,rfl⟩:∃ a:Nat,b=(a:Int):=⟨b.toNat,by omega⟩
  have:=Z3u (step:=j3A (a:Int) x (nI x.length) d) (λi=>((i:Int),(x.take i).eraseIdx a)) x.length k (k (x.eraseIdx a)) (λi f rec=> ?_) (λrec=> ?_) Z1c (Z2b (by omega))
  ·refine Eq.trans ?_ this
   rw [List.take_zero,List.eraseIdx_nil]
   rfl
  ·show j0L _ _ _ _ _ _ _ _=_
   unfold j0L
   dsimp only
   have m:((x.take i).eraseIdx a).length<=1048576:=Nat.le_trans (List.eraseIdx_sublist _ _).length_le (by rw [List.length_take];omega)
   rw [ZaQ f,cond_true,j01 f,cond_true,show (d.1 != 4)=false by rw [bne,h];rfl,cond_false,Zay _ _ _ f,j02 (n:=(i:Int)+1) (by omega),jmd x a i f]
   have l:((i:Int) != (a:Int))= !(i==a):=by
    rw [Bool.eq_iff_iff]
    simp only [bne_iff_ne,Bool.not_eq_true',beq_eq_false_iff_ne,ne_eq,Int.natCast_inj]
   rw [l]
   cases (i==a)
   ·rw [Bool.not_false,cond_true,ZaL (by unfold LIM;omega),cond_true,cond_false]
    rfl
   ·rw [Bool.not_true,cond_false,cond_true]
    rfl
  ·show j0L _ _ _ _ _ _ _ _=_
   unfold j0L
   dsimp only
   rw [ZaP,cond_false,List.take_length]
theorem jo7 (t:T) (h:msr yT t<=1048576) (l:List (List V)) (F:j0a t l=true) (d:D) (g:dSm d) (w:j1c d=true) (G:d.2.1=t.1) (E:d.1≠1) (k:List (List V)->Int->Res) :
  j73 t l d k=k (bif j0B t d != 0 then [] else bif d.1==2 then [] else jgx t d l) (j0B t d):=by
 obtain ⟨ht,X,P⟩:=j0q F
 obtain ⟨H,J⟩:=jhb w
 unfold j73 j5X
 rw [j89 t h,F,Bool.not_true,cond_false,jie d g,w,Bool.not_true,cond_false]
 have B:sNe d.2.1 t.1=false:=by unfold sNe;rw [G];simp
 rw [B,cond_false,show (d.1==1)=false by simpa using E]
 dsimp only
 rw [cond_false,jkX _ _ (jns ht).2 g,jta ht w G E]
 cases K:(j0B t d != 0)
 rotate_left
 ·rfl
 have f:j0B t d=0:=by simpa using K
 have M:=(j36 h).2.1
 rw [cond_false,cond_false,j7h _ _ (by unfold LIM;omega),f]
 have L:d.1=4->0<=j03 t.2.1 d.2.2.2.2.1:=λr=>by
  by_cases A:j03 t.2.1 d.2.2.2.2.1<0
  ·unfold j0B at f
   rw [r] at f
   simp only [show ((4:Int)==3)=false from rfl,show ((4:Int)==4)=true from rfl,cond_false,cond_true,decide_eq_true A] at f
   cases f
  ·omega
 unfold jbR
 have:=Z9T l (λi b=>(b,i)) (λx=>bif d.1 != 2 then [jjI d (j03 t.2.1 d.2.2.2.2.1).toNat x] else []) 60 [] (step:=j3B (j03 t.2.1 d.2.2.2.2.1) l (nI l.length) d) (λb=>k b 0) (λb=>k b 0) (by unfold LIM;omega) (λi j _=> ?_) (by simp) (λi b rec j R Q=>by
  have U:l[i].length=t.2.1.length:=j0F (P _ (List.getElem_mem j))
  show j2f _ _ _ _ _ _ _ _=_
  unfold j2f j8y
  dsimp only
  rw [ZaQ j,cond_true,j01 j,cond_true,Zay _ _ _ j,jqK d _ _ (by omega) L,j02 (n:=(i:Int)+1) (by omega)]
  have p:lim (b.length+1)=true:=ZaL (by unfold LIM;omega)
  cases q:(d.1==3)
  ·rw [cond_false]
   cases (d.1 != 2)
   ·rw [cond_false,cond_false,List.append_nil]
   ·rw [cond_true,cond_true,p,cond_true]
    unfold jjI
    rw [q,cond_false]
  ·have e:d.1=3:=by simpa using q
   have z:inb 0 d.2.2.1.length=true:=j01 (i:=0) (J e)
   have r:(d.1==4)=false:=by rw [e];rfl
   have I:(d.1 != 2)=true:=by rw [e];rfl
   rw [cond_true,r,cond_false,z,cond_true,ZaL (by unfold LIM;omega),cond_true,I,cond_true,cond_true,p,cond_true]
   unfold jjI
   rw [q,cond_true]) (λb rec=>by
  show j2f _ _ _ _ _ _ _ _=_
  unfold j2f
  dsimp only
  rw [ZaP,cond_false])
 ·refine this.trans ?_
  rw [List.nil_append]
  congr 1
  cases C:(d.1==2)
  ·have:(d.1 != 2)=true:=by rw [bne,C];rfl
   rw [this,cond_false,jt8]
   show l.flatMap (λx=>[jjI d _ x])=_
   exact jfP _ _
  ·have:(d.1 != 2)=false:=by rw [bne,C];rfl
   rw [this,cond_true]
   show l.flatMap (λx=>[])=_
   simp
 ·rw [List.nil_append]
  have:∀ m:List (List V),(m.flatMap λx=>bif d.1 != 2 then [jjI d (j03 t.2.1 d.2.2.2.2.1).toNat x] else []).length<=m.length:=by
   intro m
   induction m with
   | nil=>exact Nat.le_refl _
   | cons y m W=>
    rw [List.flatMap_cons,List.length_append,List.length_cons]
    have:(bif d.1 != 2 then [jjI d (j03 t.2.1 d.2.2.2.2.1).toNat y] else []).length<=1:=by cases (d.1 != 2)<;>simp
    omega
  exact Nat.le_trans (this _) (by rw [List.length_take];omega)
end Go.PI.G
namespace Go.PI.G
open Go Go.PI Go.Proofs
theorem jrk (t:T) (b:t.2.1.length<=1048576) (d:t.2.2.length<=1048576) (k:T->Res):j42 t k=k t:=by
 unfold j42 j43
 rw [jdc b,cond_true,jdc d,cond_true]
theorem jkM (c:List T) (f:msr (.slice yT) c<=1048576) (k:List T->Res):j4j c k=k c:=by
 obtain ⟨h,ht⟩:=jeL f
 unfold j4j jfU
 have:=Z9T c (λi b=>(i,b)) (λx=>[x]) 1048576 [] (step:=j9P c (nI c.length)) (λb=>k b) (λb=>k b) (by unfold LIM;omega) (λi d _=>by
  rw [j10,List.nil_append,List.length_take];omega) (by simp) (λi b rec d j g=>by
  show j3w _ _ _ _ _ _=_
  unfold j3w
  obtain ⟨l,m,p,q,r⟩:=ht _ (List.getElem_mem d)
  dsimp only
  rw [ZaQ d,cond_true,j01 d,cond_true,Zay _ _ _ d,jrk _ (by omega) (by omega),ZaL (by unfold LIM;omega),cond_true,j02 (n:=(i:Int)+1) (by omega)]) (λb rec=>by
  show j3w _ _ _ _ _ _=_
  unfold j3w
  dsimp only
  rw [ZaP,cond_false])
 refine this.trans ?_
 rw [j10,List.nil_append]
theorem jkN (c:List T) (d:D) (y:msr (.slice yT) c<=1048576) (f:j1c d=true) (k:Int->Res):j2T c d k=k (j0f c d):=by
 obtain ⟨A,p⟩:=jeL y
 obtain ⟨z,w⟩:=jhb f
 unfold j2T j0f
 rw [j8K _ _ (by unfold LIM;omega)]
 cases q:(d.1==1)
 ·rw [cond_false,cond_false]
  rcases j0J c d.2.1 with ⟨m,_⟩ | ⟨i,g,m,_⟩
  ·rw [m];rfl
  ·have l:decide (j07 c d.2.1<0)=false:=decide_eq_false (by omega)
   rw [l,cond_false,cond_false,m,j01 g,cond_true,Zay _ _ _ g]
   obtain ⟨B,C,E,F,G⟩:=p _ (List.getElem_mem g)
   generalize c[i]=t at *
   have b:∀ n (K:Int->Res),j0j t n K=K (j03 t.2.1 n):=λn K=>j8I _ _ (by unfold LIM;omega) K
   unfold j5C j8n j5D j0B
   have r:d.1≠1:=by simpa using q
   rcases z with h | h | h | h | h
   ·exact absurd h r
   ·rw [h];rfl
   ·have j:inb 0 d.2.2.1.length=true:=j01 (i:=0) (w h)
    rw [h]
    show (bif inb 0 d.2.2.1.length then _ else none)=_
    rw [j,cond_true,b,jhN]
    show _=k (bif !decide (j03 t.2.1 (nth zC d.2.2.1 0).1<0) then 5 else bif t.2.1.length==8 then 6 else 0)
    cases !decide (j03 t.2.1 (nth zC d.2.2.1 0).1<0)
    ·show (bif (nI t.2.1.length==(8:Int)) then k 6 else _)=_
     rw [show (nI t.2.1.length==(8:Int))=(t.2.1.length==8) from jnD _ 8]
     cases (t.2.1.length==8)<;>rfl
    ·rfl
   ·rw [h]
    simp only [show ((4:Int)==3)=false from rfl,show ((4:Int)==4)=true from rfl,show ((4:Int)==5)=false from rfl,cond_false,cond_true,b]
    cases decide (j03 t.2.1 d.2.2.2.2.1<0)
    ·rw [cond_false,cond_false,jrU _ _ (by unfold LIM;omega)]
     show (bif jgz t.2.2 d.2.2.2.2.1 then k 8 else k 0)=k (bif jgz t.2.2 d.2.2.2.2.1 then 8 else 0)
     cases jgz t.2.2 d.2.2.2.2.1<;>rfl
    ·rfl
   ·rw [h]
    simp only [show ((5:Int)==3)=false from rfl,show ((5:Int)==4)=false from rfl,show ((5:Int)==5)=true from rfl,cond_false,cond_true,b,jhN]
    cases !decide (j03 t.2.1 d.2.2.2.2.2<0)
    ·simp only [cond_false]
     cases decide (j03 t.2.1 d.2.2.2.2.1<0)<;>rfl
    ·rfl
 ·rw [cond_true,cond_true,jqU]
  cases decide (j07 c d.2.1<0)
  ·rfl
  ·rw [Bool.not_true,cond_false,cond_false,show (nI c.length==(6:Int))=(c.length==6) from jnD _ 6]
   cases (c.length==6)<;>rfl
theorem jqY {α:Type} (p:α->Bool):(l:List α)->(i:Nat)->i<(l.takeWhile p).length->∃ h:i<l.length,p l[i]=true
 | [],i,h=>by simp at h
 | x::l,i,h=>by
  cases b:p x
  ·rw [List.takeWhile_cons_of_neg (by rw [b];simp)] at h;simp at h
  ·rw [List.takeWhile_cons_of_pos b,List.length_cons] at h
   cases i with
   | zero=>exact ⟨by simp,b⟩
   | succ i=>
    obtain ⟨f,d⟩:=jqY p l i (by omega)
    exact ⟨by rw [List.length_cons];omega,d⟩
theorem jqX {α:Type} (p:α->Bool):(l:List α)->(h:(l.takeWhile p).length<l.length)->p l[(l.takeWhile p).length]=false
 | [],h=>by simp at h
 | x::l,h=>by
  cases b:p x
  ·have e:(x::l).takeWhile p=[]:=List.takeWhile_cons_of_neg (by rw [b];simp)
   simp only [e,List.length_nil,List.getElem_cons_zero]
   exact b
  ·have e:(x::l).takeWhile p=x::l.takeWhile p:=List.takeWhile_cons_of_pos b
   simp only [e,List.length_cons,List.getElem_cons_succ] at h ⊢
   exact jqX p l (by omega)
theorem jqc (d:D) (c:List T) (l:c.length<=1048576) (k:Int->Res):jaC d c Z1c 0 k=k (((c.takeWhile λy=>sLt y.1 d.2.1).length:Nat):Int):=by
 have j:(c.takeWhile λy=>sLt y.1 d.2.1).length<=c.length:=(List.takeWhile_sublist _).length_le
 refine Z3u (step:=j5x d c) (λi=>(i:Int)) (c.takeWhile λy=>sLt y.1 d.2.1).length k _ (λi g rec=> ?_) (λrec=> ?_) Z1c (Z2b (by omega))
 ·obtain ⟨b,f⟩:=jqY _ c i g
  show j2Q _ _ _ _ _=_
  unfold j2Q
  rw [ZaQ b,cond_true,j01 b,cond_true,Zay _ _ _ b,f,cond_true,j02 (n:=(i:Int)+1) (by omega)]
  rfl
 ·show j2Q _ _ _ _ _=_
  unfold j2Q
  by_cases h:(c.takeWhile λy=>sLt y.1 d.2.1).length<c.length
  ·rw [ZaQ h,cond_true,j01 h,cond_true,Zay _ _ _ h,jqX (λy:T=>sLt y.1 d.2.1) c h,cond_false]
  ·rw [decide_eq_false (show ¬ (((c.takeWhile λy=>sLt y.1 d.2.1).length:Nat):Int)<nI c.length by unfold nI;omega),cond_false]
end Go.PI.G
namespace Go.PI.G
open Go Go.PI Go.Proofs
theorem jue (l:List ByteArray) (v:ByteArray) (h:l.length<=LIM) (k:Int->Res):j13 l v k=k (Z9F (λx=>sEq v x) l):=by
 unfold j13 j67
 refine Z9S l (λi=>i) (λx=>sEq v x) (step:=j24 l v (nI l.length)) ((λ(_:Unit)=>k (-1)),(λ(t:Int)=>k t)) k h (λi rec b=> ?_) (λrec=> ?_)
 ·show j0g _ _ _ _ _ _ _=_
  unfold j0g
  unfold LIM at h
  rw [ZaQ b,cond_true,j01 b,cond_true,Zay _ _ _ b,j02 (n:=(i:Int)+1) (by omega)]
 ·show j0g _ _ _ _ _ _ _=_
  unfold j0g
  rw [ZaP,cond_false]
end Go.PI.G
