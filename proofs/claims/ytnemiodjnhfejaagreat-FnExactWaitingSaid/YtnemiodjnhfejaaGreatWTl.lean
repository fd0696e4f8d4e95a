/-
  Program's code interpreted over typed values; printed texts; plain laws. No conditions.
-/
import Derived.Test.YtnemiodjnhfejaaGreatWTg
import Derived.Test.YtnemiodjnhfejaaGreatWTj
import Derived.Test.YtnemiodjnhfejaaGreatWTk
import Derived.Test.YtnemiodjnhfejaaGreatWTe
import Derived.Test.YtnemiodjnhfejaaGreatWTf
set_option linter.unusedVariables false
set_option linter.unusedSimpArgs false
namespace Go.PI.G
open Go Go.PI Go.Proofs
theorem jlM {α V K:Type} (l:List α) (j:Int->V) (b:Nat->α->Bool) (p:Nat->Prop) {step:V->(V->Res)->K->Res} (q:K) (d k:Res) (r:l.length<=LIM) (n:p 0)
  (z:∀ (i:Nat),(g:i<l.length)->p i->b i l[i]=false->p (i+1))
  (A:∀ (i:Nat) rec,(g:i<l.length)->p i->step (j i) rec q=bif b i l[i] then k else rec (j ((i:Int)+1))) (y:∀ rec,step (j (l.length:Int)) rec q=d) :
  Z1f step Z1c (j 0) q=bif Z71 b 0 l then k else d:=by
 have h:=Z3Z l (λi (_:Unit)=>j i) (λi _ x=>if b i x then .error () else (.ok ():Except Unit Unit)) (λi _=>p i) q (λ_=>d) (λ_=>k) () r n (λi a C g f m=>by
   refine z i g f ?_
   cases w:b i l[i] with
   | false=>rfl
   | true=>rw [w] at m;cases m)
  (λi a rec g f=>by
   rw [A i rec g f]
   cases b i l[i]<;>rfl) (λa rec _=>y rec)
 rw [h]
 have:∀ (l:List α) (i:Nat),Z1S (λi _ x=>if b i x then .error () else (.ok ():Except Unit Unit)) i l ()=bif Z71 b i l then .error () else .ok ():=by
  intro l
  induction l with
  | nil=>intro i;rfl
  | cons x l B=>
   intro i
   simp only [Z1S,Z71]
   cases b i x with
   | true=>rfl
   | false=>exact B _
 rw [this]
 cases Z71 b 0 l<;>rfl
theorem jiP (c:C) (f:j0W c=true) (v:V) (k:Bool->Res):j4a c v k=k (j3v c v):=by
 have g:=jrs f
 unfold j4a j3v
 rw [j8p,j8p]
 cases b:v.1==0
 ·cases j0n v
  ·rfl
  ·rw [cond_false,cond_true,Bool.false_and,Bool.or_false,Bool.true_and]
 ·have d:(v.1==c.2.1)=false:=by
   rw [beq_iff_eq] at b
   simp;omega
  rw [d,Bool.true_and,Bool.false_or]
  cases j0n v<;>rfl
theorem jou (c:C) (v:V) (k:Bool->Res):jbO c v k=k (j3v c v):=by
 unfold jbO j3v
 rw [j8e]
 cases j0n v
 ·rfl
 ·cases v.1==c.2.1
  ·cases v.1==0<;>rfl
  ·rfl
theorem jgj (t:T) (h:msr yT t<=1048576) (r:List V) (k:Bool->Res):j2c t r k=k (j04 t&&j0m t.2.1 r):=by
 obtain ⟨g,j,l,m,p⟩:=j2w h
 unfold j2c
 rw [jcQ t h]
 cases ht:j04 t
 ·rfl
 ·rw [Bool.not_true,cond_false,Bool.true_and]
  unfold j0m
  by_cases d:r.length=t.2.1.length
  ·have f:(nI r.length != nI t.2.1.length)=false:=by rw [d,ZaO]
   rw [f,cond_false,decide_eq_true d,Bool.true_and]
   unfold jcl
   have:=Z9P t.2.1 (λi=>i) (λi c=> !j3v c (nth zV r (i:Int))) (step:=j7x t.2.1 (nI t.2.1.length) r) ((λ(_:Unit)=>k true),(λ(_:Unit)=>k false)) (k true) (k false) (by unfold LIM;omega) (λi rec b=>by
    show j55 _ _ r _ _ _ _=_
    unfold j55
    rw [ZaQ b,cond_true,j00 b,cond_true,j00 (d ▸ b),cond_true,Zay _ _ _ b,jiP _ (jlQ (j1G ht).2.2.2.2.1 i b),j01 (n:=(i:Int)+1) (by omega)]) (λrec=>by
    show j55 _ _ r _ _ _ _=_
    unfold j55
    rw [ZaP,cond_false])
   refine this.trans ?_
   cases Z71 (λi c=> !j3v c (nth zV r (i:Int))) 0 t.2.1<;>rfl
  ·have f:(nI r.length != nI t.2.1.length)=true:=by unfold nI;simp;omega
   rw [f,cond_true,decide_eq_false d,Bool.false_and]
theorem jg2 (t:T) (h:msr yT t<=1048576) (r:List V) (k:Bool->Res):j3b t r k=k (j0m t.2.1 r):=by
 obtain ⟨g,j,l,m,p⟩:=j2w h
 unfold j3b j0m
 by_cases b:r.length=t.2.1.length
 ·have d:(nI r.length != nI t.2.1.length)=false:=by rw [b,ZaO]
  rw [d,cond_false,decide_eq_true b,Bool.true_and]
  unfold jgI
  have:=Z9P t.2.1 (λi=>i) (λi c=> !j3v c (nth zV r (i:Int))) (step:=jae r (nI r.length) t) ((λ(_:Unit)=>k true),(λ(_:Unit)=>k false)) (k true) (k false) (by unfold LIM;omega) (λi rec f=>by
   show j4R _ _ t _ _ _ _=_
   unfold j4R
   rw [b,ZaQ f,cond_true,j00 f,cond_true,cond_true,Zay zC _ _ f,jou,j01 (n:=(i:Int)+1) (by omega)]) (λrec=>by
   show j4R _ _ t _ _ _ _=_
   unfold j4R
   rw [b,ZaP,cond_false])
  refine this.trans ?_
  cases Z71 (λi c=> !j3v c (nth zV r (i:Int))) 0 t.2.1<;>rfl
 ·have d:(nI r.length != nI t.2.1.length)=true:=by unfold nI;simp;omega
  rw [d,cond_true,decide_eq_false b,Bool.false_and]
theorem j0t {l:List C} {r:List V} (h:j0m l r=true):r.length=l.length:=by
 unfold j0m at h
 rw [Bool.and_eq_true,decide_eq_true_eq] at h
 exact h.1
theorem j9m {α β:Type} (f:α->β):(l:List α)->l.flatMap (λx=>[f x])=l.map f
 | []=>rfl
 | x::l=>by rw [List.flatMap_cons,j9m f l];rfl
theorem j9o (t:T) (r:List V):(j06 t r).length=t.2.2.length:=by unfold j06;simp
theorem j6F (t:T) (h:msr yT t<=1048576) (ht:j04 t=true) (r:List V) (m:r.length=t.2.1.length) (k:List V->Res):j0v t r k=k (j06 t r):=by
 obtain ⟨p,q,w,y,z⟩:=j2w h
 unfold j0v jfH
 have g:=j1a t.2.2 (-1) (by omega) (j1G ht).2.2.2.2.2
 have:=Z9T t.2.2 (λi b=>(b,i)) (λn=>[nth zV r (j02 t.2.1 n)]) 1048576 [] (step:=j9A t.2.2 (nI t.2.2.length) t r) (λb=>k b) (λb=>k b) (by unfold LIM;omega) (λi d _=>by
  rw [j9m,List.nil_append,List.length_map,List.length_take];omega) (by simp) (λi b rec d l _=>by
  show j4b _ _ t r _ _ _ _=_
  unfold j4b
  have f:=g _ (List.getElem_mem d)
  have j:b.length=i:=by
   rw [l,j9m,List.nil_append,List.length_map,List.length_take];omega
  dsimp only
  rw [ZaQ d,cond_true,j00 d,cond_true,Zay _ _ _ d,j6s t _ (by unfold LIM;omega),ZaK f.1 (by omega),cond_true,ZaL (by unfold LIM;omega),cond_true,j01 (n:=(i:Int)+1) (by omega)]) (λb rec=>by
  show j4b _ _ t r _ _ _ _=_
  unfold j4b
  dsimp only
  rw [ZaP,cond_false])
 refine this.trans ?_
 rw [j9m,List.nil_append]
 rfl
theorem jfD (a b:List V) (j:a.length<=LIM) (k:Bool->Res):j44 a b k=k (klt a b):=by
 unfold j44 jei
 unfold LIM at j
 have h:∀ (d i n:Nat),i+d=a.length->d<n->i<=b.length->Z1f (j8G a b) n (i:Int) ((λ(_:Unit)=>k (decide (nI a.length<nI b.length))),(λ(t:Bool)=>k t))=k (klt (a.drop i) (b.drop i)):=by
  intro d
  induction d with
  | zero=>
   intro i n p q l
   obtain ⟨n,rfl⟩:∃ m,n=m+1:=⟨n-1,by omega⟩
   have:i=a.length:=by omega
   subst this
   show j2V a b _ _ _ _=_
   unfold j2V
   rw [ZaP,cond_false,List.drop_length]
   show k (decide (nI a.length<nI b.length))=_
   by_cases g:a.length<b.length
   ·rw [List.drop_eq_getElem_cons g,decide_eq_true (show nI a.length<nI b.length by unfold nI;omega)]
    rfl
   ·rw [List.drop_of_length_le (by omega),decide_eq_false (show ¬ nI a.length<nI b.length by unfold nI;omega)]
    rfl
  | succ d r=>
   intro i n p q l
   obtain ⟨n,rfl⟩:∃ m,n=m+1:=⟨n-1,by omega⟩
   have f:i<a.length:=by omega
   show j2V a b _ _ _ _=_
   unfold j2V
   rw [ZaQ f,cond_true,List.drop_eq_getElem_cons f]
   by_cases g:i<b.length
   ·rw [ZaQ g,cond_true,j00 f,cond_true,j00 g,cond_true,List.drop_eq_getElem_cons g,Zay _ _ _ f,Zay _ _ _ g,cond_true,cond_true,joH,j01 (n:=(i:Int)+1) (by omega)]
    show (bif !veq a[i] b[i] then _ else _)=k (bif veq a[i] b[i] then _ else _)
    cases veq a[i] b[i]
    ·rfl
    ·exact r (i+1) n (by omega) (by omega) (by omega)
   ·have:i=b.length:=by omega
    subst this
    rw [ZaP,cond_false,List.drop_length]
    show k (decide (nI a.length<nI b.length))=_
    rw [decide_eq_false (show ¬ nI a.length<nI b.length by unfold nI;omega)]
    rfl
 exact h a.length 0 Z1c (by omega) (Z2b (by omega)) (by omega)
theorem j3a (t:T) (h:msr yT t<=1048576) (ht:j04 t=true) (r:List V) (m:r.length=t.2.1.length) (k:List V->Res):j0F t r k=k (j06 t r):=by
 obtain ⟨p,q,w,y,z⟩:=j2w h
 unfold j0F jgH
 have g:=j1a t.2.2 (-1) (by omega) (j1G ht).2.2.2.2.2
 have:=Z9T t.2.2 (λi b=>(b,i)) (λn=>[nth zV r (j02 t.2.1 n)]) 1048576 [] (step:=jad t.2.2 (nI t.2.2.length) t r) (λb=>k b) (λb=>k b) (by unfold LIM;omega) (λi d _=>by
  rw [j9m,List.nil_append,List.length_map,List.length_take];omega) (by simp) (λi b rec d l _=>by
  show j4Q _ _ t r _ _ _ _=_
  unfold j4Q
  have f:=g _ (List.getElem_mem d)
  have j:b.length=i:=by
   rw [l,j9m,List.nil_append,List.length_map,List.length_take];omega
  dsimp only
  rw [ZaQ d,cond_true,j00 d,cond_true,Zay _ _ _ d,j7H t _ (by unfold LIM;omega),ZaK f.1 (by omega),cond_true,ZaL (by unfold LIM;omega),cond_true,j01 (n:=(i:Int)+1) (by omega)]) (λb rec=>by
  show j4Q _ _ t r _ _ _ _=_
  unfold j4Q
  dsimp only
  rw [ZaP,cond_false])
 refine this.trans ?_
 rw [j9m,List.nil_append]
 rfl
theorem jbf (a b:List V) (j:a.length<=LIM) (k:Bool->Res):j3y a b k=k (klt a b):=by
 unfold j3y je7
 unfold LIM at j
 have h:∀ (d i n:Nat),i+d=a.length->d<n->i<=b.length->Z1f (j8z a b) n (i:Int) ((λ(_:Unit)=>k (decide (nI a.length<nI b.length))),(λ(t:Bool)=>k t))=k (klt (a.drop i) (b.drop i)):=by
  intro d
  induction d with
  | zero=>
   intro i n p q l
   obtain ⟨n,rfl⟩:∃ m,n=m+1:=⟨n-1,by omega⟩
   have:i=a.length:=by omega
   subst this
   show j2L a b _ _ _ _=_
   unfold j2L
   rw [ZaP,cond_false,List.drop_length]
   show k (decide (nI a.length<nI b.length))=_
   by_cases g:a.length<b.length
   ·rw [List.drop_eq_getElem_cons g,decide_eq_true (show nI a.length<nI b.length by unfold nI;omega)]
    rfl
   ·rw [List.drop_of_length_le (by omega),decide_eq_false (show ¬ nI a.length<nI b.length by unfold nI;omega)]
    rfl
  | succ d r=>
   intro i n p q l
   obtain ⟨n,rfl⟩:∃ m,n=m+1:=⟨n-1,by omega⟩
   have f:i<a.length:=by omega
   show j2L a b _ _ _ _=_
   unfold j2L
   rw [ZaQ f,cond_true,List.drop_eq_getElem_cons f]
   by_cases g:i<b.length
   ·rw [ZaQ g,cond_true,j00 f,cond_true,j00 g,cond_true,List.drop_eq_getElem_cons g,Zay _ _ _ f,Zay _ _ _ g,cond_true,cond_true,jov,j01 (n:=(i:Int)+1) (by omega)]
    show (bif !veq a[i] b[i] then _ else _)=k (bif veq a[i] b[i] then _ else _)
    cases veq a[i] b[i]
    ·rfl
    ·exact r (i+1) n (by omega) (by omega) (by omega)
   ·have:i=b.length:=by omega
    subst this
    rw [ZaP,cond_false,List.drop_length]
    show k (decide (nI a.length<nI b.length))=_
    rw [decide_eq_false (show ¬ nI a.length<nI b.length by unfold nI;omega)]
    rfl
 exact h a.length 0 Z1c (by omega) (Z2b (by omega)) (by omega)
theorem j7c (t:T) (h:msr yT t<=1048576) (l:List (List V)) (k:Bool->Res):j0u t l k=k (j08 t l):=by
 obtain ⟨B,C,D,E,F⟩:=j2w h
 unfold j0u j08
 rw [jcQ t h]
 cases ht:j04 t
 ·rfl
 ·rw [Bool.not_true,cond_false,Bool.true_and]
  by_cases q:l.length<=60
  ·rw [decide_eq_false (show ¬ nI l.length>60 by unfold nI;omega),cond_false,decide_eq_true q,Bool.true_and]
   unfold jbz
   have:=jlM l (λi=>i) (λi r=> !j0m t.2.1 r||(decide (0<i)&& !klt (j06 t (nth [] l ((i:Int)-1))) (j06 t r))) (λi=>∀ (j:Nat) (g:j<l.length),j<i->j0m t.2.1 l[j]=true) (step:=j45 l l (nI l.length) t) ((λ(_:Unit)=>k true),(λ(_:Unit)=>k false)) (k true) (k false) (by unfold LIM;omega) (λj _ g=>absurd g (by omega)) (λi f m w j g z=>by
    rw [Bool.or_eq_false_iff,Bool.not_eq_false'] at w
    by_cases d:j<i
    ·exact m j g d
    ·have:j=i:=by omega
     subst this
     exact w.1) (λi rec f m=>by
    show j25 l _ _ t _ _ _ _=_
    unfold j25
    rw [ZaQ f,cond_true,j00 f,cond_true,Zay _ _ _ f,jgj t h]
    rw [ht,Bool.true_and]
    cases A:j0m t.2.1 l[i]
    ·rfl
    ·rw [Bool.not_true,cond_false,Bool.false_or,j01 (n:=(i:Int)+1) (by omega)]
     by_cases p:0<i
     ·have b:i-1<l.length:=by omega
      have y:((i:Int)-1)=((i-1:Nat):Int):=by omega
      rw [decide_eq_true (show (i:Int)>0 by omega),cond_true,decide_eq_true p,Bool.true_and,j01 (n:=(i:Int)-1) (by omega),y,j00 b,cond_true,Zay _ _ _ b,j6F t h ht _ (j0t (m _ b (by omega))),j6F t h ht _ (j0t A),jfD _ _ (by rw [j9o];unfold LIM;omega)]
     ·rw [decide_eq_false (show ¬ (i:Int)>0 by omega),cond_false,decide_eq_false p,Bool.false_and,cond_false]) (λrec=>by
    show j25 l _ _ t _ _ _ _=_
    unfold j25
    rw [ZaP,cond_false])
   refine this.trans ?_
   cases Z71 (λi r=> !j0m t.2.1 r||(decide (0<i)&& !klt (j06 t (nth [] l ((i:Int)-1))) (j06 t r))) 0 l<;>rfl
  ·rw [decide_eq_true (show nI l.length>60 by unfold nI;omega),cond_true,decide_eq_false q,Bool.false_and]
theorem j8R (t:T) (h:msr yT t<=1048576) (l:List (List V)) (k:Bool->Res):j0J t l k=k (j08 t l):=by
 obtain ⟨B,C,D,E,F⟩:=j2w h
 unfold j0J j08
 rw [jg3 t h]
 cases ht:j04 t
 ·rfl
 ·rw [Bool.not_true,cond_false,Bool.true_and]
  by_cases q:l.length<=60
  ·rw [decide_eq_false (show ¬ nI l.length>60 by unfold nI;omega),cond_false,decide_eq_true q,Bool.true_and]
   unfold jbh
   have:=jlM l (λi=>i) (λi r=> !j0m t.2.1 r||(decide (0<i)&& !klt (j06 t (nth [] l ((i:Int)-1))) (j06 t r))) (λi=>∀ (j:Nat) (g:j<l.length),j<i->j0m t.2.1 l[j]=true) (step:=j3z l l (nI l.length) t) ((λ(_:Unit)=>k true),(λ(_:Unit)=>k false)) (k true) (k false) (by unfold LIM;omega) (λj _ g=>absurd g (by omega)) (λi f m w j g z=>by
    rw [Bool.or_eq_false_iff,Bool.not_eq_false'] at w
    by_cases d:j<i
    ·exact m j g d
    ·have:j=i:=by omega
     subst this
     exact w.1) (λi rec f m=>by
    show j23 l _ _ t _ _ _ _=_
    unfold j23
    rw [ZaQ f,cond_true,j00 f,cond_true,Zay _ _ _ f,jg2 t h]
    cases A:j0m t.2.1 l[i]
    ·rfl
    ·rw [Bool.not_true,cond_false,Bool.false_or,j01 (n:=(i:Int)+1) (by omega)]
     by_cases p:0<i
     ·have b:i-1<l.length:=by omega
      have y:((i:Int)-1)=((i-1:Nat):Int):=by omega
      rw [decide_eq_true (show (i:Int)>0 by omega),cond_true,decide_eq_true p,Bool.true_and,j01 (n:=(i:Int)-1) (by omega),y,j00 b,cond_true,Zay _ _ _ b,j3a t h ht _ (j0t (m _ b (by omega))),j3a t h ht _ (j0t A),jbf _ _ (by rw [j9o];unfold LIM;omega)]
     ·rw [decide_eq_false (show ¬ (i:Int)>0 by omega),cond_false,decide_eq_false p,Bool.false_and,cond_false]) (λrec=>by
    show j23 l _ _ t _ _ _ _=_
    unfold j23
    rw [ZaP,cond_false])
   refine this.trans ?_
   cases Z71 (λi r=> !j0m t.2.1 r||(decide (0<i)&& !klt (j06 t (nth [] l ((i:Int)-1))) (j06 t r))) 0 l<;>rfl
  ·rw [decide_eq_true (show nI l.length>60 by unfold nI;omega),cond_true,decide_eq_false q,Bool.false_and]
theorem j0g {t:T} {l:List (List V)} (h:j08 t l=true):j04 t=true/\l.length<=60/\∀ r∈l,j0m t.2.1 r=true:=by
 unfold j08 at h
 simp only [Bool.and_eq_true,decide_eq_true_eq,Bool.not_eq_true'] at h
 refine ⟨h.1,h.2.1,λr d=> ?_⟩
 obtain ⟨i,b,rfl⟩:=List.getElem_of_mem d
 have:=jcE l 0 h.2.2 i b
 simp only [Bool.or_eq_false_iff,Bool.not_eq_false'] at this
 exact this.1
end Go.PI.G
namespace Go.PI.G
open Go Go.PI Go.Proofs
theorem jjX {α K:Type} (z:α) (f:α->α->Bool) (a b:List α) {step:Int->(Int->Res)->K->Res} (q:K) (x y:Res) (h:a.length<=LIM) (g:a.length=b.length)
  (k:∀ (i:Nat) rec,(d:i<a.length)->(l:i<b.length)->step (i:Int) rec q=bif f a[i] b[i] then rec ((i:Int)+1) else y) (j:∀ rec,step (a.length:Int) rec q=x) :
  Z1f step Z1c 0 q=bif j1w z f a b then x else y:=by
 have:=Z9P a (λi=>i) (λi u=> !f u (nth z b (i:Int))) (step:=step) q x y h (λi rec d=>by
  rw [k i rec d (g ▸ d),Zay _ _ _ (g ▸ d)]
  cases f a[i] (b[i]'(g ▸ d))<;>rfl) j
 refine this.trans ?_
 unfold j1w
 rw [decide_eq_true g,Bool.true_and]
 cases Z71 (λi u=> !f u (nth z b (i:Int))) 0 a<;>rfl
theorem jkc {α β:Type} {a:List α} {b:List β} (h:¬ a.length=b.length):(nI a.length != nI b.length)=true:=by unfold nI;simp;omega
theorem jkb {α β:Type} {a:List α} {b:List β} (h:a.length=b.length):(nI a.length != nI b.length)=false:=by rw [h,ZaO]
theorem jnh {α:Type} {z:α} {f:α->α->Bool} {a b:List α} (h:¬ a.length=b.length):j1w z f a b=false:=by
 unfold j1w;rw [decide_eq_false h,Bool.false_and]
theorem jkP (a b:List V) (g:a.length<=LIM) (k:Bool->Res):j4d a b k=k (j1w zV veq a b):=by
 unfold j4d
 by_cases d:a.length=b.length
 ·rw [jkb d,cond_false]
  unfold jba
  unfold LIM at g
  have:=jjX zV veq a b (step:=j6m a b (nI a.length)) ((λ(_:Unit)=>k true),(λ(_:Unit)=>k false)) (k true) (k false) g d (λi rec f h=>by
   show j1u _ _ _ _ _ _ _=_
   unfold j1u
   rw [ZaQ f,cond_true,j00 f,cond_true,j00 h,cond_true,Zay _ _ _ f,Zay _ _ _ h,j01 (n:=(i:Int)+1) (by omega)]
   show (bif !veq a[i] b[i] then _ else _)=_
   cases veq a[i] b[i]<;>rfl) (λrec=>by
   show j1u _ _ _ _ _ _ _=_
   unfold j1u
   rw [ZaP,cond_false])
  refine this.trans ?_
  cases j1w zV veq a b<;>rfl
 ·rw [jkc d,cond_true,jnh d]
theorem je6 (a b:List V) (g:a.length<=LIM) (k:Bool->Res):j1k a b k=k (j1w zV veq a b):=by
 unfold j1k
 by_cases d:a.length=b.length
 ·rw [jkb d,cond_false]
  unfold jb8
  unfold LIM at g
  have:=jjX zV veq a b (step:=j6b a b (nI a.length)) ((λ(_:Unit)=>k true),(λ(_:Unit)=>k false)) (k true) (k false) g d (λi rec f h=>by
   show j1r _ _ _ _ _ _ _=_
   unfold j1r
   rw [ZaQ f,cond_true,j00 f,cond_true,j00 h,cond_true,Zay _ _ _ f,Zay _ _ _ h,j01 (n:=(i:Int)+1) (by omega)]
   show (bif !veq a[i] b[i] then _ else _)=_
   cases veq a[i] b[i]<;>rfl) (λrec=>by
   show j1r _ _ _ _ _ _ _=_
   unfold j1r
   rw [ZaP,cond_false])
  refine this.trans ?_
  cases j1w zV veq a b<;>rfl
 ·rw [jkc d,cond_true,jnh d]
theorem jaB (t:T) (h:msr yT t<=1048576) (l:List (List V)) (f:j08 t l=true) (b:List V) (k:Int->Res):j1C t l b k=k (j07 t l b):=by
 obtain ⟨m,p,q,w,y⟩:=j2w h
 obtain ⟨g,z,j⟩:=j0g f
 unfold j1C
 rw [j7c t h,f,Bool.not_true,cond_false]
 unfold jck
 refine Z9S l (λi=>i) (λr=>j1w zV veq (j06 t r) b) (step:=j54 b l (nI l.length) t) _ k (by unfold LIM;omega) (λi rec d=> ?_) (λrec=> ?_)
 ·show j2A b _ _ t _ _ _ _=_
  unfold j2A
  rw [ZaQ d,cond_true,j00 d,cond_true,Zay _ _ _ d,j6F t h g _ (j0t (j _ (List.getElem_mem d))),jkP _ _ (by rw [j9o];unfold LIM;omega),j01 (n:=(i:Int)+1) (by omega)]
 ·show j2A b _ _ t _ _ _ _=_
  unfold j2A
  rw [ZaP,cond_false]
theorem j3x (t:T) (h:msr yT t<=1048576) (l:List (List V)) (f:j08 t l=true) (b:List V) (k:Int->Res):j10 t l b k=k (j07 t l b):=by
 obtain ⟨m,p,q,w,y⟩:=j2w h
 obtain ⟨g,z,j⟩:=j0g f
 unfold j10 j6D j8v
 refine Z9S l (λi=>i) (λr=>j1w zV veq (j06 t r) b) (step:=j3d l (t,b) (nI l.length)) _ k (by unfold LIM;omega) (λi rec d=> ?_) (λrec=> ?_)
 ·show j0R _ _ _ _ _ _ _=_
  unfold j0R jbN
  rw [ZaQ d,cond_true,j00 d,cond_true,Zay _ _ _ d,j3a t h g _ (j0t (j _ (List.getElem_mem d))),je6 _ _ (by rw [j9o];unfold LIM;omega),j01 (n:=(i:Int)+1) (by omega)]
 ·show j0R _ _ _ _ _ _ _=_
  unfold j0R
  rw [ZaP,cond_false]
theorem jnQ (t:T) (l:List (List V)) (b:List V): -1<=j07 t l b/\j07 t l b<(l.length:Int):=jcF _ _
end Go.PI.G
namespace Go.PI.G
open Go Go.PI Go.Proofs
theorem jp0 {c:List T} (h:msr (.slice yT) c<=1048576):c.length<=1048576/\∀ t∈c,msr yT t<=1048576:=⟨j0h h,λt ht=>j11 h ht⟩
theorem jo2 (c:List T) (h:msr (.slice yT) c<=1048576) (a b:Unit->Res):jci c (nI c.length) c Z1c 0 a b=bif Z71 (λi t=> !j04 t||(decide (0<i)&&sGe (nth zT c ((i:Int)-1)).1 t.1)) 0 c then b () else a ():=by
 obtain ⟨g,f⟩:=jp0 h
 unfold jci
 exact Z9P c (λi=>i) (λi t=> !j04 t||(decide (0<i)&&sGe (nth zT c ((i:Int)-1)).1 t.1)) (step:=jaC c (nI c.length) c) (a,b) (a ()) (b ()) (by unfold LIM;omega) (λi rec d=>by
  show j4Z _ _ c _ _ _ _=_
  unfold j4Z
  rw [ZaQ d,cond_true,j00 d,cond_true,Zay _ _ _ d,jcQ _ (f _ (List.getElem_mem d)),j01 (n:=(i:Int)+1) (by omega),jnk c i d (by unfold LIM;omega)]
  cases j04 c[i]
  ·rfl
  ·cases (decide (0<i)&&sGe (nth zT c ((i:Int)-1)).1 c[i].1)<;>rfl) (λrec=>by
  show j4Z _ _ c _ _ _ _=_
  unfold j4Z
  rw [ZaP,cond_false])
theorem jnw (c:List T) (h:msr (.slice yT) c<=1048576) (a b:Unit->Res):jc4 c (nI c.length) c Z1c 0 a b=bif Z71 (λi t=> !j04 t||(decide (0<i)&&sGe (nth zT c ((i:Int)-1)).1 t.1)) 0 c then b () else a ():=by
 obtain ⟨g,f⟩:=jp0 h
 unfold jc4
 exact Z9P c (λi=>i) (λi t=> !j04 t||(decide (0<i)&&sGe (nth zT c ((i:Int)-1)).1 t.1)) (step:=ja6 c (nI c.length) c) (a,b) (a ()) (b ()) (by unfold LIM;omega) (λi rec d=>by
  show j4I _ _ c _ _ _ _=_
  unfold j4I
  rw [ZaQ d,cond_true,j00 d,cond_true,Zay _ _ _ d,jg3 _ (f _ (List.getElem_mem d)),j01 (n:=(i:Int)+1) (by omega),jnk c i d (by unfold LIM;omega)]
  cases j04 c[i]
  ·rfl
  ·cases (decide (0<i)&&sGe (nth zT c ((i:Int)-1)).1 c[i].1)<;>rfl) (λrec=>by
  show j4I _ _ c _ _ _ _=_
  unfold j4I
  rw [ZaP,cond_false])
theorem jkK (c:List T) (h:msr (.slice yT) c<=1048576) (k:Bool->Res):j6G c k=k (j22 c):=by
 unfold j6G j22
 rw [jo2 c h]
 by_cases b:c.length<=6
 ·rw [decide_eq_false (show ¬ nI c.length>6 by unfold nI;omega),cond_false,decide_eq_true b,Bool.true_and]
  cases Z71 (λi t=> !j04 t||(decide (0<i)&&sGe (nth zT c ((i:Int)-1)).1 t.1)) 0 c<;>rfl
 ·rw [decide_eq_true (show nI c.length>6 by unfold nI;omega),cond_true,decide_eq_false b,Bool.false_and]
theorem jk6 (c:List T) (h:msr (.slice yT) c<=1048576) (k:Bool->Res):j6w c k=k (j22 c):=by
 unfold j6w j22
 rw [jnw c h]
 have:decide (nI c.length<=6)=decide (c.length<=6):=decide_eq_decide.2 (by unfold nI;omega)
 rw [this]
 cases Z71 (λi t=> !j04 t||(decide (0<i)&&sGe (nth zT c ((i:Int)-1)).1 t.1)) 0 c
 ·rw [Bool.not_false,Bool.and_true];rfl
 ·rw [Bool.not_true,Bool.and_false];rfl
end Go.PI.G
namespace Go.PI.G
open Go Go.PI Go.Proofs
theorem jdF (c:List T) (n:ByteArray) (h:c.length<=LIM) (k:Int->Res):j2d c n k=k (j05 c n):=by
 unfold j2d jgV
 refine Z9S c (λi=>i) (λt=>sEq t.1 n) (step:=jaJ n c (nI c.length)) _ k h (λi rec b=> ?_) (λrec=> ?_)
 ·show j58 n _ _ _ _ _ _=_
  unfold j58
  unfold LIM at h
  rw [ZaQ b,cond_true,j00 b,cond_true,Zay _ _ _ b,j01 (n:=(i:Int)+1) (by omega)]
 ·show j58 n _ _ _ _ _ _=_
  unfold j58
  rw [ZaP,cond_false]
theorem j7J (c:List T) (n:ByteArray) (h:c.length<=LIM) (k:Int->Res):j0j c n k=k (j05 c n):=by
 unfold j0j j5c j7v
 refine Z9S c (λi=>i) (λt=>sEq t.1 n) (step:=j2p c n (nI c.length)) _ k h (λi rec b=> ?_) (λrec=> ?_)
 ·show j0E _ n _ _ _ _ _=_
  unfold j0E jdc
  unfold LIM at h
  rw [ZaQ b,cond_true,j00 b,cond_true,Zay _ _ _ b,j01 (n:=(i:Int)+1) (by omega)]
 ·show j0E _ n _ _ _ _ _=_
  unfold j0E
  rw [ZaP,cond_false]
end Go.PI.G
namespace Go.PI.G
open Go Go.PI Go.Proofs
noncomputable def jeM (p:List ByteArray) (s:ByteArray):Bool:=p.any λx=>sEq x s
theorem jnu {α:Type} (q:α->Bool) (l:List α):decide (Z9F q l>=0)=l.any q:=by
 unfold Z9F
 cases h:l.findIdx? q with
 | none=>
  have:=List.findIdx?_eq_none_iff.1 h
  have b:l.any q=false:=by
   rw [List.any_eq_false]
   intro x g
   rw [this x g];simp
  rw [b];rfl
 | some i=>
  have:=List.findIdx?_eq_some_iff_getElem.1 h
  obtain ⟨d,f,_⟩:=this
  have b:l.any q=true:=List.any_eq_true.2 ⟨l[i],List.getElem_mem d,f⟩
  rw [b]
  show decide ((i:Int)>=0)=true
  exact decide_eq_true (by omega)
theorem jpb (l:List ByteArray) (s:ByteArray) (h:l.length<=LIM) (k:Bool->Res):j1c l s k=k (jeM l s):=by
 unfold j1c j0N j5d jeM
 have:=Z9S l (λi=>i) (λx=>sEq s x) (step:=j1B l s (nI l.length)) ((λ(_:Unit)=>k (decide ((-1:Int)>=0))),(λ(t:Int)=>k (decide (t>=0)))) (λr=>k (decide (r>=0))) h (λi rec b=>by
  show j0b _ _ _ _ _ _ _=_
  unfold j0b
  unfold LIM at h
  rw [ZaQ b,cond_true,j00 b,cond_true,Zay _ _ _ b,j01 (n:=(i:Int)+1) (by omega)]) (λrec=>by
  show j0b _ _ _ _ _ _ _=_
  unfold j0b
  rw [ZaP,cond_false])
 refine this.trans ?_
 rw [jnu]
 have:(λx=>sEq s x)=λx=>sEq x s:=by funext x;exact Zag s x
 rw [this]
end Go.PI.G
namespace Go.PI.G
open Go Go.PI Go.Proofs
theorem jpq (l:List ByteArray) (s:ByteArray) (h:l.length<=LIM) (k:Bool->Res):j92 l s k=k (jeM l s):=by
 unfold j92 jfG jeM
 have:=Za2 l (λi=>i) (λx=>sEq x s) (step:=j9y s l (nI l.length)) ((λ(_:Unit)=>k false),(λ(_:Unit)=>k true)) (k false) (k true) h (λi rec b=>by
  show j48 _ _ _ _ _ _ _=_
  unfold j48
  unfold LIM at h
  rw [ZaQ b,cond_true,j00 b,cond_true,Zay _ _ _ b,j01 (n:=(i:Int)+1) (by omega)]) (λrec=>by
  show j48 _ _ _ _ _ _ _=_
  unfold j48
  rw [ZaP,cond_false])
 refine this.trans ?_
 cases l.any λx=>sEq x s<;>rfl
end Go.PI.G
namespace Go.PI.G
open Go Go.PI Go.Proofs
theorem jbP {n:Nat} (h:n<=1048576):lim (0+n)=true:=ZaL (by unfold LIM;omega)
theorem jiR (t:T) (b:t.2.1.length<=1048576) (d:t.2.2.length<=1048576) (k:T->Res):j4C t k=k t:=by
 unfold j4C
 simp only [Z9Q]
 rw [jbP b,cond_true,jbP d,cond_true]
theorem jd9 {c:List T} (b:msr (.slice yT) c<=1048576):c.length<=1048576/\∀ t∈c,tSm t:=⟨j0h b,λt ht=>j2w (j11 b ht)⟩
theorem j0K {α:Type}:(l:List α)->l.flatMap (λx=>[x])=l
 | []=>rfl
 | x::l=>by rw [List.flatMap_cons,j0K l];rfl
theorem jiN (c:List T) (f:msr (.slice yT) c<=1048576) (k:List T->Res):j47 c k=k c:=by
 obtain ⟨h,ht⟩:=jd9 f
 unfold j47 jek
 have:=Z9T c (λi b=>(i,b)) (λx=>[x]) 1048576 [] (step:=j8I c (nI c.length)) (λb=>k b) (λb=>k b) (by unfold LIM;omega) (λi d _=>by
  rw [j0K,List.nil_append,List.length_take];omega) (by simp) (λi b rec d j g=>by
  show j32 _ _ _ _ _ _=_
  unfold j32
  obtain ⟨l,m,p,q,r⟩:=ht _ (List.getElem_mem d)
  dsimp only
  rw [ZaQ d,cond_true,j00 d,cond_true,Zay _ _ _ d,jiR _ (by omega) (by omega),ZaL (by unfold LIM;omega),cond_true,j01 (n:=(i:Int)+1) (by omega)]) (λb rec=>by
  show j32 _ _ _ _ _ _=_
  unfold j32
  dsimp only
  rw [ZaP,cond_false])
 refine this.trans ?_
 rw [j0K,List.nil_append]
noncomputable def jan (t:T) (a:Bool×List T) (x:T):Bool×List T:=bif !a.1&&tR t x then (true,a.2++[t]++[x]) else (a.1,a.2++[x])
theorem jm2 (t:T):(l:List T)->(b:List T)->l.foldl (jan t) (true,b)=(true,b++l)
 | [],b=>by simp
 | x::l,b=>by
  rw [List.foldl_cons]
  show l.foldl (jan t) (true,b++[x])=_
  rw [jm2 t l,List.append_assoc];rfl
theorem jnO (t:T):(l:List T)->(b:List T)->(bif !(l.foldl (jan t) (false,b)).1 then (l.foldl (jan t) (false,b)).2++[t] else (l.foldl (jan t) (false,b)).2)=b++lay tR t l
 | [],b=>rfl
 | x::l,b=>by
  rw [List.foldl_cons]
  unfold lay
  cases d:tR t x
  ·have:jan t (false,b) x=(false,b++[x]):=by unfold jan;rw [d];rfl
   rw [this,jnO t l,List.takeWhile_cons_of_pos (by rw [d];rfl),List.dropWhile_cons_of_pos (by rw [d];rfl)]
   unfold lay
   simp
  ·have:jan t (false,b) x=(true,b++[t]++[x]):=by unfold jan;rw [d];rfl
   rw [this,jm2,List.takeWhile_cons_of_neg (by rw [d];simp),List.dropWhile_cons_of_neg (by rw [d];simp)]
   simp
theorem jqU (t:T) (a:Bool×List T) (x:T):(jan t a x).2.length<=a.2.length+2:=by
 unfold jan
 cases !a.1&&tR t x<;>simp
theorem jpt (c:List T) (t:T) (j:c.length<=1048576) (k:List T->Res):j93 c t k=k (lay tR t c):=by
 unfold j93 jbB
 have:=Z8i c (λi (a:Bool×List T)=>(a.1,i,a.2)) (jan t) (λi a=>a.2.length<=2 * i) (step:=j9z c (nI c.length) t) (λdone b=>bif !done then bif lim (b.length+1) then k (b++[t]) else none else k b)
  (λa=>bif !a.1 then k (a.2++[t]) else k a.2) (false,[]) (by unfold LIM;omega) (by simp) (λi a f h=>by have:=jqU t a c[i];omega) (λi a rec f h=>by
  show j49 _ _ _ _ _ _ _ _=_
  unfold j49 jbC
  dsimp only
  rw [ZaQ f,cond_true,j00 f,cond_true,Zay _ _ _ f]
  have g:lim (a.2.length+1)=true:=ZaL (by unfold LIM;omega)
  have d:lim ((a.2++[t]).length+1)=true:=ZaL (by unfold LIM;simp;omega)
  unfold jan tR
  cases a.1
  ·rw [Bool.not_false,cond_true,Bool.true_and]
   cases sLt t.1 c[i].1
   ·rw [cond_false,cond_false,g,cond_true,j01 (n:=(i:Int)+1) (by omega)]
   ·rw [cond_true,cond_true,g,cond_true,d,cond_true,j01 (n:=(i:Int)+1) (by omega)]
  ·rw [Bool.not_true,cond_false,Bool.false_and,cond_false,g,cond_true,j01 (n:=(i:Int)+1) (by omega)]) (λa rec h=>by
  show j49 _ _ _ _ _ _ _ _=_
  unfold j49
  dsimp only
  rw [ZaP,cond_false]
  cases a.1
  ·rw [Bool.not_false,cond_true,cond_true,ZaL (by unfold LIM;omega),cond_true]
  ·rfl)
 refine this.trans ?_
 have d:=jnO t c []
 rw [List.nil_append] at d
 rw [<-d]
 cases (c.foldl (jan t) (false,[])).1<;>rfl
theorem jfX (l:List C) (n:ByteArray):decide (j02 l n>=0)= !decide (j02 l n<0):=by
 by_cases h:j02 l n<0
 ·rw [decide_eq_true h,decide_eq_false (by omega)];rfl
 ·rw [decide_eq_false h,decide_eq_true (by omega)];rfl
theorem jo6 (t:T) (d:D) (l:t.2.1.length<=1048576) (m:t.2.2.length<=1048576) (b:d.1=3->0<d.2.2.1.length) (k:Int->Res):j4B t d k=k (j0q t d):=by
 unfold j4B j0q
 rw [j6s _ _ (by unfold LIM;omega)]
 cases f:(d.1==3)
 ·rw [cond_false,cond_false]
  cases h:(d.1==4)
  ·rw [cond_false,cond_false]
   cases j:(d.1==5)
   ·rfl
   ·rw [cond_true,cond_true,j6s _ _ (by unfold LIM;omega),jfX]
    cases !decide (j02 t.2.1 d.2.2.2.2.2<0)
    ·cases decide (j02 t.2.1 d.2.2.2.2.1<0)<;>rfl
    ·rfl
  ·rw [cond_true,cond_true]
   cases decide (j02 t.2.1 d.2.2.2.2.1<0)
   ·rw [cond_false,cond_false,jpq _ _ (by unfold LIM;omega)]
    show (bif jeM t.2.2 d.2.2.2.2.1 then k 8 else k 0)=k (bif jeM t.2.2 d.2.2.2.2.1 then 8 else 0)
    cases jeM t.2.2 d.2.2.2.2.1<;>rfl
   ·rfl
 ·rw [cond_true,cond_true]
  have b:=b (by simpa using f)
  have g:inb 0 d.2.2.1.length=true:=j00 (i:=0) b
  rw [g,cond_true,j6s _ _ (by unfold LIM;omega),jfX]
  cases !decide (j02 t.2.1 (nth zC d.2.2.1 0).1<0)
  ·rw [cond_false,cond_false]
   have:(nI t.2.1.length==8)=(t.2.1.length==8):=by
    unfold nI
    rw [Bool.eq_iff_iff]
    simp only [beq_iff_eq]
    omega
   rw [this]
   cases (t.2.1.length==8)<;>rfl
  ·rfl
end Go.PI.G
namespace Go.PI.G
open Go Go.PI Go.Proofs
noncomputable def jao {α:Type} (R:α->α->Bool) (t:α) (a:Bool×List α) (x:α):Bool×List α:=bif !a.1&&R t x then (true,a.2++[t]++[x]) else (a.1,a.2++[x])
theorem jm3 {α:Type} (R:α->α->Bool) (t:α):(l:List α)->(b:List α)->l.foldl (jao R t) (true,b)=(true,b++l)
 | [],b=>by simp
 | x::l,b=>by
  rw [List.foldl_cons]
  show l.foldl (jao R t) (true,b++[x])=_
  rw [jm3 R t l,List.append_assoc];rfl
theorem jnP {α:Type} (R:α->α->Bool) (t:α):(l:List α)->(b:List α)->(bif !(l.foldl (jao R t) (false,b)).1 then (l.foldl (jao R t) (false,b)).2++[t] else (l.foldl (jao R t) (false,b)).2)=b++lay R t l
 | [],b=>rfl
 | x::l,b=>by
  rw [List.foldl_cons]
  unfold lay
  cases d:R t x
  ·have:jao R t (false,b) x=(false,b++[x]):=by unfold jao;rw [d];rfl
   rw [this,jnP R t l,List.takeWhile_cons_of_pos (by rw [d];rfl),List.dropWhile_cons_of_pos (by rw [d];rfl)]
   unfold lay
   simp
  ·have:jao R t (false,b) x=(true,b++[t]++[x]):=by unfold jao;rw [d];rfl
   rw [this,jm3,List.takeWhile_cons_of_neg (by rw [d];simp),List.dropWhile_cons_of_neg (by rw [d];simp)]
   simp
theorem jqV {α:Type} (R:α->α->Bool) (t:α) (a:Bool×List α) (x:α):(jao R t a x).2.length<=a.2.length+2:=by
 unfold jao
 cases !a.1&&R t x<;>simp
theorem jlB {t:T} (ht:j04 t=true) {r:List V} (h:r.length=t.2.1.length):lim (0+r.length)=true:=by
 have:=((j6J t).1 ht).2.2.1
 exact jbP (by omega)
theorem jkN (t:T) (h:msr yT t<=1048576) (ht:j04 t=true) (l:List (List V)) (r:List V) (z:∀ x∈l,x.length=t.2.1.length) (A:l.length<=60) (n:r.length=t.2.1.length) (k:List (List V)->Res):j3i t l r k=k (jg7 t l r):=by
 have p:∀ x:List V,(j06 t x).length<=LIM:=λx=>by
  rw [j9o]
  have:=(j2w h).2.2.1
  unfold LIM;omega
 unfold j3i jbD j0w
 have:=Z8i l (λi (a:Bool×List (List V))=>(a.2,a.1,i)) (jao (kR t) r) (λi a=>a.2.length<=2 * i) (step:=j4c l (nI l.length) t r) (λb done=>bif !done then bif lim (0+r.length) then bif lim (b.length+1) then k (b++[r]) else none else none else k b)
  (λa=>bif !a.1 then k (a.2++[r]) else k a.2) (false,[]) (by unfold LIM;omega) (by simp) (λi a d p=>by have:=jqV (kR t) r a l[i];omega) (λi a rec d y=>by
  show j26 _ _ _ _ _ _ _ _ _=_
  unfold j26 j6l j0w
  dsimp only
  have q:=z _ (List.getElem_mem d)
  rw [ZaQ d,cond_true,j00 d,cond_true,Zay _ _ _ d]
  have g:lim (a.2.length+1)=true:=ZaL (by unfold LIM;omega)
  have f:lim ((a.2++[r]).length+1)=true:=ZaL (by unfold LIM;simp;omega)
  have j:lim (0+(l[i]).length)=true:=jlB ht q
  have w:lim (0+r.length)=true:=jlB ht n
  have m:Z9K ((i:Int)+1)=(i:Int)+1:=j01 (by omega)
  unfold jao
  cases a.1
  ·simp only [Bool.not_false,cond_true,Bool.true_and]
   rw [j6F t h ht r n,j6F t h ht _ q,jfD _ _ (p _)]
   unfold kR
   cases klt (j06 t r) (j06 t l[i])
   ·simp only [cond_false,cond_true,j,g,m]
   ·simp only [cond_true,w,g,j,f,m]
  ·simp only [Bool.not_true,cond_false,Bool.false_and,j,g,m,cond_true]) (λa rec y=>by
  show j26 _ _ _ _ _ _ _ _ _=_
  unfold j26
  dsimp only
  rw [ZaP,cond_false]
  cases a.1
  ·simp only [Bool.not_false,cond_true,jlB ht n]
   rw [ZaL (by unfold LIM;omega),cond_true]
  ·rfl)
 refine this.trans ?_
 have f:=jnP (kR t) r l []
 rw [List.nil_append] at f
 unfold jg7
 rw [<-f]
 cases (l.foldl (jao (kR t) r) (false,[])).1<;>rfl
theorem jk4 {α:Type} (l:List α) (a i:Nat) (f:i<l.length):(l.take (i+1)).eraseIdx a=bif i==a then (l.take i).eraseIdx a else (l.take i).eraseIdx a++[l[i]]:=by
 have g:(l.take i).length=i:=by rw [List.length_take];omega
 rw [List.take_succ_eq_append_getElem f]
 by_cases h:a<i
 ·rw [List.eraseIdx_append_of_lt_length (by omega),show (i==a)=false from beq_eq_false_iff_ne.2 (by omega),cond_false]
 ·rw [List.eraseIdx_append_of_length_le (by omega),g]
  by_cases e:i=a
  ·subst e
   have b:[l[i]].eraseIdx (i-i)=[]:=by rw [Nat.sub_self];rfl
   have d:(l.take i).eraseIdx i=l.take i:=List.eraseIdx_of_length_le (by omega)
   rw [show (i==i)=true from beq_self_eq_true i,cond_true,b,d,List.append_nil]
  ·have b:[l[i]].eraseIdx (a-i)=[l[i]]:=List.eraseIdx_of_length_le (by simp only [List.length_cons,List.length_nil];omega)
   have d:(l.take i).eraseIdx a=l.take i:=List.eraseIdx_of_length_le (by omega)
   rw [show (i==a)=false from beq_eq_false_iff_ne.2 e,cond_false,b,d]
theorem jfE (l:List (List V)) (a:Nat) (j:l.length<=60) (h:∀ x∈l,x.length<=1048576) (k:List (List V)->Res):j1D l (a:Int) k=k (l.eraseIdx a):=by
 unfold j1D jbY
 have:=Z3u (step:=j6I (a:Int) l (nI l.length)) (λi=>((l.take i).eraseIdx a,(i:Int))) l.length (λd=>k d) (k (l.eraseIdx a)) (λi b rec=> ?_) (λrec=> ?_) Z1c (Z2b (by omega))
 ·refine Eq.trans ?_ this
  rw [List.take_zero,List.eraseIdx_nil]
  rfl
 ·show j1E _ _ _ _ _ _ _=_
  unfold j1E j0w
  dsimp only
  have g:((l.take i).eraseIdx a).length<=60:=Nat.le_trans (List.eraseIdx_sublist _ _).length_le (by rw [List.length_take];omega)
  rw [ZaQ b,cond_true,j00 b,cond_true,Zay _ _ _ b,j01 (n:=(i:Int)+1) (by omega),jk4 l a i b]
  have f:((i:Int) != (a:Int))= !(i==a):=by
   rw [Bool.eq_iff_iff]
   simp only [bne_iff_ne,Bool.not_eq_true',beq_eq_false_iff_ne,ne_eq,Int.natCast_inj]
  rw [f]
  cases (i==a)
  ·rw [Bool.not_false,cond_true,jbP (h _ (List.getElem_mem b)),cond_true,ZaL (by unfold LIM;omega),cond_true,cond_false]
   rfl
  ·rw [Bool.not_true,cond_false,cond_true]
   rfl
 ·show j1E _ _ _ _ _ _ _=_
  unfold j1E
  dsimp only
  rw [ZaP,cond_false,List.take_length]
end Go.PI.G
namespace Go.PI.G
open Go Go.PI Go.Proofs
theorem jnG {t:T} (ht:j04 t=true) {n:ByteArray} (f:n∈t.2.2):∃ (j:Nat) (b:j<t.2.1.length),j02 t.2.1 n=(j:Int):=by
 have g:=(((j4S _ _ _).1 ((j6J t).1 ht).2.2.2.2.2).1 n f).1
 rcases j17 t.2.1 n with ⟨d,_⟩ | ⟨j,b,d,_⟩
 ·omega
 ·exact ⟨j,b,d⟩
theorem jrE {t:T} (ht:j04 t=true) {c:C} (b:c∈t.2.1):j0W c=true:=((j6q _).1 ((j6J t).1 ht).2.2.2.2.1).1 c b
theorem jhZ (t:T) (h:msr yT t<=1048576) (b:List V) (k:Bool->Res):j52 t b k=k (jaf t b):=by
 unfold j52 jaf
 obtain ⟨m,p,q,r,w⟩:=j2w h
 rw [jcQ t h]
 cases ht:j04 t
 ·rfl
 rw [Bool.not_true,cond_false,Bool.true_and]
 by_cases f:b.length=t.2.2.length
 rotate_left
 ·rw [jkc f,cond_true,decide_eq_false f,Bool.false_and]
 rw [jkb f,cond_false,decide_eq_true f,Bool.true_and]
 unfold jcj
 have:=Z9P t.2.2 (λi=>i) (λi n=> !j3v (nth zC t.2.1 (j02 t.2.1 n)) (nth zV b (i:Int))) (step:=j53 b t.2.2 (nI t.2.2.length) t) ((λ(_:Unit)=>k true),(λ(_:Unit)=>k false)) (k true) (k false) (by unfold LIM;omega) (λi rec d=>by
  obtain ⟨j,g,l⟩:=jnG ht (List.getElem_mem d)
  show j2z _ _ _ _ _ _ _ _=_
  unfold j2z
  rw [ZaQ d,cond_true,j00 d,cond_true,j00 (f ▸ d),cond_true,Zay _ _ _ d,j6s _ _ (by unfold LIM;omega),l,j00 g,cond_true,Zay _ _ _ g,jiP _ (jrE ht (List.getElem_mem g)),j01 (n:=(i:Int)+1) (by omega)]) (λrec=>by
  show j2z _ _ _ _ _ _ _ _=_
  unfold j2z
  rw [ZaP,cond_false])
 refine this.trans ?_
 cases Z71 (λi n=> !j3v (nth zC t.2.1 (j02 t.2.1 n)) (nth zV b (i:Int))) 0 t.2.2<;>rfl
theorem jgf (t:T) (l:List (List V)) (b:List V):decide (j07 t l b>=0)= !decide (j07 t l b<0):=by
 by_cases h:j07 t l b<0
 ·rw [decide_eq_true h,decide_eq_false (by omega)];rfl
 ·rw [decide_eq_false h,decide_eq_true (by omega)];rfl
theorem joY (n:Nat) (m:Nat):(nI n==(m:Int))=(n==m):=by
 unfold nI
 rw [Bool.eq_iff_iff]
 simp only [beq_iff_eq]
 omega
theorem jn1 (t:T) (h:msr yT t<=1048576) (l:List (List V)) (r:List V) (k:List (List V)->Int->Res):j7e t l r k=k (j5V t l r).1 (j5V t l r).2:=by
 unfold j7e j5V
 rw [j7c t h]
 cases b:j08 t l
 ·rfl
 obtain ⟨ht,g,i⟩:=j0g b
 rw [Bool.not_true,cond_false,cond_false,jgj t h,ht,Bool.true_and]
 cases d:j0m t.2.1 r
 ·rfl
 rw [Bool.not_true,cond_false,cond_false,j6F t h ht r (j0t d),jaB t h l b,jgf]
 cases !decide (j07 t l (j06 t r)<0)
 rotate_left
 ·rfl
 rw [cond_false,cond_false,show (nI l.length==(60:Int))=(l.length==60) from joY _ 60]
 cases (l.length==60)
 ·rw [cond_false,cond_false,jkN t h ht l r (λx f=>j0t (i x f)) g (j0t d)]
 ·rfl
theorem jfy {t:T} (h:msr yT t<=1048576) {l:List (List V)} (b:j08 t l=true):∀ x∈l,x.length<=1048576:=λx d=>by
 have f:=j0t ((j0g b).2.2 x d)
 have g:=(j2w h).2.1
 omega
theorem jed {t:T} {l:List (List V)} {b:List V} (h:¬ j07 t l b<0):∃ i:Nat,i<l.length/\j07 t l b=(i:Int):=by
 have:=jnQ t l b
 exact ⟨(j07 t l b).toNat,by omega,by omega⟩
theorem jn2 (t:T) (h:msr yT t<=1048576) (l:List (List V)) (b r:List V) (k:List (List V)->Int->Res):j7f t l b r k=k (j5W t l b r).1 (j5W t l b r).2:=by
 unfold j7f j5W
 rw [j7c t h]
 cases g:j08 t l
 ·rfl
 obtain ⟨ht,w,z⟩:=j0g g
 rw [Bool.not_true,cond_false,cond_false,jgj t h,ht,Bool.true_and]
 cases j:j0m t.2.1 r
 ·rfl
 rw [Bool.not_true,cond_false,cond_false,jaB t h l g,jhZ t h]
 cases jaf t b
 ·rfl
 rw [Bool.not_true,cond_false,Bool.false_or]
 by_cases d:j07 t l b<0
 ·rw [decide_eq_true d];rfl
 rw [decide_eq_false d,cond_false,cond_false]
 obtain ⟨i,y,m⟩:=jed d
 have f:=je4 g i
 obtain ⟨_,p,q⟩:=j0g f
 rw [m,Int.toNat_natCast,jfE l i w (jfy h g),j6F t h ht r (j0t j),jaB t h _ f,jgf]
 cases !decide (j07 t (l.eraseIdx i) (j06 t r)<0)
 ·rw [cond_false,cond_false,jkN t h ht _ r (λx n=>j0t (q x n)) p (j0t j)]
 ·rfl
theorem jn0 (t:T) (h:msr yT t<=1048576) (l:List (List V)) (b:List V) (k:List (List V)->Int->Res):j7d t l b k=k (j5U t l b).1 (j5U t l b).2:=by
 unfold j7d j5U
 rw [j7c t h]
 cases f:j08 t l
 ·rfl
 obtain ⟨ht,j,n⟩:=j0g f
 rw [Bool.not_true,cond_false,cond_false,jaB t h l f,jhZ t h]
 cases jaf t b
 ·rfl
 rw [Bool.not_true,cond_false,Bool.false_or]
 by_cases d:j07 t l b<0
 ·rw [decide_eq_true d];rfl
 rw [decide_eq_false d,cond_false,cond_false]
 obtain ⟨i,m,g⟩:=jed d
 rw [g,Int.toNat_natCast,jfE l i j (jfy h f)]
end Go.PI.G
namespace Go.PI.G
open Go Go.PI
def goL {α A E:Type} (f:A->α->Except E A):List α->A->Except E A
 | [],a=> .ok a
 | x::xs,a=>match f a x with
  | .ok b=>goL f xs b
  | .error e=> .error e
def jrS (x:Int):Bool:=decide (48<=x/\x<=57)
def dgF (n x:Int):Except Unit Int:=bif jrS x then .ok (n * 10+(x-48)) else .error ()
def rdN (l:List Int):Option Int:=bif l.headD 0==45 then (match goL dgF l.tail 0 with | .ok n=>some (-n) | .error _=>none) else match goL dgF l 0 with | .ok n=>some n | .error _=>none
theorem jr1 {α:Type} (l:List α) (i:Nat):sub l (i:Int) (nI l.length)=l.drop i:=by
 unfold sub nI
 rw [show ((l.length:Int)).toNat=l.length by omega,show ((i:Int)).toNat=i by omega,List.take_length]
theorem jp3 {α:Type} (l:List α) (i j:Nat):sub l (i:Int) (j:Int)=(l.take j).drop i:=by
 unfold sub
 rw [show ((j:Int)).toNat=j by omega,show ((i:Int)).toNat=i by omega]
theorem j9l {i j n:Nat} (h:i<=j/\j<=n):Z8e (i:Int) (j:Int) n=true:=decide_eq_true (by omega)
end Go.PI.G
namespace Go.PI.G
open Go Go.PI Go.Proofs
theorem jfp {α:Type} (f:α->α) (l:List α) (i:Nat):((l.take i).map f++l.drop i).length=l.length:=by
 rw [List.length_append,List.length_map,List.length_take,List.length_drop];omega
theorem jnr {α:Type} (f:α->α) (z:α) (l:List α) (i:Nat) (b:i<l.length):nth z ((l.take i).map f++l.drop i) (i:Int)=l[i]:=by
 rw [Zay _ _ _ (by rw [jfp];exact b),List.getElem_append_right (by rw [List.length_map,List.length_take];omega),List.getElem_drop]
 congr 1
 rw [List.length_map,List.length_take];omega
theorem jns {α:Type} (f:α->α) (l:List α) (i:Nat) (b:i<l.length):((l.take i).map f++l.drop i).set i (f l[i])=(l.take (i+1)).map f++l.drop (i+1):=by
 rw [List.set_append_right _ _ (by rw [List.length_map,List.length_take];omega),List.length_map,List.length_take,Nat.min_eq_left (by omega),Nat.sub_self,List.drop_eq_getElem_cons b,List.set_cons_zero,List.take_succ_eq_append_getElem b,List.map_append,List.append_assoc]
 rfl
theorem jry {α:Type} (f:α->α) (l:List α) (i:Nat) (b:i<l.length) (h:f l[i]=l[i]):(l.take (i+1)).map f++l.drop (i+1)=(l.take i).map f++l.drop i:=by
 rw [List.take_succ_eq_append_getElem b,List.map_append,List.append_assoc,List.drop_eq_getElem_cons b]
 show (l.take i).map f++([f l[i]]++l.drop (i+1))=_
 rw [h]
 rfl
noncomputable def j9k (d:D) (c:C):List C:=bif (d.1==4)&&sEq c.1 d.2.2.2.2.1 then [] else [bif (d.1==5)&&sEq c.1 d.2.2.2.2.1 then (d.2.2.2.2.2,c.2) else c]
theorem jqs (d:D) (l:List C):(l.flatMap (j9k d)).length<=l.length:=by
 induction l with
 | nil=>exact Nat.le_refl _
 | cons c l b=>
  rw [List.flatMap_cons,List.length_append,List.length_cons]
  have:(j9k d c).length<=1:=by
   unfold j9k
   cases (d.1==4)&&sEq c.1 d.2.2.2.2.1<;>simp
  omega
theorem joE (d:D) (t:T) (l:t.2.1.length<=1048576) (k:T->Res):j5q t.2.1 (nI t.2.1.length) d Z1c 0 (t.1,[],t.2.2) k=k (t.1,t.2.1.flatMap (j9k d),t.2.2):=by
 unfold j5q
 have:=Z9T t.2.1 (λi b=>(i,(t.1,b,t.2.2))) (j9k d) 1048576 [] (step:=j20 t.2.1 (nI t.2.1.length) d) k (λb=>k (t.1,b,t.2.2)) (by unfold LIM;omega) (λi f _=>by
  rw [List.nil_append]
  exact Nat.le_trans (jqs _ _) (by rw [List.length_take];omega)) (by simp) (λi b rec f p m=>by
  show j15 _ _ _ _ _ _ _=_
  unfold j15 j5t j5u
  dsimp only
  have g:lim (b.length+1)=true:=ZaL (by unfold LIM;omega)
  rw [ZaQ f,cond_true,j00 f,cond_true,Zay _ _ _ f,j01 (n:=(i:Int)+1) (by omega)]
  unfold j9k
  cases j:(d.1==4)
  ·rw [cond_false,Bool.false_and,cond_false]
   cases h:(d.1==5)
   ·rw [cond_false,g,cond_true,Bool.false_and,cond_false]
   ·rw [cond_true,Bool.true_and]
    cases sEq t.2.1[i].1 d.2.2.2.2.1
    ·rw [cond_false,g,cond_true,cond_false]
    ·rw [cond_true,g,cond_true,cond_true]
  ·rw [cond_true,Bool.true_and]
   cases sEq t.2.1[i].1 d.2.2.2.2.1
   ·rw [cond_false,cond_false]
    have h:(d.1==5)=false:=by
     have:d.1=4:=by simpa using j
     rw [this];rfl
    rw [h]
    simp only [cond_false,cond_true,g,Bool.false_and]
   ·rw [cond_true,cond_true,List.append_nil]) (λb rec=>by
  show j15 _ _ _ _ _ _ _=_
  unfold j15
  dsimp only
  rw [ZaP,cond_false])
 refine this.trans ?_
 rw [List.nil_append]
theorem joG (d:D) (a:ByteArray) (cs:List C) (ks:List ByteArray) (j:ks.length<=1048576) (k:T->Res):j5r (nI ks.length) d Z1c 0 (a,cs,ks) k=k (a,cs,bif d.1==5 then ks.map (ren d.2.2.2.2.1 d.2.2.2.2.2) else ks):=by
 unfold j5r
 cases g:(d.1==5)
 ·refine Z3u (λi=>((i:Int),(a,cs,ks))) ks.length k (k (a,cs,ks)) (λi b rec=> ?_) (λrec=> ?_) Z1c (Z2b (by omega))
  ·show j0i _ _ _ _ _ _=_
   unfold j0i
   rw [ZaQ b,cond_true,g,cond_false,j01 (n:=(i:Int)+1) (by omega)]
   rfl
  ·show j0i _ _ _ _ _ _=_
   unfold j0i
   rw [ZaP,cond_false]
 ·have:=Z3u (step:=j4q (nI ks.length) d) (λi=>((i:Int),(a,cs,(ks.take i).map (ren d.2.2.2.2.1 d.2.2.2.2.2)++ks.drop i))) ks.length k (k (a,cs,ks.map (ren d.2.2.2.2.1 d.2.2.2.2.2))) (λi b rec=> ?_) (λrec=> ?_) Z1c (Z2b (by omega))
  ·refine Eq.trans ?_ this
   simp
  ·show j0i _ _ _ _ _ _=_
   unfold j0i
   dsimp only
   have f:inb (i:Int) ((ks.take i).map (ren d.2.2.2.2.1 d.2.2.2.2.2)++ks.drop i).length=true:=j00 (by rw [jfp];exact b)
   rw [ZaQ b,cond_true,g,cond_true,f,cond_true,jnr _ _ _ _ b,j01 (n:=(i:Int)+1) (by omega)]
   cases h:sEq ks[i] d.2.2.2.2.1
   ·rw [cond_false,jry _ _ _ b (by unfold ren;rw [h];rfl)]
    rfl
   ·rw [cond_true,cond_true,ZaF]
    have:ren d.2.2.2.2.1 d.2.2.2.2.2 ks[i]=d.2.2.2.2.2:=by unfold ren;rw [h];rfl
    rw [<-jns _ _ _ b,this]
    rfl
  ·show j0i _ _ _ _ _ _=_
   unfold j0i
   dsimp only
   rw [ZaP,cond_false,List.take_length,List.drop_length,List.append_nil]
theorem jnt (n:ByteArray) (l:List C):(l.flatMap λc=>bif sEq c.1 n then [] else [c])=l.filter λc=> !sEq c.1 n:=by
 induction l with
 | nil=>rfl
 | cons c l b=>
  rw [List.flatMap_cons,b]
  cases h:sEq c.1 n
  ·rw [List.filter_cons_of_pos (by rw [h];rfl)];rfl
  ·rw [List.filter_cons_of_neg (by rw [h];simp)];rfl
theorem je5 {α β:Type} (f:α->β) (l:List α):l.flatMap (λx=>[f x])=l.map f:=by
 induction l with
 | nil=>rfl
 | cons c l b=>rw [List.flatMap_cons,b];rfl
theorem jqr (d:D) (l:List C):(d.1=3->l.flatMap (j9k d)=l)/\(d.1=4->l.flatMap (j9k d)=l.filter λc=> !sEq c.1 d.2.2.2.2.1)/\(d.1=5->l.flatMap (j9k d)=l.map (j8D d.2.2.2.2.1 d.2.2.2.2.2)):=by
 refine ⟨λh=> ?_,λh=> ?_,λh=> ?_⟩
 ·have:j9k d=λc=>[c]:=by funext c;unfold j9k;rw [h];rfl
  rw [this,j0K]
 ·have:j9k d=λc=>bif sEq c.1 d.2.2.2.2.1 then [] else [c]:=by funext c;unfold j9k;rw [h];rfl
  rw [this,jnt]
 ·have:j9k d=λc=>[j8D d.2.2.2.2.1 d.2.2.2.2.2 c]:=by
   funext c
   unfold j9k j8D ren
   rw [h]
   cases sEq c.1 d.2.2.2.2.1<;>rfl
  rw [this,je5]
theorem jmX (t:T) (d:D) (g:t.2.1.length<=1048576) (f:t.2.2.length<=1048576) (b:d.1=3->0<d.2.2.1.length) (j:d.1=3\/d.1=4\/d.1=5) (k:T->Res):j3q t d k=k (ja4 t d):=by
 obtain ⟨m,n,p⟩:=jqr d t.2.1
 unfold j3q j5s
 simp only [Z9Q]
 rw [jbP f,cond_true,joE _ _ g]
 dsimp only
 rw [joG _ _ _ _ f]
 dsimp only
 rcases j with h | h | h
 ·have b:=b h
  have l:inb 0 d.2.2.1.length=true:=j00 (i:=0) b
  rw [m h,show (d.1==3)=true by rw [h];rfl,show (d.1==5)=false by rw [h];rfl,cond_true,l,cond_true,ZaL (by unfold LIM;omega),cond_true,cond_false]
  unfold ja4 jj2
  rw [h]
  rfl
 ·rw [n h,show (d.1==3)=false by rw [h];rfl,show (d.1==5)=false by rw [h];rfl,cond_false,cond_false]
  unfold ja4 jgd
  rw [h]
  rfl
 ·rw [p h,show (d.1==3)=false by rw [h];rfl,show (d.1==5)=true by rw [h];rfl,cond_false,cond_true]
  unfold ja4 jec
  rw [h]
  rfl
theorem jfn {d:D} (b:j0X d=true):(d.1=1\/d.1=2\/d.1=3\/d.1=4\/d.1=5)/\(d.1=3->0<d.2.2.1.length):=by
 obtain ⟨_,⟨t,cs,ks,rfl,_⟩ | ⟨t,rfl⟩ | ⟨t,c,rfl,_⟩ | ⟨t,n,rfl,_⟩ | ⟨t,n,m,rfl,_⟩⟩:=j8d b<;>simp
theorem job (c:List T) (n:ByteArray):decide (j05 c n>=0)= !decide (j05 c n<0):=by
 by_cases h:j05 c n<0
 ·rw [decide_eq_true h,decide_eq_false (by omega)];rfl
 ·rw [decide_eq_false h,decide_eq_true (by omega)];rfl
theorem jlj (n:Nat) (m:Nat):(nI n==(m:Int))=(n==m):=by
 unfold nI
 rw [Bool.eq_iff_iff]
 simp only [beq_iff_eq]
 omega
theorem jr2 {α:Type} (l:List α) (i:Nat):sub l 0 (i:Int)=l.take i:=by
 have:=jp3 l 0 i
 simpa using this
theorem jiO (c:List T) (d:D) (j:msr (.slice yT) c<=1048576) (b:dSm d) (k:List T->Int->Res):j1S c d k=k (jeL c d).1 (jeL c d).2:=by
 obtain ⟨y,m⟩:=jd9 j
 unfold j1S jeL
 rw [jkK c j]
 cases w:j22 c
 ·rfl
 rw [Bool.not_true,cond_false,Bool.false_or,jgi d b]
 cases f:j0X d
 ·rfl
 rw [Bool.not_true,cond_false,cond_false,jdF _ _ (by unfold LIM;omega),jiN c j]
 obtain ⟨H,p⟩:=jfn f
 unfold j0a j0Y
 cases q:(d.1==1)
 ·rw [cond_false,cond_false,cond_false]
  rcases j0x c d.2.1 with ⟨l,_⟩ | ⟨i,g,l,_⟩
  ·rw [l];rfl
  ·have h:decide (j05 c d.2.1<0)=false:=decide_eq_false (by omega)
   rw [h,cond_false,cond_false,l,j00 g,cond_true,Zay _ _ _ g]
   obtain ⟨I,J,K,L,M⟩:=m _ (List.getElem_mem g)
   rw [jo6 _ _ (by omega) (by omega) p]
   cases G:(j0q c[i] d != 0)
   ·rw [cond_false,cond_false]
    cases r:(d.1==2)
    ·rw [cond_false,cond_false,cond_true,jmX _ _ (by omega) (by omega) p (by
      have E:d.1≠1:=by simpa using q
      have F:d.1≠2:=by simpa using r
      omega),cond_true,ZaF,Int.toNat_natCast]
    ·rw [cond_true,cond_true,Int.toNat_natCast]
     unfold j6H
     have z:(sub c 0 (i:Int))=c.take i:=jr2 c i
     have A:(sub c (Z9K ((i:Int)+1)) (nI c.length))=c.drop (i+1):=by
      rw [j01 (n:=(i:Int)+1) (by omega)]
      exact jr1 c (i+1)
     have B:Z8e 0 (i:Int) c.length=true:=j9l (i:=0) ⟨Nat.zero_le _,by omega⟩
     have C:Z8e (Z9K ((i:Int)+1)) (nI c.length) c.length=true:=by
      rw [j01 (n:=(i:Int)+1) (by omega)]
      exact j9l (i:=i+1) ⟨by omega,Nat.le_refl _⟩
     rw [B,cond_true,C,cond_true,z,A,ZaL (by unfold LIM;simp;omega),cond_true,ZaL (by unfold LIM;simp;omega),cond_true,List.eraseIdx_eq_take_drop_succ]
   ·rfl
 ·rw [cond_true,cond_true,cond_true,job]
  cases decide (j05 c d.2.1<0)
  ·rfl
  ·rw [Bool.not_true,cond_false,cond_false,show (nI c.length==(6:Int))=(c.length==6) from jlj _ 6]
   cases (c.length==6)
   ·rw [cond_false,cond_false]
    unfold j43
    rw [jiR _ b.2.1 b.2.2.1,jpt _ _ y]
    rfl
   ·rfl
end Go.PI.G
namespace Go.PI.G
open Go Go.PI Go.Proofs
theorem jbo {t:T} (ht:j04 t=true):msr yT t<=400:=by
 obtain ⟨a,b,c⟩:=t
 obtain ⟨d,f,g⟩:=jqO ht
 have:msr yT (a,b,c)=a.size+(msr (.slice yC) b+msr (.slice .str) c):=rfl
 omega
theorem jl7 {t:T} (ht:j04 t=true):j22 [t]=true/\msr (.slice yT) [t]<=1048576:=by
 refine ⟨(j0c _).2 ⟨by simp,by simpa using ht,by simp⟩,?_⟩
 have:=jbo ht
 rw [jhA]
 simp
 omega
theorem jqu {t:T} (ht:j04 t=true) {d:D} (j:j0X d=true) (k:d.2.1=t.1) (f:d.1≠1):(jeL [t] d).2=j0q t d:=by
 have b:j05 [t] d.2.1=(0:Int):=by
  have:=jen (c:=[t]) (by simp) (i:=0) (by simp)
  rw [k]
  exact this
 have g:j0a [t] d=j0q t d:=by
  unfold j0a
  rw [show (d.1==1)=false by simpa using f,cond_false,b]
  rfl
 unfold jeL
 rw [(jl7 ht).1,j,g]
 show (bif (j0q t d != 0) then (([]:List T),j0q t d) else _).2=_
 cases h:(j0q t d != 0)
 ·have:j0q t d=0:=by simpa using h
  rw [this];rfl
 ·rfl
noncomputable def jhM (d:D) (j:Nat) (x:List V):List V:=bif d.1==3 then x++[(nth zC d.2.2.1 0).2.2.2.2] else bif d.1==4 then x.eraseIdx j else x
theorem jqt (t:T) (d:D) (l:List (List V)):jeK t d l=l.map (jhM d (j02 t.2.1 d.2.2.2.2.1).toNat):=by
 unfold jeK jhM
 cases (d.1==3)
 ·cases (d.1==4)
  ·simp
  ·rfl
 ·rfl
theorem jo3 (d:D) (b:Int) (x:List V) (r:x.length<=1048576) (j:d.1=4->0<=b) (k:List V->Res):j7y b x (nI x.length) d Z1c 0 [] k=k (bif d.1==4 then x.eraseIdx b.toNat else x):=by
 unfold j7y
 cases h:(d.1==4)
 ·have:=Z9T x (λi g=>(i,g)) (λv=>[v]) 1048576 [] (step:=j2W b x (nI x.length) d) k k (by unfold LIM;omega) (λi f _=>by
   rw [j0K,List.nil_append,List.length_take];omega) (by simp) (λi g rec f q p=>by
   show j0z _ _ _ _ _ _ _ _=_
   unfold j0z
   dsimp only
   rw [ZaQ f,cond_true,j00 f,cond_true,show (d.1 != 4)=true by rw [bne,h];rfl,cond_true,Zay _ _ _ f,ZaL (by unfold LIM;omega),cond_true,j01 (n:=(i:Int)+1) (by omega)]) (λg rec=>by
   show j0z _ _ _ _ _ _ _ _=_
   unfold j0z
   rw [ZaP,cond_false])
  refine this.trans ?_
  rw [j0K,List.nil_append]
  rfl
 ·have j:=j (by simpa using h)
  obtain ⟨a,rfl⟩:∃ a:Nat,b=(a:Int):=⟨b.toNat,by omega⟩
  have:=Z3u (step:=j2W (a:Int) x (nI x.length) d) (λi=>((i:Int),(x.take i).eraseIdx a)) x.length k (k (x.eraseIdx a)) (λi f rec=> ?_) (λrec=> ?_) Z1c (Z2b (by omega))
  ·refine Eq.trans ?_ this
   rw [List.take_zero,List.eraseIdx_nil]
   rfl
  ·show j0z _ _ _ _ _ _ _ _=_
   unfold j0z
   dsimp only
   have m:((x.take i).eraseIdx a).length<=1048576:=Nat.le_trans (List.eraseIdx_sublist _ _).length_le (by rw [List.length_take];omega)
   rw [ZaQ f,cond_true,j00 f,cond_true,show (d.1 != 4)=false by rw [bne,h];rfl,cond_false,Zay _ _ _ f,j01 (n:=(i:Int)+1) (by omega),jk4 x a i f]
   have l:((i:Int) != (a:Int))= !(i==a):=by
    rw [Bool.eq_iff_iff]
    simp only [bne_iff_ne,Bool.not_eq_true',beq_eq_false_iff_ne,ne_eq,Int.natCast_inj]
   rw [l]
   cases (i==a)
   ·rw [Bool.not_false,cond_true,ZaL (by unfold LIM;omega),cond_true,cond_false]
    rfl
   ·rw [Bool.not_true,cond_false,cond_true]
    rfl
  ·show j0z _ _ _ _ _ _ _ _=_
   unfold j0z
   dsimp only
   rw [ZaP,cond_false,List.take_length]
theorem jlJ (t:T) (h:msr yT t<=1048576) (l:List (List V)) (F:j08 t l=true) (d:D) (g:dSm d) (w:j0X d=true) (G:d.2.1=t.1) (E:d.1≠1) (k:List (List V)->Int->Res) :
  j6f t l d k=k (bif j0q t d != 0 then [] else bif d.1==2 then [] else jeK t d l) (j0q t d):=by
 obtain ⟨ht,X,P⟩:=j0g F
 obtain ⟨H,J⟩:=jfn w
 unfold j6f j56
 rw [j7c t h,F,Bool.not_true,cond_false,jgi d g,w,Bool.not_true,cond_false]
 have B:sNe d.2.1 t.1=false:=by unfold sNe;rw [G];simp
 rw [B,cond_false,show (d.1==1)=false by simpa using E]
 dsimp only
 rw [cond_false,jiO _ _ (jl7 ht).2 g,jqu ht w G E]
 cases K:(j0q t d != 0)
 rotate_left
 ·rfl
 have f:j0q t d=0:=by simpa using K
 have M:=(j2w h).2.1
 rw [cond_false,cond_false,j6s _ _ (by unfold LIM;omega),f]
 have L:d.1=4->0<=j02 t.2.1 d.2.2.2.2.1:=λr=>by
  by_cases A:j02 t.2.1 d.2.2.2.2.1<0
  ·unfold j0q at f
   rw [r] at f
   simp only [show ((4:Int)==3)=false from rfl,show ((4:Int)==4)=true from rfl,cond_false,cond_true,decide_eq_true A] at f
   cases f
  ·omega
 unfold jaH
 have:=Z9T l (λi b=>(b,i)) (λx=>bif d.1 != 2 then [jhM d (j02 t.2.1 d.2.2.2.2.1).toNat x] else []) 60 [] (step:=j2X (j02 t.2.1 d.2.2.2.2.1) l (nI l.length) d) (λb=>k b 0) (λb=>k b 0) (by unfold LIM;omega) (λi j _=> ?_) (by simp) (λi b rec j R Q=>by
  have U:l[i].length=t.2.1.length:=j0t (P _ (List.getElem_mem j))
  show j1K _ _ _ _ _ _ _ _=_
  unfold j1K j7z
  dsimp only
  rw [ZaQ j,cond_true,j00 j,cond_true,Zay _ _ _ j,jo3 d _ _ (by omega) L,j01 (n:=(i:Int)+1) (by omega)]
  have p:lim (b.length+1)=true:=ZaL (by unfold LIM;omega)
  cases q:(d.1==3)
  ·rw [cond_false]
   cases (d.1 != 2)
   ·rw [cond_false,cond_false,List.append_nil]
   ·rw [cond_true,cond_true,p,cond_true]
    unfold jhM
    rw [q,cond_false]
  ·have e:d.1=3:=by simpa using q
   have z:inb 0 d.2.2.1.length=true:=j00 (i:=0) (J e)
   have r:(d.1==4)=false:=by rw [e];rfl
   have I:(d.1 != 2)=true:=by rw [e];rfl
   rw [cond_true,r,cond_false,z,cond_true,ZaL (by unfold LIM;omega),cond_true,I,cond_true,cond_true,p,cond_true]
   unfold jhM
   rw [q,cond_true]) (λb rec=>by
  show j1K _ _ _ _ _ _ _ _=_
  unfold j1K
  dsimp only
  rw [ZaP,cond_false])
 ·refine this.trans ?_
  rw [List.nil_append]
  congr 1
  cases C:(d.1==2)
  ·have:(d.1 != 2)=true:=by rw [bne,C];rfl
   rw [this,cond_false,jqt]
   show l.flatMap (λx=>[jhM d _ x])=_
   exact je5 _ _
  ·have:(d.1 != 2)=false:=by rw [bne,C];rfl
   rw [this,cond_true]
   show l.flatMap (λx=>[])=_
   simp
 ·rw [List.nil_append]
  have:∀ m:List (List V),(m.flatMap λx=>bif d.1 != 2 then [jhM d (j02 t.2.1 d.2.2.2.2.1).toNat x] else []).length<=m.length:=by
   intro m
   induction m with
   | nil=>exact Nat.le_refl _
   | cons y m W=>
    rw [List.flatMap_cons,List.length_append,List.length_cons]
    have:(bif d.1 != 2 then [jhM d (j02 t.2.1 d.2.2.2.2.1).toNat y] else []).length<=1:=by cases (d.1 != 2)<;>simp
    omega
  exact Nat.le_trans (this _) (by rw [List.length_take];omega)
end Go.PI.G
namespace Go.PI.G
open Go Go.PI Go.Proofs
theorem jox (t:T) (b:t.2.1.length<=1048576) (d:t.2.2.length<=1048576) (k:T->Res):j3k t k=k t:=by
 unfold j3k j3l
 rw [jbP b,cond_true,jbP d,cond_true]
theorem jiE (c:List T) (f:msr (.slice yT) c<=1048576) (k:List T->Res):j3B c k=k c:=by
 obtain ⟨h,ht⟩:=jd9 f
 unfold j3B je9
 have:=Z9T c (λi b=>(i,b)) (λx=>[x]) 1048576 [] (step:=j8B c (nI c.length)) (λb=>k b) (λb=>k b) (by unfold LIM;omega) (λi d _=>by
  rw [j0K,List.nil_append,List.length_take];omega) (by simp) (λi b rec d j g=>by
  show j2S _ _ _ _ _ _=_
  unfold j2S
  obtain ⟨l,m,p,q,r⟩:=ht _ (List.getElem_mem d)
  dsimp only
  rw [ZaQ d,cond_true,j00 d,cond_true,Zay _ _ _ d,jox _ (by omega) (by omega),ZaL (by unfold LIM;omega),cond_true,j01 (n:=(i:Int)+1) (by omega)]) (λb rec=>by
  show j2S _ _ _ _ _ _=_
  unfold j2S
  dsimp only
  rw [ZaP,cond_false])
 refine this.trans ?_
 rw [j0K,List.nil_append]
theorem jiF (c:List T) (d:D) (y:msr (.slice yT) c<=1048576) (f:j0X d=true) (k:Int->Res):j2j c d k=k (j0a c d):=by
 obtain ⟨A,p⟩:=jd9 y
 obtain ⟨z,w⟩:=jfn f
 unfold j2j j0a
 rw [j7J _ _ (by unfold LIM;omega)]
 cases q:(d.1==1)
 ·rw [cond_false,cond_false]
  rcases j0x c d.2.1 with ⟨m,_⟩ | ⟨i,g,m,_⟩
  ·rw [m];rfl
  ·have l:decide (j05 c d.2.1<0)=false:=decide_eq_false (by omega)
   rw [l,cond_false,cond_false,m,j00 g,cond_true,Zay _ _ _ g]
   obtain ⟨B,C,E,F,G⟩:=p _ (List.getElem_mem g)
   generalize c[i]=t at *
   have b:∀ n (K:Int->Res),j0e t n K=K (j02 t.2.1 n):=λn K=>j7H _ _ (by unfold LIM;omega) K
   unfold j4O j7p j4P j0q
   have r:d.1≠1:=by simpa using q
   rcases z with h | h | h | h | h
   ·exact absurd h r
   ·rw [h];rfl
   ·have j:inb 0 d.2.2.1.length=true:=j00 (i:=0) (w h)
    rw [h]
    show (bif inb 0 d.2.2.1.length then _ else none)=_
    rw [j,cond_true,b,jfX]
    show _=k (bif !decide (j02 t.2.1 (nth zC d.2.2.1 0).1<0) then 5 else bif t.2.1.length==8 then 6 else 0)
    cases !decide (j02 t.2.1 (nth zC d.2.2.1 0).1<0)
    ·show (bif (nI t.2.1.length==(8:Int)) then k 6 else _)=_
     rw [show (nI t.2.1.length==(8:Int))=(t.2.1.length==8) from jlj _ 8]
     cases (t.2.1.length==8)<;>rfl
    ·rfl
   ·rw [h]
    simp only [show ((4:Int)==3)=false from rfl,show ((4:Int)==4)=true from rfl,show ((4:Int)==5)=false from rfl,cond_false,cond_true,b]
    cases decide (j02 t.2.1 d.2.2.2.2.1<0)
    ·rw [cond_false,cond_false,jpb _ _ (by unfold LIM;omega)]
     show (bif jeM t.2.2 d.2.2.2.2.1 then k 8 else k 0)=k (bif jeM t.2.2 d.2.2.2.2.1 then 8 else 0)
     cases jeM t.2.2 d.2.2.2.2.1<;>rfl
    ·rfl
   ·rw [h]
    simp only [show ((5:Int)==3)=false from rfl,show ((5:Int)==4)=false from rfl,show ((5:Int)==5)=true from rfl,cond_false,cond_true,b,jfX]
    cases !decide (j02 t.2.1 d.2.2.2.2.2<0)
    ·simp only [cond_false]
     cases decide (j02 t.2.1 d.2.2.2.2.1<0)<;>rfl
    ·rfl
 ·rw [cond_true,cond_true,job]
  cases decide (j05 c d.2.1<0)
  ·rfl
  ·rw [Bool.not_true,cond_false,cond_false,show (nI c.length==(6:Int))=(c.length==6) from jlj _ 6]
   cases (c.length==6)<;>rfl
theorem jof {α:Type} (p:α->Bool):(l:List α)->(i:Nat)->i<(l.takeWhile p).length->∃ h:i<l.length,p l[i]=true
 | [],i,h=>by simp at h
 | x::l,i,h=>by
  cases b:p x
  ·rw [List.takeWhile_cons_of_neg (by rw [b];simp)] at h;simp at h
  ·rw [List.takeWhile_cons_of_pos b,List.length_cons] at h
   cases i with
   | zero=>exact ⟨by simp,b⟩
   | succ i=>
    obtain ⟨f,d⟩:=jof p l i (by omega)
    exact ⟨by rw [List.length_cons];omega,d⟩
theorem joe {α:Type} (p:α->Bool):(l:List α)->(h:(l.takeWhile p).length<l.length)->p l[(l.takeWhile p).length]=false
 | [],h=>by simp at h
 | x::l,h=>by
  cases b:p x
  ·have e:(x::l).takeWhile p=[]:=List.takeWhile_cons_of_neg (by rw [b];simp)
   simp only [e,List.length_nil,List.getElem_cons_zero]
   exact b
  ·have e:(x::l).takeWhile p=x::l.takeWhile p:=List.takeWhile_cons_of_pos b
   simp only [e,List.length_cons,List.getElem_cons_succ] at h ⊢
   exact joe p l (by omega)
theorem jny (d:D) (c:List T) (l:c.length<=1048576) (k:Int->Res):j9n d c Z1c 0 k=k (((c.takeWhile λy=>sLt y.1 d.2.1).length:Nat):Int):=by
 have j:(c.takeWhile λy=>sLt y.1 d.2.1).length<=c.length:=(List.takeWhile_sublist _).length_le
 refine Z3u (step:=j4K d c) (λi=>(i:Int)) (c.takeWhile λy=>sLt y.1 d.2.1).length k _ (λi g rec=> ?_) (λrec=> ?_) Z1c (Z2b (by omega))
 ·obtain ⟨b,f⟩:=jof _ c i g
  show j2f _ _ _ _ _=_
  unfold j2f
  rw [ZaQ b,cond_true,j00 b,cond_true,Zay _ _ _ b,f,cond_true,j01 (n:=(i:Int)+1) (by omega)]
  rfl
 ·show j2f _ _ _ _ _=_
  unfold j2f
  by_cases h:(c.takeWhile λy=>sLt y.1 d.2.1).length<c.length
  ·rw [ZaQ h,cond_true,j00 h,cond_true,Zay _ _ _ h,joe (λy:T=>sLt y.1 d.2.1) c h,cond_false]
  ·rw [decide_eq_false (show ¬ (((c.takeWhile λy=>sLt y.1 d.2.1).length:Nat):Int)<nI c.length by unfold nI;omega),cond_false]
end Go.PI.G
namespace Go.PI.G
open Go Go.PI Go.Proofs
theorem jrz (l:List ByteArray) (v:ByteArray) (h:l.length<=LIM) (k:Int->Res):j0N l v k=k (Z9F (λx=>sEq v x) l):=by
 unfold j0N j5d
 refine Z9S l (λi=>i) (λx=>sEq v x) (step:=j1B l v (nI l.length)) ((λ(_:Unit)=>k (-1)),(λ(t:Int)=>k t)) k h (λi rec b=> ?_) (λrec=> ?_)
 ·show j0b _ _ _ _ _ _ _=_
  unfold j0b
  unfold LIM at h
  rw [ZaQ b,cond_true,j00 b,cond_true,Zay _ _ _ b,j01 (n:=(i:Int)+1) (by omega)]
 ·show j0b _ _ _ _ _ _ _=_
  unfold j0b
  rw [ZaP,cond_false]
end Go.PI.G
