/-
  Program's code interpreted over typed values; printed texts; plain laws. No conditions.
-/
import Derived.Test.YtnemiodjnhfejaaGreatLTj
import Derived.Test.YtnemiodjnhfejaaGreatLTh
import Derived.Test.YtnemiodjnhfejaaGreatLTi
import Derived.Test.YtnemiodjnhfejaaGreatLTg
import Derived.Test.YtnemiodjnhfejaaGreatLTe
import Derived.Test.YtnemiodjnhfejaaGreatLTf
set_option linter.unusedVariables false
namespace Go.PI.G
noncomputable section
open Go Go.PI
def j1t {α:Type} (z:α) (f:α->α->Bool) (a b:List α):Bool:=decide (a.length=b.length)&& !Z71 (λi x=> !f x (nth z b (i:Int))) 0 a
theorem jp1 {α:Type} {z:α} {f:α->α->Bool} (d:∀ x y,f x y=true↔x=y) (a b:List α):j1t z f a b=true↔a=b:=by
 unfold j1t
 rw [Bool.and_eq_true,decide_eq_true_eq,Bool.not_eq_true',j8W]
 constructor
 ·rintro ⟨m,h⟩
  refine List.ext_getElem m λi g k=> ?_
  have:=h i g
  rw [Nat.zero_add,Zay _ _ _ k,Bool.not_eq_false'] at this
  exact (d _ _).1 this
 ·rintro rfl
  refine ⟨rfl,λj l=> ?_⟩
  rw [Nat.zero_add,Zay _ _ _ l,(d _ _).2 rfl];rfl
theorem j4k (a b:List V):j1t zV veq a b=true↔a=b:=jp1 jfD a b
def j06 (t:T) (l:List (List V)) (b:List V):Int:=Z9F (λr=>j1t zV veq (j05 t r) b) l
theorem jd5 (t:T) (l:List (List V)) (b:List V):(j06 t l b= -1/\∀ r∈l,j05 t r≠b)\/∃ (i:Nat) (g:i<l.length),j06 t l b=(i:Int)/\j05 t l[i]=b:=by
 rcases j9O (λr=>j1t zV veq (j05 t r) b) l with ⟨d,f⟩ | ⟨i,g,d,f,j⟩
 ·refine .inl ⟨d,λr h e=> ?_⟩
  have:=f r h
  rw [(j4k _ _).2 e] at this
  cases this
 ·exact .inr ⟨i,g,d,(j4k _ _).1 f⟩
theorem jkp (t:T) (l:List (List V)) (b:List V):decide (j06 t l b<0)= !l.any λr=>j1t zV veq (j05 t r) b:=by
 rcases jd5 t l b with ⟨f,d⟩ | ⟨i,j,f,d⟩
 ·rw [decide_eq_true (by omega)]
  have:(l.any λr=>j1t zV veq (j05 t r) b)=false:=by
   rw [List.any_eq_false]
   intro r g h
   exact d r g ((j4k _ _).1 h)
  rw [this];rfl
 ·rw [decide_eq_false (by omega)]
  have:(l.any λr=>j1t zV veq (j05 t r) b)=true:=by
   rw [List.any_eq_true]
   exact ⟨l[i],List.getElem_mem _,(j4k _ _).2 d⟩
  rw [this];rfl
def lay {α:Type} (R:α->α->Bool) (x:α) (l:List α):List α:=l.takeWhile (λy=> !R x y)++x::l.dropWhile (λy=> !R x y)
theorem jl9 {α:Type} {R:α->α->Bool} {x z:α} {l:List α}:z∈lay R x l↔z=x\/z∈l:=by
 unfold lay
 rw [List.mem_append,List.mem_cons]
 have:z∈l↔z∈l.takeWhile (λy=> !R x y)\/z∈l.dropWhile (λy=> !R x y):=by
  rw [<-List.mem_append,List.takeWhile_append_dropWhile]
 rw [this]
 constructor
 ·rintro (h | h | h)
  ·exact .inr (.inl h)
  ·exact .inl h
  ·exact .inr (.inr h)
 ·rintro (h | h | h)
  ·exact .inr (.inl h)
  ·exact .inl h
  ·exact .inr (.inr h)
theorem jl7 {α:Type} (R:α->α->Bool) (x:α) (l:List α):(lay R x l).length=l.length+1:=by
 unfold lay
 have:=congrArg List.length (List.takeWhile_append_dropWhile (p:=λy=> !R x y) (l:=l))
 rw [List.length_append] at this
 rw [List.length_append,List.length_cons]
 omega
theorem jnI {α:Type} {R:α->α->Bool} (i:∀ a b c,R a b=true->R b c=true->R a c=true) (x:α):(l:List α)->(l.Pairwise λa b=>R a b=true)->(∀ y∈l,R x y=true\/R y x=true)->(lay R x l).Pairwise λa b=>R a b=true
 | [],_,_=>List.pairwise_singleton _ _
 | y::l,h,ht=>by
  rw [List.pairwise_cons] at h
  cases d:R x y
  ·have e:lay R x (y::l)=y::lay R x l:=by
    unfold lay
    rw [List.takeWhile_cons,List.dropWhile_cons,d]
    rfl
   rw [e,List.pairwise_cons]
   refine ⟨λz f=> ?_,jnI i x l h.2 λz f=>ht z (List.mem_cons_of_mem _ f)⟩
   rcases jl9.1 f with rfl | f
   ·rcases ht y (by simp) with g | g
    ·rw [d] at g;cases g
    ·exact g
   ·exact h.1 z f
  ·have e:lay R x (y::l)=x::y::l:=by
    unfold lay
    rw [List.takeWhile_cons,List.dropWhile_cons,d]
    rfl
   rw [e,List.pairwise_cons]
   refine ⟨λz f=> ?_,List.pairwise_cons.2 h⟩
   rcases List.mem_cons.1 f with rfl | f
   ·exact d
   ·exact i _ _ _ d (h.1 z f)
theorem joU {α:Type} {R:α->α->Bool} (g:∀ a b,R a b=true->R b a=false) {x:α} {l:List α} (ht:∀ y∈l,R x y=true\/R y x=true) :
  ∃ i,i<=l.length/\i=(l.takeWhile λy=>R y x).length/\lay R x l=l.take i++x::l.drop i:=by
 have f:∀ (l:List α),(∀ y∈l,R x y=true\/R y x=true)->l.takeWhile (λy=> !R x y)=l.takeWhile λy=>R y x:=by
  intro l
  induction l with
  | nil=>intro _;rfl
  | cons y l m=>
   intro h
   have e:(!R x y)=R y x:=by
    rcases h y (by simp) with d | d
    ·rw [d,g _ _ d];rfl
    ·rw [d,g _ _ d];rfl
   rw [List.takeWhile_cons,List.takeWhile_cons,e,m λz k=>h z (List.mem_cons_of_mem _ k)]
 have d:=List.takeWhile_append_dropWhile (p:=λy=> !R x y) (l:=l)
 have j:=f l ht
 refine ⟨(l.takeWhile λy=>R y x).length,?_,rfl,?_⟩
 ·have:=congrArg List.length d
  rw [List.length_append,j] at this
  omega
 ·unfold lay
  rw [j] at d ⊢
  generalize l.takeWhile (λy=>R y x)=a at d ⊢
  generalize l.dropWhile (λy=> !R x y)=b at d ⊢
  rw [<-d]
  simp
def kR (t:T) (a b:List V):Bool:=klt (j05 t a) (j05 t b)
def jfW (t:T) (l:List (List V)) (r:List V):List (List V):=lay (kR t) r l
def j9Y (t:T) (b:List V):Bool:=j03 t&&(decide (b.length=t.2.2.length)&& !Z71 (λi k=> !j3s (nth zC t.2.1 (j02 t.2.1 k)) (nth zV b (i:Int))) 0 t.2.2)
def j5v (t:T) (l:List (List V)) (r:List V):List (List V)×Int:=
 bif !j08 t l then ([],1) else bif !j0n t.2.1 r then ([],2) else bif !decide (j06 t l (j05 t r)<0) then ([],3) else bif l.length==60 then ([],4) else (jfW t l r,0)
def j5w (t:T) (l:List (List V)) (b r:List V):List (List V)×Int:=
 bif !j08 t l then ([],1) else bif !j0n t.2.1 r then ([],2) else bif !j9Y t b||decide (j06 t l b<0) then ([],5) else
 bif !decide (j06 t (l.eraseIdx (j06 t l b).toNat) (j05 t r)<0) then ([],3) else (jfW t (l.eraseIdx (j06 t l b).toNat) r,0)
def j5u (t:T) (l:List (List V)) (b:List V):List (List V)×Int:=
 bif !j08 t l then ([],1) else bif !j9Y t b||decide (j06 t l b<0) then ([],5) else (l.eraseIdx (j06 t l b).toNat,0)
theorem jnQ {l:List C} {r:List V} (h:j0n l r=true):∀ v∈r,j0o v=true:=by
 intro v d
 obtain ⟨i,b,rfl⟩:=List.getElem_of_mem d
 rw [j95] at h
 have:=h.2 i (by omega) b
 unfold j3s at this
 rw [Bool.and_eq_true] at this
 exact this.1
theorem jnF {t:T} (ht:j03 t=true) {r:List V} (h:j0n t.2.1 r=true):∀ v∈j05 t r,j0o v=true:=by
 intro v f
 obtain ⟨k,b,rfl⟩:=List.mem_map.1 f
 have:=j18 t.2.2 (-1) (by omega) (j1C ht).2.2.2.2.2 k b
 obtain ⟨n,d⟩:∃ n:Nat,j02 t.2.1 k=(n:Int):=⟨(j02 t.2.1 k).toNat,by omega⟩
 have g:=((j95 _ _).1 h).1
 rw [d,Zay _ _ _ (by omega)]
 exact jnQ h _ (List.getElem_mem _)
theorem jnE {t:T} (ht:j03 t=true) {a b:List V} (d:j0n t.2.1 a=true) (f:j0n t.2.1 b=true) (h:j05 t a≠j05 t b):kR t a b=true\/kR t b a=true:=
 jlO _ _ (jnF ht d) (jnF ht f) h
theorem joT {t:T} {l:List (List V)} {r:List V} (h:j08 t l=true) (i:j0n t.2.1 r=true) (n:∀ x∈l,j05 t x≠j05 t r) (m:l.length<60):j08 t (jfW t l r)=true:=by
 rw [j61] at h ⊢
 obtain ⟨f,p,g,k⟩:=h
 refine ⟨f,by unfold jfW;rw [jl7];omega,λx d=> ?_,?_⟩
 ·rcases jl9.1 d with rfl | d
  ·exact i
  ·exact g x d
 ·exact jnI (R:=kR t) (λa b c=>jdS _ _ _) r l k λy j=>jnE f i (g y j) λe=>n y j e.symm
theorem jdK {t:T} {l:List (List V)} (b:j08 t l=true) (i:Nat):j08 t (l.eraseIdx i)=true:=by
 rw [j61] at b ⊢
 obtain ⟨d,j,f,g⟩:=b
 refine ⟨d,?_,λx h=>f x (List.mem_of_mem_eraseIdx h),g.sublist (List.eraseIdx_sublist _ _)⟩
 rw [List.length_eraseIdx]
 split<;>omega
theorem jpe {t:T} {l:List (List V)} (k:j08 t l=true) {i j:Nat} (f:i<l.length) (g:j<l.length) (h:j05 t l[i]=j05 t l[j]):i=j:=by
 have d:=((j61 _ _).1 k).2.2.2
 rw [List.pairwise_iff_getElem] at d
 rcases Nat.lt_trichotomy i j with b | b | b
 ·exact absurd h (jq2 (d i j f g b))
 ·exact b
 ·exact absurd h.symm (jq2 (d j i g f b))
theorem jlZ {t:T} {l:List (List V)} (y:j08 t l=true) {b now:List V} (h:¬ j06 t l b<0) :
  (!decide (j06 t (l.eraseIdx (j06 t l b).toNat) now<0))=(!j1t zV veq now b&& !decide (j06 t l now<0)):=by
 rcases jd5 t l b with ⟨n,_⟩ | ⟨i,w,n,p⟩
 ·omega
 rw [n,Int.toNat_natCast,jkp,jkp,Bool.not_not,Bool.not_not]
 by_cases g:now=b
 ·subst g
  rw [(j4k _ _).2 rfl,Bool.not_true,Bool.false_and,List.any_eq_false]
  intro r f h
  obtain ⟨j,k,m,rfl⟩:=List.mem_eraseIdx_iff_getElem.1 f
  exact m (jpe y k w (((j4k _ _).1 h).trans p.symm))
 ·have:j1t zV veq now b=false:=by
   cases d:j1t zV veq now b with
   | false=>rfl
   | true=>exact absurd ((j4k _ _).1 d) g
  rw [this,Bool.not_false,Bool.true_and]
  cases d:l.any λr=>j1t zV veq (j05 t r) now with
  | false=>
   rw [List.any_eq_false] at d ⊢
   exact λr f=>d r (List.mem_of_mem_eraseIdx f)
  | true=>
   rw [List.any_eq_true] at d ⊢
   obtain ⟨r,f,q⟩:=d
   refine ⟨r,List.mem_eraseIdx_iff_getElem.2 ?_,q⟩
   obtain ⟨j,k,rfl⟩:=List.getElem_of_mem f
   exact ⟨j,k,λe=>g (by subst e;rw [<-(j4k _ _).1 q,p]),rfl⟩
theorem jnK {t:T} {l:List (List V)} {b:List V} (h:j06 t l b<0):∀ x∈l,j05 t x≠b:=by
 rcases jd5 t l b with ⟨_,d⟩ | ⟨i,g,f,_⟩
 ·exact d
 ·omega
def j2q (t:T) (l:List (List V)) (s:ST):List (List V)×Int:=
 bif s.1==1 then j5v t l s.2.2.2.1 else bif s.1==2 then j5w t l s.2.2.1 s.2.2.2.1 else bif s.1==3 then j5u t l s.2.2.1 else ([],0)
theorem jpn {t:T} {l:List (List V)} {r:List V} (h:(j5v t l r).2=0):j08 t (j5v t l r).1=true:=by
 unfold j5v at h ⊢
 cases b:j08 t l<;>rw [b] at h
 ·cases h
 cases d:j0n t.2.1 r<;>rw [d] at h
 ·cases h
 cases f:decide (j06 t l (j05 t r)<0)<;>rw [f] at h
 ·cases h
 cases g:l.length==60<;>rw [g] at h
 ·refine joT b d (jnK (of_decide_eq_true f)) ?_
  have:=((j61 _ _).1 b).2.1
  have i:l.length≠60:=by simpa using g
  omega
 ·cases h
theorem jpo {t:T} {l:List (List V)} {b r:List V} (h:(j5w t l b r).2=0):j08 t (j5w t l b r).1=true:=by
 unfold j5w at h ⊢
 cases d:j08 t l<;>rw [d] at h
 ·cases h
 cases f:j0n t.2.1 r<;>rw [f] at h
 ·cases h
 cases g: !j9Y t b||decide (j06 t l b<0)<;>rw [g] at h
 ·cases i:decide (j06 t (l.eraseIdx (j06 t l b).toNat) (j05 t r)<0)<;>rw [i] at h
  ·cases h
  ·refine joT (jdK d _) f (jnK (of_decide_eq_true i)) ?_
   rw [Bool.or_eq_false_iff,decide_eq_false_iff_not] at g
   have m:=((j61 _ _).1 d).2.1
   have j:=(jcl (λr=>j1t zV veq (j05 t r) b) l).2
   have k:(j06 t l b).toNat<l.length:=by
    have:j06 t l b<(l.length:Int):=j
    omega
   rw [List.length_eraseIdx_of_lt k]
   omega
 ·cases h
theorem jpm {t:T} {l:List (List V)} {b:List V} (h:(j5u t l b).2=0):j08 t (j5u t l b).1=true:=by
 unfold j5u at h ⊢
 cases d:j08 t l<;>rw [d] at h
 ·cases h
 cases f: !j9Y t b||decide (j06 t l b<0)<;>rw [f] at h
 ·exact jdK d _
 ·cases h
theorem jlY {t:T} (h:j03 t=true):j08 t []=true:=(j61 _ _).2 ⟨h,by simp,by simp,List.Pairwise.nil⟩
theorem jr5 {t:T} (ht:j03 t=true) {l:List (List V)} {s:ST} (h:(j2q t l s).2=0):j08 t (j2q t l s).1=true:=by
 unfold j2q at h ⊢
 cases b:s.1==1<;>rw [b] at h
 ·cases d:s.1==2<;>rw [d] at h
  ·cases f:s.1==3<;>rw [f] at h
   ·exact jlY ht
   ·exact jpm h
  ·exact jpo h
 ·exact jpn h
def tR (a b:T):Bool:=sLt a.1 b.1
def j0r (t:T) (d:D):Int:=
 bif d.1==3 then (bif !decide (j02 t.2.1 (nth zC d.2.2.1 0).1<0) then 5 else bif t.2.1.length==8 then 6 else 0)
 else bif d.1==4 then (bif decide (j02 t.2.1 d.2.2.2.2.1<0) then 7 else bif t.2.2.any (λx=>sEq x d.2.2.2.2.1) then 8 else 0)
 else bif d.1==5 then (bif !decide (j02 t.2.1 d.2.2.2.2.2<0) then 5 else bif decide (j02 t.2.1 d.2.2.2.2.1<0) then 7 else 0)
 else 0
def j9N (t:T) (d:D):T:=bif d.1==3 then jiD t (nth zC d.2.2.1 0) else bif d.1==4 then jg1 t d.2.2.2.2.1 else jdV t d.2.2.2.2.1 d.2.2.2.2.2
def j0b (c:List T) (d:D):Int:=
 bif d.1==1 then (bif !decide (j04 c d.2.1<0) then 2 else bif c.length==6 then 3 else 0)
 else bif decide (j04 c d.2.1<0) then 4 else j0r (nth zT c (j04 c d.2.1)) d
def j0W (c:List T) (d:D):List T:=
 bif d.1==1 then lay tR (d.2.1,d.2.2.1,d.2.2.2.1) c
 else bif d.1==2 then c.eraseIdx (j04 c d.2.1).toNat
 else c.set (j04 c d.2.1).toNat (j9N (nth zT c (j04 c d.2.1)) d)
def jeu (c:List T) (d:D):List T×Int:=
 bif !j21 c|| !j0V d then ([],1) else bif j0b c d != 0 then ([],j0b c d) else (j0W c d,0)
theorem j0x (c:List T) (n:ByteArray):(j04 c n= -1/\∀ t∈c,t.1≠n)\/∃ (i:Nat) (f:i<c.length),j04 c n=(i:Int)/\c[i].1=n:=by
 rcases j9O (λt:T=>sEq t.1 n) c with ⟨b,d⟩ | ⟨i,f,b,d,g⟩
 ·exact .inl ⟨b,λt ht e=>by have:=d t ht;rw [e,Zah] at this;cases this⟩
 ·exact .inr ⟨i,f,b,(j0a _ _).1 d⟩
theorem je7 {c:List T} (h:c.Pairwise λa b=>sLt a.1 b.1=true) {i:Nat} (g:i<c.length):j04 c c[i].1=(i:Int):=by
 refine joQ g (Zah _) λj k f=> ?_
 have f:=(j0a _ _).1 f
 rw [List.pairwise_iff_getElem] at h
 rcases Nat.lt_trichotomy i j with d | d | d
 ·exact absurd f.symm (jqd (h i j g k d))
 ·exact d.symm
 ·exact absurd f (jqd (h j i k g d))
theorem jhk (t:T) (d:D):(j9N t d).1=t.1:=by
 unfold j9N
 cases d.1==3
 ·cases d.1==4<;>rfl
 ·rfl
theorem jpI {t:T} (ht:j03 t=true) {d:D} (q:j0V d=true) (j:3<=d.1) (b:j0r t d=0):j03 (j9N t d)=true:=by
 obtain ⟨_,h⟩:=j7P q
 rcases h with ⟨n,cs,ks,rfl,_⟩ | ⟨n,rfl⟩ | ⟨n,c,rfl,l⟩ | ⟨n,m,rfl,r⟩ | ⟨n,m,p,rfl,r,w⟩
 ·simp at j
 ·simp at j
 ·show j03 (jiD t c)=true
  change (bif !decide (j02 t.2.1 c.1<0) then (5:Int) else bif t.2.1.length==8 then 6 else 0)=0 at b
  cases f:decide (j02 t.2.1 c.1<0)<;>rw [f] at b
  ·cases b
  ·cases g:t.2.1.length==8<;>rw [g] at b
   ·have k:t.2.1.length≠8:=by simpa using g
    have:=(j1C ht).2.2.1
    exact jrr ht l (of_decide_eq_true f) (by omega)
   ·cases b
 ·show j03 (jg1 t m)=true
  change (bif decide (j02 t.2.1 m<0) then (7:Int) else bif t.2.2.any (λx=>sEq x m) then 8 else 0)=0 at b
  cases f:decide (j02 t.2.1 m<0)<;>rw [f] at b
  ·cases g:t.2.2.any λx=>sEq x m<;>rw [g] at b
   ·have k:=of_decide_eq_false f
    exact jrE ht (i:=(j02 t.2.1 m).toNat) (by omega) g
   ·cases b
  ·cases b
 ·show j03 (jdV t m p)=true
  change (bif !decide (j02 t.2.1 p<0) then (5:Int) else bif decide (j02 t.2.1 m<0) then 7 else 0)=0 at b
  cases f:decide (j02 t.2.1 p<0)<;>rw [f] at b
  ·cases b
  ·exact jqV ht w (of_decide_eq_true f)
theorem jlH {c:List T} (f:j21 c=true) {t:T} (ht:j03 t=true) (p:j04 c t.1<0) (m:c.length<6):j21 (lay tR t c)=true:=by
 rw [j0d] at f ⊢
 obtain ⟨l,g,j⟩:=f
 refine ⟨by rw [jl7];omega,λx d=> ?_,?_⟩
 ·rcases jl9.1 d with rfl | d
  ·exact ht
  ·exact g x d
 ·refine jnI (R:=tR) (λa b c=>jdZ) t c j λy k=>jhG λe=> ?_
  rcases j0x c t.1 with ⟨_,h⟩ | ⟨i,n,h,_⟩
  ·exact h y k e.symm
  ·omega
theorem jnL {α:Type} {R:α->α->Prop} {l:List α} (h:l.Pairwise R) {i:Nat} {x:α} (m:i<l.length) (j:∀ y,R y l[i]->R y x) (k:∀ y,R l[i] y->R x y):(l.set i x).Pairwise R:=by
 rw [List.pairwise_iff_getElem] at h ⊢
 intro a b f g d
 rw [List.length_set] at f g
 rw [List.getElem_set,List.getElem_set]
 split
 ·rename_i e
  subst e
  split
  ·omega
  ·exact k _ (h _ _ f g d)
 ·split
  ·rename_i e
   subst e
   exact j _ (h _ _ f g d)
  ·exact h _ _ f g d
theorem joY {c:List T} (d:j21 c=true) {i:Nat} (l:i<c.length) {t:T} (ht:j03 t=true) (f:t.1=c[i].1):j21 (c.set i t)=true:=by
 rw [j0d] at d ⊢
 obtain ⟨g,j,k⟩:=d
 refine ⟨by rw [List.length_set];exact g,λx b=> ?_,?_⟩
 ·rcases List.mem_or_eq_of_mem_set b with b | rfl
  ·exact j x b
  ·exact ht
 ·refine jnL k l (λy h=> ?_) (λy h=> ?_)
  ·rw [f];exact h
  ·rw [f];exact h
theorem jlL {c:List T} (b:j21 c=true) (i:Nat):j21 (c.eraseIdx i)=true:=by
 rw [j0d] at b ⊢
 obtain ⟨h,d,f⟩:=b
 refine ⟨?_,λx g=>d x (List.mem_of_mem_eraseIdx g),f.sublist (List.eraseIdx_sublist _ _)⟩
 rw [List.length_eraseIdx]
 split<;>omega
theorem jnk {d:D} (b:j0V d=true):d.1=1\/d.1=2\/3<=d.1:=by
 obtain ⟨_,h⟩:=j7P b
 rcases h with ⟨n,cs,ks,rfl,_⟩ | ⟨n,rfl⟩ | ⟨n,c,rfl,g⟩ | ⟨n,m,rfl,f⟩ | ⟨n,m,p,rfl,f,i⟩<;>simp
theorem jkY {c:List T} {d:D} (k:j21 c=true) (j:j0V d=true) (h:j0b c d=0):j21 (j0W c d)=true:=by
 have l:=(j0d c).1 k
 unfold j0b at h
 unfold j0W
 rcases jnk j with f | f | f
 ·rw [f] at h ⊢
  rw [show ((1:Int)==1)=true from rfl,cond_true] at h ⊢
  cases g:decide (j04 c d.2.1<0)<;>rw [g] at h
  ·cases h
  ·cases b:c.length==6<;>rw [b] at h
   ·have p:c.length≠6:=by simpa using b
    have n:j03 (d.2.1,d.2.2.1,d.2.2.2.1)=true:=by
     unfold j0V at j
     rw [f] at j
     simp only [Bool.and_eq_true,beq_self_eq_true,cond_true] at j
     exact j.2.2.2
    exact jlH k n (of_decide_eq_true g) (by omega)
   ·cases h
 ·rw [f] at h ⊢
  rw [show ((2:Int)==1)=false from rfl,show ((2:Int)==2)=true from rfl,cond_false,cond_true]
  exact jlL k _
 ·rw [show (d.1==1)=false by simp;omega,cond_false] at h
  rw [show (d.1==1)=false by simp;omega,show (d.1==2)=false by simp;omega,cond_false,cond_false]
  cases g:decide (j04 c d.2.1<0)<;>rw [g] at h
  ·rcases j0x c d.2.1 with ⟨b,_⟩ | ⟨i,m,b,p⟩
   ·rw [b] at g;cases g
   ·rw [cond_false] at h
    rw [b,Zay _ _ _ m] at h
    rw [b,Zay _ _ _ m,Int.toNat_natCast]
    exact joY k m (jpI (l.2.1 _ (List.getElem_mem _)) j f h) (jhk _ _)
  ·cases h
def jet (t:T) (d:D) (l:List (List V)):List (List V):=
 bif d.1==3 then l.map (λr=>r++[(nth zC d.2.2.1 0).2.2.2.2]) else bif d.1==4 then l.map (λr=>r.eraseIdx (j02 t.2.1 d.2.2.2.2.1).toNat) else l
def jhY (d:DB) (x:D):List (List (List V)):=
 bif x.1==1 then d.2.take (j04 (j0W d.1 x) x.2.1).toNat++[]::d.2.drop (j04 (j0W d.1 x) x.2.1).toNat
 else bif x.1==2 then d.2.eraseIdx (j04 d.1 x.2.1).toNat
 else d.2.set (j04 d.1 x.2.1).toNat (jet (nth zT d.1 (j04 d.1 x.2.1)) x (nth [] d.2 (j04 d.1 x.2.1)))
abbrev zDB:DB:=([],[])
def j1S (d:DB) (s:ST):DB×Int:=
 bif decide (j04 d.1 s.2.1<0)&& !((s.1==5)&&(s.2.2.2.2.1==1)) then (zDB,4)
 else bif s.1==5 then (bif j0b d.1 s.2.2.2.2 != 0 then (zDB,10+j0b d.1 s.2.2.2.2) else ((j0W d.1 s.2.2.2.2,jhY d s.2.2.2.2),0))
 else bif (j2q (nth zT d.1 (j04 d.1 s.2.1)) (nth [] d.2 (j04 d.1 s.2.1)) s).2 != 0 then (zDB,10+(j2q (nth zT d.1 (j04 d.1 s.2.1)) (nth [] d.2 (j04 d.1 s.2.1)) s).2)
 else ((d.1,d.2.set (j04 d.1 s.2.1).toNat (j2q (nth zT d.1 (j04 d.1 s.2.1)) (nth [] d.2 (j04 d.1 s.2.1)) s).1),0)
theorem jrt {t:T} (ht:j03 t=true) {d:D} (j:j0V d=true) (k:3<=d.1) (f:j0r t d=0) {l:List (List V)} (w:j08 t l=true):j08 (j9N t d) (jet t d l)=true:=by
 have g:=jpI ht j k f
 obtain ⟨_,h⟩:=j7P j
 rcases h with ⟨n,cs,ks,rfl,_⟩ | ⟨n,rfl⟩ | ⟨n,c,rfl,A⟩ | ⟨n,m,rfl,B⟩ | ⟨n,m,p,rfl,B,E⟩
 ·simp at k
 ·simp at k
 ·have q:(c.2.2.2.1|| !c.2.2.1)=true:=by
   unfold j0V at j
   rw [Bool.and_eq_true] at j
   have:=j.2
   simp only [show ((3:Int)==1)=false from rfl,show ((3:Int)==2)=false from rfl,show ((3:Int)==3)=true from rfl,cond_false,cond_true,Bool.and_eq_true] at this
   exact this.2.2.1
  show j08 (jiD t c) (l.map λr=>r++[c.2.2.2.2])=true
  exact jhF _ w g (λr b=>jrq b (jqK A q)) (λr b=>jqw ht ((j95 _ _).1 b).1 _)
 ·change (bif decide (j02 t.2.1 m<0) then (7:Int) else bif t.2.2.any (λx=>sEq x m) then 8 else 0)=0 at f
  show j08 (jg1 t m) (l.map λr=>r.eraseIdx (j02 t.2.1 m).toNat)=true
  cases i:decide (j02 t.2.1 m<0)<;>rw [i] at f
  ·cases y:t.2.2.any λx=>sEq x m<;>rw [y] at f
   ·have C:=of_decide_eq_false i
    have z:j02 t.2.1 m=(((j02 t.2.1 m).toNat:Nat):Int):=by omega
    refine jhF _ w g (λr b=> ?_) (λr b=>jqY ht z y ((j95 _ _).1 b).1)
    rw [(jln ht z).2]
    exact jrD b _
   ·cases f
  ·cases f
 ·change (bif !decide (j02 t.2.1 p<0) then (5:Int) else bif decide (j02 t.2.1 m<0) then 7 else 0)=0 at f
  show j08 (jdV t m p) l=true
  cases i:decide (j02 t.2.1 p<0)<;>rw [i] at f
  ·cases f
  ·have:=jhF (t':=jdV t m p) id w g (λr b=>jqU b m p) (λr b=>jq5 ht (of_decide_eq_true i) r)
   rw [List.map_id] at this
   exact this
theorem joO {c:List T} {l:List (List (List V))} (h:dbB (c,l)=true) {i:Nat} (n:i<c.length) {t:T} (p:t.1=c[i].1) {r:List (List V)} (m:j08 t r=true):dbB (c.set i t,l.set i r)=true:=by
 rw [j1E] at h ⊢
 obtain ⟨d,f,g⟩:=h
 dsimp only at d f g ⊢
 refine ⟨joY d n ((j61 _ _).1 m).1 p,by rw [List.length_set,List.length_set];exact f,λj k b=> ?_⟩
 rw [List.getElem_set,List.getElem_set]
 split
 ·exact m
 ·rw [List.length_set] at k b
  exact g j k b
theorem jpM {c:List T} {l:List (List (List V))} (h:dbB (c,l)=true) (i:Nat):dbB (c.eraseIdx i,l.eraseIdx i)=true:=by
 rw [j1E] at h ⊢
 obtain ⟨d,f,b⟩:=h
 dsimp only at d f b ⊢
 refine ⟨jlL d i,by rw [List.length_eraseIdx,List.length_eraseIdx,f],λj k g=> ?_⟩
 rw [List.getElem_eraseIdx,List.getElem_eraseIdx]
 split
 ·exact b _ _ _
 ·exact b _ _ _
theorem jqO (c:List T) (t:T):∃ i,i<=c.length/\lay tR t c=c.take i++t::c.drop i:=by
 refine ⟨(c.takeWhile λy=> !tR t y).length,?_,?_⟩
 ·have:=congrArg List.length (List.takeWhile_append_dropWhile (p:=λy=> !tR t y) (l:=c))
  rw [List.length_append] at this
  omega
 ·have d:=List.takeWhile_append_dropWhile (p:=λy=> !tR t y) (l:=c)
  unfold lay
  generalize c.takeWhile (λy=> !tR t y)=a at d ⊢
  generalize c.dropWhile (λy=> !tR t y)=b at d ⊢
  rw [<-d]
  simp
theorem jnH {c:List T} (h:j21 c=true) {t:T} (ht:j03 t=true) (k:j04 c t.1<0) (g:c.length<6):∃ i:Nat,i<=c.length/\j04 (lay tR t c) t.1=(i:Int)/\lay tR t c=c.take i++t::c.drop i:=by
 obtain ⟨i,f,d⟩:=jqO c t
 refine ⟨i,f,?_,d⟩
 have l:=((j0d _).1 (jlH h ht k g)).2.2
 have b:i<(lay tR t c).length:=by rw [jl7];omega
 have j:(lay tR t c)[i]=t:=by
  simp only [d]
  rw [List.getElem_append_right (by rw [List.length_take];omega)]
  simp [List.length_take,Nat.min_eq_left f]
 have:=je7 l b
 rw [j] at this
 exact this
theorem joP {α:Type} (l:List α) {i:Nat} (g:i<=l.length) (x:α) (j:Nat) (f:j<(l.take i++x::l.drop i).length):(l.take i++x::l.drop i)[j]=if h:j<i then l[j] else if b:j=i then x else l[j-1]'(by simp at f;omega):=by
 have d:(l.take i).length=i:=by rw [List.length_take];omega
 by_cases h:j<i
 ·rw [dif_pos h,List.getElem_append_left (by omega),List.getElem_take]
 ·rw [dif_neg h]
  by_cases b:j=i
  ·subst b
   rw [dif_pos rfl,List.getElem_append_right (by omega)]
   simp [d]
  ·rw [dif_neg b]
   obtain ⟨m,rfl⟩:∃ m,j=i+1+m:=⟨j-i-1,by omega⟩
   rw [List.getElem_append_right (by omega)]
   simp only [d,show i+1+m-i=m+1 by omega,List.getElem_cons_succ,List.getElem_drop]
   congr 1
   omega
theorem jrw {c:List T} {l:List (List (List V))} (h:dbB (c,l)=true) {i:Nat} (q:i<=c.length) {t:T} (ht:j03 t=true) (p:j21 (c.take i++t::c.drop i)=true):dbB (c.take i++t::c.drop i,l.take i++[]::l.drop i)=true:=by
 rw [j1E] at h ⊢
 obtain ⟨m,n,f⟩:=h
 dsimp only at m n f ⊢
 refine ⟨p,by simp only [List.length_append,List.length_cons,List.length_take,List.length_drop];omega,λj k g=> ?_⟩
 rw [joP c q t j k,joP l (by omega) [] j g]
 have r:j<c.length+1:=by
  simp only [List.length_append,List.length_cons,List.length_take,List.length_drop] at k
  omega
 by_cases b:j<i
 ·rw [dif_pos b,dif_pos b];exact f j (by omega) (by omega)
 ·rw [dif_neg b,dif_neg b]
  by_cases d:j=i
  ·rw [dif_pos d,dif_pos d];exact jlY ht
  ·rw [dif_neg d,dif_neg d];exact f (j-1) (by omega) (by omega)
theorem jfN:dbB zDB=true:=(j1E _).2 ⟨(j0d _).2 ⟨by simp,by simp,List.Pairwise.nil⟩,rfl,λi b=>by simp at b⟩
theorem jrz {d:DB} (h:dbB d=true) {s:ST} (I:stB s=true) (g:(j1S d s).2=0):dbB (j1S d s).1=true:=by
 obtain ⟨c,l⟩:=d
 have A:=(j1E _).1 h
 obtain ⟨p,E,B⟩:=A
 dsimp only at p E B
 unfold j1S at g ⊢
 dsimp only at g ⊢
 cases D:decide (j04 c s.2.1<0)&& !((s.1==5)&&(s.2.2.2.2.1==1))<;>rw [D] at g
 ·rw [cond_false] at g ⊢
  cases y:s.1==5<;>rw [y] at g
  ·rw [cond_false] at g ⊢
   rw [y,Bool.false_and,Bool.not_false,Bool.and_true,decide_eq_false_iff_not] at D
   rcases j0x c s.2.1 with ⟨e,_⟩ | ⟨i,k,e,C⟩
   ·omega
   rw [e,Zay _ _ _ k,Zay _ _ _ (by omega),Int.toNat_natCast] at g ⊢
   cases b:(j2q c[i] (l[i]'(by omega)) s).2 != 0<;>rw [b] at g
   ·rw [cond_false]
    have H:=jr5 (t:=c[i]) (l:=l[i]'(by omega)) (s:=s) (((j0d _).1 p).2.1 _ (List.getElem_mem _)) (by simpa using b)
    have:=joO h k (t:=c[i]) rfl H
    rw [List.set_getElem_self] at this
    exact this
   ·exact jfN
  ·rw [cond_true] at g ⊢
   cases b:j0b c s.2.2.2.2 != 0<;>rw [b] at g
   ·rw [cond_false]
    have b:j0b c s.2.2.2.2=0:=by simpa using b
    have f:j0V s.2.2.2.2=true:=by
     obtain ⟨_,h⟩:=jqe I
     rcases h with ⟨t,r,rfl,_⟩ | ⟨t,q,r,rfl,_⟩ | ⟨t,q,rfl,_⟩ | ⟨t,rfl⟩ | ⟨d,rfl,A⟩
     ·cases y
     ·cases y
     ·cases y
     ·cases y
     ·exact A
    have j:=jkY p f b
    generalize s.2.2.2.2=x at b f j ⊢
    unfold jhY
    dsimp only
    rcases jnk f with m | m | m
    ·rw [m,show ((1:Int)==1)=true from rfl,cond_true]
     unfold j0b at b
     unfold j0W at j ⊢
     rw [m,show ((1:Int)==1)=true from rfl,cond_true] at b j ⊢
     cases w:decide (j04 c x.2.1<0)<;>rw [w] at b
     ·cases b
     ·cases n:c.length==6<;>rw [n] at b
      ·have G:c.length≠6:=by simpa using n
       have z:j03 (x.2.1,x.2.2.1,x.2.2.2.1)=true:=by
        unfold j0V at f
        rw [m] at f
        simp only [Bool.and_eq_true,beq_self_eq_true,cond_true] at f
        exact f.2.2.2
       have J:=((j0d _).1 p).1
       obtain ⟨i,k,F,C⟩:=jnH p z (of_decide_eq_true w) (by omega)
       rw [F,Int.toNat_natCast]
       rw [C] at j ⊢
       exact jrw h k z j
      ·cases b
    ·rw [m,show ((2:Int)==1)=false from rfl,show ((2:Int)==2)=true from rfl,cond_false,cond_true]
     unfold j0W
     rw [m,show ((2:Int)==1)=false from rfl,show ((2:Int)==2)=true from rfl,cond_false,cond_true]
     exact jpM h _
    ·rw [show (x.1==1)=false by simp;omega,show (x.1==2)=false by simp;omega,cond_false,cond_false]
     unfold j0b at b
     rw [show (x.1==1)=false by simp;omega,cond_false] at b
     unfold j0W
     rw [show (x.1==1)=false by simp;omega,show (x.1==2)=false by simp;omega,cond_false,cond_false]
     cases w:decide (j04 c x.2.1<0)<;>rw [w] at b
     ·rcases j0x c x.2.1 with ⟨n,_⟩ | ⟨i,k,n,G⟩
      ·rw [n] at w;cases w
      ·rw [cond_false,n,Zay _ _ _ k] at b
       rw [n,Zay _ _ _ k,Zay _ _ _ (by omega),Int.toNat_natCast]
       exact joO h k (jhk _ _) (jrt (((j0d _).1 p).2.1 _ (List.getElem_mem _)) f m b (B i k (by omega)))
     ·cases b
   ·exact jfN
 ·cases g
end
end Go.PI.G
namespace Go.PI.G
noncomputable section
open Go Go.PI
def j85 (i:Nat) (d:DB) (s:ST):Except (Int×Int) DB:=bif !stB s then .error (1,(i:Int)) else bif (j1S d s).2 != 0 then .error ((j1S d s).2,(i:Int)) else .ok (j1S d s).1
def j0B (d:DB) (l:List ST):DB×Int×Int:=bif !dbB d then (([],[]),1,0) else match Z1S j85 0 l d with | .ok b=>(b,0,0) | .error e=>(([],[]),e.1,e.2)
theorem jjy {i:Nat} {d j:DB} {s:ST} (h:dbB d=true) (b:j85 i d s= .ok j):dbB j=true:=by
 unfold j85 at b
 cases f:stB s
 ·rw [f] at b;cases b
 ·rw [f,Bool.not_true,cond_false] at b
  cases g:((j1S d s).2 != 0)
  ·rw [g,cond_false] at b
   cases b
   exact jrz h f (by simpa using g)
  ·rw [g,cond_true] at b;cases b
theorem jor {d:DB} {l:List ST} (h:(j0B d l).2.1=0):dbB (j0B d l).1=true:=by
 unfold j0B at h ⊢
 cases g:dbB d
 ·rw [g] at h;cases h
 rw [g,Bool.not_true,cond_false] at h
 rw [Bool.not_true,cond_false]
 cases k:Z1S j85 0 l d with
 | ok q=>exact Z91 (λ_ a=>dbB a=true) l 0 d q g (λj x a p _ r b=>jjy r b) k
 | error e=>
  rw [k] at h
  exfalso
  have h:e.1=0:=h
  have m:∀ (l:List ST) (i:Nat) (a:DB) (e:Int×Int),Z1S j85 i l a= .error e->e.1≠0:=by
   intro l
   induction l with
   | nil=>intro i a e h;simp [Z1S] at h
   | cons x l y=>
    intro i a e h
    simp only [Z1S] at h
    cases b:j85 i a x with
    | ok p=>rw [b] at h;exact y _ _ _ h
    | error z=>
     rw [b] at h
     cases h
     unfold j85 at b
     cases n:stB x
     ·rw [n] at b;cases b;exact λw=>absurd (show (1:Int)=0 from w) (by decide)
     ·rw [n,Bool.not_true,cond_false] at b
      cases f:((j1S a x).2 != 0)
      ·rw [f] at b;cases b
      ·rw [f] at b
       cases b
       simpa using f
  exact m l 0 d e k h
abbrev RC:=Int×Int×ST
abbrev yRC:Ty:= .pair (.int .i64) (.pair (.int .i64) yST)
def jiM (s:ST):Bool:=(s.1==0)&&(sEq s.2.1 eS&&((s.2.2.1.length==0)&&((s.2.2.2.1.length==0)&&noD s.2.2.2.2)))
theorem jqW (s:ST):jiM s=true↔s=zST:=by
 obtain ⟨a,b,c,e,d⟩:=s
 unfold jiM
 simp only [Bool.and_eq_true,beq_iff_eq,j0a,Prod.mk.injEq,List.length_eq_zero_iff,jfi]
def jbT (r:RC):Bool:=decide (1<=r.1/\r.1<=4)&&(decide (1<=r.2.1/\r.2.1<=1000000)&&(bif r.1==2 then stB r.2.2 else jiM r.2.2))
theorem jpl {r:RC} (h:jbT r=true):(1<=r.1/\r.1<=4)/\(1<=r.2.1/\r.2.1<=1000000)/\((r.1=2/\stB r.2.2=true)\/(r.1≠2/\r.2.2=zST)):=by
 unfold jbT at h
 rw [Bool.and_eq_true,Bool.and_eq_true,decide_eq_true_eq,decide_eq_true_eq] at h
 refine ⟨h.1,h.2.1,?_⟩
 have b:=h.2.2
 cases d:r.1==2
 ·rw [d,cond_false] at b
  exact .inr ⟨by simpa using d,(jqW _).1 b⟩
 ·rw [d,cond_true] at b
  exact .inl ⟨by simpa using d,b⟩
def j6j (l:List RC) (x:Int):Bool:=l.any λr=>(r.1==1)&&(r.2.1==x)
def j3t (l:List Int) (n:Int):Bool:=l.any λx=>x==n
def j8N (o:List Int) (r:RC):List Int:=
 bif r.1==1 then (bif j3t o r.2.1 then o else o++[r.2.1]) else bif (r.1==3)||(r.1==4) then o.filter (λy=> !(y==r.2.1)) else o
def j1v (l:List RC):List Int:=l.foldl j8N []
def j7c (l:List RC):List Int:=(l.filter λr=>r.1==1).map λr=>r.2.1
def jhV (x:Int) (_:Int) (r:RC):List ST:=bif (r.1==2)&&(r.2.1==x) then [r.2.2] else []
def j33 (l:List RC) (x:Int):List ST:=Z4r (jhV x) 0 l
def jct (p:List RC) (d:DB) (r:RC):Except Unit DB:=
 bif !jbT r then .error () else
 bif r.1==1 then (bif j6j p r.2.1 then .error () else .ok d) else
 bif !j3t (j1v p) r.2.1 then .error () else
 bif r.1==3 then (bif (j0B d (j33 p r.2.1)).2.1 != 0 then .error () else .ok (j0B d (j33 p r.2.1)).1) else .ok d
def jg2 (d:DB) (l:List RC):Except Unit DB:=Z1S (λi d r=>jct (l.take i) d r) 0 l d
def jrY {A E:Type} (r:Except E A):Bool:=match r with
 | .ok _=>true
 | .error _=>false
def ja6 (l:List RC):Bool:=decide (l.length<=400)&&jrY (jg2 zDB l)
theorem jnM {p:List RC} {d f:DB} {r:RC} (i:dbB d=true) (h:jct p d r= .ok f):dbB f=true:=by
 unfold jct at h
 cases j:jbT r<;>rw [j] at h
 ·cases h
 rw [Bool.not_true,cond_false] at h
 cases k:r.1==1<;>rw [k] at h
 ·rw [cond_false] at h
  cases b:j3t (j1v p) r.2.1<;>rw [b] at h
  ·cases h
  rw [Bool.not_true,cond_false] at h
  cases l:r.1==3<;>rw [l] at h
  ·cases h;exact i
  ·rw [cond_true] at h
   cases g:(j0B d (j33 p r.2.1)).2.1 != 0<;>rw [g] at h
   ·cases h;exact jor (by simpa using g)
   ·cases h
 ·rw [cond_true] at h
  cases b:j6j p r.2.1<;>rw [b] at h
  ·cases h;exact i
  ·cases h
theorem jkd (l:List RC) (r:RC):j1v (l++[r])=j8N (j1v l) r:=by
 unfold j1v
 rw [List.foldl_append]
 rfl
theorem jpC (l:List RC) (r:RC) (x:Int):j6j (l++[r]) x=(j6j l x||((r.1==1)&&(r.2.1==x))):=by
 unfold j6j
 rw [List.any_append]
 simp
theorem jpB (l:List RC) (r:RC):j7c (l++[r])=bif r.1==1 then j7c l++[r.2.1] else j7c l:=by
 unfold j7c
 rw [List.filter_append,List.map_append]
 cases h:r.1==1
 ·rw [List.filter_cons_of_neg (by rw [h];simp),List.filter_nil,List.map_nil,List.append_nil,cond_false]
 ·rw [List.filter_cons_of_pos (p:=λr:RC=>r.1==1) h,List.filter_nil,cond_true]
  rfl
theorem jqp (l:List RC) (x:Int):j3t (j7c l) x=j6j l x:=by
 unfold j3t j7c j6j
 rw [List.any_map,List.any_filter]
 rfl
theorem jqq (l:List RC):(j7c l).length<=l.length:=by
 unfold j7c
 rw [List.length_map]
 exact List.length_filter_le _ _
theorem jqM (a:List Int) (y x:Int):j3t (a++[y]) x=(j3t a x||(y==x)):=by
 unfold j3t
 rw [List.any_append]
 simp
theorem jq7 (x:Int):(n:Nat)->(l:List RC)->l.length=n->j3t (j1v l) x=true->j6j l x=true:=by
 intro n
 induction n with
 | zero=>
  intro l f h
  have:l=[]:=List.length_eq_zero_iff.1 f
  subst this
  exact absurd h (by unfold j1v j3t;simp)
 | succ n i=>
  intro l f h
  have d:l≠[]:=λe=>by rw [e] at f;simp at f
  have e:l=l.dropLast++[l.getLast d]:=(List.dropLast_concat_getLast d).symm
  generalize p:l.dropLast=m at e
  generalize l.getLast d=r at e
  have b:m.length=n:=by rw [<-p,List.length_dropLast];omega
  subst e
  rw [jkd] at h
  rw [jpC,Bool.or_eq_true]
  unfold j8N at h
  cases k:r.1==1<;>rw [k] at h
  ·rw [cond_false] at h
   refine .inl (i m b ?_)
   cases g:(r.1==3)||(r.1==4)<;>rw [g] at h
   ·exact h
   ·rw [cond_true] at h
    unfold j3t at h ⊢
    rw [List.any_filter] at h
    obtain ⟨y,q,j⟩:=List.any_eq_true.1 h
    exact List.any_eq_true.2 ⟨y,q,(by rw [Bool.and_eq_true] at j;exact j.2)⟩
  ·rw [cond_true] at h
   cases g:j3t (j1v m) r.2.1<;>rw [g] at h
   ·rw [cond_false,jqM,Bool.or_eq_true] at h
    rcases h with h | h
    ·exact .inl (i m b h)
    ·exact .inr (by rw [h];rfl)
   ·exact .inl (i m b h)
theorem jpk {l:List RC} {x:Int} (h:j6j l x=false):j3t (j1v l) x=false:=by
 cases b:j3t (j1v l) x
 ·rfl
 ·rw [jq7 x _ l rfl b] at h;cases h
theorem jlR (o:List Int) (r:RC):(j8N o r).length<=o.length+1:=by
 unfold j8N
 cases r.1==1
 ·cases (r.1==3)||(r.1==4)
  ·exact Nat.le_succ _
  ·exact Nat.le_succ_of_le (List.length_filter_le _ _)
 ·cases j3t o r.2.1
  ·show (o++[r.2.1]).length<=_;simp
  ·exact Nat.le_succ _
theorem jfd:(l:List RC)->(o:List Int)->(l.foldl j8N o).length<=o.length+l.length
 | [],o=>Nat.le_refl _
 | r::l,o=>by
  have b:=jfd l (j8N o r)
  have d:=jlR o r
  rw [List.foldl_cons,List.length_cons]
  omega
theorem jlS (l:List RC):(j1v l).length<=l.length:=by
 have:=jfd l []
 simpa [j1v] using this
theorem jjz (x i:Int) (r:RC):(jhV x i r).length<=1:=by
 unfold jhV
 cases (r.1==2)&&(r.2.1==x)
 ·exact Nat.zero_le _
 ·exact Nat.le_refl _
theorem jkz (l:List RC) (x:Int):(j33 l x).length<=l.length:=Z94 _ (jjz x) 0 l
theorem jlD {α β:Type} {g:Int->α->List β} {P:β->Prop}:(j:Nat)->(l:List α)->(h:∀ i,∀ x∈l,∀ y∈g i x,P y)->∀ y∈Z4r g j l,P y
 | _,[],h,y,b=>by cases b
 | j,x::l,h,y,b=>by
  rcases List.mem_append.1 b with b | b
  ·exact h _ x (by simp) y b
  ·exact jlD (j+1) l (λi x d=>h i x (List.mem_cons_of_mem _ d)) y b
theorem jpz {l:List RC} {x:Int} {s:ST} (f:s∈j33 l x):∃ r∈l,s=r.2.2:=
 jlD (P:=λs=>∃ r∈l,s=r.2.2) 0 l (λi r d y b=>by
  unfold jhV at b
  cases h:(r.1==2)&&(r.2.1==x)<;>rw [h] at b
  ·cases b
  ·exact ⟨r,d,by simpa using b⟩) s f
def jiG (i:Int) (r:RC):List Int:=bif r.1==3 then [i+1] else []
def j3r (l:List RC):List Int:=bif ja6 l then Z4r jiG 0 l else []
def jgb (b:Int) (_:Int) (c:Int):List Int:=bif decide (c>b) then [c] else []
def jdi (l:List RC) (b:Int):List Int:=Z4r (jgb b) 0 (j3r l)
def j7O (l:List RC) (b:Int):Int:=bif !ja6 l then -1 else nI (jdi l b).length
theorem jiH (i:Int) (r:RC):(jiG i r).length<=1:=by
 unfold jiG
 cases r.1==3
 ·exact Nat.zero_le _
 ·exact Nat.le_refl _
theorem jm5 (a i c:Int):(jgb a i c).length<=1:=by
 unfold jgb
 cases decide (c>a)
 ·exact Nat.zero_le _
 ·exact Nat.le_refl _
theorem jhm (l:List RC):(j3r l).length<=l.length:=by
 unfold j3r
 cases ja6 l
 ·exact Nat.zero_le _
 ·exact Z94 _ jiH 0 l
end
end Go.PI.G
set_option linter.unusedSimpArgs false
namespace Go.PI.G
open Go Go.PI Go.Proofs
theorem joG (s:ST) (k:Bool->Res):j5Z s k=k (jiM s):=by
 unfold j5Z jiM
 rw [j3k,j3k,jkx]
 cases s.1==0
 ·rfl
 ·cases sEq s.2.1 eS
  ·rfl
  ·cases s.2.2.1.length==0
   ·rfl
   ·cases s.2.2.2.1.length==0<;>rfl
theorem jox (s:ST) (k:Bool->Res):j6v s k=k (jiM s):=by
 unfold j6v jiM
 rw [j3k,j3k,jjQ]
 cases s.1==0
 ·rfl
 ·cases sEq s.2.1 eS
  ·rfl
  ·cases s.2.2.1.length==0
   ·rfl
   ·cases s.2.2.2.1.length==0<;>rfl
theorem jpx (r:RC) (h:j10 r.2.2) (k:Bool->Res):j83 r k=k (jbT r):=by
 unfold j83 j8S jbT
 by_cases d:1<=r.1/\r.1<=4
 ·rw [decide_eq_false (show ¬ r.1<1 by omega),cond_false,decide_eq_false (show ¬ r.1>4 by omega),cond_false,decide_eq_true d,Bool.true_and]
  by_cases f:1<=r.2.1/\r.2.1<=1000000
  ·rw [decide_eq_false (show ¬ r.2.1<1 by omega),cond_false,decide_eq_false (show ¬ r.2.1>1000000 by omega),decide_eq_true f,Bool.true_and]
   dsimp only
   rw [cond_false,jhS _ h,joG]
   cases r.1==2<;>rfl
  ·rw [decide_eq_false f]
   by_cases b:r.2.1<1
   ·rw [decide_eq_true b];rfl
   ·rw [decide_eq_false b,decide_eq_true (show r.2.1>1000000 by omega)];rfl
 ·rw [decide_eq_false d]
  by_cases b:r.1<1
  ·rw [decide_eq_true b];rfl
  ·rw [decide_eq_false b,decide_eq_true (show r.1>4 by omega)];rfl
theorem jpc (r:RC) (h:j10 r.2.2) (k:Bool->Res):j7S r k=k (jbT r):=by
 unfold j7S jbT
 rw [j1R,j1R]
 cases decide (1<=r.1/\r.1<=4)
 ·rfl
 ·cases decide (1<=r.2.1/\r.2.1<=1000000)
  ·rfl
  ·rw [Bool.not_true,cond_false,cond_false,jlM _ h,jox]
   cases r.1==2<;>rfl
end Go.PI.G
namespace Go.PI.G
open Go Go.PI Go.Proofs
theorem joF (a b:V) (k:Bool->Res):j7D a b k=k (vlt a b):=by
 unfold j7D vlt
 rw [j80,j80]
 cases j0o a
 ·rfl
 ·cases j0o b
  ·rfl
  ·rw [Bool.not_true,cond_false,cond_false,Bool.true_and,Bool.true_and]
   cases a.1 != b.1
   ·rw [cond_false,cond_false]
    by_cases h:a.2.1=b.2.1
    ·rw [h,ZaO,cond_false,decide_eq_false (by omega),cond_false,beq_self_eq_true,cond_true]
    ·have d:(a.2.1 != b.2.1)=true:=by simp [h]
     have f:(a.2.1==b.2.1)=false:=by simp [h]
     rw [d,f,cond_true,cond_false]
     cases decide (a.2.1<b.2.1)<;>rfl
   ·rfl
theorem jow (a b:V) (k:Bool->Res):j7l a b k=k (vlt a b):=by
 unfold j7l vlt
 rw [j7Q,j7Q]
 cases j0o a
 ·rfl
 ·cases j0o b
  ·rfl
  ·rw [Bool.not_true,cond_false,cond_false,Bool.true_and,Bool.true_and]
   cases a.1 != b.1
   ·rw [cond_false,cond_false]
    cases a.2.1 != b.2.1<;>rfl
   ·rfl
end Go.PI.G
namespace Go.PI.G
open Go Go.PI Go.Proofs
theorem jlC {α V K:Type} (l:List α) (j:Int->V) (b:Nat->α->Bool) (p:Nat->Prop) {step:V->(V->Res)->K->Res} (q:K) (d k:Res) (r:l.length<=LIM) (n:p 0)
  (z:∀ (i:Nat),(g:i<l.length)->p i->b i l[i]=false->p (i+1))
  (A:∀ (i:Nat) rec,(g:i<l.length)->p i->step (j i) rec q=bif b i l[i] then k else rec (j ((i:Int)+1))) (y:∀ rec,step (j (l.length:Int)) rec q=d) :
  Z1f step Z1c (j 0) q=bif Z71 b 0 l then k else d:=by
 have h:=Z3Z l (λi (_:Unit)=>j i) (λi _ x=>if b i x then .error () else (.ok ():Except Unit Unit)) (λi _=>p i) q (λ_=>d) (λ_=>k) () r n (λi a C g f m=>by
   refine z i g f ?_
   cases w:b i l[i] with
   | false=>rfl
   | true=>rw [w] at m;cases m)
  (λi a rec g f=>by
   rw [A i rec g f]
   cases b i l[i]<;>rfl) (λa rec _=>y rec)
 rw [h]
 have:∀ (l:List α) (i:Nat),Z1S (λi _ x=>if b i x then .error () else (.ok ():Except Unit Unit)) i l ()=bif Z71 b i l then .error () else .ok ():=by
  intro l
  induction l with
  | nil=>intro i;rfl
  | cons x l B=>
   intro i
   simp only [Z1S,Z71]
   cases b i x with
   | true=>rfl
   | false=>exact B _
 rw [this]
 cases Z71 b 0 l<;>rfl
theorem jiq (c:C) (f:j0U c=true) (v:V) (k:Bool->Res):j3W c v k=k (j3s c v):=by
 have g:=jru f
 unfold j3W j3s
 rw [j80,j80]
 cases b:v.1==0
 ·cases j0o v
  ·rfl
  ·rw [cond_false,cond_true,Bool.false_and,Bool.or_false,Bool.true_and]
 ·have d:(v.1==c.2.1)=false:=by
   rw [beq_iff_eq] at b
   simp;omega
  rw [d,Bool.true_and,Bool.false_or]
  cases j0o v<;>rfl
theorem jov (c:C) (v:V) (k:Bool->Res):jbx c v k=k (j3s c v):=by
 unfold jbx j3s
 rw [j7Q]
 cases j0o v
 ·rfl
 ·cases v.1==c.2.1
  ·cases v.1==0<;>rfl
  ·rfl
theorem jg8 (t:T) (h:msr yT t<=1048576) (r:List V) (k:Bool->Res):j2b t r k=k (j03 t&&j0n t.2.1 r):=by
 obtain ⟨g,j,l,m,p⟩:=j2p h
 unfold j2b
 rw [jcw t h]
 cases ht:j03 t
 ·rfl
 ·rw [Bool.not_true,cond_false,Bool.true_and]
  unfold j0n
  by_cases d:r.length=t.2.1.length
  ·have f:(nI r.length != nI t.2.1.length)=false:=by rw [d,ZaO]
   rw [f,cond_false,decide_eq_true d,Bool.true_and]
   unfold jc6
   have:=Z9P t.2.1 (λi=>i) (λi c=> !j3s c (nth zV r (i:Int))) (step:=j76 t.2.1 (nI t.2.1.length) r) ((λ(_:Unit)=>k true),(λ(_:Unit)=>k false)) (k true) (k false) (by unfold LIM;omega) (λi rec b=>by
    show j4H _ _ r _ _ _ _=_
    unfold j4H
    rw [ZaQ b,cond_true,j00 b,cond_true,j00 (d ▸ b),cond_true,Zay _ _ _ b,jiq _ (jlG (j1C ht).2.2.2.2.1 i b),j01 (n:=(i:Int)+1) (by omega)]) (λrec=>by
    show j4H _ _ r _ _ _ _=_
    unfold j4H
    rw [ZaP,cond_false])
   refine this.trans ?_
   cases Z71 (λi c=> !j3s c (nth zV r (i:Int))) 0 t.2.1<;>rfl
  ·have f:(nI r.length != nI t.2.1.length)=true:=by unfold nI;simp;omega
   rw [f,cond_true,decide_eq_false d,Bool.false_and]
theorem jfR (t:T) (h:msr yT t<=1048576) (r:List V) (k:Bool->Res):j36 t r k=k (j0n t.2.1 r):=by
 obtain ⟨g,j,l,m,p⟩:=j2p h
 unfold j36 j0n
 by_cases b:r.length=t.2.1.length
 ·have d:(nI r.length != nI t.2.1.length)=false:=by rw [b,ZaO]
  rw [d,cond_false,decide_eq_true b,Bool.true_and]
  unfold jgB
  have:=Z9P t.2.1 (λi=>i) (λi c=> !j3s c (nth zV r (i:Int))) (step:=j9X r (nI r.length) t) ((λ(_:Unit)=>k true),(λ(_:Unit)=>k false)) (k true) (k false) (by unfold LIM;omega) (λi rec f=>by
   show j4w _ _ t _ _ _ _=_
   unfold j4w
   rw [b,ZaQ f,cond_true,j00 f,cond_true,cond_true,Zay zC _ _ f,jov,j01 (n:=(i:Int)+1) (by omega)]) (λrec=>by
   show j4w _ _ t _ _ _ _=_
   unfold j4w
   rw [b,ZaP,cond_false])
  refine this.trans ?_
  cases Z71 (λi c=> !j3s c (nth zV r (i:Int))) 0 t.2.1<;>rfl
 ·have d:(nI r.length != nI t.2.1.length)=true:=by unfold nI;simp;omega
  rw [d,cond_true,decide_eq_false b,Bool.false_and]
theorem j0t {l:List C} {r:List V} (h:j0n l r=true):r.length=l.length:=by
 unfold j0n at h
 rw [Bool.and_eq_true,decide_eq_true_eq] at h
 exact h.1
theorem j8Z {α β:Type} (f:α->β):(l:List α)->l.flatMap (λx=>[f x])=l.map f
 | []=>rfl
 | x::l=>by rw [List.flatMap_cons,j8Z f l];rfl
theorem j91 (t:T) (r:List V):(j05 t r).length=t.2.2.length:=by unfold j05;simp
theorem j6d (t:T) (h:msr yT t<=1048576) (ht:j03 t=true) (r:List V) (m:r.length=t.2.1.length) (k:List V->Res):j0v t r k=k (j05 t r):=by
 obtain ⟨p,q,w,y,z⟩:=j2p h
 unfold j0v jfz
 have g:=j18 t.2.2 (-1) (by omega) (j1C ht).2.2.2.2.2
 have:=Z9T t.2.2 (λi b=>(b,i)) (λn=>[nth zV r (j02 t.2.1 n)]) 1048576 [] (step:=j9d t.2.2 (nI t.2.2.length) t r) (λb=>k b) (λb=>k b) (by unfold LIM;omega) (λi d _=>by
  rw [j8Z,List.nil_append,List.length_map,List.length_take];omega) (by simp) (λi b rec d l _=>by
  show j3X _ _ t r _ _ _ _=_
  unfold j3X
  have f:=g _ (List.getElem_mem d)
  have j:b.length=i:=by
   rw [l,j8Z,List.nil_append,List.length_map,List.length_take];omega
  dsimp only
  rw [ZaQ d,cond_true,j00 d,cond_true,Zay _ _ _ d,j62 t _ (by unfold LIM;omega),ZaK f.1 (by omega),cond_true,ZaL (by unfold LIM;omega),cond_true,j01 (n:=(i:Int)+1) (by omega)]) (λb rec=>by
  show j3X _ _ t r _ _ _ _=_
  unfold j3X
  dsimp only
  rw [ZaP,cond_false])
 refine this.trans ?_
 rw [j8Z,List.nil_append]
 rfl
theorem jfv (a b:List V) (j:a.length<=LIM) (k:Bool->Res):j3Q a b k=k (klt a b):=by
 unfold j3Q je1
 unfold LIM at j
 have h:∀ (d i n:Nat),i+d=a.length->d<n->i<=b.length->Z1f (j8l a b) n (i:Int) ((λ(_:Unit)=>k (decide (nI a.length<nI b.length))),(λ(t:Bool)=>k t))=k (klt (a.drop i) (b.drop i)):=by
  intro d
  induction d with
  | zero=>
   intro i n p q l
   obtain ⟨n,rfl⟩:∃ m,n=m+1:=⟨n-1,by omega⟩
   have:i=a.length:=by omega
   subst this
   show j2P a b _ _ _ _=_
   unfold j2P
   rw [ZaP,cond_false,List.drop_length]
   show k (decide (nI a.length<nI b.length))=_
   by_cases g:a.length<b.length
   ·rw [List.drop_eq_getElem_cons g,decide_eq_true (show nI a.length<nI b.length by unfold nI;omega)]
    rfl
   ·rw [List.drop_of_length_le (by omega),decide_eq_false (show ¬ nI a.length<nI b.length by unfold nI;omega)]
    rfl
  | succ d r=>
   intro i n p q l
   obtain ⟨n,rfl⟩:∃ m,n=m+1:=⟨n-1,by omega⟩
   have f:i<a.length:=by omega
   show j2P a b _ _ _ _=_
   unfold j2P
   rw [ZaQ f,cond_true,List.drop_eq_getElem_cons f]
   by_cases g:i<b.length
   ·rw [ZaQ g,cond_true,j00 f,cond_true,j00 g,cond_true,List.drop_eq_getElem_cons g,Zay _ _ _ f,Zay _ _ _ g,cond_true,cond_true,joF,j01 (n:=(i:Int)+1) (by omega)]
    show (bif !veq a[i] b[i] then _ else _)=k (bif veq a[i] b[i] then _ else _)
    cases veq a[i] b[i]
    ·rfl
    ·exact r (i+1) n (by omega) (by omega) (by omega)
   ·have:i=b.length:=by omega
    subst this
    rw [ZaP,cond_false,List.drop_length]
    show k (decide (nI a.length<nI b.length))=_
    rw [decide_eq_false (show ¬ nI a.length<nI b.length by unfold nI;omega)]
    rfl
 exact h a.length 0 Z1c (by omega) (Z2b (by omega)) (by omega)
theorem j34 (t:T) (h:msr yT t<=1048576) (ht:j03 t=true) (r:List V) (m:r.length=t.2.1.length) (k:List V->Res):j0E t r k=k (j05 t r):=by
 obtain ⟨p,q,w,y,z⟩:=j2p h
 unfold j0E jgA
 have g:=j18 t.2.2 (-1) (by omega) (j1C ht).2.2.2.2.2
 have:=Z9T t.2.2 (λi b=>(b,i)) (λn=>[nth zV r (j02 t.2.1 n)]) 1048576 [] (step:=j9W t.2.2 (nI t.2.2.length) t r) (λb=>k b) (λb=>k b) (by unfold LIM;omega) (λi d _=>by
  rw [j8Z,List.nil_append,List.length_map,List.length_take];omega) (by simp) (λi b rec d l _=>by
  show j4v _ _ t r _ _ _ _=_
  unfold j4v
  have f:=g _ (List.getElem_mem d)
  have j:b.length=i:=by
   rw [l,j8Z,List.nil_append,List.length_map,List.length_take];omega
  dsimp only
  rw [ZaQ d,cond_true,j00 d,cond_true,Zay _ _ _ d,j7h t _ (by unfold LIM;omega),ZaK f.1 (by omega),cond_true,ZaL (by unfold LIM;omega),cond_true,j01 (n:=(i:Int)+1) (by omega)]) (λb rec=>by
  show j4v _ _ t r _ _ _ _=_
  unfold j4v
  dsimp only
  rw [ZaP,cond_false])
 refine this.trans ?_
 rw [j8Z,List.nil_append]
 rfl
theorem jaW (a b:List V) (j:a.length<=LIM) (k:Bool->Res):j3v a b k=k (klt a b):=by
 unfold j3v jdN
 unfold LIM at j
 have h:∀ (d i n:Nat),i+d=a.length->d<n->i<=b.length->Z1f (j8c a b) n (i:Int) ((λ(_:Unit)=>k (decide (nI a.length<nI b.length))),(λ(t:Bool)=>k t))=k (klt (a.drop i) (b.drop i)):=by
  intro d
  induction d with
  | zero=>
   intro i n p q l
   obtain ⟨n,rfl⟩:∃ m,n=m+1:=⟨n-1,by omega⟩
   have:i=a.length:=by omega
   subst this
   show j2B a b _ _ _ _=_
   unfold j2B
   rw [ZaP,cond_false,List.drop_length]
   show k (decide (nI a.length<nI b.length))=_
   by_cases g:a.length<b.length
   ·rw [List.drop_eq_getElem_cons g,decide_eq_true (show nI a.length<nI b.length by unfold nI;omega)]
    rfl
   ·rw [List.drop_of_length_le (by omega),decide_eq_false (show ¬ nI a.length<nI b.length by unfold nI;omega)]
    rfl
  | succ d r=>
   intro i n p q l
   obtain ⟨n,rfl⟩:∃ m,n=m+1:=⟨n-1,by omega⟩
   have f:i<a.length:=by omega
   show j2B a b _ _ _ _=_
   unfold j2B
   rw [ZaQ f,cond_true,List.drop_eq_getElem_cons f]
   by_cases g:i<b.length
   ·rw [ZaQ g,cond_true,j00 f,cond_true,j00 g,cond_true,List.drop_eq_getElem_cons g,Zay _ _ _ f,Zay _ _ _ g,cond_true,cond_true,jow,j01 (n:=(i:Int)+1) (by omega)]
    show (bif !veq a[i] b[i] then _ else _)=k (bif veq a[i] b[i] then _ else _)
    cases veq a[i] b[i]
    ·rfl
    ·exact r (i+1) n (by omega) (by omega) (by omega)
   ·have:i=b.length:=by omega
    subst this
    rw [ZaP,cond_false,List.drop_length]
    show k (decide (nI a.length<nI b.length))=_
    rw [decide_eq_false (show ¬ nI a.length<nI b.length by unfold nI;omega)]
    rfl
 exact h a.length 0 Z1c (by omega) (Z2b (by omega)) (by omega)
theorem j6K (t:T) (h:msr yT t<=1048576) (l:List (List V)) (k:Bool->Res):j0u t l k=k (j08 t l):=by
 obtain ⟨B,C,D,E,F⟩:=j2p h
 unfold j0u j08
 rw [jcw t h]
 cases ht:j03 t
 ·rfl
 ·rw [Bool.not_true,cond_false,Bool.true_and]
  by_cases q:l.length<=60
  ·rw [decide_eq_false (show ¬ nI l.length>60 by unfold nI;omega),cond_false,decide_eq_true q,Bool.true_and]
   unfold jbi
   have:=jlC l (λi=>i) (λi r=> !j0n t.2.1 r||(decide (0<i)&& !klt (j05 t (nth [] l ((i:Int)-1))) (j05 t r))) (λi=>∀ (j:Nat) (g:j<l.length),j<i->j0n t.2.1 l[j]=true) (step:=j3R l l (nI l.length) t) ((λ(_:Unit)=>k true),(λ(_:Unit)=>k false)) (k true) (k false) (by unfold LIM;omega) (λj _ g=>absurd g (by omega)) (λi f m w j g z=>by
    rw [Bool.or_eq_false_iff,Bool.not_eq_false'] at w
    by_cases d:j<i
    ·exact m j g d
    ·have:j=i:=by omega
     subst this
     exact w.1) (λi rec f m=>by
    show j25 l _ _ t _ _ _ _=_
    unfold j25
    rw [ZaQ f,cond_true,j00 f,cond_true,Zay _ _ _ f,jg8 t h]
    rw [ht,Bool.true_and]
    cases A:j0n t.2.1 l[i]
    ·rfl
    ·rw [Bool.not_true,cond_false,Bool.false_or,j01 (n:=(i:Int)+1) (by omega)]
     by_cases p:0<i
     ·have b:i-1<l.length:=by omega
      have y:((i:Int)-1)=((i-1:Nat):Int):=by omega
      rw [decide_eq_true (show (i:Int)>0 by omega),cond_true,decide_eq_true p,Bool.true_and,j01 (n:=(i:Int)-1) (by omega),y,j00 b,cond_true,Zay _ _ _ b,j6d t h ht _ (j0t (m _ b (by omega))),j6d t h ht _ (j0t A),jfv _ _ (by rw [j91];unfold LIM;omega)]
     ·rw [decide_eq_false (show ¬ (i:Int)>0 by omega),cond_false,decide_eq_false p,Bool.false_and,cond_false]) (λrec=>by
    show j25 l _ _ t _ _ _ _=_
    unfold j25
    rw [ZaP,cond_false])
   refine this.trans ?_
   cases Z71 (λi r=> !j0n t.2.1 r||(decide (0<i)&& !klt (j05 t (nth [] l ((i:Int)-1))) (j05 t r))) 0 l<;>rfl
  ·rw [decide_eq_true (show nI l.length>60 by unfold nI;omega),cond_true,decide_eq_false q,Bool.false_and]
theorem j8y (t:T) (h:msr yT t<=1048576) (l:List (List V)) (k:Bool->Res):j0I t l k=k (j08 t l):=by
 obtain ⟨B,C,D,E,F⟩:=j2p h
 unfold j0I j08
 rw [jfS t h]
 cases ht:j03 t
 ·rfl
 ·rw [Bool.not_true,cond_false,Bool.true_and]
  by_cases q:l.length<=60
  ·rw [decide_eq_false (show ¬ nI l.length>60 by unfold nI;omega),cond_false,decide_eq_true q,Bool.true_and]
   unfold jaY
   have:=jlC l (λi=>i) (λi r=> !j0n t.2.1 r||(decide (0<i)&& !klt (j05 t (nth [] l ((i:Int)-1))) (j05 t r))) (λi=>∀ (j:Nat) (g:j<l.length),j<i->j0n t.2.1 l[j]=true) (step:=j3w l l (nI l.length) t) ((λ(_:Unit)=>k true),(λ(_:Unit)=>k false)) (k true) (k false) (by unfold LIM;omega) (λj _ g=>absurd g (by omega)) (λi f m w j g z=>by
    rw [Bool.or_eq_false_iff,Bool.not_eq_false'] at w
    by_cases d:j<i
    ·exact m j g d
    ·have:j=i:=by omega
     subst this
     exact w.1) (λi rec f m=>by
    show j22 l _ _ t _ _ _ _=_
    unfold j22
    rw [ZaQ f,cond_true,j00 f,cond_true,Zay _ _ _ f,jfR t h]
    cases A:j0n t.2.1 l[i]
    ·rfl
    ·rw [Bool.not_true,cond_false,Bool.false_or,j01 (n:=(i:Int)+1) (by omega)]
     by_cases p:0<i
     ·have b:i-1<l.length:=by omega
      have y:((i:Int)-1)=((i-1:Nat):Int):=by omega
      rw [decide_eq_true (show (i:Int)>0 by omega),cond_true,decide_eq_true p,Bool.true_and,j01 (n:=(i:Int)-1) (by omega),y,j00 b,cond_true,Zay _ _ _ b,j34 t h ht _ (j0t (m _ b (by omega))),j34 t h ht _ (j0t A),jaW _ _ (by rw [j91];unfold LIM;omega)]
     ·rw [decide_eq_false (show ¬ (i:Int)>0 by omega),cond_false,decide_eq_false p,Bool.false_and,cond_false]) (λrec=>by
    show j22 l _ _ t _ _ _ _=_
    unfold j22
    rw [ZaP,cond_false])
   refine this.trans ?_
   cases Z71 (λi r=> !j0n t.2.1 r||(decide (0<i)&& !klt (j05 t (nth [] l ((i:Int)-1))) (j05 t r))) 0 l<;>rfl
  ·rw [decide_eq_true (show nI l.length>60 by unfold nI;omega),cond_true,decide_eq_false q,Bool.false_and]
theorem j0i {t:T} {l:List (List V)} (h:j08 t l=true):j03 t=true/\l.length<=60/\∀ r∈l,j0n t.2.1 r=true:=by
 unfold j08 at h
 simp only [Bool.and_eq_true,decide_eq_true_eq,Bool.not_eq_true'] at h
 refine ⟨h.1,h.2.1,λr d=> ?_⟩
 obtain ⟨i,b,rfl⟩:=List.getElem_of_mem d
 have:=j9M l 0 h.2.2 i b
 simp only [Bool.or_eq_false_iff,Bool.not_eq_false'] at this
 exact this.1
end Go.PI.G
namespace Go.PI.G
open Go Go.PI Go.Proofs
theorem jjF {α K:Type} (z:α) (f:α->α->Bool) (a b:List α) {step:Int->(Int->Res)->K->Res} (q:K) (x y:Res) (h:a.length<=LIM) (g:a.length=b.length)
  (k:∀ (i:Nat) rec,(d:i<a.length)->(l:i<b.length)->step (i:Int) rec q=bif f a[i] b[i] then rec ((i:Int)+1) else y) (j:∀ rec,step (a.length:Int) rec q=x) :
  Z1f step Z1c 0 q=bif j1t z f a b then x else y:=by
 have:=Z9P a (λi=>i) (λi u=> !f u (nth z b (i:Int))) (step:=step) q x y h (λi rec d=>by
  rw [k i rec d (g ▸ d),Zay _ _ _ (g ▸ d)]
  cases f a[i] (b[i]'(g ▸ d))<;>rfl) j
 refine this.trans ?_
 unfold j1t
 rw [decide_eq_true g,Bool.true_and]
 cases Z71 (λi u=> !f u (nth z b (i:Int))) 0 a<;>rfl
theorem jjV {α β:Type} {a:List α} {b:List β} (h:¬ a.length=b.length):(nI a.length != nI b.length)=true:=by unfold nI;simp;omega
theorem jjU {α β:Type} {a:List α} {b:List β} (h:a.length=b.length):(nI a.length != nI b.length)=false:=by rw [h,ZaO]
theorem jnf {α:Type} {z:α} {f:α->α->Bool} {a b:List α} (h:¬ a.length=b.length):j1t z f a b=false:=by
 unfold j1t;rw [decide_eq_false h,Bool.false_and]
theorem jky (a b:List V) (g:a.length<=LIM) (k:Bool->Res):j3Z a b k=k (j1t zV veq a b):=by
 unfold j3Z
 by_cases d:a.length=b.length
 ·rw [jjU d,cond_false]
  unfold jaP
  unfold LIM at g
  have:=jjF zV veq a b (step:=j5Y a b (nI a.length)) ((λ(_:Unit)=>k true),(λ(_:Unit)=>k false)) (k true) (k false) g d (λi rec f h=>by
   show j1r _ _ _ _ _ _ _=_
   unfold j1r
   rw [ZaQ f,cond_true,j00 f,cond_true,j00 h,cond_true,Zay _ _ _ f,Zay _ _ _ h,j01 (n:=(i:Int)+1) (by omega)]
   show (bif !veq a[i] b[i] then _ else _)=_
   cases veq a[i] b[i]<;>rfl) (λrec=>by
   show j1r _ _ _ _ _ _ _=_
   unfold j1r
   rw [ZaP,cond_false])
  refine this.trans ?_
  cases j1t zV veq a b<;>rfl
 ·rw [jjV d,cond_true,jnf d]
theorem jdM (a b:List V) (g:a.length<=LIM) (k:Bool->Res):j1k a b k=k (j1t zV veq a b):=by
 unfold j1k
 by_cases d:a.length=b.length
 ·rw [jjU d,cond_false]
  unfold jaN
  unfold LIM at g
  have:=jjF zV veq a b (step:=j5L a b (nI a.length)) ((λ(_:Unit)=>k true),(λ(_:Unit)=>k false)) (k true) (k false) g d (λi rec f h=>by
   show j1o _ _ _ _ _ _ _=_
   unfold j1o
   rw [ZaQ f,cond_true,j00 f,cond_true,j00 h,cond_true,Zay _ _ _ f,Zay _ _ _ h,j01 (n:=(i:Int)+1) (by omega)]
   show (bif !veq a[i] b[i] then _ else _)=_
   cases veq a[i] b[i]<;>rfl) (λrec=>by
   show j1o _ _ _ _ _ _ _=_
   unfold j1o
   rw [ZaP,cond_false])
  refine this.trans ?_
  cases j1t zV veq a b<;>rfl
 ·rw [jjV d,cond_true,jnf d]
theorem jai (t:T) (h:msr yT t<=1048576) (l:List (List V)) (f:j08 t l=true) (b:List V) (k:Int->Res):j1y t l b k=k (j06 t l b):=by
 obtain ⟨m,p,q,w,y⟩:=j2p h
 obtain ⟨g,z,j⟩:=j0i f
 unfold j1y
 rw [j6K t h,f,Bool.not_true,cond_false]
 unfold jc5
 refine Z9S l (λi=>i) (λr=>j1t zV veq (j05 t r) b) (step:=j4G b l (nI l.length) t) _ k (by unfold LIM;omega) (λi rec d=> ?_) (λrec=> ?_)
 ·show j2t b _ _ t _ _ _ _=_
  unfold j2t
  rw [ZaQ d,cond_true,j00 d,cond_true,Zay _ _ _ d,j6d t h g _ (j0t (j _ (List.getElem_mem d))),jky _ _ (by rw [j91];unfold LIM;omega),j01 (n:=(i:Int)+1) (by omega)]
 ·show j2t b _ _ t _ _ _ _=_
  unfold j2t
  rw [ZaP,cond_false]
theorem j3u (t:T) (h:msr yT t<=1048576) (l:List (List V)) (f:j08 t l=true) (b:List V) (k:Int->Res):j0Y t l b k=k (j06 t l b):=by
 obtain ⟨m,p,q,w,y⟩:=j2p h
 obtain ⟨g,z,j⟩:=j0i f
 unfold j0Y j6b j87
 refine Z9S l (λi=>i) (λr=>j1t zV veq (j05 t r) b) (step:=j38 l (t,b) (nI l.length)) _ k (by unfold LIM;omega) (λi rec d=> ?_) (λrec=> ?_)
 ·show j0P _ _ _ _ _ _ _=_
  unfold j0P jbw
  rw [ZaQ d,cond_true,j00 d,cond_true,Zay _ _ _ d,j34 t h g _ (j0t (j _ (List.getElem_mem d))),jdM _ _ (by rw [j91];unfold LIM;omega),j01 (n:=(i:Int)+1) (by omega)]
 ·show j0P _ _ _ _ _ _ _=_
  unfold j0P
  rw [ZaP,cond_false]
theorem jnP (t:T) (l:List (List V)) (b:List V): -1<=j06 t l b/\j06 t l b<(l.length:Int):=jcl _ _
end Go.PI.G
namespace Go.PI.G
open Go Go.PI Go.Proofs
theorem joX {c:List T} (h:msr (.slice yT) c<=1048576):c.length<=1048576/\∀ t∈c,msr yT t<=1048576:=⟨j0C h,λt ht=>j11 h ht⟩
theorem jo1 (c:List T) (h:msr (.slice yT) c<=1048576) (a b:Unit->Res):jc3 c (nI c.length) c Z1c 0 a b=bif Z71 (λi t=> !j03 t||(decide (0<i)&&sGe (nth zT c ((i:Int)-1)).1 t.1)) 0 c then b () else a ():=by
 obtain ⟨g,f⟩:=joX h
 unfold jc3
 exact Z9P c (λi=>i) (λi t=> !j03 t||(decide (0<i)&&sGe (nth zT c ((i:Int)-1)).1 t.1)) (step:=jaj c (nI c.length) c) (a,b) (a ()) (b ()) (by unfold LIM;omega) (λi rec d=>by
  show j4B _ _ c _ _ _ _=_
  unfold j4B
  rw [ZaQ d,cond_true,j00 d,cond_true,Zay _ _ _ d,jcw _ (f _ (List.getElem_mem d)),j01 (n:=(i:Int)+1) (by omega),jni c i d (by unfold LIM;omega)]
  cases j03 c[i]
  ·rfl
  ·cases (decide (0<i)&&sGe (nth zT c ((i:Int)-1)).1 c[i].1)<;>rfl) (λrec=>by
  show j4B _ _ c _ _ _ _=_
  unfold j4B
  rw [ZaP,cond_false])
theorem jnu (c:List T) (h:msr (.slice yT) c<=1048576) (a b:Unit->Res):jbP c (nI c.length) c Z1c 0 a b=bif Z71 (λi t=> !j03 t||(decide (0<i)&&sGe (nth zT c ((i:Int)-1)).1 t.1)) 0 c then b () else a ():=by
 obtain ⟨g,f⟩:=joX h
 unfold jbP
 exact Z9P c (λi=>i) (λi t=> !j03 t||(decide (0<i)&&sGe (nth zT c ((i:Int)-1)).1 t.1)) (step:=j9P c (nI c.length) c) (a,b) (a ()) (b ()) (by unfold LIM;omega) (λi rec d=>by
  show j4n _ _ c _ _ _ _=_
  unfold j4n
  rw [ZaQ d,cond_true,j00 d,cond_true,Zay _ _ _ d,jfS _ (f _ (List.getElem_mem d)),j01 (n:=(i:Int)+1) (by omega),jni c i d (by unfold LIM;omega)]
  cases j03 c[i]
  ·rfl
  ·cases (decide (0<i)&&sGe (nth zT c ((i:Int)-1)).1 c[i].1)<;>rfl) (λrec=>by
  show j4n _ _ c _ _ _ _=_
  unfold j4n
  rw [ZaP,cond_false])
theorem jkt (c:List T) (h:msr (.slice yT) c<=1048576) (k:Bool->Res):j6e c k=k (j21 c):=by
 unfold j6e j21
 rw [jo1 c h]
 by_cases b:c.length<=6
 ·rw [decide_eq_false (show ¬ nI c.length>6 by unfold nI;omega),cond_false,decide_eq_true b,Bool.true_and]
  cases Z71 (λi t=> !j03 t||(decide (0<i)&&sGe (nth zT c ((i:Int)-1)).1 t.1)) 0 c<;>rfl
 ·rw [decide_eq_true (show nI c.length>6 by unfold nI;omega),cond_true,decide_eq_false b,Bool.false_and]
theorem jjO (c:List T) (h:msr (.slice yT) c<=1048576) (k:Bool->Res):j65 c k=k (j21 c):=by
 unfold j65 j21
 rw [jnu c h]
 have:decide (nI c.length<=6)=decide (c.length<=6):=decide_eq_decide.2 (by unfold nI;omega)
 rw [this]
 cases Z71 (λi t=> !j03 t||(decide (0<i)&&sGe (nth zT c ((i:Int)-1)).1 t.1)) 0 c
 ·rw [Bool.not_false,Bool.and_true];rfl
 ·rw [Bool.not_true,Bool.and_false];rfl
end Go.PI.G
namespace Go.PI.G
open Go Go.PI Go.Proofs
theorem jdf (c:List T) (n:ByteArray) (h:c.length<=LIM) (k:Int->Res):j2c c n k=k (j04 c n):=by
 unfold j2c jgR
 refine Z9S c (λi=>i) (λt=>sEq t.1 n) (step:=jaq n c (nI c.length)) _ k h (λi rec b=> ?_) (λrec=> ?_)
 ·show j4K n _ _ _ _ _ _=_
  unfold j4K
  unfold LIM at h
  rw [ZaQ b,cond_true,j00 b,cond_true,Zay _ _ _ b,j01 (n:=(i:Int)+1) (by omega)]
 ·show j4K n _ _ _ _ _ _=_
  unfold j4K
  rw [ZaP,cond_false]
theorem j7j (c:List T) (n:ByteArray) (h:c.length<=LIM) (k:Int->Res):j0l c n k=k (j04 c n):=by
 unfold j0l j4O j74
 refine Z9S c (λi=>i) (λt=>sEq t.1 n) (step:=j2i c n (nI c.length)) _ k h (λi rec b=> ?_) (λrec=> ?_)
 ·show j0D _ n _ _ _ _ _=_
  unfold j0D jcR
  unfold LIM at h
  rw [ZaQ b,cond_true,j00 b,cond_true,Zay _ _ _ b,j01 (n:=(i:Int)+1) (by omega)]
 ·show j0D _ n _ _ _ _ _=_
  unfold j0D
  rw [ZaP,cond_false]
end Go.PI.G
namespace Go.PI.G
open Go Go.PI Go.Proofs
noncomputable def jev (p:List ByteArray) (s:ByteArray):Bool:=p.any λx=>sEq x s
theorem jns {α:Type} (q:α->Bool) (l:List α):decide (Z9F q l>=0)=l.any q:=by
 unfold Z9F
 cases h:l.findIdx? q with
 | none=>
  have:=List.findIdx?_eq_none_iff.1 h
  have b:l.any q=false:=by
   rw [List.any_eq_false]
   intro x g
   rw [this x g];simp
  rw [b];rfl
 | some i=>
  have:=List.findIdx?_eq_some_iff_getElem.1 h
  obtain ⟨d,f,_⟩:=this
  have b:l.any q=true:=List.any_eq_true.2 ⟨l[i],List.getElem_mem d,f⟩
  rw [b]
  show decide ((i:Int)>=0)=true
  exact decide_eq_true (by omega)
theorem jp9 (l:List ByteArray) (s:ByteArray) (h:l.length<=LIM) (k:Bool->Res):j19 l s k=k (jev l s):=by
 unfold j19 j0M j4P jev
 have:=Z9S l (λi=>i) (λx=>sEq s x) (step:=j1x l s (nI l.length)) ((λ(_:Unit)=>k (decide ((-1:Int)>=0))),(λ(t:Int)=>k (decide (t>=0)))) (λr=>k (decide (r>=0))) h (λi rec b=>by
  show j0c _ _ _ _ _ _ _=_
  unfold j0c
  unfold LIM at h
  rw [ZaQ b,cond_true,j00 b,cond_true,Zay _ _ _ b,j01 (n:=(i:Int)+1) (by omega)]) (λrec=>by
  show j0c _ _ _ _ _ _ _=_
  unfold j0c
  rw [ZaP,cond_false])
 refine this.trans ?_
 rw [jns]
 have:(λx=>sEq s x)=λx=>sEq x s:=by funext x;exact Zag s x
 rw [this]
end Go.PI.G
namespace Go.PI.G
open Go Go.PI Go.Proofs
theorem jps (l:List ByteArray) (s:ByteArray) (h:l.length<=LIM) (k:Bool->Res):j8K l s k=k (jev l s):=by
 unfold j8K jfy jev
 have:=Za2 l (λi=>i) (λx=>sEq x s) (step:=j9b s l (nI l.length)) ((λ(_:Unit)=>k false),(λ(_:Unit)=>k true)) (k false) (k true) h (λi rec b=>by
  show j3U _ _ _ _ _ _ _=_
  unfold j3U
  unfold LIM at h
  rw [ZaQ b,cond_true,j00 b,cond_true,Zay _ _ _ b,j01 (n:=(i:Int)+1) (by omega)]) (λrec=>by
  show j3U _ _ _ _ _ _ _=_
  unfold j3U
  rw [ZaP,cond_false])
 refine this.trans ?_
 cases l.any λx=>sEq x s<;>rfl
end Go.PI.G
