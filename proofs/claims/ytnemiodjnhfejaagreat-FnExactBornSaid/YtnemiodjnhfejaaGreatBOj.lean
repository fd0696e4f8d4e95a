/-
  Program's code interpreted over typed values; printed texts; plain laws. No conditions.
-/
import Derived.Test.YtnemiodjnhfejaaGreatBOi
import Derived.Test.YtnemiodjnhfejaaGreatBOg
import Derived.Test.YtnemiodjnhfejaaGreatBOh
import Derived.Test.YtnemiodjnhfejaaGreatBOf
import Derived.Test.YtnemiodjnhfejaaGreatBOd
set_option linter.unusedVariables false
namespace Go.PI.G
noncomputable section
open Go Go.PI
def j0A {α:Type} (z:α) (f:α->α->Bool) (a b:List α):Bool:=decide (a.length=b.length)&& !Z71 (λi x=> !f x (nth z b (i:Int))) 0 a
theorem jj8 {α:Type} {z:α} {f:α->α->Bool} (d:∀ x y,f x y=true↔x=y) (a b:List α):j0A z f a b=true↔a=b:=by
 unfold j0A
 rw [Bool.and_eq_true,decide_eq_true_eq,Bool.not_eq_true',j8O]
 constructor
 ·rintro ⟨m,h⟩
  refine List.ext_getElem m λi g k=> ?_
  have:=h i g
  rw [Nat.zero_add,Zay _ _ _ k,Bool.not_eq_false'] at this
  exact (d _ _).1 this
 ·rintro rfl
  refine ⟨rfl,λj l=> ?_⟩
  rw [Nat.zero_add,Zay _ _ _ l,(d _ _).2 rfl];rfl
theorem j4k (a b:List V):j0A zV veq a b=true↔a=b:=jj8 jcC a b
def j05 (t:T) (l:List (List V)) (b:List V):Int:=Z9F (λr=>j0A zV veq (j06 t r) b) l
theorem ja0 (t:T) (l:List (List V)) (b:List V):(j05 t l b= -1/\∀ r∈l,j06 t r≠b)\/∃ (i:Nat) (g:i<l.length),j05 t l b=(i:Int)/\j06 t l[i]=b:=by
 rcases j9F (λr=>j0A zV veq (j06 t r) b) l with ⟨d,f⟩ | ⟨i,g,d,f,j⟩
 ·refine .inl ⟨d,λr h e=> ?_⟩
  have:=f r h
  rw [(j4k _ _).2 e] at this
  cases this
 ·exact .inr ⟨i,g,d,(j4k _ _).1 f⟩
theorem jk1 (t:T) (l:List (List V)) (b:List V):decide (j05 t l b<0)= !l.any λr=>j0A zV veq (j06 t r) b:=by
 rcases ja0 t l b with ⟨f,d⟩ | ⟨i,j,f,d⟩
 ·rw [decide_eq_true (by omega)]
  have:(l.any λr=>j0A zV veq (j06 t r) b)=false:=by
   rw [List.any_eq_false]
   intro r g h
   exact d r g ((j4k _ _).1 h)
  rw [this];rfl
 ·rw [decide_eq_false (by omega)]
  have:(l.any λr=>j0A zV veq (j06 t r) b)=true:=by
   rw [List.any_eq_true]
   exact ⟨l[i],List.getElem_mem _,(j4k _ _).2 d⟩
  rw [this];rfl
def lay {α:Type} (R:α->α->Bool) (x:α) (l:List α):List α:=l.takeWhile (λy=> !R x y)++x::l.dropWhile (λy=> !R x y)
theorem jkz {α:Type} {R:α->α->Bool} {x z:α} {l:List α}:z∈lay R x l↔z=x\/z∈l:=by
 unfold lay
 rw [List.mem_append,List.mem_cons]
 have:z∈l↔z∈l.takeWhile (λy=> !R x y)\/z∈l.dropWhile (λy=> !R x y):=by
  rw [<-List.mem_append,List.takeWhile_append_dropWhile]
 rw [this]
 constructor
 ·rintro (h | h | h)
  ·exact .inr (.inl h)
  ·exact .inl h
  ·exact .inr (.inr h)
 ·rintro (h | h | h)
  ·exact .inr (.inl h)
  ·exact .inl h
  ·exact .inr (.inr h)
theorem jkx {α:Type} (R:α->α->Bool) (x:α) (l:List α):(lay R x l).length=l.length+1:=by
 unfold lay
 have:=congrArg List.length (List.takeWhile_append_dropWhile (p:=λy=> !R x y) (l:=l))
 rw [List.length_append] at this
 rw [List.length_append,List.length_cons]
 omega
theorem jn8 {α:Type} {R:α->α->Bool} (i:∀ a b c,R a b=true->R b c=true->R a c=true) (x:α):(l:List α)->(l.Pairwise λa b=>R a b=true)->(∀ y∈l,R x y=true\/R y x=true)->(lay R x l).Pairwise λa b=>R a b=true
 | [],_,_=>List.pairwise_singleton _ _
 | y::l,h,ht=>by
  rw [List.pairwise_cons] at h
  cases d:R x y
  ·have e:lay R x (y::l)=y::lay R x l:=by
    unfold lay
    rw [List.takeWhile_cons,List.dropWhile_cons,d]
    rfl
   rw [e,List.pairwise_cons]
   refine ⟨λz f=> ?_,jn8 i x l h.2 λz f=>ht z (List.mem_cons_of_mem _ f)⟩
   rcases jkz.1 f with rfl | f
   ·rcases ht y (by simp) with g | g
    ·rw [d] at g;cases g
    ·exact g
   ·exact h.1 z f
  ·have e:lay R x (y::l)=x::y::l:=by
    unfold lay
    rw [List.takeWhile_cons,List.dropWhile_cons,d]
    rfl
   rw [e,List.pairwise_cons]
   refine ⟨λz f=> ?_,List.pairwise_cons.2 h⟩
   rcases List.mem_cons.1 f with rfl | f
   ·exact d
   ·exact i _ _ _ d (h.1 z f)
theorem joA {α:Type} {R:α->α->Bool} (g:∀ a b,R a b=true->R b a=false) {x:α} {l:List α} (ht:∀ y∈l,R x y=true\/R y x=true) :
  ∃ i,i<=l.length/\i=(l.takeWhile λy=>R y x).length/\lay R x l=l.take i++x::l.drop i:=by
 have f:∀ (l:List α),(∀ y∈l,R x y=true\/R y x=true)->l.takeWhile (λy=> !R x y)=l.takeWhile λy=>R y x:=by
  intro l
  induction l with
  | nil=>intro _;rfl
  | cons y l m=>
   intro h
   have e:(!R x y)=R y x:=by
    rcases h y (by simp) with d | d
    ·rw [d,g _ _ d];rfl
    ·rw [d,g _ _ d];rfl
   rw [List.takeWhile_cons,List.takeWhile_cons,e,m λz k=>h z (List.mem_cons_of_mem _ k)]
 have d:=List.takeWhile_append_dropWhile (p:=λy=> !R x y) (l:=l)
 have j:=f l ht
 refine ⟨(l.takeWhile λy=>R y x).length,?_,rfl,?_⟩
 ·have:=congrArg List.length d
  rw [List.length_append,j] at this
  omega
 ·unfold lay
  rw [j] at d ⊢
  generalize l.takeWhile (λy=>R y x)=a at d ⊢
  generalize l.dropWhile (λy=> !R x y)=b at d ⊢
  rw [<-d]
  simp
def kR (t:T) (a b:List V):Bool:=klt (j06 t a) (j06 t b)
def jfK (t:T) (l:List (List V)) (r:List V):List (List V):=lay (kR t) r l
def j9Q (t:T) (b:List V):Bool:=j04 t&&(decide (b.length=t.2.2.length)&& !Z71 (λi k=> !j3w (nth zC t.2.1 (j02 t.2.1 k)) (nth zV b (i:Int))) 0 t.2.2)
def j5z (t:T) (l:List (List V)) (r:List V):List (List V)×Int:=
 bif !j08 t l then ([],1) else bif !j0q t.2.1 r then ([],2) else bif !decide (j05 t l (j06 t r)<0) then ([],3) else bif l.length==60 then ([],4) else (jfK t l r,0)
def j5A (t:T) (l:List (List V)) (b r:List V):List (List V)×Int:=
 bif !j08 t l then ([],1) else bif !j0q t.2.1 r then ([],2) else bif !j9Q t b||decide (j05 t l b<0) then ([],5) else
 bif !decide (j05 t (l.eraseIdx (j05 t l b).toNat) (j06 t r)<0) then ([],3) else (jfK t (l.eraseIdx (j05 t l b).toNat) r,0)
def j5y (t:T) (l:List (List V)) (b:List V):List (List V)×Int:=
 bif !j08 t l then ([],1) else bif !j9Q t b||decide (j05 t l b<0) then ([],5) else (l.eraseIdx (j05 t l b).toNat,0)
theorem jnh {l:List C} {r:List V} (h:j0q l r=true):∀ v∈r,j0r v=true:=by
 intro v d
 obtain ⟨i,b,rfl⟩:=List.getElem_of_mem d
 rw [j8Y] at h
 have:=h.2 i (by omega) b
 unfold j3w at this
 rw [Bool.and_eq_true] at this
 exact this.1
theorem jn5 {t:T} (ht:j04 t=true) {r:List V} (h:j0q t.2.1 r=true):∀ v∈j06 t r,j0r v=true:=by
 intro v f
 obtain ⟨k,b,rfl⟩:=List.mem_map.1 f
 have:=j1e t.2.2 (-1) (by omega) (j1I ht).2.2.2.2.2 k b
 obtain ⟨n,d⟩:∃ n:Nat,j02 t.2.1 k=(n:Int):=⟨(j02 t.2.1 k).toNat,by omega⟩
 have g:=((j8Y _ _).1 h).1
 rw [d,Zay _ _ _ (by omega)]
 exact jnh h _ (List.getElem_mem _)
theorem jn4 {t:T} (ht:j04 t=true) {a b:List V} (d:j0q t.2.1 a=true) (f:j0q t.2.1 b=true) (h:j06 t a≠j06 t b):kR t a b=true\/kR t b a=true:=
 jlb _ _ (jn5 ht d) (jn5 ht f) h
theorem joz {t:T} {l:List (List V)} {r:List V} (h:j08 t l=true) (i:j0q t.2.1 r=true) (n:∀ x∈l,j06 t x≠j06 t r) (m:l.length<60):j08 t (jfK t l r)=true:=by
 rw [j66] at h ⊢
 obtain ⟨f,p,g,k⟩:=h
 refine ⟨f,by unfold jfK;rw [jkx];omega,λx d=> ?_,?_⟩
 ·rcases jkz.1 d with rfl | d
  ·exact i
  ·exact g x d
 ·exact jn8 (R:=kR t) (λa b c=>jdL _ _ _) r l k λy j=>jn4 f i (g y j) λe=>n y j e.symm
theorem jdF {t:T} {l:List (List V)} (b:j08 t l=true) (i:Nat):j08 t (l.eraseIdx i)=true:=by
 rw [j66] at b ⊢
 obtain ⟨d,j,f,g⟩:=b
 refine ⟨d,?_,λx h=>f x (List.mem_of_mem_eraseIdx h),g.sublist (List.eraseIdx_sublist _ _)⟩
 rw [List.length_eraseIdx]
 split<;>omega
theorem joQ {t:T} {l:List (List V)} (k:j08 t l=true) {i j:Nat} (f:i<l.length) (g:j<l.length) (h:j06 t l[i]=j06 t l[j]):i=j:=by
 have d:=((j66 _ _).1 k).2.2.2
 rw [List.pairwise_iff_getElem] at d
 rcases Nat.lt_trichotomy i j with b | b | b
 ·exact absurd h (jpy (d i j f g b))
 ·exact b
 ·exact absurd h.symm (jpy (d j i g f b))
theorem jlm {t:T} {l:List (List V)} (y:j08 t l=true) {b now:List V} (h:¬ j05 t l b<0) :
  (!decide (j05 t (l.eraseIdx (j05 t l b).toNat) now<0))=(!j0A zV veq now b&& !decide (j05 t l now<0)):=by
 rcases ja0 t l b with ⟨n,_⟩ | ⟨i,w,n,p⟩
 ·omega
 rw [n,Int.toNat_natCast,jk1,jk1,Bool.not_not,Bool.not_not]
 by_cases g:now=b
 ·subst g
  rw [(j4k _ _).2 rfl,Bool.not_true,Bool.false_and,List.any_eq_false]
  intro r f h
  obtain ⟨j,k,m,rfl⟩:=List.mem_eraseIdx_iff_getElem.1 f
  exact m (joQ y k w (((j4k _ _).1 h).trans p.symm))
 ·have:j0A zV veq now b=false:=by
   cases d:j0A zV veq now b with
   | false=>rfl
   | true=>exact absurd ((j4k _ _).1 d) g
  rw [this,Bool.not_false,Bool.true_and]
  cases d:l.any λr=>j0A zV veq (j06 t r) now with
  | false=>
   rw [List.any_eq_false] at d ⊢
   exact λr f=>d r (List.mem_of_mem_eraseIdx f)
  | true=>
   rw [List.any_eq_true] at d ⊢
   obtain ⟨r,f,q⟩:=d
   refine ⟨r,List.mem_eraseIdx_iff_getElem.2 ?_,q⟩
   obtain ⟨j,k,rfl⟩:=List.getElem_of_mem f
   exact ⟨j,k,λe=>g (by subst e;rw [<-(j4k _ _).1 q,p]),rfl⟩
theorem jnb {t:T} {l:List (List V)} {b:List V} (h:j05 t l b<0):∀ x∈l,j06 t x≠b:=by
 rcases ja0 t l b with ⟨_,d⟩ | ⟨i,g,f,_⟩
 ·exact d
 ·omega
def j2z (t:T) (l:List (List V)) (s:ST):List (List V)×Int:=
 bif s.1==1 then j5z t l s.2.2.2.1 else bif s.1==2 then j5A t l s.2.2.1 s.2.2.2.1 else bif s.1==3 then j5y t l s.2.2.1 else ([],0)
theorem joW {t:T} {l:List (List V)} {r:List V} (h:(j5z t l r).2=0):j08 t (j5z t l r).1=true:=by
 unfold j5z at h ⊢
 cases b:j08 t l<;>rw [b] at h
 ·cases h
 cases d:j0q t.2.1 r<;>rw [d] at h
 ·cases h
 cases f:decide (j05 t l (j06 t r)<0)<;>rw [f] at h
 ·cases h
 cases g:l.length==60<;>rw [g] at h
 ·refine joz b d (jnb (of_decide_eq_true f)) ?_
  have:=((j66 _ _).1 b).2.1
  have i:l.length≠60:=by simpa using g
  omega
 ·cases h
theorem joX {t:T} {l:List (List V)} {b r:List V} (h:(j5A t l b r).2=0):j08 t (j5A t l b r).1=true:=by
 unfold j5A at h ⊢
 cases d:j08 t l<;>rw [d] at h
 ·cases h
 cases f:j0q t.2.1 r<;>rw [f] at h
 ·cases h
 cases g: !j9Q t b||decide (j05 t l b<0)<;>rw [g] at h
 ·cases i:decide (j05 t (l.eraseIdx (j05 t l b).toNat) (j06 t r)<0)<;>rw [i] at h
  ·cases h
  ·refine joz (jdF d _) f (jnb (of_decide_eq_true i)) ?_
   rw [Bool.or_eq_false_iff,decide_eq_false_iff_not] at g
   have m:=((j66 _ _).1 d).2.1
   have j:=(jcm (λr=>j0A zV veq (j06 t r) b) l).2
   have k:(j05 t l b).toNat<l.length:=by
    have:j05 t l b<(l.length:Int):=j
    omega
   rw [List.length_eraseIdx_of_lt k]
   omega
 ·cases h
theorem joV {t:T} {l:List (List V)} {b:List V} (h:(j5y t l b).2=0):j08 t (j5y t l b).1=true:=by
 unfold j5y at h ⊢
 cases d:j08 t l<;>rw [d] at h
 ·cases h
 cases f: !j9Q t b||decide (j05 t l b<0)<;>rw [f] at h
 ·exact jdF d _
 ·cases h
theorem jll {t:T} (h:j04 t=true):j08 t []=true:=(j66 _ _).2 ⟨h,by simp,by simp,List.Pairwise.nil⟩
theorem jqG {t:T} (ht:j04 t=true) {l:List (List V)} {s:ST} (h:(j2z t l s).2=0):j08 t (j2z t l s).1=true:=by
 unfold j2z at h ⊢
 cases b:s.1==1<;>rw [b] at h
 ·cases d:s.1==2<;>rw [d] at h
  ·cases f:s.1==3<;>rw [f] at h
   ·exact jll ht
   ·exact joV h
  ·exact joX h
 ·exact joW h
def tR (a b:T):Bool:=sLt a.1 b.1
def j0u (t:T) (d:D):Int:=
 bif d.1==3 then (bif !decide (j02 t.2.1 (nth zC d.2.2.1 0).1<0) then 5 else bif t.2.1.length==8 then 6 else 0)
 else bif d.1==4 then (bif decide (j02 t.2.1 d.2.2.2.2.1<0) then 7 else bif t.2.2.any (λx=>sEq x d.2.2.2.2.1) then 8 else 0)
 else bif d.1==5 then (bif !decide (j02 t.2.1 d.2.2.2.2.2<0) then 5 else bif decide (j02 t.2.1 d.2.2.2.2.1<0) then 7 else 0)
 else 0
def j9E (t:T) (d:D):T:=bif d.1==3 then jim t (nth zC d.2.2.1 0) else bif d.1==4 then jfQ t d.2.2.2.2.1 else jdM t d.2.2.2.2.1 d.2.2.2.2.2
def j0b (c:List T) (d:D):Int:=
 bif d.1==1 then (bif !decide (j03 c d.2.1<0) then 2 else bif c.length==6 then 3 else 0)
 else bif decide (j03 c d.2.1<0) then 4 else j0u (nth zT c (j03 c d.2.1)) d
def j14 (c:List T) (d:D):List T:=
 bif d.1==1 then lay tR (d.2.1,d.2.2.1,d.2.2.2.1) c
 else bif d.1==2 then c.eraseIdx (j03 c d.2.1).toNat
 else c.set (j03 c d.2.1).toNat (j9E (nth zT c (j03 c d.2.1)) d)
def jer (c:List T) (d:D):List T×Int:=
 bif !j24 c|| !j13 d then ([],1) else bif j0b c d != 0 then ([],j0b c d) else (j14 c d,0)
theorem j0o (c:List T) (n:ByteArray):(j03 c n= -1/\∀ t∈c,t.1≠n)\/∃ (i:Nat) (f:i<c.length),j03 c n=(i:Int)/\c[i].1=n:=by
 rcases j9F (λt:T=>sEq t.1 n) c with ⟨b,d⟩ | ⟨i,f,b,d,g⟩
 ·exact .inl ⟨b,λt ht e=>by have:=d t ht;rw [e,Zah] at this;cases this⟩
 ·exact .inr ⟨i,f,b,(j09 _ _).1 d⟩
theorem jdZ {c:List T} (h:c.Pairwise λa b=>sLt a.1 b.1=true) {i:Nat} (g:i<c.length):j03 c c[i].1=(i:Int):=by
 refine jow g (Zah _) λj k f=> ?_
 have f:=(j09 _ _).1 f
 rw [List.pairwise_iff_getElem] at h
 rcases Nat.lt_trichotomy i j with d | d | d
 ·exact absurd f.symm (jpJ (h i j g k d))
 ·exact d.symm
 ·exact absurd f (jpJ (h j i k g d))
theorem jgY (t:T) (d:D):(j9E t d).1=t.1:=by
 unfold j9E
 cases d.1==3
 ·cases d.1==4<;>rfl
 ·rfl
theorem jpf {t:T} (ht:j04 t=true) {d:D} (q:j13 d=true) (j:3<=d.1) (b:j0u t d=0):j04 (j9E t d)=true:=by
 obtain ⟨_,h⟩:=j7J q
 rcases h with ⟨n,cs,ks,rfl,_⟩ | ⟨n,rfl⟩ | ⟨n,c,rfl,l⟩ | ⟨n,m,rfl,r⟩ | ⟨n,m,p,rfl,r,w⟩
 ·simp at j
 ·simp at j
 ·show j04 (jim t c)=true
  change (bif !decide (j02 t.2.1 c.1<0) then (5:Int) else bif t.2.1.length==8 then 6 else 0)=0 at b
  cases f:decide (j02 t.2.1 c.1<0)<;>rw [f] at b
  ·cases b
  ·cases g:t.2.1.length==8<;>rw [g] at b
   ·have k:t.2.1.length≠8:=by simpa using g
    have:=(j1I ht).2.2.1
    exact jr3 ht l (of_decide_eq_true f) (by omega)
   ·cases b
 ·show j04 (jfQ t m)=true
  change (bif decide (j02 t.2.1 m<0) then (7:Int) else bif t.2.2.any (λx=>sEq x m) then 8 else 0)=0 at b
  cases f:decide (j02 t.2.1 m<0)<;>rw [f] at b
  ·cases g:t.2.2.any λx=>sEq x m<;>rw [g] at b
   ·have k:=of_decide_eq_false f
    exact jrf ht (i:=(j02 t.2.1 m).toNat) (by omega) g
   ·cases b
  ·cases b
 ·show j04 (jdM t m p)=true
  change (bif !decide (j02 t.2.1 p<0) then (5:Int) else bif decide (j02 t.2.1 m<0) then 7 else 0)=0 at b
  cases f:decide (j02 t.2.1 p<0)<;>rw [f] at b
  ·cases b
  ·exact jqu ht w (of_decide_eq_true f)
theorem jl5 {c:List T} (f:j24 c=true) {t:T} (ht:j04 t=true) (p:j03 c t.1<0) (m:c.length<6):j24 (lay tR t c)=true:=by
 rw [j0d] at f ⊢
 obtain ⟨l,g,j⟩:=f
 refine ⟨by rw [jkx];omega,λx d=> ?_,?_⟩
 ·rcases jkz.1 d with rfl | d
  ·exact ht
  ·exact g x d
 ·refine jn8 (R:=tR) (λa b c=>jdP) t c j λy k=>jhl λe=> ?_
  rcases j0o c t.1 with ⟨_,h⟩ | ⟨i,n,h,_⟩
  ·exact h y k e.symm
  ·omega
theorem jnd {α:Type} {R:α->α->Prop} {l:List α} (h:l.Pairwise R) {i:Nat} {x:α} (m:i<l.length) (j:∀ y,R y l[i]->R y x) (k:∀ y,R l[i] y->R x y):(l.set i x).Pairwise R:=by
 rw [List.pairwise_iff_getElem] at h ⊢
 intro a b f g d
 rw [List.length_set] at f g
 rw [List.getElem_set,List.getElem_set]
 split
 ·rename_i e
  subst e
  split
  ·omega
  ·exact k _ (h _ _ f g d)
 ·split
  ·rename_i e
   subst e
   exact j _ (h _ _ f g d)
  ·exact h _ _ f g d
theorem joF {c:List T} (d:j24 c=true) {i:Nat} (l:i<c.length) {t:T} (ht:j04 t=true) (f:t.1=c[i].1):j24 (c.set i t)=true:=by
 rw [j0d] at d ⊢
 obtain ⟨g,j,k⟩:=d
 refine ⟨by rw [List.length_set];exact g,λx b=> ?_,?_⟩
 ·rcases List.mem_or_eq_of_mem_set b with b | rfl
  ·exact j x b
  ·exact ht
 ·refine jnd k l (λy h=> ?_) (λy h=> ?_)
  ·rw [f];exact h
  ·rw [f];exact h
theorem jl8 {c:List T} (b:j24 c=true) (i:Nat):j24 (c.eraseIdx i)=true:=by
 rw [j0d] at b ⊢
 obtain ⟨h,d,f⟩:=b
 refine ⟨?_,λx g=>d x (List.mem_of_mem_eraseIdx g),f.sublist (List.eraseIdx_sublist _ _)⟩
 rw [List.length_eraseIdx]
 split<;>omega
theorem jmI {d:D} (b:j13 d=true):d.1=1\/d.1=2\/3<=d.1:=by
 obtain ⟨_,h⟩:=j7J b
 rcases h with ⟨n,cs,ks,rfl,_⟩ | ⟨n,rfl⟩ | ⟨n,c,rfl,g⟩ | ⟨n,m,rfl,f⟩ | ⟨n,m,p,rfl,f,i⟩<;>simp
theorem jkq {c:List T} {d:D} (k:j24 c=true) (j:j13 d=true) (h:j0b c d=0):j24 (j14 c d)=true:=by
 have l:=(j0d c).1 k
 unfold j0b at h
 unfold j14
 rcases jmI j with f | f | f
 ·rw [f] at h ⊢
  rw [show ((1:Int)==1)=true from rfl,cond_true] at h ⊢
  cases g:decide (j03 c d.2.1<0)<;>rw [g] at h
  ·cases h
  ·cases b:c.length==6<;>rw [b] at h
   ·have p:c.length≠6:=by simpa using b
    have n:j04 (d.2.1,d.2.2.1,d.2.2.2.1)=true:=by
     unfold j13 at j
     rw [f] at j
     simp only [Bool.and_eq_true,beq_self_eq_true,cond_true] at j
     exact j.2.2.2
    exact jl5 k n (of_decide_eq_true g) (by omega)
   ·cases h
 ·rw [f] at h ⊢
  rw [show ((2:Int)==1)=false from rfl,show ((2:Int)==2)=true from rfl,cond_false,cond_true]
  exact jl8 k _
 ·rw [show (d.1==1)=false by simp;omega,cond_false] at h
  rw [show (d.1==1)=false by simp;omega,show (d.1==2)=false by simp;omega,cond_false,cond_false]
  cases g:decide (j03 c d.2.1<0)<;>rw [g] at h
  ·rcases j0o c d.2.1 with ⟨b,_⟩ | ⟨i,m,b,p⟩
   ·rw [b] at g;cases g
   ·rw [cond_false] at h
    rw [b,Zay _ _ _ m] at h
    rw [b,Zay _ _ _ m,Int.toNat_natCast]
    exact joF k m (jpf (l.2.1 _ (List.getElem_mem _)) j f h) (jgY _ _)
  ·cases h
def jep (t:T) (d:D) (l:List (List V)):List (List V):=
 bif d.1==3 then l.map (λr=>r++[(nth zC d.2.2.1 0).2.2.2.2]) else bif d.1==4 then l.map (λr=>r.eraseIdx (j02 t.2.1 d.2.2.2.2.1).toNat) else l
def jhC (d:DB) (x:D):List (List (List V)):=
 bif x.1==1 then d.2.take (j03 (j14 d.1 x) x.2.1).toNat++[]::d.2.drop (j03 (j14 d.1 x) x.2.1).toNat
 else bif x.1==2 then d.2.eraseIdx (j03 d.1 x.2.1).toNat
 else d.2.set (j03 d.1 x.2.1).toNat (jep (nth zT d.1 (j03 d.1 x.2.1)) x (nth [] d.2 (j03 d.1 x.2.1)))
abbrev zDB:DB:=([],[])
def j1W (d:DB) (s:ST):DB×Int:=
 bif decide (j03 d.1 s.2.1<0)&& !((s.1==5)&&(s.2.2.2.2.1==1)) then (zDB,4)
 else bif s.1==5 then (bif j0b d.1 s.2.2.2.2 != 0 then (zDB,10+j0b d.1 s.2.2.2.2) else ((j14 d.1 s.2.2.2.2,jhC d s.2.2.2.2),0))
 else bif (j2z (nth zT d.1 (j03 d.1 s.2.1)) (nth [] d.2 (j03 d.1 s.2.1)) s).2 != 0 then (zDB,10+(j2z (nth zT d.1 (j03 d.1 s.2.1)) (nth [] d.2 (j03 d.1 s.2.1)) s).2)
 else ((d.1,d.2.set (j03 d.1 s.2.1).toNat (j2z (nth zT d.1 (j03 d.1 s.2.1)) (nth [] d.2 (j03 d.1 s.2.1)) s).1),0)
theorem jr5 {t:T} (ht:j04 t=true) {d:D} (j:j13 d=true) (k:3<=d.1) (f:j0u t d=0) {l:List (List V)} (w:j08 t l=true):j08 (j9E t d) (jep t d l)=true:=by
 have g:=jpf ht j k f
 obtain ⟨_,h⟩:=j7J j
 rcases h with ⟨n,cs,ks,rfl,_⟩ | ⟨n,rfl⟩ | ⟨n,c,rfl,A⟩ | ⟨n,m,rfl,B⟩ | ⟨n,m,p,rfl,B,E⟩
 ·simp at k
 ·simp at k
 ·have q:(c.2.2.2.1|| !c.2.2.1)=true:=by
   unfold j13 at j
   rw [Bool.and_eq_true] at j
   have:=j.2
   simp only [show ((3:Int)==1)=false from rfl,show ((3:Int)==2)=false from rfl,show ((3:Int)==3)=true from rfl,cond_false,cond_true,Bool.and_eq_true] at this
   exact this.2.2.1
  show j08 (jim t c) (l.map λr=>r++[c.2.2.2.2])=true
  exact jhk _ w g (λr b=>jr2 b (jqh A q)) (λr b=>jpZ ht ((j8Y _ _).1 b).1 _)
 ·change (bif decide (j02 t.2.1 m<0) then (7:Int) else bif t.2.2.any (λx=>sEq x m) then 8 else 0)=0 at f
  show j08 (jfQ t m) (l.map λr=>r.eraseIdx (j02 t.2.1 m).toNat)=true
  cases i:decide (j02 t.2.1 m<0)<;>rw [i] at f
  ·cases y:t.2.2.any λx=>sEq x m<;>rw [y] at f
   ·have C:=of_decide_eq_false i
    have z:j02 t.2.1 m=(((j02 t.2.1 m).toNat:Nat):Int):=by omega
    refine jhk _ w g (λr b=> ?_) (λr b=>jqx ht z y ((j8Y _ _).1 b).1)
    rw [(jkM ht z).2]
    exact jre b _
   ·cases f
  ·cases f
 ·change (bif !decide (j02 t.2.1 p<0) then (5:Int) else bif decide (j02 t.2.1 m<0) then 7 else 0)=0 at f
  show j08 (jdM t m p) l=true
  cases i:decide (j02 t.2.1 p<0)<;>rw [i] at f
  ·cases f
  ·have:=jhk (t':=jdM t m p) id w g (λr b=>jqt b m p) (λr b=>jpC ht (of_decide_eq_true i) r)
   rw [List.map_id] at this
   exact this
theorem jot {c:List T} {l:List (List (List V))} (h:dbB (c,l)=true) {i:Nat} (n:i<c.length) {t:T} (p:t.1=c[i].1) {r:List (List V)} (m:j08 t r=true):dbB (c.set i t,l.set i r)=true:=by
 rw [j1p] at h ⊢
 obtain ⟨d,f,g⟩:=h
 dsimp only at d f g ⊢
 refine ⟨joF d n ((j66 _ _).1 m).1 p,by rw [List.length_set,List.length_set];exact f,λj k b=> ?_⟩
 rw [List.getElem_set,List.getElem_set]
 split
 ·exact m
 ·rw [List.length_set] at k b
  exact g j k b
theorem jpj {c:List T} {l:List (List (List V))} (h:dbB (c,l)=true) (i:Nat):dbB (c.eraseIdx i,l.eraseIdx i)=true:=by
 rw [j1p] at h ⊢
 obtain ⟨d,f,b⟩:=h
 dsimp only at d f b ⊢
 refine ⟨jl8 d i,by rw [List.length_eraseIdx,List.length_eraseIdx,f],λj k g=> ?_⟩
 rw [List.getElem_eraseIdx,List.getElem_eraseIdx]
 split
 ·exact b _ _ _
 ·exact b _ _ _
theorem jqm (c:List T) (t:T):∃ i,i<=c.length/\lay tR t c=c.take i++t::c.drop i:=by
 refine ⟨(c.takeWhile λy=> !tR t y).length,?_,?_⟩
 ·have:=congrArg List.length (List.takeWhile_append_dropWhile (p:=λy=> !tR t y) (l:=c))
  rw [List.length_append] at this
  omega
 ·have d:=List.takeWhile_append_dropWhile (p:=λy=> !tR t y) (l:=c)
  unfold lay
  generalize c.takeWhile (λy=> !tR t y)=a at d ⊢
  generalize c.dropWhile (λy=> !tR t y)=b at d ⊢
  rw [<-d]
  simp
theorem jn7 {c:List T} (h:j24 c=true) {t:T} (ht:j04 t=true) (k:j03 c t.1<0) (g:c.length<6):∃ i:Nat,i<=c.length/\j03 (lay tR t c) t.1=(i:Int)/\lay tR t c=c.take i++t::c.drop i:=by
 obtain ⟨i,f,d⟩:=jqm c t
 refine ⟨i,f,?_,d⟩
 have l:=((j0d _).1 (jl5 h ht k g)).2.2
 have b:i<(lay tR t c).length:=by rw [jkx];omega
 have j:(lay tR t c)[i]=t:=by
  simp only [d]
  rw [List.getElem_append_right (by rw [List.length_take];omega)]
  simp [List.length_take,Nat.min_eq_left f]
 have:=jdZ l b
 rw [j] at this
 exact this
theorem jov {α:Type} (l:List α) {i:Nat} (g:i<=l.length) (x:α) (j:Nat) (f:j<(l.take i++x::l.drop i).length):(l.take i++x::l.drop i)[j]=if h:j<i then l[j] else if b:j=i then x else l[j-1]'(by simp at f;omega):=by
 have d:(l.take i).length=i:=by rw [List.length_take];omega
 by_cases h:j<i
 ·rw [dif_pos h,List.getElem_append_left (by omega),List.getElem_take]
 ·rw [dif_neg h]
  by_cases b:j=i
  ·subst b
   rw [dif_pos rfl,List.getElem_append_right (by omega)]
   simp [d]
  ·rw [dif_neg b]
   obtain ⟨m,rfl⟩:∃ m,j=i+1+m:=⟨j-i-1,by omega⟩
   rw [List.getElem_append_right (by omega)]
   simp only [d,show i+1+m-i=m+1 by omega,List.getElem_cons_succ,List.getElem_drop]
   congr 1
   omega
theorem jr8 {c:List T} {l:List (List (List V))} (h:dbB (c,l)=true) {i:Nat} (q:i<=c.length) {t:T} (ht:j04 t=true) (p:j24 (c.take i++t::c.drop i)=true):dbB (c.take i++t::c.drop i,l.take i++[]::l.drop i)=true:=by
 rw [j1p] at h ⊢
 obtain ⟨m,n,f⟩:=h
 dsimp only at m n f ⊢
 refine ⟨p,by simp only [List.length_append,List.length_cons,List.length_take,List.length_drop];omega,λj k g=> ?_⟩
 rw [jov c q t j k,jov l (by omega) [] j g]
 have r:j<c.length+1:=by
  simp only [List.length_append,List.length_cons,List.length_take,List.length_drop] at k
  omega
 by_cases b:j<i
 ·rw [dif_pos b,dif_pos b];exact f j (by omega) (by omega)
 ·rw [dif_neg b,dif_neg b]
  by_cases d:j=i
  ·rw [dif_pos d,dif_pos d];exact jll ht
  ·rw [dif_neg d,dif_neg d];exact f (j-1) (by omega) (by omega)
theorem jcS:dbB zDB=true:=(j1p _).2 ⟨(j0d _).2 ⟨by simp,by simp,List.Pairwise.nil⟩,rfl,λi b=>by simp at b⟩
theorem jra {d:DB} (h:dbB d=true) {s:ST} (I:stB s=true) (g:(j1W d s).2=0):dbB (j1W d s).1=true:=by
 obtain ⟨c,l⟩:=d
 have A:=(j1p _).1 h
 obtain ⟨p,E,B⟩:=A
 dsimp only at p E B
 unfold j1W at g ⊢
 dsimp only at g ⊢
 cases D:decide (j03 c s.2.1<0)&& !((s.1==5)&&(s.2.2.2.2.1==1))<;>rw [D] at g
 ·rw [cond_false] at g ⊢
  cases y:s.1==5<;>rw [y] at g
  ·rw [cond_false] at g ⊢
   rw [y,Bool.false_and,Bool.not_false,Bool.and_true,decide_eq_false_iff_not] at D
   rcases j0o c s.2.1 with ⟨e,_⟩ | ⟨i,k,e,C⟩
   ·omega
   rw [e,Zay _ _ _ k,Zay _ _ _ (by omega),Int.toNat_natCast] at g ⊢
   cases b:(j2z c[i] (l[i]'(by omega)) s).2 != 0<;>rw [b] at g
   ·rw [cond_false]
    have H:=jqG (t:=c[i]) (l:=l[i]'(by omega)) (s:=s) (((j0d _).1 p).2.1 _ (List.getElem_mem _)) (by simpa using b)
    have:=jot h k (t:=c[i]) rfl H
    rw [List.set_getElem_self] at this
    exact this
   ·exact jcS
  ·rw [cond_true] at g ⊢
   cases b:j0b c s.2.2.2.2 != 0<;>rw [b] at g
   ·rw [cond_false]
    have b:j0b c s.2.2.2.2=0:=by simpa using b
    have f:j13 s.2.2.2.2=true:=by
     obtain ⟨_,h⟩:=jpM I
     rcases h with ⟨t,r,rfl,_⟩ | ⟨t,q,r,rfl,_⟩ | ⟨t,q,rfl,_⟩ | ⟨t,rfl⟩ | ⟨d,rfl,A⟩
     ·cases y
     ·cases y
     ·cases y
     ·cases y
     ·exact A
    have j:=jkq p f b
    generalize s.2.2.2.2=x at b f j ⊢
    unfold jhC
    dsimp only
    rcases jmI f with m | m | m
    ·rw [m,show ((1:Int)==1)=true from rfl,cond_true]
     unfold j0b at b
     unfold j14 at j ⊢
     rw [m,show ((1:Int)==1)=true from rfl,cond_true] at b j ⊢
     cases w:decide (j03 c x.2.1<0)<;>rw [w] at b
     ·cases b
     ·cases n:c.length==6<;>rw [n] at b
      ·have G:c.length≠6:=by simpa using n
       have z:j04 (x.2.1,x.2.2.1,x.2.2.2.1)=true:=by
        unfold j13 at f
        rw [m] at f
        simp only [Bool.and_eq_true,beq_self_eq_true,cond_true] at f
        exact f.2.2.2
       have J:=((j0d _).1 p).1
       obtain ⟨i,k,F,C⟩:=jn7 p z (of_decide_eq_true w) (by omega)
       rw [F,Int.toNat_natCast]
       rw [C] at j ⊢
       exact jr8 h k z j
      ·cases b
    ·rw [m,show ((2:Int)==1)=false from rfl,show ((2:Int)==2)=true from rfl,cond_false,cond_true]
     unfold j14
     rw [m,show ((2:Int)==1)=false from rfl,show ((2:Int)==2)=true from rfl,cond_false,cond_true]
     exact jpj h _
    ·rw [show (x.1==1)=false by simp;omega,show (x.1==2)=false by simp;omega,cond_false,cond_false]
     unfold j0b at b
     rw [show (x.1==1)=false by simp;omega,cond_false] at b
     unfold j14
     rw [show (x.1==1)=false by simp;omega,show (x.1==2)=false by simp;omega,cond_false,cond_false]
     cases w:decide (j03 c x.2.1<0)<;>rw [w] at b
     ·rcases j0o c x.2.1 with ⟨n,_⟩ | ⟨i,k,n,G⟩
      ·rw [n] at w;cases w
      ·rw [cond_false,n,Zay _ _ _ k] at b
       rw [n,Zay _ _ _ k,Zay _ _ _ (by omega),Int.toNat_natCast]
       exact jot h k (jgY _ _) (jr5 (((j0d _).1 p).2.1 _ (List.getElem_mem _)) f m b (B i k (by omega)))
     ·cases b
   ·exact jcS
 ·cases g
end
end Go.PI.G
namespace Go.PI.G
noncomputable section
open Go Go.PI
def j7Z (i:Nat) (d:DB) (s:ST):Except (Int×Int) DB:=bif !stB s then .error (1,(i:Int)) else bif (j1W d s).2 != 0 then .error ((j1W d s).2,(i:Int)) else .ok (j1W d s).1
def j0k (d:DB) (l:List ST):DB×Int×Int:=bif !dbB d then (([],[]),1,0) else match Z1S j7Z 0 l d with | .ok b=>(b,0,0) | .error e=>(([],[]),e.1,e.2)
theorem jj2 {i:Nat} {d j:DB} {s:ST} (h:dbB d=true) (b:j7Z i d s= .ok j):dbB j=true:=by
 unfold j7Z at b
 cases f:stB s
 ·rw [f] at b;cases b
 ·rw [f,Bool.not_true,cond_false] at b
  cases g:((j1W d s).2 != 0)
  ·rw [g,cond_false] at b
   cases b
   exact jra h f (by simpa using g)
  ·rw [g,cond_true] at b;cases b
theorem jo0 {d:DB} {l:List ST} (h:(j0k d l).2.1=0):dbB (j0k d l).1=true:=by
 unfold j0k at h ⊢
 cases g:dbB d
 ·rw [g] at h;cases h
 rw [g,Bool.not_true,cond_false] at h
 rw [Bool.not_true,cond_false]
 cases k:Z1S j7Z 0 l d with
 | ok q=>exact Z91 (λ_ a=>dbB a=true) l 0 d q g (λj x a p _ r b=>jj2 r b) k
 | error e=>
  rw [k] at h
  exfalso
  have h:e.1=0:=h
  have m:∀ (l:List ST) (i:Nat) (a:DB) (e:Int×Int),Z1S j7Z i l a= .error e->e.1≠0:=by
   intro l
   induction l with
   | nil=>intro i a e h;simp [Z1S] at h
   | cons x l y=>
    intro i a e h
    simp only [Z1S] at h
    cases b:j7Z i a x with
    | ok p=>rw [b] at h;exact y _ _ _ h
    | error z=>
     rw [b] at h
     cases h
     unfold j7Z at b
     cases n:stB x
     ·rw [n] at b;cases b;exact λw=>absurd (show (1:Int)=0 from w) (by decide)
     ·rw [n,Bool.not_true,cond_false] at b
      cases f:((j1W a x).2 != 0)
      ·rw [f] at b;cases b
      ·rw [f] at b
       cases b
       simpa using f
  exact m l 0 d e k h
abbrev RC:=Int×Int×ST
abbrev yRC:Ty:= .pair (.int .i64) (.pair (.int .i64) yST)
def jiq (s:ST):Bool:=(s.1==0)&&(sEq s.2.1 eS&&((s.2.2.1.length==0)&&((s.2.2.2.1.length==0)&&noD s.2.2.2.2)))
theorem jqv (s:ST):jiq s=true↔s=zST:=by
 obtain ⟨a,b,c,e,d⟩:=s
 unfold jiq
 simp only [Bool.and_eq_true,beq_iff_eq,j09,Prod.mk.injEq,List.length_eq_zero_iff,jfe]
def j9Z (r:RC):Bool:=decide (1<=r.1/\r.1<=4)&&(decide (1<=r.2.1/\r.2.1<=1000000)&&(bif r.1==2 then stB r.2.2 else jiq r.2.2))
theorem jk0 {r:RC} (h:j9Z r=true):(1<=r.1/\r.1<=4)/\(1<=r.2.1/\r.2.1<=1000000)/\((r.1=2/\stB r.2.2=true)\/(r.1≠2/\r.2.2=zST)):=by
 unfold j9Z at h
 rw [Bool.and_eq_true,Bool.and_eq_true,decide_eq_true_eq,decide_eq_true_eq] at h
 refine ⟨h.1,h.2.1,?_⟩
 have b:=h.2.2
 cases d:r.1==2
 ·rw [d,cond_false] at b
  exact .inr ⟨by simpa using d,(jqv _).1 b⟩
 ·rw [d,cond_true] at b
  exact .inl ⟨by simpa using d,b⟩
def j4N (l:List RC) (x:Int):Bool:=l.any λr=>(r.1==1)&&(r.2.1==x)
def j1V (l:List Int) (n:Int):Bool:=l.any λx=>x==n
def j51 (o:List Int) (r:RC):List Int:=
 bif r.1==1 then (bif j1V o r.2.1 then o else o++[r.2.1]) else bif (r.1==3)||(r.1==4) then o.filter (λy=> !(y==r.2.1)) else o
def j0J (l:List RC):List Int:=l.foldl j51 []
def j2j (l:List RC):List Int:=(l.filter λr=>r.1==1).map λr=>r.2.1
def jhz (x:Int) (_:Int) (r:RC):List ST:=bif (r.1==2)&&(r.2.1==x) then [r.2.2] else []
def j1h (l:List RC) (x:Int):List ST:=Z4r (jhz x) 0 l
def j52 (p:List RC) (d:DB) (r:RC):Except Unit DB:=
 bif !j9Z r then .error () else
 bif r.1==1 then (bif j4N p r.2.1 then .error () else .ok d) else
 bif !j1V (j0J p) r.2.1 then .error () else
 bif r.1==3 then (bif (j0k d (j1h p r.2.1)).2.1 != 0 then .error () else .ok (j0k d (j1h p r.2.1)).1) else .ok d
def j1C (d:DB) (l:List RC):Except Unit DB:=Z1S (λi d r=>j52 (l.take i) d r) 0 l d
def jql {A E:Type} (r:Except E A):Bool:=match r with
 | .ok _=>true
 | .error _=>false
def jrw (r:Except Unit DB):DB:=match r with
 | .ok d=>d
 | .error _=>zDB
def j28 (l:List RC):Bool:=decide (l.length<=400)&&jql (j1C zDB l)
theorem jlq {α A E:Type} (f:Nat->A->α->Except E A):(l m:List α)->(i:Nat)->(a:A)->Z1S f i (l++m) a=match Z1S f i l a with | .ok b=>Z1S f (i+l.length) m b | .error e=> .error e
 | [],m,i,a=>rfl
 | x::l,m,i,a=>by
  simp only [List.cons_append,Z1S]
  cases f i a x with
  | ok b=>
   dsimp only
   rw [jlq f l m (i+1) b,List.length_cons,show i+1+l.length=i+(l.length+1) by omega]
  | error e=>rfl
theorem jie {α A E:Type} {f g:Nat->A->α->Except E A}:(l:List α)->(i:Nat)->(∀ j a,(h:j<l.length)->f (i+j) a l[j]=g (i+j) a l[j])->∀ a,Z1S f i l a=Z1S g i l a
 | [],i,h,a=>rfl
 | x::l,i,h,a=>by
  have k:=h 0 a (Nat.succ_pos _)
  simp only [Z1S]
  rw [show f i a x=g i a x from k]
  cases g i a x with
  | ok d=>
   refine jie l (i+1) (λj b m=> ?_) d
   have:=h (j+1) b (Nat.succ_lt_succ m)
   rw [show i+(j+1)=i+1+j by omega] at this
   exact this
  | error e=>rfl
theorem jpG (d:DB) (l:List RC) (r:RC):j1C d (l++[r])=match j1C d l with | .ok b=>j52 l b r | .error e=> .error e:=by
 unfold j1C
 rw [jlq,jie (g:=λi d r=>j52 (l.take i) d r) l 0 (λj a h=>by
  rw [Nat.zero_add,List.take_append_of_le_length (Nat.le_of_lt h)])]
 cases Z1S (λi d r=>j52 (l.take i) d r) 0 l d with
 | error e=>rfl
 | ok b=>
  simp only [Z1S,Nat.zero_add]
  rw [List.take_left' rfl]
  cases j52 l b r<;>rfl
theorem jlf (d:DB) (l:List RC) (i:Nat) (f:i<l.length):j1C d (l.take (i+1))=match j1C d (l.take i) with | .ok b=>j52 (l.take i) b l[i] | .error e=> .error e:=by
 rw [List.take_succ_eq_append_getElem f,jpG]
theorem jqz {d i:DB} {l:List RC} (h:j1C d l= .ok i) (n:Nat):∃ b,j1C d (l.take n)= .ok b:=by
 have g:∀ (m k:Nat),k+m=l.length->∃ b,j1C d (l.take k)= .ok b:=by
  intro m
  induction m with
  | zero=>intro k q;rw [List.take_of_length_le (by omega)];exact ⟨i,h⟩
  | succ m w=>
   intro k q
   obtain ⟨b,f⟩:=w (k+1) (by omega)
   rw [jlf d l k (by omega)] at f
   cases r:j1C d (l.take k) with
   | ok p=>exact ⟨p,rfl⟩
   | error e=>rw [r] at f;cases f
 rcases Nat.lt_or_ge n l.length with j | j
 ·exact g (l.length-n) n (by omega)
 ·exact g 0 l.length (by omega) |>.elim λb f=>⟨b,by rw [List.take_of_length_le j];rw [List.take_of_length_le (Nat.le_refl _)] at f;exact f⟩
theorem jiX {p:List RC} {d f:DB} {r:RC} (i:dbB d=true) (h:j52 p d r= .ok f):dbB f=true:=by
 unfold j52 at h
 cases j:j9Z r<;>rw [j] at h
 ·cases h
 rw [Bool.not_true,cond_false] at h
 cases k:r.1==1<;>rw [k] at h
 ·rw [cond_false] at h
  cases b:j1V (j0J p) r.2.1<;>rw [b] at h
  ·cases h
  rw [Bool.not_true,cond_false] at h
  cases l:r.1==3<;>rw [l] at h
  ·cases h;exact i
  ·rw [cond_true] at h
   cases g:(j0k d (j1h p r.2.1)).2.1 != 0<;>rw [g] at h
   ·cases h;exact jo0 (by simpa using g)
   ·cases h
 ·rw [cond_true] at h
  cases b:j4N p r.2.1<;>rw [b] at h
  ·cases h;exact i
  ·cases h
theorem jrg {d b:DB} {l:List RC} (g:dbB d=true) (h:j1C d l= .ok b):dbB b=true:=
 Z91 (λ_ a=>dbB a=true) l 0 d b g (λj x a k _ f i=>jiX f i) h
theorem jna (l:List RC):j28 l=true↔l.length<=400/\∃ d,j1C zDB l= .ok d:=by
 unfold j28
 rw [Bool.and_eq_true,decide_eq_true_eq]
 cases j1C zDB l with
 | ok d=>simp [jql]
 | error e=>simp [jql]
theorem jqo {l:List RC} (h:j28 l=true) (n:Nat):∃ d,j1C zDB (l.take n)= .ok d/\dbB d=true:=by
 obtain ⟨_,d,g⟩:=(jna l).1 h
 obtain ⟨f,b⟩:=jqz g n
 exact ⟨f,b,jrg jcS b⟩
theorem jfL (l:List RC) (r:RC):j0J (l++[r])=j51 (j0J l) r:=by
 unfold j0J
 rw [List.foldl_append]
 rfl
theorem jp8 (l:List RC) (r:RC) (x:Int):j4N (l++[r]) x=(j4N l x||((r.1==1)&&(r.2.1==x))):=by
 unfold j4N
 rw [List.any_append]
 simp
theorem jkc (l:List RC) (r:RC):j2j (l++[r])=bif r.1==1 then j2j l++[r.2.1] else j2j l:=by
 unfold j2j
 rw [List.filter_append,List.map_append]
 cases h:r.1==1
 ·rw [List.filter_cons_of_neg (by rw [h];simp),List.filter_nil,List.map_nil,List.append_nil,cond_false]
 ·rw [List.filter_cons_of_pos (p:=λr:RC=>r.1==1) h,List.filter_nil,cond_true]
  rfl
theorem jlo (l:List RC) (x:Int):j1V (j2j l) x=j4N l x:=by
 unfold j1V j2j j4N
 rw [List.any_map,List.any_filter]
 rfl
theorem jlp (l:List RC):(j2j l).length<=l.length:=by
 unfold j2j
 rw [List.length_map]
 exact List.length_filter_le _ _
theorem jqj (a:List Int) (y x:Int):j1V (a++[y]) x=(j1V a x||(y==x)):=by
 unfold j1V
 rw [List.any_append]
 simp
theorem jpD (x:Int):(n:Nat)->(l:List RC)->l.length=n->j1V (j0J l) x=true->j4N l x=true:=by
 intro n
 induction n with
 | zero=>
  intro l f h
  have:l=[]:=List.length_eq_zero_iff.1 f
  subst this
  exact absurd h (by unfold j0J j1V;simp)
 | succ n i=>
  intro l f h
  have d:l≠[]:=λe=>by rw [e] at f;simp at f
  have e:l=l.dropLast++[l.getLast d]:=(List.dropLast_concat_getLast d).symm
  generalize p:l.dropLast=m at e
  generalize l.getLast d=r at e
  have b:m.length=n:=by rw [<-p,List.length_dropLast];omega
  subst e
  rw [jfL] at h
  rw [jp8,Bool.or_eq_true]
  unfold j51 at h
  cases k:r.1==1<;>rw [k] at h
  ·rw [cond_false] at h
   refine .inl (i m b ?_)
   cases g:(r.1==3)||(r.1==4)<;>rw [g] at h
   ·exact h
   ·rw [cond_true] at h
    unfold j1V at h ⊢
    rw [List.any_filter] at h
    obtain ⟨y,q,j⟩:=List.any_eq_true.1 h
    exact List.any_eq_true.2 ⟨y,q,(by rw [Bool.and_eq_true] at j;exact j.2)⟩
  ·rw [cond_true] at h
   cases g:j1V (j0J m) r.2.1<;>rw [g] at h
   ·rw [cond_false,jqj,Bool.or_eq_true] at h
    rcases h with h | h
    ·exact .inl (i m b h)
    ·exact .inr (by rw [h];rfl)
   ·exact .inl (i m b h)
theorem jjO {l:List RC} {x:Int} (h:j4N l x=false):j1V (j0J l) x=false:=by
 cases b:j1V (j0J l) x
 ·rfl
 ·rw [jpD x _ l rfl b] at h;cases h
theorem jle (o:List Int) (r:RC):(j51 o r).length<=o.length+1:=by
 unfold j51
 cases r.1==1
 ·cases (r.1==3)||(r.1==4)
  ·exact Nat.le_succ _
  ·exact Nat.le_succ_of_le (List.length_filter_le _ _)
 ·cases j1V o r.2.1
  ·show (o++[r.2.1]).length<=_;simp
  ·exact Nat.le_succ _
theorem jf6:(l:List RC)->(o:List Int)->(l.foldl j51 o).length<=o.length+l.length
 | [],o=>Nat.le_refl _
 | r::l,o=>by
  have b:=jf6 l (j51 o r)
  have d:=jle o r
  rw [List.foldl_cons,List.length_cons]
  omega
theorem jha (l:List RC):(j0J l).length<=l.length:=by
 have:=jf6 l []
 simpa [j0J] using this
theorem jj3 (x i:Int) (r:RC):(jhz x i r).length<=1:=by
 unfold jhz
 cases (r.1==2)&&(r.2.1==x)
 ·exact Nat.zero_le _
 ·exact Nat.le_refl _
theorem jfW (l:List RC) (x:Int):(j1h l x).length<=l.length:=Z94 _ (jj3 x) 0 l
theorem jl0 {α β:Type} {g:Int->α->List β} {P:β->Prop}:(j:Nat)->(l:List α)->(h:∀ i,∀ x∈l,∀ y∈g i x,P y)->∀ y∈Z4r g j l,P y
 | _,[],h,y,b=>by cases b
 | j,x::l,h,y,b=>by
  rcases List.mem_append.1 b with b | b
  ·exact h _ x (by simp) y b
  ·exact jl0 (j+1) l (λi x d=>h i x (List.mem_cons_of_mem _ d)) y b
theorem jp5 {l:List RC} {x:Int} {s:ST} (f:s∈j1h l x):∃ r∈l,s=r.2.2:=
 jl0 (P:=λs=>∃ r∈l,s=r.2.2) 0 l (λi r d y b=>by
  unfold jhz at b
  cases h:(r.1==2)&&(r.2.1==x)<;>rw [h] at b
  ·cases b
  ·exact ⟨r,d,by simpa using b⟩) s f
def j8Q (i:Int) (r:RC):List Int:=bif r.1==3 then [i+1] else []
def j0D (l:List RC):List Int:=bif j28 l then Z4r j8Q 0 l else []
theorem jfC (i:Int) (r:RC):(j8Q i r).length<=1:=by
 unfold j8Q
 cases r.1==3
 ·exact Nat.zero_le _
 ·exact Nat.le_refl _
theorem jh0 (l:List RC):(j0D l).length<=l.length:=by
 unfold j0D
 cases j28 l
 ·exact Nat.zero_le _
 ·exact Z94 _ jfC 0 l
theorem jos {c:Int}:(l:List RC)->(j:Nat)->(c∈Z4r j8Q j l↔∃ (i:Nat) (h:i<l.length),c=(j:Int)+i+1/\(l[i].1==3)=true)
 | [],j=>by simp [Z4r]
 | r::l,j=>by
  show c∈j8Q j r++Z4r j8Q (j+1) l↔_
  rw [List.mem_append,jos l (j+1)]
  constructor
  ·rintro (h | ⟨i,d,f,b⟩)
   ·unfold j8Q at h
    cases g:r.1==3<;>rw [g] at h
    ·cases h
    ·exact ⟨0,Nat.succ_pos _,by simpa using h,g⟩
   ·exact ⟨i+1,Nat.succ_lt_succ d,by omega,b⟩
  ·rintro ⟨i,d,f,b⟩
   cases i with
   | zero=>
    refine .inl ?_
    have b:(r.1==3)=true:=b
    unfold j8Q
    rw [b,cond_true]
    simpa using f
   | succ i=>exact .inr ⟨i,Nat.lt_of_succ_lt_succ d,by omega,b⟩
end
end Go.PI.G
set_option linter.unusedSimpArgs false
namespace Go.PI.G
open Go Go.PI Go.Proofs
theorem jok (s:ST) (k:Bool->Res):j63 s k=k (jiq s):=by
 unfold j63 jiq
 rw [j3o,j3o,jka]
 cases s.1==0
 ·rfl
 ·cases sEq s.2.1 eS
  ·rfl
  ·cases s.2.2.1.length==0
   ·rfl
   ·cases s.2.2.2.1.length==0<;>rfl
theorem jo7 (s:ST) (k:Bool->Res):j6B s k=k (jiq s):=by
 unfold j6B jiq
 rw [j3o,j3o,jjk]
 cases s.1==0
 ·rfl
 ·cases sEq s.2.1 eS
  ·rfl
  ·cases s.2.2.1.length==0
   ·rfl
   ·cases s.2.2.2.1.length==0<;>rfl
theorem jp3 (r:RC) (h:j0P r.2.2) (k:Bool->Res):j7Y r k=k (j9Z r):=by
 unfold j7Y j8I j9Z
 by_cases d:1<=r.1/\r.1<=4
 ·rw [decide_eq_false (show ¬ r.1<1 by omega),cond_false,decide_eq_false (show ¬ r.1>4 by omega),cond_false,decide_eq_true d,Bool.true_and]
  by_cases f:1<=r.2.1/\r.2.1<=1000000
  ·rw [decide_eq_false (show ¬ r.2.1<1 by omega),cond_false,decide_eq_false (show ¬ r.2.1>1000000 by omega),decide_eq_true f,Bool.true_and]
   dsimp only
   rw [cond_false,jhw _ h,jok]
   cases r.1==2<;>rfl
  ·rw [decide_eq_false f]
   by_cases b:r.2.1<1
   ·rw [decide_eq_true b];rfl
   ·rw [decide_eq_false b,decide_eq_true (show r.2.1>1000000 by omega)];rfl
 ·rw [decide_eq_false d]
  by_cases b:r.1<1
  ·rw [decide_eq_true b];rfl
  ·rw [decide_eq_false b,decide_eq_true (show r.1>4 by omega)];rfl
theorem jjm (r:RC) (h:j0P r.2.2) (k:Bool->Res):j4s r k=k (j9Z r):=by
 unfold j4s j9Z
 rw [j69,j69]
 cases decide (1<=r.1/\r.1<=4)
 ·rfl
 ·cases decide (1<=r.2.1/\r.2.1<=1000000)
  ·rfl
  ·rw [Bool.not_true,cond_false,cond_false,jl9 _ h,jo7]
   cases r.1==2<;>rfl
end Go.PI.G
namespace Go.PI.G
open Go Go.PI Go.Proofs
theorem joj (a b:V) (k:Bool->Res):j7y a b k=k (vlt a b):=by
 unfold j7y vlt
 rw [j7U,j7U]
 cases j0r a
 ·rfl
 ·cases j0r b
  ·rfl
  ·rw [Bool.not_true,cond_false,cond_false,Bool.true_and,Bool.true_and]
   cases a.1 != b.1
   ·rw [cond_false,cond_false]
    by_cases h:a.2.1=b.2.1
    ·rw [h,ZaO,cond_false,decide_eq_false (by omega),cond_false,beq_self_eq_true,cond_true]
    ·have d:(a.2.1 != b.2.1)=true:=by simp [h]
     have f:(a.2.1==b.2.1)=false:=by simp [h]
     rw [d,f,cond_true,cond_false]
     cases decide (a.2.1<b.2.1)<;>rfl
   ·rfl
theorem jo6 (a b:V) (k:Bool->Res):j7h a b k=k (vlt a b):=by
 unfold j7h vlt
 rw [j7K,j7K]
 cases j0r a
 ·rfl
 ·cases j0r b
  ·rfl
  ·rw [Bool.not_true,cond_false,cond_false,Bool.true_and,Bool.true_and]
   cases a.1 != b.1
   ·rw [cond_false,cond_false]
    cases a.2.1 != b.2.1<;>rfl
   ·rfl
end Go.PI.G
namespace Go.PI.G
open Go Go.PI Go.Proofs
theorem jkZ {α V K:Type} (l:List α) (j:Int->V) (b:Nat->α->Bool) (p:Nat->Prop) {step:V->(V->Res)->K->Res} (q:K) (d k:Res) (r:l.length<=LIM) (n:p 0)
  (z:∀ (i:Nat),(g:i<l.length)->p i->b i l[i]=false->p (i+1))
  (A:∀ (i:Nat) rec,(g:i<l.length)->p i->step (j i) rec q=bif b i l[i] then k else rec (j ((i:Int)+1))) (y:∀ rec,step (j (l.length:Int)) rec q=d) :
  Z1f step Z1c (j 0) q=bif Z71 b 0 l then k else d:=by
 have h:=Z3Z l (λi (_:Unit)=>j i) (λi _ x=>if b i x then .error () else (.ok ():Except Unit Unit)) (λi _=>p i) q (λ_=>d) (λ_=>k) () r n (λi a C g f m=>by
   refine z i g f ?_
   cases w:b i l[i] with
   | false=>rfl
   | true=>rw [w] at m;cases m)
  (λi a rec g f=>by
   rw [A i rec g f]
   cases b i l[i]<;>rfl) (λa rec _=>y rec)
 rw [h]
 have:∀ (l:List α) (i:Nat),Z1S (λi _ x=>if b i x then .error () else (.ok ():Except Unit Unit)) i l ()=bif Z71 b i l then .error () else .ok ():=by
  intro l
  induction l with
  | nil=>intro i;rfl
  | cons x l B=>
   intro i
   simp only [Z1S,Z71]
   cases b i x with
   | true=>rfl
   | false=>exact B _
 rw [this]
 cases Z71 b 0 l<;>rfl
theorem ji6 (c:C) (f:j12 c=true) (v:V) (k:Bool->Res):j3Y c v k=k (j3w c v):=by
 have g:=jr6 f
 unfold j3Y j3w
 rw [j7U,j7U]
 cases b:v.1==0
 ·cases j0r v
  ·rfl
  ·rw [cond_false,cond_true,Bool.false_and,Bool.or_false,Bool.true_and]
 ·have d:(v.1==c.2.1)=false:=by
   rw [beq_iff_eq] at b
   simp;omega
  rw [d,Bool.true_and,Bool.false_or]
  cases j0r v<;>rfl
theorem jo5 (c:C) (v:V) (k:Bool->Res):jbo c v k=k (j3w c v):=by
 unfold jbo j3w
 rw [j7K]
 cases j0r v
 ·rfl
 ·cases v.1==c.2.1
  ·cases v.1==0<;>rfl
  ·rfl
theorem jfV (t:T) (h:msr yT t<=1048576) (r:List V) (k:Bool->Res):j2i t r k=k (j04 t&&j0q t.2.1 r):=by
 obtain ⟨g,j,l,m,p⟩:=j2y h
 unfold j2i
 rw [jcx t h]
 cases ht:j04 t
 ·rfl
 ·rw [Bool.not_true,cond_false,Bool.true_and]
  unfold j0q
  by_cases d:r.length=t.2.1.length
  ·have f:(nI r.length != nI t.2.1.length)=false:=by rw [d,ZaO]
   rw [f,cond_false,decide_eq_true d,Bool.true_and]
   unfold jc4
   have:=Z9P t.2.1 (λi=>i) (λi c=> !j3w c (nth zV r (i:Int))) (step:=j74 t.2.1 (nI t.2.1.length) r) ((λ(_:Unit)=>k true),(λ(_:Unit)=>k false)) (k true) (k false) (by unfold LIM;omega) (λi rec b=>by
    show j4J _ _ r _ _ _ _=_
    unfold j4J
    rw [ZaQ b,cond_true,j00 b,cond_true,j00 (d ▸ b),cond_true,Zay _ _ _ b,ji6 _ (jl4 (j1I ht).2.2.2.2.1 i b),j01 (n:=(i:Int)+1) (by omega)]) (λrec=>by
    show j4J _ _ r _ _ _ _=_
    unfold j4J
    rw [ZaP,cond_false])
   refine this.trans ?_
   cases Z71 (λi c=> !j3w c (nth zV r (i:Int))) 0 t.2.1<;>rfl
  ·have f:(nI r.length != nI t.2.1.length)=true:=by unfold nI;simp;omega
   rw [f,cond_true,decide_eq_false d,Bool.false_and]
theorem jfF (t:T) (h:msr yT t<=1048576) (r:List V) (k:Bool->Res):j39 t r k=k (j0q t.2.1 r):=by
 obtain ⟨g,j,l,m,p⟩:=j2y h
 unfold j39 j0q
 by_cases b:r.length=t.2.1.length
 ·have d:(nI r.length != nI t.2.1.length)=false:=by rw [b,ZaO]
  rw [d,cond_false,decide_eq_true b,Bool.true_and]
  unfold jgi
  have:=Z9P t.2.1 (λi=>i) (λi c=> !j3w c (nth zV r (i:Int))) (step:=j9O r (nI r.length) t) ((λ(_:Unit)=>k true),(λ(_:Unit)=>k false)) (k true) (k false) (by unfold LIM;omega) (λi rec f=>by
   show j4x _ _ t _ _ _ _=_
   unfold j4x
   rw [b,ZaQ f,cond_true,j00 f,cond_true,cond_true,Zay zC _ _ f,jo5,j01 (n:=(i:Int)+1) (by omega)]) (λrec=>by
   show j4x _ _ t _ _ _ _=_
   unfold j4x
   rw [b,ZaP,cond_false])
  refine this.trans ?_
  cases Z71 (λi c=> !j3w c (nth zV r (i:Int))) 0 t.2.1<;>rfl
 ·have d:(nI r.length != nI t.2.1.length)=true:=by unfold nI;simp;omega
  rw [d,cond_true,decide_eq_false b,Bool.false_and]
theorem j0x {l:List C} {r:List V} (h:j0q l r=true):r.length=l.length:=by
 unfold j0q at h
 rw [Bool.and_eq_true,decide_eq_true_eq] at h
 exact h.1
theorem j8S {α β:Type} (f:α->β):(l:List α)->l.flatMap (λx=>[f x])=l.map f
 | []=>rfl
 | x::l=>by rw [List.flatMap_cons,j8S f l];rfl
theorem j8U (t:T) (r:List V):(j06 t r).length=t.2.2.length:=by unfold j06;simp
theorem j6l (t:T) (h:msr yT t<=1048576) (ht:j04 t=true) (r:List V) (m:r.length=t.2.1.length) (k:List V->Res):j0z t r k=k (j06 t r):=by
 obtain ⟨p,q,w,y,z⟩:=j2y h
 unfold j0z jfm
 have g:=j1e t.2.2 (-1) (by omega) (j1I ht).2.2.2.2.2
 have:=Z9T t.2.2 (λi b=>(b,i)) (λn=>[nth zV r (j02 t.2.1 n)]) 1048576 [] (step:=j96 t.2.2 (nI t.2.2.length) t r) (λb=>k b) (λb=>k b) (by unfold LIM;omega) (λi d _=>by
  rw [j8S,List.nil_append,List.length_map,List.length_take];omega) (by simp) (λi b rec d l _=>by
  show j3Z _ _ t r _ _ _ _=_
  unfold j3Z
  have f:=g _ (List.getElem_mem d)
  have j:b.length=i:=by
   rw [l,j8S,List.nil_append,List.length_map,List.length_take];omega
  dsimp only
  rw [ZaQ d,cond_true,j00 d,cond_true,Zay _ _ _ d,j67 t _ (by unfold LIM;omega),ZaK f.1 (by omega),cond_true,ZaL (by unfold LIM;omega),cond_true,j01 (n:=(i:Int)+1) (by omega)]) (λb rec=>by
  show j3Z _ _ t r _ _ _ _=_
  unfold j3Z
  dsimp only
  rw [ZaP,cond_false])
 refine this.trans ?_
 rw [j8S,List.nil_append]
 rfl
theorem jfi (a b:List V) (j:a.length<=LIM) (k:Bool->Res):j3S a b k=k (klt a b):=by
 unfold j3S jdU
 unfold LIM at j
 have h:∀ (d i n:Nat),i+d=a.length->d<n->i<=b.length->Z1f (j8d a b) n (i:Int) ((λ(_:Unit)=>k (decide (nI a.length<nI b.length))),(λ(t:Bool)=>k t))=k (klt (a.drop i) (b.drop i)):=by
  intro d
  induction d with
  | zero=>
   intro i n p q l
   obtain ⟨n,rfl⟩:∃ m,n=m+1:=⟨n-1,by omega⟩
   have:i=a.length:=by omega
   subst this
   show j2X a b _ _ _ _=_
   unfold j2X
   rw [ZaP,cond_false,List.drop_length]
   show k (decide (nI a.length<nI b.length))=_
   by_cases g:a.length<b.length
   ·rw [List.drop_eq_getElem_cons g,decide_eq_true (show nI a.length<nI b.length by unfold nI;omega)]
    rfl
   ·rw [List.drop_of_length_le (by omega),decide_eq_false (show ¬ nI a.length<nI b.length by unfold nI;omega)]
    rfl
  | succ d r=>
   intro i n p q l
   obtain ⟨n,rfl⟩:∃ m,n=m+1:=⟨n-1,by omega⟩
   have f:i<a.length:=by omega
   show j2X a b _ _ _ _=_
   unfold j2X
   rw [ZaQ f,cond_true,List.drop_eq_getElem_cons f]
   by_cases g:i<b.length
   ·rw [ZaQ g,cond_true,j00 f,cond_true,j00 g,cond_true,List.drop_eq_getElem_cons g,Zay _ _ _ f,Zay _ _ _ g,cond_true,cond_true,joj,j01 (n:=(i:Int)+1) (by omega)]
    show (bif !veq a[i] b[i] then _ else _)=k (bif veq a[i] b[i] then _ else _)
    cases veq a[i] b[i]
    ·rfl
    ·exact r (i+1) n (by omega) (by omega) (by omega)
   ·have:i=b.length:=by omega
    subst this
    rw [ZaP,cond_false,List.drop_length]
    show k (decide (nI a.length<nI b.length))=_
    rw [decide_eq_false (show ¬ nI a.length<nI b.length by unfold nI;omega)]
    rfl
 exact h a.length 0 Z1c (by omega) (Z2b (by omega)) (by omega)
theorem j38 (t:T) (h:msr yT t<=1048576) (ht:j04 t=true) (r:List V) (m:r.length=t.2.1.length) (k:List V->Res):j0H t r k=k (j06 t r):=by
 obtain ⟨p,q,w,y,z⟩:=j2y h
 unfold j0H jgh
 have g:=j1e t.2.2 (-1) (by omega) (j1I ht).2.2.2.2.2
 have:=Z9T t.2.2 (λi b=>(b,i)) (λn=>[nth zV r (j02 t.2.1 n)]) 1048576 [] (step:=j9N t.2.2 (nI t.2.2.length) t r) (λb=>k b) (λb=>k b) (by unfold LIM;omega) (λi d _=>by
  rw [j8S,List.nil_append,List.length_map,List.length_take];omega) (by simp) (λi b rec d l _=>by
  show j4w _ _ t r _ _ _ _=_
  unfold j4w
  have f:=g _ (List.getElem_mem d)
  have j:b.length=i:=by
   rw [l,j8S,List.nil_append,List.length_map,List.length_take];omega
  dsimp only
  rw [ZaQ d,cond_true,j00 d,cond_true,Zay _ _ _ d,j7e t _ (by unfold LIM;omega),ZaK f.1 (by omega),cond_true,ZaL (by unfold LIM;omega),cond_true,j01 (n:=(i:Int)+1) (by omega)]) (λb rec=>by
  show j4w _ _ t r _ _ _ _=_
  unfold j4w
  dsimp only
  rw [ZaP,cond_false])
 refine this.trans ?_
 rw [j8S,List.nil_append]
 rfl
theorem jaK (a b:List V) (j:a.length<=LIM) (k:Bool->Res):j3x a b k=k (klt a b):=by
 unfold j3x jdH
 unfold LIM at j
 have h:∀ (d i n:Nat),i+d=a.length->d<n->i<=b.length->Z1f (j86 a b) n (i:Int) ((λ(_:Unit)=>k (decide (nI a.length<nI b.length))),(λ(t:Bool)=>k t))=k (klt (a.drop i) (b.drop i)):=by
  intro d
  induction d with
  | zero=>
   intro i n p q l
   obtain ⟨n,rfl⟩:∃ m,n=m+1:=⟨n-1,by omega⟩
   have:i=a.length:=by omega
   subst this
   show j2O a b _ _ _ _=_
   unfold j2O
   rw [ZaP,cond_false,List.drop_length]
   show k (decide (nI a.length<nI b.length))=_
   by_cases g:a.length<b.length
   ·rw [List.drop_eq_getElem_cons g,decide_eq_true (show nI a.length<nI b.length by unfold nI;omega)]
    rfl
   ·rw [List.drop_of_length_le (by omega),decide_eq_false (show ¬ nI a.length<nI b.length by unfold nI;omega)]
    rfl
  | succ d r=>
   intro i n p q l
   obtain ⟨n,rfl⟩:∃ m,n=m+1:=⟨n-1,by omega⟩
   have f:i<a.length:=by omega
   show j2O a b _ _ _ _=_
   unfold j2O
   rw [ZaQ f,cond_true,List.drop_eq_getElem_cons f]
   by_cases g:i<b.length
   ·rw [ZaQ g,cond_true,j00 f,cond_true,j00 g,cond_true,List.drop_eq_getElem_cons g,Zay _ _ _ f,Zay _ _ _ g,cond_true,cond_true,jo6,j01 (n:=(i:Int)+1) (by omega)]
    show (bif !veq a[i] b[i] then _ else _)=k (bif veq a[i] b[i] then _ else _)
    cases veq a[i] b[i]
    ·rfl
    ·exact r (i+1) n (by omega) (by omega) (by omega)
   ·have:i=b.length:=by omega
    subst this
    rw [ZaP,cond_false,List.drop_length]
    show k (decide (nI a.length<nI b.length))=_
    rw [decide_eq_false (show ¬ nI a.length<nI b.length by unfold nI;omega)]
    rfl
 exact h a.length 0 Z1c (by omega) (Z2b (by omega)) (by omega)
theorem j6L (t:T) (h:msr yT t<=1048576) (l:List (List V)) (k:Bool->Res):j0y t l k=k (j08 t l):=by
 obtain ⟨B,C,D,E,F⟩:=j2y h
 unfold j0y j08
 rw [jcx t h]
 cases ht:j04 t
 ·rfl
 ·rw [Bool.not_true,cond_false,Bool.true_and]
  by_cases q:l.length<=60
  ·rw [decide_eq_false (show ¬ nI l.length>60 by unfold nI;omega),cond_false,decide_eq_true q,Bool.true_and]
   unfold jb7
   have:=jkZ l (λi=>i) (λi r=> !j0q t.2.1 r||(decide (0<i)&& !klt (j06 t (nth [] l ((i:Int)-1))) (j06 t r))) (λi=>∀ (j:Nat) (g:j<l.length),j<i->j0q t.2.1 l[j]=true) (step:=j3T l l (nI l.length) t) ((λ(_:Unit)=>k true),(λ(_:Unit)=>k false)) (k true) (k false) (by unfold LIM;omega) (λj _ g=>absurd g (by omega)) (λi f m w j g z=>by
    rw [Bool.or_eq_false_iff,Bool.not_eq_false'] at w
    by_cases d:j<i
    ·exact m j g d
    ·have:j=i:=by omega
     subst this
     exact w.1) (λi rec f m=>by
    show j2a l _ _ t _ _ _ _=_
    unfold j2a
    rw [ZaQ f,cond_true,j00 f,cond_true,Zay _ _ _ f,jfV t h]
    rw [ht,Bool.true_and]
    cases A:j0q t.2.1 l[i]
    ·rfl
    ·rw [Bool.not_true,cond_false,Bool.false_or,j01 (n:=(i:Int)+1) (by omega)]
     by_cases p:0<i
     ·have b:i-1<l.length:=by omega
      have y:((i:Int)-1)=((i-1:Nat):Int):=by omega
      rw [decide_eq_true (show (i:Int)>0 by omega),cond_true,decide_eq_true p,Bool.true_and,j01 (n:=(i:Int)-1) (by omega),y,j00 b,cond_true,Zay _ _ _ b,j6l t h ht _ (j0x (m _ b (by omega))),j6l t h ht _ (j0x A),jfi _ _ (by rw [j8U];unfold LIM;omega)]
     ·rw [decide_eq_false (show ¬ (i:Int)>0 by omega),cond_false,decide_eq_false p,Bool.false_and,cond_false]) (λrec=>by
    show j2a l _ _ t _ _ _ _=_
    unfold j2a
    rw [ZaP,cond_false])
   refine this.trans ?_
   cases Z71 (λi r=> !j0q t.2.1 r||(decide (0<i)&& !klt (j06 t (nth [] l ((i:Int)-1))) (j06 t r))) 0 l<;>rfl
  ·rw [decide_eq_true (show nI l.length>60 by unfold nI;omega),cond_true,decide_eq_false q,Bool.false_and]
theorem j8o (t:T) (h:msr yT t<=1048576) (l:List (List V)) (k:Bool->Res):j0Q t l k=k (j08 t l):=by
 obtain ⟨B,C,D,E,F⟩:=j2y h
 unfold j0Q j08
 rw [jfG t h]
 cases ht:j04 t
 ·rfl
 ·rw [Bool.not_true,cond_false,Bool.true_and]
  by_cases q:l.length<=60
  ·rw [decide_eq_false (show ¬ nI l.length>60 by unfold nI;omega),cond_false,decide_eq_true q,Bool.true_and]
   unfold jaM
   have:=jkZ l (λi=>i) (λi r=> !j0q t.2.1 r||(decide (0<i)&& !klt (j06 t (nth [] l ((i:Int)-1))) (j06 t r))) (λi=>∀ (j:Nat) (g:j<l.length),j<i->j0q t.2.1 l[j]=true) (step:=j3y l l (nI l.length) t) ((λ(_:Unit)=>k true),(λ(_:Unit)=>k false)) (k true) (k false) (by unfold LIM;omega) (λj _ g=>absurd g (by omega)) (λi f m w j g z=>by
    rw [Bool.or_eq_false_iff,Bool.not_eq_false'] at w
    by_cases d:j<i
    ·exact m j g d
    ·have:j=i:=by omega
     subst this
     exact w.1) (λi rec f m=>by
    show j25 l _ _ t _ _ _ _=_
    unfold j25
    rw [ZaQ f,cond_true,j00 f,cond_true,Zay _ _ _ f,jfF t h]
    cases A:j0q t.2.1 l[i]
    ·rfl
    ·rw [Bool.not_true,cond_false,Bool.false_or,j01 (n:=(i:Int)+1) (by omega)]
     by_cases p:0<i
     ·have b:i-1<l.length:=by omega
      have y:((i:Int)-1)=((i-1:Nat):Int):=by omega
      rw [decide_eq_true (show (i:Int)>0 by omega),cond_true,decide_eq_true p,Bool.true_and,j01 (n:=(i:Int)-1) (by omega),y,j00 b,cond_true,Zay _ _ _ b,j38 t h ht _ (j0x (m _ b (by omega))),j38 t h ht _ (j0x A),jaK _ _ (by rw [j8U];unfold LIM;omega)]
     ·rw [decide_eq_false (show ¬ (i:Int)>0 by omega),cond_false,decide_eq_false p,Bool.false_and,cond_false]) (λrec=>by
    show j25 l _ _ t _ _ _ _=_
    unfold j25
    rw [ZaP,cond_false])
   refine this.trans ?_
   cases Z71 (λi r=> !j0q t.2.1 r||(decide (0<i)&& !klt (j06 t (nth [] l ((i:Int)-1))) (j06 t r))) 0 l<;>rfl
  ·rw [decide_eq_true (show nI l.length>60 by unfold nI;omega),cond_true,decide_eq_false q,Bool.false_and]
theorem j0l {t:T} {l:List (List V)} (h:j08 t l=true):j04 t=true/\l.length<=60/\∀ r∈l,j0q t.2.1 r=true:=by
 unfold j08 at h
 simp only [Bool.and_eq_true,decide_eq_true_eq,Bool.not_eq_true'] at h
 refine ⟨h.1,h.2.1,λr d=> ?_⟩
 obtain ⟨i,b,rfl⟩:=List.getElem_of_mem d
 have:=jcl l 0 h.2.2 i b
 simp only [Bool.or_eq_false_iff,Bool.not_eq_false'] at this
 exact this.1
end Go.PI.G
namespace Go.PI.G
open Go Go.PI Go.Proofs
theorem jj9 {α K:Type} (z:α) (f:α->α->Bool) (a b:List α) {step:Int->(Int->Res)->K->Res} (q:K) (x y:Res) (h:a.length<=LIM) (g:a.length=b.length)
  (k:∀ (i:Nat) rec,(d:i<a.length)->(l:i<b.length)->step (i:Int) rec q=bif f a[i] b[i] then rec ((i:Int)+1) else y) (j:∀ rec,step (a.length:Int) rec q=x) :
  Z1f step Z1c 0 q=bif j0A z f a b then x else y:=by
 have:=Z9P a (λi=>i) (λi u=> !f u (nth z b (i:Int))) (step:=step) q x y h (λi rec d=>by
  rw [k i rec d (g ▸ d),Zay _ _ _ (g ▸ d)]
  cases f a[i] (b[i]'(g ▸ d))<;>rfl) j
 refine this.trans ?_
 unfold j0A
 rw [decide_eq_true g,Bool.true_and]
 cases Z71 (λi u=> !f u (nth z b (i:Int))) 0 a<;>rfl
theorem jjq {α β:Type} {a:List α} {b:List β} (h:¬ a.length=b.length):(nI a.length != nI b.length)=true:=by unfold nI;simp;omega
theorem jjp {α β:Type} {a:List α} {b:List β} (h:a.length=b.length):(nI a.length != nI b.length)=false:=by rw [h,ZaO]
theorem jmD {α:Type} {z:α} {f:α->α->Bool} {a b:List α} (h:¬ a.length=b.length):j0A z f a b=false:=by
 unfold j0A;rw [decide_eq_false h,Bool.false_and]
theorem jdT (a b:List V) (g:a.length<=LIM) (k:Bool->Res):j2c a b k=k (j0A zV veq a b):=by
 unfold j2c
 by_cases d:a.length=b.length
 ·rw [jjp d,cond_false]
  unfold jaE
  unfold LIM at g
  have:=jj9 zV veq a b (step:=j62 a b (nI a.length)) ((λ(_:Unit)=>k true),(λ(_:Unit)=>k false)) (k true) (k false) g d (λi rec f h=>by
   show j1v _ _ _ _ _ _ _=_
   unfold j1v
   rw [ZaQ f,cond_true,j00 f,cond_true,j00 h,cond_true,Zay _ _ _ f,Zay _ _ _ h,j01 (n:=(i:Int)+1) (by omega)]
   show (bif !veq a[i] b[i] then _ else _)=_
   cases veq a[i] b[i]<;>rfl) (λrec=>by
   show j1v _ _ _ _ _ _ _=_
   unfold j1v
   rw [ZaP,cond_false])
  refine this.trans ?_
  cases j0A zV veq a b<;>rfl
 ·rw [jjq d,cond_true,jmD d]
theorem j9G (a b:List V) (g:a.length<=LIM) (k:Bool->Res):j0Z a b k=k (j0A zV veq a b):=by
 unfold j0Z
 by_cases d:a.length=b.length
 ·rw [jjp d,cond_false]
  unfold jaC
  unfold LIM at g
  have:=jj9 zV veq a b (step:=j5P a b (nI a.length)) ((λ(_:Unit)=>k true),(λ(_:Unit)=>k false)) (k true) (k false) g d (λi rec f h=>by
   show j1s _ _ _ _ _ _ _=_
   unfold j1s
   rw [ZaQ f,cond_true,j00 f,cond_true,j00 h,cond_true,Zay _ _ _ f,Zay _ _ _ h,j01 (n:=(i:Int)+1) (by omega)]
   show (bif !veq a[i] b[i] then _ else _)=_
   cases veq a[i] b[i]<;>rfl) (λrec=>by
   show j1s _ _ _ _ _ _ _=_
   unfold j1s
   rw [ZaP,cond_false])
  refine this.trans ?_
  cases j0A zV veq a b<;>rfl
 ·rw [jjq d,cond_true,jmD d]
theorem j5R (t:T) (h:msr yT t<=1048576) (l:List (List V)) (f:j08 t l=true) (b:List V) (k:Int->Res):j17 t l b k=k (j05 t l b):=by
 obtain ⟨m,p,q,w,y⟩:=j2y h
 obtain ⟨g,z,j⟩:=j0l f
 unfold j17
 rw [j6L t h,f,Bool.not_true,cond_false]
 unfold jc3
 refine Z9S l (λi=>i) (λr=>j0A zV veq (j06 t r) b) (step:=j4I b l (nI l.length) t) _ k (by unfold LIM;omega) (λi rec d=> ?_) (λrec=> ?_)
 ·show j2C b _ _ t _ _ _ _=_
  unfold j2C
  rw [ZaQ d,cond_true,j00 d,cond_true,Zay _ _ _ d,j6l t h g _ (j0x (j _ (List.getElem_mem d))),jdT _ _ (by rw [j8U];unfold LIM;omega),j01 (n:=(i:Int)+1) (by omega)]
 ·show j2C b _ _ t _ _ _ _=_
  unfold j2C
  rw [ZaP,cond_false]
theorem j1z (t:T) (h:msr yT t<=1048576) (l:List (List V)) (f:j08 t l=true) (b:List V) (k:Int->Res):j0I t l b k=k (j05 t l b):=by
 obtain ⟨m,p,q,w,y⟩:=j2y h
 obtain ⟨g,z,j⟩:=j0l f
 unfold j0I j6j j82
 refine Z9S l (λi=>i) (λr=>j0A zV veq (j06 t r) b) (step:=j3b l (t,b) (nI l.length)) _ k (by unfold LIM;omega) (λi rec d=> ?_) (λrec=> ?_)
 ·show j0W _ _ _ _ _ _ _=_
  unfold j0W jbn
  rw [ZaQ d,cond_true,j00 d,cond_true,Zay _ _ _ d,j38 t h g _ (j0x (j _ (List.getElem_mem d))),j9G _ _ (by rw [j8U];unfold LIM;omega),j01 (n:=(i:Int)+1) (by omega)]
 ·show j0W _ _ _ _ _ _ _=_
  unfold j0W
  rw [ZaP,cond_false]
theorem jng (t:T) (l:List (List V)) (b:List V): -1<=j05 t l b/\j05 t l b<(l.length:Int):=jcm _ _
end Go.PI.G
