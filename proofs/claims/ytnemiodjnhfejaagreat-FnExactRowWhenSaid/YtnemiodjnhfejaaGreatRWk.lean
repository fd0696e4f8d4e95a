/-
  Program's code interpreted over typed values; printed texts; plain laws. No conditions.
-/
import Derived.Test.YtnemiodjnhfejaaGreatRWj
import Derived.Test.YtnemiodjnhfejaaGreatRWh
import Derived.Test.YtnemiodjnhfejaaGreatRWi
import Derived.Test.YtnemiodjnhfejaaGreatRWf
import Derived.Test.YtnemiodjnhfejaaGreatRWd
set_option linter.unusedVariables false
namespace Go.PI.G
noncomputable section
open Go Go.PI
def j1M {α:Type} (z:α) (f:α->α->Bool) (a b:List α):Bool:=decide (a.length=b.length)&& !Z71 (λi x=> !f x (nth z b (i:Int))) 0 a
theorem jpF {α:Type} {z:α} {f:α->α->Bool} (d:∀ x y,f x y=true↔x=y) (a b:List α):j1M z f a b=true↔a=b:=by
 unfold j1M
 rw [Bool.and_eq_true,decide_eq_true_eq,Bool.not_eq_true',j9D]
 constructor
 ·rintro ⟨m,h⟩
  refine List.ext_getElem m λi g k=> ?_
  have:=h i g
  rw [Nat.zero_add,Zay _ _ _ k,Bool.not_eq_false'] at this
  exact (d _ _).1 this
 ·rintro rfl
  refine ⟨rfl,λj l=> ?_⟩
  rw [Nat.zero_add,Zay _ _ _ l,(d _ _).2 rfl];rfl
theorem j4O (a b:List V):j1M zV veq a b=true↔a=b:=jpF jgh a b
def j06 (t:T) (l:List (List V)) (b:List V):Int:=Z9F (λr=>j1M zV veq (j07 t r) b) l
theorem jaO (t:T) (l:List (List V)) (b:List V):(j06 t l b= -1/\∀ r∈l,j07 t r≠b)\/∃ (i:Nat) (g:i<l.length),j06 t l b=(i:Int)/\j07 t l[i]=b:=by
 rcases jaw (λr=>j1M zV veq (j07 t r) b) l with ⟨d,f⟩ | ⟨i,g,d,f,j⟩
 ·refine .inl ⟨d,λr h e=> ?_⟩
  have:=f r h
  rw [(j4O _ _).2 e] at this
  cases this
 ·exact .inr ⟨i,g,d,(j4O _ _).1 f⟩
theorem jl8 (t:T) (l:List (List V)) (b:List V):decide (j06 t l b<0)= !l.any λr=>j1M zV veq (j07 t r) b:=by
 rcases jaO t l b with ⟨f,d⟩ | ⟨i,j,f,d⟩
 ·rw [decide_eq_true (by omega)]
  have:(l.any λr=>j1M zV veq (j07 t r) b)=false:=by
   rw [List.any_eq_false]
   intro r g h
   exact d r g ((j4O _ _).1 h)
  rw [this];rfl
 ·rw [decide_eq_false (by omega)]
  have:(l.any λr=>j1M zV veq (j07 t r) b)=true:=by
   rw [List.any_eq_true]
   exact ⟨l[i],List.getElem_mem _,(j4O _ _).2 d⟩
  rw [this];rfl
def lay {α:Type} (R:α->α->Bool) (x:α) (l:List α):List α:=l.takeWhile (λy=> !R x y)++x::l.dropWhile (λy=> !R x y)
theorem jlL {α:Type} {R:α->α->Bool} {x z:α} {l:List α}:z∈lay R x l↔z=x\/z∈l:=by
 unfold lay
 rw [List.mem_append,List.mem_cons]
 have:z∈l↔z∈l.takeWhile (λy=> !R x y)\/z∈l.dropWhile (λy=> !R x y):=by
  rw [<-List.mem_append,List.takeWhile_append_dropWhile]
 rw [this]
 constructor
 ·rintro (h | h | h)
  ·exact .inr (.inl h)
  ·exact .inl h
  ·exact .inr (.inr h)
 ·rintro (h | h | h)
  ·exact .inr (.inl h)
  ·exact .inl h
  ·exact .inr (.inr h)
theorem jlI {α:Type} (R:α->α->Bool) (x:α) (l:List α):(lay R x l).length=l.length+1:=by
 unfold lay
 have:=congrArg List.length (List.takeWhile_append_dropWhile (p:=λy=> !R x y) (l:=l))
 rw [List.length_append] at this
 rw [List.length_append,List.length_cons]
 omega
theorem joe {α:Type} {R:α->α->Bool} (i:∀ a b c,R a b=true->R b c=true->R a c=true) (x:α):(l:List α)->(l.Pairwise λa b=>R a b=true)->(∀ y∈l,R x y=true\/R y x=true)->(lay R x l).Pairwise λa b=>R a b=true
 | [],_,_=>List.pairwise_singleton _ _
 | y::l,h,ht=>by
  rw [List.pairwise_cons] at h
  cases d:R x y
  ·have e:lay R x (y::l)=y::lay R x l:=by
    unfold lay
    rw [List.takeWhile_cons,List.dropWhile_cons,d]
    rfl
   rw [e,List.pairwise_cons]
   refine ⟨λz f=> ?_,joe i x l h.2 λz f=>ht z (List.mem_cons_of_mem _ f)⟩
   rcases jlL.1 f with rfl | f
   ·rcases ht y (by simp) with g | g
    ·rw [d] at g;cases g
    ·exact g
   ·exact h.1 z f
  ·have e:lay R x (y::l)=x::y::l:=by
    unfold lay
    rw [List.takeWhile_cons,List.dropWhile_cons,d]
    rfl
   rw [e,List.pairwise_cons]
   refine ⟨λz f=> ?_,List.pairwise_cons.2 h⟩
   rcases List.mem_cons.1 f with rfl | f
   ·exact d
   ·exact i _ _ _ d (h.1 z f)
theorem jpx {α:Type} {R:α->α->Bool} (g:∀ a b,R a b=true->R b a=false) {x:α} {l:List α} (ht:∀ y∈l,R x y=true\/R y x=true) :
  ∃ i,i<=l.length/\i=(l.takeWhile λy=>R y x).length/\lay R x l=l.take i++x::l.drop i:=by
 have f:∀ (l:List α),(∀ y∈l,R x y=true\/R y x=true)->l.takeWhile (λy=> !R x y)=l.takeWhile λy=>R y x:=by
  intro l
  induction l with
  | nil=>intro _;rfl
  | cons y l m=>
   intro h
   have e:(!R x y)=R y x:=by
    rcases h y (by simp) with d | d
    ·rw [d,g _ _ d];rfl
    ·rw [d,g _ _ d];rfl
   rw [List.takeWhile_cons,List.takeWhile_cons,e,m λz k=>h z (List.mem_cons_of_mem _ k)]
 have d:=List.takeWhile_append_dropWhile (p:=λy=> !R x y) (l:=l)
 have j:=f l ht
 refine ⟨(l.takeWhile λy=>R y x).length,?_,rfl,?_⟩
 ·have:=congrArg List.length d
  rw [List.length_append,j] at this
  omega
 ·unfold lay
  rw [j] at d ⊢
  generalize l.takeWhile (λy=>R y x)=a at d ⊢
  generalize l.dropWhile (λy=> !R x y)=b at d ⊢
  rw [<-d]
  simp
def kR (t:T) (a b:List V):Bool:=klt (j07 t a) (j07 t b)
def jgA (t:T) (l:List (List V)) (r:List V):List (List V):=lay (kR t) r l
def jaE (t:T) (b:List V):Bool:=j05 t&&(decide (b.length=t.2.2.length)&& !Z71 (λi k=> !j3K (nth zC t.2.1 (j02 t.2.1 k)) (nth zV b (i:Int))) 0 t.2.2)
def j66 (t:T) (l:List (List V)) (r:List V):List (List V)×Int:=
 bif !j08 t l then ([],1) else bif !j0r t.2.1 r then ([],2) else bif !decide (j06 t l (j07 t r)<0) then ([],3) else bif l.length==60 then ([],4) else (jgA t l r,0)
def j67 (t:T) (l:List (List V)) (b r:List V):List (List V)×Int:=
 bif !j08 t l then ([],1) else bif !j0r t.2.1 r then ([],2) else bif !jaE t b||decide (j06 t l b<0) then ([],5) else
 bif !decide (j06 t (l.eraseIdx (j06 t l b).toNat) (j07 t r)<0) then ([],3) else (jgA t (l.eraseIdx (j06 t l b).toNat) r,0)
def j65 (t:T) (l:List (List V)) (b:List V):List (List V)×Int:=
 bif !j08 t l then ([],1) else bif !jaE t b||decide (j06 t l b<0) then ([],5) else (l.eraseIdx (j06 t l b).toNat,0)
theorem jon {l:List C} {r:List V} (h:j0r l r=true):∀ v∈r,j0s v=true:=by
 intro v d
 obtain ⟨i,b,rfl⟩:=List.getElem_of_mem d
 rw [j9M] at h
 have:=h.2 i (by omega) b
 unfold j3K at this
 rw [Bool.and_eq_true] at this
 exact this.1
theorem job {t:T} (ht:j05 t=true) {r:List V} (h:j0r t.2.1 r=true):∀ v∈j07 t r,j0s v=true:=by
 intro v f
 obtain ⟨k,b,rfl⟩:=List.mem_map.1 f
 have:=j1i t.2.2 (-1) (by omega) (j1Z ht).2.2.2.2.2 k b
 obtain ⟨n,d⟩:∃ n:Nat,j02 t.2.1 k=(n:Int):=⟨(j02 t.2.1 k).toNat,by omega⟩
 have g:=((j9M _ _).1 h).1
 rw [d,Zay _ _ _ (by omega)]
 exact jon h _ (List.getElem_mem _)
theorem joa {t:T} (ht:j05 t=true) {a b:List V} (d:j0r t.2.1 a=true) (f:j0r t.2.1 b=true) (h:j07 t a≠j07 t b):kR t a b=true\/kR t b a=true:=
 jmn _ _ (job ht d) (job ht f) h
theorem jpw {t:T} {l:List (List V)} {r:List V} (h:j08 t l=true) (i:j0r t.2.1 r=true) (n:∀ x∈l,j07 t x≠j07 t r) (m:l.length<60):j08 t (jgA t l r)=true:=by
 rw [j6C] at h ⊢
 obtain ⟨f,p,g,k⟩:=h
 refine ⟨f,by unfold jgA;rw [jlI];omega,λx d=> ?_,?_⟩
 ·rcases jlL.1 d with rfl | d
  ·exact i
  ·exact g x d
 ·exact joe (R:=kR t) (λa b c=>jeB _ _ _) r l k λy j=>joa f i (g y j) λe=>n y j e.symm
theorem jeu {t:T} {l:List (List V)} (b:j08 t l=true) (i:Nat):j08 t (l.eraseIdx i)=true:=by
 rw [j6C] at b ⊢
 obtain ⟨d,j,f,g⟩:=b
 refine ⟨d,?_,λx h=>f x (List.mem_of_mem_eraseIdx h),g.sublist (List.eraseIdx_sublist _ _)⟩
 rw [List.length_eraseIdx]
 split<;>omega
theorem jpO {t:T} {l:List (List V)} (k:j08 t l=true) {i j:Nat} (f:i<l.length) (g:j<l.length) (h:j07 t l[i]=j07 t l[j]):i=j:=by
 have d:=((j6C _ _).1 k).2.2.2
 rw [List.pairwise_iff_getElem] at d
 rcases Nat.lt_trichotomy i j with b | b | b
 ·exact absurd h (jqv (d i j f g b))
 ·exact b
 ·exact absurd h.symm (jqv (d j i g f b))
theorem jmx {t:T} {l:List (List V)} (y:j08 t l=true) {b now:List V} (h:¬ j06 t l b<0) :
  (!decide (j06 t (l.eraseIdx (j06 t l b).toNat) now<0))=(!j1M zV veq now b&& !decide (j06 t l now<0)):=by
 rcases jaO t l b with ⟨n,_⟩ | ⟨i,w,n,p⟩
 ·omega
 rw [n,Int.toNat_natCast,jl8,jl8,Bool.not_not,Bool.not_not]
 by_cases g:now=b
 ·subst g
  rw [(j4O _ _).2 rfl,Bool.not_true,Bool.false_and,List.any_eq_false]
  intro r f h
  obtain ⟨j,k,m,rfl⟩:=List.mem_eraseIdx_iff_getElem.1 f
  exact m (jpO y k w (((j4O _ _).1 h).trans p.symm))
 ·have:j1M zV veq now b=false:=by
   cases d:j1M zV veq now b with
   | false=>rfl
   | true=>exact absurd ((j4O _ _).1 d) g
  rw [this,Bool.not_false,Bool.true_and]
  cases d:l.any λr=>j1M zV veq (j07 t r) now with
  | false=>
   rw [List.any_eq_false] at d ⊢
   exact λr f=>d r (List.mem_of_mem_eraseIdx f)
  | true=>
   rw [List.any_eq_true] at d ⊢
   obtain ⟨r,f,q⟩:=d
   refine ⟨r,List.mem_eraseIdx_iff_getElem.2 ?_,q⟩
   obtain ⟨j,k,rfl⟩:=List.getElem_of_mem f
   exact ⟨j,k,λe=>g (by subst e;rw [<-(j4O _ _).1 q,p]),rfl⟩
theorem joh {t:T} {l:List (List V)} {b:List V} (h:j06 t l b<0):∀ x∈l,j07 t x≠b:=by
 rcases jaO t l b with ⟨_,d⟩ | ⟨i,g,f,_⟩
 ·exact d
 ·omega
def j2P (t:T) (l:List (List V)) (s:ST):List (List V)×Int:=
 bif s.1==1 then j66 t l s.2.2.2.1 else bif s.1==2 then j67 t l s.2.2.1 s.2.2.2.1 else bif s.1==3 then j65 t l s.2.2.1 else ([],0)
theorem jpV {t:T} {l:List (List V)} {r:List V} (h:(j66 t l r).2=0):j08 t (j66 t l r).1=true:=by
 unfold j66 at h ⊢
 cases b:j08 t l<;>rw [b] at h
 ·cases h
 cases d:j0r t.2.1 r<;>rw [d] at h
 ·cases h
 cases f:decide (j06 t l (j07 t r)<0)<;>rw [f] at h
 ·cases h
 cases g:l.length==60<;>rw [g] at h
 ·refine jpw b d (joh (of_decide_eq_true f)) ?_
  have:=((j6C _ _).1 b).2.1
  have i:l.length≠60:=by simpa using g
  omega
 ·cases h
theorem jpW {t:T} {l:List (List V)} {b r:List V} (h:(j67 t l b r).2=0):j08 t (j67 t l b r).1=true:=by
 unfold j67 at h ⊢
 cases d:j08 t l<;>rw [d] at h
 ·cases h
 cases f:j0r t.2.1 r<;>rw [f] at h
 ·cases h
 cases g: !jaE t b||decide (j06 t l b<0)<;>rw [g] at h
 ·cases i:decide (j06 t (l.eraseIdx (j06 t l b).toNat) (j07 t r)<0)<;>rw [i] at h
  ·cases h
  ·refine jpw (jeu d _) f (joh (of_decide_eq_true i)) ?_
   rw [Bool.or_eq_false_iff,decide_eq_false_iff_not] at g
   have m:=((j6C _ _).1 d).2.1
   have j:=(jd7 (λr=>j1M zV veq (j07 t r) b) l).2
   have k:(j06 t l b).toNat<l.length:=by
    have:j06 t l b<(l.length:Int):=j
    omega
   rw [List.length_eraseIdx_of_lt k]
   omega
 ·cases h
theorem jpU {t:T} {l:List (List V)} {b:List V} (h:(j65 t l b).2=0):j08 t (j65 t l b).1=true:=by
 unfold j65 at h ⊢
 cases d:j08 t l<;>rw [d] at h
 ·cases h
 cases f: !jaE t b||decide (j06 t l b<0)<;>rw [f] at h
 ·exact jeu d _
 ·cases h
theorem jmw {t:T} (h:j05 t=true):j08 t []=true:=(j6C _ _).2 ⟨h,by simp,by simp,List.Pairwise.nil⟩
theorem jrx {t:T} (ht:j05 t=true) {l:List (List V)} {s:ST} (h:(j2P t l s).2=0):j08 t (j2P t l s).1=true:=by
 unfold j2P at h ⊢
 cases b:s.1==1<;>rw [b] at h
 ·cases d:s.1==2<;>rw [d] at h
  ·cases f:s.1==3<;>rw [f] at h
   ·exact jmw ht
   ·exact jpU h
  ·exact jpW h
 ·exact jpV h
def tR (a b:T):Bool:=sLt a.1 b.1
def j0w (t:T) (d:D):Int:=
 bif d.1==3 then (bif !decide (j02 t.2.1 (nth zC d.2.2.1 0).1<0) then 5 else bif t.2.1.length==8 then 6 else 0)
 else bif d.1==4 then (bif decide (j02 t.2.1 d.2.2.2.2.1<0) then 7 else bif t.2.2.any (λx=>sEq x d.2.2.2.2.1) then 8 else 0)
 else bif d.1==5 then (bif !decide (j02 t.2.1 d.2.2.2.2.2<0) then 5 else bif decide (j02 t.2.1 d.2.2.2.2.1<0) then 7 else 0)
 else 0
def jau (t:T) (d:D):T:=bif d.1==3 then jjw t (nth zC d.2.2.1 0) else bif d.1==4 then jgG t d.2.2.2.2.1 else jeD t d.2.2.2.2.1 d.2.2.2.2.2
def j0b (c:List T) (d:D):Int:=
 bif d.1==1 then (bif !decide (j04 c d.2.1<0) then 2 else bif c.length==6 then 3 else 0)
 else bif decide (j04 c d.2.1<0) then 4 else j0w (nth zT c (j04 c d.2.1)) d
def j15 (c:List T) (d:D):List T:=
 bif d.1==1 then lay tR (d.2.1,d.2.2.1,d.2.2.2.1) c
 else bif d.1==2 then c.eraseIdx (j04 c d.2.1).toNat
 else c.set (j04 c d.2.1).toNat (jau (nth zT c (j04 c d.2.1)) d)
def jfd (c:List T) (d:D):List T×Int:=
 bif !j2m c|| !j14 d then ([],1) else bif j0b c d != 0 then ([],j0b c d) else (j15 c d,0)
theorem j0o (c:List T) (n:ByteArray):(j04 c n= -1/\∀ t∈c,t.1≠n)\/∃ (i:Nat) (f:i<c.length),j04 c n=(i:Int)/\c[i].1=n:=by
 rcases jaw (λt:T=>sEq t.1 n) c with ⟨b,d⟩ | ⟨i,f,b,d,g⟩
 ·exact .inl ⟨b,λt ht e=>by have:=d t ht;rw [e,Zah] at this;cases this⟩
 ·exact .inr ⟨i,f,b,(j09 _ _).1 d⟩
theorem jeO {c:List T} (h:c.Pairwise λa b=>sLt a.1 b.1=true) {i:Nat} (g:i<c.length):j04 c c[i].1=(i:Int):=by
 refine jpt g (Zah _) λj k f=> ?_
 have f:=(j09 _ _).1 f
 rw [List.pairwise_iff_getElem] at h
 rcases Nat.lt_trichotomy i j with d | d | d
 ·exact absurd f.symm (jqI (h i j g k d))
 ·exact d.symm
 ·exact absurd f (jqI (h j i k g d))
theorem jhO (t:T) (d:D):(jau t d).1=t.1:=by
 unfold jau
 cases d.1==3
 ·cases d.1==4<;>rfl
 ·rfl
theorem jqc {t:T} (ht:j05 t=true) {d:D} (q:j14 d=true) (j:3<=d.1) (b:j0w t d=0):j05 (jau t d)=true:=by
 obtain ⟨_,h⟩:=j8p q
 rcases h with ⟨n,cs,ks,rfl,_⟩ | ⟨n,rfl⟩ | ⟨n,c,rfl,l⟩ | ⟨n,m,rfl,r⟩ | ⟨n,m,p,rfl,r,w⟩
 ·simp at j
 ·simp at j
 ·show j05 (jjw t c)=true
  change (bif !decide (j02 t.2.1 c.1<0) then (5:Int) else bif t.2.1.length==8 then 6 else 0)=0 at b
  cases f:decide (j02 t.2.1 c.1<0)<;>rw [f] at b
  ·cases b
  ·cases g:t.2.1.length==8<;>rw [g] at b
   ·have k:t.2.1.length≠8:=by simpa using g
    have:=(j1Z ht).2.2.1
    exact jrW ht l (of_decide_eq_true f) (by omega)
   ·cases b
 ·show j05 (jgG t m)=true
  change (bif decide (j02 t.2.1 m<0) then (7:Int) else bif t.2.2.any (λx=>sEq x m) then 8 else 0)=0 at b
  cases f:decide (j02 t.2.1 m<0)<;>rw [f] at b
  ·cases g:t.2.2.any λx=>sEq x m<;>rw [g] at b
   ·have k:=of_decide_eq_false f
    exact js8 ht (i:=(j02 t.2.1 m).toNat) (by omega) g
   ·cases b
  ·cases b
 ·show j05 (jeD t m p)=true
  change (bif !decide (j02 t.2.1 p<0) then (5:Int) else bif decide (j02 t.2.1 m<0) then 7 else 0)=0 at b
  cases f:decide (j02 t.2.1 p<0)<;>rw [f] at b
  ·cases b
  ·exact jrm ht w (of_decide_eq_true f)
theorem jmh {c:List T} (f:j2m c=true) {t:T} (ht:j05 t=true) (p:j04 c t.1<0) (m:c.length<6):j2m (lay tR t c)=true:=by
 rw [j0d] at f ⊢
 obtain ⟨l,g,j⟩:=f
 refine ⟨by rw [jlI];omega,λx d=> ?_,?_⟩
 ·rcases jlL.1 d with rfl | d
  ·exact ht
  ·exact g x d
 ·refine joe (R:=tR) (λa b c=>jeG) t c j λy k=>ji9 λe=> ?_
  rcases j0o c t.1 with ⟨_,h⟩ | ⟨i,n,h,_⟩
  ·exact h y k e.symm
  ·omega
theorem joj {α:Type} {R:α->α->Prop} {l:List α} (h:l.Pairwise R) {i:Nat} {x:α} (m:i<l.length) (j:∀ y,R y l[i]->R y x) (k:∀ y,R l[i] y->R x y):(l.set i x).Pairwise R:=by
 rw [List.pairwise_iff_getElem] at h ⊢
 intro a b f g d
 rw [List.length_set] at f g
 rw [List.getElem_set,List.getElem_set]
 split
 ·rename_i e
  subst e
  split
  ·omega
  ·exact k _ (h _ _ f g d)
 ·split
  ·rename_i e
   subst e
   exact j _ (h _ _ f g d)
  ·exact h _ _ f g d
theorem jpC {c:List T} (d:j2m c=true) {i:Nat} (l:i<c.length) {t:T} (ht:j05 t=true) (f:t.1=c[i].1):j2m (c.set i t)=true:=by
 rw [j0d] at d ⊢
 obtain ⟨g,j,k⟩:=d
 refine ⟨by rw [List.length_set];exact g,λx b=> ?_,?_⟩
 ·rcases List.mem_or_eq_of_mem_set b with b | rfl
  ·exact j x b
  ·exact ht
 ·refine joj k l (λy h=> ?_) (λy h=> ?_)
  ·rw [f];exact h
  ·rw [f];exact h
theorem jmk {c:List T} (b:j2m c=true) (i:Nat):j2m (c.eraseIdx i)=true:=by
 rw [j0d] at b ⊢
 obtain ⟨h,d,f⟩:=b
 refine ⟨?_,λx g=>d x (List.mem_of_mem_eraseIdx g),f.sublist (List.eraseIdx_sublist _ _)⟩
 rw [List.length_eraseIdx]
 split<;>omega
theorem jnP {d:D} (b:j14 d=true):d.1=1\/d.1=2\/3<=d.1:=by
 obtain ⟨_,h⟩:=j8p b
 rcases h with ⟨n,cs,ks,rfl,_⟩ | ⟨n,rfl⟩ | ⟨n,c,rfl,g⟩ | ⟨n,m,rfl,f⟩ | ⟨n,m,p,rfl,f,i⟩<;>simp
theorem jlB {c:List T} {d:D} (k:j2m c=true) (j:j14 d=true) (h:j0b c d=0):j2m (j15 c d)=true:=by
 have l:=(j0d c).1 k
 unfold j0b at h
 unfold j15
 rcases jnP j with f | f | f
 ·rw [f] at h ⊢
  rw [show ((1:Int)==1)=true from rfl,cond_true] at h ⊢
  cases g:decide (j04 c d.2.1<0)<;>rw [g] at h
  ·cases h
  ·cases b:c.length==6<;>rw [b] at h
   ·have p:c.length≠6:=by simpa using b
    have n:j05 (d.2.1,d.2.2.1,d.2.2.2.1)=true:=by
     unfold j14 at j
     rw [f] at j
     simp only [Bool.and_eq_true,beq_self_eq_true,cond_true] at j
     exact j.2.2.2
    exact jmh k n (of_decide_eq_true g) (by omega)
   ·cases h
 ·rw [f] at h ⊢
  rw [show ((2:Int)==1)=false from rfl,show ((2:Int)==2)=true from rfl,cond_false,cond_true]
  exact jmk k _
 ·rw [show (d.1==1)=false by simp;omega,cond_false] at h
  rw [show (d.1==1)=false by simp;omega,show (d.1==2)=false by simp;omega,cond_false,cond_false]
  cases g:decide (j04 c d.2.1<0)<;>rw [g] at h
  ·rcases j0o c d.2.1 with ⟨b,_⟩ | ⟨i,m,b,p⟩
   ·rw [b] at g;cases g
   ·rw [cond_false] at h
    rw [b,Zay _ _ _ m] at h
    rw [b,Zay _ _ _ m,Int.toNat_natCast]
    exact jpC k m (jqc (l.2.1 _ (List.getElem_mem _)) j f h) (jhO _ _)
  ·cases h
def jfc (t:T) (d:D) (l:List (List V)):List (List V):=
 bif d.1==3 then l.map (λr=>r++[(nth zC d.2.2.1 0).2.2.2.2]) else bif d.1==4 then l.map (λr=>r.eraseIdx (j02 t.2.1 d.2.2.2.2.1).toNat) else l
def jis (d:DB) (x:D):List (List (List V)):=
 bif x.1==1 then d.2.take (j04 (j15 d.1 x) x.2.1).toNat++[]::d.2.drop (j04 (j15 d.1 x) x.2.1).toNat
 else bif x.1==2 then d.2.eraseIdx (j04 d.1 x.2.1).toNat
 else d.2.set (j04 d.1 x.2.1).toNat (jfc (nth zT d.1 (j04 d.1 x.2.1)) x (nth [] d.2 (j04 d.1 x.2.1)))
abbrev zDB:DB:=([],[])
def j2c (d:DB) (s:ST):DB×Int:=
 bif decide (j04 d.1 s.2.1<0)&& !((s.1==5)&&(s.2.2.2.2.1==1)) then (zDB,4)
 else bif s.1==5 then (bif j0b d.1 s.2.2.2.2 != 0 then (zDB,10+j0b d.1 s.2.2.2.2) else ((j15 d.1 s.2.2.2.2,jis d s.2.2.2.2),0))
 else bif (j2P (nth zT d.1 (j04 d.1 s.2.1)) (nth [] d.2 (j04 d.1 s.2.1)) s).2 != 0 then (zDB,10+(j2P (nth zT d.1 (j04 d.1 s.2.1)) (nth [] d.2 (j04 d.1 s.2.1)) s).2)
 else ((d.1,d.2.set (j04 d.1 s.2.1).toNat (j2P (nth zT d.1 (j04 d.1 s.2.1)) (nth [] d.2 (j04 d.1 s.2.1)) s).1),0)
theorem jrY {t:T} (ht:j05 t=true) {d:D} (j:j14 d=true) (k:3<=d.1) (f:j0w t d=0) {l:List (List V)} (w:j08 t l=true):j08 (jau t d) (jfc t d l)=true:=by
 have g:=jqc ht j k f
 obtain ⟨_,h⟩:=j8p j
 rcases h with ⟨n,cs,ks,rfl,_⟩ | ⟨n,rfl⟩ | ⟨n,c,rfl,A⟩ | ⟨n,m,rfl,B⟩ | ⟨n,m,p,rfl,B,E⟩
 ·simp at k
 ·simp at k
 ·have q:(c.2.2.2.1|| !c.2.2.1)=true:=by
   unfold j14 at j
   rw [Bool.and_eq_true] at j
   have:=j.2
   simp only [show ((3:Int)==1)=false from rfl,show ((3:Int)==2)=false from rfl,show ((3:Int)==3)=true from rfl,cond_false,cond_true,Bool.and_eq_true] at this
   exact this.2.2.1
  show j08 (jjw t c) (l.map λr=>r++[c.2.2.2.2])=true
  exact ji8 _ w g (λr b=>jrV b (jr9 A q)) (λr b=>jqW ht ((j9M _ _).1 b).1 _)
 ·change (bif decide (j02 t.2.1 m<0) then (7:Int) else bif t.2.2.any (λx=>sEq x m) then 8 else 0)=0 at f
  show j08 (jgG t m) (l.map λr=>r.eraseIdx (j02 t.2.1 m).toNat)=true
  cases i:decide (j02 t.2.1 m<0)<;>rw [i] at f
  ·cases y:t.2.2.any λx=>sEq x m<;>rw [y] at f
   ·have C:=of_decide_eq_false i
    have z:j02 t.2.1 m=(((j02 t.2.1 m).toNat:Nat):Int):=by omega
    refine ji8 _ w g (λr b=> ?_) (λr b=>jrp ht z y ((j9M _ _).1 b).1)
    rw [(jm0 ht z).2]
    exact js7 b _
   ·cases f
  ·cases f
 ·change (bif !decide (j02 t.2.1 p<0) then (5:Int) else bif decide (j02 t.2.1 m<0) then 7 else 0)=0 at f
  show j08 (jeD t m p) l=true
  cases i:decide (j02 t.2.1 p<0)<;>rw [i] at f
  ·cases f
  ·have:=ji8 (t':=jeD t m p) id w g (λr b=>jrl b m p) (λr b=>jqz ht (of_decide_eq_true i) r)
   rw [List.map_id] at this
   exact this
theorem jpp {c:List T} {l:List (List (List V))} (h:dbB (c,l)=true) {i:Nat} (n:i<c.length) {t:T} (p:t.1=c[i].1) {r:List (List V)} (m:j08 t r=true):dbB (c.set i t,l.set i r)=true:=by
 rw [j1A] at h ⊢
 obtain ⟨d,f,g⟩:=h
 dsimp only at d f g ⊢
 refine ⟨jpC d n ((j6C _ _).1 m).1 p,by rw [List.length_set,List.length_set];exact f,λj k b=> ?_⟩
 rw [List.getElem_set,List.getElem_set]
 split
 ·exact m
 ·rw [List.length_set] at k b
  exact g j k b
theorem jqg {c:List T} {l:List (List (List V))} (h:dbB (c,l)=true) (i:Nat):dbB (c.eraseIdx i,l.eraseIdx i)=true:=by
 rw [j1A] at h ⊢
 obtain ⟨d,f,b⟩:=h
 dsimp only at d f b ⊢
 refine ⟨jmk d i,by rw [List.length_eraseIdx,List.length_eraseIdx,f],λj k g=> ?_⟩
 rw [List.getElem_eraseIdx,List.getElem_eraseIdx]
 split
 ·exact b _ _ _
 ·exact b _ _ _
theorem jre (c:List T) (t:T):∃ i,i<=c.length/\lay tR t c=c.take i++t::c.drop i:=by
 refine ⟨(c.takeWhile λy=> !tR t y).length,?_,?_⟩
 ·have:=congrArg List.length (List.takeWhile_append_dropWhile (p:=λy=> !tR t y) (l:=c))
  rw [List.length_append] at this
  omega
 ·have d:=List.takeWhile_append_dropWhile (p:=λy=> !tR t y) (l:=c)
  unfold lay
  generalize c.takeWhile (λy=> !tR t y)=a at d ⊢
  generalize c.dropWhile (λy=> !tR t y)=b at d ⊢
  rw [<-d]
  simp
theorem jod {c:List T} (h:j2m c=true) {t:T} (ht:j05 t=true) (k:j04 c t.1<0) (g:c.length<6):∃ i:Nat,i<=c.length/\j04 (lay tR t c) t.1=(i:Int)/\lay tR t c=c.take i++t::c.drop i:=by
 obtain ⟨i,f,d⟩:=jre c t
 refine ⟨i,f,?_,d⟩
 have l:=((j0d _).1 (jmh h ht k g)).2.2
 have b:i<(lay tR t c).length:=by rw [jlI];omega
 have j:(lay tR t c)[i]=t:=by
  simp only [d]
  rw [List.getElem_append_right (by rw [List.length_take];omega)]
  simp [List.length_take,Nat.min_eq_left f]
 have:=jeO l b
 rw [j] at this
 exact this
theorem jps {α:Type} (l:List α) {i:Nat} (g:i<=l.length) (x:α) (j:Nat) (f:j<(l.take i++x::l.drop i).length):(l.take i++x::l.drop i)[j]=if h:j<i then l[j] else if b:j=i then x else l[j-1]'(by simp at f;omega):=by
 have d:(l.take i).length=i:=by rw [List.length_take];omega
 by_cases h:j<i
 ·rw [dif_pos h,List.getElem_append_left (by omega),List.getElem_take]
 ·rw [dif_neg h]
  by_cases b:j=i
  ·subst b
   rw [dif_pos rfl,List.getElem_append_right (by omega)]
   simp [d]
  ·rw [dif_neg b]
   obtain ⟨m,rfl⟩:∃ m,j=i+1+m:=⟨j-i-1,by omega⟩
   rw [List.getElem_append_right (by omega)]
   simp only [d,show i+1+m-i=m+1 by omega,List.getElem_cons_succ,List.getElem_drop]
   congr 1
   omega
theorem js1 {c:List T} {l:List (List (List V))} (h:dbB (c,l)=true) {i:Nat} (q:i<=c.length) {t:T} (ht:j05 t=true) (p:j2m (c.take i++t::c.drop i)=true):dbB (c.take i++t::c.drop i,l.take i++[]::l.drop i)=true:=by
 rw [j1A] at h ⊢
 obtain ⟨m,n,f⟩:=h
 dsimp only at m n f ⊢
 refine ⟨p,by simp only [List.length_append,List.length_cons,List.length_take,List.length_drop];omega,λj k g=> ?_⟩
 rw [jps c q t j k,jps l (by omega) [] j g]
 have r:j<c.length+1:=by
  simp only [List.length_append,List.length_cons,List.length_take,List.length_drop] at k
  omega
 by_cases b:j<i
 ·rw [dif_pos b,dif_pos b];exact f j (by omega) (by omega)
 ·rw [dif_neg b,dif_neg b]
  by_cases d:j=i
  ·rw [dif_pos d,dif_pos d];exact jmw ht
  ·rw [dif_neg d,dif_neg d];exact f (j-1) (by omega) (by omega)
theorem jbw:dbB zDB=true:=(j1A _).2 ⟨(j0d _).2 ⟨by simp,by simp,List.Pairwise.nil⟩,rfl,λi b=>by simp at b⟩
theorem js3 {d:DB} (h:dbB d=true) {s:ST} (I:stB s=true) (g:(j2c d s).2=0):dbB (j2c d s).1=true:=by
 obtain ⟨c,l⟩:=d
 have A:=(j1A _).1 h
 obtain ⟨p,E,B⟩:=A
 dsimp only at p E B
 unfold j2c at g ⊢
 dsimp only at g ⊢
 cases D:decide (j04 c s.2.1<0)&& !((s.1==5)&&(s.2.2.2.2.1==1))<;>rw [D] at g
 ·rw [cond_false] at g ⊢
  cases y:s.1==5<;>rw [y] at g
  ·rw [cond_false] at g ⊢
   rw [y,Bool.false_and,Bool.not_false,Bool.and_true,decide_eq_false_iff_not] at D
   rcases j0o c s.2.1 with ⟨e,_⟩ | ⟨i,k,e,C⟩
   ·omega
   rw [e,Zay _ _ _ k,Zay _ _ _ (by omega),Int.toNat_natCast] at g ⊢
   cases b:(j2P c[i] (l[i]'(by omega)) s).2 != 0<;>rw [b] at g
   ·rw [cond_false]
    have H:=jrx (t:=c[i]) (l:=l[i]'(by omega)) (s:=s) (((j0d _).1 p).2.1 _ (List.getElem_mem _)) (by simpa using b)
    have:=jpp h k (t:=c[i]) rfl H
    rw [List.set_getElem_self] at this
    exact this
   ·exact jbw
  ·rw [cond_true] at g ⊢
   cases b:j0b c s.2.2.2.2 != 0<;>rw [b] at g
   ·rw [cond_false]
    have b:j0b c s.2.2.2.2=0:=by simpa using b
    have f:j14 s.2.2.2.2=true:=by
     obtain ⟨_,h⟩:=jqJ I
     rcases h with ⟨t,r,rfl,_⟩ | ⟨t,q,r,rfl,_⟩ | ⟨t,q,rfl,_⟩ | ⟨t,rfl⟩ | ⟨d,rfl,A⟩
     ·cases y
     ·cases y
     ·cases y
     ·cases y
     ·exact A
    have j:=jlB p f b
    generalize s.2.2.2.2=x at b f j ⊢
    unfold jis
    dsimp only
    rcases jnP f with m | m | m
    ·rw [m,show ((1:Int)==1)=true from rfl,cond_true]
     unfold j0b at b
     unfold j15 at j ⊢
     rw [m,show ((1:Int)==1)=true from rfl,cond_true] at b j ⊢
     cases w:decide (j04 c x.2.1<0)<;>rw [w] at b
     ·cases b
     ·cases n:c.length==6<;>rw [n] at b
      ·have G:c.length≠6:=by simpa using n
       have z:j05 (x.2.1,x.2.2.1,x.2.2.2.1)=true:=by
        unfold j14 at f
        rw [m] at f
        simp only [Bool.and_eq_true,beq_self_eq_true,cond_true] at f
        exact f.2.2.2
       have J:=((j0d _).1 p).1
       obtain ⟨i,k,F,C⟩:=jod p z (of_decide_eq_true w) (by omega)
       rw [F,Int.toNat_natCast]
       rw [C] at j ⊢
       exact js1 h k z j
      ·cases b
    ·rw [m,show ((2:Int)==1)=false from rfl,show ((2:Int)==2)=true from rfl,cond_false,cond_true]
     unfold j15
     rw [m,show ((2:Int)==1)=false from rfl,show ((2:Int)==2)=true from rfl,cond_false,cond_true]
     exact jqg h _
    ·rw [show (x.1==1)=false by simp;omega,show (x.1==2)=false by simp;omega,cond_false,cond_false]
     unfold j0b at b
     rw [show (x.1==1)=false by simp;omega,cond_false] at b
     unfold j15
     rw [show (x.1==1)=false by simp;omega,show (x.1==2)=false by simp;omega,cond_false,cond_false]
     cases w:decide (j04 c x.2.1<0)<;>rw [w] at b
     ·rcases j0o c x.2.1 with ⟨n,_⟩ | ⟨i,k,n,G⟩
      ·rw [n] at w;cases w
      ·rw [cond_false,n,Zay _ _ _ k] at b
       rw [n,Zay _ _ _ k,Zay _ _ _ (by omega),Int.toNat_natCast]
       exact jpp h k (jhO _ _) (jrY (((j0d _).1 p).2.1 _ (List.getElem_mem _)) f m b (B i k (by omega)))
     ·cases b
   ·exact jbw
 ·cases g
end
end Go.PI.G
namespace Go.PI.G
noncomputable section
open Go Go.PI
def j8I (i:Nat) (d:DB) (s:ST):Except (Int×Int) DB:=bif !stB s then .error (1,(i:Int)) else bif (j2c d s).2 != 0 then .error ((j2c d s).2,(i:Int)) else .ok (j2c d s).1
def j0l (d:DB) (l:List ST):DB×Int×Int:=bif !dbB d then (([],[]),1,0) else match Z1S j8I 0 l d with | .ok b=>(b,0,0) | .error e=>(([],[]),e.1,e.2)
theorem jka {i:Nat} {d j:DB} {s:ST} (h:dbB d=true) (b:j8I i d s= .ok j):dbB j=true:=by
 unfold j8I at b
 cases f:stB s
 ·rw [f] at b;cases b
 ·rw [f,Bool.not_true,cond_false] at b
  cases g:((j2c d s).2 != 0)
  ·rw [g,cond_false] at b
   cases b
   exact js3 h f (by simpa using g)
  ·rw [g,cond_true] at b;cases b
theorem jp0 {d:DB} {l:List ST} (h:(j0l d l).2.1=0):dbB (j0l d l).1=true:=by
 unfold j0l at h ⊢
 cases g:dbB d
 ·rw [g] at h;cases h
 rw [g,Bool.not_true,cond_false] at h
 rw [Bool.not_true,cond_false]
 cases k:Z1S j8I 0 l d with
 | ok q=>exact Z91 (λ_ a=>dbB a=true) l 0 d q g (λj x a p _ r b=>jka r b) k
 | error e=>
  rw [k] at h
  exfalso
  have h:e.1=0:=h
  have m:∀ (l:List ST) (i:Nat) (a:DB) (e:Int×Int),Z1S j8I i l a= .error e->e.1≠0:=by
   intro l
   induction l with
   | nil=>intro i a e h;simp [Z1S] at h
   | cons x l y=>
    intro i a e h
    simp only [Z1S] at h
    cases b:j8I i a x with
    | ok p=>rw [b] at h;exact y _ _ _ h
    | error z=>
     rw [b] at h
     cases h
     unfold j8I at b
     cases n:stB x
     ·rw [n] at b;cases b;exact λw=>absurd (show (1:Int)=0 from w) (by decide)
     ·rw [n,Bool.not_true,cond_false] at b
      cases f:((j2c a x).2 != 0)
      ·rw [f] at b;cases b
      ·rw [f] at b
       cases b
       simpa using f
  exact m l 0 d e k h
abbrev RC:=Int×Int×ST
abbrev yRC:Ty:= .pair (.int .i64) (.pair (.int .i64) yST)
def jjB (s:ST):Bool:=(s.1==0)&&(sEq s.2.1 eS&&((s.2.2.1.length==0)&&((s.2.2.2.1.length==0)&&noD s.2.2.2.2)))
theorem jrn (s:ST):jjB s=true↔s=zST:=by
 obtain ⟨a,b,c,e,d⟩:=s
 unfold jjB
 simp only [Bool.and_eq_true,beq_iff_eq,j09,Prod.mk.injEq,List.length_eq_zero_iff,jg4]
def jbM (r:RC):Bool:=decide (1<=r.1/\r.1<=4)&&(decide (1<=r.2.1/\r.2.1<=1000000)&&(bif r.1==2 then stB r.2.2 else jjB r.2.2))
theorem jl7 {r:RC} (h:jbM r=true):(1<=r.1/\r.1<=4)/\(1<=r.2.1/\r.2.1<=1000000)/\((r.1=2/\stB r.2.2=true)\/(r.1≠2/\r.2.2=zST)):=by
 unfold jbM at h
 rw [Bool.and_eq_true,Bool.and_eq_true,decide_eq_true_eq,decide_eq_true_eq] at h
 refine ⟨h.1,h.2.1,?_⟩
 have b:=h.2.2
 cases d:r.1==2
 ·rw [d,cond_false] at b
  exact .inr ⟨by simpa using d,(jrn _).1 b⟩
 ·rw [d,cond_true] at b
  exact .inl ⟨by simpa using d,b⟩
def j5K (l:List RC) (x:Int):Bool:=l.any λr=>(r.1==1)&&(r.2.1==x)
def j3n (l:List Int) (n:Int):Bool:=l.any λx=>x==n
def j7A (o:List Int) (r:RC):List Int:=
 bif r.1==1 then (bif j3n o r.2.1 then o else o++[r.2.1]) else bif (r.1==3)||(r.1==4) then o.filter (λy=> !(y==r.2.1)) else o
def j17 (l:List RC):List Int:=l.foldl j7A []
def j5m (l:List RC):List Int:=(l.filter λr=>r.1==1).map λr=>r.2.1
def jip (x:Int) (_:Int) (r:RC):List ST:=bif (r.1==2)&&(r.2.1==x) then [r.2.2] else []
def j1Y (l:List RC) (x:Int):List ST:=Z4r (jip x) 0 l
def j56 (p:List RC) (d:DB) (r:RC):Except Unit DB:=
 bif !jbM r then .error () else
 bif r.1==1 then (bif j5K p r.2.1 then .error () else .ok d) else
 bif !j3n (j17 p) r.2.1 then .error () else
 bif r.1==3 then (bif (j0l d (j1Y p r.2.1)).2.1 != 0 then .error () else .ok (j0l d (j1Y p r.2.1)).1) else .ok d
def j1N (d:DB) (l:List RC):Except Unit DB:=Z1S (λi d r=>j56 (l.take i) d r) 0 l d
def jrd {A E:Type} (r:Except E A):Bool:=match r with
 | .ok _=>true
 | .error _=>false
def jsm (r:Except Unit DB):DB:=match r with
 | .ok d=>d
 | .error _=>zDB
def jbK (l:List RC):Bool:=decide (l.length<=400)&&jrd (j1N zDB l)
theorem jmB {α A E:Type} (f:Nat->A->α->Except E A):(l m:List α)->(i:Nat)->(a:A)->Z1S f i (l++m) a=match Z1S f i l a with | .ok b=>Z1S f (i+l.length) m b | .error e=> .error e
 | [],m,i,a=>rfl
 | x::l,m,i,a=>by
  simp only [List.cons_append,Z1S]
  cases f i a x with
  | ok b=>
   dsimp only
   rw [jmB f l m (i+1) b,List.length_cons,show i+1+l.length=i+(l.length+1) by omega]
  | error e=>rfl
theorem jjn {α A E:Type} {f g:Nat->A->α->Except E A}:(l:List α)->(i:Nat)->(∀ j a,(h:j<l.length)->f (i+j) a l[j]=g (i+j) a l[j])->∀ a,Z1S f i l a=Z1S g i l a
 | [],i,h,a=>rfl
 | x::l,i,h,a=>by
  have k:=h 0 a (Nat.succ_pos _)
  simp only [Z1S]
  rw [show f i a x=g i a x from k]
  cases g i a x with
  | ok d=>
   refine jjn l (i+1) (λj b m=> ?_) d
   have:=h (j+1) b (Nat.succ_lt_succ m)
   rw [show i+(j+1)=i+1+j by omega] at this
   exact this
  | error e=>rfl
theorem jqD (d:DB) (l:List RC) (r:RC):j1N d (l++[r])=match j1N d l with | .ok b=>j56 l b r | .error e=> .error e:=by
 unfold j1N
 rw [jmB,jjn (g:=λi d r=>j56 (l.take i) d r) l 0 (λj a h=>by
  rw [Nat.zero_add,List.take_append_of_le_length (Nat.le_of_lt h)])]
 cases Z1S (λi d r=>j56 (l.take i) d r) 0 l d with
 | error e=>rfl
 | ok b=>
  simp only [Z1S,Nat.zero_add]
  rw [List.take_left' rfl]
  cases j56 l b r<;>rfl
theorem jqE (d:DB) (l:List RC) (i:Nat) (f:i<l.length):j1N d (l.take (i+1))=match j1N d (l.take i) with | .ok b=>j56 (l.take i) b l[i] | .error e=> .error e:=by
 rw [List.take_succ_eq_append_getElem f,jqD]
theorem jrq {d i:DB} {l:List RC} (h:j1N d l= .ok i) (n:Nat):∃ b,j1N d (l.take n)= .ok b:=by
 have g:∀ (m k:Nat),k+m=l.length->∃ b,j1N d (l.take k)= .ok b:=by
  intro m
  induction m with
  | zero=>intro k q;rw [List.take_of_length_le (by omega)];exact ⟨i,h⟩
  | succ m w=>
   intro k q
   obtain ⟨b,f⟩:=w (k+1) (by omega)
   rw [jqE d l k (by omega)] at f
   cases r:j1N d (l.take k) with
   | ok p=>exact ⟨p,rfl⟩
   | error e=>rw [r] at f;cases f
 rcases Nat.lt_or_ge n l.length with j | j
 ·exact g (l.length-n) n (by omega)
 ·exact g 0 l.length (by omega) |>.elim λb f=>⟨b,by rw [List.take_of_length_le j];rw [List.take_of_length_le (Nat.le_refl _)] at f;exact f⟩
theorem jgH {p:List RC} {d f:DB} {r:RC} (i:dbB d=true) (h:j56 p d r= .ok f):dbB f=true:=by
 unfold j56 at h
 cases j:jbM r<;>rw [j] at h
 ·cases h
 rw [Bool.not_true,cond_false] at h
 cases k:r.1==1<;>rw [k] at h
 ·rw [cond_false] at h
  cases b:j3n (j17 p) r.2.1<;>rw [b] at h
  ·cases h
  rw [Bool.not_true,cond_false] at h
  cases l:r.1==3<;>rw [l] at h
  ·cases h;exact i
  ·rw [cond_true] at h
   cases g:(j0l d (j1Y p r.2.1)).2.1 != 0<;>rw [g] at h
   ·cases h;exact jp0 (by simpa using g)
   ·cases h
 ·rw [cond_true] at h
  cases b:j5K p r.2.1<;>rw [b] at h
  ·cases h;exact i
  ·cases h
theorem js9 {d b:DB} {l:List RC} (g:dbB d=true) (h:j1N d l= .ok b):dbB b=true:=
 Z91 (λ_ a=>dbB a=true) l 0 d b g (λj x a k _ f i=>jgH f i) h
theorem jog (l:List RC):jbK l=true↔l.length<=400/\∃ d,j1N zDB l= .ok d:=by
 unfold jbK
 rw [Bool.and_eq_true,decide_eq_true_eq]
 cases j1N zDB l with
 | ok d=>simp [jrd]
 | error e=>simp [jrd]
theorem jrg {l:List RC} (h:jbK l=true) (n:Nat):∃ d,j1N zDB (l.take n)= .ok d/\dbB d=true:=by
 obtain ⟨_,d,g⟩:=(jog l).1 h
 obtain ⟨f,b⟩:=jrq g n
 exact ⟨f,b,js9 jbw b⟩
theorem jkU (l:List RC) (r:RC):j17 (l++[r])=j7A (j17 l) r:=by
 unfold j17
 rw [List.foldl_append]
 rfl
theorem jq6 (l:List RC) (r:RC) (x:Int):j5K (l++[r]) x=(j5K l x||((r.1==1)&&(r.2.1==x))):=by
 unfold j5K
 rw [List.any_append]
 simp
theorem jq5 (l:List RC) (r:RC):j5m (l++[r])=bif r.1==1 then j5m l++[r.2.1] else j5m l:=by
 unfold j5m
 rw [List.filter_append,List.map_append]
 cases h:r.1==1
 ·rw [List.filter_cons_of_neg (by rw [h];simp),List.filter_nil,List.map_nil,List.append_nil,cond_false]
 ·rw [List.filter_cons_of_pos (p:=λr:RC=>r.1==1) h,List.filter_nil,cond_true]
  rfl
theorem jmz (l:List RC) (x:Int):j3n (j5m l) x=j5K l x:=by
 unfold j3n j5m j5K
 rw [List.any_map,List.any_filter]
 rfl
theorem jmA (l:List RC):(j5m l).length<=l.length:=by
 unfold j5m
 rw [List.length_map]
 exact List.length_filter_le _ _
theorem jrb (a:List Int) (y x:Int):j3n (a++[y]) x=(j3n a x||(y==x)):=by
 unfold j3n
 rw [List.any_append]
 simp
theorem jqA (x:Int):(n:Nat)->(l:List RC)->l.length=n->j3n (j17 l) x=true->j5K l x=true:=by
 intro n
 induction n with
 | zero=>
  intro l f h
  have:l=[]:=List.length_eq_zero_iff.1 f
  subst this
  exact absurd h (by unfold j17 j3n;simp)
 | succ n i=>
  intro l f h
  have d:l≠[]:=λe=>by rw [e] at f;simp at f
  have e:l=l.dropLast++[l.getLast d]:=(List.dropLast_concat_getLast d).symm
  generalize p:l.dropLast=m at e
  generalize l.getLast d=r at e
  have b:m.length=n:=by rw [<-p,List.length_dropLast];omega
  subst e
  rw [jkU] at h
  rw [jq6,Bool.or_eq_true]
  unfold j7A at h
  cases k:r.1==1<;>rw [k] at h
  ·rw [cond_false] at h
   refine .inl (i m b ?_)
   cases g:(r.1==3)||(r.1==4)<;>rw [g] at h
   ·exact h
   ·rw [cond_true] at h
    unfold j3n at h ⊢
    rw [List.any_filter] at h
    obtain ⟨y,q,j⟩:=List.any_eq_true.1 h
    exact List.any_eq_true.2 ⟨y,q,(by rw [Bool.and_eq_true] at j;exact j.2)⟩
  ·rw [cond_true] at h
   cases g:j3n (j17 m) r.2.1<;>rw [g] at h
   ·rw [cond_false,jrb,Bool.or_eq_true] at h
    rcases h with h | h
    ·exact .inl (i m b h)
    ·exact .inr (by rw [h];rfl)
   ·exact .inl (i m b h)
theorem jkV {l:List RC} {x:Int} (h:j5K l x=false):j3n (j17 l) x=false:=by
 cases b:j3n (j17 l) x
 ·rfl
 ·rw [jqA x _ l rfl b] at h;cases h
theorem jmq (o:List Int) (r:RC):(j7A o r).length<=o.length+1:=by
 unfold j7A
 cases r.1==1
 ·cases (r.1==3)||(r.1==4)
  ·exact Nat.le_succ _
  ·exact Nat.le_succ_of_le (List.length_filter_le _ _)
 ·cases j3n o r.2.1
  ·show (o++[r.2.1]).length<=_;simp
  ·exact Nat.le_succ _
theorem jfW:(l:List RC)->(o:List Int)->(l.foldl j7A o).length<=o.length+l.length
 | [],o=>Nat.le_refl _
 | r::l,o=>by
  have b:=jfW l (j7A o r)
  have d:=jmq o r
  rw [List.foldl_cons,List.length_cons]
  omega
theorem jhY (l:List RC):(j17 l).length<=l.length:=by
 have:=jfW l []
 simpa [j17] using this
theorem jkb (x i:Int) (r:RC):(jip x i r).length<=1:=by
 unfold jip
 cases (r.1==2)&&(r.2.1==x)
 ·exact Nat.zero_le _
 ·exact Nat.le_refl _
theorem jgN (l:List RC) (x:Int):(j1Y l x).length<=l.length:=Z94 _ (jkb x) 0 l
theorem jmd {α β:Type} {g:Int->α->List β} {P:β->Prop}:(j:Nat)->(l:List α)->(h:∀ i,∀ x∈l,∀ y∈g i x,P y)->∀ y∈Z4r g j l,P y
 | _,[],h,y,b=>by cases b
 | j,x::l,h,y,b=>by
  rcases List.mem_append.1 b with b | b
  ·exact h _ x (by simp) y b
  ·exact jmd (j+1) l (λi x d=>h i x (List.mem_cons_of_mem _ d)) y b
theorem jq4 {l:List RC} {x:Int} {s:ST} (f:s∈j1Y l x):∃ r∈l,s=r.2.2:=
 jmd (P:=λs=>∃ r∈l,s=r.2.2) 0 l (λi r d y b=>by
  unfold jip at b
  cases h:(r.1==2)&&(r.2.1==x)<;>rw [h] at b
  ·cases b
  ·exact ⟨r,d,by simpa using b⟩) s f
end
end Go.PI.G
set_option linter.unusedSimpArgs false
namespace Go.PI.G
open Go Go.PI Go.Proofs
theorem jpj (s:ST) (k:Bool->Res):j6z s k=k (jjB s):=by
 unfold j6z jjB
 rw [j3D,j3D,jlh]
 cases s.1==0
 ·rfl
 ·cases sEq s.2.1 eS
  ·rfl
  ·cases s.2.2.1.length==0
   ·rfl
   ·cases s.2.2.2.1.length==0<;>rfl
theorem jp8 (s:ST) (k:Bool->Res):j7b s k=k (jjB s):=by
 unfold j7b jjB
 rw [j3D,j3D,jkt]
 cases s.1==0
 ·rfl
 ·cases sEq s.2.1 eS
  ·rfl
  ·cases s.2.2.1.length==0
   ·rfl
   ·cases s.2.2.2.1.length==0<;>rfl
theorem jq2 (r:RC) (h:j1a r.2.2) (k:Bool->Res):j8H r k=k (jbM r):=by
 unfold j8H j9z jbM
 by_cases d:1<=r.1/\r.1<=4
 ·rw [decide_eq_false (show ¬ r.1<1 by omega),cond_false,decide_eq_false (show ¬ r.1>4 by omega),cond_false,decide_eq_true d,Bool.true_and]
  by_cases f:1<=r.2.1/\r.2.1<=1000000
  ·rw [decide_eq_false (show ¬ r.2.1<1 by omega),cond_false,decide_eq_false (show ¬ r.2.1>1000000 by omega),decide_eq_true f,Bool.true_and]
   dsimp only
   rw [cond_false,jim _ h,jpj]
   cases r.1==2<;>rfl
  ·rw [decide_eq_false f]
   by_cases b:r.2.1<1
   ·rw [decide_eq_true b];rfl
   ·rw [decide_eq_false b,decide_eq_true (show r.2.1>1000000 by omega)];rfl
 ·rw [decide_eq_false d]
  by_cases b:r.1<1
  ·rw [decide_eq_true b];rfl
  ·rw [decide_eq_false b,decide_eq_true (show r.1>4 by omega)];rfl
theorem jkv (r:RC) (h:j1a r.2.2) (k:Bool->Res):j4W r k=k (jbM r):=by
 unfold j4W jbM
 rw [j5n,j5n]
 cases decide (1<=r.1/\r.1<=4)
 ·rfl
 ·cases decide (1<=r.2.1/\r.2.1<=1000000)
  ·rfl
  ·rw [Bool.not_true,cond_false,cond_false,jml _ h,jp8]
   cases r.1==2<;>rfl
end Go.PI.G
namespace Go.PI.G
open Go Go.PI Go.Proofs
theorem jpi (a b:V) (k:Bool->Res):j8c a b k=k (vlt a b):=by
 unfold j8c vlt
 rw [j8E,j8E]
 cases j0s a
 ·rfl
 ·cases j0s b
  ·rfl
  ·rw [Bool.not_true,cond_false,cond_false,Bool.true_and,Bool.true_and]
   cases a.1 != b.1
   ·rw [cond_false,cond_false]
    by_cases h:a.2.1=b.2.1
    ·rw [h,ZaO,cond_false,decide_eq_false (by omega),cond_false,beq_self_eq_true,cond_true]
    ·have d:(a.2.1 != b.2.1)=true:=by simp [h]
     have f:(a.2.1==b.2.1)=false:=by simp [h]
     rw [d,f,cond_true,cond_false]
     cases decide (a.2.1<b.2.1)<;>rfl
   ·rfl
theorem jp7 (a b:V) (k:Bool->Res):j7S a b k=k (vlt a b):=by
 unfold j7S vlt
 rw [j8q,j8q]
 cases j0s a
 ·rfl
 ·cases j0s b
  ·rfl
  ·rw [Bool.not_true,cond_false,cond_false,Bool.true_and,Bool.true_and]
   cases a.1 != b.1
   ·rw [cond_false,cond_false]
    cases a.2.1 != b.2.1<;>rfl
   ·rfl
end Go.PI.G
namespace Go.PI.G
open Go Go.PI Go.Proofs
theorem jmc {α V K:Type} (l:List α) (j:Int->V) (b:Nat->α->Bool) (p:Nat->Prop) {step:V->(V->Res)->K->Res} (q:K) (d k:Res) (r:l.length<=LIM) (n:p 0)
  (z:∀ (i:Nat),(g:i<l.length)->p i->b i l[i]=false->p (i+1))
  (A:∀ (i:Nat) rec,(g:i<l.length)->p i->step (j i) rec q=bif b i l[i] then k else rec (j ((i:Int)+1))) (y:∀ rec,step (j (l.length:Int)) rec q=d) :
  Z1f step Z1c (j 0) q=bif Z71 b 0 l then k else d:=by
 have h:=Z3Z l (λi (_:Unit)=>j i) (λi _ x=>if b i x then .error () else (.ok ():Except Unit Unit)) (λi _=>p i) q (λ_=>d) (λ_=>k) () r n (λi a C g f m=>by
   refine z i g f ?_
   cases w:b i l[i] with
   | false=>rfl
   | true=>rw [w] at m;cases m)
  (λi a rec g f=>by
   rw [A i rec g f]
   cases b i l[i]<;>rfl) (λa rec _=>y rec)
 rw [h]
 have:∀ (l:List α) (i:Nat),Z1S (λi _ x=>if b i x then .error () else (.ok ():Except Unit Unit)) i l ()=bif Z71 b i l then .error () else .ok ():=by
  intro l
  induction l with
  | nil=>intro i;rfl
  | cons x l B=>
   intro i
   simp only [Z1S,Z71]
   cases b i x with
   | true=>rfl
   | false=>exact B _
 rw [this]
 cases Z71 b 0 l<;>rfl
theorem jjg (c:C) (f:j13 c=true) (v:V) (k:Bool->Res):j4m c v k=k (j3K c v):=by
 have g:=jrZ f
 unfold j4m j3K
 rw [j8E,j8E]
 cases b:v.1==0
 ·cases j0s v
  ·rfl
  ·rw [cond_false,cond_true,Bool.false_and,Bool.or_false,Bool.true_and]
 ·have d:(v.1==c.2.1)=false:=by
   rw [beq_iff_eq] at b
   simp;omega
  rw [d,Bool.true_and,Bool.false_or]
  cases j0s v<;>rfl
theorem jp6 (c:C) (v:V) (k:Bool->Res):jcc c v k=k (j3K c v):=by
 unfold jcc j3K
 rw [j8q]
 cases j0s v
 ·rfl
 ·cases v.1==c.2.1
  ·cases v.1==0<;>rfl
  ·rfl
theorem jgM (t:T) (h:msr yT t<=1048576) (r:List V) (k:Bool->Res):j2w t r k=k (j05 t&&j0r t.2.1 r):=by
 obtain ⟨g,j,l,m,p⟩:=j2O h
 unfold j2w
 rw [jdj t h]
 cases ht:j05 t
 ·rfl
 ·rw [Bool.not_true,cond_false,Bool.true_and]
  unfold j0r
  by_cases d:r.length=t.2.1.length
  ·have f:(nI r.length != nI t.2.1.length)=false:=by rw [d,ZaO]
   rw [f,cond_false,decide_eq_true d,Bool.true_and]
   unfold jcN
   have:=Z9P t.2.1 (λi=>i) (λi c=> !j3K c (nth zV r (i:Int))) (step:=j7H t.2.1 (nI t.2.1.length) r) ((λ(_:Unit)=>k true),(λ(_:Unit)=>k false)) (k true) (k false) (by unfold LIM;omega) (λi rec b=>by
    show j5i _ _ r _ _ _ _=_
    unfold j5i
    rw [ZaQ b,cond_true,j00 b,cond_true,j00 (d ▸ b),cond_true,Zay _ _ _ b,jjg _ (jmg (j1Z ht).2.2.2.2.1 i b),j01 (n:=(i:Int)+1) (by omega)]) (λrec=>by
    show j5i _ _ r _ _ _ _=_
    unfold j5i
    rw [ZaP,cond_false])
   refine this.trans ?_
   cases Z71 (λi c=> !j3K c (nth zV r (i:Int))) 0 t.2.1<;>rfl
  ·have f:(nI r.length != nI t.2.1.length)=true:=by unfold nI;simp;omega
   rw [f,cond_true,decide_eq_false d,Bool.false_and]
theorem jgu (t:T) (h:msr yT t<=1048576) (r:List V) (k:Bool->Res):j3p t r k=k (j0r t.2.1 r):=by
 obtain ⟨g,j,l,m,p⟩:=j2O h
 unfold j3p j0r
 by_cases b:r.length=t.2.1.length
 ·have d:(nI r.length != nI t.2.1.length)=false:=by rw [b,ZaO]
  rw [d,cond_false,decide_eq_true b,Bool.true_and]
  unfold jh8
  have:=Z9P t.2.1 (λi=>i) (λi c=> !j3K c (nth zV r (i:Int))) (step:=jaD r (nI r.length) t) ((λ(_:Unit)=>k true),(λ(_:Unit)=>k false)) (k true) (k false) (by unfold LIM;omega) (λi rec f=>by
   show j51 _ _ t _ _ _ _=_
   unfold j51
   rw [b,ZaQ f,cond_true,j00 f,cond_true,cond_true,Zay zC _ _ f,jp6,j01 (n:=(i:Int)+1) (by omega)]) (λrec=>by
   show j51 _ _ t _ _ _ _=_
   unfold j51
   rw [b,ZaP,cond_false])
  refine this.trans ?_
  cases Z71 (λi c=> !j3K c (nth zV r (i:Int))) 0 t.2.1<;>rfl
 ·have d:(nI r.length != nI t.2.1.length)=true:=by unfold nI;simp;omega
  rw [d,cond_true,decide_eq_false b,Bool.false_and]
theorem j0z {l:List C} {r:List V} (h:j0r l r=true):r.length=l.length:=by
 unfold j0r at h
 rw [Bool.and_eq_true,decide_eq_true_eq] at h
 exact h.1
theorem j9G {α β:Type} (f:α->β):(l:List α)->l.flatMap (λx=>[f x])=l.map f
 | []=>rfl
 | x::l=>by rw [List.flatMap_cons,j9G f l];rfl
theorem j9I (t:T) (r:List V):(j07 t r).length=t.2.2.length:=by unfold j07;simp
theorem j6S (t:T) (h:msr yT t<=1048576) (ht:j05 t=true) (r:List V) (m:r.length=t.2.1.length) (k:List V->Res):j0B t r k=k (j07 t r):=by
 obtain ⟨p,q,w,y,z⟩:=j2O h
 unfold j0B jgc
 have g:=j1i t.2.2 (-1) (by omega) (j1Z ht).2.2.2.2.2
 have:=Z9T t.2.2 (λi b=>(b,i)) (λn=>[nth zV r (j02 t.2.1 n)]) 1048576 [] (step:=j9U t.2.2 (nI t.2.2.length) t r) (λb=>k b) (λb=>k b) (by unfold LIM;omega) (λi d _=>by
  rw [j9G,List.nil_append,List.length_map,List.length_take];omega) (by simp) (λi b rec d l _=>by
  show j4n _ _ t r _ _ _ _=_
  unfold j4n
  have f:=g _ (List.getElem_mem d)
  have j:b.length=i:=by
   rw [l,j9G,List.nil_append,List.length_map,List.length_take];omega
  dsimp only
  rw [ZaQ d,cond_true,j00 d,cond_true,Zay _ _ _ d,j6D t _ (by unfold LIM;omega),ZaK f.1 (by omega),cond_true,ZaL (by unfold LIM;omega),cond_true,j01 (n:=(i:Int)+1) (by omega)]) (λb rec=>by
  show j4n _ _ t r _ _ _ _=_
  unfold j4n
  dsimp only
  rw [ZaP,cond_false])
 refine this.trans ?_
 rw [j9G,List.nil_append]
 rfl
theorem jg8 (a b:List V) (j:a.length<=LIM) (k:Bool->Res):j4g a b k=k (klt a b):=by
 unfold j4g jeJ
 unfold LIM at j
 have h:∀ (d i n:Nat),i+d=a.length->d<n->i<=b.length->Z1f (j8Y a b) n (i:Int) ((λ(_:Unit)=>k (decide (nI a.length<nI b.length))),(λ(t:Bool)=>k t))=k (klt (a.drop i) (b.drop i)):=by
  intro d
  induction d with
  | zero=>
   intro i n p q l
   obtain ⟨n,rfl⟩:∃ m,n=m+1:=⟨n-1,by omega⟩
   have:i=a.length:=by omega
   subst this
   show j3a a b _ _ _ _=_
   unfold j3a
   rw [ZaP,cond_false,List.drop_length]
   show k (decide (nI a.length<nI b.length))=_
   by_cases g:a.length<b.length
   ·rw [List.drop_eq_getElem_cons g,decide_eq_true (show nI a.length<nI b.length by unfold nI;omega)]
    rfl
   ·rw [List.drop_of_length_le (by omega),decide_eq_false (show ¬ nI a.length<nI b.length by unfold nI;omega)]
    rfl
  | succ d r=>
   intro i n p q l
   obtain ⟨n,rfl⟩:∃ m,n=m+1:=⟨n-1,by omega⟩
   have f:i<a.length:=by omega
   show j3a a b _ _ _ _=_
   unfold j3a
   rw [ZaQ f,cond_true,List.drop_eq_getElem_cons f]
   by_cases g:i<b.length
   ·rw [ZaQ g,cond_true,j00 f,cond_true,j00 g,cond_true,List.drop_eq_getElem_cons g,Zay _ _ _ f,Zay _ _ _ g,cond_true,cond_true,jpi,j01 (n:=(i:Int)+1) (by omega)]
    show (bif !veq a[i] b[i] then _ else _)=k (bif veq a[i] b[i] then _ else _)
    cases veq a[i] b[i]
    ·rfl
    ·exact r (i+1) n (by omega) (by omega) (by omega)
   ·have:i=b.length:=by omega
    subst this
    rw [ZaP,cond_false,List.drop_length]
    show k (decide (nI a.length<nI b.length))=_
    rw [decide_eq_false (show ¬ nI a.length<nI b.length by unfold nI;omega)]
    rfl
 exact h a.length 0 Z1c (by omega) (Z2b (by omega)) (by omega)
theorem j3o (t:T) (h:msr yT t<=1048576) (ht:j05 t=true) (r:List V) (m:r.length=t.2.1.length) (k:List V->Res):j0I t r k=k (j07 t r):=by
 obtain ⟨p,q,w,y,z⟩:=j2O h
 unfold j0I jh7
 have g:=j1i t.2.2 (-1) (by omega) (j1Z ht).2.2.2.2.2
 have:=Z9T t.2.2 (λi b=>(b,i)) (λn=>[nth zV r (j02 t.2.1 n)]) 1048576 [] (step:=jaC t.2.2 (nI t.2.2.length) t r) (λb=>k b) (λb=>k b) (by unfold LIM;omega) (λi d _=>by
  rw [j9G,List.nil_append,List.length_map,List.length_take];omega) (by simp) (λi b rec d l _=>by
  show j50 _ _ t r _ _ _ _=_
  unfold j50
  have f:=g _ (List.getElem_mem d)
  have j:b.length=i:=by
   rw [l,j9G,List.nil_append,List.length_map,List.length_take];omega
  dsimp only
  rw [ZaQ d,cond_true,j00 d,cond_true,Zay _ _ _ d,j7Q t _ (by unfold LIM;omega),ZaK f.1 (by omega),cond_true,ZaL (by unfold LIM;omega),cond_true,j01 (n:=(i:Int)+1) (by omega)]) (λb rec=>by
  show j50 _ _ t r _ _ _ _=_
  unfold j50
  dsimp only
  rw [ZaP,cond_false])
 refine this.trans ?_
 rw [j9G,List.nil_append]
 rfl
theorem jbA (a b:List V) (j:a.length<=LIM) (k:Bool->Res):j3L a b k=k (klt a b):=by
 unfold j3L jex
 unfold LIM at j
 have h:∀ (d i n:Nat),i+d=a.length->d<n->i<=b.length->Z1f (j8R a b) n (i:Int) ((λ(_:Unit)=>k (decide (nI a.length<nI b.length))),(λ(t:Bool)=>k t))=k (klt (a.drop i) (b.drop i)):=by
  intro d
  induction d with
  | zero=>
   intro i n p q l
   obtain ⟨n,rfl⟩:∃ m,n=m+1:=⟨n-1,by omega⟩
   have:i=a.length:=by omega
   subst this
   show j32 a b _ _ _ _=_
   unfold j32
   rw [ZaP,cond_false,List.drop_length]
   show k (decide (nI a.length<nI b.length))=_
   by_cases g:a.length<b.length
   ·rw [List.drop_eq_getElem_cons g,decide_eq_true (show nI a.length<nI b.length by unfold nI;omega)]
    rfl
   ·rw [List.drop_of_length_le (by omega),decide_eq_false (show ¬ nI a.length<nI b.length by unfold nI;omega)]
    rfl
  | succ d r=>
   intro i n p q l
   obtain ⟨n,rfl⟩:∃ m,n=m+1:=⟨n-1,by omega⟩
   have f:i<a.length:=by omega
   show j32 a b _ _ _ _=_
   unfold j32
   rw [ZaQ f,cond_true,List.drop_eq_getElem_cons f]
   by_cases g:i<b.length
   ·rw [ZaQ g,cond_true,j00 f,cond_true,j00 g,cond_true,List.drop_eq_getElem_cons g,Zay _ _ _ f,Zay _ _ _ g,cond_true,cond_true,jp7,j01 (n:=(i:Int)+1) (by omega)]
    show (bif !veq a[i] b[i] then _ else _)=k (bif veq a[i] b[i] then _ else _)
    cases veq a[i] b[i]
    ·rfl
    ·exact r (i+1) n (by omega) (by omega) (by omega)
   ·have:i=b.length:=by omega
    subst this
    rw [ZaP,cond_false,List.drop_length]
    show k (decide (nI a.length<nI b.length))=_
    rw [decide_eq_false (show ¬ nI a.length<nI b.length by unfold nI;omega)]
    rfl
 exact h a.length 0 Z1c (by omega) (Z2b (by omega)) (by omega)
theorem j7n (t:T) (h:msr yT t<=1048576) (l:List (List V)) (k:Bool->Res):j0A t l k=k (j08 t l):=by
 obtain ⟨B,C,D,E,F⟩:=j2O h
 unfold j0A j08
 rw [jdj t h]
 cases ht:j05 t
 ·rfl
 ·rw [Bool.not_true,cond_false,Bool.true_and]
  by_cases q:l.length<=60
  ·rw [decide_eq_false (show ¬ nI l.length>60 by unfold nI;omega),cond_false,decide_eq_true q,Bool.true_and]
   unfold jbW
   have:=jmc l (λi=>i) (λi r=> !j0r t.2.1 r||(decide (0<i)&& !klt (j07 t (nth [] l ((i:Int)-1))) (j07 t r))) (λi=>∀ (j:Nat) (g:j<l.length),j<i->j0r t.2.1 l[j]=true) (step:=j4h l l (nI l.length) t) ((λ(_:Unit)=>k true),(λ(_:Unit)=>k false)) (k true) (k false) (by unfold LIM;omega) (λj _ g=>absurd g (by omega)) (λi f m w j g z=>by
    rw [Bool.or_eq_false_iff,Bool.not_eq_false'] at w
    by_cases d:j<i
    ·exact m j g d
    ·have:j=i:=by omega
     subst this
     exact w.1) (λi rec f m=>by
    show j2q l _ _ t _ _ _ _=_
    unfold j2q
    rw [ZaQ f,cond_true,j00 f,cond_true,Zay _ _ _ f,jgM t h]
    rw [ht,Bool.true_and]
    cases A:j0r t.2.1 l[i]
    ·rfl
    ·rw [Bool.not_true,cond_false,Bool.false_or,j01 (n:=(i:Int)+1) (by omega)]
     by_cases p:0<i
     ·have b:i-1<l.length:=by omega
      have y:((i:Int)-1)=((i-1:Nat):Int):=by omega
      rw [decide_eq_true (show (i:Int)>0 by omega),cond_true,decide_eq_true p,Bool.true_and,j01 (n:=(i:Int)-1) (by omega),y,j00 b,cond_true,Zay _ _ _ b,j6S t h ht _ (j0z (m _ b (by omega))),j6S t h ht _ (j0z A),jg8 _ _ (by rw [j9I];unfold LIM;omega)]
     ·rw [decide_eq_false (show ¬ (i:Int)>0 by omega),cond_false,decide_eq_false p,Bool.false_and,cond_false]) (λrec=>by
    show j2q l _ _ t _ _ _ _=_
    unfold j2q
    rw [ZaP,cond_false])
   refine this.trans ?_
   cases Z71 (λi r=> !j0r t.2.1 r||(decide (0<i)&& !klt (j07 t (nth [] l ((i:Int)-1))) (j07 t r))) 0 l<;>rfl
  ·rw [decide_eq_true (show nI l.length>60 by unfold nI;omega),cond_true,decide_eq_false q,Bool.false_and]
theorem j9a (t:T) (h:msr yT t<=1048576) (l:List (List V)) (k:Bool->Res):j0P t l k=k (j08 t l):=by
 obtain ⟨B,C,D,E,F⟩:=j2O h
 unfold j0P j08
 rw [jgv t h]
 cases ht:j05 t
 ·rfl
 ·rw [Bool.not_true,cond_false,Bool.true_and]
  by_cases q:l.length<=60
  ·rw [decide_eq_false (show ¬ nI l.length>60 by unfold nI;omega),cond_false,decide_eq_true q,Bool.true_and]
   unfold jbC
   have:=jmc l (λi=>i) (λi r=> !j0r t.2.1 r||(decide (0<i)&& !klt (j07 t (nth [] l ((i:Int)-1))) (j07 t r))) (λi=>∀ (j:Nat) (g:j<l.length),j<i->j0r t.2.1 l[j]=true) (step:=j3M l l (nI l.length) t) ((λ(_:Unit)=>k true),(λ(_:Unit)=>k false)) (k true) (k false) (by unfold LIM;omega) (λj _ g=>absurd g (by omega)) (λi f m w j g z=>by
    rw [Bool.or_eq_false_iff,Bool.not_eq_false'] at w
    by_cases d:j<i
    ·exact m j g d
    ·have:j=i:=by omega
     subst this
     exact w.1) (λi rec f m=>by
    show j2n l _ _ t _ _ _ _=_
    unfold j2n
    rw [ZaQ f,cond_true,j00 f,cond_true,Zay _ _ _ f,jgu t h]
    cases A:j0r t.2.1 l[i]
    ·rfl
    ·rw [Bool.not_true,cond_false,Bool.false_or,j01 (n:=(i:Int)+1) (by omega)]
     by_cases p:0<i
     ·have b:i-1<l.length:=by omega
      have y:((i:Int)-1)=((i-1:Nat):Int):=by omega
      rw [decide_eq_true (show (i:Int)>0 by omega),cond_true,decide_eq_true p,Bool.true_and,j01 (n:=(i:Int)-1) (by omega),y,j00 b,cond_true,Zay _ _ _ b,j3o t h ht _ (j0z (m _ b (by omega))),j3o t h ht _ (j0z A),jbA _ _ (by rw [j9I];unfold LIM;omega)]
     ·rw [decide_eq_false (show ¬ (i:Int)>0 by omega),cond_false,decide_eq_false p,Bool.false_and,cond_false]) (λrec=>by
    show j2n l _ _ t _ _ _ _=_
    unfold j2n
    rw [ZaP,cond_false])
   refine this.trans ?_
   cases Z71 (λi r=> !j0r t.2.1 r||(decide (0<i)&& !klt (j07 t (nth [] l ((i:Int)-1))) (j07 t r))) 0 l<;>rfl
  ·rw [decide_eq_true (show nI l.length>60 by unfold nI;omega),cond_true,decide_eq_false q,Bool.false_and]
theorem j0i {t:T} {l:List (List V)} (h:j08 t l=true):j05 t=true/\l.length<=60/\∀ r∈l,j0r t.2.1 r=true:=by
 unfold j08 at h
 simp only [Bool.and_eq_true,decide_eq_true_eq,Bool.not_eq_true'] at h
 refine ⟨h.1,h.2.1,λr d=> ?_⟩
 obtain ⟨i,b,rfl⟩:=List.getElem_of_mem d
 have:=jd6 l 0 h.2.2 i b
 simp only [Bool.or_eq_false_iff,Bool.not_eq_false'] at this
 exact this.1
end Go.PI.G
namespace Go.PI.G
open Go Go.PI Go.Proofs
theorem jki {α K:Type} (z:α) (f:α->α->Bool) (a b:List α) {step:Int->(Int->Res)->K->Res} (q:K) (x y:Res) (h:a.length<=LIM) (g:a.length=b.length)
  (k:∀ (i:Nat) rec,(d:i<a.length)->(l:i<b.length)->step (i:Int) rec q=bif f a[i] b[i] then rec ((i:Int)+1) else y) (j:∀ rec,step (a.length:Int) rec q=x) :
  Z1f step Z1c 0 q=bif j1M z f a b then x else y:=by
 have:=Z9P a (λi=>i) (λi u=> !f u (nth z b (i:Int))) (step:=step) q x y h (λi rec d=>by
  rw [k i rec d (g ▸ d),Zay _ _ _ (g ▸ d)]
  cases f a[i] (b[i]'(g ▸ d))<;>rfl) j
 refine this.trans ?_
 unfold j1M
 rw [decide_eq_true g,Bool.true_and]
 cases Z71 (λi u=> !f u (nth z b (i:Int))) 0 a<;>rfl
theorem jky {α β:Type} {a:List α} {b:List β} (h:¬ a.length=b.length):(nI a.length != nI b.length)=true:=by unfold nI;simp;omega
theorem jkx {α β:Type} {a:List α} {b:List β} (h:a.length=b.length):(nI a.length != nI b.length)=false:=by rw [h,ZaO]
theorem jnK {α:Type} {z:α} {f:α->α->Bool} {a b:List α} (h:¬ a.length=b.length):j1M z f a b=false:=by
 unfold j1M;rw [decide_eq_false h,Bool.false_and]
theorem jli (a b:List V) (g:a.length<=LIM) (k:Bool->Res):j4p a b k=k (j1M zV veq a b):=by
 unfold j4p
 by_cases d:a.length=b.length
 ·rw [jkx d,cond_false]
  unfold jbs
  unfold LIM at g
  have:=jki zV veq a b (step:=j6y a b (nI a.length)) ((λ(_:Unit)=>k true),(λ(_:Unit)=>k false)) (k true) (k false) g d (λi rec f h=>by
   show j1K _ _ _ _ _ _ _=_
   unfold j1K
   rw [ZaQ f,cond_true,j00 f,cond_true,j00 h,cond_true,Zay _ _ _ f,Zay _ _ _ h,j01 (n:=(i:Int)+1) (by omega)]
   show (bif !veq a[i] b[i] then _ else _)=_
   cases veq a[i] b[i]<;>rfl) (λrec=>by
   show j1K _ _ _ _ _ _ _=_
   unfold j1K
   rw [ZaP,cond_false])
  refine this.trans ?_
  cases j1M zV veq a b<;>rfl
 ·rw [jky d,cond_true,jnK d]
theorem jew (a b:List V) (g:a.length<=LIM) (k:Bool->Res):j1y a b k=k (j1M zV veq a b):=by
 unfold j1y
 by_cases d:a.length=b.length
 ·rw [jkx d,cond_false]
  unfold jbq
  unfold LIM at g
  have:=jki zV veq a b (step:=j6n a b (nI a.length)) ((λ(_:Unit)=>k true),(λ(_:Unit)=>k false)) (k true) (k false) g d (λi rec f h=>by
   show j1H _ _ _ _ _ _ _=_
   unfold j1H
   rw [ZaQ f,cond_true,j00 f,cond_true,j00 h,cond_true,Zay _ _ _ f,Zay _ _ _ h,j01 (n:=(i:Int)+1) (by omega)]
   show (bif !veq a[i] b[i] then _ else _)=_
   cases veq a[i] b[i]<;>rfl) (λrec=>by
   show j1H _ _ _ _ _ _ _=_
   unfold j1H
   rw [ZaP,cond_false])
  refine this.trans ?_
  cases j1M zV veq a b<;>rfl
 ·rw [jky d,cond_true,jnK d]
theorem j6p (t:T) (h:msr yT t<=1048576) (l:List (List V)) (f:j08 t l=true) (b:List V) (k:Int->Res):j19 t l b k=k (j06 t l b):=by
 obtain ⟨m,p,q,w,y⟩:=j2O h
 obtain ⟨g,z,j⟩:=j0i f
 unfold j19
 rw [j7n t h,f,Bool.not_true,cond_false]
 unfold jcM
 refine Z9S l (λi=>i) (λr=>j1M zV veq (j07 t r) b) (step:=j5h b l (nI l.length) t) _ k (by unfold LIM;omega) (λi rec d=> ?_) (λrec=> ?_)
 ·show j2S b _ _ t _ _ _ _=_
  unfold j2S
  rw [ZaQ d,cond_true,j00 d,cond_true,Zay _ _ _ d,j6S t h g _ (j0z (j _ (List.getElem_mem d))),jli _ _ (by rw [j9I];unfold LIM;omega),j01 (n:=(i:Int)+1) (by omega)]
 ·show j2S b _ _ t _ _ _ _=_
  unfold j2S
  rw [ZaP,cond_false]
theorem j1P (t:T) (h:msr yT t<=1048576) (l:List (List V)) (f:j08 t l=true) (b:List V) (k:Int->Res):j0J t l b k=k (j06 t l b):=by
 obtain ⟨m,p,q,w,y⟩:=j2O h
 obtain ⟨g,z,j⟩:=j0i f
 unfold j0J j6Q j8N
 refine Z9S l (λi=>i) (λr=>j1M zV veq (j07 t r) b) (step:=j3r l (t,b) (nI l.length)) _ k (by unfold LIM;omega) (λi rec d=> ?_) (λrec=> ?_)
 ·show j10 _ _ _ _ _ _ _=_
  unfold j10 jcb
  rw [ZaQ d,cond_true,j00 d,cond_true,Zay _ _ _ d,j3o t h g _ (j0z (j _ (List.getElem_mem d))),jew _ _ (by rw [j9I];unfold LIM;omega),j01 (n:=(i:Int)+1) (by omega)]
 ·show j10 _ _ _ _ _ _ _=_
  unfold j10
  rw [ZaP,cond_false]
theorem jom (t:T) (l:List (List V)) (b:List V): -1<=j06 t l b/\j06 t l b<(l.length:Int):=jd7 _ _
end Go.PI.G
namespace Go.PI.G
open Go Go.PI Go.Proofs
theorem jpA {c:List T} (h:msr (.slice yT) c<=1048576):c.length<=1048576/\∀ t∈c,msr yT t<=1048576:=⟨j0v h,λt ht=>j0S h ht⟩
theorem joz (c:List T) (h:msr (.slice yT) c<=1048576) (a b:Unit->Res):jcK c (nI c.length) c Z1c 0 a b=bif Z71 (λi t=> !j05 t||(decide (0<i)&&sGe (nth zT c ((i:Int)-1)).1 t.1)) 0 c then b () else a ():=by
 obtain ⟨g,f⟩:=jpA h
 unfold jcK
 exact Z9P c (λi=>i) (λi t=> !j05 t||(decide (0<i)&&sGe (nth zT c ((i:Int)-1)).1 t.1)) (step:=jaX c (nI c.length) c) (a,b) (a ()) (b ()) (by unfold LIM;omega) (λi rec d=>by
  show j5c _ _ c _ _ _ _=_
  unfold j5c
  rw [ZaQ d,cond_true,j00 d,cond_true,Zay _ _ _ d,jdj _ (f _ (List.getElem_mem d)),j01 (n:=(i:Int)+1) (by omega),jnN c i d (by unfold LIM;omega)]
  cases j05 c[i]
  ·rfl
  ·cases (decide (0<i)&&sGe (nth zT c ((i:Int)-1)).1 c[i].1)<;>rfl) (λrec=>by
  show j5c _ _ c _ _ _ _=_
  unfold j5c
  rw [ZaP,cond_false])
theorem jnZ (c:List T) (h:msr (.slice yT) c<=1048576) (a b:Unit->Res):jcx c (nI c.length) c Z1c 0 a b=bif Z71 (λi t=> !j05 t||(decide (0<i)&&sGe (nth zT c ((i:Int)-1)).1 t.1)) 0 c then b () else a ():=by
 obtain ⟨g,f⟩:=jpA h
 unfold jcx
 exact Z9P c (λi=>i) (λi t=> !j05 t||(decide (0<i)&&sGe (nth zT c ((i:Int)-1)).1 t.1)) (step:=jax c (nI c.length) c) (a,b) (a ()) (b ()) (by unfold LIM;omega) (λi rec d=>by
  show j4R _ _ c _ _ _ _=_
  unfold j4R
  rw [ZaQ d,cond_true,j00 d,cond_true,Zay _ _ _ d,jgv _ (f _ (List.getElem_mem d)),j01 (n:=(i:Int)+1) (by omega),jnN c i d (by unfold LIM;omega)]
  cases j05 c[i]
  ·rfl
  ·cases (decide (0<i)&&sGe (nth zT c ((i:Int)-1)).1 c[i].1)<;>rfl) (λrec=>by
  show j4R _ _ c _ _ _ _=_
  unfold j4R
  rw [ZaP,cond_false])
theorem jld (c:List T) (h:msr (.slice yT) c<=1048576) (k:Bool->Res):j6T c k=k (j2m c):=by
 unfold j6T j2m
 rw [joz c h]
 by_cases b:c.length<=6
 ·rw [decide_eq_false (show ¬ nI c.length>6 by unfold nI;omega),cond_false,decide_eq_true b,Bool.true_and]
  cases Z71 (λi t=> !j05 t||(decide (0<i)&&sGe (nth zT c ((i:Int)-1)).1 t.1)) 0 c<;>rfl
 ·rw [decide_eq_true (show nI c.length>6 by unfold nI;omega),cond_true,decide_eq_false b,Bool.false_and]
theorem jkr (c:List T) (h:msr (.slice yT) c<=1048576) (k:Bool->Res):j6G c k=k (j2m c):=by
 unfold j6G j2m
 rw [jnZ c h]
 have:decide (nI c.length<=6)=decide (c.length<=6):=decide_eq_decide.2 (by unfold nI;omega)
 rw [this]
 cases Z71 (λi t=> !j05 t||(decide (0<i)&&sGe (nth zT c ((i:Int)-1)).1 t.1)) 0 c
 ·rw [Bool.not_false,Bool.and_true];rfl
 ·rw [Bool.not_true,Bool.and_false];rfl
end Go.PI.G
namespace Go.PI.G
open Go Go.PI Go.Proofs
theorem j88 (c:List T) (n:ByteArray) (h:c.length<=LIM) (k:Int->Res):j1t c n k=k (j04 c n):=by
 unfold j1t jhi
 refine Z9S c (λi=>i) (λt=>sEq t.1 n) (step:=jb1 n c (nI c.length)) _ k h (λi rec b=> ?_) (λrec=> ?_)
 ·show j5l n _ _ _ _ _ _=_
  unfold j5l
  unfold LIM at h
  rw [ZaQ b,cond_true,j00 b,cond_true,Zay _ _ _ b,j01 (n:=(i:Int)+1) (by omega)]
 ·show j5l n _ _ _ _ _ _=_
  unfold j5l
  rw [ZaP,cond_false]
theorem j5S (c:List T) (n:ByteArray) (h:c.length<=LIM) (k:Int->Res):j0g c n k=k (j04 c n):=by
 unfold j0g j5s j7F
 refine Z9S c (λi=>i) (λt=>sEq t.1 n) (step:=j2G c n (nI c.length)) _ k h (λi rec b=> ?_) (λrec=> ?_)
 ·show j0H _ n _ _ _ _ _=_
  unfold j0H jdE
  unfold LIM at h
  rw [ZaQ b,cond_true,j00 b,cond_true,Zay _ _ _ b,j01 (n:=(i:Int)+1) (by omega)]
 ·show j0H _ n _ _ _ _ _=_
  unfold j0H
  rw [ZaP,cond_false]
end Go.PI.G
