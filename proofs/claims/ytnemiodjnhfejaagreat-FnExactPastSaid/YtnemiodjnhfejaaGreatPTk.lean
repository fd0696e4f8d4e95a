/-
  Program's code interpreted over typed values; printed texts; plain laws. No conditions.
-/
import Derived.Test.YtnemiodjnhfejaaGreatPTj
import Derived.Test.YtnemiodjnhfejaaGreatPTg
import Derived.Test.YtnemiodjnhfejaaGreatPTi
import Derived.Test.YtnemiodjnhfejaaGreatPTf
import Derived.Test.YtnemiodjnhfejaaGreatPTd
set_option linter.unusedVariables false
namespace Go.PI.G
noncomputable section
open Go Go.PI
def j0z {α:Type} (z:α) (f:α->α->Bool) (a b:List α):Bool:=decide (a.length=b.length)&& !Z71 (λi x=> !f x (nth z b (i:Int))) 0 a
theorem jlf {α:Type} {z:α} {f:α->α->Bool} (d:∀ x y,f x y=true↔x=y) (a b:List α):j0z z f a b=true↔a=b:=by
 unfold j0z
 rw [Bool.and_eq_true,decide_eq_true_eq,Bool.not_eq_true',ja5]
 constructor
 ·rintro ⟨m,h⟩
  refine List.ext_getElem m λi g k=> ?_
  have:=h i g
  rw [Nat.zero_add,Zay _ _ _ k,Bool.not_eq_false'] at this
  exact (d _ _).1 this
 ·rintro rfl
  refine ⟨rfl,λj l=> ?_⟩
  rw [Nat.zero_add,Zay _ _ _ l,(d _ _).2 rfl];rfl
theorem j52 (a b:List V):j0z zV veq a b=true↔a=b:=jlf je3 a b
def j06 (t:T) (l:List (List V)) (b:List V):Int:=Z9F (λr=>j0z zV veq (j07 t r) b) l
theorem jbg (t:T) (l:List (List V)) (b:List V):(j06 t l b= -1/\∀ r∈l,j07 t r≠b)\/∃ (i:Nat) (g:i<l.length),j06 t l b=(i:Int)/\j07 t l[i]=b:=by
 rcases jaW (λr=>j0z zV veq (j07 t r) b) l with ⟨d,f⟩ | ⟨i,g,d,f,j⟩
 ·refine .inl ⟨d,λr h e=> ?_⟩
  have:=f r h
  rw [(j52 _ _).2 e] at this
  cases this
 ·exact .inr ⟨i,g,d,(j52 _ _).1 f⟩
theorem jm9 (t:T) (l:List (List V)) (b:List V):decide (j06 t l b<0)= !l.any λr=>j0z zV veq (j07 t r) b:=by
 rcases jbg t l b with ⟨f,d⟩ | ⟨i,j,f,d⟩
 ·rw [decide_eq_true (by omega)]
  have:(l.any λr=>j0z zV veq (j07 t r) b)=false:=by
   rw [List.any_eq_false]
   intro r g h
   exact d r g ((j52 _ _).1 h)
  rw [this];rfl
 ·rw [decide_eq_false (by omega)]
  have:(l.any λr=>j0z zV veq (j07 t r) b)=true:=by
   rw [List.any_eq_true]
   exact ⟨l[i],List.getElem_mem _,(j52 _ _).2 d⟩
  rw [this];rfl
def lay {α:Type} (R:α->α->Bool) (x:α) (l:List α):List α:=l.takeWhile (λy=> !R x y)++x::l.dropWhile (λy=> !R x y)
theorem jmN {α:Type} {R:α->α->Bool} {x z:α} {l:List α}:z∈lay R x l↔z=x\/z∈l:=by
 unfold lay
 rw [List.mem_append,List.mem_cons]
 have:z∈l↔z∈l.takeWhile (λy=> !R x y)\/z∈l.dropWhile (λy=> !R x y):=by
  rw [<-List.mem_append,List.takeWhile_append_dropWhile]
 rw [this]
 constructor
 ·rintro (h | h | h)
  ·exact .inr (.inl h)
  ·exact .inl h
  ·exact .inr (.inr h)
 ·rintro (h | h | h)
  ·exact .inr (.inl h)
  ·exact .inl h
  ·exact .inr (.inr h)
theorem jmK {α:Type} (R:α->α->Bool) (x:α) (l:List α):(lay R x l).length=l.length+1:=by
 unfold lay
 have:=congrArg List.length (List.takeWhile_append_dropWhile (p:=λy=> !R x y) (l:=l))
 rw [List.length_append] at this
 rw [List.length_append,List.length_cons]
 omega
theorem jpo {α:Type} {R:α->α->Bool} (i:∀ a b c,R a b=true->R b c=true->R a c=true) (x:α):(l:List α)->(l.Pairwise λa b=>R a b=true)->(∀ y∈l,R x y=true\/R y x=true)->(lay R x l).Pairwise λa b=>R a b=true
 | [],_,_=>List.pairwise_singleton _ _
 | y::l,h,ht=>by
  rw [List.pairwise_cons] at h
  cases d:R x y
  ·have e:lay R x (y::l)=y::lay R x l:=by
    unfold lay
    rw [List.takeWhile_cons,List.dropWhile_cons,d]
    rfl
   rw [e,List.pairwise_cons]
   refine ⟨λz f=> ?_,jpo i x l h.2 λz f=>ht z (List.mem_cons_of_mem _ f)⟩
   rcases jmN.1 f with rfl | f
   ·rcases ht y (by simp) with g | g
    ·rw [d] at g;cases g
    ·exact g
   ·exact h.1 z f
  ·have e:lay R x (y::l)=x::y::l:=by
    unfold lay
    rw [List.takeWhile_cons,List.dropWhile_cons,d]
    rfl
   rw [e,List.pairwise_cons]
   refine ⟨λz f=> ?_,List.pairwise_cons.2 h⟩
   rcases List.mem_cons.1 f with rfl | f
   ·exact d
   ·exact i _ _ _ d (h.1 z f)
theorem jqO {α:Type} {R:α->α->Bool} (g:∀ a b,R a b=true->R b a=false) {x:α} {l:List α} (ht:∀ y∈l,R x y=true\/R y x=true) :
  ∃ i,i<=l.length/\i=(l.takeWhile λy=>R y x).length/\lay R x l=l.take i++x::l.drop i:=by
 have f:∀ (l:List α),(∀ y∈l,R x y=true\/R y x=true)->l.takeWhile (λy=> !R x y)=l.takeWhile λy=>R y x:=by
  intro l
  induction l with
  | nil=>intro _;rfl
  | cons y l m=>
   intro h
   have e:(!R x y)=R y x:=by
    rcases h y (by simp) with d | d
    ·rw [d,g _ _ d];rfl
    ·rw [d,g _ _ d];rfl
   rw [List.takeWhile_cons,List.takeWhile_cons,e,m λz k=>h z (List.mem_cons_of_mem _ k)]
 have d:=List.takeWhile_append_dropWhile (p:=λy=> !R x y) (l:=l)
 have j:=f l ht
 refine ⟨(l.takeWhile λy=>R y x).length,?_,rfl,?_⟩
 ·have:=congrArg List.length d
  rw [List.length_append,j] at this
  omega
 ·unfold lay
  rw [j] at d ⊢
  generalize l.takeWhile (λy=>R y x)=a at d ⊢
  generalize l.dropWhile (λy=> !R x y)=b at d ⊢
  rw [<-d]
  simp
def kR (t:T) (a b:List V):Bool:=klt (j07 t a) (j07 t b)
def jhr (t:T) (l:List (List V)) (r:List V):List (List V):=lay (kR t) r l
def jb7 (t:T) (b:List V):Bool:=j05 t&&(decide (b.length=t.2.2.length)&& !Z71 (λi k=> !j3Z (nth zC t.2.1 (j02 t.2.1 k)) (nth zV b (i:Int))) 0 t.2.2)
def j6q (t:T) (l:List (List V)) (r:List V):List (List V)×Int:=
 bif !j09 t l then ([],1) else bif !j0v t.2.1 r then ([],2) else bif !decide (j06 t l (j07 t r)<0) then ([],3) else bif l.length==60 then ([],4) else (jhr t l r,0)
def j6r (t:T) (l:List (List V)) (b r:List V):List (List V)×Int:=
 bif !j09 t l then ([],1) else bif !j0v t.2.1 r then ([],2) else bif !jb7 t b||decide (j06 t l b<0) then ([],5) else
 bif !decide (j06 t (l.eraseIdx (j06 t l b).toNat) (j07 t r)<0) then ([],3) else (jhr t (l.eraseIdx (j06 t l b).toNat) r,0)
def j6p (t:T) (l:List (List V)) (b:List V):List (List V)×Int:=
 bif !j09 t l then ([],1) else bif !jb7 t b||decide (j06 t l b<0) then ([],5) else (l.eraseIdx (j06 t l b).toNat,0)
theorem jl3 {l:List C} {r:List V} (h:j0v l r=true):∀ v∈r,j0w v=true:=by
 intro v d
 obtain ⟨i,b,rfl⟩:=List.getElem_of_mem d
 rw [j8p] at h
 have:=h.2 i (by omega) b
 unfold j3Z at this
 rw [Bool.and_eq_true] at this
 exact this.1
theorem jpl {t:T} (ht:j05 t=true) {r:List V} (h:j0v t.2.1 r=true):∀ v∈j07 t r,j0w v=true:=by
 intro v f
 obtain ⟨k,b,rfl⟩:=List.mem_map.1 f
 have:=j1n t.2.2 (-1) (by omega) (j1x ht).2.2.2.2.2 k b
 obtain ⟨n,d⟩:∃ n:Nat,j02 t.2.1 k=(n:Int):=⟨(j02 t.2.1 k).toNat,by omega⟩
 have g:=((j8p _ _).1 h).1
 rw [d,Zay _ _ _ (by omega)]
 exact jl3 h _ (List.getElem_mem _)
theorem jpk {t:T} (ht:j05 t=true) {a b:List V} (d:j0v t.2.1 a=true) (f:j0v t.2.1 b=true) (h:j07 t a≠j07 t b):kR t a b=true\/kR t b a=true:=
 jnr _ _ (jpl ht d) (jpl ht f) h
theorem jqN {t:T} {l:List (List V)} {r:List V} (h:j09 t l=true) (i:j0v t.2.1 r=true) (n:∀ x∈l,j07 t x≠j07 t r) (m:l.length<60):j09 t (jhr t l r)=true:=by
 rw [j5k] at h ⊢
 obtain ⟨f,p,g,k⟩:=h
 refine ⟨f,by unfold jhr;rw [jmK];omega,λx d=> ?_,?_⟩
 ·rcases jmN.1 d with rfl | d
  ·exact i
  ·exact g x d
 ·exact jpo (R:=kR t) (λa b c=>jfk _ _ _) r l k λy j=>jpk f i (g y j) λe=>n y j e.symm
theorem jfe {t:T} {l:List (List V)} (b:j09 t l=true) (i:Nat):j09 t (l.eraseIdx i)=true:=by
 rw [j5k] at b ⊢
 obtain ⟨d,j,f,g⟩:=b
 refine ⟨d,?_,λx h=>f x (List.mem_of_mem_eraseIdx h),g.sublist (List.eraseIdx_sublist _ _)⟩
 rw [List.length_eraseIdx]
 split<;>omega
theorem jr4 {t:T} {l:List (List V)} (k:j09 t l=true) {i j:Nat} (f:i<l.length) (g:j<l.length) (h:j07 t l[i]=j07 t l[j]):i=j:=by
 have d:=((j5k _ _).1 k).2.2.2
 rw [List.pairwise_iff_getElem] at d
 rcases Nat.lt_trichotomy i j with b | b | b
 ·exact absurd h (jrP (d i j f g b))
 ·exact b
 ·exact absurd h.symm (jrP (d j i g f b))
theorem jnD {t:T} {l:List (List V)} (y:j09 t l=true) {b now:List V} (h:¬ j06 t l b<0) :
  (!decide (j06 t (l.eraseIdx (j06 t l b).toNat) now<0))=(!j0z zV veq now b&& !decide (j06 t l now<0)):=by
 rcases jbg t l b with ⟨n,_⟩ | ⟨i,w,n,p⟩
 ·omega
 rw [n,Int.toNat_natCast,jm9,jm9,Bool.not_not,Bool.not_not]
 by_cases g:now=b
 ·subst g
  rw [(j52 _ _).2 rfl,Bool.not_true,Bool.false_and,List.any_eq_false]
  intro r f h
  obtain ⟨j,k,m,rfl⟩:=List.mem_eraseIdx_iff_getElem.1 f
  exact m (jr4 y k w (((j52 _ _).1 h).trans p.symm))
 ·have:j0z zV veq now b=false:=by
   cases d:j0z zV veq now b with
   | false=>rfl
   | true=>exact absurd ((j52 _ _).1 d) g
  rw [this,Bool.not_false,Bool.true_and]
  cases d:l.any λr=>j0z zV veq (j07 t r) now with
  | false=>
   rw [List.any_eq_false] at d ⊢
   exact λr f=>d r (List.mem_of_mem_eraseIdx f)
  | true=>
   rw [List.any_eq_true] at d ⊢
   obtain ⟨r,f,q⟩:=d
   refine ⟨r,List.mem_eraseIdx_iff_getElem.2 ?_,q⟩
   obtain ⟨j,k,rfl⟩:=List.getElem_of_mem f
   exact ⟨j,k,λe=>g (by subst e;rw [<-(j52 _ _).1 q,p]),rfl⟩
theorem jpr {t:T} {l:List (List V)} {b:List V} (h:j06 t l b<0):∀ x∈l,j07 t x≠b:=by
 rcases jbg t l b with ⟨_,d⟩ | ⟨i,g,f,_⟩
 ·exact d
 ·omega
def j2V (t:T) (l:List (List V)) (s:ST):List (List V)×Int:=
 bif s.1==1 then j6q t l s.2.2.2.1 else bif s.1==2 then j6r t l s.2.2.1 s.2.2.2.1 else bif s.1==3 then j6p t l s.2.2.1 else ([],0)
theorem jrc {t:T} {l:List (List V)} {r:List V} (h:(j6q t l r).2=0):j09 t (j6q t l r).1=true:=by
 unfold j6q at h ⊢
 cases b:j09 t l<;>rw [b] at h
 ·cases h
 cases d:j0v t.2.1 r<;>rw [d] at h
 ·cases h
 cases f:decide (j06 t l (j07 t r)<0)<;>rw [f] at h
 ·cases h
 cases g:l.length==60<;>rw [g] at h
 ·refine jqN b d (jpr (of_decide_eq_true f)) ?_
  have:=((j5k _ _).1 b).2.1
  have i:l.length≠60:=by simpa using g
  omega
 ·cases h
theorem jrd {t:T} {l:List (List V)} {b r:List V} (h:(j6r t l b r).2=0):j09 t (j6r t l b r).1=true:=by
 unfold j6r at h ⊢
 cases d:j09 t l<;>rw [d] at h
 ·cases h
 cases f:j0v t.2.1 r<;>rw [f] at h
 ·cases h
 cases g: !jb7 t b||decide (j06 t l b<0)<;>rw [g] at h
 ·cases i:decide (j06 t (l.eraseIdx (j06 t l b).toNat) (j07 t r)<0)<;>rw [i] at h
  ·cases h
  ·refine jqN (jfe d _) f (jpr (of_decide_eq_true i)) ?_
   rw [Bool.or_eq_false_iff,decide_eq_false_iff_not] at g
   have m:=((j5k _ _).1 d).2.1
   have j:=(jdO (λr=>j0z zV veq (j07 t r) b) l).2
   have k:(j06 t l b).toNat<l.length:=by
    have:j06 t l b<(l.length:Int):=j
    omega
   rw [List.length_eraseIdx_of_lt k]
   omega
 ·cases h
theorem jrb {t:T} {l:List (List V)} {b:List V} (h:(j6p t l b).2=0):j09 t (j6p t l b).1=true:=by
 unfold j6p at h ⊢
 cases d:j09 t l<;>rw [d] at h
 ·cases h
 cases f: !jb7 t b||decide (j06 t l b<0)<;>rw [f] at h
 ·exact jfe d _
 ·cases h
theorem jnB {t:T} (h:j05 t=true):j09 t []=true:=(j5k _ _).2 ⟨h,by simp,by simp,List.Pairwise.nil⟩
theorem jsW {t:T} (ht:j05 t=true) {l:List (List V)} {s:ST} (h:(j2V t l s).2=0):j09 t (j2V t l s).1=true:=by
 unfold j2V at h ⊢
 cases b:s.1==1<;>rw [b] at h
 ·cases d:s.1==2<;>rw [d] at h
  ·cases f:s.1==3<;>rw [f] at h
   ·exact jnB ht
   ·exact jrb h
  ·exact jrd h
 ·exact jrc h
def tR (a b:T):Bool:=sLt a.1 b.1
def j0A (t:T) (d:D):Int:=
 bif d.1==3 then (bif !decide (j02 t.2.1 (nth zC d.2.2.1 0).1<0) then 5 else bif t.2.1.length==8 then 6 else 0)
 else bif d.1==4 then (bif decide (j02 t.2.1 d.2.2.2.2.1<0) then 7 else bif t.2.2.any (λx=>sEq x d.2.2.2.2.1) then 8 else 0)
 else bif d.1==5 then (bif !decide (j02 t.2.1 d.2.2.2.2.2<0) then 5 else bif decide (j02 t.2.1 d.2.2.2.2.1<0) then 7 else 0)
 else 0
def jaV (t:T) (d:D):T:=bif d.1==3 then jko t (nth zC d.2.2.1 0) else bif d.1==4 then jhz t d.2.2.2.2.1 else jfm t d.2.2.2.2.1 d.2.2.2.2.2
def j0c (c:List T) (d:D):Int:=
 bif d.1==1 then (bif !decide (j04 c d.2.1<0) then 2 else bif c.length==6 then 3 else 0)
 else bif decide (j04 c d.2.1<0) then 4 else j0A (nth zT c (j04 c d.2.1)) d
def j1c (c:List T) (d:D):List T:=
 bif d.1==1 then lay tR (d.2.1,d.2.2.1,d.2.2.2.1) c
 else bif d.1==2 then c.eraseIdx (j04 c d.2.1).toNat
 else c.set (j04 c d.2.1).toNat (jaV (nth zT c (j04 c d.2.1)) d)
def jg1 (c:List T) (d:D):List T×Int:=
 bif !j2m c|| !j1b d then ([],1) else bif j0c c d != 0 then ([],j0c c d) else (j1c c d,0)
theorem j0s (c:List T) (n:ByteArray):(j04 c n= -1/\∀ t∈c,t.1≠n)\/∃ (i:Nat) (f:i<c.length),j04 c n=(i:Int)/\c[i].1=n:=by
 rcases jaW (λt:T=>sEq t.1 n) c with ⟨b,d⟩ | ⟨i,f,b,d,g⟩
 ·exact .inl ⟨b,λt ht e=>by have:=d t ht;rw [e,Zah] at this;cases this⟩
 ·exact .inr ⟨i,f,b,(j0a _ _).1 d⟩
theorem jfz {c:List T} (h:c.Pairwise λa b=>sLt a.1 b.1=true) {i:Nat} (g:i<c.length):j04 c c[i].1=(i:Int):=by
 refine jqK g (Zah _) λj k f=> ?_
 have f:=(j0a _ _).1 f
 rw [List.pairwise_iff_getElem] at h
 rcases Nat.lt_trichotomy i j with d | d | d
 ·exact absurd f.symm (js1 (h i j g k d))
 ·exact d.symm
 ·exact absurd f (js1 (h j i k g d))
theorem jiI (t:T) (d:D):(jaV t d).1=t.1:=by
 unfold jaV
 cases d.1==3
 ·cases d.1==4<;>rfl
 ·rfl
theorem jrv {t:T} (ht:j05 t=true) {d:D} (q:j1b d=true) (j:3<=d.1) (b:j0A t d=0):j05 (jaV t d)=true:=by
 obtain ⟨_,h⟩:=j8P q
 rcases h with ⟨n,cs,ks,rfl,_⟩ | ⟨n,rfl⟩ | ⟨n,c,rfl,l⟩ | ⟨n,m,rfl,r⟩ | ⟨n,m,p,rfl,r,w⟩
 ·simp at j
 ·simp at j
 ·show j05 (jko t c)=true
  change (bif !decide (j02 t.2.1 c.1<0) then (5:Int) else bif t.2.1.length==8 then 6 else 0)=0 at b
  cases f:decide (j02 t.2.1 c.1<0)<;>rw [f] at b
  ·cases b
  ·cases g:t.2.1.length==8<;>rw [g] at b
   ·have k:t.2.1.length≠8:=by simpa using g
    have:=(j1x ht).2.2.1
    exact jtk ht l (of_decide_eq_true f) (by omega)
   ·cases b
 ·show j05 (jhz t m)=true
  change (bif decide (j02 t.2.1 m<0) then (7:Int) else bif t.2.2.any (λx=>sEq x m) then 8 else 0)=0 at b
  cases f:decide (j02 t.2.1 m<0)<;>rw [f] at b
  ·cases g:t.2.2.any λx=>sEq x m<;>rw [g] at b
   ·have k:=of_decide_eq_false f
    exact jtw ht (i:=(j02 t.2.1 m).toNat) (by omega) g
   ·cases b
  ·cases b
 ·show j05 (jfm t m p)=true
  change (bif !decide (j02 t.2.1 p<0) then (5:Int) else bif decide (j02 t.2.1 m<0) then 7 else 0)=0 at b
  cases f:decide (j02 t.2.1 p<0)<;>rw [f] at b
  ·cases b
  ·exact jsK ht w (of_decide_eq_true f)
theorem jnj {c:List T} (f:j2m c=true) {t:T} (ht:j05 t=true) (p:j04 c t.1<0) (m:c.length<6):j2m (lay tR t c)=true:=by
 rw [j0e] at f ⊢
 obtain ⟨l,g,j⟩:=f
 refine ⟨by rw [jmK];omega,λx d=> ?_,?_⟩
 ·rcases jmN.1 d with rfl | d
  ·exact ht
  ·exact g x d
 ·refine jpo (R:=tR) (λa b c=>jfp) t c j λy k=>jj7 λe=> ?_
  rcases j0s c t.1 with ⟨_,h⟩ | ⟨i,n,h,_⟩
  ·exact h y k e.symm
  ·omega
theorem jpt {α:Type} {R:α->α->Prop} {l:List α} (h:l.Pairwise R) {i:Nat} {x:α} (m:i<l.length) (j:∀ y,R y l[i]->R y x) (k:∀ y,R l[i] y->R x y):(l.set i x).Pairwise R:=by
 rw [List.pairwise_iff_getElem] at h ⊢
 intro a b f g d
 rw [List.length_set] at f g
 rw [List.getElem_set,List.getElem_set]
 split
 ·rename_i e
  subst e
  split
  ·omega
  ·exact k _ (h _ _ f g d)
 ·split
  ·rename_i e
   subst e
   exact j _ (h _ _ f g d)
  ·exact h _ _ f g d
theorem jqT {c:List T} (d:j2m c=true) {i:Nat} (l:i<c.length) {t:T} (ht:j05 t=true) (f:t.1=c[i].1):j2m (c.set i t)=true:=by
 rw [j0e] at d ⊢
 obtain ⟨g,j,k⟩:=d
 refine ⟨by rw [List.length_set];exact g,λx b=> ?_,?_⟩
 ·rcases List.mem_or_eq_of_mem_set b with b | rfl
  ·exact j x b
  ·exact ht
 ·refine jpt k l (λy h=> ?_) (λy h=> ?_)
  ·rw [f];exact h
  ·rw [f];exact h
theorem jnn {c:List T} (b:j2m c=true) (i:Nat):j2m (c.eraseIdx i)=true:=by
 rw [j0e] at b ⊢
 obtain ⟨h,d,f⟩:=b
 refine ⟨?_,λx g=>d x (List.mem_of_mem_eraseIdx g),f.sublist (List.eraseIdx_sublist _ _)⟩
 rw [List.length_eraseIdx]
 split<;>omega
theorem joX {d:D} (b:j1b d=true):d.1=1\/d.1=2\/3<=d.1:=by
 obtain ⟨_,h⟩:=j8P b
 rcases h with ⟨n,cs,ks,rfl,_⟩ | ⟨n,rfl⟩ | ⟨n,c,rfl,g⟩ | ⟨n,m,rfl,f⟩ | ⟨n,m,p,rfl,f,i⟩<;>simp
theorem jmD {c:List T} {d:D} (k:j2m c=true) (j:j1b d=true) (h:j0c c d=0):j2m (j1c c d)=true:=by
 have l:=(j0e c).1 k
 unfold j0c at h
 unfold j1c
 rcases joX j with f | f | f
 ·rw [f] at h ⊢
  rw [show ((1:Int)==1)=true from rfl,cond_true] at h ⊢
  cases g:decide (j04 c d.2.1<0)<;>rw [g] at h
  ·cases h
  ·cases b:c.length==6<;>rw [b] at h
   ·have p:c.length≠6:=by simpa using b
    have n:j05 (d.2.1,d.2.2.1,d.2.2.2.1)=true:=by
     unfold j1b at j
     rw [f] at j
     simp only [Bool.and_eq_true,beq_self_eq_true,cond_true] at j
     exact j.2.2.2
    exact jnj k n (of_decide_eq_true g) (by omega)
   ·cases h
 ·rw [f] at h ⊢
  rw [show ((2:Int)==1)=false from rfl,show ((2:Int)==2)=true from rfl,cond_false,cond_true]
  exact jnn k _
 ·rw [show (d.1==1)=false by simp;omega,cond_false] at h
  rw [show (d.1==1)=false by simp;omega,show (d.1==2)=false by simp;omega,cond_false,cond_false]
  cases g:decide (j04 c d.2.1<0)<;>rw [g] at h
  ·rcases j0s c d.2.1 with ⟨b,_⟩ | ⟨i,m,b,p⟩
   ·rw [b] at g;cases g
   ·rw [cond_false] at h
    rw [b,Zay _ _ _ m] at h
    rw [b,Zay _ _ _ m,Int.toNat_natCast]
    exact jqT k m (jrv (l.2.1 _ (List.getElem_mem _)) j f h) (jiI _ _)
  ·cases h
def jg0 (t:T) (d:D) (l:List (List V)):List (List V):=
 bif d.1==3 then l.map (λr=>r++[(nth zC d.2.2.1 0).2.2.2.2]) else bif d.1==4 then l.map (λr=>r.eraseIdx (j02 t.2.1 d.2.2.2.2.1).toNat) else l
def jjo (d:DB) (x:D):List (List (List V)):=
 bif x.1==1 then d.2.take (j04 (j1c d.1 x) x.2.1).toNat++[]::d.2.drop (j04 (j1c d.1 x) x.2.1).toNat
 else bif x.1==2 then d.2.eraseIdx (j04 d.1 x.2.1).toNat
 else d.2.set (j04 d.1 x.2.1).toNat (jg0 (nth zT d.1 (j04 d.1 x.2.1)) x (nth [] d.2 (j04 d.1 x.2.1)))
abbrev zDB:DB:=([],[])
def j2b (d:DB) (s:ST):DB×Int:=
 bif decide (j04 d.1 s.2.1<0)&& !((s.1==5)&&(s.2.2.2.2.1==1)) then (zDB,4)
 else bif s.1==5 then (bif j0c d.1 s.2.2.2.2 != 0 then (zDB,10+j0c d.1 s.2.2.2.2) else ((j1c d.1 s.2.2.2.2,jjo d s.2.2.2.2),0))
 else bif (j2V (nth zT d.1 (j04 d.1 s.2.1)) (nth [] d.2 (j04 d.1 s.2.1)) s).2 != 0 then (zDB,10+(j2V (nth zT d.1 (j04 d.1 s.2.1)) (nth [] d.2 (j04 d.1 s.2.1)) s).2)
 else ((d.1,d.2.set (j04 d.1 s.2.1).toNat (j2V (nth zT d.1 (j04 d.1 s.2.1)) (nth [] d.2 (j04 d.1 s.2.1)) s).1),0)
theorem jtm {t:T} (ht:j05 t=true) {d:D} (j:j1b d=true) (k:3<=d.1) (f:j0A t d=0) {l:List (List V)} (w:j09 t l=true):j09 (jaV t d) (jg0 t d l)=true:=by
 have g:=jrv ht j k f
 obtain ⟨_,h⟩:=j8P j
 rcases h with ⟨n,cs,ks,rfl,_⟩ | ⟨n,rfl⟩ | ⟨n,c,rfl,A⟩ | ⟨n,m,rfl,B⟩ | ⟨n,m,p,rfl,B,E⟩
 ·simp at k
 ·simp at k
 ·have q:(c.2.2.2.1|| !c.2.2.1)=true:=by
   unfold j1b at j
   rw [Bool.and_eq_true] at j
   have:=j.2
   simp only [show ((3:Int)==1)=false from rfl,show ((3:Int)==2)=false from rfl,show ((3:Int)==3)=true from rfl,cond_false,cond_true,Bool.and_eq_true] at this
   exact this.2.2.1
  show j09 (jko t c) (l.map λr=>r++[c.2.2.2.2])=true
  exact jj6 _ w g (λr b=>jtj b (jsx A q)) (λr b=>jsg ht ((j8p _ _).1 b).1 _)
 ·change (bif decide (j02 t.2.1 m<0) then (7:Int) else bif t.2.2.any (λx=>sEq x m) then 8 else 0)=0 at f
  show j09 (jhz t m) (l.map λr=>r.eraseIdx (j02 t.2.1 m).toNat)=true
  cases i:decide (j02 t.2.1 m<0)<;>rw [i] at f
  ·cases y:t.2.2.any λx=>sEq x m<;>rw [y] at f
   ·have C:=of_decide_eq_false i
    have z:j02 t.2.1 m=(((j02 t.2.1 m).toNat:Nat):Int):=by omega
    refine jj6 _ w g (λr b=> ?_) (λr b=>jsN ht z y ((j8p _ _).1 b).1)
    rw [(jn0 ht z).2]
    exact jtv b _
   ·cases f
  ·cases f
 ·change (bif !decide (j02 t.2.1 p<0) then (5:Int) else bif decide (j02 t.2.1 m<0) then 7 else 0)=0 at f
  show j09 (jfm t m p) l=true
  cases i:decide (j02 t.2.1 p<0)<;>rw [i] at f
  ·cases f
  ·have:=jj6 (t':=jfm t m p) id w g (λr b=>jsJ b m p) (λr b=>jrT ht (of_decide_eq_true i) r)
   rw [List.map_id] at this
   exact this
theorem jqG {c:List T} {l:List (List (List V))} (h:dbB (c,l)=true) {i:Nat} (n:i<c.length) {t:T} (p:t.1=c[i].1) {r:List (List V)} (m:j09 t r=true):dbB (c.set i t,l.set i r)=true:=by
 rw [j1B] at h ⊢
 obtain ⟨d,f,g⟩:=h
 dsimp only at d f g ⊢
 refine ⟨jqT d n ((j5k _ _).1 m).1 p,by rw [List.length_set,List.length_set];exact f,λj k b=> ?_⟩
 rw [List.getElem_set,List.getElem_set]
 split
 ·exact m
 ·rw [List.length_set] at k b
  exact g j k b
theorem jrz {c:List T} {l:List (List (List V))} (h:dbB (c,l)=true) (i:Nat):dbB (c.eraseIdx i,l.eraseIdx i)=true:=by
 rw [j1B] at h ⊢
 obtain ⟨d,f,b⟩:=h
 dsimp only at d f b ⊢
 refine ⟨jnn d i,by rw [List.length_eraseIdx,List.length_eraseIdx,f],λj k g=> ?_⟩
 rw [List.getElem_eraseIdx,List.getElem_eraseIdx]
 split
 ·exact b _ _ _
 ·exact b _ _ _
theorem jsC (c:List T) (t:T):∃ i,i<=c.length/\lay tR t c=c.take i++t::c.drop i:=by
 refine ⟨(c.takeWhile λy=> !tR t y).length,?_,?_⟩
 ·have:=congrArg List.length (List.takeWhile_append_dropWhile (p:=λy=> !tR t y) (l:=c))
  rw [List.length_append] at this
  omega
 ·have d:=List.takeWhile_append_dropWhile (p:=λy=> !tR t y) (l:=c)
  unfold lay
  generalize c.takeWhile (λy=> !tR t y)=a at d ⊢
  generalize c.dropWhile (λy=> !tR t y)=b at d ⊢
  rw [<-d]
  simp
theorem jpn {c:List T} (h:j2m c=true) {t:T} (ht:j05 t=true) (k:j04 c t.1<0) (g:c.length<6):∃ i:Nat,i<=c.length/\j04 (lay tR t c) t.1=(i:Int)/\lay tR t c=c.take i++t::c.drop i:=by
 obtain ⟨i,f,d⟩:=jsC c t
 refine ⟨i,f,?_,d⟩
 have l:=((j0e _).1 (jnj h ht k g)).2.2
 have b:i<(lay tR t c).length:=by rw [jmK];omega
 have j:(lay tR t c)[i]=t:=by
  simp only [d]
  rw [List.getElem_append_right (by rw [List.length_take];omega)]
  simp [List.length_take,Nat.min_eq_left f]
 have:=jfz l b
 rw [j] at this
 exact this
theorem jqJ {α:Type} (l:List α) {i:Nat} (g:i<=l.length) (x:α) (j:Nat) (f:j<(l.take i++x::l.drop i).length):(l.take i++x::l.drop i)[j]=if h:j<i then l[j] else if b:j=i then x else l[j-1]'(by simp at f;omega):=by
 have d:(l.take i).length=i:=by rw [List.length_take];omega
 by_cases h:j<i
 ·rw [dif_pos h,List.getElem_append_left (by omega),List.getElem_take]
 ·rw [dif_neg h]
  by_cases b:j=i
  ·subst b
   rw [dif_pos rfl,List.getElem_append_right (by omega)]
   simp [d]
  ·rw [dif_neg b]
   obtain ⟨m,rfl⟩:∃ m,j=i+1+m:=⟨j-i-1,by omega⟩
   rw [List.getElem_append_right (by omega)]
   simp only [d,show i+1+m-i=m+1 by omega,List.getElem_cons_succ,List.getElem_drop]
   congr 1
   omega
theorem jtp {c:List T} {l:List (List (List V))} (h:dbB (c,l)=true) {i:Nat} (q:i<=c.length) {t:T} (ht:j05 t=true) (p:j2m (c.take i++t::c.drop i)=true):dbB (c.take i++t::c.drop i,l.take i++[]::l.drop i)=true:=by
 rw [j1B] at h ⊢
 obtain ⟨m,n,f⟩:=h
 dsimp only at m n f ⊢
 refine ⟨p,by simp only [List.length_append,List.length_cons,List.length_take,List.length_drop];omega,λj k g=> ?_⟩
 rw [jqJ c q t j k,jqJ l (by omega) [] j g]
 have r:j<c.length+1:=by
  simp only [List.length_append,List.length_cons,List.length_take,List.length_drop] at k
  omega
 by_cases b:j<i
 ·rw [dif_pos b,dif_pos b];exact f j (by omega) (by omega)
 ·rw [dif_neg b,dif_neg b]
  by_cases d:j=i
  ·rw [dif_pos d,dif_pos d];exact jnB ht
  ·rw [dif_neg d,dif_neg d];exact f (j-1) (by omega) (by omega)
theorem jek:dbB zDB=true:=(j1B _).2 ⟨(j0e _).2 ⟨by simp,by simp,List.Pairwise.nil⟩,rfl,λi b=>by simp at b⟩
theorem jtr {d:DB} (h:dbB d=true) {s:ST} (I:stB s=true) (g:(j2b d s).2=0):dbB (j2b d s).1=true:=by
 obtain ⟨c,l⟩:=d
 have A:=(j1B _).1 h
 obtain ⟨p,E,B⟩:=A
 dsimp only at p E B
 unfold j2b at g ⊢
 dsimp only at g ⊢
 cases D:decide (j04 c s.2.1<0)&& !((s.1==5)&&(s.2.2.2.2.1==1))<;>rw [D] at g
 ·rw [cond_false] at g ⊢
  cases y:s.1==5<;>rw [y] at g
  ·rw [cond_false] at g ⊢
   rw [y,Bool.false_and,Bool.not_false,Bool.and_true,decide_eq_false_iff_not] at D
   rcases j0s c s.2.1 with ⟨e,_⟩ | ⟨i,k,e,C⟩
   ·omega
   rw [e,Zay _ _ _ k,Zay _ _ _ (by omega),Int.toNat_natCast] at g ⊢
   cases b:(j2V c[i] (l[i]'(by omega)) s).2 != 0<;>rw [b] at g
   ·rw [cond_false]
    have H:=jsW (t:=c[i]) (l:=l[i]'(by omega)) (s:=s) (((j0e _).1 p).2.1 _ (List.getElem_mem _)) (by simpa using b)
    have:=jqG h k (t:=c[i]) rfl H
    rw [List.set_getElem_self] at this
    exact this
   ·exact jek
  ·rw [cond_true] at g ⊢
   cases b:j0c c s.2.2.2.2 != 0<;>rw [b] at g
   ·rw [cond_false]
    have b:j0c c s.2.2.2.2=0:=by simpa using b
    have f:j1b s.2.2.2.2=true:=by
     obtain ⟨_,h⟩:=js3 I
     rcases h with ⟨t,r,rfl,_⟩ | ⟨t,q,r,rfl,_⟩ | ⟨t,q,rfl,_⟩ | ⟨t,rfl⟩ | ⟨d,rfl,A⟩
     ·cases y
     ·cases y
     ·cases y
     ·cases y
     ·exact A
    have j:=jmD p f b
    generalize s.2.2.2.2=x at b f j ⊢
    unfold jjo
    dsimp only
    rcases joX f with m | m | m
    ·rw [m,show ((1:Int)==1)=true from rfl,cond_true]
     unfold j0c at b
     unfold j1c at j ⊢
     rw [m,show ((1:Int)==1)=true from rfl,cond_true] at b j ⊢
     cases w:decide (j04 c x.2.1<0)<;>rw [w] at b
     ·cases b
     ·cases n:c.length==6<;>rw [n] at b
      ·have G:c.length≠6:=by simpa using n
       have z:j05 (x.2.1,x.2.2.1,x.2.2.2.1)=true:=by
        unfold j1b at f
        rw [m] at f
        simp only [Bool.and_eq_true,beq_self_eq_true,cond_true] at f
        exact f.2.2.2
       have J:=((j0e _).1 p).1
       obtain ⟨i,k,F,C⟩:=jpn p z (of_decide_eq_true w) (by omega)
       rw [F,Int.toNat_natCast]
       rw [C] at j ⊢
       exact jtp h k z j
      ·cases b
    ·rw [m,show ((2:Int)==1)=false from rfl,show ((2:Int)==2)=true from rfl,cond_false,cond_true]
     unfold j1c
     rw [m,show ((2:Int)==1)=false from rfl,show ((2:Int)==2)=true from rfl,cond_false,cond_true]
     exact jrz h _
    ·rw [show (x.1==1)=false by simp;omega,show (x.1==2)=false by simp;omega,cond_false,cond_false]
     unfold j0c at b
     rw [show (x.1==1)=false by simp;omega,cond_false] at b
     unfold j1c
     rw [show (x.1==1)=false by simp;omega,show (x.1==2)=false by simp;omega,cond_false,cond_false]
     cases w:decide (j04 c x.2.1<0)<;>rw [w] at b
     ·rcases j0s c x.2.1 with ⟨n,_⟩ | ⟨i,k,n,G⟩
      ·rw [n] at w;cases w
      ·rw [cond_false,n,Zay _ _ _ k] at b
       rw [n,Zay _ _ _ k,Zay _ _ _ (by omega),Int.toNat_natCast]
       exact jqG h k (jiI _ _) (jtm (((j0e _).1 p).2.1 _ (List.getElem_mem _)) f m b (B i k (by omega)))
     ·cases b
   ·exact jek
 ·cases g
end
end Go.PI.G
namespace Go.PI.G
noncomputable section
open Go Go.PI
def j97 (i:Nat) (d:DB) (s:ST):Except (Int×Int) DB:=bif !stB s then .error (1,(i:Int)) else bif (j2b d s).2 != 0 then .error ((j2b d s).2,(i:Int)) else .ok (j2b d s).1
def j0k (d:DB) (l:List ST):DB×Int×Int:=bif !dbB d then (([],[]),1,0) else match Z1S j97 0 l d with | .ok b=>(b,0,0) | .error e=>(([],[]),e.1,e.2)
theorem jl7 {i:Nat} {d j:DB} {s:ST} (h:dbB d=true) (b:j97 i d s= .ok j):dbB j=true:=by
 unfold j97 at b
 cases f:stB s
 ·rw [f] at b;cases b
 ·rw [f,Bool.not_true,cond_false] at b
  cases g:((j2b d s).2 != 0)
  ·rw [g,cond_false] at b
   cases b
   exact jtr h f (by simpa using g)
  ·rw [g,cond_true] at b;cases b
theorem jqf {d:DB} {l:List ST} (h:(j0k d l).2.1=0):dbB (j0k d l).1=true:=by
 unfold j0k at h ⊢
 cases g:dbB d
 ·rw [g] at h;cases h
 rw [g,Bool.not_true,cond_false] at h
 rw [Bool.not_true,cond_false]
 cases k:Z1S j97 0 l d with
 | ok q=>exact Z91 (λ_ a=>dbB a=true) l 0 d q g (λj x a p _ r b=>jl7 r b) k
 | error e=>
  rw [k] at h
  exfalso
  have h:e.1=0:=h
  have m:∀ (l:List ST) (i:Nat) (a:DB) (e:Int×Int),Z1S j97 i l a= .error e->e.1≠0:=by
   intro l
   induction l with
   | nil=>intro i a e h;simp [Z1S] at h
   | cons x l y=>
    intro i a e h
    simp only [Z1S] at h
    cases b:j97 i a x with
    | ok p=>rw [b] at h;exact y _ _ _ h
    | error z=>
     rw [b] at h
     cases h
     unfold j97 at b
     cases n:stB x
     ·rw [n] at b;cases b;exact λw=>absurd (show (1:Int)=0 from w) (by decide)
     ·rw [n,Bool.not_true,cond_false] at b
      cases f:((j2b a x).2 != 0)
      ·rw [f] at b;cases b
      ·rw [f] at b
       cases b
       simpa using f
  exact m l 0 d e k h
abbrev RC:=Int×Int×ST
abbrev yRC:Ty:= .pair (.int .i64) (.pair (.int .i64) yST)
def jkt (s:ST):Bool:=(s.1==0)&&(sEq s.2.1 eS&&((s.2.2.1.length==0)&&((s.2.2.2.1.length==0)&&noD s.2.2.2.2)))
theorem jsL (s:ST):jkt s=true↔s=zST:=by
 obtain ⟨a,b,c,e,d⟩:=s
 unfold jkt
 simp only [Bool.and_eq_true,beq_iff_eq,j0a,Prod.mk.injEq,List.length_eq_zero_iff,jgQ]
def jbf (r:RC):Bool:=decide (1<=r.1/\r.1<=4)&&(decide (1<=r.2.1/\r.2.1<=1000000)&&(bif r.1==2 then stB r.2.2 else jkt r.2.2))
theorem jm8 {r:RC} (h:jbf r=true):(1<=r.1/\r.1<=4)/\(1<=r.2.1/\r.2.1<=1000000)/\((r.1=2/\stB r.2.2=true)\/(r.1≠2/\r.2.2=zST)):=by
 unfold jbf at h
 rw [Bool.and_eq_true,Bool.and_eq_true,decide_eq_true_eq,decide_eq_true_eq] at h
 refine ⟨h.1,h.2.1,?_⟩
 have b:=h.2.2
 cases d:r.1==2
 ·rw [d,cond_false] at b
  exact .inr ⟨by simpa using d,(jsL _).1 b⟩
 ·rw [d,cond_true] at b
  exact .inl ⟨by simpa using d,b⟩
def j5A (l:List RC) (x:Int):Bool:=l.any λr=>(r.1==1)&&(r.2.1==x)
def j29 (l:List Int) (n:Int):Bool:=l.any λx=>x==n
def j5O (o:List Int) (r:RC):List Int:=
 bif r.1==1 then (bif j29 o r.2.1 then o else o++[r.2.1]) else bif (r.1==3)||(r.1==4) then o.filter (λy=> !(y==r.2.1)) else o
def j0P (l:List RC):List Int:=l.foldl j5O []
def j2B (l:List RC):List Int:=(l.filter λr=>r.1==1).map λr=>r.2.1
def jjl (x:Int) (_:Int) (r:RC):List ST:=bif (r.1==2)&&(r.2.1==x) then [r.2.2] else []
def j1q (l:List RC) (x:Int):List ST:=Z4r (jjl x) 0 l
def j5P (p:List RC) (d:DB) (r:RC):Except Unit DB:=
 bif !jbf r then .error () else
 bif r.1==1 then (bif j5A p r.2.1 then .error () else .ok d) else
 bif !j29 (j0P p) r.2.1 then .error () else
 bif r.1==3 then (bif (j0k d (j1q p r.2.1)).2.1 != 0 then .error () else .ok (j0k d (j1q p r.2.1)).1) else .ok d
def j1P (d:DB) (l:List RC):Except Unit DB:=Z1S (λi d r=>j5P (l.take i) d r) 0 l d
def jsB {A E:Type} (r:Except E A):Bool:=match r with
 | .ok _=>true
 | .error _=>false
def jtM (r:Except Unit DB):DB:=match r with
 | .ok d=>d
 | .error _=>zDB
def j2a (l:List RC):Bool:=decide (l.length<=400)&&jsB (j1P zDB l)
theorem jnH {α A E:Type} (f:Nat->A->α->Except E A):(l m:List α)->(i:Nat)->(a:A)->Z1S f i (l++m) a=match Z1S f i l a with | .ok b=>Z1S f (i+l.length) m b | .error e=> .error e
 | [],m,i,a=>rfl
 | x::l,m,i,a=>by
  simp only [List.cons_append,Z1S]
  cases f i a x with
  | ok b=>
   dsimp only
   rw [jnH f l m (i+1) b,List.length_cons,show i+1+l.length=i+(l.length+1) by omega]
  | error e=>rfl
theorem jke {α A E:Type} {f g:Nat->A->α->Except E A}:(l:List α)->(i:Nat)->(∀ j a,(h:j<l.length)->f (i+j) a l[j]=g (i+j) a l[j])->∀ a,Z1S f i l a=Z1S g i l a
 | [],i,h,a=>rfl
 | x::l,i,h,a=>by
  have k:=h 0 a (Nat.succ_pos _)
  simp only [Z1S]
  rw [show f i a x=g i a x from k]
  cases g i a x with
  | ok d=>
   refine jke l (i+1) (λj b m=> ?_) d
   have:=h (j+1) b (Nat.succ_lt_succ m)
   rw [show i+(j+1)=i+1+j by omega] at this
   exact this
  | error e=>rfl
theorem jrY (d:DB) (l:List RC) (r:RC):j1P d (l++[r])=match j1P d l with | .ok b=>j5P l b r | .error e=> .error e:=by
 unfold j1P
 rw [jnH,jke (g:=λi d r=>j5P (l.take i) d r) l 0 (λj a h=>by
  rw [Nat.zero_add,List.take_append_of_le_length (Nat.le_of_lt h)])]
 cases Z1S (λi d r=>j5P (l.take i) d r) 0 l d with
 | error e=>rfl
 | ok b=>
  simp only [Z1S,Nat.zero_add]
  rw [List.take_left' rfl]
  cases j5P l b r<;>rfl
theorem jnv (d:DB) (l:List RC) (i:Nat) (f:i<l.length):j1P d (l.take (i+1))=match j1P d (l.take i) with | .ok b=>j5P (l.take i) b l[i] | .error e=> .error e:=by
 rw [List.take_succ_eq_append_getElem f,jrY]
theorem jsP {d i:DB} {l:List RC} (h:j1P d l= .ok i) (n:Nat):∃ b,j1P d (l.take n)= .ok b:=by
 have g:∀ (m k:Nat),k+m=l.length->∃ b,j1P d (l.take k)= .ok b:=by
  intro m
  induction m with
  | zero=>intro k q;rw [List.take_of_length_le (by omega)];exact ⟨i,h⟩
  | succ m w=>
   intro k q
   obtain ⟨b,f⟩:=w (k+1) (by omega)
   rw [jnv d l k (by omega)] at f
   cases r:j1P d (l.take k) with
   | ok p=>exact ⟨p,rfl⟩
   | error e=>rw [r] at f;cases f
 rcases Nat.lt_or_ge n l.length with j | j
 ·exact g (l.length-n) n (by omega)
 ·exact g 0 l.length (by omega) |>.elim λb f=>⟨b,by rw [List.take_of_length_le j];rw [List.take_of_length_le (Nat.le_refl _)] at f;exact f⟩
theorem jl1 {p:List RC} {d f:DB} {r:RC} (i:dbB d=true) (h:j5P p d r= .ok f):dbB f=true:=by
 unfold j5P at h
 cases j:jbf r<;>rw [j] at h
 ·cases h
 rw [Bool.not_true,cond_false] at h
 cases k:r.1==1<;>rw [k] at h
 ·rw [cond_false] at h
  cases b:j29 (j0P p) r.2.1<;>rw [b] at h
  ·cases h
  rw [Bool.not_true,cond_false] at h
  cases l:r.1==3<;>rw [l] at h
  ·cases h;exact i
  ·rw [cond_true] at h
   cases g:(j0k d (j1q p r.2.1)).2.1 != 0<;>rw [g] at h
   ·cases h;exact jqf (by simpa using g)
   ·cases h
 ·rw [cond_true] at h
  cases b:j5A p r.2.1<;>rw [b] at h
  ·cases h;exact i
  ·cases h
theorem jtx {d b:DB} {l:List RC} (g:dbB d=true) (h:j1P d l= .ok b):dbB b=true:=
 Z91 (λ_ a=>dbB a=true) l 0 d b g (λj x a k _ f i=>jl1 f i) h
theorem jks (l:List RC):j2a l=true↔l.length<=400/\∃ d,j1P zDB l= .ok d:=by
 unfold j2a
 rw [Bool.and_eq_true,decide_eq_true_eq]
 cases j1P zDB l with
 | ok d=>simp [jsB]
 | error e=>simp [jsB]
theorem jsE {l:List RC} (h:j2a l=true) (n:Nat):∃ d,j1P zDB (l.take n)= .ok d/\dbB d=true:=by
 obtain ⟨_,d,g⟩:=(jks l).1 h
 obtain ⟨f,b⟩:=jsP g n
 exact ⟨f,b,jtx jek b⟩
theorem jhu (l:List RC) (r:RC):j0P (l++[r])=j5O (j0P l) r:=by
 unfold j0P
 rw [List.foldl_append]
 rfl
theorem jro (l:List RC) (r:RC) (x:Int):j5A (l++[r]) x=(j5A l x||((r.1==1)&&(r.2.1==x))):=by
 unfold j5A
 rw [List.any_append]
 simp
theorem jmm (l:List RC) (r:RC):j2B (l++[r])=bif r.1==1 then j2B l++[r.2.1] else j2B l:=by
 unfold j2B
 rw [List.filter_append,List.map_append]
 cases h:r.1==1
 ·rw [List.filter_cons_of_neg (by rw [h];simp),List.filter_nil,List.map_nil,List.append_nil,cond_false]
 ·rw [List.filter_cons_of_pos (p:=λr:RC=>r.1==1) h,List.filter_nil,cond_true]
  rfl
theorem jnF (l:List RC) (x:Int):j29 (j2B l) x=j5A l x:=by
 unfold j29 j2B j5A
 rw [List.any_map,List.any_filter]
 rfl
theorem jnG (l:List RC):(j2B l).length<=l.length:=by
 unfold j2B
 rw [List.length_map]
 exact List.length_filter_le _ _
theorem jsz (a:List Int) (y x:Int):j29 (a++[y]) x=(j29 a x||(y==x)):=by
 unfold j29
 rw [List.any_append]
 simp
theorem jrU (x:Int):(n:Nat)->(l:List RC)->l.length=n->j29 (j0P l) x=true->j5A l x=true:=by
 intro n
 induction n with
 | zero=>
  intro l f h
  have:l=[]:=List.length_eq_zero_iff.1 f
  subst this
  exact absurd h (by unfold j0P j29;simp)
 | succ n i=>
  intro l f h
  have d:l≠[]:=λe=>by rw [e] at f;simp at f
  have e:l=l.dropLast++[l.getLast d]:=(List.dropLast_concat_getLast d).symm
  generalize p:l.dropLast=m at e
  generalize l.getLast d=r at e
  have b:m.length=n:=by rw [<-p,List.length_dropLast];omega
  subst e
  rw [jhu] at h
  rw [jro,Bool.or_eq_true]
  unfold j5O at h
  cases k:r.1==1<;>rw [k] at h
  ·rw [cond_false] at h
   refine .inl (i m b ?_)
   cases g:(r.1==3)||(r.1==4)<;>rw [g] at h
   ·exact h
   ·rw [cond_true] at h
    unfold j29 at h ⊢
    rw [List.any_filter] at h
    obtain ⟨y,q,j⟩:=List.any_eq_true.1 h
    exact List.any_eq_true.2 ⟨y,q,(by rw [Bool.and_eq_true] at j;exact j.2)⟩
  ·rw [cond_true] at h
   cases g:j29 (j0P m) r.2.1<;>rw [g] at h
   ·rw [cond_false,jsz,Bool.or_eq_true] at h
    rcases h with h | h
    ·exact .inl (i m b h)
    ·exact .inr (by rw [h];rfl)
   ·exact .inl (i m b h)
theorem jlW {l:List RC} {x:Int} (h:j5A l x=false):j29 (j0P l) x=false:=by
 cases b:j29 (j0P l) x
 ·rfl
 ·rw [jrU x _ l rfl b] at h;cases h
theorem jnu (o:List Int) (r:RC):(j5O o r).length<=o.length+1:=by
 unfold j5O
 cases r.1==1
 ·cases (r.1==3)||(r.1==4)
  ·exact Nat.le_succ _
  ·exact Nat.le_succ_of_le (List.length_filter_le _ _)
 ·cases j29 o r.2.1
  ·show (o++[r.2.1]).length<=_;simp
  ·exact Nat.le_succ _
theorem jgI:(l:List RC)->(o:List Int)->(l.foldl j5O o).length<=o.length+l.length
 | [],o=>Nat.le_refl _
 | r::l,o=>by
  have b:=jgI l (j5O o r)
  have d:=jnu o r
  rw [List.foldl_cons,List.length_cons]
  omega
theorem jiW (l:List RC):(j0P l).length<=l.length:=by
 have:=jgI l []
 simpa [j0P] using this
theorem jl8 (x i:Int) (r:RC):(jjl x i r).length<=1:=by
 unfold jjl
 cases (r.1==2)&&(r.2.1==x)
 ·exact Nat.zero_le _
 ·exact Nat.le_refl _
theorem jhF (l:List RC) (x:Int):(j1q l x).length<=l.length:=Z94 _ (jl8 x) 0 l
theorem jne {α β:Type} {g:Int->α->List β} {P:β->Prop}:(j:Nat)->(l:List α)->(h:∀ i,∀ x∈l,∀ y∈g i x,P y)->∀ y∈Z4r g j l,P y
 | _,[],h,y,b=>by cases b
 | j,x::l,h,y,b=>by
  rcases List.mem_append.1 b with b | b
  ·exact h _ x (by simp) y b
  ·exact jne (j+1) l (λi x d=>h i x (List.mem_cons_of_mem _ d)) y b
theorem jrl {l:List RC} {x:Int} {s:ST} (f:s∈j1q l x):∃ r∈l,s=r.2.2:=
 jne (P:=λs=>∃ r∈l,s=r.2.2) 0 l (λi r d y b=>by
  unfold jjl at b
  cases h:(r.1==2)&&(r.2.1==x)<;>rw [h] at b
  ·cases b
  ·exact ⟨r,d,by simpa using b⟩) s f
def ja7 (i:Int) (r:RC):List Int:=bif r.1==3 then [i+1] else []
def j0p (l:List RC):List Int:=bif j2a l then Z4r ja7 0 l else []
theorem jhh (i:Int) (r:RC):(ja7 i r).length<=1:=by
 unfold ja7
 cases r.1==3
 ·exact Nat.zero_le _
 ·exact Nat.le_refl _
theorem jei (l:List RC):(j0p l).length<=l.length:=by
 unfold j0p
 cases j2a l
 ·exact Nat.zero_le _
 ·exact Z94 _ jhh 0 l
theorem jqF {c:Int}:(l:List RC)->(j:Nat)->(c∈Z4r ja7 j l↔∃ (i:Nat) (h:i<l.length),c=(j:Int)+i+1/\(l[i].1==3)=true)
 | [],j=>by simp [Z4r]
 | r::l,j=>by
  show c∈ja7 j r++Z4r ja7 (j+1) l↔_
  rw [List.mem_append,jqF l (j+1)]
  constructor
  ·rintro (h | ⟨i,d,f,b⟩)
   ·unfold ja7 at h
    cases g:r.1==3<;>rw [g] at h
    ·cases h
    ·exact ⟨0,Nat.succ_pos _,by simpa using h,g⟩
   ·exact ⟨i+1,Nat.succ_lt_succ d,by omega,b⟩
  ·rintro ⟨i,d,f,b⟩
   cases i with
   | zero=>
    refine .inl ?_
    have b:(r.1==3)=true:=b
    unfold ja7
    rw [b,cond_true]
    simpa using f
   | succ i=>exact .inr ⟨i,Nat.lt_of_succ_lt_succ d,by omega,b⟩
end
end Go.PI.G
set_option linter.unusedSimpArgs false
namespace Go.PI.G
open Go Go.PI Go.Proofs
theorem jqx (s:ST) (k:Bool->Res):j6U s k=k (jkt s):=by
 unfold j6U jkt
 rw [j3R,j3R,jmj]
 cases s.1==0
 ·rfl
 ·cases sEq s.2.1 eS
  ·rfl
  ·cases s.2.2.1.length==0
   ·rfl
   ·cases s.2.2.2.1.length==0<;>rfl
theorem jqm (s:ST) (k:Bool->Res):j7u s k=k (jkt s):=by
 unfold j7u jkt
 rw [j3R,j3R,jlr]
 cases s.1==0
 ·rfl
 ·cases sEq s.2.1 eS
  ·rfl
  ·cases s.2.2.1.length==0
   ·rfl
   ·cases s.2.2.2.1.length==0<;>rfl
theorem jrj (r:RC) (h:j15 r.2.2) (k:Bool->Res):j96 r k=k (jbf r):=by
 unfold j96 j9Z jbf
 by_cases d:1<=r.1/\r.1<=4
 ·rw [decide_eq_false (show ¬ r.1<1 by omega),cond_false,decide_eq_false (show ¬ r.1>4 by omega),cond_false,decide_eq_true d,Bool.true_and]
  by_cases f:1<=r.2.1/\r.2.1<=1000000
  ·rw [decide_eq_false (show ¬ r.2.1<1 by omega),cond_false,decide_eq_false (show ¬ r.2.1>1000000 by omega),decide_eq_true f,Bool.true_and]
   dsimp only
   rw [cond_false,jji _ h,jqx]
   cases r.1==2<;>rfl
  ·rw [decide_eq_false f]
   by_cases b:r.2.1<1
   ·rw [decide_eq_true b];rfl
   ·rw [decide_eq_false b,decide_eq_true (show r.2.1>1000000 by omega)];rfl
 ·rw [decide_eq_false d]
  by_cases b:r.1<1
  ·rw [decide_eq_true b];rfl
  ·rw [decide_eq_false b,decide_eq_true (show r.1>4 by omega)];rfl
theorem jlt (r:RC) (h:j15 r.2.2) (k:Bool->Res):j5a r k=k (jbf r):=by
 unfold j5a jbf
 rw [j70,j70]
 cases decide (1<=r.1/\r.1<=4)
 ·rfl
 ·cases decide (1<=r.2.1/\r.2.1<=1000000)
  ·rfl
  ·rw [Bool.not_true,cond_false,cond_false,jnp _ h,jqm]
   cases r.1==2<;>rfl
end Go.PI.G
namespace Go.PI.G
open Go Go.PI Go.Proofs
theorem jqw (a b:V) (k:Bool->Res):j8D a b k=k (vlt a b):=by
 unfold j8D vlt
 rw [j92,j92]
 cases j0w a
 ·rfl
 ·cases j0w b
  ·rfl
  ·rw [Bool.not_true,cond_false,cond_false,Bool.true_and,Bool.true_and]
   cases a.1 != b.1
   ·rw [cond_false,cond_false]
    by_cases h:a.2.1=b.2.1
    ·rw [h,ZaO,cond_false,decide_eq_false (by omega),cond_false,beq_self_eq_true,cond_true]
    ·have d:(a.2.1 != b.2.1)=true:=by simp [h]
     have f:(a.2.1==b.2.1)=false:=by simp [h]
     rw [d,f,cond_true,cond_false]
     cases decide (a.2.1<b.2.1)<;>rfl
   ·rfl
theorem jql (a b:V) (k:Bool->Res):j8j a b k=k (vlt a b):=by
 unfold j8j vlt
 rw [j8Q,j8Q]
 cases j0w a
 ·rfl
 ·cases j0w b
  ·rfl
  ·rw [Bool.not_true,cond_false,cond_false,Bool.true_and,Bool.true_and]
   cases a.1 != b.1
   ·rw [cond_false,cond_false]
    cases a.2.1 != b.2.1<;>rfl
   ·rfl
end Go.PI.G
namespace Go.PI.G
open Go Go.PI Go.Proofs
theorem jnd {α V K:Type} (l:List α) (j:Int->V) (b:Nat->α->Bool) (p:Nat->Prop) {step:V->(V->Res)->K->Res} (q:K) (d k:Res) (r:l.length<=LIM) (n:p 0)
  (z:∀ (i:Nat),(g:i<l.length)->p i->b i l[i]=false->p (i+1))
  (A:∀ (i:Nat) rec,(g:i<l.length)->p i->step (j i) rec q=bif b i l[i] then k else rec (j ((i:Int)+1))) (y:∀ rec,step (j (l.length:Int)) rec q=d) :
  Z1f step Z1c (j 0) q=bif Z71 b 0 l then k else d:=by
 have h:=Z3Z l (λi (_:Unit)=>j i) (λi _ x=>if b i x then .error () else (.ok ():Except Unit Unit)) (λi _=>p i) q (λ_=>d) (λ_=>k) () r n (λi a C g f m=>by
   refine z i g f ?_
   cases w:b i l[i] with
   | false=>rfl
   | true=>rw [w] at m;cases m)
  (λi a rec g f=>by
   rw [A i rec g f]
   cases b i l[i]<;>rfl) (λa rec _=>y rec)
 rw [h]
 have:∀ (l:List α) (i:Nat),Z1S (λi _ x=>if b i x then .error () else (.ok ():Except Unit Unit)) i l ()=bif Z71 b i l then .error () else .ok ():=by
  intro l
  induction l with
  | nil=>intro i;rfl
  | cons x l B=>
   intro i
   simp only [Z1S,Z71]
   cases b i x with
   | true=>rfl
   | false=>exact B _
 rw [this]
 cases Z71 b 0 l<;>rfl
theorem jk6 (c:C) (f:j1a c=true) (v:V) (k:Bool->Res):j4B c v k=k (j3Z c v):=by
 have g:=jtn f
 unfold j4B j3Z
 rw [j92,j92]
 cases b:v.1==0
 ·cases j0w v
  ·rfl
  ·rw [cond_false,cond_true,Bool.false_and,Bool.or_false,Bool.true_and]
 ·have d:(v.1==c.2.1)=false:=by
   rw [beq_iff_eq] at b
   simp;omega
  rw [d,Bool.true_and,Bool.false_or]
  cases j0w v<;>rfl
theorem jqk (c:C) (v:V) (k:Bool->Res):jcI c v k=k (j3Z c v):=by
 unfold jcI j3Z
 rw [j8Q]
 cases j0w v
 ·rfl
 ·cases v.1==c.2.1
  ·cases v.1==0<;>rfl
  ·rfl
theorem jhE (t:T) (h:msr yT t<=1048576) (r:List V) (k:Bool->Res):j2A t r k=k (j05 t&&j0v t.2.1 r):=by
 obtain ⟨g,j,l,m,p⟩:=j2U h
 unfold j2A
 rw [jdY t h]
 cases ht:j05 t
 ·rfl
 ·rw [Bool.not_true,cond_false,Bool.true_and]
  unfold j0v
  by_cases d:r.length=t.2.1.length
  ·have f:(nI r.length != nI t.2.1.length)=false:=by rw [d,ZaO]
   rw [f,cond_false,decide_eq_true d,Bool.true_and]
   unfold jdo
   have:=Z9P t.2.1 (λi=>i) (λi c=> !j3Z c (nth zV r (i:Int))) (step:=j86 t.2.1 (nI t.2.1.length) r) ((λ(_:Unit)=>k true),(λ(_:Unit)=>k false)) (k true) (k false) (by unfold LIM;omega) (λi rec b=>by
    show j5w _ _ r _ _ _ _=_
    unfold j5w
    rw [ZaQ b,cond_true,j00 b,cond_true,j00 (d ▸ b),cond_true,Zay _ _ _ b,jk6 _ (jni (j1x ht).2.2.2.2.1 i b),j01 (n:=(i:Int)+1) (by omega)]) (λrec=>by
    show j5w _ _ r _ _ _ _=_
    unfold j5w
    rw [ZaP,cond_false])
   refine this.trans ?_
   cases Z71 (λi c=> !j3Z c (nth zV r (i:Int))) 0 t.2.1<;>rfl
  ·have f:(nI r.length != nI t.2.1.length)=true:=by unfold nI;simp;omega
   rw [f,cond_true,decide_eq_false d,Bool.false_and]
theorem jhm (t:T) (h:msr yT t<=1048576) (r:List V) (k:Bool->Res):j3B t r k=k (j0v t.2.1 r):=by
 obtain ⟨g,j,l,m,p⟩:=j2U h
 unfold j3B j0v
 by_cases b:r.length=t.2.1.length
 ·have d:(nI r.length != nI t.2.1.length)=false:=by rw [b,ZaO]
  rw [d,cond_false,decide_eq_true b,Bool.true_and]
  unfold ji2
  have:=Z9P t.2.1 (λi=>i) (λi c=> !j3Z c (nth zV r (i:Int))) (step:=jb5 r (nI r.length) t) ((λ(_:Unit)=>k true),(λ(_:Unit)=>k false)) (k true) (k false) (by unfold LIM;omega) (λi rec f=>by
   show j5f _ _ t _ _ _ _=_
   unfold j5f
   rw [b,ZaQ f,cond_true,j00 f,cond_true,cond_true,Zay zC _ _ f,jqk,j01 (n:=(i:Int)+1) (by omega)]) (λrec=>by
   show j5f _ _ t _ _ _ _=_
   unfold j5f
   rw [b,ZaP,cond_false])
  refine this.trans ?_
  cases Z71 (λi c=> !j3Z c (nth zV r (i:Int))) 0 t.2.1<;>rfl
 ·have d:(nI r.length != nI t.2.1.length)=true:=by unfold nI;simp;omega
  rw [d,cond_true,decide_eq_false b,Bool.false_and]
theorem j0D {l:List C} {r:List V} (h:j0v l r=true):r.length=l.length:=by
 unfold j0v at h
 rw [Bool.and_eq_true,decide_eq_true_eq] at h
 exact h.1
theorem ja9 {α β:Type} (f:α->β):(l:List α)->l.flatMap (λx=>[f x])=l.map f
 | []=>rfl
 | x::l=>by rw [List.flatMap_cons,ja9 f l];rfl
theorem jab (t:T) (r:List V):(j07 t r).length=t.2.2.length:=by unfold j07;simp
theorem j7d (t:T) (h:msr yT t<=1048576) (ht:j05 t=true) (r:List V) (m:r.length=t.2.1.length) (k:List V->Res):j0F t r k=k (j07 t r):=by
 obtain ⟨p,q,w,y,z⟩:=j2U h
 unfold j0F jgZ
 have g:=j1n t.2.2 (-1) (by omega) (j1x ht).2.2.2.2.2
 have:=Z9T t.2.2 (λi b=>(b,i)) (λn=>[nth zV r (j02 t.2.1 n)]) 1048576 [] (step:=jao t.2.2 (nI t.2.2.length) t r) (λb=>k b) (λb=>k b) (by unfold LIM;omega) (λi d _=>by
  rw [ja9,List.nil_append,List.length_map,List.length_take];omega) (by simp) (λi b rec d l _=>by
  show j4C _ _ t r _ _ _ _=_
  unfold j4C
  have f:=g _ (List.getElem_mem d)
  have j:b.length=i:=by
   rw [l,ja9,List.nil_append,List.length_map,List.length_take];omega
  dsimp only
  rw [ZaQ d,cond_true,j00 d,cond_true,Zay _ _ _ d,j6Y t _ (by unfold LIM;omega),ZaK f.1 (by omega),cond_true,ZaL (by unfold LIM;omega),cond_true,j01 (n:=(i:Int)+1) (by omega)]) (λb rec=>by
  show j4C _ _ t r _ _ _ _=_
  unfold j4C
  dsimp only
  rw [ZaP,cond_false])
 refine this.trans ?_
 rw [ja9,List.nil_append]
 rfl
theorem jgV (a b:List V) (j:a.length<=LIM) (k:Bool->Res):j4v a b k=k (klt a b):=by
 unfold j4v jfu
 unfold LIM at j
 have h:∀ (d i n:Nat),i+d=a.length->d<n->i<=b.length->Z1f (j9l a b) n (i:Int) ((λ(_:Unit)=>k (decide (nI a.length<nI b.length))),(λ(t:Bool)=>k t))=k (klt (a.drop i) (b.drop i)):=by
  intro d
  induction d with
  | zero=>
   intro i n p q l
   obtain ⟨n,rfl⟩:∃ m,n=m+1:=⟨n-1,by omega⟩
   have:i=a.length:=by omega
   subst this
   show j3n a b _ _ _ _=_
   unfold j3n
   rw [ZaP,cond_false,List.drop_length]
   show k (decide (nI a.length<nI b.length))=_
   by_cases g:a.length<b.length
   ·rw [List.drop_eq_getElem_cons g,decide_eq_true (show nI a.length<nI b.length by unfold nI;omega)]
    rfl
   ·rw [List.drop_of_length_le (by omega),decide_eq_false (show ¬ nI a.length<nI b.length by unfold nI;omega)]
    rfl
  | succ d r=>
   intro i n p q l
   obtain ⟨n,rfl⟩:∃ m,n=m+1:=⟨n-1,by omega⟩
   have f:i<a.length:=by omega
   show j3n a b _ _ _ _=_
   unfold j3n
   rw [ZaQ f,cond_true,List.drop_eq_getElem_cons f]
   by_cases g:i<b.length
   ·rw [ZaQ g,cond_true,j00 f,cond_true,j00 g,cond_true,List.drop_eq_getElem_cons g,Zay _ _ _ f,Zay _ _ _ g,cond_true,cond_true,jqw,j01 (n:=(i:Int)+1) (by omega)]
    show (bif !veq a[i] b[i] then _ else _)=k (bif veq a[i] b[i] then _ else _)
    cases veq a[i] b[i]
    ·rfl
    ·exact r (i+1) n (by omega) (by omega) (by omega)
   ·have:i=b.length:=by omega
    subst this
    rw [ZaP,cond_false,List.drop_length]
    show k (decide (nI a.length<nI b.length))=_
    rw [decide_eq_false (show ¬ nI a.length<nI b.length by unfold nI;omega)]
    rfl
 exact h a.length 0 Z1c (by omega) (Z2b (by omega)) (by omega)
theorem j3A (t:T) (h:msr yT t<=1048576) (ht:j05 t=true) (r:List V) (m:r.length=t.2.1.length) (k:List V->Res):j0N t r k=k (j07 t r):=by
 obtain ⟨p,q,w,y,z⟩:=j2U h
 unfold j0N ji1
 have g:=j1n t.2.2 (-1) (by omega) (j1x ht).2.2.2.2.2
 have:=Z9T t.2.2 (λi b=>(b,i)) (λn=>[nth zV r (j02 t.2.1 n)]) 1048576 [] (step:=jb4 t.2.2 (nI t.2.2.length) t r) (λb=>k b) (λb=>k b) (by unfold LIM;omega) (λi d _=>by
  rw [ja9,List.nil_append,List.length_map,List.length_take];omega) (by simp) (λi b rec d l _=>by
  show j5e _ _ t r _ _ _ _=_
  unfold j5e
  have f:=g _ (List.getElem_mem d)
  have j:b.length=i:=by
   rw [l,ja9,List.nil_append,List.length_map,List.length_take];omega
  dsimp only
  rw [ZaQ d,cond_true,j00 d,cond_true,Zay _ _ _ d,j8g t _ (by unfold LIM;omega),ZaK f.1 (by omega),cond_true,ZaL (by unfold LIM;omega),cond_true,j01 (n:=(i:Int)+1) (by omega)]) (λb rec=>by
  show j5e _ _ t r _ _ _ _=_
  unfold j5e
  dsimp only
  rw [ZaP,cond_false])
 refine this.trans ?_
 rw [ja9,List.nil_append]
 rfl
theorem jc3 (a b:List V) (j:a.length<=LIM) (k:Bool->Res):j40 a b k=k (klt a b):=by
 unfold j40 jfg
 unfold LIM at j
 have h:∀ (d i n:Nat),i+d=a.length->d<n->i<=b.length->Z1f (j9e a b) n (i:Int) ((λ(_:Unit)=>k (decide (nI a.length<nI b.length))),(λ(t:Bool)=>k t))=k (klt (a.drop i) (b.drop i)):=by
  intro d
  induction d with
  | zero=>
   intro i n p q l
   obtain ⟨n,rfl⟩:∃ m,n=m+1:=⟨n-1,by omega⟩
   have:i=a.length:=by omega
   subst this
   show j3d a b _ _ _ _=_
   unfold j3d
   rw [ZaP,cond_false,List.drop_length]
   show k (decide (nI a.length<nI b.length))=_
   by_cases g:a.length<b.length
   ·rw [List.drop_eq_getElem_cons g,decide_eq_true (show nI a.length<nI b.length by unfold nI;omega)]
    rfl
   ·rw [List.drop_of_length_le (by omega),decide_eq_false (show ¬ nI a.length<nI b.length by unfold nI;omega)]
    rfl
  | succ d r=>
   intro i n p q l
   obtain ⟨n,rfl⟩:∃ m,n=m+1:=⟨n-1,by omega⟩
   have f:i<a.length:=by omega
   show j3d a b _ _ _ _=_
   unfold j3d
   rw [ZaQ f,cond_true,List.drop_eq_getElem_cons f]
   by_cases g:i<b.length
   ·rw [ZaQ g,cond_true,j00 f,cond_true,j00 g,cond_true,List.drop_eq_getElem_cons g,Zay _ _ _ f,Zay _ _ _ g,cond_true,cond_true,jql,j01 (n:=(i:Int)+1) (by omega)]
    show (bif !veq a[i] b[i] then _ else _)=k (bif veq a[i] b[i] then _ else _)
    cases veq a[i] b[i]
    ·rfl
    ·exact r (i+1) n (by omega) (by omega) (by omega)
   ·have:i=b.length:=by omega
    subst this
    rw [ZaP,cond_false,List.drop_length]
    show k (decide (nI a.length<nI b.length))=_
    rw [decide_eq_false (show ¬ nI a.length<nI b.length by unfold nI;omega)]
    rfl
 exact h a.length 0 Z1c (by omega) (Z2b (by omega)) (by omega)
theorem j7J (t:T) (h:msr yT t<=1048576) (l:List (List V)) (k:Bool->Res):j0E t l k=k (j09 t l):=by
 obtain ⟨B,C,D,E,F⟩:=j2U h
 unfold j0E j09
 rw [jdY t h]
 cases ht:j05 t
 ·rfl
 ·rw [Bool.not_true,cond_false,Bool.true_and]
  by_cases q:l.length<=60
  ·rw [decide_eq_false (show ¬ nI l.length>60 by unfold nI;omega),cond_false,decide_eq_true q,Bool.true_and]
   unfold jcq
   have:=jnd l (λi=>i) (λi r=> !j0v t.2.1 r||(decide (0<i)&& !klt (j07 t (nth [] l ((i:Int)-1))) (j07 t r))) (λi=>∀ (j:Nat) (g:j<l.length),j<i->j0v t.2.1 l[j]=true) (step:=j4w l l (nI l.length) t) ((λ(_:Unit)=>k true),(λ(_:Unit)=>k false)) (k true) (k false) (by unfold LIM;omega) (λj _ g=>absurd g (by omega)) (λi f m w j g z=>by
    rw [Bool.or_eq_false_iff,Bool.not_eq_false'] at w
    by_cases d:j<i
    ·exact m j g d
    ·have:j=i:=by omega
     subst this
     exact w.1) (λi rec f m=>by
    show j2r l _ _ t _ _ _ _=_
    unfold j2r
    rw [ZaQ f,cond_true,j00 f,cond_true,Zay _ _ _ f,jhE t h]
    rw [ht,Bool.true_and]
    cases A:j0v t.2.1 l[i]
    ·rfl
    ·rw [Bool.not_true,cond_false,Bool.false_or,j01 (n:=(i:Int)+1) (by omega)]
     by_cases p:0<i
     ·have b:i-1<l.length:=by omega
      have y:((i:Int)-1)=((i-1:Nat):Int):=by omega
      rw [decide_eq_true (show (i:Int)>0 by omega),cond_true,decide_eq_true p,Bool.true_and,j01 (n:=(i:Int)-1) (by omega),y,j00 b,cond_true,Zay _ _ _ b,j7d t h ht _ (j0D (m _ b (by omega))),j7d t h ht _ (j0D A),jgV _ _ (by rw [jab];unfold LIM;omega)]
     ·rw [decide_eq_false (show ¬ (i:Int)>0 by omega),cond_false,decide_eq_false p,Bool.false_and,cond_false]) (λrec=>by
    show j2r l _ _ t _ _ _ _=_
    unfold j2r
    rw [ZaP,cond_false])
   refine this.trans ?_
   cases Z71 (λi r=> !j0v t.2.1 r||(decide (0<i)&& !klt (j07 t (nth [] l ((i:Int)-1))) (j07 t r))) 0 l<;>rfl
  ·rw [decide_eq_true (show nI l.length>60 by unfold nI;omega),cond_true,decide_eq_false q,Bool.false_and]
theorem j9w (t:T) (h:msr yT t<=1048576) (l:List (List V)) (k:Bool->Res):j0V t l k=k (j09 t l):=by
 obtain ⟨B,C,D,E,F⟩:=j2U h
 unfold j0V j09
 rw [jhn t h]
 cases ht:j05 t
 ·rfl
 ·rw [Bool.not_true,cond_false,Bool.true_and]
  by_cases q:l.length<=60
  ·rw [decide_eq_false (show ¬ nI l.length>60 by unfold nI;omega),cond_false,decide_eq_true q,Bool.true_and]
   unfold jc5
   have:=jnd l (λi=>i) (λi r=> !j0v t.2.1 r||(decide (0<i)&& !klt (j07 t (nth [] l ((i:Int)-1))) (j07 t r))) (λi=>∀ (j:Nat) (g:j<l.length),j<i->j0v t.2.1 l[j]=true) (step:=j41 l l (nI l.length) t) ((λ(_:Unit)=>k true),(λ(_:Unit)=>k false)) (k true) (k false) (by unfold LIM;omega) (λj _ g=>absurd g (by omega)) (λi f m w j g z=>by
    rw [Bool.or_eq_false_iff,Bool.not_eq_false'] at w
    by_cases d:j<i
    ·exact m j g d
    ·have:j=i:=by omega
     subst this
     exact w.1) (λi rec f m=>by
    show j2n l _ _ t _ _ _ _=_
    unfold j2n
    rw [ZaQ f,cond_true,j00 f,cond_true,Zay _ _ _ f,jhm t h]
    cases A:j0v t.2.1 l[i]
    ·rfl
    ·rw [Bool.not_true,cond_false,Bool.false_or,j01 (n:=(i:Int)+1) (by omega)]
     by_cases p:0<i
     ·have b:i-1<l.length:=by omega
      have y:((i:Int)-1)=((i-1:Nat):Int):=by omega
      rw [decide_eq_true (show (i:Int)>0 by omega),cond_true,decide_eq_true p,Bool.true_and,j01 (n:=(i:Int)-1) (by omega),y,j00 b,cond_true,Zay _ _ _ b,j3A t h ht _ (j0D (m _ b (by omega))),j3A t h ht _ (j0D A),jc3 _ _ (by rw [jab];unfold LIM;omega)]
     ·rw [decide_eq_false (show ¬ (i:Int)>0 by omega),cond_false,decide_eq_false p,Bool.false_and,cond_false]) (λrec=>by
    show j2n l _ _ t _ _ _ _=_
    unfold j2n
    rw [ZaP,cond_false])
   refine this.trans ?_
   cases Z71 (λi r=> !j0v t.2.1 r||(decide (0<i)&& !klt (j07 t (nth [] l ((i:Int)-1))) (j07 t r))) 0 l<;>rfl
  ·rw [decide_eq_true (show nI l.length>60 by unfold nI;omega),cond_true,decide_eq_false q,Bool.false_and]
theorem j0m {t:T} {l:List (List V)} (h:j09 t l=true):j05 t=true/\l.length<=60/\∀ r∈l,j0v t.2.1 r=true:=by
 unfold j09 at h
 simp only [Bool.and_eq_true,decide_eq_true_eq,Bool.not_eq_true'] at h
 refine ⟨h.1,h.2.1,λr d=> ?_⟩
 obtain ⟨i,b,rfl⟩:=List.getElem_of_mem d
 have:=jdN l 0 h.2.2 i b
 simp only [Bool.or_eq_false_iff,Bool.not_eq_false'] at this
 exact this.1
end Go.PI.G
namespace Go.PI.G
open Go Go.PI Go.Proofs
theorem jlg {α K:Type} (z:α) (f:α->α->Bool) (a b:List α) {step:Int->(Int->Res)->K->Res} (q:K) (x y:Res) (h:a.length<=LIM) (g:a.length=b.length)
  (k:∀ (i:Nat) rec,(d:i<a.length)->(l:i<b.length)->step (i:Int) rec q=bif f a[i] b[i] then rec ((i:Int)+1) else y) (j:∀ rec,step (a.length:Int) rec q=x) :
  Z1f step Z1c 0 q=bif j0z z f a b then x else y:=by
 have:=Z9P a (λi=>i) (λi u=> !f u (nth z b (i:Int))) (step:=step) q x y h (λi rec d=>by
  rw [k i rec d (g ▸ d),Zay _ _ _ (g ▸ d)]
  cases f a[i] (b[i]'(g ▸ d))<;>rfl) j
 refine this.trans ?_
 unfold j0z
 rw [decide_eq_true g,Bool.true_and]
 cases Z71 (λi u=> !f u (nth z b (i:Int))) 0 a<;>rfl
theorem jlx {α β:Type} {a:List α} {b:List β} (h:¬ a.length=b.length):(nI a.length != nI b.length)=true:=by unfold nI;simp;omega
theorem jlw {α β:Type} {a:List α} {b:List β} (h:a.length=b.length):(nI a.length != nI b.length)=false:=by rw [h,ZaO]
theorem joS {α:Type} {z:α} {f:α->α->Bool} {a b:List α} (h:¬ a.length=b.length):j0z z f a b=false:=by
 unfold j0z;rw [decide_eq_false h,Bool.false_and]
theorem jft (a b:List V) (g:a.length<=LIM) (k:Bool->Res):j2t a b k=k (j0z zV veq a b):=by
 unfold j2t
 by_cases d:a.length=b.length
 ·rw [jlw d,cond_false]
  unfold jbX
  unfold LIM at g
  have:=jlg zV veq a b (step:=j6T a b (nI a.length)) ((λ(_:Unit)=>k true),(λ(_:Unit)=>k false)) (k true) (k false) g d (λi rec f h=>by
   show j1K _ _ _ _ _ _ _=_
   unfold j1K
   rw [ZaQ f,cond_true,j00 f,cond_true,j00 h,cond_true,Zay _ _ _ f,Zay _ _ _ h,j01 (n:=(i:Int)+1) (by omega)]
   show (bif !veq a[i] b[i] then _ else _)=_
   cases veq a[i] b[i]<;>rfl) (λrec=>by
   show j1K _ _ _ _ _ _ _=_
   unfold j1K
   rw [ZaP,cond_false])
  refine this.trans ?_
  cases j0z zV veq a b<;>rfl
 ·rw [jlx d,cond_true,joS d]
theorem jaX (a b:List V) (g:a.length<=LIM) (k:Bool->Res):j16 a b k=k (j0z zV veq a b):=by
 unfold j16
 by_cases d:a.length=b.length
 ·rw [jlw d,cond_false]
  unfold jbV
  unfold LIM at g
  have:=jlg zV veq a b (step:=j6G a b (nI a.length)) ((λ(_:Unit)=>k true),(λ(_:Unit)=>k false)) (k true) (k false) g d (λi rec f h=>by
   show j1H _ _ _ _ _ _ _=_
   unfold j1H
   rw [ZaQ f,cond_true,j00 f,cond_true,j00 h,cond_true,Zay _ _ _ f,Zay _ _ _ h,j01 (n:=(i:Int)+1) (by omega)]
   show (bif !veq a[i] b[i] then _ else _)=_
   cases veq a[i] b[i]<;>rfl) (λrec=>by
   show j1H _ _ _ _ _ _ _=_
   unfold j1H
   rw [ZaP,cond_false])
  refine this.trans ?_
  cases j0z zV veq a b<;>rfl
 ·rw [jlx d,cond_true,joS d]
theorem j6I (t:T) (h:msr yT t<=1048576) (l:List (List V)) (f:j09 t l=true) (b:List V) (k:Int->Res):j1f t l b k=k (j06 t l b):=by
 obtain ⟨m,p,q,w,y⟩:=j2U h
 obtain ⟨g,z,j⟩:=j0m f
 unfold j1f
 rw [j7J t h,f,Bool.not_true,cond_false]
 unfold jdn
 refine Z9S l (λi=>i) (λr=>j0z zV veq (j07 t r) b) (step:=j5v b l (nI l.length) t) _ k (by unfold LIM;omega) (λi rec d=> ?_) (λrec=> ?_)
 ·show j2Y b _ _ t _ _ _ _=_
  unfold j2Y
  rw [ZaQ d,cond_true,j00 d,cond_true,Zay _ _ _ d,j7d t h g _ (j0D (j _ (List.getElem_mem d))),jft _ _ (by rw [jab];unfold LIM;omega),j01 (n:=(i:Int)+1) (by omega)]
 ·show j2Y b _ _ t _ _ _ _=_
  unfold j2Y
  rw [ZaP,cond_false]
theorem j1M (t:T) (h:msr yT t<=1048576) (l:List (List V)) (f:j09 t l=true) (b:List V) (k:Int->Res):j0O t l b k=k (j06 t l b):=by
 obtain ⟨m,p,q,w,y⟩:=j2U h
 obtain ⟨g,z,j⟩:=j0m f
 unfold j0O j7b j9a
 refine Z9S l (λi=>i) (λr=>j0z zV veq (j07 t r) b) (step:=j3D l (t,b) (nI l.length)) _ k (by unfold LIM;omega) (λi rec d=> ?_) (λrec=> ?_)
 ·show j13 _ _ _ _ _ _ _=_
  unfold j13 jcH
  rw [ZaQ d,cond_true,j00 d,cond_true,Zay _ _ _ d,j3A t h g _ (j0D (j _ (List.getElem_mem d))),jaX _ _ (by rw [jab];unfold LIM;omega),j01 (n:=(i:Int)+1) (by omega)]
 ·show j13 _ _ _ _ _ _ _=_
  unfold j13
  rw [ZaP,cond_false]
theorem jpx (t:T) (l:List (List V)) (b:List V): -1<=j06 t l b/\j06 t l b<(l.length:Int):=jdO _ _
end Go.PI.G
