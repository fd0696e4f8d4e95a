/-
  Program's code interpreted over typed values; printed texts; plain laws. No conditions.
-/
import Derived.Test.YtnemiodjnhfejaaGreatSQj
import Derived.Test.YtnemiodjnhfejaaGreatSQf
import Derived.Test.YtnemiodjnhfejaaGreatSQd
import Derived.Test.YtnemiodjnhfejaaGreatSQi
import Derived.Test.YtnemiodjnhfejaaGreatSQg
import Derived.Test.YtnemiodjnhfejaaGreatSQe
set_option linter.unusedVariables false
namespace Go.PI.G
noncomputable section
open Go Go.PI
def j0f {α:Type} (z:α) (f:α->α->Bool) (a b:List α):Bool:=decide (a.length=b.length)&& !Z71 (λi x=> !f x (nth z b (i:Int))) 0 a
theorem jqa {α:Type} {z:α} {f:α->α->Bool} (d:∀ x y,f x y=true↔x=y) (a b:List α):j0f z f a b=true↔a=b:=by
 unfold j0f
 rw [Bool.and_eq_true,decide_eq_true_eq,Bool.not_eq_true',jag]
 constructor
 ·rintro ⟨m,h⟩
  refine List.ext_getElem m λi g k=> ?_
  have:=h i g
  rw [Nat.zero_add,Zay _ _ _ k,Bool.not_eq_false'] at this
  exact (d _ _).1 this
 ·rintro rfl
  refine ⟨rfl,λj l=> ?_⟩
  rw [Nat.zero_add,Zay _ _ _ l,(d _ _).2 rfl];rfl
theorem j5s (a b:List V):j0f zV veq a b=true↔a=b:=jqa jgT a b
def j05 (t:T) (l:List (List V)) (b:List V):Int:=Z9F (λr=>j0f zV veq (j06 t r) b) l
theorem jeN (t:T) (l:List (List V)) (b:List V):(j05 t l b= -1/\∀ r∈l,j06 t r≠b)\/∃ (i:Nat) (g:i<l.length),j05 t l b=(i:Int)/\j06 t l[i]=b:=by
 rcases jb1 (λr=>j0f zV veq (j06 t r) b) l with ⟨d,f⟩ | ⟨i,g,d,f,j⟩
 ·refine .inl ⟨d,λr h e=> ?_⟩
  have:=f r h
  rw [(j5s _ _).2 e] at this
  cases this
 ·exact .inr ⟨i,g,d,(j5s _ _).1 f⟩
theorem jlS (t:T) (l:List (List V)) (b:List V):decide (j05 t l b<0)= !l.any λr=>j0f zV veq (j06 t r) b:=by
 rcases jeN t l b with ⟨f,d⟩ | ⟨i,j,f,d⟩
 ·rw [decide_eq_true (by omega)]
  have:(l.any λr=>j0f zV veq (j06 t r) b)=false:=by
   rw [List.any_eq_false]
   intro r g h
   exact d r g ((j5s _ _).1 h)
  rw [this];rfl
 ·rw [decide_eq_false (by omega)]
  have:(l.any λr=>j0f zV veq (j06 t r) b)=true:=by
   rw [List.any_eq_true]
   exact ⟨l[i],List.getElem_mem _,(j5s _ _).2 d⟩
  rw [this];rfl
def lay {α:Type} (R:α->α->Bool) (x:α) (l:List α):List α:=l.takeWhile (λy=> !R x y)++x::l.dropWhile (λy=> !R x y)
theorem jmy {α:Type} {R:α->α->Bool} {x z:α} {l:List α}:z∈lay R x l↔z=x\/z∈l:=by
 unfold lay
 rw [List.mem_append,List.mem_cons]
 have:z∈l↔z∈l.takeWhile (λy=> !R x y)\/z∈l.dropWhile (λy=> !R x y):=by
  rw [<-List.mem_append,List.takeWhile_append_dropWhile]
 rw [this]
 constructor
 ·rintro (h | h | h)
  ·exact .inr (.inl h)
  ·exact .inl h
  ·exact .inr (.inr h)
 ·rintro (h | h | h)
  ·exact .inr (.inl h)
  ·exact .inl h
  ·exact .inr (.inr h)
theorem jmw {α:Type} (R:α->α->Bool) (x:α) (l:List α):(lay R x l).length=l.length+1:=by
 unfold lay
 have:=congrArg List.length (List.takeWhile_append_dropWhile (p:=λy=> !R x y) (l:=l))
 rw [List.length_append] at this
 rw [List.length_append,List.length_cons]
 omega
theorem joS {α:Type} {R:α->α->Bool} (i:∀ a b c,R a b=true->R b c=true->R a c=true) (x:α):(l:List α)->(l.Pairwise λa b=>R a b=true)->(∀ y∈l,R x y=true\/R y x=true)->(lay R x l).Pairwise λa b=>R a b=true
 | [],_,_=>List.pairwise_singleton _ _
 | y::l,h,ht=>by
  rw [List.pairwise_cons] at h
  cases d:R x y
  ·have e:lay R x (y::l)=y::lay R x l:=by
    unfold lay
    rw [List.takeWhile_cons,List.dropWhile_cons,d]
    rfl
   rw [e,List.pairwise_cons]
   refine ⟨λz f=> ?_,joS i x l h.2 λz f=>ht z (List.mem_cons_of_mem _ f)⟩
   rcases jmy.1 f with rfl | f
   ·rcases ht y (by simp) with g | g
    ·rw [d] at g;cases g
    ·exact g
   ·exact h.1 z f
  ·have e:lay R x (y::l)=x::y::l:=by
    unfold lay
    rw [List.takeWhile_cons,List.dropWhile_cons,d]
    rfl
   rw [e,List.pairwise_cons]
   refine ⟨λz f=> ?_,List.pairwise_cons.2 h⟩
   rcases List.mem_cons.1 f with rfl | f
   ·exact d
   ·exact i _ _ _ d (h.1 z f)
theorem jq1 {α:Type} {R:α->α->Bool} (g:∀ a b,R a b=true->R b a=false) {x:α} {l:List α} (ht:∀ y∈l,R x y=true\/R y x=true) :
  ∃ i,i<=l.length/\i=(l.takeWhile λy=>R y x).length/\lay R x l=l.take i++x::l.drop i:=by
 have f:∀ (l:List α),(∀ y∈l,R x y=true\/R y x=true)->l.takeWhile (λy=> !R x y)=l.takeWhile λy=>R y x:=by
  intro l
  induction l with
  | nil=>intro _;rfl
  | cons y l m=>
   intro h
   have e:(!R x y)=R y x:=by
    rcases h y (by simp) with d | d
    ·rw [d,g _ _ d];rfl
    ·rw [d,g _ _ d];rfl
   rw [List.takeWhile_cons,List.takeWhile_cons,e,m λz k=>h z (List.mem_cons_of_mem _ k)]
 have d:=List.takeWhile_append_dropWhile (p:=λy=> !R x y) (l:=l)
 have j:=f l ht
 refine ⟨(l.takeWhile λy=>R y x).length,?_,rfl,?_⟩
 ·have:=congrArg List.length d
  rw [List.length_append,j] at this
  omega
 ·unfold lay
  rw [j] at d ⊢
  generalize l.takeWhile (λy=>R y x)=a at d ⊢
  generalize l.dropWhile (λy=> !R x y)=b at d ⊢
  rw [<-d]
  simp
def kR (t:T) (a b:List V):Bool:=klt (j06 t a) (j06 t b)
def jhc (t:T) (l:List (List V)) (r:List V):List (List V):=lay (kR t) r l
def jb8 (t:T) (b:List V):Bool:=j08 t&&(decide (b.length=t.2.2.length)&& !Z71 (λi k=> !j48 (nth zC t.2.1 (j02 t.2.1 k)) (nth zV b (i:Int))) 0 t.2.2)
def j6J (t:T) (l:List (List V)) (r:List V):List (List V)×Int:=
 bif !j07 t l then ([],1) else bif !j0t t.2.1 r then ([],2) else bif !decide (j05 t l (j06 t r)<0) then ([],3) else bif l.length==60 then ([],4) else (jhc t l r,0)
def j6K (t:T) (l:List (List V)) (b r:List V):List (List V)×Int:=
 bif !j07 t l then ([],1) else bif !j0t t.2.1 r then ([],2) else bif !jb8 t b||decide (j05 t l b<0) then ([],5) else
 bif !decide (j05 t (l.eraseIdx (j05 t l b).toNat) (j06 t r)<0) then ([],3) else (jhc t (l.eraseIdx (j05 t l b).toNat) r,0)
def j6I (t:T) (l:List (List V)) (b:List V):List (List V)×Int:=
 bif !j07 t l then ([],1) else bif !jb8 t b||decide (j05 t l b<0) then ([],5) else (l.eraseIdx (j05 t l b).toNat,0)
theorem jp1 {l:List C} {r:List V} (h:j0t l r=true):∀ v∈r,j0w v=true:=by
 intro v d
 obtain ⟨i,b,rfl⟩:=List.getElem_of_mem d
 rw [jao] at h
 have:=h.2 i (by omega) b
 unfold j48 at this
 rw [Bool.and_eq_true] at this
 exact this.1
theorem joO {t:T} (ht:j08 t=true) {r:List V} (h:j0t t.2.1 r=true):∀ v∈j06 t r,j0w v=true:=by
 intro v f
 obtain ⟨k,b,rfl⟩:=List.mem_map.1 f
 have:=j19 t.2.2 (-1) (by omega) (j0R ht).2.2.2.2.2 k b
 obtain ⟨n,d⟩:∃ n:Nat,j02 t.2.1 k=(n:Int):=⟨(j02 t.2.1 k).toNat,by omega⟩
 have g:=((jao _ _).1 h).1
 rw [d,Zay _ _ _ (by omega)]
 exact jp1 h _ (List.getElem_mem _)
theorem joN {t:T} (ht:j08 t=true) {a b:List V} (d:j0t t.2.1 a=true) (f:j0t t.2.1 b=true) (h:j06 t a≠j06 t b):kR t a b=true\/kR t b a=true:=
 jnb _ _ (joO ht d) (joO ht f) h
theorem jq0 {t:T} {l:List (List V)} {r:List V} (h:j07 t l=true) (i:j0t t.2.1 r=true) (n:∀ x∈l,j06 t x≠j06 t r) (m:l.length<60):j07 t (jhc t l r)=true:=by
 rw [j79] at h ⊢
 obtain ⟨f,p,g,k⟩:=h
 refine ⟨f,by unfold jhc;rw [jmw];omega,λx d=> ?_,?_⟩
 ·rcases jmy.1 d with rfl | d
  ·exact i
  ·exact g x d
 ·exact joS (R:=kR t) (λa b c=>jfp _ _ _) r l k λy j=>joN f i (g y j) λe=>n y j e.symm
theorem jfl {t:T} {l:List (List V)} (b:j07 t l=true) (i:Nat):j07 t (l.eraseIdx i)=true:=by
 rw [j79] at b ⊢
 obtain ⟨d,j,f,g⟩:=b
 refine ⟨d,?_,λx h=>f x (List.mem_of_mem_eraseIdx h),g.sublist (List.eraseIdx_sublist _ _)⟩
 rw [List.length_eraseIdx]
 split<;>omega
theorem jqo {t:T} {l:List (List V)} (k:j07 t l=true) {i j:Nat} (f:i<l.length) (g:j<l.length) (h:j06 t l[i]=j06 t l[j]):i=j:=by
 have d:=((j79 _ _).1 k).2.2.2
 rw [List.pairwise_iff_getElem] at d
 rcases Nat.lt_trichotomy i j with b | b | b
 ·exact absurd h (jr7 (d i j f g b))
 ·exact b
 ·exact absurd h.symm (jr7 (d j i g f b))
theorem jnk {t:T} {l:List (List V)} (y:j07 t l=true) {b now:List V} (h:¬ j05 t l b<0) :
  (!decide (j05 t (l.eraseIdx (j05 t l b).toNat) now<0))=(!j0f zV veq now b&& !decide (j05 t l now<0)):=by
 rcases jeN t l b with ⟨n,_⟩ | ⟨i,w,n,p⟩
 ·omega
 rw [n,Int.toNat_natCast,jlS,jlS,Bool.not_not,Bool.not_not]
 by_cases g:now=b
 ·subst g
  rw [(j5s _ _).2 rfl,Bool.not_true,Bool.false_and,List.any_eq_false]
  intro r f h
  obtain ⟨j,k,m,rfl⟩:=List.mem_eraseIdx_iff_getElem.1 f
  exact m (jqo y k w (((j5s _ _).1 h).trans p.symm))
 ·have:j0f zV veq now b=false:=by
   cases d:j0f zV veq now b with
   | false=>rfl
   | true=>exact absurd ((j5s _ _).1 d) g
  rw [this,Bool.not_false,Bool.true_and]
  cases d:l.any λr=>j0f zV veq (j06 t r) now with
  | false=>
   rw [List.any_eq_false] at d ⊢
   exact λr f=>d r (List.mem_of_mem_eraseIdx f)
  | true=>
   rw [List.any_eq_true] at d ⊢
   obtain ⟨r,f,q⟩:=d
   refine ⟨r,List.mem_eraseIdx_iff_getElem.2 ?_,q⟩
   obtain ⟨j,k,rfl⟩:=List.getElem_of_mem f
   exact ⟨j,k,λe=>g (by subst e;rw [<-(j5s _ _).1 q,p]),rfl⟩
theorem joW {t:T} {l:List (List V)} {b:List V} (h:j05 t l b<0):∀ x∈l,j06 t x≠b:=by
 rcases jeN t l b with ⟨_,d⟩ | ⟨i,g,f,_⟩
 ·exact d
 ·omega
def j3m (t:T) (l:List (List V)) (s:ST):List (List V)×Int:=
 bif s.1==1 then j6J t l s.2.2.2.1 else bif s.1==2 then j6K t l s.2.2.1 s.2.2.2.1 else bif s.1==3 then j6I t l s.2.2.1 else ([],0)
theorem jqx {t:T} {l:List (List V)} {r:List V} (h:(j6J t l r).2=0):j07 t (j6J t l r).1=true:=by
 unfold j6J at h ⊢
 cases b:j07 t l<;>rw [b] at h
 ·cases h
 cases d:j0t t.2.1 r<;>rw [d] at h
 ·cases h
 cases f:decide (j05 t l (j06 t r)<0)<;>rw [f] at h
 ·cases h
 cases g:l.length==60<;>rw [g] at h
 ·refine jq0 b d (joW (of_decide_eq_true f)) ?_
  have:=((j79 _ _).1 b).2.1
  have i:l.length≠60:=by simpa using g
  omega
 ·cases h
theorem jqy {t:T} {l:List (List V)} {b r:List V} (h:(j6K t l b r).2=0):j07 t (j6K t l b r).1=true:=by
 unfold j6K at h ⊢
 cases d:j07 t l<;>rw [d] at h
 ·cases h
 cases f:j0t t.2.1 r<;>rw [f] at h
 ·cases h
 cases g: !jb8 t b||decide (j05 t l b<0)<;>rw [g] at h
 ·cases i:decide (j05 t (l.eraseIdx (j05 t l b).toNat) (j06 t r)<0)<;>rw [i] at h
  ·cases h
  ·refine jq0 (jfl d _) f (joW (of_decide_eq_true i)) ?_
   rw [Bool.or_eq_false_iff,decide_eq_false_iff_not] at g
   have m:=((j79 _ _).1 d).2.1
   have j:=(jdV (λr=>j0f zV veq (j06 t r) b) l).2
   have k:(j05 t l b).toNat<l.length:=by
    have:j05 t l b<(l.length:Int):=j
    omega
   rw [List.length_eraseIdx_of_lt k]
   omega
 ·cases h
theorem jqw {t:T} {l:List (List V)} {b:List V} (h:(j6I t l b).2=0):j07 t (j6I t l b).1=true:=by
 unfold j6I at h ⊢
 cases d:j07 t l<;>rw [d] at h
 ·cases h
 cases f: !jb8 t b||decide (j05 t l b<0)<;>rw [f] at h
 ·exact jfl d _
 ·cases h
theorem jnj {t:T} (h:j08 t=true):j07 t []=true:=(j79 _ _).2 ⟨h,by simp,by simp,List.Pairwise.nil⟩
theorem js2 {t:T} (ht:j08 t=true) {l:List (List V)} {s:ST} (h:(j3m t l s).2=0):j07 t (j3m t l s).1=true:=by
 unfold j3m at h ⊢
 cases b:s.1==1<;>rw [b] at h
 ·cases d:s.1==2<;>rw [d] at h
  ·cases f:s.1==3<;>rw [f] at h
   ·exact jnj ht
   ·exact jqw h
  ·exact jqy h
 ·exact jqx h
def tR (a b:T):Bool:=sLt a.1 b.1
def j0D (t:T) (d:D):Int:=
 bif d.1==3 then (bif !decide (j02 t.2.1 (nth zC d.2.2.1 0).1<0) then 5 else bif t.2.1.length==8 then 6 else 0)
 else bif d.1==4 then (bif decide (j02 t.2.1 d.2.2.2.2.1<0) then 7 else bif t.2.2.any (λx=>sEq x d.2.2.2.2.1) then 8 else 0)
 else bif d.1==5 then (bif !decide (j02 t.2.1 d.2.2.2.2.2<0) then 5 else bif decide (j02 t.2.1 d.2.2.2.2.1<0) then 7 else 0)
 else 0
def jb0 (t:T) (d:D):T:=bif d.1==3 then jkm t (nth zC d.2.2.1 0) else bif d.1==4 then jhk t d.2.2.2.2.1 else jft t d.2.2.2.2.1 d.2.2.2.2.2
def j0i (c:List T) (d:D):Int:=
 bif d.1==1 then (bif !decide (j0a c d.2.1<0) then 2 else bif c.length==6 then 3 else 0)
 else bif decide (j0a c d.2.1<0) then 4 else j0D (nth zT c (j0a c d.2.1)) d
def j1g (c:List T) (d:D):List T:=
 bif d.1==1 then lay tR (d.2.1,d.2.2.1,d.2.2.2.1) c
 else bif d.1==2 then c.eraseIdx (j0a c d.2.1).toNat
 else c.set (j0a c d.2.1).toNat (jb0 (nth zT c (j0a c d.2.1)) d)
def jfX (c:List T) (d:D):List T×Int:=
 bif !j25 c|| !j1f d then ([],1) else bif j0i c d != 0 then ([],j0i c d) else (j1g c d,0)
theorem j0G (c:List T) (n:ByteArray):(j0a c n= -1/\∀ t∈c,t.1≠n)\/∃ (i:Nat) (f:i<c.length),j0a c n=(i:Int)/\c[i].1=n:=by
 rcases jb1 (λt:T=>sEq t.1 n) c with ⟨b,d⟩ | ⟨i,f,b,d,g⟩
 ·exact .inl ⟨b,λt ht e=>by have:=d t ht;rw [e,Zah] at this;cases this⟩
 ·exact .inr ⟨i,f,b,(j0d _ _).1 d⟩
theorem jfD {c:List T} (h:c.Pairwise λa b=>sLt a.1 b.1=true) {i:Nat} (g:i<c.length):j0a c c[i].1=(i:Int):=by
 refine jpX g (Zah _) λj k f=> ?_
 have f:=(j0d _ _).1 f
 rw [List.pairwise_iff_getElem] at h
 rcases Nat.lt_trichotomy i j with d | d | d
 ·exact absurd f.symm (jrg (h i j g k d))
 ·exact d.symm
 ·exact absurd f (jrg (h j i k g d))
theorem jin (t:T) (d:D):(jb0 t d).1=t.1:=by
 unfold jb0
 cases d.1==3
 ·cases d.1==4<;>rfl
 ·rfl
theorem jqN {t:T} (ht:j08 t=true) {d:D} (q:j1f d=true) (j:3<=d.1) (b:j0D t d=0):j08 (jb0 t d)=true:=by
 obtain ⟨_,h⟩:=j98 q
 rcases h with ⟨n,cs,ks,rfl,_⟩ | ⟨n,rfl⟩ | ⟨n,c,rfl,l⟩ | ⟨n,m,rfl,r⟩ | ⟨n,m,p,rfl,r,w⟩
 ·simp at j
 ·simp at j
 ·show j08 (jkm t c)=true
  change (bif !decide (j02 t.2.1 c.1<0) then (5:Int) else bif t.2.1.length==8 then 6 else 0)=0 at b
  cases f:decide (j02 t.2.1 c.1<0)<;>rw [f] at b
  ·cases b
  ·cases g:t.2.1.length==8<;>rw [g] at b
   ·have k:t.2.1.length≠8:=by simpa using g
    have:=(j0R ht).2.2.1
    exact jsp ht l (of_decide_eq_true f) (by omega)
   ·cases b
 ·show j08 (jhk t m)=true
  change (bif decide (j02 t.2.1 m<0) then (7:Int) else bif t.2.2.any (λx=>sEq x m) then 8 else 0)=0 at b
  cases f:decide (j02 t.2.1 m<0)<;>rw [f] at b
  ·cases g:t.2.2.any λx=>sEq x m<;>rw [g] at b
   ·have k:=of_decide_eq_false f
    exact jsE ht (i:=(j02 t.2.1 m).toNat) (by omega) g
   ·cases b
  ·cases b
 ·show j08 (jft t m p)=true
  change (bif !decide (j02 t.2.1 p<0) then (5:Int) else bif decide (j02 t.2.1 m<0) then 7 else 0)=0 at b
  cases f:decide (j02 t.2.1 p<0)<;>rw [f] at b
  ·cases b
  ·exact jrT ht w (of_decide_eq_true f)
theorem jn4 {c:List T} (f:j25 c=true) {t:T} (ht:j08 t=true) (p:j0a c t.1<0) (m:c.length<6):j25 (lay tR t c)=true:=by
 rw [j0k] at f ⊢
 obtain ⟨l,g,j⟩:=f
 refine ⟨by rw [jmw];omega,λx d=> ?_,?_⟩
 ·rcases jmy.1 d with rfl | d
  ·exact ht
  ·exact g x d
 ·refine joS (R:=tR) (λa b c=>jfw) t c j λy k=>jiV λe=> ?_
  rcases j0G c t.1 with ⟨_,h⟩ | ⟨i,n,h,_⟩
  ·exact h y k e.symm
  ·omega
theorem joY {α:Type} {R:α->α->Prop} {l:List α} (h:l.Pairwise R) {i:Nat} {x:α} (m:i<l.length) (j:∀ y,R y l[i]->R y x) (k:∀ y,R l[i] y->R x y):(l.set i x).Pairwise R:=by
 rw [List.pairwise_iff_getElem] at h ⊢
 intro a b f g d
 rw [List.length_set] at f g
 rw [List.getElem_set,List.getElem_set]
 split
 ·rename_i e
  subst e
  split
  ·omega
  ·exact k _ (h _ _ f g d)
 ·split
  ·rename_i e
   subst e
   exact j _ (h _ _ f g d)
  ·exact h _ _ f g d
theorem jq6 {c:List T} (d:j25 c=true) {i:Nat} (l:i<c.length) {t:T} (ht:j08 t=true) (f:t.1=c[i].1):j25 (c.set i t)=true:=by
 rw [j0k] at d ⊢
 obtain ⟨g,j,k⟩:=d
 refine ⟨by rw [List.length_set];exact g,λx b=> ?_,?_⟩
 ·rcases List.mem_or_eq_of_mem_set b with b | rfl
  ·exact j x b
  ·exact ht
 ·refine joY k l (λy h=> ?_) (λy h=> ?_)
  ·rw [f];exact h
  ·rw [f];exact h
theorem jn9 {c:List T} (b:j25 c=true) (i:Nat):j25 (c.eraseIdx i)=true:=by
 rw [j0k] at b ⊢
 obtain ⟨h,d,f⟩:=b
 refine ⟨?_,λx g=>d x (List.mem_of_mem_eraseIdx g),f.sublist (List.eraseIdx_sublist _ _)⟩
 rw [List.length_eraseIdx]
 split<;>omega
theorem joy {d:D} (b:j1f d=true):d.1=1\/d.1=2\/3<=d.1:=by
 obtain ⟨_,h⟩:=j98 b
 rcases h with ⟨n,cs,ks,rfl,_⟩ | ⟨n,rfl⟩ | ⟨n,c,rfl,g⟩ | ⟨n,m,rfl,f⟩ | ⟨n,m,p,rfl,f,i⟩<;>simp
theorem jmm {c:List T} {d:D} (k:j25 c=true) (j:j1f d=true) (h:j0i c d=0):j25 (j1g c d)=true:=by
 have l:=(j0k c).1 k
 unfold j0i at h
 unfold j1g
 rcases joy j with f | f | f
 ·rw [f] at h ⊢
  rw [show ((1:Int)==1)=true from rfl,cond_true] at h ⊢
  cases g:decide (j0a c d.2.1<0)<;>rw [g] at h
  ·cases h
  ·cases b:c.length==6<;>rw [b] at h
   ·have p:c.length≠6:=by simpa using b
    have n:j08 (d.2.1,d.2.2.1,d.2.2.2.1)=true:=by
     unfold j1f at j
     rw [f] at j
     simp only [Bool.and_eq_true,beq_self_eq_true,cond_true] at j
     exact j.2.2.2
    exact jn4 k n (of_decide_eq_true g) (by omega)
   ·cases h
 ·rw [f] at h ⊢
  rw [show ((2:Int)==1)=false from rfl,show ((2:Int)==2)=true from rfl,cond_false,cond_true]
  exact jn9 k _
 ·rw [show (d.1==1)=false by simp;omega,cond_false] at h
  rw [show (d.1==1)=false by simp;omega,show (d.1==2)=false by simp;omega,cond_false,cond_false]
  cases g:decide (j0a c d.2.1<0)<;>rw [g] at h
  ·rcases j0G c d.2.1 with ⟨b,_⟩ | ⟨i,m,b,p⟩
   ·rw [b] at g;cases g
   ·rw [cond_false] at h
    rw [b,Zay _ _ _ m] at h
    rw [b,Zay _ _ _ m,Int.toNat_natCast]
    exact jq6 k m (jqN (l.2.1 _ (List.getElem_mem _)) j f h) (jin _ _)
  ·cases h
def jfW (t:T) (d:D) (l:List (List V)):List (List V):=
 bif d.1==3 then l.map (λr=>r++[(nth zC d.2.2.1 0).2.2.2.2]) else bif d.1==4 then l.map (λr=>r.eraseIdx (j02 t.2.1 d.2.2.2.2.1).toNat) else l
def jjd (d:DB) (x:D):List (List (List V)):=
 bif x.1==1 then d.2.take (j0a (j1g d.1 x) x.2.1).toNat++[]::d.2.drop (j0a (j1g d.1 x) x.2.1).toNat
 else bif x.1==2 then d.2.eraseIdx (j0a d.1 x.2.1).toNat
 else d.2.set (j0a d.1 x.2.1).toNat (jfW (nth zT d.1 (j0a d.1 x.2.1)) x (nth [] d.2 (j0a d.1 x.2.1)))
abbrev zDB:DB:=([],[])
def j2n (d:DB) (s:ST):DB×Int:=
 bif decide (j0a d.1 s.2.1<0)&& !((s.1==5)&&(s.2.2.2.2.1==1)) then (zDB,4)
 else bif s.1==5 then (bif j0i d.1 s.2.2.2.2 != 0 then (zDB,10+j0i d.1 s.2.2.2.2) else ((j1g d.1 s.2.2.2.2,jjd d s.2.2.2.2),0))
 else bif (j3m (nth zT d.1 (j0a d.1 s.2.1)) (nth [] d.2 (j0a d.1 s.2.1)) s).2 != 0 then (zDB,10+(j3m (nth zT d.1 (j0a d.1 s.2.1)) (nth [] d.2 (j0a d.1 s.2.1)) s).2)
 else ((d.1,d.2.set (j0a d.1 s.2.1).toNat (j3m (nth zT d.1 (j0a d.1 s.2.1)) (nth [] d.2 (j0a d.1 s.2.1)) s).1),0)
theorem jsr {t:T} (ht:j08 t=true) {d:D} (j:j1f d=true) (k:3<=d.1) (f:j0D t d=0) {l:List (List V)} (w:j07 t l=true):j07 (jb0 t d) (jfW t d l)=true:=by
 have g:=jqN ht j k f
 obtain ⟨_,h⟩:=j98 j
 rcases h with ⟨n,cs,ks,rfl,_⟩ | ⟨n,rfl⟩ | ⟨n,c,rfl,A⟩ | ⟨n,m,rfl,B⟩ | ⟨n,m,p,rfl,B,E⟩
 ·simp at k
 ·simp at k
 ·have q:(c.2.2.2.1|| !c.2.2.1)=true:=by
   unfold j1f at j
   rw [Bool.and_eq_true] at j
   have:=j.2
   simp only [show ((3:Int)==1)=false from rfl,show ((3:Int)==2)=false from rfl,show ((3:Int)==3)=true from rfl,cond_false,cond_true,Bool.and_eq_true] at this
   exact this.2.2.1
  show j07 (jkm t c) (l.map λr=>r++[c.2.2.2.2])=true
  exact jiU _ w g (λr b=>jso b (jrG A q)) (λr b=>jrv ht ((jao _ _).1 b).1 _)
 ·change (bif decide (j02 t.2.1 m<0) then (7:Int) else bif t.2.2.any (λx=>sEq x m) then 8 else 0)=0 at f
  show j07 (jhk t m) (l.map λr=>r.eraseIdx (j02 t.2.1 m).toNat)=true
  cases i:decide (j02 t.2.1 m<0)<;>rw [i] at f
  ·cases y:t.2.2.any λx=>sEq x m<;>rw [y] at f
   ·have C:=of_decide_eq_false i
    have z:j02 t.2.1 m=(((j02 t.2.1 m).toNat:Nat):Int):=by omega
    refine jiU _ w g (λr b=> ?_) (λr b=>jrV ht z y ((jao _ _).1 b).1)
    rw [(jmM ht z).2]
    exact jsD b _
   ·cases f
  ·cases f
 ·change (bif !decide (j02 t.2.1 p<0) then (5:Int) else bif decide (j02 t.2.1 m<0) then 7 else 0)=0 at f
  show j07 (jft t m p) l=true
  cases i:decide (j02 t.2.1 p<0)<;>rw [i] at f
  ·cases f
  ·have:=jiU (t':=jft t m p) id w g (λr b=>jrS b m p) (λr b=>jrc ht (of_decide_eq_true i) r)
   rw [List.map_id] at this
   exact this
theorem jpU {c:List T} {l:List (List (List V))} (h:dbB (c,l)=true) {i:Nat} (n:i<c.length) {t:T} (p:t.1=c[i].1) {r:List (List V)} (m:j07 t r=true):dbB (c.set i t,l.set i r)=true:=by
 rw [j2c] at h ⊢
 obtain ⟨d,f,g⟩:=h
 dsimp only at d f g ⊢
 refine ⟨jq6 d n ((j79 _ _).1 m).1 p,by rw [List.length_set,List.length_set];exact f,λj k b=> ?_⟩
 rw [List.getElem_set,List.getElem_set]
 split
 ·exact m
 ·rw [List.length_set] at k b
  exact g j k b
theorem jqR {c:List T} {l:List (List (List V))} (h:dbB (c,l)=true) (i:Nat):dbB (c.eraseIdx i,l.eraseIdx i)=true:=by
 rw [j2c] at h ⊢
 obtain ⟨d,f,b⟩:=h
 dsimp only at d f b ⊢
 refine ⟨jn9 d i,by rw [List.length_eraseIdx,List.length_eraseIdx,f],λj k g=> ?_⟩
 rw [List.getElem_eraseIdx,List.getElem_eraseIdx]
 split
 ·exact b _ _ _
 ·exact b _ _ _
theorem jrM (c:List T) (t:T):∃ i,i<=c.length/\lay tR t c=c.take i++t::c.drop i:=by
 refine ⟨(c.takeWhile λy=> !tR t y).length,?_,?_⟩
 ·have:=congrArg List.length (List.takeWhile_append_dropWhile (p:=λy=> !tR t y) (l:=c))
  rw [List.length_append] at this
  omega
 ·have d:=List.takeWhile_append_dropWhile (p:=λy=> !tR t y) (l:=c)
  unfold lay
  generalize c.takeWhile (λy=> !tR t y)=a at d ⊢
  generalize c.dropWhile (λy=> !tR t y)=b at d ⊢
  rw [<-d]
  simp
theorem joR {c:List T} (h:j25 c=true) {t:T} (ht:j08 t=true) (k:j0a c t.1<0) (g:c.length<6):∃ i:Nat,i<=c.length/\j0a (lay tR t c) t.1=(i:Int)/\lay tR t c=c.take i++t::c.drop i:=by
 obtain ⟨i,f,d⟩:=jrM c t
 refine ⟨i,f,?_,d⟩
 have l:=((j0k _).1 (jn4 h ht k g)).2.2
 have b:i<(lay tR t c).length:=by rw [jmw];omega
 have j:(lay tR t c)[i]=t:=by
  simp only [d]
  rw [List.getElem_append_right (by rw [List.length_take];omega)]
  simp [List.length_take,Nat.min_eq_left f]
 have:=jfD l b
 rw [j] at this
 exact this
theorem jpW {α:Type} (l:List α) {i:Nat} (g:i<=l.length) (x:α) (j:Nat) (f:j<(l.take i++x::l.drop i).length):(l.take i++x::l.drop i)[j]=if h:j<i then l[j] else if b:j=i then x else l[j-1]'(by simp at f;omega):=by
 have d:(l.take i).length=i:=by rw [List.length_take];omega
 by_cases h:j<i
 ·rw [dif_pos h,List.getElem_append_left (by omega),List.getElem_take]
 ·rw [dif_neg h]
  by_cases b:j=i
  ·subst b
   rw [dif_pos rfl,List.getElem_append_right (by omega)]
   simp [d]
  ·rw [dif_neg b]
   obtain ⟨m,rfl⟩:∃ m,j=i+1+m:=⟨j-i-1,by omega⟩
   rw [List.getElem_append_right (by omega)]
   simp only [d,show i+1+m-i=m+1 by omega,List.getElem_cons_succ,List.getElem_drop]
   congr 1
   omega
theorem jsu {c:List T} {l:List (List (List V))} (h:dbB (c,l)=true) {i:Nat} (q:i<=c.length) {t:T} (ht:j08 t=true) (p:j25 (c.take i++t::c.drop i)=true):dbB (c.take i++t::c.drop i,l.take i++[]::l.drop i)=true:=by
 rw [j2c] at h ⊢
 obtain ⟨m,n,f⟩:=h
 dsimp only at m n f ⊢
 refine ⟨p,by simp only [List.length_append,List.length_cons,List.length_take,List.length_drop];omega,λj k g=> ?_⟩
 rw [jpW c q t j k,jpW l (by omega) [] j g]
 have r:j<c.length+1:=by
  simp only [List.length_append,List.length_cons,List.length_take,List.length_drop] at k
  omega
 by_cases b:j<i
 ·rw [dif_pos b,dif_pos b];exact f j (by omega) (by omega)
 ·rw [dif_neg b,dif_neg b]
  by_cases d:j=i
  ·rw [dif_pos d,dif_pos d];exact jnj ht
  ·rw [dif_neg d,dif_neg d];exact f (j-1) (by omega) (by omega)
theorem jow:dbB zDB=true:=(j2c _).2 ⟨(j0k _).2 ⟨by simp,by simp,List.Pairwise.nil⟩,rfl,λi b=>by simp at b⟩
theorem jsx {d:DB} (h:dbB d=true) {s:ST} (I:stB s=true) (g:(j2n d s).2=0):dbB (j2n d s).1=true:=by
 obtain ⟨c,l⟩:=d
 have A:=(j2c _).1 h
 obtain ⟨p,E,B⟩:=A
 dsimp only at p E B
 unfold j2n at g ⊢
 dsimp only at g ⊢
 cases D:decide (j0a c s.2.1<0)&& !((s.1==5)&&(s.2.2.2.2.1==1))<;>rw [D] at g
 ·rw [cond_false] at g ⊢
  cases y:s.1==5<;>rw [y] at g
  ·rw [cond_false] at g ⊢
   rw [y,Bool.false_and,Bool.not_false,Bool.and_true,decide_eq_false_iff_not] at D
   rcases j0G c s.2.1 with ⟨e,_⟩ | ⟨i,k,e,C⟩
   ·omega
   rw [e,Zay _ _ _ k,Zay _ _ _ (by omega),Int.toNat_natCast] at g ⊢
   cases b:(j3m c[i] (l[i]'(by omega)) s).2 != 0<;>rw [b] at g
   ·rw [cond_false]
    have H:=js2 (t:=c[i]) (l:=l[i]'(by omega)) (s:=s) (((j0k _).1 p).2.1 _ (List.getElem_mem _)) (by simpa using b)
    have:=jpU h k (t:=c[i]) rfl H
    rw [List.set_getElem_self] at this
    exact this
   ·exact jow
  ·rw [cond_true] at g ⊢
   cases b:j0i c s.2.2.2.2 != 0<;>rw [b] at g
   ·rw [cond_false]
    have b:j0i c s.2.2.2.2=0:=by simpa using b
    have f:j1f s.2.2.2.2=true:=by
     obtain ⟨_,h⟩:=jrh I
     rcases h with ⟨t,r,rfl,_⟩ | ⟨t,q,r,rfl,_⟩ | ⟨t,q,rfl,_⟩ | ⟨t,rfl⟩ | ⟨d,rfl,A⟩
     ·cases y
     ·cases y
     ·cases y
     ·cases y
     ·exact A
    have j:=jmm p f b
    generalize s.2.2.2.2=x at b f j ⊢
    unfold jjd
    dsimp only
    rcases joy f with m | m | m
    ·rw [m,show ((1:Int)==1)=true from rfl,cond_true]
     unfold j0i at b
     unfold j1g at j ⊢
     rw [m,show ((1:Int)==1)=true from rfl,cond_true] at b j ⊢
     cases w:decide (j0a c x.2.1<0)<;>rw [w] at b
     ·cases b
     ·cases n:c.length==6<;>rw [n] at b
      ·have G:c.length≠6:=by simpa using n
       have z:j08 (x.2.1,x.2.2.1,x.2.2.2.1)=true:=by
        unfold j1f at f
        rw [m] at f
        simp only [Bool.and_eq_true,beq_self_eq_true,cond_true] at f
        exact f.2.2.2
       have J:=((j0k _).1 p).1
       obtain ⟨i,k,F,C⟩:=joR p z (of_decide_eq_true w) (by omega)
       rw [F,Int.toNat_natCast]
       rw [C] at j ⊢
       exact jsu h k z j
      ·cases b
    ·rw [m,show ((2:Int)==1)=false from rfl,show ((2:Int)==2)=true from rfl,cond_false,cond_true]
     unfold j1g
     rw [m,show ((2:Int)==1)=false from rfl,show ((2:Int)==2)=true from rfl,cond_false,cond_true]
     exact jqR h _
    ·rw [show (x.1==1)=false by simp;omega,show (x.1==2)=false by simp;omega,cond_false,cond_false]
     unfold j0i at b
     rw [show (x.1==1)=false by simp;omega,cond_false] at b
     unfold j1g
     rw [show (x.1==1)=false by simp;omega,show (x.1==2)=false by simp;omega,cond_false,cond_false]
     cases w:decide (j0a c x.2.1<0)<;>rw [w] at b
     ·rcases j0G c x.2.1 with ⟨n,_⟩ | ⟨i,k,n,G⟩
      ·rw [n] at w;cases w
      ·rw [cond_false,n,Zay _ _ _ k] at b
       rw [n,Zay _ _ _ k,Zay _ _ _ (by omega),Int.toNat_natCast]
       exact jpU h k (jin _ _) (jsr (((j0k _).1 p).2.1 _ (List.getElem_mem _)) f m b (B i k (by omega)))
     ·cases b
   ·exact jow
 ·cases g
end
end Go.PI.G
set_option linter.unusedSimpArgs false
namespace Go.PI.G
open Go Go.PI Go.Proofs
theorem j7d {α K:Type} (z:α) (f:α->α->Bool) (a b:List α) {step:Int->(Int->Res)->K->Res} (q:K) (x y:Res) (h:a.length<=LIM) (g:a.length=b.length)
  (k:∀ (i:Nat) rec,(d:i<a.length)->(l:i<b.length)->step (i:Int) rec q=bif f a[i] b[i] then rec ((i:Int)+1) else y) (j:∀ rec,step (a.length:Int) rec q=x) :
  Z1f step Z1c 0 q=bif j0f z f a b then x else y:=by
 have:=Z9P a (λi=>i) (λi u=> !f u (nth z b (i:Int))) (step:=step) q x y h (λi rec d=>by
  rw [k i rec d (g ▸ d),Zay _ _ _ (g ▸ d)]
  cases f a[i] (b[i]'(g ▸ d))<;>rfl) j
 refine this.trans ?_
 unfold j0f
 rw [decide_eq_true g,Bool.true_and]
 cases Z71 (λi u=> !f u (nth z b (i:Int))) 0 a<;>rfl
theorem j9Z {α β:Type} {a:List α} {b:List β} (h:¬ a.length=b.length):(nI a.length != nI b.length)=true:=by unfold nI;simp;omega
theorem j9Y {α β:Type} {a:List α} {b:List β} (h:a.length=b.length):(nI a.length != nI b.length)=false:=by rw [h,ZaO]
theorem j8q {α:Type} {z:α} {f:α->α->Bool} {a b:List α} (h:¬ a.length=b.length):j0f z f a b=false:=by
 unfold j0f;rw [decide_eq_false h,Bool.false_and]
theorem jfy (a b:List V) (g:a.length<=LIM) (k:Bool->Res):j1K a b k=k (j0f zV veq a b):=by
 unfold j1K
 by_cases d:a.length=b.length
 ·rw [j9Y d,cond_false]
  unfold jbX
  unfold LIM at g
  have:=j7d zV veq a b (step:=j77 a b (nI a.length)) ((λ(_:Unit)=>k true),(λ(_:Unit)=>k false)) (k true) (k false) g d (λi rec f h=>by
   show j21 _ _ _ _ _ _ _=_
   unfold j21
   rw [ZaQ f,cond_true,j00 f,cond_true,j00 h,cond_true,Zay _ _ _ f,Zay _ _ _ h,j01 (n:=(i:Int)+1) (by omega)]
   show (bif !veq a[i] b[i] then _ else _)=_
   cases veq a[i] b[i]<;>rfl) (λrec=>by
   show j21 _ _ _ _ _ _ _=_
   unfold j21
   rw [ZaP,cond_false])
  refine this.trans ?_
  cases j0f zV veq a b<;>rfl
 ·rw [j9Z d,cond_true,j8q d]
theorem jb2 (a b:List V) (g:a.length<=LIM) (k:Bool->Res):j0P a b k=k (j0f zV veq a b):=by
 unfold j0P
 by_cases d:a.length=b.length
 ·rw [j9Y d,cond_false]
  unfold jbW
  unfold LIM at g
  have:=j7d zV veq a b (step:=j6Z a b (nI a.length)) ((λ(_:Unit)=>k true),(λ(_:Unit)=>k false)) (k true) (k false) g d (λi rec f h=>by
   show j1W _ _ _ _ _ _ _=_
   unfold j1W
   rw [ZaQ f,cond_true,j00 f,cond_true,j00 h,cond_true,Zay _ _ _ f,Zay _ _ _ h,j01 (n:=(i:Int)+1) (by omega)]
   show (bif !veq a[i] b[i] then _ else _)=_
   cases veq a[i] b[i]<;>rfl) (λrec=>by
   show j1W _ _ _ _ _ _ _=_
   unfold j1W
   rw [ZaP,cond_false])
  refine this.trans ?_
  cases j0f zV veq a b<;>rfl
 ·rw [j9Z d,cond_true,j8q d]
theorem j4Q (t:T) (h:msr yT t<=1048576) (l:List (List V)) (f:j07 t l=true) (b:List V) (k:Int->Res):j0E t l b k=k (j05 t l b):=by
 obtain ⟨m,p,q,w,y⟩:=j1l h
 obtain ⟨g,z,j⟩:=j04 f
 unfold j0E
 rw [j4g t h,f,Bool.not_true,cond_false]
 unfold jdp
 refine Z9S l (λi=>i) (λr=>j0f zV veq (j06 t r) b) (step:=j5Q b l (nI l.length) t) _ k (by unfold LIM;omega) (λi rec d=> ?_) (λrec=> ?_)
 ·show j3r b _ _ t _ _ _ _=_
  unfold j3r
  rw [ZaQ d,cond_true,j00 d,cond_true,Zay _ _ _ d,j1G t h g _ (j0g (j _ (List.getElem_mem d))),jfy _ _ (by rw [j8z];unfold LIM;omega),j01 (n:=(i:Int)+1) (by omega)]
 ·show j3r b _ _ t _ _ _ _=_
  unfold j3r
  rw [ZaP,cond_false]
theorem j1v (t:T) (h:msr yT t<=1048576) (l:List (List V)) (f:j07 t l=true) (b:List V) (k:Int->Res):j0s t l b k=k (j05 t l b):=by
 obtain ⟨m,p,q,w,y⟩:=j1l h
 obtain ⟨g,z,j⟩:=j04 f
 unfold j0s j7p j9v
 refine Z9S l (λi=>i) (λr=>j0f zV veq (j06 t r) b) (step:=j4c l (t,b) (nI l.length)) _ k (by unfold LIM;omega) (λi rec d=> ?_) (λrec=> ?_)
 ·show j16 _ _ _ _ _ _ _=_
  unfold j16 jcz
  rw [ZaQ d,cond_true,j00 d,cond_true,Zay _ _ _ d,j1F t h g _ (j0g (j _ (List.getElem_mem d))),jb2 _ _ (by rw [j8z];unfold LIM;omega),j01 (n:=(i:Int)+1) (by omega)]
 ·show j16 _ _ _ _ _ _ _=_
  unfold j16
  rw [ZaP,cond_false]
theorem jeO (t:T) (l:List (List V)) (b:List V): -1<=j05 t l b/\j05 t l b<(l.length:Int):=jdV _ _
end Go.PI.G
namespace Go.PI.G
open Go Go.PI Go.Proofs
theorem jmz {c:List T} (h:msr (.slice yT) c<=1048576):c.length<=1048576/\∀ t∈c,msr yT t<=1048576:=⟨j0c h,λt ht=>j0h h ht⟩
theorem jp9 (c:List T) (h:msr (.slice yT) c<=1048576) (a b:Unit->Res):jdn c (nI c.length) c Z1c 0 a b=bif Z71 (λi t=> !j08 t||(decide (0<i)&&sGe (nth zT c ((i:Int)-1)).1 t.1)) 0 c then b () else a ():=by
 obtain ⟨g,f⟩:=jmz h
 unfold jdn
 exact Z9P c (λi=>i) (λi t=> !j08 t||(decide (0<i)&&sGe (nth zT c ((i:Int)-1)).1 t.1)) (step:=jbu c (nI c.length) c) (a,b) (a ()) (b ()) (by unfold LIM;omega) (λi rec d=>by
  show j5L _ _ c _ _ _ _=_
  unfold j5L
  rw [ZaQ d,cond_true,j00 d,cond_true,Zay _ _ _ d,j9o _ (f _ (List.getElem_mem d)),j01 (n:=(i:Int)+1) (by omega),jov c i d (by unfold LIM;omega)]
  cases j08 c[i]
  ·rfl
  ·cases (decide (0<i)&&sGe (nth zT c ((i:Int)-1)).1 c[i].1)<;>rfl) (λrec=>by
  show j5L _ _ c _ _ _ _=_
  unfold j5L
  rw [ZaP,cond_false])
theorem joG (c:List T) (h:msr (.slice yT) c<=1048576) (a b:Unit->Res):jd6 c (nI c.length) c Z1c 0 a b=bif Z71 (λi t=> !j08 t||(decide (0<i)&&sGe (nth zT c ((i:Int)-1)).1 t.1)) 0 c then b () else a ():=by
 obtain ⟨g,f⟩:=jmz h
 unfold jd6
 exact Z9P c (λi=>i) (λi t=> !j08 t||(decide (0<i)&&sGe (nth zT c ((i:Int)-1)).1 t.1)) (step:=jb3 c (nI c.length) c) (a,b) (a ()) (b ()) (by unfold LIM;omega) (λi rec d=>by
  show j5u _ _ c _ _ _ _=_
  unfold j5u
  rw [ZaQ d,cond_true,j00 d,cond_true,Zay _ _ _ d,jh9 _ (f _ (List.getElem_mem d)),j01 (n:=(i:Int)+1) (by omega),jov c i d (by unfold LIM;omega)]
  cases j08 c[i]
  ·rfl
  ·cases (decide (0<i)&&sGe (nth zT c ((i:Int)-1)).1 c[i].1)<;>rfl) (λrec=>by
  show j5u _ _ c _ _ _ _=_
  unfold j5u
  rw [ZaP,cond_false])
theorem jlZ (c:List T) (h:msr (.slice yT) c<=1048576) (k:Bool->Res):j7r c k=k (j25 c):=by
 unfold j7r j25
 rw [jp9 c h]
 by_cases b:c.length<=6
 ·rw [decide_eq_false (show ¬ nI c.length>6 by unfold nI;omega),cond_false,decide_eq_true b,Bool.true_and]
  cases Z71 (λi t=> !j08 t||(decide (0<i)&&sGe (nth zT c ((i:Int)-1)).1 t.1)) 0 c<;>rfl
 ·rw [decide_eq_true (show nI c.length>6 by unfold nI;omega),cond_true,decide_eq_false b,Bool.false_and]
theorem jll (c:List T) (h:msr (.slice yT) c<=1048576) (k:Bool->Res):j7f c k=k (j25 c):=by
 unfold j7f j25
 rw [joG c h]
 have:decide (nI c.length<=6)=decide (c.length<=6):=decide_eq_decide.2 (by unfold nI;omega)
 rw [this]
 cases Z71 (λi t=> !j08 t||(decide (0<i)&&sGe (nth zT c ((i:Int)-1)).1 t.1)) 0 c
 ·rw [Bool.not_false,Bool.and_true];rfl
 ·rw [Bool.not_true,Bool.and_false];rfl
end Go.PI.G
namespace Go.PI.G
open Go Go.PI Go.Proofs
theorem jeS (c:List T) (n:ByteArray) (h:c.length<=LIM) (k:Int->Res):j2O c n k=k (j0a c n):=by
 unfold j2O ji2
 refine Z9S c (λi=>i) (λt=>sEq t.1 n) (step:=jbx n c (nI c.length)) _ k h (λi rec b=> ?_) (λrec=> ?_)
 ·show j5U n _ _ _ _ _ _=_
  unfold j5U
  unfold LIM at h
  rw [ZaQ b,cond_true,j00 b,cond_true,Zay _ _ _ b,j01 (n:=(i:Int)+1) (by omega)]
 ·show j5U n _ _ _ _ _ _=_
  unfold j5U
  rw [ZaP,cond_false]
theorem j8u (c:List T) (n:ByteArray) (h:c.length<=LIM) (k:Int->Res):j0z c n k=k (j0a c n):=by
 unfold j0z j67 j8f
 refine Z9S c (λi=>i) (λt=>sEq t.1 n) (step:=j3b c n (nI c.length)) _ k h (λi rec b=> ?_) (λrec=> ?_)
 ·show j0O _ n _ _ _ _ _=_
  unfold j0O jes
  unfold LIM at h
  rw [ZaQ b,cond_true,j00 b,cond_true,Zay _ _ _ b,j01 (n:=(i:Int)+1) (by omega)]
 ·show j0O _ n _ _ _ _ _=_
  unfold j0O
  rw [ZaP,cond_false]
end Go.PI.G
namespace Go.PI.G
open Go Go.PI Go.Proofs
theorem jcO (l:List ByteArray) (k:Bool->Res):j0x l [] k=k (l.length==0):=by
 unfold j0x
 rw [jqu]
 cases l with
 | nil=>
  obtain ⟨m,b⟩:=jom
  rw [show (!(([]:List ByteArray).length==([]:List ByteArray).length))=false from rfl,cond_false]
  unfold j66
  rw [b,Z9Y]
  rfl
 | cons x l=>rfl
theorem jfk (l:List C) (k:Bool->Res):j0v l [] k=k (l.length==0):=by
 unfold j0v
 rw [jqu]
 cases l with
 | nil=>
  obtain ⟨m,b⟩:=jom
  rw [show (!(([]:List C).length==([]:List C).length))=false from rfl,cond_false]
  unfold j5a
  rw [b,Z9Y]
  rfl
 | cons x l=>rfl
theorem jqg (l:List C) (h:l.length<=LIM) (k:Bool->Res):j0v l l k=k true:=by
 unfold j0v j5a
 rw [jqu,beq_self_eq_true,Bool.not_true,cond_false]
 have:=Za2 l (λi=>i) (λ_=>false) (step:=j3p l l (nI l.length)) ((λ(_:Unit)=>k true),(λ(_:Unit)=>k false)) (k true) (k false) h (λi rec b=>by
  show j0p _ _ _ _ _ _ _=_
  unfold j0p
  unfold LIM at h
  have d:∀ x:Bool,(x==x)=true:=by decide
  rw [ZaQ b,cond_true,j00 b,cond_true,cond_true]
  simp only [Zah,beq_self_eq_true,d,Bool.and_true,Bool.not_true,cond_false]
  rw [j01 (by omega)]) (λrec=>by
  show j0p _ _ _ _ _ _ _=_
  unfold j0p
  rw [ZaP,cond_false])
 refine this.trans ?_
 have:(l.any λ_=>false)=false:=by simp
 rw [this,cond_false]
theorem jsh {d:D} (h:dSm d):tSm (d.2.1,d.2.2.1,d.2.2.2.1):=⟨h.1,h.2.1,h.2.2.1,h.2.2.2.1,h.2.2.2.2.1⟩
theorem jsL (d:D) (K:Bool->Res):j7G d K=K (jcU d):=by
 unfold j7G jcU
 rw [j9l,j9l]
 cases d.2.2.1.length==0<;>rfl
theorem jhm (d:D) (h:dSm d) (k:Bool->Res):j2M d k=k (j1f d):=by
 have i:=jsh h
 obtain ⟨w,y,z,j,A,B,C⟩:=h
 obtain ⟨b,t,cs,ks,n,m⟩:=d
 dsimp only at w y z j A B C i
 unfold j2M j1f
 rw [jsL]
 generalize r:jcU (b,t,cs,ks,n,m)=g
 dsimp only
 rw [j69 _ (by unfold LIM;omega),j9l]
 cases j0u t
 ·rfl
 ·rw [Bool.not_true,cond_false,Bool.true_and]
  cases b==1
  ·cases b==2
   ·cases b==3
    ·cases b==4
     ·cases b==5
      ·rfl
      ·rw [cond_false,cond_false,cond_false,cond_false,cond_true,cond_false,cond_false,cond_false,cond_false,cond_true,j69 n (by unfold LIM;omega),j69 m (by unfold LIM;omega)]
       cases g
       ·rfl
       ·cases j0u n<;>rfl
     ·rw [cond_false,cond_false,cond_false,cond_true,cond_false,cond_false,cond_false,cond_true,j69 n (by unfold LIM;omega)]
      cases g
      ·rfl
      ·cases j0u n<;>rfl
    ·rw [cond_false,cond_false,cond_true,cond_false,cond_false,cond_true,jrb]
     cases q:cs.length==1
     ·rfl
     ·have f:cs.length=1:=by simpa using q
      have p:inb 0 cs.length=true:=by rw [f];rfl
      have l:(nth zC cs 0).1.size<=LIM:=by
       have:=j (nth zC cs 0) (by rw [show (0:Int)=((0:Nat):Int) by rfl,Zay _ _ _ (by omega)];exact List.getElem_mem _)
       unfold LIM;omega
      rw [cond_true,p,cond_true,jm0 _ l,Bool.true_and]
      cases j1e (nth zC cs 0)
      ·rfl
      ·rw [cond_true,cond_true,cond_true,Bool.true_and]
       cases (nth zC cs 0).2.2.2.1
       ·cases (nth zC cs 0).2.2.1
        ·cases ks.length==0
         ·rfl
         ·cases sEq n eS<;>rfl
        ·rfl
       ·cases ks.length==0
        ·rfl
        ·cases sEq n eS<;>rfl
   ·rw [cond_false,cond_true,cond_false,cond_true]
    cases g
    ·rfl
    ·cases sEq n eS<;>rfl
  ·rw [cond_true,cond_true,jka _ i]
   cases sEq n eS
   ·rfl
   ·cases sEq m eS<;>rfl
theorem jjW (d:D) (h:dSm d) (k:T->Res):j3u d k=k (d.2.1,d.2.2.1,d.2.2.2.1):=by
 unfold j3u j4i j9d
 have b:=h.2.1
 have f:=h.2.2.1
 dsimp only
 rw [ZaL (by unfold LIM;omega),cond_true,ZaL (by unfold LIM;omega),cond_true]
theorem jh7 (d:D) (h:dSm d) (k:Bool->Res):j2K d k=k (j1f d):=by
 have i:=jsh h
 have f:=jjW d h
 obtain ⟨z,A,B,j,C,E,F⟩:=h
 obtain ⟨b,t,cs,ks,n,m⟩:=d
 dsimp only at z A B j C E F i f
 unfold j2K j1f jcU
 dsimp only
 rw [j61 _ (by unfold LIM;omega)]
 have l:cs.length<=LIM:=by unfold LIM;omega
 have G:ks.length<=LIM:=by unfold LIM;omega
 cases j0u t
 ·rfl
 ·rw [Bool.not_true,cond_false,Bool.true_and]
  cases q:b==1
  ·cases b==2
   ·cases b==3
    ·cases b==4
     ·cases b==5
      ·rfl
      ·rw [cond_false,cond_false,cond_false,cond_false,cond_true,cond_false,cond_false,cond_false,cond_false,cond_true]
       unfold j0r
       dsimp only
       rw [beq_self_eq_true,cond_true,Zah,cond_true,jfk,jcO,Zah,cond_true,Zah,j61 n (by unfold LIM;omega),j61 m (by unfold LIM;omega)]
       cases cs.length==0
       ·rfl
       ·cases ks.length==0
        ·rfl
        ·cases j0u n<;>rfl
     ·rw [cond_false,cond_false,cond_false,cond_true,cond_false,cond_false,cond_false,cond_true]
      unfold j0r
      dsimp only
      rw [beq_self_eq_true,cond_true,Zah,cond_true,jfk,jcO,Zah,cond_true,j61 n (by unfold LIM;omega)]
      cases cs.length==0
      ·rfl
      ·cases ks.length==0
       ·rfl
       ·cases sEq m eS<;>cases j0u n<;>rfl
    ·rw [cond_false,cond_false,cond_true,cond_false,cond_false,cond_true,jrb]
     unfold j0r
     dsimp only
     rw [beq_self_eq_true,cond_true,Zah,cond_true,jqg _ l,cond_true,jcO]
     cases y:cs.length==1
     ·cases ks.length==0
      ·rfl
      ·cases sEq n eS
       ·rfl
       ·cases sEq m eS<;>rfl
     ·have g:cs.length=1:=by simpa using y
      have w:inb 0 cs.length=true:=by rw [g];rfl
      have r:(nth zC cs 0).1.size<=LIM:=by
       have:=j (nth zC cs 0) (by rw [show (0:Int)=((0:Nat):Int) by rfl,Zay _ _ _ (by omega)];exact List.getElem_mem _)
       unfold LIM;omega
      rw [w,jlm _ r]
      cases ks.length==0
      ·cases j1e (nth zC cs 0)<;>cases (nth zC cs 0).2.2.2.1<;>cases (nth zC cs 0).2.2.1<;>rfl
      ·cases sEq n eS
       ·cases j1e (nth zC cs 0)<;>cases (nth zC cs 0).2.2.2.1<;>cases (nth zC cs 0).2.2.1<;>rfl
       ·cases sEq m eS<;>cases j1e (nth zC cs 0)<;>cases (nth zC cs 0).2.2.2.1<;>cases (nth zC cs 0).2.2.1<;>rfl
   ·rw [cond_false,cond_true,cond_false,cond_true]
    unfold j0r
    dsimp only
    rw [beq_self_eq_true,cond_true,Zah,cond_true,jfk,jcO]
    cases cs.length==0
    ·rfl
    ·cases ks.length==0
     ·rfl
     ·cases sEq n eS<;>rfl
  ·have p:b=1:=by simpa using q
   subst p
   rw [cond_true,cond_true,f,jjX _ i]
   cases j08 (t,cs,ks)
   ·cases sEq n eS
    ·rfl
    ·cases sEq m eS<;>rfl
   ·cases sEq n eS<;>cases sEq m eS<;>rfl
theorem jqA (d:D) (k:Bool->Res):j2m d k=k (noD d):=by
 unfold j2m noD
 rw [j9l,j9l]
 cases d.1==0
 ·rfl
 ·cases sEq d.2.1 eS
  ·rfl
  ·cases d.2.2.1.length==0
   ·rfl
   ·cases d.2.2.2.1.length==0
    ·rfl
    ·cases sEq d.2.2.2.2.1 eS<;>rfl
theorem jqn (d:D) (k:Bool->Res):j0r d zD k=k (noD d):=by
 unfold j0r noD
 rw [jfk,jcO]
 cases d.1==0
 ·rfl
 ·cases sEq d.2.1 eS
  ·rfl
  ·cases d.2.2.1.length==0
   ·rfl
   ·cases d.2.2.2.1.length==0
    ·rfl
    ·cases sEq d.2.2.2.2.1 eS<;>rfl
theorem jkb (l:List V) (h:l.length<=LIM) (k:Bool->Res):j3g l k=k (j3s l):=by
 unfold j3g jfC j3s
 have:=Za2 l (λi=>i) (λv=> !j0w v) (step:=j9M l (nI l.length)) ((λ(_:Unit)=>bif decide ((nI l.length)>=1) then k (decide ((nI l.length)<=8)) else k false),(λ(_:Unit)=>k false)) (bif decide ((nI l.length)>=1) then k (decide ((nI l.length)<=8)) else k false) (k false) h (λi rec d=>by
  show j43 _ _ _ _ _ _=_
  unfold j43
  unfold LIM at h
  rw [ZaQ d,cond_true,j00 d,cond_true,Zay _ _ _ d,j9p,j01 (n:=(i:Int)+1) (by omega)]) (λrec=>by
  show j43 _ _ _ _ _ _=_
  unfold j43
  rw [ZaP,cond_false])
 refine this.trans ?_
 have b:(l.any λv=> !j0w v)= !l.all j0w:=by rw [List.all_eq_not_any_not];simp
 rw [b]
 unfold nI
 cases l.all j0w
 ·rfl
 ·rw [Bool.not_true,cond_false,Bool.true_and]
  by_cases f:1<=l.length
  ·rw [decide_eq_true (show (l.length:Int)>=1 by omega),cond_true,decide_eq_true f,Bool.true_and]
   congr 1
   exact decide_eq_decide.2 (by omega)
  ·rw [decide_eq_false (show ¬ (l.length:Int)>=1 by omega),cond_false,decide_eq_false f,Bool.false_and]
theorem jjY (l:List V) (h:l.length<=LIM) (k:Bool->Res):j26 l k=k (j3s l):=by
 unfold j26 j2p j7q j9w j3s
 rw [jaT]
 have f:decide (1<=nI l.length/\nI l.length<=8)=(decide (1<=l.length)&&decide (l.length<=8)):=by
  rw [<-Bool.decide_and]
  exact decide_eq_decide.2 (by unfold nI;omega)
 rw [f]
 cases decide (1<=l.length)&&decide (l.length<=8)
 ·rw [Bool.and_false];rfl
 ·rw [cond_true,Bool.and_true]
  have:=Z9S l (λi=>i) (λv=> !j0w v) (step:=j4d l (nI l.length)) ((λ(_:Unit)=>k (!decide ((-1:Int)>=0))),(λ(t:Int)=>k (!decide (t>=0)))) (λr=>k (!decide (r>=0))) h (λi rec b=>by
   show j17 _ _ _ _ _ _=_
   unfold j17 jd8
   unfold LIM at h
   rw [ZaQ b,cond_true,j00 b,cond_true,Zay _ _ _ b,j9a,j01 (n:=(i:Int)+1) (by omega)]) (λrec=>by
   show j17 _ _ _ _ _ _=_
   unfold j17
   rw [ZaP,cond_false])
  refine this.trans ?_
  congr 1
  unfold Z9F
  cases d:l.findIdx? λv=> !j0w v with
  | none=>
   rw [List.findIdx?_eq_none_iff] at d
   symm
   show l.all j0w=true
   rw [List.all_eq_true]
   intro v j
   simpa using d v j
  | some i=>
   dsimp only
   rw [decide_eq_true (show (i:Int)>=0 by omega)]
   obtain ⟨b,g,_⟩:=List.findIdx?_eq_some_iff_getElem.1 d
   symm
   show l.all j0w=false
   rw [List.all_eq_false]
   exact ⟨l[i],List.getElem_mem _,by simpa using g⟩
theorem jnm (s:ST) (h:jj9 s) (k:Bool->Res):j7X s k=k (stB s):=by
 obtain ⟨g,i,j,f⟩:=h
 unfold j7X stB j74
 have b:s.2.2.1.length<=LIM:=by unfold LIM;omega
 have d:s.2.2.2.1.length<=LIM:=by unfold LIM;omega
 rw [j69 _ (by unfold LIM;omega),j9l,j9l]
 simp only [jkb _ b,jkb _ d,jqA,jhm _ f]
 cases j0u s.2.1
 ·rfl
 ·rw [Bool.not_true,cond_false,Bool.true_and]
  cases s.1==1
  ·cases s.1==2
   ·cases s.1==3
    ·cases s.1==4
     ·cases s.1==5
      ·rfl
      ·cases s.2.2.1.length==0
       ·rfl
       ·cases s.2.2.2.1.length==0
        ·rfl
        ·cases j1f s.2.2.2.2<;>rfl
     ·cases s.2.2.1.length==0
      ·rfl
      ·cases s.2.2.2.1.length==0<;>rfl
    ·cases j3s s.2.2.1
     ·rfl
     ·cases s.2.2.2.1.length==0<;>rfl
   ·cases j3s s.2.2.1
    ·rfl
    ·cases j3s s.2.2.2.1<;>rfl
  ·cases s.2.2.1.length==0
   ·rfl
   ·cases j3s s.2.2.2.1<;>rfl
theorem jqS {d:D} (h:j1f d=true):j0u d.2.1=true:=by
 unfold j1f at h
 rw [Bool.and_eq_true] at h
 exact h.1
theorem jr2 (s:ST) (h:jj9 s) (k:Bool->Res):j7O s k=k (stB s):=by
 obtain ⟨n,p,q,m⟩:=h
 unfold j7O stB j6C
 have d:s.2.2.1.length<=LIM:=by unfold LIM;omega
 have f:s.2.2.2.1.length<=LIM:=by unfold LIM;omega
 rw [j61 _ (by unfold LIM;omega),j9l,j9l]
 simp only [jjY _ d,jjY _ f,jqn,jh7 _ m]
 cases i:s.1==5
 ·rw [cond_false]
  cases j0u s.2.1
  ·rfl
  ·rw [Bool.not_true,cond_false,Bool.true_and]
   cases s.1==1
   ·cases s.1==2
    ·cases s.1==3
     ·cases s.1==4
      ·cases noD s.2.2.2.2<;>rfl
      ·cases noD s.2.2.2.2<;>cases s.2.2.1.length==0<;>cases s.2.2.2.1.length==0<;>rfl
     ·cases noD s.2.2.2.2<;>cases j3s s.2.2.1<;>cases s.2.2.2.1.length==0<;>rfl
    ·cases noD s.2.2.2.2<;>cases j3s s.2.2.1<;>cases j3s s.2.2.2.1<;>rfl
   ·cases noD s.2.2.2.2<;>cases s.2.2.1.length==0<;>cases j3s s.2.2.2.1<;>rfl
 ·have g:s.1=5:=by simpa using i
  rw [cond_true,g,show ((5:Int)==1)=false from rfl,show ((5:Int)==2)=false from rfl,show ((5:Int)==3)=false from rfl,show ((5:Int)==4)=false from rfl,cond_false,cond_false,cond_false,cond_false,cond_true]
  cases j:j1f s.2.2.2.2
  ·rw [cond_false]
   cases j0u s.2.1<;>cases s.2.2.1.length==0<;>cases s.2.2.2.1.length==0<;>rfl
  ·rw [cond_true,Zag s.2.1]
   cases l:sEq s.2.2.2.2.2.1 s.2.1
   ·rw [cond_false]
    cases j0u s.2.1<;>cases s.2.2.1.length==0<;>cases s.2.2.2.1.length==0<;>rfl
   ·have b:=jqS j
    rw [(j0d _ _).1 l] at b
    rw [b]
    cases s.2.2.1.length==0<;>cases s.2.2.2.1.length==0<;>rfl
end Go.PI.G
namespace Go.PI.G
open Go Go.PI Go.Proofs
noncomputable def jfY (p:List ByteArray) (s:ByteArray):Bool:=p.any λx=>sEq x s
theorem jrI {α:Type} (q:α->Bool) (l:List α):decide (Z9F q l>=0)=l.any q:=by
 unfold Z9F
 cases h:l.findIdx? q with
 | none=>
  have:=List.findIdx?_eq_none_iff.1 h
  have b:l.any q=false:=by
   rw [List.any_eq_false]
   intro x g
   rw [this x g];simp
  rw [b];rfl
 | some i=>
  have:=List.findIdx?_eq_some_iff_getElem.1 h
  obtain ⟨d,f,_⟩:=this
  have b:l.any q=true:=List.any_eq_true.2 ⟨l[i],List.getElem_mem d,f⟩
  rw [b]
  show decide ((i:Int)>=0)=true
  exact decide_eq_true (by omega)
theorem jqm (l:List ByteArray) (s:ByteArray) (h:l.length<=LIM) (k:Bool->Res):j1B l s k=k (jfY l s):=by
 unfold j1B j10 j68 jfY
 have:=Z9S l (λi=>i) (λx=>sEq s x) (step:=j28 l s (nI l.length)) ((λ(_:Unit)=>k (decide ((-1:Int)>=0))),(λ(t:Int)=>k (decide (t>=0)))) (λr=>k (decide (r>=0))) h (λi rec b=>by
  show j0j _ _ _ _ _ _ _=_
  unfold j0j
  unfold LIM at h
  rw [ZaQ b,cond_true,j00 b,cond_true,Zay _ _ _ b,j01 (n:=(i:Int)+1) (by omega)]) (λrec=>by
  show j0j _ _ _ _ _ _ _=_
  unfold j0j
  rw [ZaP,cond_false])
 refine this.trans ?_
 rw [jrI]
 have:(λx=>sEq s x)=λx=>sEq x s:=by funext x;exact Zag s x
 rw [this]
end Go.PI.G
namespace Go.PI.G
open Go Go.PI Go.Proofs
theorem jqz (l:List ByteArray) (s:ByteArray) (h:l.length<=LIM) (k:Bool->Res):ja2 l s k=k (jfY l s):=by
 unfold ja2 jgQ jfY
 have:=Za2 l (λi=>i) (λx=>sEq x s) (step:=jax s l (nI l.length)) ((λ(_:Unit)=>k false),(λ(_:Unit)=>k true)) (k false) (k true) h (λi rec b=>by
  show j4W _ _ _ _ _ _ _=_
  unfold j4W
  unfold LIM at h
  rw [ZaQ b,cond_true,j00 b,cond_true,Zay _ _ _ b,j01 (n:=(i:Int)+1) (by omega)]) (λrec=>by
  show j4W _ _ _ _ _ _ _=_
  unfold j4W
  rw [ZaP,cond_false])
 refine this.trans ?_
 cases l.any λx=>sEq x s<;>rfl
end Go.PI.G
namespace Go.PI.G
open Go Go.PI Go.Proofs
theorem jcH {n:Nat} (h:n<=1048576):lim (0+n)=true:=ZaL (by unfold LIM;omega)
theorem jk9 (t:T) (b:t.2.1.length<=1048576) (d:t.2.2.length<=1048576) (k:T->Res):j5q t k=k t:=by
 unfold j5q
 simp only [Z9Q]
 rw [jcH b,cond_true,jcH d,cond_true]
theorem jep {c:List T} (b:msr (.slice yT) c<=1048576):c.length<=1048576/\∀ t∈c,tSm t:=⟨j0c b,λt ht=>j1l (j0h b ht)⟩
theorem j0X {α:Type}:(l:List α)->l.flatMap (λx=>[x])=l
 | []=>rfl
 | x::l=>by rw [List.flatMap_cons,j0X l];rfl
theorem jk6 (c:List T) (f:msr (.slice yT) c<=1048576) (k:List T->Res):j4V c k=k c:=by
 obtain ⟨h,ht⟩:=jep f
 unfold j4V jfA
 have:=Z9T c (λi b=>(i,b)) (λx=>[x]) 1048576 [] (step:=j9K c (nI c.length)) (λb=>k b) (λb=>k b) (by unfold LIM;omega) (λi d _=>by
  rw [j0X,List.nil_append,List.length_take];omega) (by simp) (λi b rec d j g=>by
  show j3Z _ _ _ _ _ _=_
  unfold j3Z
  obtain ⟨l,m,p,q,r⟩:=ht _ (List.getElem_mem d)
  dsimp only
  rw [ZaQ d,cond_true,j00 d,cond_true,Zay _ _ _ d,jk9 _ (by omega) (by omega),ZaL (by unfold LIM;omega),cond_true,j01 (n:=(i:Int)+1) (by omega)]) (λb rec=>by
  show j3Z _ _ _ _ _ _=_
  unfold j3Z
  dsimp only
  rw [ZaP,cond_false])
 refine this.trans ?_
 rw [j0X,List.nil_append]
noncomputable def jbh (t:T) (a:Bool×List T) (x:T):Bool×List T:=bif !a.1&&tR t x then (true,a.2++[t]++[x]) else (a.1,a.2++[x])
theorem jnd (t:T):(l:List T)->(b:List T)->l.foldl (jbh t) (true,b)=(true,b++l)
 | [],b=>by simp
 | x::l,b=>by
  rw [List.foldl_cons]
  show l.foldl (jbh t) (true,b++[x])=_
  rw [jnd t l,List.append_assoc];rfl
theorem joZ (t:T):(l:List T)->(b:List T)->(bif !(l.foldl (jbh t) (false,b)).1 then (l.foldl (jbh t) (false,b)).2++[t] else (l.foldl (jbh t) (false,b)).2)=b++lay tR t l
 | [],b=>rfl
 | x::l,b=>by
  rw [List.foldl_cons]
  unfold lay
  cases d:tR t x
  ·have:jbh t (false,b) x=(false,b++[x]):=by unfold jbh;rw [d];rfl
   rw [this,joZ t l,List.takeWhile_cons_of_pos (by rw [d];rfl),List.dropWhile_cons_of_pos (by rw [d];rfl)]
   unfold lay
   simp
  ·have:jbh t (false,b) x=(true,b++[t]++[x]):=by unfold jbh;rw [d];rfl
   rw [this,jnd,List.takeWhile_cons_of_neg (by rw [d];simp),List.dropWhile_cons_of_neg (by rw [d];simp)]
   simp
theorem jrW (t:T) (a:Bool×List T) (x:T):(jbh t a x).2.length<=a.2.length+2:=by
 unfold jbh
 cases !a.1&&tR t x<;>simp
theorem jqC (c:List T) (t:T) (j:c.length<=1048576) (k:List T->Res):ja3 c t k=k (lay tR t c):=by
 unfold ja3 jcm
 have:=Z8i c (λi (a:Bool×List T)=>(a.1,i,a.2)) (jbh t) (λi a=>a.2.length<=2 * i) (step:=jay c (nI c.length) t) (λdone b=>bif !done then bif lim (b.length+1) then k (b++[t]) else none else k b)
  (λa=>bif !a.1 then k (a.2++[t]) else k a.2) (false,[]) (by unfold LIM;omega) (by simp) (λi a f h=>by have:=jrW t a c[i];omega) (λi a rec f h=>by
  show j4X _ _ _ _ _ _ _ _=_
  unfold j4X jcn
  dsimp only
  rw [ZaQ f,cond_true,j00 f,cond_true,Zay _ _ _ f]
  have g:lim (a.2.length+1)=true:=ZaL (by unfold LIM;omega)
  have d:lim ((a.2++[t]).length+1)=true:=ZaL (by unfold LIM;simp;omega)
  unfold jbh tR
  cases a.1
  ·rw [Bool.not_false,cond_true,Bool.true_and]
   cases sLt t.1 c[i].1
   ·rw [cond_false,cond_false,g,cond_true,j01 (n:=(i:Int)+1) (by omega)]
   ·rw [cond_true,cond_true,g,cond_true,d,cond_true,j01 (n:=(i:Int)+1) (by omega)]
  ·rw [Bool.not_true,cond_false,Bool.false_and,cond_false,g,cond_true,j01 (n:=(i:Int)+1) (by omega)]) (λa rec h=>by
  show j4X _ _ _ _ _ _ _ _=_
  unfold j4X
  dsimp only
  rw [ZaP,cond_false]
  cases a.1
  ·rw [Bool.not_false,cond_true,cond_true,ZaL (by unfold LIM;omega),cond_true]
  ·rfl)
 refine this.trans ?_
 have d:=joZ t c []
 rw [List.nil_append] at d
 rw [<-d]
 cases (c.foldl (jbh t) (false,[])).1<;>rfl
theorem jh4 (l:List C) (n:ByteArray):decide (j02 l n>=0)= !decide (j02 l n<0):=by
 by_cases h:j02 l n<0
 ·rw [decide_eq_true h,decide_eq_false (by omega)];rfl
 ·rw [decide_eq_false h,decide_eq_true (by omega)];rfl
theorem jpd (t:T) (d:D) (l:t.2.1.length<=1048576) (m:t.2.2.length<=1048576) (b:d.1=3->0<d.2.2.1.length) (k:Int->Res):j5p t d k=k (j0D t d):=by
 unfold j5p j0D
 rw [j7a _ _ (by unfold LIM;omega)]
 cases f:(d.1==3)
 ·rw [cond_false,cond_false]
  cases h:(d.1==4)
  ·rw [cond_false,cond_false]
   cases j:(d.1==5)
   ·rfl
   ·rw [cond_true,cond_true,j7a _ _ (by unfold LIM;omega),jh4]
    cases !decide (j02 t.2.1 d.2.2.2.2.2<0)
    ·cases decide (j02 t.2.1 d.2.2.2.2.1<0)<;>rfl
    ·rfl
  ·rw [cond_true,cond_true]
   cases decide (j02 t.2.1 d.2.2.2.2.1<0)
   ·rw [cond_false,cond_false,jqz _ _ (by unfold LIM;omega)]
    show (bif jfY t.2.2 d.2.2.2.2.1 then k 8 else k 0)=k (bif jfY t.2.2 d.2.2.2.2.1 then 8 else 0)
    cases jfY t.2.2 d.2.2.2.2.1<;>rfl
   ·rfl
 ·rw [cond_true,cond_true]
  have b:=b (by simpa using f)
  have g:inb 0 d.2.2.1.length=true:=j00 (i:=0) b
  rw [g,cond_true,j7a _ _ (by unfold LIM;omega),jh4]
  cases !decide (j02 t.2.1 (nth zC d.2.2.1 0).1<0)
  ·rw [cond_false,cond_false]
   have:(nI t.2.1.length==8)=(t.2.1.length==8):=by
    unfold nI
    rw [Bool.eq_iff_iff]
    simp only [beq_iff_eq]
    omega
   rw [this]
   cases (t.2.1.length==8)<;>rfl
  ·rfl
end Go.PI.G
namespace Go.PI.G
open Go Go.PI Go.Proofs
noncomputable def jbi {α:Type} (R:α->α->Bool) (t:α) (a:Bool×List α) (x:α):Bool×List α:=bif !a.1&&R t x then (true,a.2++[t]++[x]) else (a.1,a.2++[x])
theorem jne {α:Type} (R:α->α->Bool) (t:α):(l:List α)->(b:List α)->l.foldl (jbi R t) (true,b)=(true,b++l)
 | [],b=>by simp
 | x::l,b=>by
  rw [List.foldl_cons]
  show l.foldl (jbi R t) (true,b++[x])=_
  rw [jne R t l,List.append_assoc];rfl
theorem jp0 {α:Type} (R:α->α->Bool) (t:α):(l:List α)->(b:List α)->(bif !(l.foldl (jbi R t) (false,b)).1 then (l.foldl (jbi R t) (false,b)).2++[t] else (l.foldl (jbi R t) (false,b)).2)=b++lay R t l
 | [],b=>rfl
 | x::l,b=>by
  rw [List.foldl_cons]
  unfold lay
  cases d:R t x
  ·have:jbi R t (false,b) x=(false,b++[x]):=by unfold jbi;rw [d];rfl
   rw [this,jp0 R t l,List.takeWhile_cons_of_pos (by rw [d];rfl),List.dropWhile_cons_of_pos (by rw [d];rfl)]
   unfold lay
   simp
  ·have:jbi R t (false,b) x=(true,b++[t]++[x]):=by unfold jbi;rw [d];rfl
   rw [this,jne,List.takeWhile_cons_of_neg (by rw [d];simp),List.dropWhile_cons_of_neg (by rw [d];simp)]
   simp
theorem jrX {α:Type} (R:α->α->Bool) (t:α) (a:Bool×List α) (x:α):(jbi R t a x).2.length<=a.2.length+2:=by
 unfold jbi
 cases !a.1&&R t x<;>simp
theorem jmP {t:T} (ht:j08 t=true) {r:List V} (h:r.length=t.2.1.length):lim (0+r.length)=true:=by
 have:=((j7x t).1 ht).2.2.1
 exact jcH (by omega)
theorem jm2 (t:T) (h:msr yT t<=1048576) (ht:j08 t=true) (l:List (List V)) (r:List V) (z:∀ x∈l,x.length=t.2.1.length) (A:l.length<=60) (n:r.length=t.2.1.length) (k:List (List V)->Res):j4h t l r k=k (jhc t l r):=by
 have p:∀ x:List V,(j06 t x).length<=LIM:=λx=>by
  rw [j8z]
  have:=(j1l h).2.2.1
  unfold LIM;omega
 unfold j4h jco j0n
 have:=Z8i l (λi (a:Bool×List (List V))=>(a.2,a.1,i)) (jbi (kR t) r) (λi a=>a.2.length<=2 * i) (step:=j50 l (nI l.length) t r) (λb done=>bif !done then bif lim (0+r.length) then bif lim (b.length+1) then k (b++[r]) else none else none else k b)
  (λa=>bif !a.1 then k (a.2++[r]) else k a.2) (false,[]) (by unfold LIM;omega) (by simp) (λi a d p=>by have:=jrX (kR t) r a l[i];omega) (λi a rec d y=>by
  show j2I _ _ _ _ _ _ _ _ _=_
  unfold j2I j76 j0n
  dsimp only
  have q:=z _ (List.getElem_mem d)
  rw [ZaQ d,cond_true,j00 d,cond_true,Zay _ _ _ d]
  have g:lim (a.2.length+1)=true:=ZaL (by unfold LIM;omega)
  have f:lim ((a.2++[r]).length+1)=true:=ZaL (by unfold LIM;simp;omega)
  have j:lim (0+(l[i]).length)=true:=jmP ht q
  have w:lim (0+r.length)=true:=jmP ht n
  have m:Z9K ((i:Int)+1)=(i:Int)+1:=j01 (by omega)
  unfold jbi
  cases a.1
  ·simp only [Bool.not_false,cond_true,Bool.true_and]
   rw [j1G t h ht r n,j1G t h ht _ q,jgN _ _ (p _)]
   unfold kR
   cases klt (j06 t r) (j06 t l[i])
   ·simp only [cond_false,cond_true,j,g,m]
   ·simp only [cond_true,w,g,j,f,m]
  ·simp only [Bool.not_true,cond_false,Bool.false_and,j,g,m,cond_true]) (λa rec y=>by
  show j2I _ _ _ _ _ _ _ _ _=_
  unfold j2I
  dsimp only
  rw [ZaP,cond_false]
  cases a.1
  ·simp only [Bool.not_false,cond_true,jmP ht n]
   rw [ZaL (by unfold LIM;omega),cond_true]
  ·rfl)
 refine this.trans ?_
 have f:=jp0 (kR t) r l []
 rw [List.nil_append] at f
 unfold jhc
 rw [<-f]
 cases (l.foldl (jbi (kR t) r) (false,[])).1<;>rfl
theorem jlk {α:Type} (l:List α) (a i:Nat) (f:i<l.length):(l.take (i+1)).eraseIdx a=bif i==a then (l.take i).eraseIdx a else (l.take i).eraseIdx a++[l[i]]:=by
 have g:(l.take i).length=i:=by rw [List.length_take];omega
 rw [List.take_succ_eq_append_getElem f]
 by_cases h:a<i
 ·rw [List.eraseIdx_append_of_lt_length (by omega),show (i==a)=false from beq_eq_false_iff_ne.2 (by omega),cond_false]
 ·rw [List.eraseIdx_append_of_length_le (by omega),g]
  by_cases e:i=a
  ·subst e
   have b:[l[i]].eraseIdx (i-i)=[]:=by rw [Nat.sub_self];rfl
   have d:(l.take i).eraseIdx i=l.take i:=List.eraseIdx_of_length_le (by omega)
   rw [show (i==i)=true from beq_self_eq_true i,cond_true,b,d,List.append_nil]
  ·have b:[l[i]].eraseIdx (a-i)=[l[i]]:=List.eraseIdx_of_length_le (by simp only [List.length_cons,List.length_nil];omega)
   have d:(l.take i).eraseIdx a=l.take i:=List.eraseIdx_of_length_le (by omega)
   rw [show (i==a)=false from beq_eq_false_iff_ne.2 e,cond_false,b,d]
theorem jgO (l:List (List V)) (a:Nat) (j:l.length<=60) (h:∀ x∈l,x.length<=1048576) (k:List (List V)->Res):j29 l (a:Int) k=k (l.eraseIdx a):=by
 unfold j29 jcX
 have:=Z3u (step:=j7w (a:Int) l (nI l.length)) (λi=>((l.take i).eraseIdx a,(i:Int))) l.length (λd=>k d) (k (l.eraseIdx a)) (λi b rec=> ?_) (λrec=> ?_) Z1c (Z2b (by omega))
 ·refine Eq.trans ?_ this
  rw [List.take_zero,List.eraseIdx_nil]
  rfl
 ·show j2a _ _ _ _ _ _ _=_
  unfold j2a j0n
  dsimp only
  have g:((l.take i).eraseIdx a).length<=60:=Nat.le_trans (List.eraseIdx_sublist _ _).length_le (by rw [List.length_take];omega)
  rw [ZaQ b,cond_true,j00 b,cond_true,Zay _ _ _ b,j01 (n:=(i:Int)+1) (by omega),jlk l a i b]
  have f:((i:Int) != (a:Int))= !(i==a):=by
   rw [Bool.eq_iff_iff]
   simp only [bne_iff_ne,Bool.not_eq_true',beq_eq_false_iff_ne,ne_eq,Int.natCast_inj]
  rw [f]
  cases (i==a)
  ·rw [Bool.not_false,cond_true,jcH (h _ (List.getElem_mem b)),cond_true,ZaL (by unfold LIM;omega),cond_true,cond_false]
   rfl
  ·rw [Bool.not_true,cond_false,cond_true]
   rfl
 ·show j2a _ _ _ _ _ _ _=_
  unfold j2a
  dsimp only
  rw [ZaP,cond_false,List.take_length]
end Go.PI.G
