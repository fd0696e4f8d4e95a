/-
  Program's code interpreted over typed values; printed texts; plain laws. No conditions.
-/
import Derived.Test.YtiieddiheadocaaGreatTk
import Derived.Test.YtiieddiheadocaaGreatTl
set_option linter.unusedVariables false
set_option linter.unusedSimpArgs false
namespace Go.PI.G
open Go Go.PI Go.Proofs
theorem jeL (l:List ByteArray) (v:ByteArray) (h:l.length<=LIM) (k:Int->Res):j0L l v k=k (Z8b (λx=>sEq v x) l):=by
 unfold j0L j6A
 refine Z8o l (λi=>i) (λx=>sEq v x) (step:=j3b l v (nI l.length)) ((λ(_:Unit)=>k (-1)),(λ(t:Int)=>k t)) k h (λi rec hi=> ?_) (λrec=> ?_)
 ·show j24 _ _ _ _ _ _ _=_
  unfold j24
  unfold LIM at h
  rw [Z9i hi,cond_true,j0n hi,cond_true,Z92 _ _ _ hi,j05 (n:=(i:Int)+1) (by omega)]
 ·show j24 _ _ _ _ _ _ _=_
  unfold j24
  rw [Z9h,cond_false]
theorem j7A {α:Type} (p:α->Bool) (u:List α) (y:α) (r:List α) (hu:∀ x∈u,p x=false) (hy:p y=true):Z8b p (u++y::r)=(u.length:Int):=by
 unfold Z8b
 have:(u++y::r).findIdx? p=some u.length:=by
  rw [List.findIdx?_eq_some_iff_getElem]
  refine ⟨by rw [List.length_append,List.length_cons];omega,?_,λj hj=> ?_⟩
  ·simp [hy]
  ·rw [List.getElem_append_left hj]
   simp [hu _ (List.getElem_mem hj)]
 rw [this]
theorem jrP {α:Type} {p:α->Bool} {l:List α} (h:Z8b p l<0):∀ x∈l,p x=false:=by
 unfold Z8b at h
 cases hf:l.findIdx? p with
 | none=>exact List.findIdx?_eq_none_iff.1 hf
 | some i=>rw [hf] at h;dsimp only at h;omega
theorem jhW {α:Type} {p:α->Bool} {l:List α} (h:0<=Z8b p l):∃ (i:Nat) (hi:i<l.length),Z8b p l=(i:Int)/\p l[i]=true:=by
 unfold Z8b at h ⊢
 cases hf:l.findIdx? p with
 | none=>rw [hf] at h;dsimp only at h;omega
 | some i=>
  obtain ⟨hi,hp,_⟩:=List.findIdx?_eq_some_iff_getElem.1 hf
  exact ⟨i,hi,rfl,hp⟩
def jgL (x:ByteArray):ByteArray:=Z9k x 1 (nI x.size)
noncomputable def j8C (c:C) (x:ByteArray):C:=bif sEq x j72 then (c.1,c.2.1,true,c.2.2.2) else bif decide (0<x.size)&&(bt x 0==61) then (c.1,c.2.1,c.2.2.1,true,(jcj (jgL x)).1) else c
noncomputable def j5V (ty:ByteArray->Int):List ByteArray->C
 | n::t::rest=>rest.foldl j8C (n,ty t,false,false,0,0,eS)
 | _=>zC
theorem jt3 (c:C) (x:ByteArray):(j8C c x).1=c.1:=by
 unfold j8C
 cases sEq x j72
 ·cases decide (0<x.size)&&(bt x 0==61)<;>rfl
 ·rfl
theorem jqU:(l:List ByteArray)->(c:C)->(l.foldl j8C c).1=c.1
 | [],c=>rfl
 | x::l,c=>by rw [List.foldl_cons,jqU l,jt3]
theorem jq9 (c:C):j8C c j72=(c.1,c.2.1,true,c.2.2.2):=by unfold j8C;rw [Z8L];rfl
theorem jn0 (x:ByteArray):(jgL x).size<=x.size:=by
 unfold jgL nI
 rw [<-j0f,show (1:Int)=((1:Nat):Int) from rfl,j9S,List.length_drop,List.length_take,j0f]
 omega
theorem jsO (v:ByteArray):jgL (j5u++v)=v:=by
 apply j11
 unfold jgL nI
 have e:Z19 (j5u++v)=61::Z19 v:=by rw [j0l];rfl
 have hl:=j0f (j5u++v)
 rw [show (1:Int)=((1:Nat):Int) from rfl,j9S,<-hl,List.take_length,e,List.drop_one,List.tail_cons]
theorem jq8 (c:C) {v:V} (hv:j0u v=true):j8C c (j5u++j07 v)=(c.1,c.2.1,c.2.2.1,true,v):=by
 have e:Z19 (j5u++j07 v)=61::Z19 (j07 v):=by rw [j0l];rfl
 have hl:=j0f (j5u++j07 v)
 rw [e,List.length_cons] at hl
 unfold j8C
 rw [j02 (by rw [e];intro h;have h2:=congrArg (λl=>l.headD 0) h;exact absurd (show (61:Int)=110 from h2) (by decide)),cond_false,decide_eq_true (show 0<(j5u++j07 v).size by omega),Bool.true_and,jcs e,show ((61:Int)==61)=true from rfl,cond_true,jsO,jgi hv]
theorem jsB {v:V} (h:jgz v=true):v=zV:=by
 obtain ⟨a,b,c⟩:=v
 unfold jgz at h
 simp only [Bool.and_eq_true,beq_iff_eq,j0t] at h
 obtain ⟨rfl,rfl,rfl⟩:=h
 rfl
theorem jcZ (ty:ByteArray->Int) (hty:∀ t,1<=t/\t<=3->ty (tyN t)=t) {c:C} (h:j1A c=true):j5V ty (j1g c)=c:=by
 obtain ⟨h1,h2,h3⟩:=j5U h
 obtain ⟨n,t,nt,hs,df⟩:=c
 dsimp only at h1 h2 h3
 have hd:hs=false->df=zV:=λe=>by
  subst e
  unfold j1A at h
  simp only [Bool.and_eq_true,cond_false] at h
  exact jsB h.2.2.2
 unfold j1g j5V
 dsimp only
 rw [hty t h2]
 cases nt
 ·cases hs
  ·rw [hd rfl];rfl
  ·show [j5u++j07 df].foldl j8C _=_
   rw [List.foldl_cons,List.foldl_nil,jq8 _ h3]
 ·cases hs
  ·show [j72].foldl j8C _=_
   rw [List.foldl_cons,List.foldl_nil,jq9,hd rfl]
  ·show [j72,j5u++j07 df].foldl j8C _=_
   rw [List.foldl_cons,List.foldl_cons,List.foldl_nil,jq9,jq8 _ h3]
theorem jgk (ty:ByteArray->Int) (w:List ByteArray) (hw:∀ x∈w,x.size<=1048576):(j5V ty w).1.size<=1048576:=by
 match w,hw with
 | [],_=>exact Nat.zero_le _
 | [x],_=>exact Nat.zero_le _
 | n::t::rest,hw=>
  show (rest.foldl j8C _).1.size<=_
  rw [jqU]
  exact hw n (by simp)
def tyS (t:ByteArray):Int:=bif sEq j1u t then 3 else bif sEq j2c t then 2 else bif sEq j1f t then 1 else 0
def tyI (t:ByteArray):Int:=Z8b (λx=>sEq t x) [eS,j1f,j2c,j1u]
theorem jsj (t:Int) (h:1<=t/\t<=3):tyS (tyN t)=t:=by
 unfold tyS
 rcases jff h with ⟨rfl,e⟩ | ⟨rfl,e⟩ | ⟨rfl,e⟩<;>rw [e]
 ·rw [j02 (show Z19 j1u≠Z19 j1f by decide),j02 (show Z19 j2c≠Z19 j1f by decide),Z8L];rfl
 ·rw [j02 (show Z19 j1u≠Z19 j2c by decide),Z8L];rfl
 ·rw [Z8L];rfl
theorem jsi (t:Int) (h:1<=t/\t<=3):tyI (tyN t)=t:=by
 unfold tyI
 rcases jff h with ⟨rfl,e⟩ | ⟨rfl,e⟩ | ⟨rfl,e⟩<;>rw [e]
 ·exact j7A _ [eS] j1f _ (λx hx=>by rw [List.mem_singleton.1 hx];exact j02 (by decide)) (Z8L _)
 ·exact j7A _ [eS,j1f] j2c _ (λx hx=>by
   simp only [List.mem_cons,List.not_mem_nil,or_false] at hx
   rcases hx with rfl | rfl<;>exact j02 (by decide)) (Z8L _)
 ·exact j7A _ [eS,j1f,j2c] j1u _ (λx hx=>by
   simp only [List.mem_cons,List.not_mem_nil,or_false] at hx
   rcases hx with rfl | rfl | rfl<;>exact j02 (by decide)) (Z8L _)
theorem joK (w:List ByteArray) (hw:∀ x∈w,x.size<=1048576) (hl:w.length<=1048577) (k:C->Res):j4h w k=k (j5V tyS w):=by
 unfold j4h
 match w,hw,hl with
 | [],_,_=>rfl
 | [x],_,_=>rfl
 | n::t::rest,hw,hl=>
  have hlen:(n::t::rest).length=rest.length+2:=rfl
  rw [decide_eq_false (show ¬ nI (n::t::rest).length<2 by unfold nI;omega),cond_false,Z9c (by omega) (by omega),cond_true]
  unfold j5K
  dsimp only
  have key:=Z8q 4 (λi c=>(i,c)) (λi (c:C)=>bif decide (0<i)&&sEq (nth eS [eS,j1f,j2c,j1u] (i:Int)) t then (c.1,(i:Int),c.2.2) else c) (λ_ _=>True) (step:=j4M (n::t::rest) [eS,j1f,j2c,j1u] (nI ([eS,j1f,j2c,j1u]:List ByteArray).length))
   (λ(c:C)=>bif Z6R 2 (nI (n::t::rest).length) (n::t::rest).length then j2V (sub (n::t::rest) 2 (nI (n::t::rest).length)) (nI (sub (n::t::rest) 2 (nI (n::t::rest).length)).length) Z0Y 0 c (λ(c1:C)=>k c1) else none)
   (λ(c:C)=>bif Z6R 2 (nI (n::t::rest).length) (n::t::rest).length then j2V (sub (n::t::rest) 2 (nI (n::t::rest).length)) (nI (sub (n::t::rest) 2 (nI (n::t::rest).length)).length) Z0Y 0 c (λ(c1:C)=>k c1) else none)
   (n,0,false,false,0,0,eS) (by unfold LIM;omega) trivial (λ_ _ _ _=>trivial) (λi c rec hi _=>by
    show j3i _ _ _ _ _ _ _=_
    unfold j3i
    dsimp only
    rw [show decide ((i:Int)<nI ([eS,j1f,j2c,j1u]:List ByteArray).length)=true from decide_eq_true (by show (i:Int)<4;omega),cond_true,show inb (i:Int) ([eS,j1f,j2c,j1u]:List ByteArray).length=true from Z9c (by omega) (by show (i:Int)<((4:Nat):Int);omega),cond_true,j05 (n:=(i:Int)+1) (by omega)]
    by_cases h0:0<i
    ·rw [decide_eq_true (show (i:Int)>0 by omega),cond_true,Z9c (by omega) (by omega),cond_true,decide_eq_true h0,Bool.true_and]
     have e:nth eS (n::t::rest) 1=t:=rfl
     rw [e]
     cases sEq (nth eS [eS,j1f,j2c,j1u] (i:Int)) t<;>rfl
    ·rw [decide_eq_false (show ¬ (i:Int)>0 by omega),cond_false,decide_eq_false h0];rfl) (λc rec _=>by
    show j3i _ _ _ _ _ _ _=_
    unfold j3i
    rfl)
  unfold j9J
  refine Eq.trans key.1 ?_
  have e0:Z4T (λi (c:C)=>bif decide (0<i)&&sEq (nth eS [eS,j1f,j2c,j1u] (i:Int)) t then (c.1,(i:Int),c.2.2) else c) 0 4 (n,0,false,false,0,0,eS)=(n,tyS t,false,false,0,0,eS):=by
   unfold tyS
   show (bif true&&sEq j1u t then _ else _)=_
   simp only [Z4T,Bool.true_and]
   have q0:nth eS [eS,j1f,j2c,j1u] ((0+1:Nat):Int)=j1f:=rfl
   have q1:nth eS [eS,j1f,j2c,j1u] ((0+1+1:Nat):Int)=j2c:=rfl
   rw [q0,q1]
   cases sEq j1f t<;>cases sEq j2c t<;>cases sEq j1u t<;>rfl
  rw [e0,show (2:Int)=((2:Nat):Int) from rfl,j4l (by omega),cond_true,j7S]
  show j2V rest (nI rest.length) Z0Y 0 _ _=k (rest.foldl j8C (n,tyS t,false,false,0,0,eS))
  unfold j2V
  refine Z6V rest (λi c=>(i,c)) j8C (λ_ _=>True) (step:=j4N rest (nI rest.length)) (λc1=>k c1) k _ (by unfold LIM;omega) trivial (λ_ _ _ _=>trivial) (λi c rec hi _=>by
   show j3j _ _ _ _ _ _=_
   unfold j3j
   dsimp only
   have hx:=hw rest[i] (List.mem_cons_of_mem _ (List.mem_cons_of_mem _ (List.getElem_mem hi)))
   rw [Z9i hi,cond_true,j0n hi,cond_true,Z92 _ _ _ hi,j05 (n:=(i:Int)+1) (by omega)]
   unfold j8C
   cases sEq rest[i] j72
   ·rw [cond_false,cond_false]
    by_cases h0:0<rest[i].size
    ·rw [decide_eq_true (show nI rest[i].size>0 by unfold nI;omega),cond_true,Z9c (by omega) (by omega),cond_true,decide_eq_true h0,Bool.true_and]
     cases bt rest[i] 0==61
     ·rfl
     ·have ht:=jn0 rest[i]
      unfold jgL at ht
      rw [cond_true,cond_true,show (1:Int)=((1:Nat):Int) from rfl,j4l (by omega),cond_true,show ((1:Nat):Int)=1 from rfl,joM _ (by unfold LIM;omega)]
      rfl
    ·rw [decide_eq_false (show ¬ nI rest[i].size>0 by unfold nI;omega),cond_false,decide_eq_false h0,Bool.false_and,cond_false]
   ·rfl) (λc rec _=>by
   show j3j _ _ _ _ _ _=_
   unfold j3j
   dsimp only
   rw [Z9h,cond_false])
theorem joC (w:List ByteArray) (hw:∀ x∈w,x.size<=1048576) (hl:w.length<=1048577) (k:C->Res):j7H w k=k (j5V tyI w):=by
 unfold j7H
 match w,hw,hl with
 | [],_,_=>rfl
 | [x],_,_=>rfl
 | n::t::rest,hw,hl=>
  have hlen:(n::t::rest).length=rest.length+2:=rfl
  rw [decide_eq_false (show ¬ nI (n::t::rest).length<2 by unfold nI;omega),cond_false]
  have hp:∀ K,j8f (n::t::rest) K=K (n,tyI t,false,false,0,0,eS):=λK=>by
   unfold j8f
   rw [Z9c (by omega) (by omega),cond_true,Z9c (by omega) (by omega),cond_true]
   have e1:nth eS (n::t::rest) 1=t:=rfl
   have e0:nth eS (n::t::rest) 0=n:=rfl
   simp only [e0,e1,jeL [eS,j1f,j2c,j1u] t (by show (4:Nat)<=LIM;unfold LIM;omega),Z8m]
   rfl
  rw [hp,show (2:Int)=((2:Nat):Int) from rfl,j4l (by omega),cond_true,j7S]
  show jaP rest (nI rest.length) Z0Y 0 _ _=k (rest.foldl j8C (n,tyI t,false,false,0,0,eS))
  unfold jaP
  refine Z6V rest (λi c=>(i,c)) j8C (λ_ _=>True) (step:=j8Z rest (nI rest.length)) (λc1=>k c1) k _ (by unfold LIM;omega) trivial (λ_ _ _ _=>trivial) (λi c rec hi _=>by
   show j65 _ _ _ _ _ _=_
   unfold j65 jaQ
   dsimp only
   have hx:=hw rest[i] (List.mem_cons_of_mem _ (List.mem_cons_of_mem _ (List.getElem_mem hi)))
   rw [Z9i hi,cond_true,j0n hi,cond_true,Z92 _ _ _ hi,j05 (n:=(i:Int)+1) (by omega)]
   unfold j8C
   cases hn:sEq rest[i] j72
   ·rw [cond_false,cond_false]
    by_cases h0:0<rest[i].size
    ·rw [decide_eq_true (show nI rest[i].size>0 by unfold nI;omega),cond_true,Z9c (by omega) (by omega),cond_true,decide_eq_true h0,Bool.true_and]
     cases bt rest[i] 0==61
     ·rfl
     ·have ht:=jn0 rest[i]
      unfold jgL at ht
      rw [cond_true,cond_true,show (1:Int)=((1:Nat):Int) from rfl,j4l (by omega),cond_true,show ((1:Nat):Int)=1 from rfl,joE _ (by omega)]
      rfl
    ·rw [decide_eq_false (show ¬ nI rest[i].size>0 by unfold nI;omega),cond_false,decide_eq_false h0,Bool.false_and,cond_false]
   ·rw [(j0t _ _).1 hn]
    rfl) (λc rec _=>by
   show j65 _ _ _ _ _ _=_
   unfold j65
   dsimp only
   rw [Z9h,cond_false])
theorem js3 (w:List ByteArray) (hl:w.length<=1048577):∀ (d i m:Nat),i+d=w.length->d<m->∃ j:Nat,i<=j/\j<=w.length/\(∀ K,Z10 (j2k w) m (i:Int) K=K (j:Int))/\(∀ h:j<w.length,w[j]=j14) /\
  ∀ u r,w.drop i=u++j14::r->(∀ x∈u,x≠j14)->j=i+u.length:=by
 intro d
 induction d with
 | zero=>
  intro i m hi hm
  obtain ⟨m,rfl⟩:∃ e,m=e+1:=⟨m-1,by omega⟩
  refine ⟨i,by omega,by omega,λK=> ?_,λh=>by omega,λu r h _=> ?_⟩
  ·rw [Z8u]
   show j3A w _ _ _=_
   unfold j3A
   rw [decide_eq_false (show ¬ (i:Int)<nI w.length by unfold nI;omega),cond_false]
  ·have:=congrArg List.length h
   rw [List.length_drop,List.length_append,List.length_cons] at this
   omega
 | succ d ih=>
  intro i m hi hm
  obtain ⟨m,rfl⟩:∃ e,m=e+1:=⟨m-1,by omega⟩
  have hil:i<w.length:=by omega
  have hun:∀ K,Z10 (j2k w) (m+1) (i:Int) K=bif sNe w[i] j14 then Z10 (j2k w) m ((i+1:Nat):Int) K else K (i:Int):=λK=>by
   rw [Z8u]
   show j3A w _ _ _=_
   unfold j3A
   rw [Z9i hil,cond_true,j0n hil,cond_true,Z92 _ _ _ hil,j05 (by omega),show ((i+1:Nat):Int)=(i:Int)+1 by omega]
  cases hx:sNe w[i] j14
  ·have e:=(jdH _ _).1 hx
   refine ⟨i,by omega,by omega,λK=>by rw [hun,hx,cond_false],λ_=>e,λu r h hu=> ?_⟩
   rw [List.drop_eq_getElem_cons hil] at h
   cases u with
   | nil=>rfl
   | cons y u=>exact absurd ((List.cons.inj h).1.symm.trans e) (hu y (by simp))
  ·obtain ⟨j,j1,j2,j3,j4,j5⟩:=ih (i+1) m (by omega) (by omega)
   refine ⟨j,by omega,j2,λK=>by rw [hun,hx,cond_true];exact j3 K,j4,λu r h hu=> ?_⟩
   rw [List.drop_eq_getElem_cons hil] at h
   cases u with
   | nil=>
    have:=(List.cons.inj h).1
    rw [this,Z8M] at hx
    cases hx
   | cons y u=>
    have:=j5 u r (List.cons.inj h).2 λx hx=>hu x (List.mem_cons_of_mem _ hx)
    rw [List.length_cons];omega
theorem jmS:(j15:ByteArray)≠j14:=λh=>absurd (congrArg Z19 h) (by decide)
theorem jmD:(j2d:ByteArray)≠j15:=λh=>absurd (congrArg Z19 h) (by decide)
theorem jia {a b:ByteArray} (h:a≠b):sEq a b=false:=by
 cases hq:sEq a b with
 | false=>rfl
 | true=>exact absurd ((j0t _ _).1 hq) h
theorem js4 (w:List ByteArray) (hw:∀ x∈w,x.size<=1048576) (hl:w.length<=1048576):∀ (d i m:Nat) (D0:D),w.length-i<=d->i<=w.length->d<m->D0.2.2.1.length<=i ->
  ∃ (i':Nat) (cs:List C),(∀ K,Z10 (j2l w) m ((i:Int),D0) K=K (i':Int) (D0.1,D0.2.1,D0.2.2.1++cs,D0.2.2.2))/\i'<=w.length+1/\cs.length<=d/\(∀ c∈cs,c.1.size<=1048576) /\
   ∀ cs' ks,(∀ c∈cs',j1A c=true)->w.drop i=cs'.flatMap j1S++(j2d::ks)->cs=cs'/\w.drop i'=j2d::ks:=by
 intro d
 induction d with
 | zero=>
  intro i m D0 hd hi hm h0
  obtain ⟨m,rfl⟩:∃ e,m=e+1:=⟨m-1,by omega⟩
  refine ⟨i,[],λK=> ?_,by omega,by simp,λc hc=>(by cases hc),λcs' ks _ h=> ?_⟩
  ·rw [Z8u]
   show j0M w _ _ _ _=_
   unfold j0M
   dsimp only
   rw [decide_eq_false (show ¬ (i:Int)<nI w.length by unfold nI;omega),cond_false,List.append_nil]
  ·have:=congrArg List.length h
   rw [List.length_drop,List.length_append,List.length_cons] at this
   omega
 | succ d ih=>
  intro i m D0 hd hi hm h0
  obtain ⟨m,rfl⟩:∃ e,m=e+1:=⟨m-1,by omega⟩
  have hun:∀ K,Z10 (j2l w) (m+1) ((i:Int),D0) K=j0M w (i:Int) D0 (λi d=>Z10 (j2l w) m (i,d) K) K:=λK=>rfl
  by_cases hil:i<w.length
  ·by_cases hx:w[i]=j15
   ·obtain ⟨j,j1,j2,j3,j4,j5⟩:=js3 w (by omega) (w.length-i) i Z0Y (by omega) (Z1O (by omega))
    have hj:i+1<=j:=by
     rcases Nat.lt_or_ge i j with h | h
     ·exact h
     ·have e:j=i:=by omega
      have:=j4 (by omega)
      simp only [e] at this
      exact absurd (hx.symm.trans this) jmS
    have hin:∀ K,jap w Z0Y (i:Int) K=K (j:Int):=λK=>j3 K
    by_cases hjl:j<w.length
    ·have hws:∀ x∈(w.take j).drop (i+1),x.size<=1048576:=λx hx=>hw x (List.mem_of_mem_take (List.mem_of_mem_drop hx))
     have hwl:((w.take j).drop (i+1)).length<=1048577:=by rw [List.length_drop,List.length_take];omega
     obtain ⟨i',cs,e1,e2,e3,e4,e5⟩:=ih (j+1) m (D0.1,D0.2.1,D0.2.2.1++[j5V tyS ((w.take j).drop (i+1))],D0.2.2.2) (by omega) (by omega) (by omega) (by show (D0.2.2.1++[_]).length<=_;rw [List.length_append,List.length_singleton];omega)
     refine ⟨i',j5V tyS ((w.take j).drop (i+1))::cs,λK=> ?_,e2,by rw [List.length_cons];omega,λc hc=> ?_,λcs' ks hcs h=> ?_⟩
     ·rw [hun]
      unfold j0M
      rw [Z9i hil,cond_true,j0n hil,cond_true,Z92 _ _ _ hil,hx,Z8L,cond_true,hin,Z9i hjl,cond_true,j05 (n:=(i:Int)+1) (by omega),show (i:Int)+1=((i+1:Nat):Int) by omega,jqb (by omega),cond_true,jit,joK _ hws hwl,Z9d (by unfold LIM;omega),cond_true,j05 (n:=(j:Int)+1) (by omega)]
      have:=e1 K
      rw [show ((j+1:Nat):Int)=(j:Int)+1 by omega] at this
      refine this.trans ?_
      dsimp only
      rw [List.append_assoc]
      rfl
     ·rcases List.mem_cons.1 hc with rfl | hc
      ·exact jgk _ _ hws
      ·exact e4 c hc
     ·cases cs' with
      | nil=>
       rw [List.drop_eq_getElem_cons hil] at h
       exact absurd ((List.cons.inj h).1.symm.trans hx) jmD
      | cons c' cs'=>
       have hcb:=hcs c' (by simp)
       have hne:∀ x∈j15::j1g c',x≠j14:=λx hx=>by
        rcases List.mem_cons.1 hx with rfl | hx
        ·exact jmS
        ·exact (jct hcb x hx).2.2.2
       have hsp:w.drop i=(j15::j1g c')++j14::(cs'.flatMap j1S++(j2d::ks)):=by
        rw [h,List.flatMap_cons]
        unfold j1S
        simp
       have ej:=j5 _ _ hsp hne
       rw [List.length_cons] at ej
       have hd1:w.drop (i+1)=j1g c'++j14::(cs'.flatMap j1S++(j2d::ks)):=by
        rw [List.drop_eq_getElem_cons hil] at hsp
        exact (List.cons.inj hsp).2
       have hsub:(w.take j).drop (i+1)=j1g c':=by
        rw [List.drop_take,hd1,show j-(i+1)=(j1g c').length by omega,List.take_left]
       have hd2:w.drop (j+1)=cs'.flatMap j1S++(j2d::ks):=by
        rw [show j+1=(i+1)+((j1g c').length+1) by omega,<-List.drop_drop,hd1,<-List.drop_drop,List.drop_left]
        rfl
       obtain ⟨f1,f2⟩:=e5 cs' ks (λc hc=>hcs c (List.mem_cons_of_mem _ hc)) hd2
       rw [hsub,jcZ tyS jsj hcb,f1]
       exact ⟨rfl,f2⟩
    ·obtain ⟨m,rfl⟩:∃ e,m=e+1:=⟨m-1,by omega⟩
     refine ⟨w.length+1,[],λK=> ?_,by omega,by simp,λc hc=>(by cases hc),λcs' ks hcs h=> ?_⟩
     ·rw [hun]
      unfold j0M
      rw [Z9i hil,cond_true,j0n hil,cond_true,Z92 _ _ _ hil,hx,Z8L,cond_true,hin,decide_eq_false (show ¬ (j:Int)<nI w.length by unfold nI;omega),cond_false,j05 (n:=(j:Int)+1) (by omega)]
      dsimp only
      rw [Z8u]
      show j0M w _ _ _ _=_
      unfold j0M
      dsimp only
      rw [decide_eq_false (show ¬ (j:Int)+1<nI w.length by unfold nI;omega),cond_false,List.append_nil,show (j:Int)+1=((w.length+1:Nat):Int) by omega]
     ·cases cs' with
      | nil=>
       rw [List.drop_eq_getElem_cons hil] at h
       exact absurd ((List.cons.inj h).1.symm.trans hx) jmD
      | cons c' cs'=>
       have hcb:=hcs c' (by simp)
       have hne:∀ x∈j15::j1g c',x≠j14:=λx hx=>by
        rcases List.mem_cons.1 hx with rfl | hx
        ·exact jmS
        ·exact (jct hcb x hx).2.2.2
       have hsp:w.drop i=(j15::j1g c')++j14::(cs'.flatMap j1S++(j2d::ks)):=by
        rw [h,List.flatMap_cons]
        unfold j1S
        simp
       have ej:=j5 _ _ hsp hne
       have:=congrArg List.length hsp
       rw [List.length_drop,List.length_append,List.length_cons,List.length_cons] at this
       rw [List.length_cons] at ej
       omega
   ·refine ⟨i,[],λK=> ?_,by omega,by simp,λc hc=>(by cases hc),λcs' ks hcs h=> ?_⟩
    ·rw [hun]
     unfold j0M
     rw [Z9i hil,cond_true,j0n hil,cond_true,Z92 _ _ _ hil,jia hx,cond_false,List.append_nil]
    ·cases cs' with
     | nil=>exact ⟨rfl,h⟩
     | cons c' cs'=>
      rw [List.drop_eq_getElem_cons hil] at h
      exact absurd (List.cons.inj h).1 hx
  ·refine ⟨i,[],λK=> ?_,by omega,by simp,λc hc=>(by cases hc),λcs' ks _ h=> ?_⟩
   ·rw [hun]
    unfold j0M
    rw [decide_eq_false (show ¬ (i:Int)<nI w.length by unfold nI;omega),cond_false,List.append_nil]
   ·have:=congrArg List.length h
    rw [List.length_drop,List.length_append,List.length_cons] at this
    omega
theorem jry (w:List ByteArray) (hw:∀ x∈w,x.size<=1048576) (hl:w.length<=1048576) (t:ByteArray):∃ (cs:List C) (ks:List ByteArray),(∀ K,j4X (1,t,[],[],eS,eS) w K=K (1,t,cs,ks,eS,eS))/\cs.length<=1048576/\(∀ c∈cs,c.1.size<=1048576)/\ks.length<=1048576/\(∀ x∈ks,x.size<=1048576) /\
  ∀ cs' ks',(∀ c∈cs',j1A c=true)->ks'≠[]->w=cs'.flatMap j1S++(j2d::ks')->cs=cs'/\ks=ks':=by
 obtain ⟨i',cs,e1,e2,e3,e4,e5⟩:=js4 w hw hl w.length 0 Z0Y (1,t,[],[],eS,eS) (by omega) (by omega) (Z1O (by omega)) (by simp)
 have hu:∀ K,j4X (1,t,[],[],eS,eS) w K=bif decide ((i':Int)+1<nI w.length) then K (1,t,cs,w.drop (i'+1),eS,eS) else K (1,t,cs,[],eS,eS):=λK=>by
  unfold j4X jaq
  refine (e1 _).trans ?_
  dsimp only
  rw [List.nil_append,j05 (n:=(i':Int)+1) (by omega)]
  by_cases h:i'+1<w.length
  ·rw [decide_eq_true (show (i':Int)+1<nI w.length by unfold nI;omega),cond_true,cond_true,show (i':Int)+1=((i'+1:Nat):Int) by omega,j4l (by omega),cond_true,j7S,Z9d (by rw [List.length_drop];unfold LIM;omega),cond_true]
  ·rw [decide_eq_false (show ¬ (i':Int)+1<nI w.length by unfold nI;omega),cond_false,cond_false]
 by_cases h:i'+1<w.length
 ·refine ⟨cs,w.drop (i'+1),λK=> ?_,by omega,e4,by rw [List.length_drop];omega,λx hx=>hw x (List.mem_of_mem_drop hx),λcs' ks' h1 h2 h3=> ?_⟩
  ·rw [hu,decide_eq_true (show (i':Int)+1<nI w.length by unfold nI;omega),cond_true]
  ·obtain ⟨f1,f2⟩:=e5 cs' ks' h1 (by rw [List.drop_zero];exact h3)
   refine ⟨f1,?_⟩
   rw [<-List.drop_drop,f2];rfl
 ·refine ⟨cs,[],λK=> ?_,by omega,e4,by simp,λx hx=>(by cases hx),λcs' ks' h1 h2 h3=> ?_⟩
  ·rw [hu,decide_eq_false (show ¬ (i':Int)+1<nI w.length by unfold nI;omega),cond_false]
  ·obtain ⟨f1,f2⟩:=e5 cs' ks' h1 (by rw [List.drop_zero];exact h3)
   have:=congrArg List.length f2
   rw [List.length_drop,List.length_cons] at this
   have h4:ks'.length≠0:=λe=>h2 (List.length_eq_zero_iff.1 e)
   omega
theorem jrQ:∀ (d:Nat) (w:List ByteArray) (m:Nat) (e:D),(∀ x∈w,x.size<=1048576)->w.length<=1048576->w.length<=d->d<m->e.2.2.1.length+w.length<=1048576 ->
  ∃ (ex:Bool) (w1:List ByteArray) (cs:List C),(∀ q,Z10 j1t m (w,e) q=bif ex then q.2 (e.1,e.2.1,e.2.2.1++cs,e.2.2.2) else q.1 w1 (e.1,e.2.1,e.2.2.1++cs,e.2.2.2))/\w1.length<=w.length/\(∀ x∈w1,x∈w)/\cs.length<=w.length/\(∀ c∈cs,c.1.size<=1048576) /\
   ∀ cs' ks,(∀ c∈cs',j1A c=true)->w=cs'.flatMap j1S++(j2d::ks)->ex=false/\cs=cs'/\w1=j2d::ks:=by
 intro d
 induction d with
 | zero=>
  intro w m e hw hl hd hm h0
  obtain ⟨m,rfl⟩:∃ e,m=e+1:=⟨m-1,by omega⟩
  have hn:w=[]:=List.length_eq_zero_iff.1 (by omega)
  subst hn
  refine ⟨false,[],[],λq=> ?_,by simp,λx hx=>hx,by simp,λc hc=>(by cases hc),λcs' ks _ h=> ?_⟩
  ·rw [Z8u]
   show j1Z _ _ _ _ _=_
   unfold j1Z
   rw [List.append_nil]
   rfl
  ·have:=congrArg List.length h
   rw [List.length_append,List.length_cons] at this
   simp at this
 | succ d ih=>
  intro w m e hw hl hd hm h0
  obtain ⟨m,rfl⟩:∃ e,m=e+1:=⟨m-1,by omega⟩
  have hun:∀ q,Z10 j1t (m+1) (w,e) q=j1Z w e (λw e=>Z10 j1t m (w,e) q) q.1 q.2:=λq=>rfl
  by_cases hl0:0<w.length
  ·by_cases hx:w[0]=j15
   ·have hst:∀ q,Z10 j1t (m+1) (w,e) q=bif decide (Z8b (λx=>sEq j14 x) w<0) then q.2 e else bif Z6R 1 (Z8b (λx=>sEq j14 x) w) w.length then j7H (sub w 1 (Z8b (λx=>sEq j14 x) w)) (λ(r1:C)=>bif lim (e.2.2.1.length+1) then (bif Z6R (Z8g (Z8b (λx=>sEq j14 x) w+1)) (nI w.length) w.length then Z10 j1t m (sub w (Z8g (Z8b (λx=>sEq j14 x) w+1)) (nI w.length),(e.1,e.2.1,(e.2.2.1++[r1]),e.2.2.2)) q else none) else none) else none:=λq=>by
     rw [hun]
     unfold j1Z
     have e0:nth eS w 0=w[0]:=Z92 eS w 0 hl0
     rw [decide_eq_true (show nI w.length>0 by unfold nI;omega),cond_true,Z9c (by omega) (by omega),cond_true,e0,hx,Z8L,cond_true,jeL w _ (by unfold LIM;omega)]
    by_cases hr:Z8b (λx=>sEq j14 x) w<0
    ·refine ⟨true,[],[],λq=> ?_,by simp,λx hx=>(by cases hx),by simp,λc hc=>(by cases hc),λcs' ks hcs h=> ?_⟩
     ·rw [hst,decide_eq_true hr,cond_true,cond_true,List.append_nil]
     ·have hno:=jrP hr
      cases cs' with
      | nil=>
       have:w[0]=j2d:=by simp only [h];rfl
       exact absurd (this.symm.trans hx) jmD
      | cons c' cs'=>
       have:j14∈w:=by rw [h,List.flatMap_cons];unfold j1S;simp
       have:=hno _ this
       rw [Z8L] at this
       cases this
    ·obtain ⟨j,hj,e1,e2⟩:=jhW (show 0<=Z8b (λx=>sEq j14 x) w by omega)
     have ej:=(j0t _ _).1 e2
     have hj1:1<=j:=by
      rcases Nat.eq_zero_or_pos j with h | h
      ·have:w[0]=j14:=by simp only [h] at ej;exact ej.symm
       exact absurd (hx.symm.trans this) jmS
      ·exact h
     have hws:∀ x∈(w.take j).drop 1,x.size<=1048576:=λx hx=>hw x (List.mem_of_mem_take (List.mem_of_mem_drop hx))
     have hwl:((w.take j).drop 1).length<=1048577:=by rw [List.length_drop,List.length_take];omega
     obtain ⟨ex,w1,cs,f1,f2,f3,f4,f5,f6⟩:=ih (w.drop (j+1)) m (e.1,e.2.1,e.2.2.1++[j5V tyI ((w.take j).drop 1)],e.2.2.2) (λx hx=>hw x (List.mem_of_mem_drop hx)) (by rw [List.length_drop];omega) (by rw [List.length_drop];omega) (by omega) (by show (e.2.2.1++[_]).length+_<=_;rw [List.length_append,List.length_singleton,List.length_drop];omega)
     rw [List.length_drop] at f2 f4
     refine ⟨ex,w1,j5V tyI ((w.take j).drop 1)::cs,λq=> ?_,by omega,λx hx=>List.mem_of_mem_drop (f3 x hx),by rw [List.length_cons];omega,λc hc=> ?_,λcs' ks hcs h=> ?_⟩
     ·rw [hst,e1,decide_eq_false (by omega),cond_false,show (1:Int)=((1:Nat):Int) from rfl,jqb (by omega),cond_true,jit,joC _ hws hwl,Z9d (by unfold LIM;omega),cond_true,j05 (by omega),show (j:Int)+((1:Nat):Int)=((j+1:Nat):Int) by omega,j4l (by omega),cond_true,j7S,f1]
      dsimp only
      rw [List.append_assoc]
      rfl
     ·rcases List.mem_cons.1 hc with rfl | hc
      ·exact jgk _ _ hws
      ·exact f5 c hc
     ·cases cs' with
      | nil=>
       have:w[0]=j2d:=by simp only [h];rfl
       exact absurd (this.symm.trans hx) jmD
      | cons c' cs'=>
       have hcb:=hcs c' (by simp)
       have hsp:w=(j15::j1g c')++j14::(cs'.flatMap j1S++(j2d::ks)):=by
        rw [h,List.flatMap_cons]
        unfold j1S
        simp
       have hq:=j7A (λx=>sEq j14 x) (j15::j1g c') j14 (cs'.flatMap j1S++(j2d::ks)) (λx hx=>by
        rcases List.mem_cons.1 hx with rfl | hx
        ·exact jia jmS.symm
        ·exact jia (jct hcb x hx).2.2.2.symm) (Z8L _)
       rw [<-hsp,e1,List.length_cons] at hq
       have ejc:j=(j1g c').length+1:=by omega
       have hsub:(w.take j).drop 1=j1g c':=by
        rw [hsp,ejc,List.cons_append,List.take_succ_cons,List.take_left]
        rfl
       have hdr:w.drop (j+1)=cs'.flatMap j1S++(j2d::ks):=by
        rw [hsp,ejc,List.cons_append,List.drop_succ_cons,<-List.drop_drop,List.drop_left]
        rfl
       obtain ⟨g1,g2,g3⟩:=f6 cs' ks (λc hc=>hcs c (List.mem_cons_of_mem _ hc)) hdr
       rw [hsub,jcZ tyI jsi hcb,g2]
       exact ⟨g1,rfl,g3⟩
   ·refine ⟨false,w,[],λq=> ?_,by omega,λx hx=>hx,by simp,λc hc=>(by cases hc),λcs' ks hcs h=> ?_⟩
    ·rw [hun]
     unfold j1Z
     have e0:nth eS w 0=w[0]:=Z92 eS w 0 hl0
     rw [decide_eq_true (show nI w.length>0 by unfold nI;omega),cond_true,Z9c (by omega) (by omega),cond_true,e0,jia hx,cond_false,cond_false,List.append_nil]
    ·cases cs' with
     | nil=>exact ⟨rfl,rfl,h⟩
     | cons c' cs'=>
      have:w[0]=j15:=by simp only [h];rfl
      exact absurd this hx
  ·have hn:w=[]:=List.length_eq_zero_iff.1 (by omega)
   subst hn
   refine ⟨false,[],[],λq=> ?_,by simp,λx hx=>hx,by simp,λc hc=>(by cases hc),λcs' ks _ h=> ?_⟩
   ·rw [hun]
    unfold j1Z
    rw [List.append_nil]
    rfl
   ·have:=congrArg List.length h
    rw [List.length_append,List.length_cons] at this
    simp at this
theorem jrj (w:List ByteArray) (hw:∀ x∈w,x.size<=1048576) (hl:w.length<=1048576) (t:ByteArray):∃ (cs:List C) (ks:List ByteArray),(∀ K,j5C w (1,t,[],[],eS,eS) K=K (1,t,cs,ks,eS,eS))/\cs.length<=1048576/\(∀ c∈cs,c.1.size<=1048576)/\ks.length<=1048576/\(∀ x∈ks,x.size<=1048576) /\
  ∀ cs' ks',(∀ c∈cs',j1A c=true)->ks'≠[]->w=cs'.flatMap j1S++(j2d::ks')->cs=cs'/\ks=ks':=by
 obtain ⟨ex,w1,cs,e1,e2,e3,e4,e5,e6⟩:=jrQ w.length w Z0Y (1,t,[],[],eS,eS) hw hl (by omega) (Z1O (by omega)) (by show 0+_<=_;omega)
 have hu:∀ K,j5C w (1,t,[],[],eS,eS) K=bif ex then K (1,t,cs,[],eS,eS) else bif decide (nI w1.length>0) then K (1,t,cs,w1.drop 1,eS,eS) else K (1,t,cs,[],eS,eS):=λK=>by
  unfold j5C jaV
  refine (e1 _).trans ?_
  dsimp only
  rw [List.nil_append]
  cases ex
  ·rw [cond_false,cond_false]
   by_cases h:0<w1.length
   ·unfold j4V
    rw [decide_eq_true (show nI w1.length>0 by unfold nI;omega),cond_true,cond_true,show (1:Int)=((1:Nat):Int) from rfl,j4l (by omega),cond_true,j7S,Z9d (by rw [List.length_drop];unfold LIM;omega),cond_true]
   ·rw [decide_eq_false (show ¬ nI w1.length>0 by unfold nI;omega),cond_false,cond_false]
  ·rfl
 cases hex:ex
 ·by_cases h:0<w1.length
  ·refine ⟨cs,w1.drop 1,λK=> ?_,by omega,e5,by rw [List.length_drop];omega,λx hx=>hw x (e3 x (List.mem_of_mem_drop hx)),λcs' ks' h1 h2 h3=> ?_⟩
   ·rw [hu,hex,cond_false,decide_eq_true (show nI w1.length>0 by unfold nI;omega),cond_true]
   ·obtain ⟨f0,f1,f2⟩:=e6 cs' ks' h1 h3
    refine ⟨f1,?_⟩
    rw [f2];rfl
  ·refine ⟨cs,[],λK=> ?_,by omega,e5,by simp,λx hx=>(by cases hx),λcs' ks' h1 h2 h3=> ?_⟩
   ·rw [hu,hex,cond_false,decide_eq_false (show ¬ nI w1.length>0 by unfold nI;omega),cond_false]
   ·obtain ⟨f0,f1,f2⟩:=e6 cs' ks' h1 h3
    rw [f2] at h
    exact absurd (by simp) h
 ·refine ⟨cs,[],λK=> ?_,by omega,e5,by simp,λx hx=>(by cases hx),λcs' ks' h1 h2 h3=> ?_⟩
  ·rw [hu,hex,cond_true]
  ·obtain ⟨f0,f1,f2⟩:=e6 cs' ks' h1 h3
   rw [hex] at f0
   cases f0
end Go.PI.G
namespace Go.PI.G
open Go Go.PI Go.Proofs
noncomputable def j7T (s:ByteArray):D×Bool:=rdX j1Y j2a zD s
noncomputable def tst (s:ByteArray):ST×Bool:=rdX stB stT zST s
theorem jgn (d:D):∃ a b r,j1h d=a::b::r:=by
 unfold j1h
 cases d.1==1
 ·cases d.1==2
  ·cases d.1==3
   ·cases d.1==4<;>exact ⟨_,_,_,rfl⟩
   ·exact ⟨_,_,_,rfl⟩
  ·exact ⟨_,_,_,rfl⟩
 ·exact ⟨_,_,_,rfl⟩
theorem jd6 {d:D} {s:ByteArray} (h:j1Y d=true) (he:j2a d=s):j0g 32 s=j1h d:=by
 unfold j2a at he
 rw [h,cond_true] at he
 obtain ⟨a,b,r,e⟩:=jgn d
 rw [e] at he ⊢
 exact (jim (λv hv=>(jjR h v (by rw [e];exact hv)).2) s).1 he
theorem jio {s:ST}:∃ a b r,stW s=a::b::r:=by
 unfold stW
 cases s.1==1
 ·cases s.1==2
  ·cases s.1==3
   ·cases s.1==4
    ·exact jgn _
    ·exact ⟨_,_,_,rfl⟩
   ·exact ⟨_,_,_,rfl⟩
  ·exact ⟨_,_,_,rfl⟩
 ·exact ⟨_,_,_,rfl⟩
theorem jeh {x:ST} {s:ByteArray} (h:stB x=true) (he:stT x=s):j0g 32 s=stW x:=by
 unfold stT at he
 rw [h,cond_true] at he
 obtain ⟨a,b,r,e⟩:=jio (s:=x)
 rw [e] at he ⊢
 exact (jim (λv hv=>(jon h v (by rw [e];exact hv)).2) s).1 he
theorem jgE:j0g 32 eS=[eS]:=rfl
theorem jqV {d:D} {s:ByteArray} (h:j2a d=s) (h2:2<=(j0g 32 s).length):j1Y d=true:=by
 cases hb:j1Y d with
 | true=>rfl
 | false=>
  unfold j2a at h
  rw [hb,cond_false] at h
  rw [<-h,jgE] at h2
  simp at h2
theorem jsc {d:ST} {s:ByteArray} (h:stT d=s) (h2:2<=(j0g 32 s).length):stB d=true:=by
 cases hb:stB d with
 | true=>rfl
 | false=>
  unfold stT at h
  rw [hb,cond_false] at h
  rw [<-h,jgE] at h2
  simp at h2
theorem jn1 {s:ByteArray} (h:(j0g 32 s).length<2):j7T s=(zD,false):=je4 λx hx he=>by
 obtain ⟨a,b,r,e⟩:=jgn x
 rw [jd6 hx he,e] at h
 simp at h
 omega
theorem jik {s:ByteArray} (h:(j0g 32 s).length<2):tst s=(zST,false):=je4 λx hx he=>by
 obtain ⟨a,b,r,e⟩:=jio (s:=x)
 rw [jeh hx he,e] at h
 simp at h
 omega
theorem js7 (s:ByteArray) (d:D) (hd:dSm d) (K:Bool->D->Res):j3c s d K=bif sNe (j2a d) s then K false zD else K true d:=by
 unfold j3c j98 j97
 rw [jjx d hd]
def jlr (w:List ByteArray) (d:D):D:=
 bif d.1==4 then (d.1,d.2.1,d.2.2.1,d.2.2.2.1,(bif decide (2<w.length) then nth eS w 2 else d.2.2.2.2.1),d.2.2.2.2.2)
 else bif d.1==5 then (d.1,d.2.1,d.2.2.1,d.2.2.2.1,(bif decide (2<w.length) then nth eS w 2 else d.2.2.2.2.1),(bif decide (3<w.length) then nth eS w 3 else d.2.2.2.2.2))
 else d
theorem jr1 {w:List ByteArray} {i:Nat} (h:i<w.length):nth eS w (i:Int)∈w:=by rw [Z92 _ _ _ h];exact List.getElem_mem _
theorem jt1 (w:List ByteArray) (hw:∀ x∈w,x.size<=1048576) (d:D) (hd:dSm d):dSm (jlr w d):=by
 obtain ⟨m1,m2,m3,m4,m5,m6,m7⟩:=hd
 have h2:(bif decide (2<w.length) then nth eS w 2 else d.2.2.2.2.1).size<=1048576:=by
  by_cases h:2<w.length
  ·rw [decide_eq_true h,cond_true];exact hw _ (jr1 h)
  ·rw [decide_eq_false h,cond_false];exact m6
 have h3:(bif decide (3<w.length) then nth eS w 3 else d.2.2.2.2.2).size<=1048576:=by
  by_cases h:3<w.length
  ·rw [decide_eq_true h,cond_true];exact hw _ (jr1 h)
  ·rw [decide_eq_false h,cond_false];exact m7
 unfold jlr
 cases d.1==4
 ·cases d.1==5
  ·exact ⟨m1,m2,m3,m4,m5,m6,m7⟩
  ·exact ⟨m1,m2,m3,m4,m5,h2,h3⟩
 ·exact ⟨m1,m2,m3,m4,m5,h2,m7⟩
theorem js8 (s:ByteArray) (w:List ByteArray) (hw:∀ x∈w,x.size<=1048576) (d:D) (hd:dSm d) (K:Bool->D->Res):j1s s w d K=bif sNe (j2a (jlr w d)) s then K false zD else K true (jlr w d):=by
 rw [<-js7 s _ (jt1 w hw d hd)]
 unfold j1s j2j jlr
 have i2:2<w.length->inb 2 w.length=true:=λh=>Z9c (by omega) (by omega)
 have i3:3<w.length->inb 3 w.length=true:=λh=>Z9c (by omega) (by omega)
 have d2:decide (nI w.length>2)=decide (2<w.length):=decide_eq_decide.2 (by unfold nI;omega)
 have d3:decide (nI w.length>3)=decide (3<w.length):=decide_eq_decide.2 (by unfold nI;omega)
 rw [d2,d3]
 by_cases h4:d.1=4
 ·rw [h4,show ((4:Int)==4)=true from rfl,show ((4:Int)==5)=false from rfl]
  by_cases h:2<w.length
  ·rw [decide_eq_true h,i2 h];simp only [cond_true,cond_false]
  ·rw [decide_eq_false h];simp only [cond_true,cond_false]
   rw [<-h4]
 ·rw [show (d.1==4)=false by simp [h4]]
  by_cases h5:d.1=5
  ·rw [h5,show ((5:Int)==5)=true from rfl]
   by_cases h:2<w.length
   ·rw [decide_eq_true h,i2 h]
    by_cases h':3<w.length
    ·rw [decide_eq_true h',i3 h'];simp only [cond_true,cond_false]
    ·rw [decide_eq_false h'];simp only [cond_true,cond_false]
   ·rw [decide_eq_false h,decide_eq_false (show ¬ 3<w.length by omega)];simp only [cond_true,cond_false]
    rw [<-h5]
  ·rw [show (d.1==5)=false by simp [h5]];rfl
theorem jcu (k:Int) {t:ByteArray} (h:t.size<=1048576):dSm (k,t,[],[],eS,eS):=⟨h,Nat.zero_le _,Nat.zero_le _,(λc hc=>(by cases hc)),(λx hx=>(by cases hx)),Nat.zero_le _,Nat.zero_le _⟩
theorem jmX (s:ByteArray) (hs:s.size<=1048576) (h2:¬ (j0g 32 s).length<2):∃ raw:D,(∀ k,j45 s k=bif sNe (j2a raw) s then k zD false else k raw true)/\∀ x,j1Y x=true->j2a x=s->raw=x:=by
 have hun:∀ k,j45 s k=_:=λk=>by
  unfold j45
  exact j5f s (by omega) _
 have hws:∀ x∈j0g 32 s,x.size<=1048576:=λx hx=>Nat.le_trans (j4J 32 s x hx) hs
 have hwl:=j6d 32 s
 ·have hp:=λ(x:D) (hx:j1Y x=true) (he:j2a x=s)=>jd6 hx he
  generalize hw:j0g 32 s=w at *
  obtain ⟨w0,w1,rest,rfl⟩:∃ a b r,w=a::b::r:=by
   match w,h2 with
   | [],h=>simp at h
   | [_],h=>simp at h
   | a::b::r,_=>exact ⟨a,b,r,rfl⟩
  have hlen:(w0::w1::rest).length=rest.length+2:=rfl
  have e0:nth eS (w0::w1::rest) 0=w0:=rfl
  have e1:nth eS (w0::w1::rest) 1=w1:=rfl
  have e2:(w0::w1::rest).drop 2=rest:=rfl
  have hrs:∀ x∈rest,x.size<=1048576:=λx hx=>hws x (List.mem_cons_of_mem _ (List.mem_cons_of_mem _ hx))
  have h1s:=hws w1 (by simp)
  obtain ⟨cs,ks,c1,c2,c3,c4,c5,c6⟩:=jry rest hrs (by omega) w1
  have hsc:dSm (1,w1,cs,ks,eS,eS):=⟨h1s,c2,c4,c3,c5,Nat.zero_le _,Nat.zero_le _⟩
  have hsa:dSm (3,w1,[j5V tyS rest],[],eS,eS):=⟨h1s,by simp,Nat.zero_le _,(λc hc=>by rw [List.mem_singleton.1 hc];exact jgk _ _ hrs),(λx hx=>(by cases hx)),Nat.zero_le _,Nat.zero_le _⟩
  refine ⟨bif sEq w0 j10 then (1,w1,cs,ks,eS,eS) else bif sEq w0 j3B then (2,w1,[],[],eS,eS) else bif sEq w0 j4j then (3,w1,[j5V tyS rest],[],eS,eS) else bif sEq w0 j6r then jlr (w0::w1::rest) (4,w1,[],[],eS,eS) else bif sEq w0 j2Y then jlr (w0::w1::rest) (5,w1,[],[],eS,eS) else (0,w1,[],[],eS,eS),λk=> ?_,λx hx he=> ?_⟩
  ·rw [hun]
   rw [decide_eq_false (show ¬ nI (w0::w1::rest).length<2 by unfold nI;omega),cond_false,Z9c (by omega) (by omega),cond_true,Z9c (by omega) (by omega),cond_true,jgm (by omega),cond_true,jiu]
   rw [e0,e1,e2,cond_true]
   have hq:=λ(d:D) (hd:dSm d) (K:Bool->D->Res)=>js8 s (w0::w1::rest) hws d hd K
   rw [c1,joK rest hrs (by omega)]
   cases sEq w0 j10
   ·cases sEq w0 j3B
    ·cases sEq w0 j4j
     ·cases sEq w0 j6r
      ·cases sEq w0 j2Y
       ·exact hq _ (jcu 0 h1s) λt t1=>k t1 t
       ·exact hq _ (jcu 5 h1s) λt t1=>k t1 t
      ·exact hq _ (jcu 4 h1s) λt t1=>k t1 t
     ·exact hq _ hsa λt t1=>k t1 t
    ·exact hq _ (jcu 2 h1s) λt t1=>k t1 t
   ·exact hq _ hsc λt t1=>k t1 t
  ·have hpx:=hp x hx he
   obtain ⟨_,hc⟩:=j4H hx
   rcases hc with ⟨t,cs',ks',rfl,hT⟩ | ⟨t,rfl⟩ | ⟨t,c,rfl,hC⟩ | ⟨t,n,rfl,hn⟩ | ⟨t,n,m,rfl,hn,hm⟩
   ·simp only [j1h,beq_self_eq_true,cond_true,List.cons.injEq] at hpx
    obtain ⟨rfl,rfl,hr⟩:=hpx
    have hk:ks'≠[]:=λe=>by
     have:=(j2t hT).2.2.2.1
     rw [e] at this
     simp at this
    obtain ⟨f1,f2⟩:=c6 cs' ks' (λc hc=>by
     obtain ⟨i,hi,rfl⟩:=List.mem_iff_getElem.1 hc
     exact j7u (j2t hT).2.2.2.2.1 i hi) hk hr
    rw [Z8L,cond_true,f1,f2]
   ·simp only [j1h,show ((2:Int)==1)=false from rfl,show ((2:Int)==2)=true from rfl,cond_false,cond_true,List.cons.injEq] at hpx
    obtain ⟨rfl,rfl,hr⟩:=hpx
    rw [j02 (show Z19 j3B≠Z19 j10 by decide),cond_false,Z8L,cond_true]
   ·simp only [j1h,show ((3:Int)==1)=false from rfl,show ((3:Int)==2)=false from rfl,show ((3:Int)==3)=true from rfl,cond_false,cond_true,List.cons.injEq] at hpx
    obtain ⟨rfl,rfl,hr⟩:=hpx
    have:nth zC [c] 0=c:=rfl
    rw [this] at hr
    rw [j02 (show Z19 j4j≠Z19 j10 by decide),cond_false,j02 (show Z19 j4j≠Z19 j3B by decide),cond_false,Z8L,cond_true,hr,jcZ tyS jsj hC]
   ·simp only [j1h,show ((4:Int)==1)=false from rfl,show ((4:Int)==2)=false from rfl,show ((4:Int)==3)=false from rfl,show ((4:Int)==4)=true from rfl,cond_false,cond_true,List.cons.injEq] at hpx
    obtain ⟨rfl,rfl,hr⟩:=hpx
    subst hr
    rw [j02 (show Z19 j6r≠Z19 j10 by decide),cond_false,j02 (show Z19 j6r≠Z19 j3B by decide),cond_false,j02 (show Z19 j6r≠Z19 j4j by decide),cond_false,Z8L,cond_true]
    rfl
   ·simp only [j1h,show ((5:Int)==1)=false from rfl,show ((5:Int)==2)=false from rfl,show ((5:Int)==3)=false from rfl,show ((5:Int)==4)=false from rfl,cond_false,List.cons.injEq] at hpx
    obtain ⟨rfl,rfl,hr⟩:=hpx
    subst hr
    rw [j02 (show Z19 j2Y≠Z19 j10 by decide),cond_false,j02 (show Z19 j2Y≠Z19 j3B by decide),cond_false,j02 (show Z19 j2Y≠Z19 j4j by decide),cond_false,j02 (show Z19 j2Y≠Z19 j6r by decide),cond_false,Z8L,cond_true]
    rfl
theorem jsm {x y:D} (hx:j1Y x=true) (hy:j1Y y=true) (h:j2a x=j2a y) (hs:(j2a y).size<=1048576):x=y:=by
 have h2:¬ (j0g 32 (j2a y)).length<2:=by
  rw [jd6 hy rfl]
  obtain ⟨a,b,r,e⟩:=jgn y
  rw [e];simp
 obtain ⟨raw,_,r2⟩:=jmX (j2a y) hs h2
 rw [<-r2 x hx h,<-r2 y hy rfl]
theorem js6 (s:ByteArray) (hs:s.size<=1048576) (k:D->Bool->Res):j45 s k=k (j7T s).1 (j7T s).2:=by
 by_cases h2:(j0g 32 s).length<2
 ·unfold j45
  rw [j5f s (by omega),decide_eq_true (show nI (j0g 32 s).length<2 by unfold nI;omega),cond_true,jn1 h2]
 ·obtain ⟨raw,r1,r2⟩:=jmX s hs h2
  rw [r1]
  exact jcN raw r2 (λhe=>jqV he (by omega)) k
theorem jrT (s:ByteArray) (hs:s.size<=1048576) (k:D->Bool->Res):j9u s k=k (j7T s).1 (j7T s).2:=by
 unfold j9u
 rw [jbK s (by omega)]
 have hws:∀ x∈j0g 32 s,x.size<=1048576:=λx hx=>Nat.le_trans (j4J 32 s x hx) hs
 have hwl:=j6d 32 s
 by_cases h2:(j0g 32 s).length<2
 ·rw [decide_eq_true (show nI (j0g 32 s).length<2 by unfold nI;omega),cond_true,jn1 h2]
 ·have hp:=λ(x:D) (hx:j1Y x=true) (he:j2a x=s)=>jd6 hx he
  have hne:=λ(d:D) (he:j2a d=s)=>jqV he (show 2<=(j0g 32 s).length by omega)
  generalize hw:j0g 32 s=w at *
  obtain ⟨w0,w1,rest,rfl⟩:∃ a b r,w=a::b::r:=by
   match w,h2 with
   | [],h=>simp at h
   | [_],h=>simp at h
   | a::b::r,_=>exact ⟨a,b,r,rfl⟩
  have hlen:(w0::w1::rest).length=rest.length+2:=rfl
  rw [decide_eq_false (show ¬ nI (w0::w1::rest).length<2 by unfold nI;omega),cond_false,Z9c (by omega) (by omega),cond_true]
  unfold j8V j8U
  dsimp only
  rw [Z9c (i:=0) (by omega) (by omega),cond_true,cond_true,cond_true,cond_true,jgm (by omega),cond_true,cond_true,jiu]
  have e0:nth eS (w0::w1::rest) 0=w0:=rfl
  have e1:nth eS (w0::w1::rest) 1=w1:=rfl
  have e2:(w0::w1::rest).drop 2=rest:=rfl
  rw [e0,e1,e2]
  have hrs:∀ x∈rest,x.size<=1048576:=λx hx=>hws x (List.mem_cons_of_mem _ (List.mem_cons_of_mem _ hx))
  have h1s:=hws w1 (by simp)
  obtain ⟨cs,ks,c1,c2,c3,c4,c5,c6⟩:=jrj rest hrs (by omega) w1
  have hsc:dSm (1,w1,cs,ks,eS,eS):=⟨h1s,c2,c4,c3,c5,Nat.zero_le _,Nat.zero_le _⟩
  have hsa:dSm (3,w1,[j5V tyI rest],[],eS,eS):=⟨h1s,by simp,Nat.zero_le _,(λc hc=>by rw [List.mem_singleton.1 hc];exact jgk _ _ hrs),(λx hx=>(by cases hx)),Nat.zero_le _,Nat.zero_le _⟩
  have d3:(nI (w0::w1::rest).length==3)=decide (rest.length=1):=by
   unfold nI
   by_cases h:rest.length=1
   ·rw [decide_eq_true h,hlen,h];rfl
   ·rw [decide_eq_false h,hlen];simp;omega
  have d4:(nI (w0::w1::rest).length==4)=decide (rest.length=2):=by
   unfold nI
   by_cases h:rest.length=2
   ·rw [decide_eq_true h,hlen,h];rfl
   ·rw [decide_eq_false h,hlen];simp;omega
  have hsz:∀ i,(nth eS (w0::w1::rest) i).size<=1048576:=λi=>by
   unfold nth
   by_cases h:i.toNat<(w0::w1::rest).length
   ·rw [List.getD_eq_getElem?_getD,List.getElem?_eq_getElem h];exact hws _ (List.getElem_mem _)
   ·rw [List.getD_eq_getElem?_getD,List.getElem?_eq_none (by omega)];exact Nat.zero_le _
  have hs4:dSm (4,w1,[],[],nth eS (w0::w1::rest) 2,eS):=⟨h1s,Nat.zero_le _,Nat.zero_le _,(λc hc=>(by cases hc)),(λx hx=>(by cases hx)),hsz 2,Nat.zero_le _⟩
  have hs5:dSm (5,w1,[],[],nth eS (w0::w1::rest) 2,nth eS (w0::w1::rest) 3):=⟨h1s,Nat.zero_le _,Nat.zero_le _,(λc hc=>(by cases hc)),(λx hx=>(by cases hx)),hsz 2,hsz 3⟩
  refine Eq.trans ?_ (jcN (ok:=j1Y) (T:=j2a) (z:=zD) (s:=s) (bif sEq w0 j10 then (1,w1,cs,ks,eS,eS) else bif sEq w0 j3B then (2,w1,[],[],eS,eS) else bif sEq w0 j4j then (3,w1,[j5V tyI rest],[],eS,eS) else bif sEq w0 j6r&&decide (rest.length=1) then (4,w1,[],[],nth eS (w0::w1::rest) 2,eS) else bif sEq w0 j2Y&&decide (rest.length=2) then (5,w1,[],[],nth eS (w0::w1::rest) 2,nth eS (w0::w1::rest) 3) else (0,w1,[],[],eS,eS)) (λx hx he=> ?_) (λhe=>hne _ he) k)
  ·rw [c1,joC rest hrs (by omega),d3,d4]
   cases sEq w0 j10
   ·cases sEq w0 j3B
    ·cases sEq w0 j4j
     ·simp only [cond_false]
      have hnm:(bif sEq w0 j2Y then (bif decide (rest.length=2) then (bif inb 2 (w0::w1::rest).length then (bif inb 3 (w0::w1::rest).length then j35 (5,w1,[],[],nth eS (w0::w1::rest) 2,nth eS (w0::w1::rest) 3) (λ(r1:ByteArray)=>bif sNe r1 s then k (0,eS,[],[],eS,eS) false else k (5,w1,[],[],nth eS (w0::w1::rest) 2,nth eS (w0::w1::rest) 3) true) else none) else none) else j35 (0,w1,[],[],eS,eS) (λ(r1:ByteArray)=>bif sNe r1 s then k (0,eS,[],[],eS,eS) false else k (0,w1,[],[],eS,eS) true)) else j35 (0,w1,[],[],eS,eS) (λ(r1:ByteArray)=>bif sNe r1 s then k (0,eS,[],[],eS,eS) false else k (0,w1,[],[],eS,eS) true)) =
        bif sNe (j2a (bif sEq w0 j2Y&&decide (rest.length=2) then (5,w1,[],[],nth eS (w0::w1::rest) 2,nth eS (w0::w1::rest) 3) else (0,w1,[],[],eS,eS))) s then k zD false else k (bif sEq w0 j2Y&&decide (rest.length=2) then (5,w1,[],[],nth eS (w0::w1::rest) 2,nth eS (w0::w1::rest) 3) else (0,w1,[],[],eS,eS)) true:=by
       rw [j6w _ (jcu 0 h1s),j6w _ hs5]
       cases sEq w0 j2Y
       ·rfl
       ·by_cases h:rest.length=2
        ·rw [decide_eq_true h,Z9c (by omega) (by omega),Z9c (by omega) (by omega)];rfl
        ·rw [decide_eq_false h];rfl
      cases sEq w0 j6r
      ·simp only [cond_false,Bool.false_and]
       exact hnm
      ·by_cases h:rest.length=1
       ·rw [decide_eq_true h,Z9c (by omega) (by omega)]
        simp only [cond_true,Bool.true_and]
        rw [j6w _ hs4]
       ·rw [decide_eq_false h]
        simp only [cond_true,cond_false,Bool.and_false]
        exact hnm
     ·exact j6w _ hsa λ(r1:ByteArray)=>bif sNe r1 s then k (0,eS,[],[],eS,eS) false else k (3,w1,[j5V tyI rest],[],eS,eS) true
    ·exact j6w _ (jcu 2 h1s) λ(r1:ByteArray)=>bif sNe r1 s then k (0,eS,[],[],eS,eS) false else k (2,w1,[],[],eS,eS) true
   ·exact j6w _ hsc λ(r1:ByteArray)=>bif sNe r1 s then k (0,eS,[],[],eS,eS) false else k (1,w1,cs,ks,eS,eS) true
  ·have hpx:=hp x hx he
   obtain ⟨_,hc⟩:=j4H hx
   rcases hc with ⟨t,cs',ks',rfl,hT⟩ | ⟨t,rfl⟩ | ⟨t,c,rfl,hC⟩ | ⟨t,n,rfl,hn⟩ | ⟨t,n,m,rfl,hn,hm⟩
   ·simp only [j1h,beq_self_eq_true,cond_true,List.cons.injEq] at hpx
    obtain ⟨rfl,rfl,hr⟩:=hpx
    have hk:ks'≠[]:=λe=>by
     have:=(j2t hT).2.2.2.1
     rw [e] at this
     simp at this
    obtain ⟨f1,f2⟩:=c6 cs' ks' (λc hc=>by
     obtain ⟨i,hi,rfl⟩:=List.mem_iff_getElem.1 hc
     exact j7u (j2t hT).2.2.2.2.1 i hi) hk hr
    rw [Z8L,cond_true,f1,f2]
   ·simp only [j1h,show ((2:Int)==1)=false from rfl,show ((2:Int)==2)=true from rfl,cond_false,cond_true,List.cons.injEq] at hpx
    obtain ⟨rfl,rfl,hr⟩:=hpx
    rw [j02 (show Z19 j3B≠Z19 j10 by decide),cond_false,Z8L,cond_true]
   ·simp only [j1h,show ((3:Int)==1)=false from rfl,show ((3:Int)==2)=false from rfl,show ((3:Int)==3)=true from rfl,cond_false,cond_true,List.cons.injEq] at hpx
    obtain ⟨rfl,rfl,hr⟩:=hpx
    have:nth zC [c] 0=c:=rfl
    rw [this] at hr
    rw [j02 (show Z19 j4j≠Z19 j10 by decide),cond_false,j02 (show Z19 j4j≠Z19 j3B by decide),cond_false,Z8L,cond_true,hr,jcZ tyI jsi hC]
   ·simp only [j1h,show ((4:Int)==1)=false from rfl,show ((4:Int)==2)=false from rfl,show ((4:Int)==3)=false from rfl,show ((4:Int)==4)=true from rfl,cond_false,cond_true,List.cons.injEq] at hpx
    obtain ⟨rfl,rfl,hr⟩:=hpx
    subst hr
    rw [j02 (show Z19 j6r≠Z19 j10 by decide),cond_false,j02 (show Z19 j6r≠Z19 j3B by decide),cond_false,j02 (show Z19 j6r≠Z19 j4j by decide),cond_false,Z8L]
    rfl
   ·simp only [j1h,show ((5:Int)==1)=false from rfl,show ((5:Int)==2)=false from rfl,show ((5:Int)==3)=false from rfl,show ((5:Int)==4)=false from rfl,cond_false,List.cons.injEq] at hpx
    obtain ⟨rfl,rfl,hr⟩:=hpx
    subst hr
    rw [j02 (show Z19 j2Y≠Z19 j10 by decide),cond_false,j02 (show Z19 j2Y≠Z19 j3B by decide),cond_false,j02 (show Z19 j2Y≠Z19 j4j by decide),cond_false,j02 (show Z19 j2Y≠Z19 j6r by decide),Z8L]
    rfl
end Go.PI.G
