/-
  Program's code interpreted over typed values; printed texts; plain laws. No conditions.
-/
import Derived.Test.YtiieddiheadocaaGreatTm
import Derived.Test.YtiieddiheadocaaGreatTk
set_option linter.unusedVariables false
set_option linter.unusedSimpArgs false
namespace Go.PI.G
open Go Go.PI Go.Proofs
theorem jkD (f:ByteArray->V) (hf:∀ v,j0u v=true->f (j07 v)=v):(l:List V)->(∀ v∈l,j0u v=true)->(l.map j07).map f=l
 | [],_=>rfl
 | v::l,h=>by
  rw [List.map_cons,List.map_cons,hf v (h v (by simp)),jkD f hf l λx hx=>h x (List.mem_cons_of_mem _ hx)]
noncomputable def rdS (x:ByteArray):V:=(jcj x).1
noncomputable def rdI (x:ByteArray):V:=bif (jcj x).2 then (jcj x).1 else (-1,0,eS)
theorem jtb (v:V) (h:j0u v=true):rdS (j07 v)=v:=by unfold rdS;rw [jgi h]
theorem jta (v:V) (h:j0u v=true):rdI (j07 v)=v:=by unfold rdI;rw [jgi h];rfl
theorem jd5 (w:List ByteArray) (hw:∀ x∈w,x.size<=1048576) (hl:w.length<=1048577) (k:List V->Res):j49 w k=k ((w.map rdS).take 9):=by
 unfold j49 jce
 have key:=Z8q w.length (λi out=>(out,i)) (λi _=>((w.take (i+1)).map rdS).take 9) (λi out=>out=((w.take i).map rdS).take 9) (step:=j6R w (nI w.length)) (λout=>k out) k [] (by unfold LIM;omega) rfl (λi out hi ho=>rfl) (λi out rec hi ho=>by
  show j4A _ _ _ _ _ _=_
  unfold j4A
  dsimp only
  have hs:=hw w[i] (List.getElem_mem hi)
  have hlen:out.length=min 9 i:=by rw [ho,List.length_take,List.length_map,List.length_take];omega
  rw [Z9i hi,cond_true,j0n hi,cond_true,Z92 _ _ _ hi,joM _ (by unfold LIM;omega),j05 (by omega)]
  have e:(w.take (i+1)).map rdS=(w.take i).map rdS++[rdS w[i]]:=map_take w rdS i hi
  rw [e]
  by_cases h9:i<9
  ·rw [decide_eq_true (show nI out.length<=8 by unfold nI;omega),cond_true,Z9d (by unfold LIM;omega),cond_true]
   have h1:((w.take i).map rdS).length=i:=by rw [List.length_map,List.length_take];omega
   rw [List.take_of_length_le (by rw [List.length_append,List.length_singleton];omega),ho,List.take_of_length_le (by omega)]
   rfl
  ·rw [decide_eq_false (show ¬ nI out.length<=8 by unfold nI;omega),cond_false]
   have h1:((w.take i).map rdS).length=i:=by rw [List.length_map,List.length_take];omega
   rw [List.take_append_of_le_length (by omega),ho]) (λout rec ho=>by
  show j4A _ _ _ _ _ _=_
  unfold j4A
  dsimp only
  rw [Z9h,cond_false])
 have hq:=key.2
 rw [hq,List.take_length] at key
 exact key.1
theorem jd0 (w:List ByteArray) (hw:∀ x∈w,x.size<=1048576) (hl:w.length<=1048577) (k:List V->Res):j32 w k=k (w.map rdI):=by
 unfold j32 jcK
 have key:=Z8q w.length (λi out=>(out,i)) (λi _=>(w.take (i+1)).map rdI) (λi out=>out=(w.take i).map rdI) (step:=j7J w (nI w.length)) (λout=>k out) k [] (by unfold LIM;omega) rfl (λi out hi ho=>rfl) (λi out rec hi ho=>by
  show j56 _ _ _ _ _ _=_
  unfold j56
  dsimp only
  have hs:=hw w[i] (List.getElem_mem hi)
  have hlen:out.length<=i:=by rw [ho,List.length_map,List.length_take];omega
  rw [Z9i hi,cond_true,j0n hi,cond_true,Z92 _ _ _ hi,joE _ (by omega),j05 (by omega),Z9d (by unfold LIM;omega),cond_true,cond_true,map_take w rdI i hi,ho]
  unfold rdI
  cases (jcj w[i]).2<;>rfl) (λout rec ho=>by
  show j56 _ _ _ _ _ _=_
  unfold j56
  dsimp only
  rw [Z9h,cond_false])
 have hq:=key.2
 rw [hq,List.take_length] at key
 exact key.1
theorem jtn {v:V} (h:j0u v=true):j07 v≠j1C:=λhe=>by
 have hb:=congrArg Z19 he
 have ht:Z19 j1C=[116,111]:=rfl
 rw [ht] at hb
 rcases jdd h with ⟨rfl,e⟩ | ⟨rfl,e⟩ | ⟨rfl,e⟩ | ⟨n,rfl,hn,e⟩ | ⟨s,rfl,hs,e⟩
 ·rw [e] at hb;exact absurd hb (by decide)
 ·rw [e] at hb;exact absurd hb (by decide)
 ·rw [e] at hb;exact absurd hb (by decide)
 ·obtain ⟨x,xs,h1,h2⟩:=j7v hn
  rw [e,h1] at hb
  have:=(List.cons.inj hb).1
  omega
 ·rw [e] at hb
  have:=(List.cons.inj hb).1
  omega
theorem jsb (w:List ByteArray) (hl:w.length<=1048577) (k:Int->Res):jcf w k=k (bif decide (Z8b (λx=>sEq x j1C) w<0) then (w.length:Int) else Z8b (λx=>sEq x j1C) w):=by
 unfold jcf jdy
 refine Z8o w (λi=>i) (λx=>sEq x j1C) (step:=j9b w (nI w.length)) ((λ(_:Unit)=>k (nI w.length)),(λ(t:Int)=>k t)) (λr=>k (bif decide (r<0) then (w.length:Int) else r)) (by unfold LIM;omega) (λi rec hi=> ?_) (λrec=> ?_)
 ·show j6m _ _ _ _ _ _=_
  unfold j6m
  rw [Z9i hi,cond_true,j0n hi,cond_true,Z92 _ _ _ hi,j05 (n:=(i:Int)+1) (by omega),decide_eq_false (show ¬ (i:Int)<0 by omega),cond_false]
 ·show j6m _ _ _ _ _ _=_
  unfold j6m
  rw [Z9h,cond_false]
  rfl
theorem jrE (q r:List V) (hq:∀ v∈q,j0u v=true):Z8b (λx=>sEq x j1C) (q.map j07++j1C::r.map j07)=(q.length:Int):=by
 have:=j7A (λx=>sEq x j1C) (q.map j07) j1C (r.map j07) (λx hx=>by
  obtain ⟨v,hv,rfl⟩:=List.mem_map.1 hx
  exact jia (jtn (hq v hv))) (Z8L _)
 rw [this,List.length_map]
theorem jss (w:List ByteArray):Z8b (λx=>sEq j1C x) w=Z8b (λx=>sEq x j1C) w:=by
 congr 1
 funext x
 exact Z8K _ _
theorem j2W (k:Int) {t:ByteArray} {q r:List V} {d:D} (ht:t.size<=1048576) (hq:q.length<=1048576) (hr:r.length<=1048576) (hd:dSm d):j2y (k,t,q,r,d):=⟨ht,hq,hr,hd⟩
theorem jt0 {s:ByteArray} (hs:s.size<=1048576):dSm (j7T s).1:=by
 cases h:(j7T s).2
 ·have e:(j7T s).1=zD:=(jmR h).1
  rw [e];exact j1X
 ·obtain ⟨h1,h2⟩:=ji8 h
  have h1:j1Y (j7T s).1=true:=h1
  have hp:j0g 32 s=j1h (j7T s).1:=jd6 h1 h2
  have hws:∀ x∈j1h (j7T s).1,x.size<=1048576:=λx hx=>Nat.le_trans (j4J 32 s x (by rw [hp];exact hx)) hs
  have hwl:=j6d 32 s
  rw [hp] at hwl
  clear hp h2
  generalize (j7T s).1=d at h1 hws hwl
  obtain ⟨h0,hc⟩:=j4H h1
  rcases hc with ⟨t,cs',ks',rfl,hT⟩ | ⟨t,rfl⟩ | ⟨t,c,rfl,hC⟩ | ⟨t,n,rfl,hn⟩ | ⟨t,n,m,rfl,hn,hm⟩
  ·have hw0:=j0o h0
   have h8:=(j2t hT).2.2.1
   have e:(j1h (1,t,cs',ks',eS,eS)).length=(cs'.flatMap j1S++(j2d::ks')).length+1+1:=rfl
   rw [e,List.length_append,List.length_cons] at hwl
   dsimp only at hw0 h8
   exact ⟨by show t.size<=_;omega,by show cs'.length<=_;omega,by show ks'.length<=_;omega,λc hc=>by
    obtain ⟨i,hi,rfl⟩:=List.mem_iff_getElem.1 hc
    have h9:(cs'[i]'hi).1.size<=8:=(j0o (j5U (j7u (j2t hT).2.2.2.2.1 i hi)).1).2
    show (cs'[i]'hi).1.size<=_
    omega,λx hx=>by have:=j0o (jkC hT x hx);omega,Nat.zero_le _,Nat.zero_le _⟩
  ·exact jcu 2 (by have:=j0o h0;dsimp only at this;omega)
  ·have:=j0o h0
   have h2:=j0o (j5U hC).1
   exact ⟨by dsimp only at this ⊢;omega,by show (1:Nat)<=_;omega,Nat.zero_le _,λx hx=>by rw [List.mem_singleton.1 hx];omega,(λx hx=>(by cases hx)),Nat.zero_le _,Nat.zero_le _⟩
  ·have:=j0o h0
   have h2:=j0o hn
   exact ⟨by dsimp only at this ⊢;omega,Nat.zero_le _,Nat.zero_le _,(λc hc=>(by cases hc)),(λx hx=>(by cases hx)),by dsimp only;omega,Nat.zero_le _⟩
  ·have:=j0o h0
   have h2:=j0o hn
   have h3:=j0o hm
   exact ⟨by dsimp only at this ⊢;omega,Nat.zero_le _,Nat.zero_le _,(λc hc=>(by cases hc)),(λx hx=>(by cases hx)),by dsimp only;omega,by dsimp only;omega⟩
theorem jr7 {d:D} {s:ByteArray} (hd:j1Y d=true) (he:j2a d=s) (hs:s.size<=1048576):j7T s=(d,true):=
 jgF hd he λy hy hye=>jsm hy hd (hye.trans he.symm) (by rw [he];exact hs)
theorem j8y {w:List ByteArray} (hl:w.length<=1048577):((w.map rdS).take 9).length<=1048576:=by rw [List.length_take];omega
theorem jtm {l:List V} (h:l.length<=8):l.take 9=l:=List.take_of_length_le (by omega)
theorem jpu (l:List V) (h:j1R l=true):((l.map j07).map rdS).take 9=l:=by
 rw [jkD rdS jtb l (j0v h).2.2,jtm (j0v h).2.1]
theorem jpv (l:List V) (h:j1R l=true):(l.map j07).map rdI=l:=jkD rdI jta l (j0v h).2.2
theorem jgG (s:ByteArray) (hs:s.size<=1048576) (h2:¬ (j0g 32 s).length<2):∃ raw:ST,(∀ k,j3r s k=bif sNe (stT raw) s then k zST false else k raw true)/\(∀ x,stB x=true->stT x=s->raw=x)/\j2y raw:=by
 have hun:∀ k,j3r s k=_:=λk=>by
  unfold j3r
  exact j5f s (by omega) _
 have hws:∀ x∈j0g 32 s,x.size<=1048576:=λx hx=>Nat.le_trans (j4J 32 s x hx) hs
 have hwl:=j6d 32 s
 have hp:=λ(x:ST) (hx:stB x=true) (he:stT x=s)=>jeh hx he
 have hsd:=jt0 hs
 have htd:=λ(d:D) (hd:j1Y d=true) (he:j2a d=s)=>jr7 hd he hs
 generalize hw:j0g 32 s=w at *
 obtain ⟨w0,w1,rest,rfl⟩:∃ a b r,w=a::b::r:=by
  match w,h2 with
  | [],h=>simp at h
  | [_],h=>simp at h
  | a::b::r,_=>exact ⟨a,b,r,rfl⟩
 have hlen:(w0::w1::rest).length=rest.length+2:=rfl
 have e0:nth eS (w0::w1::rest) 0=w0:=rfl
 have e1:nth eS (w0::w1::rest) 1=w1:=rfl
 have e2:(w0::w1::rest).drop 2=rest:=rfl
 have hrs:∀ x∈rest,x.size<=1048576:=λx hx=>hws x (List.mem_cons_of_mem _ (List.mem_cons_of_mem _ hx))
 have h1s:=hws w1 (by simp)
 have hrl:rest.length<=1048577:=by omega
 obtain ⟨j,hj,hjt⟩:∃ j:Nat,j<=rest.length/\(bif decide (Z8b (λx=>sEq x j1C) rest<0) then (rest.length:Int) else Z8b (λx=>sEq x j1C) rest)=(j:Int):=by
  by_cases h:Z8b (λx=>sEq x j1C) rest<0
  ·exact ⟨rest.length,by omega,by rw [decide_eq_true h,cond_true]⟩
  ·obtain ⟨i,hi,q1,q2⟩:=jhW (show 0<=Z8b (λx=>sEq x j1C) rest by omega)
   exact ⟨i,by omega,by rw [decide_eq_false h,cond_false,q1]⟩
 have hta:∀ x∈(rest.take j).drop 0,x.size<=1048576:=λx hx=>hrs x (List.mem_of_mem_take (List.mem_of_mem_drop hx))
 have htb:∀ x∈rest.drop (j+1),x.size<=1048576:=λx hx=>hrs x (List.mem_of_mem_drop hx)
 have hla:((rest.take j).drop 0).length<=1048577:=by rw [List.length_drop,List.length_take];omega
 have hlb:(rest.drop (j+1)).length<=1048577:=by rw [List.length_drop];omega
 refine ⟨bif sEq w0 j0V then (1,w1,[],(rest.map rdS).take 9,zD) else bif sEq w0 j0F then (2,w1,(((rest.take j).drop 0).map rdS).take 9,(bif decide (j<rest.length) then ((rest.drop (j+1)).map rdS).take 9 else []),zD) else bif sEq w0 j0U then (3,w1,(rest.map rdS).take 9,[],zD) else bif sEq w0 j1T then (4,w1,[],[],zD) else (5,w1,[],[],(j7T s).1),λk=> ?_,λx hx he=> ?_,?_⟩
 ·rw [hun]
  rw [decide_eq_false (show ¬ nI (w0::w1::rest).length<2 by unfold nI;omega),cond_false,Z9c (by omega) (by omega),cond_true,jgm (by omega),cond_true,jiu,e2,jsb rest hrl,Z9c (by omega) (by omega),cond_true,hjt,e0,e1]
  unfold j7O
  dsimp only
  have l9:=j8y hrl
  have l9a:=j8y hla
  have l9b:=j8y hlb
  rw [jd5 rest hrs hrl,jd5 rest hrs hrl,js6 s hs,show Z6R 0 (j:Int) rest.length=true from decide_eq_true (by omega),cond_true,show sub rest 0 (j:Int)=(rest.take j).drop 0 from jit rest 0 j,jd5 _ hta hla]
  cases sEq w0 j0V
  ·cases sEq w0 j0F
   ·cases sEq w0 j0U
    ·cases sEq w0 j1T
     ·exact j7K _ (j2W 5 h1s (Nat.zero_le _) (Nat.zero_le _) hsd) λr2=>bif sNe r2 s then k zST false else k (5,w1,[],[],(j7T s).1) true
     ·exact j7K _ (j2W 4 h1s (Nat.zero_le _) (Nat.zero_le _) j1X) λr2=>bif sNe r2 s then k zST false else k (4,w1,[],[],zD) true
    ·exact j7K _ (j2W 3 h1s l9 (Nat.zero_le _) j1X) λr2=>bif sNe r2 s then k zST false else k (3,w1,(rest.map rdS).take 9,[],zD) true
   ·simp only [cond_false,cond_true]
    by_cases hjl:j<rest.length
    ·rw [decide_eq_true (show (j:Int)<nI rest.length by unfold nI;omega),decide_eq_true hjl,cond_true,cond_true,j05 (n:=(j:Int)+1) (by omega),show (j:Int)+1=((j+1:Nat):Int) by omega,j4l (by omega),cond_true,j7S,jd5 _ htb hlb]
     exact j7K _ (j2W 2 h1s l9a l9b j1X) λr2=>bif sNe r2 s then k zST false else k (2,w1,(((rest.take j).drop 0).map rdS).take 9,((rest.drop (j+1)).map rdS).take 9,zD) true
    ·rw [decide_eq_false (show ¬ (j:Int)<nI rest.length by unfold nI;omega),decide_eq_false hjl,cond_false,cond_false]
     exact j7K _ (j2W 2 h1s l9a (Nat.zero_le _) j1X) λr2=>bif sNe r2 s then k zST false else k (2,w1,(((rest.take j).drop 0).map rdS).take 9,[],zD) true
  ·exact j7K _ (j2W 1 h1s (Nat.zero_le _) l9 j1X) λr2=>bif sNe r2 s then k zST false else k (1,w1,[],(rest.map rdS).take 9,zD) true
 ·have hpx:=hp x hx he
  obtain ⟨hw0,hc⟩:=j9K hx
  rcases hc with ⟨t,r,rfl,hr⟩ | ⟨t,q,r,rfl,hq,hr⟩ | ⟨t,q,rfl,hq⟩ | ⟨t,rfl⟩ | ⟨d,rfl,hd⟩
  ·simp only [stW,beq_self_eq_true,cond_true,List.cons.injEq] at hpx
   obtain ⟨rfl,rfl,hh⟩:=hpx
   rw [Z8L,cond_true,hh,jpu r hr]
  ·simp only [stW,show ((2:Int)==1)=false from rfl,show ((2:Int)==2)=true from rfl,cond_false,cond_true,List.cons.injEq] at hpx
   obtain ⟨rfl,rfl,hh⟩:=hpx
   have hat:=jrE q r (j0v hq).2.2
   rw [<-hh] at hat
   have ej:j=q.length:=by
    rw [hat,decide_eq_false (by omega),cond_false] at hjt
    omega
   have hjl:j<rest.length:=by
    rw [hh,List.length_append,List.length_cons,List.length_map];omega
   have ea:(rest.take j).drop 0=q.map j07:=by
    rw [List.drop_zero,hh,ej,show q.length=(q.map j07).length by rw [List.length_map],List.take_left]
   have eb:rest.drop (j+1)=r.map j07:=by
    rw [hh,ej,<-List.drop_drop,show q.length=(q.map j07).length by rw [List.length_map],List.drop_left]
    rfl
   rw [j02 (show Z19 j0F≠Z19 j0V by decide),cond_false,Z8L,cond_true,decide_eq_true hjl,cond_true,ea,eb,jpu q hq,jpu r hr]
  ·simp only [stW,show ((3:Int)==1)=false from rfl,show ((3:Int)==2)=false from rfl,show ((3:Int)==3)=true from rfl,cond_false,cond_true,List.cons.injEq] at hpx
   obtain ⟨rfl,rfl,hh⟩:=hpx
   rw [j02 (show Z19 j0U≠Z19 j0V by decide),cond_false,j02 (show Z19 j0U≠Z19 j0F by decide),cond_false,Z8L,cond_true,hh,jpu q hq]
  ·simp only [stW,show ((4:Int)==1)=false from rfl,show ((4:Int)==2)=false from rfl,show ((4:Int)==3)=false from rfl,show ((4:Int)==4)=true from rfl,cond_false,cond_true,List.cons.injEq] at hpx
   obtain ⟨rfl,rfl,hh⟩:=hpx
   rw [j02 (show Z19 j1T≠Z19 j0V by decide),cond_false,j02 (show Z19 j1T≠Z19 j0F by decide),cond_false,j02 (show Z19 j1T≠Z19 j0U by decide),cond_false,Z8L,cond_true]
  ·have hdt:j2a d=s:=by
    rw [<-he]
    unfold stT j2a
    rw [hx,hd]
    rfl
   rw [htd d hd hdt]
   have hst:stW (5,d.2.1,[],[],d)=j1h d:=rfl
   rw [hst] at hpx
   obtain ⟨hd0,hc⟩:=j4H hd
   have hf:∀ {z:ByteArray},w0=z->Z19 z≠Z19 j0V->Z19 z≠Z19 j0F->Z19 z≠Z19 j0U->Z19 z≠Z19 j1T->w1=d.2.1->(bif sEq w0 j0V then (1,w1,[],(rest.map rdS).take 9,zD) else bif sEq w0 j0F then (2,w1,(((rest.take j).drop 0).map rdS).take 9,(bif decide (j<rest.length) then ((rest.drop (j+1)).map rdS).take 9 else []),zD) else bif sEq w0 j0U then (3,w1,(rest.map rdS).take 9,[],zD) else bif sEq w0 j1T then (4,w1,[],[],zD) else (5,w1,[],[],d):ST)=(5,d.2.1,[],[],d):=λ{z} hz n1 n2 n3 n4 ht=>by
    rw [hz,j02 n1,j02 n2,j02 n3,j02 n4,ht]
    rfl
   rcases hc with ⟨t,cs',ks',rfl,hT⟩ | ⟨t,rfl⟩ | ⟨t,c,rfl,hC⟩ | ⟨t,n,rfl,hn⟩ | ⟨t,n,m,rfl,hn,hm⟩
   ·simp only [j1h,beq_self_eq_true,cond_true,List.cons.injEq] at hpx
    exact hf hpx.1 (by decide) (by decide) (by decide) (by decide) hpx.2.1
   ·simp only [j1h,show ((2:Int)==1)=false from rfl,show ((2:Int)==2)=true from rfl,cond_false,cond_true,List.cons.injEq] at hpx
    exact hf hpx.1 (by decide) (by decide) (by decide) (by decide) hpx.2.1
   ·simp only [j1h,show ((3:Int)==1)=false from rfl,show ((3:Int)==2)=false from rfl,show ((3:Int)==3)=true from rfl,cond_false,cond_true,List.cons.injEq] at hpx
    exact hf hpx.1 (by decide) (by decide) (by decide) (by decide) hpx.2.1
   ·simp only [j1h,show ((4:Int)==1)=false from rfl,show ((4:Int)==2)=false from rfl,show ((4:Int)==3)=false from rfl,show ((4:Int)==4)=true from rfl,cond_false,cond_true,List.cons.injEq] at hpx
    exact hf hpx.1 (by decide) (by decide) (by decide) (by decide) hpx.2.1
   ·simp only [j1h,show ((5:Int)==1)=false from rfl,show ((5:Int)==2)=false from rfl,show ((5:Int)==3)=false from rfl,show ((5:Int)==4)=false from rfl,cond_false,List.cons.injEq] at hpx
    exact hf hpx.1 (by decide) (by decide) (by decide) (by decide) hpx.2.1
 ·have l9:=j8y hrl
  have l9a:=j8y hla
  have l9b:=j8y hlb
  cases sEq w0 j0V
  ·cases sEq w0 j0F
   ·cases sEq w0 j0U
    ·cases sEq w0 j1T
     ·exact j2W 5 h1s (Nat.zero_le _) (Nat.zero_le _) hsd
     ·exact j2W 4 h1s (Nat.zero_le _) (Nat.zero_le _) j1X
    ·exact j2W 3 h1s l9 (Nat.zero_le _) j1X
   ·cases decide (j<rest.length)
    ·exact j2W 2 h1s l9a (Nat.zero_le _) j1X
    ·exact j2W 2 h1s l9a l9b j1X
  ·exact j2W 1 h1s (Nat.zero_le _) l9 j1X
theorem jsY {x y:ST} (hx:stB x=true) (hy:stB y=true) (h:stT x=stT y) (hs:(stT y).size<=1048576):x=y:=by
 have h2:¬ (j0g 32 (stT y)).length<2:=by
  rw [jeh hy rfl]
  obtain ⟨a,b,r,e⟩:=jio (s:=y)
  rw [e];simp
 obtain ⟨raw,_,r2,_⟩:=jgG (stT y) hs h2
 rw [<-r2 x hx h,<-r2 y hy rfl]
theorem jsf {x:ST} {s:ByteArray} (hx:stB x=true) (he:stT x=s) (hs:s.size<=1048576):tst s=(x,true):=
 jgF hx he λy hy hye=>jsY hy hx (hye.trans he.symm) (by rw [he];exact hs)
theorem jsa (s:ByteArray) (hs:s.size<=1048576) (k:ST->Bool->Res):j3r s k=k (tst s).1 (tst s).2:=by
 by_cases h2:(j0g 32 s).length<2
 ·unfold j3r
  rw [j5f s (by omega),decide_eq_true (show nI (j0g 32 s).length<2 by unfold nI;omega),cond_true,jik h2]
 ·obtain ⟨raw,r1,r2,r3⟩:=jgG s hs h2
  rw [r1]
  exact jcN raw r2 (λhe=>jsc he (by omega)) k
theorem jtf {s:ByteArray} (hs:s.size<=1048576):j2y (tst s).1:=by
 cases h:(tst s).2
 ·have e:(tst s).1=zST:=(jmR h).1
  rw [e];exact j7w
 ·obtain ⟨h1,h2⟩:=ji8 h
  have h1:stB (tst s).1=true:=h1
  have h2:stT (tst s).1=s:=h2
  have hn:¬ (j0g 32 s).length<2:=by
   rw [jeh h1 h2]
   obtain ⟨a,b,r,e⟩:=jio (s:=(tst s).1)
   rw [e];simp
  obtain ⟨raw,_,r2,r3⟩:=jgG s hs hn
  rw [<-r2 _ h1 h2]
  exact r3
theorem jrV (s:ByteArray) (hs:s.size<=1048576) (k:ST->Bool->Res):j5B s k=k (tst s).1 (tst s).2:=by
 unfold j5B
 rw [jrT s hs]
 cases hok:(j7T s).2
 rotate_left
 ·obtain ⟨h1,h2⟩:=ji8 hok
  have h1:j1Y (j7T s).1=true:=h1
  have h2:j2a (j7T s).1=s:=h2
  rw [cond_true]
  generalize (j7T s).1=d at h1 h2
  have hb:stB (5,d.2.1,[],[],d)=true:=by
   unfold stB
   dsimp only
   rw [jou h1,h1,Z8L]
   rfl
  have ht:stT (5,d.2.1,[],[],d)=s:=by
   rw [<-h2]
   unfold stT j2a
   rw [hb,h1]
   rfl
  rw [jsf hb ht hs]
 ·rw [cond_false,jbK s (by omega)]
  have hws:∀ x∈j0g 32 s,x.size<=1048576:=λx hx=>Nat.le_trans (j4J 32 s x hx) hs
  have hwl:=j6d 32 s
  by_cases h2:(j0g 32 s).length<2
  ·rw [decide_eq_true (show nI (j0g 32 s).length<2 by unfold nI;omega),cond_true,jik h2]
  ·have hp:=λ(x:ST) (hx:stB x=true) (he:stT x=s)=>jeh hx he
   have hne:=λ(d:ST) (he:stT d=s)=>jsc he (show 2<=(j0g 32 s).length by omega)
   have htd:=λ(d:D) (hd:j1Y d=true) (he:j2a d=s)=>jr7 hd he hs
   generalize hw:j0g 32 s=w at *
   obtain ⟨w0,w1,rest,rfl⟩:∃ a b r,w=a::b::r:=by
    match w,h2 with
    | [],h=>simp at h
    | [_],h=>simp at h
    | a::b::r,_=>exact ⟨a,b,r,rfl⟩
   have hlen:(w0::w1::rest).length=rest.length+2:=rfl
   have e0:nth eS (w0::w1::rest) 0=w0:=rfl
   have e1:nth eS (w0::w1::rest) 1=w1:=rfl
   have e2:(w0::w1::rest).drop 2=rest:=rfl
   have hrs:∀ x∈rest,x.size<=1048576:=λx hx=>hws x (List.mem_cons_of_mem _ (List.mem_cons_of_mem _ hx))
   have h1s:=hws w1 (by simp)
   have hrl:rest.length<=1048575:=by omega
   rw [decide_eq_false (show ¬ nI (w0::w1::rest).length<2 by unfold nI;omega),cond_false,Z9c (by omega) (by omega),cond_true,jgm (by omega),cond_true,Z9c (by omega) (by omega),cond_true,jiu,e2,e0,e1]
   unfold j7E
   dsimp only
   rw [jd0 rest hrs (by omega),jd0 rest hrs (by omega),jeL rest j1C (by unfold LIM;omega),jss]
   have lm:(rest.map rdI).length<=1048576:=by rw [List.length_map];omega
   obtain ⟨q0,r0,hq0,hr0,hpair,hback⟩:∃ (q r:List V),q.length<=1048576/\r.length<=1048576 /\
     (∀ K:ST->Res,(bif decide (Z8b (λx=>sEq x j1C) rest>=0) then (bif Z6R 0 (Z8b (λx=>sEq x j1C) rest) rest.length then j32 (sub rest 0 (Z8b (λx=>sEq x j1C) rest)) (λr2=>bif Z6R (Z8g (Z8b (λx=>sEq x j1C) rest+1)) (nI rest.length) rest.length then j32 (sub rest (Z8g (Z8b (λx=>sEq x j1C) rest+1)) (nI rest.length)) (λr3=>K (2,w1,r2,r3,zD)) else none) else none) else K (2,w1,[],[],zD))=K (2,w1,q,r,zD)) /\
     ∀ q' r',j1R q'=true->j1R r'=true->rest=q'.map j07++j1C::r'.map j07->q=q'/\r=r':=by
    by_cases hi:Z8b (λx=>sEq x j1C) rest<0
    ·refine ⟨[],[],Nat.zero_le _,Nat.zero_le _,λK=> ?_,λq' r' hq hr hh=> ?_⟩
     ·rw [decide_eq_false (show ¬ Z8b (λx=>sEq x j1C) rest>=0 by omega),cond_false]
     ·have:=jrE q' r' (j0v hq).2.2
      rw [<-hh] at this
      omega
    ·obtain ⟨j,hj,j1,j2⟩:=jhW (show 0<=Z8b (λx=>sEq x j1C) rest by omega)
     refine ⟨((rest.take j).drop 0).map rdI,(rest.drop (j+1)).map rdI,by rw [List.length_map,List.length_drop,List.length_take];omega,by rw [List.length_map,List.length_drop];omega,λK=> ?_,λq' r' hq hr hh=> ?_⟩
     ·rw [j1,decide_eq_true (show (j:Int)>=0 by omega),cond_true,show Z6R 0 (j:Int) rest.length=true from decide_eq_true (by omega),cond_true,show sub rest 0 (j:Int)=(rest.take j).drop 0 from jit rest 0 j,jd0 _ (λx hx=>hrs x (List.mem_of_mem_take (List.mem_of_mem_drop hx))) (by rw [List.length_drop,List.length_take];omega),j05 (n:=(j:Int)+1) (by omega),show (j:Int)+1=((j+1:Nat):Int) by omega,j4l (by omega),cond_true,j7S,jd0 _ (λx hx=>hrs x (List.mem_of_mem_drop hx)) (by rw [List.length_drop];omega)]
     ·have hat:=jrE q' r' (j0v hq).2.2
      rw [<-hh] at hat
      have ej:j=q'.length:=by omega
      have ea:(rest.take j).drop 0=q'.map j07:=by
       rw [List.drop_zero,hh,ej,show q'.length=(q'.map j07).length by rw [List.length_map],List.take_left]
      have eb:rest.drop (j+1)=r'.map j07:=by
       rw [hh,ej,<-List.drop_drop,show q'.length=(q'.map j07).length by rw [List.length_map],List.drop_left]
       rfl
      rw [ea,eb,jpv q' hq,jpv r' hr]
      exact ⟨rfl,rfl⟩
   refine Eq.trans ?_ (jcN (ok:=stB) (T:=stT) (z:=zST) (s:=s) (bif sEq w0 j0V then (1,w1,[],rest.map rdI,zD) else bif sEq w0 j0F then (2,w1,q0,r0,zD) else bif sEq w0 j0U then (3,w1,rest.map rdI,[],zD) else bif sEq w0 j1T then (4,w1,[],[],zD) else (0,w1,[],[],zD)) (λx hx he=> ?_) (λhe=>hne _ he) k)
   ·cases sEq w0 j0V
    ·cases sEq w0 j0F
     ·cases sEq w0 j0U
      ·cases sEq w0 j1T
       ·exact j9Y _ (j2W 0 h1s (Nat.zero_le _) (Nat.zero_le _) j1X) λr3=>bif sNe r3 s then k zST false else k (0,w1,[],[],zD) true
       ·exact j9Y _ (j2W 4 h1s (Nat.zero_le _) (Nat.zero_le _) j1X) λr3=>bif sNe r3 s then k zST false else k (4,w1,[],[],zD) true
      ·exact j9Y _ (j2W 3 h1s lm (Nat.zero_le _) j1X) λr3=>bif sNe r3 s then k zST false else k (3,w1,rest.map rdI,[],zD) true
     ·rw [cond_false,cond_true]
      refine (hpair λx=>j4m x λr3=>bif sNe r3 s then k zST false else k x true).trans ?_
      exact j9Y _ (j2W 2 h1s hq0 hr0 j1X) λr3=>bif sNe r3 s then k zST false else k (2,w1,q0,r0,zD) true
    ·exact j9Y _ (j2W 1 h1s (Nat.zero_le _) lm j1X) λr3=>bif sNe r3 s then k zST false else k (1,w1,[],rest.map rdI,zD) true
   ·have hpx:=hp x hx he
    obtain ⟨hw0,hc⟩:=j9K hx
    rcases hc with ⟨t,r,rfl,hr⟩ | ⟨t,q,r,rfl,hq,hr⟩ | ⟨t,q,rfl,hq⟩ | ⟨t,rfl⟩ | ⟨d,rfl,hd⟩
    ·simp only [stW,beq_self_eq_true,cond_true,List.cons.injEq] at hpx
     obtain ⟨rfl,rfl,hh⟩:=hpx
     rw [Z8L,cond_true,hh,jpv r hr]
    ·simp only [stW,show ((2:Int)==1)=false from rfl,show ((2:Int)==2)=true from rfl,cond_false,cond_true,List.cons.injEq] at hpx
     obtain ⟨rfl,rfl,hh⟩:=hpx
     obtain ⟨g1,g2⟩:=hback q r hq hr hh
     rw [j02 (show Z19 j0F≠Z19 j0V by decide),cond_false,Z8L,cond_true,g1,g2]
    ·simp only [stW,show ((3:Int)==1)=false from rfl,show ((3:Int)==2)=false from rfl,show ((3:Int)==3)=true from rfl,cond_false,cond_true,List.cons.injEq] at hpx
     obtain ⟨rfl,rfl,hh⟩:=hpx
     rw [j02 (show Z19 j0U≠Z19 j0V by decide),cond_false,j02 (show Z19 j0U≠Z19 j0F by decide),cond_false,Z8L,cond_true,hh,jpv q hq]
    ·simp only [stW,show ((4:Int)==1)=false from rfl,show ((4:Int)==2)=false from rfl,show ((4:Int)==3)=false from rfl,show ((4:Int)==4)=true from rfl,cond_false,cond_true,List.cons.injEq] at hpx
     obtain ⟨rfl,rfl,hh⟩:=hpx
     rw [j02 (show Z19 j1T≠Z19 j0V by decide),cond_false,j02 (show Z19 j1T≠Z19 j0F by decide),cond_false,j02 (show Z19 j1T≠Z19 j0U by decide),cond_false,Z8L,cond_true]
    ·have hdt:j2a d=s:=by
      rw [<-he]
      unfold stT j2a
      rw [hx,hd]
      rfl
     rw [htd d hd hdt] at hok
     cases hok
end Go.PI.G
namespace Go.PI.G
open Go Go.PI Go.Proofs
noncomputable def jar (s:ByteArray):RC×Bool:=rdX j23 j3s zRC s
theorem jeR {x:RC} {s:ByteArray} (h:j23 x=true) (he:j3s x=s):j0g 32 s=j1N x:=by
 rw [je5 h] at he
 have e:j1N x=j1O x.1::j06 x.2.1::(bif x.1==2 then stW x.2.2 else []):=rfl
 rw [e] at he ⊢
 exact (jim (λv hv=>(jqv h v (by rw [e];exact hv)).2) s).1 he
theorem jr3 {d:RC} {s:ByteArray} (h:j3s d=s) (h2:2<=(j0g 32 s).length):j23 d=true:=by
 cases hb:j23 d with
 | true=>rfl
 | false=>
  unfold j3s at h
  rw [hb,cond_false] at h
  rw [<-h,jgE] at h2
  simp at h2
theorem jn2 {s:ByteArray} (h:(j0g 32 s).length<2):jar s=(zRC,false):=je4 λx hx he=>by
 rw [jeR hx he] at h
 unfold j1N at h
 simp at h
 omega
def j6J (t:ByteArray):Int:=bif sEq j0h t then 4 else bif sEq j09 t then 3 else bif sEq j0R t then 2 else bif sEq j0i t then 1 else 0
theorem jgy {k:Int} (h:1<=k/\k<=4):j6J (j1O k)=k:=by
 unfold j6J
 rcases jdD h with ⟨rfl,e⟩ | ⟨rfl,e⟩ | ⟨rfl,e⟩ | ⟨rfl,e⟩<;>rw [e]
 ·rw [j02 (show Z19 j0h≠Z19 j0i by decide),j02 (show Z19 j09≠Z19 j0i by decide),j02 (show Z19 j0R≠Z19 j0i by decide),Z8L];rfl
 ·rw [j02 (show Z19 j0h≠Z19 j0R by decide),j02 (show Z19 j09≠Z19 j0R by decide),Z8L];rfl
 ·rw [j02 (show Z19 j0h≠Z19 j09 by decide),Z8L];rfl
 ·rw [Z8L];rfl
theorem jrW {t:ByteArray} (h:j6J t=2):t=j0R:=by
 unfold j6J at h
 cases h1:sEq j0h t
 ·cases h2:sEq j09 t
  ·cases h3:sEq j0R t
   ·rw [h1,h2,h3] at h
    cases h4:sEq j0i t
    ·rw [h4] at h;exact absurd h (by decide)
    ·rw [h4] at h;exact absurd h (by decide)
   ·exact ((j0t _ _).1 h3).symm
  ·rw [h1,h2] at h;exact absurd (show (3:Int)=2 from h) (by decide)
 ·rw [h1] at h;exact absurd (show (4:Int)=2 from h) (by decide)
def jdC (t:ByteArray):Int:=1+Z8b (λx=>sEq t x) [j0i,j0R,j09,j0h]
theorem jsw {k:Int} (h:1<=k/\k<=4):jdC (j1O k)=k:=by
 unfold jdC
 rcases jdD h with ⟨rfl,e⟩ | ⟨rfl,e⟩ | ⟨rfl,e⟩ | ⟨rfl,e⟩<;>rw [e]
 ·have:=j7A (λx=>sEq j0i x) [] j0i [j0R,j09,j0h] (λx hx=>(by cases hx)) (Z8L _)
  rw [List.nil_append] at this
  rw [this];rfl
 ·have:=j7A (λx=>sEq j0R x) [j0i] j0R [j09,j0h] (λx hx=>by rw [List.mem_singleton.1 hx];exact j02 (by decide)) (Z8L _)
  have e2:[j0i]++j0R::[j09,j0h]=[j0i,j0R,j09,j0h]:=rfl
  rw [e2] at this
  rw [this];rfl
 ·have:=j7A (λx=>sEq j09 x) [j0i,j0R] j09 [j0h] (λx hx=>by
   simp only [List.mem_cons,List.not_mem_nil,or_false] at hx
   rcases hx with rfl | rfl<;>exact j02 (by decide)) (Z8L _)
  have e2:[j0i,j0R]++j09::[j0h]=[j0i,j0R,j09,j0h]:=rfl
  rw [e2] at this
  rw [this];rfl
 ·have:=j7A (λx=>sEq j0h x) [j0i,j0R,j09] j0h [] (λx hx=>by
   simp only [List.mem_cons,List.not_mem_nil,or_false] at hx
   rcases hx with rfl | rfl | rfl<;>exact j02 (by decide)) (Z8L _)
  have e2:[j0i,j0R,j09]++j0h::[]=[j0i,j0R,j09,j0h]:=rfl
  rw [e2] at this
  rw [this];rfl
noncomputable def j9E (kd:ByteArray->Int):List ByteArray->RC
 | w0::w1::rest=>(kd w0,(j0S w1).1,(bif kd w0==2 then (tst (j04 rest)).1 else zST))
 | _=>zRC
theorem jfq (kd:ByteArray->Int) (hk:∀ {k:Int},1<=k/\k<=4->kd (j1O k)=k) {x:RC} (h:j23 x=true) (hs:(j04 (bif x.1==2 then stW x.2.2 else [])).size<=1048576):j9E kd (j1N x)=x:=by
 obtain ⟨h1,h2,h3⟩:=j6e h
 obtain ⟨k,n,t⟩:=x
 dsimp only at h1 h2 h3 hs
 have hn:j1w n=true:=decide_eq_true (by omega)
 unfold j9E j1N
 dsimp only
 rw [hk h1,jdI hn]
 rcases h3 with ⟨rfl,hst⟩ | ⟨hne,rfl⟩
 ·rw [show ((2:Int)==2)=true from rfl,cond_true] at hs ⊢
  rw [cond_true]
  have e:stT t=j04 (stW t):=by unfold stT;rw [hst];rfl
  rw [jsf hst e hs]
 ·rw [show (k==2)=false by simp [hne]]
  rfl
theorem jbP (a b:ByteArray) (l:List ByteArray):(j04 l).size<=(j04 (a::b::l)).size:=by
 cases l with
 | nil=>show (0:Nat)<=_;omega
 | cons c l=>
  show _<=(a++(spB++(b++(spB++j04 (c::l))))).size
  simp only [ByteArray.size_append]
  omega
theorem ji9 (kd:ByteArray->Int) {w:List ByteArray} (hw:(j04 w).size<=1048576):j2y (j9E kd w).2.2:=by
 match w,hw with
 | [],_=>exact j7w
 | [_],_=>exact j7w
 | a::b::r,hw=>
  show j2y (bif kd a==2 then (tst (j04 r)).1 else zST)
  cases kd a==2
  ·exact j7w
  ·exact jtf (Nat.le_trans (jbP a b r) hw)
theorem jrH (a b:ByteArray) (r:List ByteArray) (hr:r≠[]):Z9k (j04 (a::b::r)) ((a.size+b.size+2:Nat):Int) (nI (j04 (a::b::r)).size)=j04 r:=by
 apply j11
 have e:j04 (a::b::r)=a++(spB++(b++(spB++j04 r))):=by
  rw [jab hr];rfl
 have hl:=j0f (j04 (a::b::r))
 unfold nI
 rw [j9S,<-hl,List.take_length,e,j0l,j0l,j0l,j0l]
 have s1:(Z19 spB).length=1:=rfl
 have la:=j0f a
 have lb:=j0f b
 have:Z19 a++(Z19 spB++(Z19 b++(Z19 spB++Z19 (j04 r))))=(Z19 a++Z19 spB++Z19 b++Z19 spB)++Z19 (j04 r):=by simp
 rw [this,show a.size+b.size+2=(Z19 a++Z19 spB++Z19 b++Z19 spB).length by simp only [List.length_append];omega,List.drop_left]
theorem jrB (s:ByteArray) (hs:s.size<=1048576) (h2:¬ (j0g 32 s).length<2):(∀ k,j5g s k=bif sNe (j3s (j9E j6J (j0g 32 s))) s then k zRC false else k (j9E j6J (j0g 32 s)) true):=by
 intro k
 unfold j5g
 rw [j5f s (by omega)]
 have hws:∀ x∈j0g 32 s,x.size<=1048576:=λx hx=>Nat.le_trans (j4J 32 s x hx) hs
 have hwl:=j6d 32 s
 have hj:=ja3 s
 have hsm:=ji9 j6J (w:=j0g 32 s) (by rw [hj];exact hs)
 generalize hw:j0g 32 s=w at *
 obtain ⟨w0,w1,rest,rfl⟩:∃ a b r,w=a::b::r:=by
  match w,h2 with
  | [],h=>simp at h
  | [_],h=>simp at h
  | a::b::r,_=>exact ⟨a,b,r,rfl⟩
 have hlen:(w0::w1::rest).length=rest.length+2:=rfl
 have e0:nth eS (w0::w1::rest) 0=w0:=rfl
 have e1:nth eS (w0::w1::rest) 1=w1:=rfl
 rw [decide_eq_false (show ¬ nI (w0::w1::rest).length<2 by unfold nI;omega),cond_false,Z9c (by omega) (by omega),cond_true,e1,jfb]
 unfold jc9
 have key:=Z8q 5 (λi r=>(i,r)) (λi (r:RC)=>bif decide (0<i)&&sEq (nth eS [eS,j0i,j0R,j09,j0h] (i:Int)) w0 then ((i:Int),r.2) else r) (λ_ _=>True) (step:=j6M (w0::w1::rest) [eS,j0i,j0R,j09,j0h] 5)
  (λ(r3:RC)=>j3e s (w0::w1::rest) r3 λ(r4:RC)=>j44 r4 λ(r5:ByteArray)=>bif sNe r5 s then k zRC false else k r4 true)
  (λ(r3:RC)=>j3e s (w0::w1::rest) r3 λ(r4:RC)=>j44 r4 λ(r5:ByteArray)=>bif sNe r5 s then k zRC false else k r4 true)
  (0,(j0S w1).1,zST) (by unfold LIM;omega) trivial (λ_ _ _ _=>trivial) (λi r rec hi _=>by
   show j4v _ _ _ _ _ _ _=_
   unfold j4v
   dsimp only
   rw [decide_eq_true (show (i:Int)<5 by omega),cond_true,show inb (i:Int) ([eS,j0i,j0R,j09,j0h]:List ByteArray).length=true from Z9c (by omega) (by show (i:Int)<((5:Nat):Int);omega),cond_true,j05 (n:=(i:Int)+1) (by omega)]
   by_cases h0:0<i
   ·rw [decide_eq_true (show (i:Int)>0 by omega),cond_true,Z9c (by omega) (by omega),cond_true,decide_eq_true h0,Bool.true_and,e0]
    cases sEq (nth eS [eS,j0i,j0R,j09,j0h] (i:Int)) w0<;>rfl
   ·rw [decide_eq_false (show ¬ (i:Int)>0 by omega),cond_false,decide_eq_false h0];rfl) (λr rec _=>by
   show j4v _ _ _ _ _ _ _=_
   unfold j4v
   rfl)
 refine Eq.trans key.1 ?_
 have ef:Z4T (λi (r:RC)=>bif decide (0<i)&&sEq (nth eS [eS,j0i,j0R,j09,j0h] (i:Int)) w0 then ((i:Int),r.2) else r) 0 5 (0,(j0S w1).1,zST)=(j6J w0,(j0S w1).1,zST):=by
  unfold j6J
  simp only [Z4T]
  have q1:nth eS [eS,j0i,j0R,j09,j0h] ((0+1:Nat):Int)=j0i:=rfl
  have q2:nth eS [eS,j0i,j0R,j09,j0h] ((0+1+1:Nat):Int)=j0R:=rfl
  have q3:nth eS [eS,j0i,j0R,j09,j0h] ((0+1+1+1:Nat):Int)=j09:=rfl
  have q4:nth eS [eS,j0i,j0R,j09,j0h] ((0+1+1+1+1:Nat):Int)=j0h:=rfl
  rw [q1,q2,q3,q4]
  cases sEq j0i w0<;>cases sEq j0R w0<;>cases sEq j09 w0<;>cases sEq j0h w0<;>rfl
 rw [ef]
 have hp:∀ K:RC->Res,j3e s (w0::w1::rest) (j6J w0,(j0S w1).1,zST) K=K (j9E j6J (w0::w1::rest)):=λK=>by
  unfold j3e j9E
  dsimp only
  cases hk:j6J w0==2
  ·rfl
  ·rw [cond_true,cond_true]
   have hdo:=jrW (show j6J w0=2 by simpa using hk)
   cases rest with
   | nil=>
    rw [decide_eq_false (show ¬ nI [w0,w1].length>2 by unfold nI;simp),cond_false]
    have:tst (j04 [])=(zST,false):=jik (by decide)
    rw [this]
   | cons c r=>
    have hlc:(c::r).length=r.length+1:=rfl
    have hbe:=jrH w0 w1 (c::r) (List.cons_ne_nil _ _)
    have s2:w0.size=2:=by rw [hdo];rfl
    have h1s:=hws w1 (by simp)
    have hsz:w1.size+4<=s.size:=by
     have e:j04 (w0::w1::c::r)=w0++(spB++(w1++(spB++j04 (c::r)))):=by rw [jab (List.cons_ne_nil _ _)];rfl
     have s1:spB.size=1:=rfl
     have:=congrArg ByteArray.size hj
     rw [e] at this
     simp only [ByteArray.size_append] at this
     omega
    rw [hj] at hbe
    have hst:=jbP w0 w1 (c::r)
    rw [hj] at hst
    rw [decide_eq_true (show nI (w0::w1::c::r).length>2 by unfold nI;omega),cond_true,Z9c (by omega) (by omega),cond_true,e1,j05 (by unfold nI;omega),show 4+nI w1.size=((w0.size+w1.size+2:Nat):Int) by unfold nI;omega,j4l (by omega),cond_true,hbe,jsa _ (by omega)]
 rw [hp,jjA _ hsm]
theorem jsE {x y:RC} (hx:j23 x=true) (hy:j23 y=true) (h:j3s x=j3s y) (hs:(j3s y).size<=1048576):x=y:=by
 have px:=jeR hx h
 have py:=jeR hy rfl
 have hz:∀ {z:RC},j23 z=true->j3s z=j3s y->(j04 (bif z.1==2 then stW z.2.2 else [])).size<=1048576:=λ{z} hz he=>by
  have:=jbP (j1O z.1) (j06 z.2.1) (bif z.1==2 then stW z.2.2 else [])
  rw [je5 hz] at he
  have e:j04 (j1N z)=j04 (j1O z.1::j06 z.2.1::(bif z.1==2 then stW z.2.2 else [])):=rfl
  rw [<-e,he] at this
  omega
 rw [<-jfq j6J jgy hx (hz hx h),<-jfq j6J jgy hy (hz hy rfl),<-px,<-py]
theorem jr8 {x:RC} {s:ByteArray} (hx:j23 x=true) (he:j3s x=s) (hs:s.size<=1048576):jar s=(x,true):=
 jgF hx he λy hy hye=>jsE hy hx (hye.trans he.symm) (by rw [he];exact hs)
theorem je6 {kd:ByteArray->Int} (hk:∀ {k:Int},1<=k/\k<=4->kd (j1O k)=k) {s:ByteArray} (hs:s.size<=1048576) (x:RC) (hx:j23 x=true) (he:j3s x=s):j9E kd (j0g 32 s)=x:=by
 rw [jeR hx he]
 refine jfq kd hk hx ?_
 have:=jbP (j1O x.1) (j06 x.2.1) (bif x.1==2 then stW x.2.2 else [])
 rw [je5 hx] at he
 have e:j04 (j1N x)=j04 (j1O x.1::j06 x.2.1::(bif x.1==2 then stW x.2.2 else [])):=rfl
 rw [<-e,he] at this
 omega
theorem js9 (s:ByteArray) (hs:s.size<=1048576) (k:RC->Bool->Res):j5g s k=k (jar s).1 (jar s).2:=by
 by_cases h2:(j0g 32 s).length<2
 ·unfold j5g
  rw [j5f s (by omega),decide_eq_true (show nI (j0g 32 s).length<2 by unfold nI;omega),cond_true,jn2 h2]
 ·rw [jrB s hs h2]
  exact jcN _ (je6 jgy hs) (λhe=>jr3 he (by omega)) k
theorem jha (w:List ByteArray) (n:Nat) (hw:(j04 (w.drop n)).size<=LIM) (hl:w.length<=1048577) (k:ByteArray->Res):j6y w (n:Int) k=k (j04 (w.drop n)):=by
 unfold j6y
 by_cases h:w.length<=n
 ·rw [decide_eq_true (show nI w.length<=(n:Int) by unfold nI;omega),cond_true,List.drop_eq_nil_of_le h]
  rfl
 ·rw [decide_eq_false (show ¬ nI w.length<=(n:Int) by unfold nI;omega),cond_false,j4l (by omega),cond_true,j7S,j3Q _ (by rw [List.length_drop];omega) hw]
theorem jrU (s:ByteArray) (hs:s.size<=1048576) (k:RC->Bool->Res):j9v s k=k (jar s).1 (jar s).2:=by
 unfold j9v
 rw [jbK s (by omega)]
 by_cases h2:(j0g 32 s).length<2
 ·rw [decide_eq_true (show nI (j0g 32 s).length<2 by unfold nI;omega),cond_true,jn2 h2]
 ·refine Eq.trans ?_ (jcN (j9E jdC (j0g 32 s)) (je6 jsw hs) (λhe=>jr3 he (by omega)) k)
  have hws:∀ x∈j0g 32 s,x.size<=1048576:=λx hx=>Nat.le_trans (j4J 32 s x hx) hs
  have hwl:=j6d 32 s
  have hj:=ja3 s
  have hsm:=ji9 jdC (w:=j0g 32 s) (by rw [hj];exact hs)
  generalize hw:j0g 32 s=w at *
  obtain ⟨w0,w1,rest,rfl⟩:∃ a b r,w=a::b::r:=by
   match w,h2 with
   | [],h=>simp at h
   | [_],h=>simp at h
   | a::b::r,_=>exact ⟨a,b,r,rfl⟩
  have hlen:(w0::w1::rest).length=rest.length+2:=rfl
  have e0:nth eS (w0::w1::rest) 0=w0:=rfl
  have e1:nth eS (w0::w1::rest) 1=w1:=rfl
  have h1s:=hws w1 (by simp)
  have hkr:=jgt (λx=>sEq w0 x) [j0i,j0R,j09,j0h]
  have e4:([j0i,j0R,j09,j0h]:List ByteArray).length=4:=rfl
  rw [e4] at hkr
  have hki:Z8g (1+Z8b (λx=>sEq w0 x) [j0i,j0R,j09,j0h])=jdC w0:=j05 (by omega)
  rw [decide_eq_false (show ¬ nI (w0::w1::rest).length<2 by unfold nI;omega),cond_false,Z9c (by omega) (by omega),cond_true,e0,jeL _ w0 (by rw [e4];unfold LIM;omega),Z9c (by omega) (by omega),cond_true,e1,jhY w1 (by unfold LIM;omega),hki]
  have hst:=jbP w0 w1 rest
  rw [hj] at hst
  have hp:∀ K:RC->Res,j60 (w0::w1::rest) (jdC w0==2) (jdC w0,(j0S w1).1,0,eS,[],[],0,eS,[],[],eS,eS) K=K (j9E jdC (w0::w1::rest)):=λK=>by
   unfold j60 j9E
   dsimp only
   cases hk:jdC w0==2
   ·rfl
   ·have hb:=jha (w0::w1::rest) 2 (by show (j04 rest).size<=LIM;unfold LIM;omega) (by omega)
    rw [cond_true,cond_true,show (2:Int)=((2:Nat):Int) from rfl,hb]
    show j5B (j04 rest) _=_
    rw [jrV _ (by omega)]
  rw [hp,jjt _ hsm]
theorem jr9 {s:ByteArray} (hs:s.size<=1048576):j2y (jar s).1.2.2:=by
 cases h:(jar s).2
 ·have e:(jar s).1=zRC:=(jmR h).1
  rw [e];exact j7w
 ·obtain ⟨h1,h2⟩:=ji8 h
  have h1:j23 (jar s).1=true:=h1
  have h2:j3s (jar s).1=s:=h2
  rw [<-je6 jgy hs _ h1 h2]
  exact ji9 j6J (by rw [ja3];exact hs)
end Go.PI.G
