/-
  Program's code interpreted over typed values; printed texts; plain laws. No conditions.
-/
import Derived.Test.YtiieddiheadocaaGreatUm
import Derived.Test.YtiieddiheadocaaGreatUk
set_option linter.unusedVariables false
set_option linter.unusedSimpArgs false
namespace Go.PI.G
open Go Go.PI Go.Proofs
theorem jlQ (f:ByteArray->V) (hf:∀ v,j0w v=true->f (j07 v)=v):(l:List V)->(∀ v∈l,j0w v=true)->(l.map j07).map f=l
 | [],_=>rfl
 | v::l,h=>by
  rw [List.map_cons,List.map_cons,hf v (h v (by simp)),jlQ f hf l λx hx=>h x (List.mem_cons_of_mem _ hx)]
noncomputable def rdS (x:ByteArray):V:=(jd1 x).1
noncomputable def rdI (x:ByteArray):V:=bif (jd1 x).2 then (jd1 x).1 else (-1,0,eS)
theorem jtI (v:V) (h:j0w v=true):rdS (j07 v)=v:=by unfold rdS;rw [jgR h]
theorem jtH (v:V) (h:j0w v=true):rdI (j07 v)=v:=by unfold rdI;rw [jgR h];rfl
theorem jdP (w:List ByteArray) (hw:∀ x∈w,x.size<=1048576) (hl:w.length<=1048577) (k:List V->Res):j4j w k=k ((w.map rdS).take 9):=by
 unfold j4j jcX
 have key:=Z8q w.length (λi out=>(out,i)) (λi _=>((w.take (i+1)).map rdS).take 9) (λi out=>out=((w.take i).map rdS).take 9) (step:=j7t w (nI w.length)) (λout=>k out) k [] (by unfold LIM;omega) rfl (λi out hi ho=>rfl) (λi out rec hi ho=>by
  show j52 _ _ _ _ _ _=_
  unfold j52
  dsimp only
  have hs:=hw w[i] (List.getElem_mem hi)
  have hlen:out.length=min 9 i:=by rw [ho,List.length_take,List.length_map,List.length_take];omega
  rw [Z9i hi,cond_true,j0i hi,cond_true,Z92 _ _ _ hi,jpo _ (by unfold LIM;omega),j03 (by omega)]
  have e:(w.take (i+1)).map rdS=(w.take i).map rdS++[rdS w[i]]:=map_take w rdS i hi
  rw [e]
  by_cases h9:i<9
  ·rw [decide_eq_true (show nI out.length<=8 by unfold nI;omega),cond_true,Z9d (by unfold LIM;omega),cond_true]
   have h1:((w.take i).map rdS).length=i:=by rw [List.length_map,List.length_take];omega
   rw [List.take_of_length_le (by rw [List.length_append,List.length_singleton];omega),ho,List.take_of_length_le (by omega)]
   rfl
  ·rw [decide_eq_false (show ¬ nI out.length<=8 by unfold nI;omega),cond_false]
   have h1:((w.take i).map rdS).length=i:=by rw [List.length_map,List.length_take];omega
   rw [List.take_append_of_le_length (by omega),ho]) (λout rec ho=>by
  show j52 _ _ _ _ _ _=_
  unfold j52
  dsimp only
  rw [Z9h,cond_false])
 have hq:=key.2
 rw [hq,List.take_length] at key
 exact key.1
theorem jdK (w:List ByteArray) (hw:∀ x∈w,x.size<=1048576) (hl:w.length<=1048577) (k:List V->Res):j3a w k=k (w.map rdI):=by
 unfold j3a jdu
 have key:=Z8q w.length (λi out=>(out,i)) (λi _=>(w.take (i+1)).map rdI) (λi out=>out=(w.take i).map rdI) (step:=j8q w (nI w.length)) (λout=>k out) k [] (by unfold LIM;omega) rfl (λi out hi ho=>rfl) (λi out rec hi ho=>by
  show j5B _ _ _ _ _ _=_
  unfold j5B
  dsimp only
  have hs:=hw w[i] (List.getElem_mem hi)
  have hlen:out.length<=i:=by rw [ho,List.length_map,List.length_take];omega
  rw [Z9i hi,cond_true,j0i hi,cond_true,Z92 _ _ _ hi,jpg _ (by omega),j03 (by omega),Z9d (by unfold LIM;omega),cond_true,cond_true,map_take w rdI i hi,ho]
  unfold rdI
  cases (jd1 w[i]).2<;>rfl) (λout rec ho=>by
  show j5B _ _ _ _ _ _=_
  unfold j5B
  dsimp only
  rw [Z9h,cond_false])
 have hq:=key.2
 rw [hq,List.take_length] at key
 exact key.1
theorem jtU {v:V} (h:j0w v=true):j07 v≠j1I:=λhe=>by
 have hb:=congrArg Z19 he
 have ht:Z19 j1I=[116,111]:=rfl
 rw [ht] at hb
 rcases jdZ h with ⟨rfl,e⟩ | ⟨rfl,e⟩ | ⟨rfl,e⟩ | ⟨n,rfl,hn,e⟩ | ⟨s,rfl,hs,e⟩
 ·rw [e] at hb;exact absurd hb (by decide)
 ·rw [e] at hb;exact absurd hb (by decide)
 ·rw [e] at hb;exact absurd hb (by decide)
 ·obtain ⟨x,xs,h1,h2⟩:=j8c hn
  rw [e,h1] at hb
  have:=(List.cons.inj hb).1
  omega
 ·rw [e] at hb
  have:=(List.cons.inj hb).1
  omega
theorem jsF (w:List ByteArray) (hl:w.length<=1048577) (k:Int->Res):jcY w k=k (bif decide (Z8b (λx=>sEq x j1I) w<0) then (w.length:Int) else Z8b (λx=>sEq x j1I) w):=by
 unfold jcY jel
 refine Z8o w (λi=>i) (λx=>sEq x j1I) (step:=j9R w (nI w.length)) ((λ(_:Unit)=>k (nI w.length)),(λ(t:Int)=>k t)) (λr=>k (bif decide (r<0) then (w.length:Int) else r)) (by unfold LIM;omega) (λi rec hi=> ?_) (λrec=> ?_)
 ·show j6Y _ _ _ _ _ _=_
  unfold j6Y
  rw [Z9i hi,cond_true,j0i hi,cond_true,Z92 _ _ _ hi,j03 (n:=(i:Int)+1) (by omega),decide_eq_false (show ¬ (i:Int)<0 by omega),cond_false]
 ·show j6Y _ _ _ _ _ _=_
  unfold j6Y
  rw [Z9h,cond_false]
  rfl
theorem js7 (q r:List V) (hq:∀ v∈q,j0w v=true):Z8b (λx=>sEq x j1I) (q.map j07++j1I::r.map j07)=(q.length:Int):=by
 have:=j8h (λx=>sEq x j1I) (q.map j07) j1I (r.map j07) (λx hx=>by
  obtain ⟨v,hv,rfl⟩:=List.mem_map.1 hx
  exact jjd (jtU (hq v hv))) (Z8L _)
 rw [this,List.length_map]
theorem jsW (w:List ByteArray):Z8b (λx=>sEq j1I x) w=Z8b (λx=>sEq x j1I) w:=by
 congr 1
 funext x
 exact Z8K _ _
theorem j34 (k:Int) {t:ByteArray} {q r:List V} {d:D} (ht:t.size<=1048576) (hq:q.length<=1048576) (hr:r.length<=1048576) (hd:dSm d):j2G (k,t,q,r,d):=⟨ht,hq,hr,hd⟩
theorem jtx {s:ByteArray} (hs:s.size<=1048576):dSm (j8A s).1:=by
 cases h:(j8A s).2
 ·have e:(j8A s).1=zD:=(jnR h).1
  rw [e];exact j25
 ·obtain ⟨h1,h2⟩:=jjb h
  have h1:j26 (j8A s).1=true:=h1
  have hp:j08 32 s=j1o (j8A s).1:=jdR h1 h2
  have hws:∀ x∈j1o (j8A s).1,x.size<=1048576:=λx hx=>Nat.le_trans (j3k 32 s x (by rw [hp];exact hx)) hs
  have hwl:=j4d 32 s
  rw [hp] at hwl
  clear hp h2
  generalize (j8A s).1=d at h1 hws hwl
  obtain ⟨h0,hc⟩:=j59 h1
  rcases hc with ⟨t,cs',ks',rfl,hT⟩ | ⟨t,rfl⟩ | ⟨t,c,rfl,hC⟩ | ⟨t,n,rfl,hn⟩ | ⟨t,n,m,rfl,hn,hm⟩
  ·have hw0:=j0n h0
   have h8:=(j2C hT).2.2.1
   have e:(j1o (1,t,cs',ks',eS,eS)).length=(cs'.flatMap j20++(j2m::ks')).length+1+1:=rfl
   rw [e,List.length_append,List.length_cons] at hwl
   dsimp only at hw0 h8
   exact ⟨by show t.size<=_;omega,by show cs'.length<=_;omega,by show ks'.length<=_;omega,λc hc=>by
    obtain ⟨i,hi,rfl⟩:=List.mem_iff_getElem.1 hc
    have h9:(cs'[i]'hi).1.size<=8:=(j0n (j6w (j8b (j2C hT).2.2.2.2.1 i hi)).1).2
    show (cs'[i]'hi).1.size<=_
    omega,λx hx=>by have:=j0n (jlP hT x hx);omega,Nat.zero_le _,Nat.zero_le _⟩
  ·exact jdc 2 (by have:=j0n h0;dsimp only at this;omega)
  ·have:=j0n h0
   have h2:=j0n (j6w hC).1
   exact ⟨by dsimp only at this ⊢;omega,by show (1:Nat)<=_;omega,Nat.zero_le _,λx hx=>by rw [List.mem_singleton.1 hx];omega,(λx hx=>(by cases hx)),Nat.zero_le _,Nat.zero_le _⟩
  ·have:=j0n h0
   have h2:=j0n hn
   exact ⟨by dsimp only at this ⊢;omega,Nat.zero_le _,Nat.zero_le _,(λc hc=>(by cases hc)),(λx hx=>(by cases hx)),by dsimp only;omega,Nat.zero_le _⟩
  ·have:=j0n h0
   have h2:=j0n hn
   have h3:=j0n hm
   exact ⟨by dsimp only at this ⊢;omega,Nat.zero_le _,Nat.zero_le _,(λc hc=>(by cases hc)),(λx hx=>(by cases hx)),by dsimp only;omega,by dsimp only;omega⟩
theorem jrI {d:D} {s:ByteArray} (hd:j26 d=true) (he:j2j d=s) (hs:s.size<=1048576):j8A s=(d,true):=
 jhg hd he λy hy hye=>jsQ hy hd (hye.trans he.symm) (by rw [he];exact hs)
theorem j9f {w:List ByteArray} (hl:w.length<=1048577):((w.map rdS).take 9).length<=1048576:=by rw [List.length_take];omega
theorem jtT {l:List V} (h:l.length<=8):l.take 9=l:=List.take_of_length_le (by omega)
theorem jq6 (l:List V) (h:j1Z l=true):((l.map j07).map rdS).take 9=l:=by
 rw [jlQ rdS jtI l (j0x h).2.2,jtT (j0x h).2.1]
theorem jq7 (l:List V) (h:j1Z l=true):(l.map j07).map rdI=l:=jlQ rdI jtH l (j0x h).2.2
theorem jhi (s:ByteArray) (hs:s.size<=1048576) (h2:¬ (j08 32 s).length<2):∃ raw:ST,(∀ k,j3D s k=bif sNe (stT raw) s then k zST false else k raw true)/\(∀ x,stB x=true->stT x=s->raw=x)/\j2G raw:=by
 have hun:∀ k,j3D s k=_:=λk=>by
  unfold j3D
  exact j5K s (by omega) _
 have hws:∀ x∈j08 32 s,x.size<=1048576:=λx hx=>Nat.le_trans (j3k 32 s x hx) hs
 have hwl:=j4d 32 s
 have hp:=λ(x:ST) (hx:stB x=true) (he:stT x=s)=>jf9 hx he
 have hsd:=jtx hs
 have htd:=λ(d:D) (hd:j26 d=true) (he:j2j d=s)=>jrI hd he hs
 generalize hw:j08 32 s=w at *
 obtain ⟨w0,w1,rest,rfl⟩:∃ a b r,w=a::b::r:=by
  match w,h2 with
  | [],h=>simp at h
  | [_],h=>simp at h
  | a::b::r,_=>exact ⟨a,b,r,rfl⟩
 have hlen:(w0::w1::rest).length=rest.length+2:=rfl
 have e0:nth eS (w0::w1::rest) 0=w0:=rfl
 have e1:nth eS (w0::w1::rest) 1=w1:=rfl
 have e2:(w0::w1::rest).drop 2=rest:=rfl
 have hrs:∀ x∈rest,x.size<=1048576:=λx hx=>hws x (List.mem_cons_of_mem _ (List.mem_cons_of_mem _ hx))
 have h1s:=hws w1 (by simp)
 have hrl:rest.length<=1048577:=by omega
 obtain ⟨j,hj,hjt⟩:∃ j:Nat,j<=rest.length/\(bif decide (Z8b (λx=>sEq x j1I) rest<0) then (rest.length:Int) else Z8b (λx=>sEq x j1I) rest)=(j:Int):=by
  by_cases h:Z8b (λx=>sEq x j1I) rest<0
  ·exact ⟨rest.length,by omega,by rw [decide_eq_true h,cond_true]⟩
  ·obtain ⟨i,hi,q1,q2⟩:=jiO (show 0<=Z8b (λx=>sEq x j1I) rest by omega)
   exact ⟨i,by omega,by rw [decide_eq_false h,cond_false,q1]⟩
 have hta:∀ x∈(rest.take j).drop 0,x.size<=1048576:=λx hx=>hrs x (List.mem_of_mem_take (List.mem_of_mem_drop hx))
 have htb:∀ x∈rest.drop (j+1),x.size<=1048576:=λx hx=>hrs x (List.mem_of_mem_drop hx)
 have hla:((rest.take j).drop 0).length<=1048577:=by rw [List.length_drop,List.length_take];omega
 have hlb:(rest.drop (j+1)).length<=1048577:=by rw [List.length_drop];omega
 refine ⟨bif sEq w0 j10 then (1,w1,[],(rest.map rdS).take 9,zD) else bif sEq w0 j0J then (2,w1,(((rest.take j).drop 0).map rdS).take 9,(bif decide (j<rest.length) then ((rest.drop (j+1)).map rdS).take 9 else []),zD) else bif sEq w0 j0Z then (3,w1,(rest.map rdS).take 9,[],zD) else bif sEq w0 j21 then (4,w1,[],[],zD) else (5,w1,[],[],(j8A s).1),λk=> ?_,λx hx he=> ?_,?_⟩
 ·rw [hun]
  rw [decide_eq_false (show ¬ nI (w0::w1::rest).length<2 by unfold nI;omega),cond_false,Z9c (by omega) (by omega),cond_true,jgW (by omega),cond_true,jjy,e2,jsF rest hrl,Z9c (by omega) (by omega),cond_true,hjt,e0,e1]
  unfold j8v
  dsimp only
  have l9:=j9f hrl
  have l9a:=j9f hla
  have l9b:=j9f hlb
  rw [jdP rest hrs hrl,jdP rest hrs hrl,jsA s hs,show Z6R 0 (j:Int) rest.length=true from decide_eq_true (by omega),cond_true,show sub rest 0 (j:Int)=(rest.take j).drop 0 from jgQ rest 0 j,jdP _ hta hla]
  cases sEq w0 j10
  ·cases sEq w0 j0J
   ·cases sEq w0 j0Z
    ·cases sEq w0 j21
     ·exact j8r _ (j34 5 h1s (Nat.zero_le _) (Nat.zero_le _) hsd) λr2=>bif sNe r2 s then k zST false else k (5,w1,[],[],(j8A s).1) true
     ·exact j8r _ (j34 4 h1s (Nat.zero_le _) (Nat.zero_le _) j25) λr2=>bif sNe r2 s then k zST false else k (4,w1,[],[],zD) true
    ·exact j8r _ (j34 3 h1s l9 (Nat.zero_le _) j25) λr2=>bif sNe r2 s then k zST false else k (3,w1,(rest.map rdS).take 9,[],zD) true
   ·simp only [cond_false,cond_true]
    by_cases hjl:j<rest.length
    ·rw [decide_eq_true (show (j:Int)<nI rest.length by unfold nI;omega),decide_eq_true hjl,cond_true,cond_true,j03 (n:=(j:Int)+1) (by omega),show (j:Int)+1=((j+1:Nat):Int) by omega,j4x (by omega),cond_true,j8z,jdP _ htb hlb]
     exact j8r _ (j34 2 h1s l9a l9b j25) λr2=>bif sNe r2 s then k zST false else k (2,w1,(((rest.take j).drop 0).map rdS).take 9,((rest.drop (j+1)).map rdS).take 9,zD) true
    ·rw [decide_eq_false (show ¬ (j:Int)<nI rest.length by unfold nI;omega),decide_eq_false hjl,cond_false,cond_false]
     exact j8r _ (j34 2 h1s l9a (Nat.zero_le _) j25) λr2=>bif sNe r2 s then k zST false else k (2,w1,(((rest.take j).drop 0).map rdS).take 9,[],zD) true
  ·exact j8r _ (j34 1 h1s (Nat.zero_le _) l9 j25) λr2=>bif sNe r2 s then k zST false else k (1,w1,[],(rest.map rdS).take 9,zD) true
 ·have hpx:=hp x hx he
  obtain ⟨hw0,hc⟩:=jan hx
  rcases hc with ⟨t,r,rfl,hr⟩ | ⟨t,q,r,rfl,hq,hr⟩ | ⟨t,q,rfl,hq⟩ | ⟨t,rfl⟩ | ⟨d,rfl,hd⟩
  ·simp only [stW,beq_self_eq_true,cond_true,List.cons.injEq] at hpx
   obtain ⟨rfl,rfl,hh⟩:=hpx
   rw [Z8L,cond_true,hh,jq6 r hr]
  ·simp only [stW,show ((2:Int)==1)=false from rfl,show ((2:Int)==2)=true from rfl,cond_false,cond_true,List.cons.injEq] at hpx
   obtain ⟨rfl,rfl,hh⟩:=hpx
   have hat:=js7 q r (j0x hq).2.2
   rw [<-hh] at hat
   have ej:j=q.length:=by
    rw [hat,decide_eq_false (by omega),cond_false] at hjt
    omega
   have hjl:j<rest.length:=by
    rw [hh,List.length_append,List.length_cons,List.length_map];omega
   have ea:(rest.take j).drop 0=q.map j07:=by
    rw [List.drop_zero,hh,ej,show q.length=(q.map j07).length by rw [List.length_map],List.take_left]
   have eb:rest.drop (j+1)=r.map j07:=by
    rw [hh,ej,<-List.drop_drop,show q.length=(q.map j07).length by rw [List.length_map],List.drop_left]
    rfl
   rw [j01 (show Z19 j0J≠Z19 j10 by decide),cond_false,Z8L,cond_true,decide_eq_true hjl,cond_true,ea,eb,jq6 q hq,jq6 r hr]
  ·simp only [stW,show ((3:Int)==1)=false from rfl,show ((3:Int)==2)=false from rfl,show ((3:Int)==3)=true from rfl,cond_false,cond_true,List.cons.injEq] at hpx
   obtain ⟨rfl,rfl,hh⟩:=hpx
   rw [j01 (show Z19 j0Z≠Z19 j10 by decide),cond_false,j01 (show Z19 j0Z≠Z19 j0J by decide),cond_false,Z8L,cond_true,hh,jq6 q hq]
  ·simp only [stW,show ((4:Int)==1)=false from rfl,show ((4:Int)==2)=false from rfl,show ((4:Int)==3)=false from rfl,show ((4:Int)==4)=true from rfl,cond_false,cond_true,List.cons.injEq] at hpx
   obtain ⟨rfl,rfl,hh⟩:=hpx
   rw [j01 (show Z19 j21≠Z19 j10 by decide),cond_false,j01 (show Z19 j21≠Z19 j0J by decide),cond_false,j01 (show Z19 j21≠Z19 j0Z by decide),cond_false,Z8L,cond_true]
  ·have hdt:j2j d=s:=by
    rw [<-he]
    unfold stT j2j
    rw [hx,hd]
    rfl
   rw [htd d hd hdt]
   have hst:stW (5,d.2.1,[],[],d)=j1o d:=rfl
   rw [hst] at hpx
   obtain ⟨hd0,hc⟩:=j59 hd
   have hf:∀ {z:ByteArray},w0=z->Z19 z≠Z19 j10->Z19 z≠Z19 j0J->Z19 z≠Z19 j0Z->Z19 z≠Z19 j21->w1=d.2.1->(bif sEq w0 j10 then (1,w1,[],(rest.map rdS).take 9,zD) else bif sEq w0 j0J then (2,w1,(((rest.take j).drop 0).map rdS).take 9,(bif decide (j<rest.length) then ((rest.drop (j+1)).map rdS).take 9 else []),zD) else bif sEq w0 j0Z then (3,w1,(rest.map rdS).take 9,[],zD) else bif sEq w0 j21 then (4,w1,[],[],zD) else (5,w1,[],[],d):ST)=(5,d.2.1,[],[],d):=λ{z} hz n1 n2 n3 n4 ht=>by
    rw [hz,j01 n1,j01 n2,j01 n3,j01 n4,ht]
    rfl
   rcases hc with ⟨t,cs',ks',rfl,hT⟩ | ⟨t,rfl⟩ | ⟨t,c,rfl,hC⟩ | ⟨t,n,rfl,hn⟩ | ⟨t,n,m,rfl,hn,hm⟩
   ·simp only [j1o,beq_self_eq_true,cond_true,List.cons.injEq] at hpx
    exact hf hpx.1 (by decide) (by decide) (by decide) (by decide) hpx.2.1
   ·simp only [j1o,show ((2:Int)==1)=false from rfl,show ((2:Int)==2)=true from rfl,cond_false,cond_true,List.cons.injEq] at hpx
    exact hf hpx.1 (by decide) (by decide) (by decide) (by decide) hpx.2.1
   ·simp only [j1o,show ((3:Int)==1)=false from rfl,show ((3:Int)==2)=false from rfl,show ((3:Int)==3)=true from rfl,cond_false,cond_true,List.cons.injEq] at hpx
    exact hf hpx.1 (by decide) (by decide) (by decide) (by decide) hpx.2.1
   ·simp only [j1o,show ((4:Int)==1)=false from rfl,show ((4:Int)==2)=false from rfl,show ((4:Int)==3)=false from rfl,show ((4:Int)==4)=true from rfl,cond_false,cond_true,List.cons.injEq] at hpx
    exact hf hpx.1 (by decide) (by decide) (by decide) (by decide) hpx.2.1
   ·simp only [j1o,show ((5:Int)==1)=false from rfl,show ((5:Int)==2)=false from rfl,show ((5:Int)==3)=false from rfl,show ((5:Int)==4)=false from rfl,cond_false,List.cons.injEq] at hpx
    exact hf hpx.1 (by decide) (by decide) (by decide) (by decide) hpx.2.1
 ·have l9:=j9f hrl
  have l9a:=j9f hla
  have l9b:=j9f hlb
  cases sEq w0 j10
  ·cases sEq w0 j0J
   ·cases sEq w0 j0Z
    ·cases sEq w0 j21
     ·exact j34 5 h1s (Nat.zero_le _) (Nat.zero_le _) hsd
     ·exact j34 4 h1s (Nat.zero_le _) (Nat.zero_le _) j25
    ·exact j34 3 h1s l9 (Nat.zero_le _) j25
   ·cases decide (j<rest.length)
    ·exact j34 2 h1s l9a (Nat.zero_le _) j25
    ·exact j34 2 h1s l9a l9b j25
  ·exact j34 1 h1s (Nat.zero_le _) l9 j25
theorem jtv {x y:ST} (hx:stB x=true) (hy:stB y=true) (h:stT x=stT y) (hs:(stT y).size<=1048576):x=y:=by
 have h2:¬ (j08 32 (stT y)).length<2:=by
  rw [jf9 hy rfl]
  obtain ⟨a,b,r,e⟩:=jjt (s:=y)
  rw [e];simp
 obtain ⟨raw,_,r2,_⟩:=jhi (stT y) hs h2
 rw [<-r2 x hx h,<-r2 y hy rfl]
theorem jsJ {x:ST} {s:ByteArray} (hx:stB x=true) (he:stT x=s) (hs:s.size<=1048576):tst s=(x,true):=
 jhg hx he λy hy hye=>jtv hy hx (hye.trans he.symm) (by rw [he];exact hs)
theorem jsE (s:ByteArray) (hs:s.size<=1048576) (k:ST->Bool->Res):j3D s k=k (tst s).1 (tst s).2:=by
 by_cases h2:(j08 32 s).length<2
 ·unfold j3D
  rw [j5K s (by omega),decide_eq_true (show nI (j08 32 s).length<2 by unfold nI;omega),cond_true,jjo h2]
 ·obtain ⟨raw,r1,r2,r3⟩:=jhi s hs h2
  rw [r1]
  exact jdx raw r2 (λhe=>jsG he (by omega)) k
theorem jtM {s:ByteArray} (hs:s.size<=1048576):j2G (tst s).1:=by
 cases h:(tst s).2
 ·have e:(tst s).1=zST:=(jnR h).1
  rw [e];exact j8d
 ·obtain ⟨h1,h2⟩:=jjb h
  have h1:stB (tst s).1=true:=h1
  have h2:stT (tst s).1=s:=h2
  have hn:¬ (j08 32 s).length<2:=by
   rw [jf9 h1 h2]
   obtain ⟨a,b,r,e⟩:=jjt (s:=(tst s).1)
   rw [e];simp
  obtain ⟨raw,_,r2,r3⟩:=jhi s hs hn
  rw [<-r2 _ h1 h2]
  exact r3
theorem jso (s:ByteArray) (hs:s.size<=1048576) (k:ST->Bool->Res):j68 s k=k (tst s).1 (tst s).2:=by
 unfold j68
 rw [jsm s hs]
 cases hok:(j8A s).2
 rotate_left
 ·obtain ⟨h1,h2⟩:=jjb hok
  have h1:j26 (j8A s).1=true:=h1
  have h2:j2j (j8A s).1=s:=h2
  rw [cond_true]
  generalize (j8A s).1=d at h1 h2
  have hb:stB (5,d.2.1,[],[],d)=true:=by
   unfold stB
   dsimp only
   rw [jp6 h1,h1,Z8L]
   rfl
  have ht:stT (5,d.2.1,[],[],d)=s:=by
   rw [<-h2]
   unfold stT j2j
   rw [hb,h1]
   rfl
  rw [jsJ hb ht hs]
 ·rw [cond_false,jct s (by omega)]
  have hws:∀ x∈j08 32 s,x.size<=1048576:=λx hx=>Nat.le_trans (j3k 32 s x hx) hs
  have hwl:=j4d 32 s
  by_cases h2:(j08 32 s).length<2
  ·rw [decide_eq_true (show nI (j08 32 s).length<2 by unfold nI;omega),cond_true,jjo h2]
  ·have hp:=λ(x:ST) (hx:stB x=true) (he:stT x=s)=>jf9 hx he
   have hne:=λ(d:ST) (he:stT d=s)=>jsG he (show 2<=(j08 32 s).length by omega)
   have htd:=λ(d:D) (hd:j26 d=true) (he:j2j d=s)=>jrI hd he hs
   generalize hw:j08 32 s=w at *
   obtain ⟨w0,w1,rest,rfl⟩:∃ a b r,w=a::b::r:=by
    match w,h2 with
    | [],h=>simp at h
    | [_],h=>simp at h
    | a::b::r,_=>exact ⟨a,b,r,rfl⟩
   have hlen:(w0::w1::rest).length=rest.length+2:=rfl
   have e0:nth eS (w0::w1::rest) 0=w0:=rfl
   have e1:nth eS (w0::w1::rest) 1=w1:=rfl
   have e2:(w0::w1::rest).drop 2=rest:=rfl
   have hrs:∀ x∈rest,x.size<=1048576:=λx hx=>hws x (List.mem_cons_of_mem _ (List.mem_cons_of_mem _ hx))
   have h1s:=hws w1 (by simp)
   have hrl:rest.length<=1048575:=by omega
   rw [decide_eq_false (show ¬ nI (w0::w1::rest).length<2 by unfold nI;omega),cond_false,Z9c (by omega) (by omega),cond_true,jgW (by omega),cond_true,Z9c (by omega) (by omega),cond_true,jjy,e2,e0,e1]
   unfold j8l
   dsimp only
   rw [jdK rest hrs (by omega),jdK rest hrs (by omega),jfA rest j1I (by unfold LIM;omega),jsW]
   have lm:(rest.map rdI).length<=1048576:=by rw [List.length_map];omega
   obtain ⟨q0,r0,hq0,hr0,hpair,hback⟩:∃ (q r:List V),q.length<=1048576/\r.length<=1048576 /\
     (∀ K:ST->Res,(bif decide (Z8b (λx=>sEq x j1I) rest>=0) then (bif Z6R 0 (Z8b (λx=>sEq x j1I) rest) rest.length then j3a (sub rest 0 (Z8b (λx=>sEq x j1I) rest)) (λr2=>bif Z6R (Z8g (Z8b (λx=>sEq x j1I) rest+1)) (nI rest.length) rest.length then j3a (sub rest (Z8g (Z8b (λx=>sEq x j1I) rest+1)) (nI rest.length)) (λr3=>K (2,w1,r2,r3,zD)) else none) else none) else K (2,w1,[],[],zD))=K (2,w1,q,r,zD)) /\
     ∀ q' r',j1Z q'=true->j1Z r'=true->rest=q'.map j07++j1I::r'.map j07->q=q'/\r=r':=by
    by_cases hi:Z8b (λx=>sEq x j1I) rest<0
    ·refine ⟨[],[],Nat.zero_le _,Nat.zero_le _,λK=> ?_,λq' r' hq hr hh=> ?_⟩
     ·rw [decide_eq_false (show ¬ Z8b (λx=>sEq x j1I) rest>=0 by omega),cond_false]
     ·have:=js7 q' r' (j0x hq).2.2
      rw [<-hh] at this
      omega
    ·obtain ⟨j,hj,j1,j2⟩:=jiO (show 0<=Z8b (λx=>sEq x j1I) rest by omega)
     refine ⟨((rest.take j).drop 0).map rdI,(rest.drop (j+1)).map rdI,by rw [List.length_map,List.length_drop,List.length_take];omega,by rw [List.length_map,List.length_drop];omega,λK=> ?_,λq' r' hq hr hh=> ?_⟩
     ·rw [j1,decide_eq_true (show (j:Int)>=0 by omega),cond_true,show Z6R 0 (j:Int) rest.length=true from decide_eq_true (by omega),cond_true,show sub rest 0 (j:Int)=(rest.take j).drop 0 from jgQ rest 0 j,jdK _ (λx hx=>hrs x (List.mem_of_mem_take (List.mem_of_mem_drop hx))) (by rw [List.length_drop,List.length_take];omega),j03 (n:=(j:Int)+1) (by omega),show (j:Int)+1=((j+1:Nat):Int) by omega,j4x (by omega),cond_true,j8z,jdK _ (λx hx=>hrs x (List.mem_of_mem_drop hx)) (by rw [List.length_drop];omega)]
     ·have hat:=js7 q' r' (j0x hq).2.2
      rw [<-hh] at hat
      have ej:j=q'.length:=by omega
      have ea:(rest.take j).drop 0=q'.map j07:=by
       rw [List.drop_zero,hh,ej,show q'.length=(q'.map j07).length by rw [List.length_map],List.take_left]
      have eb:rest.drop (j+1)=r'.map j07:=by
       rw [hh,ej,<-List.drop_drop,show q'.length=(q'.map j07).length by rw [List.length_map],List.drop_left]
       rfl
      rw [ea,eb,jq7 q' hq,jq7 r' hr]
      exact ⟨rfl,rfl⟩
   refine Eq.trans ?_ (jdx (ok:=stB) (T:=stT) (z:=zST) (s:=s) (bif sEq w0 j10 then (1,w1,[],rest.map rdI,zD) else bif sEq w0 j0J then (2,w1,q0,r0,zD) else bif sEq w0 j0Z then (3,w1,rest.map rdI,[],zD) else bif sEq w0 j21 then (4,w1,[],[],zD) else (0,w1,[],[],zD)) (λx hx he=> ?_) (λhe=>hne _ he) k)
   ·cases sEq w0 j10
    ·cases sEq w0 j0J
     ·cases sEq w0 j0Z
      ·cases sEq w0 j21
       ·exact jaB _ (j34 0 h1s (Nat.zero_le _) (Nat.zero_le _) j25) λr3=>bif sNe r3 s then k zST false else k (0,w1,[],[],zD) true
       ·exact jaB _ (j34 4 h1s (Nat.zero_le _) (Nat.zero_le _) j25) λr3=>bif sNe r3 s then k zST false else k (4,w1,[],[],zD) true
      ·exact jaB _ (j34 3 h1s lm (Nat.zero_le _) j25) λr3=>bif sNe r3 s then k zST false else k (3,w1,rest.map rdI,[],zD) true
     ·rw [cond_false,cond_true]
      refine (hpair λx=>j4y x λr3=>bif sNe r3 s then k zST false else k x true).trans ?_
      exact jaB _ (j34 2 h1s hq0 hr0 j25) λr3=>bif sNe r3 s then k zST false else k (2,w1,q0,r0,zD) true
    ·exact jaB _ (j34 1 h1s (Nat.zero_le _) lm j25) λr3=>bif sNe r3 s then k zST false else k (1,w1,[],rest.map rdI,zD) true
   ·have hpx:=hp x hx he
    obtain ⟨hw0,hc⟩:=jan hx
    rcases hc with ⟨t,r,rfl,hr⟩ | ⟨t,q,r,rfl,hq,hr⟩ | ⟨t,q,rfl,hq⟩ | ⟨t,rfl⟩ | ⟨d,rfl,hd⟩
    ·simp only [stW,beq_self_eq_true,cond_true,List.cons.injEq] at hpx
     obtain ⟨rfl,rfl,hh⟩:=hpx
     rw [Z8L,cond_true,hh,jq7 r hr]
    ·simp only [stW,show ((2:Int)==1)=false from rfl,show ((2:Int)==2)=true from rfl,cond_false,cond_true,List.cons.injEq] at hpx
     obtain ⟨rfl,rfl,hh⟩:=hpx
     obtain ⟨g1,g2⟩:=hback q r hq hr hh
     rw [j01 (show Z19 j0J≠Z19 j10 by decide),cond_false,Z8L,cond_true,g1,g2]
    ·simp only [stW,show ((3:Int)==1)=false from rfl,show ((3:Int)==2)=false from rfl,show ((3:Int)==3)=true from rfl,cond_false,cond_true,List.cons.injEq] at hpx
     obtain ⟨rfl,rfl,hh⟩:=hpx
     rw [j01 (show Z19 j0Z≠Z19 j10 by decide),cond_false,j01 (show Z19 j0Z≠Z19 j0J by decide),cond_false,Z8L,cond_true,hh,jq7 q hq]
    ·simp only [stW,show ((4:Int)==1)=false from rfl,show ((4:Int)==2)=false from rfl,show ((4:Int)==3)=false from rfl,show ((4:Int)==4)=true from rfl,cond_false,cond_true,List.cons.injEq] at hpx
     obtain ⟨rfl,rfl,hh⟩:=hpx
     rw [j01 (show Z19 j21≠Z19 j10 by decide),cond_false,j01 (show Z19 j21≠Z19 j0J by decide),cond_false,j01 (show Z19 j21≠Z19 j0Z by decide),cond_false,Z8L,cond_true]
    ·have hdt:j2j d=s:=by
      rw [<-he]
      unfold stT j2j
      rw [hx,hd]
      rfl
     rw [htd d hd hdt] at hok
     cases hok
end Go.PI.G
namespace Go.PI.G
open Go Go.PI Go.Proofs
noncomputable def jb7 (s:ByteArray):RC×Bool:=rdX j2a j3E zRC s
theorem jfG {x:RC} {s:ByteArray} (h:j2a x=true) (he:j3E x=s):j08 32 s=j1U x:=by
 rw [jeV h] at he
 have e:j1U x=j1V x.1::j04 x.2.1::(bif x.1==2 then stW x.2.2 else []):=rfl
 rw [e] at he ⊢
 exact (jjq (λv hv=>(jr5 h v (by rw [e];exact hv)).2) s).1 he
theorem jrC {d:RC} {s:ByteArray} (h:j3E d=s) (h2:2<=(j08 32 s).length):j2a d=true:=by
 cases hb:j2a d with
 | true=>rfl
 | false=>
  unfold j3E at h
  rw [hb,cond_false] at h
  rw [<-h,jhf] at h2
  simp at h2
theorem jo1 {s:ByteArray} (h:(j08 32 s).length<2):jb7 s=(zRC,false):=jeU λx hx he=>by
 rw [jfG hx he] at h
 unfold j1U at h
 simp at h
 omega
def j7l (t:ByteArray):Int:=bif sEq j0g t then 4 else bif sEq j0b t then 3 else bif sEq j0W t then 2 else bif sEq j0h t then 1 else 0
theorem jh8 {k:Int} (h:1<=k/\k<=4):j7l (j1V k)=k:=by
 unfold j7l
 rcases jes h with ⟨rfl,e⟩ | ⟨rfl,e⟩ | ⟨rfl,e⟩ | ⟨rfl,e⟩<;>rw [e]
 ·rw [j01 (show Z19 j0g≠Z19 j0h by decide),j01 (show Z19 j0b≠Z19 j0h by decide),j01 (show Z19 j0W≠Z19 j0h by decide),Z8L];rfl
 ·rw [j01 (show Z19 j0g≠Z19 j0W by decide),j01 (show Z19 j0b≠Z19 j0W by decide),Z8L];rfl
 ·rw [j01 (show Z19 j0g≠Z19 j0b by decide),Z8L];rfl
 ·rw [Z8L];rfl
theorem jsp {t:ByteArray} (h:j7l t=2):t=j0W:=by
 unfold j7l at h
 cases h1:sEq j0g t
 ·cases h2:sEq j0b t
  ·cases h3:sEq j0W t
   ·rw [h1,h2,h3] at h
    cases h4:sEq j0h t
    ·rw [h4] at h;exact absurd h (by decide)
    ·rw [h4] at h;exact absurd h (by decide)
   ·exact ((j0t _ _).1 h3).symm
  ·rw [h1,h2] at h;exact absurd (show (3:Int)=2 from h) (by decide)
 ·rw [h1] at h;exact absurd (show (4:Int)=2 from h) (by decide)
def jer (t:ByteArray):Int:=1+Z8b (λx=>sEq t x) [j0h,j0W,j0b,j0g]
theorem jt0 {k:Int} (h:1<=k/\k<=4):jer (j1V k)=k:=by
 unfold jer
 rcases jes h with ⟨rfl,e⟩ | ⟨rfl,e⟩ | ⟨rfl,e⟩ | ⟨rfl,e⟩<;>rw [e]
 ·have:=j8h (λx=>sEq j0h x) [] j0h [j0W,j0b,j0g] (λx hx=>(by cases hx)) (Z8L _)
  rw [List.nil_append] at this
  rw [this];rfl
 ·have:=j8h (λx=>sEq j0W x) [j0h] j0W [j0b,j0g] (λx hx=>by rw [List.mem_singleton.1 hx];exact j01 (by decide)) (Z8L _)
  have e2:[j0h]++j0W::[j0b,j0g]=[j0h,j0W,j0b,j0g]:=rfl
  rw [e2] at this
  rw [this];rfl
 ·have:=j8h (λx=>sEq j0b x) [j0h,j0W] j0b [j0g] (λx hx=>by
   simp only [List.mem_cons,List.not_mem_nil,or_false] at hx
   rcases hx with rfl | rfl<;>exact j01 (by decide)) (Z8L _)
  have e2:[j0h,j0W]++j0b::[j0g]=[j0h,j0W,j0b,j0g]:=rfl
  rw [e2] at this
  rw [this];rfl
 ·have:=j8h (λx=>sEq j0g x) [j0h,j0W,j0b] j0g [] (λx hx=>by
   simp only [List.mem_cons,List.not_mem_nil,or_false] at hx
   rcases hx with rfl | rfl | rfl<;>exact j01 (by decide)) (Z8L _)
  have e2:[j0h,j0W,j0b]++j0g::[]=[j0h,j0W,j0b,j0g]:=rfl
  rw [e2] at this
  rw [this];rfl
noncomputable def jag (kd:ByteArray->Int):List ByteArray->RC
 | w0::w1::rest=>(kd w0,(j0X w1).1,(bif kd w0==2 then (tst (j02 rest)).1 else zST))
 | _=>zRC
theorem jgb (kd:ByteArray->Int) (hk:∀ {k:Int},1<=k/\k<=4->kd (j1V k)=k) {x:RC} (h:j2a x=true) (hs:(j02 (bif x.1==2 then stW x.2.2 else [])).size<=1048576):jag kd (j1U x)=x:=by
 obtain ⟨h1,h2,h3⟩:=j6P h
 obtain ⟨k,n,t⟩:=x
 dsimp only at h1 h2 h3 hs
 have hn:j1C n=true:=decide_eq_true (by omega)
 unfold jag j1U
 dsimp only
 rw [hk h1,jey hn]
 rcases h3 with ⟨rfl,hst⟩ | ⟨hne,rfl⟩
 ·rw [show ((2:Int)==2)=true from rfl,cond_true] at hs ⊢
  rw [cond_true]
  have e:stT t=j02 (stW t):=by unfold stT;rw [hst];rfl
  rw [jsJ hst e hs]
 ·rw [show (k==2)=false by simp [hne]]
  rfl
theorem jcy (a b:ByteArray) (l:List ByteArray):(j02 l).size<=(j02 (a::b::l)).size:=by
 cases l with
 | nil=>show (0:Nat)<=_;omega
 | cons c l=>
  show _<=(a++(spB++(b++(spB++j02 (c::l))))).size
  simp only [ByteArray.size_append]
  omega
theorem jjc (kd:ByteArray->Int) {w:List ByteArray} (hw:(j02 w).size<=1048576):j2G (jag kd w).2.2:=by
 match w,hw with
 | [],_=>exact j8d
 | [_],_=>exact j8d
 | a::b::r,hw=>
  show j2G (bif kd a==2 then (tst (j02 r)).1 else zST)
  cases kd a==2
  ·exact j8d
  ·exact jtM (Nat.le_trans (jcy a b r) hw)
theorem js9 (a b:ByteArray) (r:List ByteArray) (hr:r≠[]):Z9k (j02 (a::b::r)) ((a.size+b.size+2:Nat):Int) (nI (j02 (a::b::r)).size)=j02 r:=by
 apply j0R
 have e:j02 (a::b::r)=a++(spB++(b++(spB++j02 r))):=by
  rw [jaN hr];rfl
 have hl:=j0d (j02 (a::b::r))
 unfold nI
 rw [jav,<-hl,List.take_length,e,j0l,j0l,j0l,j0l]
 have s1:(Z19 spB).length=1:=rfl
 have la:=j0d a
 have lb:=j0d b
 have:Z19 a++(Z19 spB++(Z19 b++(Z19 spB++Z19 (j02 r))))=(Z19 a++Z19 spB++Z19 b++Z19 spB)++Z19 (j02 r):=by simp
 rw [this,show a.size+b.size+2=(Z19 a++Z19 spB++Z19 b++Z19 spB).length by simp only [List.length_append];omega,List.drop_left]
theorem js4 (s:ByteArray) (hs:s.size<=1048576) (h2:¬ (j08 32 s).length<2):(∀ k,j5L s k=bif sNe (j3E (jag j7l (j08 32 s))) s then k zRC false else k (jag j7l (j08 32 s)) true):=by
 intro k
 unfold j5L
 rw [j5K s (by omega)]
 have hws:∀ x∈j08 32 s,x.size<=1048576:=λx hx=>Nat.le_trans (j3k 32 s x hx) hs
 have hwl:=j4d 32 s
 have hj:=jaG s
 have hsm:=jjc j7l (w:=j08 32 s) (by rw [hj];exact hs)
 generalize hw:j08 32 s=w at *
 obtain ⟨w0,w1,rest,rfl⟩:∃ a b r,w=a::b::r:=by
  match w,h2 with
  | [],h=>simp at h
  | [_],h=>simp at h
  | a::b::r,_=>exact ⟨a,b,r,rfl⟩
 have hlen:(w0::w1::rest).length=rest.length+2:=rfl
 have e0:nth eS (w0::w1::rest) 0=w0:=rfl
 have e1:nth eS (w0::w1::rest) 1=w1:=rfl
 rw [decide_eq_false (show ¬ nI (w0::w1::rest).length<2 by unfold nI;omega),cond_false,Z9c (by omega) (by omega),cond_true,e1,jfY]
 unfold jcS
 have key:=Z8q 5 (λi r=>(i,r)) (λi (r:RC)=>bif decide (0<i)&&sEq (nth eS [eS,j0h,j0W,j0b,j0g] (i:Int)) w0 then ((i:Int),r.2) else r) (λ_ _=>True) (step:=j7o (w0::w1::rest) [eS,j0h,j0W,j0b,j0g] 5)
  (λ(r3:RC)=>j3q s (w0::w1::rest) r3 λ(r4:RC)=>j4e r4 λ(r5:ByteArray)=>bif sNe r5 s then k zRC false else k r4 true)
  (λ(r3:RC)=>j3q s (w0::w1::rest) r3 λ(r4:RC)=>j4e r4 λ(r5:ByteArray)=>bif sNe r5 s then k zRC false else k r4 true)
  (0,(j0X w1).1,zST) (by unfold LIM;omega) trivial (λ_ _ _ _=>trivial) (λi r rec hi _=>by
   show j4X _ _ _ _ _ _ _=_
   unfold j4X
   dsimp only
   rw [decide_eq_true (show (i:Int)<5 by omega),cond_true,show inb (i:Int) ([eS,j0h,j0W,j0b,j0g]:List ByteArray).length=true from Z9c (by omega) (by show (i:Int)<((5:Nat):Int);omega),cond_true,j03 (n:=(i:Int)+1) (by omega)]
   by_cases h0:0<i
   ·rw [decide_eq_true (show (i:Int)>0 by omega),cond_true,Z9c (by omega) (by omega),cond_true,decide_eq_true h0,Bool.true_and,e0]
    cases sEq (nth eS [eS,j0h,j0W,j0b,j0g] (i:Int)) w0<;>rfl
   ·rw [decide_eq_false (show ¬ (i:Int)>0 by omega),cond_false,decide_eq_false h0];rfl) (λr rec _=>by
   show j4X _ _ _ _ _ _ _=_
   unfold j4X
   rfl)
 refine Eq.trans key.1 ?_
 have ef:Z4T (λi (r:RC)=>bif decide (0<i)&&sEq (nth eS [eS,j0h,j0W,j0b,j0g] (i:Int)) w0 then ((i:Int),r.2) else r) 0 5 (0,(j0X w1).1,zST)=(j7l w0,(j0X w1).1,zST):=by
  unfold j7l
  simp only [Z4T]
  have q1:nth eS [eS,j0h,j0W,j0b,j0g] ((0+1:Nat):Int)=j0h:=rfl
  have q2:nth eS [eS,j0h,j0W,j0b,j0g] ((0+1+1:Nat):Int)=j0W:=rfl
  have q3:nth eS [eS,j0h,j0W,j0b,j0g] ((0+1+1+1:Nat):Int)=j0b:=rfl
  have q4:nth eS [eS,j0h,j0W,j0b,j0g] ((0+1+1+1+1:Nat):Int)=j0g:=rfl
  rw [q1,q2,q3,q4]
  cases sEq j0h w0<;>cases sEq j0W w0<;>cases sEq j0b w0<;>cases sEq j0g w0<;>rfl
 rw [ef]
 have hp:∀ K:RC->Res,j3q s (w0::w1::rest) (j7l w0,(j0X w1).1,zST) K=K (jag j7l (w0::w1::rest)):=λK=>by
  unfold j3q jag
  dsimp only
  cases hk:j7l w0==2
  ·rfl
  ·rw [cond_true,cond_true]
   have hdo:=jsp (show j7l w0=2 by simpa using hk)
   cases rest with
   | nil=>
    rw [decide_eq_false (show ¬ nI [w0,w1].length>2 by unfold nI;simp),cond_false]
    have:tst (j02 [])=(zST,false):=jjo (by decide)
    rw [this]
   | cons c r=>
    have hlc:(c::r).length=r.length+1:=rfl
    have hbe:=js9 w0 w1 (c::r) (List.cons_ne_nil _ _)
    have s2:w0.size=2:=by rw [hdo];rfl
    have h1s:=hws w1 (by simp)
    have hsz:w1.size+4<=s.size:=by
     have e:j02 (w0::w1::c::r)=w0++(spB++(w1++(spB++j02 (c::r)))):=by rw [jaN (List.cons_ne_nil _ _)];rfl
     have s1:spB.size=1:=rfl
     have:=congrArg ByteArray.size hj
     rw [e] at this
     simp only [ByteArray.size_append] at this
     omega
    rw [hj] at hbe
    have hst:=jcy w0 w1 (c::r)
    rw [hj] at hst
    rw [decide_eq_true (show nI (w0::w1::c::r).length>2 by unfold nI;omega),cond_true,Z9c (by omega) (by omega),cond_true,e1,j03 (by unfold nI;omega),show 4+nI w1.size=((w0.size+w1.size+2:Nat):Int) by unfold nI;omega,j4x (by omega),cond_true,hbe,jsE _ (by omega)]
 rw [hp,jkH _ hsm]
theorem jt8 {x y:RC} (hx:j2a x=true) (hy:j2a y=true) (h:j3E x=j3E y) (hs:(j3E y).size<=1048576):x=y:=by
 have px:=jfG hx h
 have py:=jfG hy rfl
 have hz:∀ {z:RC},j2a z=true->j3E z=j3E y->(j02 (bif z.1==2 then stW z.2.2 else [])).size<=1048576:=λ{z} hz he=>by
  have:=jcy (j1V z.1) (j04 z.2.1) (bif z.1==2 then stW z.2.2 else [])
  rw [jeV hz] at he
  have e:j02 (j1U z)=j02 (j1V z.1::j04 z.2.1::(bif z.1==2 then stW z.2.2 else [])):=rfl
  rw [<-e,he] at this
  omega
 rw [<-jgb j7l jh8 hx (hz hx h),<-jgb j7l jh8 hy (hz hy rfl),<-px,<-py]
theorem jrJ {x:RC} {s:ByteArray} (hx:j2a x=true) (he:j3E x=s) (hs:s.size<=1048576):jb7 s=(x,true):=
 jhg hx he λy hy hye=>jt8 hy hx (hye.trans he.symm) (by rw [he];exact hs)
theorem jeW {kd:ByteArray->Int} (hk:∀ {k:Int},1<=k/\k<=4->kd (j1V k)=k) {s:ByteArray} (hs:s.size<=1048576) (x:RC) (hx:j2a x=true) (he:j3E x=s):jag kd (j08 32 s)=x:=by
 rw [jfG hx he]
 refine jgb kd hk hx ?_
 have:=jcy (j1V x.1) (j04 x.2.1) (bif x.1==2 then stW x.2.2 else [])
 rw [jeV hx] at he
 have e:j02 (j1U x)=j02 (j1V x.1::j04 x.2.1::(bif x.1==2 then stW x.2.2 else [])):=rfl
 rw [<-e,he] at this
 omega
theorem jsD (s:ByteArray) (hs:s.size<=1048576) (k:RC->Bool->Res):j5L s k=k (jb7 s).1 (jb7 s).2:=by
 by_cases h2:(j08 32 s).length<2
 ·unfold j5L
  rw [j5K s (by omega),decide_eq_true (show nI (j08 32 s).length<2 by unfold nI;omega),cond_true,jo1 h2]
 ·rw [js4 s hs h2]
  exact jdx _ (jeW jh8 hs) (λhe=>jrC he (by omega)) k
theorem jhM (w:List ByteArray) (n:Nat) (hw:(j02 (w.drop n)).size<=LIM) (hl:w.length<=1048577) (k:ByteArray->Res):j7a w (n:Int) k=k (j02 (w.drop n)):=by
 unfold j7a
 by_cases h:w.length<=n
 ·rw [decide_eq_true (show nI w.length<=(n:Int) by unfold nI;omega),cond_true,List.drop_eq_nil_of_le h]
  rfl
 ·rw [decide_eq_false (show ¬ nI w.length<=(n:Int) by unfold nI;omega),cond_false,j4x (by omega),cond_true,j8z,j3Z _ (by rw [List.length_drop];omega) hw]
theorem jsn (s:ByteArray) (hs:s.size<=1048576) (k:RC->Bool->Res):jac s k=k (jb7 s).1 (jb7 s).2:=by
 unfold jac
 rw [jct s (by omega)]
 by_cases h2:(j08 32 s).length<2
 ·rw [decide_eq_true (show nI (j08 32 s).length<2 by unfold nI;omega),cond_true,jo1 h2]
 ·refine Eq.trans ?_ (jdx (jag jer (j08 32 s)) (jeW jt0 hs) (λhe=>jrC he (by omega)) k)
  have hws:∀ x∈j08 32 s,x.size<=1048576:=λx hx=>Nat.le_trans (j3k 32 s x hx) hs
  have hwl:=j4d 32 s
  have hj:=jaG s
  have hsm:=jjc jer (w:=j08 32 s) (by rw [hj];exact hs)
  generalize hw:j08 32 s=w at *
  obtain ⟨w0,w1,rest,rfl⟩:∃ a b r,w=a::b::r:=by
   match w,h2 with
   | [],h=>simp at h
   | [_],h=>simp at h
   | a::b::r,_=>exact ⟨a,b,r,rfl⟩
  have hlen:(w0::w1::rest).length=rest.length+2:=rfl
  have e0:nth eS (w0::w1::rest) 0=w0:=rfl
  have e1:nth eS (w0::w1::rest) 1=w1:=rfl
  have h1s:=hws w1 (by simp)
  have hkr:=jh3 (λx=>sEq w0 x) [j0h,j0W,j0b,j0g]
  have e4:([j0h,j0W,j0b,j0g]:List ByteArray).length=4:=rfl
  rw [e4] at hkr
  have hki:Z8g (1+Z8b (λx=>sEq w0 x) [j0h,j0W,j0b,j0g])=jer w0:=j03 (by omega)
  rw [decide_eq_false (show ¬ nI (w0::w1::rest).length<2 by unfold nI;omega),cond_false,Z9c (by omega) (by omega),cond_true,e0,jfA _ w0 (by rw [e4];unfold LIM;omega),Z9c (by omega) (by omega),cond_true,e1,jiR w1 (by unfold LIM;omega),hki]
  have hst:=jcy w0 w1 rest
  rw [hj] at hst
  have hp:∀ K:RC->Res,j6C (w0::w1::rest) (jer w0==2) (jer w0,(j0X w1).1,0,eS,[],[],0,eS,[],[],eS,eS) K=K (jag jer (w0::w1::rest)):=λK=>by
   unfold j6C jag
   dsimp only
   cases hk:jer w0==2
   ·rfl
   ·have hb:=jhM (w0::w1::rest) 2 (by show (j02 rest).size<=LIM;unfold LIM;omega) (by omega)
    rw [cond_true,cond_true,show (2:Int)=((2:Nat):Int) from rfl,hb]
    show j68 (j02 rest) _=_
    rw [jso _ (by omega)]
  rw [hp,jkB _ hsm]
theorem jrK {s:ByteArray} (hs:s.size<=1048576):j2G (jb7 s).1.2.2:=by
 cases h:(jb7 s).2
 ·have e:(jb7 s).1=zRC:=(jnR h).1
  rw [e];exact j8d
 ·obtain ⟨h1,h2⟩:=jjb h
  have h1:j2a (jb7 s).1=true:=h1
  have h2:j3E (jb7 s).1=s:=h2
  rw [<-jeW jh8 hs _ h1 h2]
  exact jjc j7l (by rw [jaG];exact hs)
end Go.PI.G
