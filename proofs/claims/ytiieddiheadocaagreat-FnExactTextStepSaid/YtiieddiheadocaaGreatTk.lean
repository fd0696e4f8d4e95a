/-
  Program's code interpreted over typed values; printed texts; plain laws. No conditions.
-/
import Derived.Test.YtiieddiheadocaaGreatTj
import Derived.Test.YtiieddiheadocaaGreatTf
import Derived.Test.YtiieddiheadocaaGreatTg
import Derived.Test.YtiieddiheadocaaGreatTe
import Derived.Test.YtiieddiheadocaaGreatTi
set_option linter.unusedVariables false
set_option linter.unusedSimpArgs false
namespace Go.PI.G
open Go Go.PI Go.Proofs
theorem jqw (c:C) (h:j1A c=true) (k:List ByteArray->Res):j3R c k=k (j1g c):=by
 obtain ⟨h1,h2,h3⟩:=j5U h
 unfold j3R j5K jag j1g tyN
 dsimp only
 have hv:=jbm c.2.2.2.2
 rw [show inb c.2.1 ([eS,j1f,j2c,j1u]:List ByteArray).length=true from Z9c (by omega) (by show c.2.1<((4:Nat):Int);omega),cond_true]
 cases c.2.2.1
 ·rw [cond_false,cond_false]
  cases c.2.2.2.1
  ·rfl
  ·rw [cond_true,cond_true,jeg,Z9d (by unfold LIM;omega),cond_true]
   rfl
 ·rw [cond_true,cond_true,Z9d (by show (2:Nat)+1<=LIM;unfold LIM;omega),cond_true]
  cases c.2.2.2.1
  ·rfl
  ·rw [cond_true,cond_true,jeg,Z9d (by unfold LIM;omega),cond_true]
   rfl
theorem jsD (c:C):(j1S c).length<=6:=by
 have:=jdM c
 unfold j1S
 simp only [List.length_cons,List.length_append,List.length_nil]
 omega
theorem joA {α β:Type} (l:List α) (g:α->List β) (i:Nat) (hi:i<l.length):(l.take (i+1)).flatMap g=(l.take i).flatMap g++g l[i]:=by
 rw [List.take_succ_eq_append_getElem hi,List.flatMap_append,List.flatMap_cons,List.flatMap_nil,List.append_nil]
theorem jok (l:List C):(l.flatMap j1S).length<=6 * l.length:=by
 induction l with
 | nil=>simp
 | cons c l ih=>
  have:=jsD c
  rw [List.flatMap_cons,List.length_append,List.length_cons]
  omega
theorem jjQ {d:D} (h:j1Y d=true) (hd:dSm d):(j1h d).length<=1048700:=by
 obtain ⟨h0,hc⟩:=j4H h
 rcases hc with ⟨t,cs,ks,rfl,hT⟩ | ⟨t,rfl⟩ | ⟨t,c,rfl,hC⟩ | ⟨t,n,rfl,hn⟩ | ⟨t,n,m,rfl,hn,hm⟩
 ·have h1:=(j2t hT).2.2.1
  have h2:=jok cs
  have h3:=hd.2.2.1
  simp only [j1h,beq_self_eq_true,cond_true,List.length_cons,List.length_append] at h1 h3 ⊢
  omega
 ·show (2:Nat)<=_;omega
 ·have:=jdM c
  simp only [j1h,show ((3:Int)==1)=false from rfl,show ((3:Int)==2)=false from rfl,show ((3:Int)==3)=true from rfl,cond_false,cond_true,List.length_cons]
  show (j1g c).length+1+1<=_
  omega
 ·show (3:Nat)<=_;omega
 ·show (4:Nat)<=_;omega
theorem jov {d:D} (h:j1Y d=true) (hd:dSm d):(j04 (j1h d)).size<=108000000:=by
 have h1:=jjQ h hd
 have h2:=jbO (j1h d) 101 λw hw=>(jjR h w hw).1
 omega
theorem jsF (d:D) (h:j1Y d=true) (hd:dSm d) (k:List ByteArray->Res):jaE d k=k (j1h d):=by
 obtain ⟨h0,hc⟩:=j4H h
 unfold jaE jah
 rcases hc with ⟨t,cs,ks,rfl,hT⟩ | ⟨t,rfl⟩ | ⟨t,c,rfl,hC⟩ | ⟨t,n,rfl,hn⟩ | ⟨t,n,m,rfl,hn,hm⟩
 ·obtain ⟨_,c1,c8,_,hcs,_⟩:=j2t hT
  have hks:=hd.2.2.1
  dsimp only at c1 c8 hcs hks ⊢
  rw [show inb 1 6=true from rfl,cond_true,show ((1:Int)==1)=true from rfl,cond_true]
  unfold jcW
  have key:=Z8q cs.length (λi out=>(out,i)) (λi _=>[j10,t]++(cs.take (i+1)).flatMap j1S) (λi out=>out=[j10,t]++(cs.take i).flatMap j1S) (step:=j7R cs (nI cs.length))
   (λout1=>bif lim (out1.length+1) then (bif lim ((out1++[j2d]).length+ks.length) then k ((out1++[j2d])++ks) else none) else none) (λout1=>bif lim (out1.length+1) then (bif lim ((out1++[j2d]).length+ks.length) then k ((out1++[j2d])++ks) else none) else none) [j10,t] (by unfold LIM;omega) rfl (λi out hi ho=>rfl) (λi out rec hi ho=>by
   show j5j _ _ _ _ _ _=_
   unfold j5j
   dsimp only
   have hcb:=j7u hcs i hi
   have hlen:out.length<=100:=by
    rw [ho,List.length_append]
    have:=jok (cs.take i)
    rw [List.length_take] at this
    show 2+_<=100
    omega
   have hcw:=jdM cs[i]
   have e:out++[j15]++j1g cs[i]++[j14]=[j10,t]++(cs.take (i+1)).flatMap j1S:=by
    rw [joA cs j1S i hi,ho]
    unfold j1S
    simp
   have l1:lim (out.length+1)=true:=Z9d (by unfold LIM;omega)
   have l2:lim ((out++[j15]).length+(j1g cs[i]).length)=true:=Z9d (by rw [List.length_append,List.length_singleton];unfold LIM;omega)
   have l3:lim ((out++[j15]++j1g cs[i]).length+1)=true:=Z9d (by rw [List.length_append,List.length_append,List.length_singleton];unfold LIM;omega)
   rw [Z9i hi,cond_true,j0n hi,cond_true,Z92 _ _ _ hi,j05 (n:=(i:Int)+1) (by omega)]
   simp only [jqw _ hcb,l1,l2,l3,cond_true,Z8m,e]) (λout rec ho=>by
   show j5j _ _ _ _ _ _=_
   unfold j5j
   dsimp only
   rw [Z9h,cond_false])
  have hq:=key.2
  rw [hq,List.take_length] at key
  refine Eq.trans key.1 ?_
  have:=jok cs
  rw [Z9d (by rw [List.length_append];show 2+_+1<=LIM;unfold LIM;omega),cond_true,Z9d (by rw [List.length_append,List.length_append];show 2+_+1+_<=LIM;unfold LIM;omega),cond_true]
  congr 1
  simp [j1h]
 ·rfl
 ·dsimp only
  rw [show inb 3 6=true from rfl,cond_true,show ((3:Int)==1)=false from rfl,cond_false,show ((3:Int)==3)=true from rfl,cond_true,show inb 0 ([c]:List C).length=true from rfl,cond_true]
  have e:nth zC [c] 0=c:=rfl
  have:=jdM c
  rw [e,jqw _ hC,Z9d (by show 2+_<=LIM;unfold LIM;omega),cond_true]
  rfl
 ·rfl
 ·rfl
theorem jjx (d:D) (hd:dSm d) (k:ByteArray->Res):j7q d k=k (j2a d):=by
 unfold j7q j2a
 rw [jmV d hd]
 cases h:j1Y d
 ·rfl
 ·rw [Bool.not_true,cond_false,cond_true,jsF d h hd]
  have h1:=jjQ h hd
  have h2:=jov h hd
  rw [jd4 _ (by omega) (by unfold LIM;omega)]
theorem jej {w:List ByteArray} (h:w≠[]):tlB [j04 w]=tlB w:=by
 show spB++(j04 w++eS)=_
 rw [j33,jab h]
theorem jsT (c:C):j04 (j1g c)=c.1++(spB++(tyN c.2.1++((bif c.2.2.1 then spB++j72 else eS)++(bif c.2.2.2.1 then spB++(j5u++j07 c.2.2.2.2) else eS)))):=by
 unfold j1g
 show c.1++(spB++(tyN c.2.1++tlB _))=_
 rw [j7s]
 have e1:tlB (bif c.2.2.1 then [j72] else [])=bif c.2.2.1 then spB++j72 else eS:=by
  cases c.2.2.1
  ·rfl
  ·show spB++(j72++eS)=_
   rw [j33];rfl
 have e2:tlB (bif c.2.2.2.1 then [j5u++j07 c.2.2.2.2] else [])=bif c.2.2.2.1 then spB++(j5u++j07 c.2.2.2.2) else eS:=by
  cases c.2.2.2.1
  ·rfl
  ·show spB++((j5u++j07 c.2.2.2.2)++eS)=_
   rw [j33];rfl
 rw [e1,e2]
theorem jqj (c:C) (hs:c.1.size<=1048576) (k:ByteArray->Res):j7n c k=k (bif j1A c then j04 (j1g c) else eS):=by
 unfold j7n
 rw [jgu c (by unfold LIM;omega)]
 cases h:j1A c
 ·rfl
 ·obtain ⟨h1,h2,h3⟩:=j5U h
  have hv:=jbm c.2.2.2.2
  have ht:(tyN c.2.1).size<=4:=by rcases jff h2 with ⟨_,e⟩ | ⟨_,e⟩ | ⟨_,e⟩<;>rw [e]<;>decide
  have s1:(j0c).size=1:=rfl
  have s2:(jqD).size=4:=rfl
  have s3:(jrF).size=2:=rfl
  rw [Bool.not_true,cond_false,Z9d (by unfold LIM;omega),cond_true,cond_true]
  unfold jd2
  have e0:nth eS [eS,j1f,j2c,j1u] c.2.1=tyN c.2.1:=rfl
  rw [Z9c (by omega) (by omega),cond_true,e0]
  unfold j8R
  dsimp only
  rw [Z9d (by rw [ByteArray.size_append];unfold LIM;omega),cond_true,jsT]
  have q1:(j0c:ByteArray)=spB:=rfl
  have q2:(jqD:ByteArray)=spB++j72:=j11 (by rw [j0l];rfl)
  have q3:(jrF:ByteArray)=spB++j5u:=j11 (by rw [j0l];rfl)
  cases c.2.2.1
  ·rw [cond_false,cond_false,jm6]
   cases c.2.2.2.1
   ·rw [cond_false,cond_false,j33,q1,ByteArray.append_assoc]
   ·rw [cond_true,cond_true,Z9d (by simp only [ByteArray.size_append];unfold LIM;omega),cond_true,jgv,Z9d (by simp only [ByteArray.size_append];unfold LIM;omega),cond_true,q1,q3]
    simp only [ByteArray.append_assoc]
  ·rw [cond_true,cond_true,Z9d (by simp only [ByteArray.size_append];unfold LIM;omega),cond_true]
   cases c.2.2.2.1
   ·rw [cond_false,cond_false,j33,q1,q2]
    simp only [ByteArray.append_assoc]
   ·rw [cond_true,cond_true,Z9d (by simp only [ByteArray.size_append];unfold LIM;omega),cond_true,jgv,Z9d (by simp only [ByteArray.size_append];unfold LIM;omega),cond_true,q1,q2,q3]
    simp only [ByteArray.append_assoc]
theorem jot {c:C} (h:j1A c=true):(j04 (j1g c)).size<=408:=by
 have h1:=jdM c
 have h2:=jbO (j1g c) 101 λw hw=>(jct h w hw).1
 omega
theorem jt9 (c:C):tlB (j1S c)=jfi++(j04 (j1g c)++jgj):=by
 unfold j1S
 have q1:(jfi:ByteArray)=spB++(j15++spB):=j11 (by rw [j0l,j0l];rfl)
 have q2:(jgj:ByteArray)=spB++j14:=j11 (by rw [j0l];rfl)
 have hne:j1g c≠[]:=by unfold j1g;exact List.cons_ne_nil _ _
 show spB++(j15++tlB (j1g c++[j14]))=_
 rw [j7s,<-jab hne,q1,q2]
 show spB++(j15++((spB++j04 (j1g c))++(spB++(j14++eS))))=_
 rw [j33]
 simp only [ByteArray.append_assoc]
theorem jqs (l:List C) (h:∀ c∈l,j1A c=true):(tlB (l.flatMap j1S)).size<=413 * l.length:=by
 induction l with
 | nil=>show (0:Nat)<=_;omega
 | cons c l ih=>
  have h1:=ih λx hx=>h x (List.mem_cons_of_mem _ hx)
  have h2:=jot (h c (by simp))
  have s1:(jfi).size=3:=rfl
  have s2:(jgj).size=2:=rfl
  rw [List.flatMap_cons,j7s,ByteArray.size_append,jt9,ByteArray.size_append,ByteArray.size_append,List.length_cons]
  omega
theorem j6w (d:D) (hd:dSm d) (k:ByteArray->Res):j35 d k=k (j2a d):=by
 unfold j35 j2a
 rw [jmy d hd]
 cases h:j1Y d
 ·rfl
 ·rw [Bool.not_true,cond_false,cond_true]
  have hJ:=jov h hd
  obtain ⟨h0,hc⟩:=j4H h
  rcases hc with ⟨t,cs,ks,rfl,hT⟩ | ⟨t,rfl⟩ | ⟨t,c,rfl,hC⟩ | ⟨t,n,rfl,hn⟩ | ⟨t,n,m,rfl,hn,hm⟩
  ·obtain ⟨_,c1,c8,k1,hcs,_⟩:=j2t hT
   have hks:=hd.2.2.1
   have hw:=j0o h0
   dsimp only at c1 c8 k1 hcs hks hw ⊢
   have hcb:∀ c∈cs,j1A c=true:=λc hc=>by
    obtain ⟨i,hi,rfl⟩:=List.mem_iff_getElem.1 hc
    exact j7u hcs i hi
   have s1:(jfi).size=3:=rfl
   have s2:(jgj).size=2:=rfl
   have s3:(j7y).size=7:=rfl
   have s4:(jbn).size=5:=rfl
   have hkn:ks≠[]:=λe=>by rw [e] at k1;simp at k1
   have hkj:(j04 ks).size<=108000000:=by
    have:=jbO ks 8 λw hw=>(j0o (jkC hT w hw)).2
    omega
   rw [show ((1:Int)==1)=true from rfl,cond_true,Z9d (by unfold LIM;omega),cond_true]
   unfold jbL
   have key:=Z8q cs.length (λi out=>(out,i)) (λi _=>(j7y++t)++tlB ((cs.take (i+1)).flatMap j1S)) (λi out=>out=(j7y++t)++tlB ((cs.take i).flatMap j1S)) (step:=j6F cs (nI cs.length))
    (λs=>bif lim (s.size+5) then (j1b ks λ(r1:ByteArray)=>bif lim ((s++jbn).size+r1.size) then k ((s++jbn)++r1) else none) else none) (λs=>bif lim (s.size+5) then (j1b ks λ(r1:ByteArray)=>bif lim ((s++jbn).size+r1.size) then k ((s++jbn)++r1) else none) else none) (j7y++t) (by unfold LIM;omega) (j33 _).symm (λi out hi ho=>rfl) (λi out rec hi ho=>by
    show j4n _ _ _ _ _ _=_
    unfold j4n
    dsimp only
    have hci:=hcb cs[i] (List.getElem_mem _)
    have hsz:=jqs (cs.take i) λc hc=>hcb c (List.mem_of_mem_take hc)
    rw [List.length_take] at hsz
    have hcj:=jot hci
    have hw2:=j0o (j5U hci).1
    have ho2:out.size<=5000:=by rw [ho,ByteArray.size_append,ByteArray.size_append];omega
    have e:out++jfi++j04 (j1g cs[i])++jgj=(j7y++t)++tlB ((cs.take (i+1)).flatMap j1S):=by
     rw [joA cs j1S i hi,j7s,jt9,ho]
     simp only [ByteArray.append_assoc]
    rw [Z9i hi,cond_true,j0n hi,cond_true,Z92 _ _ _ hi,Z9d (by unfold LIM;omega),cond_true,jqj _ (by omega),hci,cond_true,Z9d (by rw [ByteArray.size_append];unfold LIM;omega),cond_true,Z9d (by rw [ByteArray.size_append,ByteArray.size_append];unfold LIM;omega),cond_true,e,j05 (n:=(i:Int)+1) (by omega)]) (λout rec ho=>by
    show j4n _ _ _ _ _ _=_
    unfold j4n
    dsimp only
    rw [Z9h,cond_false])
   have hq:=key.2
   rw [hq,List.take_length] at key
   refine Eq.trans key.1 ?_
   have hsz:=jqs cs hcb
   have ho2:((j7y++t)++tlB (cs.flatMap j1S)).size<=5000:=by rw [ByteArray.size_append,ByteArray.size_append];omega
   rw [Z9d (by unfold LIM;omega),cond_true,j3Q ks (by omega) (by unfold LIM;omega),Z9d (by rw [ByteArray.size_append];unfold LIM;omega),cond_true]
   congr 1
   have q1:(j7y:ByteArray)=j10++spB:=j11 (by rw [j0l];rfl)
   have q2:(jbn:ByteArray)=spB++(j2d++spB):=j11 (by rw [j0l,j0l];rfl)
   have e2:j04 (j1h (1,t,cs,ks,eS,eS))=j10++(spB++(t++(tlB (cs.flatMap j1S)++(spB++(j2d++tlB ks))))):=by
    show j10++(spB++(t++tlB (cs.flatMap j1S++(j2d::ks))))=_
    rw [j7s]
    rfl
   rw [e2,<-jab hkn,q1,q2]
   simp only [ByteArray.append_assoc]
  ·have hw:=j0o h0
   dsimp only at hw ⊢
   rw [show ((2:Int)==1)=false from rfl,cond_false,show ((2:Int)==2)=true from rfl,cond_true,Z9d (by unfold LIM;omega),cond_true]
   congr 1
   have q1:(jra:ByteArray)=j3B++spB:=j11 (by rw [j0l];rfl)
   show _=j3B++(spB++(t++eS))
   rw [j33,q1,ByteArray.append_assoc]
  ·have hw2:=j0o (j5U hC).1
   dsimp only
   have e:nth zC [c] 0=c:=rfl
   have hne:j1g c≠[]:=by unfold j1g;exact List.cons_ne_nil _ _
   have ej:j04 [j4j,t,j04 (j1g c)]=j04 (j1h (3,t,[c],[],eS,eS)):=by
    show j4j++(spB++(t++tlB [j04 (j1g c)]))=j4j++(spB++(t++tlB (j1g c)))
    rw [jej hne]
   rw [show ((3:Int)==1)=false from rfl,cond_false,show ((3:Int)==2)=false from rfl,cond_false,show ((3:Int)==3)=true from rfl,cond_true,show inb 0 ([c]:List C).length=true from rfl,cond_true,e,jqj _ (by omega),hC,cond_true,j3Q _ (by simp) (by rw [ej];unfold LIM;omega),ej]
  ·dsimp only
   rw [show ((4:Int)==1)=false from rfl,cond_false,show ((4:Int)==2)=false from rfl,cond_false,show ((4:Int)==3)=false from rfl,cond_false,show ((4:Int)==4)=true from rfl,cond_true]
   exact j3Q _ (by simp) (by show (j04 (j1h (4,t,[],[],n,eS))).size<=_;unfold LIM;omega) k
  ·dsimp only
   rw [show ((5:Int)==1)=false from rfl,cond_false,show ((5:Int)==2)=false from rfl,cond_false,show ((5:Int)==3)=false from rfl,cond_false,show ((5:Int)==4)=false from rfl,cond_false]
   exact j3Q _ (by simp) (by show (j04 (j1h (5,t,[],[],n,m))).size<=_;unfold LIM;omega) k
theorem map_take {α β:Type} (l:List α) (g:α->β) (i:Nat) (hi:i<l.length):(l.take (i+1)).map g=(l.take i).map g++[g l[i]]:=by
 rw [List.take_succ_eq_append_getElem hi,List.map_append]
 rfl
theorem jfc (l:List V) (h:l.length<=1000000000) (k:List ByteArray->Res):j25 l k=k (l.map j07):=by
 unfold j25 jcg
 have key:=Z8q l.length (λi out=>(out,i)) (λi _=>(l.take (i+1)).map j07) (λi out=>out=(l.take i).map j07) (step:=j6S l (nI l.length)) (λout=>k out) k [] (by unfold LIM;omega) rfl (λi out hi ho=>rfl) (λi out rec hi ho=>by
  show j4B _ _ _ _ _ _=_
  unfold j4B
  dsimp only
  have hl:out.length<=i:=by rw [ho,List.length_map,List.length_take];omega
  rw [Z9i hi,cond_true,j0n hi,cond_true,Z92 _ _ _ hi,jeg,Z9d (by unfold LIM;omega),cond_true,j05 (by omega),map_take l j07 i hi,ho]) (λout rec ho=>by
  show j4B _ _ _ _ _ _=_
  unfold j4B
  dsimp only
  rw [Z9h,cond_false])
 have hq:=key.2
 rw [hq,List.take_length] at key
 exact key.1
theorem jeM (l:List V) (h:l.length<=8) (k:ByteArray->Res):j3q l k=k (j04 (l.map j07)):=by
 unfold j3q jaW
 have hsz:(j04 (l.map j07)).size<=LIM:=by
  have:=jbO (l.map j07) 101 λw hw=>by
   obtain ⟨v,_,rfl⟩:=List.mem_map.1 hw
   have:=jbm v
   omega
  rw [List.length_map] at this
  unfold LIM;omega
 have key:=Z8q l.length (λi out=>(out,i)) (λi _=>(l.take (i+1)).map j07) (λi out=>out=(l.take i).map j07) (step:=j67 l (nI l.length)) (λout=>j1b out λr=>k r) (λout=>j1b out λr=>k r) [] (by unfold LIM;omega) rfl (λi out hi ho=>rfl) (λi out rec hi ho=>by
  show j3X _ _ _ _ _ _=_
  unfold j3X
  dsimp only
  have hl:out.length<=i:=by rw [ho,List.length_map,List.length_take];omega
  rw [Z9i hi,cond_true,j0n hi,cond_true,Z92 _ _ _ hi,jgv,Z9d (by unfold LIM;omega),cond_true,j05 (by omega),map_take l j07 i hi,ho]) (λout rec ho=>by
  show j3X _ _ _ _ _ _=_
  unfold j3X
  dsimp only
  rw [Z9h,cond_false])
 have hq:=key.2
 rw [hq,List.take_length] at key
 refine Eq.trans key.1 ?_
 rw [j3Q _ (by rw [List.length_map];omega) hsz]
theorem jr4 {s:ST} (h:stB s=true) (hs:j2y s):(stW s).length<=1048700:=by
 obtain ⟨h0,hc⟩:=j9K h
 rcases hc with ⟨t,r,rfl,hr⟩ | ⟨t,q,r,rfl,hq,hr⟩ | ⟨t,q,rfl,hq⟩ | ⟨t,rfl⟩ | ⟨d,rfl,hd⟩
 ·have:=(j0v hr).2.1
  show (r.map j07).length+1+1<=_
  rw [List.length_map];omega
 ·have h1:=(j0v hr).2.1
  have h2:=(j0v hq).2.1
  show (q.map j07++(j1C::r.map j07)).length+1+1<=_
  rw [List.length_append,List.length_cons,List.length_map,List.length_map];omega
 ·have:=(j0v hq).2.1
  show (q.map j07).length+1+1<=_
  rw [List.length_map];omega
 ·show (2:Nat)<=_;omega
 ·exact jjQ hd hs.2.2.2
theorem jlm {s:ST} (h:stB s=true) (hs:j2y s):(j04 (stW s)).size<=108000000:=by
 have h1:=jr4 h hs
 have h2:=jbO (stW s) 101 λw hw=>(jon h w hw).1
 omega
theorem j7K (s:ST) (hs:j2y s) (k:ByteArray->Res):j5J s k=k (stT s):=by
 unfold j5J stT
 rw [joL s hs]
 cases h:stB s
 ·rfl
 ·rw [Bool.not_true,cond_false,cond_true]
  have hJ:=jlm h hs
  have hL:=jr4 h hs
  obtain ⟨h0,hc⟩:=j9K h
  rcases hc with ⟨t,r,rfl,hr⟩ | ⟨t,q,r,rfl,hq,hr⟩ | ⟨t,q,rfl,hq⟩ | ⟨t,rfl⟩ | ⟨d,rfl,hd⟩
  ·have h8:=(j0v hr).2.1
   dsimp only at hJ ⊢
   have hg:∀ K,j1p ([j0V,t]++r.map j07) K=K (j04 ([j0V,t]++r.map j07)):=λK=>jd4 _ (by simp;omega) (by show (j04 (stW (1,t,[],r,zD))).size<=_;unfold LIM;omega) K
   rw [show ((1:Int)==1)=true from rfl,cond_true]
   have hl:lim (2+(r.map j07).length)=true:=Z9d (by rw [List.length_map];unfold LIM;omega)
   simp only [jfc r (by omega),hl,cond_true,hg,Z8m]
   rfl
  ·have h8:=(j0v hr).2.1
   have h9:=(j0v hq).2.1
   dsimp only at hJ ⊢
   rw [show ((2:Int)==1)=false from rfl,cond_false,show ((2:Int)==2)=true from rfl,cond_true]
   unfold j7M
   dsimp only
   have hl:lim (2+(q.map j07).length)=true:=Z9d (by rw [List.length_map];unfold LIM;omega)
   have hl2:lim (([j0F,t]++q.map j07).length+1)=true:=Z9d (by rw [List.length_append,List.length_map];show 2+_+1<=_;unfold LIM;omega)
   have hl3:lim ((([j0F,t]++q.map j07)++[j1C]).length+(r.map j07).length)=true:=Z9d (by rw [List.length_append,List.length_append,List.length_map,List.length_map];show 2+_+1+_<=_;unfold LIM;omega)
   have e:(([j0F,t]++q.map j07)++[j1C])++r.map j07=stW (2,t,q,r,zD):=by
    simp [stW]
   have hg:∀ K,j1p ((([j0F,t]++q.map j07)++[j1C])++r.map j07) K=K (j04 (stW (2,t,q,r,zD))):=λK=>by
    rw [e]
    exact jd4 _ (by omega) (by unfold LIM;omega) K
   simp only [jfc q (by omega),jfc r (by omega),hl,hl2,hl3,cond_true,hg,Z8m]
  ·have h8:=(j0v hq).2.1
   dsimp only at hJ ⊢
   have hg:∀ K,j1p ([j0U,t]++q.map j07) K=K (j04 ([j0U,t]++q.map j07)):=λK=>jd4 _ (by simp;omega) (by show (j04 (stW (3,t,q,[],zD))).size<=_;unfold LIM;omega) K
   rw [show ((3:Int)==1)=false from rfl,cond_false,show ((3:Int)==2)=false from rfl,cond_false,show ((3:Int)==3)=true from rfl,cond_true]
   have hl:lim (2+(q.map j07).length)=true:=Z9d (by rw [List.length_map];unfold LIM;omega)
   simp only [jfc q (by omega),hl,cond_true,hg,Z8m]
   rfl
  ·have hw:=j0o h0
   dsimp only at hw ⊢
   rw [show ((4:Int)==1)=false from rfl,cond_false,show ((4:Int)==2)=false from rfl,cond_false,show ((4:Int)==3)=false from rfl,cond_false,show ((4:Int)==4)=true from rfl,cond_true,Z9d (by unfold LIM;omega),cond_true]
   congr 1
   have q1:(jgR:ByteArray)=j1T++spB:=j11 (by rw [j0l];rfl)
   show _=j1T++(spB++(t++eS))
   rw [j33,q1,ByteArray.append_assoc]
  ·dsimp only
   rw [show ((5:Int)==1)=false from rfl,cond_false,show ((5:Int)==2)=false from rfl,cond_false,show ((5:Int)==3)=false from rfl,cond_false,show ((5:Int)==4)=false from rfl,cond_false,jjx d hs.2.2.2]
   unfold j2a
   rw [hd]
   rfl
theorem j9Y (s:ST) (hs:j2y s) (k:ByteArray->Res):j4m s k=k (stT s):=by
 unfold j4m stT
 rw [joD s hs]
 cases h:stB s
 ·rfl
 ·rw [Bool.not_true,cond_false,cond_true]
  have hJ:=jlm h hs
  have hne:∀ {l:List V},j1R l=true->l.map j07≠[]:=λ{l} hl e=>by
   have h1:=(j0v hl).1
   have:=congrArg List.length e
   rw [List.length_map] at this
   simp at this
   rw [this] at h1
   simp at h1
  obtain ⟨h0,hc⟩:=j9K h
  rcases hc with ⟨t,r,rfl,hr⟩ | ⟨t,q,r,rfl,hq,hr⟩ | ⟨t,q,rfl,hq⟩ | ⟨t,rfl⟩ | ⟨d,rfl,hd⟩
  ·have h8:=(j0v hr).2.1
   dsimp only at hJ ⊢
   have e:j04 [j0V,t,j04 (r.map j07)]=j04 (stW (1,t,[],r,zD)):=by
    show j0V++(spB++(t++tlB [j04 (r.map j07)]))=j0V++(spB++(t++tlB (r.map j07)))
    rw [jej (hne hr)]
   rw [show ((1:Int)==1)=true from rfl,cond_true,jeM r h8,j3Q _ (by simp) (by rw [e];unfold LIM;omega),e]
  ·have h8:=(j0v hr).2.1
   have h9:=(j0v hq).2.1
   dsimp only at hJ ⊢
   have e:j04 [j0F,t,j04 (q.map j07),j1C,j04 (r.map j07)]=j04 (stW (2,t,q,r,zD)):=by
    show j0F++(spB++(t++tlB ([j04 (q.map j07)]++([j1C]++[j04 (r.map j07)]))))=j0F++(spB++(t++tlB (q.map j07++([j1C]++r.map j07))))
    rw [j7s,j7s,j7s,j7s,jej (hne hq),jej (hne hr)]
   rw [show ((2:Int)==1)=false from rfl,cond_false,show ((2:Int)==2)=true from rfl,cond_true,jeM q h9,jeM r h8,j3Q _ (by simp) (by rw [e];unfold LIM;omega),e]
  ·have h8:=(j0v hq).2.1
   dsimp only at hJ ⊢
   have e:j04 [j0U,t,j04 (q.map j07)]=j04 (stW (3,t,q,[],zD)):=by
    show j0U++(spB++(t++tlB [j04 (q.map j07)]))=j0U++(spB++(t++tlB (q.map j07)))
    rw [jej (hne hq)]
   rw [show ((3:Int)==1)=false from rfl,cond_false,show ((3:Int)==2)=false from rfl,cond_false,show ((3:Int)==3)=true from rfl,cond_true,jeM q h8,j3Q _ (by simp) (by rw [e];unfold LIM;omega),e]
  ·have hw:=j0o h0
   dsimp only at hw ⊢
   rw [show ((4:Int)==1)=false from rfl,cond_false,show ((4:Int)==2)=false from rfl,cond_false,show ((4:Int)==3)=false from rfl,cond_false,show ((4:Int)==4)=true from rfl,cond_true,Z9d (by unfold LIM;omega),cond_true]
   congr 1
   have q1:(jgR:ByteArray)=j1T++spB:=j11 (by rw [j0l];rfl)
   show _=j1T++(spB++(t++eS))
   rw [j33,q1,ByteArray.append_assoc]
  ·dsimp only
   rw [show ((5:Int)==1)=false from rfl,cond_false,show ((5:Int)==2)=false from rfl,cond_false,show ((5:Int)==3)=false from rfl,cond_false,show ((5:Int)==4)=false from rfl,cond_false,j6w d hs.2.2.2]
   unfold j2a
   rw [hd]
   rfl
end Go.PI.G
namespace Go.PI.G
open Go Go.PI Go.Proofs
abbrev RC:=Int×Int×ST
abbrev zRC:RC:=(0,0,0,eS,[],[],0,eS,[],[],eS,eS)
def ji1 (s:ST):Bool:=(s.1==0)&&(sEq s.2.1 eS&&((s.2.2.1.length==0)&&((s.2.2.2.1.length==0)&&noD s.2.2.2.2)))
theorem jqp (s:ST):ji1 s=true↔s=zST:=by
 obtain ⟨a,b,c,e,d⟩:=s
 unfold ji1
 simp only [Bool.and_eq_true,beq_iff_eq,j0t,Prod.mk.injEq,List.length_eq_zero_iff,jfV]
def j23 (r:RC):Bool:=decide (1<=r.1/\r.1<=4)&&(decide (1<=r.2.1/\r.2.1<=1000000)&&(bif r.1==2 then stB r.2.2 else ji1 r.2.2))
def j1O (k:Int):ByteArray:=nth eS [eS,j0i,j0R,j09,j0h] k
def j1N (r:RC):List ByteArray:=j1O r.1::j06 r.2.1::(bif r.1==2 then stW r.2.2 else [])
def j3s (r:RC):ByteArray:=bif j23 r then j04 (j1N r) else eS
theorem j6e {r:RC} (h:j23 r=true):(1<=r.1/\r.1<=4)/\(1<=r.2.1/\r.2.1<=1000000)/\((r.1=2/\stB r.2.2=true)\/(r.1≠2/\r.2.2=zST)):=by
 unfold j23 at h
 rw [Bool.and_eq_true,Bool.and_eq_true,decide_eq_true_eq,decide_eq_true_eq] at h
 refine ⟨h.1,h.2.1,?_⟩
 have h3:=h.2.2
 cases hk:r.1==2
 ·rw [hk,cond_false] at h3
  exact .inr ⟨by simpa using hk,(jqp _).1 h3⟩
 ·rw [hk,cond_true] at h3
  exact .inl ⟨by simpa using hk,h3⟩
theorem jdD {k:Int} (h:1<=k/\k<=4):(k=1/\j1O k=j0i)\/(k=2/\j1O k=j0R)\/(k=3/\j1O k=j09)\/(k=4/\j1O k=j0h):=by
 have:k=1\/k=2\/k=3\/k=4:=by omega
 rcases this with rfl | rfl | rfl | rfl
 ·exact .inl ⟨rfl,rfl⟩
 ·exact .inr (.inl ⟨rfl,rfl⟩)
 ·exact .inr (.inr (.inl ⟨rfl,rfl⟩))
 ·exact .inr (.inr (.inr ⟨rfl,rfl⟩))
theorem jeO {k:Int} (h:1<=k/\k<=4):(j1O k).size<=6/\free 32 (j1O k):=by
 rcases jdD h with ⟨_,e⟩ | ⟨_,e⟩ | ⟨_,e⟩ | ⟨_,e⟩<;>rw [e]<;>exact ⟨by decide,j8s _ _ (by decide)⟩
theorem jjz (s:ST) (k:Bool->Res):j4Y s k=k (ji1 s):=by
 unfold j4Y ji1
 rw [j4W,j4W,jmW]
 cases s.1==0
 ·rfl
 ·cases sEq s.2.1 eS
  ·rfl
  ·cases s.2.2.1.length==0
   ·rfl
   ·cases s.2.2.2.1.length==0<;>rfl
theorem jjs (s:ST) (k:Bool->Res):j5F s k=k (ji1 s):=by
 unfold j5F ji1
 rw [j4W,j4W,jmA]
 cases s.1==0
 ·rfl
 ·cases sEq s.2.1 eS
  ·rfl
  ·cases s.2.2.1.length==0
   ·rfl
   ·cases s.2.2.2.1.length==0<;>rfl
theorem jrz (r:RC) (h:j2y r.2.2) (k:Bool->Res):jc7 r k=k (j23 r):=by
 unfold jc7 jaR j23
 by_cases h1:1<=r.1/\r.1<=4
 ·rw [decide_eq_false (show ¬ r.1<1 by omega),cond_false,decide_eq_false (show ¬ r.1>4 by omega),cond_false,decide_eq_true h1,Bool.true_and]
  by_cases h2:1<=r.2.1/\r.2.1<=1000000
  ·rw [decide_eq_false (show ¬ r.2.1<1 by omega),cond_false,decide_eq_false (show ¬ r.2.1>1000000 by omega),decide_eq_true h2,Bool.true_and]
   dsimp only
   rw [cond_false,joL _ h,jjz]
   cases r.1==2<;>rfl
  ·rw [decide_eq_false h2]
   by_cases h3:r.2.1<1
   ·rw [decide_eq_true h3];rfl
   ·rw [decide_eq_false h3,decide_eq_true (show r.2.1>1000000 by omega)];rfl
 ·rw [decide_eq_false h1]
  by_cases h3:r.1<1
  ·rw [decide_eq_true h3];rfl
  ·rw [decide_eq_false h3,decide_eq_true (show r.1>4 by omega)];rfl
theorem jrk (r:RC) (h:j2y r.2.2) (k:Bool->Res):jbN r k=k (j23 r):=by
 unfold jbN j23
 rw [j1I,j1I]
 cases decide (1<=r.1/\r.1<=4)
 ·rfl
 ·cases decide (1<=r.2.1/\r.2.1<=1000000)
  ·rfl
  ·rw [Bool.not_true,cond_false,cond_false,joD _ h,jjs]
   cases r.1==2<;>rfl
theorem jte (s:ST):stW s≠[]:=by
 unfold stW j1h
 cases s.1==1<;>cases s.1==2<;>cases s.1==3<;>cases s.1==4<;>cases s.2.2.2.2.1==1<;>cases s.2.2.2.2.1==2<;>cases s.2.2.2.2.1==3<;>cases s.2.2.2.2.1==4<;>exact List.cons_ne_nil _ _
theorem jol (r:RC) (hr:j23 r=true) (B:ByteArray) (hB:B=stT r.2.2):(bif r.1==2 then ((j1O r.1++j0c)++j06 r.2.1)++j0c++B else ((j1O r.1++j0c)++j06 r.2.1))=j04 (j1N r):=by
 obtain ⟨h1,h2,h3⟩:=j6e hr
 have q1:(j0c:ByteArray)=spB:=rfl
 unfold j1N
 rcases h3 with ⟨hk,hs⟩ | ⟨hk,hs⟩
 ·have e:(r.1==2)=true:=by simp [hk]
  rw [e,cond_true,cond_true,hB]
  unfold stT
  rw [hs,cond_true]
  show _=j1O r.1++(spB++(j06 r.2.1++tlB (stW r.2.2)))
  rw [<-jab (jte _),q1]
  simp only [ByteArray.append_assoc]
 ·have e:(r.1==2)=false:=by simp [hk]
  rw [e,cond_false,cond_false]
  show _=j1O r.1++(spB++(j06 r.2.1++eS))
  rw [j33,q1,ByteArray.append_assoc]
theorem jln {s:ST} (h:j2y s):(stT s).size<=108000000:=by
 unfold stT
 cases hb:stB s
 ·show (0:Nat)<=_;omega
 ·exact jlm hb h
theorem jjA (r:RC) (h:j2y r.2.2) (k:ByteArray->Res):j44 r k=k (j3s r):=by
 unfold j44 j3s
 rw [jrz r h]
 cases hr:j23 r
 ·rfl
 ·rw [Bool.not_true,cond_false,cond_true]
  obtain ⟨h1,h2,h3⟩:=j6e hr
  have hk:=(jeO h1).1
  have hn:=j2P r.2.1
  have hs:=jln h
  have s1:(j0c).size=1:=rfl
  have e0:nth eS [eS,j0i,j0R,j09,j0h] r.1=j1O r.1:=rfl
  have hp:∀ K,j6g r K=K ((j1O r.1++j0c)++j06 r.2.1):=λK=>by
   unfold j6g
   have l0:inb r.1 5=true:=Z9c (by omega) (by omega)
   have l1:lim ((j1O r.1).size+1)=true:=Z9d (by unfold LIM;omega)
   have l2:lim ((j1O r.1++j0c).size+(j06 r.2.1).size)=true:=Z9d (by rw [ByteArray.size_append];unfold LIM;omega)
   simp only [e0,jc6,l0,l1,l2,cond_true,Z8m]
  rw [hp,<-jol r hr _ rfl]
  cases hk2:r.1==2
  ·rfl
  ·rw [cond_true,cond_true,Z9d (by simp only [ByteArray.size_append];unfold LIM;omega),cond_true,j7K _ h,Z9d (by simp only [ByteArray.size_append];unfold LIM;omega),cond_true]
theorem jjt (r:RC) (h:j2y r.2.2) (k:ByteArray->Res):j7o r k=k (j3s r):=by
 unfold j7o j3s
 rw [jrk r h]
 cases hr:j23 r
 ·rfl
 ·rw [Bool.not_true,cond_false,cond_true]
  obtain ⟨h1,h2,h3⟩:=j6e hr
  have hk:=(jeO h1).1
  have hn:=j2P r.2.1
  have hs:=jln h
  have s1:(j0c).size=1:=rfl
  have e0:nth eS [j0i,j0R,j09,j0h] (Z8g (r.1-1))=j1O r.1:=by
   rw [j05 (by omega)]
   have:r.1=1\/r.1=2\/r.1=3\/r.1=4:=by omega
   rcases this with e | e | e | e<;>rw [e]<;>rfl
  have hp:∀ K,j5X r K=K ((j1O r.1++j0c)++j06 r.2.1):=λK=>by
   unfold j5X
   have l0:inb (Z8g (r.1-1)) 4=true:=by rw [j05 (by omega)];exact Z9c (by omega) (by omega)
   have l1:lim ((j1O r.1).size+1)=true:=Z9d (by unfold LIM;omega)
   have l2:lim ((j1O r.1++j0c).size+(j06 r.2.1).size)=true:=Z9d (by rw [ByteArray.size_append];unfold LIM;omega)
   simp only [e0,jbJ,l0,l1,l2,cond_true,Z8m]
  rw [hp,<-jol r hr _ rfl]
  cases hk2:r.1==2
  ·rfl
  ·rw [cond_true,cond_true,Z9d (by simp only [ByteArray.size_append];unfold LIM;omega),cond_true,j9Y _ h,Z9d (by simp only [ByteArray.size_append];unfold LIM;omega),cond_true]
theorem joH {r:RC} (h:j2y r.2.2):(j3s r).size<=109000000:=by
 unfold j3s
 cases hr:j23 r
 ·show (0:Nat)<=_;omega
 ·rw [cond_true,<-jol r hr _ rfl]
  have hk:=(jeO (j6e hr).1).1
  have hn:=j2P r.2.1
  have hs:=jln h
  have s1:(j0c).size=1:=rfl
  cases r.1==2
  ·rw [cond_false];simp only [ByteArray.size_append];omega
  ·rw [cond_true];simp only [ByteArray.size_append];omega
theorem jqv {r:RC} (h:j23 r=true):∀ w∈j1N r,w.size<=101/\free 32 w:=λw hw=>by
 obtain ⟨h1,h2,h3⟩:=j6e h
 unfold j1N at hw
 rcases List.mem_cons.1 hw with rfl | hw
 ·have:=jeO h1;exact ⟨by omega,this.2⟩
 rcases List.mem_cons.1 hw with rfl | hw
 ·have:=j2P r.2.1
  exact ⟨by omega,ji3 (decide_eq_true (by omega))⟩
 ·rcases h3 with ⟨hk,hs⟩ | ⟨hk,hs⟩
  ·have e:(r.1==2)=true:=by simp [hk]
   rw [e,cond_true] at hw
   exact jon hs w hw
  ·have e:(r.1==2)=false:=by simp [hk]
   rw [e,cond_false] at hw
   cases hw
theorem je5 {r:RC} (h:j23 r=true):j3s r=j04 (j1N r):=by unfold j3s;rw [h];rfl
end Go.PI.G
namespace Go.PI.G
open Go Go.PI Go.Proofs
abbrev SP:=Int×RC×Int×Int×Int
abbrev zSP:SP:=(0,(0,0,0,eS,[],[],0,eS,[],[],eS,eS),0,0,0)
def j8G (r:RC):Bool:=(r.1==0)&&((r.2.1==0)&&ji1 r.2.2)
def okN (n:Int):Bool:=decide (n>=0)&&j1w n
def j5r (s:SP):ByteArray×List Int:=
 bif s.1==2 then (j0D,[s.2.2.1])
 else bif s.1==4 then (j0E,[s.2.2.1])
 else bif s.1==5 then (j0J,[])
 else bif s.1==6 then (j0I,[])
 else bif s.1==7 then (j0H,[])
 else bif s.1==3 then (bif s.2.2.1==1 then (j0q,[s.2.2.2.1]) else bif s.2.2.1==2 then (j0j,[s.2.2.2.1]) else bif s.2.2.1==3 then (j0p,[s.2.2.2.1]) else bif s.2.2.1==4 then (j0y,[s.2.2.2.1,s.2.2.2.2]) else (eS,[]))
 else (eS,[])
def jbV (s:SP):Bool:=
 bif s.1==2 then (s.2.2.2.1==0)&&(s.2.2.2.2==0)
 else bif s.1==4 then (s.2.2.2.1==0)&&(s.2.2.2.2==0)
 else bif s.1==3 then (bif s.2.2.1==4 then true else s.2.2.2.2==0)
 else (s.2.2.1==0)&&((s.2.2.2.1==0)&&(s.2.2.2.2==0))
def j6n (s:SP):Bool:=bif s.1==1 then j23 s.2.1&&((s.2.2.1==0)&&((s.2.2.2.1==0)&&(s.2.2.2.2==0))) else (!sEq (j5r s).1 eS)&&(j8G s.2.1&&(jbV s&&(j5r s).2.all okN))
def jgJ (s:SP):List ByteArray:=bif s.1==1 then j0C::j1N s.2.1 else (j5r s).1::(j5r s).2.map j06
def j3v (s:SP):ByteArray:=bif j6n s then j04 (jgJ s) else eS
theorem jru:okN 0=true:=by decide
theorem js0 (n:Int):sNe (j06 n) eS=j1w n:=by
 cases h:j1w n
 ·rw [jqq h,Z8M]
 ·obtain ⟨x,xs,e,_⟩:=j7v h
  exact jtk (by rw [e];exact List.cons_ne_nil _ _)
theorem jsH (n:Int) (K:ByteArray->Bool->Res):j6D n K=K (j0c++j06 n) (okN n):=by
 unfold j6D okN
 have:=j2P n
 rw [jc6,Z9d (by unfold LIM;omega),cond_true,js0]
 cases decide (n>=0)<;>rfl
theorem jqP (r:RC) (k:Bool->Res):jaF r k=k (j8G r):=by
 unfold jaF j8G
 rw [jjz]
 cases r.1==0
 ·rfl
 ·cases r.2.1==0<;>rfl
theorem jd9 {r:RC} (h:j23 r=true):sEq (j04 (j1N r)) eS=false:=by
 refine j02 ?_
 have e:j04 (j1N r)=j1O r.1++tlB (j06 r.2.1::(bif r.1==2 then stW r.2.2 else [])):=rfl
 rw [e,j0l]
 rcases jdD (j6e h).1 with ⟨_,e⟩ | ⟨_,e⟩ | ⟨_,e⟩ | ⟨_,e⟩<;>rw [e]<;>exact List.cons_ne_nil _ _
theorem jto (r:RC):jek++j04 (j1N r)=j04 (j0C::j1N r):=by
 have q1:(jek:ByteArray)=j0C++spB:=j11 (by rw [j0l];rfl)
 show _=j0C++tlB (j1N r)
 rw [<-jab (by unfold j1N;exact List.cons_ne_nil _ _),q1,ByteArray.append_assoc]
theorem jqu {r:RC} (h:j23 r=false):j3s r=eS:=by unfold j3s;rw [h];rfl
theorem jin {r:RC} (h:j23 r=true):j3s r=j04 (j1N r):=by unfold j3s;rw [h];rfl
theorem w1 (w a:ByteArray):w++(j0c++a)=j04 [w,a]:=by
 show _=w++(spB++(a++eS))
 rw [j33];rfl
theorem w2 (w a b:ByteArray):(w++(j0c++a))++(j0c++b)=j04 [w,a,b]:=by
 show _=w++(spB++(a++(spB++(b++eS))))
 rw [j33]
 simp only [ByteArray.append_assoc]
 rfl
theorem w0 (w:ByteArray):w=j04 [w]:=(j33 w).symm
theorem jr5 {s:SP} (h:s.1=1) (hc:(j23 s.2.1&&((s.2.2.1==0)&&((s.2.2.2.1==0)&&(s.2.2.2.2==0))))=true):j3v s=jek++j3s s.2.1:=by
 have e:(s.1==1)=true:=by simp [h]
 unfold j3v j6n jgJ
 rw [e,cond_true,cond_true,hc,cond_true,jin (by rw [Bool.and_eq_true] at hc;exact hc.1),jto]
theorem jgI {s:SP} (h:s.1=1) (hc:(j23 s.2.1&&((s.2.2.1==0)&&((s.2.2.2.1==0)&&(s.2.2.2.2==0))))=false):j3v s=eS:=by
 have e:(s.1==1)=true:=by simp [h]
 unfold j3v j6n
 rw [e,cond_true,hc,cond_false]
theorem jr6 {s:SP} (h:s.1≠1):j3v s=bif (!sEq (j5r s).1 eS)&&(j8G s.2.1&&(jbV s&&(j5r s).2.all okN)) then j04 ((j5r s).1::(j5r s).2.map j06) else eS:=by
 have e:(s.1==1)=false:=by simp [h]
 unfold j3v j6n jgJ
 rw [e,cond_false,cond_false]
theorem jqQ (s:SP) (hs:j2y s.2.1.2.2) (k:ByteArray->Res):j8p s k=k (j3v s):=by
 unfold j8p
 by_cases h1:s.1=1
 ·rw [show (s.1==1)=true by simp [h1],cond_true,jjA _ hs]
  have hrs:=joH hs
  unfold j7L
  have s1:(jek).size=4:=rfl
  cases hb:j23 s.2.1
  ·rw [jqu hb,Z8L,cond_true,jgI h1 (by rw [hb];rfl)]
   rfl
  ·cases hc:(s.2.2.1==0)&&((s.2.2.2.1==0)&&(s.2.2.2.2==0))
   ·rw [jgI h1 (by rw [hb,hc];rfl),jin hb,jd9 hb,cond_false]
    unfold bne
    cases h2:s.2.2.1==0
    ·rfl
    ·cases h3:s.2.2.2.1==0
     ·rfl
     ·cases h4:s.2.2.2.2==0
      ·rfl
      ·rw [h2,h3,h4] at hc;cases hc
   ·rw [jr5 h1 (by rw [hb,hc];rfl)]
    simp only [Bool.and_eq_true] at hc
    have e:sEq (j3s s.2.1) eS=false:=by rw [jin hb];exact jd9 hb
    unfold bne
    rw [e,hc.1,hc.2.1,hc.2.2]
    dsimp only [Bool.not_true,cond_false]
    rw [Z9d (by unfold LIM;omega)]
    rfl
 ·rw [show (s.1==1)=false by simp [h1],cond_false,jr6 h1]
  simp only [jsH]
  have hp1:∀ (w:ByteArray) (x y z:Bool) (K:Bool->Res),j1x w x y z s K=K (!((!sEq w eS)&&(j8G s.2.1&&(x&&(y&&z))))):=λw x y z K=>by
   unfold j1x
   rw [jqP]
   cases sEq w eS
   ·cases j8G s.2.1
    ·rfl
    ·cases x
     ·rfl
     ·cases y<;>rfl
   ·rfl
  have hA:=j2P s.2.2.1
  have hB:=j2P s.2.2.2.1
  have hC:=j2P s.2.2.2.2
  have s1:(j0c).size=1:=rfl
  have one:∀ (w:ByteArray),w.size<=10->sEq w eS=false->j1x w (okN s.2.2.1) (okN s.2.2.2.1) (okN s.2.2.2.2) s (λt1=>bif t1 then k eS else j1c 1 s (λ_=>j1d w 1 (j0c++j06 s.2.2.1) s (λ_=>j1e w 1 (j0c++j06 s.2.2.2.1) (j0c++j06 s.2.2.2.2) s (λ_=>bif ((1:Int)==2) then (bif s.2.2.2.2==0 then (bif lim (w.size+(j0c++j06 s.2.2.2.1).size) then k (w++(j0c++j06 s.2.2.2.1)) else none) else k eS) else k eS) (λ_=>k ((w++(j0c++j06 s.2.2.2.1))++(j0c++j06 s.2.2.2.2)))) (λ_=>k (w++(j0c++j06 s.2.2.1)))) (λ_=>k w)) =
    k (bif j8G s.2.1&&(((s.2.2.2.1==0)&&(s.2.2.2.2==0))&&okN s.2.2.1) then j04 [w,j06 s.2.2.1] else eS):=λw hw hne=>by
   rw [hp1,hne,Bool.not_false,Bool.true_and,<-w1]
   unfold j1c j1d j1e
   rw [show ((1:Int)==0)=false from rfl,show ((1:Int)==1)=true from rfl,show ((1:Int)==2)=false from rfl]
   simp only [cond_false,cond_true]
   rw [Z9d (by rw [ByteArray.size_append];unfold LIM;omega),cond_true]
   cases j8G s.2.1
   ·rfl
   ·cases ha:okN s.2.2.1
    ·rw [Bool.and_false,Bool.and_false];rfl
    ·cases hb0:s.2.2.2.1==0
     ·cases okN s.2.2.2.1
      ·rfl
      ·cases okN s.2.2.2.2<;>rfl
     ·have e1:s.2.2.2.1=0:=by simpa using hb0
      cases hc0:s.2.2.2.2==0
      ·cases okN s.2.2.2.1
       ·rfl
       ·cases okN s.2.2.2.2<;>rfl
      ·have e2:s.2.2.2.2=0:=by simpa using hc0
       rw [e1,e2,jru]
       rfl
  have zer:∀ (w:ByteArray),sEq w eS=false->j1x w (okN s.2.2.1) (okN s.2.2.2.1) (okN s.2.2.2.2) s (λt1=>bif t1 then k eS else j1c 0 s (λ_=>j1d w 0 (j0c++j06 s.2.2.1) s (λ_=>j1e w 0 (j0c++j06 s.2.2.2.1) (j0c++j06 s.2.2.2.2) s (λ_=>bif ((0:Int)==2) then (bif s.2.2.2.2==0 then (bif lim (w.size+(j0c++j06 s.2.2.2.1).size) then k (w++(j0c++j06 s.2.2.2.1)) else none) else k eS) else k eS) (λ_=>k ((w++(j0c++j06 s.2.2.2.1))++(j0c++j06 s.2.2.2.2)))) (λ_=>k (w++(j0c++j06 s.2.2.1)))) (λ_=>k w)) =
    k (bif j8G s.2.1&&(((s.2.2.1==0)&&((s.2.2.2.1==0)&&(s.2.2.2.2==0)))&&true) then j04 [w] else eS):=λw hne=>by
   rw [hp1,hne,Bool.not_false,Bool.true_and,<-w0]
   unfold j1c j1d j1e
   rw [show ((0:Int)==0)=true from rfl,show ((0:Int)==1)=false from rfl,show ((0:Int)==2)=false from rfl]
   simp only [cond_false,cond_true]
   cases j8G s.2.1
   ·rfl
   ·cases ha0:s.2.2.1==0
    ·cases okN s.2.2.1
     ·rfl
     ·cases okN s.2.2.2.1
      ·rfl
      ·cases okN s.2.2.2.2<;>rfl
    ·cases hb0:s.2.2.2.1==0
     ·cases okN s.2.2.1
      ·rfl
      ·cases okN s.2.2.2.1
       ·rfl
       ·cases okN s.2.2.2.2<;>rfl
     ·cases hc0:s.2.2.2.2==0
      ·cases okN s.2.2.1
       ·rfl
       ·cases okN s.2.2.2.1
        ·rfl
        ·cases okN s.2.2.2.2<;>rfl
      ·rw [show s.2.2.1=0 by simpa using ha0,show s.2.2.2.1=0 by simpa using hb0,show s.2.2.2.2=0 by simpa using hc0,jru]
       rfl
  unfold jch j5r jbV
  by_cases h2:s.1=2
  ·rw [h2]
   refine (one j0D (by decide) (j02 (by decide))).trans ?_
   rw [show ((2:Int)==2)=true from rfl,cond_true,cond_true]
   rw [j02 (show Z19 j0D≠Z19 eS by decide)]
   simp
  by_cases h4:s.1=4
  ·rw [h4]
   refine (one j0E (by decide) (j02 (by decide))).trans ?_
   rw [show ((4:Int)==2)=false from rfl,show ((4:Int)==4)=true from rfl,cond_false,cond_true,cond_false,cond_true]
   rw [j02 (show Z19 j0E≠Z19 eS by decide)]
   simp
  by_cases h5:s.1=5
  ·rw [h5]
   refine (zer j0J (j02 (by decide))).trans ?_
   rw [show ((5:Int)==2)=false from rfl,show ((5:Int)==4)=false from rfl,show ((5:Int)==5)=true from rfl,show ((5:Int)==3)=false from rfl]
   simp only [cond_false,cond_true]
   rw [j02 (show Z19 j0J≠Z19 eS by decide)]
   rfl
  by_cases h6:s.1=6
  ·rw [h6]
   refine (zer j0I (j02 (by decide))).trans ?_
   rw [show ((6:Int)==2)=false from rfl,show ((6:Int)==4)=false from rfl,show ((6:Int)==5)=false from rfl,show ((6:Int)==6)=true from rfl,show ((6:Int)==3)=false from rfl]
   simp only [cond_false,cond_true]
   rw [j02 (show Z19 j0I≠Z19 eS by decide)]
   rfl
  by_cases h7:s.1=7
  ·rw [h7]
   refine (zer j0H (j02 (by decide))).trans ?_
   rw [show ((7:Int)==2)=false from rfl,show ((7:Int)==4)=false from rfl,show ((7:Int)==5)=false from rfl,show ((7:Int)==6)=false from rfl,show ((7:Int)==7)=true from rfl,show ((7:Int)==3)=false from rfl]
   simp only [cond_false,cond_true]
   rw [j02 (show Z19 j0H≠Z19 eS by decide)]
   rfl
  have g2:(s.1==2)=false:=by simp [h2]
  have g4:(s.1==4)=false:=by simp [h4]
  have g5:(s.1==5)=false:=by simp [h5]
  have g6:(s.1==6)=false:=by simp [h6]
  have g7:(s.1==7)=false:=by simp [h7]
  rw [g2,g4,g5,g6,g7]
  simp only [cond_false]
  have non:∀ n:Int,j1x eS (okN s.2.2.1) (okN s.2.2.2.1) (okN s.2.2.2.2) s (λt1=>bif t1 then k eS else j1c n s (λ_=>j1d eS n (j0c++j06 s.2.2.1) s (λ_=>j1e eS n (j0c++j06 s.2.2.2.1) (j0c++j06 s.2.2.2.2) s (λ_=>bif (n==2) then (bif s.2.2.2.2==0 then (bif lim (eS.size+(j0c++j06 s.2.2.2.1).size) then k (eS++(j0c++j06 s.2.2.2.1)) else none) else k eS) else k eS) (λ_=>k ((eS++(j0c++j06 s.2.2.2.1))++(j0c++j06 s.2.2.2.2)))) (λ_=>k (eS++(j0c++j06 s.2.2.1)))) (λ_=>k eS))=k eS:=λn=>by
   rw [hp1,Z8L]
   rfl
  by_cases h3:s.1=3
  ·rw [show (s.1 != 3)=false by simp [h3],show (s.1==3)=true by simp [h3]]
   simp only [cond_false,cond_true]
   by_cases hA1:1<=s.2.2.1/\s.2.2.1<=4
   ·rw [decide_eq_false (show ¬ s.2.2.1<1 by omega),decide_eq_false (show ¬ s.2.2.1>4 by omega),Z9c (show 0<=s.2.2.1 by omega) (show s.2.2.1<((5:Nat):Int) by omega)]
    simp only [cond_false,cond_true]
    have hokA:okN s.2.2.1=true:=by
     unfold okN j1w
     rw [decide_eq_true (show s.2.2.1>=0 by omega),decide_eq_true (show -1099511627775<=s.2.2.1/\s.2.2.1<=1099511627775 by omega)]
     rfl
    rw [hokA]
    have two:∀ (w:ByteArray),w.size<=10->sEq w eS=false->j1x w true (okN s.2.2.2.1) (okN s.2.2.2.2) s (λt1=>bif t1 then k eS else j1c 2 s (λ_=>j1d w 2 (j0c++j06 s.2.2.1) s (λ_=>j1e w 2 (j0c++j06 s.2.2.2.1) (j0c++j06 s.2.2.2.2) s (λ_=>bif ((2:Int)==2) then (bif s.2.2.2.2==0 then (bif lim (w.size+(j0c++j06 s.2.2.2.1).size) then k (w++(j0c++j06 s.2.2.2.1)) else none) else k eS) else k eS) (λ_=>k ((w++(j0c++j06 s.2.2.2.1))++(j0c++j06 s.2.2.2.2)))) (λ_=>k (w++(j0c++j06 s.2.2.1)))) (λ_=>k w)) =
      k (bif s.2.2.1==4 then (bif j8G s.2.1&&(okN s.2.2.2.1&&okN s.2.2.2.2) then j04 [w,j06 s.2.2.2.1,j06 s.2.2.2.2] else eS) else bif j8G s.2.1&&((s.2.2.2.2==0)&&okN s.2.2.2.1) then j04 [w,j06 s.2.2.2.1] else eS):=λw hw hne=>by
     rw [hp1,hne,Bool.not_false,Bool.true_and,Bool.true_and,<-w1,<-w2]
     unfold j1c j1d j1e
     rw [show ((2:Int)==0)=false from rfl,show ((2:Int)==1)=false from rfl,show ((2:Int)==2)=true from rfl]
     simp only [cond_false,cond_true]
     rw [Z9d (show w.size+(j0c++j06 s.2.2.2.1).size<=LIM by rw [ByteArray.size_append];unfold LIM;omega),cond_true,cond_true,Z9d (by simp only [ByteArray.size_append];unfold LIM;omega),cond_true]
     cases j8G s.2.1
     ·cases s.2.2.1==4<;>rfl
     ·cases okN s.2.2.2.1
      ·rw [Bool.and_false]
       cases s.2.2.1==4<;>rfl
      ·cases hc:s.2.2.2.2==0
       ·cases okN s.2.2.2.2<;>cases s.2.2.1==4<;>rfl
       ·rw [show s.2.2.2.2=0 by simpa using hc,jru]
        cases s.2.2.1==4<;>rfl
    have hcs:s.2.2.1=1\/s.2.2.1=2\/s.2.2.1=3\/s.2.2.1=4:=by omega
    rcases hcs with e | e | e | e
    ·have:=two j0q (by decide) (j02 (by decide))
     rw [e] at this ⊢
     refine this.trans ?_
     rw [show ((1:Int)==4)=false from rfl,show ((1:Int)==1)=true from rfl]
     simp only [cond_false,cond_true]
     rw [j02 (show Z19 j0q≠Z19 eS by decide)]
     simp
    ·have:=two j0j (by decide) (j02 (by decide))
     rw [e] at this ⊢
     refine this.trans ?_
     rw [show ((2:Int)==4)=false from rfl,show ((2:Int)==1)=false from rfl,show ((2:Int)==2)=true from rfl]
     simp only [cond_false,cond_true]
     rw [j02 (show Z19 j0j≠Z19 eS by decide)]
     simp
    ·have:=two j0p (by decide) (j02 (by decide))
     rw [e] at this ⊢
     refine this.trans ?_
     rw [show ((3:Int)==4)=false from rfl,show ((3:Int)==1)=false from rfl,show ((3:Int)==2)=false from rfl,show ((3:Int)==3)=true from rfl]
     simp only [cond_false,cond_true]
     rw [j02 (show Z19 j0p≠Z19 eS by decide)]
     simp
    ·have:=two j0y (by decide) (j02 (by decide))
     rw [e] at this ⊢
     refine this.trans ?_
     rw [show ((4:Int)==4)=true from rfl,show ((4:Int)==1)=false from rfl,show ((4:Int)==2)=false from rfl,show ((4:Int)==3)=false from rfl]
     simp only [cond_false,cond_true]
     rw [j02 (show Z19 j0y≠Z19 eS by decide)]
     simp
   ·have e:(bif s.2.2.1==1 then (j0q,[s.2.2.2.1]) else bif s.2.2.1==2 then (j0j,[s.2.2.2.1]) else bif s.2.2.1==3 then (j0p,[s.2.2.2.1]) else bif s.2.2.1==4 then (j0y,[s.2.2.2.1,s.2.2.2.2]) else ((eS,[]):ByteArray×List Int))=(eS,[]):=by
     rw [show (s.2.2.1==1)=false by simp;omega,show (s.2.2.1==2)=false by simp;omega,show (s.2.2.1==3)=false by simp;omega,show (s.2.2.1==4)=false by simp;omega]
     rfl
    rw [e]
    by_cases hA2:s.2.2.1<1
    ·rw [decide_eq_true hA2,cond_true]
     refine (non 0).trans ?_
     rw [Z8L];rfl
    ·rw [decide_eq_false hA2,cond_false,decide_eq_true (show s.2.2.1>4 by omega),cond_true]
     refine (non 0).trans ?_
     rw [Z8L];rfl
  ·rw [show (s.1 != 3)=true by simp [h3],show (s.1==3)=false by simp [h3]]
   simp only [cond_false,cond_true]
   refine (non 0).trans ?_
   rw [Z8L];rfl
theorem jqJ (s:SP) (k:ByteArray->Res) (Z:Res):j9w s (λr=>bif (s.2.2.1 != r.2.2.1) then k eS else bif (s.2.2.2.1 != r.2.2.2.1) then k eS else bif (s.2.2.2.2 != r.2.2.2.2) then k eS else Z)=bif jbV s then Z else k eS:=by
 unfold j9w j91 jbV
 dsimp only
 have hb:∀ n:Int,(n != n)=false:=λn=>by simp
 unfold bne
 cases s.1==2
 ·cases s.1==4
  ·cases s.1==3
   ·simp only [cond_false]
    cases s.2.2.1==0
    ·rfl
    ·cases s.2.2.2.1==0
     ·rfl
     ·cases s.2.2.2.2==0<;>rfl
   ·simp only [cond_false,cond_true]
    cases s.2.2.1==4
    ·simp only [cond_false,beq_self_eq_true,Bool.not_true]
     cases s.2.2.2.2==0<;>rfl
    ·simp only [cond_true,beq_self_eq_true,Bool.not_true,cond_false]
  ·simp only [cond_false,cond_true,beq_self_eq_true,Bool.not_true]
   cases s.2.2.2.1==0
   ·rfl
   ·cases s.2.2.2.2==0<;>rfl
 ·simp only [cond_false,cond_true,beq_self_eq_true,Bool.not_true]
  cases s.2.2.2.1==0
  ·rfl
  ·cases s.2.2.2.2==0<;>rfl
theorem jrn (s:SP) (K:ByteArray->List Int->Res):j8g s K=K (j5r s).1 (j5r s).2:=by
 unfold j8g j5r
 simp only [Z8m,j1I]
 by_cases h2:s.1=2
 ·rw [h2];rfl
 have g2:(s.1==2)=false:=by simp [h2]
 by_cases h3:s.1=3
 ·rw [h3]
  rw [show ((3:Int)==2)=false from rfl,show ((3:Int)==3)=true from rfl,show ((3:Int)==4)=false from rfl,show ((3:Int)==5)=false from rfl,show ((3:Int)==6)=false from rfl,show ((3:Int)==7)=false from rfl]
  simp only [cond_false,cond_true]
  by_cases hA:1<=s.2.2.1/\s.2.2.1<=3
  ·rw [decide_eq_true hA]
   have:s.2.2.1=1\/s.2.2.1=2\/s.2.2.1=3:=by omega
   rcases this with e | e | e<;>rw [e]<;>rfl
  ·rw [decide_eq_false hA,cond_false,show (s.2.2.1==1)=false by simp;omega,show (s.2.2.1==2)=false by simp;omega,show (s.2.2.1==3)=false by simp;omega]
   simp only [cond_false]
   cases s.2.2.1==4<;>rfl
 have g3:(s.1==3)=false:=by simp [h3]
 rw [g2,g3]
 simp only [cond_false]
 cases s.1==4
 ·cases s.1==5
  ·cases s.1==6
   ·cases s.1==7<;>rfl
   ·rfl
  ·rfl
 ·rfl
def ji2 (w:ByteArray) (n:Int):Except Unit ByteArray:=bif okN n then .ok ((w++spB)++j06 n) else .error ()
theorem jqZ:(l:List Int)->(w:ByteArray)->goL ji2 l w=if l.all okN=true then .ok (w++tlB (l.map j06)) else .error ()
 | [],w=>by
  show Except.ok w=if true=true then Except.ok (w++eS) else Except.error ()
  rw [if_pos rfl,j33]
 | n::l,w=>by
  simp only [goL]
  cases h:okN n
  ·have e:ji2 w n= .error ():=by unfold ji2;rw [h];rfl
   rw [e,List.all_cons,h,Bool.false_and,if_neg (by simp)]
  ·have e:ji2 w n= .ok ((w++spB)++j06 n):=by unfold ji2;rw [h];rfl
   rw [e,List.all_cons,h,Bool.true_and]
   dsimp only
   rw [jqZ l]
   have e2:w++tlB ((n::l).map j06)=((w++spB)++j06 n)++tlB (l.map j06):=by
    show w++(spB++(j06 n++tlB (l.map j06)))=_
    simp only [ByteArray.append_assoc]
   rw [e2]
theorem jsu (l:List Int) (w:ByteArray) (hl:l.length<=2) (hw:w.size<=100) (a:ByteArray->Res) (b:Unit->Res):j7C l (nI l.length) Z0Y w 0 a b=bif l.all okN then a (w++tlB (l.map j06)) else b ():=by
 unfold j7C
 have:=jo5 l (λi w=>(w,i)) ji2 (λi w=>w.size<=100+20 * i) (step:=j5Y l (nI l.length)) (a,b) a b (λi w w' hi hp hf=>by
  have hn:=j2P l[i]
  unfold ji2 at hf
  cases ho:okN l[i]
  ·rw [ho] at hf;cases hf
  ·rw [ho] at hf;cases hf
   simp only [ByteArray.size_append]
   have:spB.size=1:=rfl
   omega) (λi w rec hi hp=>by
  show j3V _ _ _ _ _ _ _=_
  unfold j3V
  dsimp only
  have hn:=j2P l[i]
  have s1:(j0c).size=1:=rfl
  have q1:(j0c:ByteArray)=spB:=rfl
  rw [Z9i hi,cond_true,j0n hi,cond_true,Z92 _ _ _ hi,jbJ]
  have hne:sEq (j06 l[i]) eS= !j1w l[i]:=by rw [<-js0];unfold sNe sEq;rw [Bool.not_not]
  rw [hne]
  unfold ji2 okN
  by_cases h0:l[i]<0
  ·rw [decide_eq_true h0,cond_true,decide_eq_false (show ¬ l[i]>=0 by omega)];rfl
  ·rw [decide_eq_false h0,cond_false,decide_eq_true (show l[i]>=0 by omega),Bool.true_and]
   cases j1w l[i]
   ·rfl
   ·rw [Bool.not_true,cond_false,Z9d (by unfold LIM;omega),cond_true,Z9d (by rw [ByteArray.size_append];unfold LIM;omega),cond_true,j05 (by omega),q1]
    rfl) (λw rec hp=>by
  show j3V _ _ _ _ _ _ _=_
  unfold j3V
  dsimp only
  rw [Z9h,cond_false]) l.length 0 Z0Y w (by omega) (Z1O (by omega)) (by omega)
 refine Eq.trans this ?_
 rw [List.drop_zero,jqZ]
 cases l.all okN<;>rfl
theorem jqS (s:SP):(j5r s).1.size<=10/\(j5r s).2.length<=2:=by
 unfold j5r
 cases s.1==2
 ·cases s.1==4
  ·cases s.1==5
   ·cases s.1==6
    ·cases s.1==7
     ·cases s.1==3
      ·exact ⟨Nat.le_of_ble_eq_true rfl,Nat.le_of_ble_eq_true rfl⟩
      ·cases s.2.2.1==1
       ·cases s.2.2.1==2
        ·cases s.2.2.1==3
         ·cases s.2.2.1==4
          ·exact ⟨Nat.le_of_ble_eq_true rfl,Nat.le_of_ble_eq_true rfl⟩
          ·exact ⟨Nat.le_of_ble_eq_true rfl,Nat.le_of_ble_eq_true rfl⟩
         ·exact ⟨Nat.le_of_ble_eq_true rfl,Nat.le_of_ble_eq_true rfl⟩
        ·exact ⟨Nat.le_of_ble_eq_true rfl,Nat.le_of_ble_eq_true rfl⟩
       ·exact ⟨Nat.le_of_ble_eq_true rfl,Nat.le_of_ble_eq_true rfl⟩
     ·exact ⟨Nat.le_of_ble_eq_true rfl,Nat.le_of_ble_eq_true rfl⟩
    ·exact ⟨Nat.le_of_ble_eq_true rfl,Nat.le_of_ble_eq_true rfl⟩
   ·exact ⟨Nat.le_of_ble_eq_true rfl,Nat.le_of_ble_eq_true rfl⟩
  ·exact ⟨Nat.le_of_ble_eq_true rfl,Nat.le_of_ble_eq_true rfl⟩
 ·exact ⟨Nat.le_of_ble_eq_true rfl,Nat.le_of_ble_eq_true rfl⟩
theorem jqH (s:SP) (hs:j2y s.2.1.2.2) (k:ByteArray->Res):j8e s k=k (j3v s):=by
 unfold j8e
 rw [jqJ]
 by_cases h1:s.1=1
 ·rw [show (s.1==1)=true by simp [h1],cond_true,jjt _ hs]
  have hrs:=joH hs
  have s1:(jek).size=4:=rfl
  have hr:jbV s=((s.2.2.1==0)&&((s.2.2.2.1==0)&&(s.2.2.2.2==0))):=by unfold jbV;rw [h1];rfl
  cases hb:j23 s.2.1
  ·rw [jqu hb,Z8L,cond_true,jgI h1 (by rw [hb];rfl)]
   cases jbV s<;>rfl
  ·cases hc:jbV s
   ·rw [hr] at hc
    rw [jgI h1 (by rw [hb,hc];rfl)]
    rfl
   ·rw [hr] at hc
    rw [jr5 h1 (by rw [hb,hc];rfl),cond_true]
    have e:sEq (j3s s.2.1) eS=false:=by rw [jin hb];exact jd9 hb
    rw [e,cond_false,Z9d (by unfold LIM;omega),cond_true]
 ·rw [show (s.1==1)=false by simp [h1],cond_false,jr6 h1,jrn]
  have hsm:=jqS s
  have hp:∀ (w:ByteArray) (K:Bool->Res),j50 w s K=K (!((!sEq w eS)&&j8G s.2.1)):=λw K=>by
   unfold j50 j8G bne
   rw [jjs]
   cases sEq w eS
   ·cases s.2.1.1==0
    ·rfl
    ·cases s.2.1.2.1==0<;>rfl
   ·rfl
  rw [hp,jsu _ _ hsm.2 (by omega)]
  cases jbV s
  ·rw [Bool.false_and,Bool.and_false,Bool.and_false];rfl
  ·rw [cond_true,Bool.true_and]
   cases sEq (j5r s).1 eS
   ·cases j8G s.2.1
    ·rfl
    ·cases (j5r s).2.all okN<;>rfl
   ·rfl
end Go.PI.G
namespace Go.PI.G
open Go Go.PI Go.Proofs
theorem jgl (s:ByteArray) (i j:Nat):Z9k s (i:Int) (j:Int)=Z2X (((Z19 s).take j).drop i):=by
 apply j11
 unfold Z9k
 rw [show ((i:Int)).toNat=i by omega,show ((j:Int)).toNat=j by omega,jfe,j9c]
 exact λx hx=>j8B s x (List.mem_of_mem_take (List.mem_of_mem_drop hx))
theorem jom (s:ByteArray) (b:Int) (h:s.size<=1000000000) (K:List ByteArray->Int->Res):∀ (d i m from_:Nat) (out:List ByteArray),i+d=s.size->d<m->from_<=i->out.length<=i ->
  ∃ (out':List ByteArray) (f':Nat),Z10 (j2U s b) m (out,(from_:Int),(i:Int)) K=K out' (f':Int)/\f'<=s.size/\out'.length<=s.size/\out'++[Z9k s (f':Int) (s.size:Int)]=out++(j31 b (((Z19 s).take i).drop from_) ((Z19 s).drop i)).map Z2X:=by
 have hl:=j0f s
 intro d
 induction d with
 | zero=>
  intro i m from_ out hi hm hf ho
  obtain ⟨m,rfl⟩:∃ e,m=e+1:=⟨m-1,by omega⟩
  refine ⟨out,from_,?_,by omega,by omega,?_⟩
  ·rw [Z8u]
   show j2T s b _ _ _ _ _=_
   unfold j2T
   dsimp only
   rw [decide_eq_false (show ¬ (i:Int)<nI s.size by unfold nI;omega),cond_false]
  ·rw [show i=s.size by omega,jgl,List.drop_eq_nil_of_le (by omega:(Z19 s).length<=s.size)]
   rfl
 | succ d ih=>
  intro i m from_ out hi hm hf ho
  obtain ⟨m,rfl⟩:∃ e,m=e+1:=⟨m-1,by omega⟩
  have hil:i<(Z19 s).length:=by omega
  have hun:Z10 (j2U s b) (m+1) (out,(from_:Int),(i:Int)) K=j2T s b out (from_:Int) (i:Int) (λo f i=>Z10 (j2U s b) m (o,f,i) K) K:=rfl
  rw [List.drop_eq_getElem_cons hil]
  by_cases hx:(Z19 s)[i]=b
  ·obtain ⟨o',f',e1,e2,e3,e4⟩:=ih (i+1) m (i+1) (out++[Z9k s (from_:Int) (i:Int)]) (by omega) (by omega) (by omega) (by rw [List.length_append,List.length_singleton];omega)
   refine ⟨o',f',?_,e2,e3,?_⟩
   ·rw [hun]
    unfold j2T
    rw [Z9i (by omega),cond_true,j0n (by omega),cond_true,j1V s i hil,hx,beq_self_eq_true,cond_true,show Z6R (from_:Int) (i:Int) s.size=true from decide_eq_true (by omega),cond_true,Z9d (by unfold LIM;omega),cond_true,j05 (by omega)]
    rw [show ((i+1:Nat):Int)=(i:Int)+1 by omega] at e1
    exact e1
   ·rw [e4,jr2]
    simp only [j31]
    rw [if_pos hx,List.map_cons,jgl,List.append_assoc]
    rfl
  ·obtain ⟨o',f',e1,e2,e3,e4⟩:=ih (i+1) m from_ out (by omega) (by omega) (by omega) (by omega)
   refine ⟨o',f',?_,e2,e3,?_⟩
   ·rw [hun]
    unfold j2T
    rw [Z9i (by omega),cond_true,j0n (by omega),cond_true,j1V s i hil,show ((Z19 s)[i]==b)=false by simp [hx],cond_false,j05 (by omega)]
    rw [show ((i+1:Nat):Int)=(i:Int)+1 by omega] at e1
    exact e1
   ·rw [e4,jqt hf hil]
    simp only [j31]
    rw [if_neg hx]
theorem jqx (s:ByteArray) (b:Int) (h:s.size<=1000000000) (k:List ByteArray->Res):j8r s b k=k (j0g b s):=by
 obtain ⟨o',f',e1,e2,e3,e4⟩:=jom s b h (λout from_=>bif Z6R from_ (nI s.size) s.size then (bif lim (out.length+1) then k (out++[Z9k s from_ (nI s.size)]) else none) else none) s.size 0 Z0Y 0 [] (by omega) (Z1O (by omega)) (by omega) (by simp)
 unfold j8r jb7
 refine Eq.trans e1 ?_
 have e4:o'++[Z9k s (f':Int) (s.size:Int)]=j0g b s:=e4
 unfold nI
 rw [show Z6R (f':Int) (s.size:Int) s.size=true from decide_eq_true (by omega),cond_true,Z9d (by unfold LIM;omega),cond_true,e4]
theorem j5f (s:ByteArray) (h:s.size<=1000000000) (k:List ByteArray->Res):j6l s k=k (j0g 32 s):=by
 unfold j6l
 rw [jqx s 32 h]
theorem jo7 (s:ByteArray) (b:Int) (h:s.size<=1000000000) (K:List ByteArray->Int->Res):∀ (d i m from_:Nat) (out:List ByteArray),i+d=s.size->d<m->from_<=i->out.length<=i ->
  ∃ (out':List ByteArray) (f':Nat),Z10 (j5E s b) m (out,(from_:Int),(i:Int)) K=K out' (f':Int)/\f'<=s.size/\out'.length<=s.size/\out'++[Z9k s (f':Int) (s.size:Int)]=out++(j31 b (((Z19 s).take i).drop from_) ((Z19 s).drop i)).map Z2X:=by
 have hl:=j0f s
 intro d
 induction d with
 | zero=>
  intro i m from_ out hi hm hf ho
  obtain ⟨m,rfl⟩:∃ e,m=e+1:=⟨m-1,by omega⟩
  refine ⟨out,from_,?_,by omega,by omega,?_⟩
  ·rw [Z8u]
   show j5D s b _ _ _ _ _=_
   unfold j5D
   dsimp only
   rw [decide_eq_false (show ¬ (i:Int)<nI s.size by unfold nI;omega),cond_false]
  ·rw [show i=s.size by omega,jgl,List.drop_eq_nil_of_le (by omega:(Z19 s).length<=s.size)]
   rfl
 | succ d ih=>
  intro i m from_ out hi hm hf ho
  obtain ⟨m,rfl⟩:∃ e,m=e+1:=⟨m-1,by omega⟩
  have hil:i<(Z19 s).length:=by omega
  have hun:Z10 (j5E s b) (m+1) (out,(from_:Int),(i:Int)) K=j5D s b out (from_:Int) (i:Int) (λo f i=>Z10 (j5E s b) m (o,f,i) K) K:=rfl
  rw [List.drop_eq_getElem_cons hil]
  by_cases hx:(Z19 s)[i]=b
  ·obtain ⟨o',f',e1,e2,e3,e4⟩:=ih (i+1) m (i+1) (out++[Z9k s (from_:Int) (i:Int)]) (by omega) (by omega) (by omega) (by rw [List.length_append,List.length_singleton];omega)
   refine ⟨o',f',?_,e2,e3,?_⟩
   ·rw [hun]
    unfold j5D
    rw [Z9i (by omega),cond_true,j0n (by omega),cond_true,j1V s i hil,hx,beq_self_eq_true,cond_true,show Z6R (from_:Int) (i:Int) s.size=true from decide_eq_true (by omega),cond_true,Z9d (by unfold LIM;omega),cond_true,j05 (by omega)]
    rw [show ((i+1:Nat):Int)=(i:Int)+1 by omega] at e1
    exact e1
   ·rw [e4,jr2]
    simp only [j31]
    rw [if_pos hx,List.map_cons,jgl,List.append_assoc]
    rfl
  ·obtain ⟨o',f',e1,e2,e3,e4⟩:=ih (i+1) m from_ out (by omega) (by omega) (by omega) (by omega)
   refine ⟨o',f',?_,e2,e3,?_⟩
   ·rw [hun]
    unfold j5D
    rw [Z9i (by omega),cond_true,j0n (by omega),cond_true,j1V s i hil,show ((Z19 s)[i]==b)=false by simp [hx],cond_false,j05 (by omega)]
    rw [show ((i+1:Nat):Int)=(i:Int)+1 by omega] at e1
    exact e1
   ·rw [e4,jqt hf hil]
    simp only [j31]
    rw [if_neg hx]
theorem jql (s:ByteArray) (b:Int) (h:s.size<=1000000000) (k:List ByteArray->Res):jdZ s b k=k (j0g b s):=by
 obtain ⟨o',f',e1,e2,e3,e4⟩:=jo7 s b h (λout from_=>bif Z6R from_ (nI s.size) s.size then (bif lim (out.length+1) then k (out++[Z9k s from_ (nI s.size)]) else none) else none) s.size 0 Z0Y 0 [] (by omega) (Z1O (by omega)) (by omega) (by simp)
 unfold jdZ jfp
 refine Eq.trans e1 ?_
 have e4:o'++[Z9k s (f':Int) (s.size:Int)]=j0g b s:=e4
 unfold nI
 rw [show Z6R (f':Int) (s.size:Int) s.size=true from decide_eq_true (by omega),cond_true,Z9d (by unfold LIM;omega),cond_true,e4]
theorem jbK (s:ByteArray) (h:s.size<=1000000000) (k:List ByteArray->Res):j64 s k=k (j0g 32 s):=by
 unfold j64
 rw [jql s 32 h]
end Go.PI.G
