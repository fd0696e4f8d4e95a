/-
  Program's code interpreted over typed values; printed texts; plain laws. No conditions.
-/
import Derived.Test.YtppeoiidhmegkaaGreatAa
import Derived.Test.YtppeoiidhmegkaaGreatAe
set_option linter.unusedVariables false
set_option linter.unusedSimpArgs false
namespace Go.PI.G
open Go Go.PI Go.Proofs
theorem j8f (l:List ByteArray) (k:Bool->Res):j1K l [] k=k (l.length==0):=by
 unfold j1K
 rw [jfB]
 cases l with
 | nil=>
  obtain ⟨m,hm⟩:=jes
  rw [show (!(([]:List ByteArray).length==([]:List ByteArray).length))=false from rfl,cond_false]
  unfold j3W
  rw [hm,Z8C]
  rfl
 | cons x l=>rfl
theorem j9w (l:List C) (k:Bool->Res):j17 l [] k=k (l.length==0):=by
 unfold j17
 rw [jfB]
 cases l with
 | nil=>
  obtain ⟨m,hm⟩:=jes
  rw [show (!(([]:List C).length==([]:List C).length))=false from rfl,cond_false]
  unfold j3i
  rw [hm,Z8C]
  rfl
 | cons x l=>rfl
theorem jfs (l:List C) (h:l.length<=LIM) (k:Bool->Res):j17 l l k=k true:=by
 unfold j17 j3i
 rw [jfB,beq_self_eq_true,Bool.not_true,cond_false]
 have:=Z8G l (λi=>i) (λ_=>false) (step:=j4i l l (nI l.length)) ((λ(_:Unit)=>k true),(λ(_:Unit)=>k false)) (k true) (k false) h (λi rec hi=>by
  show j1f _ _ _ _ _ _ _=_
  unfold j1f
  unfold LIM at h
  have hb:∀ x:Bool,(x==x)=true:=by decide
  rw [Z9q hi,cond_true,j08 hi,cond_true,cond_true]
  simp only [Z8T,beq_self_eq_true,hb,Bool.and_true,Bool.not_true,cond_false]
  rw [j03 (by omega)]) (λrec=>by
  show j1f _ _ _ _ _ _ _=_
  unfold j1f
  rw [Z9p,cond_false])
 refine this.trans ?_
 have:(l.any λ_=>false)=false:=by simp
 rw [this,cond_false]
theorem jgK {d:D} (h:dSm d):tSm (d.2.1,d.2.2.1,d.2.2.2.1):=⟨h.1,h.2.1,h.2.2.1,h.2.2.2.1,h.2.2.2.2.1⟩
theorem jh9 (d:D) (K:Bool->Res):j4R d K=K (j8j d):=by
 unfold j4R j8j
 rw [j5N,j5N]
 cases d.2.2.1.length==0<;>rfl
theorem jfI (d:D) (h:dSm d) (k:Bool->Res):j5R d k=k (j5h d):=by
 have h0:=jgK h
 obtain ⟨m1,m2,m3,m4,m5,m6,m7⟩:=h
 obtain ⟨kd,t,cs,ks,n,m⟩:=d
 dsimp only at m1 m2 m3 m4 m5 m6 m7 h0
 unfold j5R j5h
 rw [jh9]
 generalize hpl:j8j (kd,t,cs,ks,n,m)=pl
 dsimp only
 rw [j1X _ (by unfold LIM;omega),j5N]
 cases j0c t
 ·rfl
 ·rw [Bool.not_true,cond_false,Bool.true_and]
  cases kd==1
  ·cases kd==2
   ·cases kd==3
    ·cases kd==4
     ·cases kd==5
      ·rfl
      ·rw [cond_false,cond_false,cond_false,cond_false,cond_true,cond_false,cond_false,cond_false,cond_false,cond_true,j1X n (by unfold LIM;omega),j1X m (by unfold LIM;omega)]
       cases pl
       ·rfl
       ·cases j0c n<;>rfl
     ·rw [cond_false,cond_false,cond_false,cond_true,cond_false,cond_false,cond_false,cond_true,j1X n (by unfold LIM;omega)]
      cases pl
      ·rfl
      ·cases j0c n<;>rfl
    ·rw [cond_false,cond_false,cond_true,cond_false,cond_false,cond_true,jg4]
     cases hl:cs.length==1
     ·rfl
     ·have hl':cs.length=1:=by simpa using hl
      have hi:inb 0 cs.length=true:=by rw [hl'];rfl
      have hc:(nth zC cs 0).1.size<=LIM:=by
       have:=m4 (nth zC cs 0) (by rw [show (0:Int)=((0:Nat):Int) by rfl,Z9a _ _ _ (by omega)];exact List.getElem_mem _)
       unfold LIM;omega
      rw [cond_true,hi,cond_true,jd9 _ hc,Bool.true_and]
      cases j0U (nth zC cs 0)
      ·rfl
      ·rw [cond_true,cond_true,cond_true,Bool.true_and]
       cases (nth zC cs 0).2.2.2.1
       ·cases (nth zC cs 0).2.2.1
        ·cases ks.length==0
         ·rfl
         ·cases sEq n eS<;>rfl
        ·rfl
       ·cases ks.length==0
        ·rfl
        ·cases sEq n eS<;>rfl
   ·rw [cond_false,cond_true,cond_false,cond_true]
    cases pl
    ·rfl
    ·cases sEq n eS<;>rfl
  ·rw [cond_true,cond_true,jf9 _ h0]
   cases sEq n eS
   ·rfl
   ·cases sEq m eS<;>rfl
theorem jf2 (d:D) (h:dSm d) (k:T->Res):j4J d k=k (d.2.1,d.2.2.1,d.2.2.2.1):=by
 unfold j4J j7O j7P
 have h1:=h.2.1
 have h2:=h.2.2.1
 dsimp only
 rw [Z9l (by unfold LIM;omega),cond_true,Z9l (by unfold LIM;omega),cond_true]
theorem jfx (d:D) (h:dSm d) (k:Bool->Res):j5E d k=k (j5h d):=by
 have h0:=jgK h
 have hmd:=jf2 d h
 obtain ⟨m1,m2,m3,m4,m5,m6,m7⟩:=h
 obtain ⟨kd,t,cs,ks,n,m⟩:=d
 dsimp only at m1 m2 m3 m4 m5 m6 m7 h0 hmd
 unfold j5E j5h j8j
 dsimp only
 rw [j2K _ (by unfold LIM;omega)]
 have L1:cs.length<=LIM:=by unfold LIM;omega
 have L2:ks.length<=LIM:=by unfold LIM;omega
 cases j0c t
 ·rfl
 ·rw [Bool.not_true,cond_false,Bool.true_and]
  cases h1:kd==1
  ·cases kd==2
   ·cases kd==3
    ·cases kd==4
     ·cases kd==5
      ·rfl
      ·rw [cond_false,cond_false,cond_false,cond_false,cond_true,cond_false,cond_false,cond_false,cond_false,cond_true]
       unfold j0k
       dsimp only
       rw [beq_self_eq_true,cond_true,Z8T,cond_true,j9w,j8f,Z8T,cond_true,Z8T,j2K n (by unfold LIM;omega),j2K m (by unfold LIM;omega)]
       cases cs.length==0
       ·rfl
       ·cases ks.length==0
        ·rfl
        ·cases j0c n<;>rfl
     ·rw [cond_false,cond_false,cond_false,cond_true,cond_false,cond_false,cond_false,cond_true]
      unfold j0k
      dsimp only
      rw [beq_self_eq_true,cond_true,Z8T,cond_true,j9w,j8f,Z8T,cond_true,j2K n (by unfold LIM;omega)]
      cases cs.length==0
      ·rfl
      ·cases ks.length==0
       ·rfl
       ·cases sEq m eS<;>cases j0c n<;>rfl
    ·rw [cond_false,cond_false,cond_true,cond_false,cond_false,cond_true,jg4]
     unfold j0k
     dsimp only
     rw [beq_self_eq_true,cond_true,Z8T,cond_true,jfs _ L1,cond_true,j8f]
     cases hl:cs.length==1
     ·cases ks.length==0
      ·rfl
      ·cases sEq n eS
       ·rfl
       ·cases sEq m eS<;>rfl
     ·have hl':cs.length=1:=by simpa using hl
      have hi:inb 0 cs.length=true:=by rw [hl'];rfl
      have hc:(nth zC cs 0).1.size<=LIM:=by
       have:=m4 (nth zC cs 0) (by rw [show (0:Int)=((0:Nat):Int) by rfl,Z9a _ _ _ (by omega)];exact List.getElem_mem _)
       unfold LIM;omega
      rw [hi,jcK _ hc]
      cases ks.length==0
      ·cases j0U (nth zC cs 0)<;>cases (nth zC cs 0).2.2.2.1<;>cases (nth zC cs 0).2.2.1<;>rfl
      ·cases sEq n eS
       ·cases j0U (nth zC cs 0)<;>cases (nth zC cs 0).2.2.2.1<;>cases (nth zC cs 0).2.2.1<;>rfl
       ·cases sEq m eS<;>cases j0U (nth zC cs 0)<;>cases (nth zC cs 0).2.2.2.1<;>cases (nth zC cs 0).2.2.1<;>rfl
   ·rw [cond_false,cond_true,cond_false,cond_true]
    unfold j0k
    dsimp only
    rw [beq_self_eq_true,cond_true,Z8T,cond_true,j9w,j8f]
    cases cs.length==0
    ·rfl
    ·cases ks.length==0
     ·rfl
     ·cases sEq n eS<;>rfl
  ·have e1:kd=1:=by simpa using h1
   subst e1
   rw [cond_true,cond_true,hmd,jf4 _ h0]
   cases j9U (t,cs,ks)
   ·cases sEq n eS
    ·rfl
    ·cases sEq m eS<;>rfl
   ·cases sEq n eS<;>cases sEq m eS<;>rfl
theorem jfK (d:D) (k:Bool->Res):j1D d k=k (noD d):=by
 unfold j1D noD
 rw [j5N,j5N]
 cases d.1==0
 ·rfl
 ·cases sEq d.2.1 eS
  ·rfl
  ·cases d.2.2.1.length==0
   ·rfl
   ·cases d.2.2.2.1.length==0
    ·rfl
    ·cases sEq d.2.2.2.2.1 eS<;>rfl
theorem jfz (d:D) (k:Bool->Res):j0k d zD k=k (noD d):=by
 unfold j0k noD
 rw [j9w,j8f]
 cases d.1==0
 ·rfl
 ·cases sEq d.2.1 eS
  ·rfl
  ·cases d.2.2.1.length==0
   ·rfl
   ·cases d.2.2.2.1.length==0
    ·rfl
    ·cases sEq d.2.2.2.2.1 eS<;>rfl
theorem jbP (l:List V) (h:l.length<=LIM) (k:Bool->Res):j25 l k=k (j1s l):=by
 unfold j25 j7r j1s
 have:=Z8G l (λi=>i) (λv=> !j0j v) (step:=j64 l (nI l.length)) ((λ(_:Unit)=>bif decide ((nI l.length)>=1) then k (decide ((nI l.length)<=8)) else k false),(λ(_:Unit)=>k false)) (bif decide ((nI l.length)>=1) then k (decide ((nI l.length)<=8)) else k false) (k false) h (λi rec hi=>by
  show j2B _ _ _ _ _ _=_
  unfold j2B
  unfold LIM at h
  rw [Z9q hi,cond_true,j08 hi,cond_true,Z9a _ _ _ hi,jan,j03 (n:=(i:Int)+1) (by omega)]) (λrec=>by
  show j2B _ _ _ _ _ _=_
  unfold j2B
  rw [Z9p,cond_false])
 refine this.trans ?_
 have hall:(l.any λv=> !j0j v)= !l.all j0j:=by rw [List.all_eq_not_any_not];simp
 rw [hall]
 unfold nI
 cases l.all j0j
 ·rfl
 ·rw [Bool.not_true,cond_false,Bool.true_and]
  by_cases h1:1<=l.length
  ·rw [decide_eq_true (show (l.length:Int)>=1 by omega),cond_true,decide_eq_true h1,Bool.true_and]
   congr 1
   exact decide_eq_decide.2 (by omega)
  ·rw [decide_eq_false (show ¬ (l.length:Int)>=1 by omega),cond_false,decide_eq_false h1,Bool.false_and]
theorem jbM (l:List V) (h:l.length<=LIM) (k:Bool->Res):j1m l k=k (j1s l):=by
 unfold j1m j1G j4A j3l j1s
 rw [j3U]
 have hd:decide (1<=nI l.length/\nI l.length<=8)=(decide (1<=l.length)&&decide (l.length<=8)):=by
  rw [<-Bool.decide_and]
  exact decide_eq_decide.2 (by unfold nI;omega)
 rw [hd]
 cases decide (1<=l.length)&&decide (l.length<=8)
 ·rw [Bool.and_false];rfl
 ·rw [cond_true,Bool.and_true]
  have:=Z8w l (λi=>i) (λv=> !j0j v) (step:=j2I l (nI l.length)) ((λ(_:Unit)=>k (!decide ((-1:Int)>=0))),(λ(t:Int)=>k (!decide (t>=0)))) (λr=>k (!decide (r>=0))) h (λi rec hi=>by
   show j0I _ _ _ _ _ _=_
   unfold j0I j8s
   unfold LIM at h
   rw [Z9q hi,cond_true,j08 hi,cond_true,Z9a _ _ _ hi,jcL,j03 (n:=(i:Int)+1) (by omega)]) (λrec=>by
   show j0I _ _ _ _ _ _=_
   unfold j0I
   rw [Z9p,cond_false])
  refine this.trans ?_
  congr 1
  unfold Z8j
  cases hf:l.findIdx? λv=> !j0j v with
  | none=>
   rw [List.findIdx?_eq_none_iff] at hf
   symm
   show l.all j0j=true
   rw [List.all_eq_true]
   intro v hv
   simpa using hf v hv
  | some i=>
   dsimp only
   rw [decide_eq_true (show (i:Int)>=0 by omega)]
   obtain ⟨hi,hp,_⟩:=List.findIdx?_eq_some_iff_getElem.1 hf
   symm
   show l.all j0j=false
   rw [List.all_eq_false]
   exact ⟨l[i],List.getElem_mem _,by simpa using hp⟩
theorem jdW (s:ST) (h:j9T s) (k:Bool->Res):j2M s k=k (stB s):=by
 obtain ⟨m1,m2,m3,m4⟩:=h
 unfold j2M stB j4m
 have L2:s.2.2.1.length<=LIM:=by unfold LIM;omega
 have L3:s.2.2.2.1.length<=LIM:=by unfold LIM;omega
 rw [j1X _ (by unfold LIM;omega),j5N,j5N]
 simp only [jbP _ L2,jbP _ L3,jfK,jfI _ m4]
 cases j0c s.2.1
 ·rfl
 ·rw [Bool.not_true,cond_false,Bool.true_and]
  cases s.1==1
  ·cases s.1==2
   ·cases s.1==3
    ·cases s.1==4
     ·cases s.1==5
      ·rfl
      ·cases s.2.2.1.length==0
       ·rfl
       ·cases s.2.2.2.1.length==0
        ·rfl
        ·cases j5h s.2.2.2.2<;>rfl
     ·cases s.2.2.1.length==0
      ·rfl
      ·cases s.2.2.2.1.length==0<;>rfl
    ·cases j1s s.2.2.1
     ·rfl
     ·cases s.2.2.2.1.length==0<;>rfl
   ·cases j1s s.2.2.1
    ·rfl
    ·cases j1s s.2.2.2.1<;>rfl
  ·cases s.2.2.1.length==0
   ·rfl
   ·cases j1s s.2.2.2.1<;>rfl
theorem jfU {d:D} (h:j5h d=true):j0c d.2.1=true:=by
 unfold j5h at h
 rw [Bool.and_eq_true] at h
 exact h.1
theorem jdO (s:ST) (h:j9T s) (k:Bool->Res):j2L s k=k (stB s):=by
 obtain ⟨m1,m2,m3,m4⟩:=h
 unfold j2L stB j4a
 have L2:s.2.2.1.length<=LIM:=by unfold LIM;omega
 have L3:s.2.2.2.1.length<=LIM:=by unfold LIM;omega
 rw [j2K _ (by unfold LIM;omega),j5N,j5N]
 simp only [jbM _ L2,jbM _ L3,jfz,jfx _ m4]
 cases h5:s.1==5
 ·rw [cond_false]
  cases j0c s.2.1
  ·rfl
  ·rw [Bool.not_true,cond_false,Bool.true_and]
   cases s.1==1
   ·cases s.1==2
    ·cases s.1==3
     ·cases s.1==4
      ·cases noD s.2.2.2.2<;>rfl
      ·cases noD s.2.2.2.2<;>cases s.2.2.1.length==0<;>cases s.2.2.2.1.length==0<;>rfl
     ·cases noD s.2.2.2.2<;>cases j1s s.2.2.1<;>cases s.2.2.2.1.length==0<;>rfl
    ·cases noD s.2.2.2.2<;>cases j1s s.2.2.1<;>cases j1s s.2.2.2.1<;>rfl
   ·cases noD s.2.2.2.2<;>cases s.2.2.1.length==0<;>cases j1s s.2.2.2.1<;>rfl
 ·have e5:s.1=5:=by simpa using h5
  rw [cond_true,e5,show ((5:Int)==1)=false from rfl,show ((5:Int)==2)=false from rfl,show ((5:Int)==3)=false from rfl,show ((5:Int)==4)=false from rfl,cond_false,cond_false,cond_false,cond_false,cond_true]
  cases hd:j5h s.2.2.2.2
  ·rw [cond_false]
   cases j0c s.2.1<;>cases s.2.2.1.length==0<;>cases s.2.2.2.1.length==0<;>rfl
  ·rw [cond_true,Z8S s.2.1]
   cases he:sEq s.2.2.2.2.2.1 s.2.1
   ·rw [cond_false]
    cases j0c s.2.1<;>cases s.2.2.1.length==0<;>cases s.2.2.2.1.length==0<;>rfl
   ·have hw:=jfU hd
    rw [(j2Q _ _).1 he] at hw
    rw [hw]
    cases s.2.2.1.length==0<;>cases s.2.2.2.1.length==0<;>rfl
end Go.PI.G
namespace Go.PI.G
open Go Go.PI
theorem jgM {v:V} (h:j0j v=true):msr yV v<=30:=by
 have e:msr yV v=0+(0+v.2.2.size):=rfl
 have:=jgj h
 omega
theorem j7U {e:Ty} (c:Nat):(l:List (El e))->(∀ x∈l,msr e x<=c)->msr (.slice e) l<=l.length * (c+1)
 | [],_=>Nat.zero_le _
 | x::l,h=>by
  have h1:=j7U c l λy hy=>h y (List.mem_cons_of_mem _ hy)
  have h2:=h x (by simp)
  rw [jdR] at h1 ⊢
  simp only [List.map_cons,List.sum_cons,List.length_cons]
  rw [Nat.succ_mul]
  omega
theorem j9y {l:List V} (h:j1s l=true):msr (.slice yV) l<=248:=by
 have hp:=j6n h
 have h1:=j7U (e:=yV) 30 l λv hv=>jgM (hp.2.2 v hv)
 have h2:l.length * 31<=8 * 31:=Nat.mul_le_mul_right _ hp.2.1
 omega
theorem jeJ {c:C} (h:j0U c=true):msr yC c<=38:=by
 have e:msr yC c=c.1.size+(0+(0+(0+msr yV c.2.2.2.2))):=rfl
 unfold j0U at h
 simp only [Bool.and_eq_true] at h
 have h1:=j0S h.1
 have h2:=jgM h.2.2.1
 omega
theorem jdI {l:List C} (h:j71 l=true) {c:C} (hc:c∈l):j0U c=true:=by
 obtain ⟨i,hi,rfl⟩:=List.getElem_of_mem hc
 exact jfS h i hi
theorem jdH {l:List C} {n:ByteArray} (h:0<=j0q l n):∃ c∈l,c.1=n:=by
 unfold j0q Z8j at h
 cases hf:List.findIdx? (λc:C=>sEq c.1 n) l with
 | none=>rw [hf] at h;dsimp only at h;omega
 | some i=>
  obtain ⟨hi,hp,_⟩:=List.findIdx?_eq_some_iff_getElem.1 hf
  exact ⟨l[i],List.getElem_mem hi,(j2Q _ _).1 hp⟩
theorem jaW {l:List C}:(ks:List ByteArray)->(last:Int)->last<(l.length:Int)->j3B l last ks=true->last+(ks.length:Int)<(l.length:Int)
 | [],last,h0,_=>by simpa using h0
 | q::ks,last,h0,h=>by
  simp only [j3B,Bool.and_eq_true,Bool.not_eq_true',decide_eq_false_iff_not] at h
  have h1:=jaW ks (j0q l q) (j6d l q).2 h.2.2
  rw [List.length_cons]
  omega
theorem jgx {t:ByteArray} {cs:List C} {ks:List ByteArray} (h:j9U (t,cs,ks)=true):t.size<=8/\msr (.slice yC) cs<=312/\msr (.slice .str) ks<=72:=by
 have hp:=jdc h
 dsimp only at hp
 have hc:∀ c∈cs,j0U c=true:=λc hc=>jdI hp.2.2.2.2.1 hc
 have h1:=j7U (e:=yC) 38 cs λc h=>jeJ (hc c h)
 have h2:cs.length * 39<=8 * 39:=Nat.mul_le_mul_right _ hp.2.2.1
 have hk:=j96 ks (-1) (by omega) hp.2.2.2.2.2
 have hl:=jaW ks (-1) (by omega) hp.2.2.2.2.2
 have h3:=j7U (e:= .str) 8 ks λk hm=>by
  obtain ⟨c,hcm,he⟩:=jdH (hk k hm).1
  have hb:=hc c hcm
  unfold j0U at hb
  rw [Bool.and_eq_true] at hb
  have:=(j0S hb.1).2
  rw [he] at this
  exact this
 have h4:ks.length * 9<=8 * 9:=Nat.mul_le_mul_right _ (by omega)
 exact ⟨(j0S hp.1).2,by omega,by omega⟩
theorem jgv {d:D} (h:j5h d=true):msr yD d<=500:=by
 have e:∀ d:D,msr yD d=0+(d.2.1.size+(msr (.slice yC) d.2.2.1+(msr (.slice .str) d.2.2.2.1+(d.2.2.2.2.1.size+d.2.2.2.2.2.size)))):=λ_=>rfl
 have z1:msr (.slice yC) ([]:List C)=0:=rfl
 have z2:msr (.slice .str) ([]:List ByteArray)=0:=rfl
 have z3:eS.size=0:=rfl
 rw [e]
 obtain ⟨ht,hc⟩:=jcI h
 have ht:=(j0S ht).2
 rcases hc with ⟨t,cs,ks,rfl,hb⟩ | ⟨t,rfl⟩ | ⟨t,c,rfl,hb⟩ | ⟨t,n,rfl,hb⟩ | ⟨t,n,m,rfl,hb,hb2⟩
 ·have:=jgx hb
  dsimp only at *
  omega
 ·dsimp only at *
  omega
 ·have h1:=j7U (e:=yC) 38 [c] λx hx=>by rw [List.mem_singleton.1 hx];exact jeJ hb
  have h2:[c].length * (38+1)=39:=rfl
  dsimp only at *
  omega
 ·have:=(j0S hb).2
  dsimp only at *
  omega
 ·have:=(j0S hb).2
  have:=(j0S hb2).2
  dsimp only at *
  omega
theorem jgW {s:ST} (h:stB s=true):msr yST s<=1100:=by
 have e:∀ s:ST,msr yST s=0+(s.2.1.size+(msr (.slice yV) s.2.2.1+(msr (.slice yV) s.2.2.2.1+msr yD s.2.2.2.2))):=λ_=>rfl
 have z1:msr (.slice yV) ([]:List V)=0:=rfl
 have z2:msr yD zD=0:=rfl
 rw [e]
 obtain ⟨ht,hc⟩:=jdZ h
 have ht:=(j0S ht).2
 rcases hc with ⟨t,r,rfl,hb⟩ | ⟨t,q,r,rfl,hb,hb2⟩ | ⟨t,q,rfl,hb⟩ | ⟨t,rfl⟩ | ⟨d,rfl,hb⟩
 ·have:=j9y hb
  dsimp only at *
  omega
 ·have:=j9y hb
  have:=j9y hb2
  dsimp only at *
  omega
 ·have:=j9y hb
  dsimp only at *
  omega
 ·dsimp only at *
  omega
 ·have:=jgv hb
  dsimp only at *
  omega
end Go.PI.G
namespace Go.PI.G
open Go Go.PI
noncomputable def byW (s:ByteArray):List Int:=nI s.size::Z1e s
def bI (x:Bool):Int:=bif x then 1 else 0
noncomputable def byC (c:C):List Int:=byW c.1++(c.2.1::bI c.2.2.1::bI c.2.2.2.1::wB c.2.2.2.2)
noncomputable def byD (d:D):List Int:=((d.1::nI d.2.2.1.length::d.2.2.1.flatMap byC)++(nI d.2.2.2.1.length::d.2.2.2.1.flatMap byW))++(byW d.2.2.2.2.1++byW d.2.2.2.2.2)
noncomputable def byS (s:ST):List Int:=((83::s.1::byW s.2.1)++(j1i s.2.2.1++j1i s.2.2.2.1))++(bif s.1==5 then byD s.2.2.2.2 else [])
theorem j3v {c:C} (h:j0U c=true):j0c c.1=true/\(1<=c.2.1/\c.2.1<=3)/\j0j c.2.2.2.2=true:=by
 unfold j0U at h
 simp only [Bool.and_eq_true,decide_eq_true_eq] at h
 exact ⟨h.1,h.2.1,h.2.2.1⟩
theorem j7L {d:D} (h:j5h d=true):(1<=d.1/\d.1<=5)/\d.2.2.1.length<=8/\(∀ c∈d.2.2.1,j0U c=true)/\d.2.2.2.1.length<=8/\(∀ k∈d.2.2.2.1,j0c k=true) /\
  (j0c d.2.2.2.2.1=true\/d.2.2.2.2.1=eS)/\(j0c d.2.2.2.2.2=true\/d.2.2.2.2.2=eS):=by
 obtain ⟨ht,hc⟩:=jcI h
 have z1:∀ c∈([]:List C),j0U c=true:=λc hc=>by cases hc
 have z2:∀ k∈([]:List ByteArray),j0c k=true:=λc hc=>by cases hc
 rcases hc with ⟨t,cs,ks,rfl,hb⟩ | ⟨t,rfl⟩ | ⟨t,c,rfl,hb⟩ | ⟨t,n,rfl,hb⟩ | ⟨t,n,m,rfl,hb,hb2⟩
 ·have hp:=jdc hb
  dsimp only at hp
  have hk:=j96 ks (-1) (by omega) hp.2.2.2.2.2
  have hl:=jaW ks (-1) (by omega) hp.2.2.2.2.2
  have hcs:∀ c∈cs,j0U c=true:=λc hc=>jdI hp.2.2.2.2.1 hc
  refine ⟨⟨by dsimp only;omega,by dsimp only;omega⟩,hp.2.2.1,hcs,by dsimp only;omega,λk hm=> ?_,.inr rfl,.inr rfl⟩
  obtain ⟨c,hcm,he⟩:=jdH (hk k hm).1
  rw [<-he]
  exact (j3v (hcs c hcm)).1
 ·exact ⟨⟨by dsimp only;omega,by dsimp only;omega⟩,Nat.zero_le _,z1,Nat.zero_le _,z2,.inr rfl,.inr rfl⟩
 ·exact ⟨⟨by dsimp only;omega,by dsimp only;omega⟩,Nat.le_of_ble_eq_true rfl,λx hx=>by rw [List.mem_singleton.1 hx];exact hb,Nat.zero_le _,z2,.inr rfl,.inr rfl⟩
 ·exact ⟨⟨by dsimp only;omega,by dsimp only;omega⟩,Nat.zero_le _,z1,Nat.zero_le _,z2,.inl hb,.inr rfl⟩
 ·exact ⟨⟨by dsimp only;omega,by dsimp only;omega⟩,Nat.zero_le _,z1,Nat.zero_le _,z2,.inl hb,.inl hb2⟩
theorem j8e {s:ByteArray} (h:j0c s=true\/s=eS):s.size<=8:=by
 rcases h with h | rfl
 ·exact (j0S h).2
 ·exact Nat.zero_le _
theorem j0O {s:ByteArray} (h:j0c s=true\/s=eS):(byW s).length<=9:=by
 have:=j8e h
 show (Z1e s).length+1<=9
 rw [j0x];omega
theorem ja1 {c:C} (h:j0U c=true):(byC c).length<=44:=by
 obtain ⟨h1,_,h3⟩:=j3v h
 have:=j0O (.inl h1)
 have:=jab h3
 unfold byC
 simp only [List.length_append,List.length_cons]
 omega
theorem j1Y {α:Type} (f:α->List Int) (c:Nat):(l:List α)->(∀ x∈l,(f x).length<=c)->(l.flatMap f).length<=c * l.length
 | [],_=>Nat.zero_le _
 | x::l,h=>by
  have h1:=h x (by simp)
  have h2:=j1Y f c l λy hy=>h y (List.mem_cons_of_mem _ hy)
  rw [List.flatMap_cons,List.length_append,List.length_cons,Nat.mul_succ]
  omega
theorem j8g {α:Type} (f:α->List Int):(l:List α)->(∀ x∈l,isB (f x))->isB (l.flatMap f)
 | [],_=>j4d
 | x::l,h=>by
  rw [List.flatMap_cons]
  exact j0s (h x (by simp)) (j8g f l λy hy=>h y (List.mem_cons_of_mem _ hy))
theorem j8U {s:ByteArray} (h:j0c s=true\/s=eS):isB (byW s):=j0v (by have:=j8e h;unfold nI;omega) (j9V s)
theorem jgI (x:Bool):0<=bI x/\bI x<256:=by cases x<;>decide
theorem jcF (x:Bool):(bI x==1)=x:=by cases x<;>rfl
theorem jgP {c:C} (h:j0U c=true):isB (byC c):=by
 obtain ⟨h1,h2,h3⟩:=j3v h
 exact j0s (j8U (.inl h1)) (j0v (by omega) (j0v (jgI _) (j0v (jgI _) (jgk h3))))
theorem jgQ {d:D} (h:j5h d=true):isB (byD d):=by
 obtain ⟨h1,h2,h3,h4,h5,h6,h7⟩:=j7L h
 exact j0s (j0s (j0v (by omega) (j0v (by unfold nI;omega) (j8g _ _ λc hc=>jgP (h3 c hc)))) (j0v (by unfold nI;omega) (j8g _ _ λk hk=>j8U (.inl (h5 k hk))))) (j0s (j8U h6) (j8U h7))
theorem j5v {s:ST} (h:stB s=true):j0c s.2.1=true/\(1<=s.1/\s.1<=5)/\(s.2.2.1.length<=8/\∀ v∈s.2.2.1,j0j v=true)/\(s.2.2.2.1.length<=8/\∀ v∈s.2.2.2.1,j0j v=true)/\((s.1=5/\j5h s.2.2.2.2=true/\s.2.2.2.2.2.1=s.2.1)\/(s.1≠5/\s.2.2.2.2=zD)):=by
 obtain ⟨ht,hc⟩:=jdZ h
 have z1:∀ c∈([]:List V),j0j c=true:=λc hc=>by cases hc
 refine ⟨ht,?_⟩
 rcases hc with ⟨t,r,rfl,hb⟩ | ⟨t,q,r,rfl,hb,hb2⟩ | ⟨t,q,rfl,hb⟩ | ⟨t,rfl⟩ | ⟨d,rfl,hb⟩
 ·have hp:=j6n hb
  exact ⟨by dsimp only;omega,⟨Nat.zero_le _,z1⟩,⟨hp.2.1,hp.2.2⟩,.inr ⟨(show (1:Int)≠5 by decide),rfl⟩⟩
 ·have hp:=j6n hb
  have hp2:=j6n hb2
  exact ⟨by dsimp only;omega,⟨hp.2.1,hp.2.2⟩,⟨hp2.2.1,hp2.2.2⟩,.inr ⟨(show (2:Int)≠5 by decide),rfl⟩⟩
 ·have hp:=j6n hb
  exact ⟨by dsimp only;omega,⟨hp.2.1,hp.2.2⟩,⟨Nat.zero_le _,z1⟩,.inr ⟨(show (3:Int)≠5 by decide),rfl⟩⟩
 ·exact ⟨by dsimp only;omega,⟨Nat.zero_le _,z1⟩,⟨Nat.zero_le _,z1⟩,.inr ⟨(show (4:Int)≠5 by decide),rfl⟩⟩
 ·exact ⟨by dsimp only;omega,⟨Nat.zero_le _,z1⟩,⟨Nat.zero_le _,z1⟩,.inl ⟨rfl,hb,rfl⟩⟩
theorem jbj {s:ST} (h:stB s=true):isB (byS s):=by
 obtain ⟨h1,h2,h3,h4,h5⟩:=j5v h
 refine j0s (j0s (j0v (x:=83) (by omega) (j0v (by omega) (j8U (.inl h1)))) (j0s (jeS (by omega) h3.2) (jeS (by omega) h4.2))) ?_
 cases hk:s.1==5
 ·exact j4d
 ·rcases h5 with h5 | h5
  ·exact jgQ h5.2.1
  ·exact absurd (by simpa using hk) h5.1
theorem j7W {l:List V} (h:l.length<=8/\∀ v∈l,j0j v=true):(j1i l).length<=257:=by
 have:=jeC l h.2
 show (l.flatMap wB).length+1<=257
 omega
end Go.PI.G
namespace Go.PI.G
open Go Go.PI Go.Proofs
theorem j7M {α:Type} (f:α->List Int) (c:Nat) (l:List α) (pre:List Int) (B:Nat) (h:∀ x∈l,(f x).length<=c) (hl:l.length<=8) (hp:pre.length+c * 8<=B) (i:Nat):(pre++(l.take i).flatMap f).length<=B:=by
 have h1:=j1Y f c (l.take i) λx hx=>h x (List.mem_of_mem_take hx)
 have h2:c * (l.take i).length<=c * 8:=Nat.mul_le_mul_left _ (by rw [List.length_take];omega)
 rw [List.length_append]
 omega
theorem ja8 (b:List Int) (hb:b.length<=100000) (s:ByteArray) (h:j0c s=true\/s=eS) (k:List Int->Res):j0D b s k=k (b++byW s):=by
 have h8:=j8e h
 have hl:=j0x s
 have hw:=j0O h
 have e:[wu8 (nI s.size)]++Z1e s=byW s:=by
  rw [j0F (by unfold nI;omega)];rfl
 have q1:lim s.size=true:=Z9l (by unfold LIM;omega)
 have q2:lim (1+(Z1e s).length)=true:=Z9l (by unfold LIM;omega)
 unfold j0D j86
 rcases h with h | h
 ·have hn:sNe s eS=true:=by
   cases hs:sNe s eS
   ·have:=(jdA _ _).1 hs
    have h1:=(j0S h).1
    rw [this] at h1
    exact absurd h1 (by decide)
   ·rfl
  rw [hn,cond_true,j1X s (by unfold LIM;omega),h,Bool.not_true,cond_false,q1,cond_true,q2,cond_true,e]
  dsimp only
  rw [Z9l (by unfold LIM;omega),cond_true]
 ·have hn:sNe s eS=false:=by rw [h,Z8U]
  rw [hn,cond_false,q1,cond_true,q2,cond_true,e]
  dsimp only
  rw [Z9l (by unfold LIM;omega),cond_true]
theorem ja2 (b:List Int) (hb:b.length<=90000) (s:ByteArray) (h:j0c s=true\/s=eS) (k:List Int->Res):j0V b s k=k (b++byW s):=by
 have h8:=j8e h
 unfold j0V
 rw [j2c _ (by omega) _ (by unfold nI;omega),Z9l (by rw [List.length_append,List.length_singleton];unfold LIM;omega),cond_true,List.append_assoc]
 rfl
theorem jbO (x:Bool) (k:Int->Res):j5t x k=k (bI x):=by cases x<;>rfl
theorem jbK (b:List Int) (hb:b.length<=90000) (x:Bool) (k:List Int->Res):j1Z b x k=k (b++[bI x]):=by
 unfold j1Z
 rw [Z9l (by unfold LIM;omega)]
 cases x<;>rfl
theorem jgA (l:List C) (hl:l.length<=8) (h:∀ c∈l,j0U c=true) (b:List Int) (hb:b.length<=10000) (k:List Int->Res):j4o l (nI l.length) Z12 b 0 k=k (b++l.flatMap byC):=by
 have hc:∀ c∈l,(byC c).length<=44:=λc hc=>ja1 (h c hc)
 unfold j4o
 refine Z8x l (λi out=>(out,i)) byC 11000 b (step:=j4C l (nI l.length)) k k (by unfold LIM;omega) (λi hi _=>j7M byC 44 l b 11000 hc hl (by omega) (i+1)) (by omega) (λi out rec hi ho hB=>by
  show j1T _ _ _ _ _ _=_
  unfold j1T
  have hcb:=h _ (List.getElem_mem hi)
  obtain ⟨h1,h2,h3⟩:=j3v hcb
  have hw:=j0O (.inl h1)
  have hv:=jab h3
  have e1:((out++byW l[i].1)++[wu8 l[i].2.1,bI l[i].2.2.1,bI l[i].2.2.2.1])++wB l[i].2.2.2.2=out++byC l[i]:=by
   rw [j0F (by omega)]
   unfold byC
   simp only [List.append_assoc,List.cons_append,List.nil_append]
  have l1:(out++byW l[i].1).length<=11009:=by rw [List.length_append];omega
  have l2:((out++byW l[i].1)++[wu8 l[i].2.1,bI l[i].2.2.1,bI l[i].2.2.2.1]).length<=11012:=by rw [List.length_append];simp only [List.length_cons,List.length_nil];omega
  dsimp only
  rw [Z9q hi,cond_true,j08 hi,cond_true,Z9a _ _ _ hi,ja8 _ (by omega) _ (.inl h1),jbO,jbO,Z9l (by unfold LIM;omega),cond_true,jdX,h3,cond_true,Z9l (by unfold LIM;omega),cond_true,e1,j03 (n:=(i:Int)+1) (by omega)]) (λout rec=>by
  show j1T _ _ _ _ _ _=_
  unfold j1T
  dsimp only
  rw [Z9p,cond_false])
theorem jgs (l:List C) (hl:l.length<=8) (h:∀ c∈l,j0U c=true) (b:List Int) (hb:b.length<=10000) (k:List Int->Res):j2o l (nI l.length) Z12 b 0 k=k (b++l.flatMap byC):=by
 have hc:∀ c∈l,(byC c).length<=44:=λc hc=>ja1 (h c hc)
 unfold j2o
 refine Z8x l (λi out=>(out,i)) byC 11000 b (step:=j3e l (nI l.length)) k k (by unfold LIM;omega) (λi hi _=>j7M byC 44 l b 11000 hc hl (by omega) (i+1)) (by omega) (λi out rec hi ho hB=>by
  show j0W _ _ _ _ _ _=_
  unfold j0W
  have hcb:=h _ (List.getElem_mem hi)
  obtain ⟨h1,h2,h3⟩:=j3v hcb
  have hw:=j0O (.inl h1)
  have e1:((((out++byW l[i].1)++[l[i].2.1])++[bI l[i].2.2.1])++[bI l[i].2.2.2.1])++wB l[i].2.2.2.2=out++byC l[i]:=by
   unfold byC
   simp only [List.append_assoc,List.cons_append,List.nil_append]
  have l1:(out++byW l[i].1).length<=11009:=by rw [List.length_append];omega
  have l2:((out++byW l[i].1)++[l[i].2.1]).length<=11010:=by rw [List.length_append,List.length_singleton];omega
  have l3:(((out++byW l[i].1)++[l[i].2.1])++[bI l[i].2.2.1]).length<=11011:=by rw [List.length_append,List.length_singleton];omega
  have l4:((((out++byW l[i].1)++[l[i].2.1])++[bI l[i].2.2.1])++[bI l[i].2.2.2.1]).length<=11012:=by rw [List.length_append,List.length_singleton];omega
  dsimp only
  rw [Z9q hi,cond_true,j08 hi,cond_true,Z9a _ _ _ hi,ja2 _ (by omega) _ (.inl h1),j2c _ (by omega) _ (by omega),jbK _ (by omega),jbK _ (by omega),jdP _ (by omega) _ h3,e1,j03 (n:=(i:Int)+1) (by omega)]) (λout rec=>by
  show j0W _ _ _ _ _ _=_
  unfold j0W
  dsimp only
  rw [Z9p,cond_false])
theorem jgB (l:List ByteArray) (hl:l.length<=8) (h:∀ c∈l,j0c c=true) (b:List Int) (hb:b.length<=20000) (k:List Int->Res):j4p l (nI l.length) Z12 b 0 k=k (b++l.flatMap byW):=by
 have hc:∀ c∈l,(byW c).length<=9:=λc hc=>j0O (.inl (h c hc))
 unfold j4p
 refine Z8x l (λi out=>(out,i)) byW 21000 b (step:=j6M l (nI l.length)) k k (by unfold LIM;omega) (λi hi _=>j7M byW 9 l b 21000 hc hl (by omega) (i+1)) (by omega) (λi out rec hi ho hB=>by
  show j36 _ _ _ _ _ _=_
  unfold j36
  dsimp only
  rw [Z9q hi,cond_true,j08 hi,cond_true,Z9a _ _ _ hi,ja8 _ (by omega) _ (.inl (h _ (List.getElem_mem hi))),j03 (n:=(i:Int)+1) (by omega)]) (λout rec=>by
  show j36 _ _ _ _ _ _=_
  unfold j36
  dsimp only
  rw [Z9p,cond_false])
theorem jgt (l:List ByteArray) (hl:l.length<=8) (h:∀ c∈l,j0c c=true) (b:List Int) (hb:b.length<=20000) (k:List Int->Res):j1o b l k=k (b++(nI l.length::l.flatMap byW)):=by
 have hc:∀ c∈l,(byW c).length<=9:=λc hc=>j0O (.inl (h c hc))
 unfold j1o j4M
 rw [j2c _ (by omega) _ (by unfold nI;omega)]
 have hb1:(b++[nI l.length]).length<=20001:=by rw [List.length_append,List.length_singleton];omega
 refine (Z8x l (λi out=>(out,i)) byW 21000 (b++[nI l.length]) (step:=j56 l (nI l.length)) (λb1=>k b1) (λb1=>k b1) (by unfold LIM;omega) (λi hi _=>j7M byW 9 l (b++[nI l.length]) 21000 hc hl (by omega) (i+1)) (by omega) (λi out rec hi ho hB=>by
  show j0G _ _ _ _ _ _=_
  unfold j0G
  dsimp only
  rw [Z9q hi,cond_true,j08 hi,cond_true,Z9a _ _ _ hi,ja2 _ (by omega) _ (.inl (h _ (List.getElem_mem hi))),j03 (n:=(i:Int)+1) (by omega)]) (λout rec=>by
  show j0G _ _ _ _ _ _=_
  unfold j0G
  dsimp only
  rw [Z9p,cond_false])).trans ?_
 rw [List.append_assoc]
 rfl
theorem jbL (l:List V) (hl:l.length<=8) (hav:∀ v∈l,j0j v=true) (b:List Int) (hb:b.length<=20000) (k:List Int->Res):j5k b l k=k (b++j1i l):=by
 have hc:∀ v∈l,(wB v).length<=32:=λv hv=>jab (hav v hv)
 unfold j5k j72
 rw [j2c _ (by omega) _ (by unfold nI;omega)]
 have hb1:(b++[nI l.length]).length<=20001:=by rw [List.length_append,List.length_singleton];omega
 refine (Z8x l (λi out=>(out,i)) wB 21000 (b++[nI l.length]) (step:=j7Q l (nI l.length)) (λb1=>k b1) (λb1=>k b1) (by unfold LIM;omega) (λi hi _=>j7M wB 32 l (b++[nI l.length]) 21000 hc hl (by omega) (i+1)) (by omega) (λi out rec hi ho hB=>by
  show j4c _ _ _ _ _ _=_
  unfold j4c
  dsimp only
  rw [Z9q hi,cond_true,j08 hi,cond_true,Z9a _ _ _ hi,jdP _ (by omega) _ (hav _ (List.getElem_mem hi)),j03 (n:=(i:Int)+1) (by omega)]) (λout rec=>by
  show j4c _ _ _ _ _ _=_
  unfold j4c
  dsimp only
  rw [Z9p,cond_false])).trans ?_
 rw [List.append_assoc]
 rfl
theorem jdV (s:ST) (hs:j9T s) (k:List Int->Bool->Res):j0E s k=bif stB s then k (byS s) true else k [] false:=by
 unfold j0E
 rw [jdW s hs]
 cases hb:stB s
 ·rfl
 ·rw [Bool.not_true,cond_false,cond_true]
  obtain ⟨h1,h2,h3,h4,h5⟩:=j5v hb
  have w1:=j0O (.inl h1)
  have r3:=j7W h3
  have r4:=j7W h4
  have o3:jbl s.2.2.1=true:=by unfold jbl;rw [decide_eq_true h3.1,Bool.true_and,List.all_eq_true];exact h3.2
  have o4:jbl s.2.2.2.1=true:=by unfold jbl;rw [decide_eq_true h4.1,Bool.true_and,List.all_eq_true];exact h4.2
  have l1:([83,s.1]++byW s.2.1).length<=11:=by simp only [List.length_append,List.length_cons,List.length_nil];omega
  have l2:(([83,s.1]++byW s.2.1)++j1i s.2.2.1).length<=268:=by rw [List.length_append];omega
  have l3:((([83,s.1]++byW s.2.1)++j1i s.2.2.1)++j1i s.2.2.2.1).length<=525:=by rw [List.length_append];omega
  rw [j0F (by omega),ja8 _ (by simp) _ (.inl h1),jdU _ (by omega),o3,cond_true,jdU _ (by omega),o4,cond_true,Z9l (by unfold LIM;omega),cond_true,Z9l (by unfold LIM;omega),cond_true]
  have e0:(([83,s.1]++byW s.2.1)++j1i s.2.2.1)++j1i s.2.2.2.1=(83::s.1::byW s.2.1)++(j1i s.2.2.1++j1i s.2.2.2.1):=by rw [List.append_assoc];rfl
  unfold byS
  rw [<-e0]
  cases hk:s.1==5
  ·rw [cond_false,cond_false,List.append_nil]
  ·rw [cond_true,cond_true]
   rcases h5 with h5 | h5
   rotate_left
   ·exact absurd (by simpa using hk) h5.1
   obtain ⟨a1,a2,a3,a4,a5,a6,a7⟩:=j7L h5.2.1
   generalize (([83,s.1]++byW s.2.1)++j1i s.2.2.1)++j1i s.2.2.2.1=b at l3
   unfold j6k
   have c1:=j1Y byC 44 s.2.2.2.2.2.2.1 λc hc=>ja1 (a3 c hc)
   have c2:=j1Y byW 9 s.2.2.2.2.2.2.2.1 λc hc=>j0O (.inl (a5 c hc))
   have c6:=j0O a6
   rw [Z9l (by unfold LIM;omega),cond_true,j0F (n:=s.2.2.2.2.1) (by omega),j0F (n:=nI s.2.2.2.2.2.2.1.length) (by unfold nI;omega),jgA _ a2 a3 _ (by simp only [List.length_append,List.length_cons,List.length_nil];omega),Z9l (by simp only [List.length_append,List.length_cons,List.length_nil];unfold LIM;omega),cond_true,j0F (n:=nI s.2.2.2.2.2.2.2.1.length) (by unfold nI;omega),jgB _ a4 a5 _ (by simp only [List.length_append,List.length_cons,List.length_nil];omega),ja8 _ (by simp only [List.length_append,List.length_cons,List.length_nil];omega) _ a6,ja8 _ (by simp only [List.length_append,List.length_cons,List.length_nil];omega) _ a7]
   unfold byD
   simp only [List.append_assoc,List.cons_append,List.nil_append]
theorem jdN (s:ST) (hs:j9T s) (k:List Int->Bool->Res):j0p s k=bif stB s then k (byS s) true else k [] false:=by
 unfold j0p
 rw [jdO s hs]
 cases hb:stB s
 ·rfl
 ·rw [Bool.not_true,cond_false,cond_true]
  obtain ⟨h1,h2,h3,h4,h5⟩:=j5v hb
  have w1:=j0O (.inl h1)
  have r3:=j7W h3
  have r4:=j7W h4
  have l1:([83,s.1]++byW s.2.1).length<=11:=by simp only [List.length_append,List.length_cons,List.length_nil];omega
  have l2:(([83,s.1]++byW s.2.1)++j1i s.2.2.1).length<=268:=by rw [List.length_append];omega
  have l3:((([83,s.1]++byW s.2.1)++j1i s.2.2.1)++j1i s.2.2.2.1).length<=525:=by rw [List.length_append];omega
  rw [j0F (by omega),ja2 _ (by simp) _ (.inl h1),jbL _ h3.1 h3.2 _ (by omega),jbL _ h4.1 h4.2 _ (by omega)]
  have e0:(([83,s.1]++byW s.2.1)++j1i s.2.2.1)++j1i s.2.2.2.1=(83::s.1::byW s.2.1)++(j1i s.2.2.1++j1i s.2.2.2.1):=by rw [List.append_assoc];rfl
  unfold byS
  rw [<-e0,show (s.1 != 5)= !(s.1==5) from rfl]
  cases hk:s.1==5
  ·rw [Bool.not_false,cond_true,cond_false,List.append_nil]
  ·rw [Bool.not_true,cond_false,cond_true]
   rcases h5 with h5 | h5
   rotate_left
   ·exact absurd (by simpa using hk) h5.1
   obtain ⟨a1,a2,a3,a4,a5,a6,a7⟩:=j7L h5.2.1
   generalize (([83,s.1]++byW s.2.1)++j1i s.2.2.1)++j1i s.2.2.2.1=b at l3
   have c1:=j1Y byC 44 s.2.2.2.2.2.2.1 λc hc=>ja1 (a3 c hc)
   have c2:=j1Y byW 9 s.2.2.2.2.2.2.2.1 λc hc=>j0O (.inl (a5 c hc))
   have c6:=j0O a6
   rw [j2c _ (by omega) _ (by omega),j2c _ (by simp only [List.length_append,List.length_cons,List.length_nil];omega) _ (by unfold nI;omega),jgs _ a2 a3 _ (by simp only [List.length_append,List.length_cons,List.length_nil];omega),jgt _ a4 a5 _ (by simp only [List.length_append,List.length_cons,List.length_nil];omega),ja2 _ (by simp only [List.length_append,List.length_cons,List.length_nil];omega) _ a6,ja2 _ (by simp only [List.length_append,List.length_cons,List.length_nil];omega) _ a7]
   unfold byD
   simp only [List.append_assoc,List.cons_append,List.nil_append]
end Go.PI.G
namespace Go.PI.G
open Go Go.PI
def Rd {σ α:Type} (b:List Int) (S:Nat->Bool->σ) (N g:Nat) (act:σ->(α->σ->Res)->Res) (R ok:α->Prop) (f:α->List Int):Prop:=
 ∀ (at_:Nat) (bad:Bool),at_<=N->∃ (x:α) (at':Nat) (bad':Bool),R x/\at'<=at_+g/\(∀ k,act (S at_ bad) k=k x (S at' bad')) /\
  (bad=false->∀ y post,ok y->b.drop at_=f y++post->x=y/\bad'=false/\b.drop at'=post)
theorem j6W {σ α β:Type} {b:List Int} {S:Nat->Bool->σ} {N N1 N2 g1 g2:Nat} {a1:σ->(α->σ->Res)->Res} {a2:σ->(β->σ->Res)->Res} {R1 ok1:α->Prop} {R2 ok2:β->Prop} {f1:α->List Int} {f2:β->List Int}
  (h1:Rd b S N1 g1 a1 R1 ok1 f1) (h2:Rd b S N2 g2 a2 R2 ok2 f2) (hN:N<=N1/\N+g1<=N2) :
  Rd b S N (g1+g2) (λe (k:α×β->σ->Res)=>a1 e λx e1=>a2 e1 λy e2=>k (x,y) e2) (λp=>R1 p.1/\R2 p.2) (λp=>ok1 p.1/\ok2 p.2) (λp=>f1 p.1++f2 p.2):=by
 intro at_ bad ha
 obtain ⟨x,u1,v1,r1,p1,q1,z1⟩:=h1 at_ bad (by omega)
 obtain ⟨y,u2,v2,r2,p2,q2,z2⟩:=h2 u1 v1 (by omega)
 refine ⟨(x,y),u2,v2,⟨r1,r2⟩,by omega,λk=> ?_,λhb p post ho hd=> ?_⟩
 ·show a1 (S at_ bad) (λx e1=>a2 e1 λy e2=>k (x,y) e2)=_
  rw [q1,q2]
 ·obtain ⟨px,py⟩:=p
  dsimp only at ho hd
  rw [List.append_assoc] at hd
  obtain ⟨e1,e2,e3⟩:=z1 hb px _ ho.1 hd
  obtain ⟨e4,e5,e6⟩:=z2 e2 py _ ho.2 e3
  exact ⟨by rw [e1,e4],e5,e6⟩
theorem jgb {σ α β:Type} {b:List Int} {S:Nat->Bool->σ} {N g:Nat} {a1:σ->(α->σ->Res)->Res} {R1 ok1:α->Prop} {f1:α->List Int} (h:Rd b S N g a1 R1 ok1 f1) (φ:α->β) (ψ:β->α) {R ok:β->Prop} {f:β->List Int}
  (hR:∀ x,R1 x->R (φ x)) (ho:∀ y,ok y->ok1 (ψ y)/\φ (ψ y)=y/\f y=f1 (ψ y)):Rd b S N g (λe (k:β->σ->Res)=>a1 e λx e1=>k (φ x) e1) R ok f:=by
 intro at_ bad ha
 obtain ⟨x,u1,v1,r1,p1,q1,z1⟩:=h at_ bad ha
 refine ⟨φ x,u1,v1,hR x r1,p1,λk=>q1 _,λhb y post hy hd=> ?_⟩
 obtain ⟨o1,o2,o3⟩:=ho y hy
 rw [o3] at hd
 obtain ⟨e1,e2,e3⟩:=z1 hb _ _ o1 hd
 exact ⟨by rw [e1,o2],e2,e3⟩
theorem jfF {σ α:Type} {b:List Int} {S:Nat->Bool->σ} {N N' g g':Nat} {a:σ->(α->σ->Res)->Res} {R ok:α->Prop} {f:α->List Int} (h:Rd b S N g a R ok f) (hN:N'<=N) (hg:g<=g'):Rd b S N' g' a R ok f:=λat_ bad ha=>by
 obtain ⟨x,u,v,r,p,q,z⟩:=h at_ bad (by omega)
 exact ⟨x,u,v,r,by omega,q,z⟩
theorem jh2 {σ α V K:Type} {b:List Int} {S:Nat->Bool->σ} {N g:Nat} {act:σ->(α->σ->Res)->Res} {R ok:α->Prop} {f:α->List Int} (h:Rd b S N g act R ok f)
  (st:Int->List α->σ->V) (step:V->(V->Res)->K->Res) (fin:K->List α->σ->Res) (cond:Nat->Bool) (h9:cond 9=false)
  (hs:∀ (i:Nat) out e rec q,i<=8->out.length=i->cond i=true->step (st (i:Int) out e) rec q=act e λx e'=>rec (st ((i+1:Nat):Int) (out++[x]) e'))
  (he:∀ (i:Nat) out e rec q,i<=9->cond i=false->step (st (i:Int) out e) rec q=fin q out e) :
  ∀ (d i m:Nat) (out:List α) (at_:Nat) (bad:Bool),i+d=9->d<m->out.length=i->(∀ x∈out,R x)->at_+d * g<=N->∃ (r:List α) (at':Nat) (bad':Bool),(r.length<=9/\∀ x∈r,R x)/\at'<=at_+d * g /\
   (∀ q,Z14 step m (st (i:Int) out (S at_ bad)) q=fin q r (S at' bad')) /\
   (bad=false->∀ ws post,(∀ w∈ws,ok w)->(∀ j,i<=j->j<i+ws.length->cond j=true)->cond (i+ws.length)=false->b.drop at_=ws.flatMap f++post->r=out++ws/\bad'=false/\b.drop at'=post):=by
 intro d
 induction d with
 | zero=>
  intro i m out at_ bad hi hm ho hR ha
  obtain ⟨m,rfl⟩:∃ e,m=e+1:=⟨m-1,by omega⟩
  have hi9:i=9:=by omega
  subst hi9
  refine ⟨out,at_,bad,⟨by omega,hR⟩,by omega,λq=>by rw [Z8C,he 9 _ _ _ _ (by omega) h9],λhb ws post hw hc hn hd=> ?_⟩
  cases ws with
  | nil=>exact ⟨by simp,hb,by simpa using hd⟩
  | cons w ws=>
   have:=hc 9 (by omega) (by rw [List.length_cons];omega)
   rw [h9] at this;cases this
 | succ d ih=>
  intro i m out at_ bad hi hm ho hR ha
  obtain ⟨m,rfl⟩:∃ e,m=e+1:=⟨m-1,by omega⟩
  rw [Nat.succ_mul] at ha ⊢
  cases hc:cond i
  ·refine ⟨out,at_,bad,⟨by omega,hR⟩,by omega,λq=>by rw [Z8C,he i _ _ _ _ (by omega) hc],λhb ws post hw hcc hn hd=> ?_⟩
   cases ws with
   | nil=>exact ⟨by simp,hb,by simpa using hd⟩
   | cons w ws=>
    have:=hcc i (by omega) (by rw [List.length_cons];omega)
    rw [hc] at this;cases this
  ·obtain ⟨x,u1,v1,r1,p1,q1,z1⟩:=h at_ bad (by omega)
   obtain ⟨r,u2,v2,r2,p2,q2,z2⟩:=ih (i+1) m (out++[x]) u1 v1 (by omega) (by omega) (by rw [List.length_append,List.length_singleton,ho]) (λy hy=>by
    rcases List.mem_append.1 hy with hy | hy
    ·exact hR y hy
    ·rw [List.mem_singleton.1 hy];exact r1) (by omega)
   refine ⟨r,u2,v2,r2,by omega,λq=> ?_,λhb ws post hw hcc hn hd=> ?_⟩
   ·rw [Z8C,hs i _ _ _ _ (by omega) ho hc,q1]
    exact q2 q
   ·cases ws with
    | nil=>rw [List.length_nil,Nat.add_zero,hc] at hn;cases hn
    | cons w ws=>
     rw [List.flatMap_cons,List.append_assoc] at hd
     obtain ⟨e1,e2,e3⟩:=z1 hb w _ (hw w (by simp)) hd
     rw [List.length_cons] at hcc hn
     obtain ⟨e4,e5,e6⟩:=z2 e2 ws post (λy hy=>hw y (List.mem_cons_of_mem _ hy)) (λj h1 h2=>hcc j (by omega) (by omega)) (by rw [show i+1+ws.length=i+(ws.length+1) by omega];exact hn) e3
     exact ⟨by rw [e4,e1,List.append_assoc];rfl,e5,e6⟩
theorem j7V {σ α V K:Type} {b:List Int} {S:Nat->Bool->σ} {N N' gn g:Nat} {num:σ->(Int->σ->Res)->Res} {RN:Int->Prop} {act:σ->(α->σ->Res)->Res} {R ok:α->Prop} {f:α->List Int}
  (hn:Rd b S N' gn num RN (λn=>0<=n/\n<=8) (λn=>[n])) (h:Rd b S N' g act R ok f) (hN:N+gn+9 * g<=N')
  (st:Int->List α->σ->V) (step:Int->V->(V->Res)->K->Res) (fin:K->List α->σ->Res) (cond:Int->Nat->Bool)
  (h9:∀ n,RN n->cond n 9=false) (hc:∀ (n:Int) (i:Nat),0<=n->n<=8->i<=8->cond n i=decide ((i:Int)<n))
  (hs:∀ n (i:Nat) out e rec q,i<=8->out.length=i->cond n i=true->step n (st (i:Int) out e) rec q=act e λx e'=>rec (st ((i+1:Nat):Int) (out++[x]) e'))
  (he:∀ n (i:Nat) out e rec q,i<=9->cond n i=false->step n (st (i:Int) out e) rec q=fin q out e) (at_:Nat) (bad:Bool) (ha:at_<=N) :
  ∃ (l:List α) (at':Nat) (bad':Bool),(l.length<=9/\∀ x∈l,R x)/\at'<=at_+(gn+9 * g)/\(∀ q:K,num (S at_ bad) (λn e1=>Z14 (step n) Z12 (st 0 [] e1) q)=fin q l (S at' bad')) /\
   (bad=false->∀ y post,(y.length<=8/\∀ x∈y,ok x)->b.drop at_=(nI y.length::y.flatMap f)++post->l=y/\bad'=false/\b.drop at'=post):=by
 obtain ⟨n,u1,v1,r1,p1,q1,z1⟩:=hn at_ bad (by omega)
 obtain ⟨r,u2,v2,r2,p2,q2,z2⟩:=jh2 h st (step n) fin (cond n) (h9 n r1) (hs n) (he n) 9 0 Z12 [] u1 v1 (by omega) (Z1U (by omega)) rfl (λx hx=>by cases hx) (by omega)
 refine ⟨r,u2,v2,r2,by omega,λq=> ?_,λhb l post hl hd=> ?_⟩
 ·rw [q1]
  exact q2 q
 ·have hl1:nI l.length<=8:=by unfold nI;omega
  have hl0:0<=nI l.length:=by unfold nI;omega
  obtain ⟨e1,e2,e3⟩:=z1 hb (nI l.length) (l.flatMap f++post) ⟨hl0,hl1⟩ hd
  subst e1
  have:=z2 e2 l post hl.2 (λj h1 h2=>by
   rw [hc _ _ hl0 hl1 (by omega)]
   exact decide_eq_true (by unfold nI;omega)) (by
   rw [hc _ _ hl0 hl1 (by omega)]
   exact decide_eq_false (by unfold nI;omega)) e3
  rw [List.nil_append] at this
  exact this
end Go.PI.G
namespace Go.PI.G
open Go Go.PI Go.Proofs
def sS (b:List Int) (at_:Nat) (_:Bool):List Int×Int:=(b,(at_:Int))
def iS (b:List Int) (at_:Nat) (bad:Bool):List Int×Int×Bool:=(b,(at_:Int),bad)
theorem jeL {l:List Int} (h:isB l):(Z34 l).size=l.length:=by rw [<-j0x,j5d h]
def okS (s:ByteArray):Prop:=s.size<=30
def okC (c:C):Prop:=j0U c=true
def rgC (c:C):Prop:=c.1.size<=1048576
def rgS (s:ByteArray):Prop:=s.size<=1048576
def rgB (x:Int):Prop:=0<=x/\x<256
def okV (v:V):Prop:=j0j v=true
def Z9t (x:Int):List Int:=[x]
def rgA (α:Type) (_:α):Prop:=True
theorem rB (b:List Int) (hb:isB b) (hl:b.length<=1048576):Rd b (sS b) 900000000000 1 (λe k=>j01 1 e k) rgB (rgA Int) Z9t:=by
 intro at_ bad ha
 exact ⟨tk b at_ 1,at_+1,bad,jao hb at_,by omega,λk=>j9d b hb hl at_ (by omega) k,λhbad y post _ hd=>⟨(j6m hd).2.1,hbad,(j6m hd).2.2⟩⟩
theorem jge (b:List Int) (hb:isB b) (hl:b.length<=1048576) (at_ m:Nat) (ha:at_<=1000000000000) (hm:m<70000):∃ (s:ByteArray) (at':Nat),s.size<=1048576/\at'<=at_+1050000/\(∀ k,j02 (m:Int) (b,(at_:Int)) k=k s (b,(at':Int)))/\∀ (x:List Int) post,x.length=m->at_<=b.length->b.drop at_=x++post->s=Z34 x/\b.drop at'=post:=by
 obtain ⟨s,u,p1,p2,p3⟩:=jgO b hb hl at_ m ha hm
 by_cases h:at_+m<=b.length
 ·refine ⟨s,u,?_,p1,p2,p3⟩
  have hd:b.drop at_=seg b at_ m++b.drop (at_+m):=by
   unfold seg
   rw [<-List.drop_drop,List.take_append_drop]
  have hs:=j5P h
  rw [(p3 _ _ hs (by omega) hd).1,jeL (j4W hb _ _),hs]
  omega
 ·refine ⟨eS,b.length+1,by show (0:Nat)<=_;omega,by omega,λk=> ?_,λx post hx hle hd=> ?_⟩
  ·unfold j02 j3T
   dsimp only
   rw [j03 (n:=nI b.length-(at_:Int)) (by unfold nI;omega),decide_eq_true (show (m:Int)>nI b.length-(at_:Int) by unfold nI;omega),cond_true,cond_true,j03 (by unfold nI;omega)]
   rfl
  ·have hl:=congrArg List.length hd
   rw [List.length_drop,List.length_append] at hl
   omega
theorem rW (b:List Int) (hb:isB b) (hl:b.length<=1048576):Rd b (sS b) 900000000000 1050010 (λe k=>j01 1 e λr e'=>j02 r e' k) rgS okS byW:=by
 intro at_ bad ha
 have hr:=jao hb at_
 obtain ⟨m,hm⟩:∃ m:Nat,tk b at_ 1=(m:Int):=⟨(tk b at_ 1).toNat,by omega⟩
 obtain ⟨s,u,p0,p1,p2,p3⟩:=jge b hb hl (at_+1) m (by omega) (by omega)
 refine ⟨s,u,bad,p0,by omega,λk=> ?_,λhbad y post hy hd=> ?_⟩
 ·show j01 1 (b,(at_:Int)) (λr e'=>j02 r e' k)=_
  rw [j9d b hb hl at_ (by omega),hm,p2]
  rfl
 ·obtain ⟨f0,f1,f2⟩:=j6m (x:=nI y.size) (post:=Z1e y++post) hd
  have:=p3 (Z1e y) post (by rw [j0x];rw [hm] at f1;unfold nI at f1;omega) (by omega) f2
  rw [j7b] at this
  exact ⟨this.1,hbad,this.2⟩
theorem rV (b:List Int) (hb:isB b) (hl:b.length<=1048576):Rd b (sS b) 900000000000 1050010 (λe k=>j1k e k) (rgA V) okV wB:=by
 intro at_ bad ha
 obtain ⟨v,u,p1,p2,p3⟩:=jho b hb hl at_ (by omega)
 exact ⟨v,u,bad,trivial,p1,λk=>p2 k,λhbad y post hy hd=>⟨(p3 y post hy hd).1,hbad,(p3 y post hy hd).2⟩⟩
theorem jfE (b:List Int) (hb:isB b) (hl:b.length<=1048576):Rd b (sS b) 900000000000 1 (λe k=>j01 1 e k) (rgA Int) (λn=>0<=n/\n<=8) (λn=>[n]):=by
 intro at_ bad ha
 exact ⟨tk b at_ 1,at_+1,bad,trivial,by omega,λk=>j9d b hb hl at_ (by omega) k,λhbad y post _ hd=>⟨(j6m hd).2.1,hbad,(j6m hd).2.2⟩⟩
theorem jhl (b:List Int) (hb:isB b) (hl:b.length<=1048576):Rd b (sS b) 890000000000 2100023 (λe k=>j01 1 e λr e1=>j02 r e1 λr1 e2=>j01 1 e2 λr2 e3=>j01 1 e3 λr3 e4=>j01 1 e4 λr4 e5=>j1k e5 λr5 e6=>k (r1,r2,(r3==1),(r4==1),r5) e6) rgC okC byC:=
 jgb (j6W (N:=890000000000) (rW b hb hl) (j6W (N:=895000000000) (rB b hb hl) (j6W (N:=896000000000) (rB b hb hl) (j6W (N:=897000000000) (rB b hb hl) (rV b hb hl) (by omega)) (by omega)) (by omega)) (by omega))
  (λp=>(p.1,p.2.1,(p.2.2.1==1),(p.2.2.2.1==1),p.2.2.2.2)) (λc:C=>(c.1,c.2.1,bI c.2.2.1,bI c.2.2.2.1,c.2.2.2.2)) (λx hx=>hx.1) (λc hc=>by
   obtain ⟨h1,h2,h3⟩:=j3v hc
   refine ⟨⟨?_,trivial,trivial,trivial,h3⟩,?_,rfl⟩
   ·have:=(j0S h1).2
    show c.1.size<=30
    omega
   ·show (c.1,c.2.1,(bI c.2.2.1==1),(bI c.2.2.2.1==1),c.2.2.2.2)=c
    rw [jcF,jcF])
def cS (n:Int) (i:Nat):Bool:=decide ((i:Int)<n)&&decide (i<=8)
theorem jfo (n:Int):cS n 9=false:=by unfold cS;simp
theorem jer (n:Int) (i:Nat) (h:i<=8):cS n i=decide ((i:Int)<n):=by unfold cS;rw [decide_eq_true h,Bool.and_true]
theorem jfq {n:Int} {i:Nat} (h:cS n i=true):(i:Int)<n/\i<=8:=by
 unfold cS at h
 rw [Bool.and_eq_true,decide_eq_true_eq,decide_eq_true_eq] at h
 exact h
theorem jfp {n:Int} {i:Nat} (h:cS n i=false) (a:Res) (z:Res):(bif decide ((i:Int)<n) then (bif decide ((i:Int)<=8) then a else z) else z)=z:=by
 unfold cS at h
 by_cases h1:(i:Int)<n
 ·rw [decide_eq_true h1,Bool.true_and,decide_eq_false_iff_not] at h
  rw [decide_eq_true h1,cond_true,decide_eq_false (show ¬ (i:Int)<=8 by omega),cond_false]
 ·rw [decide_eq_false h1,cond_false]
theorem jgN (b:List Int) (hb:isB b) (hl:b.length<=1048576):Rd b (sS b) 880000000000 (1+9 * 1050010) (λe k=>j4q e k) (λl=>l.length<=9) (λl=>l.length<=8/\∀ v∈l,okV v) j1i:=by
 intro at_ bad ha
 obtain ⟨l,u,v,p1,p2,p3,p4⟩:=j7V (N:=880000000000) (jfE b hb hl) (rV b hb hl) (by omega) (λi out e=>(out,i,e)) (λn=>j65 n) (λ(k:List V->(List Int×Int)->Res) out e=>k out e) cS (λn _=>jfo n) (λn i _ _ h=>jer n i h)
  (λn i out e rec q hi ho hc=>by
   have h:=jfq hc
   show j2C n out (i:Int) e (λout i e0=>rec (out,i,e0)) q=_
   unfold j2C
   rw [decide_eq_true h.1,cond_true,decide_eq_true (show (i:Int)<=8 by omega),cond_true,Z9l (by unfold LIM;omega),j03 (n:=(i:Int)+1) (by omega)]
   rfl)
  (λn i out e rec q hi hc=>by
   show j2C n out (i:Int) e (λout i e0=>rec (out,i,e0)) q=_
   unfold j2C
   exact jfp hc _ _) at_ bad ha
 exact ⟨l,u,v,p1.1,p2,λk=>p3 k,p4⟩
theorem jhg (b:List Int) (hb:isB b) (hl:b.length<=1048576) (r:Int) (t:ByteArray) (at_:Nat) (bad:Bool) (ha:at_<=870000000000):∃ (l:List C) (at':Nat) (bad':Bool),(l.length<=9/\∀ c∈l,rgC c)/\at'<=at_+(1+9 * 2100023) /\
  (∀ q:D->(List Int×Int)->Res,j01 1 (b,(at_:Int)) (λn e1=>j3Q n Z12 0 (r,t,[],[],eS,eS) e1 q)=q (r,t,l,[],eS,eS) (b,(at':Int))) /\
  (bad=false->∀ y post,(y.length<=8/\∀ c∈y,okC c)->b.drop at_=(nI y.length::y.flatMap byC)++post->l=y/\bad'=false/\b.drop at'=post):=by
 obtain ⟨l,u,v,p1,p2,p3,p4⟩:=j7V (N:=870000000000) (jfF (jfE b hb hl) (by omega) (Nat.le_refl _)) (jhl b hb hl) (by omega) (λi out e=>(i,((r,t,out,[],eS,eS):D),e)) (λn=>j2J n) (λ(q:D->(List Int×Int)->Res) out e=>q (r,t,out,[],eS,eS) e) cS (λn _=>jfo n) (λn i _ _ h=>jer n i h)
  (λn i out e rec q hi ho hc=>by
   have h:=jfq hc
   show j0Q n (i:Int) (r,t,out,[],eS,eS) e (λi d e0=>rec (i,d,e0)) q=_
   unfold j0Q
   dsimp only
   rw [decide_eq_true h.1,cond_true,decide_eq_true (show (i:Int)<=8 by omega),cond_true,Z9l (by unfold LIM;omega),j03 (n:=(i:Int)+1) (by omega)]
   rfl)
  (λn i out e rec q hi hc=>by
   show j0Q n (i:Int) (r,t,out,[],eS,eS) e (λi d e0=>rec (i,d,e0)) q=_
   unfold j0Q
   exact jfp hc _ _) at_ bad ha
 exact ⟨l,u,v,p1,p2,λq=>p3 q,p4⟩
theorem jhh (b:List Int) (hb:isB b) (hl:b.length<=1048576) (r:Int) (t:ByteArray) (cs:List C) (at_:Nat) (bad:Bool) (ha:at_<=890000000000):∃ (l:List ByteArray) (at':Nat) (bad':Bool),(l.length<=9/\∀ c∈l,rgS c)/\at'<=at_+(1+9 * 1050010) /\
  (∀ q:D->(List Int×Int)->Res,j01 1 (b,(at_:Int)) (λn e1=>j3R n Z12 0 (r,t,cs,[],eS,eS) e1 q)=q (r,t,cs,l,eS,eS) (b,(at':Int))) /\
  (bad=false->∀ y post,(y.length<=8/\∀ c∈y,okS c)->b.drop at_=(nI y.length::y.flatMap byW)++post->l=y/\bad'=false/\b.drop at'=post):=by
 obtain ⟨l,u,v,p1,p2,p3,p4⟩:=j7V (N:=890000000000) (jfE b hb hl) (rW b hb hl) (by omega) (λi out e=>(i,((r,t,cs,out,eS,eS):D),e)) (λn=>j4D n) (λ(q:D->(List Int×Int)->Res) out e=>q (r,t,cs,out,eS,eS) e) cS (λn _=>jfo n) (λn i _ _ h=>jer n i h)
  (λn i out e rec q hi ho hc=>by
   have h:=jfq hc
   show j1r n (i:Int) (r,t,cs,out,eS,eS) e (λi d e0=>rec (i,d,e0)) q=_
   unfold j1r j3S
   simp only [Z8u]
   rw [decide_eq_true h.1,cond_true,decide_eq_true (show (i:Int)<=8 by omega),cond_true,Z9l (by unfold LIM;omega),j03 (n:=(i:Int)+1) (by omega)]
   rfl)
  (λn i out e rec q hi hc=>by
   show j1r n (i:Int) (r,t,cs,out,eS,eS) e (λi d e0=>rec (i,d,e0)) q=_
   unfold j1r
   exact jfp hc _ _) at_ bad ha
 exact ⟨l,u,v,p1,p2,λq=>p3 q,p4⟩
theorem j4x {s:ByteArray} (h:j0c s=true\/s=eS):okS s:=by
 have:=j8e h
 unfold okS
 omega
theorem jdF (d:D) (post:List Int):byD d++post=Z9t d.1++((nI d.2.2.1.length::d.2.2.1.flatMap byC)++((nI d.2.2.2.1.length::d.2.2.2.1.flatMap byW)++(byW d.2.2.2.2.1++(byW d.2.2.2.2.2++post)))):=by
 unfold byD Z9t
 simp only [List.append_assoc,List.cons_append,List.nil_append]
theorem jfT {r:Int} {t n m:ByteArray} {cs:List C} {ks:List ByteArray} (ht:t.size<=1048576) (hc:cs.length<=9/\∀ c∈cs,rgC c) (hk:ks.length<=9/\∀ c∈ks,rgS c) (hn:rgS n) (hm:rgS m):dSm (r,t,cs,ks,n,m):=⟨ht,by dsimp only;omega,by dsimp only;omega,hc.2,hk.2,hn,hm⟩
theorem jhm (b:List Int) (hb:isB b) (hl:b.length<=1048576) (t:ByteArray) (ht:t.size<=1048576) (at_:Nat) (ha:at_<=800000000000):∃ (d:D) (at':Nat),dSm d/\(∀ k,j3P t (b,(at_:Int)) k=k d (b,(at':Int)))/\∀ y:D,j5h y=true->y.2.1=t->b.drop at_=byD y->d=y:=by
 obtain ⟨r,u1,v1,r1,p1,q1,z1⟩:=rB b hb hl at_ false (by omega)
 obtain ⟨cs,u2,v2,r2,p2,q2,z2⟩:=jhg b hb hl r t u1 v1 (by omega)
 obtain ⟨ks,u3,v3,r3,p3,q3,z3⟩:=jhh b hb hl r t cs u2 v2 (by omega)
 obtain ⟨n,u4,v4,r4,p4,q4,z4⟩:=rW b hb hl u3 v3 (by omega)
 obtain ⟨m,u5,v5,r5,p5,q5,z5⟩:=rW b hb hl u4 v4 (by omega)
 refine ⟨(r,t,cs,ks,n,m),u5,jfT ht r2 r3 r4 r5,λk=> ?_,λy hy hyt hd=> ?_⟩
 ·unfold j3P
  refine (q1 _).trans ?_
  refine (q2 _).trans ?_
  refine (q3 _).trans ?_
  refine (q4 _).trans ?_
  exact q5 _
 ·obtain ⟨a1,a2,a3,a4,a5,a6,a7⟩:=j7L hy
  have hd:=(hd.trans (List.append_nil _).symm).trans (jdF y [])
  obtain ⟨e1,f1,g1⟩:=z1 rfl y.1 _ trivial hd
  obtain ⟨e2,f2,g2⟩:=z2 f1 y.2.2.1 _ ⟨a2,a3⟩ g1
  obtain ⟨e3,f3,g3⟩:=z3 f2 y.2.2.2.1 _ ⟨a4,λc hc=>j4x (.inl (a5 c hc))⟩ g2
  obtain ⟨e4,f4,g4⟩:=z4 f3 y.2.2.2.2.1 _ (j4x a6) g3
  obtain ⟨e5,f5,g5⟩:=z5 f4 y.2.2.2.2.2 _ (j4x a7) g4
  rw [e1,e2,e3,e4,e5,<-hyt]
theorem jdG (s:ST) (post:List Int):byS s++post=Z9t 83++(Z9t s.1++(byW s.2.1++(j1i s.2.2.1++(j1i s.2.2.2.1++((bif s.1==5 then byD s.2.2.2.2 else [])++post))))):=by
 unfold byS Z9t
 simp only [List.append_assoc,List.cons_append,List.nil_append]
theorem jgm {s:ST} {b:List Int} (h:byS s=b):b.drop 1=Z9t s.1++(byW s.2.1++(j1i s.2.2.1++(j1i s.2.2.2.1++(bif s.1==5 then byD s.2.2.2.2 else [])))):=by
 have:=jdG s []
 rw [List.append_nil,List.append_nil] at this
 rw [<-h,this]
 rfl
theorem jfj (b:List Int) (hb:isB b) (hl:b.length<=1048576):∃ raw:ST,j9T raw/\(∀ k:ST->Bool->Res,j13 b k=j0E raw λr5 r6=>bif !r6 then k zST false else bif sNe (Z34 r5) (Z34 b) then k zST false else k raw true)/\∀ x,stB x=true->byS x=b->raw=x:=by
 obtain ⟨r,u1,v1,r1,p1,q1,z1⟩:=rB b hb hl 1 false (by omega)
 obtain ⟨t,u2,v2,r2,p2,q2,z2⟩:=rW b hb hl u1 v1 (by omega)
 obtain ⟨x,u3,v3,r3,p3,q3,z3⟩:=jgN b hb hl u2 v2 (by omega)
 obtain ⟨y,u4,v4,r4,p4,q4,z4⟩:=jgN b hb hl u3 v3 (by omega)
 obtain ⟨d,u5,r5,q5,z5⟩:=jhm b hb hl t r2 u4 (by omega)
 have hx:x.length<=1048576:=by omega
 have hy:y.length<=1048576:=by omega
 have hu:∀ k:ST->Bool->Res,j13 b k=j33 (r==5) (r,t,x,y,0,eS,[],[],eS,eS) (b,(u4:Int)) λ(s:ST)=>j0E s λr5 r6=>bif !r6 then k zST false else bif sNe (Z34 r5) (Z34 b) then k zST false else k s true:=λk=>by
  unfold j13
  refine (q1 _).trans ?_
  refine (q2 _).trans ?_
  refine (q3 _).trans ?_
  exact q4 _
 have back:∀ s,stB s=true->byS s=b->r=s.1/\t=s.2.1/\x=s.2.2.1/\y=s.2.2.2.1/\b.drop u4=(bif s.1==5 then byD s.2.2.2.2 else []):=λs hs he=>by
  obtain ⟨h1,h2,h3,h4,h5⟩:=j5v hs
  have hd:=jgm he
  obtain ⟨e1,f1,g1⟩:=z1 rfl s.1 _ trivial hd
  obtain ⟨e2,f2,g2⟩:=z2 f1 s.2.1 _ (j4x (.inl h1)) g1
  obtain ⟨e3,f3,g3⟩:=z3 f2 s.2.2.1 _ h3 g2
  obtain ⟨e4,f4,g4⟩:=z4 f3 s.2.2.2.1 _ h4 g3
  exact ⟨e1,e2,e3,e4,g4⟩
 cases hk:r==5
 ·refine ⟨(r,t,x,y,zD),⟨r2,hx,hy,jae⟩,λk=> ?_,λs hs he=> ?_⟩
  ·rw [hu,hk]
   rfl
  ·obtain ⟨e1,e2,e3,e4,e5⟩:=back s hs he
   obtain ⟨h1,h2,h3,h4,h5⟩:=j5v hs
   rcases h5 with h5 | h5
   ·rw [e1,h5.1] at hk;cases hk
   ·rw [e1,e2,e3,e4,<-h5.2]
 ·refine ⟨(r,t,x,y,d),⟨r2,hx,hy,r5⟩,λk=> ?_,λs hs he=> ?_⟩
  ·rw [hu,hk]
   unfold j33
   rw [cond_true]
   exact q5 _
  ·obtain ⟨e1,e2,e3,e4,e5⟩:=back s hs he
   obtain ⟨h1,h2,h3,h4,h5⟩:=j5v hs
   have hk5:s.1=5:=by rw [<-e1];simpa using hk
   rcases h5 with h5 | h5
   ·rw [show (s.1==5)=true by simp [hk5],cond_true] at e5
    have:=z5 s.2.2.2.2 h5.2.1 (by rw [h5.2.2,e2]) e5
    rw [e1,e2,e3,e4,this]
   ·exact absurd hk5 h5.1
end Go.PI.G
