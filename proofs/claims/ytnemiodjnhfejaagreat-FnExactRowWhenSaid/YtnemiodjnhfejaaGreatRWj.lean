/-
  Program's code interpreted over typed values; printed texts; plain laws. No conditions.
-/
import Derived.Test.YtnemiodjnhfejaaGreatRWi
import Derived.Test.YtnemiodjnhfejaaGreatRWg
set_option linter.unusedVariables false
namespace Go.PI.G
open Go Go.PI
def free (b:Int) (s:ByteArray):Prop:=b ∉ Z1n s
theorem jgP {s:ByteArray} (h:j0q s=true):1<=s.size/\s.size<=8:=by
 unfold j0q at h
 simp only [Bool.and_eq_true,decide_eq_true_eq] at h
 exact h.2
end Go.PI.G
namespace Go.PI.G
open Go Go.PI
abbrev D:=Int×ByteArray×List C×List ByteArray×ByteArray×ByteArray
abbrev ST:=Int×ByteArray×List V×List V×D
abbrev yD:Ty:= .pair (.int .i64) (.pair .str (.pair (.slice yC) (.pair (.slice .str) (.pair .str .str))))
abbrev yST:Ty:= .pair (.int .i64) (.pair .str (.pair (.slice yV) (.pair (.slice yV) yD)))
abbrev zD:D:=(0,eS,[],[],eS,eS)
abbrev zST:ST:=(0,eS,[],[],0,eS,[],[],eS,eS)
theorem jny:∃ m,Z1c=m+1:=⟨Z1c-1,by have:=Z2b (n:=1) (by omega);omega⟩
theorem j3D (n:Nat):(nI n==0)=(n==0):=by
 unfold nI
 cases n with
 | zero=>rfl
 | succ n=>show ((((n+1:Nat):Int))==0)=false;simp;omega
theorem jqy (n:Nat):(nI n==1)=(n==1):=by
 unfold nI
 by_cases h:n=1
 ·subst h;rfl
 ·have b:(n==1)=false:=by simp [h]
  have d:((n:Int)==1)=false:=by simp;omega
  rw [b,d]
theorem jpR (m n:Nat):(nI m != nI n)= !(m==n):=by
 unfold nI
 by_cases h:m=n
 ·subst h;simp
 ·have b:(m==n)=false:=by simp [h]
  have d:((m:Int) != n)=true:=by simp;omega
  rw [b,d];rfl
def noD (d:D):Bool:=(d.1==0)&&(sEq d.2.1 eS&&((d.2.2.1.length==0)&&((d.2.2.2.1.length==0)&&(sEq d.2.2.2.2.1 eS&&sEq d.2.2.2.2.2 eS))))
def jcj (d:D):Bool:=(d.2.2.1.length==0)&&(d.2.2.2.1.length==0)
noncomputable def j14 (d:D):Bool:=j0q d.2.1 &&
 (bif d.1==1 then sEq d.2.2.2.2.1 eS&&(sEq d.2.2.2.2.2 eS&&j05 (d.2.1,d.2.2.1,d.2.2.2.1))
  else bif d.1==2 then jcj d&&(sEq d.2.2.2.2.1 eS&&sEq d.2.2.2.2.2 eS)
  else bif d.1==3 then (d.2.2.1.length==1)&&(j13 (nth zC d.2.2.1 0)&&(((nth zC d.2.2.1 0).2.2.2.1|| !(nth zC d.2.2.1 0).2.2.1)&&((d.2.2.2.1.length==0)&&(sEq d.2.2.2.2.1 eS&&sEq d.2.2.2.2.2 eS))))
  else bif d.1==4 then jcj d&&(j0q d.2.2.2.2.1&&sEq d.2.2.2.2.2 eS)
  else bif d.1==5 then jcj d&&(j0q d.2.2.2.2.1&&j0q d.2.2.2.2.2)
  else false)
def j2V (l:List V):Bool:=l.all j0s&&(decide (1<=l.length)&&decide (l.length<=8))
noncomputable def stB (s:ST):Bool:=j0q s.2.1 &&
 (bif s.1==1 then (s.2.2.1.length==0)&&(j2V s.2.2.2.1&&noD s.2.2.2.2)
  else bif s.1==2 then j2V s.2.2.1&&(j2V s.2.2.2.1&&noD s.2.2.2.2)
  else bif s.1==3 then j2V s.2.2.1&&((s.2.2.2.1.length==0)&&noD s.2.2.2.2)
  else bif s.1==4 then (s.2.2.1.length==0)&&((s.2.2.2.1.length==0)&&noD s.2.2.2.2)
  else bif s.1==5 then (s.2.2.1.length==0)&&((s.2.2.2.1.length==0)&&(j14 s.2.2.2.2&&sEq s.2.2.2.2.2.1 s.2.1))
  else false)
def dSm (d:D):Prop:=d.2.1.size<=1048576/\d.2.2.1.length<=1048576/\d.2.2.2.1.length<=1048576/\(∀ c∈d.2.2.1,c.1.size<=1048576)/\(∀ x∈d.2.2.2.1,x.size<=1048576)/\d.2.2.2.2.1.size<=1048576/\d.2.2.2.2.2.size<=1048576
def j1a (s:ST):Prop:=s.2.1.size<=1048576/\s.2.2.1.length<=1048576/\s.2.2.2.1.length<=1048576/\dSm s.2.2.2.2
theorem jg4 (d:D):noD d=true↔d=zD:=by
 obtain ⟨a,b,c,e,f,g⟩:=d
 unfold noD
 simp only [Bool.and_eq_true,beq_iff_eq,j09,Prod.mk.injEq,List.length_eq_zero_iff]
theorem j8p {d:D} (h:j14 d=true):j0q d.2.1=true /\
  ((∃ t cs ks,d=(1,t,cs,ks,eS,eS)/\j05 (t,cs,ks)=true)\/(∃ t,d=(2,t,[],[],eS,eS))\/(∃ t c,d=(3,t,[c],[],eS,eS)/\j13 c=true) \/
   (∃ t n,d=(4,t,[],[],n,eS)/\j0q n=true)\/∃ t n m,d=(5,t,[],[],n,m)/\j0q n=true/\j0q m=true):=by
 obtain ⟨k,t,cs,ks,n,m⟩:=d
 unfold j14 jcj at h
 dsimp only at h ⊢
 rw [Bool.and_eq_true] at h
 refine ⟨h.1,?_⟩
 have h:=h.2
 cases g:k==1
 ·cases i:k==2
  ·cases j:k==3
   ·cases l:k==4
    ·cases p:k==5
     ·rw [g,i,j,l,p] at h;cases h
     ·rw [g,i,j,l,p] at h
      simp only [cond_false,cond_true,Bool.and_eq_true,beq_iff_eq] at h p
      obtain ⟨⟨a,b⟩,c,e⟩:=h
      rw [List.length_eq_zero_iff] at a b
      subst a;subst b;subst p
      exact .inr (.inr (.inr (.inr ⟨t,n,m,rfl,c,e⟩)))
    ·rw [g,i,j,l] at h
     simp only [cond_false,cond_true,Bool.and_eq_true,beq_iff_eq,j09] at h l
     obtain ⟨⟨a,b⟩,c,e⟩:=h
     rw [List.length_eq_zero_iff] at a b
     subst a;subst b;subst l;subst e
     exact .inr (.inr (.inr (.inl ⟨t,n,rfl,c⟩)))
   ·rw [g,i,j] at h
    simp only [cond_false,cond_true,Bool.and_eq_true,beq_iff_eq,j09] at h j
    obtain ⟨a,b,_,c,e,f⟩:=h
    obtain ⟨c0,rfl⟩:=List.length_eq_one_iff.1 a
    rw [List.length_eq_zero_iff] at c
    subst c;subst j;subst e;subst f
    exact .inr (.inr (.inl ⟨t,c0,rfl,b⟩))
  ·rw [g,i] at h
   simp only [cond_false,cond_true,Bool.and_eq_true,beq_iff_eq,j09] at h i
   obtain ⟨⟨a,b⟩,e,f⟩:=h
   rw [List.length_eq_zero_iff] at a b
   subst a;subst b;subst i;subst e;subst f
   exact .inr (.inl ⟨t,rfl⟩)
 ·rw [g] at h
  simp only [cond_true,Bool.and_eq_true,beq_iff_eq,j09] at h g
  obtain ⟨e,f,a⟩:=h
  subst g;subst e;subst f
  exact .inl ⟨t,cs,ks,rfl,a⟩
theorem jqJ {s:ST} (h:stB s=true):j0q s.2.1=true /\
  ((∃ t r,s=(1,t,[],r,zD)/\j2V r=true)\/(∃ t q r,s=(2,t,q,r,zD)/\j2V q=true/\j2V r=true)\/(∃ t q,s=(3,t,q,[],zD)/\j2V q=true) \/
   (∃ t,s=(4,t,[],[],zD))\/∃ d:D,s=(5,d.2.1,[],[],d)/\j14 d=true):=by
 obtain ⟨k,t,q,r,d⟩:=s
 unfold stB at h
 dsimp only at h ⊢
 rw [Bool.and_eq_true] at h
 refine ⟨h.1,?_⟩
 have h:=h.2
 cases f:k==1
 ·cases g:k==2
  ·cases i:k==3
   ·cases j:k==4
    ·cases l:k==5
     ·rw [f,g,i,j,l] at h;cases h
     ·rw [f,g,i,j,l] at h
      simp only [cond_false,cond_true,Bool.and_eq_true,beq_iff_eq,j09] at h l
      obtain ⟨a,b,c,e⟩:=h
      rw [List.length_eq_zero_iff] at a b
      subst a;subst b;subst l;subst e
      exact .inr (.inr (.inr (.inr ⟨d,rfl,c⟩)))
    ·rw [f,g,i,j] at h
     simp only [cond_false,cond_true,Bool.and_eq_true,beq_iff_eq,jg4] at h j
     obtain ⟨a,b,c⟩:=h
     rw [List.length_eq_zero_iff] at a b
     subst a;subst b;subst j;subst c
     exact .inr (.inr (.inr (.inl ⟨t,rfl⟩)))
   ·rw [f,g,i] at h
    simp only [cond_false,cond_true,Bool.and_eq_true,beq_iff_eq,jg4] at h i
    obtain ⟨a,b,c⟩:=h
    rw [List.length_eq_zero_iff] at b
    subst b;subst i;subst c
    exact .inr (.inr (.inl ⟨t,q,rfl,a⟩))
  ·rw [f,g] at h
   simp only [cond_false,cond_true,Bool.and_eq_true,beq_iff_eq,jg4] at h g
   obtain ⟨a,b,c⟩:=h
   subst g;subst c
   exact .inr (.inl ⟨t,q,r,rfl,a,b⟩)
 ·rw [f] at h
  simp only [cond_true,Bool.and_eq_true,beq_iff_eq,jg4] at h f
  obtain ⟨a,b,c⟩:=h
  rw [List.length_eq_zero_iff] at a
  subst a;subst f;subst c
  exact .inl ⟨t,r,rfl,b⟩
end Go.PI.G
set_option linter.unusedSimpArgs false
namespace Go.PI.G
open Go Go.PI Go.Proofs
theorem jch (l:List ByteArray) (k:Bool->Res):j2j l [] k=k (l.length==0):=by
 unfold j2j
 rw [jpR]
 cases l with
 | nil=>
  obtain ⟨m,b⟩:=jny
  rw [show (!(([]:List ByteArray).length==([]:List ByteArray).length))=false from rfl,cond_false]
  unfold j9l
  rw [b,Z9Y]
  rfl
 | cons x l=>rfl
theorem jet (l:List C) (k:Bool->Res):j1x l [] k=k (l.length==0):=by
 unfold j1x
 rw [jpR]
 cases l with
 | nil=>
  obtain ⟨m,b⟩:=jny
  rw [show (!(([]:List C).length==([]:List C).length))=false from rfl,cond_false]
  unfold j7u
  rw [b,Z9Y]
  rfl
 | cons x l=>rfl
theorem jpJ (l:List C) (h:l.length<=LIM) (k:Bool->Res):j1x l l k=k true:=by
 unfold j1x j7u
 rw [jpR,beq_self_eq_true,Bool.not_true,cond_false]
 have:=Za2 l (λi=>i) (λ_=>false) (step:=j6m l l (nI l.length)) ((λ(_:Unit)=>k true),(λ(_:Unit)=>k false)) (k true) (k false) h (λi rec b=>by
  show j1G _ _ _ _ _ _ _=_
  unfold j1G
  unfold LIM at h
  have d:∀ x:Bool,(x==x)=true:=by decide
  rw [ZaQ b,cond_true,j00 b,cond_true,cond_true]
  simp only [Zah,beq_self_eq_true,d,Bool.and_true,Bool.not_true,cond_false]
  rw [j01 (by omega)]) (λrec=>by
  show j1G _ _ _ _ _ _ _=_
  unfold j1G
  rw [ZaP,cond_false])
 refine this.trans ?_
 have:(l.any λ_=>false)=false:=by simp
 rw [this,cond_false]
theorem jrO {d:D} (h:dSm d):tSm (d.2.1,d.2.2.1,d.2.2.2.1):=⟨h.1,h.2.1,h.2.2.1,h.2.2.2.1,h.2.2.2.2.1⟩
theorem jsd (d:D) (K:Bool->Res):j7g d K=K (jcj d):=by
 unfold j7g jcj
 rw [j3D,j3D]
 cases d.2.2.1.length==0<;>rfl
theorem jgL (d:D) (h:dSm d) (k:Bool->Res):j2v d k=k (j14 d):=by
 have i:=jrO h
 obtain ⟨w,y,z,j,A,B,C⟩:=h
 obtain ⟨b,t,cs,ks,n,m⟩:=d
 dsimp only at w y z j A B C i
 unfold j2v j14
 rw [jsd]
 generalize r:jcj (b,t,cs,ks,n,m)=g
 dsimp only
 rw [j5u _ (by unfold LIM;omega),j3D]
 cases j0q t
 ·rfl
 ·rw [Bool.not_true,cond_false,Bool.true_and]
  cases b==1
  ·cases b==2
   ·cases b==3
    ·cases b==4
     ·cases b==5
      ·rfl
      ·rw [cond_false,cond_false,cond_false,cond_false,cond_true,cond_false,cond_false,cond_false,cond_false,cond_true,j5u n (by unfold LIM;omega),j5u m (by unfold LIM;omega)]
       cases g
       ·rfl
       ·cases j0q n<;>rfl
     ·rw [cond_false,cond_false,cond_false,cond_true,cond_false,cond_false,cond_false,cond_true,j5u n (by unfold LIM;omega)]
      cases g
      ·rfl
      ·cases j0q n<;>rfl
    ·rw [cond_false,cond_false,cond_true,cond_false,cond_false,cond_true,jqy]
     cases q:cs.length==1
     ·rfl
     ·have f:cs.length=1:=by simpa using q
      have p:inb 0 cs.length=true:=by rw [f];rfl
      have l:(nth zC cs 0).1.size<=LIM:=by
       have:=j (nth zC cs 0) (by rw [show (0:Int)=((0:Nat):Int) by rfl,Zay _ _ _ (by omega)];exact List.getElem_mem _)
       unfold LIM;omega
      rw [cond_true,p,cond_true,jle _ l,Bool.true_and]
      cases j13 (nth zC cs 0)
      ·rfl
      ·rw [cond_true,cond_true,cond_true,Bool.true_and]
       cases (nth zC cs 0).2.2.2.1
       ·cases (nth zC cs 0).2.2.1
        ·cases ks.length==0
         ·rfl
         ·cases sEq n eS<;>rfl
        ·rfl
       ·cases ks.length==0
        ·rfl
        ·cases sEq n eS<;>rfl
   ·rw [cond_false,cond_true,cond_false,cond_true]
    cases g
    ·rfl
    ·cases sEq n eS<;>rfl
  ·rw [cond_true,cond_true,jjk _ i]
   cases sEq n eS
   ·rfl
   ·cases sEq m eS<;>rfl
theorem jj5 (d:D) (h:dSm d) (k:T->Res):j2Y d k=k (d.2.1,d.2.2.1,d.2.2.2.1):=by
 unfold j2Y j3z j3A
 have b:=h.2.1
 have f:=h.2.2.1
 dsimp only
 rw [ZaL (by unfold LIM;omega),cond_true,ZaL (by unfold LIM;omega),cond_true]
theorem jgt (d:D) (h:dSm d) (k:Bool->Res):j2t d k=k (j14 d):=by
 have i:=jrO h
 have f:=jj5 d h
 obtain ⟨z,A,B,j,C,E,F⟩:=h
 obtain ⟨b,t,cs,ks,n,m⟩:=d
 dsimp only at z A B j C E F i f
 unfold j2t j14 jcj
 dsimp only
 rw [j5r _ (by unfold LIM;omega)]
 have l:cs.length<=LIM:=by unfold LIM;omega
 have G:ks.length<=LIM:=by unfold LIM;omega
 cases j0q t
 ·rfl
 ·rw [Bool.not_true,cond_false,Bool.true_and]
  cases q:b==1
  ·cases b==2
   ·cases b==3
    ·cases b==4
     ·cases b==5
      ·rfl
      ·rw [cond_false,cond_false,cond_false,cond_false,cond_true,cond_false,cond_false,cond_false,cond_false,cond_true]
       unfold j0e
       dsimp only
       rw [beq_self_eq_true,cond_true,Zah,cond_true,jet,jch,Zah,cond_true,Zah,j5r n (by unfold LIM;omega),j5r m (by unfold LIM;omega)]
       cases cs.length==0
       ·rfl
       ·cases ks.length==0
        ·rfl
        ·cases j0q n<;>rfl
     ·rw [cond_false,cond_false,cond_false,cond_true,cond_false,cond_false,cond_false,cond_true]
      unfold j0e
      dsimp only
      rw [beq_self_eq_true,cond_true,Zah,cond_true,jet,jch,Zah,cond_true,j5r n (by unfold LIM;omega)]
      cases cs.length==0
      ·rfl
      ·cases ks.length==0
       ·rfl
       ·cases sEq m eS<;>cases j0q n<;>rfl
    ·rw [cond_false,cond_false,cond_true,cond_false,cond_false,cond_true,jqy]
     unfold j0e
     dsimp only
     rw [beq_self_eq_true,cond_true,Zah,cond_true,jpJ _ l,cond_true,jch]
     cases y:cs.length==1
     ·cases ks.length==0
      ·rfl
      ·cases sEq n eS
       ·rfl
       ·cases sEq m eS<;>rfl
     ·have g:cs.length=1:=by simpa using y
      have w:inb 0 cs.length=true:=by rw [g];rfl
      have r:(nth zC cs 0).1.size<=LIM:=by
       have:=j (nth zC cs 0) (by rw [show (0:Int)=((0:Nat):Int) by rfl,Zay _ _ _ (by omega)];exact List.getElem_mem _)
       unfold LIM;omega
      rw [w,jks _ r]
      cases ks.length==0
      ·cases j13 (nth zC cs 0)<;>cases (nth zC cs 0).2.2.2.1<;>cases (nth zC cs 0).2.2.1<;>rfl
      ·cases sEq n eS
       ·cases j13 (nth zC cs 0)<;>cases (nth zC cs 0).2.2.2.1<;>cases (nth zC cs 0).2.2.1<;>rfl
       ·cases sEq m eS<;>cases j13 (nth zC cs 0)<;>cases (nth zC cs 0).2.2.2.1<;>cases (nth zC cs 0).2.2.1<;>rfl
   ·rw [cond_false,cond_true,cond_false,cond_true]
    unfold j0e
    dsimp only
    rw [beq_self_eq_true,cond_true,Zah,cond_true,jet,jch]
    cases cs.length==0
    ·rfl
    ·cases ks.length==0
     ·rfl
     ·cases sEq n eS<;>rfl
  ·have p:b=1:=by simpa using q
   subst p
   rw [cond_true,cond_true,f,jj6 _ i]
   cases j05 (t,cs,ks)
   ·cases sEq n eS
    ·rfl
    ·cases sEq m eS<;>rfl
   ·cases sEq n eS<;>cases sEq m eS<;>rfl
theorem jlh (d:D) (k:Bool->Res):j1u d k=k (noD d):=by
 unfold j1u noD
 rw [j3D,j3D]
 cases d.1==0
 ·rfl
 ·cases sEq d.2.1 eS
  ·rfl
  ·cases d.2.2.1.length==0
   ·rfl
   ·cases d.2.2.2.1.length==0
    ·rfl
    ·cases sEq d.2.2.2.2.1 eS<;>rfl
theorem jkt (d:D) (k:Bool->Res):j0e d zD k=k (noD d):=by
 unfold j0e noD
 rw [jet,jch]
 cases d.1==0
 ·rfl
 ·cases sEq d.2.1 eS
  ·rfl
  ·cases d.2.2.1.length==0
   ·rfl
   ·cases d.2.2.2.1.length==0
    ·rfl
    ·cases sEq d.2.2.2.2.1 eS<;>rfl
theorem jjl (l:List V) (h:l.length<=LIM) (k:Bool->Res):j2I l k=k (j2V l):=by
 unfold j2I jeN j2V
 have:=Za2 l (λi=>i) (λv=> !j0s v) (step:=j92 l (nI l.length)) ((λ(_:Unit)=>bif decide ((nI l.length)>=1) then k (decide ((nI l.length)<=8)) else k false),(λ(_:Unit)=>k false)) (bif decide ((nI l.length)>=1) then k (decide ((nI l.length)<=8)) else k false) (k false) h (λi rec d=>by
  show j3k _ _ _ _ _ _=_
  unfold j3k
  unfold LIM at h
  rw [ZaQ d,cond_true,j00 d,cond_true,Zay _ _ _ d,j8E,j01 (n:=(i:Int)+1) (by omega)]) (λrec=>by
  show j3k _ _ _ _ _ _=_
  unfold j3k
  rw [ZaP,cond_false])
 refine this.trans ?_
 have b:(l.any λv=> !j0s v)= !l.all j0s:=by rw [List.all_eq_not_any_not];simp
 rw [b]
 unfold nI
 cases l.all j0s
 ·rfl
 ·rw [Bool.not_true,cond_false,Bool.true_and]
  by_cases f:1<=l.length
  ·rw [decide_eq_true (show (l.length:Int)>=1 by omega),cond_true,decide_eq_true f,Bool.true_and]
   congr 1
   exact decide_eq_decide.2 (by omega)
  ·rw [decide_eq_false (show ¬ (l.length:Int)>=1 by omega),cond_false,decide_eq_false f,Bool.false_and]
theorem jj7 (l:List V) (h:l.length<=LIM) (k:Bool->Res):j1R l k=k (j2V l):=by
 unfold j1R j2d j6R j8O j2V
 rw [j5n]
 have f:decide (1<=nI l.length/\nI l.length<=8)=(decide (1<=l.length)&&decide (l.length<=8)):=by
  rw [<-Bool.decide_and]
  exact decide_eq_decide.2 (by unfold nI;omega)
 rw [f]
 cases decide (1<=l.length)&&decide (l.length<=8)
 ·rw [Bool.and_false];rfl
 ·rw [cond_true,Bool.and_true]
  have:=Z9S l (λi=>i) (λv=> !j0s v) (step:=j3s l (nI l.length)) ((λ(_:Unit)=>k (!decide ((-1:Int)>=0))),(λ(t:Int)=>k (!decide (t>=0)))) (λr=>k (!decide (r>=0))) h (λi rec b=>by
   show j11 _ _ _ _ _ _=_
   unfold j11 jcz
   unfold LIM at h
   rw [ZaQ b,cond_true,j00 b,cond_true,Zay _ _ _ b,j8q,j01 (n:=(i:Int)+1) (by omega)]) (λrec=>by
   show j11 _ _ _ _ _ _=_
   unfold j11
   rw [ZaP,cond_false])
  refine this.trans ?_
  congr 1
  unfold Z9F
  cases d:l.findIdx? λv=> !j0s v with
  | none=>
   rw [List.findIdx?_eq_none_iff] at d
   symm
   show l.all j0s=true
   rw [List.all_eq_true]
   intro v j
   simpa using d v j
  | some i=>
   dsimp only
   rw [decide_eq_true (show (i:Int)>=0 by omega)]
   obtain ⟨b,g,_⟩:=List.findIdx?_eq_some_iff_getElem.1 d
   symm
   show l.all j0s=false
   rw [List.all_eq_false]
   exact ⟨l[i],List.getElem_mem _,by simpa using g⟩
theorem jim (s:ST) (h:j1a s) (k:Bool->Res):j3w s k=k (stB s):=by
 obtain ⟨g,i,j,f⟩:=h
 unfold j3w stB j6t
 have b:s.2.2.1.length<=LIM:=by unfold LIM;omega
 have d:s.2.2.2.1.length<=LIM:=by unfold LIM;omega
 rw [j5u _ (by unfold LIM;omega),j3D,j3D]
 simp only [jjl _ b,jjl _ d,jlh,jgL _ f]
 cases j0q s.2.1
 ·rfl
 ·rw [Bool.not_true,cond_false,Bool.true_and]
  cases s.1==1
  ·cases s.1==2
   ·cases s.1==3
    ·cases s.1==4
     ·cases s.1==5
      ·rfl
      ·cases s.2.2.1.length==0
       ·rfl
       ·cases s.2.2.2.1.length==0
        ·rfl
        ·cases j14 s.2.2.2.2<;>rfl
     ·cases s.2.2.1.length==0
      ·rfl
      ·cases s.2.2.2.1.length==0<;>rfl
    ·cases j2V s.2.2.1
     ·rfl
     ·cases s.2.2.2.1.length==0<;>rfl
   ·cases j2V s.2.2.1
    ·rfl
    ·cases j2V s.2.2.2.1<;>rfl
  ·cases s.2.2.1.length==0
   ·rfl
   ·cases j2V s.2.2.2.1<;>rfl
theorem jqh {d:D} (h:j14 d=true):j0q d.2.1=true:=by
 unfold j14 at h
 rw [Bool.and_eq_true] at h
 exact h.1
theorem jml (s:ST) (h:j1a s) (k:Bool->Res):j3t s k=k (stB s):=by
 obtain ⟨n,p,q,m⟩:=h
 unfold j3t stB j5W
 have d:s.2.2.1.length<=LIM:=by unfold LIM;omega
 have f:s.2.2.2.1.length<=LIM:=by unfold LIM;omega
 rw [j5r _ (by unfold LIM;omega),j3D,j3D]
 simp only [jj7 _ d,jj7 _ f,jkt,jgt _ m]
 cases i:s.1==5
 ·rw [cond_false]
  cases j0q s.2.1
  ·rfl
  ·rw [Bool.not_true,cond_false,Bool.true_and]
   cases s.1==1
   ·cases s.1==2
    ·cases s.1==3
     ·cases s.1==4
      ·cases noD s.2.2.2.2<;>rfl
      ·cases noD s.2.2.2.2<;>cases s.2.2.1.length==0<;>cases s.2.2.2.1.length==0<;>rfl
     ·cases noD s.2.2.2.2<;>cases j2V s.2.2.1<;>cases s.2.2.2.1.length==0<;>rfl
    ·cases noD s.2.2.2.2<;>cases j2V s.2.2.1<;>cases j2V s.2.2.2.1<;>rfl
   ·cases noD s.2.2.2.2<;>cases s.2.2.1.length==0<;>cases j2V s.2.2.2.1<;>rfl
 ·have g:s.1=5:=by simpa using i
  rw [cond_true,g,show ((5:Int)==1)=false from rfl,show ((5:Int)==2)=false from rfl,show ((5:Int)==3)=false from rfl,show ((5:Int)==4)=false from rfl,cond_false,cond_false,cond_false,cond_false,cond_true]
  cases j:j14 s.2.2.2.2
  ·rw [cond_false]
   cases j0q s.2.1<;>cases s.2.2.1.length==0<;>cases s.2.2.2.1.length==0<;>rfl
  ·rw [cond_true,Zag s.2.1]
   cases l:sEq s.2.2.2.2.2.1 s.2.1
   ·rw [cond_false]
    cases j0q s.2.1<;>cases s.2.2.1.length==0<;>cases s.2.2.2.1.length==0<;>rfl
   ·have b:=jqh j
    rw [(j09 _ _).1 l] at b
    rw [b]
    cases s.2.2.1.length==0<;>cases s.2.2.2.1.length==0<;>rfl
end Go.PI.G
namespace Go.PI.G
open Go Go.PI
theorem jrR {v:V} (h:j0s v=true):msr yV v<=30:=by
 have e:msr yV v=0+(0+v.2.2.size):=rfl
 have:=jqS h
 omega
theorem jaf {e:Ty} (c:Nat):(l:List (El e))->(∀ x∈l,msr e x<=c)->msr (.slice e) l<=l.length * (c+1)
 | [],_=>Nat.zero_le _
 | x::l,h=>by
  have b:=jaf c l λy d=>h y (List.mem_cons_of_mem _ d)
  have f:=h x (by simp)
  rw [jmo] at b ⊢
  simp only [List.map_cons,List.sum_cons,List.length_cons]
  rw [Nat.succ_mul]
  omega
theorem jrh {c:C} (h:j13 c=true):msr yC c<=38:=by
 have e:msr yC c=c.1.size+(0+(0+(0+msr yV c.2.2.2.2))):=rfl
 unfold j13 at h
 simp only [Bool.and_eq_true] at h
 have b:=jgP h.1
 have d:=jrR h.2.2.1
 omega
theorem jqf {l:List C} (h:j4P l=true) {c:C} (b:c∈l):j13 c=true:=by
 obtain ⟨i,d,rfl⟩:=List.getElem_of_mem b
 exact jmg h i d
theorem jqe {l:List C} {n:ByteArray} (h:0<=j02 l n):∃ c∈l,c.1=n:=by
 unfold j02 Z9F at h
 cases b:List.findIdx? (λc:C=>sEq c.1 n) l with
 | none=>rw [b] at h;dsimp only at h;omega
 | some i=>
  obtain ⟨d,f,_⟩:=List.findIdx?_eq_some_iff_getElem.1 b
  exact ⟨l[i],List.getElem_mem d,(j09 _ _).1 f⟩
theorem jmm {l:List C}:(ks:List ByteArray)->(b:Int)->b<(l.length:Int)->j1h l b ks=true->b+(ks.length:Int)<(l.length:Int)
 | [],b,d,_=>by simpa using d
 | q::ks,b,d,h=>by
  simp only [j1h,Bool.and_eq_true,Bool.not_eq_true',decide_eq_false_iff_not] at h
  have f:=jmm ks (j02 l q) (j98 l q).2 h.2.2
  rw [List.length_cons]
  omega
theorem jrk {t:ByteArray} {cs:List C} {ks:List ByteArray} (h:j05 (t,cs,ks)=true):t.size<=8/\msr (.slice yC) cs<=312/\msr (.slice .str) ks<=72:=by
 have b:=j1Z h
 dsimp only at b
 have d:∀ c∈cs,j13 c=true:=λc d=>jqf b.2.2.2.2.1 d
 have m:=jaf (e:=yC) 38 cs λc h=>jrh (d c h)
 have n:cs.length * 39<=8 * 39:=Nat.mul_le_mul_right _ b.2.2.1
 have j:=j1i ks (-1) (by omega) b.2.2.2.2.2
 have r:=jmm ks (-1) (by omega) b.2.2.2.2.2
 have p:=jaf (e:= .str) 8 ks λk l=>by
  obtain ⟨c,g,i⟩:=jqe (j k l).1
  have f:=d c g
  unfold j13 at f
  rw [Bool.and_eq_true] at f
  have:=(jgP f.1).2
  rw [i] at this
  exact this
 have q:ks.length * 9<=8 * 9:=Nat.mul_le_mul_right _ (by omega)
 exact ⟨(jgP b.1).2,by omega,by omega⟩
end Go.PI.G
namespace Go.PI.G
open Go Go.PI
theorem jme:(x:List UInt8)->Op.bytesLess x x=false
 | []=>rfl
 | a::x=>by simp [Op.bytesLess,jme x]
theorem jnM:(x y z:List UInt8)->Op.bytesLess x y=true->Op.bytesLess y z=true->Op.bytesLess x z=true
 | _,_,[],_,h=>by simp [Op.bytesLess] at h
 | _,[],_::_,h,_=>by simp [Op.bytesLess] at h
 | [],_::_,_::_,_,_=>by simp [Op.bytesLess]
 | a::x,b::y,c::z,h,k=>by
  simp only [Op.bytesLess,Bool.or_eq_true,Bool.and_eq_true,decide_eq_true_eq,beq_iff_eq] at h k ⊢
  rcases h with h | ⟨rfl,h⟩
  ·rcases k with k | ⟨rfl,k⟩
   ·exact .inl (UInt8.lt_trans h k)
   ·exact .inl h
  ·rcases k with k | ⟨rfl,k⟩
   ·exact .inl k
   ·exact .inr ⟨rfl,jnM x y z h k⟩
theorem jnL:(x y:List UInt8)->x≠y->Op.bytesLess x y=true\/Op.bytesLess y x=true
 | [],[],h=>absurd rfl h
 | [],_::_,_=> .inl (by simp [Op.bytesLess])
 | _::_,[],_=> .inr (by simp [Op.bytesLess])
 | a::x,b::y,h=>by
  simp only [Op.bytesLess,Bool.or_eq_true,Bool.and_eq_true,decide_eq_true_eq,beq_iff_eq]
  by_cases f:a=b
  ·subst f
   rcases jnL x y (λe=>h (by rw [e])) with d | d
   ·exact .inl (.inr ⟨rfl,d⟩)
   ·exact .inr (.inr ⟨rfl,d⟩)
  ·rcases UInt8.lt_or_lt_of_ne f with d | d
   ·exact .inl (.inl d)
   ·exact .inr (.inl d)
theorem toList_inj {a b:ByteArray} (h:a.toList=b.toList):a=b:=(j09 a b).1 (by unfold sEq;rw [h];simp)
theorem jdi (a:ByteArray):sLt a a=false:=jme _
theorem jeG {a b c:ByteArray} (h:sLt a b=true) (k:sLt b c=true):sLt a c=true:=jnM _ _ _ h k
theorem ji9 {a b:ByteArray} (h:a≠b):sLt a b=true\/sLt b a=true:=jnL _ _ λe=>h (toList_inj e)
theorem jqI {a b:ByteArray} (h:sLt a b=true):a≠b:=λe=>by rw [e,jdi] at h;cases h
theorem jqH {a b:ByteArray} (h:sLt a b=true):sLt b a=false:=by
 cases d:sLt b a with
 | false=>rfl
 | true=>rw [<-jdi a];exact (jeG h d).symm
theorem jiA (a b:V):vlt a b=true↔j0s a=true/\j0s b=true/\(a.1<b.1\/(a.1=b.1/\(a.2.1<b.2.1\/(a.2.1=b.2.1/\sLt a.2.2 b.2.2=true)))):=by
 unfold vlt
 simp only [Bool.and_eq_true]
 refine and_congr_right λ_=>and_congr_right λ_=> ?_
 by_cases d:a.1=b.1
 ·rw [d,ZaO,cond_false]
  by_cases f:a.2.1=b.2.1
  ·rw [f,ZaO,cond_false]
   simp
  ·rw [show (a.2.1 != b.2.1)=true by simp [f],cond_true]
   simp [f]
 ·rw [show (a.1 != b.1)=true by simp [d],cond_true]
  simp [d]
theorem jq8 (a:V):vlt a a=false:=by
 cases h:vlt a a with
 | false=>rfl
 | true=>
  have:=(jiA a a).1 h
  rw [jdi] at this
  rcases this.2.2 with h | ⟨_,h | ⟨_,h⟩⟩
  ·omega
  ·omega
  ·cases h
theorem jqU {a b c:V} (h:vlt a b=true) (k:vlt b c=true):vlt a c=true:=by
 rw [jiA] at h k ⊢
 obtain ⟨g,_,h⟩:=h
 obtain ⟨_,i,k⟩:=k
 refine ⟨g,i,?_⟩
 rcases h with h | ⟨j,h⟩
 ·rcases k with k | ⟨d,k⟩
  ·exact .inl (by omega)
  ·exact .inl (by omega)
 ·rcases k with k | ⟨d,k⟩
  ·exact .inl (by omega)
  ·refine .inr ⟨by omega,?_⟩
   rcases h with h | ⟨l,h⟩
   ·rcases k with k | ⟨f,k⟩
    ·exact .inl (by omega)
    ·exact .inl (by omega)
   ·rcases k with k | ⟨f,k⟩
    ·exact .inl (by omega)
    ·exact .inr ⟨by omega,jeG h k⟩
theorem jqT {a b:V} (d:j0s a=true) (f:j0s b=true) (h:a≠b):vlt a b=true\/vlt b a=true:=by
 rw [jiA,jiA]
 by_cases g:a.1=b.1
 ·by_cases j:a.2.1=b.2.1
  ·have i:a.2.2≠b.2.2:=λe=>h (Prod.ext g (Prod.ext j e))
   rcases ji9 i with k | k
   ·exact .inl ⟨d,f,.inr ⟨g,.inr ⟨j,k⟩⟩⟩
   ·exact .inr ⟨f,d,.inr ⟨g.symm,.inr ⟨j.symm,k⟩⟩⟩
  ·by_cases i:a.2.1<b.2.1
   ·exact .inl ⟨d,f,.inr ⟨g,.inl i⟩⟩
   ·exact .inr ⟨f,d,.inr ⟨g.symm,.inl (by omega)⟩⟩
 ·by_cases i:a.1<b.1
  ·exact .inl ⟨d,f,.inl i⟩
  ·exact .inr ⟨f,d,.inl (by omega)⟩
theorem joP (a:V):veq a a=true:=(jgh a a).2 rfl
theorem jq7 {a b:V} (h:a≠b):veq a b=false:=by
 cases d:veq a b with
 | false=>rfl
 | true=>exact absurd ((jgh a b).1 d) h
theorem jgz:(a:List V)->klt a a=false
 | []=>rfl
 | x::a=>by show (bif veq x x then klt a a else vlt x x)=false;rw [joP,cond_true];exact jgz a
theorem jeB:(a b c:List V)->klt a b=true->klt b c=true->klt a c=true
 | _,[],_,h,k=>by
  rename_i a c
  cases a<;>cases h
 | _,_::_,[],h,k=>by cases k
 | [],_::_,_::_,h,k=>rfl
 | x::a,y::b,z::c,h,k=>by
  change (bif veq x y then klt a b else vlt x y)=true at h
  change (bif veq y z then klt b c else vlt y z)=true at k
  show (bif veq x z then klt a c else vlt x z)=true
  cases f:veq x y
  ·rw [f,cond_false] at h
   cases d:veq y z
   ·rw [d,cond_false] at k
    have g:=jqU h k
    rw [jq7 λe=>by rw [e,jq8] at g;cases g]
    exact g
   ·have e:=(jgh y z).1 d
    subst e
    rw [f];exact h
  ·have e:=(jgh x y).1 f
   subst e
   rw [f,cond_true] at h
   cases d:veq x z
   ·rw [d,cond_false] at k;exact k
   ·rw [d,cond_true] at k
    rw [cond_true]
    exact jeB a b c h k
theorem jmn:(a b:List V)->(∀ v∈a,j0s v=true)->(∀ v∈b,j0s v=true)->a≠b->klt a b=true\/klt b a=true
 | [],[],_,_,h=>absurd rfl h
 | [],_::_,_,_,_=> .inl rfl
 | _::_,[],_,_,_=> .inr rfl
 | x::a,y::b,g,i,h=>by
  show (bif veq x y then klt a b else vlt x y)=true\/(bif veq y x then klt b a else vlt y x)=true
  by_cases d:x=y
  ·subst d
   rw [joP,cond_true,cond_true]
   exact jmn a b (λv f=>g v (List.mem_cons_of_mem _ f)) (λv f=>i v (List.mem_cons_of_mem _ f)) λe=>h (by rw [e])
  ·rw [jq7 d,jq7 (Ne.symm d),cond_false,cond_false]
   exact jqT (g x (by simp)) (i y (by simp)) d
theorem jqv {a b:List V} (h:klt a b=true):a≠b:=λe=>by rw [e,jgz] at h;cases h
theorem jqu {a b:List V} (h:klt a b=true):klt b a=false:=by
 cases d:klt b a with
 | false=>rfl
 | true=>rw [<-jgz a];exact (jeB a b a h d).symm
theorem j9D {α:Type} {f:Nat->α->Bool}:(l:List α)->(i:Nat)->(Z71 f i l=false↔∀ (j:Nat) (h:j<l.length),f (i+j) l[j]=false)
 | [],_=>⟨λ_ j h=>by simp at h,λ_=>rfl⟩
 | x::l,i=>by
  refine ⟨jd6 (x::l) i,λh=> ?_⟩
  simp only [Z71,Bool.or_eq_false_iff]
  refine ⟨h 0 (by simp),(j9D l (i+1)).2 λj b=> ?_⟩
  have:=h (j+1) (by simpa using b)
  rw [show i+1+j=i+(j+1) by omega]
  simpa using this
theorem jqQ {α:Type} (z:α) (R:α->α->Bool) (r:∀ a b c,R a b=true->R b c=true->R a c=true) (l:List α) :
  (∀ (j:Nat) (h:j<l.length),(decide (0<j)&& !R (nth z l ((j:Int)-1)) l[j])=false)↔l.Pairwise λa b=>R a b=true:=by
 rw [List.pairwise_iff_getElem]
 constructor
 ·intro h i j f g p
  have step:∀ (d i:Nat) (f:i+d+1<l.length),R l[i] l[i+d+1]=true:=by
   intro d
   induction d with
   | zero=>
    intro i f
    have:=h (i+1) (by omega)
    rw [show ((i+1:Nat):Int)-1=(i:Int) by omega,Zay _ _ _ (by omega)] at this
    simpa using this
   | succ d q=>
    intro i f
    have m:=q i (by omega)
    have:=h (i+d+2) (by omega)
    rw [show ((i+d+2:Nat):Int)-1=((i+d+1:Nat):Int) by omega,Zay _ _ _ (by omega)] at this
    have n:R l[i+d+1] l[i+d+2]=true:=by simpa using this
    exact r _ _ _ m n
  have:=step (j-i-1) i (by omega)
  have e:i+(j-i-1)+1=j:=by omega
  simp only [e] at this
  exact this
 ·intro h j g
  by_cases k:0<j
  ·have e:((j:Int)-1)=((j-1:Nat):Int):=by omega
   rw [e,Zay _ _ _ (by omega),h (j-1) j (by omega) g (by omega)]
   simp
  ·rw [decide_eq_false k];rfl
theorem j0d (c:List T):j2m c=true↔c.length<=6/\(∀ t∈c,j05 t=true)/\c.Pairwise λa b=>sLt a.1 b.1=true:=by
 unfold j2m
 rw [Bool.and_eq_true,decide_eq_true_eq,Bool.not_eq_true',j9D]
 refine and_congr_right λ_=> ?_
 rw [<-jqQ zT (λa b:T=>sLt a.1 b.1) (λa b c=>jeG)]
 constructor
 ·intro h
  refine ⟨λt ht=> ?_,λj d=> ?_⟩
  ·obtain ⟨j,d,rfl⟩:=List.getElem_of_mem ht
   have:=h j d
   simp only [Bool.or_eq_false_iff,Bool.not_eq_false'] at this
   exact this.1
  ·have:=h j d
   rw [Nat.zero_add] at this
   rw [Bool.or_eq_false_iff] at this
   exact this.2
 ·rintro ⟨f,g⟩ j d
  rw [Nat.zero_add,f _ (List.getElem_mem d)]
  exact g j d
theorem j6C (t:T) (l:List (List V)):j08 t l=true↔j05 t=true/\l.length<=60/\(∀ r∈l,j0r t.2.1 r=true)/\l.Pairwise λa b=>klt (j07 t a) (j07 t b)=true:=by
 unfold j08
 rw [Bool.and_eq_true,Bool.and_eq_true,decide_eq_true_eq,Bool.not_eq_true',j9D]
 refine and_congr_right λ_=>and_congr_right λ_=> ?_
 rw [<-jqQ [] (λa b:List V=>klt (j07 t a) (j07 t b)) (λa b c=>jeB _ _ _)]
 constructor
 ·intro h
  refine ⟨λr i=> ?_,λj d=> ?_⟩
  ·obtain ⟨j,d,rfl⟩:=List.getElem_of_mem i
   have:=h j d
   simp only [Bool.or_eq_false_iff,Bool.not_eq_false'] at this
   exact this.1
  ·have:=h j d
   rw [Nat.zero_add] at this
   rw [Bool.or_eq_false_iff] at this
   exact this.2
 ·rintro ⟨f,g⟩ j d
  rw [Nat.zero_add,f _ (List.getElem_mem d)]
  exact g j d
theorem j1A (d:DB):dbB d=true↔j2m d.1=true/\d.2.length=d.1.length/\∀ (i:Nat) (h:i<d.1.length) (j:i<d.2.length),j08 d.1[i] d.2[i]=true:=by
 unfold dbB
 rw [Bool.and_eq_true,Bool.and_eq_true,decide_eq_true_eq,Bool.not_eq_true',j9D]
 refine and_congr_right λ_=>and_congr_right λg=> ?_
 constructor
 ·intro h i b f
  have:=h i b
  rw [Nat.zero_add,Zay _ _ _ f,Bool.not_eq_false'] at this
  exact this
 ·intro h i b
  rw [Nat.zero_add,Zay _ _ _ (g ▸ b),h i b (g ▸ b)]
  rfl
theorem jhR {α:Type} {p:α->Bool} {l:List α} {i:Nat} (g:i<l.length) (d:p l[i]=true) (f:∀ (j:Nat) (b:j<i),p (l[j]'(by omega))=false):Z9F p l=(i:Int):=by
 unfold Z9F
 have:l.findIdx? p=some i:=List.findIdx?_eq_some_iff_getElem.2 ⟨g,d,λj b=>by rw [f j b];decide⟩
 rw [this]
theorem jqo {α:Type} {p:α->Bool} {l:List α} (h:∀ x∈l,p x=false):Z9F p l= -1:=by
 unfold Z9F
 have:l.findIdx? p=none:=List.findIdx?_eq_none_iff.2 h
 rw [this]
theorem jaw {α:Type} (p:α->Bool) (l:List α):(Z9F p l= -1/\∀ x∈l,p x=false)\/∃ (i:Nat) (b:i<l.length),Z9F p l=(i:Int)/\p l[i]=true/\∀ (j:Nat) (d:j<i),p (l[j]'(by omega))=false:=by
 unfold Z9F
 cases h:l.findIdx? p with
 | none=>exact .inl ⟨rfl,List.findIdx?_eq_none_iff.1 h⟩
 | some i=>
  obtain ⟨b,f,g⟩:=List.findIdx?_eq_some_iff_getElem.1 h
  exact .inr ⟨i,b,rfl,f,λj d=>by simpa using g j d⟩
theorem jpt {α:Type} {p:α->Bool} {l:List α} {i:Nat} (d:i<l.length) (b:p l[i]=true) (g:∀ (j:Nat) (f:j<l.length),p l[j]=true->j=i):Z9F p l=(i:Int):=
 jhR d b λj f=>by
  cases h:p (l[j]'(by omega)) with
  | false=>rfl
  | true=>exact absurd (g j (by omega) h) (by omega)
end Go.PI.G
namespace Go.PI.G
open Go Go.PI
theorem jhP {l:List C} (h:l.Pairwise λa b=>a.1≠b.1) {i:Nat} (g:i<l.length):j02 l l[i].1=(i:Int):=by
 unfold j02
 refine jpt g (Zah _) λj k f=> ?_
 have f:=(j09 _ _).1 f
 rw [List.pairwise_iff_getElem] at h
 rcases Nat.lt_trichotomy i j with d | d | d
 ·exact absurd f.symm (h i j g k d)
 ·exact d.symm
 ·exact absurd f (h j i k g d)
theorem j6B (l:List C):j4P l=true↔(∀ c∈l,j13 c=true)/\l.Pairwise λa b=>a.1≠b.1:=by
 unfold j4P
 rw [Bool.not_eq_true',j9D]
 constructor
 ·intro h
  refine ⟨λc k=> ?_,List.pairwise_iff_getElem.2 λi j n d p m=> ?_⟩
  ·obtain ⟨j,d,rfl⟩:=List.getElem_of_mem k
   have:=h j d
   simp only [Bool.or_eq_false_iff,Bool.not_eq_false'] at this
   exact this.1
  ·have f:=h i n
   have g:=h j d
   simp only [Bool.or_eq_false_iff,Nat.zero_add,bne_eq_false_iff_eq] at f g
   rw [m] at f
   omega
 ·rintro ⟨f,g⟩ j d
  rw [f _ (List.getElem_mem d),Nat.zero_add,jhP g d]
  simp
theorem j52 (l:List C):(ks:List ByteArray)->(d:Int)->(j1h l d ks=true↔(∀ k∈ks,d<j02 l k/\(nth zC l (j02 l k)).2.2.1=true)/\ks.Pairwise λa b=>j02 l a<j02 l b)
 | [],_=>by simp [j1h]
 | k::ks,d=>by
  simp only [j1h,Bool.and_eq_true,Bool.not_eq_true',decide_eq_false_iff_not,j52 l ks,List.pairwise_cons,List.mem_cons,forall_eq_or_imp]
  constructor
  ·rintro ⟨j,h,g,i⟩
   exact ⟨⟨⟨by omega,h⟩,λq f=>⟨by have:=(g q f).1;omega,(g q f).2⟩⟩,λq f=>(g q f).1,i⟩
  ·rintro ⟨⟨⟨j,h⟩,g⟩,i,m⟩
   exact ⟨by omega,h,λq f=>⟨i q f,(g q f).2⟩,m⟩
theorem j6W (t:T):j05 t=true↔j0q t.1=true/\1<=t.2.1.length/\t.2.1.length<=8/\1<=t.2.2.length/\j4P t.2.1=true/\j1h t.2.1 (-1) t.2.2=true:=by
 unfold j05
 simp only [Bool.and_eq_true,decide_eq_true_eq,and_assoc]
theorem jpI {l:List C} {n:ByteArray} (h:∀ c∈l,c.1≠n):j02 l n= -1:=
 jqo λc b=>by
  cases d:sEq c.1 n with
  | false=>rfl
  | true=>exact absurd ((j09 _ _).1 d) (h c b)
theorem j1g (l:List C) (n:ByteArray):(j02 l n= -1/\∀ c∈l,c.1≠n)\/∃ (i:Nat) (f:i<l.length),j02 l n=(i:Int)/\l[i].1=n/\∀ (j:Nat) (g:j<i),(l[j]'(by omega)).1≠n:=by
 rcases jaw (λc:C=>sEq c.1 n) l with ⟨b,d⟩ | ⟨i,f,b,d,h⟩
 ·exact .inl ⟨b,λc k e=>by have:=d c k;rw [e,Zah] at this;cases this⟩
 ·exact .inr ⟨i,f,b,(j09 _ _).1 d,λj g e=>by have:=h j g;rw [e,Zah] at this;cases this⟩
theorem jgy {l l':List C} {ks:List ByteArray} (g:ByteArray->ByteArray) (h:j1h l (-1) ks=true) (f:∀ k∈ks,0<=j02 l' (g k)/\(nth zC l' (j02 l' (g k))).2.2.1=true)
  (i:∀ a∈ks,∀ b∈ks,j02 l a<j02 l b->j02 l' (g a)<j02 l' (g b)):j1h l' (-1) (ks.map g)=true:=by
 rw [j52] at h ⊢
 refine ⟨λk n=> ?_,?_⟩
 ·obtain ⟨q,p,rfl⟩:=List.mem_map.1 n
  have:=f q p
  exact ⟨by omega,this.2⟩
 ·rw [List.pairwise_map]
  exact h.2.imp_of_mem λj m d=>i _ j _ m d
theorem j9M (l:List C) (r:List V):j0r l r=true↔r.length=l.length/\∀ (i:Nat) (b:i<l.length) (d:i<r.length),j3K l[i] r[i]=true:=by
 unfold j0r
 rw [Bool.and_eq_true,decide_eq_true_eq,Bool.not_eq_true',j9D]
 refine and_congr_right λf=> ?_
 constructor
 ·intro h i b d
  have:=h i b
  rw [Nat.zero_add,Zay _ _ _ d,Bool.not_eq_false'] at this
  exact this
 ·intro h i b
  rw [Nat.zero_add,Zay _ _ _ (f ▸ b),h i b (f ▸ b)]
  rfl
def jjw (t:T) (c:C):T:=(t.1,t.2.1++[c],t.2.2)
theorem jkA {α:Type} (z:α) (l m:List α) {i:Int} (h:0<=i/\i<(l.length:Int)):nth z (l++m) i=nth z l i:=by
 obtain ⟨n,rfl⟩:∃ n:Nat,i=(n:Int):=⟨i.toNat,by omega⟩
 rw [Zay _ _ _ (by rw [List.length_append];omega),Zay _ _ _ (by omega),List.getElem_append_left (by omega)]
theorem jer {l:List C} {c:C} {n:ByteArray} (h:0<=j02 l n):j02 (l++[c]) n=j02 l n:=by
 rcases j1g l n with ⟨b,_⟩ | ⟨i,g,b,d,f⟩
 ·omega
 ·rw [b]
  refine jhR (by rw [List.length_append];omega) ?_ λj k=> ?_
  ·rw [List.getElem_append_left g,d];exact Zah _
  ·rw [List.getElem_append_left (by omega)]
   cases m:sEq (l[j]'(by omega)).1 n with
   | false=>rfl
   | true=>exact absurd ((j09 _ _).1 m) (f j k)
theorem jrW {t:T} {c:C} (ht:j05 t=true) (z:j13 c=true) (F:j02 t.2.1 c.1<0) (E:t.2.1.length<8):j05 (jjw t c)=true:=by
 rw [j6W] at ht ⊢
 obtain ⟨r,A,B,w,g,j⟩:=ht
 have q:=j1i t.2.2 (-1) (by omega) j
 refine ⟨r,?_,?_,w,?_,?_⟩
 ·show 1<=(t.2.1++[c]).length;rw [List.length_append];omega
 ·show (t.2.1++[c]).length<=8;rw [List.length_append];simp;omega
 ·rw [j6B] at g ⊢
  refine ⟨λx f=> ?_,?_⟩
  ·rcases List.mem_append.1 f with f | f
   ·exact g.1 x f
   ·rw [List.mem_singleton.1 f];exact z
  ·show (t.2.1++[c]).Pairwise _
   rw [List.pairwise_append]
   refine ⟨g.2,List.pairwise_singleton _ _,λa m b p=> ?_⟩
   rw [List.mem_singleton.1 p]
   rcases j1g t.2.1 c.1 with ⟨_,h⟩ | ⟨i,D,h,_⟩
   ·exact h a m
   ·omega
 ·have:=jgy (l':=t.2.1++[c]) id j (λk d=>by
   have l:=q k d
   have y:j02 (t.2.1++[c]) k=j02 t.2.1 k:=jer l.1
   simp only [id]
   rw [y,jkA _ _ _ l]
   exact ⟨l.1,((j52 _ _ _).1 j).1 k d |>.2⟩) (λa m b p n=>by
   simp only [id]
   rw [jer (q a m).1,jer (q b p).1]
   exact n)
  rw [List.map_id] at this
  exact this
theorem jqW {t:T} {c:C} (ht:j05 t=true) {r:List V} (f:r.length=t.2.1.length) (v:V):j07 (jjw t c) (r++[v])=j07 t r:=by
 have d:=j1i t.2.2 (-1) (by omega) (j1Z ht).2.2.2.2.2
 refine List.map_congr_left λk b=> ?_
 have:=d k b
 show nth zV (r++[v]) (j02 (t.2.1++[c]) k)=_
 rw [jer this.1,jkA _ _ _ ⟨this.1,by omega⟩]
theorem jrV {l:List C} {c:C} {r:List V} (b:j0r l r=true) {v:V} (g:j3K c v=true):j0r (l++[c]) (r++[v])=true:=by
 rw [j9M] at b ⊢
 refine ⟨by rw [List.length_append,List.length_append,b.1];rfl,λi d f=> ?_⟩
 by_cases h:i<l.length
 ·rw [List.getElem_append_left h,List.getElem_append_left (b.1 ▸ h)]
  exact b.2 i h _
 ·rw [List.length_append] at d
  simp only [List.length_cons,List.length_nil] at d
  have:i=l.length:=by omega
  subst this
  rw [List.getElem_append_right (Nat.le_refl _),List.getElem_append_right (by omega)]
  simpa using g
theorem jr9 {c:C} (d:j13 c=true) (h:(c.2.2.2.1|| !c.2.2.1)=true):j3K c c.2.2.2.2=true:=by
 unfold j13 at d
 simp only [Bool.and_eq_true] at d
 obtain ⟨_,_,g,b⟩:=d
 unfold j3K
 rw [g,Bool.true_and]
 cases f:c.2.2.2.1
 ·rw [f] at h b
  rw [cond_false] at b
  unfold jiw at b
  rw [Bool.and_eq_true] at b
  rw [Bool.false_or] at h
  rw [b.1,h,Bool.and_self,Bool.or_true]
 ·rw [f,cond_true] at b
  exact b
def jgG (t:T) (n:ByteArray):T:=(t.1,t.2.1.filter λc=> !sEq c.1 n,t.2.2)
theorem jnT {l:List C} (h:l.Pairwise λa b=>a.1≠b.1) {i:Nat} (g:i<l.length):(l.filter λc=> !sEq c.1 l[i].1)=l.eraseIdx i:=by
 induction l generalizing i with
 | nil=>simp at g
 | cons a l m=>
  rw [List.pairwise_cons] at h
  cases i with
  | zero=>
   simp only [List.getElem_cons_zero,List.filter_cons,Zah,Bool.not_true,List.eraseIdx_zero,List.tail_cons]
   rw [if_neg (by simp),List.filter_eq_self]
   intro c k
   have:=h.1 c k
   cases f:sEq c.1 a.1 with
   | false=>rfl
   | true=>exact absurd ((j09 _ _).1 f).symm this
  | succ i=>
   simp only [List.length_cons] at g
   have d:i<l.length:=by omega
   have j:sEq a.1 l[i].1=false:=by
    cases f:sEq a.1 l[i].1 with
    | false=>rfl
    | true=>exact absurd ((j09 _ _).1 f) (h.1 _ (List.getElem_mem d))
   simp only [List.getElem_cons_succ,List.filter_cons,j,Bool.not_false,if_true,List.eraseIdx_cons_succ]
   rw [m h.2 d]
theorem jc9 {l:List C} (h:l.Pairwise λa b=>a.1≠b.1) {i:Nat} (n:i<l.length) {j:Nat} (q:j<l.length) (p:j≠i) :
  j02 (l.eraseIdx i) l[j].1=if j<i then (j:Int) else (j:Int)-1:=by
 have k:(l.eraseIdx i).Pairwise λa b=>a.1≠b.1:=h.sublist (List.eraseIdx_sublist _ _)
 have g:(l.eraseIdx i).length=l.length-1:=List.length_eraseIdx_of_lt n
 by_cases d:j<i
 ·rw [if_pos d]
  have f:(l.eraseIdx i)[j]'(by omega)=l[j]:=by rw [List.getElem_eraseIdx,dif_pos d]
  rw [<-f]
  exact jhP k _
 ·rw [if_neg d]
  obtain ⟨m,rfl⟩:∃ m,j=m+1:=⟨j-1,by omega⟩
  have f:(l.eraseIdx i)[m]'(by omega)=l[m+1]:=by rw [List.getElem_eraseIdx,dif_neg (by omega)]
  rw [<-f,jhP k]
  omega
theorem jmp {α:Type} (z:α) (l:List α) {i j:Nat} (f:i<l.length) (h:j<l.length) (g:j≠i):nth z (l.eraseIdx i) (if j<i then (j:Int) else (j:Int)-1)=l[j]:=by
 have d:(l.eraseIdx i).length=l.length-1:=List.length_eraseIdx_of_lt f
 by_cases b:j<i
 ·rw [if_pos b,Zay _ _ _ (by omega),List.getElem_eraseIdx,dif_pos b]
 ·rw [if_neg b]
  obtain ⟨m,rfl⟩:∃ m,j=m+1:=⟨j-1,by omega⟩
  rw [show ((m+1:Nat):Int)-1=(m:Int) by omega,Zay _ _ _ (by omega),List.getElem_eraseIdx,dif_neg (by omega)]
theorem jg0 {t:T} (ht:j05 t=true) {n k:ByteArray} (g:k∈t.2.2) (h:(t.2.2.any λx=>sEq x n)=false) {i:Nat} (r:j02 t.2.1 n=(i:Int)):∃ (j:Nat) (f:j<t.2.1.length),j02 t.2.1 k=(j:Int)/\t.2.1[j].1=k/\j≠i:=by
 have w:=j1i t.2.2 (-1) (by omega) (j1Z ht).2.2.2.2.2 k g
 rcases j1g t.2.1 k with ⟨b,_⟩ | ⟨j,f,b,d,_⟩
 ·omega
 ·refine ⟨j,f,b,d,λe=> ?_⟩
  rcases j1g t.2.1 n with ⟨l,_⟩ | ⟨q,p,l,m,_⟩
  ·omega
  ·have:j=q:=by omega
   subst this
   rw [List.any_eq_false] at h
   exact h k g (by rw [<-d,m];exact Zah _)
theorem jm0 {t:T} (ht:j05 t=true) {n:ByteArray} {i:Nat} (j:j02 t.2.1 n=(i:Int)):i<t.2.1.length/\jgG t n=(t.1,t.2.1.eraseIdx i,t.2.2):=by
 have g:=((j6B _).1 (j1Z ht).2.2.2.2.1).2
 rcases j1g t.2.1 n with ⟨d,_⟩ | ⟨h,b,d,f,_⟩
 ·omega
 ·have:i=h:=by omega
  subst this
  refine ⟨b,?_⟩
  unfold jgG
  rw [<-f,jnT g b]
theorem js8 {t:T} (ht:j05 t=true) {n:ByteArray} {i:Nat} (q:j02 t.2.1 n=(i:Int)) (y:(t.2.2.any λx=>sEq x n)=false):j05 (jgG t n)=true:=by
 obtain ⟨d,M⟩:=jm0 ht q
 have g:=ht
 rw [M]
 rw [j6W] at ht ⊢
 obtain ⟨H,P,Q,I,h,F⟩:=ht
 rw [j6B] at h
 have G:(t.2.1.eraseIdx i).length=t.2.1.length-1:=List.length_eraseIdx_of_lt d
 refine ⟨H,?_,?_,I,?_,?_⟩
 ·show 1<=(t.2.1.eraseIdx i).length
  obtain ⟨k,w⟩:∃ k,k∈t.2.2:=⟨t.2.2[0]'(by omega),List.getElem_mem _⟩
  obtain ⟨j,l,_,_,f⟩:=jg0 g w y q
  omega
 ·show (t.2.1.eraseIdx i).length<=8
  omega
 ·show j4P (t.2.1.eraseIdx i)=true
  rw [j6B]
  exact ⟨λc L=>h.1 c (List.mem_of_mem_eraseIdx L),h.2.sublist (List.eraseIdx_sublist _ _)⟩
 ·have:=jgy (l':=t.2.1.eraseIdx i) id F (λk w=>by
   obtain ⟨j,l,z,B,f⟩:=jg0 g w y q
   simp only [id]
   have m:=jc9 h.2 d l f
   rw [B] at m
   rw [m]
   refine ⟨by split<;>omega,?_⟩
   rw [jmp zC t.2.1 d l f]
   have:=((j52 _ _ _).1 F).1 k w |>.2
   rw [z,Zay _ _ _ l] at this
   exact this) (λa J b K D=>by
   obtain ⟨j,l,z,B,f⟩:=jg0 g J y q
   obtain ⟨R,E,A,C,r⟩:=jg0 g K y q
   simp only [id]
   have m:=jc9 h.2 d l f
   have p:=jc9 h.2 d E r
   rw [B] at m
   rw [C] at p
   rw [m,p]
   rw [z,A] at D
   split<;>split<;>omega)
  rw [List.map_id] at this
  exact this
theorem jrp {t:T} (ht:j05 t=true) {n:ByteArray} {i:Nat} (g:j02 t.2.1 n=(i:Int)) (w:(t.2.2.any λx=>sEq x n)=false) {r:List V} (z:r.length=t.2.1.length):j07 (jgG t n) (r.eraseIdx i)=j07 t r:=by
 obtain ⟨d,m⟩:=jm0 ht g
 have y:=((j6B _).1 (j1Z ht).2.2.2.2.1).2
 rw [m]
 refine List.map_congr_left λk q=> ?_
 obtain ⟨j,p,h,l,b⟩:=jg0 ht q w g
 show nth zV (r.eraseIdx i) (j02 (t.2.1.eraseIdx i) k)=_
 have f:=jc9 y d p b
 rw [l] at f
 rw [f,jmp zV r (by omega) (by omega) b,h,Zay _ _ _ (by omega)]
theorem js7 {l:List C} {r:List V} (d:j0r l r=true) (i:Nat):j0r (l.eraseIdx i) (r.eraseIdx i)=true:=by
 rw [j9M] at d ⊢
 refine ⟨by rw [List.length_eraseIdx,List.length_eraseIdx,d.1],λj b f=> ?_⟩
 have g:j+1<=l.length:=by
  rw [List.length_eraseIdx] at b
  split at b<;>omega
 rw [List.getElem_eraseIdx,List.getElem_eraseIdx]
 by_cases h:j<i
 ·rw [dif_pos h,dif_pos h];exact d.2 _ _ _
 ·rw [dif_neg h,dif_neg h]
  have:j+1<l.length:=by
   rw [List.length_eraseIdx] at b
   split at b<;>omega
  exact d.2 _ this _
def ren (n m s:ByteArray):ByteArray:=bif sEq s n then m else s
def j8V (n m:ByteArray) (c:C):C:=(ren n m c.1,c.2)
def jeD (t:T) (n m:ByteArray):T:=(t.1,t.2.1.map (j8V n m),t.2.2.map (ren n m))
theorem jm2 {n m a b:ByteArray} (g:a≠m) (i:b≠m) (h:ren n m a=ren n m b):a=b:=by
 unfold ren at h
 cases d:sEq a n<;>cases f:sEq b n<;>rw [d,f] at h<;>simp only [cond_true,cond_false] at h
 ·exact h
 ·exact absurd h g
 ·exact absurd h.symm i
 ·rw [(j09 _ _).1 d,(j09 _ _).1 f]
theorem jes {l:List C} {n m:ByteArray} (f:∀ c∈l,c.1≠m) {s:ByteArray} (g:s≠m):j02 (l.map (j8V n m)) (ren n m s)=j02 l s:=by
 rcases j1g l s with ⟨b,d⟩ | ⟨i,q,b,d,k⟩
 ·rw [b]
  refine jpI λc p=> ?_
  obtain ⟨x,h,rfl⟩:=List.mem_map.1 p
  exact λe=>d x h (jm2 (f x h) g e)
 ·rw [b]
  refine jhR (by rw [List.length_map];exact q) ?_ λj r=> ?_
  ·rw [List.getElem_map]
   show sEq (ren n m l[i].1) (ren n m s)=true
   rw [d];exact Zah _
  ·rw [List.getElem_map]
   show sEq (ren n m (l[j]'(by omega)).1) (ren n m s)=false
   cases w:sEq (ren n m (l[j]'(by omega)).1) (ren n m s) with
   | false=>rfl
   | true=>exact absurd (jm2 (f _ (List.getElem_mem _)) g ((j09 _ _).1 w)) (k j r)
theorem jsa {n m:ByteArray} (d:j0q m=true) {c:C} (b:j13 c=true):j13 (j8V n m c)=true:=by
 unfold j13 j8V at *
 simp only [Bool.and_eq_true] at b ⊢
 refine ⟨?_,b.2⟩
 unfold ren
 cases sEq c.1 n
 ·exact b.1
 ·exact d
theorem jrm {t:T} (ht:j05 t=true) {n m:ByteArray} (H:j0q m=true) (J:j02 t.2.1 m<0):j05 (jeD t n m)=true:=by
 rw [j6W] at ht ⊢
 obtain ⟨B,C,D,E,p,q⟩:=ht
 have A:=j1i t.2.2 (-1) (by omega) q
 have f:∀ c∈t.2.1,c.1≠m:=by
  rcases j1g t.2.1 m with ⟨_,h⟩ | ⟨i,_,h,_⟩
  ·exact h
  ·omega
 have l:∀ k∈t.2.2,k≠m:=λk d e=>by
  have:=(A k d).1
  rw [e] at this
  omega
 refine ⟨B,?_,?_,?_,?_,?_⟩
 ·show 1<=(t.2.1.map _).length;rw [List.length_map];exact C
 ·show (t.2.1.map _).length<=8;rw [List.length_map];exact D
 ·show 1<=(t.2.2.map _).length;rw [List.length_map];exact E
 ·show j4P (t.2.1.map (j8V n m))=true
  rw [j6B] at p ⊢
  refine ⟨λc F=> ?_,?_⟩
  ·obtain ⟨x,I,rfl⟩:=List.mem_map.1 F
   exact jsa H (p.1 x I)
  ·rw [List.pairwise_map]
   exact p.2.imp_of_mem λw y g e=>g (jm2 (f _ w) (f _ y) e)
 ·refine jgy (l':=t.2.1.map (j8V n m)) (ren n m) q (λk d=> ?_) (λa w b y g=> ?_)
  ·rw [jes f (l k d)]
   have z:=A k d
   refine ⟨z.1,?_⟩
   have r:=((j52 _ _ _).1 q).1 k d |>.2
   obtain ⟨j,G⟩:∃ j:Nat,j02 t.2.1 k=(j:Int):=⟨(j02 t.2.1 k).toNat,by omega⟩
   rw [G] at z r ⊢
   rw [Zay _ _ _ (by omega)] at r
   rw [Zay _ _ _ (by rw [List.length_map];omega),List.getElem_map]
   exact r
  ·rw [jes f (l a w),jes f (l b y)]
   exact g
theorem jqz {t:T} (ht:j05 t=true) {n m:ByteArray} (g:j02 t.2.1 m<0) (r:List V):j07 (jeD t n m) r=j07 t r:=by
 have f:=j1i t.2.2 (-1) (by omega) (j1Z ht).2.2.2.2.2
 have d:∀ c∈t.2.1,c.1≠m:=by
  rcases j1g t.2.1 m with ⟨_,h⟩ | ⟨i,_,h,_⟩
  ·exact h
  ·omega
 show ((t.2.2.map (ren n m)).map λk=>nth zV r (j02 (t.2.1.map (j8V n m)) k))=_
 rw [List.map_map]
 refine List.map_congr_left λk b=> ?_
 simp only [Function.comp]
 rw [jes d λe=>by have:=(f k b).1;rw [e] at this;omega]
theorem jra {n m:ByteArray} (c:C) (v:V):j3K (j8V n m c) v=j3K c v:=rfl
theorem jrl {l:List C} {r:List V} (d:j0r l r=true) (n m:ByteArray):j0r (l.map (j8V n m)) r=true:=by
 rw [j9M] at d ⊢
 refine ⟨by rw [List.length_map];exact d.1,λi f b=> ?_⟩
 rw [List.getElem_map,jra]
 exact d.2 i (by rw [List.length_map] at f;exact f) b
theorem ji8 {t t':T} {l:List (List V)} (f:List V->List V) (h:j08 t l=true) (ht:j05 t'=true) (p:∀ r,j0r t.2.1 r=true->j0r t'.2.1 (f r)=true) (i:∀ r,j0r t.2.1 r=true->j07 t' (f r)=j07 t r):j08 t' (l.map f)=true:=by
 rw [j6C] at h ⊢
 obtain ⟨_,j,b,k⟩:=h
 refine ⟨ht,by rw [List.length_map];exact j,λr g=> ?_,?_⟩
 ·obtain ⟨x,q,rfl⟩:=List.mem_map.1 g
  exact p x (b x q)
 ·rw [List.pairwise_map]
  refine k.imp_of_mem λm n d=> ?_
  rw [i _ (b _ m),i _ (b _ n)]
  exact d
end Go.PI.G
