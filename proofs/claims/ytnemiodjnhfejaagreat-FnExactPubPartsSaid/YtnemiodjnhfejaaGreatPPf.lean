/-
  Program's code interpreted over typed values; printed texts; plain laws. No conditions.
-/
import Derived.Test.YtnemiodjnhfejaaGreatPPb
import Derived.Test.YtnemiodjnhfejaaGreatPPe
import Derived.Test.YtnemiodjnhfejaaGreatPPc
import Derived.Test.YtnemiodjnhfejaaGreatPPd
set_option linter.unusedVariables false
set_option linter.unusedSimpArgs false
namespace Go.PI.G
open Go Go.PI Go.Proofs
theorem ja2 (c:C) (h:c.1.size<=LIM) (k:Bool->Res):j2v c k=k (j47 c):=by
 obtain ⟨n,ty,nt,hs,df⟩:=c
 unfold j2v j47
 dsimp only at h ⊢
 rw [j1e n h,ja4]
 cases j0a n
 ·rfl
 ·rw [Bool.not_true,cond_false,Bool.true_and]
  by_cases h1:1<=ty/\ty<=3
  ·rw [decide_eq_false (show ¬ ty<1 by omega),cond_false,decide_eq_false (show ¬ ty>3 by omega),cond_false,decide_eq_true h1,Bool.true_and]
   cases hs
   ·rw [Bool.not_false,cond_true,cond_false]
    have:j2E df=false->j9O df=false:=λhv=>by
     cases hn:j9O df with
     | false=>rfl
     | true=>
      unfold j9O at hn
      simp only [Bool.and_eq_true,beq_iff_eq,j7I] at hn
      have:df=(0,0,eS):=by
       obtain ⟨a,b,c⟩:=df
       simp only at hn
       rw [hn.1,hn.2.1,hn.2.2]
      rw [this,jcL] at hv
      cases hv
    cases hv:j2E df
    ·rw [Bool.false_and]
     exact congrArg k (this hv)
    ·rfl
   ·rw [Bool.not_true,cond_false,cond_true]
    cases hv:j2E df
    ·rfl
    ·rw [cond_true,Bool.true_and]
     have hnull:(df.1==0)=true->((df.1==0)&&((df.2.1==0)&&sEq df.2.2 eS))=true:=λh0=>by
      rcases jcn hv with rfl | ⟨m,_,rfl⟩ | ⟨m,_,rfl⟩ | ⟨m,_,rfl⟩
      ·exact jcb
      ·cases h0
      ·cases h0
      ·cases h0
     cases h0:df.1==0
     ·rw [Bool.false_and,cond_false]
      cases df.1==ty<;>rfl
     ·have:=hnull h0
      rw [h0] at this
      rw [this,cond_true,cond_true]
      have hty:(df.1==ty)=false:=by
       simp only [beq_iff_eq] at h0
       rw [h0];simp;omega
      rw [hty,Bool.false_or,Bool.true_and]
  ·rw [decide_eq_false h1]
   by_cases h2:ty<1
   ·rw [decide_eq_true h2];rfl
   ·rw [decide_eq_false h2,cond_false,decide_eq_true (show ty>3 by omega)];rfl
theorem j9M (c:C) (h:c.1.size<=LIM) (k:Bool->Res):j2l c k=k (j47 c):=by
 obtain ⟨n,ty,nt,hs,df⟩:=c
 unfold j2l j47
 dsimp only at h ⊢
 rw [j1b n h,j3L,j9N]
 cases j0a n
 ·rfl
 ·cases decide (1<=ty/\ty<=3)
  ·rfl
  ·cases j2E df
   ·rfl
   ·cases hs
    ·rfl
    ·cases df.1==ty
     ·cases df.1==0<;>rfl
     ·rfl
theorem jaJ (t:T) (n:ByteArray) (h:t.2.1.length<=LIM) (k:Int->Res):j42 t n k=k (j0p t.2.1 n):=by
 unfold j42 j6c
 refine Z9T t.2.1 (λi=>i) (λc=>sEq c.1 n) (step:=j5k n t.2.1 (nI t.2.1.length)) _ k h (λi rec hi=> ?_) (λrec=> ?_)
 ·show j2u n _ _ _ _ _ _=_
  unfold j2u
  unfold LIM at h
  rw [ZaR hi,cond_true,j04 hi,cond_true,Zaz _ _ _ hi,j03 (n:=(i:Int)+1) (by omega)]
 ·show j2u n _ _ _ _ _ _=_
  unfold j2u
  rw [ZaQ,cond_false]
theorem jaF (t:T) (n:ByteArray) (h:t.2.1.length<=LIM) (k:Int->Res):j3P t n k=k (j0p t.2.1 n):=by
 unfold j3P j31 j29
 refine Z9T t.2.1 (λi=>i) (λc=>sEq c.1 n) (step:=j1J t.2.1 n (nI t.2.1.length)) _ k h (λi rec hi=> ?_) (λrec=> ?_)
 ·show j0n _ n _ _ _ _ _=_
  unfold j0n j7t
  unfold LIM at h
  rw [ZaR hi,cond_true,j04 hi,cond_true,Zaz _ _ _ hi,j03 (n:=(i:Int)+1) (by omega)]
 ·show j0n _ n _ _ _ _ _=_
  unfold j0n
  rw [ZaQ,cond_false]
noncomputable def tSm (t:T):Prop:=t.1.size<=1048576/\t.2.1.length<=1048576/\t.2.2.length<=1048576/\(∀ c∈t.2.1,c.1.size<=1048576)/\∀ x∈t.2.2,x.size<=1048576
theorem jb6 (t:T) (h:tSm t) (a b:Unit->Res):j2y t.2.1 (nI t.2.1.length) t Z1d 0 a b=bif j7T t.2.1 then a () else b ():=by
 have hh:=h
 obtain ⟨m1,m2,m3,m4,m5⟩:=hh
 unfold j2y
 have:=Z9Q t.2.1 (λi=>i) (λi c=> !j47 c||(j0p t.2.1 c.1 != (i:Int))) (step:=j2J t.2.1 (nI t.2.1.length) t) (a,b) (a ()) (b ()) (by unfold LIM;omega) (λi rec hi=>by
  show j0X _ _ t _ _ _ _=_
  unfold j0X
  rw [ZaR hi,cond_true,j04 hi,cond_true,Zaz _ _ _ hi,ja2 _ (by have:=m4 _ (List.getElem_mem hi);unfold LIM;omega),jaJ t _ (by unfold LIM;omega),j03 (n:=(i:Int)+1) (by omega)]
  cases j47 t.2.1[i]
  ·rfl
  ·cases j0p t.2.1 t.2.1[i].1 != (i:Int)<;>rfl) (λrec=>by
  show j0X _ _ t _ _ _ _=_
  unfold j0X
  rw [ZaQ,cond_false])
 refine this.trans ?_
 unfold j7T
 cases Z72 (λi c=> !j47 c||(j0p t.2.1 c.1 != (i:Int))) 0 t.2.1<;>rfl
theorem jaY (t:T) (h:tSm t) (a b:Unit->Res):j2n t.2.1 (nI t.2.1.length) t Z1d 0 a b=bif j7T t.2.1 then a () else b ():=by
 have hh:=h
 obtain ⟨m1,m2,m3,m4,m5⟩:=hh
 unfold j2n
 have:=Z9Q t.2.1 (λi=>i) (λi c=> !j47 c||(j0p t.2.1 c.1 != (i:Int))) (step:=j2G t.2.1 (nI t.2.1.length) t) (a,b) (a ()) (b ()) (by unfold LIM;omega) (λi rec hi=>by
  show j0V _ _ t _ _ _ _=_
  unfold j0V
  rw [ZaR hi,cond_true,j04 hi,cond_true,Zaz _ _ _ hi,j9M _ (by have:=m4 _ (List.getElem_mem hi);unfold LIM;omega),jaF t _ (by unfold LIM;omega),j03 (n:=(i:Int)+1) (by omega)]
  cases j47 t.2.1[i]
  ·rfl
  ·cases j0p t.2.1 t.2.1[i].1 != (i:Int)<;>rfl) (λrec=>by
  show j0V _ _ t _ _ _ _=_
  unfold j0V
  rw [ZaQ,cond_false])
 refine this.trans ?_
 unfold j7T
 cases Z72 (λi c=> !j47 c||(j0p t.2.1 c.1 != (i:Int))) 0 t.2.1<;>rfl
noncomputable def j3S (l:List C) (last:Int) (k:ByteArray):Except Unit Int:=bif decide (j0p l k<=last) then .error () else bif !(nth zC l (j0p l k)).2.2.1 then .error () else .ok (j0p l k)
theorem j8y (l:List C):(ks:List ByteArray)->(i:Nat)->(last:Int)->(∃ z,Z1T (λ_ last k=>j3S l last k) i ks last= .ok z/\j4W l last ks=true)\/(Z1T (λ_ last k=>j3S l last k) i ks last= .error ()/\j4W l last ks=false)
 | [],_,last=> .inl ⟨last,rfl,rfl⟩
 | k::ks,i,last=>by
  have ih:=j8y l ks (i+1) (j0p l k)
  simp only [Z1T,j4W,j3S] at ih ⊢
  cases decide (j0p l k<=last)
  ·cases (nth zC l (j0p l k)).2.2.1
   ·exact .inr ⟨rfl,rfl⟩
   ·exact ih
  ·exact .inr ⟨rfl,rfl⟩
theorem jb7 (t:T) (h:tSm t) (a b:Unit->Res):j2z t.2.2 (nI t.2.2.length) t Z1d (-1) 0 a b=bif j4W t.2.1 (-1) t.2.2 then a () else b ():=by
 have hh:=h
 obtain ⟨m1,m2,m3,m4,m5⟩:=hh
 unfold j2z
 have:=Z40 t.2.2 (λi last=>(last,i)) (λ_ last k=>j3S t.2.1 last k) (λ_ last=> -1<=last) (step:=j4e t.2.2 (nI t.2.2.length) t) (a,b) (λ_=>a ()) (λ_=>b ()) (-1) (by unfold LIM;omega) (by omega) (λi last last' hi h0 hk=>by
  unfold j3S at hk
  have:=(j5T t.2.1 t.2.2[i]).1
  cases h1:decide (j0p t.2.1 t.2.2[i]<=last)
  ·rw [h1,cond_false] at hk
   cases h2:(nth zC t.2.1 (j0p t.2.1 t.2.2[i])).2.2.1
   ·rw [h2] at hk;cases hk
   ·rw [h2] at hk
    cases hk
    exact this
  ·rw [h1] at hk;cases hk) (λi last rec hi h0=>by
  show j1G _ _ t _ _ _ _ _=_
  unfold j1G
  dsimp only
  rw [ZaR hi,cond_true,j04 hi,cond_true,Zaz _ _ _ hi,jaJ t _ (by unfold LIM;omega),j03 (n:=(i:Int)+1) (by omega)]
  unfold j3S
  by_cases h1:j0p t.2.1 t.2.2[i]<=last
  ·rw [decide_eq_true h1];rfl
  ·have hr:=(j5T t.2.1 t.2.2[i]).2
   rw [decide_eq_false h1,cond_false,cond_false,ZaL (by omega) hr,cond_true]
   cases (nth zC t.2.1 (j0p t.2.1 t.2.2[i])).2.2.1<;>rfl) (λlast rec _=>by
  show j1G _ _ t _ _ _ _ _=_
  unfold j1G
  dsimp only
  rw [ZaQ,cond_false])
 refine this.trans ?_
 rcases j8y t.2.1 t.2.2 0 (-1) with ⟨z,h1,h2⟩ | ⟨h1,h2⟩<;>rw [h1,h2]<;>rfl
theorem jaZ (t:T) (h:tSm t) (a b:Unit->Res):j2o t.2.2 (nI t.2.2.length) t Z1d (-1) 0 a b=bif j4W t.2.1 (-1) t.2.2 then a () else b ():=by
 have hh:=h
 obtain ⟨m1,m2,m3,m4,m5⟩:=hh
 unfold j2o
 have:=Z40 t.2.2 (λi last=>(last,i)) (λ_ last k=>j3S t.2.1 last k) (λ_ last=> -1<=last) (step:=j48 t.2.2 (nI t.2.2.length) t) (a,b) (λ_=>a ()) (λ_=>b ()) (-1) (by unfold LIM;omega) (by omega) (λi last last' hi h0 hk=>by
  unfold j3S at hk
  have:=(j5T t.2.1 t.2.2[i]).1
  cases h1:decide (j0p t.2.1 t.2.2[i]<=last)
  ·rw [h1,cond_false] at hk
   cases h2:(nth zC t.2.1 (j0p t.2.1 t.2.2[i])).2.2.1
   ·rw [h2] at hk;cases hk
   ·rw [h2] at hk
    cases hk
    exact this
  ·rw [h1] at hk;cases hk) (λi last rec hi h0=>by
  show j1w _ _ t _ _ _ _ _=_
  unfold j1w
  dsimp only
  rw [ZaR hi,cond_true,j04 hi,cond_true,Zaz _ _ _ hi,jaF t _ (by unfold LIM;omega),j03 (n:=(i:Int)+1) (by omega)]
  unfold j3S
  by_cases h1:j0p t.2.1 t.2.2[i]<=last
  ·rw [decide_eq_true h1];rfl
  ·have hr:=(j5T t.2.1 t.2.2[i]).2
   rw [decide_eq_false h1,cond_false,cond_false,ZaL (by omega) hr,cond_true]
   cases (nth zC t.2.1 (j0p t.2.1 t.2.2[i])).2.2.1<;>rfl) (λlast rec _=>by
  show j1w _ _ t _ _ _ _ _=_
  unfold j1w
  dsimp only
  rw [ZaQ,cond_false])
 refine this.trans ?_
 rcases j8y t.2.1 t.2.2 0 (-1) with ⟨z,h1,h2⟩ | ⟨h1,h2⟩<;>rw [h1,h2]<;>rfl
theorem jd5 (t:T) (k:Bool->Res):j2A t k=j0d t.1 λw=>k (!(w&&(decide (1<=t.2.1.length)&&(decide (t.2.1.length<=8)&&decide (1<=t.2.2.length))))):=by
 unfold j2A
 congr 1
 funext w
 unfold nI
 cases w
 ·rfl
 ·rw [Bool.not_true,cond_false,Bool.true_and]
  by_cases h1:1<=t.2.1.length
  ·rw [decide_eq_false (show ¬ (t.2.1.length:Int)<1 by omega),cond_false,decide_eq_true h1,Bool.true_and]
   by_cases h2:t.2.1.length<=8
   ·rw [decide_eq_false (show ¬ (t.2.1.length:Int)>8 by omega),cond_false,decide_eq_true h2,Bool.true_and]
    congr 1
    by_cases h3:1<=t.2.2.length
    ·rw [decide_eq_false (show ¬ (t.2.2.length:Int)<1 by omega),decide_eq_true h3];rfl
    ·rw [decide_eq_true (show (t.2.2.length:Int)<1 by omega),decide_eq_false h3];rfl
   ·rw [decide_eq_true (show (t.2.1.length:Int)>8 by omega),decide_eq_false h2];rfl
  ·rw [decide_eq_true (show (t.2.1.length:Int)<1 by omega),decide_eq_false h1];rfl
theorem jbP (t:T) (h:tSm t) (k:Bool->Res):j2W t k=k (jaB t):=by
 have hh:=h
 obtain ⟨m1,m2,m3,m4,m5⟩:=hh
 unfold j2W jaB
 rw [jd5,j1e _ (by unfold LIM;omega),jb6 t h,jb7 t h]
 cases j0a t.1&&(decide (1<=t.2.1.length)&&(decide (t.2.1.length<=8)&&decide (1<=t.2.2.length)))
 ·rfl
 ·cases j7T t.2.1
  ·rfl
  ·cases j4W t.2.1 (-1) t.2.2<;>rfl
theorem jbM (t:T) (h:tSm t) (k:Bool->Res):j2O t k=k (jaB t):=by
 have hh:=h
 obtain ⟨m1,m2,m3,m4,m5⟩:=hh
 unfold j2O jaB
 rw [j1b _ (by unfold LIM;omega),j3L,jaY t h,jaZ t h]
 have hd:decide (1<=nI t.2.1.length/\nI t.2.1.length<=8)=(decide (1<=t.2.1.length)&&decide (t.2.1.length<=8)):=by
  rw [<-Bool.decide_and]
  exact decide_eq_decide.2 (by unfold nI;omega)
 have hk:decide (nI t.2.2.length>0)=decide (1<=t.2.2.length):=decide_eq_decide.2 (by unfold nI;omega)
 rw [hd,hk]
 cases j7T t.2.1
 ·rw [Bool.false_and,Bool.and_false];rfl
 ·cases j4W t.2.1 (-1) t.2.2
  ·rw [Bool.and_false,Bool.and_false];rfl
  ·cases j0a t.1
   ·rfl
   ·cases decide (1<=t.2.1.length)
    ·rfl
    ·cases decide (t.2.1.length<=8)
     ·rfl
     ·cases decide (1<=t.2.2.length)<;>rfl
end Go.PI.G
namespace Go.PI.G
open Go Go.PI
def free (b:Int) (s:ByteArray):Prop:=b ∉ Z1o s
end Go.PI.G
namespace Go.PI.G
open Go Go.PI
abbrev D:=Int×ByteArray×List C×List ByteArray×ByteArray×ByteArray
abbrev ST:=Int×ByteArray×List V×List V×D
abbrev yD:Ty:= .pair (.int .i64) (.pair .str (.pair (.slice yC) (.pair (.slice .str) (.pair .str .str))))
abbrev yST:Ty:= .pair (.int .i64) (.pair .str (.pair (.slice yV) (.pair (.slice yV) yD)))
abbrev zD:D:=(0,eS,[],[],eS,eS)
theorem jbc:∃ m,Z1d=m+1:=⟨Z1d-1,by have:=Z2c (n:=1) (by omega);omega⟩
theorem j40 (n:Nat):(nI n==0)=(n==0):=by
 unfold nI
 cases n with
 | zero=>rfl
 | succ n=>show ((((n+1:Nat):Int))==0)=false;simp;omega
theorem jcB (n:Nat):(nI n==1)=(n==1):=by
 unfold nI
 by_cases h:n=1
 ·subst h;rfl
 ·have h1:(n==1)=false:=by simp [h]
  have h2:((n:Int)==1)=false:=by simp;omega
  rw [h1,h2]
theorem jca (m n:Nat):(nI m != nI n)= !(m==n):=by
 unfold nI
 by_cases h:m=n
 ·subst h;simp
 ·have h1:(m==n)=false:=by simp [h]
  have h2:((m:Int) != n)=true:=by simp;omega
  rw [h1,h2];rfl
def noD (d:D):Bool:=(d.1==0)&&(sEq d.2.1 eS&&((d.2.2.1.length==0)&&((d.2.2.2.1.length==0)&&(sEq d.2.2.2.2.1 eS&&sEq d.2.2.2.2.2 eS))))
def j6S (d:D):Bool:=(d.2.2.1.length==0)&&(d.2.2.2.1.length==0)
noncomputable def j7U (d:D):Bool:=j0a d.2.1 &&
 (bif d.1==1 then sEq d.2.2.2.2.1 eS&&(sEq d.2.2.2.2.2 eS&&jaB (d.2.1,d.2.2.1,d.2.2.2.1))
  else bif d.1==2 then j6S d&&(sEq d.2.2.2.2.1 eS&&sEq d.2.2.2.2.2 eS)
  else bif d.1==3 then (d.2.2.1.length==1)&&(j47 (nth zC d.2.2.1 0)&&(((nth zC d.2.2.1 0).2.2.2.1|| !(nth zC d.2.2.1 0).2.2.1)&&((d.2.2.2.1.length==0)&&(sEq d.2.2.2.2.1 eS&&sEq d.2.2.2.2.2 eS))))
  else bif d.1==4 then j6S d&&(j0a d.2.2.2.2.1&&sEq d.2.2.2.2.2 eS)
  else bif d.1==5 then j6S d&&(j0a d.2.2.2.2.1&&j0a d.2.2.2.2.2)
  else false)
def j2K (l:List V):Bool:=l.all j2E&&(decide (1<=l.length)&&decide (l.length<=8))
noncomputable def stB (s:ST):Bool:=j0a s.2.1 &&
 (bif s.1==1 then (s.2.2.1.length==0)&&(j2K s.2.2.2.1&&noD s.2.2.2.2)
  else bif s.1==2 then j2K s.2.2.1&&(j2K s.2.2.2.1&&noD s.2.2.2.2)
  else bif s.1==3 then j2K s.2.2.1&&((s.2.2.2.1.length==0)&&noD s.2.2.2.2)
  else bif s.1==4 then (s.2.2.1.length==0)&&((s.2.2.2.1.length==0)&&noD s.2.2.2.2)
  else bif s.1==5 then (s.2.2.1.length==0)&&((s.2.2.2.1.length==0)&&(j7U s.2.2.2.2&&sEq s.2.2.2.2.2.1 s.2.1))
  else false)
def dSm (d:D):Prop:=d.2.1.size<=1048576/\d.2.2.1.length<=1048576/\d.2.2.2.1.length<=1048576/\(∀ c∈d.2.2.1,c.1.size<=1048576)/\(∀ x∈d.2.2.2.1,x.size<=1048576)/\d.2.2.2.2.1.size<=1048576/\d.2.2.2.2.2.size<=1048576
def jaA (s:ST):Prop:=s.2.1.size<=1048576/\s.2.2.1.length<=1048576/\s.2.2.2.1.length<=1048576/\dSm s.2.2.2.2
end Go.PI.G
namespace Go.PI.G
open Go Go.PI Go.Proofs
theorem j5V (l:List ByteArray) (k:Bool->Res):j17 l [] k=k (l.length==0):=by
 unfold j17
 rw [jca]
 cases l with
 | nil=>
  obtain ⟨m,hm⟩:=jbc
  rw [show (!(([]:List ByteArray).length==([]:List ByteArray).length))=false from rfl,cond_false]
  unfold j2C
  rw [hm,Z9Z]
  rfl
 | cons x l=>rfl
theorem j7d (l:List C) (k:Bool->Res):j0H l [] k=k (l.length==0):=by
 unfold j0H
 rw [jca]
 cases l with
 | nil=>
  obtain ⟨m,hm⟩:=jbc
  rw [show (!(([]:List C).length==([]:List C).length))=false from rfl,cond_false]
  unfold j27
  rw [hm,Z9Z]
  rfl
 | cons x l=>rfl
theorem jbX (l:List C) (h:l.length<=LIM) (k:Bool->Res):j0H l l k=k true:=by
 unfold j0H j27
 rw [jca,beq_self_eq_true,Bool.not_true,cond_false]
 have:=Za3 l (λi=>i) (λ_=>false) (step:=j2T l l (nI l.length)) ((λ(_:Unit)=>k true),(λ(_:Unit)=>k false)) (k true) (k false) h (λi rec hi=>by
  show j0M _ _ _ _ _ _ _=_
  unfold j0M
  unfold LIM at h
  have hb:∀ x:Bool,(x==x)=true:=by decide
  rw [ZaR hi,cond_true,j04 hi,cond_true,cond_true]
  simp only [Zai,beq_self_eq_true,hb,Bool.and_true,Bool.not_true,cond_false]
  rw [j03 (by omega)]) (λrec=>by
  show j0M _ _ _ _ _ _ _=_
  unfold j0M
  rw [ZaQ,cond_false])
 refine this.trans ?_
 have:(l.any λ_=>false)=false:=by simp
 rw [this,cond_false]
theorem jdd {d:D} (h:dSm d):tSm (d.2.1,d.2.2.1,d.2.2.2.1):=⟨h.1,h.2.1,h.2.2.1,h.2.2.2.1,h.2.2.2.2.1⟩
theorem jdg (d:D) (K:Bool->Res):j3f d K=K (j6S d):=by
 unfold j3f j6S
 rw [j40,j40]
 cases d.2.2.1.length==0<;>rfl
theorem jcf (d:D) (h:dSm d) (k:Bool->Res):j43 d k=k (j7U d):=by
 have h0:=jdd h
 obtain ⟨m1,m2,m3,m4,m5,m6,m7⟩:=h
 obtain ⟨kd,t,cs,ks,n,m⟩:=d
 dsimp only at m1 m2 m3 m4 m5 m6 m7 h0
 unfold j43 j7U
 rw [jdg]
 generalize hpl:j6S (kd,t,cs,ks,n,m)=pl
 dsimp only
 rw [j1e _ (by unfold LIM;omega),j40]
 cases j0a t
 ·rfl
 ·rw [Bool.not_true,cond_false,Bool.true_and]
  cases kd==1
  ·cases kd==2
   ·cases kd==3
    ·cases kd==4
     ·cases kd==5
      ·rfl
      ·rw [cond_false,cond_false,cond_false,cond_false,cond_true,cond_false,cond_false,cond_false,cond_false,cond_true,j1e n (by unfold LIM;omega),j1e m (by unfold LIM;omega)]
       cases pl
       ·rfl
       ·cases j0a n<;>rfl
     ·rw [cond_false,cond_false,cond_false,cond_true,cond_false,cond_false,cond_false,cond_true,j1e n (by unfold LIM;omega)]
      cases pl
      ·rfl
      ·cases j0a n<;>rfl
    ·rw [cond_false,cond_false,cond_true,cond_false,cond_false,cond_true,jcB]
     cases hl:cs.length==1
     ·rfl
     ·have hl':cs.length=1:=by simpa using hl
      have hi:inb 0 cs.length=true:=by rw [hl'];rfl
      have hc:(nth zC cs 0).1.size<=LIM:=by
       have:=m4 (nth zC cs 0) (by rw [show (0:Int)=((0:Nat):Int) by rfl,Zaz _ _ _ (by omega)];exact List.getElem_mem _)
       unfold LIM;omega
      rw [cond_true,hi,cond_true,ja2 _ hc,Bool.true_and]
      cases j47 (nth zC cs 0)
      ·rfl
      ·rw [cond_true,cond_true,cond_true,Bool.true_and]
       cases (nth zC cs 0).2.2.2.1
       ·cases (nth zC cs 0).2.2.1
        ·cases ks.length==0
         ·rfl
         ·cases sEq n eS<;>rfl
        ·rfl
       ·cases ks.length==0
        ·rfl
        ·cases sEq n eS<;>rfl
   ·rw [cond_false,cond_true,cond_false,cond_true]
    cases pl
    ·rfl
    ·cases sEq n eS<;>rfl
  ·rw [cond_true,cond_true,jbP _ h0]
   cases sEq n eS
   ·rfl
   ·cases sEq m eS<;>rfl
theorem jbL (d:D) (h:dSm d) (k:T->Res):j38 d k=k (d.2.1,d.2.2.1,d.2.2.2.1):=by
 unfold j38 j5E j0v
 have h1:=h.2.1
 have h2:=h.2.2.1
 dsimp only
 rw [ZaM (by unfold LIM;omega),cond_true,ZaM (by unfold LIM;omega),cond_true]
theorem jc2 (d:D) (h:dSm d) (k:Bool->Res):j3Q d k=k (j7U d):=by
 have h0:=jdd h
 have hmd:=jbL d h
 obtain ⟨m1,m2,m3,m4,m5,m6,m7⟩:=h
 obtain ⟨kd,t,cs,ks,n,m⟩:=d
 dsimp only at m1 m2 m3 m4 m5 m6 m7 h0 hmd
 unfold j3Q j7U j6S
 dsimp only
 rw [j1b _ (by unfold LIM;omega)]
 have L1:cs.length<=LIM:=by unfold LIM;omega
 have L2:ks.length<=LIM:=by unfold LIM;omega
 cases j0a t
 ·rfl
 ·rw [Bool.not_true,cond_false,Bool.true_and]
  cases h1:kd==1
  ·cases kd==2
   ·cases kd==3
    ·cases kd==4
     ·cases kd==5
      ·rfl
      ·rw [cond_false,cond_false,cond_false,cond_false,cond_true,cond_false,cond_false,cond_false,cond_false,cond_true]
       unfold j0b
       dsimp only
       rw [beq_self_eq_true,cond_true,Zai,cond_true,j7d,j5V,Zai,cond_true,Zai,j1b n (by unfold LIM;omega),j1b m (by unfold LIM;omega)]
       cases cs.length==0
       ·rfl
       ·cases ks.length==0
        ·rfl
        ·cases j0a n<;>rfl
     ·rw [cond_false,cond_false,cond_false,cond_true,cond_false,cond_false,cond_false,cond_true]
      unfold j0b
      dsimp only
      rw [beq_self_eq_true,cond_true,Zai,cond_true,j7d,j5V,Zai,cond_true,j1b n (by unfold LIM;omega)]
      cases cs.length==0
      ·rfl
      ·cases ks.length==0
       ·rfl
       ·cases sEq m eS<;>cases j0a n<;>rfl
    ·rw [cond_false,cond_false,cond_true,cond_false,cond_false,cond_true,jcB]
     unfold j0b
     dsimp only
     rw [beq_self_eq_true,cond_true,Zai,cond_true,jbX _ L1,cond_true,j5V]
     cases hl:cs.length==1
     ·cases ks.length==0
      ·rfl
      ·cases sEq n eS
       ·rfl
       ·cases sEq m eS<;>rfl
     ·have hl':cs.length=1:=by simpa using hl
      have hi:inb 0 cs.length=true:=by rw [hl'];rfl
      have hc:(nth zC cs 0).1.size<=LIM:=by
       have:=m4 (nth zC cs 0) (by rw [show (0:Int)=((0:Nat):Int) by rfl,Zaz _ _ _ (by omega)];exact List.getElem_mem _)
       unfold LIM;omega
      rw [hi,j9M _ hc]
      cases ks.length==0
      ·cases j47 (nth zC cs 0)<;>cases (nth zC cs 0).2.2.2.1<;>cases (nth zC cs 0).2.2.1<;>rfl
      ·cases sEq n eS
       ·cases j47 (nth zC cs 0)<;>cases (nth zC cs 0).2.2.2.1<;>cases (nth zC cs 0).2.2.1<;>rfl
       ·cases sEq m eS<;>cases j47 (nth zC cs 0)<;>cases (nth zC cs 0).2.2.2.1<;>cases (nth zC cs 0).2.2.1<;>rfl
   ·rw [cond_false,cond_true,cond_false,cond_true]
    unfold j0b
    dsimp only
    rw [beq_self_eq_true,cond_true,Zai,cond_true,j7d,j5V]
    cases cs.length==0
    ·rfl
    ·cases ks.length==0
     ·rfl
     ·cases sEq n eS<;>rfl
  ·have e1:kd=1:=by simpa using h1
   subst e1
   rw [cond_true,cond_true,hmd,jbM _ h0]
   cases jaB (t,cs,ks)
   ·cases sEq n eS
    ·rfl
    ·cases sEq m eS<;>rfl
   ·cases sEq n eS<;>cases sEq m eS<;>rfl
theorem jch (d:D) (k:Bool->Res):j10 d k=k (noD d):=by
 unfold j10 noD
 rw [j40,j40]
 cases d.1==0
 ·rfl
 ·cases sEq d.2.1 eS
  ·rfl
  ·cases d.2.2.1.length==0
   ·rfl
   ·cases d.2.2.2.1.length==0
    ·rfl
    ·cases sEq d.2.2.2.2.1 eS<;>rfl
theorem jc4 (d:D) (k:Bool->Res):j0b d zD k=k (noD d):=by
 unfold j0b noD
 rw [j7d,j5V]
 cases d.1==0
 ·rfl
 ·cases sEq d.2.1 eS
  ·rfl
  ·cases d.2.2.1.length==0
   ·rfl
   ·cases d.2.2.2.1.length==0
    ·rfl
    ·cases sEq d.2.2.2.2.1 eS<;>rfl
theorem j9b (l:List V) (h:l.length<=LIM) (k:Bool->Res):j1i l k=k (j2K l):=by
 unfold j1i j5m j2K
 have:=Za3 l (λi=>i) (λv=> !j2E v) (step:=j4f l (nI l.length)) ((λ(_:Unit)=>bif decide ((nI l.length)>=1) then k (decide ((nI l.length)<=8)) else k false),(λ(_:Unit)=>k false)) (bif decide ((nI l.length)>=1) then k (decide ((nI l.length)<=8)) else k false) (k false) h (λi rec hi=>by
  show j1H _ _ _ _ _ _=_
  unfold j1H
  unfold LIM at h
  rw [ZaR hi,cond_true,j04 hi,cond_true,Zaz _ _ _ hi,ja4,j03 (n:=(i:Int)+1) (by omega)]) (λrec=>by
  show j1H _ _ _ _ _ _=_
  unfold j1H
  rw [ZaQ,cond_false])
 refine this.trans ?_
 have hall:(l.any λv=> !j2E v)= !l.all j2E:=by rw [List.all_eq_not_any_not];simp
 rw [hall]
 unfold nI
 cases l.all j2E
 ·rfl
 ·rw [Bool.not_true,cond_false,Bool.true_and]
  by_cases h1:1<=l.length
  ·rw [decide_eq_true (show (l.length:Int)>=1 by omega),cond_true,decide_eq_true h1,Bool.true_and]
   congr 1
   exact decide_eq_decide.2 (by omega)
  ·rw [decide_eq_false (show ¬ (l.length:Int)>=1 by omega),cond_false,decide_eq_false h1,Bool.false_and]
theorem j9a (l:List V) (h:l.length<=LIM) (k:Bool->Res):j0P l k=k (j2K l):=by
 unfold j0P j12 j32 j2a j2K
 rw [j3L]
 have hd:decide (1<=nI l.length/\nI l.length<=8)=(decide (1<=l.length)&&decide (l.length<=8)):=by
  rw [<-Bool.decide_and]
  exact decide_eq_decide.2 (by unfold nI;omega)
 rw [hd]
 cases decide (1<=l.length)&&decide (l.length<=8)
 ·rw [Bool.and_false];rfl
 ·rw [cond_true,Bool.and_true]
  have:=Z9T l (λi=>i) (λv=> !j2E v) (step:=j1K l (nI l.length)) ((λ(_:Unit)=>k (!decide ((-1:Int)>=0))),(λ(t:Int)=>k (!decide (t>=0)))) (λr=>k (!decide (r>=0))) h (λi rec hi=>by
   show j0o _ _ _ _ _ _=_
   unfold j0o j68
   unfold LIM at h
   rw [ZaR hi,cond_true,j04 hi,cond_true,Zaz _ _ _ hi,j9N,j03 (n:=(i:Int)+1) (by omega)]) (λrec=>by
   show j0o _ _ _ _ _ _=_
   unfold j0o
   rw [ZaQ,cond_false])
  refine this.trans ?_
  congr 1
  unfold Z9G
  cases hf:l.findIdx? λv=> !j2E v with
  | none=>
   rw [List.findIdx?_eq_none_iff] at hf
   symm
   show l.all j2E=true
   rw [List.all_eq_true]
   intro v hv
   simpa using hf v hv
  | some i=>
   dsimp only
   rw [decide_eq_true (show (i:Int)>=0 by omega)]
   obtain ⟨hi,hp,_⟩:=List.findIdx?_eq_some_iff_getElem.1 hf
   symm
   show l.all j2E=false
   rw [List.all_eq_false]
   exact ⟨l[i],List.getElem_mem _,by simpa using hp⟩
theorem jcE (s:ST) (h:jaA s) (k:Bool->Res):j3n s k=k (stB s):=by
 obtain ⟨m1,m2,m3,m4⟩:=h
 unfold j3n stB j2V
 have L2:s.2.2.1.length<=LIM:=by unfold LIM;omega
 have L3:s.2.2.2.1.length<=LIM:=by unfold LIM;omega
 rw [j1e _ (by unfold LIM;omega),j40,j40]
 simp only [j9b _ L2,j9b _ L3,jch,jcf _ m4]
 cases j0a s.2.1
 ·rfl
 ·rw [Bool.not_true,cond_false,Bool.true_and]
  cases s.1==1
  ·cases s.1==2
   ·cases s.1==3
    ·cases s.1==4
     ·cases s.1==5
      ·rfl
      ·cases s.2.2.1.length==0
       ·rfl
       ·cases s.2.2.2.1.length==0
        ·rfl
        ·cases j7U s.2.2.2.2<;>rfl
     ·cases s.2.2.1.length==0
      ·rfl
      ·cases s.2.2.2.1.length==0<;>rfl
    ·cases j2K s.2.2.1
     ·rfl
     ·cases s.2.2.2.1.length==0<;>rfl
   ·cases j2K s.2.2.1
    ·rfl
    ·cases j2K s.2.2.2.1<;>rfl
  ·cases s.2.2.1.length==0
   ·rfl
   ·cases j2K s.2.2.2.1<;>rfl
theorem jcs {d:D} (h:j7U d=true):j0a d.2.1=true:=by
 unfold j7U at h
 rw [Bool.and_eq_true] at h
 exact h.1
theorem jcy (s:ST) (h:jaA s) (k:Bool->Res):j3g s k=k (stB s):=by
 obtain ⟨m1,m2,m3,m4⟩:=h
 unfold j3g stB j2N
 have L2:s.2.2.1.length<=LIM:=by unfold LIM;omega
 have L3:s.2.2.2.1.length<=LIM:=by unfold LIM;omega
 rw [j1b _ (by unfold LIM;omega),j40,j40]
 simp only [j9a _ L2,j9a _ L3,jc4,jc2 _ m4]
 cases h5:s.1==5
 ·rw [cond_false]
  cases j0a s.2.1
  ·rfl
  ·rw [Bool.not_true,cond_false,Bool.true_and]
   cases s.1==1
   ·cases s.1==2
    ·cases s.1==3
     ·cases s.1==4
      ·cases noD s.2.2.2.2<;>rfl
      ·cases noD s.2.2.2.2<;>cases s.2.2.1.length==0<;>cases s.2.2.2.1.length==0<;>rfl
     ·cases noD s.2.2.2.2<;>cases j2K s.2.2.1<;>cases s.2.2.2.1.length==0<;>rfl
    ·cases noD s.2.2.2.2<;>cases j2K s.2.2.1<;>cases j2K s.2.2.2.1<;>rfl
   ·cases noD s.2.2.2.2<;>cases s.2.2.1.length==0<;>cases j2K s.2.2.2.1<;>rfl
 ·have e5:s.1=5:=by simpa using h5
  rw [cond_true,e5,show ((5:Int)==1)=false from rfl,show ((5:Int)==2)=false from rfl,show ((5:Int)==3)=false from rfl,show ((5:Int)==4)=false from rfl,cond_false,cond_false,cond_false,cond_false,cond_true]
  cases hd:j7U s.2.2.2.2
  ·rw [cond_false]
   cases j0a s.2.1<;>cases s.2.2.1.length==0<;>cases s.2.2.2.1.length==0<;>rfl
  ·rw [cond_true,Zah s.2.1]
   cases he:sEq s.2.2.2.2.2.1 s.2.1
   ·rw [cond_false]
    cases j0a s.2.1<;>cases s.2.2.1.length==0<;>cases s.2.2.2.1.length==0<;>rfl
   ·have hw:=jcs hd
    rw [(j7I _ _).1 he] at hw
    rw [hw]
    cases s.2.2.1.length==0<;>cases s.2.2.2.1.length==0<;>rfl
end Go.PI.G
namespace Go.PI.G
open Go Go.PI
theorem jdm {d:D} (h:msr yD d<=1048576):dSm d:=by
 have e4:msr yD d=0+(d.2.1.size+(msr (.slice yC) d.2.2.1+(msr (.slice .str) d.2.2.2.1+(d.2.2.2.2.1.size+d.2.2.2.2.2.size)))):=rfl
 have h2:msr (.slice yC) d.2.2.1<=1048576:=by omega
 have h3:msr (.slice .str) d.2.2.2.1<=1048576:=by omega
 refine ⟨by omega,j0g h2,j0g h3,λc hc=> ?_,λx hx=>j0h h3 hx,by omega,by omega⟩
 have:=j0h h2 hc
 have h4:msr yC c=c.1.size+msr (.pair (.int .i64) (.pair .bool (.pair .bool yV))) c.2:=rfl
 omega
theorem jdk {s:ST} (h:msr yST s<=1048576):jaA s:=by
 have e3:msr yST s=0+(s.2.1.size+(msr (.slice yV) s.2.2.1+(msr (.slice yV) s.2.2.2.1+msr yD s.2.2.2.2))):=rfl
 have h2:msr (.slice yV) s.2.2.1<=1048576:=by omega
 have h3:msr (.slice yV) s.2.2.2.1<=1048576:=by omega
 exact ⟨by omega,j0g h2,j0g h3,jdm (by omega)⟩
end Go.PI.G
namespace Go.PI.G
open Go Go.PI
end Go.PI.G
namespace Go.PI.G
open Go Go.PI
end Go.PI.G
namespace Go.PI.G
open Go Go.PI
end Go.PI.G
namespace Go.PI.G
open Go Go.PI
abbrev PT:=ST×List ByteArray×List ByteArray
abbrev BT:=Int×Int×List PT
abbrev yPT:Ty:= .pair yST (.pair (.slice .str) (.slice .str))
abbrev yBT:Ty:= .pair (.int .i64) (.pair (.int .i64) (.slice yPT))
noncomputable def j5p (l:List ByteArray):Bool:=l.all j0a&&decide (l.length<=8)
noncomputable def j59 (p:PT):Bool:=stB p.1&&(j5p p.2.1&&j5p p.2.2)
def j4h (x:BT):Bool:=decide (1<=x.1/\x.1<=400/\0<=x.2.1/\x.2.1<x.1/\nI x.2.2.length<=60)
noncomputable def j7S (x:BT):Bool:=j4h x&&x.2.2.all j59
end Go.PI.G
namespace Go.PI.G
open Go Go.PI Go.Proofs
noncomputable def jco (l:List ByteArray):Prop:=l.length<=1048576/\∀ w∈l,w.size<=1048576
theorem jaK (l:List ByteArray) (h:jco l) (k:Bool->Res):j2i l k=k (j5p l):=by
 unfold j2i j4L j5p
 have hl:=h.1
 have:=Za3 l (λi=>i) (λv=> !j0a v) (step:=j3K l (nI l.length)) ((λ(_:Unit)=>k (decide (nI l.length<=8))),(λ(_:Unit)=>k false)) (k (decide (nI l.length<=8))) (k false) (by unfold LIM;omega) (λi rec hi=>by
  show j1j _ _ _ _ _ _=_
  unfold j1j
  have hw:=h.2 _ (List.getElem_mem hi)
  rw [ZaR hi,cond_true,j04 hi,cond_true,Zaz _ _ _ hi,j1e _ (by unfold LIM;omega),j03 (n:=(i:Int)+1) (by omega)]) (λrec=>by
  show j1j _ _ _ _ _ _=_
  unfold j1j
  rw [ZaQ,cond_false])
 refine this.trans ?_
 have hall:(l.any λv=> !j0a v)= !l.all j0a:=by rw [List.all_eq_not_any_not];simp
 rw [hall]
 cases l.all j0a
 ·rfl
 ·rw [Bool.not_true,cond_false,Bool.true_and]
  congr 1
  exact decide_eq_decide.2 (by unfold nI;omega)
theorem jaG (l:List ByteArray) (h:jco l) (k:Bool->Res):j2c l k=k (j5p l):=by
 unfold j2c j1s j2b j1t j5p
 have hl:=h.1
 have hd:decide (nI l.length<=8)=decide (l.length<=8):=decide_eq_decide.2 (by unfold nI;omega)
 rw [hd]
 cases decide (l.length<=8)
 ·rw [Bool.and_false];rfl
 ·rw [cond_true,Bool.and_true]
  have:=Z9T l (λi=>i) (λv=> !j0a v) (step:=j18 l (nI l.length)) ((λ(_:Unit)=>k (!decide ((-1:Int)>=0))),(λ(t:Int)=>k (!decide (t>=0)))) (λr=>k (!decide (r>=0))) (by unfold LIM;omega) (λi rec hi=>by
   show j0i _ _ _ _ _ _=_
   unfold j0i j5D
   have hw:=h.2 _ (List.getElem_mem hi)
   rw [ZaR hi,cond_true,j04 hi,cond_true,Zaz _ _ _ hi,j1b _ (by unfold LIM;omega),j03 (n:=(i:Int)+1) (by omega)]) (λrec=>by
   show j0i _ _ _ _ _ _=_
   unfold j0i
   rw [ZaQ,cond_false])
  refine this.trans ?_
  congr 1
  unfold Z9G
  cases hf:l.findIdx? λv=> !j0a v with
  | none=>
   rw [List.findIdx?_eq_none_iff] at hf
   symm
   show l.all j0a=true
   rw [List.all_eq_true]
   intro v hv
   simpa using hf v hv
  | some i=>
   dsimp only
   rw [decide_eq_true (show (i:Int)>=0 by omega)]
   obtain ⟨hi,hp,_⟩:=List.findIdx?_eq_some_iff_getElem.1 hf
   symm
   show l.all j0a=false
   rw [List.all_eq_false]
   exact ⟨l[i],List.getElem_mem _,by simpa using hp⟩
noncomputable def jcY (p:PT):Prop:=jaA p.1/\jco p.2.1/\jco p.2.2
noncomputable def jbV (x:BT):Prop:=x.2.2.length<=1048576/\∀ p∈x.2.2,jcY p
theorem jaH (p:PT) (a z:Res):(bif !stB p.1 then z else bif !j5p p.2.1 then z else bif !j5p p.2.2 then z else a)=bif !j59 p then z else a:=by
 unfold j59
 cases stB p.1
 ·rfl
 ·cases j5p p.2.1
  ·rfl
  ·rfl
theorem jcU (x:BT) (hl:x.2.2.length<=1048576) (K:Bool->Res):j2t x K=K (!j4h x):=by
 unfold j2t
 by_cases h1:x.1<1
 ·rw [decide_eq_true h1,cond_true];congr 1;unfold j4h;rw [decide_eq_false (by omega)];rfl
 rw [decide_eq_false h1,cond_false]
 by_cases h2:x.1>400
 ·rw [decide_eq_true h2,cond_true];congr 1;unfold j4h;rw [decide_eq_false (by omega)];rfl
 rw [decide_eq_false h2,cond_false]
 by_cases h3:x.2.1<0
 ·rw [decide_eq_true h3,cond_true];congr 1;unfold j4h;rw [decide_eq_false (by omega)];rfl
 rw [decide_eq_false h3,cond_false]
 by_cases h4:x.2.1>=x.1
 ·rw [decide_eq_true h4,cond_true];congr 1;unfold j4h;rw [decide_eq_false (by omega)];rfl
 rw [decide_eq_false h4,cond_false]
 congr 1
 unfold j4h
 by_cases h5:nI x.2.2.length>60
 ·rw [decide_eq_true h5,decide_eq_false (by omega)];rfl
 ·rw [decide_eq_false h5,decide_eq_true (by omega)];rfl
theorem jce (x:BT) (h:jbV x) (k:Bool->Res):j2U x k=k (j7S x):=by
 unfold j2U
 rw [jcU x h.1]
 have hl:=h.1
 cases hf:j4h x
 ·unfold j7S;rw [hf];rfl
 ·rw [Bool.not_true,cond_false]
  unfold j3y
  refine (Za3 x.2.2 (λi=>i) (λp=> !j59 p) (step:=j2I x.2.2 (nI x.2.2.length)) ((λ(_:Unit)=>k true),(λ(_:Unit)=>k false)) (k true) (k false) (by unfold LIM;omega) (λi rec hi=>by
   show j0W _ _ _ _ _ _=_
   unfold j0W
   have hp:=h.2 _ (List.getElem_mem hi)
   rw [ZaR hi,cond_true,j04 hi,cond_true,Zaz _ _ _ hi,jcE _ hp.1]
   simp only [jaK _ hp.2.1,jaK _ hp.2.2]
   rw [j03 (n:=(i:Int)+1) (by omega)]
   exact jaH _ _ _) (λrec=>by
   show j0W _ _ _ _ _ _=_
   unfold j0W
   rw [ZaQ,cond_false])).trans ?_
  have hall:(x.2.2.any λv=> !j59 v)= !x.2.2.all j59:=by rw [List.all_eq_not_any_not];simp
  unfold j7S
  rw [hall,hf,Bool.true_and]
  cases x.2.2.all j59<;>rfl
theorem jc1 (x:BT) (h:jbV x) (k:Bool->Res):j2M x k=k (j7S x):=by
 unfold j2M j3t
 have hl:=h.1
 refine (Za3 x.2.2 (λi=>i) (λp=> !j59 p) (step:=j2F x.2.2 (nI x.2.2.length)) ((λ(_:Unit)=>j07 x.1 1 400 λ(r:Bool)=>bif r then j07 x.2.1 0 (Z9L (x.1-1)) λ(r1:Bool)=>bif r1 then k (decide (nI x.2.2.length<=60)) else k false else k false),(λ(_:Unit)=>k false)) (k (j4h x)) (k false) (by unfold LIM;omega) (λi rec hi=>by
  show j0U _ _ _ _ _ _=_
  unfold j0U
  have hp:=h.2 _ (List.getElem_mem hi)
  rw [ZaR hi,cond_true,j04 hi,cond_true,Zaz _ _ _ hi,jcy _ hp.1]
  simp only [jaG _ hp.2.1,jaG _ hp.2.2]
  rw [j03 (n:=(i:Int)+1) (by omega)]
  exact jaH _ _ _) (λrec=>by
  show j0U _ _ _ _ _ _=_
  unfold j0U
  rw [ZaQ,cond_false]
  simp only [j3L]
  unfold j4h
  by_cases h1:1<=x.1/\x.1<=400
  ·rw [decide_eq_true h1,cond_true,j03 (by omega)]
   by_cases h2:0<=x.2.1/\x.2.1<=x.1-1
   ·rw [decide_eq_true h2,cond_true]
    congr 1
    exact decide_eq_decide.2 ⟨λh3=>⟨h1.1,h1.2,h2.1,by omega,h3⟩,λh3=>h3.2.2.2.2⟩
   ·rw [decide_eq_false h2,cond_false,decide_eq_false (by omega)]
  ·rw [decide_eq_false h1,cond_false,decide_eq_false (by omega)])).trans ?_
 have hall:(x.2.2.any λv=> !j59 v)= !x.2.2.all j59:=by rw [List.all_eq_not_any_not];simp
 unfold j7S
 rw [hall]
 cases x.2.2.all j59
 ·rw [Bool.and_false];rfl
 ·rw [Bool.and_true];rfl
theorem jcA {x:BT} (h:msr yBT x<=1048576):jbV x:=by
 have e1:msr yBT x=0+(0+msr (.slice yPT) x.2.2):=rfl
 have h2:msr (.slice yPT) x.2.2<=1048576:=by omega
 refine ⟨j0g h2,λp hp=> ?_⟩
 have h3:=j0h h2 hp
 have e4:msr yPT p=msr yST p.1+(msr (.slice .str) p.2.1+msr (.slice .str) p.2.2):=rfl
 have h5:msr (.slice .str) p.2.1<=1048576:=by omega
 have h6:msr (.slice .str) p.2.2<=1048576:=by omega
 exact ⟨jdk (by omega),⟨j0g h5,λw hw=>j0h h5 hw⟩,⟨j0g h6,λw hw=>j0h h6 hw⟩⟩
end Go.PI.G
namespace Go.PI.G
open Go Go.PI Go.Proofs
noncomputable def j7Z (p:List ByteArray):Bool:= !Z72 (λi s=> !j0a s||(decide (0<i)&&sGe (nth eS p ((i:Int)-1)) s)) 0 p&&decide (p.length<=6)
theorem jbw (c:List ByteArray) (i:Nat) (hi:i<c.length) (hl:c.length<=LIM) (x:Res) (y:Res):(bif decide ((i:Int)>0) then (bif inb (Z9L ((i:Int)-1)) c.length then (bif sGe (nth eS c (Z9L ((i:Int)-1))) c[i] then x else y) else none) else y) =
  bif (decide (0<i)&&sGe (nth eS c ((i:Int)-1)) c[i]) then x else y:=by
 by_cases h:0<i
 ·unfold LIM at hl
  rw [decide_eq_true (show (i:Int)>0 by omega),decide_eq_true h,cond_true,j03 (by omega),ZaL (by omega) (by omega),cond_true,Bool.true_and]
 ·rw [decide_eq_false (show ¬ (i:Int)>0 by omega),decide_eq_false h];rfl
theorem jba {p:List ByteArray} (h:msr (.slice .str) p<=1048576):p.length<=1048576/\∀ x∈p,x.size<=1048576:=⟨j0g h,λx hx=>j0h h hx⟩
theorem ja3 (p:List ByteArray) (h:msr (.slice .str) p<=1048576) (k:Bool->Res):j33 p k=k (j7Z p):=by
 obtain ⟨m1,m2⟩:=jba h
 unfold j33 j6d j7Z
 have:=Z9Q p (λi=>i) (λi s=> !j0a s||(decide (0<i)&&sGe (nth eS p ((i:Int)-1)) s)) (step:=j5l p (nI p.length) p) ((λ(_:Unit)=>k (decide (nI p.length<=6))),(λ(_:Unit)=>k false)) (k (decide (nI p.length<=6))) (k false) (by unfold LIM;omega) (λi rec hi=>by
  show j2w _ _ p _ _ _ _=_
  unfold j2w
  rw [ZaR hi,cond_true,j04 hi,cond_true,Zaz _ _ _ hi,j1e _ (by have:=m2 _ (List.getElem_mem hi);unfold LIM;omega),j03 (n:=(i:Int)+1) (by omega),jbw p i hi (by unfold LIM;omega)]
  cases j0a p[i]
  ·rfl
  ·cases (decide (0<i)&&sGe (nth eS p ((i:Int)-1)) p[i])<;>rfl) (λrec=>by
  show j2w _ _ p _ _ _ _=_
  unfold j2w
  rw [ZaQ,cond_false])
 refine this.trans ?_
 have hd:decide (nI p.length<=6)=decide (p.length<=6):=decide_eq_decide.2 (by unfold nI;omega)
 rw [hd]
 cases Z72 (λi s=> !j0a s||(decide (0<i)&&sGe (nth eS p ((i:Int)-1)) s)) 0 p
 ·rw [cond_false,Bool.not_false,Bool.true_and]
 ·rfl
theorem jc6 (p:List ByteArray) (h:msr (.slice .str) p<=1048576) (k:Bool->Res):j4T p k=k (j7Z p):=by
 obtain ⟨m1,m2⟩:=jba h
 unfold j4T j67 j7Z
 have:=Z9Q p (λi=>i) (λi s=> !j0a s||(decide (0<i)&&sGe (nth eS p ((i:Int)-1)) s)) (step:=j4U p (nI p.length) p) ((λ(_:Unit)=>k (decide (nI p.length<=6))),(λ(_:Unit)=>k false)) (k (decide (nI p.length<=6))) (k false) (by unfold LIM;omega) (λi rec hi=>by
  show j2m _ _ p _ _ _ _=_
  unfold j2m
  rw [ZaR hi,cond_true,j04 hi,cond_true,Zaz _ _ _ hi,j1b _ (by have:=m2 _ (List.getElem_mem hi);unfold LIM;omega),j03 (n:=(i:Int)+1) (by omega),jbw p i hi (by unfold LIM;omega)]
  cases j0a p[i]
  ·rfl
  ·cases (decide (0<i)&&sGe (nth eS p ((i:Int)-1)) p[i])<;>rfl) (λrec=>by
  show j2m _ _ p _ _ _ _=_
  unfold j2m
  rw [ZaQ,cond_false])
 refine this.trans ?_
 have hd:decide (nI p.length<=6)=decide (p.length<=6):=decide_eq_decide.2 (by unfold nI;omega)
 rw [hd]
 cases Z72 (λi s=> !j0a s||(decide (0<i)&&sGe (nth eS p ((i:Int)-1)) s)) 0 p
 ·rw [cond_false,Bool.not_false,Bool.true_and]
 ·rfl
end Go.PI.G
namespace Go.PI.G
open Go Go.PI Go.Proofs
noncomputable def j6H (p:List ByteArray) (s:ByteArray):Bool:=p.any λx=>sEq x s
theorem jcV {α:Type} (q:α->Bool) (l:List α):decide (Z9G q l>=0)=l.any q:=by
 unfold Z9G
 cases h:l.findIdx? q with
 | none=>
  have:=List.findIdx?_eq_none_iff.1 h
  have ha:l.any q=false:=by
   rw [List.any_eq_false]
   intro x hx
   rw [this x hx];simp
  rw [ha];rfl
 | some i=>
  have:=List.findIdx?_eq_some_iff_getElem.1 h
  obtain ⟨hi,hq,_⟩:=this
  have ha:l.any q=true:=List.any_eq_true.2 ⟨l[i],List.getElem_mem hi,hq⟩
  rw [ha]
  show decide ((i:Int)>=0)=true
  exact decide_eq_true (by omega)
theorem jc3 (l:List ByteArray) (s:ByteArray) (h:l.length<=LIM) (k:Bool->Res):j1c l s k=k (j6H l s):=by
 unfold j1c j3s j2D j6H
 have:=Z9T l (λi=>i) (λx=>sEq s x) (step:=j1Y l s (nI l.length)) ((λ(_:Unit)=>k (decide ((-1:Int)>=0))),(λ(t:Int)=>k (decide (t>=0)))) (λr=>k (decide (r>=0))) h (λi rec hi=>by
  show j0s _ _ _ _ _ _ _=_
  unfold j0s
  unfold LIM at h
  rw [ZaR hi,cond_true,j04 hi,cond_true,Zaz _ _ _ hi,j03 (n:=(i:Int)+1) (by omega)]) (λrec=>by
  show j0s _ _ _ _ _ _ _=_
  unfold j0s
  rw [ZaQ,cond_false])
 refine this.trans ?_
 rw [jcV]
 have:(λx=>sEq s x)=λx=>sEq x s:=by funext x;exact Zah s x
 rw [this]
end Go.PI.G
namespace Go.PI.G
open Go Go.PI Go.Proofs
theorem jcg (l:List ByteArray) (s:ByteArray) (h:l.length<=LIM) (k:Bool->Res):j4p l s k=k (j6H l s):=by
 unfold j4p j5R j6H
 have:=Za3 l (λi=>i) (λx=>sEq x s) (step:=j4K s l (nI l.length)) ((λ(_:Unit)=>k false),(λ(_:Unit)=>k true)) (k false) (k true) h (λi rec hi=>by
  show j20 _ _ _ _ _ _ _=_
  unfold j20
  unfold LIM at h
  rw [ZaR hi,cond_true,j04 hi,cond_true,Zaz _ _ _ hi,j03 (n:=(i:Int)+1) (by omega)]) (λrec=>by
  show j20 _ _ _ _ _ _ _=_
  unfold j20
  rw [ZaQ,cond_false])
 refine this.trans ?_
 cases l.any λx=>sEq x s<;>rfl
end Go.PI.G
namespace Go.PI.G
open Go Go.PI Go.Proofs
theorem j8a (k:ByteArray->Res):∀ (m n d:Nat) (s:ByteArray),n<m->0<n->n<=4294967296->n<10 ^ (d+1)->s.size+d<=1000 ->
  Z1g j2r m ((n:Int),s) k=k (j7V n++s)
 | 0,n,d,s,h,_,_,_,_=>by omega
 | m+1,n,d,s,h,hn,hb,hd,hs=>by
  rw [Z9Z]
  show j1g _ _ _ _=_
  unfold j1g
  have h9:decide ((n:Int)>0)=true:=decide_eq_true (by omega)
  rw [h9,cond_true,jd6,jd7,ZaI (n:=((n / 10:Nat):Int)) (by omega) (by omega)]
  show (bif lim ((dgt ((n % 10:Nat):Int)).size+s.size) then Z1g j2r m (((n / 10:Nat):Int),dgt ((n % 10:Nat):Int)++s) k else none)=_
  rw [j6G,ZaM (by unfold LIM;omega),cond_true]
  by_cases h1:n<10
  ·have h10:n / 10=0:=by omega
   have h11:n % 10=n:=by omega
   rw [h10,h11,jap h1]
   obtain ⟨m,rfl⟩:∃ e,m=e+1:=⟨m-1,by omega⟩
   rw [Z9Z]
   show j1g _ _ _ _=_
   unfold j1g
   have h0:decide (((0:Nat):Int)>0)=false:=decide_eq_false (by omega)
   rw [h0,cond_false]
  ·obtain ⟨d,rfl⟩:∃ e,d=e+1:=by
    cases d with
    | zero=>exact absurd (by simpa using hd) h1
    | succ d=>exact ⟨d,rfl⟩
   rw [j8a k m (n / 10) d _ (by omega) (by omega) (by omega) (Nat.div_lt_of_lt_mul (by rw [Nat.pow_succ] at hd;omega)) (by rw [ByteArray.size_append,j6G];omega),jbS h1,ByteArray.append_assoc]
theorem j1L (k:Int) (h:1<=k/\k<=4294967296) (K:ByteArray->Res):j05 k K=K (mT k):=by
 unfold j05 j4A
 have h0:decide (k<=0)=false:=decide_eq_false (by omega)
 have:=j8a (λ(out:ByteArray)=>bif lim (1+(ByteArray.size out)) then K (z_m++out) else none) Z1d k.toNat 12 eS (Z2c (by omega)) (by omega) (by omega) (by omega) (by show 0+12<=1000;omega)
 rw [show ((k.toNat:Nat):Int)=k by omega,jdi] at this
 rw [h0,cond_false]
 refine this.trans ?_
 have hs:=jaC 12 k.toNat (by omega)
 rw [ZaM (by unfold LIM;omega),cond_true]
 rfl
end Go.PI.G
set_option maxRecDepth 10000
namespace Go.PI.G
open Go Go.PI Go.Proofs
theorem jbF (a:Int×Int×ByteArray) (h:msr y2 a<=1048576) (k:qV->Res):j58 a k=k a:=by
 unfold j58
 rfl
theorem jbE (a:Int×Int×ByteArray) (left:Int) (h0:0<=left) (h1:left<=1048576) (hw:Wf y2 a) (k:Int->Res):j55 a left k=k (szR left (msr y2 a)):=by
 have hm:msr y2 a=ByteArray.size a.2.2+0:=by simp only [msr];omega
 rw [hm]
 unfold j55
 have hx0:ByteArray.size a.2.2<=maxLen:=hw.2.2
 unfold maxLen at hx0
 rw [j03 (by unfold nI;omega)]
 by_cases hb0:((ByteArray.size a.2.2:Nat):Int)<=left
 rotate_left
 ·rw [Zam hb0,Za6 (by unfold nI;omega),cond_true]
 rw [Za5 (by unfold nI;omega),cond_false,Zal hb0,show left-nI (ByteArray.size a.2.2)=left-((ByteArray.size a.2.2:Nat):Int) from rfl]
 exact j60 (by omega)
theorem jbr (a:Int×Int×ByteArray) (h:msr y2 a<=1048576) (k:Bool->Res):j51 a a k=k true:=by
 unfold j51
 simp only [ZaP,Zaj,beq_self_eq_true,cond_false,Bool.not_true]
end Go.PI.G
namespace Go.PI.G
open Go Go.PI Go.Proofs
theorem jd8 (a:ByteArray×Int×Bool×Bool×Int×Int×ByteArray) (h:msr y7 a<=1048576) (k:qC->Res):j6t a k=k a:=by
 have h4:msr y2 a.2.2.2.2<=1048576:=(Nat.le_trans (@j01 .bool y2 a.2.2.2) (Nat.le_trans (@j01 .bool y4 a.2.2) (Nat.le_trans (@j01 (.int .i64) y5 a.2) (Nat.le_trans (@j01 .str y6 a) h))))
 unfold j6t
 simp only [jbF _ h4]
theorem jd0 (a:ByteArray×Int×Bool×Bool×Int×Int×ByteArray) (left:Int) (h0:0<=left) (h1:left<=1048576) (hw:Wf y7 a) (k:Int->Res):j6s a left k=k (szR left (msr y7 a)):=by
 have hm:msr y7 a=ByteArray.size a.1+(msr y2 a.2.2.2.2+0):=by simp only [msr];omega
 rw [hm]
 unfold j6s
 have hx0:ByteArray.size a.1<=maxLen:=hw.1
 unfold maxLen at hx0
 rw [j03 (by unfold nI;omega)]
 by_cases hb0:((ByteArray.size a.1:Nat):Int)<=left
 rotate_left
 ·rw [Zam hb0,Za6 (by unfold nI;omega),cond_true]
 rw [Za5 (by unfold nI;omega),cond_false,Zal hb0,show left-nI (ByteArray.size a.1)=left-((ByteArray.size a.1:Nat):Int) from rfl]
 rw [jbE _ _ (by omega) (by omega) hw.2.2.2.2]
 by_cases hb1:((msr y2 a.2.2.2.2:Nat):Int)<=left-(ByteArray.size a.1:Nat)
 rotate_left
 ·rw [ZaA hb1,Zam hb1,Za6 (by omega),cond_true]
 rw [ZaB hb1,Zal hb1,Za5 (by omega),cond_false]
 exact j60 (by omega)
theorem jcP (a:ByteArray×Int×Bool×Bool×Int×Int×ByteArray) (h:msr y7 a<=1048576) (k:Bool->Res):j6r a a k=k true:=by
 have h4:msr y2 a.2.2.2.2<=1048576:=(Nat.le_trans (@j01 .bool y2 a.2.2.2) (Nat.le_trans (@j01 .bool y4 a.2.2) (Nat.le_trans (@j01 (.int .i64) y5 a.2) (Nat.le_trans (@j01 .str y6 a) h))))
 unfold j6r
 simp only [ZaP,Zaj,beq_self_eq_true,cond_false,Bool.not_true,jbr _ h4]
end Go.PI.G
namespace Go.PI.G
open Go Go.PI Go.Proofs
theorem jcI (a:qE) (h:msr y8 a<=1048576) (k:qE->Res):j4m a k=k a:=by
 have hl:a.length<=1048576:=j0g h
 unfold j4m
 rw [Zaw (by unfold LIM;omega),cond_true]
 have:=ZaD ((eS,0,false,false,0,0,eS)) a id (step:=j4C a) (λout=>k out) (by unfold LIM;omega) (λout i rec hi hlo=>by
  show j1W a _ _ _ _=_
  unfold j1W
  dsimp only
  simp only [ZaR hi,cond_true,j04 hi,j04 (show i<out.length by omega),Zaz _ _ _ hi,ZaG,j03 (n:=(i:Int)+1) (by omega),jd8 _ (j0h h (List.getElem_mem hi))]
  rfl) (λout rec=>by
  show j1W a _ _ _ _=_
  unfold j1W
  dsimp only
  rw [ZaQ,cond_false])
 rw [List.map_id] at this
 exact this
theorem jcF (a:qE) (left:Int) (h0:0<=left) (h1:left<=1048576) (hw:Wf y8 a) (k:Int->Res):j4k a left k=k (szR left (msr y8 a)):=by
 have hl:a.length<=maxLen:=hw.1
 have hm:msr y8 a=a.length+(a.map (msr y7)).sum:=rfl
 rw [hm]
 unfold j4k
 refine ja6 (F:=λq=>j3W a Z1d q 0 (λleft1=>k left1) (λ_=>k (-1))) (k:=k) h0 h1 hl λhb=> ?_
 unfold j3W
 rw [ZaC (msr y7) a _ (by omega) (λleft i rec hi h0 h1=> ?_) (λleft rec=> ?_) _ (by omega) (by omega)]
 ·by_cases hb:(((a.map (msr y7)).sum:Nat):Int)<=left-a.length
  ·rw [if_pos hb,ZaB hb]
  ·rw [if_neg hb,ZaA hb]
 ·show j1U a _ _ _ _ _=_
  have hx:=hw.2 _ (List.getElem_mem hi)
  unfold j1U
  rw [ZaR hi,cond_true,j04 hi,cond_true,Zaz _ _ _ hi,jd0 _ _ h0 h1 hx]
  have hi9:(i:Int)<4611686018427387904:=by unfold maxLen at hl;omega
  rw [j03 (n:=(i:Int)+1) (by omega)]
  by_cases hb:((msr y7 a[i]:Nat):Int)<=left
  ·rw [if_pos hb,ZaB hb,Za5 (by omega),cond_false]
  ·rw [if_neg hb,ZaA hb,Za6 (by omega),cond_true]
 ·show j1U a _ _ _ _ _=_
  unfold j1U
  rw [ZaQ,cond_false]
theorem jcv (a:qE) (h:msr y8 a<=1048576) (k:Bool->Res):j4i a a k=k true:=by
 have hl:a.length<=1048576:=j0g h
 unfold j4i
 rw [ZaP,cond_false]
 unfold j5F
 rw [Zas a _ (by unfold LIM;omega) (λi rec hi=> ?_) (λrec=> ?_)]
 ·show j1P a a _ _ _ _=_
  unfold j1P
  simp only [ZaR hi,cond_true,j04 hi,Zaz _ _ _ hi,j03 (n:=(i:Int)+1) (by omega),ZaP,Zaj,cond_false,Bool.not_true,jcP _ (j0h h (List.getElem_mem hi))]
 ·show j1P a a _ _ _ _=_
  unfold j1P
  rw [ZaQ,cond_false]
theorem jbN (a:qE) (k:Int) (h:msr y8 a<=1048576) (h0:1<=k) (hk:k+(wgt y8 a:Int)<=4294967296) (K:Int->qE->Res):j3c a k K=K (k+(wgt y8 a:Int)) (mkL (wgt y7) (mk y7) a k):=by
 have hl:a.length<=1048576:=j0g h
 have hwg:wgt y8 a=(a.map (wgt y7)).sum:=rfl
 rw [hwg] at hk ⊢
 unfold j3c j4z
 have:=Za0 (wgt y7) (mk y7) a k (λl k i=>(l,k,i)) (step:=j2q) (λl k=>K k l) (λl k=>K k l) (by unfold LIM;omega) (λl i rec hi hll hli hla=>by
  have e1:=Z7C (wgt y7) a i hi
  have e2:=Z9M (wgt y7) a (i+1)
  generalize hκ:k+((((a.take i).map (wgt y7)).sum:Nat):Int)=κ
  have hκ1:1<=κ/\κ+(wgt y7 a[i]:Int)<=4294967296:=by omega
  have hw:(wgt y7 a[i]:Int)=1+1+1+1+1+1+1:=by
   have:wgt y7 a[i]=1+1+1+1+1+1+1:=by first | rfl | (simp only [wgt];done) | (simp only [wgt];omega)
   first | rfl | omega
  show j0K _ _ _ _ _=_
  dsimp only
  unfold j0K j1R j1S j1T
  rw [<-hll] at hi
  have hi':i<a.length:=by omega
  simp (disch:=first | assumption | omega) only [show nI a.length=nI l.length by rw [hll],ZaR,j04,j8Y,cond_true,j8X,j8Z,Zaz,hla,j03,j1L,<-hll]
  rw [ZaG]
  congr 3<;>first | rfl | omega | (simp only [j2h,j1p,j3d,j4r,j2g,j3e,j1v,j2j,j1u,j2k,Int.natCast_add,Int.natCast_one,<-Int.add_assoc];done) | (simp only [j2h,j1p,j3d,j4r,j2g,j3e,j1v,j2j,j1u,j2k,Int.natCast_add,Int.natCast_one,<-Int.add_assoc];rfl) | skip) (λl k rec hll=>by
  show j0K _ _ _ _ _=_
  dsimp only
  unfold j0K j1R j1S j1T
  rw [<-hll,ZaQ,cond_false])
 exact this
theorem jbI (a:qE) (k:Int) (h:msr y8 a<=1048576) (h0:1<=k) (hk:k+(wgt y8 a:Int)<=4294967296) (K:Int->Res):j3b (mkL (wgt y7) (mk y7) a k) k K=K (k+(wgt y8 a:Int)):=by
 have hl:a.length<=1048576:=j0g h
 have hwg:wgt y8 a=(a.map (wgt y7)).sum:=rfl
 rw [hwg] at hk ⊢
 have hll:=Z6t (wgt y7) (mk y7) a k
 have hg:=Zav (wgt y7) (mk y7) a k
 generalize mkL (wgt y7) (mk y7) a k=l at hll hg
 unfold j3b j4x
 have:=Z9X (wgt y7) a k (λk i=>(k,i)) (step:=j2p l) ((λ(k_1:Int)=>K k_1),(λ(_:Unit)=>K (-1))) (λk=>K k) (by unfold LIM;omega) (λi rec hi=>by
  have e1:=Z7C (wgt y7) a i hi
  have e2:=Z9M (wgt y7) a (i+1)
  have hgi:=hg i hi (by omega)
  generalize hκ:k+((((a.take i).map (wgt y7)).sum:Nat):Int)=κ at hgi
  have hκ1:1<=κ/\κ+(wgt y7 a[i]:Int)<=4294967296:=by omega
  have hw:(wgt y7 a[i]:Int)=1+1+1+1+1+1+1:=by
   have:wgt y7 a[i]=1+1+1+1+1+1+1:=by first | rfl | (simp only [wgt];done) | (simp only [wgt];omega)
   first | rfl | omega
  show j0I _ _ _ _ _ _=_
  dsimp only
  unfold j0I
  have hi':i<l.length:=by omega
  simp (disch:=first | assumption | omega) only [ZaR,j04,cond_true,cond_false,Zaz,hgi,j2h,j1p,j3d,j4r,j2g,j3e,j1v,j2j,j1u,j2k,Int.natCast_add,Int.natCast_one,<-Int.add_assoc,j03,j1L,ZaP,Zaj,beq_self_eq_true,Bool.not_true,Za5]
  all_goals (congr 2;omega)) (λk rec=>by
  show j0I _ _ _ _ _ _=_
  dsimp only
  unfold j0I
  rw [<-hll,ZaQ,cond_false])
 exact this
end Go.PI.G
namespace Go.PI.G
open Go Go.PI Go.Proofs
theorem j5o (a:(List ByteArray)) (h:msr y0 a<=1048576) (k:(List ByteArray)->Res):j0y a k=k a:=by
 have hl:a.length<=1048576:=j0g h
 unfold j0y
 rw [Zaw (by unfold LIM;omega),cond_true]
 have:=ZaD (eS) a id (step:=j3r a) (λout=>k out) (by unfold LIM;omega) (λout i rec hi hlo=>by
  show j16 a _ _ _ _=_
  unfold j16
  dsimp only
  simp only [ZaR hi,cond_true,j04 hi,j04 (show i<out.length by omega),Zaz _ _ _ hi,ZaG,j03 (n:=(i:Int)+1) (by omega)]
  rfl) (λout rec=>by
  show j16 a _ _ _ _=_
  unfold j16
  dsimp only
  rw [ZaQ,cond_false])
 rw [List.map_id] at this
 exact this
theorem j5n (a:(List ByteArray)) (left:Int) (h0:0<=left) (h1:left<=1048576) (hw:Wf y0 a) (k:Int->Res):j0x a left k=k (szR left (msr y0 a)):=by
 have hl:a.length<=maxLen:=hw.1
 have hm:msr y0 a=a.length+(a.map (msr .str)).sum:=rfl
 rw [hm]
 unfold j0x
 refine ja6 (F:=λq=>j2H a Z1d q 0 (λleft1=>k left1) (λ_=>k (-1))) (k:=k) h0 h1 hl λhb=> ?_
 unfold j2H
 rw [ZaC (msr .str) a _ (by omega) (λleft i rec hi h0 h1=> ?_) (λleft rec=> ?_) _ (by omega) (by omega)]
 ·by_cases hb:(((a.map (msr .str)).sum:Nat):Int)<=left-a.length
  ·rw [if_pos hb,ZaB hb]
  ·rw [if_neg hb,ZaA hb]
 ·show j15 a _ _ _ _ _=_
  have hx:=hw.2 _ (List.getElem_mem hi)
  unfold j15
  have hx:a[i].size<=maxLen:=hx
  unfold maxLen at hx hl
  rw [ZaR hi,cond_true,j04 hi,cond_true,Zaz _ _ _ hi,j03 (n:=left-nI a[i].size) (by unfold nI;omega),j03 (n:=(i:Int)+1) (by omega)]
  unfold nI
  by_cases hb:((msr .str a[i]:Nat):Int)<=left
  ·have hb':(a[i].size:Int)<=left:=hb
   rw [if_pos hb,Za5 (by omega),cond_false];rfl
  ·have hb':¬ (a[i].size:Int)<=left:=hb
   rw [if_neg hb,Za6 (by omega),cond_true]
 ·show j15 a _ _ _ _ _=_
  unfold j15
  rw [ZaQ,cond_false]
theorem j4S (a:(List ByteArray)) (h:msr y0 a<=1048576) (k:Bool->Res):j0w a a k=k true:=by
 have hl:a.length<=1048576:=j0g h
 unfold j0w
 rw [ZaP,cond_false]
 unfold j4a
 rw [Zas a _ (by unfold LIM;omega) (λi rec hi=> ?_) (λrec=> ?_)]
 ·show j14 a a _ _ _ _=_
  unfold j14
  simp only [ZaR hi,cond_true,j04 hi,Zaz _ _ _ hi,j03 (n:=(i:Int)+1) (by omega),ZaP,Zaj,cond_false,Bool.not_true]
 ·show j14 a a _ _ _ _=_
  unfold j14
  rw [ZaQ,cond_false]
theorem j7F (a:(List ByteArray)) (k:Int) (h:msr y0 a<=1048576) (h0:1<=k) (hk:k+(wgt y0 a:Int)<=4294967296) (K:Int->(List ByteArray)->Res):j0r a k K=K (k+(wgt y0 a:Int)) (mkL (wgt .str) (mk .str) a k):=by
 have hl:a.length<=1048576:=j0g h
 have hwg:wgt y0 a=(a.map (wgt .str)).sum:=rfl
 rw [hwg] at hk ⊢
 unfold j0r j3q
 have:=Za0 (wgt .str) (mk .str) a k (λl k i=>(l,k,i)) (step:=j2R) (λl k=>K k l) (λl k=>K k l) (by unfold LIM;omega) (λl i rec hi hll hli hla=>by
  have e1:=Z7C (wgt .str) a i hi
  have e2:=Z9M (wgt .str) a (i+1)
  generalize hκ:k+((((a.take i).map (wgt .str)).sum:Nat):Int)=κ
  have hκ1:1<=κ/\κ+(wgt .str a[i]:Int)<=4294967296:=by omega
  have hw:(wgt .str a[i]:Int)=1:=by
   have:wgt .str a[i]=1:=by first | rfl | (simp only [wgt];done) | (simp only [wgt];omega)
   first | rfl | omega
  show j0L _ _ _ _ _=_
  dsimp only
  unfold j0L
  rw [<-hll] at hi
  have hi':i<a.length:=by omega
  simp (disch:=first | assumption | omega) only [show nI a.length=nI l.length by rw [hll],ZaR,j04,j8Y,cond_true,j8X,j8Z,Zaz,hla,j03,j1L,<-hll]
  rw [ZaG]
  congr 3<;>first | rfl | omega | (simp only [j2h,j1p,j3d,j4r,j2g,j3e,j1v,j2j,j1u,j2k,Int.natCast_add,Int.natCast_one,<-Int.add_assoc];done) | (simp only [j2h,j1p,j3d,j4r,j2g,j3e,j1v,j2j,j1u,j2k,Int.natCast_add,Int.natCast_one,<-Int.add_assoc];rfl) | skip) (λl k rec hll=>by
  show j0L _ _ _ _ _=_
  dsimp only
  unfold j0L
  rw [<-hll,ZaQ,cond_false])
 exact this
theorem jaq (a:(List ByteArray)) (k:Int) (h:msr y0 a<=1048576) (h0:1<=k) (hk:k+(wgt y0 a:Int)<=4294967296) (K:Int->Res):j0G (mkL (wgt .str) (mk .str) a k) k K=K (k+(wgt y0 a:Int)):=by
 have hl:a.length<=1048576:=j0g h
 have hwg:wgt y0 a=(a.map (wgt .str)).sum:=rfl
 rw [hwg] at hk ⊢
 have hll:=Z6t (wgt .str) (mk .str) a k
 have hg:=Zav (wgt .str) (mk .str) a k
 generalize mkL (wgt .str) (mk .str) a k=l at hll hg
 unfold j0G j3p
 have:=Z9X (wgt .str) a k (λk i=>(k,i)) (step:=j2Q l) ((λ(k_1:Int)=>K k_1),(λ(_:Unit)=>K (-1))) (λk=>K k) (by unfold LIM;omega) (λi rec hi=>by
  have e1:=Z7C (wgt .str) a i hi
  have e2:=Z9M (wgt .str) a (i+1)
  have hgi:=hg i hi (by omega)
  generalize hκ:k+((((a.take i).map (wgt .str)).sum:Nat):Int)=κ at hgi
  have hκ1:1<=κ/\κ+(wgt .str a[i]:Int)<=4294967296:=by omega
  have hw:(wgt .str a[i]:Int)=1:=by
   have:wgt .str a[i]=1:=by first | rfl | (simp only [wgt];done) | (simp only [wgt];omega)
   first | rfl | omega
  show j0J _ _ _ _ _ _=_
  dsimp only
  unfold j0J
  have hi':i<l.length:=by omega
  simp (disch:=first | assumption | omega) only [ZaR,j04,cond_true,cond_false,Zaz,hgi,j2h,j1p,j3d,j4r,j2g,j3e,j1v,j2j,j1u,j2k,Int.natCast_add,Int.natCast_one,<-Int.add_assoc,j03,j1L,ZaP,Zaj,beq_self_eq_true,Bool.not_true,Za5]
  all_goals (congr 2;omega)) (λk rec=>by
  show j0J _ _ _ _ _ _=_
  dsimp only
  unfold j0J
  rw [<-hll,ZaQ,cond_false])
 exact this
end Go.PI.G
namespace Go.PI.G
open Go Go.PI Go.Proofs
theorem jd9 (a:Int×ByteArray×qE×List ByteArray×ByteArray×ByteArray) (h:msr y13 a<=1048576) (k:(Int×ByteArray×qE×List ByteArray×ByteArray×ByteArray)->Res):j3Z a k=k a:=by
 have h2:msr y8 a.2.2.1<=1048576:=(Nat.le_trans (@j09 y8 y10 a.2.2) (Nat.le_trans (@j01 .str y11 a.2) (Nat.le_trans (@j01 (.int .i64) y12 a) h)))
 have h3:msr y0 a.2.2.2.1<=1048576:=(Nat.le_trans (@j09 y0 y9 a.2.2.2) (Nat.le_trans (@j01 y8 y10 a.2.2) (Nat.le_trans (@j01 .str y11 a.2) (Nat.le_trans (@j01 (.int .i64) y12 a) h))))
 unfold j3Z
 simp only [jcI _ h2,j5o _ h3]
theorem jd1 (a:Int×ByteArray×qE×List ByteArray×ByteArray×ByteArray) (left:Int) (h0:0<=left) (h1:left<=1048576) (hw:Wf y13 a) (k:Int->Res):j3X a left k=k (szR left (msr y13 a)):=by
 have hm:msr y13 a=ByteArray.size a.2.1+(msr y8 a.2.2.1+(msr y0 a.2.2.2.1+(ByteArray.size a.2.2.2.2.1+(ByteArray.size a.2.2.2.2.2+0)))):=by simp only [msr];omega
 rw [hm]
 unfold j3X
 have hx0:ByteArray.size a.2.1<=maxLen:=hw.2.1
 unfold maxLen at hx0
 rw [j03 (by unfold nI;omega)]
 by_cases hb0:((ByteArray.size a.2.1:Nat):Int)<=left
 rotate_left
 ·rw [Zam hb0,Za6 (by unfold nI;omega),cond_true]
 rw [Za5 (by unfold nI;omega),cond_false,Zal hb0,show left-nI (ByteArray.size a.2.1)=left-((ByteArray.size a.2.1:Nat):Int) from rfl]
 rw [jcF _ _ (by omega) (by omega) hw.2.2.1]
 by_cases hb1:((msr y8 a.2.2.1:Nat):Int)<=left-(ByteArray.size a.2.1:Nat)
 rotate_left
 ·rw [ZaA hb1,Zam hb1,Za6 (by omega),cond_true]
 rw [ZaB hb1,Zal hb1,Za5 (by omega),cond_false]
 rw [j5n _ _ (by omega) (by omega) hw.2.2.2.1]
 by_cases hb2:((msr y0 a.2.2.2.1:Nat):Int)<=left-(ByteArray.size a.2.1:Nat)-(msr y8 a.2.2.1:Nat)
 rotate_left
 ·rw [ZaA hb2,Zam hb2,Za6 (by omega),cond_true]
 rw [ZaB hb2,Zal hb2,Za5 (by omega),cond_false]
 have hx3:ByteArray.size a.2.2.2.2.1<=maxLen:=hw.2.2.2.2.1
 unfold maxLen at hx3
 rw [j03 (by unfold nI;omega)]
 by_cases hb3:((ByteArray.size a.2.2.2.2.1:Nat):Int)<=left-(ByteArray.size a.2.1:Nat)-(msr y8 a.2.2.1:Nat)-(msr y0 a.2.2.2.1:Nat)
 rotate_left
 ·rw [Zam hb3,Za6 (by unfold nI;omega),cond_true]
 rw [Za5 (by unfold nI;omega),cond_false,Zal hb3,show left-(ByteArray.size a.2.1:Nat)-(msr y8 a.2.2.1:Nat)-(msr y0 a.2.2.2.1:Nat)-nI (ByteArray.size a.2.2.2.2.1)=left-(ByteArray.size a.2.1:Nat)-(msr y8 a.2.2.1:Nat)-(msr y0 a.2.2.2.1:Nat)-((ByteArray.size a.2.2.2.2.1:Nat):Int) from rfl]
 have hx4:ByteArray.size a.2.2.2.2.2<=maxLen:=hw.2.2.2.2.2
 unfold maxLen at hx4
 rw [j03 (by unfold nI;omega)]
 by_cases hb4:((ByteArray.size a.2.2.2.2.2:Nat):Int)<=left-(ByteArray.size a.2.1:Nat)-(msr y8 a.2.2.1:Nat)-(msr y0 a.2.2.2.1:Nat)-(ByteArray.size a.2.2.2.2.1:Nat)
 rotate_left
 ·rw [Zam hb4,Za6 (by unfold nI;omega),cond_true]
 rw [Za5 (by unfold nI;omega),cond_false,Zal hb4,show left-(ByteArray.size a.2.1:Nat)-(msr y8 a.2.2.1:Nat)-(msr y0 a.2.2.2.1:Nat)-(ByteArray.size a.2.2.2.2.1:Nat)-nI (ByteArray.size a.2.2.2.2.2)=left-(ByteArray.size a.2.1:Nat)-(msr y8 a.2.2.1:Nat)-(msr y0 a.2.2.2.1:Nat)-(ByteArray.size a.2.2.2.2.1:Nat)-((ByteArray.size a.2.2.2.2.2:Nat):Int) from rfl]
 exact j60 (by omega)
theorem jcQ (a:Int×ByteArray×qE×List ByteArray×ByteArray×ByteArray) (h:msr y13 a<=1048576) (k:Bool->Res):j3T a a k=k true:=by
 have h2:msr y8 a.2.2.1<=1048576:=(Nat.le_trans (@j09 y8 y10 a.2.2) (Nat.le_trans (@j01 .str y11 a.2) (Nat.le_trans (@j01 (.int .i64) y12 a) h)))
 have h3:msr y0 a.2.2.2.1<=1048576:=(Nat.le_trans (@j09 y0 y9 a.2.2.2) (Nat.le_trans (@j01 y8 y10 a.2.2) (Nat.le_trans (@j01 .str y11 a.2) (Nat.le_trans (@j01 (.int .i64) y12 a) h))))
 unfold j3T
 simp only [ZaP,Zaj,beq_self_eq_true,cond_false,Bool.not_true,jcv _ h2,j4S _ h3]
end Go.PI.G
