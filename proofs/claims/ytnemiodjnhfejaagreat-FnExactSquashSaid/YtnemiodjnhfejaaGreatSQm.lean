/-
  Program's code interpreted over typed values; printed texts; plain laws. No conditions.
-/
import Derived.Test.YtnemiodjnhfejaaGreatSQl
import Derived.Test.YtnemiodjnhfejaaGreatSQk
import Derived.Test.YtnemiodjnhfejaaGreatSQg
import Derived.Test.YtnemiodjnhfejaaGreatSQd
import Derived.Test.YtnemiodjnhfejaaGreatSQe
import Derived.Test.YtnemiodjnhfejaaGreatSQi
import Derived.Test.YtnemiodjnhfejaaGreatSQh
set_option linter.unusedVariables false
set_option linter.unusedSimpArgs false
namespace Go.PI.G
open Go Go.PI Go.Proofs
theorem jk2 {d:DB} (h:dbB d=true) (x:D) {j:Nat} (i:j<d.1.length) (b:j<d.2.length) (k:d.1[j].1≠x.2.1):jab d x d.1[j]=d.2[j]:=by
 obtain ⟨g,l,m⟩:=(j2c d).1 h
 unfold jab
 have f:sEq d.1[j].1 x.2.1=false:=by
  cases f:sEq d.1[j].1 x.2.1
  ·rfl
  ·exact absurd ((j0d _ _).1 f) k
 rw [f,Bool.and_false,cond_false,jfD ((j0k _).1 g).2.2 i,decide_eq_true (by omega),cond_true,Zay _ _ _ b]
theorem jre {d:DB} (h:dbB d=true) (x:D) {i:Nat} (n:i<d.1.length) (q:i<d.2.length) (r:d.1[i].1=x.2.1):d.1.map (jab d x)=d.2.set i (jab d x d.1[i]):=by
 obtain ⟨l,m,y⟩:=(j2c d).1 h
 apply List.ext_getElem
 ·simp [m]
 ·intro j w z
  have g:j<d.1.length:=by simpa using w
  rw [List.getElem_map,List.getElem_set]
  by_cases e:i=j
  ·subst e
   rw [if_pos rfl]
  ·rw [if_neg e]
   refine jk2 h x g (by omega) λk=> ?_
   have p:=((j0k _).1 l).2.2
   have b:=jmN p n g e
   rw [r,k,je1] at b
   rcases b with f | f<;>cases f
theorem jst {d:DB} (h:dbB d=true) {x:D} (K:j1f x=true) (A:j0i d.1 x=0):(j1g d.1 x).map (jab d x)=jjd d x:=by
 obtain ⟨F,J,P⟩:=(j2c d).1 h
 have C:=(j0k _).1 F
 unfold jjd
 cases r:(x.1==1)
 ·rw [cond_false]
  rcases j0G d.1 x.2.1 with ⟨l,_⟩ | ⟨i,B,l,z⟩
  ·unfold j0i at A
   rw [r,cond_false,decide_eq_true (by omega),cond_true] at A
   cases A
  ·have k:i<d.2.length:=by omega
   have g:=jre h x B k z
   unfold j1g
   rw [r,cond_false,l,Zay _ _ _ B,Zay _ _ _ k,Int.toNat_natCast]
   cases I:(x.1==2)
   ·rw [cond_false,cond_false,List.map_set,g,List.set_set]
    congr 1
    unfold jab
    rw [jin,z,Zah,Bool.and_true,l,decide_eq_true (by omega),cond_true,I,cond_false,Zay _ _ _ B,Zay _ _ _ k]
   ·rw [cond_true,cond_true,List.eraseIdx_eq_take_drop_succ,List.eraseIdx_eq_take_drop_succ,List.map_append,List.map_take,List.map_drop,g,List.take_set,List.set_eq_of_length_le (by rw [List.length_take];omega),List.drop_set_of_lt (by omega)]
 ·rw [cond_true]
  have e:x.1=1:=by simpa using r
  have b:=A
  unfold j0i at b
  rw [r,cond_true] at b
  rcases j0G d.1 x.2.1 with ⟨l,E⟩ | ⟨i,B,l,_⟩
  rotate_left
  ·rw [decide_eq_false (by omega)] at b
   cases b
  have ht:j08 (x.2.1,x.2.2.1,x.2.2.2.1)=true:=by
   obtain ⟨_,⟨t,cs,ks,rfl,ht⟩ | ⟨t,rfl⟩ | ⟨t,c,rfl,_⟩ | ⟨t,n,rfl,_⟩ | ⟨t,n,m,rfl,_⟩⟩:=j98 K
   ·exact ht
   all_goals exact absurd e (by simp)
  have G:d.1.length<6:=by
   rw [decide_eq_true (by omega),Bool.not_true,cond_false] at b
   have G:=C.1
   rcases Nat.lt_or_ge d.1.length 6 with q | q
   ·exact q
   ·rw [show (d.1.length==6)=true from beq_iff_eq.2 (by omega)] at b
    cases b
  obtain ⟨p,Q,f,y⟩:=joR F ht (show j0a d.1 x.2.1<0 by omega) G
  have w:d.1.map (jab d x)=d.2:=by
   apply List.ext_getElem
   ·simp [J]
   ·intro j L M
    have H:j<d.1.length:=by simpa using L
    rw [List.getElem_map]
    exact jk2 h x H M (E _ (List.getElem_mem H))
  unfold j1g
  rw [r,cond_true]
  have f:j0a (lay tR (x.2.1,x.2.2.1,x.2.2.2.1) d.1) x.2.1=(p:Int):=f
  rw [f,Int.toNat_natCast,y,List.map_append,List.map_cons,List.map_take,List.map_drop,w]
  congr 2
  unfold jab
  rw [l]
  rfl
theorem jrQ {t:T} {l:List (List V)} (h:j07 t l=true) (n:t.2.1.length<=8):msr (.slice (.slice yV)) l<=14940:=by
 obtain ⟨ht,g,d⟩:=j04 h
 have:=jaR (e:= .slice yV) 248 l (λr b=>by
  have i:=jaR (e:=yV) 30 r (λv f=>jsk (jp1 (d r b) v f))
  have j:=j0g (d r b)
  have k:r.length * (30+1)<=8 * 31:=Nat.mul_le_mul (by omega) (Nat.le_refl _)
  omega)
 have m:l.length * (248+1)<=60 * 249:=Nat.mul_le_mul g (Nat.le_refl _)
 omega
theorem jli {d:DB} (h:dbB d=true):msr yDB d<=1048576:=by
 obtain ⟨g,m,j⟩:=(j2c d).1 h
 have f:=((j0k _).1 g).1
 have q:=jaR (e:=yT) 400 d.1 (λt ht=>jcd (((j0k _).1 g).2.1 t ht))
 have n:d.1.length * (400+1)<=6 * 401:=Nat.mul_le_mul f (Nat.le_refl _)
 have r:=jaR (e:= .slice (.slice yV)) 14940 d.2 (λx l=>by
  obtain ⟨i,k,rfl⟩:=List.mem_iff_getElem.1 l
  have b:=j i (by omega) k
  exact jrQ b ((j7x _).1 (j04 b).1).2.2.1)
 have p:d.2.length * (14940+1)<=6 * 14941:=Nat.mul_le_mul (by omega) (Nat.le_refl _)
 have e:msr yDB d=msr (.slice yT) d.1+msr (.slice (.slice (.slice yV))) d.2:=rfl
 omega
theorem jri {s:ST} (d:stB s=true) (f:s.1=5):j1f s.2.2.2.2=true/\s.2.2.2.2.2.1=s.2.1:=by
 unfold stB at d
 rw [f,Bool.and_eq_true] at d
 have b:=d.2
 simp only [show ((5:Int)==1)=false from rfl,show ((5:Int)==2)=false from rfl,show ((5:Int)==3)=false from rfl,show ((5:Int)==4)=false from rfl,show ((5:Int)==5)=true from rfl,cond_false,cond_true,Bool.and_eq_true] at b
 exact ⟨b.2.2.1,(j0d _ _).1 b.2.2.2⟩
theorem jpK (d:DB) (h:dbB d=true) (s:ST) (b:jj9 s) (n:stB s=true) (k:DB->Int->Res):j8T d s k=k (j2n d s).1 (j2n d s).2:=by
 obtain ⟨p,A,B⟩:=(j2c d).1 h
 have y:=((j0k _).1 p).1
 unfold j8T
 rw [jcW d (jli h),h,Bool.not_true,cond_false,jnm s b,n,Bool.not_true,cond_false,jeS _ _ (by unfold LIM;omega),jsW]
 cases g:(decide (j0a d.1 s.2.1<0)&& !((s.1==5)&&(s.2.2.2.2.1==1)))
 rotate_left
 ·unfold j2n
  rw [g]
  rfl
 rw [cond_false]
 cases f:(s.1==5)
 ·rw [f,Bool.false_and,Bool.not_false,Bool.and_true] at g
  have r:¬ j0a d.1 s.2.1<0:=of_decide_eq_false g
  rcases j0G d.1 s.2.1 with ⟨j,_⟩ | ⟨i,w,j,_⟩
  ·omega
  rw [cond_false,j]
  exact jpb d h s (by simpa using f) i w j k
 ·have l:s.1=5:=by simpa using f
  obtain ⟨m,z⟩:=jri n l
  rw [cond_true,jmW d h s l z b.2.2.2 m]
  unfold j2n
  rw [g,f,cond_false,cond_true]
  cases q:(j0i d.1 s.2.2.2.2 != 0)
  ·rw [cond_false,cond_false,jst h m (by simpa using q)]
  ·rfl
end Go.PI.G
namespace Go.PI.G
open Go Go.PI Go.Proofs
theorem jsP (b:Int) (s:ST) (a z:Res):j8y b s (λ_=>a) (λ_=>z)=bif decide (b<0)&& !((s.1==5)&&(s.2.2.2.2.1==1)) then z else a:=by
 unfold j8y
 cases decide (b<0)
 ·rfl
 ·rw [cond_true,Bool.true_and]
  unfold bne
  cases (s.1==5)
  ·rfl
  ·cases (s.2.2.2.2.1==1)<;>rfl
theorem joK (t:T) (h:msr yT t<=1048576) (l:List (List V)) (s:ST) (k:List (List V)->Int->Res):j6E l 0 s.1 s t k=k (j3m t l s).1 (j3m t l s).2:=by
 unfold j6E j3m
 cases (s.1==1)
 ·rw [cond_false,cond_false]
  cases (s.1==2)
  ·rw [cond_false,cond_false]
   cases (s.1==3)
   ·rfl
   ·rw [cond_true,cond_true,jnN t h]
  ·rw [cond_true,cond_true,jnP t h]
 ·rw [cond_true,cond_true,jnO t h]
theorem jmo (d:DB) (h:dbB d=true) (x:D) (A:dSm x) (E:j1f x=true) (k:DB->Int->Res) :
  j6D d x k=bif j0i d.1 x != 0 then k ([],[]) (j0i d.1 x) else k (j1g d.1 x,jjd d x) 0:=by
 obtain ⟨y,Y,K⟩:=(j2c d).1 h
 have R:=((j0k _).1 y).1
 unfold j6D
 rw [jpB _ _ (je3 y) A,jox y E]
 cases I:(j0i d.1 x != 0)
 rotate_left
 ·rw [cond_true]
  dsimp only
  rw [I,cond_true,cond_true]
 have f:j0i d.1 x=0:=by simpa using I
 have l:=jmm y E f
 have P:=((j0k _).1 l).1
 rw [cond_false,cond_false]
 show (j1w d λW=>j0z d.1 x.2.1 λX=>j3l X x.1 d x (j1g d.1 x) W λH=>k (j1g d.1 x,H.2) 0)=_
 rw [jh6 d h,j8u _ _ (by unfold LIM;omega)]
 unfold j3l jjd
 cases w:(x.1==1)
 ·rw [cond_false,cond_false]
  rcases j0G d.1 x.2.1 with ⟨B,_⟩ | ⟨i,z,B,G⟩
  ·unfold j0i at f
   rw [w,cond_false,decide_eq_true (by omega),cond_true] at f
   cases f
  ·have r:i<d.2.length:=by omega
   rw [B,Int.toNat_natCast]
   cases J:(x.1==2)
   ·have ht:j08 d.1[i]=true:=((j0k _).1 y).2.1 _ (List.getElem_mem z)
    have F:msr yT d.1[i]<=1048576:=Nat.le_trans (jcd ht) (by omega)
    have Q:j0D d.1[i] x=0:=by
     unfold j0i at f
     rw [w,cond_false,B,decide_eq_false (show ¬ (i:Int)<0 by omega),cond_false,Zay _ _ _ z] at f
     exact f
    rw [cond_false,cond_false,j00 z,cond_true,j00 r,cond_true,Zay _ _ _ z,Zay _ _ _ r,jmq _ F _ (K i z r) _ A E G.symm (by simpa using w),Q,J,cond_true,ZaF]
    rfl
   ·rw [cond_true,cond_true]
    unfold j5K jc2
    rw [j01 (n:=(i:Int)+1) (by omega),show Z8e (i:Int) ((i:Int)+1) d.2.length=true from jc1 (j:=i+1) ⟨by omega,by omega⟩,cond_true,List.eraseIdx_eq_take_drop_succ]
    rfl
 ·rw [cond_true,cond_true]
  simp only [Z9Q]
  have C:∃ p:Nat,p<=d.2.length/\j0a (j1g d.1 x) x.2.1=(p:Int):=by
   have e:x.1=1:=by simpa using w
   have b:=f
   unfold j0i at b
   rw [w,cond_true] at b
   rcases j0G d.1 x.2.1 with ⟨B,T⟩ | ⟨i,z,B,_⟩
   rotate_left
   ·rw [decide_eq_false (by omega)] at b
    cases b
   have ht:j08 (x.2.1,x.2.2.1,x.2.2.2.1)=true:=by
    obtain ⟨_,⟨t,cs,ks,rfl,ht⟩ | ⟨t,rfl⟩ | ⟨t,c,rfl,_⟩ | ⟨t,n,rfl,_⟩ | ⟨t,n,m,rfl,_⟩⟩:=j98 E
    ·exact ht
    all_goals exact absurd e (by simp)
   have L:d.1.length<6:=by
    rw [decide_eq_true (by omega),Bool.not_true,cond_false] at b
    rcases Nat.lt_or_ge d.1.length 6 with q | q
    ·exact q
    ·rw [show (d.1.length==6)=true from beq_iff_eq.2 (by omega)] at b
     cases b
   obtain ⟨p,U,g,_⟩:=joR y ht (show j0a d.1 x.2.1<0 by omega) L
   refine ⟨p,by omega,?_⟩
   unfold j1g
   rw [w,cond_true]
   exact g
  obtain ⟨p,U,g⟩:=C
  rw [j8u _ _ (by unfold LIM;omega),g]
  unfold j1X jg0
  have M:jks (p:Int) d.2.length [([]:List (List V))].length=true:=decide_eq_true ⟨by omega,by omega,by simp,by simp;unfold LIM;omega⟩
  rw [M,cond_true,Int.toNat_natCast,List.append_assoc]
  rfl
theorem jpC (d:DB) (h:dbB d=true) (s:ST) (p:jj9 s) (D:stB s=true) (k:DB->Int->Res):jaN d s k=k (j2n d s).1 (j2n d s).2:=by
 obtain ⟨q,E,F⟩:=(j2c d).1 h
 have B:=((j0k _).1 q).1
 unfold jaN
 rw [j8u _ _ (by unfold LIM;omega),jsP]
 cases f:(decide (j0a d.1 s.2.1<0)&& !((s.1==5)&&(s.2.2.2.2.1==1)))
 rotate_left
 ·unfold j2n
  rw [f]
  rfl
 rw [cond_false]
 cases g:(s.1==5)
 ·unfold j2n
  rw [f,g,cond_false,cond_false,cond_false]
  rw [g,Bool.false_and,Bool.not_false,Bool.and_true] at f
  have A:¬ j0a d.1 s.2.1<0:=of_decide_eq_false f
  rcases j0G d.1 s.2.1 with ⟨r,_⟩ | ⟨i,j,r,_⟩
  ·omega
  have b:i<d.2.length:=by omega
  have ht:j08 d.1[i]=true:=((j0k _).1 q).2.1 _ (List.getElem_mem j)
  have m:msr yT d.1[i]<=1048576:=Nat.le_trans (jcd ht) (by omega)
  have y:=jpT (t:=d.1[i]) (l:=d.2[i]) (s:=s)
  unfold jb5
  rw [r]
  simp only [j00 j,j00 b,cond_true,Z9Q]
  rw [Zay _ _ _ j,Zay _ _ _ b,joK _ m]
  cases f:((j3m d.1[i] d.2[i] s).2 != 0)
  ·rw [cond_false,cond_false,jh6 d h,j00 b,cond_true,ZaF,Int.toNat_natCast]
  ·rw [cond_true,cond_true,j01 (n:=10+(j3m d.1[i] d.2[i] s).2) (by omega)]
 ·have w:s.1=5:=by simpa using g
  obtain ⟨z,G⟩:=jri D w
  have C:=jlh d.1 s.2.2.2.2
  rw [cond_true,jmo d h _ p.2.2.2 z]
  unfold j2n
  rw [f,g,cond_false,cond_true]
  cases y:(j0i d.1 s.2.2.2.2 != 0)
  ·rfl
  ·rw [cond_true,cond_true,cond_true,j01 (n:=10+j0i d.1 s.2.2.2.2) (by omega)]
end Go.PI.G
namespace Go.PI.G
open Go Go.PI
noncomputable def j9t (i:Nat) (d:DB) (s:ST):Except (Int×Int) DB:=bif !stB s then .error (1,(i:Int)) else bif (j2n d s).2 != 0 then .error ((j2n d s).2,(i:Int)) else .ok (j2n d s).1
noncomputable def j1k (d:DB) (l:List ST):DB×Int×Int:=bif !dbB d then (([],[]),1,0) else match Z1S j9t 0 l d with | .ok b=>(b,0,0) | .error e=>(([],[]),e.1,e.2)
theorem jl6 {i:Nat} {d j:DB} {s:ST} (h:dbB d=true) (b:j9t i d s= .ok j):dbB j=true:=by
 unfold j9t at b
 cases f:stB s
 ·rw [f] at b;cases b
 ·rw [f,Bool.not_true,cond_false] at b
  cases g:((j2n d s).2 != 0)
  ·rw [g,cond_false] at b
   cases b
   exact jsx h f (by simpa using g)
  ·rw [g,cond_true] at b;cases b
theorem jjT {d:DB} {l:List ST} (h:(j1k d l).2.1=0):dbB (j1k d l).1=true:=by
 unfold j1k at h ⊢
 cases g:dbB d
 ·rw [g] at h;cases h
 rw [g,Bool.not_true,cond_false] at h
 rw [Bool.not_true,cond_false]
 cases k:Z1S j9t 0 l d with
 | ok q=>exact Z91 (λ_ a=>dbB a=true) l 0 d q g (λj x a p _ r b=>jl6 r b) k
 | error e=>
  rw [k] at h
  exfalso
  have h:e.1=0:=h
  have m:∀ (l:List ST) (i:Nat) (a:DB) (e:Int×Int),Z1S j9t i l a= .error e->e.1≠0:=by
   intro l
   induction l with
   | nil=>intro i a e h;simp [Z1S] at h
   | cons x l y=>
    intro i a e h
    simp only [Z1S] at h
    cases b:j9t i a x with
    | ok p=>rw [b] at h;exact y _ _ _ h
    | error z=>
     rw [b] at h
     cases h
     unfold j9t at b
     cases n:stB x
     ·rw [n] at b;cases b;exact λw=>absurd (show (1:Int)=0 from w) (by decide)
     ·rw [n,Bool.not_true,cond_false] at b
      cases f:((j2n a x).2 != 0)
      ·rw [f] at b;cases b
      ·rw [f] at b
       cases b
       simpa using f
  exact m l 0 d e k h
end Go.PI.G
namespace Go.PI.G
open Go Go.PI Go.Proofs
theorem jpc (d:DB) (h:dbB d=true) (s:ST) (b:jj9 s) (f:stB s=false) (k:DB->Int->Res):j8T d s k=k ([],[]) 1:=by
 unfold j8T
 rw [jcW d (jli h),h,Bool.not_true,cond_false,jnm s b,f]
 rfl
theorem jmX (d:DB) (p:msr yDB d<=1048576) (l:List ST) (z:l.length<=1048576) (j:∀ s∈l,jj9 s) (k:DB->Int->Int->Res):j71 d l k=k (j1k d l).1 (j1k d l).2.1 (j1k d l).2.2:=by
 unfold j71 j1k
 rw [jcW d p]
 cases h:dbB d
 ·rfl
 rw [Bool.not_true,cond_false,cond_false,jm1 d h]
 unfold j8g
 have:=Z3Z l (λi (a:DB)=>(i,a)) j9t (λ_ a=>dbB a=true) (step:=j6f l (nI l.length)) ((λ(now:DB)=>k now 0 0),(λ(t:Int) (r:Int)=>k ([],[]) t r)) (λa=>k a 0 0) (λe=>k ([],[]) e.1 e.2) d (by unfold LIM;omega) h (λi a w f b q=>jl6 b q) (λi a rec f b=>by
  show j3R _ _ _ _ _ _ _=_
  unfold j3R j9t
  dsimp only
  have g:=j _ (List.getElem_mem f)
  rw [ZaQ f,cond_true,j00 f,cond_true,Zay _ _ _ f]
  cases m:stB l[i]
  ·rw [jpc a b _ g m]
   rfl
  ·rw [jpK a b _ g m,Bool.not_true,cond_false]
   cases y:((j2n a l[i]).2 != 0)
   ·rw [cond_false,cond_false,j01 (n:=(i:Int)+1) (by omega)]
   ·rfl) (λa rec b=>by
  show j3R _ _ _ _ _ _ _=_
  unfold j3R
  dsimp only
  rw [ZaP,cond_false])
 refine this.trans ?_
 cases Z1S j9t 0 l d<;>rfl
theorem jmp (d:DB) (p:msr yDB d<=1048576) (l:List ST) (z:l.length<=1048576) (j:∀ s∈l,jj9 s) (k:DB->Int->Int->Res):j6y d l k=k (j1k d l).1 (j1k d l).2.1 (j1k d l).2.2:=by
 unfold j6y j1k
 rw [jis d p]
 cases h:dbB d
 ·rfl
 rw [Bool.not_true,cond_false,cond_false,jh6 d h]
 unfold jb4
 have:=Z3Z l (λi (a:DB)=>(i,a)) j9t (λ_ a=>dbB a=true) (step:=j3A l (nI l.length)) ((λ(now:DB)=>k now 0 0),(λ(t:Int) (r:Int)=>k ([],[]) t r)) (λa=>k a 0 0) (λe=>k ([],[]) e.1 e.2) d (by unfold LIM;omega) h (λi a w b g q=>jl6 g q) (λi a rec b g=>by
  show j2d _ _ _ _ _ _ _=_
  unfold j2d j9t
  dsimp only
  have f:=j _ (List.getElem_mem b)
  rw [ZaQ b,cond_true,j00 b,cond_true,Zay _ _ _ b,jr2 _ f]
  cases m:stB l[i]
  ·rfl
  ·rw [Bool.not_true,cond_false,cond_false,jpC a g _ f m]
   cases y:((j2n a l[i]).2 != 0)
   ·rw [cond_false,cond_false,j01 (n:=(i:Int)+1) (by omega)]
   ·rfl) (λa rec g=>by
  show j2d _ _ _ _ _ _ _=_
  unfold j2d
  dsimp only
  rw [ZaP,cond_false])
 refine this.trans ?_
 cases Z1S j9t 0 l d<;>rfl
end Go.PI.G
namespace Go.PI.G
noncomputable section
open Go Go.PI Go.Proofs
def ceq (a b:C):Bool:=(sEq a.1 b.1)&&((a.2.1==b.2.1)&&((a.2.2.1==b.2.2.1)&&((a.2.2.2.1==b.2.2.2.1)&&((a.2.2.2.2.1==b.2.2.2.2.1)&&((a.2.2.2.2.2.1==b.2.2.2.2.2.1)&&(sEq a.2.2.2.2.2.2 b.2.2.2.2.2.2))))))
def jcy (t:T) (b:List (List V)) (r:List V):List ST:=bif decide (j05 t b (j06 t r)<0) then [(3,t.1,j06 t r,[],0,eS,[],[],eS,eS)] else []
def j60 (t:T) (a:List (List V)) (r:List V):List ST:=bif decide (j05 t a (j06 t r)>=0) then (bif !j0f zV veq (nth [] a (j05 t a (j06 t r))) r then [(2,t.1,j06 t r,r,0,eS,[],[],eS,eS)] else []) else []
def jg1 (t:T) (a:List (List V)) (r:List V):List ST:=bif decide (j05 t a (j06 t r)<0) then [(1,t.1,[],r,0,eS,[],[],eS,eS)] else []
def jhd (t:T) (a b:List (List V)):List ST:=(a.flatMap (jcy t b)++b.flatMap (j60 t a))++b.flatMap (jg1 t a)
theorem j99 {α β:Type} (g:α->List β) (h:∀ x,(g x).length<=1):(l:List α)->(l.flatMap g).length<=l.length
 | []=>Nat.le_refl _
 | x::l=>by
  have:=h x
  have:=j99 g h l
  rw [List.flatMap_cons,List.length_append,List.length_cons]
  omega
theorem jer (t:T) (b:List (List V)) (r:List V):(jcy t b r).length<=1:=by unfold jcy;cases decide (j05 t b (j06 t r)<0)<;>simp
theorem j9T (t:T) (a:List (List V)) (r:List V):(j60 t a r).length<=1:=by
 unfold j60
 cases decide (j05 t a (j06 t r)>=0)
 ·simp
 ·cases j0f zV veq (nth [] a (j05 t a (j06 t r))) r<;>simp
theorem jmA (t:T) (a:List (List V)) (r:List V):(jg1 t a r).length<=1:=by unfold jg1;cases decide (j05 t a (j06 t r)<0)<;>simp
theorem jeJ (t:T) (a b:List (List V)) (d:a.length<=60) (f:b.length<=60):(jhd t a b).length<=180:=by
 unfold jhd
 have:=j99 _ (jer t b) a
 have:=j99 _ (j9T t a) b
 have:=j99 _ (jmA t a) b
 rw [List.length_append,List.length_append]
 omega
theorem je6 {α β:Type} (g:α->List β) (h:∀ x,(g x).length<=1) (pre:List β) (l:List α) (i:Nat) (b:l.length<=60) (d:pre.length<=120):(pre++(l.take i).flatMap g).length<=180:=by
 have:=j99 g h (l.take i)
 rw [List.length_take] at this
 rw [List.length_append]
 omega
theorem joe (t:T) (h:msr yT t<=1048576) (a b:List (List V)) (l:j07 t a=true) (m:j07 t b=true) (k:List ST->Res):j7t b a (nI a.length) t Z1c [] 0 k=k (a.flatMap (jcy t b)):=by
 obtain ⟨j,p,q⟩:=j04 l
 unfold j7t
 have:=Z9T a (λi f=>(f,i)) (jcy t b) 180 [] (step:=j3d b a (nI a.length) t) k k (by unfold LIM;omega) (λi g _=>je6 _ (jer t b) _ _ _ p (by simp)) (by simp) (λi f rec g w r=>by
  show j1Y _ _ _ t _ _ _ _=_
  unfold j1Y
  dsimp only
  have d:=j0g (q _ (List.getElem_mem g))
  rw [ZaQ g,cond_true,j00 g,cond_true,Zay _ _ _ g,j1G t h j _ d,j4Q t h b m,j01 (n:=(i:Int)+1) (by omega)]
  unfold jcy
  cases decide (j05 t b (j06 t a[i])<0)
  ·rw [cond_false,cond_false,List.append_nil]
  ·rw [cond_true,cond_true,j1G t h j _ d,ZaL (by unfold LIM;omega),cond_true]) (λf rec=>by
  show j1Y _ _ _ t _ _ _ _=_
  unfold j1Y
  dsimp only
  rw [ZaP,cond_false])
 refine this.trans ?_
 rw [List.nil_append]
theorem jl5 (t:T) (h:msr yT t<=1048576) (a b:List (List V)) (q:j07 t a=true) (w:j07 t b=true) (pre:List ST) (E:pre.length<=60) (k:List ST->Res):j7u a b (nI b.length) t Z1c pre 0 k=k (pre++b.flatMap (j60 t a)):=by
 obtain ⟨G,H,I,J,K⟩:=j1l h
 obtain ⟨r,A,B⟩:=j04 w
 obtain ⟨L,M,z⟩:=j04 q
 unfold j7u
 refine Z9T b (λi g=>(g,i)) (j60 t a) 180 pre (step:=j3e a b (nI b.length) t) k k (by unfold LIM;omega) (λi l _=>je6 _ (j9T t a) _ _ _ A (by omega)) (by omega) (λi g rec l D C=>by
  show j1Z _ _ _ t _ _ _ _=_
  unfold j1Z
  dsimp only
  have d:=j0g (B _ (List.getElem_mem l))
  rw [ZaQ l,cond_true,j00 l,cond_true,Zay _ _ _ l,j1G t h r _ d,j4Q t h a q,j01 (n:=(i:Int)+1) (by omega)]
  unfold j60
  have F:=(jeO t a (j06 t b[i])).2
  by_cases p:j05 t a (j06 t b[i])>=0
  ·obtain ⟨j,y⟩:∃ j:Nat,j05 t a (j06 t b[i])=(j:Int):=⟨(j05 t a (j06 t b[i])).toNat,by omega⟩
   have f:j<a.length:=by omega
   have m:=j0g (z _ (List.getElem_mem f))
   rw [decide_eq_true p,cond_true,cond_true,y,j00 f,cond_true,Zay _ _ _ f,jfy _ _ (by unfold LIM;omega)]
   cases j0f zV veq a[j] b[i]
   ·unfold j0n
    rw [Bool.not_false,cond_true,cond_true,j1G t h r _ d,ZaL (by unfold LIM;omega),cond_true]
    dsimp only
    rw [ZaL (by unfold LIM;omega),cond_true]
   ·rw [Bool.not_true,cond_false,cond_false,List.append_nil]
  ·rw [decide_eq_false p,cond_false,cond_false,List.append_nil]) (λg rec=>by
  show j1Z _ _ _ t _ _ _ _=_
  unfold j1Z
  dsimp only
  rw [ZaP,cond_false])
theorem jpe (t:T) (h:msr yT t<=1048576) (a b:List (List V)) (j:j07 t a=true) (l:j07 t b=true) (pre:List ST) (m:pre.length<=120) (k:List ST->Res):j7v a b (nI b.length) t Z1c pre 0 k=k (pre++b.flatMap (jg1 t a)):=by
 obtain ⟨z,A,B,C,D⟩:=j1l h
 obtain ⟨p,q,r⟩:=j04 l
 unfold j7v
 refine Z9T b (λi d=>(d,i)) (jg1 t a) 180 pre (step:=j3f a b (nI b.length) t) k k (by unfold LIM;omega) (λi f _=>je6 _ (jmA t a) _ _ _ q m) (by omega) (λi d rec f y w=>by
  show j20 _ _ _ t _ _ _ _=_
  unfold j20
  dsimp only
  have g:=j0g (r _ (List.getElem_mem f))
  rw [ZaQ f,cond_true,j00 f,cond_true,Zay _ _ _ f,j1G t h p _ g,j4Q t h a j,j01 (n:=(i:Int)+1) (by omega)]
  unfold jg1
  cases decide (j05 t a (j06 t b[i])<0)
  ·rw [cond_false,cond_false,List.append_nil]
  ·unfold j0n
   rw [cond_true,cond_true,ZaL (by unfold LIM;omega),cond_true]
   dsimp only
   rw [ZaL (by unfold LIM;omega),cond_true]) (λd rec=>by
  show j20 _ _ _ t _ _ _ _=_
  unfold j20
  dsimp only
  rw [ZaP,cond_false])
theorem jnL (t:T) (h:msr yT t<=1048576) (a b:List (List V)) (j:j07 t a=true) (l:j07 t b=true) (k:List ST->Res):j7i b a (nI a.length) t Z1c [] 0 k=k (a.flatMap (jcy t b)):=by
 obtain ⟨m,p,q⟩:=j04 j
 unfold j7i
 have:=Z9T a (λi d=>(d,i)) (jcy t b) 180 [] (step:=j2T b a (nI a.length) t) k k (by unfold LIM;omega) (λi f _=>je6 _ (jer t b) _ _ _ p (by simp)) (by simp) (λi d rec f w r=>by
  show j1L _ _ _ t _ _ _ _=_
  unfold j1L
  dsimp only
  have g:=j0g (q _ (List.getElem_mem f))
  rw [ZaQ f,cond_true,j00 f,cond_true,Zay _ _ _ f,j1F t h m _ g,j1v t h b l,j01 (n:=(i:Int)+1) (by omega)]
  unfold jcy
  cases decide (j05 t b (j06 t a[i])<0)
  ·rw [cond_false,cond_false,List.append_nil]
  ·rw [cond_true,cond_true,ZaL (by unfold LIM;omega),cond_true]) (λd rec=>by
  show j1L _ _ _ t _ _ _ _=_
  unfold j1L
  dsimp only
  rw [ZaP,cond_false])
 refine this.trans ?_
 rw [List.nil_append]
theorem jkr (t:T) (h:msr yT t<=1048576) (a b:List (List V)) (q:j07 t a=true) (r:j07 t b=true) (pre:List ST) (E:pre.length<=60) (k:List ST->Res):j7j a b (nI b.length) t Z1c pre 0 k=k (pre++b.flatMap (j60 t a)):=by
 obtain ⟨G,H,I,J,K⟩:=j1l h
 obtain ⟨z,A,B⟩:=j04 r
 obtain ⟨L,M,y⟩:=j04 q
 unfold j7j
 refine Z9T b (λi f=>(f,i)) (j60 t a) 180 pre (step:=j2U a b (nI b.length) t) k k (by unfold LIM;omega) (λi g _=>je6 _ (j9T t a) _ _ _ A (by omega)) (by omega) (λi f rec g D C=>by
  show j1M _ _ _ t _ _ _ _=_
  unfold j1M
  dsimp only
  have l:=j0g (B _ (List.getElem_mem g))
  rw [ZaQ g,cond_true,j00 g,cond_true,Zay _ _ _ g,j1F t h z _ l,j1v t h a q,j01 (n:=(i:Int)+1) (by omega)]
  unfold j60
  have F:=(jeO t a (j06 t b[i])).2
  by_cases p:j05 t a (j06 t b[i])>=0
  ·obtain ⟨j,w⟩:∃ j:Nat,j05 t a (j06 t b[i])=(j:Int):=⟨(j05 t a (j06 t b[i])).toNat,by omega⟩
   have d:j<a.length:=by omega
   have m:=j0g (y _ (List.getElem_mem d))
   rw [decide_eq_true p,cond_true,cond_true,w,j00 d,cond_true,Zay _ _ _ d,jb2 _ _ (by unfold LIM;omega)]
   cases j0f zV veq a[j] b[i]
   ·unfold j0I
    rw [Bool.not_false,cond_true,cond_true,ZaL (by unfold LIM;omega),cond_true]
    dsimp only
    rw [ZaL (by unfold LIM;omega),cond_true]
   ·rw [Bool.not_true,cond_false,cond_false,List.append_nil]
  ·rw [decide_eq_false p,cond_false,cond_false,List.append_nil]) (λf rec=>by
  show j1M _ _ _ t _ _ _ _=_
  unfold j1M
  dsimp only
  rw [ZaP,cond_false])
theorem joI (t:T) (h:msr yT t<=1048576) (a b:List (List V)) (j:j07 t a=true) (l:j07 t b=true) (pre:List ST) (m:pre.length<=120) (k:List ST->Res):j7k a b (nI b.length) t Z1c pre 0 k=k (pre++b.flatMap (jg1 t a)):=by
 obtain ⟨z,A,B,C,D⟩:=j1l h
 obtain ⟨p,q,r⟩:=j04 l
 unfold j7k
 refine Z9T b (λi d=>(d,i)) (jg1 t a) 180 pre (step:=j2V a b (nI b.length) t) k k (by unfold LIM;omega) (λi f _=>je6 _ (jmA t a) _ _ _ q m) (by omega) (λi d rec f y w=>by
  show j1N _ _ _ t _ _ _ _=_
  unfold j1N
  dsimp only
  have g:=j0g (r _ (List.getElem_mem f))
  rw [ZaQ f,cond_true,j00 f,cond_true,Zay _ _ _ f,j1F t h p _ g,j1v t h a j,j01 (n:=(i:Int)+1) (by omega)]
  unfold jg1
  cases decide (j05 t a (j06 t b[i])<0)
  ·rw [cond_false,cond_false,List.append_nil]
  ·unfold j0I
   rw [cond_true,cond_true,ZaL (by unfold LIM;omega),cond_true]
   dsimp only
   rw [ZaL (by unfold LIM;omega),cond_true]) (λd rec=>by
  show j1N _ _ _ t _ _ _ _=_
  unfold j1N
  dsimp only
  rw [ZaP,cond_false])
theorem jm3 (t:T) (h:msr yT t<=1048576) (a b:List (List V)) (k:List ST->Bool->Res):j5o t a b k=bif j07 t a&&j07 t b then k (jhd t a b) true else k [] false:=by
 unfold j5o
 rw [j4g t h,j4g t h]
 cases d:j07 t a
 ·rfl
 ·cases f:j07 t b
  ·rfl
  ·obtain ⟨n,p,q⟩:=j04 f
   obtain ⟨j,l,m⟩:=j04 d
   have g:=j99 _ (jer t b) a
   have i:=j99 _ (j9T t a) b
   rw [Bool.not_true,cond_false,cond_false,joe t h a b d f,jl5 t h a b d f _ (by omega),jpe t h a b d f _ (by rw [List.length_append];omega)]
   rfl
theorem jlo (t:T) (h:msr yT t<=1048576) (a b:List (List V)) (d:j07 t a=true) (f:j07 t b=true) (k:List ST->Res):j7E t a b k=k (jhd t a b):=by
 unfold j7E
 obtain ⟨n,p,q⟩:=j04 f
 obtain ⟨j,l,m⟩:=j04 d
 have g:=j99 _ (jer t b) a
 have i:=j99 _ (j9T t a) b
 rw [jnL t h a b d f,jkr t h a b d f _ (by omega),joI t h a b d f _ (by rw [List.length_append];omega)]
 rfl
end
end Go.PI.G
namespace Go.PI.G
noncomputable section
open Go Go.PI Go.Proofs
theorem jlp (a b:List C) (g:a.length<=LIM) (k:Bool->Res):j0v a b k=k (j0f zC ceq a b):=by
 unfold j0v
 by_cases d:a.length=b.length
 ·rw [j9Y d,cond_false]
  unfold j5a
  unfold LIM at g
  have:=j7d zC ceq a b (step:=j3p a b (nI a.length)) ((λ(_:Unit)=>k true),(λ(_:Unit)=>k false)) (k true) (k false) g d (λi rec f h=>by
   show j0p _ _ _ _ _ _ _=_
   unfold j0p
   rw [ZaQ f,cond_true,j00 f,cond_true,j00 h,cond_true,Zay _ _ _ f,Zay _ _ _ h,j01 (n:=(i:Int)+1) (by omega)]
   show (bif !ceq a[i] b[i] then _ else _)=_
   cases ceq a[i] b[i]<;>rfl) (λrec=>by
   show j0p _ _ _ _ _ _ _=_
   unfold j0p
   rw [ZaP,cond_false])
  refine this.trans ?_
  cases j0f zC ceq a b<;>rfl
 ·rw [j9Z d,cond_true,j8q d]
theorem jmr (a b:List ByteArray) (g:a.length<=LIM) (k:Bool->Res):j0x a b k=k (j0f eS sEq a b):=by
 unfold j0x
 by_cases d:a.length=b.length
 ·rw [j9Y d,cond_false]
  unfold j66
  unfold LIM at g
  have:=j7d eS sEq a b (step:=j4P a b (nI a.length)) ((λ(_:Unit)=>k true),(λ(_:Unit)=>k false)) (k true) (k false) g d (λi rec f h=>by
   show j1a _ _ _ _ _ _ _=_
   unfold j1a
   rw [ZaQ f,cond_true,j00 f,cond_true,j00 h,cond_true,Zay _ _ _ f,Zay _ _ _ h,j01 (n:=(i:Int)+1) (by omega)]
   show (bif !sEq a[i] b[i] then _ else _)=_
   cases sEq a[i] b[i]<;>rfl) (λrec=>by
   show j1a _ _ _ _ _ _ _=_
   unfold j1a
   rw [ZaP,cond_false])
  refine this.trans ?_
  cases j0f eS sEq a b<;>rfl
 ·rw [j9Z d,cond_true,j8q d]
def j2o (a b:T):Bool:=sEq a.1 b.1&&(j0f zC ceq a.2.1 b.2.1&&j0f eS sEq a.2.2 b.2.2)
theorem jfh {α:Type} {z:α} {f:α->α->Bool} (j:∀ x y,f x y=true->x=y) {a b:List α} (h:j0f z f a b=true):a=b:=by
 unfold j0f at h
 simp only [Bool.and_eq_true,decide_eq_true_eq,Bool.not_eq_true'] at h
 refine List.ext_getElem h.1 λi d g=> ?_
 have:=j7e a 0 h.2 i d
 rw [Bool.not_eq_false',show 0+i=i by omega,Zay _ _ _ g] at this
 exact j _ _ this
theorem jsq (a b:C) (h:ceq a b=true):a=b:=by
 obtain ⟨d,f,g,i,j,k,l⟩:=a
 obtain ⟨m,n,p,q,r,w,y⟩:=b
 unfold ceq at h
 simp only [Bool.and_eq_true,beq_iff_eq,j0d] at h
 obtain ⟨rfl,rfl,rfl,rfl,rfl,rfl,rfl⟩:=h
 rfl
theorem jj6 {a b:T} (h:j2o a b=true):a=b:=by
 obtain ⟨i,j,k⟩:=a
 obtain ⟨l,m,n⟩:=b
 unfold j2o at h
 simp only [Bool.and_eq_true,j0d] at h
 obtain ⟨rfl,f,g⟩:=h
 have:=jfh jsq f
 have:=jfh (λx y d=>(j0d x y).1 d) g
 simp_all
theorem jpO (a b:T) (j:msr yT a<=1048576) (p:msr yT b<=1048576) (q:j08 a=true) (tb:j08 b=true) (k:Bool->Res):j4m a b k=k (j2o a b):=by
 obtain ⟨r,w,y,z,A⟩:=j1l j
 unfold j4m j3W j2o
 rw [j9o a j,j9o b p,q,tb,Bool.not_true,cond_false,cond_false]
 show (bif !sEq a.1 b.1 then _ else _)=_
 cases sEq a.1 b.1
 ·rfl
 ·rw [Bool.not_true,cond_false,Bool.true_and]
  by_cases g:a.2.1.length=b.2.1.length
  ·rw [j9Y g,cond_false]
   by_cases h:a.2.2.length=b.2.2.length
   ·rw [j9Y h]
    dsimp only
    rw [cond_false]
    unfold j9I
    have l:=j7d zC ceq a.2.1 b.2.1 (step:=j5c (nI a.2.1.length) a b) ((λ(_:Unit)=>j3V (nI a.2.2.length) a b Z1c 0 (λ(_:Unit)=>k true) (λ(_:Unit)=>k false)),(λ(_:Unit)=>k false)) (j3V (nI a.2.2.length) a b Z1c 0 (λ(_:Unit)=>k true) (λ(_:Unit)=>k false)) (k false) (by unfold LIM;omega) g (λi rec d f=>by
     show j2w _ a b _ _ _ _=_
     unfold j2w j9J
     rw [ZaQ d,cond_true,j00 d,cond_true,j00 f,cond_true,Zay _ _ _ d,Zay _ _ _ f,j01 (n:=(i:Int)+1) (by omega)]
     show (bif !ceq a.2.1[i] b.2.1[i] then _ else _)=_
     cases ceq a.2.1[i] b.2.1[i]<;>rfl) (λrec=>by
     show j2w _ a b _ _ _ _=_
     unfold j2w
     rw [ZaP,cond_false])
    refine l.trans ?_
    cases j0f zC ceq a.2.1 b.2.1
    ·rfl
    ·rw [cond_true,Bool.true_and]
     unfold j3V
     have m:=j7d eS sEq a.2.2 b.2.2 (step:=j5d (nI a.2.2.length) a b) ((λ(_:Unit)=>k true),(λ(_:Unit)=>k false)) (k true) (k false) (by unfold LIM;omega) h (λi rec d f=>by
      show j2x _ a b _ _ _ _=_
      unfold j2x
      rw [ZaQ d,cond_true,j00 d,cond_true,j00 f,cond_true,Zay _ _ _ d,Zay _ _ _ f,j01 (n:=(i:Int)+1) (by omega)]
      show (bif !sEq a.2.2[i] b.2.2[i] then _ else _)=_
      cases sEq a.2.2[i] b.2.2[i]<;>rfl) (λrec=>by
      show j2x _ a b _ _ _ _=_
      unfold j2x
      rw [ZaP,cond_false])
     refine m.trans ?_
     cases j0f eS sEq a.2.2 b.2.2<;>rfl
   ·rw [j9Z h]
    dsimp only
    rw [cond_true,j8q h,Bool.and_false]
  ·rw [j9Z g,cond_true]
   dsimp only
   rw [cond_true,j8q g,Bool.false_and]
theorem jpG (a b:T) (d:msr yT a<=1048576) (k:Bool->Res):j4v a b k=k (j2o a b):=by
 obtain ⟨f,g,h,i,j⟩:=j1l d
 unfold j4v j2o
 rw [jlp _ _ (by unfold LIM;omega),jmr _ _ (by unfold LIM;omega)]
 cases sEq a.1 b.1
 ·rfl
 ·cases j0f zC ceq a.2.1 b.2.1<;>rfl
theorem jqk (a b:List T) (h:msr (.slice yT) a<=1048576) (k:Bool->Res):j1C a b () k=k (j0f zT j2o a b):=by
 obtain ⟨l,j⟩:=jmz h
 unfold j1C
 by_cases f:a.length=b.length
 ·rw [j9Y f,cond_false]
  unfold j8e
  have:=j7d zT j2o a b (step:=j3a b a (nI a.length)) ((λ(_:Unit)=>k true),(λ(_:Unit)=>k false)) (k true) (k false) (by unfold LIM;omega) f (λi rec d g=>by
   show j0N _ _ _ _ _ _ _=_
   unfold j0N
   rw [ZaQ d,cond_true,j00 d,cond_true,j00 g,cond_true,Zay _ _ _ d,Zay _ _ _ g,jpG _ _ (j _ (List.getElem_mem d)),j01 (n:=(i:Int)+1) (by omega)]
   cases j2o a[i] b[i]<;>rfl) (λrec=>by
   show j0N _ _ _ _ _ _ _=_
   unfold j0N
   rw [ZaP,cond_false])
  refine this.trans ?_
  cases j0f zT j2o a b<;>rfl
 ·rw [j9Z f,cond_true,j8q f]
def j35 (a b:DB) (i:Nat) (t:T):List ST:=jhd t (nth [] a.2 (i:Int)) (nth [] b.2 (i:Int))
def jqt (a b:DB):Except Unit (List ST):=Z1S (λi d t=> .ok (d++j35 a b i t)) 0 a.1 []
def jcI (a b:DB):List ST:=match jqt a b with | .ok l=>l | .error _=>[]
theorem jns {α β:Type} (f:Nat->α->Bool) (g:Nat->α->List β):(l:List α)->(i:Nat)->(b:List β)->Z1S (λi b t=>bif f i t then (.ok (b++g i t):Except Unit (List β)) else .error ()) i l b=bif Z71 (λi t=> !f i t) i l then .error () else Z1S (λi b t=>(.ok (b++g i t):Except Unit (List β))) i l b
 | [],_,_=>rfl
 | x::l,i,b=>by
  simp only [Z1S,Z71]
  cases f i x
  ·rfl
  ·exact jns f g l (i+1) _
theorem jq9 {α β:Type} (g:Nat->α->List β):(l:List α)->(i:Nat)->(b:List β)->∃ r,Z1S (λi b t=>(.ok (b++g i t):Except Unit (List β))) i l b= .ok r
 | [],_,b=>⟨b,rfl⟩
 | x::l,i,b=>jq9 g l (i+1) _
theorem jku (a b:DB):jqt a b= .ok (jcI a b):=by
 obtain ⟨r,d⟩:=jq9 (j35 a b) a.1 0 []
 have:jqt a b= .ok r:=d
 unfold jcI
 rw [this]
theorem jkp {c:List T} (h:j25 c=true):c.length<=6:=by
 unfold j25 at h
 rw [Bool.and_eq_true,decide_eq_true_eq] at h
 exact h.1
theorem jpN (a b:DB) (z:msr yDB a<=1048576) (A:msr yDB b<=1048576) (k:List ST->Bool->Res):j8V a b k=bif dbB a&&(dbB b&&j0f zT j2o a.1 b.1) then k (jcI a b) true else k [] false:=by
 obtain ⟨L,M,P,D,Q⟩:=jiw z
 obtain ⟨R,T,U,I,V⟩:=jiw A
 unfold j8V
 rw [jcW a z,jcW b A]
 cases F:dbB a
 ·rfl
 ·cases G:dbB b
  ·rfl
  ·rw [Bool.not_true,cond_false,cond_false,Bool.true_and,Bool.true_and]
   obtain ⟨J,W,q⟩:=jaM F
   obtain ⟨X,Y,y⟩:=jaM G
   have K:=jkp J
   by_cases B:a.2.length=b.2.length
   ·have r:a.1.length=b.1.length:=by omega
    rw [j9Y B,cond_false]
    unfold jeU
    have:=Z3Z a.1 (λi d=>(d,i)) (λi d t=>bif j2o t (nth zT b.1 (i:Int)) then (.ok (d++j35 a b i t):Except Unit (List ST)) else .error ()) (λi d=>d.length<=180 * i) (step:=j72 a.1 (nI a.1.length) a b) ((λ(d:List ST)=>k d true),(λ(_:Unit)=>k [] false)) (λd=>k d true) (λ_=>k [] false) [] (by unfold LIM;omega) (by simp) (λi d E f C m=>by
     have h:i<b.1.length:=by omega
     have g:i<a.2.length:=by omega
     have j:i<b.2.length:=by omega
     cases p:j2o a.1[i] (nth zT b.1 (i:Int))
     ·rw [p] at m;cases m
     ·rw [p,cond_true] at m
      cases m
      have:=jeJ a.1[i] a.2[i] b.2[i] (j04 (q i f g)).2.1 (j04 (y i h j)).2.1
      unfold j35
      rw [Zay _ _ _ g,Zay _ _ _ j,List.length_append]
      omega) (λi d rec f C=>by
     have h:i<b.1.length:=by omega
     have g:i<a.2.length:=by omega
     have j:i<b.2.length:=by omega
     show j4l _ _ a b _ _ _ _ _=_
     unfold j4l
     dsimp only
     rw [ZaQ f,cond_true,j00 f,cond_true,j00 h,cond_true,Zay _ _ _ f,Zay _ _ _ h,jpO _ _ (D _ (List.getElem_mem f)) (I _ (List.getElem_mem h)) (j04 (q i f g)).1 (j04 (y i h j)).1,j01 (n:=(i:Int)+1) (by omega)]
     cases p:j2o a.1[i] b.1[i]
     ·rfl
     ·have w:=jj6 p
      have l:=y i h j
      rw [<-w] at l
      have:=jeJ a.1[i] a.2[i] b.2[i] (j04 (q i f g)).2.1 (j04 l).2.1
      unfold j35
      rw [Bool.not_true,cond_false,j00 g,cond_true,j00 j,cond_true,Zay _ _ _ g,Zay _ _ _ j,jm3 _ (D _ (List.getElem_mem f)),q i f g,l,Bool.and_true,cond_true,ZaL (by unfold LIM;omega),cond_true,cond_true]) (λd rec C=>by
     show j4l _ _ a b _ _ _ _ _=_
     unfold j4l
     dsimp only
     rw [ZaP,cond_false])
    refine this.trans ?_
    rw [jns (λi t=>j2o t (nth zT b.1 (i:Int))) (j35 a b)]
    unfold j0f
    rw [decide_eq_true r,Bool.true_and]
    cases Z71 (λi t=> !j2o t (nth zT b.1 (i:Int))) 0 a.1
    ·have H:Z1S (λi d t=>(.ok (d++j35 a b i t):Except Unit (List ST))) 0 a.1 []= .ok (jcI a b):=jku a b
     rw [cond_false,H]
     rfl
    ·rfl
   ·rw [j9Z B,cond_true,j8q (by omega),cond_false]
theorem jpF (a b:DB) (w:msr yDB a<=1048576) (E:msr yDB b<=1048576) (k:List ST->Bool->Res):j8v a b k=bif dbB a&&(dbB b&&j0f zT j2o a.1 b.1) then k (jcI a b) true else k [] false:=by
 obtain ⟨I,M,P,J,Q⟩:=jiw w
 unfold j8v
 rw [jis a w,jis b E]
 cases C:dbB a
 ·rfl
 ·cases D:dbB b
  ·rfl
  ·rw [Bool.not_true,cond_false,cond_false,Bool.true_and,Bool.true_and,jqk _ _ I]
   obtain ⟨K,R,r⟩:=jaM C
   obtain ⟨T,U,B⟩:=jaM D
   have L:=jkp K
   cases q:j0f zT j2o a.1 b.1
   ·rfl
   ·have m:=jfh (λx y h=>jj6 h) q
    have G:a.1.length=b.1.length:=by rw [m]
    rw [Bool.not_true,cond_false,cond_true]
    unfold jeu
    have:=Z3Z a.1 (λi d=>(d,i)) (λi d t=>(.ok (d++j35 a b i t):Except Unit (List ST))) (λi d=>d.length<=180 * i) (step:=j9c a.1 (nI a.1.length) a b) (λ(d:List ST)=>k d true) (λd=>k d true) (λ_=>k [] false) [] (by unfold LIM;omega) (by simp) (λi d A f z F=>by
     have p:i<b.1.length:=by omega
     have g:i<a.2.length:=by omega
     have j:i<b.2.length:=by omega
     cases F
     have:=jeJ a.1[i] a.2[i] b.2[i] (j04 (r i f g)).2.1 (j04 (B i p j)).2.1
     unfold j35
     rw [Zay _ _ _ g,Zay _ _ _ j,List.length_append]
     omega) (λi d rec f z=>by
     have p:i<b.1.length:=by omega
     have g:i<a.2.length:=by omega
     have j:i<b.2.length:=by omega
     show j6z _ _ a b _ _ _ _=_
     unfold j6z
     dsimp only
     have l:j07 a.1[i] b.2[i]=true:=by
      have:=B i p j
      simp only [<-m] at this
      exact this
     have:=jeJ a.1[i] a.2[i] b.2[i] (j04 (r i f g)).2.1 (j04 l).2.1
     unfold j35
     rw [ZaQ f,cond_true,j00 f,cond_true,j00 g,cond_true,j00 j,cond_true,Zay _ _ _ f,Zay _ _ _ g,Zay _ _ _ j,jlo _ (J _ (List.getElem_mem f)) _ _ (r i f g) l,ZaL (by unfold LIM;omega),cond_true,j01 (n:=(i:Int)+1) (by omega)]) (λd rec z=>by
     show j6z _ _ a b _ _ _ _=_
     unfold j6z
     dsimp only
     rw [ZaP,cond_false])
    refine this.trans ?_
    have H:Z1S (λi d t=>(.ok (d++j35 a b i t):Except Unit (List ST))) 0 a.1 []= .ok (jcI a b):=jku a b
    rw [H]
end
end Go.PI.G
namespace Go.PI.G
open Go Go.PI
theorem jjZ {l:List C}:(ks:List ByteArray)->(b:Int)->b<(l.length:Int)->j18 l b ks=true->b+(ks.length:Int)<(l.length:Int)
 | [],b,d,_=>by simpa using d
 | q::ks,b,d,h=>by
  simp only [j18,Bool.and_eq_true,Bool.not_eq_true',decide_eq_false_iff_not] at h
  have f:=jjZ ks (j02 l q) (j7K l q).2 h.2.2
  rw [List.length_cons]
  omega
theorem jrL {t:T} (h:j08 t=true):t.2.2.length<=8:=by
 have b:=j0R h
 have:=jjZ t.2.2 (-1) (by omega) b.2.2.2.2.2
 omega
theorem jnh {l:List C} {r:List V} (h:j0t l r=true) (i:Nat) (b:i<l.length):j0w (nth zV r (i:Int))=true:=by
 unfold j0t at h
 simp only [Bool.and_eq_true,Bool.not_eq_true'] at h
 have:=j7e l 0 h.2 i b
 rw [Bool.not_eq_false',show 0+i=i by omega] at this
 unfold j48 at this
 rw [Bool.and_eq_true] at this
 exact this.1
theorem joV {e:Ty} {l:List (El e)} {n B:Nat} (f:l.length<=n) (b:∀ x∈l,msr e x<=B):msr (.slice e) l<=n+n * B:=by
 have k:msr (.slice e) l=l.length+(l.map (msr e)).sum:=rfl
 have d:∀ (l:List (El e)),(∀ x∈l,msr e x<=B)->(l.map (msr e)).sum<=l.length * B:=by
  intro l
  induction l with
  | nil=>intro _;simp
  | cons x l h=>
   intro b
   have i:=b x (by simp)
   have j:=h λy g=>b y (List.mem_cons_of_mem _ g)
   simp only [List.map_cons,List.sum_cons,List.length_cons]
   rw [Nat.add_mul];omega
 have m:=d l b
 have p:l.length * B<=n * B:=Nat.mul_le_mul_right _ f
 omega
theorem jq8 {v:V} (h:j0w v=true):msr yV v<=30:=by
 have b:=jnr h
 have:msr yV v=0+(0+v.2.2.size):=rfl
 omega
theorem joP {t:T} {r:List V} (ht:j08 t=true) (f:j0t t.2.1 r=true):msr (.slice yV) (j06 t r)<=248:=by
 refine joV (n:=8) (B:=30) (by rw [j8z];exact jrL ht) (λv b=> ?_)
 obtain ⟨n,d,rfl⟩:=List.mem_map.1 b
 have g:=j19 t.2.2 (-1) (by omega) (j0R ht).2.2.2.2.2 n d
 have b:=jnh f (j02 t.2.1 n).toNat (by omega)
 rw [show (((j02 t.2.1 n).toNat:Nat):Int)=j02 t.2.1 n by omega] at b
 exact jq8 b
theorem jq5 {t:T} {r:List V} (ht:j08 t=true) (b:j0t t.2.1 r=true):msr (.slice yV) r<=248:=by
 have g:=j0g b
 have h:=j0R ht
 refine joV (n:=8) (B:=30) (by omega) (λv f=> ?_)
 obtain ⟨i,d,rfl⟩:=List.getElem_of_mem f
 have:=jnh b i (by omega)
 rw [Zay _ _ _ d] at this
 exact jq8 this
theorem jsK {s:ByteArray} (h:j0u s=true):s.size<=8:=by
 unfold j0u at h
 simp only [Bool.and_eq_true,decide_eq_true_eq] at h
 exact h.2.2
theorem jpg (n:Int) (s:ByteArray) (a b:List V):msr yST (n,s,a,b,0,eS,[],[],eS,eS)=s.size+(msr (.slice yV) a+msr (.slice yV) b):=by
 have:msr yST (n,s,a,b,0,eS,[],[],eS,eS)=0+(s.size+(msr (.slice yV) a+(msr (.slice yV) b+(0+(0+(0+(0+(0+0)))))))):=rfl
 omega
theorem jq4:msr (.slice yV) []=0:=rfl
theorem jqs (t:T) (a b:List (List V)) (m:j07 t a=true) (p:j07 t b=true):msr (.slice yST) (jhd t a b)<=108180:=by
 obtain ⟨h,z,i⟩:=j04 p
 obtain ⟨q,w,y⟩:=j04 m
 have A:=jsK (j0R h).1
 refine Nat.le_trans (joV (n:=180) (B:=600) (jeJ t a b w z) λx d=> ?_) (by omega)
 unfold jhd at d
 rcases List.mem_append.1 d with d | d
 ·rcases List.mem_append.1 d with d | d
  ·obtain ⟨r,g,d⟩:=List.mem_flatMap.1 d
   have k:=joP q (y r g)
   unfold jcy at d
   cases f:decide (j05 t b (j06 t r)<0)
   ·rw [f] at d;cases d
   ·rw [f,cond_true,List.mem_singleton] at d
    subst d
    rw [jpg,jq4];omega
  ·obtain ⟨r,g,d⟩:=List.mem_flatMap.1 d
   have k:=joP h (i r g)
   have l:=jq5 h (i r g)
   unfold j60 at d
   cases f:decide (j05 t a (j06 t r)>=0)
   ·rw [f] at d;cases d
   ·rw [f,cond_true] at d
    cases j:j0f zV veq (nth [] a (j05 t a (j06 t r))) r
    ·rw [j,Bool.not_false,cond_true,List.mem_singleton] at d
     subst d
     rw [jpg];omega
    ·rw [j] at d;cases d
 ·obtain ⟨r,g,d⟩:=List.mem_flatMap.1 d
  have l:=jq5 h (i r g)
  unfold jg1 at d
  cases f:decide (j05 t a (j06 t r)<0)
  ·rw [f] at d;cases d
  ·rw [f,cond_true,List.mem_singleton] at d
   subst d
   rw [jpg,jq4];omega
end Go.PI.G
namespace Go.PI.G
open Go Go.PI Go.Proofs
noncomputable def mdV (a b:DB):List ST×Bool:=bif dbB a&&(dbB b&&j0f zT j2o a.1 b.1) then (jcI a b,true) else ([],false)
theorem jsR (a b:DB) (d:msr yDB a<=1048576) (f:msr yDB b<=1048576) (k:List ST->Bool->Res):j8V a b k=k (mdV a b).1 (mdV a b).2:=by
 rw [jpN a b d f];unfold mdV
 cases dbB a&&(dbB b&&j0f zT j2o a.1 b.1)<;>rfl
theorem jsO (a b:DB) (d:msr yDB a<=1048576) (f:msr yDB b<=1048576) (k:List ST->Bool->Res):j8v a b k=k (mdV a b).1 (mdV a b).2:=by
 rw [jpF a b d f];unfold mdV
 cases dbB a&&(dbB b&&j0f zT j2o a.1 b.1)<;>rfl
theorem jsB {e:Ty} (l m:List (El e)):msr (.slice e) (l++m)=msr (.slice e) l+msr (.slice e) m:=by
 rw [jcT,jcT,jcT,List.length_append,List.map_append,List.sum_append];omega
theorem jsA (a b:DB):msr (.slice yST) (mdV a b).1<=1048576:=by
 unfold mdV
 cases B:dbB a
 ·exact Nat.zero_le _
 ·cases C:dbB b
  ·exact Nat.zero_le _
  ·cases k:j0f zT j2o a.1 b.1
   ·exact Nat.zero_le _
   ·obtain ⟨G,K,H⟩:=jaM B
    obtain ⟨L,M,I⟩:=jaM C
    have J:=jkp G
    have f:=jfh (λx y h=>jj6 h) k
    have D:a.1.length=b.1.length:=by rw [f]
    have E:Z1S (λi d t=>(.ok (d++j35 a b i t):Except Unit (List ST))) 0 a.1 []= .ok (jcI a b):=jku a b
    have p:∀ (l:List T) (i:Nat) (d r:List ST),(∀ (j:Nat) (h:j<l.length),msr (.slice yST) (j35 a b (i+j) l[j])<=108180)->Z1S (λi d t=>(.ok (d++j35 a b i t):Except Unit (List ST))) i l d= .ok r->msr (.slice yST) r<=msr (.slice yST) d+108180 * l.length:=by
     intro l
     induction l with
     | nil=>
      intro i d r _ h
      simp only [Z1S,Except.ok.injEq] at h
      subst h;simp
     | cons x l F=>
      intro i d r A h
      simp only [Z1S] at h
      have g:=A 0 (by simp)
      have:=F (i+1) (d++j35 a b i x) r (λj m=>by
       have:=A (j+1) (by simpa using m)
       rw [show i+1+j=i+(j+1) by omega]
       simpa using this) h
      rw [jsB] at this
      have q:msr (.slice yST) (j35 a b i x)<=108180:=g
      rw [List.length_cons]
      omega
    have:=p a.1 0 [] (jcI a b) (λj m=>by
     have q:j<b.1.length:=by omega
     have w:j<a.2.length:=by omega
     have z:j<b.2.length:=by omega
     have n:j07 a.1[j] b.2[j]=true:=by
      have:=I j q z
      simp only [<-f] at this
      exact this
     unfold j35
     rw [show 0+j=j by omega,Zay _ _ _ w,Zay _ _ _ z]
     exact jqs _ _ _ (H j m w) n) E
    have g:msr (.slice yST) []=0:=rfl
    rw [g] at this
    show msr (.slice yST) (jcI a b)<=1048576
    omega
end Go.PI.G
namespace Go.PI.G
open Go Go.PI
theorem jsV {d:D} (h:msr yD d<=1048576):dSm d:=by
 have j:msr yD d=0+(d.2.1.size+(msr (.slice yC) d.2.2.1+(msr (.slice .str) d.2.2.2.1+(d.2.2.2.2.1.size+d.2.2.2.2.2.size)))):=rfl
 have b:msr (.slice yC) d.2.2.1<=1048576:=by omega
 have f:msr (.slice .str) d.2.2.2.1<=1048576:=by omega
 refine ⟨by omega,j0c b,j0c f,λc g=> ?_,λx i=>j0h f i,by omega,by omega⟩
 have:=j0h b g
 have k:msr yC c=c.1.size+msr (.pair (.int .i64) (.pair .bool (.pair .bool yV))) c.2:=rfl
 omega
theorem jra {s:ST} (h:msr yST s<=1048576):jj9 s:=by
 have f:msr yST s=0+(s.2.1.size+(msr (.slice yV) s.2.2.1+(msr (.slice yV) s.2.2.2.1+msr yD s.2.2.2.2))):=rfl
 have b:msr (.slice yV) s.2.2.1<=1048576:=by omega
 have d:msr (.slice yV) s.2.2.2.1<=1048576:=by omega
 exact ⟨by omega,j0c b,j0c d,jsV (by omega)⟩
end Go.PI.G
namespace Go.PI.G
open Go Go.PI Go.Proofs
theorem jhT (k:ByteArray->Res):∀ (m n d:Nat) (s:ByteArray),n<m->0<n->n<=4294967296->n<10 ^ (d+1)->s.size+d<=1000 ->
  Z1f j5I m ((n:Int),s) k=k (jh5 n++s)
 | 0,n,d,s,h,_,_,_,_=>by omega
 | m+1,n,d,s,h,q,p,i,r=>by
  rw [Z9Y]
  show j30 _ _ _ _=_
  unfold j30
  have l:decide ((n:Int)>0)=true:=decide_eq_true (by omega)
  rw [l,cond_true,jsa,jsb,ZaH (n:=((n / 10:Nat):Int)) (by omega) (by omega)]
  show (bif lim ((dgt ((n % 10:Nat):Int)).size+s.size) then Z1f j5I m (((n / 10:Nat):Int),dgt ((n % 10:Nat):Int)++s) k else none)=_
  rw [jeq,ZaL (by unfold LIM;omega),cond_true]
  by_cases b:n<10
  ·have f:n / 10=0:=by omega
   have g:n % 10=n:=by omega
   rw [f,g,jml b]
   obtain ⟨m,rfl⟩:∃ e,m=e+1:=⟨m-1,by omega⟩
   rw [Z9Y]
   show j30 _ _ _ _=_
   unfold j30
   have j:decide (((0:Nat):Int)>0)=false:=decide_eq_false (by omega)
   rw [j,cond_false]
  ·obtain ⟨d,rfl⟩:∃ e,d=e+1:=by
    cases d with
    | zero=>exact absurd (by simpa using i) b
    | succ d=>exact ⟨d,rfl⟩
   rw [jhT k m (n / 10) d _ (by omega) (by omega) (by omega) (Nat.div_lt_of_lt_mul (by rw [Nat.pow_succ] at i;omega)) (by rw [ByteArray.size_append,jeq];omega),jpV b,ByteArray.append_assoc]
theorem j1z (k:Int) (h:1<=k/\k<=4294967296) (K:ByteArray->Res):j09 k K=K (mT k):=by
 unfold j09 jeE
 have d:decide (k<=0)=false:=decide_eq_false (by omega)
 have:=jhT (λ(b:ByteArray)=>bif lim (1+(ByteArray.size b)) then K (z_m++b) else none) Z1c k.toNat 12 eS (Z2b (by omega)) (by omega) (by omega) (by omega) (by show 0+12<=1000;omega)
 rw [show ((k.toNat:Nat):Int)=k by omega,jsN] at this
 rw [d,cond_false]
 refine this.trans ?_
 have f:=jn6 12 k.toNat (by omega)
 rw [ZaL (by unfold LIM;omega),cond_true]
 rfl
end Go.PI.G
set_option maxRecDepth 10000
namespace Go.PI.G
open Go Go.PI Go.Proofs
theorem jpl (a:Int×Int×ByteArray) (h:msr y2 a<=1048576) (k:qV->Res):jbg a k=k a:=by
 unfold jbg
 rfl
theorem jpi (a:Int×Int×ByteArray) (left:Int) (h:0<=left) (i:left<=1048576) (g:Wf y2 a) (k:Int->Res):jbe a left k=k (szR left (msr y2 a)):=by
 have f:msr y2 a=ByteArray.size a.2.2+0:=by simp only [msr]<;>omega
 rw [f]
 unfold jbe
 have d:ByteArray.size a.2.2<=maxLen:=g.2.2
 unfold maxLen at d
 rw [j01 (by unfold nI;omega)]
 by_cases b:((ByteArray.size a.2.2:Nat):Int)<=left
 rotate_left
 ·rw [Zal b,Za5 (by unfold nI;omega),cond_true]
 rw [Za4 (by unfold nI;omega),cond_false,Zak b,show left-nI (ByteArray.size a.2.2)=left-((ByteArray.size a.2.2:Nat):Int) from rfl]
 exact jbz (by omega)
theorem joA (a:Int×Int×ByteArray) (h:msr y2 a<=1048576) (k:Bool->Res):jba a a k=k true:=by
 unfold jba
 simp only [ZaO,Zai,beq_self_eq_true,cond_false,Bool.not_true]
end Go.PI.G
namespace Go.PI.G
open Go Go.PI Go.Proofs
theorem jsd (a:ByteArray×Int×Bool×Bool×Int×Int×ByteArray) (h:msr y7 a<=1048576) (k:qC->Res):jdY a k=k a:=by
 have b:msr y2 a.2.2.2.2<=1048576:=(Nat.le_trans (@j03 .bool y2 a.2.2.2) (Nat.le_trans (@j03 .bool y4 a.2.2) (Nat.le_trans (@j03 (.int .i64) y5 a.2) (Nat.le_trans (@j03 .str y6 a) h))))
 unfold jdY
 simp only [jpl _ b]
theorem js6 (a:ByteArray×Int×Bool×Bool×Int×Int×ByteArray) (left:Int) (i:0<=left) (j:left<=1048576) (g:Wf y7 a) (k:Int->Res):jdX a left k=k (szR left (msr y7 a)):=by
 have h:msr y7 a=ByteArray.size a.1+(msr y2 a.2.2.2.2+0):=by simp only [msr]<;>omega
 rw [h]
 unfold jdX
 have f:ByteArray.size a.1<=maxLen:=g.1
 unfold maxLen at f
 rw [j01 (by unfold nI;omega)]
 by_cases d:((ByteArray.size a.1:Nat):Int)<=left
 rotate_left
 ·rw [Zal d,Za5 (by unfold nI;omega),cond_true]
 rw [Za4 (by unfold nI;omega),cond_false,Zak d,show left-nI (ByteArray.size a.1)=left-((ByteArray.size a.1:Nat):Int) from rfl]
 rw [jpi _ _ (by omega) (by omega) g.2.2.2.2]
 by_cases b:((msr y2 a.2.2.2.2:Nat):Int)<=left-(ByteArray.size a.1:Nat)
 rotate_left
 ·rw [Zaz b,Zal b,Za5 (by omega),cond_true]
 rw [ZaA b,Zak b,Za4 (by omega),cond_false]
 exact jbz (by omega)
theorem jrE (a:ByteArray×Int×Bool×Bool×Int×Int×ByteArray) (h:msr y7 a<=1048576) (k:Bool->Res):jdW a a k=k true:=by
 have b:msr y2 a.2.2.2.2<=1048576:=(Nat.le_trans (@j03 .bool y2 a.2.2.2) (Nat.le_trans (@j03 .bool y4 a.2.2) (Nat.le_trans (@j03 (.int .i64) y5 a.2) (Nat.le_trans (@j03 .str y6 a) h))))
 unfold jdW
 simp only [ZaO,Zai,beq_self_eq_true,cond_false,Bool.not_true,joA _ b]
end Go.PI.G
namespace Go.PI.G
open Go Go.PI Go.Proofs
theorem jnp (a:qE) (h:msr y8 a<=1048576) (k:qE->Res):j64 a k=k a:=by
 have g:a.length<=1048576:=j0c h
 unfold j64
 rw [Zav (by unfold LIM;omega),cond_true]
 have:=ZaC ((eS,0,false,false,0,0,eS)) a id (step:=jal a) (λb=>k b) (by unfold LIM;omega) (λb i rec d f=>by
  show j4H a _ _ _ _=_
  unfold j4H
  dsimp only
  simp only [ZaQ d,cond_true,j00 d,j00 (show i<b.length by omega),Zay _ _ _ d,ZaF,j01 (n:=(i:Int)+1) (by omega),jsd _ (j0h h (List.getElem_mem d))]
  rfl) (λb rec=>by
  show j4H a _ _ _ _=_
  unfold j4H
  dsimp only
  rw [ZaP,cond_false])
 rw [List.map_id] at this
 exact this
theorem jnn (a:qE) (left:Int) (g:0<=left) (h:left<=1048576) (l:Wf y8 a) (k:Int->Res):j63 a left k=k (szR left (msr y8 a)):=by
 have j:a.length<=maxLen:=l.1
 have p:msr y8 a=a.length+(a.map (msr y7)).sum:=rfl
 rw [p]
 unfold j63
 refine jeV (F:=λq=>jca a Z1c q 0 (λd=>k d) (λ_=>k (-1))) (k:=k) g h j λb=> ?_
 unfold jca
 rw [ZaB (msr y7) a _ (by omega) (λleft i rec f g h=> ?_) (λleft rec=> ?_) _ (by omega) (by omega)]
 ·by_cases b:(((a.map (msr y7)).sum:Nat):Int)<=left-a.length
  ·rw [if_pos b,ZaA b]
  ·rw [if_neg b,Zaz b]
 ·show j4E a _ _ _ _ _=_
  have r:=l.2 _ (List.getElem_mem f)
  unfold j4E
  rw [ZaQ f,cond_true,j00 f,cond_true,Zay _ _ _ f,js6 _ _ g h r]
  have m:(i:Int)<4611686018427387904:=by unfold maxLen at j;omega
  rw [j01 (n:=(i:Int)+1) (by omega)]
  by_cases b:((msr y7 a[i]:Nat):Int)<=left
  ·rw [if_pos b,ZaA b,Za4 (by omega),cond_false]
  ·rw [if_neg b,Zaz b,Za5 (by omega),cond_true]
 ·show j4E a _ _ _ _ _=_
  unfold j4E
  rw [ZaP,cond_false]
theorem jn7 (a:qE) (h:msr y8 a<=1048576) (k:Bool->Res):j62 a a k=k true:=by
 have d:a.length<=1048576:=j0c h
 unfold j62
 rw [ZaO,cond_false]
 unfold jgB
 rw [Zar a _ (by unfold LIM;omega) (λi rec b=> ?_) (λrec=> ?_)]
 ·show j4x a a _ _ _ _=_
  unfold j4x
  simp only [ZaQ b,cond_true,j00 b,Zay _ _ _ b,j01 (n:=(i:Int)+1) (by omega),ZaO,Zai,cond_false,Bool.not_true,jrE _ (j0h h (List.getElem_mem b))]
 ·show j4x a a _ _ _ _=_
  unfold j4x
  rw [ZaP,cond_false]
theorem jk0 (a:qE) (k:Int) (h:msr y8 a<=1048576) (w:1<=k) (m:k+(wgt y8 a:Int)<=4294967296) (K:Int->qE->Res):j5n a k K=K (k+(wgt y8 a:Int)) (mkL (wgt y7) (mk y7) a k):=by
 have y:a.length<=1048576:=j0c h
 have f:wgt y8 a=(a.map (wgt y7)).sum:=rfl
 rw [f] at m ⊢
 unfold j5n jeC
 have:=Z9Z (wgt y7) (mk y7) a k (λl k i=>(l,k,i)) (step:=j5H) (λl k=>K k l) (λl k=>K k l) (by unfold LIM;omega) (λl i rec g b n d=>by
  have q:=Z7B (wgt y7) a i g
  have r:=Z9L (wgt y7) a (i+1)
  generalize A:k+((((a.take i).map (wgt y7)).sum:Nat):Int)=κ
  have p:1<=κ/\κ+(wgt y7 a[i]:Int)<=4294967296:=by omega
  have z:(wgt y7 a[i]:Int)=1+1+1+1+1+1+1:=by
   have:wgt y7 a[i]=1+1+1+1+1+1+1:=by first | rfl | (simp only [wgt];done) | (simp only [wgt];omega)
   first | rfl | omega
  show j1T _ _ _ _ _=_
  dsimp only
  unfold j1T j4B j4C j4D
  rw [<-b] at g
  have j:i<a.length:=by omega
  simp (disch:=first | assumption | omega) only [show nI a.length=nI l.length by rw [b],ZaQ,j00,jcp,cond_true,jce,jcq,Zay,d,j01,j1z,<-b]
  rw [ZaF]
  congr 3<;>first | rfl | omega | (simp only [j1p,j0Z,j2u,j57,j1o,j2v,j12,j1s,j11,j1t,Int.natCast_add,Int.natCast_one,<-Int.add_assoc];done) | (simp only [j1p,j0Z,j2u,j57,j1o,j2v,j12,j1s,j11,j1t,Int.natCast_add,Int.natCast_one,<-Int.add_assoc];rfl) | skip) (λl k rec b=>by
  show j1T _ _ _ _ _=_
  dsimp only
  unfold j1T j4B j4C j4D
  rw [<-b,ZaP,cond_false])
 exact this
theorem jpz (a:qE) (k:Int) (h:msr y8 a<=1048576) (y:1<=k) (p:k+(wgt y8 a:Int)<=4294967296) (K:Int->Res):j7F (mkL (wgt y7) (mk y7) a k) k K=K (k+(wgt y8 a:Int)):=by
 have z:a.length<=1048576:=j0c h
 have f:wgt y8 a=(a.map (wgt y7)).sum:=rfl
 rw [f] at p ⊢
 have d:=Z6s (wgt y7) (mk y7) a k
 have j:=Zau (wgt y7) (mk y7) a k
 generalize mkL (wgt y7) (mk y7) a k=l at d j
 unfold j7F jeA
 have:=Z9W (wgt y7) a k (λk i=>(k,i)) (step:=j5G l) ((λ(g:Int)=>K g),(λ(_:Unit)=>K (-1))) (λk=>K k) (by unfold LIM;omega) (λi rec m=>by
  have r:=Z7B (wgt y7) a i m
  have w:=Z9L (wgt y7) a (i+1)
  have b:=j i m (by omega)
  generalize B:k+((((a.take i).map (wgt y7)).sum:Nat):Int)=κ at b
  have q:1<=κ/\κ+(wgt y7 a[i]:Int)<=4294967296:=by omega
  have A:(wgt y7 a[i]:Int)=1+1+1+1+1+1+1:=by
   have:wgt y7 a[i]=1+1+1+1+1+1+1:=by first | rfl | (simp only [wgt];done) | (simp only [wgt];omega)
   first | rfl | omega
  show j1R _ _ _ _ _ _=_
  dsimp only
  unfold j1R
  have n:i<l.length:=by omega
  simp (disch:=first | assumption | omega) only [ZaQ,j00,cond_true,cond_false,Zay,b,j1p,j0Z,j2u,j57,j1o,j2v,j12,j1s,j11,j1t,Int.natCast_add,Int.natCast_one,<-Int.add_assoc,j01,j1z,ZaO,Zai,beq_self_eq_true,Bool.not_true,Za4]
  all_goals (congr 2;omega)) (λk rec=>by
  show j1R _ _ _ _ _ _=_
  dsimp only
  unfold j1R
  rw [<-d,ZaP,cond_false])
 exact this
end Go.PI.G
namespace Go.PI.G
open Go Go.PI Go.Proofs
theorem jjb (a:(List ByteArray)) (h:msr y0 a<=1048576) (k:(List ByteArray)->Res):j2G a k=k a:=by
 have g:a.length<=1048576:=j0c h
 unfold j2G
 rw [Zav (by unfold LIM;omega),cond_true]
 have:=ZaC (eS) a id (step:=j7Z a) (λb=>k b) (by unfold LIM;omega) (λb i rec d f=>by
  show j2t a _ _ _ _=_
  unfold j2t
  dsimp only
  simp only [ZaQ d,cond_true,j00 d,j00 (show i<b.length by omega),Zay _ _ _ d,ZaF,j01 (n:=(i:Int)+1) (by omega)]
  rfl) (λb rec=>by
  show j2t a _ _ _ _=_
  unfold j2t
  dsimp only
  rw [ZaP,cond_false])
 rw [List.map_id] at this
 exact this
theorem jja (a:(List ByteArray)) (left:Int) (j:0<=left) (l:left<=1048576) (p:Wf y0 a) (k:Int->Res):j2F a left k=k (szR left (msr y0 a)):=by
 have m:a.length<=maxLen:=p.1
 have r:msr y0 a=a.length+(a.map (msr .str)).sum:=rfl
 rw [r]
 unfold j2F
 refine jeV (F:=λq=>j9B a Z1c q 0 (λd=>k d) (λ_=>k (-1))) (k:=k) j l m λb=> ?_
 unfold j9B
 rw [ZaB (msr .str) a _ (by omega) (λleft i rec f j l=> ?_) (λleft rec=> ?_) _ (by omega) (by omega)]
 ·by_cases b:(((a.map (msr .str)).sum:Nat):Int)<=left-a.length
  ·rw [if_pos b,ZaA b]
  ·rw [if_neg b,Zaz b]
 ·show j2s a _ _ _ _ _=_
  have h:=p.2 _ (List.getElem_mem f)
  unfold j2s
  have h:a[i].size<=maxLen:=h
  unfold maxLen at h m
  rw [ZaQ f,cond_true,j00 f,cond_true,Zay _ _ _ f,j01 (n:=left-nI a[i].size) (by unfold nI;omega),j01 (n:=(i:Int)+1) (by omega)]
  unfold nI
  by_cases b:((msr .str a[i]:Nat):Int)<=left
  ·have g:(a[i].size:Int)<=left:=b
   rw [if_pos b,Za4 (by omega),cond_false];rfl
  ·have g:¬ (a[i].size:Int)<=left:=b
   rw [if_neg b,Za5 (by omega),cond_true]
 ·show j2s a _ _ _ _ _=_
  unfold j2s
  rw [ZaP,cond_false]
theorem jip (a:(List ByteArray)) (h:msr y0 a<=1048576) (k:Bool->Res):j2D a a k=k true:=by
 have d:a.length<=1048576:=j0c h
 unfold j2D
 rw [ZaO,cond_false]
 unfold jdD
 rw [Zar a _ (by unfold LIM;omega) (λi rec b=> ?_) (λrec=> ?_)]
 ·show j2q a a _ _ _ _=_
  unfold j2q
  simp only [ZaQ b,cond_true,j00 b,Zay _ _ _ b,j01 (n:=(i:Int)+1) (by omega),ZaO,Zai,cond_false,Bool.not_true]
 ·show j2q a a _ _ _ _=_
  unfold j2q
  rw [ZaP,cond_false]
theorem jgE (a:(List ByteArray)) (k:Int) (h:msr y0 a<=1048576) (w:1<=k) (m:k+(wgt y0 a:Int)<=4294967296) (K:Int->(List ByteArray)->Res):j1J a k K=K (k+(wgt y0 a:Int)) (mkL (wgt .str) (mk .str) a k):=by
 have y:a.length<=1048576:=j0c h
 have f:wgt y0 a=(a.map (wgt .str)).sum:=rfl
 rw [f] at m ⊢
 unfold j1J jbT
 have:=Z9Z (wgt .str) (mk .str) a k (λl k i=>(l,k,i)) (step:=j6H) (λl k=>K k l) (λl k=>K k l) (by unfold LIM;omega) (λl i rec g b n d=>by
  have q:=Z7B (wgt .str) a i g
  have r:=Z9L (wgt .str) a (i+1)
  generalize A:k+((((a.take i).map (wgt .str)).sum:Nat):Int)=κ
  have p:1<=κ/\κ+(wgt .str a[i]:Int)<=4294967296:=by omega
  have z:(wgt .str a[i]:Int)=1:=by
   have:wgt .str a[i]=1:=by first | rfl | (simp only [wgt];done) | (simp only [wgt];omega)
   first | rfl | omega
  show j1U _ _ _ _ _=_
  dsimp only
  unfold j1U
  rw [<-b] at g
  have j:i<a.length:=by omega
  simp (disch:=first | assumption | omega) only [show nI a.length=nI l.length by rw [b],ZaQ,j00,jcp,cond_true,jce,jcq,Zay,d,j01,j1z,<-b]
  rw [ZaF]
  congr 3<;>first | rfl | omega | (simp only [j1p,j0Z,j2u,j57,j1o,j2v,j12,j1s,j11,j1t,Int.natCast_add,Int.natCast_one,<-Int.add_assoc];done) | (simp only [j1p,j0Z,j2u,j57,j1o,j2v,j12,j1s,j11,j1t,Int.natCast_add,Int.natCast_one,<-Int.add_assoc];rfl) | skip) (λl k rec b=>by
  show j1U _ _ _ _ _=_
  dsimp only
  unfold j1U
  rw [<-b,ZaP,cond_false])
 exact this
theorem jmn (a:(List ByteArray)) (k:Int) (h:msr y0 a<=1048576) (y:1<=k) (p:k+(wgt y0 a:Int)<=4294967296) (K:Int->Res):j4A (mkL (wgt .str) (mk .str) a k) k K=K (k+(wgt y0 a:Int)):=by
 have z:a.length<=1048576:=j0c h
 have f:wgt y0 a=(a.map (wgt .str)).sum:=rfl
 rw [f] at p ⊢
 have d:=Z6s (wgt .str) (mk .str) a k
 have j:=Zau (wgt .str) (mk .str) a k
 generalize mkL (wgt .str) (mk .str) a k=l at d j
 unfold j4A jbS
 have:=Z9W (wgt .str) a k (λk i=>(k,i)) (step:=j6F l) ((λ(g:Int)=>K g),(λ(_:Unit)=>K (-1))) (λk=>K k) (by unfold LIM;omega) (λi rec m=>by
  have r:=Z7B (wgt .str) a i m
  have w:=Z9L (wgt .str) a (i+1)
  have b:=j i m (by omega)
  generalize B:k+((((a.take i).map (wgt .str)).sum:Nat):Int)=κ at b
  have q:1<=κ/\κ+(wgt .str a[i]:Int)<=4294967296:=by omega
  have A:(wgt .str a[i]:Int)=1:=by
   have:wgt .str a[i]=1:=by first | rfl | (simp only [wgt];done) | (simp only [wgt];omega)
   first | rfl | omega
  show j1S _ _ _ _ _ _=_
  dsimp only
  unfold j1S
  have n:i<l.length:=by omega
  simp (disch:=first | assumption | omega) only [ZaQ,j00,cond_true,cond_false,Zay,b,j1p,j0Z,j2u,j57,j1o,j2v,j12,j1s,j11,j1t,Int.natCast_add,Int.natCast_one,<-Int.add_assoc,j01,j1z,ZaO,Zai,beq_self_eq_true,Bool.not_true,Za4]
  all_goals (congr 2;omega)) (λk rec=>by
  show j1S _ _ _ _ _ _=_
  dsimp only
  unfold j1S
  rw [<-d,ZaP,cond_false])
 exact this
end Go.PI.G
namespace Go.PI.G
open Go Go.PI Go.Proofs
theorem jqH (a:ByteArray×qE×List ByteArray) (h:msr y10 a<=1048576) (k:qT->Res):j8K a k=k a:=by
 have b:msr y8 a.2.1<=1048576:=(Nat.le_trans (@j0K y8 y0 a.2) (Nat.le_trans (@j03 .str y9 a) h))
 have d:msr y0 a.2.2<=1048576:=(Nat.le_trans (@j03 y8 y0 a.2) (Nat.le_trans (@j03 .str y9 a) h))
 unfold j8K
 simp only [jnp _ b,jjb _ d]
theorem jqF (a:ByteArray×qE×List ByteArray) (left:Int) (j:0<=left) (l:left<=1048576) (g:Wf y10 a) (k:Int->Res):j8I a left k=k (szR left (msr y10 a)):=by
 have i:msr y10 a=ByteArray.size a.1+(msr y8 a.2.1+(msr y0 a.2.2+0)):=by simp only [msr]<;>omega
 rw [i]
 unfold j8I
 have h:ByteArray.size a.1<=maxLen:=g.1
 unfold maxLen at h
 rw [j01 (by unfold nI;omega)]
 by_cases f:((ByteArray.size a.1:Nat):Int)<=left
 rotate_left
 ·rw [Zal f,Za5 (by unfold nI;omega),cond_true]
 rw [Za4 (by unfold nI;omega),cond_false,Zak f,show left-nI (ByteArray.size a.1)=left-((ByteArray.size a.1:Nat):Int) from rfl]
 rw [jnn _ _ (by omega) (by omega) g.2.1]
 by_cases b:((msr y8 a.2.1:Nat):Int)<=left-(ByteArray.size a.1:Nat)
 rotate_left
 ·rw [Zaz b,Zal b,Za5 (by omega),cond_true]
 rw [ZaA b,Zak b,Za4 (by omega),cond_false]
 rw [jja _ _ (by omega) (by omega) g.2.2]
 by_cases d:((msr y0 a.2.2:Nat):Int)<=left-(ByteArray.size a.1:Nat)-(msr y8 a.2.1:Nat)
 rotate_left
 ·rw [Zaz d,Zal d,Za5 (by omega),cond_true]
 rw [ZaA d,Zak d,Za4 (by omega),cond_false]
 exact jbz (by omega)
theorem jqi (a:ByteArray×qE×List ByteArray) (h:msr y10 a<=1048576) (k:Bool->Res):j8B a a k=k true:=by
 have b:msr y8 a.2.1<=1048576:=(Nat.le_trans (@j0K y8 y0 a.2) (Nat.le_trans (@j03 .str y9 a) h))
 have d:msr y0 a.2.2<=1048576:=(Nat.le_trans (@j03 y8 y0 a.2) (Nat.le_trans (@j03 .str y9 a) h))
 unfold j8B
 simp only [ZaO,Zai,beq_self_eq_true,cond_false,Bool.not_true,jn7 _ b,jip _ d]
end Go.PI.G
