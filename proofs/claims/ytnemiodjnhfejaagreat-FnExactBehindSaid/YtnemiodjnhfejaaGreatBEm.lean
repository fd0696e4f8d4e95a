/-
  Program's code interpreted over typed values; printed texts; plain laws. No conditions.
-/
import Derived.Test.YtnemiodjnhfejaaGreatBEl
import Derived.Test.YtnemiodjnhfejaaGreatBEj
import Derived.Test.YtnemiodjnhfejaaGreatBEh
import Derived.Test.YtnemiodjnhfejaaGreatBEk
import Derived.Test.YtnemiodjnhfejaaGreatBEi
set_option linter.unusedVariables false
set_option linter.unusedSimpArgs false
namespace Go.PI.G
open Go Go.PI Go.Proofs
theorem jpQ (b:Int) (s:ST) (a z:Res):j78 b s (λ_=>a) (λ_=>z)=bif decide (b<0)&& !((s.1==5)&&(s.2.2.2.2.1==1)) then z else a:=by
 unfold j78
 cases decide (b<0)
 ·rfl
 ·rw [cond_true,Bool.true_and]
  unfold bne
  cases (s.1==5)
  ·rfl
  ·cases (s.2.2.2.2.1==1)<;>rfl
theorem jmT {t:T} {l:List (List V)} {s:ST}:0<=(j2d t l s).2/\(j2d t l s).2<=5:=by
 unfold j2d j5a j5b j59
 cases (s.1==1)
 ·cases (s.1==2)
  ·cases (s.1==3)
   ·simp
   ·simp only [cond_true,cond_false]
    cases j08 t l
    ·simp
    ·cases (!j9g t s.2.2.1||decide (j06 t l s.2.2.1<0))<;>simp
  ·simp only [cond_true,cond_false]
   cases j08 t l
   ·simp
   ·cases j0k t.2.1 s.2.2.2.1
    ·simp
    ·cases (!j9g t s.2.2.1||decide (j06 t l s.2.2.1<0))
     ·cases !decide (j06 t (l.eraseIdx (j06 t l s.2.2.1).toNat) (j05 t s.2.2.2.1)<0)<;>simp
     ·simp
 ·simp only [cond_true,cond_false]
  cases j08 t l
  ·simp
  ·cases j0k t.2.1 s.2.2.2.1
   ·simp
   ·cases !decide (j06 t l (j05 t s.2.2.2.1)<0)
    ·cases (l.length==60)<;>simp
    ·simp
theorem jmc (d:DB) (h:dbB d=true) (s:ST) (q:s.1≠5) (i:Nat) (f:i<d.1.length) (g:j04 d.1 s.2.1=(i:Int)) (k:DB->Int->Res) :
  (bif inb (i:Int) d.1.length then
          bif inb (i:Int) d.2.length then
           j14 (nth zT d.1 (i:Int)) (nth [] d.2 (i:Int)) s λ(w:List (List V)) (r:Int)=>
            bif (r != 0) then
             k ([],[]) (Z9K (10+r))
            else
             j1t d λ(m:DB)=>
              bif inb (i:Int) (List.length m.2) then
               k (m.1,upd m.2 (i:Int) w) 0
              else none
          else none
         else none)=k (j1F d s).1 (j1F d s).2:=by
 obtain ⟨p,y,z⟩:=(j1v d).1 h
 have b:i<d.2.length:=by omega
 have B:=(jbU (jbB p)).2 _ (List.getElem_mem f)
 have ht:j03 d.1[i]=true:=((j0c _).1 p).2.1 _ (List.getElem_mem f)
 have j:msr yT d.1[i]<=1048576:=Nat.le_trans (jah ht) (by omega)
 rw [j00 f,cond_true,j00 b,cond_true,Zay _ _ _ f,Zay _ _ _ b,jmg _ j _ _ q]
 unfold j1F
 rw [g,decide_eq_false (by omega),Bool.false_and,cond_false,show (s.1==5)=false by simpa using q,cond_false,Zay _ _ _ f,Zay _ _ _ b]
 have A:=jmT (t:=d.1[i]) (l:=d.2[i]) (s:=s)
 cases C:((j2d d.1[i] d.2[i] s).2 != 0)
 ·rw [cond_false,cond_false,jiV d h,j00 b,cond_true,ZaF,Int.toNat_natCast]
 ·rw [cond_true,cond_true,j01 (n:=10+(j2d d.1[i] d.2[i] s).2) (by omega)]
end Go.PI.G
namespace Go.PI.G
open Go Go.PI Go.Proofs
noncomputable def j8e (d:DB) (x:D) (u:T):List (List V):=
 bif decide (j04 d.1 u.1>=0)&&sEq u.1 x.2.1 then (bif x.1==2 then [] else jdm (nth zT d.1 (j04 d.1 u.1)) x (nth [] d.2 (j04 d.1 u.1)))
 else bif decide (j04 d.1 u.1>=0) then nth [] d.2 (j04 d.1 u.1) else []
theorem jnu (d:DB) (h:dbB d=true) (s:ST) (z:s.1=5) (B:s.2.2.2.2.2.1=s.2.1) (q:dSm s.2.2.2.2) (E:j0R s.2.2.2.2=true) (l:j0a d.1 s.2.2.2.2=0) (u:T) (k:List (List V)->Res) :
  (j1Y d.1 u.1 λ(r:Int)=>j2L r s u λ(t:Bool)=>j1A r t d s [] k)=k (j8e d s.2.2.2.2 u):=by
 obtain ⟨C,J,D⟩:=(j1v d).1 h
 obtain ⟨_,G,_,g⟩:=jhm h
 rw [jck _ _ (by unfold LIM;omega)]
 unfold j2L j1A j8e
 rw [B]
 rcases j0u d.1 u.1 with ⟨p,_⟩ | ⟨i,n,p,A⟩
 ·rw [p]
  rfl
 ·have w:decide (j04 d.1 u.1>=0)=true:=decide_eq_true (by omega)
  have f:i<d.2.length:=by omega
  rw [w,Bool.true_and,cond_true,p,j00 n,j00 f,Zay _ _ _ n,Zay _ _ _ f]
  cases H:sEq u.1 s.2.1
  ·obtain ⟨K,I⟩:=g _ (List.getElem_mem f)
   simp only [cond_false,cond_true]
   rw [jgv _ (by omega) I]
  ·have b:u.1=s.2.1:=(j09 _ _).1 H
   have ht:j03 d.1[i]=true:=((j0c _).1 C).2.1 _ (List.getElem_mem n)
   have y:msr yT d.1[i]<=1048576:=Nat.le_trans (jah ht) (by omega)
   have m:j04 d.1 s.2.2.2.2.2.1=(i:Int):=by rw [B,<-b];exact p
   have j:s.2.2.2.2.1≠1:=λe=>by
    unfold j0a at l
    rw [e,m] at l
    rw [decide_eq_false (show ¬ (i:Int)<0 by omega)] at l
    cases l
   have F:j0n d.1[i] s.2.2.2.2=0:=by
    unfold j0a at l
    rw [show (s.2.2.2.2.1==1)=false by simpa using j,cond_false,m,decide_eq_false (show ¬ (i:Int)<0 by omega),cond_false,Zay _ _ _ n] at l
    exact l
   simp only [cond_true]
   unfold j14
   rw [z]
   simp only [show ((5:Int)==1)=false from rfl,show ((5:Int)==2)=false from rfl,show ((5:Int)==3)=false from rfl,show ((5:Int)==5)=true from rfl,cond_false,cond_true,Z9Q]
   rw [jjP _ y _ (D i n f) _ q E (by rw [B,<-b];exact A.symm) j,F]
   rfl
theorem jlt {c:List T} {d:D} (b:j1N c=true) (f:j0R d=true):jdn c d=bif j0a c d != 0 then ([],j0a c d) else (j0S c d,0):=by
 unfold jdn
 rw [b,f]
 rfl
theorem jia (c:List T) (d:D):0<=j0a c d/\j0a c d<=8:=by
 unfold j0a j0n
 cases (d.1==1)
 ·cases decide (j04 c d.2.1<0)
  ·generalize nth zT c (j04 c d.2.1)=t
   cases (d.1==3)
   ·cases (d.1==4)
    ·cases (d.1==5)
     ·simp
     ·cases decide (j02 t.2.1 d.2.2.2.2.2<0)
      ·simp
      ·cases decide (j02 t.2.1 d.2.2.2.2.1<0)<;>simp
    ·cases decide (j02 t.2.1 d.2.2.2.2.1<0)
     ·cases t.2.2.any (λx=>sEq x d.2.2.2.2.1)<;>simp
     ·simp
   ·cases decide (j02 t.2.1 (nth zC d.2.2.1 0).1<0)
    ·simp
    ·cases (t.2.1.length==8)<;>simp
  ·simp
 ·cases decide (j04 c d.2.1<0)
  ·simp
  ·cases (c.length==6)<;>simp
theorem jjN (d:DB) (h:dbB d=true) (s:ST) (q:s.1=5) (y:s.2.2.2.2.2.1=s.2.1) (j:dSm s.2.2.2.2) (p:j0R s.2.2.2.2=true) (k:DB->Int->Res) :
  j35 d s k=bif j0a d.1 s.2.2.2.2 != 0 then k ([],[]) (10+j0a d.1 s.2.2.2.2) else k (j0S d.1 s.2.2.2.2,(j0S d.1 s.2.2.2.2).map (j8e d s.2.2.2.2)) 0:=by
 obtain ⟨m,z,A⟩:=(j1v d).1 h
 have D:=jia d.1 s.2.2.2.2
 unfold j35
 rw [jh2 _ _ (jbB m) j,jlt m p]
 cases r:(j0a d.1 s.2.2.2.2 != 0)
 rotate_left
 ·rw [cond_true]
  dsimp only
  rw [r,cond_true,cond_true,j01 (n:=10+j0a d.1 s.2.2.2.2) (by omega)]
 have g:j0a d.1 s.2.2.2.2=0:=by simpa using r
 have f:=jjg m p g
 have w:=((j0c _).1 f).1
 rw [cond_false,cond_false]
 show (j4O (j0S d.1 s.2.2.2.2) (nI (j0S d.1 s.2.2.2.2).length) d s Z1c 0 (j0S d.1 s.2.2.2.2,[]) λb=>k b 0)=_
 generalize j0S d.1 s.2.2.2.2=c' at *
 unfold j4O
 have:=Z9T c' (λi b=>(i,(c',b))) (λu=>[j8e d s.2.2.2.2 u]) 6 [] (step:=j1M c' (nI c'.length) d s) (λb=>k b 0) (λb=>k (c',b) 0) (by unfold LIM;omega) (λi l _=>by
  rw [jcK,List.nil_append,List.length_map,List.length_take];omega) (by simp) (λi b rec l C B=>by
  show j0Y _ _ _ _ _ _ _ _=_
  unfold j0Y
  dsimp only
  rw [ZaQ l,cond_true,j00 l,cond_true,Zay _ _ _ l,jnu d h s q y j p g,ZaL (by unfold LIM;omega),cond_true,j01 (n:=(i:Int)+1) (by omega)]) (λb rec=>by
  show j0Y _ _ _ _ _ _ _ _=_
  unfold j0Y
  dsimp only
  rw [ZaP,cond_false])
 refine this.trans ?_
 rw [jcK,List.nil_append]
end Go.PI.G
namespace Go.PI.G
open Go Go.PI Go.Proofs
theorem jo1 {d:DB} (h:msr yDB d<=1048576):msr (.slice yT) d.1<=1048576/\d.1.length<=1048576/\d.2.length<=1048576/\(∀ t∈d.1,msr yT t<=1048576)/\∀ l∈d.2,l.length<=1048576:=by
 have i:msr yDB d=msr (.slice yT) d.1+msr (.slice (.slice (.slice yV))) d.2:=rfl
 have b:msr (.slice yT) d.1<=1048576:=by omega
 have f:msr (.slice (.slice (.slice yV))) d.2<=1048576:=by omega
 exact ⟨b,j0M b,j0M f,λt ht=>j1Q b ht,λl g=>j0M (j1Q f g)⟩
theorem jgt (d:DB) (h:msr yDB d<=1048576) (k:Bool->Res):j5G d k=k (dbB d):=by
 obtain ⟨j,m,p,l,q⟩:=jo1 h
 unfold j5G dbB
 rw [jiT _ j]
 cases j1N d.1
 ·rfl
 ·rw [Bool.not_true,cond_false,Bool.true_and]
  by_cases f:d.2.length=d.1.length
  ·have g:(nI d.2.length != nI d.1.length)=false:=by rw [f,ZaO]
   rw [g,cond_false,decide_eq_true f,Bool.true_and]
   unfold jcl
   have:=Z9P d.1 (λi=>i) (λi t=> !j08 t (nth [] d.2 (i:Int))) (step:=j7w d.1 (nI d.1.length) d) ((λ(_:Unit)=>k true),(λ(_:Unit)=>k false)) (k true) (k false) (by unfold LIM;omega) (λi rec b=>by
    show j5t _ _ d _ _ _ _=_
    unfold j5t
    rw [ZaQ b,cond_true,j00 b,cond_true,j00 (f ▸ b),cond_true,Zay _ _ _ b,j6o _ (l _ (List.getElem_mem b)),j01 (n:=(i:Int)+1) (by omega)]) (λrec=>by
    show j5t _ _ d _ _ _ _=_
    unfold j5t
    rw [ZaP,cond_false])
   refine this.trans ?_
   cases Z71 (λi t=> !j08 t (nth [] d.2 (i:Int))) 0 d.1<;>rfl
  ·have g:(nI d.2.length != nI d.1.length)=true:=by unfold nI;simp;omega
   rw [g,cond_true,decide_eq_false f,Bool.false_and]
theorem jnT (d:DB) (h:msr yDB d<=1048576) (k:Bool->Res):j8V d k=k (dbB d):=by
 obtain ⟨j,m,p,l,q⟩:=jo1 h
 unfold j8V dbB
 rw [jif _ j]
 cases j1N d.1
 ·rfl
 ·rw [Bool.not_true,cond_false,Bool.true_and]
  by_cases f:d.2.length=d.1.length
  ·have g:(nI d.2.length != nI d.1.length)=false:=by rw [f,ZaO]
   rw [g,cond_false,decide_eq_true f,Bool.true_and]
   unfold jbW
   have:=Z9P d.1 (λi=>i) (λi t=> !j08 t (nth [] d.2 (i:Int))) (step:=j7m d.1 (nI d.1.length) d) ((λ(_:Unit)=>k true),(λ(_:Unit)=>k false)) (k true) (k false) (by unfold LIM;omega) (λi rec b=>by
    show j4X _ _ d _ _ _ _=_
    unfold j4X
    rw [ZaQ b,cond_true,j00 b,cond_true,j00 (f ▸ b),cond_true,Zay _ _ _ b,j7X _ (l _ (List.getElem_mem b)),j01 (n:=(i:Int)+1) (by omega)]) (λrec=>by
    show j4X _ _ d _ _ _ _=_
    unfold j4X
    rw [ZaP,cond_false])
   refine this.trans ?_
   cases Z71 (λi t=> !j08 t (nth [] d.2 (i:Int))) 0 d.1<;>rfl
  ·have g:(nI d.2.length != nI d.1.length)=true:=by unfold nI;simp;omega
   rw [g,cond_true,decide_eq_false f,Bool.false_and]
end Go.PI.G
namespace Go.PI.G
open Go Go.PI Go.Proofs
theorem jgZ {d:DB} (h:dbB d=true) (x:D) {j:Nat} (i:j<d.1.length) (b:j<d.2.length) (k:d.1[j].1≠x.2.1):j8e d x d.1[j]=d.2[j]:=by
 obtain ⟨g,l,m⟩:=(j1v d).1 h
 unfold j8e
 have f:sEq d.1[j].1 x.2.1=false:=by
  cases f:sEq d.1[j].1 x.2.1
  ·rfl
  ·exact absurd ((j09 _ _).1 f) k
 rw [f,Bool.and_false,cond_false,jd1 ((j0c _).1 g).2.2 i,decide_eq_true (by omega),cond_true,Zay _ _ _ b]
theorem jo8 {d:DB} (h:dbB d=true) (x:D) {i:Nat} (n:i<d.1.length) (q:i<d.2.length) (r:d.1[i].1=x.2.1):d.1.map (j8e d x)=d.2.set i (j8e d x d.1[i]):=by
 obtain ⟨l,m,y⟩:=(j1v d).1 h
 apply List.ext_getElem
 ·simp [m]
 ·intro j w z
  have g:j<d.1.length:=by simpa using w
  rw [List.getElem_map,List.getElem_set]
  by_cases e:i=j
  ·subst e
   rw [if_pos rfl]
  ·rw [if_neg e]
   refine jgZ h x g (by omega) λk=> ?_
   have p:=((j0c _).1 l).2.2
   have b:=jjF p n g e
   rw [r,k,jby] at b
   rcases b with f | f<;>cases f
theorem jps {d:DB} (h:dbB d=true) {x:D} (K:j0R x=true) (A:j0a d.1 x=0):(j0S d.1 x).map (j8e d x)=jgC d x:=by
 obtain ⟨F,J,P⟩:=(j1v d).1 h
 have C:=(j0c _).1 F
 unfold jgC
 cases r:(x.1==1)
 ·rw [cond_false]
  rcases j0u d.1 x.2.1 with ⟨l,_⟩ | ⟨i,B,l,z⟩
  ·unfold j0a at A
   rw [r,cond_false,decide_eq_true (by omega),cond_true] at A
   cases A
  ·have k:i<d.2.length:=by omega
   have g:=jo8 h x B k z
   unfold j0S
   rw [r,cond_false,l,Zay _ _ _ B,Zay _ _ _ k,Int.toNat_natCast]
   cases I:(x.1==2)
   ·rw [cond_false,cond_false,List.map_set,g,List.set_set]
    congr 1
    unfold j8e
    rw [jg0,z,Zah,Bool.and_true,l,decide_eq_true (by omega),cond_true,I,cond_false,Zay _ _ _ B,Zay _ _ _ k]
   ·rw [cond_true,cond_true,List.eraseIdx_eq_take_drop_succ,List.eraseIdx_eq_take_drop_succ,List.map_append,List.map_take,List.map_drop,g,List.take_set,List.set_eq_of_length_le (by rw [List.length_take];omega),List.drop_set_of_lt (by omega)]
 ·rw [cond_true]
  have e:x.1=1:=by simpa using r
  have b:=A
  unfold j0a at b
  rw [r,cond_true] at b
  rcases j0u d.1 x.2.1 with ⟨l,E⟩ | ⟨i,B,l,_⟩
  rotate_left
  ·rw [decide_eq_false (by omega)] at b
   cases b
  have ht:j03 (x.2.1,x.2.2.1,x.2.2.2.1)=true:=by
   obtain ⟨_,⟨t,cs,ks,rfl,ht⟩ | ⟨t,rfl⟩ | ⟨t,c,rfl,_⟩ | ⟨t,n,rfl,_⟩ | ⟨t,n,m,rfl,_⟩⟩:=j7k K
   ·exact ht
   all_goals exact absurd e (by simp)
  have G:d.1.length<6:=by
   rw [decide_eq_true (by omega),Bool.not_true,cond_false] at b
   have G:=C.1
   rcases Nat.lt_or_ge d.1.length 6 with q | q
   ·exact q
   ·rw [show (d.1.length==6)=true from beq_iff_eq.2 (by omega)] at b
    cases b
  obtain ⟨p,Q,f,y⟩:=jlP F ht (show j04 d.1 x.2.1<0 by omega) G
  have w:d.1.map (j8e d x)=d.2:=by
   apply List.ext_getElem
   ·simp [J]
   ·intro j L M
    have H:j<d.1.length:=by simpa using L
    rw [List.getElem_map]
    exact jgZ h x H M (E _ (List.getElem_mem H))
  unfold j0S
  rw [r,cond_true]
  have f:j04 (lay tR (x.2.1,x.2.2.1,x.2.2.2.1) d.1) x.2.1=(p:Int):=f
  rw [f,Int.toNat_natCast,y,List.map_append,List.map_cons,List.map_take,List.map_drop,w]
  congr 2
  unfold j8e
  rw [l]
  rfl
theorem joO {t:T} {l:List (List V)} (h:j08 t l=true) (n:t.2.1.length<=8):msr (.slice (.slice yV)) l<=14940:=by
 obtain ⟨ht,g,d⟩:=j0g h
 have:=j8Y (e:= .slice yV) 248 l (λr b=>by
  have i:=j8Y (e:=yV) 30 r (λv f=>jpj (jlZ (d r b) v f))
  have j:=j0q (d r b)
  have k:r.length * (30+1)<=8 * 31:=Nat.mul_le_mul (by omega) (Nat.le_refl _)
  omega)
 have m:l.length * (248+1)<=60 * 249:=Nat.mul_le_mul g (Nat.le_refl _)
 omega
theorem jib {d:DB} (h:dbB d=true):msr yDB d<=1048576:=by
 obtain ⟨g,m,j⟩:=(j1v d).1 h
 have f:=((j0c _).1 g).1
 have q:=j8Y (e:=yT) 400 d.1 (λt ht=>jah (((j0c _).1 g).2.1 t ht))
 have n:d.1.length * (400+1)<=6 * 401:=Nat.mul_le_mul f (Nat.le_refl _)
 have r:=j8Y (e:= .slice (.slice yV)) 14940 d.2 (λx l=>by
  obtain ⟨i,k,rfl⟩:=List.mem_iff_getElem.1 l
  have b:=j i (by omega) k
  exact joO b ((j5X _).1 (j0g b).1).2.2.1)
 have p:d.2.length * (14940+1)<=6 * 14941:=Nat.mul_le_mul (by omega) (Nat.le_refl _)
 have e:msr yDB d=msr (.slice yT) d.1+msr (.slice (.slice (.slice yV))) d.2:=rfl
 omega
theorem joc {s:ST} (d:stB s=true) (f:s.1=5):j0R s.2.2.2.2=true/\s.2.2.2.2.2.1=s.2.1:=by
 unfold stB at d
 rw [f,Bool.and_eq_true] at d
 have b:=d.2
 simp only [show ((5:Int)==1)=false from rfl,show ((5:Int)==2)=false from rfl,show ((5:Int)==3)=false from rfl,show ((5:Int)==4)=false from rfl,show ((5:Int)==5)=true from rfl,cond_false,cond_true,Bool.and_eq_true] at b
 exact ⟨b.2.2.1,(j09 _ _).1 b.2.2.2⟩
theorem jmJ (d:DB) (h:dbB d=true) (s:ST) (b:j15 s) (n:stB s=true) (k:DB->Int->Res):j77 d s k=k (j1F d s).1 (j1F d s).2:=by
 obtain ⟨p,A,B⟩:=(j1v d).1 h
 have y:=((j0c _).1 p).1
 unfold j77
 rw [jgt d (jib h),h,Bool.not_true,cond_false,jgw s b,n,Bool.not_true,cond_false,jck _ _ (by unfold LIM;omega),jpQ]
 cases g:(decide (j04 d.1 s.2.1<0)&& !((s.1==5)&&(s.2.2.2.2.1==1)))
 rotate_left
 ·unfold j1F
  rw [g]
  rfl
 rw [cond_false]
 cases f:(s.1==5)
 ·rw [f,Bool.false_and,Bool.not_false,Bool.and_true] at g
  have r:¬ j04 d.1 s.2.1<0:=of_decide_eq_false g
  rcases j0u d.1 s.2.1 with ⟨j,_⟩ | ⟨i,w,j,_⟩
  ·omega
  rw [cond_false,j]
  exact jmc d h s (by simpa using f) i w j k
 ·have l:s.1=5:=by simpa using f
  obtain ⟨m,z⟩:=joc n l
  rw [cond_true,jjN d h s l z b.2.2.2 m]
  unfold j1F
  rw [g,f,cond_false,cond_true]
  cases q:(j0a d.1 s.2.2.2.2 != 0)
  ·rw [cond_false,cond_false,jps h m (by simpa using q)]
  ·rfl
end Go.PI.G
namespace Go.PI.G
open Go Go.PI Go.Proofs
theorem jpJ (b:Int) (s:ST) (a z:Res):j6Y b s (λ_=>a) (λ_=>z)=bif decide (b<0)&& !((s.1==5)&&(s.2.2.2.2.1==1)) then z else a:=by
 unfold j6Y
 cases decide (b<0)
 ·rfl
 ·rw [cond_true,Bool.true_and]
  unfold bne
  cases (s.1==5)
  ·rfl
  ·cases (s.2.2.2.2.1==1)<;>rfl
theorem jlI (t:T) (h:msr yT t<=1048576) (l:List (List V)) (s:ST) (k:List (List V)->Int->Res):j54 l 0 s.1 s t k=k (j2d t l s).1 (j2d t l s).2:=by
 unfold j54 j2d
 cases (s.1==1)
 ·rw [cond_false,cond_false]
  cases (s.1==2)
  ·rw [cond_false,cond_false]
   cases (s.1==3)
   ·rfl
   ·rw [cond_true,cond_true,jkI t h]
  ·rw [cond_true,cond_true,jkK t h]
 ·rw [cond_true,cond_true,jkJ t h]
theorem jjh (d:DB) (h:dbB d=true) (x:D) (A:dSm x) (E:j0R x=true) (k:DB->Int->Res) :
  j53 d x k=bif j0a d.1 x != 0 then k ([],[]) (j0a d.1 x) else k (j0S d.1 x,jgC d x) 0:=by
 obtain ⟨y,Y,K⟩:=(j1v d).1 h
 have R:=((j0c _).1 y).1
 unfold j53
 rw [jmz _ _ (jbB y) A,jlt y E]
 cases I:(j0a d.1 x != 0)
 rotate_left
 ·rw [cond_true]
  dsimp only
  rw [I,cond_true,cond_true]
 have f:j0a d.1 x=0:=by simpa using I
 have l:=jjg y E f
 have P:=((j0c _).1 l).1
 rw [cond_false,cond_false]
 show (j10 d λW=>j0i d.1 x.2.1 λX=>j2b X x.1 d x (j0S d.1 x) W λH=>k (j0S d.1 x,H.2) 0)=_
 rw [jez d h,j6V _ _ (by unfold LIM;omega)]
 unfold j2b jgC
 cases w:(x.1==1)
 ·rw [cond_false,cond_false]
  rcases j0u d.1 x.2.1 with ⟨B,_⟩ | ⟨i,z,B,G⟩
  ·unfold j0a at f
   rw [w,cond_false,decide_eq_true (by omega),cond_true] at f
   cases f
  ·have r:i<d.2.length:=by omega
   rw [B,Int.toNat_natCast]
   cases J:(x.1==2)
   ·have ht:j03 d.1[i]=true:=((j0c _).1 y).2.1 _ (List.getElem_mem z)
    have F:msr yT d.1[i]<=1048576:=Nat.le_trans (jah ht) (by omega)
    have Q:j0n d.1[i] x=0:=by
     unfold j0a at f
     rw [w,cond_false,B,decide_eq_false (show ¬ (i:Int)<0 by omega),cond_false,Zay _ _ _ z] at f
     exact f
    rw [cond_false,cond_false,j00 z,cond_true,j00 r,cond_true,Zay _ _ _ z,Zay _ _ _ r,jjj _ F _ (K i z r) _ A E G.symm (by simpa using w),Q,J,cond_true,ZaF]
    rfl
   ·rw [cond_true,cond_true]
    unfold j4g ja6
    rw [j01 (n:=(i:Int)+1) (by omega),show Z8e (i:Int) ((i:Int)+1) d.2.length=true from j8o (j:=i+1) ⟨by omega,by omega⟩,cond_true,List.eraseIdx_eq_take_drop_succ]
    rfl
 ·rw [cond_true,cond_true]
  simp only [Z9Q]
  have C:∃ p:Nat,p<=d.2.length/\j04 (j0S d.1 x) x.2.1=(p:Int):=by
   have e:x.1=1:=by simpa using w
   have b:=f
   unfold j0a at b
   rw [w,cond_true] at b
   rcases j0u d.1 x.2.1 with ⟨B,T⟩ | ⟨i,z,B,_⟩
   rotate_left
   ·rw [decide_eq_false (by omega)] at b
    cases b
   have ht:j03 (x.2.1,x.2.2.1,x.2.2.2.1)=true:=by
    obtain ⟨_,⟨t,cs,ks,rfl,ht⟩ | ⟨t,rfl⟩ | ⟨t,c,rfl,_⟩ | ⟨t,n,rfl,_⟩ | ⟨t,n,m,rfl,_⟩⟩:=j7k E
    ·exact ht
    all_goals exact absurd e (by simp)
   have L:d.1.length<6:=by
    rw [decide_eq_true (by omega),Bool.not_true,cond_false] at b
    rcases Nat.lt_or_ge d.1.length 6 with q | q
    ·exact q
    ·rw [show (d.1.length==6)=true from beq_iff_eq.2 (by omega)] at b
     cases b
   obtain ⟨p,U,g,_⟩:=jlP y ht (show j04 d.1 x.2.1<0 by omega) L
   refine ⟨p,by omega,?_⟩
   unfold j0S
   rw [w,cond_true]
   exact g
  obtain ⟨p,U,g⟩:=C
  rw [j6V _ _ (by unfold LIM;omega),g]
  unfold j1h jdr
  have M:jhn (p:Int) d.2.length [([]:List (List V))].length=true:=decide_eq_true ⟨by omega,by omega,by simp,by simp;unfold LIM;omega⟩
  rw [M,cond_true,Int.toNat_natCast,List.append_assoc]
  rfl
theorem jmA (d:DB) (h:dbB d=true) (s:ST) (p:j15 s) (D:stB s=true) (k:DB->Int->Res):j8W d s k=k (j1F d s).1 (j1F d s).2:=by
 obtain ⟨q,E,F⟩:=(j1v d).1 h
 have B:=((j0c _).1 q).1
 unfold j8W
 rw [j6V _ _ (by unfold LIM;omega),jpJ]
 cases f:(decide (j04 d.1 s.2.1<0)&& !((s.1==5)&&(s.2.2.2.2.1==1)))
 rotate_left
 ·unfold j1F
  rw [f]
  rfl
 rw [cond_false]
 cases g:(s.1==5)
 ·unfold j1F
  rw [f,g,cond_false,cond_false,cond_false]
  rw [g,Bool.false_and,Bool.not_false,Bool.and_true] at f
  have A:¬ j04 d.1 s.2.1<0:=of_decide_eq_false f
  rcases j0u d.1 s.2.1 with ⟨r,_⟩ | ⟨i,j,r,_⟩
  ·omega
  have b:i<d.2.length:=by omega
  have ht:j03 d.1[i]=true:=((j0c _).1 q).2.1 _ (List.getElem_mem j)
  have m:msr yT d.1[i]<=1048576:=Nat.le_trans (jah ht) (by omega)
  have y:=jmT (t:=d.1[i]) (l:=d.2[i]) (s:=s)
  unfold j9d
  rw [r]
  simp only [j00 j,j00 b,cond_true,Z9Q]
  rw [Zay _ _ _ j,Zay _ _ _ b,jlI _ m]
  cases f:((j2d d.1[i] d.2[i] s).2 != 0)
  ·rw [cond_false,cond_false,jez d h,j00 b,cond_true,ZaF,Int.toNat_natCast]
  ·rw [cond_true,cond_true,j01 (n:=10+(j2d d.1[i] d.2[i] s).2) (by omega)]
 ·have w:s.1=5:=by simpa using g
  obtain ⟨z,G⟩:=joc D w
  have C:=jia d.1 s.2.2.2.2
  rw [cond_true,jjh d h _ p.2.2.2 z]
  unfold j1F
  rw [f,g,cond_false,cond_true]
  cases y:(j0a d.1 s.2.2.2.2 != 0)
  ·rfl
  ·rw [cond_true,cond_true,cond_true,j01 (n:=10+j0a d.1 s.2.2.2.2) (by omega)]
end Go.PI.G
namespace Go.PI.G
open Go Go.PI Go.Proofs
theorem jmd (d:DB) (h:dbB d=true) (s:ST) (b:j15 s) (f:stB s=false) (k:DB->Int->Res):j77 d s k=k ([],[]) 1:=by
 unfold j77
 rw [jgt d (jib h),h,Bool.not_true,cond_false,jgw s b,f]
 rfl
theorem jjO (d:DB) (p:msr yDB d<=1048576) (l:List ST) (z:l.length<=1048576) (j:∀ s∈l,j15 s) (k:DB->Int->Int->Res):j26 d l k=k (j0x d l).1 (j0x d l).2.1 (j0x d l).2.2:=by
 unfold j26 j0x
 rw [jgt d p]
 cases h:dbB d
 ·rfl
 rw [Bool.not_true,cond_false,cond_false,jiV d h]
 unfold j6I
 have:=Z3Z l (λi (a:DB)=>(i,a)) j7z (λ_ a=>dbB a=true) (step:=j4G l (nI l.length)) ((λ(now:DB)=>k now 0 0),(λ(t:Int) (r:Int)=>k ([],[]) t r)) (λa=>k a 0 0) (λe=>k ([],[]) e.1 e.2) d (by unfold LIM;omega) h (λi a w f b q=>ji1 b q) (λi a rec f b=>by
  show j2B _ _ _ _ _ _ _=_
  unfold j2B j7z
  dsimp only
  have g:=j _ (List.getElem_mem f)
  rw [ZaQ f,cond_true,j00 f,cond_true,Zay _ _ _ f]
  cases m:stB l[i]
  ·rw [jmd a b _ g m]
   rfl
  ·rw [jmJ a b _ g m,Bool.not_true,cond_false]
   cases y:((j1F a l[i]).2 != 0)
   ·rw [cond_false,cond_false,j01 (n:=(i:Int)+1) (by omega)]
   ·rfl) (λa rec b=>by
  show j2B _ _ _ _ _ _ _=_
  unfold j2B
  dsimp only
  rw [ZaP,cond_false])
 refine this.trans ?_
 cases Z1S j7z 0 l d<;>rfl
theorem jji (d:DB) (p:msr yDB d<=1048576) (l:List ST) (z:l.length<=1048576) (j:∀ s∈l,j15 s) (k:DB->Int->Int->Res):j20 d l k=k (j0x d l).1 (j0x d l).2.1 (j0x d l).2.2:=by
 unfold j20 j0x
 rw [jnT d p]
 cases h:dbB d
 ·rfl
 rw [Bool.not_true,cond_false,cond_false,jez d h]
 unfold j9a
 have:=Z3Z l (λi (a:DB)=>(i,a)) j7z (λ_ a=>dbB a=true) (step:=j2r l (nI l.length)) ((λ(now:DB)=>k now 0 0),(λ(t:Int) (r:Int)=>k ([],[]) t r)) (λa=>k a 0 0) (λe=>k ([],[]) e.1 e.2) d (by unfold LIM;omega) h (λi a w b g q=>ji1 g q) (λi a rec b g=>by
  show j1w _ _ _ _ _ _ _=_
  unfold j1w j7z
  dsimp only
  have f:=j _ (List.getElem_mem b)
  rw [ZaQ b,cond_true,j00 b,cond_true,Zay _ _ _ b,jk1 _ f]
  cases m:stB l[i]
  ·rfl
  ·rw [Bool.not_true,cond_false,cond_false,jmA a g _ f m]
   cases y:((j1F a l[i]).2 != 0)
   ·rw [cond_false,cond_false,j01 (n:=(i:Int)+1) (by omega)]
   ·rfl) (λa rec g=>by
  show j1w _ _ _ _ _ _ _=_
  unfold j1w
  dsimp only
  rw [ZaP,cond_false])
 refine this.trans ?_
 cases Z1S j7z 0 l d<;>rfl
end Go.PI.G
namespace Go.PI.G
open Go Go.PI
theorem jpP {d:D} (h:msr yD d<=1048576):dSm d:=by
 have j:msr yD d=0+(d.2.1.size+(msr (.slice yC) d.2.2.1+(msr (.slice .str) d.2.2.2.1+(d.2.2.2.2.1.size+d.2.2.2.2.2.size)))):=rfl
 have b:msr (.slice yC) d.2.2.1<=1048576:=by omega
 have f:msr (.slice .str) d.2.2.2.1<=1048576:=by omega
 refine ⟨by omega,j0M b,j0M f,λc g=> ?_,λx i=>j1Q f i,by omega,by omega⟩
 have:=j1Q b g
 have k:msr yC c=c.1.size+msr (.pair (.int .i64) (.pair .bool (.pair .bool yV))) c.2:=rfl
 omega
theorem jpK {s:ST} (h:msr yST s<=1048576):j15 s:=by
 have f:msr yST s=0+(s.2.1.size+(msr (.slice yV) s.2.2.1+(msr (.slice yV) s.2.2.2.1+msr yD s.2.2.2.2))):=rfl
 have b:msr (.slice yV) s.2.2.1<=1048576:=by omega
 have d:msr (.slice yV) s.2.2.2.1<=1048576:=by omega
 exact ⟨by omega,j0M b,j0M d,jpP (by omega)⟩
end Go.PI.G
namespace Go.PI.G
open Go Go.PI
end Go.PI.G
namespace Go.PI.G
open Go Go.PI Go.Proofs
theorem joN {l:List RC} (h:msr (.slice yRC) l<=1048576):l.length<=1048576/\∀ r∈l,j15 r.2.2:=
 ⟨j0M h,λr b=>by
  have e:msr yRC r=0+(0+msr yST r.2.2):=rfl
  have:=j1Q (e:=yRC) h b
  exact jpK (by omega)⟩
theorem jg7 {n:Nat} (h:n<=1048576):lim (0+n)=true:=ZaL (by unfold LIM;omega)
theorem jnx (s:ST) (h:j15 s) (k:ST->Res):j9I s k=k s:=by
 obtain ⟨g,d,f,b⟩:=h
 unfold j9I j0t
 simp only [jg7 d,jg7 f,jg7 b.2.1,jg7 b.2.2.1,cond_true]
 try rfl
theorem jng (s:ST) (h:j15 s) (k:ST->Res):j68 s k=k s:=by
 obtain ⟨g,d,f,b⟩:=h
 unfold j68 j0O j9c j2Z
 simp only [jg7 d,jg7 f,jg7 b.2.1,jg7 b.2.2.1,cond_true]
 try rfl
theorem jh4 (l:List Int) (n:Int) (h:l.length<=1048576) (k:Bool->Res):j4y l n k=k (j3a l n):=by
 unfold j4y jek j3a
 have:=Za2 l (λi=>i) (λx=>x==n) (step:=j8F n l (nI l.length)) ((λ(_:Unit)=>k false),(λ(_:Unit)=>k true)) (k false) (k true) (by unfold LIM;omega) (λi rec b=>by
  show j3H _ _ _ _ _ _ _=_
  unfold j3H
  rw [ZaQ b,cond_true,j00 b,cond_true,Zay _ _ _ b,j01 (n:=(i:Int)+1) (by omega)]) (λrec=>by
  show j3H _ _ _ _ _ _ _=_
  unfold j3H
  rw [ZaP,cond_false])
 refine this.trans ?_
 cases l.any λx=>x==n<;>rfl
theorem jgV (l:List Int) (n:Int) (h:l.length<=1048576) (k:Bool->Res):j0W l n k=k (j3a l n):=by
 unfold j0W j8z ja2 j3a
 have:=Z9S l (λi=>i) (λx=>n==x) (step:=j5r l n (nI l.length)) ((λ(_:Unit)=>k (decide ((-1:Int)>=0))),(λ(t:Int)=>k (decide (t>=0)))) (λr=>k (decide (r>=0))) (by unfold LIM;omega) (λi rec b=>by
  show j1g _ _ _ _ _ _ _=_
  unfold j1g
  rw [ZaQ b,cond_true,j00 b,cond_true,Zay _ _ _ b,j01 (n:=(i:Int)+1) (by omega)]) (λrec=>by
  show j1g _ _ _ _ _ _ _=_
  unfold j1g
  rw [ZaP,cond_false])
 refine this.trans ?_
 rw [jlC]
 have:(λx:Int=>n==x)=λx=>x==n:=by funext x;exact Bool.eq_iff_iff.2 (by rw [beq_iff_eq,beq_iff_eq];exact eq_comm)
 rw [this]
theorem jgS {α:Type} (p:α->Bool):(j:Nat)->(l:List α)->Z4r (λ_ x=>bif p x then [x] else []) j l=l.filter p
 | _,[]=>rfl
 | j,x::l=>by
  show (bif p x then [x] else [])++Z4r _ (j+1) l=_
  rw [jgS p (j+1) l]
  cases h:p x
  ·rw [List.filter_cons_of_neg (by rw [h];simp)];rfl
  ·rw [List.filter_cons_of_pos h];rfl
theorem jpp {α:Type} (b:Bool) (x:α):(bif b then [x] else []).length<=1:=by cases b<;>simp
theorem jnr (l:List Int) (n:Int) (h:l.length<=1048576) (k:List Int->Res):j6t l n k=k (l.filter λy=> !(y==n)):=by
 unfold j6t jej
 have:=Za3 l (λ_ x=>bif !(x==n) then [x] else []) (λi b=>(b,i)) (step:=j8E n l (nI l.length)) (λb=>k b) k (by unfold LIM;omega) (λ_ x=>jpp _ _) (λb i rec d f=>by
  show j3G _ _ _ _ _ _ _=_
  unfold j3G
  dsimp only
  rw [ZaQ d,cond_true,j00 d,cond_true,Zay _ _ _ d,j01 (n:=(i:Int)+1) (by omega),ZaL (by unfold LIM;omega),cond_true]
  unfold bne
  cases l[i]==n
  ·rfl
  ·show _=rec (b++[],_)
   rw [List.append_nil]
   rfl) (λb rec=>by
  show j3G _ _ _ _ _ _ _=_
  unfold j3G
  dsimp only
  rw [ZaP,cond_false])
 refine this.trans ?_
 rw [jgS]
theorem jmN (l:List RC) (h:l.length<=1048576) (k:List Int->Res):j91 l k=k (j1m l):=by
 unfold j91 jgx j1m
 refine Z8i l (λi b=>(b,i)) j8d (λi a=>a.length<=i) (step:=j7x l (nI l.length)) (λb=>k b) k [] (by unfold LIM;omega) (by simp) (λi a d f=>Nat.le_trans (jk6 _ _) (by omega)) (λi a rec d f=>by
  show j33 _ _ _ _ _ _=_
  unfold j33 j9B
  dsimp only
  rw [ZaQ d,cond_true,j00 d,cond_true,Zay _ _ _ d,j01 (n:=(i:Int)+1) (by omega),jh4 _ _ (by omega),ZaL (by unfold LIM;omega),cond_true]
  generalize l[i]=r
  unfold j8d
  cases g:r.1==1
  ·rw [cond_false,cond_false,jnr _ _ (by omega)]
   cases r.1==3
   ·rw [cond_false,Bool.false_or]
    cases r.1==4<;>rfl
   ·rfl
  ·have e:r.1=1:=by simpa using g
   have j:(r.1==3)=false:=by rw [e];rfl
   have m:(r.1==4)=false:=by rw [e];rfl
   rw [cond_true,cond_true,j,m]
   cases j3a a r.2.1<;>rfl) (λa rec f=>by
  show j33 _ _ _ _ _ _=_
  unfold j33
  dsimp only
  rw [ZaP,cond_false])
theorem jmP (l:List RC) (x:Int) (h:l.length<=1048576) (k:Bool->Res):jaO l x k=k (j5Z l x):=by
 unfold jaO jgy j5Z
 have:=Za2 l (λi=>i) (λr:RC=>(r.1==1)&&(r.2.1==x)) (step:=jas x l (nI l.length)) ((λ(_:Unit)=>k false),(λ(_:Unit)=>k true)) (k false) (k true) (by unfold LIM;omega) (λi rec b=>by
  show j5x _ _ _ _ _ _ _=_
  unfold j5x
  rw [ZaQ b,cond_true,j00 b,cond_true,Zay _ _ _ b,j01 (n:=(i:Int)+1) (by omega)]
  cases l[i].1==1<;>rfl) (λrec=>by
  show j5x _ _ _ _ _ _ _=_
  unfold j5x
  rw [ZaP,cond_false])
 refine this.trans ?_
 cases l.any λr:RC=>(r.1==1)&&(r.2.1==x)<;>rfl
theorem jjQ (l:List RC) (x:Int) (h:l.length<=1048576) (f:∀ r∈l,j15 r.2.2) (k:List ST->Res):j5w l x k=k (j2O l x):=by
 unfold j5w jcX j2O
 refine Za3 l (jgz x) (λi b=>(b,i)) (step:=j7N x l (nI l.length)) (λb=>k b) k (by unfold LIM;omega) (ji2 x) (λb i rec d g=>by
  show j2F _ _ _ _ _ _ _=_
  unfold j2F jgz
  dsimp only
  rw [ZaQ d,cond_true,j00 d,cond_true,Zay _ _ _ d,jnx _ (f _ (List.getElem_mem d)),j01 (n:=(i:Int)+1) (by omega),ZaL (by unfold LIM;omega),cond_true]
  cases l[i].1==2
  ·show _=rec (b++[],_)
   rw [List.append_nil]
   rfl
  ·cases l[i].2.1==x
   ·show _=rec (b++[],_)
    rw [List.append_nil]
    rfl
   ·rfl) (λb rec=>by
  show j2F _ _ _ _ _ _ _=_
  unfold j2F
  dsimp only
  rw [ZaP,cond_false])
theorem jjk (l:List RC) (x:Int) (h:l.length<=1048576) (f:∀ r∈l,j15 r.2.2) (k:List ST->Res):j51 l x k=k (j2O l x):=by
 unfold j51 jcN j2O
 refine Za3 l (jgz x) (λi b=>(b,i)) (step:=j7G x l (nI l.length)) (λb=>k b) k (by unfold LIM;omega) (ji2 x) (λb i rec d g=>by
  show j2v _ _ _ _ _ _ _=_
  unfold j2v jgz
  dsimp only
  rw [ZaQ d,cond_true,j00 d,cond_true,Zay _ _ _ d,jng _ (f _ (List.getElem_mem d)),j01 (n:=(i:Int)+1) (by omega),ZaL (by unfold LIM;omega),cond_true]
  cases l[i].1==2
  ·show _=rec (b++[],_)
   rw [List.append_nil]
   rfl
  ·cases l[i].2.1==x
   ·show _=rec (b++[],_)
    rw [List.append_nil]
    rfl
   ·rfl) (λb rec=>by
  show j2v _ _ _ _ _ _ _=_
  unfold j2v
  dsimp only
  rw [ZaP,cond_false])
theorem jjR {α:Type} (l:List α) (i:Nat):sub l 0 (i:Int)=l.take i:=jn6 l 0 i
theorem jhl {i n:Nat} (h:i<=n):Z8e 0 (i:Int) n=true:=j8o (i:=0) ⟨Nat.zero_le _,h⟩
theorem jgF {l:List RC} (d:∀ r∈l,j15 r.2.2) (i:Nat):∀ r∈l.take i,j15 r.2.2:=λr b=>d r (List.mem_of_mem_take b)
theorem j5Y {l:List RC} (h:l.length<=1048576) (i:Nat):(l.take i).length<=1048576:=by rw [List.length_take];omega
theorem jod {l:List RC} (f:∀ r∈l,j15 r.2.2) (x:Int):∀ s∈j2O l x,j15 s:=λs b=>by
 obtain ⟨r,d,rfl⟩:=jny b
 exact f r d
theorem jo7 (l:List RC) (h:l.length<=1048576) (i:Nat) (f:i<=l.length) (r:RC) (j:j15 r.2.2) (k:Bool->Res) :
  j2h l (i:Int) r k=k (!jaZ r||(bif r.1==1 then j5Z (l.take i) r.2.1 else !j3a (j1m (l.take i)) r.2.1)):=by
 unfold j2h
 have g:(j1m (l.take i)).length<=1048576:=Nat.le_trans (jk7 _) (j5Y h i)
 rw [jnw _ j,jhl f,cond_true,cond_true,jjR,jmP _ _ (j5Y h i),jmN _ (j5Y h i)]
 simp only [jh4 _ _ g]
 cases jaZ r
 ·rfl
 cases d:r.1==1
 ·have b:(r.1 != 1)=true:=by unfold bne;rw [d];rfl
  rw [b]
  rfl
 ·have b:(r.1 != 1)=false:=by unfold bne;rw [d];rfl
  rw [b]
  cases j5Z (l.take i) r.2.1<;>rfl
theorem jmf (l:List RC) (h:l.length<=1048576) (b:∀ r∈l,j15 r.2.2) (i:Nat) (g:i<=l.length) (d:DB) (f:dbB d=true) (r:RC) (k:Int->DB->Res) :
  j2i l (i:Int) d r k=k (j0x d (j2O (l.take i) r.2.1)).2.1 (j0x d (j2O (l.take i) r.2.1)).1:=by
 unfold j2i
 rw [jhl g,cond_true]
 simp only [Z9Q]
 rw [jjR,jjQ _ _ (j5Y h i) (jgF b i),jjO d (jib f) _ (Nat.le_trans (jj0 _ _) (j5Y h i)) (jod (jgF b i) _)]
theorem jlH (l:List RC) (h:l.length<=1048576) (b:∀ r∈l,j15 r.2.2) (i:Nat) (g:i<=l.length) (d:DB) (f:dbB d=true) (r:RC) (k:Int->DB->Res) :
  j55 l (i:Int) d r k=k (j0x d (j2O (l.take i) r.2.1)).2.1 (j0x d (j2O (l.take i) r.2.1)).1:=by
 unfold j55
 rw [jhl g,cond_true]
 simp only [Z9Q]
 rw [jjR,jjk _ _ (j5Y h i) (jgF b i),jji d (jib f) _ (Nat.le_trans (jj0 _ _) (j5Y h i)) (jod (jgF b i) _)]
theorem jpO (n:Nat):decide (nI n<=400)=decide (n<=400):=decide_eq_decide.2 (by unfold nI;omega)
theorem jpi (n:Nat):decide (nI n>400)= !decide (n<=400):=by
 by_cases h:n<=400
 ·rw [decide_eq_true h,decide_eq_false (by unfold nI;omega)];rfl
 ·rw [decide_eq_false h,decide_eq_true (by unfold nI;omega)];rfl
theorem jmO (l:List RC) (h:l.length<=1048576) (g:∀ r∈l,j15 r.2.2) (k:DB->Bool->Res) :
  j9G l k=match jeM zDB l with | .ok d=>k d (decide (l.length<=400)) | .error _=>k ([],[]) false:=by
 unfold j9G j9H
 rw [jpO]
 refine (Z3Z l (λi (a:DB)=>(i,a)) (λi d r=>jbw (l.take i) d r) (λ_ a=>dbB a=true) (step:=j4Q l l (nI l.length)) ((λ(d:DB)=>k d (decide (l.length<=400))),(λ(_:Unit)=>k ([],[]) false)) (λa=>k a (decide (l.length<=400))) (λ_=>k ([],[]) false) zDB (by unfold LIM;omega) jey (λi a q b f g=>jlV f g) (λi a rec b f=>by
  show j1B _ _ _ _ _ _ _ _=_
  unfold j1B jbw
  dsimp only
  have j:=g _ (List.getElem_mem b)
  rw [ZaQ b,cond_true,j00 b,cond_true,Zay _ _ _ b,jo7 l h i (by omega) _ j,jmf l h g i (by omega) a f,j01 (n:=(i:Int)+1) (by omega)]
  generalize l[i]=r
  cases jaZ r
  ·rfl
  cases p:r.1==1
  ·cases j3a (j1m (l.take i)) r.2.1
   ·rfl
   ·cases r.1==3
    ·rfl
    ·cases m:(j0x a (j2O (l.take i) r.2.1)).2.1 != 0
     ·simp only [cond_true,cond_false,Bool.not_true,Bool.or_false,m]
     ·simp only [cond_true,cond_false,Bool.not_true,Bool.or_false,m]
  ·cases j5Z (l.take i) r.2.1
   ·have e:r.1=1:=by simpa using p
    rw [e]
    rfl
   ·rfl) (λa rec f=>by
  show j1B _ _ _ _ _ _ _ _=_
  unfold j1B
  dsimp only
  rw [ZaP,cond_false])).trans ?_
 unfold jeM
 cases Z1S (λi d r=>jbw (l.take i) d r) 0 l zDB<;>rfl
end Go.PI.G
namespace Go.PI.G
open Go Go.PI Go.Proofs
theorem jpu (o:List Int) (r:RC) (h:o.length<=1048576) (k:List Int->RC->Res):j1d o r k=k (o.filter λy=> !(y==r.2.1)) r:=by
 unfold j1d
 rw [ZaL (by unfold LIM;omega),cond_true,jlv (g:=λe k=>jeD e r k) (λy=>y==r.2.1) o (λy b k=>rfl) [],List.nil_append]
noncomputable def jmp (l:List RC) (i:Int) (d:DB):List Int×List Int×Int×DB:=(j1m (l.take i.toNat),j6O (l.take i.toNat),i,d)
theorem jmR (l:List RC) (i:Nat) (b:i<l.length) (d:DB):jmp l ((i:Int)+1) d=(j8d (j1m (l.take i)) l[i],(bif l[i].1==1 then j6O (l.take i)++[l[i].2.1] else j6O (l.take i)),(i:Int)+1,d):=by
 unfold jmp
 rw [show ((i:Int)+1).toNat=i+1 by omega,List.take_succ_eq_append_getElem b,jiD,jnz]
theorem jmG (d:DB) (B:dbB d=true) (l:List RC) (h:l.length<=1048576) (p:∀ r∈l,j15 r.2.2) (k:DB->Bool->Res) :
  jcP d l k=match jeM d l with | .ok d=>k d true | .error _=>k ([],[]) false:=by
 unfold jcP jbY jg5
 refine (Z3Z l (jmp l) (λi d r=>jbw (l.take i) d r) (λ_ a=>dbB a=true) (step:=j7o l l (nI l.length)) ((λ(f:DB)=>k f true),(λ(_:Unit)=>k ([],[]) false)) (λa=>k a true) (λ_=>k ([],[]) false) d (by unfold LIM;omega) B (λi a F b m p=>jlV m p) (λi a rec b m=>by
  show j30 l l (nI l.length) (j1m (l.take (i:Int).toNat)) (j6O (l.take (i:Int).toNat)) (i:Int) a (λo u j d=>rec (o,u,j,d)) (λf=>k f true) (λ_=>k ([],[]) false)=_
  have y:=p _ (List.getElem_mem b)
  have A:(j1m (l.take i)).length<=1048576:=Nat.le_trans (jk7 _) (j5Y h i)
  have D:(j6O (l.take i)).length<=1048576:=Nat.le_trans (jol _) (j5Y h i)
  unfold j30 j6Z jbw
  simp only [jmR l i b]
  rw [Int.toNat_natCast,ZaQ b,cond_true,j00 b,cond_true,Zay _ _ _ b,jnf _ y,jgV _ _ D,jgV _ _ A,jok,j01 (n:=(i:Int)+1) (by omega),ZaL (by unfold LIM;omega),ZaL (by unfold LIM;omega),cond_true,cond_true]
  simp only [jlH l h p i (by omega) a m,jpu _ _ A]
  generalize l[i]=r
  cases C:jaZ r
  ·rfl
  rw [Bool.not_true,cond_false,cond_false]
  cases q:r.1==1
  ·rw [cond_false,cond_false]
   cases j3a (j1m (l.take i)) r.2.1
   ·rfl
   rw [Bool.not_true,cond_false,cond_false]
   unfold j8d
   rw [q,cond_false,cond_false]
   cases z:r.1==3
   ·rw [cond_false,cond_false,Bool.false_or]
    unfold bne
    cases g:r.1==2
    ·have K:=(jnn C).1
     have w:(r.1==4)=true:=by
      rw [beq_iff_eq]
      have G:r.1≠1:=by simpa using q
      have H:r.1≠2:=by simpa using g
      have I:r.1≠3:=by simpa using z
      omega
     rw [w]
     rfl
    ·have w:(r.1==4)=false:=by
      have:r.1=2:=by simpa using g
      rw [this];rfl
     rw [w]
     rfl
   ·have g:(r.1 != 2)=true:=by
     have:r.1=3:=by simpa using z
     rw [this];rfl
    rw [cond_true,cond_true,Bool.true_or]
    cases J:(j0x a (j2O (l.take i) r.2.1)).2.1 != 0
    ·rw [cond_false,cond_false,g]
     rfl
    ·rfl
  ·rw [cond_true,cond_true]
   cases E:j5Z (l.take i) r.2.1
   ·unfold j8d
    rw [q,cond_true,cond_true,jnm E]
    rfl
   ·rfl) (λa rec m=>by
  show j30 l l (nI l.length) (j1m (l.take ((l.length:Nat):Int).toNat)) (j6O (l.take ((l.length:Nat):Int).toNat)) (l.length:Int) a (λo u j d=>rec (o,u,j,d)) (λf=>k f true) (λ_=>k ([],[]) false)=_
  unfold j30
  rw [ZaP,cond_false])).trans ?_
 unfold jeM
 cases Z1S (λi d r=>jbw (l.take i) d r) 0 l d<;>rfl
theorem jiX (l:List RC) (h:l.length<=1048576) (d:∀ r∈l,j15 r.2.2) (k:Bool->Res):j5V l k=k (jc5 l):=by
 unfold j5V jc5
 rw [jpi]
 cases b:decide (l.length<=400)
 ·rfl
 rw [Bool.not_true,cond_false,jmO l h d,b]
 cases jeM zDB l<;>rfl
theorem jih (l:List RC) (h:l.length<=1048576) (d:∀ r∈l,j15 r.2.2) (k:Bool->Res):j5K l k=k (jc5 l):=by
 unfold j5K jc5
 rw [jpi]
 cases b:decide (l.length<=400)
 ·rfl
 rw [Bool.not_true,cond_false,jmG _ jey l h d]
 cases jeM zDB l<;>rfl
end Go.PI.G
namespace Go.PI.G
open Go Go.PI Go.Proofs
theorem jns (l:List RC) (h:l.length<=1048576) (f:∀ r∈l,j15 r.2.2) (k:List Int->Res):j5s l k=k (j38 l):=by
 unfold j5s j38
 rw [jiX l h f]
 cases jc5 l
 ·rfl
 unfold j9A
 refine Za3 l jhj (λi b=>(b,i)) (step:=j4F l (nI l.length)) (λb=>k b) k (by unfold LIM;omega) jhk (λb i rec d g=>by
  show j2A _ _ _ _ _ _=_
  unfold j2A jhj
  dsimp only
  rw [ZaQ d,cond_true,j00 d,cond_true,Zay _ _ _ d,j01 (n:=(i:Int)+1) (by omega),ZaL (by unfold LIM;omega),cond_true]
  cases l[i].1==3
  ·show _=rec (b++[],_)
   rw [List.append_nil]
   rfl
  ·rfl) (λb rec=>by
  show j2A _ _ _ _ _ _=_
  unfold j2A
  dsimp only
  rw [ZaP,cond_false])
end Go.PI.G
namespace Go.PI.G
open Go Go.PI Go.Proofs
theorem jnd (l:List RC) (h:l.length<=1048576) (f:∀ r∈l,j15 r.2.2) (k:List Int->Res):j4W l k=k (j38 l):=by
 unfold j4W j38
 rw [jih l h f]
 cases jc5 l
 ·rfl
 unfold j99
 refine Za3 l jhj (λi b=>(b,i)) (step:=j4z l (nI l.length)) (λb=>k b) k (by unfold LIM;omega) jhk (λb i rec d g=>by
  show j2q _ _ _ _ _ _=_
  unfold j2q jhj
  dsimp only
  rw [ZaQ d,cond_true,j00 d,cond_true,Zay _ _ _ d,j01 (n:=(i:Int)+1) (by omega),ZaL (by unfold LIM;omega),cond_true]
  cases l[i].1==3
  ·show _=rec (b++[],_)
   rw [List.append_nil]
   rfl
  ·rfl) (λb rec=>by
  show j2q _ _ _ _ _ _=_
  unfold j2q
  dsimp only
  rw [ZaP,cond_false])
end Go.PI.G
namespace Go.PI.G
open Go Go.PI Go.Proofs
theorem jmQ (l:List RC) (h:l.length<=1048576) (g:∀ r∈l,j15 r.2.2) (a:Int) (k:List Int->Res):j5y l a k=k (jcm l a):=by
 unfold j5y jcm
 rw [jns l h g]
 have f:(j38 l).length<=1048576:=Nat.le_trans (jg2 l) h
 generalize j38 l=c at f
 unfold j9D
 refine Za3 c (jeT a) (λi b=>(b,i)) (step:=j4I a c (nI c.length)) (λb=>k b) k (by unfold LIM;omega) (jki a) (λb i rec d j=>by
  show j2I _ _ _ _ _ _ _=_
  unfold j2I jeT
  dsimp only
  rw [ZaQ d,cond_true,j00 d,cond_true,Zay _ _ _ d,j01 (n:=(i:Int)+1) (by omega),ZaL (by unfold LIM;omega),cond_true]
  cases decide (c[i]>a)
  ·show _=rec (b++[],_)
   rw [List.append_nil]
   rfl
  ·rfl) (λb rec=>by
  show j2I _ _ _ _ _ _ _=_
  unfold j2I
  dsimp only
  rw [ZaP,cond_false])
theorem jmF (l:List RC) (h:l.length<=1048576) (g:∀ r∈l,j15 r.2.2) (a:Int) (k:List Int->Res):j52 l a k=k (jcm l a):=by
 unfold j52 jcm
 rw [jnd l h g]
 have f:(j38 l).length<=1048576:=Nat.le_trans (jg2 l) h
 generalize j38 l=c at f
 unfold j9b
 refine Za3 c (jeT a) (λi b=>(b,i)) (step:=j4D a c (nI c.length)) (λb=>k b) k (by unfold LIM;omega) (jki a) (λb i rec d j=>by
  show j2y _ _ _ _ _ _ _=_
  unfold j2y jeT
  dsimp only
  rw [ZaQ d,cond_true,j00 d,cond_true,Zay _ _ _ d,j01 (n:=(i:Int)+1) (by omega),ZaL (by unfold LIM;omega),cond_true]
  cases decide (c[i]>a)
  ·show _=rec (b++[],_)
   rw [List.append_nil]
   rfl
  ·rfl) (λb rec=>by
  show j2y _ _ _ _ _ _ _=_
  unfold j2y
  dsimp only
  rw [ZaP,cond_false])
end Go.PI.G
namespace Go.PI.G
open Go Go.PI Go.Proofs
theorem jl5 (l:List RC) (h:l.length<=1048576) (b:∀ r∈l,j15 r.2.2) (a:Int) (k:Int->Res):j6p l a k=k (jgB l a):=by
 unfold j6p jgB
 rw [jiX l h b,jmQ l h b]
 cases jc5 l<;>rfl
theorem jkF (l:List RC) (h:l.length<=1048576) (b:∀ r∈l,j15 r.2.2) (a:Int) (k:Int->Res):j6h l a k=k (jgB l a):=by
 unfold j6h jgB
 rw [jih l h b,jmF l h b]
 cases jc5 l<;>rfl
end Go.PI.G
namespace Go.PI.G
open Go Go.PI Go.Proofs
end Go.PI.G
set_option maxRecDepth 10000
namespace Go.PI.G
open Go Go.PI Go.Proofs
theorem jml (a:Int×Int×ByteArray) (h:msr y2 a<=1048576) (k:qV->Res):j9m a k=k a:=by
 unfold j9m
 rfl
theorem jmi (a:Int×Int×ByteArray) (left:Int) (h:0<=left) (i:left<=1048576) (g:Wf y2 a) (k:Int->Res):j9k a left k=k (szR left (msr y2 a)):=by
 have f:msr y2 a=ByteArray.size a.2.2+0:=by simp only [msr]<;>omega
 rw [f]
 unfold j9k
 have d:ByteArray.size a.2.2<=maxLen:=g.2.2
 unfold maxLen at d
 rw [j01 (by unfold nI;omega)]
 by_cases b:((ByteArray.size a.2.2:Nat):Int)<=left
 rotate_left
 ·rw [Zal b,Za5 (by unfold nI;omega),cond_true]
 rw [Za4 (by unfold nI;omega),cond_false,Zak b,show left-nI (ByteArray.size a.2.2)=left-((ByteArray.size a.2.2:Nat):Int) from rfl]
 exact jem (by omega)
theorem jlx (a:Int×Int×ByteArray) (h:msr y2 a<=1048576) (k:Bool->Res):j9i a a k=k true:=by
 unfold j9i
 simp only [ZaO,Zai,beq_self_eq_true,cond_false,Bool.not_true]
end Go.PI.G
namespace Go.PI.G
open Go Go.PI Go.Proofs
theorem jpa (a:ByteArray×Int×Bool×Bool×Int×Int×ByteArray) (h:msr y7 a<=1048576) (k:qC->Res):jbt a k=k a:=by
 have b:msr y2 a.2.2.2.2<=1048576:=(Nat.le_trans (@j07 .bool y2 a.2.2.2) (Nat.le_trans (@j07 .bool y4 a.2.2) (Nat.le_trans (@j07 (.int .i64) y5 a.2) (Nat.le_trans (@j07 .str y6 a) h))))
 unfold jbt
 simp only [jml _ b]
theorem jp4 (a:ByteArray×Int×Bool×Bool×Int×Int×ByteArray) (left:Int) (i:0<=left) (j:left<=1048576) (g:Wf y7 a) (k:Int->Res):jbr a left k=k (szR left (msr y7 a)):=by
 have h:msr y7 a=ByteArray.size a.1+(msr y2 a.2.2.2.2+0):=by simp only [msr]<;>omega
 rw [h]
 unfold jbr
 have f:ByteArray.size a.1<=maxLen:=g.1
 unfold maxLen at f
 rw [j01 (by unfold nI;omega)]
 by_cases d:((ByteArray.size a.1:Nat):Int)<=left
 rotate_left
 ·rw [Zal d,Za5 (by unfold nI;omega),cond_true]
 rw [Za4 (by unfold nI;omega),cond_false,Zak d,show left-nI (ByteArray.size a.1)=left-((ByteArray.size a.1:Nat):Int) from rfl]
 rw [jmi _ _ (by omega) (by omega) g.2.2.2.2]
 by_cases b:((msr y2 a.2.2.2.2:Nat):Int)<=left-(ByteArray.size a.1:Nat)
 rotate_left
 ·rw [Zaz b,Zal b,Za5 (by omega),cond_true]
 rw [ZaA b,Zak b,Za4 (by omega),cond_false]
 exact jem (by omega)
theorem joC (a:ByteArray×Int×Bool×Bool×Int×Int×ByteArray) (h:msr y7 a<=1048576) (k:Bool->Res):jbp a a k=k true:=by
 have b:msr y2 a.2.2.2.2<=1048576:=(Nat.le_trans (@j07 .bool y2 a.2.2.2) (Nat.le_trans (@j07 .bool y4 a.2.2) (Nat.le_trans (@j07 (.int .i64) y5 a.2) (Nat.le_trans (@j07 .str y6 a) h))))
 unfold jbp
 simp only [ZaO,Zai,beq_self_eq_true,cond_false,Bool.not_true,jlx _ b]
end Go.PI.G
namespace Go.PI.G
open Go Go.PI Go.Proofs
theorem joh (a:qE) (h:msr y8 a<=1048576) (k:qE->Res):j84 a k=k a:=by
 have g:a.length<=1048576:=j0M h
 unfold j84
 rw [Zav (by unfold LIM;omega),cond_true]
 have:=ZaC ((eS,0,false,false,0,0,eS)) a id (step:=j8s a) (λb=>k b) (by unfold LIM;omega) (λb i rec d f=>by
  show j3o a _ _ _ _=_
  unfold j3o
  dsimp only
  simp only [ZaQ d,cond_true,j00 d,j00 (show i<b.length by omega),Zay _ _ _ d,ZaF,j01 (n:=(i:Int)+1) (by omega),jpa _ (j1Q h (List.getElem_mem d))]
  rfl) (λb rec=>by
  show j3o a _ _ _ _=_
  unfold j3o
  dsimp only
  rw [ZaP,cond_false])
 rw [List.map_id] at this
 exact this
theorem joe (a:qE) (left:Int) (g:0<=left) (h:left<=1048576) (l:Wf y8 a) (k:Int->Res):j81 a left k=k (szR left (msr y8 a)):=by
 have j:a.length<=maxLen:=l.1
 have p:msr y8 a=a.length+(a.map (msr y7)).sum:=rfl
 rw [p]
 unfold j81
 refine jj1 (F:=λq=>jae a Z1c q 0 (λd=>k d) (λ_=>k (-1))) (k:=k) g h j λb=> ?_
 unfold jae
 rw [ZaB (msr y7) a _ (by omega) (λleft i rec f g h=> ?_) (λleft rec=> ?_) _ (by omega) (by omega)]
 ·by_cases b:(((a.map (msr y7)).sum:Nat):Int)<=left-a.length
  ·rw [if_pos b,ZaA b]
  ·rw [if_neg b,Zaz b]
 ·show j3l a _ _ _ _ _=_
  have r:=l.2 _ (List.getElem_mem f)
  unfold j3l
  rw [ZaQ f,cond_true,j00 f,cond_true,Zay _ _ _ f,jp4 _ _ g h r]
  have m:(i:Int)<4611686018427387904:=by unfold maxLen at j;omega
  rw [j01 (n:=(i:Int)+1) (by omega)]
  by_cases b:((msr y7 a[i]:Nat):Int)<=left
  ·rw [if_pos b,ZaA b,Za4 (by omega),cond_false]
  ·rw [if_neg b,Zaz b,Za5 (by omega),cond_true]
 ·show j3l a _ _ _ _ _=_
  unfold j3l
  rw [ZaP,cond_false]
theorem jnP (a:qE) (h:msr y8 a<=1048576) (k:Bool->Res):j7Y a a k=k true:=by
 have d:a.length<=1048576:=j0M h
 unfold j7Y
 rw [ZaO,cond_false]
 unfold je3
 rw [Zar a _ (by unfold LIM;omega) (λi rec b=> ?_) (λrec=> ?_)]
 ·show j3i a a _ _ _ _=_
  unfold j3i
  simp only [ZaQ b,cond_true,j00 b,Zay _ _ _ b,j01 (n:=(i:Int)+1) (by omega),ZaO,Zai,cond_false,Bool.not_true,joC _ (j1Q h (List.getElem_mem b))]
 ·show j3i a a _ _ _ _=_
  unfold j3i
  rw [ZaP,cond_false]
end Go.PI.G
namespace Go.PI.G
open Go Go.PI Go.Proofs
theorem jmk (a:(List ByteArray)) (h:msr y0 a<=1048576) (k:(List ByteArray)->Res):j58 a k=k a:=by
 have g:a.length<=1048576:=j0M h
 unfold j58
 rw [Zav (by unfold LIM;omega),cond_true]
 have:=ZaC (eS) a id (step:=j6u a) (λb=>k b) (by unfold LIM;omega) (λb i rec d f=>by
  show j1J a _ _ _ _=_
  unfold j1J
  dsimp only
  simp only [ZaQ d,cond_true,j00 d,j00 (show i<b.length by omega),Zay _ _ _ d,ZaF,j01 (n:=(i:Int)+1) (by omega)]
  rfl) (λb rec=>by
  show j1J a _ _ _ _=_
  unfold j1J
  dsimp only
  rw [ZaP,cond_false])
 rw [List.map_id] at this
 exact this
theorem jmh (a:(List ByteArray)) (left:Int) (j:0<=left) (l:left<=1048576) (p:Wf y0 a) (k:Int->Res):j57 a left k=k (szR left (msr y0 a)):=by
 have m:a.length<=maxLen:=p.1
 have r:msr y0 a=a.length+(a.map (msr .str)).sum:=rfl
 rw [r]
 unfold j57
 refine jj1 (F:=λq=>j7I a Z1c q 0 (λd=>k d) (λ_=>k (-1))) (k:=k) j l m λb=> ?_
 unfold j7I
 rw [ZaB (msr .str) a _ (by omega) (λleft i rec f j l=> ?_) (λleft rec=> ?_) _ (by omega) (by omega)]
 ·by_cases b:(((a.map (msr .str)).sum:Nat):Int)<=left-a.length
  ·rw [if_pos b,ZaA b]
  ·rw [if_neg b,Zaz b]
 ·show j1I a _ _ _ _ _=_
  have h:=p.2 _ (List.getElem_mem f)
  unfold j1I
  have h:a[i].size<=maxLen:=h
  unfold maxLen at h m
  rw [ZaQ f,cond_true,j00 f,cond_true,Zay _ _ _ f,j01 (n:=left-nI a[i].size) (by unfold nI;omega),j01 (n:=(i:Int)+1) (by omega)]
  unfold nI
  by_cases b:((msr .str a[i]:Nat):Int)<=left
  ·have g:(a[i].size:Int)<=left:=b
   rw [if_pos b,Za4 (by omega),cond_false];rfl
  ·have g:¬ (a[i].size:Int)<=left:=b
   rw [if_neg b,Za5 (by omega),cond_true]
 ·show j1I a _ _ _ _ _=_
  unfold j1I
  rw [ZaP,cond_false]
theorem jlw (a:(List ByteArray)) (h:msr y0 a<=1048576) (k:Bool->Res):j56 a a k=k true:=by
 have d:a.length<=1048576:=j0M h
 unfold j56
 rw [ZaO,cond_false]
 unfold jbk
 rw [Zar a _ (by unfold LIM;omega) (λi rec b=> ?_) (λrec=> ?_)]
 ·show j1H a a _ _ _ _=_
  unfold j1H
  simp only [ZaQ b,cond_true,j00 b,Zay _ _ _ b,j01 (n:=(i:Int)+1) (by omega),ZaO,Zai,cond_false,Bool.not_true]
 ·show j1H a a _ _ _ _=_
  unfold j1H
  rw [ZaP,cond_false]
end Go.PI.G
namespace Go.PI.G
open Go Go.PI Go.Proofs
theorem jpb (a:Int×ByteArray×qE×List ByteArray×ByteArray×ByteArray) (h:msr y13 a<=1048576) (k:(Int×ByteArray×qE×List ByteArray×ByteArray×ByteArray)->Res):j7s a k=k a:=by
 have b:msr y8 a.2.2.1<=1048576:=(Nat.le_trans (@j8Z y8 y10 a.2.2) (Nat.le_trans (@j07 .str y11 a.2) (Nat.le_trans (@j07 (.int .i64) y12 a) h)))
 have d:msr y0 a.2.2.2.1<=1048576:=(Nat.le_trans (@j8Z y0 y9 a.2.2.2) (Nat.le_trans (@j07 y8 y10 a.2.2) (Nat.le_trans (@j07 .str y11 a.2) (Nat.le_trans (@j07 (.int .i64) y12 a) h))))
 unfold j7s
 simp only [joh _ b,jmk _ d]
theorem jp5 (a:Int×ByteArray×qE×List ByteArray×ByteArray×ByteArray) (left:Int) (p:0<=left) (q:left<=1048576) (i:Wf y13 a) (k:Int->Res):j7r a left k=k (szR left (msr y13 a)):=by
 have n:msr y13 a=ByteArray.size a.2.1+(msr y8 a.2.2.1+(msr y0 a.2.2.2.1+(ByteArray.size a.2.2.2.2.1+(ByteArray.size a.2.2.2.2.2+0)))):=by simp only [msr]<;>omega
 rw [n]
 unfold j7r
 have j:ByteArray.size a.2.1<=maxLen:=i.2.1
 unfold maxLen at j
 rw [j01 (by unfold nI;omega)]
 by_cases f:((ByteArray.size a.2.1:Nat):Int)<=left
 rotate_left
 ·rw [Zal f,Za5 (by unfold nI;omega),cond_true]
 rw [Za4 (by unfold nI;omega),cond_false,Zak f,show left-nI (ByteArray.size a.2.1)=left-((ByteArray.size a.2.1:Nat):Int) from rfl]
 rw [joe _ _ (by omega) (by omega) i.2.2.1]
 by_cases b:((msr y8 a.2.2.1:Nat):Int)<=left-(ByteArray.size a.2.1:Nat)
 rotate_left
 ·rw [Zaz b,Zal b,Za5 (by omega),cond_true]
 rw [ZaA b,Zak b,Za4 (by omega),cond_false]
 rw [jmh _ _ (by omega) (by omega) i.2.2.2.1]
 by_cases d:((msr y0 a.2.2.2.1:Nat):Int)<=left-(ByteArray.size a.2.1:Nat)-(msr y8 a.2.2.1:Nat)
 rotate_left
 ·rw [Zaz d,Zal d,Za5 (by omega),cond_true]
 rw [ZaA d,Zak d,Za4 (by omega),cond_false]
 have l:ByteArray.size a.2.2.2.2.1<=maxLen:=i.2.2.2.2.1
 unfold maxLen at l
 rw [j01 (by unfold nI;omega)]
 by_cases g:((ByteArray.size a.2.2.2.2.1:Nat):Int)<=left-(ByteArray.size a.2.1:Nat)-(msr y8 a.2.2.1:Nat)-(msr y0 a.2.2.2.1:Nat)
 rotate_left
 ·rw [Zal g,Za5 (by unfold nI;omega),cond_true]
 rw [Za4 (by unfold nI;omega),cond_false,Zak g,show left-(ByteArray.size a.2.1:Nat)-(msr y8 a.2.2.1:Nat)-(msr y0 a.2.2.2.1:Nat)-nI (ByteArray.size a.2.2.2.2.1)=left-(ByteArray.size a.2.1:Nat)-(msr y8 a.2.2.1:Nat)-(msr y0 a.2.2.2.1:Nat)-((ByteArray.size a.2.2.2.2.1:Nat):Int) from rfl]
 have m:ByteArray.size a.2.2.2.2.2<=maxLen:=i.2.2.2.2.2
 unfold maxLen at m
 rw [j01 (by unfold nI;omega)]
 by_cases h:((ByteArray.size a.2.2.2.2.2:Nat):Int)<=left-(ByteArray.size a.2.1:Nat)-(msr y8 a.2.2.1:Nat)-(msr y0 a.2.2.2.1:Nat)-(ByteArray.size a.2.2.2.2.1:Nat)
 rotate_left
 ·rw [Zal h,Za5 (by unfold nI;omega),cond_true]
 rw [Za4 (by unfold nI;omega),cond_false,Zak h,show left-(ByteArray.size a.2.1:Nat)-(msr y8 a.2.2.1:Nat)-(msr y0 a.2.2.2.1:Nat)-(ByteArray.size a.2.2.2.2.1:Nat)-nI (ByteArray.size a.2.2.2.2.2)=left-(ByteArray.size a.2.1:Nat)-(msr y8 a.2.2.1:Nat)-(msr y0 a.2.2.2.1:Nat)-(ByteArray.size a.2.2.2.2.1:Nat)-((ByteArray.size a.2.2.2.2.2:Nat):Int) from rfl]
 exact jem (by omega)
theorem joD (a:Int×ByteArray×qE×List ByteArray×ByteArray×ByteArray) (h:msr y13 a<=1048576) (k:Bool->Res):j7q a a k=k true:=by
 have b:msr y8 a.2.2.1<=1048576:=(Nat.le_trans (@j8Z y8 y10 a.2.2) (Nat.le_trans (@j07 .str y11 a.2) (Nat.le_trans (@j07 (.int .i64) y12 a) h)))
 have d:msr y0 a.2.2.2.1<=1048576:=(Nat.le_trans (@j8Z y0 y9 a.2.2.2) (Nat.le_trans (@j07 y8 y10 a.2.2) (Nat.le_trans (@j07 .str y11 a.2) (Nat.le_trans (@j07 (.int .i64) y12 a) h))))
 unfold j7q
 simp only [ZaO,Zai,beq_self_eq_true,cond_false,Bool.not_true,jnP _ b,jlw _ d]
end Go.PI.G
namespace Go.PI.G
open Go Go.PI Go.Proofs
theorem jkh (a:qW) (h:msr y3 a<=1048576) (k:qW->Res):j6n a k=k a:=by
 have g:a.length<=1048576:=j0M h
 unfold j6n
 rw [Zav (by unfold LIM;omega),cond_true]
 have:=ZaC ((0,0,eS)) a id (step:=j8u a) (λb=>k b) (by unfold LIM;omega) (λb i rec d f=>by
  show j3q a _ _ _ _=_
  unfold j3q
  dsimp only
  simp only [ZaQ d,cond_true,j00 d,j00 (show i<b.length by omega),Zay _ _ _ d,ZaF,j01 (n:=(i:Int)+1) (by omega),jml _ (j1Q h (List.getElem_mem d))]
  rfl) (λb rec=>by
  show j3q a _ _ _ _=_
  unfold j3q
  dsimp only
  rw [ZaP,cond_false])
 rw [List.map_id] at this
 exact this
theorem jkg (a:qW) (left:Int) (g:0<=left) (h:left<=1048576) (l:Wf y3 a) (k:Int->Res):j6m a left k=k (szR left (msr y3 a)):=by
 have j:a.length<=maxLen:=l.1
 have p:msr y3 a=a.length+(a.map (msr y2)).sum:=rfl
 rw [p]
 unfold j6m
 refine jj1 (F:=λq=>jag a Z1c q 0 (λd=>k d) (λ_=>k (-1))) (k:=k) g h j λb=> ?_
 unfold jag
 rw [ZaB (msr y2) a _ (by omega) (λleft i rec f g h=> ?_) (λleft rec=> ?_) _ (by omega) (by omega)]
 ·by_cases b:(((a.map (msr y2)).sum:Nat):Int)<=left-a.length
  ·rw [if_pos b,ZaA b]
  ·rw [if_neg b,Zaz b]
 ·show j3n a _ _ _ _ _=_
  have r:=l.2 _ (List.getElem_mem f)
  unfold j3n
  rw [ZaQ f,cond_true,j00 f,cond_true,Zay _ _ _ f,jmi _ _ g h r]
  have m:(i:Int)<4611686018427387904:=by unfold maxLen at j;omega
  rw [j01 (n:=(i:Int)+1) (by omega)]
  by_cases b:((msr y2 a[i]:Nat):Int)<=left
  ·rw [if_pos b,ZaA b,Za4 (by omega),cond_false]
  ·rw [if_neg b,Zaz b,Za5 (by omega),cond_true]
 ·show j3n a _ _ _ _ _=_
  unfold j3n
  rw [ZaP,cond_false]
theorem jjZ (a:qW) (h:msr y3 a<=1048576) (k:Bool->Res):j6l a a k=k true:=by
 have d:a.length<=1048576:=j0M h
 unfold j6l
 rw [ZaO,cond_false]
 unfold je5
 rw [Zar a _ (by unfold LIM;omega) (λi rec b=> ?_) (λrec=> ?_)]
 ·show j3k a a _ _ _ _=_
  unfold j3k
  simp only [ZaQ b,cond_true,j00 b,Zay _ _ _ b,j01 (n:=(i:Int)+1) (by omega),ZaO,Zai,cond_false,Bool.not_true,jlx _ (j1Q h (List.getElem_mem b))]
 ·show j3k a a _ _ _ _=_
  unfold j3k
  rw [ZaP,cond_false]
end Go.PI.G
namespace Go.PI.G
open Go Go.PI Go.Proofs
theorem jpd (a:List qV) (h:msr y3 a<=1048576) (k:qW->Res):j9l a k=k a:=by
 have b:msr y3 a<=1048576:=h
 unfold j9l
 simp only [jkh _ b]
theorem jp8 (a:List qV) (left:Int) (g:0<=left) (h:left<=1048576) (f:Wf y3 a) (k:Int->Res):j9j a left k=k (szR left (msr y3 a)):=by
 have d:msr y3 a=msr y3 a+0:=rfl
 rw [d]
 unfold j9j
 rw [jkg _ _ (by omega) (by omega) f]
 by_cases b:((msr y3 a:Nat):Int)<=left
 rotate_left
 ·rw [Zaz b,Zal b,Za5 (by omega),cond_true]
 rw [ZaA b,Zak b,Za4 (by omega),cond_false]
 exact jem (by omega)
theorem joF (a:List qV) (h:msr y3 a<=1048576) (k:Bool->Res):j9h a a k=k true:=by
 have b:msr y3 a<=1048576:=h
 unfold j9h
 simp only [ZaO,Zai,beq_self_eq_true,cond_false,Bool.not_true,jjZ _ b]
end Go.PI.G
namespace Go.PI.G
open Go Go.PI Go.Proofs
theorem joi (a:Int×ByteArray×qW×qW×Int×ByteArray×qE×List ByteArray×ByteArray×ByteArray) (h:msr y17 a<=1048576) (k:qS->Res):j85 a k=k a:=by
 have b:msr y3 a.2.2.1<=1048576:=(Nat.le_trans (@j8Z y3 y14 a.2.2) (Nat.le_trans (@j07 .str y15 a.2) (Nat.le_trans (@j07 (.int .i64) y16 a) h)))
 have d:msr y3 a.2.2.2.1<=1048576:=(Nat.le_trans (@j8Z y3 y13 a.2.2.2) (Nat.le_trans (@j07 y3 y14 a.2.2) (Nat.le_trans (@j07 .str y15 a.2) (Nat.le_trans (@j07 (.int .i64) y16 a) h))))
 have f:msr y13 a.2.2.2.2<=1048576:=(Nat.le_trans (@j07 y3 y13 a.2.2.2) (Nat.le_trans (@j07 y3 y14 a.2.2) (Nat.le_trans (@j07 .str y15 a.2) (Nat.le_trans (@j07 (.int .i64) y16 a) h))))
 unfold j85
 simp only [jkh _ b,jpd _ d,jpb _ f]
theorem jog (a:Int×ByteArray×qW×qW×Int×ByteArray×qE×List ByteArray×ByteArray×ByteArray) (left:Int) (l:0<=left) (m:left<=1048576) (h:Wf y17 a) (k:Int->Res):j83 a left k=k (szR left (msr y17 a)):=by
 have j:msr y17 a=ByteArray.size a.2.1+(msr y3 a.2.2.1+(msr y3 a.2.2.2.1+(msr y13 a.2.2.2.2+0))):=by simp only [msr]<;>omega
 rw [j]
 unfold j83
 have i:ByteArray.size a.2.1<=maxLen:=h.2.1
 unfold maxLen at i
 rw [j01 (by unfold nI;omega)]
 by_cases g:((ByteArray.size a.2.1:Nat):Int)<=left
 rotate_left
 ·rw [Zal g,Za5 (by unfold nI;omega),cond_true]
 rw [Za4 (by unfold nI;omega),cond_false,Zak g,show left-nI (ByteArray.size a.2.1)=left-((ByteArray.size a.2.1:Nat):Int) from rfl]
 rw [jkg _ _ (by omega) (by omega) h.2.2.1]
 by_cases b:((msr y3 a.2.2.1:Nat):Int)<=left-(ByteArray.size a.2.1:Nat)
 rotate_left
 ·rw [Zaz b,Zal b,Za5 (by omega),cond_true]
 rw [ZaA b,Zak b,Za4 (by omega),cond_false]
 rw [jp8 _ _ (by omega) (by omega) h.2.2.2.1]
 by_cases d:((msr y3 a.2.2.2.1:Nat):Int)<=left-(ByteArray.size a.2.1:Nat)-(msr y3 a.2.2.1:Nat)
 rotate_left
 ·rw [Zaz d,Zal d,Za5 (by omega),cond_true]
 rw [ZaA d,Zak d,Za4 (by omega),cond_false]
 rw [jp5 _ _ (by omega) (by omega) h.2.2.2.2]
 by_cases f:((msr y13 a.2.2.2.2:Nat):Int)<=left-(ByteArray.size a.2.1:Nat)-(msr y3 a.2.2.1:Nat)-(msr y3 a.2.2.2.1:Nat)
 rotate_left
 ·rw [Zaz f,Zal f,Za5 (by omega),cond_true]
 rw [ZaA f,Zak f,Za4 (by omega),cond_false]
 exact jem (by omega)
theorem jnR (a:Int×ByteArray×qW×qW×Int×ByteArray×qE×List ByteArray×ByteArray×ByteArray) (h:msr y17 a<=1048576) (k:Bool->Res):j80 a a k=k true:=by
 have b:msr y3 a.2.2.1<=1048576:=(Nat.le_trans (@j8Z y3 y14 a.2.2) (Nat.le_trans (@j07 .str y15 a.2) (Nat.le_trans (@j07 (.int .i64) y16 a) h)))
 have d:msr y3 a.2.2.2.1<=1048576:=(Nat.le_trans (@j8Z y3 y13 a.2.2.2) (Nat.le_trans (@j07 y3 y14 a.2.2) (Nat.le_trans (@j07 .str y15 a.2) (Nat.le_trans (@j07 (.int .i64) y16 a) h))))
 have f:msr y13 a.2.2.2.2<=1048576:=(Nat.le_trans (@j07 y3 y13 a.2.2.2) (Nat.le_trans (@j07 y3 y14 a.2.2) (Nat.le_trans (@j07 .str y15 a.2) (Nat.le_trans (@j07 (.int .i64) y16 a) h))))
 unfold j80
 simp only [ZaO,Zai,beq_self_eq_true,cond_false,Bool.not_true,jjZ _ b,joF _ d,joD _ f]
end Go.PI.G
namespace Go.PI.G
open Go Go.PI Go.Proofs
theorem jpc (a:Int×Int×Int×ByteArray×qW×qW×Int×ByteArray×qE×List ByteArray×ByteArray×ByteArray) (h:msr y19 a<=1048576) (k:(Int×Int×Int×ByteArray×qW×qW×Int×ByteArray×qE×List ByteArray×ByteArray×ByteArray)->Res):jbu a k=k a:=by
 have b:msr y17 a.2.2<=1048576:=(Nat.le_trans (@j07 (.int .i64) y17 a.2) (Nat.le_trans (@j07 (.int .i64) y18 a) h))
 unfold jbu
 simp only [joi _ b]
theorem jp7 (a:Int×Int×Int×ByteArray×qW×qW×Int×ByteArray×qE×List ByteArray×ByteArray×ByteArray) (left:Int) (g:0<=left) (h:left<=1048576) (f:Wf y19 a) (k:Int->Res):jbs a left k=k (szR left (msr y19 a)):=by
 have d:msr y19 a=msr y17 a.2.2+0:=by simp only [msr]<;>omega
 rw [d]
 unfold jbs
 rw [jog _ _ (by omega) (by omega) f.2.2]
 by_cases b:((msr y17 a.2.2:Nat):Int)<=left
 rotate_left
 ·rw [Zaz b,Zal b,Za5 (by omega),cond_true]
 rw [ZaA b,Zak b,Za4 (by omega),cond_false]
 exact jem (by omega)
theorem joE (a:Int×Int×Int×ByteArray×qW×qW×Int×ByteArray×qE×List ByteArray×ByteArray×ByteArray) (h:msr y19 a<=1048576) (k:Bool->Res):jbq a a k=k true:=by
 have b:msr y17 a.2.2<=1048576:=(Nat.le_trans (@j07 (.int .i64) y17 a.2) (Nat.le_trans (@j07 (.int .i64) y18 a) h))
 unfold jbq
 simp only [ZaO,Zai,beq_self_eq_true,cond_false,Bool.not_true,jnR _ b]
end Go.PI.G
namespace Go.PI.G
open Go Go.PI Go.Proofs
theorem jgA (a:(List (Int×Int×Int×ByteArray×qW×qW×Int×ByteArray×qE×List ByteArray×ByteArray×ByteArray))) (h:msr y20 a<=1048576) (k:(List (Int×Int×Int×ByteArray×qW×qW×Int×ByteArray×qE×List ByteArray×ByteArray×ByteArray))->Res):j4u a k=k a:=by
 have g:a.length<=1048576:=j0M h
 unfold j4u
 rw [Zav (by unfold LIM;omega),cond_true]
 have:=ZaC ((0,0,0,eS,[],[],0,eS,[],[],eS,eS)) a id (step:=j8t a) (λb=>k b) (by unfold LIM;omega) (λb i rec d f=>by
  show j3p a _ _ _ _=_
  unfold j3p
  dsimp only
  simp only [ZaQ d,cond_true,j00 d,j00 (show i<b.length by omega),Zay _ _ _ d,ZaF,j01 (n:=(i:Int)+1) (by omega),jpc _ (j1Q h (List.getElem_mem d))]
  rfl) (λb rec=>by
  show j3p a _ _ _ _=_
  unfold j3p
  dsimp only
  rw [ZaP,cond_false])
 rw [List.map_id] at this
 exact this
theorem jof (a:(List (Int×Int×Int×ByteArray×qW×qW×Int×ByteArray×qE×List ByteArray×ByteArray×ByteArray))) (left:Int) (g:0<=left) (h:left<=1048576) (l:Wf y20 a) (k:Int->Res):j82 a left k=k (szR left (msr y20 a)):=by
 have j:a.length<=maxLen:=l.1
 have p:msr y20 a=a.length+(a.map (msr y19)).sum:=rfl
 rw [p]
 unfold j82
 refine jj1 (F:=λq=>jaf a Z1c q 0 (λd=>k d) (λ_=>k (-1))) (k:=k) g h j λb=> ?_
 unfold jaf
 rw [ZaB (msr y19) a _ (by omega) (λleft i rec f g h=> ?_) (λleft rec=> ?_) _ (by omega) (by omega)]
 ·by_cases b:(((a.map (msr y19)).sum:Nat):Int)<=left-a.length
  ·rw [if_pos b,ZaA b]
  ·rw [if_neg b,Zaz b]
 ·show j3m a _ _ _ _ _=_
  have r:=l.2 _ (List.getElem_mem f)
  unfold j3m
  rw [ZaQ f,cond_true,j00 f,cond_true,Zay _ _ _ f,jp7 _ _ g h r]
  have m:(i:Int)<4611686018427387904:=by unfold maxLen at j;omega
  rw [j01 (n:=(i:Int)+1) (by omega)]
  by_cases b:((msr y19 a[i]:Nat):Int)<=left
  ·rw [if_pos b,ZaA b,Za4 (by omega),cond_false]
  ·rw [if_neg b,Zaz b,Za5 (by omega),cond_true]
 ·show j3m a _ _ _ _ _=_
  unfold j3m
  rw [ZaP,cond_false]
theorem jnQ (a:(List (Int×Int×Int×ByteArray×qW×qW×Int×ByteArray×qE×List ByteArray×ByteArray×ByteArray))) (h:msr y20 a<=1048576) (k:Bool->Res):j7Z a a k=k true:=by
 have d:a.length<=1048576:=j0M h
 unfold j7Z
 rw [ZaO,cond_false]
 unfold je4
 rw [Zar a _ (by unfold LIM;omega) (λi rec b=> ?_) (λrec=> ?_)]
 ·show j3j a a _ _ _ _=_
  unfold j3j
  simp only [ZaQ b,cond_true,j00 b,Zay _ _ _ b,j01 (n:=(i:Int)+1) (by omega),ZaO,Zai,cond_false,Bool.not_true,joE _ (j1Q h (List.getElem_mem b))]
 ·show j3j a a _ _ _ _=_
  unfold j3j
  rw [ZaP,cond_false]
end Go.PI.G
namespace Go.PI.G
open Go Go.PI Go.Proofs
theorem jor (d:List RC) (j:Wf (.slice yRC) d) (i:Int) (w1:Wf (.int .i64) i) (k:Bool->Res):j23 d i k=k true:=by
 unfold j23
 rw [jof d 1048576 (by omega) (by omega) j]
 by_cases g:((msr (.slice yRC) d:Nat):Int)<=1048576
 rotate_left
 ·rw [Zaz g];rfl
 have b:msr (.slice yRC) d<=1048576:=by omega
 obtain ⟨f,h⟩:=joN b
 rw [ZaA g,decide_eq_false (by omega),cond_false,jgA d b,jl5 d f h,jgA d b,jkF d f h,ZaO,cond_false,jgA d b,jnQ d b]
 rfl
end Go.PI.G
