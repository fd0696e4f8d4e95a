/-
  Program's code interpreted over typed values; printed texts; plain laws. No conditions.
-/
import Derived.Test.YtnemiodjnhfejaaGreatSPh
import Derived.Test.YtnemiodjnhfejaaGreatSPl
import Derived.Test.YtnemiodjnhfejaaGreatSPj
import Derived.Test.YtnemiodjnhfejaaGreatSPk
import Derived.Test.YtnemiodjnhfejaaGreatSPi
set_option linter.unusedVariables false
set_option linter.unusedSimpArgs false
namespace Go.PI.G
open Go Go.PI Go.Proofs
theorem jbB {c:List T} (h:j1N c=true):msr (.slice yT) c<=1048576:=by
 obtain ⟨b,d,_⟩:=(j0d c).1 h
 have:=j8R (e:=yT) 400 c (λt ht=>jaa (d t ht))
 have f:c.length * (400+1)<=6 * 401:=Nat.mul_le_mul b (Nat.le_refl _)
 omega
theorem jgl (l:List (List V)) (h:l.length<=1048576) (f:∀ x∈l,x.length<=1048576) (k:List (List V)->Res):j5x l k=k l:=by
 unfold j5x jcW
 have:=Z9B l (λi b=>(b,i)) (λx=>[x]) 1048576 [] (step:=j7L l (nI l.length)) (λb=>k b) (λb=>k b) (by unfold LIM;omega) (λi d _=>by
  rw [j0F,List.nil_append,List.length_take];omega) (by simp) (λi b rec d j g=>by
  show j2J _ _ _ _ _ _=_
  unfold j2J j0t
  dsimp only
  rw [Zam d,cond_true,j00 d,cond_true,Za7 _ _ _ d,jaC (f _ (List.getElem_mem d)),cond_true,Zai (by unfold LIM;omega),cond_true,j01 (n:=(i:Int)+1) (by omega)]) (λb rec=>by
  show j2J _ _ _ _ _ _=_
  unfold j2J
  dsimp only
  rw [Zal,cond_false])
 refine this.trans ?_
 rw [j0F,List.nil_append]
theorem jhc {d:DB} (h:dbB d=true):j1N d.1=true/\d.1.length<=6/\d.2.length=d.1.length/\∀ x∈d.2,x.length<=60/\∀ r∈x,r.length<=1048576:=by
 obtain ⟨b,k,l⟩:=(j1v d).1 h
 have n:=jbB b
 refine ⟨b,((j0d _).1 b).1,k,λx p=> ?_⟩
 obtain ⟨i,m,rfl⟩:=List.mem_iff_getElem.1 p
 have g:=l i (by omega) m
 refine ⟨(j0g g).2.1,λr f=> ?_⟩
 have q:=j0q ((j0g g).2.2 r f)
 have j:=(jbS n).2 _ (List.getElem_mem (show i<d.1.length by omega))
 have:=j.2.1
 omega
theorem jiJ (d:DB) (h:dbB d=true) (k:DB->Res):j1t d k=k d:=by
 obtain ⟨g,m,p,j⟩:=jhc h
 unfold j1t
 rw [jgT _ (jbB g)]
 unfold j9w
 have:=Z9B d.2 (λi b=>(i,(d.1,b))) (λx=>[x]) 1048576 [] (step:=j4N d.2 (nI d.2.length)) (λb=>k b) (λb=>k (d.1,b)) (by unfold LIM;omega) (λi f _=>by
  rw [j0F,List.nil_append,List.length_take];omega) (by simp) (λi b rec f r q=>by
  show j2L _ _ _ _ _ _=_
  unfold j2L
  obtain ⟨w,l⟩:=j _ (List.getElem_mem f)
  dsimp only
  rw [Zam f,cond_true,j00 f,cond_true,Za7 _ _ _ f,jgl _ (by omega) l,Zai (by unfold LIM;omega),cond_true,j01 (n:=(i:Int)+1) (by omega)]) (λb rec=>by
  show j2L _ _ _ _ _ _=_
  unfold j2L
  dsimp only
  rw [Zal,cond_false])
 refine this.trans ?_
 rw [j0F,List.nil_append]
theorem jer (d:DB) (h:dbB d=true) (k:DB->Res):j11 d k=k d:=by
 obtain ⟨g,m,p,j⟩:=jhc h
 unfold j11
 rw [jgJ _ (jbB g)]
 unfold ja5
 have:=Z9B d.2 (λi b=>(i,(d.1,b))) (λx=>[x]) 1048576 [] (step:=j5J d.2 (nI d.2.length)) (λb=>k b) (λb=>k (d.1,b)) (by unfold LIM;omega) (λi f _=>by
  rw [j0F,List.nil_append,List.length_take];omega) (by simp) (λi b rec f r q=>by
  show j3e _ _ _ _ _ _=_
  unfold j3e
  obtain ⟨w,l⟩:=j _ (List.getElem_mem f)
  dsimp only
  rw [Zam f,cond_true,j00 f,cond_true,Za7 _ _ _ f,j6O _ (by omega) l,Zai (by unfold LIM;omega),cond_true,j01 (n:=(i:Int)+1) (by omega)]) (λb rec=>by
  show j3e _ _ _ _ _ _=_
  unfold j3e
  dsimp only
  rw [Zal,cond_false])
 refine this.trans ?_
 rw [j0F,List.nil_append]
theorem jmb (t:T) (h:msr yT t<=1048576) (l:List (List V)) (s:ST) (b:s.1≠5) (k:List (List V)->Int->Res):j15 t l s k=k (j2g t l s).1 (j2g t l s).2:=by
 unfold j15 j2g
 cases (s.1==1)
 ·rw [cond_false,cond_false]
  cases (s.1==2)
  ·rw [cond_false,cond_false]
   cases (s.1==3)
   ·rw [cond_false,cond_false,show (s.1==5)=false by simpa using b]
    rfl
   ·rw [cond_true,cond_true,jkX t h]
  ·rw [cond_true,cond_true,jkZ t h]
 ·rw [cond_true,cond_true,jkY t h]
end Go.PI.G
namespace Go.PI.G
open Go Go.PI Go.Proofs
theorem jq0 (b:Int) (s:ST) (a z:Res):j72 b s (λ_=>a) (λ_=>z)=bif decide (b<0)&& !((s.1==5)&&(s.2.2.2.2.1==1)) then z else a:=by
 unfold j72
 cases decide (b<0)
 ·rfl
 ·rw [cond_true,Bool.true_and]
  unfold bne
  cases (s.1==5)
  ·rfl
  ·cases (s.2.2.2.2.1==1)<;>rfl
theorem jmT {t:T} {l:List (List V)} {s:ST}:0<=(j2g t l s).2/\(j2g t l s).2<=5:=by
 unfold j2g j59 j5a j58
 cases (s.1==1)
 ·cases (s.1==2)
  ·cases (s.1==3)
   ·simp
   ·simp only [cond_true,cond_false]
    cases j08 t l
    ·simp
    ·cases (!j97 t s.2.2.1||decide (j06 t l s.2.2.1<0))<;>simp
  ·simp only [cond_true,cond_false]
   cases j08 t l
   ·simp
   ·cases j0k t.2.1 s.2.2.2.1
    ·simp
    ·cases (!j97 t s.2.2.1||decide (j06 t l s.2.2.1<0))
     ·cases !decide (j06 t (l.eraseIdx (j06 t l s.2.2.1).toNat) (j05 t s.2.2.2.1)<0)<;>simp
     ·simp
 ·simp only [cond_true,cond_false]
  cases j08 t l
  ·simp
  ·cases j0k t.2.1 s.2.2.2.1
   ·simp
   ·cases !decide (j06 t l (j05 t s.2.2.2.1)<0)
    ·cases (l.length==60)<;>simp
    ·simp
theorem jm7 (d:DB) (h:dbB d=true) (s:ST) (q:s.1≠5) (i:Nat) (f:i<d.1.length) (g:j04 d.1 s.2.1=(i:Int)) (k:DB->Int->Res) :
  (bif inb (i:Int) d.1.length then
          bif inb (i:Int) d.2.length then
           j15 (nth zT d.1 (i:Int)) (nth [] d.2 (i:Int)) s λ(w:List (List V)) (r:Int)=>
            bif (r != 0) then
             k ([],[]) (Z9x (10+r))
            else
             j1t d λ(m:DB)=>
              bif inb (i:Int) (List.length m.2) then
               k (m.1,upd m.2 (i:Int) w) 0
              else none
          else none
         else none)=k (j1F d s).1 (j1F d s).2:=by
 obtain ⟨p,y,z⟩:=(j1v d).1 h
 have b:i<d.2.length:=by omega
 have B:=(jbS (jbB p)).2 _ (List.getElem_mem f)
 have ht:j03 d.1[i]=true:=((j0d _).1 p).2.1 _ (List.getElem_mem f)
 have j:msr yT d.1[i]<=1048576:=Nat.le_trans (jaa ht) (by omega)
 rw [j00 f,cond_true,j00 b,cond_true,Za7 _ _ _ f,Za7 _ _ _ b,jmb _ j _ _ q]
 unfold j1F
 rw [g,decide_eq_false (by omega),Bool.false_and,cond_false,show (s.1==5)=false by simpa using q,cond_false,Za7 _ _ _ f,Za7 _ _ _ b]
 have A:=jmT (t:=d.1[i]) (l:=d.2[i]) (s:=s)
 cases C:((j2g d.1[i] d.2[i] s).2 != 0)
 ·rw [cond_false,cond_false,jiJ d h,j00 b,cond_true,Zad,Int.toNat_natCast]
 ·rw [cond_true,cond_true,j01 (n:=10+(j2g d.1[i] d.2[i] s).2) (by omega)]
end Go.PI.G
namespace Go.PI.G
open Go Go.PI Go.Proofs
noncomputable def j8a (d:DB) (x:D) (u:T):List (List V):=
 bif decide (j04 d.1 u.1>=0)&&sEq u.1 x.2.1 then (bif x.1==2 then [] else jdj (nth zT d.1 (j04 d.1 u.1)) x (nth [] d.2 (j04 d.1 u.1)))
 else bif decide (j04 d.1 u.1>=0) then nth [] d.2 (j04 d.1 u.1) else []
theorem jny (d:DB) (h:dbB d=true) (s:ST) (z:s.1=5) (B:s.2.2.2.2.2.1=s.2.1) (q:dSm s.2.2.2.2) (E:j0S s.2.2.2.2=true) (l:j0b d.1 s.2.2.2.2=0) (u:T) (k:List (List V)->Res) :
  (j1Z d.1 u.1 λ(r:Int)=>j2K r s u λ(t:Bool)=>j1A r t d s [] k)=k (j8a d s.2.2.2.2 u):=by
 obtain ⟨C,J,D⟩:=(j1v d).1 h
 obtain ⟨_,G,_,g⟩:=jhc h
 rw [jci _ _ (by unfold LIM;omega)]
 unfold j2K j1A j8a
 rw [B]
 rcases j0u d.1 u.1 with ⟨p,_⟩ | ⟨i,n,p,A⟩
 ·rw [p]
  rfl
 ·have w:decide (j04 d.1 u.1>=0)=true:=decide_eq_true (by omega)
  have f:i<d.2.length:=by omega
  rw [w,Bool.true_and,cond_true,p,j00 n,j00 f,Za7 _ _ _ n,Za7 _ _ _ f]
  cases H:sEq u.1 s.2.1
  ·obtain ⟨K,I⟩:=g _ (List.getElem_mem f)
   simp only [cond_false,cond_true]
   rw [jgl _ (by omega) I]
  ·have b:u.1=s.2.1:=(j09 _ _).1 H
   have ht:j03 d.1[i]=true:=((j0d _).1 C).2.1 _ (List.getElem_mem n)
   have y:msr yT d.1[i]<=1048576:=Nat.le_trans (jaa ht) (by omega)
   have m:j04 d.1 s.2.2.2.2.2.1=(i:Int):=by rw [B,<-b];exact p
   have j:s.2.2.2.2.1≠1:=λe=>by
    unfold j0b at l
    rw [e,m] at l
    rw [decide_eq_false (show ¬ (i:Int)<0 by omega)] at l
    cases l
   have F:j0n d.1[i] s.2.2.2.2=0:=by
    unfold j0b at l
    rw [show (s.2.2.2.2.1==1)=false by simpa using j,cond_false,m,decide_eq_false (show ¬ (i:Int)<0 by omega),cond_false,Za7 _ _ _ n] at l
    exact l
   simp only [cond_true]
   unfold j15
   rw [z]
   simp only [show ((5:Int)==1)=false from rfl,show ((5:Int)==2)=false from rfl,show ((5:Int)==3)=false from rfl,show ((5:Int)==5)=true from rfl,cond_false,cond_true,Z9z]
   rw [jjD _ y _ (D i n f) _ q E (by rw [B,<-b];exact A.symm) j,F]
   rfl
theorem jln {c:List T} {d:D} (b:j1N c=true) (f:j0S d=true):jdl c d=bif j0b c d != 0 then ([],j0b c d) else (j0T c d,0):=by
 unfold jdl
 rw [b,f]
 rfl
theorem jhZ (c:List T) (d:D):0<=j0b c d/\j0b c d<=8:=by
 unfold j0b j0n
 cases (d.1==1)
 ·cases decide (j04 c d.2.1<0)
  ·generalize nth zT c (j04 c d.2.1)=t
   cases (d.1==3)
   ·cases (d.1==4)
    ·cases (d.1==5)
     ·simp
     ·cases decide (j02 t.2.1 d.2.2.2.2.2<0)
      ·simp
      ·cases decide (j02 t.2.1 d.2.2.2.2.1<0)<;>simp
    ·cases decide (j02 t.2.1 d.2.2.2.2.1<0)
     ·cases t.2.2.any (λx=>sEq x d.2.2.2.2.1)<;>simp
     ·simp
   ·cases decide (j02 t.2.1 (nth zC d.2.2.1 0).1<0)
    ·simp
    ·cases (t.2.1.length==8)<;>simp
  ·simp
 ·cases decide (j04 c d.2.1<0)
  ·simp
  ·cases (c.length==6)<;>simp
theorem jjB (d:DB) (h:dbB d=true) (s:ST) (q:s.1=5) (y:s.2.2.2.2.2.1=s.2.1) (j:dSm s.2.2.2.2) (p:j0S s.2.2.2.2=true) (k:DB->Int->Res) :
  j35 d s k=bif j0b d.1 s.2.2.2.2 != 0 then k ([],[]) (10+j0b d.1 s.2.2.2.2) else k (j0T d.1 s.2.2.2.2,(j0T d.1 s.2.2.2.2).map (j8a d s.2.2.2.2)) 0:=by
 obtain ⟨m,z,A⟩:=(j1v d).1 h
 have D:=jhZ d.1 s.2.2.2.2
 unfold j35
 rw [jgU _ _ (jbB m) j,jln m p]
 cases r:(j0b d.1 s.2.2.2.2 != 0)
 rotate_left
 ·rw [cond_true]
  dsimp only
  rw [r,cond_true,cond_true,j01 (n:=10+j0b d.1 s.2.2.2.2) (by omega)]
 have g:j0b d.1 s.2.2.2.2=0:=by simpa using r
 have f:=jj3 m p g
 have w:=((j0d _).1 f).1
 rw [cond_false,cond_false]
 show (j4M (j0T d.1 s.2.2.2.2) (nI (j0T d.1 s.2.2.2.2).length) d s Z1Y 0 (j0T d.1 s.2.2.2.2,[]) λb=>k b 0)=_
 generalize j0T d.1 s.2.2.2.2=c' at *
 unfold j4M
 have:=Z9B c' (λi b=>(i,(c',b))) (λu=>[j8a d s.2.2.2.2 u]) 6 [] (step:=j1M c' (nI c'.length) d s) (λb=>k b 0) (λb=>k (c',b) 0) (by unfold LIM;omega) (λi l _=>by
  rw [jcH,List.nil_append,List.length_map,List.length_take];omega) (by simp) (λi b rec l C B=>by
  show j0Z _ _ _ _ _ _ _ _=_
  unfold j0Z
  dsimp only
  rw [Zam l,cond_true,j00 l,cond_true,Za7 _ _ _ l,jny d h s q y j p g,Zai (by unfold LIM;omega),cond_true,j01 (n:=(i:Int)+1) (by omega)]) (λb rec=>by
  show j0Z _ _ _ _ _ _ _ _=_
  unfold j0Z
  dsimp only
  rw [Zal,cond_false])
 refine this.trans ?_
 rw [jcH,List.nil_append]
end Go.PI.G
namespace Go.PI.G
open Go Go.PI Go.Proofs
theorem jo5 {d:DB} (h:msr yDB d<=1048576):msr (.slice yT) d.1<=1048576/\d.1.length<=1048576/\d.2.length<=1048576/\(∀ t∈d.1,msr yT t<=1048576)/\∀ l∈d.2,l.length<=1048576:=by
 have i:msr yDB d=msr (.slice yT) d.1+msr (.slice (.slice (.slice yV))) d.2:=rfl
 have b:msr (.slice yT) d.1<=1048576:=by omega
 have f:msr (.slice (.slice (.slice yV))) d.2<=1048576:=by omega
 exact ⟨b,j0M b,j0M f,λt ht=>j1R b ht,λl g=>j0M (j1R f g)⟩
theorem jgj (d:DB) (h:msr yDB d<=1048576) (k:Bool->Res):j5E d k=k (dbB d):=by
 obtain ⟨j,m,p,l,q⟩:=jo5 h
 unfold j5E dbB
 rw [jiH _ j]
 cases j1N d.1
 ·rfl
 ·rw [Bool.not_true,cond_false,Bool.true_and]
  by_cases f:d.2.length=d.1.length
  ·have g:(nI d.2.length != nI d.1.length)=false:=by rw [f,Zak]
   rw [g,cond_false,decide_eq_true f,Bool.true_and]
   unfold jcj
   have:=Z9y d.1 (λi=>i) (λi t=> !j08 t (nth [] d.2 (i:Int))) (step:=j7s d.1 (nI d.1.length) d) ((λ(_:Unit)=>k true),(λ(_:Unit)=>k false)) (k true) (k false) (by unfold LIM;omega) (λi rec b=>by
    show j5s _ _ d _ _ _ _=_
    unfold j5s
    rw [Zam b,cond_true,j00 b,cond_true,j00 (f ▸ b),cond_true,Za7 _ _ _ b,j6i _ (l _ (List.getElem_mem b)),j01 (n:=(i:Int)+1) (by omega)]) (λrec=>by
    show j5s _ _ d _ _ _ _=_
    unfold j5s
    rw [Zal,cond_false])
   refine this.trans ?_
   cases Z6V (λi t=> !j08 t (nth [] d.2 (i:Int))) 0 d.1<;>rfl
  ·have g:(nI d.2.length != nI d.1.length)=true:=by unfold nI;simp;omega
   rw [g,cond_true,decide_eq_false f,Bool.false_and]
theorem jnX (d:DB) (h:msr yDB d<=1048576) (k:Bool->Res):j8O d k=k (dbB d):=by
 obtain ⟨j,m,p,l,q⟩:=jo5 h
 unfold j8O dbB
 rw [ji4 _ j]
 cases j1N d.1
 ·rfl
 ·rw [Bool.not_true,cond_false,Bool.true_and]
  by_cases f:d.2.length=d.1.length
  ·have g:(nI d.2.length != nI d.1.length)=false:=by rw [f,Zak]
   rw [g,cond_false,decide_eq_true f,Bool.true_and]
   unfold jbV
   have:=Z9y d.1 (λi=>i) (λi t=> !j08 t (nth [] d.2 (i:Int))) (step:=j7h d.1 (nI d.1.length) d) ((λ(_:Unit)=>k true),(λ(_:Unit)=>k false)) (k true) (k false) (by unfold LIM;omega) (λi rec b=>by
    show j4W _ _ d _ _ _ _=_
    unfold j4W
    rw [Zam b,cond_true,j00 b,cond_true,j00 (f ▸ b),cond_true,Za7 _ _ _ b,j7T _ (l _ (List.getElem_mem b)),j01 (n:=(i:Int)+1) (by omega)]) (λrec=>by
    show j4W _ _ d _ _ _ _=_
    unfold j4W
    rw [Zal,cond_false])
   refine this.trans ?_
   cases Z6V (λi t=> !j08 t (nth [] d.2 (i:Int))) 0 d.1<;>rfl
  ·have g:(nI d.2.length != nI d.1.length)=true:=by unfold nI;simp;omega
   rw [g,cond_true,decide_eq_false f,Bool.false_and]
end Go.PI.G
namespace Go.PI.G
open Go Go.PI Go.Proofs
theorem jgP {d:DB} (h:dbB d=true) (x:D) {j:Nat} (i:j<d.1.length) (b:j<d.2.length) (k:d.1[j].1≠x.2.1):j8a d x d.1[j]=d.2[j]:=by
 obtain ⟨g,l,m⟩:=(j1v d).1 h
 unfold j8a
 have f:sEq d.1[j].1 x.2.1=false:=by
  cases f:sEq d.1[j].1 x.2.1
  ·rfl
  ·exact absurd ((j09 _ _).1 f) k
 rw [f,Bool.and_false,cond_false,jcY ((j0d _).1 g).2.2 i,decide_eq_true (by omega),cond_true,Za7 _ _ _ b]
theorem joc {d:DB} (h:dbB d=true) (x:D) {i:Nat} (n:i<d.1.length) (q:i<d.2.length) (r:d.1[i].1=x.2.1):d.1.map (j8a d x)=d.2.set i (j8a d x d.1[i]):=by
 obtain ⟨l,m,y⟩:=(j1v d).1 h
 apply List.ext_getElem
 ·simp [m]
 ·intro j w z
  have g:j<d.1.length:=by simpa using w
  rw [List.getElem_map,List.getElem_set]
  by_cases e:i=j
  ·subst e
   rw [if_pos rfl]
  ·rw [if_neg e]
   refine jgP h x g (by omega) λk=> ?_
   have p:=((j0d _).1 l).2.2
   have b:=jjs p n g e
   rw [r,k,jby] at b
   rcases b with f | f<;>cases f
theorem jpB {d:DB} (h:dbB d=true) {x:D} (K:j0S x=true) (A:j0b d.1 x=0):(j0T d.1 x).map (j8a d x)=jgr d x:=by
 obtain ⟨F,J,P⟩:=(j1v d).1 h
 have C:=(j0d _).1 F
 unfold jgr
 cases r:(x.1==1)
 ·rw [cond_false]
  rcases j0u d.1 x.2.1 with ⟨l,_⟩ | ⟨i,B,l,z⟩
  ·unfold j0b at A
   rw [r,cond_false,decide_eq_true (by omega),cond_true] at A
   cases A
  ·have k:i<d.2.length:=by omega
   have g:=joc h x B k z
   unfold j0T
   rw [r,cond_false,l,Za7 _ _ _ B,Za7 _ _ _ k,Int.toNat_natCast]
   cases I:(x.1==2)
   ·rw [cond_false,cond_false,List.map_set,g,List.set_set]
    congr 1
    unfold j8a
    rw [jfP,z,Z9R,Bool.and_true,l,decide_eq_true (by omega),cond_true,I,cond_false,Za7 _ _ _ B,Za7 _ _ _ k]
   ·rw [cond_true,cond_true,List.eraseIdx_eq_take_drop_succ,List.eraseIdx_eq_take_drop_succ,List.map_append,List.map_take,List.map_drop,g,List.take_set,List.set_eq_of_length_le (by rw [List.length_take];omega),List.drop_set_of_lt (by omega)]
 ·rw [cond_true]
  have e:x.1=1:=by simpa using r
  have b:=A
  unfold j0b at b
  rw [r,cond_true] at b
  rcases j0u d.1 x.2.1 with ⟨l,E⟩ | ⟨i,B,l,_⟩
  rotate_left
  ·rw [decide_eq_false (by omega)] at b
   cases b
  have ht:j03 (x.2.1,x.2.2.1,x.2.2.2.1)=true:=by
   obtain ⟨_,⟨t,cs,ks,rfl,ht⟩ | ⟨t,rfl⟩ | ⟨t,c,rfl,_⟩ | ⟨t,n,rfl,_⟩ | ⟨t,n,m,rfl,_⟩⟩:=j7f K
   ·exact ht
   all_goals exact absurd e (by simp)
  have G:d.1.length<6:=by
   rw [decide_eq_true (by omega),Bool.not_true,cond_false] at b
   have G:=C.1
   rcases Nat.lt_or_ge d.1.length 6 with q | q
   ·exact q
   ·rw [show (d.1.length==6)=true from beq_iff_eq.2 (by omega)] at b
    cases b
  obtain ⟨p,Q,f,y⟩:=jlK F ht (show j04 d.1 x.2.1<0 by omega) G
  have w:d.1.map (j8a d x)=d.2:=by
   apply List.ext_getElem
   ·simp [J]
   ·intro j L M
    have H:j<d.1.length:=by simpa using L
    rw [List.getElem_map]
    exact jgP h x H M (E _ (List.getElem_mem H))
  unfold j0T
  rw [r,cond_true]
  have f:j04 (lay tR (x.2.1,x.2.2.1,x.2.2.2.1) d.1) x.2.1=(p:Int):=f
  rw [f,Int.toNat_natCast,y,List.map_append,List.map_cons,List.map_take,List.map_drop,w]
  congr 2
  unfold j8a
  rw [l]
  rfl
theorem joU {t:T} {l:List (List V)} (h:j08 t l=true) (n:t.2.1.length<=8):msr (.slice (.slice yV)) l<=14940:=by
 obtain ⟨ht,g,d⟩:=j0g h
 have:=j8R (e:= .slice yV) 248 l (λr b=>by
  have i:=j8R (e:=yV) 30 r (λv f=>jpq (jlU (d r b) v f))
  have j:=j0q (d r b)
  have k:r.length * (30+1)<=8 * 31:=Nat.mul_le_mul (by omega) (Nat.le_refl _)
  omega)
 have m:l.length * (248+1)<=60 * 249:=Nat.mul_le_mul g (Nat.le_refl _)
 omega
theorem ji0 {d:DB} (h:dbB d=true):msr yDB d<=1048576:=by
 obtain ⟨g,m,j⟩:=(j1v d).1 h
 have f:=((j0d _).1 g).1
 have q:=j8R (e:=yT) 400 d.1 (λt ht=>jaa (((j0d _).1 g).2.1 t ht))
 have n:d.1.length * (400+1)<=6 * 401:=Nat.mul_le_mul f (Nat.le_refl _)
 have r:=j8R (e:= .slice (.slice yV)) 14940 d.2 (λx l=>by
  obtain ⟨i,k,rfl⟩:=List.mem_iff_getElem.1 l
  have b:=j i (by omega) k
  exact joU b ((j5T _).1 (j0g b).1).2.2.1)
 have p:d.2.length * (14940+1)<=6 * 14941:=Nat.mul_le_mul (by omega) (Nat.le_refl _)
 have e:msr yDB d=msr (.slice yT) d.1+msr (.slice (.slice (.slice yV))) d.2:=rfl
 omega
theorem jog {s:ST} (d:stB s=true) (f:s.1=5):j0S s.2.2.2.2=true/\s.2.2.2.2.2.1=s.2.1:=by
 unfold stB at d
 rw [f,Bool.and_eq_true] at d
 have b:=d.2
 simp only [show ((5:Int)==1)=false from rfl,show ((5:Int)==2)=false from rfl,show ((5:Int)==3)=false from rfl,show ((5:Int)==4)=false from rfl,show ((5:Int)==5)=true from rfl,cond_false,cond_true,Bool.and_eq_true] at b
 exact ⟨b.2.2.1,(j09 _ _).1 b.2.2.2⟩
theorem jmI (d:DB) (h:dbB d=true) (s:ST) (b:j1d s) (n:stB s=true) (k:DB->Int->Res):j71 d s k=k (j1F d s).1 (j1F d s).2:=by
 obtain ⟨p,A,B⟩:=(j1v d).1 h
 have y:=((j0d _).1 p).1
 unfold j71
 rw [jgj d (ji0 h),h,Bool.not_true,cond_false,jgm s b,n,Bool.not_true,cond_false,jci _ _ (by unfold LIM;omega),jq0]
 cases g:(decide (j04 d.1 s.2.1<0)&& !((s.1==5)&&(s.2.2.2.2.1==1)))
 rotate_left
 ·unfold j1F
  rw [g]
  rfl
 rw [cond_false]
 cases f:(s.1==5)
 ·rw [f,Bool.false_and,Bool.not_false,Bool.and_true] at g
  have r:¬ j04 d.1 s.2.1<0:=of_decide_eq_false g
  rcases j0u d.1 s.2.1 with ⟨j,_⟩ | ⟨i,w,j,_⟩
  ·omega
  rw [cond_false,j]
  exact jm7 d h s (by simpa using f) i w j k
 ·have l:s.1=5:=by simpa using f
  obtain ⟨m,z⟩:=jog n l
  rw [cond_true,jjB d h s l z b.2.2.2 m]
  unfold j1F
  rw [g,f,cond_false,cond_true]
  cases q:(j0b d.1 s.2.2.2.2 != 0)
  ·rw [cond_false,cond_false,jpB h m (by simpa using q)]
  ·rfl
end Go.PI.G
namespace Go.PI.G
open Go Go.PI Go.Proofs
theorem jpT (b:Int) (s:ST) (a z:Res):j6S b s (λ_=>a) (λ_=>z)=bif decide (b<0)&& !((s.1==5)&&(s.2.2.2.2.1==1)) then z else a:=by
 unfold j6S
 cases decide (b<0)
 ·rfl
 ·rw [cond_true,Bool.true_and]
  unfold bne
  cases (s.1==5)
  ·rfl
  ·cases (s.2.2.2.2.1==1)<;>rfl
theorem jlC (t:T) (h:msr yT t<=1048576) (l:List (List V)) (s:ST) (k:List (List V)->Int->Res):j52 l 0 s.1 s t k=k (j2g t l s).1 (j2g t l s).2:=by
 unfold j52 j2g
 cases (s.1==1)
 ·rw [cond_false,cond_false]
  cases (s.1==2)
  ·rw [cond_false,cond_false]
   cases (s.1==3)
   ·rfl
   ·rw [cond_true,cond_true,jkw t h]
  ·rw [cond_true,cond_true,jky t h]
 ·rw [cond_true,cond_true,jkx t h]
theorem jj4 (d:DB) (h:dbB d=true) (x:D) (A:dSm x) (E:j0S x=true) (k:DB->Int->Res) :
  j51 d x k=bif j0b d.1 x != 0 then k ([],[]) (j0b d.1 x) else k (j0T d.1 x,jgr d x) 0:=by
 obtain ⟨y,Y,K⟩:=(j1v d).1 h
 have R:=((j0d _).1 y).1
 unfold j51
 rw [jmx _ _ (jbB y) A,jln y E]
 cases I:(j0b d.1 x != 0)
 rotate_left
 ·rw [cond_true]
  dsimp only
  rw [I,cond_true,cond_true]
 have f:j0b d.1 x=0:=by simpa using I
 have l:=jj3 y E f
 have P:=((j0d _).1 l).1
 rw [cond_false,cond_false]
 show (j11 d λW=>j0i d.1 x.2.1 λX=>j2d X x.1 d x (j0T d.1 x) W λH=>k (j0T d.1 x,H.2) 0)=_
 rw [jer d h,j6P _ _ (by unfold LIM;omega)]
 unfold j2d jgr
 cases w:(x.1==1)
 ·rw [cond_false,cond_false]
  rcases j0u d.1 x.2.1 with ⟨B,_⟩ | ⟨i,z,B,G⟩
  ·unfold j0b at f
   rw [w,cond_false,decide_eq_true (by omega),cond_true] at f
   cases f
  ·have r:i<d.2.length:=by omega
   rw [B,Int.toNat_natCast]
   cases J:(x.1==2)
   ·have ht:j03 d.1[i]=true:=((j0d _).1 y).2.1 _ (List.getElem_mem z)
    have F:msr yT d.1[i]<=1048576:=Nat.le_trans (jaa ht) (by omega)
    have Q:j0n d.1[i] x=0:=by
     unfold j0b at f
     rw [w,cond_false,B,decide_eq_false (show ¬ (i:Int)<0 by omega),cond_false,Za7 _ _ _ z] at f
     exact f
    rw [cond_false,cond_false,j00 z,cond_true,j00 r,cond_true,Za7 _ _ _ z,Za7 _ _ _ r,jj6 _ F _ (K i z r) _ A E G.symm (by simpa using w),Q,J,cond_true,Zad]
    rfl
   ·rw [cond_true,cond_true]
    unfold j4g j9Z
    rw [j01 (n:=(i:Int)+1) (by omega),show Z87 (i:Int) ((i:Int)+1) d.2.length=true from j6M (j:=i+1) ⟨by omega,by omega⟩,cond_true,List.eraseIdx_eq_take_drop_succ]
    rfl
 ·rw [cond_true,cond_true]
  simp only [Z9z]
  have C:∃ p:Nat,p<=d.2.length/\j04 (j0T d.1 x) x.2.1=(p:Int):=by
   have e:x.1=1:=by simpa using w
   have b:=f
   unfold j0b at b
   rw [w,cond_true] at b
   rcases j0u d.1 x.2.1 with ⟨B,T⟩ | ⟨i,z,B,_⟩
   rotate_left
   ·rw [decide_eq_false (by omega)] at b
    cases b
   have ht:j03 (x.2.1,x.2.2.1,x.2.2.2.1)=true:=by
    obtain ⟨_,⟨t,cs,ks,rfl,ht⟩ | ⟨t,rfl⟩ | ⟨t,c,rfl,_⟩ | ⟨t,n,rfl,_⟩ | ⟨t,n,m,rfl,_⟩⟩:=j7f E
    ·exact ht
    all_goals exact absurd e (by simp)
   have L:d.1.length<6:=by
    rw [decide_eq_true (by omega),Bool.not_true,cond_false] at b
    rcases Nat.lt_or_ge d.1.length 6 with q | q
    ·exact q
    ·rw [show (d.1.length==6)=true from beq_iff_eq.2 (by omega)] at b
     cases b
   obtain ⟨p,U,g,_⟩:=jlK y ht (show j04 d.1 x.2.1<0 by omega) L
   refine ⟨p,by omega,?_⟩
   unfold j0T
   rw [w,cond_true]
   exact g
  obtain ⟨p,U,g⟩:=C
  rw [j6P _ _ (by unfold LIM;omega),g]
  unfold j1i jdp
  have M:jhd (p:Int) d.2.length [([]:List (List V))].length=true:=decide_eq_true ⟨by omega,by omega,by simp,by simp;unfold LIM;omega⟩
  rw [M,cond_true,Int.toNat_natCast,List.append_assoc]
  rfl
theorem jmy (d:DB) (h:dbB d=true) (s:ST) (p:j1d s) (D:stB s=true) (k:DB->Int->Res):j8P d s k=k (j1F d s).1 (j1F d s).2:=by
 obtain ⟨q,E,F⟩:=(j1v d).1 h
 have B:=((j0d _).1 q).1
 unfold j8P
 rw [j6P _ _ (by unfold LIM;omega),jpT]
 cases f:(decide (j04 d.1 s.2.1<0)&& !((s.1==5)&&(s.2.2.2.2.1==1)))
 rotate_left
 ·unfold j1F
  rw [f]
  rfl
 rw [cond_false]
 cases g:(s.1==5)
 ·unfold j1F
  rw [f,g,cond_false,cond_false,cond_false]
  rw [g,Bool.false_and,Bool.not_false,Bool.and_true] at f
  have A:¬ j04 d.1 s.2.1<0:=of_decide_eq_false f
  rcases j0u d.1 s.2.1 with ⟨r,_⟩ | ⟨i,j,r,_⟩
  ·omega
  have b:i<d.2.length:=by omega
  have ht:j03 d.1[i]=true:=((j0d _).1 q).2.1 _ (List.getElem_mem j)
  have m:msr yT d.1[i]<=1048576:=Nat.le_trans (jaa ht) (by omega)
  have y:=jmT (t:=d.1[i]) (l:=d.2[i]) (s:=s)
  unfold j94
  rw [r]
  simp only [j00 j,j00 b,cond_true,Z9z]
  rw [Za7 _ _ _ j,Za7 _ _ _ b,jlC _ m]
  cases f:((j2g d.1[i] d.2[i] s).2 != 0)
  ·rw [cond_false,cond_false,jer d h,j00 b,cond_true,Zad,Int.toNat_natCast]
  ·rw [cond_true,cond_true,j01 (n:=10+(j2g d.1[i] d.2[i] s).2) (by omega)]
 ·have w:s.1=5:=by simpa using g
  obtain ⟨z,G⟩:=jog D w
  have C:=jhZ d.1 s.2.2.2.2
  rw [cond_true,jj4 d h _ p.2.2.2 z]
  unfold j1F
  rw [f,g,cond_false,cond_true]
  cases y:(j0b d.1 s.2.2.2.2 != 0)
  ·rfl
  ·rw [cond_true,cond_true,cond_true,j01 (n:=10+j0b d.1 s.2.2.2.2) (by omega)]
end Go.PI.G
namespace Go.PI.G
open Go Go.PI Go.Proofs
theorem jm8 (d:DB) (h:dbB d=true) (s:ST) (b:j1d s) (f:stB s=false) (k:DB->Int->Res):j71 d s k=k ([],[]) 1:=by
 unfold j71
 rw [jgj d (ji0 h),h,Bool.not_true,cond_false,jgm s b,f]
 rfl
theorem jjC (d:DB) (p:msr yDB d<=1048576) (l:List ST) (z:l.length<=1048576) (j:∀ s∈l,j1d s) (k:DB->Int->Int->Res):j28 d l k=k (j0x d l).1 (j0x d l).2.1 (j0x d l).2.2:=by
 unfold j28 j0x
 rw [jgj d p]
 cases h:dbB d
 ·rfl
 rw [Bool.not_true,cond_false,cond_false,jiJ d h]
 unfold j6B
 have:=Z3V l (λi (a:DB)=>(i,a)) j7v (λ_ a=>dbB a=true) (step:=j4F l (nI l.length)) ((λ(now:DB)=>k now 0 0),(λ(t:Int) (r:Int)=>k ([],[]) t r)) (λa=>k a 0 0) (λe=>k ([],[]) e.1 e.2) d (by unfold LIM;omega) h (λi a w f b q=>jhQ b q) (λi a rec f b=>by
  show j2B _ _ _ _ _ _ _=_
  unfold j2B j7v
  dsimp only
  have g:=j _ (List.getElem_mem f)
  rw [Zam f,cond_true,j00 f,cond_true,Za7 _ _ _ f]
  cases m:stB l[i]
  ·rw [jm8 a b _ g m]
   rfl
  ·rw [jmI a b _ g m,Bool.not_true,cond_false]
   cases y:((j1F a l[i]).2 != 0)
   ·rw [cond_false,cond_false,j01 (n:=(i:Int)+1) (by omega)]
   ·rfl) (λa rec b=>by
  show j2B _ _ _ _ _ _ _=_
  unfold j2B
  dsimp only
  rw [Zal,cond_false])
 refine this.trans ?_
 cases Z1Q j7v 0 l d<;>rfl
theorem jj5 (d:DB) (p:msr yDB d<=1048576) (l:List ST) (z:l.length<=1048576) (j:∀ s∈l,j1d s) (k:DB->Int->Int->Res):j22 d l k=k (j0x d l).1 (j0x d l).2.1 (j0x d l).2.2:=by
 unfold j22 j0x
 rw [jnX d p]
 cases h:dbB d
 ·rfl
 rw [Bool.not_true,cond_false,cond_false,jer d h]
 unfold j91
 have:=Z3V l (λi (a:DB)=>(i,a)) j7v (λ_ a=>dbB a=true) (step:=j2s l (nI l.length)) ((λ(now:DB)=>k now 0 0),(λ(t:Int) (r:Int)=>k ([],[]) t r)) (λa=>k a 0 0) (λe=>k ([],[]) e.1 e.2) d (by unfold LIM;omega) h (λi a w b g q=>jhQ g q) (λi a rec b g=>by
  show j1w _ _ _ _ _ _ _=_
  unfold j1w j7v
  dsimp only
  have f:=j _ (List.getElem_mem b)
  rw [Zam b,cond_true,j00 b,cond_true,Za7 _ _ _ b,jjQ _ f]
  cases m:stB l[i]
  ·rfl
  ·rw [Bool.not_true,cond_false,cond_false,jmy a g _ f m]
   cases y:((j1F a l[i]).2 != 0)
   ·rw [cond_false,cond_false,j01 (n:=(i:Int)+1) (by omega)]
   ·rfl) (λa rec g=>by
  show j1w _ _ _ _ _ _ _=_
  unfold j1w
  dsimp only
  rw [Zal,cond_false])
 refine this.trans ?_
 cases Z1Q j7v 0 l d<;>rfl
end Go.PI.G
namespace Go.PI.G
open Go Go.PI
theorem jpZ {d:D} (h:msr yD d<=1048576):dSm d:=by
 have j:msr yD d=0+(d.2.1.size+(msr (.slice yC) d.2.2.1+(msr (.slice .str) d.2.2.2.1+(d.2.2.2.2.1.size+d.2.2.2.2.2.size)))):=rfl
 have b:msr (.slice yC) d.2.2.1<=1048576:=by omega
 have f:msr (.slice .str) d.2.2.2.1<=1048576:=by omega
 refine ⟨by omega,j0M b,j0M f,λc g=> ?_,λx i=>j1R f i,by omega,by omega⟩
 have:=j1R b g
 have k:msr yC c=c.1.size+msr (.pair (.int .i64) (.pair .bool (.pair .bool yV))) c.2:=rfl
 omega
theorem jpU {s:ST} (h:msr yST s<=1048576):j1d s:=by
 have f:msr yST s=0+(s.2.1.size+(msr (.slice yV) s.2.2.1+(msr (.slice yV) s.2.2.2.1+msr yD s.2.2.2.2))):=rfl
 have b:msr (.slice yV) s.2.2.1<=1048576:=by omega
 have d:msr (.slice yV) s.2.2.2.1<=1048576:=by omega
 exact ⟨by omega,j0M b,j0M d,jpZ (by omega)⟩
end Go.PI.G
namespace Go.PI.G
noncomputable section
open Go Go.PI
theorem joM (l:List Int) (n:Int):j1O l n=true↔n∈l:=by
 unfold j1O
 rw [List.any_eq_true]
 constructor
 ·rintro ⟨x,b,h⟩
  rw [beq_iff_eq] at h
  exact h ▸ b
 ·intro h
  exact ⟨n,h,by simp⟩
def jli (l:List RC) (x:Int):Int:=Z9t (λr=>(r.1==1)&&(r.2.1==x)) l
def jfR (l:List RC) (p:Int):Bool:=j1O (j9Y l) p
theorem jlk (l:List RC) (p:Int):jfR l p=true↔j8p l=true/\∃ (i:Nat) (h:i<l.length),p=(i:Int)+1/\l[i].1=3:=by
 unfold jfR j9Y
 rw [joM]
 cases j8p l
 ·simp
 ·rw [cond_true,jmV l 0]
  simp
theorem jmU (l:List RC) (p:Int):jfR l p=(j8p l&&(decide (1<=p/\p<=(l.length:Int))&&((nth zRC l (p-1)).1==3))):=by
 rw [Bool.eq_iff_iff,jlk,Bool.and_eq_true,Bool.and_eq_true,decide_eq_true_eq,beq_iff_eq]
 refine and_congr_right λ_=>⟨?_,?_⟩
 ·rintro ⟨i,d,f,b⟩
  refine ⟨by omega,?_⟩
  rw [show p-1=(i:Int) by omega,Za7 _ _ _ d,b]
 ·rintro ⟨f,b⟩
  obtain ⟨i,rfl⟩:∃ i:Nat,p=(i:Int)+1:=⟨(p-1).toNat,by omega⟩
  have d:i<l.length:=by omega
  refine ⟨i,d,rfl,?_⟩
  rw [show (i:Int)+1-1=(i:Int) by omega,Za7 _ _ _ d] at b
  exact b
theorem jpA {l:List RC} (h:j8p l=true) {i:Nat} (E:i<l.length) (D:l[i].1=3):∃ (j:Nat) (F:j<i),jli l l[i].2.1=(j:Int)/\(l[j]'(by omega)).2.1=l[i].2.1:=by
 obtain ⟨d,w,_⟩:=jlN h (i+1)
 obtain ⟨B,g,_⟩:=jlN h i
 rw [jjY _ _ _ E,g] at w
 have b:j4C (l.take i) B l[i]= .ok d:=w
 unfold j4C at b
 cases C:jac l[i]<;>rw [C] at b
 ·cases b
 rw [Bool.not_true,cond_false,show (l[i].1==1)=false by rw [D];rfl,cond_false] at b
 cases q:j1O (j1m (l.take i)) l[i].2.1<;>rw [q] at b
 ·cases b
 have A:=jjX _ _ _ rfl q
 unfold j4Q at A
 obtain ⟨r,I,z⟩:=List.any_eq_true.1 A
 obtain ⟨m,H,k⟩:=List.getElem_of_mem I
 rw [List.length_take] at H
 rw [List.getElem_take] at k
 rcases j5G (λr:RC=>(r.1==1)&&(r.2.1==l[i].2.1)) l with ⟨_,p⟩ | ⟨j,F,e,y,n⟩
 ·have:=p (l[m]'(by omega)) (List.getElem_mem _)
  rw [k,z] at this
  cases this
 ·have G:j<=m:=by
   rcases Nat.lt_or_ge m j with f | f
   ·have:=n m f
    rw [k,z] at this
    cases this
   ·exact f
  refine ⟨j,by omega,e,?_⟩
  rw [Bool.and_eq_true,beq_iff_eq,beq_iff_eq] at y
  exact y.2
def jbn (l:List RC) (p:Int):Int:=bif jfR l p then jli l (nth zRC l (p-1)).2.1+1 else 0
def jl3 (l:List RC) (p:Int):Int:=bif jbn l p==0 then 0 else p-jbn l p+1
theorem jbo (l:List RC) (p:Int):(jbn l p=0/\jfR l p=false)\/∃ (i j:Nat) (b:i<l.length) (d:j<i),jfR l p=true/\p=(i:Int)+1/\jbn l p=(j:Int)+1/\jli l l[i].2.1=(j:Int)/\(l[j]'(by omega)).2.1=l[i].2.1/\nth zRC l (p-1)=l[i]:=by
 cases h:jfR l p
 ·left
  unfold jbn
  rw [h]
  exact ⟨rfl,rfl⟩
 ·right
  obtain ⟨k,i,b,rfl,m⟩:=(jlk l p).1 h
  obtain ⟨j,d,e,g⟩:=jpA k b m
  have f:nth zRC l ((i:Int)+1-1)=l[i]:=by rw [show (i:Int)+1-1=(i:Int) by omega,Za7 _ _ _ b]
  refine ⟨i,j,b,d,rfl,rfl,?_,e,g,f⟩
  unfold jbn
  rw [h,cond_true,f,e]
end
end Go.PI.G
namespace Go.PI.G
open Go Go.PI Go.Proofs
theorem joT {l:List RC} (h:msr (.slice yRC) l<=1048576):l.length<=1048576/\∀ r∈l,j1d r.2.2:=
 ⟨j0M h,λr b=>by
  have e:msr yRC r=0+(0+msr yST r.2.2):=rfl
  have:=j1R (e:=yRC) h b
  exact jpU (by omega)⟩
theorem jfW {n:Nat} (h:n<=1048576):lim (0+n)=true:=Zai (by unfold LIM;omega)
theorem jnB (s:ST) (h:j1d s) (k:ST->Res):j9z s k=k s:=by
 obtain ⟨g,d,f,b⟩:=h
 unfold j9z j0t
 simp only [jfW d,jfW f,jfW b.2.1,jfW b.2.2.1,cond_true]
 try rfl
theorem jni (s:ST) (h:j1d s) (k:ST->Res):j63 s k=k s:=by
 obtain ⟨g,d,f,b⟩:=h
 unfold j63 j0O j93 j2Z
 simp only [jfW d,jfW f,jfW b.2.1,jfW b.2.2.1,cond_true]
 try rfl
theorem jdx (l:List Int) (n:Int) (h:l.length<=1048576) (k:Bool->Res):j20 l n k=k (j1O l n):=by
 unfold j20 jee j1O
 have:=Z9D l (λi=>i) (λx=>x==n) (step:=j8A n l (nI l.length)) ((λ(_:Unit)=>k false),(λ(_:Unit)=>k true)) (k false) (k true) (by unfold LIM;omega) (λi rec b=>by
  show j3G _ _ _ _ _ _ _=_
  unfold j3G
  rw [Zam b,cond_true,j00 b,cond_true,Za7 _ _ _ b,j01 (n:=(i:Int)+1) (by omega)]) (λrec=>by
  show j3G _ _ _ _ _ _ _=_
  unfold j3G
  rw [Zal,cond_false])
 refine this.trans ?_
 cases l.any λx=>x==n<;>rfl
theorem jgL (l:List Int) (n:Int) (h:l.length<=1048576) (k:Bool->Res):j0X l n k=k (j1O l n):=by
 unfold j0X j8u j9U j1O
 have:=Z9A l (λi=>i) (λx=>n==x) (step:=j5q l n (nI l.length)) ((λ(_:Unit)=>k (decide ((-1:Int)>=0))),(λ(t:Int)=>k (decide (t>=0)))) (λr=>k (decide (r>=0))) (by unfold LIM;omega) (λi rec b=>by
  show j1h _ _ _ _ _ _ _=_
  unfold j1h
  rw [Zam b,cond_true,j00 b,cond_true,Za7 _ _ _ b,j01 (n:=(i:Int)+1) (by omega)]) (λrec=>by
  show j1h _ _ _ _ _ _ _=_
  unfold j1h
  rw [Zal,cond_false])
 refine this.trans ?_
 rw [jlw]
 have:(λx:Int=>n==x)=λx=>x==n:=by funext x;exact Bool.eq_iff_iff.2 (by rw [beq_iff_eq,beq_iff_eq];exact eq_comm)
 rw [this]
theorem jgI {α:Type} (p:α->Bool):(j:Nat)->(l:List α)->Z5C (λ_ x=>bif p x then [x] else []) j l=l.filter p
 | _,[]=>rfl
 | j,x::l=>by
  show (bif p x then [x] else [])++Z5C _ (j+1) l=_
  rw [jgI p (j+1) l]
  cases h:p x
  ·rw [List.filter_cons_of_neg (by rw [h];simp)];rfl
  ·rw [List.filter_cons_of_pos h];rfl
theorem jpx {α:Type} (b:Bool) (x:α):(bif b then [x] else []).length<=1:=by cases b<;>simp
theorem jnu (l:List Int) (n:Int) (h:l.length<=1048576) (k:List Int->Res):j6m l n k=k (l.filter λy=> !(y==n)):=by
 unfold j6m jed
 have:=Z9E l (λ_ x=>bif !(x==n) then [x] else []) (λi b=>(b,i)) (step:=j8z n l (nI l.length)) (λb=>k b) k (by unfold LIM;omega) (λ_ x=>jpx _ _) (λb i rec d f=>by
  show j3F _ _ _ _ _ _ _=_
  unfold j3F
  dsimp only
  rw [Zam d,cond_true,j00 d,cond_true,Za7 _ _ _ d,j01 (n:=(i:Int)+1) (by omega),Zai (by unfold LIM;omega),cond_true]
  unfold bne
  cases l[i]==n
  ·rfl
  ·show _=rec (b++[],_)
   rw [List.append_nil]
   rfl) (λb rec=>by
  show j3F _ _ _ _ _ _ _=_
  unfold j3F
  dsimp only
  rw [Zal,cond_false])
 refine this.trans ?_
 rw [jgI]
theorem jmN (l:List RC) (h:l.length<=1048576) (k:List Int->Res):j8U l k=k (j1m l):=by
 unfold j8U jgn j1m
 refine Z8b l (λi b=>(b,i)) j89 (λi a=>a.length<=i) (step:=j7t l (nI l.length)) (λb=>k b) k [] (by unfold LIM;omega) (by simp) (λi a d f=>Nat.le_trans (jjV _ _) (by omega)) (λi a rec d f=>by
  show j33 _ _ _ _ _ _=_
  unfold j33 j9t
  dsimp only
  rw [Zam d,cond_true,j00 d,cond_true,Za7 _ _ _ d,j01 (n:=(i:Int)+1) (by omega),jdx _ _ (by omega),Zai (by unfold LIM;omega),cond_true]
  generalize l[i]=r
  unfold j89
  cases g:r.1==1
  ·rw [cond_false,cond_false,jnu _ _ (by omega)]
   cases r.1==3
   ·rw [cond_false,Bool.false_or]
    cases r.1==4<;>rfl
   ·rfl
  ·have e:r.1=1:=by simpa using g
   have j:(r.1==3)=false:=by rw [e];rfl
   have m:(r.1==4)=false:=by rw [e];rfl
   rw [cond_true,cond_true,j,m]
   cases j1O a r.2.1<;>rfl) (λa rec f=>by
  show j33 _ _ _ _ _ _=_
  unfold j33
  dsimp only
  rw [Zal,cond_false])
theorem jmQ (l:List RC) (x:Int) (h:l.length<=1048576) (k:Bool->Res):jaM l x k=k (j4Q l x):=by
 unfold jaM jgo j4Q
 have:=Z9D l (λi=>i) (λr:RC=>(r.1==1)&&(r.2.1==x)) (step:=jan x l (nI l.length)) ((λ(_:Unit)=>k false),(λ(_:Unit)=>k true)) (k false) (k true) (by unfold LIM;omega) (λi rec b=>by
  show j5w _ _ _ _ _ _ _=_
  unfold j5w
  rw [Zam b,cond_true,j00 b,cond_true,Za7 _ _ _ b,j01 (n:=(i:Int)+1) (by omega)]
  cases l[i].1==1<;>rfl) (λrec=>by
  show j5w _ _ _ _ _ _ _=_
  unfold j5w
  rw [Zal,cond_false])
 refine this.trans ?_
 cases l.any λr:RC=>(r.1==1)&&(r.2.1==x)<;>rfl
theorem jjE (l:List RC) (x:Int) (h:l.length<=1048576) (f:∀ r∈l,j1d r.2.2) (k:List ST->Res):j5v l x k=k (j2O l x):=by
 unfold j5v jcU j2O
 refine Z9E l (jgp x) (λi b=>(b,i)) (step:=j7J x l (nI l.length)) (λb=>k b) k (by unfold LIM;omega) (jhR x) (λb i rec d g=>by
  show j2F _ _ _ _ _ _ _=_
  unfold j2F jgp
  dsimp only
  rw [Zam d,cond_true,j00 d,cond_true,Za7 _ _ _ d,jnB _ (f _ (List.getElem_mem d)),j01 (n:=(i:Int)+1) (by omega),Zai (by unfold LIM;omega),cond_true]
  cases l[i].1==2
  ·show _=rec (b++[],_)
   rw [List.append_nil]
   rfl
  ·cases l[i].2.1==x
   ·show _=rec (b++[],_)
    rw [List.append_nil]
    rfl
   ·rfl) (λb rec=>by
  show j2F _ _ _ _ _ _ _=_
  unfold j2F
  dsimp only
  rw [Zal,cond_false])
theorem jj7 (l:List RC) (x:Int) (h:l.length<=1048576) (f:∀ r∈l,j1d r.2.2) (k:List ST->Res):j50 l x k=k (j2O l x):=by
 unfold j50 jcK j2O
 refine Z9E l (jgp x) (λi b=>(b,i)) (step:=j7C x l (nI l.length)) (λb=>k b) k (by unfold LIM;omega) (jhR x) (λb i rec d g=>by
  show j2w _ _ _ _ _ _ _=_
  unfold j2w jgp
  dsimp only
  rw [Zam d,cond_true,j00 d,cond_true,Za7 _ _ _ d,jni _ (f _ (List.getElem_mem d)),j01 (n:=(i:Int)+1) (by omega),Zai (by unfold LIM;omega),cond_true]
  cases l[i].1==2
  ·show _=rec (b++[],_)
   rw [List.append_nil]
   rfl
  ·cases l[i].2.1==x
   ·show _=rec (b++[],_)
    rw [List.append_nil]
    rfl
   ·rfl) (λb rec=>by
  show j2w _ _ _ _ _ _ _=_
  unfold j2w
  dsimp only
  rw [Zal,cond_false])
theorem jjG {α:Type} (l:List α) (i:Nat):sub l 0 (i:Int)=l.take i:=jjF l 0 i
theorem jhb {i n:Nat} (h:i<=n):Z87 0 (i:Int) n=true:=j6M (i:=0) ⟨Nat.zero_le _,h⟩
theorem jgu {l:List RC} (d:∀ r∈l,j1d r.2.2) (i:Nat):∀ r∈l.take i,j1d r.2.2:=λr b=>d r (List.mem_of_mem_take b)
theorem j5U {l:List RC} (h:l.length<=1048576) (i:Nat):(l.take i).length<=1048576:=by rw [List.length_take];omega
theorem joh {l:List RC} (f:∀ r∈l,j1d r.2.2) (x:Int):∀ s∈j2O l x,j1d s:=λs b=>by
 obtain ⟨r,d,rfl⟩:=jnC b
 exact f r d
theorem joa (l:List RC) (h:l.length<=1048576) (i:Nat) (f:i<=l.length) (r:RC) (j:j1d r.2.2) (k:Bool->Res) :
  j2k l (i:Int) r k=k (!jac r||(bif r.1==1 then j4Q (l.take i) r.2.1 else !j1O (j1m (l.take i)) r.2.1)):=by
 unfold j2k
 have g:(j1m (l.take i)).length<=1048576:=Nat.le_trans (jjW _) (j5U h i)
 rw [jnA _ j,jhb f,cond_true,cond_true,jjG,jmQ _ _ (j5U h i),jmN _ (j5U h i)]
 simp only [jdx _ _ g]
 cases jac r
 ·rfl
 cases d:r.1==1
 ·have b:(r.1 != 1)=true:=by unfold bne;rw [d];rfl
  rw [b]
  rfl
 ·have b:(r.1 != 1)=false:=by unfold bne;rw [d];rfl
  rw [b]
  cases j4Q (l.take i) r.2.1<;>rfl
theorem jma (l:List RC) (h:l.length<=1048576) (b:∀ r∈l,j1d r.2.2) (i:Nat) (g:i<=l.length) (d:DB) (f:dbB d=true) (r:RC) (k:Int->DB->Res) :
  j2l l (i:Int) d r k=k (j0x d (j2O (l.take i) r.2.1)).2.1 (j0x d (j2O (l.take i) r.2.1)).1:=by
 unfold j2l
 rw [jhb g,cond_true]
 simp only [Z9z]
 rw [jjG,jjE _ _ (j5U h i) (jgu b i),jjC d (ji0 f) _ (Nat.le_trans (jiN _ _) (j5U h i)) (joh (jgu b i) _)]
theorem jlB (l:List RC) (h:l.length<=1048576) (b:∀ r∈l,j1d r.2.2) (i:Nat) (g:i<=l.length) (d:DB) (f:dbB d=true) (r:RC) (k:Int->DB->Res) :
  j54 l (i:Int) d r k=k (j0x d (j2O (l.take i) r.2.1)).2.1 (j0x d (j2O (l.take i) r.2.1)).1:=by
 unfold j54
 rw [jhb g,cond_true]
 simp only [Z9z]
 rw [jjG,jj7 _ _ (j5U h i) (jgu b i),jj5 d (ji0 f) _ (Nat.le_trans (jiN _ _) (j5U h i)) (joh (jgu b i) _)]
theorem jpY (n:Nat):decide (nI n<=400)=decide (n<=400):=decide_eq_decide.2 (by unfold nI;omega)
theorem jpp (n:Nat):decide (nI n>400)= !decide (n<=400):=by
 by_cases h:n<=400
 ·rw [decide_eq_true h,decide_eq_false (by unfold nI;omega)];rfl
 ·rw [decide_eq_false h,decide_eq_true (by unfold nI;omega)];rfl
theorem jmO (l:List RC) (h:l.length<=1048576) (g:∀ r∈l,j1d r.2.2) (k:DB->Bool->Res) :
  j9x l k=match j2f zDB l with | .ok d=>k d (decide (l.length<=400)) | .error _=>k ([],[]) false:=by
 unfold j9x j9y
 rw [jpY]
 refine (Z3V l (λi (a:DB)=>(i,a)) (λi d r=>j4C (l.take i) d r) (λ_ a=>dbB a=true) (step:=j4O l l (nI l.length)) ((λ(d:DB)=>k d (decide (l.length<=400))),(λ(_:Unit)=>k ([],[]) false)) (λa=>k a (decide (l.length<=400))) (λ_=>k ([],[]) false) zDB (by unfold LIM;omega) jbT (λi a q b f g=>jhL f g) (λi a rec b f=>by
  show j1B _ _ _ _ _ _ _ _=_
  unfold j1B j4C
  dsimp only
  have j:=g _ (List.getElem_mem b)
  rw [Zam b,cond_true,j00 b,cond_true,Za7 _ _ _ b,joa l h i (by omega) _ j,jma l h g i (by omega) a f,j01 (n:=(i:Int)+1) (by omega)]
  generalize l[i]=r
  cases jac r
  ·rfl
  cases p:r.1==1
  ·cases j1O (j1m (l.take i)) r.2.1
   ·rfl
   ·cases r.1==3
    ·rfl
    ·cases m:(j0x a (j2O (l.take i) r.2.1)).2.1 != 0
     ·simp only [cond_true,cond_false,Bool.not_true,Bool.or_false,m]
     ·simp only [cond_true,cond_false,Bool.not_true,Bool.or_false,m]
  ·cases j4Q (l.take i) r.2.1
   ·have e:r.1=1:=by simpa using p
    rw [e]
    rfl
   ·rfl) (λa rec f=>by
  show j1B _ _ _ _ _ _ _ _=_
  unfold j1B
  dsimp only
  rw [Zal,cond_false])).trans ?_
 unfold j2f
 cases Z1Q (λi d r=>j4C (l.take i) d r) 0 l zDB<;>rfl
end Go.PI.G
namespace Go.PI.G
open Go Go.PI Go.Proofs
theorem jpD (o:List Int) (r:RC) (h:o.length<=1048576) (k:List Int->RC->Res):j1e o r k=k (o.filter λy=> !(y==r.2.1)) r:=by
 unfold j1e
 rw [Zai (by unfold LIM;omega),cond_true,jlp (g:=λe k=>jev e r k) (λy=>y==r.2.1) o (λy b k=>rfl) [],List.nil_append]
noncomputable def jmk (l:List RC) (i:Int) (d:DB):List Int×List Int×Int×DB:=(j1m (l.take i.toNat),j6H (l.take i.toNat),i,d)
theorem jmR (l:List RC) (i:Nat) (b:i<l.length) (d:DB):jmk l ((i:Int)+1) d=(j89 (j1m (l.take i)) l[i],(bif l[i].1==1 then j6H (l.take i)++[l[i].2.1] else j6H (l.take i)),(i:Int)+1,d):=by
 unfold jmk
 rw [show ((i:Int)+1).toNat=i+1 by omega,List.take_succ_eq_append_getElem b,jir,jnD]
theorem jmE (d:DB) (B:dbB d=true) (l:List RC) (h:l.length<=1048576) (p:∀ r∈l,j1d r.2.2) (k:DB->Bool->Res) :
  jcM d l k=match j2f d l with | .ok d=>k d true | .error _=>k ([],[]) false:=by
 unfold jcM jbY jfU
 refine (Z3V l (jmk l) (λi d r=>j4C (l.take i) d r) (λ_ a=>dbB a=true) (step:=j7k l l (nI l.length)) ((λ(f:DB)=>k f true),(λ(_:Unit)=>k ([],[]) false)) (λa=>k a true) (λ_=>k ([],[]) false) d (by unfold LIM;omega) B (λi a F b m p=>jhL m p) (λi a rec b m=>by
  show j30 l l (nI l.length) (j1m (l.take (i:Int).toNat)) (j6H (l.take (i:Int).toNat)) (i:Int) a (λo u j d=>rec (o,u,j,d)) (λf=>k f true) (λ_=>k ([],[]) false)=_
  have y:=p _ (List.getElem_mem b)
  have A:(j1m (l.take i)).length<=1048576:=Nat.le_trans (jjW _) (j5U h i)
  have D:(j6H (l.take i)).length<=1048576:=Nat.le_trans (jop _) (j5U h i)
  unfold j30 j6T j4C
  simp only [jmR l i b]
  rw [Int.toNat_natCast,Zam b,cond_true,j00 b,cond_true,Za7 _ _ _ b,jnh _ y,jgL _ _ D,jgL _ _ A,joo,j01 (n:=(i:Int)+1) (by omega),Zai (by unfold LIM;omega),Zai (by unfold LIM;omega),cond_true,cond_true]
  simp only [jlB l h p i (by omega) a m,jpD _ _ A]
  generalize l[i]=r
  cases C:jac r
  ·rfl
  rw [Bool.not_true,cond_false,cond_false]
  cases q:r.1==1
  ·rw [cond_false,cond_false]
   cases j1O (j1m (l.take i)) r.2.1
   ·rfl
   rw [Bool.not_true,cond_false,cond_false]
   unfold j89
   rw [q,cond_false,cond_false]
   cases z:r.1==3
   ·rw [cond_false,cond_false,Bool.false_or]
    unfold bne
    cases g:r.1==2
    ·have K:=(jnp C).1
     have w:(r.1==4)=true:=by
      rw [beq_iff_eq]
      have G:r.1≠1:=by simpa using q
      have H:r.1≠2:=by simpa using g
      have I:r.1≠3:=by simpa using z
      omega
     rw [w]
     rfl
    ·have w:(r.1==4)=false:=by
      have:r.1=2:=by simpa using g
      rw [this];rfl
     rw [w]
     rfl
   ·have g:(r.1 != 2)=true:=by
     have:r.1=3:=by simpa using z
     rw [this];rfl
    rw [cond_true,cond_true,Bool.true_or]
    cases J:(j0x a (j2O (l.take i) r.2.1)).2.1 != 0
    ·rw [cond_false,cond_false,g]
     rfl
    ·rfl
  ·rw [cond_true,cond_true]
   cases E:j4Q (l.take i) r.2.1
   ·unfold j89
    rw [q,cond_true,cond_true,jno E]
    rfl
   ·rfl) (λa rec m=>by
  show j30 l l (nI l.length) (j1m (l.take ((l.length:Nat):Int).toNat)) (j6H (l.take ((l.length:Nat):Int).toNat)) (l.length:Int) a (λo u j d=>rec (o,u,j,d)) (λf=>k f true) (λ_=>k ([],[]) false)=_
  unfold j30
  rw [Zal,cond_false])).trans ?_
 unfold j2f
 cases Z1Q (λi d r=>j4C (l.take i) d r) 0 l d<;>rfl
theorem jnx (l:List RC) (h:l.length<=1048576) (d:∀ r∈l,j1d r.2.2) (k:Bool->Res):j9s l k=k (j8p l):=by
 unfold j9s j8p
 rw [jpp]
 cases b:decide (l.length<=400)
 ·rfl
 rw [Bool.not_true,cond_false,jmO l h d,b]
 cases j2f zDB l<;>rfl
theorem jng (l:List RC) (h:l.length<=1048576) (d:∀ r∈l,j1d r.2.2) (k:Bool->Res):j92 l k=k (j8p l):=by
 unfold j92 j8p
 rw [jpp]
 cases b:decide (l.length<=400)
 ·rfl
 rw [Bool.not_true,cond_false,jmE _ jbT l h d]
 cases j2f zDB l<;>rfl
end Go.PI.G
namespace Go.PI.G
open Go Go.PI Go.Proofs
theorem jnv (l:List RC) (h:l.length<=1048576) (f:∀ r∈l,j1d r.2.2) (k:List Int->Res):j5r l k=k (j9Y l):=by
 unfold j5r j9Y
 rw [jnx l h f]
 cases j8p l
 ·rfl
 unfold j9r
 refine Z9E l jdk (λi b=>(b,i)) (step:=j4E l (nI l.length)) (λb=>k b) k (by unfold LIM;omega) jll (λb i rec d g=>by
  show j2A _ _ _ _ _ _=_
  unfold j2A jdk
  dsimp only
  rw [Zam d,cond_true,j00 d,cond_true,Za7 _ _ _ d,j01 (n:=(i:Int)+1) (by omega),Zai (by unfold LIM;omega),cond_true]
  cases l[i].1==3
  ·show _=rec (b++[],_)
   rw [List.append_nil]
   rfl
  ·rfl) (λb rec=>by
  show j2A _ _ _ _ _ _=_
  unfold j2A
  dsimp only
  rw [Zal,cond_false])
end Go.PI.G
namespace Go.PI.G
open Go Go.PI Go.Proofs
noncomputable def jnt (l:List RC) (p:Int):List RC:=bif jbn l p==0 then [] else (l.take p.toNat).drop (jbn l p-1).toNat
theorem jnd (j:Nat):(((j:Int)+1)==0)=false:=by simp;omega
theorem jmJ (l:List RC) (h:l.length<=1048576) (w:∀ r∈l,j1d r.2.2) (p:Int) (k:Int->Res):j74 l p k=k (jbn l p):=by
 unfold j74
 rw [jnv l h w,jdx _ _ (Nat.le_trans (jlm l) h)]
 show (bif !jfR l p then _ else _)=_
 rcases jbo l p with ⟨e,b⟩ | ⟨i,j,g,y,b,A,e,q,B,z⟩
 ·rw [b,e];rfl
 rw [b,e,Bool.not_true,cond_false]
 have f:Z9x (p-1)=(i:Int):=by rw [j01 (by omega)];omega
 unfold j9A
 refine Z9A l (λi=>i) (λr:RC=>(r.1==1)&&(r.2.1==l[i].2.1)) (step:=j4P l p l (nI l.length)) ((λ(_:Unit)=>k 0),(λ(t:Int)=>k t)) (λv=>k (v+1)) (by unfold LIM;omega) (λm rec d=>by
  show j2N _ _ _ _ _ _ _ _=_
  unfold j2N
  rw [Zam d,cond_true,j00 d,cond_true,Za7 _ _ _ d,f,j00 g,cond_true,Za7 _ _ _ g,j01 (n:=(m:Int)+1) (by omega)]
  cases l[m].1==1
  ·rfl
  ·cases l[m].2.1==l[i].2.1<;>rfl) (λrec=>by
  show j2N _ _ _ _ _ _ _ _=_
  unfold j2N
  rw [Zal,cond_false]
  rfl) |>.trans ?_
 show k (jli l l[i].2.1+1)=_
 rw [q]
theorem jlD (l:List RC) (h:l.length<=1048576) (L:∀ r∈l,j1d r.2.2) (p:Int) (k:List RC->Res):jaH l p k=k (jnt l p):=by
 unfold jaH jnt
 rw [jng l h L,j4r]
 rcases jbo l p with ⟨e,b⟩ | ⟨i,j,A,P,b,K,e,H,R,J⟩
 ·rw [e]
  rw [jmU] at b
  cases C:j8p l
  ·rfl
  rw [C,Bool.true_and] at b
  rw [Bool.not_true,cond_false]
  have D:decide (1<=p/\p<=nI l.length)=decide (1<=p/\p<=(l.length:Int)):=rfl
  rw [D]
  cases z:decide (1<=p/\p<=(l.length:Int))
  ·rfl
  rw [z,Bool.true_and] at b
  have Q:=of_decide_eq_true z
  rw [Bool.not_true,cond_false,j01 (n:=p-1) (by omega),Zah (by omega) (by omega),cond_true]
  unfold bne
  rw [b]
  rfl
 ·rw [jmU,Bool.and_eq_true,Bool.and_eq_true] at b
  obtain ⟨C,z,E⟩:=b
  have D:decide (1<=p/\p<=nI l.length)=true:=z
  have q:Z9x (p-1)=(i:Int):=by rw [j01 (by omega)];omega
  rw [J] at E
  have d:inb (i:Int) l.length=true:=j00 A
  rw [C,Bool.not_true,cond_false,D,Bool.not_true,cond_false,q,d,cond_true,Za7 _ _ _ A,e,jnd,cond_false]
  unfold bne
  rw [E,Bool.not_true,cond_false]
  unfold jbX
  have f:j<l.length:=by omega
  have y:(l[j].1==1&&l[j].2.1==l[i].2.1)=true/\∀ (m:Nat) (F:m<j),((l[m]'(by omega)).1==1&&(l[m]'(by omega)).2.1==l[i].2.1)=false:=by
   unfold jli at H
   rcases j5G (λr:RC=>(r.1==1)&&(r.2.1==l[i].2.1)) l with ⟨B,_⟩ | ⟨M,I,B,w,G⟩
   ·omega
   ·have:M=j:=by omega
    subst this
    exact ⟨w,G⟩
  refine Z5X (step:=j7j l p l (nI l.length)) (λi=>(i:Int)) j ((λ(_:Unit)=>k []),(λ(t:List RC)=>k t)) _ (λm F rec=>by
   have g:m<l.length:=by omega
   show j53 _ _ _ _ _ _ _ _=_
   unfold j53
   rw [Zam g,cond_true,j00 g,cond_true,Za7 _ _ _ g,q,d,cond_true,Za7 _ _ _ A,j01 (n:=(m:Int)+1) (by omega)]
   have:=y.2 m F
   cases B:l[m].1==1
   ·rfl
   ·rw [B,Bool.true_and] at this
    rw [this]
    rfl) (λrec=>by
   show j53 _ _ _ _ _ _ _ _=_
   unfold j53
   have w:=y.1
   rw [Bool.and_eq_true] at w
   rw [Zam f,cond_true,j00 f,cond_true,Za7 _ _ _ f,q,d,cond_true,Za7 _ _ _ A,w.1,w.2,cond_true,cond_true,K,show ((i:Int)+1)=((i+1:Nat):Int) by omega,j6M ⟨by omega,by omega⟩,cond_true,jjF,Int.toNat_natCast,show ((j:Int)+1-1).toNat=j by omega]) Z1Y (Z48 (by omega))
end Go.PI.G
set_option maxRecDepth 10000
namespace Go.PI.G
open Go Go.PI Go.Proofs
theorem jmg (a:Int×Int×ByteArray) (h:msr y2 a<=1048576) (k:qV->Res):j9d a k=k a:=by
 unfold j9d
 rfl
theorem jmd (a:Int×Int×ByteArray) (left:Int) (h:0<=left) (i:left<=1048576) (g:Wf y2 a) (k:Int->Res):j9b a left k=k (szR left (msr y2 a)):=by
 have f:msr y2 a=ByteArray.size a.2.2+0:=by simp only [msr];omega
 rw [f]
 unfold j9b
 have d:ByteArray.size a.2.2<=maxLen:=g.2.2
 unfold maxLen at d
 rw [j01 (by unfold nI;omega)]
 by_cases b:((ByteArray.size a.2.2:Nat):Int)<=left
 rotate_left
 ·rw [Z9V b,Z9G (by unfold nI;omega),cond_true]
 rw [Z9F (by unfold nI;omega),cond_false,Z9U b,show left-nI (ByteArray.size a.2.2)=left-((ByteArray.size a.2.2:Nat):Int) from rfl]
 exact jeg (by omega)
theorem jlr (a:Int×Int×ByteArray) (h:msr y2 a<=1048576) (k:Bool->Res):j99 a a k=k true:=by
 unfold j99
 simp only [Zak,Z9S,beq_self_eq_true,cond_false,Bool.not_true]
end Go.PI.G
namespace Go.PI.G
open Go Go.PI Go.Proofs
theorem jph (a:ByteArray×Int×Bool×Bool×Int×Int×ByteArray) (h:msr y7 a<=1048576) (k:qC->Res):jbu a k=k a:=by
 have b:msr y2 a.2.2.2.2<=1048576:=(Nat.le_trans (@j07 .bool y2 a.2.2.2) (Nat.le_trans (@j07 .bool y4 a.2.2) (Nat.le_trans (@j07 (.int .i64) y5 a.2) (Nat.le_trans (@j07 .str y6 a) h))))
 unfold jbu
 simp only [jmg _ b]
theorem jpb (a:ByteArray×Int×Bool×Bool×Int×Int×ByteArray) (left:Int) (i:0<=left) (j:left<=1048576) (g:Wf y7 a) (k:Int->Res):jbs a left k=k (szR left (msr y7 a)):=by
 have h:msr y7 a=ByteArray.size a.1+(msr y2 a.2.2.2.2+0):=by simp only [msr];omega
 rw [h]
 unfold jbs
 have f:ByteArray.size a.1<=maxLen:=g.1
 unfold maxLen at f
 rw [j01 (by unfold nI;omega)]
 by_cases d:((ByteArray.size a.1:Nat):Int)<=left
 rotate_left
 ·rw [Z9V d,Z9G (by unfold nI;omega),cond_true]
 rw [Z9F (by unfold nI;omega),cond_false,Z9U d,show left-nI (ByteArray.size a.1)=left-((ByteArray.size a.1:Nat):Int) from rfl]
 rw [jmd _ _ (by omega) (by omega) g.2.2.2.2]
 by_cases b:((msr y2 a.2.2.2.2:Nat):Int)<=left-(ByteArray.size a.1:Nat)
 rotate_left
 ·rw [Za8 b,Z9V b,Z9G (by omega),cond_true]
 rw [Za9 b,Z9U b,Z9F (by omega),cond_false]
 exact jeg (by omega)
theorem joF (a:ByteArray×Int×Bool×Bool×Int×Int×ByteArray) (h:msr y7 a<=1048576) (k:Bool->Res):jbq a a k=k true:=by
 have b:msr y2 a.2.2.2.2<=1048576:=(Nat.le_trans (@j07 .bool y2 a.2.2.2) (Nat.le_trans (@j07 .bool y4 a.2.2) (Nat.le_trans (@j07 (.int .i64) y5 a.2) (Nat.le_trans (@j07 .str y6 a) h))))
 unfold jbq
 simp only [Zak,Z9S,beq_self_eq_true,cond_false,Bool.not_true,jlr _ b]
end Go.PI.G
namespace Go.PI.G
open Go Go.PI Go.Proofs
theorem jol (a:qE) (h:msr y8 a<=1048576) (k:qE->Res):j80 a k=k a:=by
 have g:a.length<=1048576:=j0M h
 unfold j80
 rw [Za4 (by unfold LIM;omega),cond_true]
 have:=Zab ((eS,0,false,false,0,0,eS)) a id (step:=j8m a) (λb=>k b) (by unfold LIM;omega) (λb i rec d f=>by
  show j3n a _ _ _ _=_
  unfold j3n
  dsimp only
  simp only [Zam d,cond_true,j00 d,j00 (show i<b.length by omega),Za7 _ _ _ d,Zad,j01 (n:=(i:Int)+1) (by omega),jph _ (j1R h (List.getElem_mem d))]
  rfl) (λb rec=>by
  show j3n a _ _ _ _=_
  unfold j3n
  dsimp only
  rw [Zal,cond_false])
 rw [List.map_id] at this
 exact this
theorem joi (a:qE) (left:Int) (g:0<=left) (h:left<=1048576) (l:Wf y8 a) (k:Int->Res):j7X a left k=k (szR left (msr y8 a)):=by
 have j:a.length<=maxLen:=l.1
 have p:msr y8 a=a.length+(a.map (msr y7)).sum:=rfl
 rw [p]
 unfold j7X
 refine jiO (F:=λq=>ja7 a Z1Y q 0 (λd=>k d) (λ_=>k (-1))) (k:=k) g h j λb=> ?_
 unfold ja7
 rw [Zaa (msr y7) a _ (by omega) (λleft i rec f g h=> ?_) (λleft rec=> ?_) _ (by omega) (by omega)]
 ·by_cases b:(((a.map (msr y7)).sum:Nat):Int)<=left-a.length
  ·rw [if_pos b,Za9 b]
  ·rw [if_neg b,Za8 b]
 ·show j3k a _ _ _ _ _=_
  have r:=l.2 _ (List.getElem_mem f)
  unfold j3k
  rw [Zam f,cond_true,j00 f,cond_true,Za7 _ _ _ f,jpb _ _ g h r]
  have m:(i:Int)<4611686018427387904:=by unfold maxLen at j;omega
  rw [j01 (n:=(i:Int)+1) (by omega)]
  by_cases b:((msr y7 a[i]:Nat):Int)<=left
  ·rw [if_pos b,Za9 b,Z9F (by omega),cond_false]
  ·rw [if_neg b,Za8 b,Z9G (by omega),cond_true]
 ·show j3k a _ _ _ _ _=_
  unfold j3k
  rw [Zal,cond_false]
theorem jnT (a:qE) (h:msr y8 a<=1048576) (k:Bool->Res):j7U a a k=k true:=by
 have d:a.length<=1048576:=j0M h
 unfold j7U
 rw [Zak,cond_false]
 unfold je1
 rw [Za1 a _ (by unfold LIM;omega) (λi rec b=> ?_) (λrec=> ?_)]
 ·show j3h a a _ _ _ _=_
  unfold j3h
  simp only [Zam b,cond_true,j00 b,Za7 _ _ _ b,j01 (n:=(i:Int)+1) (by omega),Zak,Z9S,cond_false,Bool.not_true,joF _ (j1R h (List.getElem_mem b))]
 ·show j3h a a _ _ _ _=_
  unfold j3h
  rw [Zal,cond_false]
end Go.PI.G
namespace Go.PI.G
open Go Go.PI Go.Proofs
theorem jmf (a:(List ByteArray)) (h:msr y0 a<=1048576) (k:(List ByteArray)->Res):j57 a k=k a:=by
 have g:a.length<=1048576:=j0M h
 unfold j57
 rw [Za4 (by unfold LIM;omega),cond_true]
 have:=Zab (eS) a id (step:=j6n a) (λb=>k b) (by unfold LIM;omega) (λb i rec d f=>by
  show j1J a _ _ _ _=_
  unfold j1J
  dsimp only
  simp only [Zam d,cond_true,j00 d,j00 (show i<b.length by omega),Za7 _ _ _ d,Zad,j01 (n:=(i:Int)+1) (by omega)]
  rfl) (λb rec=>by
  show j1J a _ _ _ _=_
  unfold j1J
  dsimp only
  rw [Zal,cond_false])
 rw [List.map_id] at this
 exact this
theorem jmc (a:(List ByteArray)) (left:Int) (j:0<=left) (l:left<=1048576) (p:Wf y0 a) (k:Int->Res):j56 a left k=k (szR left (msr y0 a)):=by
 have m:a.length<=maxLen:=p.1
 have r:msr y0 a=a.length+(a.map (msr .str)).sum:=rfl
 rw [r]
 unfold j56
 refine jiO (F:=λq=>j7E a Z1Y q 0 (λd=>k d) (λ_=>k (-1))) (k:=k) j l m λb=> ?_
 unfold j7E
 rw [Zaa (msr .str) a _ (by omega) (λleft i rec f j l=> ?_) (λleft rec=> ?_) _ (by omega) (by omega)]
 ·by_cases b:(((a.map (msr .str)).sum:Nat):Int)<=left-a.length
  ·rw [if_pos b,Za9 b]
  ·rw [if_neg b,Za8 b]
 ·show j1I a _ _ _ _ _=_
  have h:=p.2 _ (List.getElem_mem f)
  unfold j1I
  have h:a[i].size<=maxLen:=h
  unfold maxLen at h m
  rw [Zam f,cond_true,j00 f,cond_true,Za7 _ _ _ f,j01 (n:=left-nI a[i].size) (by unfold nI;omega),j01 (n:=(i:Int)+1) (by omega)]
  unfold nI
  by_cases b:((msr .str a[i]:Nat):Int)<=left
  ·have g:(a[i].size:Int)<=left:=b
   rw [if_pos b,Z9F (by omega),cond_false];rfl
  ·have g:¬ (a[i].size:Int)<=left:=b
   rw [if_neg b,Z9G (by omega),cond_true]
 ·show j1I a _ _ _ _ _=_
  unfold j1I
  rw [Zal,cond_false]
theorem jlq (a:(List ByteArray)) (h:msr y0 a<=1048576) (k:Bool->Res):j55 a a k=k true:=by
 have d:a.length<=1048576:=j0M h
 unfold j55
 rw [Zak,cond_false]
 unfold jbj
 rw [Za1 a _ (by unfold LIM;omega) (λi rec b=> ?_) (λrec=> ?_)]
 ·show j1H a a _ _ _ _=_
  unfold j1H
  simp only [Zam b,cond_true,j00 b,Za7 _ _ _ b,j01 (n:=(i:Int)+1) (by omega),Zak,Z9S,cond_false,Bool.not_true]
 ·show j1H a a _ _ _ _=_
  unfold j1H
  rw [Zal,cond_false]
end Go.PI.G
namespace Go.PI.G
open Go Go.PI Go.Proofs
theorem jpi (a:Int×ByteArray×qE×List ByteArray×ByteArray×ByteArray) (h:msr y13 a<=1048576) (k:(Int×ByteArray×qE×List ByteArray×ByteArray×ByteArray)->Res):j7o a k=k a:=by
 have b:msr y8 a.2.2.1<=1048576:=(Nat.le_trans (@j8S y8 y10 a.2.2) (Nat.le_trans (@j07 .str y11 a.2) (Nat.le_trans (@j07 (.int .i64) y12 a) h)))
 have d:msr y0 a.2.2.2.1<=1048576:=(Nat.le_trans (@j8S y0 y9 a.2.2.2) (Nat.le_trans (@j07 y8 y10 a.2.2) (Nat.le_trans (@j07 .str y11 a.2) (Nat.le_trans (@j07 (.int .i64) y12 a) h))))
 unfold j7o
 simp only [jol _ b,jmf _ d]
theorem jpc (a:Int×ByteArray×qE×List ByteArray×ByteArray×ByteArray) (left:Int) (p:0<=left) (q:left<=1048576) (i:Wf y13 a) (k:Int->Res):j7n a left k=k (szR left (msr y13 a)):=by
 have n:msr y13 a=ByteArray.size a.2.1+(msr y8 a.2.2.1+(msr y0 a.2.2.2.1+(ByteArray.size a.2.2.2.2.1+(ByteArray.size a.2.2.2.2.2+0)))):=by simp only [msr];omega
 rw [n]
 unfold j7n
 have j:ByteArray.size a.2.1<=maxLen:=i.2.1
 unfold maxLen at j
 rw [j01 (by unfold nI;omega)]
 by_cases f:((ByteArray.size a.2.1:Nat):Int)<=left
 rotate_left
 ·rw [Z9V f,Z9G (by unfold nI;omega),cond_true]
 rw [Z9F (by unfold nI;omega),cond_false,Z9U f,show left-nI (ByteArray.size a.2.1)=left-((ByteArray.size a.2.1:Nat):Int) from rfl]
 rw [joi _ _ (by omega) (by omega) i.2.2.1]
 by_cases b:((msr y8 a.2.2.1:Nat):Int)<=left-(ByteArray.size a.2.1:Nat)
 rotate_left
 ·rw [Za8 b,Z9V b,Z9G (by omega),cond_true]
 rw [Za9 b,Z9U b,Z9F (by omega),cond_false]
 rw [jmc _ _ (by omega) (by omega) i.2.2.2.1]
 by_cases d:((msr y0 a.2.2.2.1:Nat):Int)<=left-(ByteArray.size a.2.1:Nat)-(msr y8 a.2.2.1:Nat)
 rotate_left
 ·rw [Za8 d,Z9V d,Z9G (by omega),cond_true]
 rw [Za9 d,Z9U d,Z9F (by omega),cond_false]
 have l:ByteArray.size a.2.2.2.2.1<=maxLen:=i.2.2.2.2.1
 unfold maxLen at l
 rw [j01 (by unfold nI;omega)]
 by_cases g:((ByteArray.size a.2.2.2.2.1:Nat):Int)<=left-(ByteArray.size a.2.1:Nat)-(msr y8 a.2.2.1:Nat)-(msr y0 a.2.2.2.1:Nat)
 rotate_left
 ·rw [Z9V g,Z9G (by unfold nI;omega),cond_true]
 rw [Z9F (by unfold nI;omega),cond_false,Z9U g,show left-(ByteArray.size a.2.1:Nat)-(msr y8 a.2.2.1:Nat)-(msr y0 a.2.2.2.1:Nat)-nI (ByteArray.size a.2.2.2.2.1)=left-(ByteArray.size a.2.1:Nat)-(msr y8 a.2.2.1:Nat)-(msr y0 a.2.2.2.1:Nat)-((ByteArray.size a.2.2.2.2.1:Nat):Int) from rfl]
 have m:ByteArray.size a.2.2.2.2.2<=maxLen:=i.2.2.2.2.2
 unfold maxLen at m
 rw [j01 (by unfold nI;omega)]
 by_cases h:((ByteArray.size a.2.2.2.2.2:Nat):Int)<=left-(ByteArray.size a.2.1:Nat)-(msr y8 a.2.2.1:Nat)-(msr y0 a.2.2.2.1:Nat)-(ByteArray.size a.2.2.2.2.1:Nat)
 rotate_left
 ·rw [Z9V h,Z9G (by unfold nI;omega),cond_true]
 rw [Z9F (by unfold nI;omega),cond_false,Z9U h,show left-(ByteArray.size a.2.1:Nat)-(msr y8 a.2.2.1:Nat)-(msr y0 a.2.2.2.1:Nat)-(ByteArray.size a.2.2.2.2.1:Nat)-nI (ByteArray.size a.2.2.2.2.2)=left-(ByteArray.size a.2.1:Nat)-(msr y8 a.2.2.1:Nat)-(msr y0 a.2.2.2.1:Nat)-(ByteArray.size a.2.2.2.2.1:Nat)-((ByteArray.size a.2.2.2.2.2:Nat):Int) from rfl]
 exact jeg (by omega)
theorem joG (a:Int×ByteArray×qE×List ByteArray×ByteArray×ByteArray) (h:msr y13 a<=1048576) (k:Bool->Res):j7m a a k=k true:=by
 have b:msr y8 a.2.2.1<=1048576:=(Nat.le_trans (@j8S y8 y10 a.2.2) (Nat.le_trans (@j07 .str y11 a.2) (Nat.le_trans (@j07 (.int .i64) y12 a) h)))
 have d:msr y0 a.2.2.2.1<=1048576:=(Nat.le_trans (@j8S y0 y9 a.2.2.2) (Nat.le_trans (@j07 y8 y10 a.2.2) (Nat.le_trans (@j07 .str y11 a.2) (Nat.le_trans (@j07 (.int .i64) y12 a) h))))
 unfold j7m
 simp only [Zak,Z9S,beq_self_eq_true,cond_false,Bool.not_true,jnT _ b,jlq _ d]
end Go.PI.G
namespace Go.PI.G
open Go Go.PI Go.Proofs
theorem jk8 (a:qW) (h:msr y3 a<=1048576) (k:qW->Res):j6h a k=k a:=by
 have g:a.length<=1048576:=j0M h
 unfold j6h
 rw [Za4 (by unfold LIM;omega),cond_true]
 have:=Zab ((0,0,eS)) a id (step:=j8o a) (λb=>k b) (by unfold LIM;omega) (λb i rec d f=>by
  show j3p a _ _ _ _=_
  unfold j3p
  dsimp only
  simp only [Zam d,cond_true,j00 d,j00 (show i<b.length by omega),Za7 _ _ _ d,Zad,j01 (n:=(i:Int)+1) (by omega),jmg _ (j1R h (List.getElem_mem d))]
  rfl) (λb rec=>by
  show j3p a _ _ _ _=_
  unfold j3p
  dsimp only
  rw [Zal,cond_false])
 rw [List.map_id] at this
 exact this
theorem jk7 (a:qW) (left:Int) (g:0<=left) (h:left<=1048576) (l:Wf y3 a) (k:Int->Res):j6g a left k=k (szR left (msr y3 a)):=by
 have j:a.length<=maxLen:=l.1
 have p:msr y3 a=a.length+(a.map (msr y2)).sum:=rfl
 rw [p]
 unfold j6g
 refine jiO (F:=λq=>ja9 a Z1Y q 0 (λd=>k d) (λ_=>k (-1))) (k:=k) g h j λb=> ?_
 unfold ja9
 rw [Zaa (msr y2) a _ (by omega) (λleft i rec f g h=> ?_) (λleft rec=> ?_) _ (by omega) (by omega)]
 ·by_cases b:(((a.map (msr y2)).sum:Nat):Int)<=left-a.length
  ·rw [if_pos b,Za9 b]
  ·rw [if_neg b,Za8 b]
 ·show j3m a _ _ _ _ _=_
  have r:=l.2 _ (List.getElem_mem f)
  unfold j3m
  rw [Zam f,cond_true,j00 f,cond_true,Za7 _ _ _ f,jmd _ _ g h r]
  have m:(i:Int)<4611686018427387904:=by unfold maxLen at j;omega
  rw [j01 (n:=(i:Int)+1) (by omega)]
  by_cases b:((msr y2 a[i]:Nat):Int)<=left
  ·rw [if_pos b,Za9 b,Z9F (by omega),cond_false]
  ·rw [if_neg b,Za8 b,Z9G (by omega),cond_true]
 ·show j3m a _ _ _ _ _=_
  unfold j3m
  rw [Zal,cond_false]
theorem jjO (a:qW) (h:msr y3 a<=1048576) (k:Bool->Res):j6f a a k=k true:=by
 have d:a.length<=1048576:=j0M h
 unfold j6f
 rw [Zak,cond_false]
 unfold je3
 rw [Za1 a _ (by unfold LIM;omega) (λi rec b=> ?_) (λrec=> ?_)]
 ·show j3j a a _ _ _ _=_
  unfold j3j
  simp only [Zam b,cond_true,j00 b,Za7 _ _ _ b,j01 (n:=(i:Int)+1) (by omega),Zak,Z9S,cond_false,Bool.not_true,jlr _ (j1R h (List.getElem_mem b))]
 ·show j3j a a _ _ _ _=_
  unfold j3j
  rw [Zal,cond_false]
end Go.PI.G
namespace Go.PI.G
open Go Go.PI Go.Proofs
theorem jpk (a:List qV) (h:msr y3 a<=1048576) (k:qW->Res):j9c a k=k a:=by
 have b:msr y3 a<=1048576:=h
 unfold j9c
 simp only [jk8 _ b]
theorem jpf (a:List qV) (left:Int) (g:0<=left) (h:left<=1048576) (f:Wf y3 a) (k:Int->Res):j9a a left k=k (szR left (msr y3 a)):=by
 have d:msr y3 a=msr y3 a+0:=rfl
 rw [d]
 unfold j9a
 rw [jk7 _ _ (by omega) (by omega) f]
 by_cases b:((msr y3 a:Nat):Int)<=left
 rotate_left
 ·rw [Za8 b,Z9V b,Z9G (by omega),cond_true]
 rw [Za9 b,Z9U b,Z9F (by omega),cond_false]
 exact jeg (by omega)
theorem joI (a:List qV) (h:msr y3 a<=1048576) (k:Bool->Res):j98 a a k=k true:=by
 have b:msr y3 a<=1048576:=h
 unfold j98
 simp only [Zak,Z9S,beq_self_eq_true,cond_false,Bool.not_true,jjO _ b]
end Go.PI.G
