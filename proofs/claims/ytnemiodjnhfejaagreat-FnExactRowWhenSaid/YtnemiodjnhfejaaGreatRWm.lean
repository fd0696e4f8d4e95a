/-
  Program's code interpreted over typed values; printed texts; plain laws. No conditions.
-/
import Derived.Test.YtnemiodjnhfejaaGreatRWg
import Derived.Test.YtnemiodjnhfejaaGreatRWl
import Derived.Test.YtnemiodjnhfejaaGreatRWj
import Derived.Test.YtnemiodjnhfejaaGreatRWk
import Derived.Test.YtnemiodjnhfejaaGreatRWh
import Derived.Test.YtnemiodjnhfejaaGreatRWi
set_option linter.unusedVariables false
set_option linter.unusedSimpArgs false
namespace Go.PI.G
open Go Go.PI Go.Proofs
theorem jdm {c:List T} (h:j2m c=true):msr (.slice yT) c<=1048576:=by
 obtain ⟨b,d,_⟩:=(j0d c).1 h
 have:=jaf (e:=yT) 400 c (λt ht=>jag (d t ht))
 have f:c.length * (400+1)<=6 * 401:=Nat.mul_le_mul b (Nat.le_refl _)
 omega
theorem jil (l:List (List V)) (h:l.length<=1048576) (f:∀ x∈l,x.length<=1048576) (k:List (List V)->Res):j6w l k=k l:=by
 unfold j6w jeM
 have:=Z9T l (λi b=>(b,i)) (λx=>[x]) 1048576 [] (step:=j91 l (nI l.length)) (λb=>k b) (λb=>k b) (by unfold LIM;omega) (λi d _=>by
  rw [j0T,List.nil_append,List.length_take];omega) (by simp) (λi b rec d j g=>by
  show j3h _ _ _ _ _ _=_
  unfold j3h j0h
  dsimp only
  rw [ZaQ d,cond_true,j00 d,cond_true,Zay _ _ _ d,jce (f _ (List.getElem_mem d)),cond_true,ZaL (by unfold LIM;omega),cond_true,j01 (n:=(i:Int)+1) (by omega)]) (λb rec=>by
  show j3h _ _ _ _ _ _=_
  unfold j3h
  dsimp only
  rw [ZaP,cond_false])
 refine this.trans ?_
 rw [j0T,List.nil_append]
theorem jbx {d:DB} (h:dbB d=true):j2m d.1=true/\d.1.length<=6/\d.2.length=d.1.length/\∀ x∈d.2,x.length<=60/\∀ r∈x,r.length<=1048576:=by
 obtain ⟨b,k,l⟩:=(j1A d).1 h
 have n:=jdm b
 refine ⟨b,((j0d _).1 b).1,k,λx p=> ?_⟩
 obtain ⟨i,m,rfl⟩:=List.mem_iff_getElem.1 p
 have g:=l i (by omega) m
 refine ⟨(j0i g).2.1,λr f=> ?_⟩
 have q:=j0z ((j0i g).2.2 r f)
 have j:=(jdC n).2 _ (List.getElem_mem (show i<d.1.length by omega))
 have:=j.2.1
 omega
theorem jlf (d:DB) (h:dbB d=true) (k:DB->Res):j1X d k=k d:=by
 obtain ⟨g,m,p,j⟩:=jbx h
 unfold j1X
 rw [jje _ (jdm g)]
 unfold jb2
 have:=Z9T d.2 (λi b=>(i,(d.1,b))) (λx=>[x]) 1048576 [] (step:=j5I d.2 (nI d.2.length)) (λb=>k b) (λb=>k (d.1,b)) (by unfold LIM;omega) (λi f _=>by
  rw [j0T,List.nil_append,List.length_take];omega) (by simp) (λi b rec f r q=>by
  show j3j _ _ _ _ _ _=_
  unfold j3j
  obtain ⟨w,l⟩:=j _ (List.getElem_mem f)
  dsimp only
  rw [ZaQ f,cond_true,j00 f,cond_true,Zay _ _ _ f,jil _ (by omega) l,ZaL (by unfold LIM;omega),cond_true,j01 (n:=(i:Int)+1) (by omega)]) (λb rec=>by
  show j3j _ _ _ _ _ _=_
  unfold j3j
  dsimp only
  rw [ZaP,cond_false])
 refine this.trans ?_
 rw [j0T,List.nil_append]
theorem jd8 (d:DB) (h:dbB d=true) (k:DB->Res):j0Q d k=k d:=by
 obtain ⟨g,m,p,j⟩:=jbx h
 unfold j0Q
 rw [jj3 _ (jdm g)]
 unfold jbE
 have:=Z9T d.2 (λi b=>(i,(d.1,b))) (λx=>[x]) 1048576 [] (step:=j6I d.2 (nI d.2.length)) (λb=>k b) (λb=>k (d.1,b)) (by unfold LIM;omega) (λi f _=>by
  rw [j0T,List.nil_append,List.length_take];omega) (by simp) (λi b rec f r q=>by
  show j3P _ _ _ _ _ _=_
  unfold j3P
  obtain ⟨w,l⟩:=j _ (List.getElem_mem f)
  dsimp only
  rw [ZaQ f,cond_true,j00 f,cond_true,Zay _ _ _ f,j7R _ (by omega) l,ZaL (by unfold LIM;omega),cond_true,j01 (n:=(i:Int)+1) (by omega)]) (λb rec=>by
  show j3P _ _ _ _ _ _=_
  unfold j3P
  dsimp only
  rw [ZaP,cond_false])
 refine this.trans ?_
 rw [j0T,List.nil_append]
theorem joG (t:T) (h:msr yT t<=1048576) (l:List (List V)) (s:ST) (b:s.1≠5) (k:List (List V)->Int->Res):j1n t l s k=k (j2P t l s).1 (j2P t l s).2:=by
 unfold j1n j2P
 cases (s.1==1)
 ·rw [cond_false,cond_false]
  cases (s.1==2)
  ·rw [cond_false,cond_false]
   cases (s.1==3)
   ·rw [cond_false,cond_false,show (s.1==5)=false by simpa using b]
    rfl
   ·rw [cond_true,cond_true,jns t h]
  ·rw [cond_true,cond_true,jnu t h]
 ·rw [cond_true,cond_true,jnt t h]
end Go.PI.G
namespace Go.PI.G
open Go Go.PI Go.Proofs
theorem jsp (b:Int) (s:ST) (a z:Res):j8b b s (λ_=>a) (λ_=>z)=bif decide (b<0)&& !((s.1==5)&&(s.2.2.2.2.1==1)) then z else a:=by
 unfold j8b
 cases decide (b<0)
 ·rfl
 ·rw [cond_true,Bool.true_and]
  unfold bne
  cases (s.1==5)
  ·rfl
  ·cases (s.2.2.2.2.1==1)<;>rfl
theorem jpo {t:T} {l:List (List V)} {s:ST}:0<=(j2P t l s).2/\(j2P t l s).2<=5:=by
 unfold j2P j66 j67 j65
 cases (s.1==1)
 ·cases (s.1==2)
  ·cases (s.1==3)
   ·simp
   ·simp only [cond_true,cond_false]
    cases j08 t l
    ·simp
    ·cases (!jaE t s.2.2.1||decide (j06 t l s.2.2.1<0))<;>simp
  ·simp only [cond_true,cond_false]
   cases j08 t l
   ·simp
   ·cases j0r t.2.1 s.2.2.2.1
    ·simp
    ·cases (!jaE t s.2.2.1||decide (j06 t l s.2.2.1<0))
     ·cases !decide (j06 t (l.eraseIdx (j06 t l s.2.2.1).toNat) (j07 t s.2.2.2.1)<0)<;>simp
     ·simp
 ·simp only [cond_true,cond_false]
  cases j08 t l
  ·simp
  ·cases j0r t.2.1 s.2.2.2.1
   ·simp
   ·cases !decide (j06 t l (j07 t s.2.2.2.1)<0)
    ·cases (l.length==60)<;>simp
    ·simp
theorem joC (d:DB) (h:dbB d=true) (s:ST) (q:s.1≠5) (i:Nat) (f:i<d.1.length) (g:j04 d.1 s.2.1=(i:Int)) (k:DB->Int->Res) :
  (bif inb (i:Int) d.1.length then
          bif inb (i:Int) d.2.length then
           j1n (nth zT d.1 (i:Int)) (nth [] d.2 (i:Int)) s λ(w:List (List V)) (r:Int)=>
            bif (r != 0) then
             k ([],[]) (Z9K (10+r))
            else
             j1X d λ(m:DB)=>
              bif inb (i:Int) (List.length m.2) then
               k (m.1,upd m.2 (i:Int) w) 0
              else none
          else none
         else none)=k (j2c d s).1 (j2c d s).2:=by
 obtain ⟨p,y,z⟩:=(j1A d).1 h
 have b:i<d.2.length:=by omega
 have B:=(jdC (jdm p)).2 _ (List.getElem_mem f)
 have ht:j05 d.1[i]=true:=((j0d _).1 p).2.1 _ (List.getElem_mem f)
 have j:msr yT d.1[i]<=1048576:=Nat.le_trans (jag ht) (by omega)
 rw [j00 f,cond_true,j00 b,cond_true,Zay _ _ _ f,Zay _ _ _ b,joG _ j _ _ q]
 unfold j2c
 rw [g,decide_eq_false (by omega),Bool.false_and,cond_false,show (s.1==5)=false by simpa using q,cond_false,Zay _ _ _ f,Zay _ _ _ b]
 have A:=jpo (t:=d.1[i]) (l:=d.2[i]) (s:=s)
 cases C:((j2P d.1[i] d.2[i] s).2 != 0)
 ·rw [cond_false,cond_false,jlf d h,j00 b,cond_true,ZaF,Int.toNat_natCast]
 ·rw [cond_true,cond_true,j01 (n:=10+(j2P d.1[i] d.2[i] s).2) (by omega)]
end Go.PI.G
namespace Go.PI.G
open Go Go.PI Go.Proofs
noncomputable def j9t (d:DB) (x:D) (u:T):List (List V):=
 bif decide (j04 d.1 u.1>=0)&&sEq u.1 x.2.1 then (bif x.1==2 then [] else jfc (nth zT d.1 (j04 d.1 u.1)) x (nth [] d.2 (j04 d.1 u.1)))
 else bif decide (j04 d.1 u.1>=0) then nth [] d.2 (j04 d.1 u.1) else []
theorem jq0 (d:DB) (h:dbB d=true) (s:ST) (z:s.1=5) (B:s.2.2.2.2.2.1=s.2.1) (q:dSm s.2.2.2.2) (E:j14 s.2.2.2.2=true) (l:j0b d.1 s.2.2.2.2=0) (u:T) (k:List (List V)->Res) :
  (j1t d.1 u.1 λ(r:Int)=>j3i r s u λ(t:Bool)=>j24 r t d s [] k)=k (j9t d s.2.2.2.2 u):=by
 obtain ⟨C,J,D⟩:=(j1A d).1 h
 obtain ⟨_,G,_,g⟩:=jbx h
 rw [j88 _ _ (by unfold LIM;omega)]
 unfold j3i j24 j9t
 rw [B]
 rcases j0o d.1 u.1 with ⟨p,_⟩ | ⟨i,n,p,A⟩
 ·rw [p]
  rfl
 ·have w:decide (j04 d.1 u.1>=0)=true:=decide_eq_true (by omega)
  have f:i<d.2.length:=by omega
  rw [w,Bool.true_and,cond_true,p,j00 n,j00 f,Zay _ _ _ n,Zay _ _ _ f]
  cases H:sEq u.1 s.2.1
  ·obtain ⟨K,I⟩:=g _ (List.getElem_mem f)
   simp only [cond_false,cond_true]
   rw [jil _ (by omega) I]
  ·have b:u.1=s.2.1:=(j09 _ _).1 H
   have ht:j05 d.1[i]=true:=((j0d _).1 C).2.1 _ (List.getElem_mem n)
   have y:msr yT d.1[i]<=1048576:=Nat.le_trans (jag ht) (by omega)
   have m:j04 d.1 s.2.2.2.2.2.1=(i:Int):=by rw [B,<-b];exact p
   have j:s.2.2.2.2.1≠1:=λe=>by
    unfold j0b at l
    rw [e,m] at l
    rw [decide_eq_false (show ¬ (i:Int)<0 by omega)] at l
    cases l
   have F:j0w d.1[i] s.2.2.2.2=0:=by
    unfold j0b at l
    rw [show (s.2.2.2.2.1==1)=false by simpa using j,cond_false,m,decide_eq_false (show ¬ (i:Int)<0 by omega),cond_false,Zay _ _ _ n] at l
    exact l
   simp only [cond_true]
   unfold j1n
   rw [z]
   simp only [show ((5:Int)==1)=false from rfl,show ((5:Int)==2)=false from rfl,show ((5:Int)==3)=false from rfl,show ((5:Int)==5)=true from rfl,cond_false,cond_true,Z9Q]
   rw [jma _ y _ (D i n f) _ q E (by rw [B,<-b];exact A.symm) j,F]
   rfl
theorem jnO {c:List T} {d:D} (b:j2m c=true) (f:j14 d=true):jfd c d=bif j0b c d != 0 then ([],j0b c d) else (j15 c d,0):=by
 unfold jfd
 rw [b,f]
 rfl
theorem jkm (c:List T) (d:D):0<=j0b c d/\j0b c d<=8:=by
 unfold j0b j0w
 cases (d.1==1)
 ·cases decide (j04 c d.2.1<0)
  ·generalize nth zT c (j04 c d.2.1)=t
   cases (d.1==3)
   ·cases (d.1==4)
    ·cases (d.1==5)
     ·simp
     ·cases decide (j02 t.2.1 d.2.2.2.2.2<0)
      ·simp
      ·cases decide (j02 t.2.1 d.2.2.2.2.1<0)<;>simp
    ·cases decide (j02 t.2.1 d.2.2.2.2.1<0)
     ·cases t.2.2.any (λx=>sEq x d.2.2.2.2.1)<;>simp
     ·simp
   ·cases decide (j02 t.2.1 (nth zC d.2.2.1 0).1<0)
    ·simp
    ·cases (t.2.1.length==8)<;>simp
  ·simp
 ·cases decide (j04 c d.2.1<0)
  ·simp
  ·cases (c.length==6)<;>simp
theorem jm8 (d:DB) (h:dbB d=true) (s:ST) (q:s.1=5) (y:s.2.2.2.2.2.1=s.2.1) (j:dSm s.2.2.2.2) (p:j14 s.2.2.2.2=true) (k:DB->Int->Res) :
  j3H d s k=bif j0b d.1 s.2.2.2.2 != 0 then k ([],[]) (10+j0b d.1 s.2.2.2.2) else k (j15 d.1 s.2.2.2.2,(j15 d.1 s.2.2.2.2).map (j9t d s.2.2.2.2)) 0:=by
 obtain ⟨m,z,A⟩:=(j1A d).1 h
 have D:=jkm d.1 s.2.2.2.2
 unfold j3H
 rw [jjf _ _ (jdm m) j,jnO m p]
 cases r:(j0b d.1 s.2.2.2.2 != 0)
 rotate_left
 ·rw [cond_true]
  dsimp only
  rw [r,cond_true,cond_true,j01 (n:=10+j0b d.1 s.2.2.2.2) (by omega)]
 have g:j0b d.1 s.2.2.2.2=0:=by simpa using r
 have f:=jlB m p g
 have w:=((j0d _).1 f).1
 rw [cond_false,cond_false]
 show (j5H (j15 d.1 s.2.2.2.2) (nI (j15 d.1 s.2.2.2.2).length) d s Z1c 0 (j15 d.1 s.2.2.2.2,[]) λb=>k b 0)=_
 generalize j15 d.1 s.2.2.2.2=c' at *
 unfold j5H
 have:=Z9T c' (λi b=>(i,(c',b))) (λu=>[j9t d s.2.2.2.2 u]) 6 [] (step:=j2l c' (nI c'.length) d s) (λb=>k b 0) (λb=>k (c',b) 0) (by unfold LIM;omega) (λi l _=>by
  rw [jev,List.nil_append,List.length_map,List.length_take];omega) (by simp) (λi b rec l C B=>by
  show j1f _ _ _ _ _ _ _ _=_
  unfold j1f
  dsimp only
  rw [ZaQ l,cond_true,j00 l,cond_true,Zay _ _ _ l,jq0 d h s q y j p g,ZaL (by unfold LIM;omega),cond_true,j01 (n:=(i:Int)+1) (by omega)]) (λb rec=>by
  show j1f _ _ _ _ _ _ _ _=_
  unfold j1f
  dsimp only
  rw [ZaP,cond_false])
 refine this.trans ?_
 rw [jev,List.nil_append]
end Go.PI.G
namespace Go.PI.G
open Go Go.PI Go.Proofs
theorem jqx {d:DB} (h:msr yDB d<=1048576):msr (.slice yT) d.1<=1048576/\d.1.length<=1048576/\d.2.length<=1048576/\(∀ t∈d.1,msr yT t<=1048576)/\∀ l∈d.2,l.length<=1048576:=by
 have i:msr yDB d=msr (.slice yT) d.1+msr (.slice (.slice (.slice yV))) d.2:=rfl
 have b:msr (.slice yT) d.1<=1048576:=by omega
 have f:msr (.slice (.slice (.slice yV))) d.2<=1048576:=by omega
 exact ⟨b,j0v b,j0v f,λt ht=>j0S b ht,λl g=>j0v (j0S f g)⟩
theorem jij (d:DB) (h:msr yDB d<=1048576) (k:Bool->Res):j6E d k=k (dbB d):=by
 obtain ⟨j,m,p,l,q⟩:=jqx h
 unfold j6E dbB
 rw [jld _ j]
 cases j2m d.1
 ·rfl
 ·rw [Bool.not_true,cond_false,Bool.true_and]
  by_cases f:d.2.length=d.1.length
  ·have g:(nI d.2.length != nI d.1.length)=false:=by rw [f,ZaO]
   rw [g,cond_false,decide_eq_true f,Bool.true_and]
   unfold je5
   have:=Z9P d.1 (λi=>i) (λi t=> !j08 t (nth [] d.2 (i:Int))) (step:=j8F d.1 (nI d.1.length) d) ((λ(_:Unit)=>k true),(λ(_:Unit)=>k false)) (k true) (k false) (by unfold LIM;omega) (λi rec b=>by
    show j6q _ _ d _ _ _ _=_
    unfold j6q
    rw [ZaQ b,cond_true,j00 b,cond_true,j00 (f ▸ b),cond_true,Zay _ _ _ b,j7n _ (l _ (List.getElem_mem b)),j01 (n:=(i:Int)+1) (by omega)]) (λrec=>by
    show j6q _ _ d _ _ _ _=_
    unfold j6q
    rw [ZaP,cond_false])
   refine this.trans ?_
   cases Z71 (λi t=> !j08 t (nth [] d.2 (i:Int))) 0 d.1<;>rfl
  ·have g:(nI d.2.length != nI d.1.length)=true:=by unfold nI;simp;omega
   rw [g,cond_true,decide_eq_false f,Bool.false_and]
theorem jqp (d:DB) (h:msr yDB d<=1048576) (k:Bool->Res):jac d k=k (dbB d):=by
 obtain ⟨j,m,p,l,q⟩:=jqx h
 unfold jac dbB
 rw [jkr _ j]
 cases j2m d.1
 ·rfl
 ·rw [Bool.not_true,cond_false,Bool.true_and]
  by_cases f:d.2.length=d.1.length
  ·have g:(nI d.2.length != nI d.1.length)=false:=by rw [f,ZaO]
   rw [g,cond_false,decide_eq_true f,Bool.true_and]
   unfold jdF
   have:=Z9P d.1 (λi=>i) (λi t=> !j08 t (nth [] d.2 (i:Int))) (step:=j8r d.1 (nI d.1.length) d) ((λ(_:Unit)=>k true),(λ(_:Unit)=>k false)) (k true) (k false) (by unfold LIM;omega) (λi rec b=>by
    show j5T _ _ d _ _ _ _=_
    unfold j5T
    rw [ZaQ b,cond_true,j00 b,cond_true,j00 (f ▸ b),cond_true,Zay _ _ _ b,j9a _ (l _ (List.getElem_mem b)),j01 (n:=(i:Int)+1) (by omega)]) (λrec=>by
    show j5T _ _ d _ _ _ _=_
    unfold j5T
    rw [ZaP,cond_false])
   refine this.trans ?_
   cases Z71 (λi t=> !j08 t (nth [] d.2 (i:Int))) 0 d.1<;>rfl
  ·have g:(nI d.2.length != nI d.1.length)=true:=by unfold nI;simp;omega
   rw [g,cond_true,decide_eq_false f,Bool.false_and]
end Go.PI.G
namespace Go.PI.G
open Go Go.PI Go.Proofs
theorem jj9 {d:DB} (h:dbB d=true) (x:D) {j:Nat} (i:j<d.1.length) (b:j<d.2.length) (k:d.1[j].1≠x.2.1):j9t d x d.1[j]=d.2[j]:=by
 obtain ⟨g,l,m⟩:=(j1A d).1 h
 unfold j9t
 have f:sEq d.1[j].1 x.2.1=false:=by
  cases f:sEq d.1[j].1 x.2.1
  ·rfl
  ·exact absurd ((j09 _ _).1 f) k
 rw [f,Bool.and_false,cond_false,jeO ((j0d _).1 g).2.2 i,decide_eq_true (by omega),cond_true,Zay _ _ _ b]
theorem jqG {d:DB} (h:dbB d=true) (x:D) {i:Nat} (n:i<d.1.length) (q:i<d.2.length) (r:d.1[i].1=x.2.1):d.1.map (j9t d x)=d.2.set i (j9t d x d.1[i]):=by
 obtain ⟨l,m,y⟩:=(j1A d).1 h
 apply List.ext_getElem
 ·simp [m]
 ·intro j w z
  have g:j<d.1.length:=by simpa using w
  rw [List.getElem_map,List.getElem_set]
  by_cases e:i=j
  ·subst e
   rw [if_pos rfl]
  ·rw [if_neg e]
   refine jj9 h x g (by omega) λk=> ?_
   have p:=((j0d _).1 l).2.2
   have b:=jm1 p n g e
   rw [r,k,jdi] at b
   rcases b with f | f<;>cases f
theorem js0 {d:DB} (h:dbB d=true) {x:D} (K:j14 x=true) (A:j0b d.1 x=0):(j15 d.1 x).map (j9t d x)=jis d x:=by
 obtain ⟨F,J,P⟩:=(j1A d).1 h
 have C:=(j0d _).1 F
 unfold jis
 cases r:(x.1==1)
 ·rw [cond_false]
  rcases j0o d.1 x.2.1 with ⟨l,_⟩ | ⟨i,B,l,z⟩
  ·unfold j0b at A
   rw [r,cond_false,decide_eq_true (by omega),cond_true] at A
   cases A
  ·have k:i<d.2.length:=by omega
   have g:=jqG h x B k z
   unfold j15
   rw [r,cond_false,l,Zay _ _ _ B,Zay _ _ _ k,Int.toNat_natCast]
   cases I:(x.1==2)
   ·rw [cond_false,cond_false,List.map_set,g,List.set_set]
    congr 1
    unfold j9t
    rw [jhO,z,Zah,Bool.and_true,l,decide_eq_true (by omega),cond_true,I,cond_false,Zay _ _ _ B,Zay _ _ _ k]
   ·rw [cond_true,cond_true,List.eraseIdx_eq_take_drop_succ,List.eraseIdx_eq_take_drop_succ,List.map_append,List.map_take,List.map_drop,g,List.take_set,List.set_eq_of_length_le (by rw [List.length_take];omega),List.drop_set_of_lt (by omega)]
 ·rw [cond_true]
  have e:x.1=1:=by simpa using r
  have b:=A
  unfold j0b at b
  rw [r,cond_true] at b
  rcases j0o d.1 x.2.1 with ⟨l,E⟩ | ⟨i,B,l,_⟩
  rotate_left
  ·rw [decide_eq_false (by omega)] at b
   cases b
  have ht:j05 (x.2.1,x.2.2.1,x.2.2.2.1)=true:=by
   obtain ⟨_,⟨t,cs,ks,rfl,ht⟩ | ⟨t,rfl⟩ | ⟨t,c,rfl,_⟩ | ⟨t,n,rfl,_⟩ | ⟨t,n,m,rfl,_⟩⟩:=j8p K
   ·exact ht
   all_goals exact absurd e (by simp)
  have G:d.1.length<6:=by
   rw [decide_eq_true (by omega),Bool.not_true,cond_false] at b
   have G:=C.1
   rcases Nat.lt_or_ge d.1.length 6 with q | q
   ·exact q
   ·rw [show (d.1.length==6)=true from beq_iff_eq.2 (by omega)] at b
    cases b
  obtain ⟨p,Q,f,y⟩:=jod F ht (show j04 d.1 x.2.1<0 by omega) G
  have w:d.1.map (j9t d x)=d.2:=by
   apply List.ext_getElem
   ·simp [J]
   ·intro j L M
    have H:j<d.1.length:=by simpa using L
    rw [List.getElem_map]
    exact jj9 h x H M (E _ (List.getElem_mem H))
  unfold j15
  rw [r,cond_true]
  have f:j04 (lay tR (x.2.1,x.2.2.1,x.2.2.2.1) d.1) x.2.1=(p:Int):=f
  rw [f,Int.toNat_natCast,y,List.map_append,List.map_cons,List.map_take,List.map_drop,w]
  congr 2
  unfold j9t
  rw [l]
  rfl
theorem jrj {t:T} {l:List (List V)} (h:j08 t l=true) (n:t.2.1.length<=8):msr (.slice (.slice yV)) l<=14940:=by
 obtain ⟨ht,g,d⟩:=j0i h
 have:=jaf (e:= .slice yV) 248 l (λr b=>by
  have i:=jaf (e:=yV) 30 r (λv f=>jrR (jon (d r b) v f))
  have j:=j0z (d r b)
  have k:r.length * (30+1)<=8 * 31:=Nat.mul_le_mul (by omega) (Nat.le_refl _)
  omega)
 have m:l.length * (248+1)<=60 * 249:=Nat.mul_le_mul g (Nat.le_refl _)
 omega
theorem jfS {d:DB} (h:dbB d=true):msr yDB d<=1048576:=by
 obtain ⟨g,m,j⟩:=(j1A d).1 h
 have f:=((j0d _).1 g).1
 have q:=jaf (e:=yT) 400 d.1 (λt ht=>jag (((j0d _).1 g).2.1 t ht))
 have n:d.1.length * (400+1)<=6 * 401:=Nat.mul_le_mul f (Nat.le_refl _)
 have r:=jaf (e:= .slice (.slice yV)) 14940 d.2 (λx l=>by
  obtain ⟨i,k,rfl⟩:=List.mem_iff_getElem.1 l
  have b:=j i (by omega) k
  exact jrj b ((j6W _).1 (j0i b).1).2.2.1)
 have p:d.2.length * (14940+1)<=6 * 14941:=Nat.mul_le_mul (by omega) (Nat.le_refl _)
 have e:msr yDB d=msr (.slice yT) d.1+msr (.slice (.slice (.slice yV))) d.2:=rfl
 omega
theorem jqK {s:ST} (d:stB s=true) (f:s.1=5):j14 s.2.2.2.2=true/\s.2.2.2.2.2.1=s.2.1:=by
 unfold stB at d
 rw [f,Bool.and_eq_true] at d
 have b:=d.2
 simp only [show ((5:Int)==1)=false from rfl,show ((5:Int)==2)=false from rfl,show ((5:Int)==3)=false from rfl,show ((5:Int)==4)=false from rfl,show ((5:Int)==5)=true from rfl,cond_false,cond_true,Bool.and_eq_true] at b
 exact ⟨b.2.2.1,(j09 _ _).1 b.2.2.2⟩
theorem jpg (d:DB) (h:dbB d=true) (s:ST) (b:j1a s) (n:stB s=true) (k:DB->Int->Res):j8a d s k=k (j2c d s).1 (j2c d s).2:=by
 obtain ⟨p,A,B⟩:=(j1A d).1 h
 have y:=((j0d _).1 p).1
 unfold j8a
 rw [jij d (jfS h),h,Bool.not_true,cond_false,jim s b,n,Bool.not_true,cond_false,j88 _ _ (by unfold LIM;omega),jsp]
 cases g:(decide (j04 d.1 s.2.1<0)&& !((s.1==5)&&(s.2.2.2.2.1==1)))
 rotate_left
 ·unfold j2c
  rw [g]
  rfl
 rw [cond_false]
 cases f:(s.1==5)
 ·rw [f,Bool.false_and,Bool.not_false,Bool.and_true] at g
  have r:¬ j04 d.1 s.2.1<0:=of_decide_eq_false g
  rcases j0o d.1 s.2.1 with ⟨j,_⟩ | ⟨i,w,j,_⟩
  ·omega
  rw [cond_false,j]
  exact joC d h s (by simpa using f) i w j k
 ·have l:s.1=5:=by simpa using f
  obtain ⟨m,z⟩:=jqK n l
  rw [cond_true,jm8 d h s l z b.2.2.2 m]
  unfold j2c
  rw [g,f,cond_false,cond_true]
  cases q:(j0b d.1 s.2.2.2.2 != 0)
  ·rw [cond_false,cond_false,js0 h m (by simpa using q)]
  ·rfl
end Go.PI.G
namespace Go.PI.G
open Go Go.PI Go.Proofs
theorem jsh (b:Int) (s:ST) (a z:Res):j7U b s (λ_=>a) (λ_=>z)=bif decide (b<0)&& !((s.1==5)&&(s.2.2.2.2.1==1)) then z else a:=by
 unfold j7U
 cases decide (b<0)
 ·rfl
 ·rw [cond_true,Bool.true_and]
  unfold bne
  cases (s.1==5)
  ·rfl
  ·cases (s.2.2.2.2.1==1)<;>rfl
theorem jo5 (t:T) (h:msr yT t<=1048576) (l:List (List V)) (s:ST) (k:List (List V)->Int->Res):j5Y l 0 s.1 s t k=k (j2P t l s).1 (j2P t l s).2:=by
 unfold j5Y j2P
 cases (s.1==1)
 ·rw [cond_false,cond_false]
  cases (s.1==2)
  ·rw [cond_false,cond_false]
   cases (s.1==3)
   ·rfl
   ·rw [cond_true,cond_true,jn0 t h]
  ·rw [cond_true,cond_true,jn2 t h]
 ·rw [cond_true,cond_true,jn1 t h]
theorem jlC (d:DB) (h:dbB d=true) (x:D) (A:dSm x) (E:j14 x=true) (k:DB->Int->Res) :
  j5X d x k=bif j0b d.1 x != 0 then k ([],[]) (j0b d.1 x) else k (j15 d.1 x,jis d x) 0:=by
 obtain ⟨y,Y,K⟩:=(j1A d).1 h
 have R:=((j0d _).1 y).1
 unfold j5X
 rw [jp4 _ _ (jdm y) A,jnO y E]
 cases I:(j0b d.1 x != 0)
 rotate_left
 ·rw [cond_true]
  dsimp only
  rw [I,cond_true,cond_true]
 have f:j0b d.1 x=0:=by simpa using I
 have l:=jlB y E f
 have P:=((j0d _).1 l).1
 rw [cond_false,cond_false]
 show (j0Q d λW=>j0g d.1 x.2.1 λX=>j2N X x.1 d x (j15 d.1 x) W λH=>k (j15 d.1 x,H.2) 0)=_
 rw [jd8 d h,j5S _ _ (by unfold LIM;omega)]
 unfold j2N jis
 cases w:(x.1==1)
 ·rw [cond_false,cond_false]
  rcases j0o d.1 x.2.1 with ⟨B,_⟩ | ⟨i,z,B,G⟩
  ·unfold j0b at f
   rw [w,cond_false,decide_eq_true (by omega),cond_true] at f
   cases f
  ·have r:i<d.2.length:=by omega
   rw [B,Int.toNat_natCast]
   cases J:(x.1==2)
   ·have ht:j05 d.1[i]=true:=((j0d _).1 y).2.1 _ (List.getElem_mem z)
    have F:msr yT d.1[i]<=1048576:=Nat.le_trans (jag ht) (by omega)
    have Q:j0w d.1[i] x=0:=by
     unfold j0b at f
     rw [w,cond_false,B,decide_eq_false (show ¬ (i:Int)<0 by omega),cond_false,Zay _ _ _ z] at f
     exact f
    rw [cond_false,cond_false,j00 z,cond_true,j00 r,cond_true,Zay _ _ _ z,Zay _ _ _ r,jlD _ F _ (K i z r) _ A E G.symm (by simpa using w),Q,J,cond_true,ZaF]
    rfl
   ·rw [cond_true,cond_true]
    unfold j5b jby
    rw [j01 (n:=(i:Int)+1) (by omega),show Z8e (i:Int) ((i:Int)+1) d.2.length=true from j9F (j:=i+1) ⟨by omega,by omega⟩,cond_true,List.eraseIdx_eq_take_drop_succ]
    rfl
 ·rw [cond_true,cond_true]
  simp only [Z9Q]
  have C:∃ p:Nat,p<=d.2.length/\j04 (j15 d.1 x) x.2.1=(p:Int):=by
   have e:x.1=1:=by simpa using w
   have b:=f
   unfold j0b at b
   rw [w,cond_true] at b
   rcases j0o d.1 x.2.1 with ⟨B,T⟩ | ⟨i,z,B,_⟩
   rotate_left
   ·rw [decide_eq_false (by omega)] at b
    cases b
   have ht:j05 (x.2.1,x.2.2.1,x.2.2.2.1)=true:=by
    obtain ⟨_,⟨t,cs,ks,rfl,ht⟩ | ⟨t,rfl⟩ | ⟨t,c,rfl,_⟩ | ⟨t,n,rfl,_⟩ | ⟨t,n,m,rfl,_⟩⟩:=j8p E
    ·exact ht
    all_goals exact absurd e (by simp)
   have L:d.1.length<6:=by
    rw [decide_eq_true (by omega),Bool.not_true,cond_false] at b
    rcases Nat.lt_or_ge d.1.length 6 with q | q
    ·exact q
    ·rw [show (d.1.length==6)=true from beq_iff_eq.2 (by omega)] at b
     cases b
   obtain ⟨p,U,g,_⟩:=jod y ht (show j04 d.1 x.2.1<0 by omega) L
   refine ⟨p,by omega,?_⟩
   unfold j15
   rw [w,cond_true]
   exact g
  obtain ⟨p,U,g⟩:=C
  rw [j5S _ _ (by unfold LIM;omega),g]
  unfold j1J jfh
  have M:jjz (p:Int) d.2.length [([]:List (List V))].length=true:=decide_eq_true ⟨by omega,by omega,by simp,by simp;unfold LIM;omega⟩
  rw [M,cond_true,Int.toNat_natCast,List.append_assoc]
  rfl
theorem jp5 (d:DB) (h:dbB d=true) (s:ST) (p:j1a s) (D:stB s=true) (k:DB->Int->Res):jad d s k=k (j2c d s).1 (j2c d s).2:=by
 obtain ⟨q,E,F⟩:=(j1A d).1 h
 have B:=((j0d _).1 q).1
 unfold jad
 rw [j5S _ _ (by unfold LIM;omega),jsh]
 cases f:(decide (j04 d.1 s.2.1<0)&& !((s.1==5)&&(s.2.2.2.2.1==1)))
 rotate_left
 ·unfold j2c
  rw [f]
  rfl
 rw [cond_false]
 cases g:(s.1==5)
 ·unfold j2c
  rw [f,g,cond_false,cond_false,cond_false]
  rw [g,Bool.false_and,Bool.not_false,Bool.and_true] at f
  have A:¬ j04 d.1 s.2.1<0:=of_decide_eq_false f
  rcases j0o d.1 s.2.1 with ⟨r,_⟩ | ⟨i,j,r,_⟩
  ·omega
  have b:i<d.2.length:=by omega
  have ht:j05 d.1[i]=true:=((j0d _).1 q).2.1 _ (List.getElem_mem j)
  have m:msr yT d.1[i]<=1048576:=Nat.le_trans (jag ht) (by omega)
  have y:=jpo (t:=d.1[i]) (l:=d.2[i]) (s:=s)
  unfold jaB
  rw [r]
  simp only [j00 j,j00 b,cond_true,Z9Q]
  rw [Zay _ _ _ j,Zay _ _ _ b,jo5 _ m]
  cases f:((j2P d.1[i] d.2[i] s).2 != 0)
  ·rw [cond_false,cond_false,jd8 d h,j00 b,cond_true,ZaF,Int.toNat_natCast]
  ·rw [cond_true,cond_true,j01 (n:=10+(j2P d.1[i] d.2[i] s).2) (by omega)]
 ·have w:s.1=5:=by simpa using g
  obtain ⟨z,G⟩:=jqK D w
  have C:=jkm d.1 s.2.2.2.2
  rw [cond_true,jlC d h _ p.2.2.2 z]
  unfold j2c
  rw [f,g,cond_false,cond_true]
  cases y:(j0b d.1 s.2.2.2.2 != 0)
  ·rfl
  ·rw [cond_true,cond_true,cond_true,j01 (n:=10+j0b d.1 s.2.2.2.2) (by omega)]
end Go.PI.G
namespace Go.PI.G
open Go Go.PI Go.Proofs
theorem joD (d:DB) (h:dbB d=true) (s:ST) (b:j1a s) (f:stB s=false) (k:DB->Int->Res):j8a d s k=k ([],[]) 1:=by
 unfold j8a
 rw [jij d (jfS h),h,Bool.not_true,cond_false,jim s b,f]
 rfl
theorem jm9 (d:DB) (p:msr yDB d<=1048576) (l:List ST) (z:l.length<=1048576) (j:∀ s∈l,j1a s) (k:DB->Int->Int->Res):j2H d l k=k (j0l d l).1 (j0l d l).2.1 (j0l d l).2.2:=by
 unfold j2H j0l
 rw [jij d p]
 cases h:dbB d
 ·rfl
 rw [Bool.not_true,cond_false,cond_false,jlf d h]
 unfold j7G
 have:=Z3Z l (λi (a:DB)=>(i,a)) j8I (λ_ a=>dbB a=true) (step:=j5A l (nI l.length)) ((λ(now:DB)=>k now 0 0),(λ(t:Int) (r:Int)=>k ([],[]) t r)) (λa=>k a 0 0) (λe=>k ([],[]) e.1 e.2) d (by unfold LIM;omega) h (λi a w f b q=>jka b q) (λi a rec f b=>by
  show j39 _ _ _ _ _ _ _=_
  unfold j39 j8I
  dsimp only
  have g:=j _ (List.getElem_mem f)
  rw [ZaQ f,cond_true,j00 f,cond_true,Zay _ _ _ f]
  cases m:stB l[i]
  ·rw [joD a b _ g m]
   rfl
  ·rw [jpg a b _ g m,Bool.not_true,cond_false]
   cases y:((j2c a l[i]).2 != 0)
   ·rw [cond_false,cond_false,j01 (n:=(i:Int)+1) (by omega)]
   ·rfl) (λa rec b=>by
  show j39 _ _ _ _ _ _ _=_
  unfold j39
  dsimp only
  rw [ZaP,cond_false])
 refine this.trans ?_
 cases Z1S j8I 0 l d<;>rfl
theorem jfX (d:DB) (p:msr yDB d<=1048576) (l:List ST) (z:l.length<=1048576) (j:∀ s∈l,j1a s) (k:DB->Int->Int->Res):j0L d l k=k (j0l d l).1 (j0l d l).2.1 (j0l d l).2.2:=by
 unfold j0L j0l
 rw [jqp d p]
 cases h:dbB d
 ·rfl
 rw [Bool.not_true,cond_false,cond_false,jd8 d h]
 unfold jay
 have:=Z3Z l (λi (a:DB)=>(i,a)) j8I (λ_ a=>dbB a=true) (step:=j31 l (nI l.length)) ((λ(now:DB)=>k now 0 0),(λ(t:Int) (r:Int)=>k ([],[]) t r)) (λa=>k a 0 0) (λe=>k ([],[]) e.1 e.2) d (by unfold LIM;omega) h (λi a w b g q=>jka g q) (λi a rec b g=>by
  show j20 _ _ _ _ _ _ _=_
  unfold j20 j8I
  dsimp only
  have f:=j _ (List.getElem_mem b)
  rw [ZaQ b,cond_true,j00 b,cond_true,Zay _ _ _ b,jml _ f]
  cases m:stB l[i]
  ·rfl
  ·rw [Bool.not_true,cond_false,cond_false,jp5 a g _ f m]
   cases y:((j2c a l[i]).2 != 0)
   ·rw [cond_false,cond_false,j01 (n:=(i:Int)+1) (by omega)]
   ·rfl) (λa rec g=>by
  show j20 _ _ _ _ _ _ _=_
  unfold j20
  dsimp only
  rw [ZaP,cond_false])
 refine this.trans ?_
 cases Z1S j8I 0 l d<;>rfl
end Go.PI.G
namespace Go.PI.G
open Go Go.PI
theorem jso {d:D} (h:msr yD d<=1048576):dSm d:=by
 have j:msr yD d=0+(d.2.1.size+(msr (.slice yC) d.2.2.1+(msr (.slice .str) d.2.2.2.1+(d.2.2.2.2.1.size+d.2.2.2.2.2.size)))):=rfl
 have b:msr (.slice yC) d.2.2.1<=1048576:=by omega
 have f:msr (.slice .str) d.2.2.2.1<=1048576:=by omega
 refine ⟨by omega,j0v b,j0v f,λc g=> ?_,λx i=>j0S f i,by omega,by omega⟩
 have:=j0S b g
 have k:msr yC c=c.1.size+msr (.pair (.int .i64) (.pair .bool (.pair .bool yV))) c.2:=rfl
 omega
theorem jsi {s:ST} (h:msr yST s<=1048576):j1a s:=by
 have f:msr yST s=0+(s.2.1.size+(msr (.slice yV) s.2.2.1+(msr (.slice yV) s.2.2.2.1+msr yD s.2.2.2.2))):=rfl
 have b:msr (.slice yV) s.2.2.1<=1048576:=by omega
 have d:msr (.slice yV) s.2.2.2.1<=1048576:=by omega
 exact ⟨by omega,j0v b,j0v d,jso (by omega)⟩
end Go.PI.G
namespace Go.PI.G
noncomputable section
open Go Go.PI
def j8o (l:List RC) (n:Int):Bool:=jbK l&&decide (0<=n/\n<=(l.length:Int))
def jav (l:List RC) (n:Int):DB:=bif j8o l n then jsm (j1N zDB (l.take n.toNat)) else zDB
theorem jdn {l:List RC} {n:Nat} (h:jbK l=true) (i:n<=l.length):j1N zDB (l.take n)= .ok (jav l n)/\dbB (jav l n)=true:=by
 obtain ⟨d,b,f⟩:=jrg h n
 have g:j8o l n=true:=by
  unfold j8o
  rw [h,decide_eq_true (by omega)]
  rfl
 have:jav l n=d:=by
  unfold jav
  rw [g,cond_true,Int.toNat_natCast,b]
  rfl
 rw [this]
 exact ⟨b,f⟩
def jck (d:DB) (t:ByteArray) (b:List V):List V×Bool:=
 bif decide (j04 d.1 t<0) then ([],false) else
 bif decide (j06 (nth zT d.1 (j04 d.1 t)) (nth [] d.2 (j04 d.1 t)) b<0) then ([],false) else
 (nth [] (nth [] d.2 (j04 d.1 t)) (j06 (nth zT d.1 (j04 d.1 t)) (nth [] d.2 (j04 d.1 t)) b),true)
def j6M (l:List RC) (t:ByteArray) (b:List V) (p:Int):List V×Bool:=bif j8o l p then jck (jav l p) t b else ([],false)
end
end Go.PI.G
namespace Go.PI.G
open Go Go.PI Go.Proofs
theorem jri {l:List RC} (h:msr (.slice yRC) l<=1048576):l.length<=1048576/\∀ r∈l,j1a r.2.2:=
 ⟨j0v h,λr b=>by
  have e:msr yRC r=0+(0+msr yST r.2.2):=rfl
  have:=j0S (e:=yRC) h b
  exact jsi (by omega)⟩
theorem jfi {n:Nat} (h:n<=1048576):lim (0+n)=true:=ZaL (by unfold LIM;omega)
theorem jq3 (s:ST) (h:j1a s) (k:ST->Res):jb4 s k=k s:=by
 obtain ⟨g,d,f,b⟩:=h
 unfold jb4 j0h
 simp only [jfi d,jfi f,jfi b.2.1,jfi b.2.2.1,cond_true]
 try rfl
theorem jpN (s:ST) (h:j1a s) (k:ST->Res):j7a s k=k s:=by
 obtain ⟨g,d,f,b⟩:=h
 unfold j7a j0u jaA j3A
 simp only [jfi d,jfi f,jfi b.2.1,jfi b.2.2.1,cond_true]
 try rfl
theorem jjh (l:List Int) (n:Int) (h:l.length<=1048576) (k:Bool->Res):j5v l n k=k (j3n l n):=by
 unfold j5v jge j3n
 have:=Za2 l (λi=>i) (λx=>x==n) (step:=j9W n l (nI l.length)) ((λ(_:Unit)=>k false),(λ(_:Unit)=>k true)) (k false) (k true) (by unfold LIM;omega) (λi rec b=>by
  show j4r _ _ _ _ _ _ _=_
  unfold j4r
  rw [ZaQ b,cond_true,j00 b,cond_true,Zay _ _ _ b,j01 (n:=(i:Int)+1) (by omega)]) (λrec=>by
  show j4r _ _ _ _ _ _ _=_
  unfold j4r
  rw [ZaP,cond_false])
 refine this.trans ?_
 cases l.any λx=>x==n<;>rfl
theorem jca (l:List Int) (n:Int) (h:l.length<=1048576) (k:Bool->Res):j0m l n k=k (j3n l n):=by
 unfold j0m j9Q jbr j3n
 have:=Z9S l (λi=>i) (λx=>n==x) (step:=j6o l n (nI l.length)) ((λ(_:Unit)=>k (decide ((-1:Int)>=0))),(λ(t:Int)=>k (decide (t>=0)))) (λr=>k (decide (r>=0))) (by unfold LIM;omega) (λi rec b=>by
  show j1I _ _ _ _ _ _ _=_
  unfold j1I
  rw [ZaQ b,cond_true,j00 b,cond_true,Zay _ _ _ b,j01 (n:=(i:Int)+1) (by omega)]) (λrec=>by
  show j1I _ _ _ _ _ _ _=_
  unfold j1I
  rw [ZaP,cond_false])
 refine this.trans ?_
 rw [jnX]
 have:(λx:Int=>n==x)=λx=>x==n:=by funext x;exact Bool.eq_iff_iff.2 (by rw [beq_iff_eq,beq_iff_eq];exact eq_comm)
 rw [this]
theorem jj2 {α:Type} (p:α->Bool):(j:Nat)->(l:List α)->Z4r (λ_ x=>bif p x then [x] else []) j l=l.filter p
 | _,[]=>rfl
 | j,x::l=>by
  show (bif p x then [x] else [])++Z4r _ (j+1) l=_
  rw [jj2 p (j+1) l]
  cases h:p x
  ·rw [List.filter_cons_of_neg (by rw [h];simp)];rfl
  ·rw [List.filter_cons_of_pos h];rfl
theorem jrX {α:Type} (b:Bool) (x:α):(bif b then [x] else []).length<=1:=by cases b<;>simp
theorem jpX (l:List Int) (n:Int) (h:l.length<=1048576) (k:List Int->Res):j7r l n k=k (l.filter λy=> !(y==n)):=by
 unfold j7r jgd
 have:=Za3 l (λ_ x=>bif !(x==n) then [x] else []) (λi b=>(b,i)) (step:=j9V n l (nI l.length)) (λb=>k b) k (by unfold LIM;omega) (λ_ x=>jrX _ _) (λb i rec d f=>by
  show j4q _ _ _ _ _ _ _=_
  unfold j4q
  dsimp only
  rw [ZaQ d,cond_true,j00 d,cond_true,Zay _ _ _ d,j01 (n:=(i:Int)+1) (by omega),ZaL (by unfold LIM;omega),cond_true]
  unfold bne
  cases l[i]==n
  ·rfl
  ·show _=rec (b++[],_)
   rw [List.append_nil]
   rfl) (λb rec=>by
  show j4q _ _ _ _ _ _ _=_
  unfold j4q
  dsimp only
  rw [ZaP,cond_false])
 refine this.trans ?_
 rw [jj2]
theorem jpk (l:List RC) (h:l.length<=1048576) (k:List Int->Res):jaj l k=k (j17 l):=by
 unfold jaj jin j17
 refine Z8i l (λi b=>(b,i)) j7A (λi a=>a.length<=i) (step:=j8G l (nI l.length)) (λb=>k b) k [] (by unfold LIM;omega) (by simp) (λi a d f=>Nat.le_trans (jmq _ _) (by omega)) (λi a rec d f=>by
  show j3F _ _ _ _ _ _=_
  unfold j3F jaZ
  dsimp only
  rw [ZaQ d,cond_true,j00 d,cond_true,Zay _ _ _ d,j01 (n:=(i:Int)+1) (by omega),jjh _ _ (by omega),ZaL (by unfold LIM;omega),cond_true]
  generalize l[i]=r
  unfold j7A
  cases g:r.1==1
  ·rw [cond_false,cond_false,jpX _ _ (by omega)]
   cases r.1==3
   ·rw [cond_false,Bool.false_or]
    cases r.1==4<;>rfl
   ·rfl
  ·have e:r.1=1:=by simpa using g
   have j:(r.1==3)=false:=by rw [e];rfl
   have m:(r.1==4)=false:=by rw [e];rfl
   rw [cond_true,cond_true,j,m]
   cases j3n a r.2.1<;>rfl) (λa rec f=>by
  show j3F _ _ _ _ _ _=_
  unfold j3F
  dsimp only
  rw [ZaP,cond_false])
theorem jpl (l:List RC) (x:Int) (h:l.length<=1048576) (k:Bool->Res):jco l x k=k (j5K l x):=by
 unfold jco jio j5K
 have:=Za2 l (λi=>i) (λr:RC=>(r.1==1)&&(r.2.1==x)) (step:=jbX x l (nI l.length)) ((λ(_:Unit)=>k false),(λ(_:Unit)=>k true)) (k false) (k true) (by unfold LIM;omega) (λi rec b=>by
  show j6v _ _ _ _ _ _ _=_
  unfold j6v
  rw [ZaQ b,cond_true,j00 b,cond_true,Zay _ _ _ b,j01 (n:=(i:Int)+1) (by omega)]
  cases l[i].1==1<;>rfl) (λrec=>by
  show j6v _ _ _ _ _ _ _=_
  unfold j6v
  rw [ZaP,cond_false])
 refine this.trans ?_
 cases l.any λr:RC=>(r.1==1)&&(r.2.1==x)<;>rfl
theorem jmb (l:List RC) (x:Int) (h:l.length<=1048576) (f:∀ r∈l,j1a r.2.2) (k:List ST->Res):j6u l x k=k (j1Y l x):=by
 unfold j6u jeK j1Y
 refine Za3 l (jip x) (λi b=>(b,i)) (step:=j8Z x l (nI l.length)) (λb=>k b) k (by unfold LIM;omega) (jkb x) (λb i rec d g=>by
  show j3d _ _ _ _ _ _ _=_
  unfold j3d jip
  dsimp only
  rw [ZaQ d,cond_true,j00 d,cond_true,Zay _ _ _ d,jq3 _ (f _ (List.getElem_mem d)),j01 (n:=(i:Int)+1) (by omega),ZaL (by unfold LIM;omega),cond_true]
  cases l[i].1==2
  ·show _=rec (b++[],_)
   rw [List.append_nil]
   rfl
  ·cases l[i].2.1==x
   ·show _=rec (b++[],_)
    rw [List.append_nil]
    rfl
   ·rfl) (λb rec=>by
  show j3d _ _ _ _ _ _ _=_
  unfold j3d
  dsimp only
  rw [ZaP,cond_false])
theorem jfY (l:List RC) (x:Int) (h:l.length<=1048576) (f:∀ r∈l,j1a r.2.2) (k:List ST->Res):j1Q l x k=k (j1Y l x):=by
 unfold j1Q jey j1Y
 refine Za3 l (jip x) (λi b=>(b,i)) (step:=j8S x l (nI l.length)) (λb=>k b) k (by unfold LIM;omega) (jkb x) (λb i rec d g=>by
  show j35 _ _ _ _ _ _ _=_
  unfold j35 jip
  dsimp only
  rw [ZaQ d,cond_true,j00 d,cond_true,Zay _ _ _ d,jpN _ (f _ (List.getElem_mem d)),j01 (n:=(i:Int)+1) (by omega),ZaL (by unfold LIM;omega),cond_true]
  cases l[i].1==2
  ·show _=rec (b++[],_)
   rw [List.append_nil]
   rfl
  ·cases l[i].2.1==x
   ·show _=rec (b++[],_)
    rw [List.append_nil]
    rfl
   ·rfl) (λb rec=>by
  show j35 _ _ _ _ _ _ _=_
  unfold j35
  dsimp only
  rw [ZaP,cond_false])
theorem jdq {α:Type} (l:List α) (i:Nat):sub l 0 (i:Int)=l.take i:=jpE l 0 i
theorem jbv {i n:Nat} (h:i<=n):Z8e 0 (i:Int) n=true:=j9F (i:=0) ⟨Nat.zero_le _,h⟩
theorem jak {l:List RC} (d:∀ r∈l,j1a r.2.2) (i:Nat):∀ r∈l.take i,j1a r.2.2:=λr b=>d r (List.mem_of_mem_take b)
theorem j1z {l:List RC} (h:l.length<=1048576) (i:Nat):(l.take i).length<=1048576:=by rw [List.length_take];omega
theorem joH {l:List RC} (f:∀ r∈l,j1a r.2.2) (x:Int):∀ s∈j1Y l x,j1a s:=λs b=>by
 obtain ⟨r,d,rfl⟩:=jq4 b
 exact f r d
theorem jqC (l:List RC) (h:l.length<=1048576) (i:Nat) (f:i<=l.length) (r:RC) (j:j1a r.2.2) (k:Bool->Res) :
  j2T l (i:Int) r k=k (!jbM r||(bif r.1==1 then j5K (l.take i) r.2.1 else !j3n (j17 (l.take i)) r.2.1)):=by
 unfold j2T
 have g:(j17 (l.take i)).length<=1048576:=Nat.le_trans (jhY _) (j1z h i)
 rw [jq2 _ j,jbv f,cond_true,cond_true,jdq,jpl _ _ (j1z h i),jpk _ (j1z h i)]
 simp only [jjh _ _ g]
 cases jbM r
 ·rfl
 cases d:r.1==1
 ·have b:(r.1 != 1)=true:=by unfold bne;rw [d];rfl
  rw [b]
  rfl
 ·have b:(r.1 != 1)=false:=by unfold bne;rw [d];rfl
  rw [b]
  cases j5K (l.take i) r.2.1<;>rfl
theorem joF (l:List RC) (h:l.length<=1048576) (b:∀ r∈l,j1a r.2.2) (i:Nat) (g:i<=l.length) (d:DB) (f:dbB d=true) (r:RC) (k:Int->DB->Res) :
  j2U l (i:Int) d r k=k (j0l d (j1Y (l.take i) r.2.1)).2.1 (j0l d (j1Y (l.take i) r.2.1)).1:=by
 unfold j2U
 rw [jbv g,cond_true]
 simp only [Z9Q]
 rw [jdq,jmb _ _ (j1z h i) (jak b i),jm9 d (jfS f) _ (Nat.le_trans (jgN _ _) (j1z h i)) (joH (jak b i) _)]
theorem jo3 (l:List RC) (h:l.length<=1048576) (b:∀ r∈l,j1a r.2.2) (i:Nat) (g:i<=l.length) (d:DB) (f:dbB d=true) (r:RC) (k:Int->DB->Res) :
  j60 l (i:Int) d r k=k (j0l d (j1Y (l.take i) r.2.1)).2.1 (j0l d (j1Y (l.take i) r.2.1)).1:=by
 unfold j60
 rw [jbv g,cond_true]
 simp only [Z9Q]
 rw [jdq,jfY _ _ (j1z h i) (jak b i),jfX d (jfS f) _ (Nat.le_trans (jgN _ _) (j1z h i)) (joH (jak b i) _)]
theorem jsn (n:Nat):decide (nI n<=400)=decide (n<=400):=decide_eq_decide.2 (by unfold nI;omega)
theorem jrQ (n:Nat):decide (nI n>400)= !decide (n<=400):=by
 by_cases h:n<=400
 ·rw [decide_eq_true h,decide_eq_false (by unfold nI;omega)];rfl
 ·rw [decide_eq_false h,decide_eq_true (by unfold nI;omega)];rfl
theorem jji (l:List RC) (h:l.length<=1048576) (g:∀ r∈l,j1a r.2.2) (k:DB->Bool->Res) :
  j6A l k=match j1N zDB l with | .ok d=>k d (decide (l.length<=400)) | .error _=>k ([],[]) false:=by
 unfold j6A jb3
 rw [jsn]
 refine (Z3Z l (λi (a:DB)=>(i,a)) (λi d r=>j56 (l.take i) d r) (λ_ a=>dbB a=true) (step:=j5J l l (nI l.length)) ((λ(d:DB)=>k d (decide (l.length<=400))),(λ(_:Unit)=>k ([],[]) false)) (λa=>k a (decide (l.length<=400))) (λ_=>k ([],[]) false) zDB (by unfold LIM;omega) jbw (λi a q b f g=>jgH f g) (λi a rec b f=>by
  show j25 _ _ _ _ _ _ _ _=_
  unfold j25 j56
  dsimp only
  have j:=g _ (List.getElem_mem b)
  rw [ZaQ b,cond_true,j00 b,cond_true,Zay _ _ _ b,jqC l h i (by omega) _ j,joF l h g i (by omega) a f,j01 (n:=(i:Int)+1) (by omega)]
  generalize l[i]=r
  cases jbM r
  ·rfl
  cases p:r.1==1
  ·cases j3n (j17 (l.take i)) r.2.1
   ·rfl
   ·cases r.1==3
    ·rfl
    ·cases m:(j0l a (j1Y (l.take i) r.2.1)).2.1 != 0
     ·simp only [cond_true,cond_false,Bool.not_true,Bool.or_false,m]
     ·simp only [cond_true,cond_false,Bool.not_true,Bool.or_false,m]
  ·cases j5K (l.take i) r.2.1
   ·have e:r.1=1:=by simpa using p
    rw [e]
    rfl
   ·rfl) (λa rec f=>by
  show j25 _ _ _ _ _ _ _ _=_
  unfold j25
  dsimp only
  rw [ZaP,cond_false])).trans ?_
 unfold j1N
 cases Z1S (λi d r=>j56 (l.take i) d r) 0 l zDB<;>rfl
end Go.PI.G
namespace Go.PI.G
open Go Go.PI Go.Proofs
theorem jpq (o:List Int) (r:RC) (h:o.length<=1048576) (k:List Int->RC->Res):j0F o r k=k (o.filter λy=> !(y==r.2.1)) r:=by
 unfold j0F
 rw [ZaL (by unfold LIM;omega),cond_true,jnQ (g:=λe k=>jgx e r k) (λy=>y==r.2.1) o (λy b k=>rfl) [],List.nil_append]
noncomputable def jll (l:List RC) (i:Int) (d:DB):List Int×List Int×Int×DB:=(j17 (l.take i.toNat),j5m (l.take i.toNat),i,d)
theorem jjo (l:List RC) (i:Nat) (b:i<l.length) (d:DB):jll l ((i:Int)+1) d=(j7A (j17 (l.take i)) l[i],(bif l[i].1==1 then j5m (l.take i)++[l[i].2.1] else j5m (l.take i)),(i:Int)+1,d):=by
 unfold jll
 rw [show ((i:Int)+1).toNat=i+1 by omega,List.take_succ_eq_append_getElem b,jkU,jq5]
theorem jpa (d:DB) (B:dbB d=true) (l:List RC) (h:l.length<=1048576) (p:∀ r∈l,j1a r.2.2) (k:DB->Bool->Res) :
  jeA d l k=match j1N d l with | .ok d=>k d true | .error _=>k ([],[]) false:=by
 unfold jeA jdH jhT
 refine (Z3Z l (jll l) (λi d r=>j56 (l.take i) d r) (λ_ a=>dbB a=true) (step:=j8t l l (nI l.length)) ((λ(f:DB)=>k f true),(λ(_:Unit)=>k ([],[]) false)) (λa=>k a true) (λ_=>k ([],[]) false) d (by unfold LIM;omega) B (λi a F b m p=>jgH m p) (λi a rec b m=>by
  show j3C l l (nI l.length) (j17 (l.take (i:Int).toNat)) (j5m (l.take (i:Int).toNat)) (i:Int) a (λo u j d=>rec (o,u,j,d)) (λf=>k f true) (λ_=>k ([],[]) false)=_
  have y:=p _ (List.getElem_mem b)
  have A:(j17 (l.take i)).length<=1048576:=Nat.le_trans (jhY _) (j1z h i)
  have D:(j5m (l.take i)).length<=1048576:=Nat.le_trans (jmA _) (j1z h i)
  unfold j3C j7V j56
  simp only [jjo l i b]
  rw [Int.toNat_natCast,ZaQ b,cond_true,j00 b,cond_true,Zay _ _ _ b,jkv _ y,jca _ _ D,jca _ _ A,jmz,j01 (n:=(i:Int)+1) (by omega),ZaL (by unfold LIM;omega),ZaL (by unfold LIM;omega),cond_true,cond_true]
  simp only [jo3 l h p i (by omega) a m,jpq _ _ A]
  generalize l[i]=r
  cases C:jbM r
  ·rfl
  rw [Bool.not_true,cond_false,cond_false]
  cases q:r.1==1
  ·rw [cond_false,cond_false]
   cases j3n (j17 (l.take i)) r.2.1
   ·rfl
   rw [Bool.not_true,cond_false,cond_false]
   unfold j7A
   rw [q,cond_false,cond_false]
   cases z:r.1==3
   ·rw [cond_false,cond_false,Bool.false_or]
    unfold bne
    cases g:r.1==2
    ·have K:=(jl7 C).1
     have w:(r.1==4)=true:=by
      rw [beq_iff_eq]
      have G:r.1≠1:=by simpa using q
      have H:r.1≠2:=by simpa using g
      have I:r.1≠3:=by simpa using z
      omega
     rw [w]
     rfl
    ·have w:(r.1==4)=false:=by
      have:r.1=2:=by simpa using g
      rw [this];rfl
     rw [w]
     rfl
   ·have g:(r.1 != 2)=true:=by
     have:r.1=3:=by simpa using z
     rw [this];rfl
    rw [cond_true,cond_true,Bool.true_or]
    cases J:(j0l a (j1Y (l.take i) r.2.1)).2.1 != 0
    ·rw [cond_false,cond_false,g]
     rfl
    ·rfl
  ·rw [cond_true,cond_true]
   cases E:j5K (l.take i) r.2.1
   ·unfold j7A
    rw [q,cond_true,cond_true,jkV E]
    rfl
   ·rfl) (λa rec m=>by
  show j3C l l (nI l.length) (j17 (l.take ((l.length:Nat):Int).toNat)) (j5m (l.take ((l.length:Nat):Int).toNat)) (l.length:Int) a (λo u j d=>rec (o,u,j,d)) (λf=>k f true) (λ_=>k ([],[]) false)=_
  unfold j3C
  rw [ZaP,cond_false])).trans ?_
 unfold j1N
 cases Z1S (λi d r=>j56 (l.take i) d r) 0 l d<;>rfl
theorem jpZ (l:List RC) (h:l.length<=1048576) (d:∀ r∈l,j1a r.2.2) (k:Bool->Res):jdk l k=k (jbK l):=by
 unfold jdk jbK
 rw [jrQ]
 cases b:decide (l.length<=400)
 ·rfl
 rw [Bool.not_true,cond_false,jji l h d,b]
 cases j1N zDB l<;>rfl
theorem jpM (l:List RC) (h:l.length<=1048576) (d:∀ r∈l,j1a r.2.2) (k:Bool->Res):jaz l k=k (jbK l):=by
 unfold jaz jbK
 rw [jrQ]
 cases b:decide (l.length<=400)
 ·rfl
 rw [Bool.not_true,cond_false,jpa _ jbw l h d]
 cases j1N zDB l<;>rfl
end Go.PI.G
namespace Go.PI.G
open Go Go.PI Go.Proofs
theorem jmZ (l:List RC) (h:l.length<=1048576) (b:∀ r∈l,j1a r.2.2) (i:Nat) (g:i<=l.length) (d:DB) (f:dbB d=true) (r:RC) (k:Int->DB->Res) :
  j3B l (i:Int) d r k=k (j0l d (j1Y (l.take i) r.2.1)).2.1 (j0l d (j1Y (l.take i) r.2.1)).1:=by
 unfold j3B
 rw [jbv g,cond_true]
 simp only [Z9Q]
 rw [jdq,jfY _ _ (j1z h i) (jak b i),jfX d (jfS f) _ (Nat.le_trans (jgN _ _) (j1z h i)) (joH (jak b i) _)]
theorem jo6 (d:DB) (B:dbB d=true) (l:List RC) (h:l.length<=1048576) (p:∀ r∈l,j1a r.2.2) (k:DB->Bool->Res) :
  jcd d l k=match j1N d l with | .ok d=>k d true | .error _=>k ([],[]) false:=by
 unfold jcd jbG jfZ
 refine (Z3Z l (jll l) (λi d r=>j56 (l.take i) d r) (λ_ a=>dbB a=true) (step:=j6J l l (nI l.length)) ((λ(f:DB)=>k f true),(λ(_:Unit)=>k ([],[]) false)) (λa=>k a true) (λ_=>k ([],[]) false) d (by unfold LIM;omega) B (λi a F b m p=>jgH m p) (λi a rec b m=>by
  show j2p l l (nI l.length) (j17 (l.take (i:Int).toNat)) (j5m (l.take (i:Int).toNat)) (i:Int) a (λo u j d=>rec (o,u,j,d)) (λf=>k f true) (λ_=>k ([],[]) false)=_
  have y:=p _ (List.getElem_mem b)
  have A:(j17 (l.take i)).length<=1048576:=Nat.le_trans (jhY _) (j1z h i)
  have D:(j5m (l.take i)).length<=1048576:=Nat.le_trans (jmA _) (j1z h i)
  unfold j2p j5Z j56
  simp only [jjo l i b]
  rw [Int.toNat_natCast,ZaQ b,cond_true,j00 b,cond_true,Zay _ _ _ b,jkv _ y,jca _ _ D,jca _ _ A,jmz,j01 (n:=(i:Int)+1) (by omega),ZaL (by unfold LIM;omega),ZaL (by unfold LIM;omega),cond_true,cond_true]
  simp only [jmZ l h p i (by omega) a m,jpq _ _ A]
  generalize l[i]=r
  cases C:jbM r
  ·rfl
  rw [Bool.not_true,cond_false,cond_false]
  cases q:r.1==1
  ·rw [cond_false,cond_false]
   cases j3n (j17 (l.take i)) r.2.1
   ·rfl
   rw [Bool.not_true,cond_false,cond_false]
   unfold j7A
   rw [q,cond_false,cond_false]
   cases z:r.1==3
   ·rw [cond_false,cond_false,Bool.false_or]
    unfold bne
    cases g:r.1==2
    ·have K:=(jl7 C).1
     have w:(r.1==4)=true:=by
      rw [beq_iff_eq]
      have G:r.1≠1:=by simpa using q
      have H:r.1≠2:=by simpa using g
      have I:r.1≠3:=by simpa using z
      omega
     rw [w]
     rfl
    ·have w:(r.1==4)=false:=by
      have:r.1=2:=by simpa using g
      rw [this];rfl
     rw [w]
     rfl
   ·have g:(r.1 != 2)=true:=by
     have:r.1=3:=by simpa using z
     rw [this];rfl
    rw [cond_true,cond_true,Bool.true_or]
    cases J:(j0l a (j1Y (l.take i) r.2.1)).2.1 != 0
    ·rw [cond_false,cond_false,g]
     rfl
    ·rfl
  ·rw [cond_true,cond_true]
   cases E:j5K (l.take i) r.2.1
   ·unfold j7A
    rw [q,cond_true,cond_true,jkV E]
    rfl
   ·rfl) (λa rec m=>by
  show j2p l l (nI l.length) (j17 (l.take ((l.length:Nat):Int).toNat)) (j5m (l.take ((l.length:Nat):Int).toNat)) (l.length:Int) a (λo u j d=>rec (o,u,j,d)) (λf=>k f true) (λ_=>k ([],[]) false)=_
  unfold j2p
  rw [ZaP,cond_false])).trans ?_
 unfold j1N
 cases Z1S (λi d r=>j56 (l.take i) d r) 0 l d<;>rfl
theorem j99 (l:List RC) (n:Int):(j8o l n=false/\jav l n=zDB)\/∃ m:Nat,n=(m:Int)/\m<=l.length/\jbK l=true/\j8o l n=true:=by
 cases h:j8o l n
 ·left
  unfold jav
  rw [h]
  exact ⟨rfl,rfl⟩
 ·right
  unfold j8o at h
  rw [Bool.and_eq_true,decide_eq_true_eq] at h
  exact ⟨n.toNat,by omega,by omega,h.1,rfl⟩
theorem joB (l:List RC) (h:l.length<=1048576) (d:∀ r∈l,j1a r.2.2) (n:Int) (k:Bool->Res):j89 l n k=k (!j8o l n):=by
 unfold j89 j8o
 rw [jpZ l h d]
 cases jbK l
 ·rfl
 rw [Bool.not_true,cond_false,Bool.true_and]
 by_cases b:n<0
 ·rw [decide_eq_true b,decide_eq_false (show ¬ (0<=n/\n<=(l.length:Int)) by omega)];rfl
 ·rw [decide_eq_false b,cond_false]
  by_cases f:n<=(l.length:Int)
  ·rw [decide_eq_true (show 0<=n/\n<=(l.length:Int) by omega),decide_eq_false (show ¬ n>nI l.length by unfold nI;omega)];rfl
  ·rw [decide_eq_false (show ¬ (0<=n/\n<=(l.length:Int)) by omega),decide_eq_true (show n>nI l.length by unfold nI;omega)];rfl
theorem jpf (l:List RC) (h:l.length<=1048576) (g:∀ r∈l,j1a r.2.2) (n:Int) (k:DB->Bool->Res):jai l n k=k (jav l n) (j8o l n):=by
 unfold jai
 rw [joB l h g]
 rcases j99 l n with ⟨b,i⟩ | ⟨m,rfl,f,d,b⟩
 ·rw [b,i];rfl
 ·have j:=((jog l).1 d).1
  rw [b,Bool.not_true,cond_false,jbv f,cond_true,jdq,jji _ (j1z h m) (jak g m),(jdn d f).1]
  dsimp only
  rw [decide_eq_true (by rw [List.length_take];omega)]
theorem jo1 (l:List RC) (h:l.length<=1048576) (f:∀ r∈l,j1a r.2.2) (d:jbK l=true) (m:Nat) (b:m<=l.length) (k:DB->Res):jci l (m:Int) k=k (jav l m):=by
 unfold jci
 rw [jbv b,cond_true,jdq,jo6 _ jbw _ (j1z h m) (jak f m),(jdn d b).1]
end Go.PI.G
namespace Go.PI.G
open Go Go.PI Go.Proofs
theorem jpB {d:DB} (h:dbB d=true) {i j:Nat} (b:i<d.2.length) (f:j<d.2[i].length):d.2[i][j].length<=1048576:=
 ((jbx h).2.2.2 _ (List.getElem_mem b)).2 _ (List.getElem_mem f)
theorem jdW {d:DB} (h:dbB d=true) (t:ByteArray) (b:List V) :
  (j04 d.1 t<0/\jck d t b=([],false))\/∃ (i:Nat) (g:i<d.1.length) (f:i<d.2.length),j04 d.1 t=(i:Int)/\j05 d.1[i]=true/\j08 d.1[i] d.2[i]=true /\
   ((j06 d.1[i] d.2[i] b<0/\jck d t b=([],false))\/∃ (j:Nat) (l:j<d.2[i].length),j06 d.1[i] d.2[i] b=(j:Int)/\jck d t b=(d.2[i][j],true)):=by
 obtain ⟨m,p,n⟩:=(j1A d).1 h
 unfold jck
 rcases j0o d.1 t with ⟨e,_⟩ | ⟨i,g,e,_⟩
 ·left
  rw [e]
  exact ⟨by omega,rfl⟩
 ·right
  have f:i<d.2.length:=by omega
  refine ⟨i,g,f,e,((j0d _).1 m).2.1 _ (List.getElem_mem g),n i g f,?_⟩
  rw [e,decide_eq_false (by omega),cond_false,Zay _ _ _ g,Zay _ _ _ f]
  rcases jaO d.1[i] d.2[i] b with ⟨k,_⟩ | ⟨j,l,k,_⟩
  ·left
   rw [k]
   exact ⟨by omega,rfl⟩
  ·right
   refine ⟨j,l,k,?_⟩
   rw [k,decide_eq_false (by omega),cond_false,Zay _ _ _ l]
theorem jix {t:T} (ht:j05 t=true):msr yT t<=1048576:=Nat.le_trans (jag ht) (by omega)
theorem jpm (l:List RC) (h:l.length<=1048576) (F:∀ r∈l,j1a r.2.2) (t:ByteArray) (f:List V) (p:Int) (k:List V->Bool->Res):j6r l t f p k=k (j6M l t f p).1 (j6M l t f p).2:=by
 unfold j6r j6M
 rw [jpf l h F]
 rcases j99 l p with ⟨y,C⟩ | ⟨m,rfl,E,D,y⟩
 ·rw [y,C,j88 _ _ (by unfold LIM;simp)]
  rfl
 ·have n:=(jdn D E).2
  have z:=(jbx n).2.1
  rw [y,cond_true]
  generalize jav l m=d at n z
  rw [j88 _ _ (by unfold LIM;omega),Bool.not_true,cond_false]
  rcases jdW n t f with ⟨g,e⟩ | ⟨i,q,b,g,ht,B,⟨w,e⟩ | ⟨j,A,w,e⟩⟩
  ·rw [e,decide_eq_true g];rfl
  ·rw [e,g,decide_eq_false (by omega),cond_false,j00 q,cond_true,j00 b,cond_true,Zay _ _ _ q,Zay _ _ _ b,j6p _ (jix ht) _ B,decide_eq_true w];rfl
  ·rw [e,g,decide_eq_false (by omega),cond_false,j00 q,cond_true,j00 b,cond_true,Zay _ _ _ q,Zay _ _ _ b,j6p _ (jix ht) _ B,w,decide_eq_false (by omega),cond_false,cond_true,j00 A,cond_true,Zay _ _ _ A]
   unfold j0h
   rw [jfi (jpB n b A)]
   rfl
theorem jo4 (d:DB) (m:dbB d=true) (t:ByteArray) (f:List V) (k:List V->Bool->Res):j8s d t f k=k (jck d t f).1 (jck d t f).2:=by
 have q:=(jbx m).2.1
 unfold j8s
 rw [j5S _ _ (by unfold LIM;omega)]
 rcases jdW m t f with ⟨g,e⟩ | ⟨i,h,b,g,ht,p,⟨l,e⟩ | ⟨j,n,l,e⟩⟩
 ·rw [e,decide_eq_true g];rfl
 ·rw [e,g,decide_eq_false (by omega),cond_false,j00 h,cond_true,j00 b,cond_true,Zay _ _ _ h,Zay _ _ _ b,j1P _ (jix ht) _ p,decide_eq_true l];rfl
 ·rw [e,g,decide_eq_false (by omega),cond_false,j00 h,cond_true,j00 b,cond_true,Zay _ _ _ h,Zay _ _ _ b,j1P _ (jix ht) _ p,l,decide_eq_false (by omega),cond_false,cond_true,j00 n,cond_true,Zay _ _ _ n]
  unfold j0u
  rw [jfi (jpB m b n)]
  rfl
end Go.PI.G
namespace Go.PI.G
open Go Go.PI Go.Proofs
theorem jp3 (l:List RC) (h:l.length<=1048576) (g:∀ r∈l,j1a r.2.2) (n:Int) (k:DB->Bool->Res):jab l n k=k (jav l n) (j8o l n):=by
 unfold jab
 rw [jpM l h g,j5n]
 rcases j99 l n with ⟨b,i⟩ | ⟨m,rfl,f,d,b⟩
 ·rw [b,i]
  unfold j8o at b
  cases d:jbK l
  ·rfl
  rw [d,Bool.true_and] at b
  rw [Bool.not_true,cond_false]
  show (bif !decide (0<=n/\n<=(l.length:Int)) then _ else _)=_
  rw [b]
  rfl
 ·rw [d,Bool.not_true,cond_false,decide_eq_true (show 0<=(m:Int)/\(m:Int)<=nI l.length by unfold nI;omega),Bool.not_true,cond_false,jo1 l h g d m f,jd8 _ (jdn d f).2,b]
end Go.PI.G
namespace Go.PI.G
open Go Go.PI Go.Proofs
theorem jj8 (l:List RC) (h:l.length<=1048576) (i:∀ r∈l,j1a r.2.2) (t:ByteArray) (b:List V) (p:Int) (k:List V->Bool->Res):j2y l t b p k=k (j6M l t b p).1 (j6M l t b p).2:=by
 unfold j2y j6M
 rw [jp3 l h i]
 rcases j99 l p with ⟨d,j⟩ | ⟨m,rfl,g,f,d⟩
 ·rw [d];rfl
 ·rw [d,Bool.not_true,cond_false,cond_true,jo4 _ (jdn f g).2]
end Go.PI.G
namespace Go.PI.G
open Go Go.PI Go.Proofs
theorem jh9 (k:ByteArray->Res):∀ (m n d:Nat) (s:ByteArray),n<m->0<n->n<=4294967296->n<10 ^ (d+1)->s.size+d<=1000 ->
  Z1f j55 m ((n:Int),s) k=k (jgr n++s)
 | 0,n,d,s,h,_,_,_,_=>by omega
 | m+1,n,d,s,h,q,p,i,r=>by
  rw [Z9Y]
  show j2C _ _ _ _=_
  unfold j2C
  have l:decide ((n:Int)>0)=true:=decide_eq_true (by omega)
  rw [l,cond_true,jrG,jrH,ZaH (n:=((n / 10:Nat):Int)) (by omega) (by omega)]
  show (bif lim ((dgt ((n % 10:Nat):Int)).size+s.size) then Z1f j55 m (((n / 10:Nat):Int),dgt ((n % 10:Nat):Int)++s) k else none)=_
  rw [jdD,ZaL (by unfold LIM;omega),cond_true]
  by_cases b:n<10
  ·have f:n / 10=0:=by omega
   have g:n % 10=n:=by omega
   rw [f,g,jlA b]
   obtain ⟨m,rfl⟩:∃ e,m=e+1:=⟨m-1,by omega⟩
   rw [Z9Y]
   show j2C _ _ _ _=_
   unfold j2C
   have j:decide (((0:Nat):Int)>0)=false:=decide_eq_false (by omega)
   rw [j,cond_false]
  ·obtain ⟨d,rfl⟩:∃ e,d=e+1:=by
    cases d with
    | zero=>exact absurd (by simpa using i) b
    | succ d=>exact ⟨d,rfl⟩
   rw [jh9 k m (n / 10) d _ (by omega) (by omega) (by omega) (Nat.div_lt_of_lt_mul (by rw [Nat.pow_succ] at i;omega)) (by rw [ByteArray.size_append,jdD];omega),jpr b,ByteArray.append_assoc]
theorem j9j (k:Int) (h:1<=k/\k<=4294967296) (K:ByteArray->Res):j0k k K=K (mT k):=by
 unfold j0k jdO
 have d:decide (k<=0)=false:=decide_eq_false (by omega)
 have:=jh9 (λ(b:ByteArray)=>bif lim (1+(ByteArray.size b)) then K (z_m++b) else none) Z1c k.toNat 12 eS (Z2b (by omega)) (by omega) (by omega) (by omega) (by show 0+12<=1000;omega)
 rw [show ((k.toNat:Nat):Int)=k by omega,jsg] at this
 rw [d,cond_false]
 refine this.trans ?_
 have f:=jmj 12 k.toNat (by omega)
 rw [ZaL (by unfold LIM;omega),cond_true]
 rfl
end Go.PI.G
set_option maxRecDepth 10000
namespace Go.PI.G
open Go Go.PI Go.Proofs
theorem joM (a:Int×Int×ByteArray) (h:msr y2 a<=1048576) (k:qV->Res):jaJ a k=k a:=by
 unfold jaJ
 rfl
theorem joJ (a:Int×Int×ByteArray) (left:Int) (h:0<=left) (i:left<=1048576) (g:Wf y2 a) (k:Int->Res):jaH a left k=k (szR left (msr y2 a)):=by
 have f:msr y2 a=ByteArray.size a.2.2+0:=by simp only [msr]<;>omega
 rw [f]
 unfold jaH
 have d:ByteArray.size a.2.2<=maxLen:=g.2.2
 unfold maxLen at d
 rw [j01 (by unfold nI;omega)]
 by_cases b:((ByteArray.size a.2.2:Nat):Int)<=left
 rotate_left
 ·rw [Zal b,Za5 (by unfold nI;omega),cond_true]
 rw [Za4 (by unfold nI;omega),cond_false,Zak b,show left-nI (ByteArray.size a.2.2)=left-((ByteArray.size a.2.2:Nat):Int) from rfl]
 exact jgg (by omega)
theorem jnS (a:Int×Int×ByteArray) (h:msr y2 a<=1048576) (k:Bool->Res):jaF a a k=k true:=by
 unfold jaF
 simp only [ZaO,Zai,beq_self_eq_true,cond_false,Bool.not_true]
end Go.PI.G
namespace Go.PI.G
open Go Go.PI Go.Proofs
theorem jrI (a:ByteArray×Int×Bool×Bool×Int×Int×ByteArray) (h:msr y7 a<=1048576) (k:qC->Res):jdd a k=k a:=by
 have b:msr y2 a.2.2.2.2<=1048576:=(Nat.le_trans (@j03 .bool y2 a.2.2.2) (Nat.le_trans (@j03 .bool y4 a.2.2) (Nat.le_trans (@j03 (.int .i64) y5 a.2) (Nat.le_trans (@j03 .str y6 a) h))))
 unfold jdd
 simp only [joM _ b]
theorem jrA (a:ByteArray×Int×Bool×Bool×Int×Int×ByteArray) (left:Int) (i:0<=left) (j:left<=1048576) (g:Wf y7 a) (k:Int->Res):jdb a left k=k (szR left (msr y7 a)):=by
 have h:msr y7 a=ByteArray.size a.1+(msr y2 a.2.2.2.2+0):=by simp only [msr]<;>omega
 rw [h]
 unfold jdb
 have f:ByteArray.size a.1<=maxLen:=g.1
 unfold maxLen at f
 rw [j01 (by unfold nI;omega)]
 by_cases d:((ByteArray.size a.1:Nat):Int)<=left
 rotate_left
 ·rw [Zal d,Za5 (by unfold nI;omega),cond_true]
 rw [Za4 (by unfold nI;omega),cond_false,Zak d,show left-nI (ByteArray.size a.1)=left-((ByteArray.size a.1:Nat):Int) from rfl]
 rw [joJ _ _ (by omega) (by omega) g.2.2.2.2]
 by_cases b:((msr y2 a.2.2.2.2:Nat):Int)<=left-(ByteArray.size a.1:Nat)
 rotate_left
 ·rw [Zaz b,Zal b,Za5 (by omega),cond_true]
 rw [ZaA b,Zak b,Za4 (by omega),cond_false]
 exact jgg (by omega)
theorem jr6 (a:ByteArray×Int×Bool×Bool×Int×Int×ByteArray) (h:msr y7 a<=1048576) (k:Bool->Res):jd9 a a k=k true:=by
 have b:msr y2 a.2.2.2.2<=1048576:=(Nat.le_trans (@j03 .bool y2 a.2.2.2) (Nat.le_trans (@j03 .bool y4 a.2.2) (Nat.le_trans (@j03 (.int .i64) y5 a.2) (Nat.le_trans (@j03 .str y6 a) h))))
 unfold jd9
 simp only [ZaO,Zai,beq_self_eq_true,cond_false,Bool.not_true,jnS _ b]
end Go.PI.G
namespace Go.PI.G
open Go Go.PI Go.Proofs
theorem jqO (a:qE) (h:msr y8 a<=1048576) (k:qE->Res):j9h a k=k a:=by
 have g:a.length<=1048576:=j0v h
 unfold j9h
 rw [Zav (by unfold LIM;omega),cond_true]
 have:=ZaC ((eS,0,false,false,0,0,eS)) a id (step:=j9J a) (λb=>k b) (by unfold LIM;omega) (λb i rec d f=>by
  show j48 a _ _ _ _=_
  unfold j48
  dsimp only
  simp only [ZaQ d,cond_true,j00 d,j00 (show i<b.length by omega),Zay _ _ _ d,ZaF,j01 (n:=(i:Int)+1) (by omega),jrI _ (j0S h (List.getElem_mem d))]
  rfl) (λb rec=>by
  show j48 a _ _ _ _=_
  unfold j48
  dsimp only
  rw [ZaP,cond_false])
 rw [List.map_id] at this
 exact this
theorem jqL (a:qE) (left:Int) (g:0<=left) (h:left<=1048576) (l:Wf y8 a) (k:Int->Res):j9e a left k=k (szR left (msr y8 a)):=by
 have j:a.length<=maxLen:=l.1
 have p:msr y8 a=a.length+(a.map (msr y7)).sum:=rfl
 rw [p]
 unfold j9e
 refine jlk (F:=λq=>jbH a Z1c q 0 (λd=>k d) (λ_=>k (-1))) (k:=k) g h j λb=> ?_
 unfold jbH
 rw [ZaB (msr y7) a _ (by omega) (λleft i rec f g h=> ?_) (λleft rec=> ?_) _ (by omega) (by omega)]
 ·by_cases b:(((a.map (msr y7)).sum:Nat):Int)<=left-a.length
  ·rw [if_pos b,ZaA b]
  ·rw [if_neg b,Zaz b]
 ·show j45 a _ _ _ _ _=_
  have r:=l.2 _ (List.getElem_mem f)
  unfold j45
  rw [ZaQ f,cond_true,j00 f,cond_true,Zay _ _ _ f,jrA _ _ g h r]
  have m:(i:Int)<4611686018427387904:=by unfold maxLen at j;omega
  rw [j01 (n:=(i:Int)+1) (by omega)]
  by_cases b:((msr y7 a[i]:Nat):Int)<=left
  ·rw [if_pos b,ZaA b,Za4 (by omega),cond_false]
  ·rw [if_neg b,Zaz b,Za5 (by omega),cond_true]
 ·show j45 a _ _ _ _ _=_
  unfold j45
  rw [ZaP,cond_false]
theorem jql (a:qE) (h:msr y8 a<=1048576) (k:Bool->Res):j9b a a k=k true:=by
 have d:a.length<=1048576:=j0v h
 unfold j9b
 rw [ZaO,cond_false]
 unfold jg1
 rw [Zar a _ (by unfold LIM;omega) (λi rec b=> ?_) (λrec=> ?_)]
 ·show j3R a a _ _ _ _=_
  unfold j3R
  simp only [ZaQ b,cond_true,j00 b,Zay _ _ _ b,j01 (n:=(i:Int)+1) (by omega),ZaO,Zai,cond_false,Bool.not_true,jr6 _ (j0S h (List.getElem_mem b))]
 ·show j3R a a _ _ _ _=_
  unfold j3R
  rw [ZaP,cond_false]
theorem jpb (a:qE) (k:Int) (h:msr y8 a<=1048576) (w:1<=k) (m:k+(wgt y8 a:Int)<=4294967296) (K:Int->qE->Res):j9s a k K=K (k+(wgt y8 a:Int)) (mkL (wgt y7) (mk y7) a k):=by
 have y:a.length<=1048576:=j0v h
 have f:wgt y8 a=(a.map (wgt y7)).sum:=rfl
 rw [f] at m ⊢
 unfold j9s jdM
 have:=Z9Z (wgt y7) (mk y7) a k (λl k i=>(l,k,i)) (step:=j53) (λl k=>K k l) (λl k=>K k l) (by unfold LIM;omega) (λl i rec g b n d=>by
  have q:=Z7B (wgt y7) a i g
  have r:=Z9L (wgt y7) a (i+1)
  generalize A:k+((((a.take i).map (wgt y7)).sum:Nat):Int)=κ
  have p:1<=κ/\κ+(wgt y7 a[i]:Int)<=4294967296:=by omega
  have z:(wgt y7 a[i]:Int)=1+1+1+1+1+1+1:=by
   have:wgt y7 a[i]=1+1+1+1+1+1+1:=by first | rfl | (simp only [wgt];done) | (simp only [wgt];omega)
   first | rfl | omega
  show j1B _ _ _ _ _=_
  dsimp only
  unfold j1B j3V j3W j3X
  rw [<-b] at g
  have j:i<a.length:=by omega
  simp (disch:=first | assumption | omega) only [show nI a.length=nI l.length by rw [b],ZaQ,j00,jiy,cond_true,jiv,jiz,Zay,d,j01,j9j,<-b]
  rw [ZaF]
  congr 3<;>first | rfl | omega | (simp only [j8z,j6L,jaK,jdf,j8y,jaL,j6Z,j8J,j6Y,j8K,Int.natCast_add,Int.natCast_one,<-Int.add_assoc];done) | (simp only [j8z,j6L,jaK,jdf,j8y,jaL,j6Z,j8J,j6Y,j8K,Int.natCast_add,Int.natCast_one,<-Int.add_assoc];rfl) | skip) (λl k rec b=>by
  show j1B _ _ _ _ _=_
  dsimp only
  unfold j1B j3V j3W j3X
  rw [<-b,ZaP,cond_false])
 exact this
end Go.PI.G
