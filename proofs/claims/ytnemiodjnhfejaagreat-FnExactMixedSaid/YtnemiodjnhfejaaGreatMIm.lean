/-
  Program's code interpreted over typed values; printed texts; plain laws. No conditions.
-/
import Derived.Test.YtnemiodjnhfejaaGreatMIh
import Derived.Test.YtnemiodjnhfejaaGreatMIl
import Derived.Test.YtnemiodjnhfejaaGreatMIj
import Derived.Test.YtnemiodjnhfejaaGreatMIk
import Derived.Test.YtnemiodjnhfejaaGreatMIi
set_option linter.unusedVariables false
set_option linter.unusedSimpArgs false
namespace Go.PI.G
open Go Go.PI Go.Proofs
theorem jbK {c:List T} (h:j1Q c=true):msr (.slice yT) c<=1048576:=by
 obtain ⟨b,d,_⟩:=(j0d c).1 h
 have:=j90 (e:=yT) 400 c (λt ht=>jaj (d t ht))
 have f:c.length * (400+1)<=6 * 401:=Nat.mul_le_mul b (Nat.le_refl _)
 omega
theorem jgA (l:List (List V)) (h:l.length<=1048576) (f:∀ x∈l,x.length<=1048576) (k:List (List V)->Res):j5z l k=k l:=by
 unfold j5z jd5
 have:=Z9T l (λi b=>(b,i)) (λx=>[x]) 1048576 [] (step:=j7S l (nI l.length)) (λb=>k b) (λb=>k b) (by unfold LIM;omega) (λi d _=>by
  rw [j0F,List.nil_append,List.length_take];omega) (by simp) (λi b rec d j g=>by
  show j2M _ _ _ _ _ _=_
  unfold j2M j0t
  dsimp only
  rw [ZaQ d,cond_true,j00 d,cond_true,Zay _ _ _ d,jaO (f _ (List.getElem_mem d)),cond_true,ZaL (by unfold LIM;omega),cond_true,j01 (n:=(i:Int)+1) (by omega)]) (λb rec=>by
  show j2M _ _ _ _ _ _=_
  unfold j2M
  dsimp only
  rw [ZaP,cond_false])
 refine this.trans ?_
 rw [j0F,List.nil_append]
theorem jhr {d:DB} (h:dbB d=true):j1Q d.1=true/\d.1.length<=6/\d.2.length=d.1.length/\∀ x∈d.2,x.length<=60/\∀ r∈x,r.length<=1048576:=by
 obtain ⟨b,k,l⟩:=(j1x d).1 h
 have n:=jbK b
 refine ⟨b,((j0d _).1 b).1,k,λx p=> ?_⟩
 obtain ⟨i,m,rfl⟩:=List.mem_iff_getElem.1 p
 have g:=l i (by omega) m
 refine ⟨(j0g g).2.1,λr f=> ?_⟩
 have q:=j0q ((j0g g).2.2 r f)
 have j:=(jc1 n).2 _ (List.getElem_mem (show i<d.1.length by omega))
 have:=j.2.1
 omega
theorem jiY (d:DB) (h:dbB d=true) (k:DB->Res):j1v d k=k d:=by
 obtain ⟨g,m,p,j⟩:=jhr h
 unfold j1v
 rw [jh8 _ (jbK g)]
 unfold j9F
 have:=Z9T d.2 (λi b=>(i,(d.1,b))) (λx=>[x]) 1048576 [] (step:=j4P d.2 (nI d.2.length)) (λb=>k b) (λb=>k (d.1,b)) (by unfold LIM;omega) (λi f _=>by
  rw [j0F,List.nil_append,List.length_take];omega) (by simp) (λi b rec f r q=>by
  show j2O _ _ _ _ _ _=_
  unfold j2O
  obtain ⟨w,l⟩:=j _ (List.getElem_mem f)
  dsimp only
  rw [ZaQ f,cond_true,j00 f,cond_true,Zay _ _ _ f,jgA _ (by omega) l,ZaL (by unfold LIM;omega),cond_true,j01 (n:=(i:Int)+1) (by omega)]) (λb rec=>by
  show j2O _ _ _ _ _ _=_
  unfold j2O
  dsimp only
  rw [ZaP,cond_false])
 refine this.trans ?_
 rw [j0F,List.nil_append]
theorem jeE (d:DB) (h:dbB d=true) (k:DB->Res):j11 d k=k d:=by
 obtain ⟨g,m,p,j⟩:=jhr h
 unfold j11
 rw [jgZ _ (jbK g)]
 unfold jae
 have:=Z9T d.2 (λi b=>(i,(d.1,b))) (λx=>[x]) 1048576 [] (step:=j5M d.2 (nI d.2.length)) (λb=>k b) (λb=>k (d.1,b)) (by unfold LIM;omega) (λi f _=>by
  rw [j0F,List.nil_append,List.length_take];omega) (by simp) (λi b rec f r q=>by
  show j3h _ _ _ _ _ _=_
  unfold j3h
  obtain ⟨w,l⟩:=j _ (List.getElem_mem f)
  dsimp only
  rw [ZaQ f,cond_true,j00 f,cond_true,Zay _ _ _ f,j6T _ (by omega) l,ZaL (by unfold LIM;omega),cond_true,j01 (n:=(i:Int)+1) (by omega)]) (λb rec=>by
  show j3h _ _ _ _ _ _=_
  unfold j3h
  dsimp only
  rw [ZaP,cond_false])
 refine this.trans ?_
 rw [j0F,List.nil_append]
theorem jmu (t:T) (h:msr yT t<=1048576) (l:List (List V)) (s:ST) (b:s.1≠5) (k:List (List V)->Int->Res):j15 t l s k=k (j2i t l s).1 (j2i t l s).2:=by
 unfold j15 j2i
 cases (s.1==1)
 ·rw [cond_false,cond_false]
  cases (s.1==2)
  ·rw [cond_false,cond_false]
   cases (s.1==3)
   ·rw [cond_false,cond_false,show (s.1==5)=false by simpa using b]
    rfl
   ·rw [cond_true,cond_true,jle t h]
  ·rw [cond_true,cond_true,jlg t h]
 ·rw [cond_true,cond_true,jlf t h]
end Go.PI.G
namespace Go.PI.G
open Go Go.PI Go.Proofs
theorem jqg (b:Int) (s:ST) (a z:Res):j78 b s (λ_=>a) (λ_=>z)=bif decide (b<0)&& !((s.1==5)&&(s.2.2.2.2.1==1)) then z else a:=by
 unfold j78
 cases decide (b<0)
 ·rfl
 ·rw [cond_true,Bool.true_and]
  unfold bne
  cases (s.1==5)
  ·rfl
  ·cases (s.2.2.2.2.1==1)<;>rfl
theorem jn6 {t:T} {l:List (List V)} {s:ST}:0<=(j2i t l s).2/\(j2i t l s).2<=5:=by
 unfold j2i j5b j5c j5a
 cases (s.1==1)
 ·cases (s.1==2)
  ·cases (s.1==3)
   ·simp
   ·simp only [cond_true,cond_false]
    cases j08 t l
    ·simp
    ·cases (!j9g t s.2.2.1||decide (j06 t l s.2.2.1<0))<;>simp
  ·simp only [cond_true,cond_false]
   cases j08 t l
   ·simp
   ·cases j0k t.2.1 s.2.2.2.1
    ·simp
    ·cases (!j9g t s.2.2.1||decide (j06 t l s.2.2.1<0))
     ·cases !decide (j06 t (l.eraseIdx (j06 t l s.2.2.1).toNat) (j05 t s.2.2.2.1)<0)<;>simp
     ·simp
 ·simp only [cond_true,cond_false]
  cases j08 t l
  ·simp
  ·cases j0k t.2.1 s.2.2.2.1
   ·simp
   ·cases !decide (j06 t l (j05 t s.2.2.2.1)<0)
    ·cases (l.length==60)<;>simp
    ·simp
theorem jmp (d:DB) (h:dbB d=true) (s:ST) (q:s.1≠5) (i:Nat) (f:i<d.1.length) (g:j04 d.1 s.2.1=(i:Int)) (k:DB->Int->Res) :
  (bif inb (i:Int) d.1.length then
          bif inb (i:Int) d.2.length then
           j15 (nth zT d.1 (i:Int)) (nth [] d.2 (i:Int)) s λ(w:List (List V)) (r:Int)=>
            bif (r != 0) then
             k ([],[]) (Z9K (10+r))
            else
             j1v d λ(m:DB)=>
              bif inb (i:Int) (List.length m.2) then
               k (m.1,upd m.2 (i:Int) w) 0
              else none
          else none
         else none)=k (j1H d s).1 (j1H d s).2:=by
 obtain ⟨p,y,z⟩:=(j1x d).1 h
 have b:i<d.2.length:=by omega
 have B:=(jc1 (jbK p)).2 _ (List.getElem_mem f)
 have ht:j03 d.1[i]=true:=((j0d _).1 p).2.1 _ (List.getElem_mem f)
 have j:msr yT d.1[i]<=1048576:=Nat.le_trans (jaj ht) (by omega)
 rw [j00 f,cond_true,j00 b,cond_true,Zay _ _ _ f,Zay _ _ _ b,jmu _ j _ _ q]
 unfold j1H
 rw [g,decide_eq_false (by omega),Bool.false_and,cond_false,show (s.1==5)=false by simpa using q,cond_false,Zay _ _ _ f,Zay _ _ _ b]
 have A:=jn6 (t:=d.1[i]) (l:=d.2[i]) (s:=s)
 cases C:((j2i d.1[i] d.2[i] s).2 != 0)
 ·rw [cond_false,cond_false,jiY d h,j00 b,cond_true,ZaF,Int.toNat_natCast]
 ·rw [cond_true,cond_true,j01 (n:=10+(j2i d.1[i] d.2[i] s).2) (by omega)]
end Go.PI.G
namespace Go.PI.G
open Go Go.PI Go.Proofs
noncomputable def j8i (d:DB) (x:D) (u:T):List (List V):=
 bif decide (j04 d.1 u.1>=0)&&sEq u.1 x.2.1 then (bif x.1==2 then [] else jds (nth zT d.1 (j04 d.1 u.1)) x (nth [] d.2 (j04 d.1 u.1)))
 else bif decide (j04 d.1 u.1>=0) then nth [] d.2 (j04 d.1 u.1) else []
theorem jnO (d:DB) (h:dbB d=true) (s:ST) (z:s.1=5) (B:s.2.2.2.2.2.1=s.2.1) (q:dSm s.2.2.2.2) (E:j0S s.2.2.2.2=true) (l:j0b d.1 s.2.2.2.2=0) (u:T) (k:List (List V)->Res) :
  (j22 d.1 u.1 λ(r:Int)=>j2N r s u λ(t:Bool)=>j1C r t d s [] k)=k (j8i d s.2.2.2.2 u):=by
 obtain ⟨C,J,D⟩:=(j1x d).1 h
 obtain ⟨_,G,_,g⟩:=jhr h
 rw [jcr _ _ (by unfold LIM;omega)]
 unfold j2N j1C j8i
 rw [B]
 rcases j0u d.1 u.1 with ⟨p,_⟩ | ⟨i,n,p,A⟩
 ·rw [p]
  rfl
 ·have w:decide (j04 d.1 u.1>=0)=true:=decide_eq_true (by omega)
  have f:i<d.2.length:=by omega
  rw [w,Bool.true_and,cond_true,p,j00 n,j00 f,Zay _ _ _ n,Zay _ _ _ f]
  cases H:sEq u.1 s.2.1
  ·obtain ⟨K,I⟩:=g _ (List.getElem_mem f)
   simp only [cond_false,cond_true]
   rw [jgA _ (by omega) I]
  ·have b:u.1=s.2.1:=(j09 _ _).1 H
   have ht:j03 d.1[i]=true:=((j0d _).1 C).2.1 _ (List.getElem_mem n)
   have y:msr yT d.1[i]<=1048576:=Nat.le_trans (jaj ht) (by omega)
   have m:j04 d.1 s.2.2.2.2.2.1=(i:Int):=by rw [B,<-b];exact p
   have j:s.2.2.2.2.1≠1:=λe=>by
    unfold j0b at l
    rw [e,m] at l
    rw [decide_eq_false (show ¬ (i:Int)<0 by omega)] at l
    cases l
   have F:j0n d.1[i] s.2.2.2.2=0:=by
    unfold j0b at l
    rw [show (s.2.2.2.2.1==1)=false by simpa using j,cond_false,m,decide_eq_false (show ¬ (i:Int)<0 by omega),cond_false,Zay _ _ _ n] at l
    exact l
   simp only [cond_true]
   unfold j15
   rw [z]
   simp only [show ((5:Int)==1)=false from rfl,show ((5:Int)==2)=false from rfl,show ((5:Int)==3)=false from rfl,show ((5:Int)==5)=true from rfl,cond_false,cond_true,Z9Q]
   rw [jjS _ y _ (D i n f) _ q E (by rw [B,<-b];exact A.symm) j,F]
   rfl
theorem jlE {c:List T} {d:D} (b:j1Q c=true) (f:j0S d=true):jdu c d=bif j0b c d != 0 then ([],j0b c d) else (j0T c d,0):=by
 unfold jdu
 rw [b,f]
 rfl
theorem jie (c:List T) (d:D):0<=j0b c d/\j0b c d<=8:=by
 unfold j0b j0n
 cases (d.1==1)
 ·cases decide (j04 c d.2.1<0)
  ·generalize nth zT c (j04 c d.2.1)=t
   cases (d.1==3)
   ·cases (d.1==4)
    ·cases (d.1==5)
     ·simp
     ·cases decide (j02 t.2.1 d.2.2.2.2.2<0)
      ·simp
      ·cases decide (j02 t.2.1 d.2.2.2.2.1<0)<;>simp
    ·cases decide (j02 t.2.1 d.2.2.2.2.1<0)
     ·cases t.2.2.any (λx=>sEq x d.2.2.2.2.1)<;>simp
     ·simp
   ·cases decide (j02 t.2.1 (nth zC d.2.2.1 0).1<0)
    ·simp
    ·cases (t.2.1.length==8)<;>simp
  ·simp
 ·cases decide (j04 c d.2.1<0)
  ·simp
  ·cases (c.length==6)<;>simp
theorem jjQ (d:DB) (h:dbB d=true) (s:ST) (q:s.1=5) (y:s.2.2.2.2.2.1=s.2.1) (j:dSm s.2.2.2.2) (p:j0S s.2.2.2.2=true) (k:DB->Int->Res) :
  j38 d s k=bif j0b d.1 s.2.2.2.2 != 0 then k ([],[]) (10+j0b d.1 s.2.2.2.2) else k (j0T d.1 s.2.2.2.2,(j0T d.1 s.2.2.2.2).map (j8i d s.2.2.2.2)) 0:=by
 obtain ⟨m,z,A⟩:=(j1x d).1 h
 have D:=jie d.1 s.2.2.2.2
 unfold j38
 rw [jh9 _ _ (jbK m) j,jlE m p]
 cases r:(j0b d.1 s.2.2.2.2 != 0)
 rotate_left
 ·rw [cond_true]
  dsimp only
  rw [r,cond_true,cond_true,j01 (n:=10+j0b d.1 s.2.2.2.2) (by omega)]
 have g:j0b d.1 s.2.2.2.2=0:=by simpa using r
 have f:=jjh m p g
 have w:=((j0d _).1 f).1
 rw [cond_false,cond_false]
 show (j4O (j0T d.1 s.2.2.2.2) (nI (j0T d.1 s.2.2.2.2).length) d s Z1c 0 (j0T d.1 s.2.2.2.2,[]) λb=>k b 0)=_
 generalize j0T d.1 s.2.2.2.2=c' at *
 unfold j4O
 have:=Z9T c' (λi b=>(i,(c',b))) (λu=>[j8i d s.2.2.2.2 u]) 6 [] (step:=j1P c' (nI c'.length) d s) (λb=>k b 0) (λb=>k (c',b) 0) (by unfold LIM;omega) (λi l _=>by
  rw [jcQ,List.nil_append,List.length_map,List.length_take];omega) (by simp) (λi b rec l C B=>by
  show j0Z _ _ _ _ _ _ _ _=_
  unfold j0Z
  dsimp only
  rw [ZaQ l,cond_true,j00 l,cond_true,Zay _ _ _ l,jnO d h s q y j p g,ZaL (by unfold LIM;omega),cond_true,j01 (n:=(i:Int)+1) (by omega)]) (λb rec=>by
  show j0Z _ _ _ _ _ _ _ _=_
  unfold j0Z
  dsimp only
  rw [ZaP,cond_false])
 refine this.trans ?_
 rw [jcQ,List.nil_append]
end Go.PI.G
namespace Go.PI.G
open Go Go.PI Go.Proofs
theorem jol {d:DB} (h:msr yDB d<=1048576):msr (.slice yT) d.1<=1048576/\d.1.length<=1048576/\d.2.length<=1048576/\(∀ t∈d.1,msr yT t<=1048576)/\∀ l∈d.2,l.length<=1048576:=by
 have i:msr yDB d=msr (.slice yT) d.1+msr (.slice (.slice (.slice yV))) d.2:=rfl
 have b:msr (.slice yT) d.1<=1048576:=by omega
 have f:msr (.slice (.slice (.slice yV))) d.2<=1048576:=by omega
 exact ⟨b,j0M b,j0M f,λt ht=>j1U b ht,λl g=>j0M (j1U f g)⟩
theorem jgy (d:DB) (h:msr yDB d<=1048576) (k:Bool->Res):j5H d k=k (dbB d):=by
 obtain ⟨j,m,p,l,q⟩:=jol h
 unfold j5H dbB
 rw [jiW _ j]
 cases j1Q d.1
 ·rfl
 ·rw [Bool.not_true,cond_false,Bool.true_and]
  by_cases f:d.2.length=d.1.length
  ·have g:(nI d.2.length != nI d.1.length)=false:=by rw [f,ZaO]
   rw [g,cond_false,decide_eq_true f,Bool.true_and]
   unfold jcs
   have:=Z9P d.1 (λi=>i) (λi t=> !j08 t (nth [] d.2 (i:Int))) (step:=j7y d.1 (nI d.1.length) d) ((λ(_:Unit)=>k true),(λ(_:Unit)=>k false)) (k true) (k false) (by unfold LIM;omega) (λi rec b=>by
    show j5u _ _ d _ _ _ _=_
    unfold j5u
    rw [ZaQ b,cond_true,j00 b,cond_true,j00 (f ▸ b),cond_true,Zay _ _ _ b,j6l _ (l _ (List.getElem_mem b)),j01 (n:=(i:Int)+1) (by omega)]) (λrec=>by
    show j5u _ _ d _ _ _ _=_
    unfold j5u
    rw [ZaP,cond_false])
   refine this.trans ?_
   cases Z71 (λi t=> !j08 t (nth [] d.2 (i:Int))) 0 d.1<;>rfl
  ·have g:(nI d.2.length != nI d.1.length)=true:=by unfold nI;simp;omega
   rw [g,cond_true,decide_eq_false f,Bool.false_and]
theorem jod (d:DB) (h:msr yDB d<=1048576) (k:Bool->Res):j8W d k=k (dbB d):=by
 obtain ⟨j,m,p,l,q⟩:=jol h
 unfold j8W dbB
 rw [jij _ j]
 cases j1Q d.1
 ·rfl
 ·rw [Bool.not_true,cond_false,Bool.true_and]
  by_cases f:d.2.length=d.1.length
  ·have g:(nI d.2.length != nI d.1.length)=false:=by rw [f,ZaO]
   rw [g,cond_false,decide_eq_true f,Bool.true_and]
   unfold jc4
   have:=Z9P d.1 (λi=>i) (λi t=> !j08 t (nth [] d.2 (i:Int))) (step:=j7m d.1 (nI d.1.length) d) ((λ(_:Unit)=>k true),(λ(_:Unit)=>k false)) (k true) (k false) (by unfold LIM;omega) (λi rec b=>by
    show j4Y _ _ d _ _ _ _=_
    unfold j4Y
    rw [ZaQ b,cond_true,j00 b,cond_true,j00 (f ▸ b),cond_true,Zay _ _ _ b,j80 _ (l _ (List.getElem_mem b)),j01 (n:=(i:Int)+1) (by omega)]) (λrec=>by
    show j4Y _ _ d _ _ _ _=_
    unfold j4Y
    rw [ZaP,cond_false])
   refine this.trans ?_
   cases Z71 (λi t=> !j08 t (nth [] d.2 (i:Int))) 0 d.1<;>rfl
  ·have g:(nI d.2.length != nI d.1.length)=true:=by unfold nI;simp;omega
   rw [g,cond_true,decide_eq_false f,Bool.false_and]
end Go.PI.G
namespace Go.PI.G
open Go Go.PI Go.Proofs
theorem jh5 {d:DB} (h:dbB d=true) (x:D) {j:Nat} (i:j<d.1.length) (b:j<d.2.length) (k:d.1[j].1≠x.2.1):j8i d x d.1[j]=d.2[j]:=by
 obtain ⟨g,l,m⟩:=(j1x d).1 h
 unfold j8i
 have f:sEq d.1[j].1 x.2.1=false:=by
  cases f:sEq d.1[j].1 x.2.1
  ·rfl
  ·exact absurd ((j09 _ _).1 f) k
 rw [f,Bool.and_false,cond_false,jd7 ((j0d _).1 g).2.2 i,decide_eq_true (by omega),cond_true,Zay _ _ _ b]
theorem jos {d:DB} (h:dbB d=true) (x:D) {i:Nat} (n:i<d.1.length) (q:i<d.2.length) (r:d.1[i].1=x.2.1):d.1.map (j8i d x)=d.2.set i (j8i d x d.1[i]):=by
 obtain ⟨l,m,y⟩:=(j1x d).1 h
 apply List.ext_getElem
 ·simp [m]
 ·intro j w z
  have g:j<d.1.length:=by simpa using w
  rw [List.getElem_map,List.getElem_set]
  by_cases e:i=j
  ·subst e
   rw [if_pos rfl]
  ·rw [if_neg e]
   refine jh5 h x g (by omega) λk=> ?_
   have p:=((j0d _).1 l).2.2
   have b:=jjI p n g e
   rw [r,k,jbH] at b
   rcases b with f | f<;>cases f
theorem jpR {d:DB} (h:dbB d=true) {x:D} (K:j0S x=true) (A:j0b d.1 x=0):(j0T d.1 x).map (j8i d x)=jgG d x:=by
 obtain ⟨F,J,P⟩:=(j1x d).1 h
 have C:=(j0d _).1 F
 unfold jgG
 cases r:(x.1==1)
 ·rw [cond_false]
  rcases j0u d.1 x.2.1 with ⟨l,_⟩ | ⟨i,B,l,z⟩
  ·unfold j0b at A
   rw [r,cond_false,decide_eq_true (by omega),cond_true] at A
   cases A
  ·have k:i<d.2.length:=by omega
   have g:=jos h x B k z
   unfold j0T
   rw [r,cond_false,l,Zay _ _ _ B,Zay _ _ _ k,Int.toNat_natCast]
   cases I:(x.1==2)
   ·rw [cond_false,cond_false,List.map_set,g,List.set_set]
    congr 1
    unfold j8i
    rw [jg2,z,Zah,Bool.and_true,l,decide_eq_true (by omega),cond_true,I,cond_false,Zay _ _ _ B,Zay _ _ _ k]
   ·rw [cond_true,cond_true,List.eraseIdx_eq_take_drop_succ,List.eraseIdx_eq_take_drop_succ,List.map_append,List.map_take,List.map_drop,g,List.take_set,List.set_eq_of_length_le (by rw [List.length_take];omega),List.drop_set_of_lt (by omega)]
 ·rw [cond_true]
  have e:x.1=1:=by simpa using r
  have b:=A
  unfold j0b at b
  rw [r,cond_true] at b
  rcases j0u d.1 x.2.1 with ⟨l,E⟩ | ⟨i,B,l,_⟩
  rotate_left
  ·rw [decide_eq_false (by omega)] at b
   cases b
  have ht:j03 (x.2.1,x.2.2.1,x.2.2.2.1)=true:=by
   obtain ⟨_,⟨t,cs,ks,rfl,ht⟩ | ⟨t,rfl⟩ | ⟨t,c,rfl,_⟩ | ⟨t,n,rfl,_⟩ | ⟨t,n,m,rfl,_⟩⟩:=j7k K
   ·exact ht
   all_goals exact absurd e (by simp)
  have G:d.1.length<6:=by
   rw [decide_eq_true (by omega),Bool.not_true,cond_false] at b
   have G:=C.1
   rcases Nat.lt_or_ge d.1.length 6 with q | q
   ·exact q
   ·rw [show (d.1.length==6)=true from beq_iff_eq.2 (by omega)] at b
    cases b
  obtain ⟨p,Q,f,y⟩:=jm2 F ht (show j04 d.1 x.2.1<0 by omega) G
  have w:d.1.map (j8i d x)=d.2:=by
   apply List.ext_getElem
   ·simp [J]
   ·intro j L M
    have H:j<d.1.length:=by simpa using L
    rw [List.getElem_map]
    exact jh5 h x H M (E _ (List.getElem_mem H))
  unfold j0T
  rw [r,cond_true]
  have f:j04 (lay tR (x.2.1,x.2.2.1,x.2.2.2.1) d.1) x.2.1=(p:Int):=f
  rw [f,Int.toNat_natCast,y,List.map_append,List.map_cons,List.map_take,List.map_drop,w]
  congr 2
  unfold j8i
  rw [l]
  rfl
theorem jpa {t:T} {l:List (List V)} (h:j08 t l=true) (n:t.2.1.length<=8):msr (.slice (.slice yV)) l<=14940:=by
 obtain ⟨ht,g,d⟩:=j0g h
 have:=j90 (e:= .slice yV) 248 l (λr b=>by
  have i:=j90 (e:=yV) 30 r (λv f=>jpH (jmc (d r b) v f))
  have j:=j0q (d r b)
  have k:r.length * (30+1)<=8 * 31:=Nat.mul_le_mul (by omega) (Nat.le_refl _)
  omega)
 have m:l.length * (248+1)<=60 * 249:=Nat.mul_le_mul g (Nat.le_refl _)
 omega
theorem jif {d:DB} (h:dbB d=true):msr yDB d<=1048576:=by
 obtain ⟨g,m,j⟩:=(j1x d).1 h
 have f:=((j0d _).1 g).1
 have q:=j90 (e:=yT) 400 d.1 (λt ht=>jaj (((j0d _).1 g).2.1 t ht))
 have n:d.1.length * (400+1)<=6 * 401:=Nat.mul_le_mul f (Nat.le_refl _)
 have r:=j90 (e:= .slice (.slice yV)) 14940 d.2 (λx l=>by
  obtain ⟨i,k,rfl⟩:=List.mem_iff_getElem.1 l
  have b:=j i (by omega) k
  exact jpa b ((j5W _).1 (j0g b).1).2.2.1)
 have p:d.2.length * (14940+1)<=6 * 14941:=Nat.mul_le_mul (by omega) (Nat.le_refl _)
 have e:msr yDB d=msr (.slice yT) d.1+msr (.slice (.slice (.slice yV))) d.2:=rfl
 omega
theorem jow {s:ST} (d:stB s=true) (f:s.1=5):j0S s.2.2.2.2=true/\s.2.2.2.2.2.1=s.2.1:=by
 unfold stB at d
 rw [f,Bool.and_eq_true] at d
 have b:=d.2
 simp only [show ((5:Int)==1)=false from rfl,show ((5:Int)==2)=false from rfl,show ((5:Int)==3)=false from rfl,show ((5:Int)==4)=false from rfl,show ((5:Int)==5)=true from rfl,cond_false,cond_true,Bool.and_eq_true] at b
 exact ⟨b.2.2.1,(j09 _ _).1 b.2.2.2⟩
theorem jmW (d:DB) (h:dbB d=true) (s:ST) (b:j1d s) (n:stB s=true) (k:DB->Int->Res):j77 d s k=k (j1H d s).1 (j1H d s).2:=by
 obtain ⟨p,A,B⟩:=(j1x d).1 h
 have y:=((j0d _).1 p).1
 unfold j77
 rw [jgy d (jif h),h,Bool.not_true,cond_false,jgB s b,n,Bool.not_true,cond_false,jcr _ _ (by unfold LIM;omega),jqg]
 cases g:(decide (j04 d.1 s.2.1<0)&& !((s.1==5)&&(s.2.2.2.2.1==1)))
 rotate_left
 ·unfold j1H
  rw [g]
  rfl
 rw [cond_false]
 cases f:(s.1==5)
 ·rw [f,Bool.false_and,Bool.not_false,Bool.and_true] at g
  have r:¬ j04 d.1 s.2.1<0:=of_decide_eq_false g
  rcases j0u d.1 s.2.1 with ⟨j,_⟩ | ⟨i,w,j,_⟩
  ·omega
  rw [cond_false,j]
  exact jmp d h s (by simpa using f) i w j k
 ·have l:s.1=5:=by simpa using f
  obtain ⟨m,z⟩:=jow n l
  rw [cond_true,jjQ d h s l z b.2.2.2 m]
  unfold j1H
  rw [g,f,cond_false,cond_true]
  cases q:(j0b d.1 s.2.2.2.2 != 0)
  ·rw [cond_false,cond_false,jpR h m (by simpa using q)]
  ·rfl
end Go.PI.G
namespace Go.PI.G
open Go Go.PI Go.Proofs
theorem jq9 (b:Int) (s:ST) (a z:Res):j6X b s (λ_=>a) (λ_=>z)=bif decide (b<0)&& !((s.1==5)&&(s.2.2.2.2.1==1)) then z else a:=by
 unfold j6X
 cases decide (b<0)
 ·rfl
 ·rw [cond_true,Bool.true_and]
  unfold bne
  cases (s.1==5)
  ·rfl
  ·cases (s.2.2.2.2.1==1)<;>rfl
theorem jlU (t:T) (h:msr yT t<=1048576) (l:List (List V)) (s:ST) (k:List (List V)->Int->Res):j54 l 0 s.1 s t k=k (j2i t l s).1 (j2i t l s).2:=by
 unfold j54 j2i
 cases (s.1==1)
 ·rw [cond_false,cond_false]
  cases (s.1==2)
  ·rw [cond_false,cond_false]
   cases (s.1==3)
   ·rfl
   ·rw [cond_true,cond_true,jkN t h]
  ·rw [cond_true,cond_true,jkP t h]
 ·rw [cond_true,cond_true,jkO t h]
theorem jji (d:DB) (h:dbB d=true) (x:D) (A:dSm x) (E:j0S x=true) (k:DB->Int->Res) :
  j53 d x k=bif j0b d.1 x != 0 then k ([],[]) (j0b d.1 x) else k (j0T d.1 x,jgG d x) 0:=by
 obtain ⟨y,Y,K⟩:=(j1x d).1 h
 have R:=((j0d _).1 y).1
 unfold j53
 rw [jmN _ _ (jbK y) A,jlE y E]
 cases I:(j0b d.1 x != 0)
 rotate_left
 ·rw [cond_true]
  dsimp only
  rw [I,cond_true,cond_true]
 have f:j0b d.1 x=0:=by simpa using I
 have l:=jjh y E f
 have P:=((j0d _).1 l).1
 rw [cond_false,cond_false]
 show (j11 d λW=>j0i d.1 x.2.1 λX=>j2f X x.1 d x (j0T d.1 x) W λH=>k (j0T d.1 x,H.2) 0)=_
 rw [jeE d h,j6U _ _ (by unfold LIM;omega)]
 unfold j2f jgG
 cases w:(x.1==1)
 ·rw [cond_false,cond_false]
  rcases j0u d.1 x.2.1 with ⟨B,_⟩ | ⟨i,z,B,G⟩
  ·unfold j0b at f
   rw [w,cond_false,decide_eq_true (by omega),cond_true] at f
   cases f
  ·have r:i<d.2.length:=by omega
   rw [B,Int.toNat_natCast]
   cases J:(x.1==2)
   ·have ht:j03 d.1[i]=true:=((j0d _).1 y).2.1 _ (List.getElem_mem z)
    have F:msr yT d.1[i]<=1048576:=Nat.le_trans (jaj ht) (by omega)
    have Q:j0n d.1[i] x=0:=by
     unfold j0b at f
     rw [w,cond_false,B,decide_eq_false (show ¬ (i:Int)<0 by omega),cond_false,Zay _ _ _ z] at f
     exact f
    rw [cond_false,cond_false,j00 z,cond_true,j00 r,cond_true,Zay _ _ _ z,Zay _ _ _ r,jjk _ F _ (K i z r) _ A E G.symm (by simpa using w),Q,J,cond_true,ZaF]
    rfl
   ·rw [cond_true,cond_true]
    unfold j4i ja8
    rw [j01 (n:=(i:Int)+1) (by omega),show Z8e (i:Int) ((i:Int)+1) d.2.length=true from j6R (j:=i+1) ⟨by omega,by omega⟩,cond_true,List.eraseIdx_eq_take_drop_succ]
    rfl
 ·rw [cond_true,cond_true]
  simp only [Z9Q]
  have C:∃ p:Nat,p<=d.2.length/\j04 (j0T d.1 x) x.2.1=(p:Int):=by
   have e:x.1=1:=by simpa using w
   have b:=f
   unfold j0b at b
   rw [w,cond_true] at b
   rcases j0u d.1 x.2.1 with ⟨B,T⟩ | ⟨i,z,B,_⟩
   rotate_left
   ·rw [decide_eq_false (by omega)] at b
    cases b
   have ht:j03 (x.2.1,x.2.2.1,x.2.2.2.1)=true:=by
    obtain ⟨_,⟨t,cs,ks,rfl,ht⟩ | ⟨t,rfl⟩ | ⟨t,c,rfl,_⟩ | ⟨t,n,rfl,_⟩ | ⟨t,n,m,rfl,_⟩⟩:=j7k E
    ·exact ht
    all_goals exact absurd e (by simp)
   have L:d.1.length<6:=by
    rw [decide_eq_true (by omega),Bool.not_true,cond_false] at b
    rcases Nat.lt_or_ge d.1.length 6 with q | q
    ·exact q
    ·rw [show (d.1.length==6)=true from beq_iff_eq.2 (by omega)] at b
     cases b
   obtain ⟨p,U,g,_⟩:=jm2 y ht (show j04 d.1 x.2.1<0 by omega) L
   refine ⟨p,by omega,?_⟩
   unfold j0T
   rw [w,cond_true]
   exact g
  obtain ⟨p,U,g⟩:=C
  rw [j6U _ _ (by unfold LIM;omega),g]
  unfold j1i jdy
  have M:jhs (p:Int) d.2.length [([]:List (List V))].length=true:=decide_eq_true ⟨by omega,by omega,by simp,by simp;unfold LIM;omega⟩
  rw [M,cond_true,Int.toNat_natCast,List.append_assoc]
  rfl
theorem jmO (d:DB) (h:dbB d=true) (s:ST) (p:j1d s) (D:stB s=true) (k:DB->Int->Res):j8X d s k=k (j1H d s).1 (j1H d s).2:=by
 obtain ⟨q,E,F⟩:=(j1x d).1 h
 have B:=((j0d _).1 q).1
 unfold j8X
 rw [j6U _ _ (by unfold LIM;omega),jq9]
 cases f:(decide (j04 d.1 s.2.1<0)&& !((s.1==5)&&(s.2.2.2.2.1==1)))
 rotate_left
 ·unfold j1H
  rw [f]
  rfl
 rw [cond_false]
 cases g:(s.1==5)
 ·unfold j1H
  rw [f,g,cond_false,cond_false,cond_false]
  rw [g,Bool.false_and,Bool.not_false,Bool.and_true] at f
  have A:¬ j04 d.1 s.2.1<0:=of_decide_eq_false f
  rcases j0u d.1 s.2.1 with ⟨r,_⟩ | ⟨i,j,r,_⟩
  ·omega
  have b:i<d.2.length:=by omega
  have ht:j03 d.1[i]=true:=((j0d _).1 q).2.1 _ (List.getElem_mem j)
  have m:msr yT d.1[i]<=1048576:=Nat.le_trans (jaj ht) (by omega)
  have y:=jn6 (t:=d.1[i]) (l:=d.2[i]) (s:=s)
  unfold j9d
  rw [r]
  simp only [j00 j,j00 b,cond_true,Z9Q]
  rw [Zay _ _ _ j,Zay _ _ _ b,jlU _ m]
  cases f:((j2i d.1[i] d.2[i] s).2 != 0)
  ·rw [cond_false,cond_false,jeE d h,j00 b,cond_true,ZaF,Int.toNat_natCast]
  ·rw [cond_true,cond_true,j01 (n:=10+(j2i d.1[i] d.2[i] s).2) (by omega)]
 ·have w:s.1=5:=by simpa using g
  obtain ⟨z,G⟩:=jow D w
  have C:=jie d.1 s.2.2.2.2
  rw [cond_true,jji d h _ p.2.2.2 z]
  unfold j1H
  rw [f,g,cond_false,cond_true]
  cases y:(j0b d.1 s.2.2.2.2 != 0)
  ·rfl
  ·rw [cond_true,cond_true,cond_true,j01 (n:=10+j0b d.1 s.2.2.2.2) (by omega)]
end Go.PI.G
namespace Go.PI.G
open Go Go.PI Go.Proofs
theorem jmq (d:DB) (h:dbB d=true) (s:ST) (b:j1d s) (f:stB s=false) (k:DB->Int->Res):j77 d s k=k ([],[]) 1:=by
 unfold j77
 rw [jgy d (jif h),h,Bool.not_true,cond_false,jgB s b,f]
 rfl
theorem jjR (d:DB) (p:msr yDB d<=1048576) (l:List ST) (z:l.length<=1048576) (j:∀ s∈l,j1d s) (k:DB->Int->Int->Res):j2a d l k=k (j0x d l).1 (j0x d l).2.1 (j0x d l).2.2:=by
 unfold j2a j0x
 rw [jgy d p]
 cases h:dbB d
 ·rfl
 rw [Bool.not_true,cond_false,cond_false,jiY d h]
 unfold j6F
 have:=Z3Z l (λi (a:DB)=>(i,a)) j7C (λ_ a=>dbB a=true) (step:=j4H l (nI l.length)) ((λ(now:DB)=>k now 0 0),(λ(t:Int) (r:Int)=>k ([],[]) t r)) (λa=>k a 0 0) (λe=>k ([],[]) e.1 e.2) d (by unfold LIM;omega) h (λi a w f b q=>ji5 b q) (λi a rec f b=>by
  show j2E _ _ _ _ _ _ _=_
  unfold j2E j7C
  dsimp only
  have g:=j _ (List.getElem_mem f)
  rw [ZaQ f,cond_true,j00 f,cond_true,Zay _ _ _ f]
  cases m:stB l[i]
  ·rw [jmq a b _ g m]
   rfl
  ·rw [jmW a b _ g m,Bool.not_true,cond_false]
   cases y:((j1H a l[i]).2 != 0)
   ·rw [cond_false,cond_false,j01 (n:=(i:Int)+1) (by omega)]
   ·rfl) (λa rec b=>by
  show j2E _ _ _ _ _ _ _=_
  unfold j2E
  dsimp only
  rw [ZaP,cond_false])
 refine this.trans ?_
 cases Z1S j7C 0 l d<;>rfl
theorem jjj (d:DB) (p:msr yDB d<=1048576) (l:List ST) (z:l.length<=1048576) (j:∀ s∈l,j1d s) (k:DB->Int->Int->Res):j25 d l k=k (j0x d l).1 (j0x d l).2.1 (j0x d l).2.2:=by
 unfold j25 j0x
 rw [jod d p]
 cases h:dbB d
 ·rfl
 rw [Bool.not_true,cond_false,cond_false,jeE d h]
 unfold j9a
 have:=Z3Z l (λi (a:DB)=>(i,a)) j7C (λ_ a=>dbB a=true) (step:=j2u l (nI l.length)) ((λ(now:DB)=>k now 0 0),(λ(t:Int) (r:Int)=>k ([],[]) t r)) (λa=>k a 0 0) (λe=>k ([],[]) e.1 e.2) d (by unfold LIM;omega) h (λi a w b g q=>ji5 g q) (λi a rec b g=>by
  show j1y _ _ _ _ _ _ _=_
  unfold j1y j7C
  dsimp only
  have f:=j _ (List.getElem_mem b)
  rw [ZaQ b,cond_true,j00 b,cond_true,Zay _ _ _ b,jk5 _ f]
  cases m:stB l[i]
  ·rfl
  ·rw [Bool.not_true,cond_false,cond_false,jmO a g _ f m]
   cases y:((j1H a l[i]).2 != 0)
   ·rw [cond_false,cond_false,j01 (n:=(i:Int)+1) (by omega)]
   ·rfl) (λa rec g=>by
  show j1y _ _ _ _ _ _ _=_
  unfold j1y
  dsimp only
  rw [ZaP,cond_false])
 refine this.trans ?_
 cases Z1S j7C 0 l d<;>rfl
end Go.PI.G
namespace Go.PI.G
open Go Go.PI
theorem jqf {d:D} (h:msr yD d<=1048576):dSm d:=by
 have j:msr yD d=0+(d.2.1.size+(msr (.slice yC) d.2.2.1+(msr (.slice .str) d.2.2.2.1+(d.2.2.2.2.1.size+d.2.2.2.2.2.size)))):=rfl
 have b:msr (.slice yC) d.2.2.1<=1048576:=by omega
 have f:msr (.slice .str) d.2.2.2.1<=1048576:=by omega
 refine ⟨by omega,j0M b,j0M f,λc g=> ?_,λx i=>j1U f i,by omega,by omega⟩
 have:=j1U b g
 have k:msr yC c=c.1.size+msr (.pair (.int .i64) (.pair .bool (.pair .bool yV))) c.2:=rfl
 omega
theorem jqa {s:ST} (h:msr yST s<=1048576):j1d s:=by
 have f:msr yST s=0+(s.2.1.size+(msr (.slice yV) s.2.2.1+(msr (.slice yV) s.2.2.2.1+msr yD s.2.2.2.2))):=rfl
 have b:msr (.slice yV) s.2.2.1<=1048576:=by omega
 have d:msr (.slice yV) s.2.2.2.1<=1048576:=by omega
 exact ⟨by omega,j0M b,j0M d,jqf (by omega)⟩
end Go.PI.G
namespace Go.PI.G
noncomputable section
open Go Go.PI
theorem jp2 (l:List Int) (n:Int):j1R l n=true↔n∈l:=by
 unfold j1R
 rw [List.any_eq_true]
 constructor
 ·rintro ⟨x,b,h⟩
  rw [beq_iff_eq] at h
  exact h ▸ b
 ·intro h
  exact ⟨n,h,by simp⟩
def jlz (l:List RC) (x:Int):Int:=Z9F (λr=>(r.1==1)&&(r.2.1==x)) l
def jg4 (l:List RC) (p:Int):Bool:=j1R (ja7 l) p
theorem jlB (l:List RC) (p:Int):jg4 l p=true↔j8x l=true/\∃ (i:Nat) (h:i<l.length),p=(i:Int)+1/\l[i].1=3:=by
 unfold jg4 ja7
 rw [jp2]
 cases j8x l
 ·simp
 ·rw [cond_true,jn8 l 0]
  simp
theorem jn7 (l:List RC) (p:Int):jg4 l p=(j8x l&&(decide (1<=p/\p<=(l.length:Int))&&((nth zRC l (p-1)).1==3))):=by
 rw [Bool.eq_iff_iff,jlB,Bool.and_eq_true,Bool.and_eq_true,decide_eq_true_eq,beq_iff_eq]
 refine and_congr_right λ_=>⟨?_,?_⟩
 ·rintro ⟨i,d,f,b⟩
  refine ⟨by omega,?_⟩
  rw [show p-1=(i:Int) by omega,Zay _ _ _ d,b]
 ·rintro ⟨f,b⟩
  obtain ⟨i,rfl⟩:∃ i:Nat,p=(i:Int)+1:=⟨(p-1).toNat,by omega⟩
  have d:i<l.length:=by omega
  refine ⟨i,d,rfl,?_⟩
  rw [show (i:Int)+1-1=(i:Int) by omega,Zay _ _ _ d] at b
  exact b
theorem jpQ {l:List RC} (h:j8x l=true) {i:Nat} (E:i<l.length) (D:l[i].1=3):∃ (j:Nat) (F:j<i),jlz l l[i].2.1=(j:Int)/\(l[j]'(by omega)).2.1=l[i].2.1:=by
 obtain ⟨d,w,_⟩:=jm5 h (i+1)
 obtain ⟨B,g,_⟩:=jm5 h i
 rw [jkf _ _ _ E,g] at w
 have b:j4E (l.take i) B l[i]= .ok d:=w
 unfold j4E at b
 cases C:jal l[i]<;>rw [C] at b
 ·cases b
 rw [Bool.not_true,cond_false,show (l[i].1==1)=false by rw [D];rfl,cond_false] at b
 cases q:j1R (j1m (l.take i)) l[i].2.1<;>rw [q] at b
 ·cases b
 have A:=jke _ _ _ rfl q
 unfold j4S at A
 obtain ⟨r,I,z⟩:=List.any_eq_true.1 A
 obtain ⟨m,H,k⟩:=List.getElem_of_mem I
 rw [List.length_take] at H
 rw [List.getElem_take] at k
 rcases j5J (λr:RC=>(r.1==1)&&(r.2.1==l[i].2.1)) l with ⟨_,p⟩ | ⟨j,F,e,y,n⟩
 ·have:=p (l[m]'(by omega)) (List.getElem_mem _)
  rw [k,z] at this
  cases this
 ·have G:j<=m:=by
   rcases Nat.lt_or_ge m j with f | f
   ·have:=n m f
    rw [k,z] at this
    cases this
   ·exact f
  refine ⟨j,by omega,e,?_⟩
  rw [Bool.and_eq_true,beq_iff_eq,beq_iff_eq] at y
  exact y.2
def jaL (l:List RC) (p:Int):Int:=bif jg4 l p then jlz l (nth zRC l (p-1)).2.1+1 else 0
def jee (l:List RC) (p:Int):Int:=bif jaL l p==0 then 0 else (((((l.take p.toNat).drop (jaL l p-1).toNat).filter λr=>(r.2.1 != (nth zRC l (p-1)).2.1)).length:Nat):Int)
theorem jbx (l:List RC) (p:Int):(jaL l p=0/\jg4 l p=false)\/∃ (i j:Nat) (b:i<l.length) (d:j<i),jg4 l p=true/\p=(i:Int)+1/\jaL l p=(j:Int)+1/\jlz l l[i].2.1=(j:Int)/\(l[j]'(by omega)).2.1=l[i].2.1/\nth zRC l (p-1)=l[i]:=by
 cases h:jg4 l p
 ·left
  unfold jaL
  rw [h]
  exact ⟨rfl,rfl⟩
 ·right
  obtain ⟨k,i,b,rfl,m⟩:=(jlB l p).1 h
  obtain ⟨j,d,e,g⟩:=jpQ k b m
  have f:nth zRC l ((i:Int)+1-1)=l[i]:=by rw [show (i:Int)+1-1=(i:Int) by omega,Zay _ _ _ b]
  refine ⟨i,j,b,d,rfl,rfl,?_,e,g,f⟩
  unfold jaL
  rw [h,cond_true,f,e]
end
end Go.PI.G
namespace Go.PI.G
open Go Go.PI Go.Proofs
theorem jp9 {l:List RC} (h:msr (.slice yRC) l<=1048576):l.length<=1048576/\∀ r∈l,j1d r.2.2:=
 ⟨j0M h,λr b=>by
  have e:msr yRC r=0+(0+msr yST r.2.2):=rfl
  have:=j1U (e:=yRC) h b
  exact jqa (by omega)⟩
theorem jg9 {n:Nat} (h:n<=1048576):lim (0+n)=true:=ZaL (by unfold LIM;omega)
theorem jnR (s:ST) (h:j1d s) (k:ST->Res):j9I s k=k s:=by
 obtain ⟨g,d,f,b⟩:=h
 unfold j9I j0t
 simp only [jg9 d,jg9 f,jg9 b.2.1,jg9 b.2.2.1,cond_true]
 try rfl
theorem jny (s:ST) (h:j1d s) (k:ST->Res):j66 s k=k s:=by
 obtain ⟨g,d,f,b⟩:=h
 unfold j66 j0O j9c j32
 simp only [jg9 d,jg9 f,jg9 b.2.1,jg9 b.2.2.1,cond_true]
 try rfl
theorem jdG (l:List Int) (n:Int) (h:l.length<=1048576) (k:Bool->Res):j23 l n k=k (j1R l n):=by
 unfold j23 jeq j1R
 have:=Za2 l (λi=>i) (λx=>x==n) (step:=j8I n l (nI l.length)) ((λ(_:Unit)=>k false),(λ(_:Unit)=>k true)) (k false) (k true) (by unfold LIM;omega) (λi rec b=>by
  show j3I _ _ _ _ _ _ _=_
  unfold j3I
  rw [ZaQ b,cond_true,j00 b,cond_true,Zay _ _ _ b,j01 (n:=(i:Int)+1) (by omega)]) (λrec=>by
  show j3I _ _ _ _ _ _ _=_
  unfold j3I
  rw [ZaP,cond_false])
 refine this.trans ?_
 cases l.any λx=>x==n<;>rfl
theorem jh1 (l:List Int) (n:Int) (h:l.length<=1048576) (k:Bool->Res):j0X l n k=k (j1R l n):=by
 unfold j0X j8C ja3 j1R
 have:=Z9S l (λi=>i) (λx=>n==x) (step:=j5s l n (nI l.length)) ((λ(_:Unit)=>k (decide ((-1:Int)>=0))),(λ(t:Int)=>k (decide (t>=0)))) (λr=>k (decide (r>=0))) (by unfold LIM;omega) (λi rec b=>by
  show j1h _ _ _ _ _ _ _=_
  unfold j1h
  rw [ZaQ b,cond_true,j00 b,cond_true,Zay _ _ _ b,j01 (n:=(i:Int)+1) (by omega)]) (λrec=>by
  show j1h _ _ _ _ _ _ _=_
  unfold j1h
  rw [ZaP,cond_false])
 refine this.trans ?_
 rw [jlN]
 have:(λx:Int=>n==x)=λx=>x==n:=by funext x;exact Bool.eq_iff_iff.2 (by rw [beq_iff_eq,beq_iff_eq];exact eq_comm)
 rw [this]
theorem jgY {α:Type} (p:α->Bool):(j:Nat)->(l:List α)->Z4r (λ_ x=>bif p x then [x] else []) j l=l.filter p
 | _,[]=>rfl
 | j,x::l=>by
  show (bif p x then [x] else [])++Z4r _ (j+1) l=_
  rw [jgY p (j+1) l]
  cases h:p x
  ·rw [List.filter_cons_of_neg (by rw [h];simp)];rfl
  ·rw [List.filter_cons_of_pos h];rfl
theorem jpN {α:Type} (b:Bool) (x:α):(bif b then [x] else []).length<=1:=by cases b<;>simp
theorem jnK (l:List Int) (n:Int) (h:l.length<=1048576) (k:List Int->Res):j6p l n k=k (l.filter λy=> !(y==n)):=by
 unfold j6p jep
 have:=Za3 l (λ_ x=>bif !(x==n) then [x] else []) (λi b=>(b,i)) (step:=j8H n l (nI l.length)) (λb=>k b) k (by unfold LIM;omega) (λ_ x=>jpN _ _) (λb i rec d f=>by
  show j3H _ _ _ _ _ _ _=_
  unfold j3H
  dsimp only
  rw [ZaQ d,cond_true,j00 d,cond_true,Zay _ _ _ d,j01 (n:=(i:Int)+1) (by omega),ZaL (by unfold LIM;omega),cond_true]
  unfold bne
  cases l[i]==n
  ·rfl
  ·show _=rec (b++[],_)
   rw [List.append_nil]
   rfl) (λb rec=>by
  show j3H _ _ _ _ _ _ _=_
  unfold j3H
  dsimp only
  rw [ZaP,cond_false])
 refine this.trans ?_
 rw [jgY]
theorem jn1 (l:List RC) (h:l.length<=1048576) (k:List Int->Res):j93 l k=k (j1m l):=by
 unfold j93 jgC j1m
 refine Z8i l (λi b=>(b,i)) j8h (λi a=>a.length<=i) (step:=j7A l (nI l.length)) (λb=>k b) k [] (by unfold LIM;omega) (by simp) (λi a d f=>Nat.le_trans (jkc _ _) (by omega)) (λi a rec d f=>by
  show j36 _ _ _ _ _ _=_
  unfold j36 j9C
  dsimp only
  rw [ZaQ d,cond_true,j00 d,cond_true,Zay _ _ _ d,j01 (n:=(i:Int)+1) (by omega),jdG _ _ (by omega),ZaL (by unfold LIM;omega),cond_true]
  generalize l[i]=r
  unfold j8h
  cases g:r.1==1
  ·rw [cond_false,cond_false,jnK _ _ (by omega)]
   cases r.1==3
   ·rw [cond_false,Bool.false_or]
    cases r.1==4<;>rfl
   ·rfl
  ·have e:r.1=1:=by simpa using g
   have j:(r.1==3)=false:=by rw [e];rfl
   have m:(r.1==4)=false:=by rw [e];rfl
   rw [cond_true,cond_true,j,m]
   cases j1R a r.2.1<;>rfl) (λa rec f=>by
  show j36 _ _ _ _ _ _=_
  unfold j36
  dsimp only
  rw [ZaP,cond_false])
theorem jn3 (l:List RC) (x:Int) (h:l.length<=1048576) (k:Bool->Res):jaV l x k=k (j4S l x):=by
 unfold jaV jgD j4S
 have:=Za2 l (λi=>i) (λr:RC=>(r.1==1)&&(r.2.1==x)) (step:=jaw x l (nI l.length)) ((λ(_:Unit)=>k false),(λ(_:Unit)=>k true)) (k false) (k true) (by unfold LIM;omega) (λi rec b=>by
  show j5y _ _ _ _ _ _ _=_
  unfold j5y
  rw [ZaQ b,cond_true,j00 b,cond_true,Zay _ _ _ b,j01 (n:=(i:Int)+1) (by omega)]
  cases l[i].1==1<;>rfl) (λrec=>by
  show j5y _ _ _ _ _ _ _=_
  unfold j5y
  rw [ZaP,cond_false])
 refine this.trans ?_
 cases l.any λr:RC=>(r.1==1)&&(r.2.1==x)<;>rfl
theorem jjT (l:List RC) (x:Int) (h:l.length<=1048576) (f:∀ r∈l,j1d r.2.2) (k:List ST->Res):j5x l x k=k (j2R l x):=by
 unfold j5x jd3 j2R
 refine Za3 l (jgE x) (λi b=>(b,i)) (step:=j7Q x l (nI l.length)) (λb=>k b) k (by unfold LIM;omega) (ji6 x) (λb i rec d g=>by
  show j2I _ _ _ _ _ _ _=_
  unfold j2I jgE
  dsimp only
  rw [ZaQ d,cond_true,j00 d,cond_true,Zay _ _ _ d,jnR _ (f _ (List.getElem_mem d)),j01 (n:=(i:Int)+1) (by omega),ZaL (by unfold LIM;omega),cond_true]
  cases l[i].1==2
  ·show _=rec (b++[],_)
   rw [List.append_nil]
   rfl
  ·cases l[i].2.1==x
   ·show _=rec (b++[],_)
    rw [List.append_nil]
    rfl
   ·rfl) (λb rec=>by
  show j2I _ _ _ _ _ _ _=_
  unfold j2I
  dsimp only
  rw [ZaP,cond_false])
theorem jjl (l:List RC) (x:Int) (h:l.length<=1048576) (f:∀ r∈l,j1d r.2.2) (k:List ST->Res):j52 l x k=k (j2R l x):=by
 unfold j52 jcT j2R
 refine Za3 l (jgE x) (λi b=>(b,i)) (step:=j7J x l (nI l.length)) (λb=>k b) k (by unfold LIM;omega) (ji6 x) (λb i rec d g=>by
  show j2y _ _ _ _ _ _ _=_
  unfold j2y jgE
  dsimp only
  rw [ZaQ d,cond_true,j00 d,cond_true,Zay _ _ _ d,jny _ (f _ (List.getElem_mem d)),j01 (n:=(i:Int)+1) (by omega),ZaL (by unfold LIM;omega),cond_true]
  cases l[i].1==2
  ·show _=rec (b++[],_)
   rw [List.append_nil]
   rfl
  ·cases l[i].2.1==x
   ·show _=rec (b++[],_)
    rw [List.append_nil]
    rfl
   ·rfl) (λb rec=>by
  show j2y _ _ _ _ _ _ _=_
  unfold j2y
  dsimp only
  rw [ZaP,cond_false])
theorem jjV {α:Type} (l:List α) (i:Nat):sub l 0 (i:Int)=l.take i:=jjU l 0 i
theorem jhq {i n:Nat} (h:i<=n):Z8e 0 (i:Int) n=true:=j6R (i:=0) ⟨Nat.zero_le _,h⟩
theorem jgJ {l:List RC} (d:∀ r∈l,j1d r.2.2) (i:Nat):∀ r∈l.take i,j1d r.2.2:=λr b=>d r (List.mem_of_mem_take b)
theorem j5X {l:List RC} (h:l.length<=1048576) (i:Nat):(l.take i).length<=1048576:=by rw [List.length_take];omega
theorem jox {l:List RC} (f:∀ r∈l,j1d r.2.2) (x:Int):∀ s∈j2R l x,j1d s:=λs b=>by
 obtain ⟨r,d,rfl⟩:=jnS b
 exact f r d
theorem joq (l:List RC) (h:l.length<=1048576) (i:Nat) (f:i<=l.length) (r:RC) (j:j1d r.2.2) (k:Bool->Res) :
  j2m l (i:Int) r k=k (!jal r||(bif r.1==1 then j4S (l.take i) r.2.1 else !j1R (j1m (l.take i)) r.2.1)):=by
 unfold j2m
 have g:(j1m (l.take i)).length<=1048576:=Nat.le_trans (jkd _) (j5X h i)
 rw [jnQ _ j,jhq f,cond_true,cond_true,jjV,jn3 _ _ (j5X h i),jn1 _ (j5X h i)]
 simp only [jdG _ _ g]
 cases jal r
 ·rfl
 cases d:r.1==1
 ·have b:(r.1 != 1)=true:=by unfold bne;rw [d];rfl
  rw [b]
  rfl
 ·have b:(r.1 != 1)=false:=by unfold bne;rw [d];rfl
  rw [b]
  cases j4S (l.take i) r.2.1<;>rfl
theorem jmt (l:List RC) (h:l.length<=1048576) (b:∀ r∈l,j1d r.2.2) (i:Nat) (g:i<=l.length) (d:DB) (f:dbB d=true) (r:RC) (k:Int->DB->Res) :
  j2n l (i:Int) d r k=k (j0x d (j2R (l.take i) r.2.1)).2.1 (j0x d (j2R (l.take i) r.2.1)).1:=by
 unfold j2n
 rw [jhq g,cond_true]
 simp only [Z9Q]
 rw [jjV,jjT _ _ (j5X h i) (jgJ b i),jjR d (jif f) _ (Nat.le_trans (jj2 _ _) (j5X h i)) (jox (jgJ b i) _)]
theorem jlT (l:List RC) (h:l.length<=1048576) (b:∀ r∈l,j1d r.2.2) (i:Nat) (g:i<=l.length) (d:DB) (f:dbB d=true) (r:RC) (k:Int->DB->Res) :
  j56 l (i:Int) d r k=k (j0x d (j2R (l.take i) r.2.1)).2.1 (j0x d (j2R (l.take i) r.2.1)).1:=by
 unfold j56
 rw [jhq g,cond_true]
 simp only [Z9Q]
 rw [jjV,jjl _ _ (j5X h i) (jgJ b i),jjj d (jif f) _ (Nat.le_trans (jj2 _ _) (j5X h i)) (jox (jgJ b i) _)]
theorem jqe (n:Nat):decide (nI n<=400)=decide (n<=400):=decide_eq_decide.2 (by unfold nI;omega)
theorem jpG (n:Nat):decide (nI n>400)= !decide (n<=400):=by
 by_cases h:n<=400
 ·rw [decide_eq_true h,decide_eq_false (by unfold nI;omega)];rfl
 ·rw [decide_eq_false h,decide_eq_true (by unfold nI;omega)];rfl
theorem jn2 (l:List RC) (h:l.length<=1048576) (g:∀ r∈l,j1d r.2.2) (k:DB->Bool->Res) :
  j9G l k=match j2h zDB l with | .ok d=>k d (decide (l.length<=400)) | .error _=>k ([],[]) false:=by
 unfold j9G j9H
 rw [jqe]
 refine (Z3Z l (λi (a:DB)=>(i,a)) (λi d r=>j4E (l.take i) d r) (λ_ a=>dbB a=true) (step:=j4Q l l (nI l.length)) ((λ(d:DB)=>k d (decide (l.length<=400))),(λ(_:Unit)=>k ([],[]) false)) (λa=>k a (decide (l.length<=400))) (λ_=>k ([],[]) false) zDB (by unfold LIM;omega) jc2 (λi a q b f g=>ji0 f g) (λi a rec b f=>by
  show j1D _ _ _ _ _ _ _ _=_
  unfold j1D j4E
  dsimp only
  have j:=g _ (List.getElem_mem b)
  rw [ZaQ b,cond_true,j00 b,cond_true,Zay _ _ _ b,joq l h i (by omega) _ j,jmt l h g i (by omega) a f,j01 (n:=(i:Int)+1) (by omega)]
  generalize l[i]=r
  cases jal r
  ·rfl
  cases p:r.1==1
  ·cases j1R (j1m (l.take i)) r.2.1
   ·rfl
   ·cases r.1==3
    ·rfl
    ·cases m:(j0x a (j2R (l.take i) r.2.1)).2.1 != 0
     ·simp only [cond_true,cond_false,Bool.not_true,Bool.or_false,m]
     ·simp only [cond_true,cond_false,Bool.not_true,Bool.or_false,m]
  ·cases j4S (l.take i) r.2.1
   ·have e:r.1=1:=by simpa using p
    rw [e]
    rfl
   ·rfl) (λa rec f=>by
  show j1D _ _ _ _ _ _ _ _=_
  unfold j1D
  dsimp only
  rw [ZaP,cond_false])).trans ?_
 unfold j2h
 cases Z1S (λi d r=>j4E (l.take i) d r) 0 l zDB<;>rfl
end Go.PI.G
namespace Go.PI.G
open Go Go.PI Go.Proofs
theorem jpT (o:List Int) (r:RC) (h:o.length<=1048576) (k:List Int->RC->Res):j1e o r k=k (o.filter λy=> !(y==r.2.1)) r:=by
 unfold j1e
 rw [ZaL (by unfold LIM;omega),cond_true,jlG (g:=λe k=>jeI e r k) (λy=>y==r.2.1) o (λy b k=>rfl) [],List.nil_append]
noncomputable def jmD (l:List RC) (i:Int) (d:DB):List Int×List Int×Int×DB:=(j1m (l.take i.toNat),j6M (l.take i.toNat),i,d)
theorem jn4 (l:List RC) (i:Nat) (b:i<l.length) (d:DB):jmD l ((i:Int)+1) d=(j8h (j1m (l.take i)) l[i],(bif l[i].1==1 then j6M (l.take i)++[l[i].2.1] else j6M (l.take i)),(i:Int)+1,d):=by
 unfold jmD
 rw [show ((i:Int)+1).toNat=i+1 by omega,List.take_succ_eq_append_getElem b,jiG,jnT]
theorem jmT (d:DB) (B:dbB d=true) (l:List RC) (h:l.length<=1048576) (p:∀ r∈l,j1d r.2.2) (k:DB->Bool->Res) :
  jcV d l k=match j2h d l with | .ok d=>k d true | .error _=>k ([],[]) false:=by
 unfold jcV jc7 jg7
 refine (Z3Z l (jmD l) (λi d r=>j4E (l.take i) d r) (λ_ a=>dbB a=true) (step:=j7q l l (nI l.length)) ((λ(f:DB)=>k f true),(λ(_:Unit)=>k ([],[]) false)) (λa=>k a true) (λ_=>k ([],[]) false) d (by unfold LIM;omega) B (λi a F b m p=>ji0 m p) (λi a rec b m=>by
  show j33 l l (nI l.length) (j1m (l.take (i:Int).toNat)) (j6M (l.take (i:Int).toNat)) (i:Int) a (λo u j d=>rec (o,u,j,d)) (λf=>k f true) (λ_=>k ([],[]) false)=_
  have y:=p _ (List.getElem_mem b)
  have A:(j1m (l.take i)).length<=1048576:=Nat.le_trans (jkd _) (j5X h i)
  have D:(j6M (l.take i)).length<=1048576:=Nat.le_trans (joF _) (j5X h i)
  unfold j33 j6Y j4E
  simp only [jn4 l i b]
  rw [Int.toNat_natCast,ZaQ b,cond_true,j00 b,cond_true,Zay _ _ _ b,jnx _ y,jh1 _ _ D,jh1 _ _ A,joE,j01 (n:=(i:Int)+1) (by omega),ZaL (by unfold LIM;omega),ZaL (by unfold LIM;omega),cond_true,cond_true]
  simp only [jlT l h p i (by omega) a m,jpT _ _ A]
  generalize l[i]=r
  cases C:jal r
  ·rfl
  rw [Bool.not_true,cond_false,cond_false]
  cases q:r.1==1
  ·rw [cond_false,cond_false]
   cases j1R (j1m (l.take i)) r.2.1
   ·rfl
   rw [Bool.not_true,cond_false,cond_false]
   unfold j8h
   rw [q,cond_false,cond_false]
   cases z:r.1==3
   ·rw [cond_false,cond_false,Bool.false_or]
    unfold bne
    cases g:r.1==2
    ·have K:=(jnF C).1
     have w:(r.1==4)=true:=by
      rw [beq_iff_eq]
      have G:r.1≠1:=by simpa using q
      have H:r.1≠2:=by simpa using g
      have I:r.1≠3:=by simpa using z
      omega
     rw [w]
     rfl
    ·have w:(r.1==4)=false:=by
      have:r.1=2:=by simpa using g
      rw [this];rfl
     rw [w]
     rfl
   ·have g:(r.1 != 2)=true:=by
     have:r.1=3:=by simpa using z
     rw [this];rfl
    rw [cond_true,cond_true,Bool.true_or]
    cases J:(j0x a (j2R (l.take i) r.2.1)).2.1 != 0
    ·rw [cond_false,cond_false,g]
     rfl
    ·rfl
  ·rw [cond_true,cond_true]
   cases E:j4S (l.take i) r.2.1
   ·unfold j8h
    rw [q,cond_true,cond_true,jnE E]
    rfl
   ·rfl) (λa rec m=>by
  show j33 l l (nI l.length) (j1m (l.take ((l.length:Nat):Int).toNat)) (j6M (l.take ((l.length:Nat):Int).toNat)) (l.length:Int) a (λo u j d=>rec (o,u,j,d)) (λf=>k f true) (λ_=>k ([],[]) false)=_
  unfold j33
  rw [ZaP,cond_false])).trans ?_
 unfold j2h
 cases Z1S (λi d r=>j4E (l.take i) d r) 0 l d<;>rfl
theorem jnN (l:List RC) (h:l.length<=1048576) (d:∀ r∈l,j1d r.2.2) (k:Bool->Res):j9B l k=k (j8x l):=by
 unfold j9B j8x
 rw [jpG]
 cases b:decide (l.length<=400)
 ·rfl
 rw [Bool.not_true,cond_false,jn2 l h d,b]
 cases j2h zDB l<;>rfl
theorem jnw (l:List RC) (h:l.length<=1048576) (d:∀ r∈l,j1d r.2.2) (k:Bool->Res):j9b l k=k (j8x l):=by
 unfold j9b j8x
 rw [jpG]
 cases b:decide (l.length<=400)
 ·rfl
 rw [Bool.not_true,cond_false,jmT _ jc2 l h d]
 cases j2h zDB l<;>rfl
end Go.PI.G
namespace Go.PI.G
open Go Go.PI Go.Proofs
theorem jnL (l:List RC) (h:l.length<=1048576) (f:∀ r∈l,j1d r.2.2) (k:List Int->Res):j5t l k=k (ja7 l):=by
 unfold j5t ja7
 rw [jnN l h f]
 cases j8x l
 ·rfl
 unfold j9A
 refine Za3 l jdt (λi b=>(b,i)) (step:=j4G l (nI l.length)) (λb=>k b) k (by unfold LIM;omega) jlC (λb i rec d g=>by
  show j2D _ _ _ _ _ _=_
  unfold j2D jdt
  dsimp only
  rw [ZaQ d,cond_true,j00 d,cond_true,Zay _ _ _ d,j01 (n:=(i:Int)+1) (by omega),ZaL (by unfold LIM;omega),cond_true]
  cases l[i].1==3
  ·show _=rec (b++[],_)
   rw [List.append_nil]
   rfl
  ·rfl) (λb rec=>by
  show j2D _ _ _ _ _ _=_
  unfold j2D
  dsimp only
  rw [ZaP,cond_false])
end Go.PI.G
namespace Go.PI.G
open Go Go.PI Go.Proofs
noncomputable def jnJ (l:List RC) (p:Int):List RC:=bif jaL l p==0 then [] else (l.take p.toNat).drop (jaL l p-1).toNat
theorem jnt (j:Nat):(((j:Int)+1)==0)=false:=by simp;omega
theorem jmX (l:List RC) (h:l.length<=1048576) (w:∀ r∈l,j1d r.2.2) (p:Int) (k:Int->Res):j5D l p k=k (jaL l p):=by
 unfold j5D
 rw [jnL l h w,jdG _ _ (Nat.le_trans (jlD l) h)]
 show (bif !jg4 l p then _ else _)=_
 rcases jbx l p with ⟨e,b⟩ | ⟨i,j,g,y,b,A,e,q,B,z⟩
 ·rw [b,e];rfl
 rw [b,e,Bool.not_true,cond_false]
 have f:Z9K (p-1)=(i:Int):=by rw [j01 (by omega)];omega
 unfold j9J
 refine Z9S l (λi=>i) (λr:RC=>(r.1==1)&&(r.2.1==l[i].2.1)) (step:=j4R l p l (nI l.length)) ((λ(_:Unit)=>k 0),(λ(t:Int)=>k t)) (λv=>k (v+1)) (by unfold LIM;omega) (λm rec d=>by
  show j2Q _ _ _ _ _ _ _ _=_
  unfold j2Q
  rw [ZaQ d,cond_true,j00 d,cond_true,Zay _ _ _ d,f,j00 g,cond_true,Zay _ _ _ g,j01 (n:=(m:Int)+1) (by omega)]
  cases l[m].1==1
  ·rfl
  ·cases l[m].2.1==l[i].2.1<;>rfl) (λrec=>by
  show j2Q _ _ _ _ _ _ _ _=_
  unfold j2Q
  rw [ZaP,cond_false]
  rfl) |>.trans ?_
 show k (jlz l l[i].2.1+1)=_
 rw [q]
theorem jlV (l:List RC) (h:l.length<=1048576) (L:∀ r∈l,j1d r.2.2) (p:Int) (k:List RC->Res):j8Y l p k=k (jnJ l p):=by
 unfold j8Y jnJ
 rw [jnw l h L,j4t]
 rcases jbx l p with ⟨e,b⟩ | ⟨i,j,A,P,b,K,e,H,R,J⟩
 ·rw [e]
  rw [jn7] at b
  cases C:j8x l
  ·rfl
  rw [C,Bool.true_and] at b
  rw [Bool.not_true,cond_false]
  have D:decide (1<=p/\p<=nI l.length)=decide (1<=p/\p<=(l.length:Int)):=rfl
  rw [D]
  cases z:decide (1<=p/\p<=(l.length:Int))
  ·rfl
  rw [z,Bool.true_and] at b
  have Q:=of_decide_eq_true z
  rw [Bool.not_true,cond_false,j01 (n:=p-1) (by omega),ZaK (by omega) (by omega),cond_true]
  unfold bne
  rw [b]
  rfl
 ·rw [jn7,Bool.and_eq_true,Bool.and_eq_true] at b
  obtain ⟨C,z,E⟩:=b
  have D:decide (1<=p/\p<=nI l.length)=true:=z
  have q:Z9K (p-1)=(i:Int):=by rw [j01 (by omega)];omega
  rw [J] at E
  have d:inb (i:Int) l.length=true:=j00 A
  rw [C,Bool.not_true,cond_false,D,Bool.not_true,cond_false,q,d,cond_true,Zay _ _ _ A,e,jnt,cond_false]
  unfold bne
  rw [E,Bool.not_true,cond_false]
  unfold jc6
  have f:j<l.length:=by omega
  have y:(l[j].1==1&&l[j].2.1==l[i].2.1)=true/\∀ (m:Nat) (F:m<j),((l[m]'(by omega)).1==1&&(l[m]'(by omega)).2.1==l[i].2.1)=false:=by
   unfold jlz at H
   rcases j5J (λr:RC=>(r.1==1)&&(r.2.1==l[i].2.1)) l with ⟨B,_⟩ | ⟨M,I,B,w,G⟩
   ·omega
   ·have:M=j:=by omega
    subst this
    exact ⟨w,G⟩
  refine Z3u (step:=j7p l p l (nI l.length)) (λi=>(i:Int)) j ((λ(_:Unit)=>k []),(λ(t:List RC)=>k t)) _ (λm F rec=>by
   have g:m<l.length:=by omega
   show j55 _ _ _ _ _ _ _ _=_
   unfold j55
   rw [ZaQ g,cond_true,j00 g,cond_true,Zay _ _ _ g,q,d,cond_true,Zay _ _ _ A,j01 (n:=(m:Int)+1) (by omega)]
   have:=y.2 m F
   cases B:l[m].1==1
   ·rfl
   ·rw [B,Bool.true_and] at this
    rw [this]
    rfl) (λrec=>by
   show j55 _ _ _ _ _ _ _ _=_
   unfold j55
   have w:=y.1
   rw [Bool.and_eq_true] at w
   rw [ZaQ f,cond_true,j00 f,cond_true,Zay _ _ _ f,q,d,cond_true,Zay _ _ _ A,w.1,w.2,cond_true,cond_true,K,show ((i:Int)+1)=((i+1:Nat):Int) by omega,j6R ⟨by omega,by omega⟩,cond_true,jjU,Int.toNat_natCast,show ((j:Int)+1-1).toNat=j by omega]) Z1c (Z2b (by omega))
end Go.PI.G
namespace Go.PI.G
open Go Go.PI Go.Proofs
theorem jnr {α:Type} (q:α->Bool) (l:List α) (x:α):(((l++[x]).filter q).length:Int)=(bif q x then ((l.filter q).length:Int)+1 else ((l.filter q).length:Int)):=by
 rw [List.filter_append,List.length_append]
 cases h:q x
 ·rw [List.filter_cons_of_neg (by rw [h];simp)];simp
 ·rw [List.filter_cons_of_pos h];simp
noncomputable def j6Z (l:List RC) (i j m:Nat):Int:=((((l.drop j).take m).filter λr=>r.2.1 != (nth zRC l (i:Int)).2.1).length:Nat)
theorem jk9 (l:List RC) (i j:Nat):j6Z l i j 0=0:=by unfold j6Z;rw [List.take_zero];rfl
theorem jk8 (l:List RC) (i j m:Nat) (h:j+m<l.length):j6Z l i j (m+1)=bif l[j+m].2.1 != (nth zRC l (i:Int)).2.1 then j6Z l i j m+1 else j6Z l i j m:=by
 unfold j6Z
 have b:m<(l.drop j).length:=by rw [List.length_drop];omega
 rw [List.take_succ_eq_append_getElem b,jnr,List.getElem_drop]
theorem jni (l:List RC) (i j m:Nat):j6Z l i j m<=(m:Int)/\0<=j6Z l i j m:=by
 unfold j6Z
 have b:=List.length_filter_le (λr:RC=>r.2.1 != (nth zRC l (i:Int)).2.1) ((l.drop j).take m)
 rw [List.length_take] at b
 omega
theorem jnj {l:List RC} {p:Int} {i j:Nat} (b:p=(i:Int)+1) (e:jaL l p=(j:Int)+1):jee l p=j6Z l i j (i+1-j):=by
 unfold jee j6Z
 rw [e,jnt,cond_false,b,show ((i:Int)+1).toNat=i+1 by omega,show ((j:Int)+1-1).toNat=j by omega,List.take_drop,show (i:Int)+1-1=(i:Int) by omega]
 by_cases h:j<=i+1
 ·rw [show j+(i+1-j)=i+1 by omega]
 ·rw [show i+1-j=0 by omega,List.drop_eq_nil_of_le (by rw [List.length_take];omega),List.drop_eq_nil_of_le (by rw [List.length_take];omega)]
theorem jms (l:List RC) (h:l.length<=1048576) (z:∀ r∈l,j1d r.2.2) (p:Int) (k:Int->Res):j7z l p k=k (jee l p):=by
 unfold j7z
 rw [jmX l h z]
 unfold jbg
 rcases jbx l p with ⟨e,q⟩ | ⟨i,j,w,B,q,y,e,A,D,C⟩
 ·unfold jee
  rw [e]
  obtain ⟨m,f⟩:=jeA
  rw [f,Z9Y]
  show j1r _ _ _ _ _ _=_
  unfold j1r
  rfl
 ·rw [jnj y e,e]
  have d:Z9K (p-1)=(i:Int):=by rw [j01 (by omega)];omega
  have:=Z3u (step:=j6G l p) (λm=>(j6Z l i j m,(j:Int)+1+m)) (i+1-j) (λn=>k n) (k (j6Z l i j (i+1-j))) (λm f rec=>by
   have b:j+m<l.length:=by omega
   have g:=jni l i j m
   show j1r _ _ _ _ _ _=_
   unfold j1r
   dsimp only
   rw [decide_eq_true (by omega),cond_true,decide_eq_true (by omega),cond_true,d,j01 (n:=(j:Int)+1+(m:Int)-1) (by omega),show (j:Int)+1+(m:Int)-1=((j+m:Nat):Int) by omega,j00 b,cond_true,j00 w,cond_true,Zay _ _ _ b,jk8 l i j m b,j01 (n:=j6Z l i j m+1) (by omega),j01 (n:=(j:Int)+1+(m:Int)+1) (by omega),show (j:Int)+1+(m:Int)+1=(j:Int)+1+((m+1:Nat):Int) by omega]
   cases l[j+m].2.1 != (nth zRC l (i:Int)).2.1<;>rfl) (λrec=>by
   show j1r _ _ _ _ _ _=_
   unfold j1r
   dsimp only
   rw [decide_eq_true (by omega),cond_true,decide_eq_false (by omega),cond_false]) Z1c (Z2b (by omega))
  rw [jk9] at this
  exact this
theorem jlR (l:List RC) (h:l.length<=1048576) (B:∀ r∈l,j1d r.2.2) (p:Int) (k:Int->Res):j7n l p k=k (jee l p):=by
 unfold j7n
 rw [jlV l h B]
 unfold jnJ
 rcases jbx l p with ⟨e,z⟩ | ⟨i,j,A,F,z,q,e,D,C,G⟩
 ·unfold jee j8g
  rw [e]
  obtain ⟨m,f⟩:=jeA
  rw [f,Z9Y]
  show j1n _ _ _ _ _ _ _=_
  unfold j1n
  rfl
 ·rw [jnj q e,e,jnt,cond_false,q,show ((i:Int)+1).toNat=i+1 by omega,show ((j:Int)+1-1).toNat=j by omega]
  have d:((l.take (i+1)).drop j).length=i+1-j:=by rw [List.length_drop,List.length_take];omega
  have b:∀ (m:Nat) (f:m<i+1-j),nth zRC ((l.take (i+1)).drop j) (m:Int)=l[j+m]'(by omega):=by
   intro m f
   rw [Zay _ _ _ (by omega),List.getElem_drop,List.getElem_take]
  generalize E:(l.take (i+1)).drop j=s at d b
  unfold j8g
  have w:(nth zRC s 0).2.1=(nth zRC l (i:Int)).2.1:=by
   have:=b 0 (by omega)
   rw [show ((0:Nat):Int)=0 from rfl] at this
   rw [this,Zay _ _ _ A]
   exact C
  have:=Z3u (step:=j6u s s (nI s.length)) (λm=>(j6Z l i j m,(m:Int))) (i+1-j) (λn=>k n) (k (j6Z l i j (i+1-j))) (λm f rec=>by
   have g:j+m<l.length:=by omega
   have y:=jni l i j m
   show j1n _ _ _ _ _ _ _=_
   unfold j1n
   dsimp only
   rw [ZaQ (by omega),cond_true,j00 (by omega),cond_true,ZaK (i:=0) (by omega) (by omega),cond_true,w,b m f,jk8 l i j m g,j01 (n:=j6Z l i j m+1) (by omega),j01 (n:=(m:Int)+1) (by omega)]
   cases l[j+m].2.1 != (nth zRC l (i:Int)).2.1<;>rfl) (λrec=>by
   show j1n _ _ _ _ _ _ _=_
   unfold j1n
   dsimp only
   rw [<-d,ZaP,cond_false]) Z1c (Z2b (by omega))
  rw [jk9] at this
  exact this
end Go.PI.G
namespace Go.PI.G
open Go Go.PI Go.Proofs
end Go.PI.G
set_option maxRecDepth 10000
namespace Go.PI.G
open Go Go.PI Go.Proofs
theorem jmz (a:Int×Int×ByteArray) (h:msr y2 a<=1048576) (k:qV->Res):j9m a k=k a:=by
 unfold j9m
 rfl
theorem jmw (a:Int×Int×ByteArray) (left:Int) (h:0<=left) (i:left<=1048576) (g:Wf y2 a) (k:Int->Res):j9k a left k=k (szR left (msr y2 a)):=by
 have f:msr y2 a=ByteArray.size a.2.2+0:=by simp only [msr]<;>omega
 rw [f]
 unfold j9k
 have d:ByteArray.size a.2.2<=maxLen:=g.2.2
 unfold maxLen at d
 rw [j01 (by unfold nI;omega)]
 by_cases b:((ByteArray.size a.2.2:Nat):Int)<=left
 rotate_left
 ·rw [Zal b,Za5 (by unfold nI;omega),cond_true]
 rw [Za4 (by unfold nI;omega),cond_false,Zak b,show left-nI (ByteArray.size a.2.2)=left-((ByteArray.size a.2.2:Nat):Int) from rfl]
 exact jes (by omega)
theorem jlI (a:Int×Int×ByteArray) (h:msr y2 a<=1048576) (k:Bool->Res):j9i a a k=k true:=by
 unfold j9i
 simp only [ZaO,Zai,beq_self_eq_true,cond_false,Bool.not_true]
end Go.PI.G
namespace Go.PI.G
open Go Go.PI Go.Proofs
theorem jpy (a:ByteArray×Int×Bool×Bool×Int×Int×ByteArray) (h:msr y7 a<=1048576) (k:qC->Res):jbD a k=k a:=by
 have b:msr y2 a.2.2.2.2<=1048576:=(Nat.le_trans (@j07 .bool y2 a.2.2.2) (Nat.le_trans (@j07 .bool y4 a.2.2) (Nat.le_trans (@j07 (.int .i64) y5 a.2) (Nat.le_trans (@j07 .str y6 a) h))))
 unfold jbD
 simp only [jmz _ b]
theorem jps (a:ByteArray×Int×Bool×Bool×Int×Int×ByteArray) (left:Int) (i:0<=left) (j:left<=1048576) (g:Wf y7 a) (k:Int->Res):jbB a left k=k (szR left (msr y7 a)):=by
 have h:msr y7 a=ByteArray.size a.1+(msr y2 a.2.2.2.2+0):=by simp only [msr]<;>omega
 rw [h]
 unfold jbB
 have f:ByteArray.size a.1<=maxLen:=g.1
 unfold maxLen at f
 rw [j01 (by unfold nI;omega)]
 by_cases d:((ByteArray.size a.1:Nat):Int)<=left
 rotate_left
 ·rw [Zal d,Za5 (by unfold nI;omega),cond_true]
 rw [Za4 (by unfold nI;omega),cond_false,Zak d,show left-nI (ByteArray.size a.1)=left-((ByteArray.size a.1:Nat):Int) from rfl]
 rw [jmw _ _ (by omega) (by omega) g.2.2.2.2]
 by_cases b:((msr y2 a.2.2.2.2:Nat):Int)<=left-(ByteArray.size a.1:Nat)
 rotate_left
 ·rw [Zaz b,Zal b,Za5 (by omega),cond_true]
 rw [ZaA b,Zak b,Za4 (by omega),cond_false]
 exact jes (by omega)
theorem joV (a:ByteArray×Int×Bool×Bool×Int×Int×ByteArray) (h:msr y7 a<=1048576) (k:Bool->Res):jbz a a k=k true:=by
 have b:msr y2 a.2.2.2.2<=1048576:=(Nat.le_trans (@j07 .bool y2 a.2.2.2) (Nat.le_trans (@j07 .bool y4 a.2.2) (Nat.le_trans (@j07 (.int .i64) y5 a.2) (Nat.le_trans (@j07 .str y6 a) h))))
 unfold jbz
 simp only [ZaO,Zai,beq_self_eq_true,cond_false,Bool.not_true,jlI _ b]
end Go.PI.G
namespace Go.PI.G
open Go Go.PI Go.Proofs
theorem joB (a:qE) (h:msr y8 a<=1048576) (k:qE->Res):j87 a k=k a:=by
 have g:a.length<=1048576:=j0M h
 unfold j87
 rw [Zav (by unfold LIM;omega),cond_true]
 have:=ZaC ((eS,0,false,false,0,0,eS)) a id (step:=j8u a) (λb=>k b) (by unfold LIM;omega) (λb i rec d f=>by
  show j3p a _ _ _ _=_
  unfold j3p
  dsimp only
  simp only [ZaQ d,cond_true,j00 d,j00 (show i<b.length by omega),Zay _ _ _ d,ZaF,j01 (n:=(i:Int)+1) (by omega),jpy _ (j1U h (List.getElem_mem d))]
  rfl) (λb rec=>by
  show j3p a _ _ _ _=_
  unfold j3p
  dsimp only
  rw [ZaP,cond_false])
 rw [List.map_id] at this
 exact this
theorem joy (a:qE) (left:Int) (g:0<=left) (h:left<=1048576) (l:Wf y8 a) (k:Int->Res):j84 a left k=k (szR left (msr y8 a)):=by
 have j:a.length<=maxLen:=l.1
 have p:msr y8 a=a.length+(a.map (msr y7)).sum:=rfl
 rw [p]
 unfold j84
 refine jj3 (F:=λq=>jag a Z1c q 0 (λd=>k d) (λ_=>k (-1))) (k:=k) g h j λb=> ?_
 unfold jag
 rw [ZaB (msr y7) a _ (by omega) (λleft i rec f g h=> ?_) (λleft rec=> ?_) _ (by omega) (by omega)]
 ·by_cases b:(((a.map (msr y7)).sum:Nat):Int)<=left-a.length
  ·rw [if_pos b,ZaA b]
  ·rw [if_neg b,Zaz b]
 ·show j3m a _ _ _ _ _=_
  have r:=l.2 _ (List.getElem_mem f)
  unfold j3m
  rw [ZaQ f,cond_true,j00 f,cond_true,Zay _ _ _ f,jps _ _ g h r]
  have m:(i:Int)<4611686018427387904:=by unfold maxLen at j;omega
  rw [j01 (n:=(i:Int)+1) (by omega)]
  by_cases b:((msr y7 a[i]:Nat):Int)<=left
  ·rw [if_pos b,ZaA b,Za4 (by omega),cond_false]
  ·rw [if_neg b,Zaz b,Za5 (by omega),cond_true]
 ·show j3m a _ _ _ _ _=_
  unfold j3m
  rw [ZaP,cond_false]
theorem jo9 (a:qE) (h:msr y8 a<=1048576) (k:Bool->Res):j81 a a k=k true:=by
 have d:a.length<=1048576:=j0M h
 unfold j81
 rw [ZaO,cond_false]
 unfold jeb
 rw [Zar a _ (by unfold LIM;omega) (λi rec b=> ?_) (λrec=> ?_)]
 ·show j3j a a _ _ _ _=_
  unfold j3j
  simp only [ZaQ b,cond_true,j00 b,Zay _ _ _ b,j01 (n:=(i:Int)+1) (by omega),ZaO,Zai,cond_false,Bool.not_true,joV _ (j1U h (List.getElem_mem b))]
 ·show j3j a a _ _ _ _=_
  unfold j3j
  rw [ZaP,cond_false]
end Go.PI.G
namespace Go.PI.G
open Go Go.PI Go.Proofs
theorem jmy (a:(List ByteArray)) (h:msr y0 a<=1048576) (k:(List ByteArray)->Res):j59 a k=k a:=by
 have g:a.length<=1048576:=j0M h
 unfold j59
 rw [Zav (by unfold LIM;omega),cond_true]
 have:=ZaC (eS) a id (step:=j6q a) (λb=>k b) (by unfold LIM;omega) (λb i rec d f=>by
  show j1L a _ _ _ _=_
  unfold j1L
  dsimp only
  simp only [ZaQ d,cond_true,j00 d,j00 (show i<b.length by omega),Zay _ _ _ d,ZaF,j01 (n:=(i:Int)+1) (by omega)]
  rfl) (λb rec=>by
  show j1L a _ _ _ _=_
  unfold j1L
  dsimp only
  rw [ZaP,cond_false])
 rw [List.map_id] at this
 exact this
theorem jmv (a:(List ByteArray)) (left:Int) (j:0<=left) (l:left<=1048576) (p:Wf y0 a) (k:Int->Res):j58 a left k=k (szR left (msr y0 a)):=by
 have m:a.length<=maxLen:=p.1
 have r:msr y0 a=a.length+(a.map (msr .str)).sum:=rfl
 rw [r]
 unfold j58
 refine jj3 (F:=λq=>j7L a Z1c q 0 (λd=>k d) (λ_=>k (-1))) (k:=k) j l m λb=> ?_
 unfold j7L
 rw [ZaB (msr .str) a _ (by omega) (λleft i rec f j l=> ?_) (λleft rec=> ?_) _ (by omega) (by omega)]
 ·by_cases b:(((a.map (msr .str)).sum:Nat):Int)<=left-a.length
  ·rw [if_pos b,ZaA b]
  ·rw [if_neg b,Zaz b]
 ·show j1K a _ _ _ _ _=_
  have h:=p.2 _ (List.getElem_mem f)
  unfold j1K
  have h:a[i].size<=maxLen:=h
  unfold maxLen at h m
  rw [ZaQ f,cond_true,j00 f,cond_true,Zay _ _ _ f,j01 (n:=left-nI a[i].size) (by unfold nI;omega),j01 (n:=(i:Int)+1) (by omega)]
  unfold nI
  by_cases b:((msr .str a[i]:Nat):Int)<=left
  ·have g:(a[i].size:Int)<=left:=b
   rw [if_pos b,Za4 (by omega),cond_false];rfl
  ·have g:¬ (a[i].size:Int)<=left:=b
   rw [if_neg b,Za5 (by omega),cond_true]
 ·show j1K a _ _ _ _ _=_
  unfold j1K
  rw [ZaP,cond_false]
theorem jlH (a:(List ByteArray)) (h:msr y0 a<=1048576) (k:Bool->Res):j57 a a k=k true:=by
 have d:a.length<=1048576:=j0M h
 unfold j57
 rw [ZaO,cond_false]
 unfold jbt
 rw [Zar a _ (by unfold LIM;omega) (λi rec b=> ?_) (λrec=> ?_)]
 ·show j1J a a _ _ _ _=_
  unfold j1J
  simp only [ZaQ b,cond_true,j00 b,Zay _ _ _ b,j01 (n:=(i:Int)+1) (by omega),ZaO,Zai,cond_false,Bool.not_true]
 ·show j1J a a _ _ _ _=_
  unfold j1J
  rw [ZaP,cond_false]
end Go.PI.G
