/-
  Program's code interpreted over typed values; printed texts; plain laws. No conditions.
-/
import Derived.Test.YtnemiodjnhfejaaGreatLTl
import Derived.Test.YtnemiodjnhfejaaGreatLTj
import Derived.Test.YtnemiodjnhfejaaGreatLTh
import Derived.Test.YtnemiodjnhfejaaGreatLTk
import Derived.Test.YtnemiodjnhfejaaGreatLTi
set_option linter.unusedVariables false
set_option linter.unusedSimpArgs false
namespace Go.PI.G
open Go Go.PI Go.Proofs
theorem jrW (b:Int) (s:ST) (a z:Res):j7B b s (λ_=>a) (λ_=>z)=bif decide (b<0)&& !((s.1==5)&&(s.2.2.2.2.1==1)) then z else a:=by
 unfold j7B
 cases decide (b<0)
 ·rfl
 ·rw [cond_true,Bool.true_and]
  unfold bne
  cases (s.1==5)
  ·rfl
  ·cases (s.2.2.2.2.1==1)<;>rfl
theorem joN {t:T} {l:List (List V)} {s:ST}:0<=(j2q t l s).2/\(j2q t l s).2<=5:=by
 unfold j2q j5v j5w j5u
 cases (s.1==1)
 ·cases (s.1==2)
  ·cases (s.1==3)
   ·simp
   ·simp only [cond_true,cond_false]
    cases j08 t l
    ·simp
    ·cases (!j9Y t s.2.2.1||decide (j06 t l s.2.2.1<0))<;>simp
  ·simp only [cond_true,cond_false]
   cases j08 t l
   ·simp
   ·cases j0n t.2.1 s.2.2.2.1
    ·simp
    ·cases (!j9Y t s.2.2.1||decide (j06 t l s.2.2.1<0))
     ·cases !decide (j06 t (l.eraseIdx (j06 t l s.2.2.1).toNat) (j05 t s.2.2.2.1)<0)<;>simp
     ·simp
 ·simp only [cond_true,cond_false]
  cases j08 t l
  ·simp
  ·cases j0n t.2.1 s.2.2.2.1
   ·simp
   ·cases !decide (j06 t l (j05 t s.2.2.2.1)<0)
    ·cases (l.length==60)<;>simp
    ·simp
theorem jo3 (d:DB) (h:dbB d=true) (s:ST) (q:s.1≠5) (i:Nat) (f:i<d.1.length) (g:j04 d.1 s.2.1=(i:Int)) (k:DB->Int->Res) :
  (bif inb (i:Int) d.1.length then
          bif inb (i:Int) d.2.length then
           j1a (nth zT d.1 (i:Int)) (nth [] d.2 (i:Int)) s λ(w:List (List V)) (r:Int)=>
            bif (r != 0) then
             k ([],[]) (Z9K (10+r))
            else
             j1B d λ(m:DB)=>
              bif inb (i:Int) (List.length m.2) then
               k (m.1,upd m.2 (i:Int) w) 0
              else none
          else none
         else none)=k (j1S d s).1 (j1S d s).2:=by
 obtain ⟨p,y,z⟩:=(j1E d).1 h
 have b:i<d.2.length:=by omega
 have B:=(jcQ (jcz p)).2 _ (List.getElem_mem f)
 have ht:j03 d.1[i]=true:=((j0d _).1 p).2.1 _ (List.getElem_mem f)
 have j:msr yT d.1[i]<=1048576:=Nat.le_trans (jb5 ht) (by omega)
 rw [j00 f,cond_true,j00 b,cond_true,Zay _ _ _ f,Zay _ _ _ b,jo7 _ j _ _ q]
 unfold j1S
 rw [g,decide_eq_false (by omega),Bool.false_and,cond_false,show (s.1==5)=false by simpa using q,cond_false,Zay _ _ _ f,Zay _ _ _ b]
 have A:=joN (t:=d.1[i]) (l:=d.2[i]) (s:=s)
 cases C:((j2q d.1[i] d.2[i] s).2 != 0)
 ·rw [cond_false,cond_false,jkv d h,j00 b,cond_true,ZaF,Int.toNat_natCast]
 ·rw [cond_true,cond_true,j01 (n:=10+(j2q d.1[i] d.2[i] s).2) (by omega)]
end Go.PI.G
namespace Go.PI.G
open Go Go.PI Go.Proofs
noncomputable def j8O (d:DB) (x:D) (u:T):List (List V):=
 bif decide (j04 d.1 u.1>=0)&&sEq u.1 x.2.1 then (bif x.1==2 then [] else jet (nth zT d.1 (j04 d.1 u.1)) x (nth [] d.2 (j04 d.1 u.1)))
 else bif decide (j04 d.1 u.1>=0) then nth [] d.2 (j04 d.1 u.1) else []
theorem jpv (d:DB) (h:dbB d=true) (s:ST) (z:s.1=5) (B:s.2.2.2.2.2.1=s.2.1) (q:dSm s.2.2.2.2) (E:j0V s.2.2.2.2=true) (l:j0b d.1 s.2.2.2.2=0) (u:T) (k:List (List V)->Res) :
  (j2c d.1 u.1 λ(r:Int)=>j30 r s u λ(t:Bool)=>j1N r t d s [] k)=k (j8O d s.2.2.2.2 u):=by
 obtain ⟨C,J,D⟩:=(j1E d).1 h
 obtain ⟨_,G,_,g⟩:=jiJ h
 rw [jdf _ _ (by unfold LIM;omega)]
 unfold j30 j1N j8O
 rw [B]
 rcases j0x d.1 u.1 with ⟨p,_⟩ | ⟨i,n,p,A⟩
 ·rw [p]
  rfl
 ·have w:decide (j04 d.1 u.1>=0)=true:=decide_eq_true (by omega)
  have f:i<d.2.length:=by omega
  rw [w,Bool.true_and,cond_true,p,j00 n,j00 f,Zay _ _ _ n,Zay _ _ _ f]
  cases H:sEq u.1 s.2.1
  ·obtain ⟨K,I⟩:=g _ (List.getElem_mem f)
   simp only [cond_false,cond_true]
   rw [jhR _ (by omega) I]
  ·have b:u.1=s.2.1:=(j0a _ _).1 H
   have ht:j03 d.1[i]=true:=((j0d _).1 C).2.1 _ (List.getElem_mem n)
   have y:msr yT d.1[i]<=1048576:=Nat.le_trans (jb5 ht) (by omega)
   have m:j04 d.1 s.2.2.2.2.2.1=(i:Int):=by rw [B,<-b];exact p
   have j:s.2.2.2.2.1≠1:=λe=>by
    unfold j0b at l
    rw [e,m] at l
    rw [decide_eq_false (show ¬ (i:Int)<0 by omega)] at l
    cases l
   have F:j0r d.1[i] s.2.2.2.2=0:=by
    unfold j0b at l
    rw [show (s.2.2.2.2.1==1)=false by simpa using j,cond_false,m,decide_eq_false (show ¬ (i:Int)<0 by omega),cond_false,Zay _ _ _ n] at l
    exact l
   simp only [cond_true]
   unfold j1a
   rw [z]
   simp only [show ((5:Int)==1)=false from rfl,show ((5:Int)==2)=false from rfl,show ((5:Int)==3)=false from rfl,show ((5:Int)==5)=true from rfl,cond_false,cond_true,Z9Q]
   rw [jly _ y _ (D i n f) _ q E (by rw [B,<-b];exact A.symm) j,F]
   rfl
theorem jnj {c:List T} {d:D} (b:j21 c=true) (f:j0V d=true):jeu c d=bif j0b c d != 0 then ([],j0b c d) else (j0W c d,0):=by
 unfold jeu
 rw [b,f]
 rfl
theorem jjJ (c:List T) (d:D):0<=j0b c d/\j0b c d<=8:=by
 unfold j0b j0r
 cases (d.1==1)
 ·cases decide (j04 c d.2.1<0)
  ·generalize nth zT c (j04 c d.2.1)=t
   cases (d.1==3)
   ·cases (d.1==4)
    ·cases (d.1==5)
     ·simp
     ·cases decide (j02 t.2.1 d.2.2.2.2.2<0)
      ·simp
      ·cases decide (j02 t.2.1 d.2.2.2.2.1<0)<;>simp
    ·cases decide (j02 t.2.1 d.2.2.2.2.1<0)
     ·cases t.2.2.any (λx=>sEq x d.2.2.2.2.1)<;>simp
     ·simp
   ·cases decide (j02 t.2.1 (nth zC d.2.2.1 0).1<0)
    ·simp
    ·cases (t.2.1.length==8)<;>simp
  ·simp
 ·cases decide (j04 c d.2.1<0)
  ·simp
  ·cases (c.length==6)<;>simp
theorem jlw (d:DB) (h:dbB d=true) (s:ST) (q:s.1=5) (y:s.2.2.2.2.2.1=s.2.1) (j:dSm s.2.2.2.2) (p:j0V s.2.2.2.2=true) (k:DB->Int->Res) :
  j3o d s k=bif j0b d.1 s.2.2.2.2 != 0 then k ([],[]) (10+j0b d.1 s.2.2.2.2) else k (j0W d.1 s.2.2.2.2,(j0W d.1 s.2.2.2.2).map (j8O d s.2.2.2.2)) 0:=by
 obtain ⟨m,z,A⟩:=(j1E d).1 h
 have D:=jjJ d.1 s.2.2.2.2
 unfold j3o
 rw [jip _ _ (jcz m) j,jnj m p]
 cases r:(j0b d.1 s.2.2.2.2 != 0)
 rotate_left
 ·rw [cond_true]
  dsimp only
  rw [r,cond_true,cond_true,j01 (n:=10+j0b d.1 s.2.2.2.2) (by omega)]
 have g:j0b d.1 s.2.2.2.2=0:=by simpa using r
 have f:=jkY m p g
 have w:=((j0d _).1 f).1
 rw [cond_false,cond_false]
 show (j57 (j0W d.1 s.2.2.2.2) (nI (j0W d.1 s.2.2.2.2).length) d s Z1c 0 (j0W d.1 s.2.2.2.2,[]) λb=>k b 0)=_
 generalize j0W d.1 s.2.2.2.2=c' at *
 unfold j57
 have:=Z9T c' (λi b=>(i,(c',b))) (λu=>[j8O d s.2.2.2.2 u]) 6 [] (step:=j20 c' (nI c'.length) d s) (λb=>k b 0) (λb=>k (c',b) 0) (by unfold LIM;omega) (λi l _=>by
  rw [jdL,List.nil_append,List.length_map,List.length_take];omega) (by simp) (λi b rec l C B=>by
  show j14 _ _ _ _ _ _ _ _=_
  unfold j14
  dsimp only
  rw [ZaQ l,cond_true,j00 l,cond_true,Zay _ _ _ l,jpv d h s q y j p g,ZaL (by unfold LIM;omega),cond_true,j01 (n:=(i:Int)+1) (by omega)]) (λb rec=>by
  show j14 _ _ _ _ _ _ _ _=_
  unfold j14
  dsimp only
  rw [ZaP,cond_false])
 refine this.trans ?_
 rw [jdL,List.nil_append]
end Go.PI.G
namespace Go.PI.G
open Go Go.PI Go.Proofs
theorem jq3 {d:DB} (h:msr yDB d<=1048576):msr (.slice yT) d.1<=1048576/\d.1.length<=1048576/\d.2.length<=1048576/\(∀ t∈d.1,msr yT t<=1048576)/\∀ l∈d.2,l.length<=1048576:=by
 have i:msr yDB d=msr (.slice yT) d.1+msr (.slice (.slice (.slice yV))) d.2:=rfl
 have b:msr (.slice yT) d.1<=1048576:=by omega
 have f:msr (.slice (.slice (.slice yV))) d.2<=1048576:=by omega
 exact ⟨b,j0C b,j0C f,λt ht=>j11 b ht,λl g=>j0C (j11 f g)⟩
theorem jhP (d:DB) (h:msr yDB d<=1048576) (k:Bool->Res):j63 d k=k (dbB d):=by
 obtain ⟨j,m,p,l,q⟩:=jq3 h
 unfold j63 dbB
 rw [jkt _ j]
 cases j21 d.1
 ·rfl
 ·rw [Bool.not_true,cond_false,Bool.true_and]
  by_cases f:d.2.length=d.1.length
  ·have g:(nI d.2.length != nI d.1.length)=false:=by rw [f,ZaO]
   rw [g,cond_false,decide_eq_true f,Bool.true_and]
   unfold jdg
   have:=Z9P d.1 (λi=>i) (λi t=> !j08 t (nth [] d.2 (i:Int))) (step:=j81 d.1 (nI d.1.length) d) ((λ(_:Unit)=>k true),(λ(_:Unit)=>k false)) (k true) (k false) (by unfold LIM;omega) (λi rec b=>by
    show j5O _ _ d _ _ _ _=_
    unfold j5O
    rw [ZaQ b,cond_true,j00 b,cond_true,j00 (f ▸ b),cond_true,Zay _ _ _ b,j6K _ (l _ (List.getElem_mem b)),j01 (n:=(i:Int)+1) (by omega)]) (λrec=>by
    show j5O _ _ d _ _ _ _=_
    unfold j5O
    rw [ZaP,cond_false])
   refine this.trans ?_
   cases Z71 (λi t=> !j08 t (nth [] d.2 (i:Int))) 0 d.1<;>rfl
  ·have g:(nI d.2.length != nI d.1.length)=true:=by unfold nI;simp;omega
   rw [g,cond_true,decide_eq_false f,Bool.false_and]
theorem jpW (d:DB) (h:msr yDB d<=1048576) (k:Bool->Res):j9z d k=k (dbB d):=by
 obtain ⟨j,m,p,l,q⟩:=jq3 h
 unfold j9z dbB
 rw [jjO _ j]
 cases j21 d.1
 ·rfl
 ·rw [Bool.not_true,cond_false,Bool.true_and]
  by_cases f:d.2.length=d.1.length
  ·have g:(nI d.2.length != nI d.1.length)=false:=by rw [f,ZaO]
   rw [g,cond_false,decide_eq_true f,Bool.true_and]
   unfold jcS
   have:=Z9P d.1 (λi=>i) (λi t=> !j08 t (nth [] d.2 (i:Int))) (step:=j7R d.1 (nI d.1.length) d) ((λ(_:Unit)=>k true),(λ(_:Unit)=>k false)) (k true) (k false) (by unfold LIM;omega) (λi rec b=>by
    show j5g _ _ d _ _ _ _=_
    unfold j5g
    rw [ZaQ b,cond_true,j00 b,cond_true,j00 (f ▸ b),cond_true,Zay _ _ _ b,j8y _ (l _ (List.getElem_mem b)),j01 (n:=(i:Int)+1) (by omega)]) (λrec=>by
    show j5g _ _ d _ _ _ _=_
    unfold j5g
    rw [ZaP,cond_false])
   refine this.trans ?_
   cases Z71 (λi t=> !j08 t (nth [] d.2 (i:Int))) 0 d.1<;>rfl
  ·have g:(nI d.2.length != nI d.1.length)=true:=by unfold nI;simp;omega
   rw [g,cond_true,decide_eq_false f,Bool.false_and]
end Go.PI.G
namespace Go.PI.G
open Go Go.PI Go.Proofs
theorem jim {d:DB} (h:dbB d=true) (x:D) {j:Nat} (i:j<d.1.length) (b:j<d.2.length) (k:d.1[j].1≠x.2.1):j8O d x d.1[j]=d.2[j]:=by
 obtain ⟨g,l,m⟩:=(j1E d).1 h
 unfold j8O
 have f:sEq d.1[j].1 x.2.1=false:=by
  cases f:sEq d.1[j].1 x.2.1
  ·rfl
  ·exact absurd ((j0a _ _).1 f) k
 rw [f,Bool.and_false,cond_false,je7 ((j0d _).1 g).2.2 i,decide_eq_true (by omega),cond_true,Zay _ _ _ b]
theorem jqb {d:DB} (h:dbB d=true) (x:D) {i:Nat} (n:i<d.1.length) (q:i<d.2.length) (r:d.1[i].1=x.2.1):d.1.map (j8O d x)=d.2.set i (j8O d x d.1[i]):=by
 obtain ⟨l,m,y⟩:=(j1E d).1 h
 apply List.ext_getElem
 ·simp [m]
 ·intro j w z
  have g:j<d.1.length:=by simpa using w
  rw [List.getElem_map,List.getElem_set]
  by_cases e:i=j
  ·subst e
   rw [if_pos rfl]
  ·rw [if_neg e]
   refine jim h x g (by omega) λk=> ?_
   have p:=((j0d _).1 l).2.2
   have b:=jlo p n g e
   rw [r,k,jcv] at b
   rcases b with f | f<;>cases f
theorem jrv {d:DB} (h:dbB d=true) {x:D} (K:j0V x=true) (A:j0b d.1 x=0):(j0W d.1 x).map (j8O d x)=jhY d x:=by
 obtain ⟨F,J,P⟩:=(j1E d).1 h
 have C:=(j0d _).1 F
 unfold jhY
 cases r:(x.1==1)
 ·rw [cond_false]
  rcases j0x d.1 x.2.1 with ⟨l,_⟩ | ⟨i,B,l,z⟩
  ·unfold j0b at A
   rw [r,cond_false,decide_eq_true (by omega),cond_true] at A
   cases A
  ·have k:i<d.2.length:=by omega
   have g:=jqb h x B k z
   unfold j0W
   rw [r,cond_false,l,Zay _ _ _ B,Zay _ _ _ k,Int.toNat_natCast]
   cases I:(x.1==2)
   ·rw [cond_false,cond_false,List.map_set,g,List.set_set]
    congr 1
    unfold j8O
    rw [jhk,z,Zah,Bool.and_true,l,decide_eq_true (by omega),cond_true,I,cond_false,Zay _ _ _ B,Zay _ _ _ k]
   ·rw [cond_true,cond_true,List.eraseIdx_eq_take_drop_succ,List.eraseIdx_eq_take_drop_succ,List.map_append,List.map_take,List.map_drop,g,List.take_set,List.set_eq_of_length_le (by rw [List.length_take];omega),List.drop_set_of_lt (by omega)]
 ·rw [cond_true]
  have e:x.1=1:=by simpa using r
  have b:=A
  unfold j0b at b
  rw [r,cond_true] at b
  rcases j0x d.1 x.2.1 with ⟨l,E⟩ | ⟨i,B,l,_⟩
  rotate_left
  ·rw [decide_eq_false (by omega)] at b
   cases b
  have ht:j03 (x.2.1,x.2.2.1,x.2.2.2.1)=true:=by
   obtain ⟨_,⟨t,cs,ks,rfl,ht⟩ | ⟨t,rfl⟩ | ⟨t,c,rfl,_⟩ | ⟨t,n,rfl,_⟩ | ⟨t,n,m,rfl,_⟩⟩:=j7P K
   ·exact ht
   all_goals exact absurd e (by simp)
  have G:d.1.length<6:=by
   rw [decide_eq_true (by omega),Bool.not_true,cond_false] at b
   have G:=C.1
   rcases Nat.lt_or_ge d.1.length 6 with q | q
   ·exact q
   ·rw [show (d.1.length==6)=true from beq_iff_eq.2 (by omega)] at b
    cases b
  obtain ⟨p,Q,f,y⟩:=jnH F ht (show j04 d.1 x.2.1<0 by omega) G
  have w:d.1.map (j8O d x)=d.2:=by
   apply List.ext_getElem
   ·simp [J]
   ·intro j L M
    have H:j<d.1.length:=by simpa using L
    rw [List.getElem_map]
    exact jim h x H M (E _ (List.getElem_mem H))
  unfold j0W
  rw [r,cond_true]
  have f:j04 (lay tR (x.2.1,x.2.2.1,x.2.2.2.1) d.1) x.2.1=(p:Int):=f
  rw [f,Int.toNat_natCast,y,List.map_append,List.map_cons,List.map_take,List.map_drop,w]
  congr 2
  unfold j8O
  rw [l]
  rfl
theorem jqS {t:T} {l:List (List V)} (h:j08 t l=true) (n:t.2.1.length<=8):msr (.slice (.slice yV)) l<=14940:=by
 obtain ⟨ht,g,d⟩:=j0i h
 have:=j9C (e:= .slice yV) 248 l (λr b=>by
  have i:=j9C (e:=yV) 30 r (λv f=>jrm (jnQ (d r b) v f))
  have j:=j0t (d r b)
  have k:r.length * (30+1)<=8 * 31:=Nat.mul_le_mul (by omega) (Nat.le_refl _)
  omega)
 have m:l.length * (248+1)<=60 * 249:=Nat.mul_le_mul g (Nat.le_refl _)
 omega
theorem jjK {d:DB} (h:dbB d=true):msr yDB d<=1048576:=by
 obtain ⟨g,m,j⟩:=(j1E d).1 h
 have f:=((j0d _).1 g).1
 have q:=j9C (e:=yT) 400 d.1 (λt ht=>jb5 (((j0d _).1 g).2.1 t ht))
 have n:d.1.length * (400+1)<=6 * 401:=Nat.mul_le_mul f (Nat.le_refl _)
 have r:=j9C (e:= .slice (.slice yV)) 14940 d.2 (λx l=>by
  obtain ⟨i,k,rfl⟩:=List.mem_iff_getElem.1 l
  have b:=j i (by omega) k
  exact jqS b ((j6h _).1 (j0i b).1).2.2.1)
 have p:d.2.length * (14940+1)<=6 * 14941:=Nat.mul_le_mul (by omega) (Nat.le_refl _)
 have e:msr yDB d=msr (.slice yT) d.1+msr (.slice (.slice (.slice yV))) d.2:=rfl
 omega
theorem jqf {s:ST} (d:stB s=true) (f:s.1=5):j0V s.2.2.2.2=true/\s.2.2.2.2.2.1=s.2.1:=by
 unfold stB at d
 rw [f,Bool.and_eq_true] at d
 have b:=d.2
 simp only [show ((5:Int)==1)=false from rfl,show ((5:Int)==2)=false from rfl,show ((5:Int)==3)=false from rfl,show ((5:Int)==4)=false from rfl,show ((5:Int)==5)=true from rfl,cond_false,cond_true,Bool.and_eq_true] at b
 exact ⟨b.2.2.1,(j0a _ _).1 b.2.2.2⟩
theorem joD (d:DB) (h:dbB d=true) (s:ST) (b:j10 s) (n:stB s=true) (k:DB->Int->Res):j7A d s k=k (j1S d s).1 (j1S d s).2:=by
 obtain ⟨p,A,B⟩:=(j1E d).1 h
 have y:=((j0d _).1 p).1
 unfold j7A
 rw [jhP d (jjK h),h,Bool.not_true,cond_false,jhS s b,n,Bool.not_true,cond_false,jdf _ _ (by unfold LIM;omega),jrW]
 cases g:(decide (j04 d.1 s.2.1<0)&& !((s.1==5)&&(s.2.2.2.2.1==1)))
 rotate_left
 ·unfold j1S
  rw [g]
  rfl
 rw [cond_false]
 cases f:(s.1==5)
 ·rw [f,Bool.false_and,Bool.not_false,Bool.and_true] at g
  have r:¬ j04 d.1 s.2.1<0:=of_decide_eq_false g
  rcases j0x d.1 s.2.1 with ⟨j,_⟩ | ⟨i,w,j,_⟩
  ·omega
  rw [cond_false,j]
  exact jo3 d h s (by simpa using f) i w j k
 ·have l:s.1=5:=by simpa using f
  obtain ⟨m,z⟩:=jqf n l
  rw [cond_true,jlw d h s l z b.2.2.2 m]
  unfold j1S
  rw [g,f,cond_false,cond_true]
  cases q:(j0b d.1 s.2.2.2.2 != 0)
  ·rw [cond_false,cond_false,jrv h m (by simpa using q)]
  ·rfl
end Go.PI.G
namespace Go.PI.G
open Go Go.PI Go.Proofs
theorem jrN (b:Int) (s:ST) (a z:Res):j7n b s (λ_=>a) (λ_=>z)=bif decide (b<0)&& !((s.1==5)&&(s.2.2.2.2.1==1)) then z else a:=by
 unfold j7n
 cases decide (b<0)
 ·rfl
 ·rw [cond_true,Bool.true_and]
  unfold bne
  cases (s.1==5)
  ·rfl
  ·cases (s.2.2.2.2.1==1)<;>rfl
theorem jnz (t:T) (h:msr yT t<=1048576) (l:List (List V)) (s:ST) (k:List (List V)->Int->Res):j5p l 0 s.1 s t k=k (j2q t l s).1 (j2q t l s).2:=by
 unfold j5p j2q
 cases (s.1==1)
 ·rw [cond_false,cond_false]
  cases (s.1==2)
  ·rw [cond_false,cond_false]
   cases (s.1==3)
   ·rfl
   ·rw [cond_true,cond_true,jmu t h]
  ·rw [cond_true,cond_true,jmw t h]
 ·rw [cond_true,cond_true,jmv t h]
theorem jkZ (d:DB) (h:dbB d=true) (x:D) (A:dSm x) (E:j0V x=true) (k:DB->Int->Res) :
  j5o d x k=bif j0b d.1 x != 0 then k ([],[]) (j0b d.1 x) else k (j0W d.1 x,jhY d x) 0:=by
 obtain ⟨y,Y,K⟩:=(j1E d).1 h
 have R:=((j0d _).1 y).1
 unfold j5o
 rw [jot _ _ (jcz y) A,jnj y E]
 cases I:(j0b d.1 x != 0)
 rotate_left
 ·rw [cond_true]
  dsimp only
  rw [I,cond_true,cond_true]
 have f:j0b d.1 x=0:=by simpa using I
 have l:=jkY y E f
 have P:=((j0d _).1 l).1
 rw [cond_false,cond_false]
 show (j16 d λW=>j0l d.1 x.2.1 λX=>j2o X x.1 d x (j0W d.1 x) W λH=>k (j0W d.1 x,H.2) 0)=_
 rw [jfO d h,j7j _ _ (by unfold LIM;omega)]
 unfold j2o jhY
 cases w:(x.1==1)
 ·rw [cond_false,cond_false]
  rcases j0x d.1 x.2.1 with ⟨B,_⟩ | ⟨i,z,B,G⟩
  ·unfold j0b at f
   rw [w,cond_false,decide_eq_true (by omega),cond_true] at f
   cases f
  ·have r:i<d.2.length:=by omega
   rw [B,Int.toNat_natCast]
   cases J:(x.1==2)
   ·have ht:j03 d.1[i]=true:=((j0d _).1 y).2.1 _ (List.getElem_mem z)
    have F:msr yT d.1[i]<=1048576:=Nat.le_trans (jb5 ht) (by omega)
    have Q:j0r d.1[i] x=0:=by
     unfold j0b at f
     rw [w,cond_false,B,decide_eq_false (show ¬ (i:Int)<0 by omega),cond_false,Zay _ _ _ z] at f
     exact f
    rw [cond_false,cond_false,j00 z,cond_true,j00 r,cond_true,Zay _ _ _ z,Zay _ _ _ r,jl1 _ F _ (K i z r) _ A E G.symm (by simpa using w),Q,J,cond_true,ZaF]
    rfl
   ·rw [cond_true,cond_true]
    unfold j4A jaT
    rw [j01 (n:=(i:Int)+1) (by omega),show Z8e (i:Int) ((i:Int)+1) d.2.length=true from j8Y (j:=i+1) ⟨by omega,by omega⟩,cond_true,List.eraseIdx_eq_take_drop_succ]
    rfl
 ·rw [cond_true,cond_true]
  simp only [Z9Q]
  have C:∃ p:Nat,p<=d.2.length/\j04 (j0W d.1 x) x.2.1=(p:Int):=by
   have e:x.1=1:=by simpa using w
   have b:=f
   unfold j0b at b
   rw [w,cond_true] at b
   rcases j0x d.1 x.2.1 with ⟨B,T⟩ | ⟨i,z,B,_⟩
   rotate_left
   ·rw [decide_eq_false (by omega)] at b
    cases b
   have ht:j03 (x.2.1,x.2.2.1,x.2.2.2.1)=true:=by
    obtain ⟨_,⟨t,cs,ks,rfl,ht⟩ | ⟨t,rfl⟩ | ⟨t,c,rfl,_⟩ | ⟨t,n,rfl,_⟩ | ⟨t,n,m,rfl,_⟩⟩:=j7P E
    ·exact ht
    all_goals exact absurd e (by simp)
   have L:d.1.length<6:=by
    rw [decide_eq_true (by omega),Bool.not_true,cond_false] at b
    rcases Nat.lt_or_ge d.1.length 6 with q | q
    ·exact q
    ·rw [show (d.1.length==6)=true from beq_iff_eq.2 (by omega)] at b
     cases b
   obtain ⟨p,U,g,_⟩:=jnH y ht (show j04 d.1 x.2.1<0 by omega) L
   refine ⟨p,by omega,?_⟩
   unfold j0W
   rw [w,cond_true]
   exact g
  obtain ⟨p,U,g⟩:=C
  rw [j7j _ _ (by unfold LIM;omega),g]
  unfold j1q jey
  have M:jiK (p:Int) d.2.length [([]:List (List V))].length=true:=decide_eq_true ⟨by omega,by omega,by simp,by simp;unfold LIM;omega⟩
  rw [M,cond_true,Int.toNat_natCast,List.append_assoc]
  rfl
theorem jou (d:DB) (h:dbB d=true) (s:ST) (p:j10 s) (D:stB s=true) (k:DB->Int->Res):j9A d s k=k (j1S d s).1 (j1S d s).2:=by
 obtain ⟨q,E,F⟩:=(j1E d).1 h
 have B:=((j0d _).1 q).1
 unfold j9A
 rw [j7j _ _ (by unfold LIM;omega),jrN]
 cases f:(decide (j04 d.1 s.2.1<0)&& !((s.1==5)&&(s.2.2.2.2.1==1)))
 rotate_left
 ·unfold j1S
  rw [f]
  rfl
 rw [cond_false]
 cases g:(s.1==5)
 ·unfold j1S
  rw [f,g,cond_false,cond_false,cond_false]
  rw [g,Bool.false_and,Bool.not_false,Bool.and_true] at f
  have A:¬ j04 d.1 s.2.1<0:=of_decide_eq_false f
  rcases j0x d.1 s.2.1 with ⟨r,_⟩ | ⟨i,j,r,_⟩
  ·omega
  have b:i<d.2.length:=by omega
  have ht:j03 d.1[i]=true:=((j0d _).1 q).2.1 _ (List.getElem_mem j)
  have m:msr yT d.1[i]<=1048576:=Nat.le_trans (jb5 ht) (by omega)
  have y:=joN (t:=d.1[i]) (l:=d.2[i]) (s:=s)
  unfold j9V
  rw [r]
  simp only [j00 j,j00 b,cond_true,Z9Q]
  rw [Zay _ _ _ j,Zay _ _ _ b,jnz _ m]
  cases f:((j2q d.1[i] d.2[i] s).2 != 0)
  ·rw [cond_false,cond_false,jfO d h,j00 b,cond_true,ZaF,Int.toNat_natCast]
  ·rw [cond_true,cond_true,j01 (n:=10+(j2q d.1[i] d.2[i] s).2) (by omega)]
 ·have w:s.1=5:=by simpa using g
  obtain ⟨z,G⟩:=jqf D w
  have C:=jjJ d.1 s.2.2.2.2
  rw [cond_true,jkZ d h _ p.2.2.2 z]
  unfold j1S
  rw [f,g,cond_false,cond_true]
  cases y:(j0b d.1 s.2.2.2.2 != 0)
  ·rfl
  ·rw [cond_true,cond_true,cond_true,j01 (n:=10+j0b d.1 s.2.2.2.2) (by omega)]
end Go.PI.G
namespace Go.PI.G
open Go Go.PI Go.Proofs
theorem jo4 (d:DB) (h:dbB d=true) (s:ST) (b:j10 s) (f:stB s=false) (k:DB->Int->Res):j7A d s k=k ([],[]) 1:=by
 unfold j7A
 rw [jhP d (jjK h),h,Bool.not_true,cond_false,jhS s b,f]
 rfl
theorem jlx (d:DB) (p:msr yDB d<=1048576) (l:List ST) (z:l.length<=1048576) (j:∀ s∈l,j10 s) (k:DB->Int->Int->Res):j2j d l k=k (j0B d l).1 (j0B d l).2.1 (j0B d l).2.2:=by
 unfold j2j j0B
 rw [jhP d p]
 cases h:dbB d
 ·rfl
 rw [Bool.not_true,cond_false,cond_false,jkv d h]
 unfold j75
 have:=Z3Z l (λi (a:DB)=>(i,a)) j85 (λ_ a=>dbB a=true) (step:=j4Z l (nI l.length)) ((λ(now:DB)=>k now 0 0),(λ(t:Int) (r:Int)=>k ([],[]) t r)) (λa=>k a 0 0) (λe=>k ([],[]) e.1 e.2) d (by unfold LIM;omega) h (λi a w f b q=>jjy b q) (λi a rec f b=>by
  show j2O _ _ _ _ _ _ _=_
  unfold j2O j85
  dsimp only
  have g:=j _ (List.getElem_mem f)
  rw [ZaQ f,cond_true,j00 f,cond_true,Zay _ _ _ f]
  cases m:stB l[i]
  ·rw [jo4 a b _ g m]
   rfl
  ·rw [joD a b _ g m,Bool.not_true,cond_false]
   cases y:((j1S a l[i]).2 != 0)
   ·rw [cond_false,cond_false,j01 (n:=(i:Int)+1) (by omega)]
   ·rfl) (λa rec b=>by
  show j2O _ _ _ _ _ _ _=_
  unfold j2O
  dsimp only
  rw [ZaP,cond_false])
 refine this.trans ?_
 cases Z1S j85 0 l d<;>rfl
theorem jl0 (d:DB) (p:msr yDB d<=1048576) (l:List ST) (z:l.length<=1048576) (j:∀ s∈l,j10 s) (k:DB->Int->Int->Res):j2e d l k=k (j0B d l).1 (j0B d l).2.1 (j0B d l).2.2:=by
 unfold j2e j0B
 rw [jpW d p]
 cases h:dbB d
 ·rfl
 rw [Bool.not_true,cond_false,cond_false,jfO d h]
 unfold j9R
 have:=Z3Z l (λi (a:DB)=>(i,a)) j85 (λ_ a=>dbB a=true) (step:=j2A l (nI l.length)) ((λ(now:DB)=>k now 0 0),(λ(t:Int) (r:Int)=>k ([],[]) t r)) (λa=>k a 0 0) (λe=>k ([],[]) e.1 e.2) d (by unfold LIM;omega) h (λi a w b g q=>jjy g q) (λi a rec b g=>by
  show j1F _ _ _ _ _ _ _=_
  unfold j1F j85
  dsimp only
  have f:=j _ (List.getElem_mem b)
  rw [ZaQ b,cond_true,j00 b,cond_true,Zay _ _ _ b,jlM _ f]
  cases m:stB l[i]
  ·rfl
  ·rw [Bool.not_true,cond_false,cond_false,jou a g _ f m]
   cases y:((j1S a l[i]).2 != 0)
   ·rw [cond_false,cond_false,j01 (n:=(i:Int)+1) (by omega)]
   ·rfl) (λa rec g=>by
  show j1F _ _ _ _ _ _ _=_
  unfold j1F
  dsimp only
  rw [ZaP,cond_false])
 refine this.trans ?_
 cases Z1S j85 0 l d<;>rfl
end Go.PI.G
namespace Go.PI.G
open Go Go.PI
theorem jrV {d:D} (h:msr yD d<=1048576):dSm d:=by
 have j:msr yD d=0+(d.2.1.size+(msr (.slice yC) d.2.2.1+(msr (.slice .str) d.2.2.2.1+(d.2.2.2.2.1.size+d.2.2.2.2.2.size)))):=rfl
 have b:msr (.slice yC) d.2.2.1<=1048576:=by omega
 have f:msr (.slice .str) d.2.2.2.1<=1048576:=by omega
 refine ⟨by omega,j0C b,j0C f,λc g=> ?_,λx i=>j11 f i,by omega,by omega⟩
 have:=j11 b g
 have k:msr yC c=c.1.size+msr (.pair (.int .i64) (.pair .bool (.pair .bool yV))) c.2:=rfl
 omega
theorem jrO {s:ST} (h:msr yST s<=1048576):j10 s:=by
 have f:msr yST s=0+(s.2.1.size+(msr (.slice yV) s.2.2.1+(msr (.slice yV) s.2.2.2.1+msr yD s.2.2.2.2))):=rfl
 have b:msr (.slice yV) s.2.2.1<=1048576:=by omega
 have d:msr (.slice yV) s.2.2.2.1<=1048576:=by omega
 exact ⟨by omega,j0C b,j0C d,jrV (by omega)⟩
end Go.PI.G
namespace Go.PI.G
open Go Go.PI
end Go.PI.G
namespace Go.PI.G
open Go Go.PI Go.Proofs
theorem jqR {l:List RC} (h:msr (.slice yRC) l<=1048576):l.length<=1048576/\∀ r∈l,j10 r.2.2:=
 ⟨j0C h,λr b=>by
  have e:msr yRC r=0+(0+msr yST r.2.2):=rfl
  have:=j11 (e:=yRC) h b
  exact jrO (by omega)⟩
theorem jhs {n:Nat} (h:n<=1048576):lim (0+n)=true:=ZaL (by unfold LIM;omega)
theorem jpy (s:ST) (h:j10 s) (k:ST->Res):jau s k=k s:=by
 obtain ⟨g,d,f,b⟩:=h
 unfold jau j0w
 simp only [jhs d,jhs f,jhs b.2.1,jhs b.2.2.1,cond_true]
 try rfl
theorem jpd (s:ST) (h:j10 s) (k:ST->Res):j6u s k=k s:=by
 obtain ⟨g,d,f,b⟩:=h
 unfold j6u j0S j9U j3i
 simp only [jhs d,jhs f,jhs b.2.1,jhs b.2.2.1,cond_true]
 try rfl
theorem jir (l:List Int) (n:Int) (h:l.length<=1048576) (k:Bool->Res):j4Q l n k=k (j3t l n):=by
 unfold j4Q jfB j3t
 have:=Za2 l (λi=>i) (λx=>x==n) (step:=j9f n l (nI l.length)) ((λ(_:Unit)=>k false),(λ(_:Unit)=>k true)) (k false) (k true) (by unfold LIM;omega) (λi rec b=>by
  show j41 _ _ _ _ _ _ _=_
  unfold j41
  rw [ZaQ b,cond_true,j00 b,cond_true,Zay _ _ _ b,j01 (n:=(i:Int)+1) (by omega)]) (λrec=>by
  show j41 _ _ _ _ _ _ _=_
  unfold j41
  rw [ZaP,cond_false])
 refine this.trans ?_
 cases l.any λx=>x==n<;>rfl
theorem jii (l:List Int) (n:Int) (h:l.length<=1048576) (k:Bool->Res):j12 l n k=k (j3t l n):=by
 unfold j12 j99 jaO j3t
 have:=Z9S l (λi=>i) (λx=>n==x) (step:=j5M l n (nI l.length)) ((λ(_:Unit)=>k (decide ((-1:Int)>=0))),(λ(t:Int)=>k (decide (t>=0)))) (λr=>k (decide (r>=0))) (by unfold LIM;omega) (λi rec b=>by
  show j1p _ _ _ _ _ _ _=_
  unfold j1p
  rw [ZaQ b,cond_true,j00 b,cond_true,Zay _ _ _ b,j01 (n:=(i:Int)+1) (by omega)]) (λrec=>by
  show j1p _ _ _ _ _ _ _=_
  unfold j1p
  rw [ZaP,cond_false])
 refine this.trans ?_
 rw [jns]
 have:(λx:Int=>n==x)=λx=>x==n:=by funext x;exact Bool.eq_iff_iff.2 (by rw [beq_iff_eq,beq_iff_eq];exact eq_comm)
 rw [this]
theorem jif {α:Type} (p:α->Bool):(j:Nat)->(l:List α)->Z4r (λ_ x=>bif p x then [x] else []) j l=l.filter p
 | _,[]=>rfl
 | j,x::l=>by
  show (bif p x then [x] else [])++Z4r _ (j+1) l=_
  rw [jif p (j+1) l]
  cases h:p x
  ·rw [List.filter_cons_of_neg (by rw [h];simp)];rfl
  ·rw [List.filter_cons_of_pos h];rfl
theorem jrs {α:Type} (b:Bool) (x:α):(bif b then [x] else []).length<=1:=by cases b<;>simp
theorem jpq (l:List Int) (n:Int) (h:l.length<=1048576) (k:List Int->Res):j6P l n k=k (l.filter λy=> !(y==n)):=by
 unfold j6P jfA
 have:=Za3 l (λ_ x=>bif !(x==n) then [x] else []) (λi b=>(b,i)) (step:=j9e n l (nI l.length)) (λb=>k b) k (by unfold LIM;omega) (λ_ x=>jrs _ _) (λb i rec d f=>by
  show j40 _ _ _ _ _ _ _=_
  unfold j40
  dsimp only
  rw [ZaQ d,cond_true,j00 d,cond_true,Zay _ _ _ d,j01 (n:=(i:Int)+1) (by omega),ZaL (by unfold LIM;omega),cond_true]
  unfold bne
  cases l[i]==n
  ·rfl
  ·show _=rec (b++[],_)
   rw [List.append_nil]
   rfl) (λb rec=>by
  show j40 _ _ _ _ _ _ _=_
  unfold j40
  dsimp only
  rw [ZaP,cond_false])
 refine this.trans ?_
 rw [jif]
theorem joH (l:List RC) (h:l.length<=1048576) (k:List Int->Res):j9F l k=k (j1v l):=by
 unfold j9F jhT j1v
 refine Z8i l (λi b=>(b,i)) j8N (λi a=>a.length<=i) (step:=j82 l (nI l.length)) (λb=>k b) k [] (by unfold LIM;omega) (by simp) (λi a d f=>Nat.le_trans (jlR _ _) (by omega)) (λi a rec d f=>by
  show j3m _ _ _ _ _ _=_
  unfold j3m jan
  dsimp only
  rw [ZaQ d,cond_true,j00 d,cond_true,Zay _ _ _ d,j01 (n:=(i:Int)+1) (by omega),jir _ _ (by omega),ZaL (by unfold LIM;omega),cond_true]
  generalize l[i]=r
  unfold j8N
  cases g:r.1==1
  ·rw [cond_false,cond_false,jpq _ _ (by omega)]
   cases r.1==3
   ·rw [cond_false,Bool.false_or]
    cases r.1==4<;>rfl
   ·rfl
  ·have e:r.1=1:=by simpa using g
   have j:(r.1==3)=false:=by rw [e];rfl
   have m:(r.1==4)=false:=by rw [e];rfl
   rw [cond_true,cond_true,j,m]
   cases j3t a r.2.1<;>rfl) (λa rec f=>by
  show j3m _ _ _ _ _ _=_
  unfold j3m
  dsimp only
  rw [ZaP,cond_false])
theorem joJ (l:List RC) (x:Int) (h:l.length<=1048576) (k:Bool->Res):jbI l x k=k (j6j l x):=by
 unfold jbI jhU j6j
 have:=Za2 l (λi=>i) (λr:RC=>(r.1==1)&&(r.2.1==x)) (step:=jbj x l (nI l.length)) ((λ(_:Unit)=>k false),(λ(_:Unit)=>k true)) (k false) (k true) (by unfold LIM;omega) (λi rec b=>by
  show j5U _ _ _ _ _ _ _=_
  unfold j5U
  rw [ZaQ b,cond_true,j00 b,cond_true,Zay _ _ _ b,j01 (n:=(i:Int)+1) (by omega)]
  cases l[i].1==1<;>rfl) (λrec=>by
  show j5U _ _ _ _ _ _ _=_
  unfold j5U
  rw [ZaP,cond_false])
 refine this.trans ?_
 cases l.any λr:RC=>(r.1==1)&&(r.2.1==x)<;>rfl
theorem jlz (l:List RC) (x:Int) (h:l.length<=1048576) (f:∀ r∈l,j10 r.2.2) (k:List ST->Res):j5T l x k=k (j33 l x):=by
 unfold j5T je3 j33
 refine Za3 l (jhV x) (λi b=>(b,i)) (step:=j8n x l (nI l.length)) (λb=>k b) k (by unfold LIM;omega) (jjz x) (λb i rec d g=>by
  show j2U _ _ _ _ _ _ _=_
  unfold j2U jhV
  dsimp only
  rw [ZaQ d,cond_true,j00 d,cond_true,Zay _ _ _ d,jpy _ (f _ (List.getElem_mem d)),j01 (n:=(i:Int)+1) (by omega),ZaL (by unfold LIM;omega),cond_true]
  cases l[i].1==2
  ·show _=rec (b++[],_)
   rw [List.append_nil]
   rfl
  ·cases l[i].2.1==x
   ·show _=rec (b++[],_)
    rw [List.append_nil]
    rfl
   ·rfl) (λb rec=>by
  show j2U _ _ _ _ _ _ _=_
  unfold j2U
  dsimp only
  rw [ZaP,cond_false])
theorem jl2 (l:List RC) (x:Int) (h:l.length<=1048576) (f:∀ r∈l,j10 r.2.2) (k:List ST->Res):j5m l x k=k (j33 l x):=by
 unfold j5m jdP j33
 refine Za3 l (jhV x) (λi b=>(b,i)) (step:=j8e x l (nI l.length)) (λb=>k b) k (by unfold LIM;omega) (jjz x) (λb i rec d g=>by
  show j2F _ _ _ _ _ _ _=_
  unfold j2F jhV
  dsimp only
  rw [ZaQ d,cond_true,j00 d,cond_true,Zay _ _ _ d,jpd _ (f _ (List.getElem_mem d)),j01 (n:=(i:Int)+1) (by omega),ZaL (by unfold LIM;omega),cond_true]
  cases l[i].1==2
  ·show _=rec (b++[],_)
   rw [List.append_nil]
   rfl
  ·cases l[i].2.1==x
   ·show _=rec (b++[],_)
    rw [List.append_nil]
    rfl
   ·rfl) (λb rec=>by
  show j2F _ _ _ _ _ _ _=_
  unfold j2F
  dsimp only
  rw [ZaP,cond_false])
theorem jlA {α:Type} (l:List α) (i:Nat):sub l 0 (i:Int)=l.take i:=jp0 l 0 i
theorem jiI {i n:Nat} (h:i<=n):Z8e 0 (i:Int) n=true:=j8Y (i:=0) ⟨Nat.zero_le _,h⟩
theorem ji2 {l:List RC} (d:∀ r∈l,j10 r.2.2) (i:Nat):∀ r∈l.take i,j10 r.2.2:=λr b=>d r (List.mem_of_mem_take b)
theorem j6i {l:List RC} (h:l.length<=1048576) (i:Nat):(l.take i).length<=1048576:=by rw [List.length_take];omega
theorem jqg {l:List RC} (f:∀ r∈l,j10 r.2.2) (x:Int):∀ s∈j33 l x,j10 s:=λs b=>by
 obtain ⟨r,d,rfl⟩:=jpz b
 exact f r d
theorem jq9 (l:List RC) (h:l.length<=1048576) (i:Nat) (f:i<=l.length) (r:RC) (j:j10 r.2.2) (k:Bool->Res) :
  j2u l (i:Int) r k=k (!jbT r||(bif r.1==1 then j6j (l.take i) r.2.1 else !j3t (j1v (l.take i)) r.2.1)):=by
 unfold j2u
 have g:(j1v (l.take i)).length<=1048576:=Nat.le_trans (jlS _) (j6i h i)
 rw [jpx _ j,jiI f,cond_true,cond_true,jlA,joJ _ _ (j6i h i),joH _ (j6i h i)]
 simp only [jir _ _ g]
 cases jbT r
 ·rfl
 cases d:r.1==1
 ·have b:(r.1 != 1)=true:=by unfold bne;rw [d];rfl
  rw [b]
  rfl
 ·have b:(r.1 != 1)=false:=by unfold bne;rw [d];rfl
  rw [b]
  cases j6j (l.take i) r.2.1<;>rfl
theorem jo6 (l:List RC) (h:l.length<=1048576) (b:∀ r∈l,j10 r.2.2) (i:Nat) (g:i<=l.length) (d:DB) (f:dbB d=true) (r:RC) (k:Int->DB->Res) :
  j2v l (i:Int) d r k=k (j0B d (j33 (l.take i) r.2.1)).2.1 (j0B d (j33 (l.take i) r.2.1)).1:=by
 unfold j2v
 rw [jiI g,cond_true]
 simp only [Z9Q]
 rw [jlA,jlz _ _ (j6i h i) (ji2 b i),jlx d (jjK f) _ (Nat.le_trans (jkz _ _) (j6i h i)) (jqg (ji2 b i) _)]
theorem jny (l:List RC) (h:l.length<=1048576) (b:∀ r∈l,j10 r.2.2) (i:Nat) (g:i<=l.length) (d:DB) (f:dbB d=true) (r:RC) (k:Int->DB->Res) :
  j5q l (i:Int) d r k=k (j0B d (j33 (l.take i) r.2.1)).2.1 (j0B d (j33 (l.take i) r.2.1)).1:=by
 unfold j5q
 rw [jiI g,cond_true]
 simp only [Z9Q]
 rw [jlA,jl2 _ _ (j6i h i) (ji2 b i),jl0 d (jjK f) _ (Nat.le_trans (jkz _ _) (j6i h i)) (jqg (ji2 b i) _)]
theorem jrU (n:Nat):decide (nI n<=400)=decide (n<=400):=decide_eq_decide.2 (by unfold nI;omega)
theorem jrl (n:Nat):decide (nI n>400)= !decide (n<=400):=by
 by_cases h:n<=400
 ·rw [decide_eq_true h,decide_eq_false (by unfold nI;omega)];rfl
 ·rw [decide_eq_false h,decide_eq_true (by unfold nI;omega)];rfl
theorem joI (l:List RC) (h:l.length<=1048576) (g:∀ r∈l,j10 r.2.2) (k:DB->Bool->Res) :
  jas l k=match jg2 zDB l with | .ok d=>k d (decide (l.length<=400)) | .error _=>k ([],[]) false:=by
 unfold jas jat
 rw [jrU]
 refine (Z3Z l (λi (a:DB)=>(i,a)) (λi d r=>jct (l.take i) d r) (λ_ a=>dbB a=true) (step:=j59 l l (nI l.length)) ((λ(d:DB)=>k d (decide (l.length<=400))),(λ(_:Unit)=>k ([],[]) false)) (λa=>k a (decide (l.length<=400))) (λ_=>k ([],[]) false) zDB (by unfold LIM;omega) jfN (λi a q b f g=>jnM f g) (λi a rec b f=>by
  show j1O _ _ _ _ _ _ _ _=_
  unfold j1O jct
  dsimp only
  have j:=g _ (List.getElem_mem b)
  rw [ZaQ b,cond_true,j00 b,cond_true,Zay _ _ _ b,jq9 l h i (by omega) _ j,jo6 l h g i (by omega) a f,j01 (n:=(i:Int)+1) (by omega)]
  generalize l[i]=r
  cases jbT r
  ·rfl
  cases p:r.1==1
  ·cases j3t (j1v (l.take i)) r.2.1
   ·rfl
   ·cases r.1==3
    ·rfl
    ·cases m:(j0B a (j33 (l.take i) r.2.1)).2.1 != 0
     ·simp only [cond_true,cond_false,Bool.not_true,Bool.or_false,m]
     ·simp only [cond_true,cond_false,Bool.not_true,Bool.or_false,m]
  ·cases j6j (l.take i) r.2.1
   ·have e:r.1=1:=by simpa using p
    rw [e]
    rfl
   ·rfl) (λa rec f=>by
  show j1O _ _ _ _ _ _ _ _=_
  unfold j1O
  dsimp only
  rw [ZaP,cond_false])).trans ?_
 unfold jg2
 cases Z1S (λi d r=>jct (l.take i) d r) 0 l zDB<;>rfl
end Go.PI.G
namespace Go.PI.G
open Go Go.PI Go.Proofs
theorem jrx (o:List Int) (r:RC) (h:o.length<=1048576) (k:List Int->RC->Res):j1m o r k=k (o.filter λy=> !(y==r.2.1)) r:=by
 unfold j1m
 rw [ZaL (by unfold LIM;omega),cond_true,jnl (g:=λe k=>jfT e r k) (λy=>y==r.2.1) o (λy b k=>rfl) [],List.nil_append]
noncomputable def joj (l:List RC) (i:Int) (d:DB):List Int×List Int×Int×DB:=(j1v (l.take i.toNat),j7c (l.take i.toNat),i,d)
theorem joL (l:List RC) (i:Nat) (b:i<l.length) (d:DB):joj l ((i:Int)+1) d=(j8N (j1v (l.take i)) l[i],(bif l[i].1==1 then j7c (l.take i)++[l[i].2.1] else j7c (l.take i)),(i:Int)+1,d):=by
 unfold joj
 rw [show ((i:Int)+1).toNat=i+1 by omega,List.take_succ_eq_append_getElem b,jkd,jpB]
theorem joA (d:DB) (B:dbB d=true) (l:List RC) (h:l.length<=1048576) (p:∀ r∈l,j10 r.2.2) (k:DB->Bool->Res) :
  jdR d l k=match jg2 d l with | .ok d=>k d true | .error _=>k ([],[]) false:=by
 unfold jdR jcU jhq
 refine (Z3Z l (joj l) (λi d r=>jct (l.take i) d r) (λ_ a=>dbB a=true) (step:=j7T l l (nI l.length)) ((λ(f:DB)=>k f true),(λ(_:Unit)=>k ([],[]) false)) (λa=>k a true) (λ_=>k ([],[]) false) d (by unfold LIM;omega) B (λi a F b m p=>jnM m p) (λi a rec b m=>by
  show j3j l l (nI l.length) (j1v (l.take (i:Int).toNat)) (j7c (l.take (i:Int).toNat)) (i:Int) a (λo u j d=>rec (o,u,j,d)) (λf=>k f true) (λ_=>k ([],[]) false)=_
  have y:=p _ (List.getElem_mem b)
  have A:(j1v (l.take i)).length<=1048576:=Nat.le_trans (jlS _) (j6i h i)
  have D:(j7c (l.take i)).length<=1048576:=Nat.le_trans (jqq _) (j6i h i)
  unfold j3j j7o jct
  simp only [joL l i b]
  rw [Int.toNat_natCast,ZaQ b,cond_true,j00 b,cond_true,Zay _ _ _ b,jpc _ y,jii _ _ D,jii _ _ A,jqp,j01 (n:=(i:Int)+1) (by omega),ZaL (by unfold LIM;omega),ZaL (by unfold LIM;omega),cond_true,cond_true]
  simp only [jny l h p i (by omega) a m,jrx _ _ A]
  generalize l[i]=r
  cases C:jbT r
  ·rfl
  rw [Bool.not_true,cond_false,cond_false]
  cases q:r.1==1
  ·rw [cond_false,cond_false]
   cases j3t (j1v (l.take i)) r.2.1
   ·rfl
   rw [Bool.not_true,cond_false,cond_false]
   unfold j8N
   rw [q,cond_false,cond_false]
   cases z:r.1==3
   ·rw [cond_false,cond_false,Bool.false_or]
    unfold bne
    cases g:r.1==2
    ·have K:=(jpl C).1
     have w:(r.1==4)=true:=by
      rw [beq_iff_eq]
      have G:r.1≠1:=by simpa using q
      have H:r.1≠2:=by simpa using g
      have I:r.1≠3:=by simpa using z
      omega
     rw [w]
     rfl
    ·have w:(r.1==4)=false:=by
      have:r.1=2:=by simpa using g
      rw [this];rfl
     rw [w]
     rfl
   ·have g:(r.1 != 2)=true:=by
     have:r.1=3:=by simpa using z
     rw [this];rfl
    rw [cond_true,cond_true,Bool.true_or]
    cases J:(j0B a (j33 (l.take i) r.2.1)).2.1 != 0
    ·rw [cond_false,cond_false,g]
     rfl
    ·rfl
  ·rw [cond_true,cond_true]
   cases E:j6j (l.take i) r.2.1
   ·unfold j8N
    rw [q,cond_true,cond_true,jpk E]
    rfl
   ·rfl) (λa rec m=>by
  show j3j l l (nI l.length) (j1v (l.take ((l.length:Nat):Int).toNat)) (j7c (l.take ((l.length:Nat):Int).toNat)) (l.length:Int) a (λo u j d=>rec (o,u,j,d)) (λf=>k f true) (λ_=>k ([],[]) false)=_
  unfold j3j
  rw [ZaP,cond_false])).trans ?_
 unfold jg2
 cases Z1S (λi d r=>jct (l.take i) d r) 0 l d<;>rfl
theorem jg7 (l:List RC) (h:l.length<=1048576) (d:∀ r∈l,j10 r.2.2) (k:Bool->Res):j3a l k=k (ja6 l):=by
 unfold j3a ja6
 rw [jrl]
 cases b:decide (l.length<=400)
 ·rfl
 rw [Bool.not_true,cond_false,joI l h d,b]
 cases jg2 zDB l<;>rfl
theorem jfQ (l:List RC) (h:l.length<=1048576) (d:∀ r∈l,j10 r.2.2) (k:Bool->Res):j35 l k=k (ja6 l):=by
 unfold j35 ja6
 rw [jrl]
 cases b:decide (l.length<=400)
 ·rfl
 rw [Bool.not_true,cond_false,joA _ jfN l h d]
 cases jg2 zDB l<;>rfl
end Go.PI.G
namespace Go.PI.G
open Go Go.PI Go.Proofs
theorem jpr (l:List RC) (h:l.length<=1048576) (f:∀ r∈l,j10 r.2.2) (k:List Int->Res):j5N l k=k (j3r l):=by
 unfold j5N j3r
 rw [jg7 l h f]
 cases ja6 l
 ·rfl
 unfold jal
 refine Za3 l jiG (λi b=>(b,i)) (step:=j4Y l (nI l.length)) (λb=>k b) k (by unfold LIM;omega) jiH (λb i rec d g=>by
  show j2N _ _ _ _ _ _=_
  unfold j2N jiG
  dsimp only
  rw [ZaQ d,cond_true,j00 d,cond_true,Zay _ _ _ d,j01 (n:=(i:Int)+1) (by omega),ZaL (by unfold LIM;omega),cond_true]
  cases l[i].1==3
  ·show _=rec (b++[],_)
   rw [List.append_nil]
   rfl
  ·rfl) (λb rec=>by
  show j2N _ _ _ _ _ _=_
  unfold j2N
  dsimp only
  rw [ZaP,cond_false])
end Go.PI.G
namespace Go.PI.G
open Go Go.PI Go.Proofs
theorem jp8 (l:List RC) (h:l.length<=1048576) (f:∀ r∈l,j10 r.2.2) (k:List Int->Res):j5f l k=k (j3r l):=by
 unfold j5f j3r
 rw [jfQ l h f]
 cases ja6 l
 ·rfl
 unfold j9Q
 refine Za3 l jiG (λi b=>(b,i)) (step:=j4R l (nI l.length)) (λb=>k b) k (by unfold LIM;omega) jiH (λb i rec d g=>by
  show j2z _ _ _ _ _ _=_
  unfold j2z jiG
  dsimp only
  rw [ZaQ d,cond_true,j00 d,cond_true,Zay _ _ _ d,j01 (n:=(i:Int)+1) (by omega),ZaL (by unfold LIM;omega),cond_true]
  cases l[i].1==3
  ·show _=rec (b++[],_)
   rw [List.append_nil]
   rfl
  ·rfl) (λb rec=>by
  show j2z _ _ _ _ _ _=_
  unfold j2z
  dsimp only
  rw [ZaP,cond_false])
end Go.PI.G
namespace Go.PI.G
open Go Go.PI Go.Proofs
theorem joK (l:List RC) (h:l.length<=1048576) (g:∀ r∈l,j10 r.2.2) (a:Int) (k:List Int->Res):j5V l a k=k (jdi l a):=by
 unfold j5V jdi
 rw [jpr l h g]
 have f:(j3r l).length<=1048576:=Nat.le_trans (jhm l) h
 generalize j3r l=c at f
 unfold jap
 refine Za3 c (jgb a) (λi b=>(b,i)) (step:=j51 a c (nI c.length)) (λb=>k b) k (by unfold LIM;omega) (jm5 a) (λb i rec d j=>by
  show j2X _ _ _ _ _ _ _=_
  unfold j2X jgb
  dsimp only
  rw [ZaQ d,cond_true,j00 d,cond_true,Zay _ _ _ d,j01 (n:=(i:Int)+1) (by omega),ZaL (by unfold LIM;omega),cond_true]
  cases decide (c[i]>a)
  ·show _=rec (b++[],_)
   rw [List.append_nil]
   rfl
  ·rfl) (λb rec=>by
  show j2X _ _ _ _ _ _ _=_
  unfold j2X
  dsimp only
  rw [ZaP,cond_false])
theorem joz (l:List RC) (h:l.length<=1048576) (g:∀ r∈l,j10 r.2.2) (a:Int) (k:List Int->Res):j5n l a k=k (jdi l a):=by
 unfold j5n jdi
 rw [jp8 l h g]
 have f:(j3r l).length<=1048576:=Nat.le_trans (jhm l) h
 generalize j3r l=c at f
 unfold j9T
 refine Za3 c (jgb a) (λi b=>(b,i)) (step:=j4W a c (nI c.length)) (λb=>k b) k (by unfold LIM;omega) (jm5 a) (λb i rec d j=>by
  show j2I _ _ _ _ _ _ _=_
  unfold j2I jgb
  dsimp only
  rw [ZaQ d,cond_true,j00 d,cond_true,Zay _ _ _ d,j01 (n:=(i:Int)+1) (by omega),ZaL (by unfold LIM;omega),cond_true]
  cases decide (c[i]>a)
  ·show _=rec (b++[],_)
   rw [List.append_nil]
   rfl
  ·rfl) (λb rec=>by
  show j2I _ _ _ _ _ _ _=_
  unfold j2I
  dsimp only
  rw [ZaP,cond_false])
end Go.PI.G
namespace Go.PI.G
open Go Go.PI Go.Proofs
theorem jmT (l:List RC) (h:l.length<=1048576) (b:∀ r∈l,j10 r.2.2) (a:Int) (k:Int->Res):j6L l a k=k (j7O l a):=by
 unfold j6L j7O
 rw [jg7 l h b,joK l h b]
 cases ja6 l<;>rfl
theorem jmr (l:List RC) (h:l.length<=1048576) (b:∀ r∈l,j10 r.2.2) (a:Int) (k:Int->Res):j6D l a k=k (j7O l a):=by
 unfold j6D j7O
 rw [jfQ l h b,joz l h b]
 cases ja6 l<;>rfl
end Go.PI.G
namespace Go.PI.G
open Go Go.PI Go.Proofs
abbrev SL:=ByteArray×Int
noncomputable def jah (l:List SL):Bool:= !Z71 (λi s=> !j0g s.1||(!decide (0<=s.2/\s.2<=400)||(decide (0<i)&&sGe (nth (eS,0) l ((i:Int)-1)).1 s.1))) 0 l&&decide (l.length<=8)
theorem jm1 (l:List SL) (i:Nat) (b:i<l.length) (d:l.length<=1048576) (s:ByteArray) (x y:Res):(bif decide ((i:Int)>0) then (bif inb (Z9K ((i:Int)-1)) l.length then (bif sGe (nth (eS,0) l (Z9K ((i:Int)-1))).1 s then x else y) else none) else y) =
  bif (decide (0<i)&&sGe (nth (eS,0) l ((i:Int)-1)).1 s) then x else y:=by
 by_cases h:0<i
 ·rw [decide_eq_true (show (i:Int)>0 by omega),decide_eq_true h,cond_true,j01 (by omega),ZaK (by omega) (by omega),cond_true,Bool.true_and]
 ·rw [decide_eq_false (show ¬ (i:Int)>0 by omega),decide_eq_false h];rfl
theorem jrS (n:Int) (k:Bool->Res):j84 n k=k (decide (0<=n/\n<=400)):=by
 unfold j84
 by_cases h:n>=0
 ·rw [decide_eq_true h,cond_true]
  congr 1
  exact decide_eq_decide.2 (by omega)
 ·rw [decide_eq_false h,decide_eq_false (show ¬ (0<=n/\n<=400) by omega)];rfl
theorem jpp (n:Nat):decide (nI n<=8)=decide (n<=8):=decide_eq_decide.2 (by unfold nI;omega)
theorem jm2 (l:List SL) (k:Bool->Res) (b:Bool):(bif b then k false else k (decide (nI l.length<=8)))=k (!b&&decide (l.length<=8)):=by
 rw [jpp]
 cases b<;>rfl
theorem jo8 (l:List SL) (h:l.length<=1048576) (d:∀ s∈l,s.1.size<=1048576) (k:Bool->Res):j7C l k=k (jah l):=by
 unfold j7C je2 jah
 have:=Z9P l (λi=>i) (λi s=> !j0g s.1||(!decide (0<=s.2/\s.2<=400)||(decide (0<i)&&sGe (nth (eS,0) l ((i:Int)-1)).1 s.1))) (step:=j8m l l (nI l.length)) ((λ(_:Unit)=>k (decide (nI l.length<=8))),(λ(_:Unit)=>k false)) (k (decide (nI l.length<=8))) (k false) (by unfold LIM;omega) (λi rec b=>by
  show j2T _ _ _ _ _ _ _=_
  unfold j2T j79
  have f:=d _ (List.getElem_mem b)
  rw [ZaQ b,cond_true,j00 b,cond_true,Zay _ _ _ b,j3d _ (by unfold LIM;omega),j01 (n:=(i:Int)+1) (by omega),jrS,jm1 l i b h]
  cases j0g l[i].1
  ·rfl
  ·cases decide (0<=l[i].2/\l[i].2<=400)<;>cases decide (0<i)&&sGe (nth (eS,0) l ((i:Int)-1)).1 l[i].1<;>rfl) (λrec=>by
  show j2T _ _ _ _ _ _ _=_
  unfold j2T
  rw [ZaP,cond_false])
 exact this.trans (jm2 l k _)
theorem jnA (l:List SL) (h:l.length<=1048576) (d:∀ s∈l,s.1.size<=1048576) (k:Bool->Res):j7k l k=k (jah l):=by
 unfold j7k jdO jah
 have:=Z9P l (λi=>i) (λi s=> !j0g s.1||(!decide (0<=s.2/\s.2<=400)||(decide (0<i)&&sGe (nth (eS,0) l ((i:Int)-1)).1 s.1))) (step:=j4U l l (nI l.length)) ((λ(_:Unit)=>k (decide (nI l.length<=8))),(λ(_:Unit)=>k false)) (k (decide (nI l.length<=8))) (k false) (by unfold LIM;omega) (λi rec b=>by
  show j1I _ _ _ _ _ _ _=_
  unfold j1I
  have f:=d _ (List.getElem_mem b)
  rw [ZaQ b,cond_true,j00 b,cond_true,Zay _ _ _ b,j3b _ (by unfold LIM;omega),j01 (n:=(i:Int)+1) (by omega),j1R,jm1 l i b h]
  cases j0g l[i].1
  ·rfl
  ·cases decide (0<=l[i].2/\l[i].2<=400)<;>cases decide (0<i)&&sGe (nth (eS,0) l ((i:Int)-1)).1 l[i].1<;>rfl) (λrec=>by
  show j1I _ _ _ _ _ _ _=_
  unfold j1I
  rw [ZaP,cond_false])
 exact this.trans (jm2 l k _)
theorem jhO {l:List SL} (h:jah l=true):l.length<=8/\∀ s∈l,s.1.size<=8:=by
 unfold jah at h
 rw [Bool.and_eq_true,Bool.not_eq_true',decide_eq_true_eq] at h
 refine ⟨h.2,λs d=> ?_⟩
 obtain ⟨i,b,rfl⟩:=List.getElem_of_mem d
 have:=j9M l 0 h.1 i b
 rw [Bool.or_eq_false_iff,Bool.not_eq_false'] at this
 exact (jcx this.1).2
end Go.PI.G
namespace Go.PI.G
noncomputable section
open Go Go.PI Go.Proofs
def dg (x:Int):ByteArray:=Z3B [wu8 (Z9K (48+x))]
theorem jaU (x:Int):(dg x).size=1:=rfl
def j8b (n:Nat):ByteArray:=if h:n<10 then dg n else j8b (n / 10)++dg ((n % 10:Nat):Int)
termination_by n
decreasing_by omega
theorem jhZ {n:Nat} (h:n<10):j8b n=dg n:=by rw [j8b,dif_pos h]
theorem jkX {n:Nat} (h:¬ n<10):j8b n=j8b (n / 10)++dg ((n % 10:Nat):Int):=by rw [j8b,dif_neg h]
theorem jlJ:∀ (d n:Nat),n<10 ^ (d+1)->(j8b n).size<=d+1
 | 0,n,h=>by rw [jhZ (by omega),jaU];exact Nat.le_refl _
 | d+1,n,h=>by
  by_cases b:n<10
  ·rw [jhZ b,jaU];omega
  ·rw [jkX b,ByteArray.size_append,jaU]
   have:n / 10<10 ^ (d+1):=Nat.div_lt_of_lt_mul (by rw [Nat.pow_succ] at h;omega)
   have:=jlJ d (n / 10) this
   omega
theorem j8x {n:Nat} (h:n<=1099511627775):(j8b n).size<=13:=jlJ 12 n (by omega)
def jd1 (n:Int):ByteArray:=bif jb6 n then (if n<0 then z__++j8b (-n).toNat else j8b n.toNat) else eS
theorem jdW (n:Int):(jd1 n).size<=14:=by
 unfold jd1
 by_cases h: -1099511627775<=n/\n<=1099511627775
 ·have b:jb6 n=true:=decide_eq_true h
  rw [b,cond_true]
  split
  ·rw [ByteArray.size_append]
   have:=j8x (n:=(-n).toNat) (by omega)
   have:z__.size=1:=rfl
   omega
  ·have:=j8x (n:=n.toNat) (by omega)
   omega
 ·have b:jb6 n=false:=decide_eq_false h
  rw [b,cond_false]
  show (0:Nat)<=14
  omega
theorem jeG:∀ (m n:Nat),n<m->n<=1099511627775->∀ k,Z9J (λ_ _=>none) j0j m (n:Int) k=k (j8b n)
 | 0,n,h,_,k=>by omega
 | m+1,n,h,i,k=>by
  show j0j (Z9J (λ_ _=>none) j0j m) (n:Int) k=_
  have d:=jeG m
  generalize Z9J (λ_ _=>none) j0j m=self at d ⊢
  unfold j0j
  have f:jb6 (n:Int)=true:=decide_eq_true (by omega)
  rw [jdT,f,Bool.not_true,cond_false,Za4 (by omega),cond_false]
  by_cases b:n<10
  ·rw [Za5 (by omega),cond_true,jhZ b];rfl
  ·rw [Za4 (by omega),cond_false,Z9Q,joc,jod,ZaH (n:=((n / 10:Nat):Int)) (by omega) (by omega),d (n / 10) (by omega) (by omega),jkX b]
   have g:=j8x (n:=n / 10) (by omega)
   show (bif lim ((j8b (n / 10)).size+(dg ((n % 10:Nat):Int)).size) then k (j8b (n / 10)++dg ((n % 10:Nat):Int)) else none)=_
   rw [jaU,ZaL (by unfold LIM;omega),cond_true]
theorem jlB:∃ m,Z1c=m+1/\1099511627775<m:=by
 have h:=Z2b (n:=1099511627777) (by omega)
 exact ⟨Z1c-1,by omega,by omega⟩
theorem jpu (n:Int) (k:ByteArray->Res):j5Q n k=k (jd1 n):=by
 unfold j5Q
 obtain ⟨m,g,i⟩:=jlB
 rw [g]
 show j0j (Z9J (λ_ _=>none) j0j m) n k=_
 by_cases h: -1099511627775<=n/\n<=1099511627775
 ·have b:jb6 n=true:=decide_eq_true h
  by_cases d:n<0
  ·have f:=jeG m
   generalize Z9J (λ_ _=>none) j0j m=self at f ⊢
   unfold j0j jd1
   have j:=j8x (n:=(-n).toNat) (by omega)
   have l:Z9K (0-n)=(((-n).toNat:Nat):Int):=by rw [ZaH (by omega) (by omega)];omega
   rw [jdT,b,Bool.not_true,cond_false,Za5 d,cond_true,l,f _ (by omega) (by omega),ZaL (by unfold LIM;omega),cond_true,cond_true,if_pos d]
  ·have:=jeG (m+1) n.toNat (by omega) (by omega) k
   rw [show ((n.toNat:Nat):Int)=n by omega] at this
   unfold jd1
   rw [b,cond_true,if_neg d]
   exact this
 ·have b:jb6 n=false:=decide_eq_false h
  unfold j0j jd1
  rw [jdT,b,Bool.not_false,cond_true,cond_false]
theorem jnw (self:Int->(ByteArray->Res)->Res) (n:Int) (s:ByteArray) (rec:Int×ByteArray->Res) (q:Int->ByteArray->Res):j1H self (n,s) rec q=j8d self n s (λn s=>rec (n,s)) q:=rfl
theorem jhp (self:Int->(ByteArray->Res)->Res) (k:ByteArray->Res):∀ (m n d:Nat) (s:ByteArray),n<m->n<=1099511627775->n<10 ^ (d+1)->s.size+d<=1000 ->
  Z1f (j1H self) m ((n:Int),s) (λ(b:Int) (s:ByteArray)=>bif lim ((ByteArray.size (Z3B [wu8 (Z9K (48+b))]))+(ByteArray.size s)) then k ((Z3B [wu8 (Z9K (48+b))])++s) else none)=k (j8b n++s)
 | 0,n,d,s,h,_,_,_=>by omega
 | m+1,n,d,s,h,i,g,j=>by
  rw [Z9Y,jnw]
  unfold j8d
  by_cases f:n<10
  ·have:decide ((n:Int)>9)=false:=decide_eq_false (by omega)
   rw [this,cond_false,jhZ f]
   show (bif lim ((dg (n:Int)).size+s.size) then k (dg (n:Int)++s) else none)=_
   rw [jaU,ZaL (by unfold LIM;omega),cond_true]
  ·have:decide ((n:Int)>9)=true:=decide_eq_true (by omega)
   obtain ⟨d,rfl⟩:∃ e,d=e+1:=by
    cases d with
    | zero=>exact absurd (by simpa using g) f
    | succ d=>exact ⟨d,rfl⟩
   rw [this,cond_true,joc,jod,ZaH (n:=((n / 10:Nat):Int)) (by omega) (by omega)]
   show (bif lim ((dg ((n % 10:Nat):Int)).size+s.size) then Z1f (j1H self) m (((n / 10:Nat):Int),dg ((n % 10:Nat):Int)++s) _ else none)=_
   rw [jaU,ZaL (by unfold LIM;omega),cond_true,jhp self k m (n / 10) d _ (by omega) (by omega) (Nat.div_lt_of_lt_mul (by rw [Nat.pow_succ] at g;omega)) (by rw [ByteArray.size_append,jaU];omega),jkX f,ByteArray.append_assoc]
theorem jpb (n:Int) (k:ByteArray->Res):j5i n k=k (jd1 n):=by
 unfold j5i
 obtain ⟨m,j,l⟩:=jlB
 rw [j]
 obtain ⟨m,rfl⟩:∃ e,m=e+1:=⟨m-1,by omega⟩
 have b:∀ (self:Int->(ByteArray->Res)->Res) (n:Nat) (k:ByteArray->Res),n<=1099511627775->j0p self (n:Int) k=k (j8b n):=by
  intro self n k g
  unfold j0p j6U
  rw [j1R,decide_eq_true (by omega),Bool.not_true,cond_false,Za4 (by omega),cond_false]
  have:=jhp self k Z1c n 12 eS (Z2b (by omega)) g (by omega) (by show 0+12<=1000;omega)
  rw [jrM] at this
  exact this
 show j0p (Z9J (λ_ _=>none) j0p (m+1)) n k=_
 have i:∀ (n:Nat) (k:ByteArray->Res),n<=1099511627775->Z9J (λ_ _=>none) j0p (m+1) (n:Int) k=k (j8b n):=λn k g=>b (Z9J (λ_ _=>none) j0p m) n k g
 generalize Z9J (λ_ _=>none) j0p (m+1)=self at i ⊢
 by_cases h: -1099511627775<=n/\n<=1099511627775
 ·have d:jb6 n=true:=decide_eq_true h
  by_cases f:n<0
  ·unfold j0p jd1
   have p:=j8x (n:=(-n).toNat) (by omega)
   have q:Z9K (0-n)=(((-n).toNat:Nat):Int):=by rw [ZaH (by omega) (by omega)];omega
   rw [j1R,decide_eq_true h,Bool.not_true,cond_false,Za5 f,cond_true,q]
   rw [i _ _ (by omega),ZaL (by unfold LIM;omega),cond_true,d,cond_true,if_pos f]
  ·have:=b self n.toNat k (by omega)
   rw [show ((n.toNat:Nat):Int)=n by omega] at this
   unfold jd1
   rw [d,cond_true,if_neg f]
   exact this
 ·have d:jb6 n=false:=decide_eq_false h
  unfold j0p jd1
  rw [j1R,decide_eq_false h,Bool.not_false,cond_true,d,cond_false]
end
end Go.PI.G
namespace Go.PI.G
open Go Go.PI Go.Proofs
noncomputable def jiL (l:List RC) (b:ByteArray) (s:SL):ByteArray:=((((b++s.1)++jeo)++jd1 (j7O l s.2))++jn3)
noncomputable def jpg (l:List RC) (c:List SL):ByteArray:=bif !ja6 l then eS else bif !jah c then eS else c.foldl (jiL l) eS
theorem jle:ByteArray.size jeo=1:=rfl
theorem jrP:ByteArray.size jn3=1:=rfl
theorem jpt (l:List RC) (h:l.length<=1048576) (j:∀ r∈l,j10 r.2.2) (c:List SL) (y:c.length<=1048576) (d:∀ s∈c,s.1.size<=1048576) (k:ByteArray->Res):j5P l c k=k (jpg l c):=by
 unfold j5P jpg
 rw [jg7 l h j,jo8 c y d]
 cases ja6 l
 ·rfl
 cases w:jah c
 ·rfl
 simp only [Bool.not_true,cond_false]
 obtain ⟨z,m⟩:=jhO w
 unfold jam
 refine Z8i c (λi (a:ByteArray)=>(a,i)) (jiL l) (λi a=>a.size<=40 * i) (step:=j2Q l c (nI c.length)) (λf=>k f) k eS (by unfold LIM;omega) (Nat.le_refl _) (λi a b g=>by
  have p:=m _ (List.getElem_mem b)
  have q:=jdW (j7O l c[i].2)
  unfold jiL
  rw [ByteArray.size_append,ByteArray.size_append,ByteArray.size_append,ByteArray.size_append,jle,jrP]
  omega) (λi a rec b g=>by
  show j1K _ _ _ _ _ _ _=_
  unfold j1K jiL
  have p:=m _ (List.getElem_mem b)
  have q:=jdW (j7O l c[i].2)
  dsimp only
  rw [ZaQ b,cond_true,j00 b,cond_true,Zay _ _ _ b,jmT l h j,jpu,j01 (n:=(i:Int)+1) (by omega),ZaL (by unfold LIM;omega),cond_true,ZaL (by rw [ByteArray.size_append];unfold LIM;omega),cond_true,ZaL (by rw [ByteArray.size_append,ByteArray.size_append,jle];unfold LIM;omega),cond_true,ZaL (by rw [ByteArray.size_append,ByteArray.size_append,ByteArray.size_append,jle];unfold LIM;omega),cond_true]) (λa rec g=>by
  show j1K _ _ _ _ _ _ _=_
  unfold j1K
  dsimp only
  rw [ZaP,cond_false])
theorem jpa (l:List RC) (h:l.length<=1048576) (j:∀ r∈l,j10 r.2.2) (c:List SL) (y:c.length<=1048576) (d:∀ s∈c,s.1.size<=1048576) (k:ByteArray->Res):j5h l c k=k (jpg l c):=by
 unfold j5h jpg
 rw [jfQ l h j,jnA c y d]
 cases ja6 l
 ·rfl
 cases w:jah c
 ·rfl
 simp only [Bool.not_true,cond_false]
 obtain ⟨z,m⟩:=jhO w
 unfold j9S
 refine Z8i c (λi (a:ByteArray)=>(a,i)) (jiL l) (λi a=>a.size<=40 * i) (step:=j2C l c (nI c.length)) (λf=>k f) k eS (by unfold LIM;omega) (Nat.le_refl _) (λi a b g=>by
  have p:=m _ (List.getElem_mem b)
  have q:=jdW (j7O l c[i].2)
  unfold jiL
  rw [ByteArray.size_append,ByteArray.size_append,ByteArray.size_append,ByteArray.size_append,jle,jrP]
  omega) (λi a rec b g=>by
  show j1G _ _ _ _ _ _ _=_
  unfold j1G jiL
  have p:=m _ (List.getElem_mem b)
  have q:=jdW (j7O l c[i].2)
  dsimp only
  rw [ZaQ b,cond_true,j00 b,cond_true,Zay _ _ _ b,jmr l h j,jpb,j01 (n:=(i:Int)+1) (by omega),ZaL (by unfold LIM;omega),cond_true,ZaL (by rw [ByteArray.size_append];unfold LIM;omega),cond_true,ZaL (by rw [ByteArray.size_append,ByteArray.size_append,jle];unfold LIM;omega),cond_true,ZaL (by rw [ByteArray.size_append,ByteArray.size_append,ByteArray.size_append,jle];unfold LIM;omega),cond_true]) (λa rec g=>by
  show j1G _ _ _ _ _ _ _=_
  unfold j1G
  dsimp only
  rw [ZaP,cond_false])
end Go.PI.G
namespace Go.PI.G
open Go Go.PI Go.Proofs
end Go.PI.G
set_option maxRecDepth 10000
namespace Go.PI.G
open Go Go.PI Go.Proofs
theorem jof (a:Int×Int×ByteArray) (h:msr y2 a<=1048576) (k:qV->Res):ja5 a k=k a:=by
 unfold ja5
 rfl
theorem joa (a:Int×Int×ByteArray) (left:Int) (h:0<=left) (i:left<=1048576) (g:Wf y2 a) (k:Int->Res):ja3 a left k=k (szR left (msr y2 a)):=by
 have f:msr y2 a=ByteArray.size a.2.2+0:=by simp only [msr]<;>omega
 rw [f]
 unfold ja3
 have d:ByteArray.size a.2.2<=maxLen:=g.2.2
 unfold maxLen at d
 rw [j01 (by unfold nI;omega)]
 by_cases b:((ByteArray.size a.2.2:Nat):Int)<=left
 rotate_left
 ·rw [Zal b,Za5 (by unfold nI;omega),cond_true]
 rw [Za4 (by unfold nI;omega),cond_false,Zak b,show left-nI (ByteArray.size a.2.2)=left-((ByteArray.size a.2.2:Nat):Int) from rfl]
 exact jdh (by omega)
theorem jnn (a:Int×Int×ByteArray) (h:msr y2 a<=1048576) (k:Bool->Res):ja0 a a k=k true:=by
 unfold ja0
 simp only [ZaO,Zai,beq_self_eq_true,cond_false,Bool.not_true]
end Go.PI.G
namespace Go.PI.G
open Go Go.PI Go.Proofs
theorem jre (a:ByteArray×Int×Bool×Bool×Int×Int×ByteArray) (h:msr y7 a<=1048576) (k:qC->Res):jcq a k=k a:=by
 have b:msr y2 a.2.2.2.2<=1048576:=(Nat.le_trans (@j07 .bool y2 a.2.2.2) (Nat.le_trans (@j07 .bool y4 a.2.2) (Nat.le_trans (@j07 (.int .i64) y5 a.2) (Nat.le_trans (@j07 .str y6 a) h))))
 unfold jcq
 simp only [jof _ b]
theorem jr8 (a:ByteArray×Int×Bool×Bool×Int×Int×ByteArray) (left:Int) (i:0<=left) (j:left<=1048576) (g:Wf y7 a) (k:Int->Res):jco a left k=k (szR left (msr y7 a)):=by
 have h:msr y7 a=ByteArray.size a.1+(msr y2 a.2.2.2.2+0):=by simp only [msr]<;>omega
 rw [h]
 unfold jco
 have f:ByteArray.size a.1<=maxLen:=g.1
 unfold maxLen at f
 rw [j01 (by unfold nI;omega)]
 by_cases d:((ByteArray.size a.1:Nat):Int)<=left
 rotate_left
 ·rw [Zal d,Za5 (by unfold nI;omega),cond_true]
 rw [Za4 (by unfold nI;omega),cond_false,Zak d,show left-nI (ByteArray.size a.1)=left-((ByteArray.size a.1:Nat):Int) from rfl]
 rw [joa _ _ (by omega) (by omega) g.2.2.2.2]
 by_cases b:((msr y2 a.2.2.2.2:Nat):Int)<=left-(ByteArray.size a.1:Nat)
 rotate_left
 ·rw [Zaz b,Zal b,Za5 (by omega),cond_true]
 rw [ZaA b,Zak b,Za4 (by omega),cond_false]
 exact jdh (by omega)
theorem jqG (a:ByteArray×Int×Bool×Bool×Int×Int×ByteArray) (h:msr y7 a<=1048576) (k:Bool->Res):jcm a a k=k true:=by
 have b:msr y2 a.2.2.2.2<=1048576:=(Nat.le_trans (@j07 .bool y2 a.2.2.2) (Nat.le_trans (@j07 .bool y4 a.2.2) (Nat.le_trans (@j07 (.int .i64) y5 a.2) (Nat.le_trans (@j07 .str y6 a) h))))
 unfold jcm
 simp only [ZaO,Zai,beq_self_eq_true,cond_false,Bool.not_true,jnn _ b]
end Go.PI.G
namespace Go.PI.G
open Go Go.PI Go.Proofs
theorem jql (a:qE) (h:msr y8 a<=1048576) (k:qE->Res):j8F a k=k a:=by
 have g:a.length<=1048576:=j0C h
 unfold j8F
 rw [Zav (by unfold LIM;omega),cond_true]
 have:=ZaC ((eS,0,false,false,0,0,eS)) a id (step:=j92 a) (λb=>k b) (by unfold LIM;omega) (λb i rec d f=>by
  show j3H a _ _ _ _=_
  unfold j3H
  dsimp only
  simp only [ZaQ d,cond_true,j00 d,j00 (show i<b.length by omega),Zay _ _ _ d,ZaF,j01 (n:=(i:Int)+1) (by omega),jre _ (j11 h (List.getElem_mem d))]
  rfl) (λb rec=>by
  show j3H a _ _ _ _=_
  unfold j3H
  dsimp only
  rw [ZaP,cond_false])
 rw [List.map_id] at this
 exact this
theorem jqh (a:qE) (left:Int) (g:0<=left) (h:left<=1048576) (l:Wf y8 a) (k:Int->Res):j8C a left k=k (szR left (msr y8 a)):=by
 have j:a.length<=maxLen:=l.1
 have p:msr y8 a=a.length+(a.map (msr y7)).sum:=rfl
 rw [p]
 unfold j8C
 refine jhW (F:=λq=>jb2 a Z1c q 0 (λd=>k d) (λ_=>k (-1))) (k:=k) g h j λb=> ?_
 unfold jb2
 rw [ZaB (msr y7) a _ (by omega) (λleft i rec f g h=> ?_) (λleft rec=> ?_) _ (by omega) (by omega)]
 ·by_cases b:(((a.map (msr y7)).sum:Nat):Int)<=left-a.length
  ·rw [if_pos b,ZaA b]
  ·rw [if_neg b,Zaz b]
 ·show j3E a _ _ _ _ _=_
  have r:=l.2 _ (List.getElem_mem f)
  unfold j3E
  rw [ZaQ f,cond_true,j00 f,cond_true,Zay _ _ _ f,jr8 _ _ g h r]
  have m:(i:Int)<4611686018427387904:=by unfold maxLen at j;omega
  rw [j01 (n:=(i:Int)+1) (by omega)]
  by_cases b:((msr y7 a[i]:Nat):Int)<=left
  ·rw [if_pos b,ZaA b,Za4 (by omega),cond_false]
  ·rw [if_neg b,Zaz b,Za5 (by omega),cond_true]
 ·show j3E a _ _ _ _ _=_
  unfold j3E
  rw [ZaP,cond_false]
theorem jpR (a:qE) (h:msr y8 a<=1048576) (k:Bool->Res):j8z a a k=k true:=by
 have d:a.length<=1048576:=j0C h
 unfold j8z
 rw [ZaO,cond_false]
 unfold jff
 rw [Zar a _ (by unfold LIM;omega) (λi rec b=> ?_) (λrec=> ?_)]
 ·show j3B a a _ _ _ _=_
  unfold j3B
  simp only [ZaQ b,cond_true,j00 b,Zay _ _ _ b,j01 (n:=(i:Int)+1) (by omega),ZaO,Zai,cond_false,Bool.not_true,jqG _ (j11 h (List.getElem_mem b))]
 ·show j3B a a _ _ _ _=_
  unfold j3B
  rw [ZaP,cond_false]
end Go.PI.G
namespace Go.PI.G
open Go Go.PI Go.Proofs
theorem joe (a:(List ByteArray)) (h:msr y0 a<=1048576) (k:(List ByteArray)->Res):j5t a k=k a:=by
 have g:a.length<=1048576:=j0C h
 unfold j5t
 rw [Zav (by unfold LIM;omega),cond_true]
 have:=ZaC (eS) a id (step:=j6Q a) (λb=>k b) (by unfold LIM;omega) (λb i rec d f=>by
  show j1X a _ _ _ _=_
  unfold j1X
  dsimp only
  simp only [ZaQ d,cond_true,j00 d,j00 (show i<b.length by omega),Zay _ _ _ d,ZaF,j01 (n:=(i:Int)+1) (by omega)]
  rfl) (λb rec=>by
  show j1X a _ _ _ _=_
  unfold j1X
  dsimp only
  rw [ZaP,cond_false])
 rw [List.map_id] at this
 exact this
theorem jo9 (a:(List ByteArray)) (left:Int) (j:0<=left) (l:left<=1048576) (p:Wf y0 a) (k:Int->Res):j5s a left k=k (szR left (msr y0 a)):=by
 have m:a.length<=maxLen:=p.1
 have r:msr y0 a=a.length+(a.map (msr .str)).sum:=rfl
 rw [r]
 unfold j5s
 refine jhW (F:=λq=>j8g a Z1c q 0 (λd=>k d) (λ_=>k (-1))) (k:=k) j l m λb=> ?_
 unfold j8g
 rw [ZaB (msr .str) a _ (by omega) (λleft i rec f j l=> ?_) (λleft rec=> ?_) _ (by omega) (by omega)]
 ·by_cases b:(((a.map (msr .str)).sum:Nat):Int)<=left-a.length
  ·rw [if_pos b,ZaA b]
  ·rw [if_neg b,Zaz b]
 ·show j1W a _ _ _ _ _=_
  have h:=p.2 _ (List.getElem_mem f)
  unfold j1W
  have h:a[i].size<=maxLen:=h
  unfold maxLen at h m
  rw [ZaQ f,cond_true,j00 f,cond_true,Zay _ _ _ f,j01 (n:=left-nI a[i].size) (by unfold nI;omega),j01 (n:=(i:Int)+1) (by omega)]
  unfold nI
  by_cases b:((msr .str a[i]:Nat):Int)<=left
  ·have g:(a[i].size:Int)<=left:=b
   rw [if_pos b,Za4 (by omega),cond_false];rfl
  ·have g:¬ (a[i].size:Int)<=left:=b
   rw [if_neg b,Za5 (by omega),cond_true]
 ·show j1W a _ _ _ _ _=_
  unfold j1W
  rw [ZaP,cond_false]
theorem jnm (a:(List ByteArray)) (h:msr y0 a<=1048576) (k:Bool->Res):j5r a a k=k true:=by
 have d:a.length<=1048576:=j0C h
 unfold j5r
 rw [ZaO,cond_false]
 unfold jch
 rw [Zar a _ (by unfold LIM;omega) (λi rec b=> ?_) (λrec=> ?_)]
 ·show j1V a a _ _ _ _=_
  unfold j1V
  simp only [ZaQ b,cond_true,j00 b,Zay _ _ _ b,j01 (n:=(i:Int)+1) (by omega),ZaO,Zai,cond_false,Bool.not_true]
 ·show j1V a a _ _ _ _=_
  unfold j1V
  rw [ZaP,cond_false]
end Go.PI.G
