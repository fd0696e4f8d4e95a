/-
  Program's code interpreted over typed values; printed texts; plain laws. No conditions.
-/
import Derived.Test.YtnemiodjnhfejaaGreatPc
import Derived.Test.YtnemiodjnhfejaaGreatWTi
import Derived.Test.YtnemiodjnhfejaaGreatWTd
import Derived.Test.YtnemiodjnhfejaaGreatWTf
import Derived.Test.YtnemiodjnhfejaaGreatWTh
set_option linter.unusedVariables false
namespace Go.PI.G
open Go Go.PI
theorem jr5 {left:Int} (h:0<=left):szR left 0=left:=by unfold szR;rw [if_pos (by omega)];omega
theorem jkS {left:Int} {n rest:Nat} {F:Int->Res} {k:Int->Res} (f:0<=left) (g:left<=1048576) (d:n<=maxLen) (b:(n:Int)<=left->F (left-n)=k (szR (left-n) rest)) :
  (bif decide (Z9K (left-nI n)<0) then k (-1) else F (Z9K (left-nI n)))=k (szR left (n+rest)):=by
 unfold maxLen at d
 rw [ZaH (by unfold nI;omega) (by unfold nI;omega)]
 unfold nI
 by_cases h:(n:Int)<=left
 ·rw [Za4 (by omega),cond_false,b h,Zak h]
 ·rw [Za5 (by omega),cond_true,Zal h]
theorem jfL {left:Int} {k:Int->Res} (b:0<=left):k left=k (szR left 0):=by rw [jr5 b]
theorem j00 {i n:Nat} (h:i<n):inb (i:Int) n=true:=ZaK (by omega) (by omega)
theorem j01 {n:Int} (h: -9223372036854775808<=n/\n<9223372036854775808):Z9K n=n:=ZaH h.1 h.2
theorem jr9 (n:Nat):Int.tdiv (n:Int) 10=((n / 10:Nat):Int):=by
 rw [Int.tdiv_eq_ediv_of_nonneg (by omega)];omega
theorem jra (n:Nat):Int.tmod (n:Int) 10=((n % 10:Nat):Int):=by
 rw [Int.tmod_eq_emod_of_nonneg (by omega)];omega
theorem jl8 {n:Nat} (h:n<10):jfZ n=dgt n:=by rw [jfZ,dif_pos h]
theorem joR {n:Nat} (h:¬ n<10):jfZ n=jfZ (n / 10)++dgt ((n % 10:Nat):Int):=by rw [jfZ,dif_neg h]
theorem jlT:∀ (d n:Nat),n<10 ^ (d+1)->(jfZ n).size<=d+1
 | 0,n,h=>by rw [jl8 (by omega),jdb];exact Nat.le_refl _
 | d+1,n,h=>by
  by_cases b:n<10
  ·rw [jl8 b,jdb];omega
  ·rw [joR b,ByteArray.size_append,jdb]
   have:n / 10<10 ^ (d+1):=Nat.div_lt_of_lt_mul (by rw [Nat.pow_succ] at h;omega)
   have:=jlT d (n / 10) this
   omega
theorem jrJ (s:ByteArray):s++eS=s:=by
 show s++ByteArray.empty=s
 simp
end Go.PI.G
namespace Go.PI.G
noncomputable section
open Go Go.PI
abbrev C:=ByteArray×Int×Bool×Bool×V
abbrev T:=ByteArray×List C×List ByteArray
abbrev DB:=List T×List (List (List V))
abbrev yV:Ty:= .pair (.int .i64) (.pair (.int .i64) .str)
abbrev yC:Ty:= .pair .str (.pair (.int .i64) (.pair .bool (.pair .bool yV)))
abbrev yT:Ty:= .pair .str (.pair (.slice yC) (.slice .str))
abbrev yDB:Ty:= .pair (.slice yT) (.slice (.slice (.slice yV)))
abbrev zV:V:=(0,0,eS)
abbrev zC:C:=(eS,0,false,false,0,0,eS)
abbrev zT:T:=(eS,[],[])
theorem jcF {α:Type} (p:α->Bool) (l:List α): -1<=Z9F p l/\Z9F p l<(l.length:Int):=by
 unfold Z9F
 cases h:l.findIdx? p with
 | none=>simp only [];omega
 | some i=>
  have:=(List.findIdx?_eq_some_iff_findIdx_eq.1 h).1
  simp only [];omega
theorem jcE {α:Type} {f:Nat->α->Bool}:(l:List α)->(i:Nat)->Z71 f i l=false->∀ (j:Nat) (h:j<l.length),f (i+j) l[j]=false
 | [],_,_,j,h=>by simp at h
 | x::l,i,h,j,b=>by
  simp only [Z71,Bool.or_eq_false_iff] at h
  cases j with
  | zero=>simpa using h.1
  | succ j=>
   have:=jcE l (i+1) h.2 j (by simpa using b)
   rw [show i+(j+1)=i+1+j by omega]
   simpa using this
def j0l (s:ByteArray):Bool:= !((Z1n s).any λb=>decide (b<97)||decide (b>122))&&(decide (1<=s.size)&&decide (s.size<=8))
def veq (a b:V):Bool:=(a.1==b.1)&&((a.2.1==b.2.1)&&sEq a.2.2 b.2.2)
theorem jfO (a b:V):veq a b=true↔a=b:=by
 obtain ⟨d,f,g⟩:=a
 obtain ⟨h,i,j⟩:=b
 unfold veq
 simp only [Bool.and_eq_true,beq_iff_eq,j09,Prod.mk.injEq]
def vlt (a b:V):Bool:=j0n a&&(j0n b&&(bif a.1 != b.1 then decide (a.1<b.1) else bif a.2.1 != b.2.1 then decide (a.2.1<b.2.1) else sLt a.2.2 b.2.2))
def ji8 (v:V):Bool:=(v.1==0)&&((v.2.1==0)&&sEq v.2.2 eS)
def j0W (c:C):Bool:=j0l c.1&&(decide (1<=c.2.1/\c.2.1<=3)&&(j0n c.2.2.2.2&&(bif c.2.2.2.1 then (c.2.2.2.2.1==c.2.1)||((c.2.2.2.2.1==0)&& !c.2.2.1) else ji8 c.2.2.2.2)))
def j02 (l:List C) (n:ByteArray):Int:=Z9F (λc=>sEq c.1 n) l
theorem j8Q (l:List C) (n:ByteArray): -1<=j02 l n/\j02 l n<(l.length:Int):=jcF _ _
theorem jql:j0n (0,0,eS)=true:=by
 show (((0:Int)==0)&&sEq eS eS)=true
 rw [Zah];rfl
theorem jpi:ji8 (0,0,eS)=true:=by
 show (((0:Int)==0)&&(((0:Int)==0)&&sEq eS eS))=true
 rw [Zah];rfl
def j19 (l:List C):Int->List ByteArray->Bool
 | _,[]=>true
 | b,k::ks=> !decide (j02 l k<=b)&&((nth zC l (j02 l k)).2.2.1&&j19 l (j02 l k) ks)
def j4G (l:List C):Bool:= !Z71 (λi c=> !j0W c||(j02 l c.1 != (i:Int))) 0 l
def j04 (t:T):Bool:=(j0l t.1&&(decide (1<=t.2.1.length)&&(decide (t.2.1.length<=8)&&decide (1<=t.2.2.length))))&&(j4G t.2.1&&j19 t.2.1 (-1) t.2.2)
def j05 (l:List T) (n:ByteArray):Int:=Z9F (λt=>sEq t.1 n) l
def j22 (c:List T):Bool:=decide (c.length<=6)&& !Z71 (λi t=> !j04 t||(decide (0<i)&&sGe (nth zT c ((i:Int)-1)).1 t.1)) 0 c
def j3v (c:C) (v:V):Bool:=j0n v&&((v.1==c.2.1)||((v.1==0)&& !c.2.2.1))
def j0m (l:List C) (r:List V):Bool:=decide (r.length=l.length)&& !Z71 (λi c=> !j3v c (nth zV r (i:Int))) 0 l
def j06 (t:T) (r:List V):List V:=t.2.2.map λk=>nth zV r (j02 t.2.1 k)
def klt:List V->List V->Bool
 | [],[]=>false
 | [],_::_=>true
 | _::_,[]=>false
 | x::xs,y::ys=>bif veq x y then klt xs ys else vlt x y
def j08 (t:T) (l:List (List V)):Bool:=j04 t&&(decide (l.length<=60)&& !Z71 (λi r=> !j0m t.2.1 r||(decide (0<i)&& !klt (j06 t (nth [] l ((i:Int)-1))) (j06 t r))) 0 l)
def dbB (d:DB):Bool:=j22 d.1&&(decide (d.2.length=d.1.length)&& !Z71 (λi t=> !j08 t (nth [] d.2 (i:Int))) 0 d.1)
theorem j1G {t:T} (h:j04 t=true):j0l t.1=true/\1<=t.2.1.length/\t.2.1.length<=8/\1<=t.2.2.length/\j4G t.2.1=true/\j19 t.2.1 (-1) t.2.2=true:=by
 unfold j04 at h
 simp only [Bool.and_eq_true,decide_eq_true_eq] at h
 exact ⟨h.1.1,h.1.2.1,h.1.2.2.1,h.1.2.2.2,h.2.1,h.2.2⟩
theorem j1a {l:List C}:(ks:List ByteArray)->(b:Int)-> -1<=b->j19 l b ks=true->∀ k∈ks,0<=j02 l k/\j02 l k<(l.length:Int)
 | [],_,_,_,k,d=>by cases d
 | q::ks,b,i,h,k,d=>by
  simp only [j19,Bool.and_eq_true,Bool.not_eq_true',decide_eq_false_iff_not] at h
  have f:=(jcF (λc:C=>sEq c.1 q) l).2
  have g:0<=j02 l q:=by omega
  rcases List.mem_cons.1 d with rfl | d
  ·exact ⟨g,f⟩
  ·exact j1a ks (j02 l q) (by omega) h.2.2 k d
theorem jrs {c:C} (h:j0W c=true):1<=c.2.1/\c.2.1<=3:=by
 unfold j0W at h
 simp only [Bool.and_eq_true,decide_eq_true_eq] at h
 exact h.2.1
theorem jlQ {l:List C} (h:j4G l=true) (i:Nat) (b:i<l.length):j0W l[i]=true:=by
 unfold j4G at h
 have:=jcE l 0 (by simpa using h) i b
 simp only [Bool.or_eq_false_iff,Bool.not_eq_false'] at this
 exact this.1
end
end Go.PI.G
set_option linter.unusedSimpArgs false
namespace Go.PI.G
open Go Go.PI Go.Proofs
theorem jpD (s:ByteArray) (i:Nat) (h:i<(Z1n s).length):bt s (i:Int)=(Z1n s)[i]:=by
 have g:=jbQ s
 have d:i<s.data.size:=by
  have:i<s.size:=by omega
  exact this
 have f:(Z1n s)[i]=((s.data.toList.map λb:UInt8=>(b.toNat:Int))[i]'(by simpa using d)):=rfl
 rw [f,List.getElem_map]
 unfold bt
 simp [Array.getElem?_eq_getElem d]
theorem jrf (s:ByteArray) (x:Bool) (k:Bool->Res):(bif x then k false else (bif decide ((nI (ByteArray.size s))>=1) then k (decide ((nI (ByteArray.size s))<=8)) else k false))=k (!x&&(decide (1<=s.size)&&decide (s.size<=8))):=by
 cases x
 ·unfold nI
  by_cases b:1<=s.size
  ·rw [cond_false,decide_eq_true (show (s.size:Int)>=1 by omega),cond_true,decide_eq_true b]
   congr 1
   by_cases d:s.size<=8
   ·rw [decide_eq_true (show (s.size:Int)<=8 by omega),decide_eq_true d];rfl
   ·rw [decide_eq_false (show ¬ (s.size:Int)<=8 by omega),decide_eq_false d];rfl
  ·rw [cond_false,decide_eq_false (show ¬ (s.size:Int)>=1 by omega),cond_false,decide_eq_false b];rfl
 ·rfl
theorem j5e (s:ByteArray) (h:s.size<=LIM) (k:Bool->Res):j0D s k=k (j0l s):=by
 unfold j0D jfF
 have g:=jbQ s
 have:=Za2 (Z1n s) (λi=>i) (λb=>decide (b<97)||decide (b>122)) (step:=j9x s) ((λ(_:Unit)=>bif decide ((nI (ByteArray.size s))>=1) then k (decide ((nI (ByteArray.size s))<=8)) else k false),(λ(_:Unit)=>k false)) (bif decide ((nI (ByteArray.size s))>=1) then k (decide ((nI (ByteArray.size s))<=8)) else k false) (k false) (by omega) (λi rec f=>by
  show j46 s _ _ _ _=_
  unfold j46
  unfold LIM at h
  have d:i<s.size:=by omega
  rw [ZaQ d,cond_true,j00 d,cond_true,cond_true,jpD s i f,j01 (n:=(i:Int)+1) (by omega)]
  cases decide ((Z1n s)[i]<97)
  ·cases decide ((Z1n s)[i]>122)<;>rfl
  ·rfl) (λrec=>by
  show j46 s _ _ _ _=_
  unfold j46
  rw [g,ZaP,cond_false])
 refine this.trans ?_
 exact jrf s _ k
theorem j5b (s:ByteArray) (h:s.size<=LIM) (k:Bool->Res):j0s s k=k (j0l s):=by
 unfold j0s jbi
 have j:=jbQ s
 have:=Za2 (Z1n s) (λi=>i) (λb=>decide (b<97)||decide (b>122)) (step:=j6x s) ((λ(_:Unit)=>j0f (nI (ByteArray.size s)) 1 8 λ(r:Bool)=>k r),(λ(_:Unit)=>k false)) (j0f (nI (ByteArray.size s)) 1 8 λ(r:Bool)=>k r) (k false) (by omega) (λi rec g=>by
  show j3A s _ _ _ _=_
  unfold j3A
  unfold LIM at h
  have d:i<s.size:=by omega
  rw [ZaQ d,cond_true,j00 d,cond_true,cond_true,jpD s i g,j01 (n:=(i:Int)+1) (by omega)]
  cases decide ((Z1n s)[i]<97)
  ·cases decide ((Z1n s)[i]>122)<;>rfl
  ·rfl) (λrec=>by
  show j3A s _ _ _ _=_
  unfold j3A
  rw [j,ZaP,cond_false])
 refine this.trans ?_
 rw [j6u]
 have f:decide (1<=nI s.size/\nI s.size<=8)=(decide (1<=s.size)&&decide (s.size<=8)):=by
  rw [<-Bool.decide_and]
  exact decide_eq_decide.2 (by unfold nI;omega)
 rw [f]
 unfold j0l
 cases (Z1n s).any λb=>decide (b<97)||decide (b>122)<;>rfl
end Go.PI.G
namespace Go.PI.G
open Go Go.PI Go.Proofs
theorem jkL (c:C) (h:c.1.size<=LIM) (k:Bool->Res):j51 c k=k (j0W c):=by
 obtain ⟨n,ty,w,r,d⟩:=c
 unfold j51 j0W
 dsimp only at h ⊢
 rw [j5e n h,j8p]
 cases j0l n
 ·rfl
 ·rw [Bool.not_true,cond_false,Bool.true_and]
  by_cases p:1<=ty/\ty<=3
  ·rw [decide_eq_false (show ¬ ty<1 by omega),cond_false,decide_eq_false (show ¬ ty>3 by omega),cond_false,decide_eq_true p,Bool.true_and]
   cases r
   ·rw [Bool.not_false,cond_true,cond_false]
    have:j0n d=false->ji8 d=false:=λj=>by
     cases i:ji8 d with
     | false=>rfl
     | true=>
      unfold ji8 at i
      simp only [Bool.and_eq_true,beq_iff_eq,j09] at i
      have:d=(0,0,eS):=by
       obtain ⟨a,b,c⟩:=d
       simp only at i
       rw [i.1,i.2.1,i.2.2]
      rw [this,jql] at j
      cases j
    cases j:j0n d
    ·rw [Bool.false_and]
     exact congrArg k (this j)
    ·rfl
   ·rw [Bool.not_true,cond_false,cond_true]
    cases j:j0n d
    ·rfl
    ·rw [cond_true,Bool.true_and]
     have g:(d.1==0)=true->((d.1==0)&&((d.2.1==0)&&sEq d.2.2 eS))=true:=λf=>by
      rcases jgk j with rfl | ⟨m,_,rfl⟩ | ⟨m,_,rfl⟩ | ⟨m,_,rfl⟩
      ·exact jpi
      ·cases f
      ·cases f
      ·cases f
     cases f:d.1==0
     ·rw [Bool.false_and,cond_false]
      cases d.1==ty<;>rfl
     ·have:=g f
      rw [f] at this
      rw [this,cond_true,cond_true]
      have l:(d.1==ty)=false:=by
       simp only [beq_iff_eq] at f
       rw [f];simp;omega
      rw [l,Bool.false_or,Bool.true_and]
  ·rw [decide_eq_false p]
   by_cases q:ty<1
   ·rw [decide_eq_true q];rfl
   ·rw [decide_eq_false q,cond_false,decide_eq_true (show ty>3 by omega)];rfl
theorem jk7 (c:C) (h:c.1.size<=LIM) (k:Bool->Res):j4J c k=k (j0W c):=by
 obtain ⟨n,ty,f,d,b⟩:=c
 unfold j4J j0W
 dsimp only at h ⊢
 rw [j5b n h,j6u,j8e]
 cases j0l n
 ·rfl
 ·cases decide (1<=ty/\ty<=3)
  ·rfl
  ·cases j0n b
   ·rfl
   ·cases d
    ·rfl
    ·cases b.1==ty
     ·cases b.1==0<;>rfl
     ·rfl
theorem j6s (t:T) (n:ByteArray) (h:t.2.1.length<=LIM) (k:Int->Res):j0G t n k=k (j02 t.2.1 n):=by
 unfold j0G jgU
 refine Z9S t.2.1 (λi=>i) (λc=>sEq c.1 n) (step:=jaD n t.2.1 (nI t.2.1.length)) _ k h (λi rec b=> ?_) (λrec=> ?_)
 ·show j50 n _ _ _ _ _ _=_
  unfold j50
  unfold LIM at h
  rw [ZaQ b,cond_true,j00 b,cond_true,Zay _ _ _ b,j01 (n:=(i:Int)+1) (by omega)]
 ·show j50 n _ _ _ _ _ _=_
  unfold j50
  rw [ZaP,cond_false]
theorem j7H (t:T) (n:ByteArray) (h:t.2.1.length<=LIM) (k:Int->Res):j0e t n k=k (j02 t.2.1 n):=by
 unfold j0e j6C j8u
 refine Z9S t.2.1 (λi=>i) (λc=>sEq c.1 n) (step:=j3c t.2.1 n (nI t.2.1.length)) _ k h (λi rec b=> ?_) (λrec=> ?_)
 ·show j0Q _ n _ _ _ _ _=_
  unfold j0Q jeN
  unfold LIM at h
  rw [ZaQ b,cond_true,j00 b,cond_true,Zay _ _ _ b,j01 (n:=(i:Int)+1) (by omega)]
 ·show j0Q _ n _ _ _ _ _=_
  unfold j0Q
  rw [ZaP,cond_false]
theorem j2w {t:T} (h:msr yT t<=1048576):t.1.size<=1048576/\t.2.1.length<=1048576/\t.2.2.length<=1048576/\(∀ c∈t.2.1,c.1.size<=1048576)/\∀ x∈t.2.2,x.size<=1048576:=by
 have i:msr yT t=t.1.size+(msr (.slice yC) t.2.1+msr (.slice .str) t.2.2):=rfl
 have b:msr (.slice yC) t.2.1<=1048576:=by omega
 have d:msr (.slice .str) t.2.2<=1048576:=by omega
 refine ⟨by omega,j0h b,j0h d,λc f=> ?_,λx g=>j11 d g⟩
 have:=j11 b f
 have j:msr yC c=c.1.size+msr (.pair (.int .i64) (.pair .bool (.pair .bool yV))) c.2:=rfl
 omega
noncomputable def tSm (t:T):Prop:=t.1.size<=1048576/\t.2.1.length<=1048576/\t.2.2.length<=1048576/\(∀ c∈t.2.1,c.1.size<=1048576)/\∀ x∈t.2.2,x.size<=1048576
theorem jmY (t:T) (h:tSm t) (a b:Unit->Res):j7A t.2.1 (nI t.2.1.length) t Z1c 0 a b=bif j4G t.2.1 then a () else b ():=by
 have f:=h
 obtain ⟨j,k,l,g,m⟩:=f
 unfold j7A
 have:=Z9P t.2.1 (λi=>i) (λi c=> !j0W c||(j02 t.2.1 c.1 != (i:Int))) (step:=j2Z t.2.1 (nI t.2.1.length) t) (a,b) (a ()) (b ()) (by unfold LIM;omega) (λi rec d=>by
  show j1L _ _ t _ _ _ _=_
  unfold j1L
  rw [ZaQ d,cond_true,j00 d,cond_true,Zay _ _ _ d,jkL _ (by have:=g _ (List.getElem_mem d);unfold LIM;omega),j6s t _ (by unfold LIM;omega),j01 (n:=(i:Int)+1) (by omega)]
  cases j0W t.2.1[i]
  ·rfl
  ·cases j02 t.2.1 t.2.1[i].1 != (i:Int)<;>rfl) (λrec=>by
  show j1L _ _ t _ _ _ _=_
  unfold j1L
  rw [ZaP,cond_false])
 refine this.trans ?_
 unfold j4G
 cases Z71 (λi c=> !j0W c||(j02 t.2.1 c.1 != (i:Int))) 0 t.2.1<;>rfl
theorem jmy (t:T) (h:tSm t) (a b:Unit->Res):j7n t.2.1 (nI t.2.1.length) t Z1c 0 a b=bif j4G t.2.1 then a () else b ():=by
 have f:=h
 obtain ⟨j,k,l,g,m⟩:=f
 unfold j7n
 have:=Z9P t.2.1 (λi=>i) (λi c=> !j0W c||(j02 t.2.1 c.1 != (i:Int))) (step:=j2P t.2.1 (nI t.2.1.length) t) (a,b) (a ()) (b ()) (by unfold LIM;omega) (λi rec d=>by
  show j1J _ _ t _ _ _ _=_
  unfold j1J
  rw [ZaQ d,cond_true,j00 d,cond_true,Zay _ _ _ d,jk7 _ (by have:=g _ (List.getElem_mem d);unfold LIM;omega),j7H t _ (by unfold LIM;omega),j01 (n:=(i:Int)+1) (by omega)]
  cases j0W t.2.1[i]
  ·rfl
  ·cases j02 t.2.1 t.2.1[i].1 != (i:Int)<;>rfl) (λrec=>by
  show j1J _ _ t _ _ _ _=_
  unfold j1J
  rw [ZaP,cond_false])
 refine this.trans ?_
 unfold j4G
 cases Z71 (λi c=> !j0W c||(j02 t.2.1 c.1 != (i:Int))) 0 t.2.1<;>rfl
noncomputable def j8i (l:List C) (b:Int) (k:ByteArray):Except Unit Int:=bif decide (j02 l k<=b) then .error () else bif !(nth zC l (j02 l k)).2.2.1 then .error () else .ok (j02 l k)
theorem jhx (l:List C):(ks:List ByteArray)->(i:Nat)->(b:Int)->(∃ z,Z1S (λ_ b k=>j8i l b k) i ks b= .ok z/\j19 l b ks=true)\/(Z1S (λ_ b k=>j8i l b k) i ks b= .error ()/\j19 l b ks=false)
 | [],_,b=> .inl ⟨b,rfl,rfl⟩
 | k::ks,i,b=>by
  have d:=jhx l ks (i+1) (j02 l k)
  simp only [Z1S,j19,j8i] at d ⊢
  cases decide (j02 l k<=b)
  ·cases (nth zC l (j02 l k)).2.2.1
   ·exact .inr ⟨rfl,rfl⟩
   ·exact d
  ·exact .inr ⟨rfl,rfl⟩
theorem jmZ (t:T) (h:tSm t) (a b:Unit->Res):j7B t.2.2 (nI t.2.2.length) t Z1c (-1) 0 a b=bif j19 t.2.1 (-1) t.2.2 then a () else b ():=by
 have q:=h
 obtain ⟨w,y,A,B,C⟩:=q
 unfold j7B
 have:=Z3Z t.2.2 (λi d=>(d,i)) (λ_ d k=>j8i t.2.1 d k) (λ_ d=> -1<=d) (step:=j5o t.2.2 (nI t.2.2.length) t) (a,b) (λ_=>a ()) (λ_=>b ()) (-1) (by unfold LIM;omega) (by omega) (λi d m l p g=>by
  unfold j8i at g
  have:=(j8Q t.2.1 t.2.2[i]).1
  cases f:decide (j02 t.2.1 t.2.2[i]<=d)
  ·rw [f,cond_false] at g
   cases j:(nth zC t.2.1 (j02 t.2.1 t.2.2[i])).2.2.1
   ·rw [j] at g;cases g
   ·rw [j] at g
    cases g
    exact this
  ·rw [f] at g;cases g) (λi d rec l p=>by
  show j30 _ _ t _ _ _ _ _=_
  unfold j30
  dsimp only
  rw [ZaQ l,cond_true,j00 l,cond_true,Zay _ _ _ l,j6s t _ (by unfold LIM;omega),j01 (n:=(i:Int)+1) (by omega)]
  unfold j8i
  by_cases f:j02 t.2.1 t.2.2[i]<=d
  ·rw [decide_eq_true f];rfl
  ·have r:=(j8Q t.2.1 t.2.2[i]).2
   rw [decide_eq_false f,cond_false,cond_false,ZaK (by omega) r,cond_true]
   cases (nth zC t.2.1 (j02 t.2.1 t.2.2[i])).2.2.1<;>rfl) (λd rec _=>by
  show j30 _ _ t _ _ _ _ _=_
  unfold j30
  dsimp only
  rw [ZaP,cond_false])
 refine this.trans ?_
 rcases jhx t.2.1 t.2.2 0 (-1) with ⟨z,f,j⟩ | ⟨f,j⟩<;>rw [f,j]<;>rfl
theorem jmz (t:T) (h:tSm t) (a b:Unit->Res):j7o t.2.2 (nI t.2.2.length) t Z1c (-1) 0 a b=bif j19 t.2.1 (-1) t.2.2 then a () else b ():=by
 have q:=h
 obtain ⟨w,y,A,B,C⟩:=q
 unfold j7o
 have:=Z3Z t.2.2 (λi d=>(d,i)) (λ_ d k=>j8i t.2.1 d k) (λ_ d=> -1<=d) (step:=j5j t.2.2 (nI t.2.2.length) t) (a,b) (λ_=>a ()) (λ_=>b ()) (-1) (by unfold LIM;omega) (by omega) (λi d m l p g=>by
  unfold j8i at g
  have:=(j8Q t.2.1 t.2.2[i]).1
  cases f:decide (j02 t.2.1 t.2.2[i]<=d)
  ·rw [f,cond_false] at g
   cases j:(nth zC t.2.1 (j02 t.2.1 t.2.2[i])).2.2.1
   ·rw [j] at g;cases g
   ·rw [j] at g
    cases g
    exact this
  ·rw [f] at g;cases g) (λi d rec l p=>by
  show j2Q _ _ t _ _ _ _ _=_
  unfold j2Q
  dsimp only
  rw [ZaQ l,cond_true,j00 l,cond_true,Zay _ _ _ l,j7H t _ (by unfold LIM;omega),j01 (n:=(i:Int)+1) (by omega)]
  unfold j8i
  by_cases f:j02 t.2.1 t.2.2[i]<=d
  ·rw [decide_eq_true f];rfl
  ·have r:=(j8Q t.2.1 t.2.2[i]).2
   rw [decide_eq_false f,cond_false,cond_false,ZaK (by omega) r,cond_true]
   cases (nth zC t.2.1 (j02 t.2.1 t.2.2[i])).2.2.1<;>rfl) (λd rec _=>by
  show j2Q _ _ t _ _ _ _ _=_
  unfold j2Q
  dsimp only
  rw [ZaP,cond_false])
 refine this.trans ?_
 rcases jhx t.2.1 t.2.2 0 (-1) with ⟨z,f,j⟩ | ⟨f,j⟩<;>rw [f,j]<;>rfl
theorem jr8 (t:T) (k:Bool->Res):j57 t k=j0D t.1 λw=>k (!(w&&(decide (1<=t.2.1.length)&&(decide (t.2.1.length<=8)&&decide (1<=t.2.2.length))))):=by
 unfold j57
 congr 1
 funext w
 unfold nI
 cases w
 ·rfl
 ·rw [Bool.not_true,cond_false,Bool.true_and]
  by_cases b:1<=t.2.1.length
  ·rw [decide_eq_false (show ¬ (t.2.1.length:Int)<1 by omega),cond_false,decide_eq_true b,Bool.true_and]
   by_cases d:t.2.1.length<=8
   ·rw [decide_eq_false (show ¬ (t.2.1.length:Int)>8 by omega),cond_false,decide_eq_true d,Bool.true_and]
    congr 1
    by_cases f:1<=t.2.2.length
    ·rw [decide_eq_false (show ¬ (t.2.2.length:Int)<1 by omega),decide_eq_true f];rfl
    ·rw [decide_eq_true (show (t.2.2.length:Int)<1 by omega),decide_eq_false f];rfl
   ·rw [decide_eq_true (show (t.2.1.length:Int)>8 by omega),decide_eq_false d];rfl
  ·rw [decide_eq_true (show (t.2.1.length:Int)<1 by omega),decide_eq_false b];rfl
theorem jiS (t:T) (h:tSm t) (k:Bool->Res):j0r t k=k (j04 t):=by
 have b:=h
 obtain ⟨d,f,g,i,j⟩:=b
 unfold j0r j04
 rw [jr8,j5e _ (by unfold LIM;omega),jmY t h,jmZ t h]
 cases j0l t.1&&(decide (1<=t.2.1.length)&&(decide (t.2.1.length<=8)&&decide (1<=t.2.2.length)))
 ·rfl
 ·cases j4G t.2.1
  ·rfl
  ·cases j19 t.2.1 (-1) t.2.2<;>rfl
theorem jiI (t:T) (h:tSm t) (k:Bool->Res):j0H t k=k (j04 t):=by
 have d:=h
 obtain ⟨g,i,j,l,m⟩:=d
 unfold j0H j04
 rw [j5b _ (by unfold LIM;omega),j6u,jmy t h,jmz t h]
 have b:decide (1<=nI t.2.1.length/\nI t.2.1.length<=8)=(decide (1<=t.2.1.length)&&decide (t.2.1.length<=8)):=by
  rw [<-Bool.decide_and]
  exact decide_eq_decide.2 (by unfold nI;omega)
 have f:decide (nI t.2.2.length>0)=decide (1<=t.2.2.length):=decide_eq_decide.2 (by unfold nI;omega)
 rw [b,f]
 cases j4G t.2.1
 ·rw [Bool.false_and,Bool.and_false];rfl
 ·cases j19 t.2.1 (-1) t.2.2
  ·rw [Bool.and_false,Bool.and_false];rfl
  ·cases j0l t.1
   ·rfl
   ·cases decide (1<=t.2.1.length)
    ·rfl
    ·cases decide (t.2.1.length<=8)
     ·rfl
     ·cases decide (1<=t.2.2.length)<;>rfl
theorem jcQ (t:T) (h:msr yT t<=1048576) (k:Bool->Res):j0r t k=k (j04 t):=jiS t (j2w h) k
theorem jg3 (t:T) (h:msr yT t<=1048576) (k:Bool->Res):j0H t k=k (j04 t):=jiI t (j2w h) k
theorem jnk (c:List T) (i:Nat) (d:i<c.length) (b:c.length<=LIM) (x:Res) (y:Res):(bif decide ((i:Int)>0) then (bif inb (Z9K ((i:Int)-1)) c.length then (bif sGe (nth zT c (Z9K ((i:Int)-1))).1 c[i].1 then x else y) else none) else y) =
  bif (decide (0<i)&&sGe (nth zT c ((i:Int)-1)).1 c[i].1) then x else y:=by
 by_cases h:0<i
 ·unfold LIM at b
  rw [decide_eq_true (show (i:Int)>0 by omega),decide_eq_true h,cond_true,j01 (by omega),ZaK (by omega) (by omega),cond_true,Bool.true_and]
 ·rw [decide_eq_false (show ¬ (i:Int)>0 by omega),decide_eq_false h];rfl
end Go.PI.G
namespace Go.PI.G
open Go Go.PI
def free (b:Int) (s:ByteArray):Prop:=b ∉ Z1n s
theorem jgm {s:ByteArray} (h:j0l s=true):1<=s.size/\s.size<=8:=by
 unfold j0l at h
 simp only [Bool.and_eq_true,decide_eq_true_eq] at h
 exact h.2
end Go.PI.G
namespace Go.PI.G
open Go Go.PI
abbrev D:=Int×ByteArray×List C×List ByteArray×ByteArray×ByteArray
abbrev ST:=Int×ByteArray×List V×List V×D
abbrev yD:Ty:= .pair (.int .i64) (.pair .str (.pair (.slice yC) (.pair (.slice .str) (.pair .str .str))))
abbrev yST:Ty:= .pair (.int .i64) (.pair .str (.pair (.slice yV) (.pair (.slice yV) yD)))
abbrev zD:D:=(0,eS,[],[],eS,eS)
abbrev zST:ST:=(0,eS,[],[],0,eS,[],[],eS,eS)
theorem jn7:∃ m,Z1c=m+1:=⟨Z1c-1,by have:=Z2b (n:=1) (by omega);omega⟩
theorem j3n (n:Nat):(nI n==0)=(n==0):=by
 unfold nI
 cases n with
 | zero=>rfl
 | succ n=>show ((((n+1:Nat):Int))==0)=false;simp;omega
theorem jq0 (n:Nat):(nI n==1)=(n==1):=by
 unfold nI
 by_cases h:n=1
 ·subst h;rfl
 ·have b:(n==1)=false:=by simp [h]
  have d:((n:Int)==1)=false:=by simp;omega
  rw [b,d]
theorem jph (m n:Nat):(nI m != nI n)= !(m==n):=by
 unfold nI
 by_cases h:m=n
 ·subst h;simp
 ·have b:(m==n)=false:=by simp [h]
  have d:((m:Int) != n)=true:=by simp;omega
  rw [b,d];rfl
def noD (d:D):Bool:=(d.1==0)&&(sEq d.2.1 eS&&((d.2.2.1.length==0)&&((d.2.2.2.1.length==0)&&(sEq d.2.2.2.2.1 eS&&sEq d.2.2.2.2.2 eS))))
def jbT (d:D):Bool:=(d.2.2.1.length==0)&&(d.2.2.2.1.length==0)
noncomputable def j0X (d:D):Bool:=j0l d.2.1 &&
 (bif d.1==1 then sEq d.2.2.2.2.1 eS&&(sEq d.2.2.2.2.2 eS&&j04 (d.2.1,d.2.2.1,d.2.2.2.1))
  else bif d.1==2 then jbT d&&(sEq d.2.2.2.2.1 eS&&sEq d.2.2.2.2.2 eS)
  else bif d.1==3 then (d.2.2.1.length==1)&&(j0W (nth zC d.2.2.1 0)&&(((nth zC d.2.2.1 0).2.2.2.1|| !(nth zC d.2.2.1 0).2.2.1)&&((d.2.2.2.1.length==0)&&(sEq d.2.2.2.2.1 eS&&sEq d.2.2.2.2.2 eS))))
  else bif d.1==4 then jbT d&&(j0l d.2.2.2.2.1&&sEq d.2.2.2.2.2 eS)
  else bif d.1==5 then jbT d&&(j0l d.2.2.2.2.1&&j0l d.2.2.2.2.2)
  else false)
def j2D (l:List V):Bool:=l.all j0n&&(decide (1<=l.length)&&decide (l.length<=8))
noncomputable def stB (s:ST):Bool:=j0l s.2.1 &&
 (bif s.1==1 then (s.2.2.1.length==0)&&(j2D s.2.2.2.1&&noD s.2.2.2.2)
  else bif s.1==2 then j2D s.2.2.1&&(j2D s.2.2.2.1&&noD s.2.2.2.2)
  else bif s.1==3 then j2D s.2.2.1&&((s.2.2.2.1.length==0)&&noD s.2.2.2.2)
  else bif s.1==4 then (s.2.2.1.length==0)&&((s.2.2.2.1.length==0)&&noD s.2.2.2.2)
  else bif s.1==5 then (s.2.2.1.length==0)&&((s.2.2.2.1.length==0)&&(j0X s.2.2.2.2&&sEq s.2.2.2.2.2.1 s.2.1))
  else false)
def dSm (d:D):Prop:=d.2.1.size<=1048576/\d.2.2.1.length<=1048576/\d.2.2.2.1.length<=1048576/\(∀ c∈d.2.2.1,c.1.size<=1048576)/\(∀ x∈d.2.2.2.1,x.size<=1048576)/\d.2.2.2.2.1.size<=1048576/\d.2.2.2.2.2.size<=1048576
def j1x (s:ST):Prop:=s.2.1.size<=1048576/\s.2.2.1.length<=1048576/\s.2.2.2.1.length<=1048576/\dSm s.2.2.2.2
theorem jfw (d:D):noD d=true↔d=zD:=by
 obtain ⟨a,b,c,e,f,g⟩:=d
 unfold noD
 simp only [Bool.and_eq_true,beq_iff_eq,j09,Prod.mk.injEq,List.length_eq_zero_iff]
theorem j8d {d:D} (h:j0X d=true):j0l d.2.1=true /\
  ((∃ t cs ks,d=(1,t,cs,ks,eS,eS)/\j04 (t,cs,ks)=true)\/(∃ t,d=(2,t,[],[],eS,eS))\/(∃ t c,d=(3,t,[c],[],eS,eS)/\j0W c=true) \/
   (∃ t n,d=(4,t,[],[],n,eS)/\j0l n=true)\/∃ t n m,d=(5,t,[],[],n,m)/\j0l n=true/\j0l m=true):=by
 obtain ⟨k,t,cs,ks,n,m⟩:=d
 unfold j0X jbT at h
 dsimp only at h ⊢
 rw [Bool.and_eq_true] at h
 refine ⟨h.1,?_⟩
 have h:=h.2
 cases g:k==1
 ·cases i:k==2
  ·cases j:k==3
   ·cases l:k==4
    ·cases p:k==5
     ·rw [g,i,j,l,p] at h;cases h
     ·rw [g,i,j,l,p] at h
      simp only [cond_false,cond_true,Bool.and_eq_true,beq_iff_eq] at h p
      obtain ⟨⟨a,b⟩,c,e⟩:=h
      rw [List.length_eq_zero_iff] at a b
      subst a;subst b;subst p
      exact .inr (.inr (.inr (.inr ⟨t,n,m,rfl,c,e⟩)))
    ·rw [g,i,j,l] at h
     simp only [cond_false,cond_true,Bool.and_eq_true,beq_iff_eq,j09] at h l
     obtain ⟨⟨a,b⟩,c,e⟩:=h
     rw [List.length_eq_zero_iff] at a b
     subst a;subst b;subst l;subst e
     exact .inr (.inr (.inr (.inl ⟨t,n,rfl,c⟩)))
   ·rw [g,i,j] at h
    simp only [cond_false,cond_true,Bool.and_eq_true,beq_iff_eq,j09] at h j
    obtain ⟨a,b,_,c,e,f⟩:=h
    obtain ⟨c0,rfl⟩:=List.length_eq_one_iff.1 a
    rw [List.length_eq_zero_iff] at c
    subst c;subst j;subst e;subst f
    exact .inr (.inr (.inl ⟨t,c0,rfl,b⟩))
  ·rw [g,i] at h
   simp only [cond_false,cond_true,Bool.and_eq_true,beq_iff_eq,j09] at h i
   obtain ⟨⟨a,b⟩,e,f⟩:=h
   rw [List.length_eq_zero_iff] at a b
   subst a;subst b;subst i;subst e;subst f
   exact .inr (.inl ⟨t,rfl⟩)
 ·rw [g] at h
  simp only [cond_true,Bool.and_eq_true,beq_iff_eq,j09] at h g
  obtain ⟨e,f,a⟩:=h
  subst g;subst e;subst f
  exact .inl ⟨t,cs,ks,rfl,a⟩
theorem jqa {s:ST} (h:stB s=true):j0l s.2.1=true /\
  ((∃ t r,s=(1,t,[],r,zD)/\j2D r=true)\/(∃ t q r,s=(2,t,q,r,zD)/\j2D q=true/\j2D r=true)\/(∃ t q,s=(3,t,q,[],zD)/\j2D q=true) \/
   (∃ t,s=(4,t,[],[],zD))\/∃ d:D,s=(5,d.2.1,[],[],d)/\j0X d=true):=by
 obtain ⟨k,t,q,r,d⟩:=s
 unfold stB at h
 dsimp only at h ⊢
 rw [Bool.and_eq_true] at h
 refine ⟨h.1,?_⟩
 have h:=h.2
 cases f:k==1
 ·cases g:k==2
  ·cases i:k==3
   ·cases j:k==4
    ·cases l:k==5
     ·rw [f,g,i,j,l] at h;cases h
     ·rw [f,g,i,j,l] at h
      simp only [cond_false,cond_true,Bool.and_eq_true,beq_iff_eq,j09] at h l
      obtain ⟨a,b,c,e⟩:=h
      rw [List.length_eq_zero_iff] at a b
      subst a;subst b;subst l;subst e
      exact .inr (.inr (.inr (.inr ⟨d,rfl,c⟩)))
    ·rw [f,g,i,j] at h
     simp only [cond_false,cond_true,Bool.and_eq_true,beq_iff_eq,jfw] at h j
     obtain ⟨a,b,c⟩:=h
     rw [List.length_eq_zero_iff] at a b
     subst a;subst b;subst j;subst c
     exact .inr (.inr (.inr (.inl ⟨t,rfl⟩)))
   ·rw [f,g,i] at h
    simp only [cond_false,cond_true,Bool.and_eq_true,beq_iff_eq,jfw] at h i
    obtain ⟨a,b,c⟩:=h
    rw [List.length_eq_zero_iff] at b
    subst b;subst i;subst c
    exact .inr (.inr (.inl ⟨t,q,rfl,a⟩))
  ·rw [f,g] at h
   simp only [cond_false,cond_true,Bool.and_eq_true,beq_iff_eq,jfw] at h g
   obtain ⟨a,b,c⟩:=h
   subst g;subst c
   exact .inr (.inl ⟨t,q,r,rfl,a,b⟩)
 ·rw [f] at h
  simp only [cond_true,Bool.and_eq_true,beq_iff_eq,jfw] at h f
  obtain ⟨a,b,c⟩:=h
  rw [List.length_eq_zero_iff] at a
  subst a;subst f;subst c
  exact .inl ⟨t,r,rfl,b⟩
end Go.PI.G
namespace Go.PI.G
open Go Go.PI Go.Proofs
theorem jbS (l:List ByteArray) (k:Bool->Res):j1Z l [] k=k (l.length==0):=by
 unfold j1Z
 rw [jph]
 cases l with
 | nil=>
  obtain ⟨m,b⟩:=jn7
  rw [show (!(([]:List ByteArray).length==([]:List ByteArray).length))=false from rfl,cond_false]
  unfold j91
  rw [b,Z9Y]
  rfl
 | cons x l=>rfl
theorem je3 (l:List C) (k:Bool->Res):j1j l [] k=k (l.length==0):=by
 unfold j1j
 rw [jph]
 cases l with
 | nil=>
  obtain ⟨m,b⟩:=jn7
  rw [show (!(([]:List C).length==([]:List C).length))=false from rfl,cond_false]
  unfold j7j
  rw [b,Z9Y]
  rfl
 | cons x l=>rfl
theorem jp8 (l:List C) (h:l.length<=LIM) (k:Bool->Res):j1j l l k=k true:=by
 unfold j1j j7j
 rw [jph,beq_self_eq_true,Bool.not_true,cond_false]
 have:=Za2 l (λi=>i) (λ_=>false) (step:=j6a l l (nI l.length)) ((λ(_:Unit)=>k true),(λ(_:Unit)=>k false)) (k true) (k false) h (λi rec b=>by
  show j1q _ _ _ _ _ _ _=_
  unfold j1q
  unfold LIM at h
  have d:∀ x:Bool,(x==x)=true:=by decide
  rw [ZaQ b,cond_true,j00 b,cond_true,cond_true]
  simp only [Zah,beq_self_eq_true,d,Bool.and_true,Bool.not_true,cond_false]
  rw [j01 (by omega)]) (λrec=>by
  show j1q _ _ _ _ _ _ _=_
  unfold j1q
  rw [ZaP,cond_false])
 refine this.trans ?_
 have:(l.any λ_=>false)=false:=by simp
 rw [this,cond_false]
theorem jrh {d:D} (h:dSm d):tSm (d.2.1,d.2.2.1,d.2.2.2.1):=⟨h.1,h.2.1,h.2.2.1,h.2.2.2.1,h.2.2.2.2.1⟩
theorem jrG (d:D) (K:Bool->Res):j71 d K=K (jbT d):=by
 unfold j71 jbT
 rw [j3n,j3n]
 cases d.2.2.1.length==0<;>rfl
theorem jgi (d:D) (h:dSm d) (k:Bool->Res):j2b d k=k (j0X d):=by
 have i:=jrh h
 obtain ⟨w,y,z,j,A,B,C⟩:=h
 obtain ⟨b,t,cs,ks,n,m⟩:=d
 dsimp only at w y z j A B C i
 unfold j2b j0X
 rw [jrG]
 generalize r:jbT (b,t,cs,ks,n,m)=g
 dsimp only
 rw [j5e _ (by unfold LIM;omega),j3n]
 cases j0l t
 ·rfl
 ·rw [Bool.not_true,cond_false,Bool.true_and]
  cases b==1
  ·cases b==2
   ·cases b==3
    ·cases b==4
     ·cases b==5
      ·rfl
      ·rw [cond_false,cond_false,cond_false,cond_false,cond_true,cond_false,cond_false,cond_false,cond_false,cond_true,j5e n (by unfold LIM;omega),j5e m (by unfold LIM;omega)]
       cases g
       ·rfl
       ·cases j0l n<;>rfl
     ·rw [cond_false,cond_false,cond_false,cond_true,cond_false,cond_false,cond_false,cond_true,j5e n (by unfold LIM;omega)]
      cases g
      ·rfl
      ·cases j0l n<;>rfl
    ·rw [cond_false,cond_false,cond_true,cond_false,cond_false,cond_true,jq0]
     cases q:cs.length==1
     ·rfl
     ·have f:cs.length=1:=by simpa using q
      have p:inb 0 cs.length=true:=by rw [f];rfl
      have l:(nth zC cs 0).1.size<=LIM:=by
       have:=j (nth zC cs 0) (by rw [show (0:Int)=((0:Nat):Int) by rfl,Zay _ _ _ (by omega)];exact List.getElem_mem _)
       unfold LIM;omega
      rw [cond_true,p,cond_true,jkL _ l,Bool.true_and]
      cases j0W (nth zC cs 0)
      ·rfl
      ·rw [cond_true,cond_true,cond_true,Bool.true_and]
       cases (nth zC cs 0).2.2.2.1
       ·cases (nth zC cs 0).2.2.1
        ·cases ks.length==0
         ·rfl
         ·cases sEq n eS<;>rfl
        ·rfl
       ·cases ks.length==0
        ·rfl
        ·cases sEq n eS<;>rfl
   ·rw [cond_false,cond_true,cond_false,cond_true]
    cases g
    ·rfl
    ·cases sEq n eS<;>rfl
  ·rw [cond_true,cond_true,jiS _ i]
   cases sEq n eS
   ·rfl
   ·cases sEq m eS<;>rfl
theorem jiH (d:D) (h:dSm d) (k:T->Res):j2F d k=k (d.2.1,d.2.2.1,d.2.2.2.1):=by
 unfold j2F j3k j3l
 have b:=h.2.1
 have f:=h.2.2.1
 dsimp only
 rw [ZaL (by unfold LIM;omega),cond_true,ZaL (by unfold LIM;omega),cond_true]
theorem jg1 (d:D) (h:dSm d) (k:Bool->Res):j28 d k=k (j0X d):=by
 have i:=jrh h
 have f:=jiH d h
 obtain ⟨z,A,B,j,C,E,F⟩:=h
 obtain ⟨b,t,cs,ks,n,m⟩:=d
 dsimp only at z A B j C E F i f
 unfold j28 j0X jbT
 dsimp only
 rw [j5b _ (by unfold LIM;omega)]
 have l:cs.length<=LIM:=by unfold LIM;omega
 have G:ks.length<=LIM:=by unfold LIM;omega
 cases j0l t
 ·rfl
 ·rw [Bool.not_true,cond_false,Bool.true_and]
  cases q:b==1
  ·cases b==2
   ·cases b==3
    ·cases b==4
     ·cases b==5
      ·rfl
      ·rw [cond_false,cond_false,cond_false,cond_false,cond_true,cond_false,cond_false,cond_false,cond_false,cond_true]
       unfold j0d
       dsimp only
       rw [beq_self_eq_true,cond_true,Zah,cond_true,je3,jbS,Zah,cond_true,Zah,j5b n (by unfold LIM;omega),j5b m (by unfold LIM;omega)]
       cases cs.length==0
       ·rfl
       ·cases ks.length==0
        ·rfl
        ·cases j0l n<;>rfl
     ·rw [cond_false,cond_false,cond_false,cond_true,cond_false,cond_false,cond_false,cond_true]
      unfold j0d
      dsimp only
      rw [beq_self_eq_true,cond_true,Zah,cond_true,je3,jbS,Zah,cond_true,j5b n (by unfold LIM;omega)]
      cases cs.length==0
      ·rfl
      ·cases ks.length==0
       ·rfl
       ·cases sEq m eS<;>cases j0l n<;>rfl
    ·rw [cond_false,cond_false,cond_true,cond_false,cond_false,cond_true,jq0]
     unfold j0d
     dsimp only
     rw [beq_self_eq_true,cond_true,Zah,cond_true,jp8 _ l,cond_true,jbS]
     cases y:cs.length==1
     ·cases ks.length==0
      ·rfl
      ·cases sEq n eS
       ·rfl
       ·cases sEq m eS<;>rfl
     ·have g:cs.length=1:=by simpa using y
      have w:inb 0 cs.length=true:=by rw [g];rfl
      have r:(nth zC cs 0).1.size<=LIM:=by
       have:=j (nth zC cs 0) (by rw [show (0:Int)=((0:Nat):Int) by rfl,Zay _ _ _ (by omega)];exact List.getElem_mem _)
       unfold LIM;omega
      rw [w,jk7 _ r]
      cases ks.length==0
      ·cases j0W (nth zC cs 0)<;>cases (nth zC cs 0).2.2.2.1<;>cases (nth zC cs 0).2.2.1<;>rfl
      ·cases sEq n eS
       ·cases j0W (nth zC cs 0)<;>cases (nth zC cs 0).2.2.2.1<;>cases (nth zC cs 0).2.2.1<;>rfl
       ·cases sEq m eS<;>cases j0W (nth zC cs 0)<;>cases (nth zC cs 0).2.2.2.1<;>cases (nth zC cs 0).2.2.1<;>rfl
   ·rw [cond_false,cond_true,cond_false,cond_true]
    unfold j0d
    dsimp only
    rw [beq_self_eq_true,cond_true,Zah,cond_true,je3,jbS]
    cases cs.length==0
    ·rfl
    ·cases ks.length==0
     ·rfl
     ·cases sEq n eS<;>rfl
  ·have p:b=1:=by simpa using q
   subst p
   rw [cond_true,cond_true,f,jiI _ i]
   cases j04 (t,cs,ks)
   ·cases sEq n eS
    ·rfl
    ·cases sEq m eS<;>rfl
   ·cases sEq n eS<;>cases sEq m eS<;>rfl
theorem jkO (d:D) (k:Bool->Res):j1h d k=k (noD d):=by
 unfold j1h noD
 rw [j3n,j3n]
 cases d.1==0
 ·rfl
 ·cases sEq d.2.1 eS
  ·rfl
  ·cases d.2.2.1.length==0
   ·rfl
   ·cases d.2.2.2.1.length==0
    ·rfl
    ·cases sEq d.2.2.2.2.1 eS<;>rfl
theorem jk8 (d:D) (k:Bool->Res):j0d d zD k=k (noD d):=by
 unfold j0d noD
 rw [je3,jbS]
 cases d.1==0
 ·rfl
 ·cases sEq d.2.1 eS
  ·rfl
  ·cases d.2.2.1.length==0
   ·rfl
   ·cases d.2.2.2.1.length==0
    ·rfl
    ·cases sEq d.2.2.2.2.1 eS<;>rfl
theorem jiT (l:List V) (h:l.length<=LIM) (k:Bool->Res):j2r l k=k (j2D l):=by
 unfold j2r jem j2D
 have:=Za2 l (λi=>i) (λv=> !j0n v) (step:=j8K l (nI l.length)) ((λ(_:Unit)=>bif decide ((nI l.length)>=1) then k (decide ((nI l.length)<=8)) else k false),(λ(_:Unit)=>k false)) (bif decide ((nI l.length)>=1) then k (decide ((nI l.length)<=8)) else k false) (k false) h (λi rec d=>by
  show j36 _ _ _ _ _ _=_
  unfold j36
  unfold LIM at h
  rw [ZaQ d,cond_true,j00 d,cond_true,Zay _ _ _ d,j8p,j01 (n:=(i:Int)+1) (by omega)]) (λrec=>by
  show j36 _ _ _ _ _ _=_
  unfold j36
  rw [ZaP,cond_false])
 refine this.trans ?_
 have b:(l.any λv=> !j0n v)= !l.all j0n:=by rw [List.all_eq_not_any_not];simp
 rw [b]
 unfold nI
 cases l.all j0n
 ·rfl
 ·rw [Bool.not_true,cond_false,Bool.true_and]
  by_cases f:1<=l.length
  ·rw [decide_eq_true (show (l.length:Int)>=1 by omega),cond_true,decide_eq_true f,Bool.true_and]
   congr 1
   exact decide_eq_decide.2 (by omega)
  ·rw [decide_eq_false (show ¬ (l.length:Int)>=1 by omega),cond_false,decide_eq_false f,Bool.false_and]
theorem jiJ (l:List V) (h:l.length<=LIM) (k:Bool->Res):j1y l k=k (j2D l):=by
 unfold j1y j1U j6E j8w j2D
 rw [j6u]
 have f:decide (1<=nI l.length/\nI l.length<=8)=(decide (1<=l.length)&&decide (l.length<=8)):=by
  rw [<-Bool.decide_and]
  exact decide_eq_decide.2 (by unfold nI;omega)
 rw [f]
 cases decide (1<=l.length)&&decide (l.length<=8)
 ·rw [Bool.and_false];rfl
 ·rw [cond_true,Bool.and_true]
  have:=Z9S l (λi=>i) (λv=> !j0n v) (step:=j3e l (nI l.length)) ((λ(_:Unit)=>k (!decide ((-1:Int)>=0))),(λ(t:Int)=>k (!decide (t>=0)))) (λr=>k (!decide (r>=0))) h (λi rec b=>by
   show j0S _ _ _ _ _ _=_
   unfold j0S jc6
   unfold LIM at h
   rw [ZaQ b,cond_true,j00 b,cond_true,Zay _ _ _ b,j8e,j01 (n:=(i:Int)+1) (by omega)]) (λrec=>by
   show j0S _ _ _ _ _ _=_
   unfold j0S
   rw [ZaP,cond_false])
  refine this.trans ?_
  congr 1
  unfold Z9F
  cases d:l.findIdx? λv=> !j0n v with
  | none=>
   rw [List.findIdx?_eq_none_iff] at d
   symm
   show l.all j0n=true
   rw [List.all_eq_true]
   intro v j
   simpa using d v j
  | some i=>
   dsimp only
   rw [decide_eq_true (show (i:Int)>=0 by omega)]
   obtain ⟨b,g,_⟩:=List.findIdx?_eq_some_iff_getElem.1 d
   symm
   show l.all j0n=false
   rw [List.all_eq_false]
   exact ⟨l[i],List.getElem_mem _,by simpa using g⟩
theorem ji1 (s:ST) (h:j1x s) (k:Bool->Res):j3h s k=k (stB s):=by
 obtain ⟨g,i,j,f⟩:=h
 unfold j3h stB j6g
 have b:s.2.2.1.length<=LIM:=by unfold LIM;omega
 have d:s.2.2.2.1.length<=LIM:=by unfold LIM;omega
 rw [j5e _ (by unfold LIM;omega),j3n,j3n]
 simp only [jiT _ b,jiT _ d,jkO,jgi _ f]
 cases j0l s.2.1
 ·rfl
 ·rw [Bool.not_true,cond_false,Bool.true_and]
  cases s.1==1
  ·cases s.1==2
   ·cases s.1==3
    ·cases s.1==4
     ·cases s.1==5
      ·rfl
      ·cases s.2.2.1.length==0
       ·rfl
       ·cases s.2.2.2.1.length==0
        ·rfl
        ·cases j0X s.2.2.2.2<;>rfl
     ·cases s.2.2.1.length==0
      ·rfl
      ·cases s.2.2.2.1.length==0<;>rfl
    ·cases j2D s.2.2.1
     ·rfl
     ·cases s.2.2.2.1.length==0<;>rfl
   ·cases j2D s.2.2.1
    ·rfl
    ·cases j2D s.2.2.2.1<;>rfl
  ·cases s.2.2.1.length==0
   ·rfl
   ·cases j2D s.2.2.2.1<;>rfl
theorem jpJ {d:D} (h:j0X d=true):j0l d.2.1=true:=by
 unfold j0X at h
 rw [Bool.and_eq_true] at h
 exact h.1
theorem jlW (s:ST) (h:j1x s) (k:Bool->Res):j3f s k=k (stB s):=by
 obtain ⟨n,p,q,m⟩:=h
 unfold j3f stB j5J
 have d:s.2.2.1.length<=LIM:=by unfold LIM;omega
 have f:s.2.2.2.1.length<=LIM:=by unfold LIM;omega
 rw [j5b _ (by unfold LIM;omega),j3n,j3n]
 simp only [jiJ _ d,jiJ _ f,jk8,jg1 _ m]
 cases i:s.1==5
 ·rw [cond_false]
  cases j0l s.2.1
  ·rfl
  ·rw [Bool.not_true,cond_false,Bool.true_and]
   cases s.1==1
   ·cases s.1==2
    ·cases s.1==3
     ·cases s.1==4
      ·cases noD s.2.2.2.2<;>rfl
      ·cases noD s.2.2.2.2<;>cases s.2.2.1.length==0<;>cases s.2.2.2.1.length==0<;>rfl
     ·cases noD s.2.2.2.2<;>cases j2D s.2.2.1<;>cases s.2.2.2.1.length==0<;>rfl
    ·cases noD s.2.2.2.2<;>cases j2D s.2.2.1<;>cases j2D s.2.2.2.1<;>rfl
   ·cases noD s.2.2.2.2<;>cases s.2.2.1.length==0<;>cases j2D s.2.2.2.1<;>rfl
 ·have g:s.1=5:=by simpa using i
  rw [cond_true,g,show ((5:Int)==1)=false from rfl,show ((5:Int)==2)=false from rfl,show ((5:Int)==3)=false from rfl,show ((5:Int)==4)=false from rfl,cond_false,cond_false,cond_false,cond_false,cond_true]
  cases j:j0X s.2.2.2.2
  ·rw [cond_false]
   cases j0l s.2.1<;>cases s.2.2.1.length==0<;>cases s.2.2.2.1.length==0<;>rfl
  ·rw [cond_true,Zag s.2.1]
   cases l:sEq s.2.2.2.2.2.1 s.2.1
   ·rw [cond_false]
    cases j0l s.2.1<;>cases s.2.2.1.length==0<;>cases s.2.2.2.1.length==0<;>rfl
   ·have b:=jpJ j
    rw [(j09 _ _).1 l] at b
    rw [b]
    cases s.2.2.1.length==0<;>cases s.2.2.2.1.length==0<;>rfl
end Go.PI.G
namespace Go.PI.G
open Go Go.PI
theorem jrk {v:V} (h:j0n v=true):msr yV v<=30:=by
 have e:msr yV v=0+(0+v.2.2.size):=rfl
 have:=jqm h
 omega
theorem j9X {e:Ty} (c:Nat):(l:List (El e))->(∀ x∈l,msr e x<=c)->msr (.slice e) l<=l.length * (c+1)
 | [],_=>Nat.zero_le _
 | x::l,h=>by
  have b:=j9X c l λy d=>h y (List.mem_cons_of_mem _ d)
  have f:=h x (by simp)
  rw [jhA] at b ⊢
  simp only [List.map_cons,List.sum_cons,List.length_cons]
  rw [Nat.succ_mul]
  omega
theorem jqK {c:C} (h:j0W c=true):msr yC c<=38:=by
 have e:msr yC c=c.1.size+(0+(0+(0+msr yV c.2.2.2.2))):=rfl
 unfold j0W at h
 simp only [Bool.and_eq_true] at h
 have b:=jgm h.1
 have d:=jrk h.2.2.1
 omega
theorem jpH {l:List C} (h:j4G l=true) {c:C} (b:c∈l):j0W c=true:=by
 obtain ⟨i,d,rfl⟩:=List.getElem_of_mem b
 exact jlQ h i d
theorem jpG {l:List C} {n:ByteArray} (h:0<=j02 l n):∃ c∈l,c.1=n:=by
 unfold j02 Z9F at h
 cases b:List.findIdx? (λc:C=>sEq c.1 n) l with
 | none=>rw [b] at h;dsimp only at h;omega
 | some i=>
  obtain ⟨d,f,_⟩:=List.findIdx?_eq_some_iff_getElem.1 b
  exact ⟨l[i],List.getElem_mem d,(j09 _ _).1 f⟩
theorem jlX {l:List C}:(ks:List ByteArray)->(b:Int)->b<(l.length:Int)->j19 l b ks=true->b+(ks.length:Int)<(l.length:Int)
 | [],b,d,_=>by simpa using d
 | q::ks,b,d,h=>by
  simp only [j19,Bool.and_eq_true,Bool.not_eq_true',decide_eq_false_iff_not] at h
  have f:=jlX ks (j02 l q) (j8Q l q).2 h.2.2
  rw [List.length_cons]
  omega
theorem jqO {t:ByteArray} {cs:List C} {ks:List ByteArray} (h:j04 (t,cs,ks)=true):t.size<=8/\msr (.slice yC) cs<=312/\msr (.slice .str) ks<=72:=by
 have b:=j1G h
 dsimp only at b
 have d:∀ c∈cs,j0W c=true:=λc d=>jpH b.2.2.2.2.1 d
 have m:=j9X (e:=yC) 38 cs λc h=>jqK (d c h)
 have n:cs.length * 39<=8 * 39:=Nat.mul_le_mul_right _ b.2.2.1
 have j:=j1a ks (-1) (by omega) b.2.2.2.2.2
 have r:=jlX ks (-1) (by omega) b.2.2.2.2.2
 have p:=j9X (e:= .str) 8 ks λk l=>by
  obtain ⟨c,g,i⟩:=jpG (j k l).1
  have f:=d c g
  unfold j0W at f
  rw [Bool.and_eq_true] at f
  have:=(jgm f.1).2
  rw [i] at this
  exact this
 have q:ks.length * 9<=8 * 9:=Nat.mul_le_mul_right _ (by omega)
 exact ⟨(jgm b.1).2,by omega,by omega⟩
end Go.PI.G
namespace Go.PI.G
open Go Go.PI
theorem jlO:(x:List UInt8)->Op.bytesLess x x=false
 | []=>rfl
 | a::x=>by simp [Op.bytesLess,jlO x]
theorem jnj:(x y z:List UInt8)->Op.bytesLess x y=true->Op.bytesLess y z=true->Op.bytesLess x z=true
 | _,_,[],_,h=>by simp [Op.bytesLess] at h
 | _,[],_::_,h,_=>by simp [Op.bytesLess] at h
 | [],_::_,_::_,_,_=>by simp [Op.bytesLess]
 | a::x,b::y,c::z,h,k=>by
  simp only [Op.bytesLess,Bool.or_eq_true,Bool.and_eq_true,decide_eq_true_eq,beq_iff_eq] at h k ⊢
  rcases h with h | ⟨rfl,h⟩
  ·rcases k with k | ⟨rfl,k⟩
   ·exact .inl (UInt8.lt_trans h k)
   ·exact .inl h
  ·rcases k with k | ⟨rfl,k⟩
   ·exact .inl k
   ·exact .inr ⟨rfl,jnj x y z h k⟩
theorem jni:(x y:List UInt8)->x≠y->Op.bytesLess x y=true\/Op.bytesLess y x=true
 | [],[],h=>absurd rfl h
 | [],_::_,_=> .inl (by simp [Op.bytesLess])
 | _::_,[],_=> .inr (by simp [Op.bytesLess])
 | a::x,b::y,h=>by
  simp only [Op.bytesLess,Bool.or_eq_true,Bool.and_eq_true,decide_eq_true_eq,beq_iff_eq]
  by_cases f:a=b
  ·subst f
   rcases jni x y (λe=>h (by rw [e])) with d | d
   ·exact .inl (.inr ⟨rfl,d⟩)
   ·exact .inr (.inr ⟨rfl,d⟩)
  ·rcases UInt8.lt_or_lt_of_ne f with d | d
   ·exact .inl (.inl d)
   ·exact .inr (.inl d)
theorem toList_inj {a b:ByteArray} (h:a.toList=b.toList):a=b:=(j09 a b).1 (by unfold sEq;rw [h];simp)
theorem jcP (a:ByteArray):sLt a a=false:=jlO _
theorem jef {a b c:ByteArray} (h:sLt a b=true) (k:sLt b c=true):sLt a c=true:=jnj _ _ _ h k
theorem jhO {a b:ByteArray} (h:a≠b):sLt a b=true\/sLt b a=true:=jni _ _ λe=>h (toList_inj e)
theorem jq9 {a b:ByteArray} (h:sLt a b=true):a≠b:=λe=>by rw [e,jcP] at h;cases h
theorem jq8 {a b:ByteArray} (h:sLt a b=true):sLt b a=false:=by
 cases d:sLt b a with
 | false=>rfl
 | true=>rw [<-jcP a];exact (jef h d).symm
theorem jia (a b:V):vlt a b=true↔j0n a=true/\j0n b=true/\(a.1<b.1\/(a.1=b.1/\(a.2.1<b.2.1\/(a.2.1=b.2.1/\sLt a.2.2 b.2.2=true)))):=by
 unfold vlt
 simp only [Bool.and_eq_true]
 refine and_congr_right λ_=>and_congr_right λ_=> ?_
 by_cases d:a.1=b.1
 ·rw [d,ZaO,cond_false]
  by_cases f:a.2.1=b.2.1
  ·rw [f,ZaO,cond_false]
   simp
  ·rw [show (a.2.1 != b.2.1)=true by simp [f],cond_true]
   simp [f]
 ·rw [show (a.1 != b.1)=true by simp [d],cond_true]
  simp [d]
theorem jpA (a:V):vlt a a=false:=by
 cases h:vlt a a with
 | false=>rfl
 | true=>
  have:=(jia a a).1 h
  rw [jcP] at this
  rcases this.2.2 with h | ⟨_,h | ⟨_,h⟩⟩
  ·omega
  ·omega
  ·cases h
theorem jqo {a b c:V} (h:vlt a b=true) (k:vlt b c=true):vlt a c=true:=by
 rw [jia] at h k ⊢
 obtain ⟨g,_,h⟩:=h
 obtain ⟨_,i,k⟩:=k
 refine ⟨g,i,?_⟩
 rcases h with h | ⟨j,h⟩
 ·rcases k with k | ⟨d,k⟩
  ·exact .inl (by omega)
  ·exact .inl (by omega)
 ·rcases k with k | ⟨d,k⟩
  ·exact .inl (by omega)
  ·refine .inr ⟨by omega,?_⟩
   rcases h with h | ⟨l,h⟩
   ·rcases k with k | ⟨f,k⟩
    ·exact .inl (by omega)
    ·exact .inl (by omega)
   ·rcases k with k | ⟨f,k⟩
    ·exact .inl (by omega)
    ·exact .inr ⟨by omega,jef h k⟩
theorem jqn {a b:V} (d:j0n a=true) (f:j0n b=true) (h:a≠b):vlt a b=true\/vlt b a=true:=by
 rw [jia,jia]
 by_cases g:a.1=b.1
 ·by_cases j:a.2.1=b.2.1
  ·have i:a.2.2≠b.2.2:=λe=>h (Prod.ext g (Prod.ext j e))
   rcases jhO i with k | k
   ·exact .inl ⟨d,f,.inr ⟨g,.inr ⟨j,k⟩⟩⟩
   ·exact .inr ⟨f,d,.inr ⟨g.symm,.inr ⟨j.symm,k⟩⟩⟩
  ·by_cases i:a.2.1<b.2.1
   ·exact .inl ⟨d,f,.inr ⟨g,.inl i⟩⟩
   ·exact .inr ⟨f,d,.inr ⟨g.symm,.inl (by omega)⟩⟩
 ·by_cases i:a.1<b.1
  ·exact .inl ⟨d,f,.inl i⟩
  ·exact .inr ⟨f,d,.inl (by omega)⟩
theorem jog (a:V):veq a a=true:=(jfO a a).2 rfl
theorem jpz {a b:V} (h:a≠b):veq a b=false:=by
 cases d:veq a b with
 | false=>rfl
 | true=>exact absurd ((jfO a b).1 d) h
theorem jg6:(a:List V)->klt a a=false
 | []=>rfl
 | x::a=>by show (bif veq x x then klt a a else vlt x x)=false;rw [jog,cond_true];exact jg6 a
theorem jeb:(a b c:List V)->klt a b=true->klt b c=true->klt a c=true
 | _,[],_,h,k=>by
  rename_i a c
  cases a<;>cases h
 | _,_::_,[],h,k=>by cases k
 | [],_::_,_::_,h,k=>rfl
 | x::a,y::b,z::c,h,k=>by
  change (bif veq x y then klt a b else vlt x y)=true at h
  change (bif veq y z then klt b c else vlt y z)=true at k
  show (bif veq x z then klt a c else vlt x z)=true
  cases f:veq x y
  ·rw [f,cond_false] at h
   cases d:veq y z
   ·rw [d,cond_false] at k
    have g:=jqo h k
    rw [jpz λe=>by rw [e,jpA] at g;cases g]
    exact g
   ·have e:=(jfO y z).1 d
    subst e
    rw [f];exact h
  ·have e:=(jfO x y).1 f
   subst e
   rw [f,cond_true] at h
   cases d:veq x z
   ·rw [d,cond_false] at k;exact k
   ·rw [d,cond_true] at k
    rw [cond_true]
    exact jeb a b c h k
theorem jlY:(a b:List V)->(∀ v∈a,j0n v=true)->(∀ v∈b,j0n v=true)->a≠b->klt a b=true\/klt b a=true
 | [],[],_,_,h=>absurd rfl h
 | [],_::_,_,_,_=> .inl rfl
 | _::_,[],_,_,_=> .inr rfl
 | x::a,y::b,g,i,h=>by
  show (bif veq x y then klt a b else vlt x y)=true\/(bif veq y x then klt b a else vlt y x)=true
  by_cases d:x=y
  ·subst d
   rw [jog,cond_true,cond_true]
   exact jlY a b (λv f=>g v (List.mem_cons_of_mem _ f)) (λv f=>i v (List.mem_cons_of_mem _ f)) λe=>h (by rw [e])
  ·rw [jpz d,jpz (Ne.symm d),cond_false,cond_false]
   exact jqn (g x (by simp)) (i y (by simp)) d
theorem jpX {a b:List V} (h:klt a b=true):a≠b:=λe=>by rw [e,jg6] at h;cases h
theorem jpW {a b:List V} (h:klt a b=true):klt b a=false:=by
 cases d:klt b a with
 | false=>rfl
 | true=>rw [<-jg6 a];exact (jeb a b a h d).symm
theorem j9j {α:Type} {f:Nat->α->Bool}:(l:List α)->(i:Nat)->(Z71 f i l=false↔∀ (j:Nat) (h:j<l.length),f (i+j) l[j]=false)
 | [],_=>⟨λ_ j h=>by simp at h,λ_=>rfl⟩
 | x::l,i=>by
  refine ⟨jcE (x::l) i,λh=> ?_⟩
  simp only [Z71,Bool.or_eq_false_iff]
  refine ⟨h 0 (by simp),(j9j l (i+1)).2 λj b=> ?_⟩
  have:=h (j+1) (by simpa using b)
  rw [show i+1+j=i+(j+1) by omega]
  simpa using this
theorem jqi {α:Type} (z:α) (R:α->α->Bool) (r:∀ a b c,R a b=true->R b c=true->R a c=true) (l:List α) :
  (∀ (j:Nat) (h:j<l.length),(decide (0<j)&& !R (nth z l ((j:Int)-1)) l[j])=false)↔l.Pairwise λa b=>R a b=true:=by
 rw [List.pairwise_iff_getElem]
 constructor
 ·intro h i j f g p
  have step:∀ (d i:Nat) (f:i+d+1<l.length),R l[i] l[i+d+1]=true:=by
   intro d
   induction d with
   | zero=>
    intro i f
    have:=h (i+1) (by omega)
    rw [show ((i+1:Nat):Int)-1=(i:Int) by omega,Zay _ _ _ (by omega)] at this
    simpa using this
   | succ d q=>
    intro i f
    have m:=q i (by omega)
    have:=h (i+d+2) (by omega)
    rw [show ((i+d+2:Nat):Int)-1=((i+d+1:Nat):Int) by omega,Zay _ _ _ (by omega)] at this
    have n:R l[i+d+1] l[i+d+2]=true:=by simpa using this
    exact r _ _ _ m n
  have:=step (j-i-1) i (by omega)
  have e:i+(j-i-1)+1=j:=by omega
  simp only [e] at this
  exact this
 ·intro h j g
  by_cases k:0<j
  ·have e:((j:Int)-1)=((j-1:Nat):Int):=by omega
   rw [e,Zay _ _ _ (by omega),h (j-1) j (by omega) g (by omega)]
   simp
  ·rw [decide_eq_false k];rfl
theorem j0c (c:List T):j22 c=true↔c.length<=6/\(∀ t∈c,j04 t=true)/\c.Pairwise λa b=>sLt a.1 b.1=true:=by
 unfold j22
 rw [Bool.and_eq_true,decide_eq_true_eq,Bool.not_eq_true',j9j]
 refine and_congr_right λ_=> ?_
 rw [<-jqi zT (λa b:T=>sLt a.1 b.1) (λa b c=>jef)]
 constructor
 ·intro h
  refine ⟨λt ht=> ?_,λj d=> ?_⟩
  ·obtain ⟨j,d,rfl⟩:=List.getElem_of_mem ht
   have:=h j d
   simp only [Bool.or_eq_false_iff,Bool.not_eq_false'] at this
   exact this.1
  ·have:=h j d
   rw [Nat.zero_add] at this
   rw [Bool.or_eq_false_iff] at this
   exact this.2
 ·rintro ⟨f,g⟩ j d
  rw [Nat.zero_add,f _ (List.getElem_mem d)]
  exact g j d
theorem j6r (t:T) (l:List (List V)):j08 t l=true↔j04 t=true/\l.length<=60/\(∀ r∈l,j0m t.2.1 r=true)/\l.Pairwise λa b=>klt (j06 t a) (j06 t b)=true:=by
 unfold j08
 rw [Bool.and_eq_true,Bool.and_eq_true,decide_eq_true_eq,Bool.not_eq_true',j9j]
 refine and_congr_right λ_=>and_congr_right λ_=> ?_
 rw [<-jqi [] (λa b:List V=>klt (j06 t a) (j06 t b)) (λa b c=>jeb _ _ _)]
 constructor
 ·intro h
  refine ⟨λr i=> ?_,λj d=> ?_⟩
  ·obtain ⟨j,d,rfl⟩:=List.getElem_of_mem i
   have:=h j d
   simp only [Bool.or_eq_false_iff,Bool.not_eq_false'] at this
   exact this.1
  ·have:=h j d
   rw [Nat.zero_add] at this
   rw [Bool.or_eq_false_iff] at this
   exact this.2
 ·rintro ⟨f,g⟩ j d
  rw [Nat.zero_add,f _ (List.getElem_mem d)]
  exact g j d
theorem j1H (d:DB):dbB d=true↔j22 d.1=true/\d.2.length=d.1.length/\∀ (i:Nat) (h:i<d.1.length) (j:i<d.2.length),j08 d.1[i] d.2[i]=true:=by
 unfold dbB
 rw [Bool.and_eq_true,Bool.and_eq_true,decide_eq_true_eq,Bool.not_eq_true',j9j]
 refine and_congr_right λ_=>and_congr_right λg=> ?_
 constructor
 ·intro h i b f
  have:=h i b
  rw [Nat.zero_add,Zay _ _ _ f,Bool.not_eq_false'] at this
  exact this
 ·intro h i b
  rw [Nat.zero_add,Zay _ _ _ (g ▸ b),h i b (g ▸ b)]
  rfl
theorem jhu {α:Type} {p:α->Bool} {l:List α} {i:Nat} (g:i<l.length) (d:p l[i]=true) (f:∀ (j:Nat) (b:j<i),p (l[j]'(by omega))=false):Z9F p l=(i:Int):=by
 unfold Z9F
 have:l.findIdx? p=some i:=List.findIdx?_eq_some_iff_getElem.2 ⟨g,d,λj b=>by rw [f j b];decide⟩
 rw [this]
theorem jpQ {α:Type} {p:α->Bool} {l:List α} (h:∀ x∈l,p x=false):Z9F p l= -1:=by
 unfold Z9F
 have:l.findIdx? p=none:=List.findIdx?_eq_none_iff.2 h
 rw [this]
theorem ja5 {α:Type} (p:α->Bool) (l:List α):(Z9F p l= -1/\∀ x∈l,p x=false)\/∃ (i:Nat) (b:i<l.length),Z9F p l=(i:Int)/\p l[i]=true/\∀ (j:Nat) (d:j<i),p (l[j]'(by omega))=false:=by
 unfold Z9F
 cases h:l.findIdx? p with
 | none=>exact .inl ⟨rfl,List.findIdx?_eq_none_iff.1 h⟩
 | some i=>
  obtain ⟨b,f,g⟩:=List.findIdx?_eq_some_iff_getElem.1 h
  exact .inr ⟨i,b,rfl,f,λj d=>by simpa using g j d⟩
theorem joT {α:Type} {p:α->Bool} {l:List α} {i:Nat} (d:i<l.length) (b:p l[i]=true) (g:∀ (j:Nat) (f:j<l.length),p l[j]=true->j=i):Z9F p l=(i:Int):=
 jhu d b λj f=>by
  cases h:p (l[j]'(by omega)) with
  | false=>rfl
  | true=>exact absurd (g j (by omega) h) (by omega)
end Go.PI.G
