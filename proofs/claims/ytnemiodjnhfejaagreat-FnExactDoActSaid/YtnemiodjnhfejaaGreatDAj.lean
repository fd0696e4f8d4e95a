/-
  Program's code interpreted over typed values; printed texts; plain laws. No conditions.
-/
import Derived.Test.YtnemiodjnhfejaaGreatPc
import Derived.Test.YtnemiodjnhfejaaGreatDAi
import Derived.Test.YtnemiodjnhfejaaGreatDAe
import Derived.Test.YtnemiodjnhfejaaGreatDAg
set_option linter.unusedVariables false
namespace Go.PI.G
noncomputable section
open Go Go.PI
def msr:(τ:Ty)->El τ->Nat
 | .str,s=>ByteArray.size s
 | .slice e,l=>List.length (α:=El e) l+(List.map (msr e) l).sum
 | .pair a b,x=>msr a x.1+msr b x.2
 | .int _,_=>0
 | .bool,_=>0
 | .unit,_=>0
def wgt:(τ:Ty)->El τ->Nat
 | .str,_=>1
 | .slice e,l=>(List.map (wgt e) l).sum
 | .pair a b,x=>wgt a x.1+wgt b x.2
 | .int _,_=>1
 | .bool,_=>1
 | .unit,_=>0
def j14:(τ:Ty)->El τ->Nat
 | .slice e,l=>(List.map (wgt e) l).sum
 | .pair a b,x=>j14 a x.1+j14 b x.2
 | .str,_=>0
 | .int _,_=>0
 | .bool,_=>0
 | .unit,_=>0
def j58:Ty->Nat
 | .slice e=>j58 e
 | .pair a b=>j58 a+j58 b
 | .unit=>0
 | _=>1
theorem jnb {α:Type} (f g:α->Nat) (c:Nat) (h:∀ x,f x<=(g x+1) * c):(l:List α)->(l.map f).sum<=(l.length+(l.map g).sum) * c
 | []=>by simp
 | x::l=>by
  have b:=h x
  have d:=jnb f g c h l
  simp only [List.map_cons,List.sum_cons,List.length_cons]
  have:(l.length+1+(g x+(l.map g).sum)) * c=(g x+1) * c+(l.length+(l.map g).sum) * c:=by
   rw [<-Nat.add_mul];congr 1;omega
  omega
theorem jne:(τ:Ty)->(x:El τ)->wgt τ x<=(msr τ x+1) * j58 τ
 | .str,_=>by simp [wgt,j58]
 | .int _,_=>by simp [wgt,j58]
 | .bool,_=>by simp [wgt,j58]
 | .unit,_=>by simp [wgt]
 | .pair a b,x=>by
  have f:=jne a x.1
  have h:=jne b x.2
  simp only [wgt,msr,j58,Nat.mul_add]
  have d:(msr a x.1+1) * j58 a<=(msr a x.1+msr b x.2+1) * j58 a:=Nat.mul_le_mul_right _ (by omega)
  have g:(msr b x.2+1) * j58 b<=(msr a x.1+msr b x.2+1) * j58 b:=Nat.mul_le_mul_right _ (by omega)
  omega
 | .slice e,l=>by
  have f:=jnb (wgt e) (msr e) (j58 e) (jne e) l
  simp only [wgt,msr,j58]
  have d:(List.length (α:=El e) l+(List.map (msr e) l).sum) * j58 e<=(List.length (α:=El e) l+(List.map (msr e) l).sum+1) * j58 e:=Nat.mul_le_mul_right _ (by omega)
  exact Nat.le_trans f d
theorem jgP:(τ:Ty)->(x:El τ)->j14 τ x<=wgt τ x
 | .str,_=>Nat.zero_le _
 | .int _,_=>Nat.zero_le _
 | .bool,_=>Nat.zero_le _
 | .unit,_=>Nat.le_refl _
 | .pair a b,x=>Nat.add_le_add (jgP a x.1) (jgP b x.2)
 | .slice e,l=>Nat.le_refl _
theorem j0l {a b:Ty} {x:El (.pair a b)}:msr a x.1<=msr (.pair a b) x:=Nat.le_add_right _ _
theorem j00 {a b:Ty} {x:El (.pair a b)}:msr b x.2<=msr (.pair a b) x:=Nat.le_add_left _ _
def dgt (x:Int):ByteArray:=Z3B [wu8 (Z9K (48+x))]
theorem jeN (x:Int):(dgt x).size=1:=rfl
def jhO (n:Nat):ByteArray:=if h:n<10 then dgt n else jhO (n / 10)++dgt ((n % 10:Nat):Int)
termination_by n
decreasing_by omega
def mT (k:Int):ByteArray:=(⟨#[109]⟩:ByteArray)++jhO k.toNat
def mk:(τ:Ty)->El τ->Int->El τ
 | .str,_,k=>mT k
 | .slice e,l,k=>mkL (wgt e) (mk e) l k
 | .pair a b,x,k=>(mk a x.1 k,mk b x.2 (k+(wgt a x.1:Int)))
 | .int .u8,_,k=>wu8 k
 | .int _,_,k=>k
 | .bool,_,k=>(Int.tmod k 3==0)
 | .unit,x,_=>x
def mkT:(τ:Ty)->El τ->Int->El τ
 | .slice e,l,k=>mkL (wgt e) (mk e) l k
 | .pair a b,x,k=>(mkT a x.1 k,mkT b x.2 (k+(j14 a x.1:Int)))
 | .str,x,_=>x
 | .int _,x,_=>x
 | .bool,x,_=>x
 | .unit,x,_=>x
theorem jju (e:Ty) (l:List (El e)):msr (.slice e) l=l.length+(l.map (msr e)).sum:=rfl
theorem j0p {e:Ty} {l:List (El e)} {n:Nat} (h:msr (.slice e) l<=n):l.length<=n:=by
 have:msr (.slice e) l=l.length+(l.map (msr e)).sum:=rfl
 omega
theorem j0O {e:Ty} {l:List (El e)} {n:Nat} (h:msr (.slice e) l<=n) {x:El e} (b:x∈l):msr e x<=n:=by
 have d:msr (.slice e) l=l.length+(l.map (msr e)).sum:=rfl
 have:=Z9H (msr e) l x b
 omega
theorem jk4 {τ:Ty} {x:El τ} (b:j58 τ<=200) (h:msr τ x<=1048576):wgt τ x<=209715400:=by
 have d:=jne τ x
 have f:(msr τ x+1) * j58 τ<=1048577 * 200:=Nat.mul_le_mul (by omega) b
 omega
theorem j3o (a b:Ty) (x:El (.pair a b)):wgt (.pair a b) x=wgt a x.1+wgt b x.2:=rfl
theorem j5n (k:IntKind) (x:El (.int k)):wgt (.int k) x=1:=rfl
theorem j3n (x:El .bool):wgt .bool x=1:=rfl
theorem j5o (x:El .str):wgt .str x=1:=rfl
theorem j5j (a b:Ty) (x:El (.pair a b)) (k:Int):mk (.pair a b) x k=(mk a x.1 k,mk b x.2 (k+(wgt a x.1:Int))):=rfl
theorem j3j (e:Ty) (l:El (.slice e)) (k:Int):mk (.slice e) l k=mkL (wgt e) (mk e) l k:=rfl
theorem j7S (x:El (.int .i64)) (k:Int):mk (.int .i64) x k=k:=rfl
theorem jaq (x:El (.int .u8)) (k:Int):mk (.int .u8) x k=wu8 k:=rfl
theorem j5i (x:El .bool) (k:Int):mk .bool x k=(Int.tmod k 3==0):=rfl
theorem j7T (x:El .str) (k:Int):mk .str x k=mT k:=rfl
theorem j0y (a b:Ty) (x:El (.pair a b)) (k:Int):mkT (.pair a b) x k=(mkT a x.1 k,mkT b x.2 (k+(j14 a x.1:Int))):=rfl
theorem j7f (e:Ty) (l:El (.slice e)) (k:Int):mkT (.slice e) l k=mkL (wgt e) (mk e) l k:=rfl
theorem jb7 (i:IntKind) (x:El (.int i)) (k:Int):mkT (.int i) x k=x:=rfl
theorem j8U (x:El .bool) (k:Int):mkT .bool x k=x:=rfl
theorem jb8 (x:El .str) (k:Int):mkT .str x k=x:=rfl
theorem j05 (a b:Ty) (x:El (.pair a b)):j14 (.pair a b) x=j14 a x.1+j14 b x.2:=rfl
theorem j0Q (i:IntKind) (x:El (.int i)):j14 (.int i) x=0:=rfl
theorem j0s (x:El .bool):j14 .bool x=0:=rfl
theorem j0R (x:El .str):j14 .str x=0:=rfl
theorem jk8 {α:Type} (z:α) (l:List α) (i:Nat) (v:α) (h:i<l.length):nth z (upd l (i:Int) v) (i:Int)=v:=by
 rw [ZaF,Zay _ _ _ (by simpa using h)];simp
theorem jkc {α:Type} (l:List α) (i:Int) (u v:α):upd (upd l i u) i v=upd l i v:=by
 unfold upd;simp
theorem jkb {α:Type} (l:List α) (i:Int) (v:α):(upd l i v).length=l.length:=by unfold upd;simp
end
end Go.PI.G
namespace Go.PI.G
open Go Go.PI
theorem jtN {left:Int} (h:0<=left):szR left 0=left:=by unfold szR;rw [if_pos (by omega)];omega
theorem jnc {left:Int} {n rest:Nat} {F:Int->Res} {k:Int->Res} (f:0<=left) (g:left<=1048576) (d:n<=maxLen) (b:(n:Int)<=left->F (left-n)=k (szR (left-n) rest)) :
  (bif decide (Z9K (left-nI n)<0) then k (-1) else F (Z9K (left-nI n)))=k (szR left (n+rest)):=by
 unfold maxLen at d
 rw [ZaH (by unfold nI;omega) (by unfold nI;omega)]
 unfold nI
 by_cases h:(n:Int)<=left
 ·rw [Za4 (by omega),cond_false,b h,Zak h]
 ·rw [Za5 (by omega),cond_true,Zal h]
theorem jhD {left:Int} {k:Int->Res} (b:0<=left):k left=k (szR left 0):=by rw [jtN b]
theorem j01 {i n:Nat} (h:i<n):inb (i:Int) n=true:=ZaK (by omega) (by omega)
theorem j02 {n:Int} (h: -9223372036854775808<=n/\n<9223372036854775808):Z9K n=n:=ZaH h.1 h.2
theorem jtQ (n:Nat):Int.tdiv (n:Int) 10=((n / 10:Nat):Int):=by
 rw [Int.tdiv_eq_ediv_of_nonneg (by omega)];omega
theorem jtR (n:Nat):Int.tmod (n:Int) 10=((n % 10:Nat):Int):=by
 rw [Int.tmod_eq_emod_of_nonneg (by omega)];omega
theorem jnt {n:Nat} (h:n<10):jhO n=dgt n:=by rw [jhO,dif_pos h]
theorem jrA {n:Nat} (h:¬ n<10):jhO n=jhO (n / 10)++dgt ((n % 10:Nat):Int):=by rw [jhO,dif_neg h]
theorem jog:∀ (d n:Nat),n<10 ^ (d+1)->(jhO n).size<=d+1
 | 0,n,h=>by rw [jnt (by omega),jeN];exact Nat.le_refl _
 | d+1,n,h=>by
  by_cases b:n<10
  ·rw [jnt b,jeN];omega
  ·rw [jrA b,ByteArray.size_append,jeN]
   have:n / 10<10 ^ (d+1):=Nat.div_lt_of_lt_mul (by rw [Nat.pow_succ] at h;omega)
   have:=jog d (n / 10) this
   omega
theorem jus (s:ByteArray):s++eS=s:=by
 show s++ByteArray.empty=s
 simp
end Go.PI.G
namespace Go.PI.G
noncomputable section
open Go Go.PI
abbrev C:=ByteArray×Int×Bool×Bool×V
abbrev T:=ByteArray×List C×List ByteArray
abbrev DB:=List T×List (List (List V))
abbrev yV:Ty:= .pair (.int .i64) (.pair (.int .i64) .str)
abbrev yC:Ty:= .pair .str (.pair (.int .i64) (.pair .bool (.pair .bool yV)))
abbrev yT:Ty:= .pair .str (.pair (.slice yC) (.slice .str))
abbrev yDB:Ty:= .pair (.slice yT) (.slice (.slice (.slice yV)))
abbrev zV:V:=(0,0,eS)
abbrev zC:C:=(eS,0,false,false,0,0,eS)
abbrev zT:T:=(eS,[],[])
theorem jec {α:Type} (p:α->Bool) (l:List α): -1<=Z9F p l/\Z9F p l<(l.length:Int):=by
 unfold Z9F
 cases h:l.findIdx? p with
 | none=>simp only [];omega
 | some i=>
  have:=(List.findIdx?_eq_some_iff_findIdx_eq.1 h).1
  simp only [];omega
theorem jeb {α:Type} {f:Nat->α->Bool}:(l:List α)->(i:Nat)->Z71 f i l=false->∀ (j:Nat) (h:j<l.length),f (i+j) l[j]=false
 | [],_,_,j,h=>by simp at h
 | x::l,i,h,j,b=>by
  simp only [Z71,Bool.or_eq_false_iff] at h
  cases j with
  | zero=>simpa using h.1
  | succ j=>
   have:=jeb l (i+1) h.2 j (by simpa using b)
   rw [show i+(j+1)=i+1+j by omega]
   simpa using this
def j0x (s:ByteArray):Bool:= !((Z1n s).any λb=>decide (b<97)||decide (b>122))&&(decide (1<=s.size)&&decide (s.size<=8))
def veq (a b:V):Bool:=(a.1==b.1)&&((a.2.1==b.2.1)&&sEq a.2.2 b.2.2)
theorem jhE (a b:V):veq a b=true↔a=b:=by
 obtain ⟨d,f,g⟩:=a
 obtain ⟨h,i,j⟩:=b
 unfold veq
 simp only [Bool.and_eq_true,beq_iff_eq,j0e,Prod.mk.injEq]
def vlt (a b:V):Bool:=j0u a&&(j0u b&&(bif a.1 != b.1 then decide (a.1<b.1) else bif a.2.1 != b.2.1 then decide (a.2.1<b.2.1) else sLt a.2.2 b.2.2))
def jk9 (v:V):Bool:=(v.1==0)&&((v.2.1==0)&&sEq v.2.2 eS)
def j1g (c:C):Bool:=j0x c.1&&(decide (1<=c.2.1/\c.2.1<=3)&&(j0u c.2.2.2.2&&(bif c.2.2.2.1 then (c.2.2.2.2.1==c.2.1)||((c.2.2.2.2.1==0)&& !c.2.2.1) else jk9 c.2.2.2.2)))
def j03 (l:List C) (n:ByteArray):Int:=Z9F (λc=>sEq c.1 n) l
theorem ja5 (l:List C) (n:ByteArray): -1<=j03 l n/\j03 l n<(l.length:Int):=jec _ _
theorem jsZ:j0u (0,0,eS)=true:=by
 show (((0:Int)==0)&&sEq eS eS)=true
 rw [Zah];rfl
theorem js4:jk9 (0,0,eS)=true:=by
 show (((0:Int)==0)&&(((0:Int)==0)&&sEq eS eS))=true
 rw [Zah];rfl
def j1t (l:List C):Int->List ByteArray->Bool
 | _,[]=>true
 | b,k::ks=> !decide (j03 l k<=b)&&((nth zC l (j03 l k)).2.2.1&&j1t l (j03 l k) ks)
def j5t (l:List C):Bool:= !Z71 (λi c=> !j1g c||(j03 l c.1 != (i:Int))) 0 l
def j04 (t:T):Bool:=(j0x t.1&&(decide (1<=t.2.1.length)&&(decide (t.2.1.length<=8)&&decide (1<=t.2.2.length))))&&(j5t t.2.1&&j1t t.2.1 (-1) t.2.2)
def j07 (l:List T) (n:ByteArray):Int:=Z9F (λt=>sEq t.1 n) l
def j2z (c:List T):Bool:=decide (c.length<=6)&& !Z71 (λi t=> !j04 t||(decide (0<i)&&sGe (nth zT c ((i:Int)-1)).1 t.1)) 0 c
def j4e (c:C) (v:V):Bool:=j0u v&&((v.1==c.2.1)||((v.1==0)&& !c.2.2.1))
def j0z (l:List C) (r:List V):Bool:=decide (r.length=l.length)&& !Z71 (λi c=> !j4e c (nth zV r (i:Int))) 0 l
def j08 (t:T) (r:List V):List V:=t.2.2.map λk=>nth zV r (j03 t.2.1 k)
def klt:List V->List V->Bool
 | [],[]=>false
 | [],_::_=>true
 | _::_,[]=>false
 | x::xs,y::ys=>bif veq x y then klt xs ys else vlt x y
def j0a (t:T) (l:List (List V)):Bool:=j04 t&&(decide (l.length<=60)&& !Z71 (λi r=> !j0z t.2.1 r||(decide (0<i)&& !klt (j08 t (nth [] l ((i:Int)-1))) (j08 t r))) 0 l)
def dbB (d:DB):Bool:=j2z d.1&&(decide (d.2.length=d.1.length)&& !Z71 (λi t=> !j0a t (nth [] d.2 (i:Int))) 0 d.1)
theorem j29 {t:T} (h:j04 t=true):j0x t.1=true/\1<=t.2.1.length/\t.2.1.length<=8/\1<=t.2.2.length/\j5t t.2.1=true/\j1t t.2.1 (-1) t.2.2=true:=by
 unfold j04 at h
 simp only [Bool.and_eq_true,decide_eq_true_eq] at h
 exact ⟨h.1.1,h.1.2.1,h.1.2.2.1,h.1.2.2.2,h.2.1,h.2.2⟩
theorem j1u {l:List C}:(ks:List ByteArray)->(b:Int)-> -1<=b->j1t l b ks=true->∀ k∈ks,0<=j03 l k/\j03 l k<(l.length:Int)
 | [],_,_,_,k,d=>by cases d
 | q::ks,b,i,h,k,d=>by
  simp only [j1t,Bool.and_eq_true,Bool.not_eq_true',decide_eq_false_iff_not] at h
  have f:=(jec (λc:C=>sEq c.1 q) l).2
  have g:0<=j03 l q:=by omega
  rcases List.mem_cons.1 d with rfl | d
  ·exact ⟨g,f⟩
  ·exact j1u ks (j03 l q) (by omega) h.2.2 k d
theorem ju8 {c:C} (h:j1g c=true):1<=c.2.1/\c.2.1<=3:=by
 unfold j1g at h
 simp only [Bool.and_eq_true,decide_eq_true_eq] at h
 exact h.2.1
theorem jod {l:List C} (h:j5t l=true) (i:Nat) (b:i<l.length):j1g l[i]=true:=by
 unfold j5t at h
 have:=jeb l 0 (by simpa using h) i b
 simp only [Bool.or_eq_false_iff,Bool.not_eq_false'] at this
 exact this.1
end
end Go.PI.G
set_option linter.unusedSimpArgs false
namespace Go.PI.G
open Go Go.PI Go.Proofs
theorem jsm (s:ByteArray) (i:Nat) (h:i<(Z1n s).length):bt s (i:Int)=(Z1n s)[i]:=by
 have g:=jdf s
 have d:i<s.data.size:=by
  have:i<s.size:=by omega
  exact this
 have f:(Z1n s)[i]=((s.data.toList.map λb:UInt8=>(b.toNat:Int))[i]'(by simpa using d)):=rfl
 rw [f,List.getElem_map]
 unfold bt
 simp [Array.getElem?_eq_getElem d]
theorem jtV (s:ByteArray) (x:Bool) (k:Bool->Res):(bif x then k false else (bif decide ((nI (ByteArray.size s))>=1) then k (decide ((nI (ByteArray.size s))<=8)) else k false))=k (!x&&(decide (1<=s.size)&&decide (s.size<=8))):=by
 cases x
 ·unfold nI
  by_cases b:1<=s.size
  ·rw [cond_false,decide_eq_true (show (s.size:Int)>=1 by omega),cond_true,decide_eq_true b]
   congr 1
   by_cases d:s.size<=8
   ·rw [decide_eq_true (show (s.size:Int)<=8 by omega),decide_eq_true d];rfl
   ·rw [decide_eq_false (show ¬ (s.size:Int)<=8 by omega),decide_eq_false d];rfl
  ·rw [cond_false,decide_eq_false (show ¬ (s.size:Int)>=1 by omega),cond_false,decide_eq_false b];rfl
 ·rfl
theorem j68 (s:ByteArray) (h:s.size<=LIM) (k:Bool->Res):j0S s k=k (j0x s):=by
 unfold j0S jhw
 have g:=jdf s
 have:=Za2 (Z1n s) (λi=>i) (λb=>decide (b<97)||decide (b>122)) (step:=jaM s) ((λ(_:Unit)=>bif decide ((nI (ByteArray.size s))>=1) then k (decide ((nI (ByteArray.size s))<=8)) else k false),(λ(_:Unit)=>k false)) (bif decide ((nI (ByteArray.size s))>=1) then k (decide ((nI (ByteArray.size s))<=8)) else k false) (k false) (by omega) (λi rec f=>by
  show j4O s _ _ _ _=_
  unfold j4O
  unfold LIM at h
  have d:i<s.size:=by omega
  rw [ZaQ d,cond_true,j01 d,cond_true,cond_true,jsm s i f,j02 (n:=(i:Int)+1) (by omega)]
  cases decide ((Z1n s)[i]<97)
  ·cases decide ((Z1n s)[i]>122)<;>rfl
  ·rfl) (λrec=>by
  show j4O s _ _ _ _=_
  unfold j4O
  rw [g,ZaP,cond_false])
 refine this.trans ?_
 exact jtV s _ k
theorem j65 (s:ByteArray) (h:s.size<=LIM) (k:Bool->Res):j0E s k=k (j0x s):=by
 unfold j0E jcA
 have j:=jdf s
 have:=Za2 (Z1n s) (λi=>i) (λb=>decide (b<97)||decide (b>122)) (step:=j7o s) ((λ(_:Unit)=>j0k (nI (ByteArray.size s)) 1 8 λ(r:Bool)=>k r),(λ(_:Unit)=>k false)) (j0k (nI (ByteArray.size s)) 1 8 λ(r:Bool)=>k r) (k false) (by omega) (λi rec g=>by
  show j4i s _ _ _ _=_
  unfold j4i
  unfold LIM at h
  have d:i<s.size:=by omega
  rw [ZaQ d,cond_true,j01 d,cond_true,cond_true,jsm s i g,j02 (n:=(i:Int)+1) (by omega)]
  cases decide ((Z1n s)[i]<97)
  ·cases decide ((Z1n s)[i]>122)<;>rfl
  ·rfl) (λrec=>by
  show j4i s _ _ _ _=_
  unfold j4i
  rw [j,ZaP,cond_false])
 refine this.trans ?_
 rw [j7k]
 have f:decide (1<=nI s.size/\nI s.size<=8)=(decide (1<=s.size)&&decide (s.size<=8)):=by
  rw [<-Bool.decide_and]
  exact decide_eq_decide.2 (by unfold nI;omega)
 rw [f]
 unfold j0x
 cases (Z1n s).any λb=>decide (b<97)||decide (b>122)<;>rfl
end Go.PI.G
namespace Go.PI.G
open Go Go.PI Go.Proofs
theorem jn2 (c:C) (h:c.1.size<=LIM) (k:Bool->Res):j5R c k=k (j1g c):=by
 obtain ⟨n,ty,w,r,d⟩:=c
 unfold j5R j1g
 dsimp only at h ⊢
 rw [j68 n h,j9A]
 cases j0x n
 ·rfl
 ·rw [Bool.not_true,cond_false,Bool.true_and]
  by_cases p:1<=ty/\ty<=3
  ·rw [decide_eq_false (show ¬ ty<1 by omega),cond_false,decide_eq_false (show ¬ ty>3 by omega),cond_false,decide_eq_true p,Bool.true_and]
   cases r
   ·rw [Bool.not_false,cond_true,cond_false]
    have:j0u d=false->jk9 d=false:=λj=>by
     cases i:jk9 d with
     | false=>rfl
     | true=>
      unfold jk9 at i
      simp only [Bool.and_eq_true,beq_iff_eq,j0e] at i
      have:d=(0,0,eS):=by
       obtain ⟨a,b,c⟩:=d
       simp only at i
       rw [i.1,i.2.1,i.2.2]
      rw [this,jsZ] at j
      cases j
    cases j:j0u d
    ·rw [Bool.false_and]
     exact congrArg k (this j)
    ·rfl
   ·rw [Bool.not_true,cond_false,cond_true]
    cases j:j0u d
    ·rfl
    ·rw [cond_true,Bool.true_and]
     have g:(d.1==0)=true->((d.1==0)&&((d.2.1==0)&&sEq d.2.2 eS))=true:=λf=>by
      rcases jig j with rfl | ⟨m,_,rfl⟩ | ⟨m,_,rfl⟩ | ⟨m,_,rfl⟩
      ·exact js4
      ·cases f
      ·cases f
      ·cases f
     cases f:d.1==0
     ·rw [Bool.false_and,cond_false]
      cases d.1==ty<;>rfl
     ·have:=g f
      rw [f] at this
      rw [this,cond_true,cond_true]
      have l:(d.1==ty)=false:=by
       simp only [beq_iff_eq] at f
       rw [f];simp;omega
      rw [l,Bool.false_or,Bool.true_and]
  ·rw [decide_eq_false p]
   by_cases q:ty<1
   ·rw [decide_eq_true q];rfl
   ·rw [decide_eq_false q,cond_false,decide_eq_true (show ty>3 by omega)];rfl
theorem jmi (c:C) (h:c.1.size<=LIM) (k:Bool->Res):j5w c k=k (j1g c):=by
 obtain ⟨n,ty,f,d,b⟩:=c
 unfold j5w j1g
 dsimp only at h ⊢
 rw [j65 n h,j7k,j9m]
 cases j0x n
 ·rfl
 ·cases decide (1<=ty/\ty<=3)
  ·rfl
  ·cases j0u b
   ·rfl
   ·cases d
    ·rfl
    ·cases b.1==ty
     ·cases b.1==0<;>rfl
     ·rfl
theorem j7h (t:T) (n:ByteArray) (h:t.2.1.length<=LIM) (k:Int->Res):j0W t n k=k (j03 t.2.1 n):=by
 unfold j0W jiO
 refine Z9S t.2.1 (λi=>i) (λc=>sEq c.1 n) (step:=jbP n t.2.1 (nI t.2.1.length)) _ k h (λi rec b=> ?_) (λrec=> ?_)
 ·show j5Q n _ _ _ _ _ _=_
  unfold j5Q
  unfold LIM at h
  rw [ZaQ b,cond_true,j01 b,cond_true,Zay _ _ _ b,j02 (n:=(i:Int)+1) (by omega)]
 ·show j5Q n _ _ _ _ _ _=_
  unfold j5Q
  rw [ZaP,cond_false]
theorem j8I (t:T) (n:ByteArray) (h:t.2.1.length<=LIM) (k:Int->Res):j0j t n k=k (j03 t.2.1 n):=by
 unfold j0j j7t j9H
 refine Z9S t.2.1 (λi=>i) (λc=>sEq c.1 n) (step:=j3R t.2.1 n (nI t.2.1.length)) _ k h (λi rec b=> ?_) (λrec=> ?_)
 ·show j17 _ n _ _ _ _ _=_
  unfold j17 jgA
  unfold LIM at h
  rw [ZaQ b,cond_true,j01 b,cond_true,Zay _ _ _ b,j02 (n:=(i:Int)+1) (by omega)]
 ·show j17 _ n _ _ _ _ _=_
  unfold j17
  rw [ZaP,cond_false]
theorem j36 {t:T} (h:msr yT t<=1048576):t.1.size<=1048576/\t.2.1.length<=1048576/\t.2.2.length<=1048576/\(∀ c∈t.2.1,c.1.size<=1048576)/\∀ x∈t.2.2,x.size<=1048576:=by
 have i:msr yT t=t.1.size+(msr (.slice yC) t.2.1+msr (.slice .str) t.2.2):=rfl
 have b:msr (.slice yC) t.2.1<=1048576:=by omega
 have d:msr (.slice .str) t.2.2<=1048576:=by omega
 refine ⟨by omega,j0p b,j0p d,λc f=> ?_,λx g=>j0O d g⟩
 have:=j0O b f
 have j:msr yC c=c.1.size+msr (.pair (.int .i64) (.pair .bool (.pair .bool yV))) c.2:=rfl
 omega
noncomputable def tSm (t:T):Prop:=t.1.size<=1048576/\t.2.1.length<=1048576/\t.2.2.length<=1048576/\(∀ c∈t.2.1,c.1.size<=1048576)/\∀ x∈t.2.2,x.size<=1048576
theorem jpv (t:T) (h:tSm t) (a b:Unit->Res):j8z t.2.1 (nI t.2.1.length) t Z1c 0 a b=bif j5t t.2.1 then a () else b ():=by
 have f:=h
 obtain ⟨j,k,l,g,m⟩:=f
 unfold j8z
 have:=Z9P t.2.1 (λi=>i) (λi c=> !j1g c||(j03 t.2.1 c.1 != (i:Int))) (step:=j3D t.2.1 (nI t.2.1.length) t) (a,b) (a ()) (b ()) (by unfold LIM;omega) (λi rec d=>by
  show j2g _ _ t _ _ _ _=_
  unfold j2g
  rw [ZaQ d,cond_true,j01 d,cond_true,Zay _ _ _ d,jn2 _ (by have:=g _ (List.getElem_mem d);unfold LIM;omega),j7h t _ (by unfold LIM;omega),j02 (n:=(i:Int)+1) (by omega)]
  cases j1g t.2.1[i]
  ·rfl
  ·cases j03 t.2.1 t.2.1[i].1 != (i:Int)<;>rfl) (λrec=>by
  show j2g _ _ t _ _ _ _=_
  unfold j2g
  rw [ZaP,cond_false])
 refine this.trans ?_
 unfold j5t
 cases Z71 (λi c=> !j1g c||(j03 t.2.1 c.1 != (i:Int))) 0 t.2.1<;>rfl
theorem jp1 (t:T) (h:tSm t) (a b:Unit->Res):j8l t.2.1 (nI t.2.1.length) t Z1c 0 a b=bif j5t t.2.1 then a () else b ():=by
 have f:=h
 obtain ⟨j,k,l,g,m⟩:=f
 unfold j8l
 have:=Z9P t.2.1 (λi=>i) (λi c=> !j1g c||(j03 t.2.1 c.1 != (i:Int))) (step:=j3u t.2.1 (nI t.2.1.length) t) (a,b) (a ()) (b ()) (by unfold LIM;omega) (λi rec d=>by
  show j2e _ _ t _ _ _ _=_
  unfold j2e
  rw [ZaQ d,cond_true,j01 d,cond_true,Zay _ _ _ d,jmi _ (by have:=g _ (List.getElem_mem d);unfold LIM;omega),j8I t _ (by unfold LIM;omega),j02 (n:=(i:Int)+1) (by omega)]
  cases j1g t.2.1[i]
  ·rfl
  ·cases j03 t.2.1 t.2.1[i].1 != (i:Int)<;>rfl) (λrec=>by
  show j2e _ _ t _ _ _ _=_
  unfold j2e
  rw [ZaP,cond_false])
 refine this.trans ?_
 unfold j5t
 cases Z71 (λi c=> !j1g c||(j03 t.2.1 c.1 != (i:Int))) 0 t.2.1<;>rfl
noncomputable def j9s (l:List C) (b:Int) (k:ByteArray):Except Unit Int:=bif decide (j03 l k<=b) then .error () else bif !(nth zC l (j03 l k)).2.2.1 then .error () else .ok (j03 l k)
theorem jjs (l:List C):(ks:List ByteArray)->(i:Nat)->(b:Int)->(∃ z,Z1S (λ_ b k=>j9s l b k) i ks b= .ok z/\j1t l b ks=true)\/(Z1S (λ_ b k=>j9s l b k) i ks b= .error ()/\j1t l b ks=false)
 | [],_,b=> .inl ⟨b,rfl,rfl⟩
 | k::ks,i,b=>by
  have d:=jjs l ks (i+1) (j03 l k)
  simp only [Z1S,j1t,j9s] at d ⊢
  cases decide (j03 l k<=b)
  ·cases (nth zC l (j03 l k)).2.2.1
   ·exact .inr ⟨rfl,rfl⟩
   ·exact d
  ·exact .inr ⟨rfl,rfl⟩
theorem jpw (t:T) (h:tSm t) (a b:Unit->Res):j8A t.2.2 (nI t.2.2.length) t Z1c (-1) 0 a b=bif j1t t.2.1 (-1) t.2.2 then a () else b ():=by
 have q:=h
 obtain ⟨w,y,A,B,C⟩:=q
 unfold j8A
 have:=Z3Z t.2.2 (λi d=>(d,i)) (λ_ d k=>j9s t.2.1 d k) (λ_ d=> -1<=d) (step:=j6f t.2.2 (nI t.2.2.length) t) (a,b) (λ_=>a ()) (λ_=>b ()) (-1) (by unfold LIM;omega) (by omega) (λi d m l p g=>by
  unfold j9s at g
  have:=(ja5 t.2.1 t.2.2[i]).1
  cases f:decide (j03 t.2.1 t.2.2[i]<=d)
  ·rw [f,cond_false] at g
   cases j:(nth zC t.2.1 (j03 t.2.1 t.2.2[i])).2.2.1
   ·rw [j] at g;cases g
   ·rw [j] at g
    cases g
    exact this
  ·rw [f] at g;cases g) (λi d rec l p=>by
  show j3E _ _ t _ _ _ _ _=_
  unfold j3E
  dsimp only
  rw [ZaQ l,cond_true,j01 l,cond_true,Zay _ _ _ l,j7h t _ (by unfold LIM;omega),j02 (n:=(i:Int)+1) (by omega)]
  unfold j9s
  by_cases f:j03 t.2.1 t.2.2[i]<=d
  ·rw [decide_eq_true f];rfl
  ·have r:=(ja5 t.2.1 t.2.2[i]).2
   rw [decide_eq_false f,cond_false,cond_false,ZaK (by omega) r,cond_true]
   cases (nth zC t.2.1 (j03 t.2.1 t.2.2[i])).2.2.1<;>rfl) (λd rec _=>by
  show j3E _ _ t _ _ _ _ _=_
  unfold j3E
  dsimp only
  rw [ZaP,cond_false])
 refine this.trans ?_
 rcases jjs t.2.1 t.2.2 0 (-1) with ⟨z,f,j⟩ | ⟨f,j⟩<;>rw [f,j]<;>rfl
theorem jp2 (t:T) (h:tSm t) (a b:Unit->Res):j8m t.2.2 (nI t.2.2.length) t Z1c (-1) 0 a b=bif j1t t.2.1 (-1) t.2.2 then a () else b ():=by
 have q:=h
 obtain ⟨w,y,A,B,C⟩:=q
 unfold j8m
 have:=Z3Z t.2.2 (λi d=>(d,i)) (λ_ d k=>j9s t.2.1 d k) (λ_ d=> -1<=d) (step:=j6b t.2.2 (nI t.2.2.length) t) (a,b) (λ_=>a ()) (λ_=>b ()) (-1) (by unfold LIM;omega) (by omega) (λi d m l p g=>by
  unfold j9s at g
  have:=(ja5 t.2.1 t.2.2[i]).1
  cases f:decide (j03 t.2.1 t.2.2[i]<=d)
  ·rw [f,cond_false] at g
   cases j:(nth zC t.2.1 (j03 t.2.1 t.2.2[i])).2.2.1
   ·rw [j] at g;cases g
   ·rw [j] at g
    cases g
    exact this
  ·rw [f] at g;cases g) (λi d rec l p=>by
  show j3v _ _ t _ _ _ _ _=_
  unfold j3v
  dsimp only
  rw [ZaQ l,cond_true,j01 l,cond_true,Zay _ _ _ l,j8I t _ (by unfold LIM;omega),j02 (n:=(i:Int)+1) (by omega)]
  unfold j9s
  by_cases f:j03 t.2.1 t.2.2[i]<=d
  ·rw [decide_eq_true f];rfl
  ·have r:=(ja5 t.2.1 t.2.2[i]).2
   rw [decide_eq_false f,cond_false,cond_false,ZaK (by omega) r,cond_true]
   cases (nth zC t.2.1 (j03 t.2.1 t.2.2[i])).2.2.1<;>rfl) (λd rec _=>by
  show j3v _ _ t _ _ _ _ _=_
  unfold j3v
  dsimp only
  rw [ZaP,cond_false])
 refine this.trans ?_
 rcases jjs t.2.1 t.2.2 0 (-1) with ⟨z,f,j⟩ | ⟨f,j⟩<;>rw [f,j]<;>rfl
theorem jtP (t:T) (k:Bool->Res):j5Y t k=j0S t.1 λw=>k (!(w&&(decide (1<=t.2.1.length)&&(decide (t.2.1.length<=8)&&decide (1<=t.2.2.length))))):=by
 unfold j5Y
 congr 1
 funext w
 unfold nI
 cases w
 ·rfl
 ·rw [Bool.not_true,cond_false,Bool.true_and]
  by_cases b:1<=t.2.1.length
  ·rw [decide_eq_false (show ¬ (t.2.1.length:Int)<1 by omega),cond_false,decide_eq_true b,Bool.true_and]
   by_cases d:t.2.1.length<=8
   ·rw [decide_eq_false (show ¬ (t.2.1.length:Int)>8 by omega),cond_false,decide_eq_true d,Bool.true_and]
    congr 1
    by_cases f:1<=t.2.2.length
    ·rw [decide_eq_false (show ¬ (t.2.2.length:Int)<1 by omega),decide_eq_true f];rfl
    ·rw [decide_eq_true (show (t.2.2.length:Int)<1 by omega),decide_eq_false f];rfl
   ·rw [decide_eq_true (show (t.2.1.length:Int)>8 by omega),decide_eq_false d];rfl
  ·rw [decide_eq_true (show (t.2.1.length:Int)<1 by omega),decide_eq_false b];rfl
theorem jl2 (t:T) (h:tSm t) (k:Bool->Res):j0C t k=k (j04 t):=by
 have b:=h
 obtain ⟨d,f,g,i,j⟩:=b
 unfold j0C j04
 rw [jtP,j68 _ (by unfold LIM;omega),jpv t h,jpw t h]
 cases j0x t.1&&(decide (1<=t.2.1.length)&&(decide (t.2.1.length<=8)&&decide (1<=t.2.2.length)))
 ·rfl
 ·cases j5t t.2.1
  ·rfl
  ·cases j1t t.2.1 (-1) t.2.2<;>rfl
theorem jkP (t:T) (h:tSm t) (k:Bool->Res):j0X t k=k (j04 t):=by
 have d:=h
 obtain ⟨g,i,j,l,m⟩:=d
 unfold j0X j04
 rw [j65 _ (by unfold LIM;omega),j7k,jp1 t h,jp2 t h]
 have b:decide (1<=nI t.2.1.length/\nI t.2.1.length<=8)=(decide (1<=t.2.1.length)&&decide (t.2.1.length<=8)):=by
  rw [<-Bool.decide_and]
  exact decide_eq_decide.2 (by unfold nI;omega)
 have f:decide (nI t.2.2.length>0)=decide (1<=t.2.2.length):=decide_eq_decide.2 (by unfold nI;omega)
 rw [b,f]
 cases j5t t.2.1
 ·rw [Bool.false_and,Bool.and_false];rfl
 ·cases j1t t.2.1 (-1) t.2.2
  ·rw [Bool.and_false,Bool.and_false];rfl
  ·cases j0x t.1
   ·rfl
   ·cases decide (1<=t.2.1.length)
    ·rfl
    ·cases decide (t.2.1.length<=8)
     ·rfl
     ·cases decide (1<=t.2.2.length)<;>rfl
theorem jel (t:T) (h:msr yT t<=1048576) (k:Bool->Res):j0C t k=k (j04 t):=jl2 t (j36 h) k
theorem jhU (t:T) (h:msr yT t<=1048576) (k:Bool->Res):j0X t k=k (j04 t):=jkP t (j36 h) k
theorem jpY (c:List T) (i:Nat) (d:i<c.length) (b:c.length<=LIM) (x:Res) (y:Res):(bif decide ((i:Int)>0) then (bif inb (Z9K ((i:Int)-1)) c.length then (bif sGe (nth zT c (Z9K ((i:Int)-1))).1 c[i].1 then x else y) else none) else y) =
  bif (decide (0<i)&&sGe (nth zT c ((i:Int)-1)).1 c[i].1) then x else y:=by
 by_cases h:0<i
 ·unfold LIM at b
  rw [decide_eq_true (show (i:Int)>0 by omega),decide_eq_true h,cond_true,j02 (by omega),ZaK (by omega) (by omega),cond_true,Bool.true_and]
 ·rw [decide_eq_false (show ¬ (i:Int)>0 by omega),decide_eq_false h];rfl
end Go.PI.G
namespace Go.PI.G
open Go Go.PI
def free (b:Int) (s:ByteArray):Prop:=b ∉ Z1n s
theorem j61 {s:ByteArray} (h:j0x s=true):1<=s.size/\s.size<=8:=by
 unfold j0x at h
 simp only [Bool.and_eq_true,decide_eq_true_eq] at h
 exact h.2
end Go.PI.G
namespace Go.PI.G
open Go Go.PI
abbrev D:=Int×ByteArray×List C×List ByteArray×ByteArray×ByteArray
abbrev ST:=Int×ByteArray×List V×List V×D
abbrev yD:Ty:= .pair (.int .i64) (.pair .str (.pair (.slice yC) (.pair (.slice .str) (.pair .str .str))))
abbrev yST:Ty:= .pair (.int .i64) (.pair .str (.pair (.slice yV) (.pair (.slice yV) yD)))
abbrev zD:D:=(0,eS,[],[],eS,eS)
abbrev zST:ST:=(0,eS,[],[],0,eS,[],[],eS,eS)
theorem jpD:∃ m,Z1c=m+1:=⟨Z1c-1,by have:=Z2b (n:=1) (by omega);omega⟩
theorem j46 (n:Nat):(nI n==0)=(n==0):=by
 unfold nI
 cases n with
 | zero=>rfl
 | succ n=>show ((((n+1:Nat):Int))==0)=false;simp;omega
theorem jsK (n:Nat):(nI n==1)=(n==1):=by
 unfold nI
 by_cases h:n=1
 ·subst h;rfl
 ·have b:(n==1)=false:=by simp [h]
  have d:((n:Int)==1)=false:=by simp;omega
  rw [b,d]
theorem js3 (m n:Nat):(nI m != nI n)= !(m==n):=by
 unfold nI
 by_cases h:m=n
 ·subst h;simp
 ·have b:(m==n)=false:=by simp [h]
  have d:((m:Int) != n)=true:=by simp;omega
  rw [b,d];rfl
def noD (d:D):Bool:=(d.1==0)&&(sEq d.2.1 eS&&((d.2.2.1.length==0)&&((d.2.2.2.1.length==0)&&(sEq d.2.2.2.2.1 eS&&sEq d.2.2.2.2.2 eS))))
def jdl (d:D):Bool:=(d.2.2.1.length==0)&&(d.2.2.2.1.length==0)
noncomputable def j1c (d:D):Bool:=j0x d.2.1 &&
 (bif d.1==1 then sEq d.2.2.2.2.1 eS&&(sEq d.2.2.2.2.2 eS&&j04 (d.2.1,d.2.2.1,d.2.2.2.1))
  else bif d.1==2 then jdl d&&(sEq d.2.2.2.2.1 eS&&sEq d.2.2.2.2.2 eS)
  else bif d.1==3 then (d.2.2.1.length==1)&&(j1g (nth zC d.2.2.1 0)&&(((nth zC d.2.2.1 0).2.2.2.1|| !(nth zC d.2.2.1 0).2.2.1)&&((d.2.2.2.1.length==0)&&(sEq d.2.2.2.2.1 eS&&sEq d.2.2.2.2.2 eS))))
  else bif d.1==4 then jdl d&&(j0x d.2.2.2.2.1&&sEq d.2.2.2.2.2 eS)
  else bif d.1==5 then jdl d&&(j0x d.2.2.2.2.1&&j0x d.2.2.2.2.2)
  else false)
def j2b (l:List V):Bool:=l.all j0u&&(decide (1<=l.length)&&decide (l.length<=8))
noncomputable def stB (s:ST):Bool:=j0x s.2.1 &&
 (bif s.1==1 then (s.2.2.1.length==0)&&(j2b s.2.2.2.1&&noD s.2.2.2.2)
  else bif s.1==2 then j2b s.2.2.1&&(j2b s.2.2.2.1&&noD s.2.2.2.2)
  else bif s.1==3 then j2b s.2.2.1&&((s.2.2.2.1.length==0)&&noD s.2.2.2.2)
  else bif s.1==4 then (s.2.2.1.length==0)&&((s.2.2.2.1.length==0)&&noD s.2.2.2.2)
  else bif s.1==5 then (s.2.2.1.length==0)&&((s.2.2.2.1.length==0)&&(j1c s.2.2.2.2&&sEq s.2.2.2.2.2.1 s.2.1))
  else false)
def dSm (d:D):Prop:=d.2.1.size<=1048576/\d.2.2.1.length<=1048576/\d.2.2.2.1.length<=1048576/\(∀ c∈d.2.2.1,c.1.size<=1048576)/\(∀ x∈d.2.2.2.1,x.size<=1048576)/\d.2.2.2.2.1.size<=1048576/\d.2.2.2.2.2.size<=1048576
def j0t (s:ST):Prop:=s.2.1.size<=1048576/\s.2.2.1.length<=1048576/\s.2.2.2.1.length<=1048576/\dSm s.2.2.2.2
theorem jt9:dSm zD:=by
 refine ⟨?_,?_,?_,?_,?_,?_,?_⟩
 all_goals first | (intro _ h;cases h) | exact Nat.zero_le _
theorem joz:j0t zST:=⟨Nat.zero_le _,Nat.zero_le _,Nat.zero_le _,jt9⟩
theorem jhl (d:D):noD d=true↔d=zD:=by
 obtain ⟨a,b,c,e,f,g⟩:=d
 unfold noD
 simp only [Bool.and_eq_true,beq_iff_eq,j0e,Prod.mk.injEq,List.length_eq_zero_iff]
theorem j7m {d:D} (h:j1c d=true):j0x d.2.1=true /\
  ((∃ t cs ks,d=(1,t,cs,ks,eS,eS)/\j04 (t,cs,ks)=true)\/(∃ t,d=(2,t,[],[],eS,eS))\/(∃ t c,d=(3,t,[c],[],eS,eS)/\j1g c=true) \/
   (∃ t n,d=(4,t,[],[],n,eS)/\j0x n=true)\/∃ t n m,d=(5,t,[],[],n,m)/\j0x n=true/\j0x m=true):=by
 obtain ⟨k,t,cs,ks,n,m⟩:=d
 unfold j1c jdl at h
 dsimp only at h ⊢
 rw [Bool.and_eq_true] at h
 refine ⟨h.1,?_⟩
 have h:=h.2
 cases g:k==1
 ·cases i:k==2
  ·cases j:k==3
   ·cases l:k==4
    ·cases p:k==5
     ·rw [g,i,j,l,p] at h;cases h
     ·rw [g,i,j,l,p] at h
      simp only [cond_false,cond_true,Bool.and_eq_true,beq_iff_eq] at h p
      obtain ⟨⟨a,b⟩,c,e⟩:=h
      rw [List.length_eq_zero_iff] at a b
      subst a;subst b;subst p
      exact .inr (.inr (.inr (.inr ⟨t,n,m,rfl,c,e⟩)))
    ·rw [g,i,j,l] at h
     simp only [cond_false,cond_true,Bool.and_eq_true,beq_iff_eq,j0e] at h l
     obtain ⟨⟨a,b⟩,c,e⟩:=h
     rw [List.length_eq_zero_iff] at a b
     subst a;subst b;subst l;subst e
     exact .inr (.inr (.inr (.inl ⟨t,n,rfl,c⟩)))
   ·rw [g,i,j] at h
    simp only [cond_false,cond_true,Bool.and_eq_true,beq_iff_eq,j0e] at h j
    obtain ⟨a,b,_,c,e,f⟩:=h
    obtain ⟨c0,rfl⟩:=List.length_eq_one_iff.1 a
    rw [List.length_eq_zero_iff] at c
    subst c;subst j;subst e;subst f
    exact .inr (.inr (.inl ⟨t,c0,rfl,b⟩))
  ·rw [g,i] at h
   simp only [cond_false,cond_true,Bool.and_eq_true,beq_iff_eq,j0e] at h i
   obtain ⟨⟨a,b⟩,e,f⟩:=h
   rw [List.length_eq_zero_iff] at a b
   subst a;subst b;subst i;subst e;subst f
   exact .inr (.inl ⟨t,rfl⟩)
 ·rw [g] at h
  simp only [cond_true,Bool.and_eq_true,beq_iff_eq,j0e] at h g
  obtain ⟨e,f,a⟩:=h
  subst g;subst e;subst f
  exact .inl ⟨t,cs,ks,rfl,a⟩
theorem joy {s:ST} (h:stB s=true):j0x s.2.1=true /\
  ((∃ t r,s=(1,t,[],r,zD)/\j2b r=true)\/(∃ t q r,s=(2,t,q,r,zD)/\j2b q=true/\j2b r=true)\/(∃ t q,s=(3,t,q,[],zD)/\j2b q=true) \/
   (∃ t,s=(4,t,[],[],zD))\/∃ d:D,s=(5,d.2.1,[],[],d)/\j1c d=true):=by
 obtain ⟨k,t,q,r,d⟩:=s
 unfold stB at h
 dsimp only at h ⊢
 rw [Bool.and_eq_true] at h
 refine ⟨h.1,?_⟩
 have h:=h.2
 cases f:k==1
 ·cases g:k==2
  ·cases i:k==3
   ·cases j:k==4
    ·cases l:k==5
     ·rw [f,g,i,j,l] at h;cases h
     ·rw [f,g,i,j,l] at h
      simp only [cond_false,cond_true,Bool.and_eq_true,beq_iff_eq,j0e] at h l
      obtain ⟨a,b,c,e⟩:=h
      rw [List.length_eq_zero_iff] at a b
      subst a;subst b;subst l;subst e
      exact .inr (.inr (.inr (.inr ⟨d,rfl,c⟩)))
    ·rw [f,g,i,j] at h
     simp only [cond_false,cond_true,Bool.and_eq_true,beq_iff_eq,jhl] at h j
     obtain ⟨a,b,c⟩:=h
     rw [List.length_eq_zero_iff] at a b
     subst a;subst b;subst j;subst c
     exact .inr (.inr (.inr (.inl ⟨t,rfl⟩)))
   ·rw [f,g,i] at h
    simp only [cond_false,cond_true,Bool.and_eq_true,beq_iff_eq,jhl] at h i
    obtain ⟨a,b,c⟩:=h
    rw [List.length_eq_zero_iff] at b
    subst b;subst i;subst c
    exact .inr (.inr (.inl ⟨t,q,rfl,a⟩))
  ·rw [f,g] at h
   simp only [cond_false,cond_true,Bool.and_eq_true,beq_iff_eq,jhl] at h g
   obtain ⟨a,b,c⟩:=h
   subst g;subst c
   exact .inr (.inl ⟨t,q,r,rfl,a,b⟩)
 ·rw [f] at h
  simp only [cond_true,Bool.and_eq_true,beq_iff_eq,jhl] at h f
  obtain ⟨a,b,c⟩:=h
  rw [List.length_eq_zero_iff] at a
  subst a;subst f;subst c
  exact .inl ⟨t,r,rfl,b⟩
theorem jrv {l:List V} (h:j2b l=true):1<=l.length/\l.length<=8/\∀ v∈l,j0u v=true:=by
 unfold j2b at h
 simp only [Bool.and_eq_true,decide_eq_true_eq,List.all_eq_true] at h
 exact ⟨h.2.1,h.2.2,h.1⟩
end Go.PI.G
namespace Go.PI.G
open Go Go.PI Go.Proofs
theorem jdi (l:List ByteArray) (k:Bool->Res):j2w l [] k=k (l.length==0):=by
 unfold j2w
 rw [js3]
 cases l with
 | nil=>
  obtain ⟨m,b⟩:=jpD
  rw [show (!(([]:List ByteArray).length==([]:List ByteArray).length))=false from rfl,cond_false]
  unfold jag
  rw [b,Z9Y]
  rfl
 | cons x l=>rfl
theorem jfM (l:List C) (k:Bool->Res):j1D l [] k=k (l.length==0):=by
 unfold j1D
 rw [js3]
 cases l with
 | nil=>
  obtain ⟨m,b⟩:=jpD
  rw [show (!(([]:List C).length==([]:List C).length))=false from rfl,cond_false]
  unfold j8h
  rw [b,Z9Y]
  rfl
 | cons x l=>rfl
theorem jrS (l:List C) (h:l.length<=LIM) (k:Bool->Res):j1D l l k=k true:=by
 unfold j1D j8h
 rw [js3,beq_self_eq_true,Bool.not_true,cond_false]
 have:=Za2 l (λi=>i) (λ_=>false) (step:=j6Z l l (nI l.length)) ((λ(_:Unit)=>k true),(λ(_:Unit)=>k false)) (k true) (k false) h (λi rec b=>by
  show j1L _ _ _ _ _ _ _=_
  unfold j1L
  unfold LIM at h
  have d:∀ x:Bool,(x==x)=true:=by decide
  rw [ZaQ b,cond_true,j01 b,cond_true,cond_true]
  simp only [Zah,beq_self_eq_true,d,Bool.and_true,Bool.not_true,cond_false]
  rw [j02 (by omega)]) (λrec=>by
  show j1L _ _ _ _ _ _ _=_
  unfold j1L
  rw [ZaP,cond_false])
 refine this.trans ?_
 have:(l.any λ_=>false)=false:=by simp
 rw [this,cond_false]
theorem jtX {d:D} (h:dSm d):tSm (d.2.1,d.2.2.1,d.2.2.2.1):=⟨h.1,h.2.1,h.2.2.1,h.2.2.2.1,h.2.2.2.2.1⟩
theorem jup (d:D) (K:Bool->Res):j7Y d K=K (jdl d):=by
 unfold j7Y jdl
 rw [j46,j46]
 cases d.2.2.1.length==0<;>rfl
theorem jie (d:D) (h:dSm d) (k:Bool->Res):j2M d k=k (j1c d):=by
 have i:=jtX h
 obtain ⟨w,y,z,j,A,B,C⟩:=h
 obtain ⟨b,t,cs,ks,n,m⟩:=d
 dsimp only at w y z j A B C i
 unfold j2M j1c
 rw [jup]
 generalize r:jdl (b,t,cs,ks,n,m)=g
 dsimp only
 rw [j68 _ (by unfold LIM;omega),j46]
 cases j0x t
 ·rfl
 ·rw [Bool.not_true,cond_false,Bool.true_and]
  cases b==1
  ·cases b==2
   ·cases b==3
    ·cases b==4
     ·cases b==5
      ·rfl
      ·rw [cond_false,cond_false,cond_false,cond_false,cond_true,cond_false,cond_false,cond_false,cond_false,cond_true,j68 n (by unfold LIM;omega),j68 m (by unfold LIM;omega)]
       cases g
       ·rfl
       ·cases j0x n<;>rfl
     ·rw [cond_false,cond_false,cond_false,cond_true,cond_false,cond_false,cond_false,cond_true,j68 n (by unfold LIM;omega)]
      cases g
      ·rfl
      ·cases j0x n<;>rfl
    ·rw [cond_false,cond_false,cond_true,cond_false,cond_false,cond_true,jsK]
     cases q:cs.length==1
     ·rfl
     ·have f:cs.length=1:=by simpa using q
      have p:inb 0 cs.length=true:=by rw [f];rfl
      have l:(nth zC cs 0).1.size<=LIM:=by
       have:=j (nth zC cs 0) (by rw [show (0:Int)=((0:Nat):Int) by rfl,Zay _ _ _ (by omega)];exact List.getElem_mem _)
       unfold LIM;omega
      rw [cond_true,p,cond_true,jn2 _ l,Bool.true_and]
      cases j1g (nth zC cs 0)
      ·rfl
      ·rw [cond_true,cond_true,cond_true,Bool.true_and]
       cases (nth zC cs 0).2.2.2.1
       ·cases (nth zC cs 0).2.2.1
        ·cases ks.length==0
         ·rfl
         ·cases sEq n eS<;>rfl
        ·rfl
       ·cases ks.length==0
        ·rfl
        ·cases sEq n eS<;>rfl
   ·rw [cond_false,cond_true,cond_false,cond_true]
    cases g
    ·rfl
    ·cases sEq n eS<;>rfl
  ·rw [cond_true,cond_true,jl2 _ i]
   cases sEq n eS
   ·rfl
   ·cases sEq m eS<;>rfl
theorem jkO (d:D) (h:dSm d) (k:T->Res):j3h d k=k (d.2.1,d.2.2.1,d.2.2.2.1):=by
 unfold j3h j42 j43
 have b:=h.2.1
 have f:=h.2.2.1
 dsimp only
 rw [ZaL (by unfold LIM;omega),cond_true,ZaL (by unfold LIM;omega),cond_true]
theorem jhQ (d:D) (h:dSm d) (k:Bool->Res):j2J d k=k (j1c d):=by
 have i:=jtX h
 have f:=jkO d h
 obtain ⟨z,A,B,j,C,E,F⟩:=h
 obtain ⟨b,t,cs,ks,n,m⟩:=d
 dsimp only at z A B j C E F i f
 unfold j2J j1c jdl
 dsimp only
 rw [j65 _ (by unfold LIM;omega)]
 have l:cs.length<=LIM:=by unfold LIM;omega
 have G:ks.length<=LIM:=by unfold LIM;omega
 cases j0x t
 ·rfl
 ·rw [Bool.not_true,cond_false,Bool.true_and]
  cases q:b==1
  ·cases b==2
   ·cases b==3
    ·cases b==4
     ·cases b==5
      ·rfl
      ·rw [cond_false,cond_false,cond_false,cond_false,cond_true,cond_false,cond_false,cond_false,cond_false,cond_true]
       unfold j0i
       dsimp only
       rw [beq_self_eq_true,cond_true,Zah,cond_true,jfM,jdi,Zah,cond_true,Zah,j65 n (by unfold LIM;omega),j65 m (by unfold LIM;omega)]
       cases cs.length==0
       ·rfl
       ·cases ks.length==0
        ·rfl
        ·cases j0x n<;>rfl
     ·rw [cond_false,cond_false,cond_false,cond_true,cond_false,cond_false,cond_false,cond_true]
      unfold j0i
      dsimp only
      rw [beq_self_eq_true,cond_true,Zah,cond_true,jfM,jdi,Zah,cond_true,j65 n (by unfold LIM;omega)]
      cases cs.length==0
      ·rfl
      ·cases ks.length==0
       ·rfl
       ·cases sEq m eS<;>cases j0x n<;>rfl
    ·rw [cond_false,cond_false,cond_true,cond_false,cond_false,cond_true,jsK]
     unfold j0i
     dsimp only
     rw [beq_self_eq_true,cond_true,Zah,cond_true,jrS _ l,cond_true,jdi]
     cases y:cs.length==1
     ·cases ks.length==0
      ·rfl
      ·cases sEq n eS
       ·rfl
       ·cases sEq m eS<;>rfl
     ·have g:cs.length=1:=by simpa using y
      have w:inb 0 cs.length=true:=by rw [g];rfl
      have r:(nth zC cs 0).1.size<=LIM:=by
       have:=j (nth zC cs 0) (by rw [show (0:Int)=((0:Nat):Int) by rfl,Zay _ _ _ (by omega)];exact List.getElem_mem _)
       unfold LIM;omega
      rw [w,jmi _ r]
      cases ks.length==0
      ·cases j1g (nth zC cs 0)<;>cases (nth zC cs 0).2.2.2.1<;>cases (nth zC cs 0).2.2.1<;>rfl
      ·cases sEq n eS
       ·cases j1g (nth zC cs 0)<;>cases (nth zC cs 0).2.2.2.1<;>cases (nth zC cs 0).2.2.1<;>rfl
       ·cases sEq m eS<;>cases j1g (nth zC cs 0)<;>cases (nth zC cs 0).2.2.2.1<;>cases (nth zC cs 0).2.2.1<;>rfl
   ·rw [cond_false,cond_true,cond_false,cond_true]
    unfold j0i
    dsimp only
    rw [beq_self_eq_true,cond_true,Zah,cond_true,jfM,jdi]
    cases cs.length==0
    ·rfl
    ·cases ks.length==0
     ·rfl
     ·cases sEq n eS<;>rfl
  ·have p:b=1:=by simpa using q
   subst p
   rw [cond_true,cond_true,f,jkP _ i]
   cases j04 (t,cs,ks)
   ·cases sEq n eS
    ·rfl
    ·cases sEq m eS<;>rfl
   ·cases sEq n eS<;>cases sEq m eS<;>rfl
theorem jn6 (d:D) (k:Bool->Res):j1B d k=k (noD d):=by
 unfold j1B noD
 rw [j46,j46]
 cases d.1==0
 ·rfl
 ·cases sEq d.2.1 eS
  ·rfl
  ·cases d.2.2.1.length==0
   ·rfl
   ·cases d.2.2.2.1.length==0
    ·rfl
    ·cases sEq d.2.2.2.2.1 eS<;>rfl
theorem jmj (d:D) (k:Bool->Res):j0i d zD k=k (noD d):=by
 unfold j0i noD
 rw [jfM,jdi]
 cases d.1==0
 ·rfl
 ·cases sEq d.2.1 eS
  ·rfl
  ·cases d.2.2.1.length==0
   ·rfl
   ·cases d.2.2.2.1.length==0
    ·rfl
    ·cases sEq d.2.2.2.2.1 eS<;>rfl
theorem jl4 (l:List V) (h:l.length<=LIM) (k:Bool->Res):j30 l k=k (j2b l):=by
 unfold j30 jg7 j2b
 have:=Za2 l (λi=>i) (λv=> !j0u v) (step:=j9Y l (nI l.length)) ((λ(_:Unit)=>bif decide ((nI l.length)>=1) then k (decide ((nI l.length)<=8)) else k false),(λ(_:Unit)=>k false)) (bif decide ((nI l.length)>=1) then k (decide ((nI l.length)<=8)) else k false) (k false) h (λi rec d=>by
  show j3J _ _ _ _ _ _=_
  unfold j3J
  unfold LIM at h
  rw [ZaQ d,cond_true,j01 d,cond_true,Zay _ _ _ d,j9A,j02 (n:=(i:Int)+1) (by omega)]) (λrec=>by
  show j3J _ _ _ _ _ _=_
  unfold j3J
  rw [ZaP,cond_false])
 refine this.trans ?_
 have b:(l.any λv=> !j0u v)= !l.all j0u:=by rw [List.all_eq_not_any_not];simp
 rw [b]
 unfold nI
 cases l.all j0u
 ·rfl
 ·rw [Bool.not_true,cond_false,Bool.true_and]
  by_cases f:1<=l.length
  ·rw [decide_eq_true (show (l.length:Int)>=1 by omega),cond_true,decide_eq_true f,Bool.true_and]
   congr 1
   exact decide_eq_decide.2 (by omega)
  ·rw [decide_eq_false (show ¬ (l.length:Int)>=1 by omega),cond_false,decide_eq_false f,Bool.false_and]
theorem jkQ (l:List V) (h:l.length<=LIM) (k:Bool->Res):j1X l k=k (j2b l):=by
 unfold j1X j2r j7w j9K j2b
 rw [j7k]
 have f:decide (1<=nI l.length/\nI l.length<=8)=(decide (1<=l.length)&&decide (l.length<=8)):=by
  rw [<-Bool.decide_and]
  exact decide_eq_decide.2 (by unfold nI;omega)
 rw [f]
 cases decide (1<=l.length)&&decide (l.length<=8)
 ·rw [Bool.and_false];rfl
 ·rw [cond_true,Bool.and_true]
  have:=Z9S l (λi=>i) (λv=> !j0u v) (step:=j3U l (nI l.length)) ((λ(_:Unit)=>k (!decide ((-1:Int)>=0))),(λ(t:Int)=>k (!decide (t>=0)))) (λr=>k (!decide (r>=0))) h (λi rec b=>by
   show j1a _ _ _ _ _ _=_
   unfold j1a jdA
   unfold LIM at h
   rw [ZaQ b,cond_true,j01 b,cond_true,Zay _ _ _ b,j9m,j02 (n:=(i:Int)+1) (by omega)]) (λrec=>by
   show j1a _ _ _ _ _ _=_
   unfold j1a
   rw [ZaP,cond_false])
  refine this.trans ?_
  congr 1
  unfold Z9F
  cases d:l.findIdx? λv=> !j0u v with
  | none=>
   rw [List.findIdx?_eq_none_iff] at d
   symm
   show l.all j0u=true
   rw [List.all_eq_true]
   intro v j
   simpa using d v j
  | some i=>
   dsimp only
   rw [decide_eq_true (show (i:Int)>=0 by omega)]
   obtain ⟨b,g,_⟩:=List.findIdx?_eq_some_iff_getElem.1 d
   symm
   show l.all j0u=false
   rw [List.all_eq_false]
   exact ⟨l[i],List.getElem_mem _,by simpa using g⟩
theorem jk0 (s:ST) (h:j0t s) (k:Bool->Res):j3X s k=k (stB s):=by
 obtain ⟨g,i,j,f⟩:=h
 unfold j3X stB j74
 have b:s.2.2.1.length<=LIM:=by unfold LIM;omega
 have d:s.2.2.2.1.length<=LIM:=by unfold LIM;omega
 rw [j68 _ (by unfold LIM;omega),j46,j46]
 simp only [jl4 _ b,jl4 _ d,jn6,jie _ f]
 cases j0x s.2.1
 ·rfl
 ·rw [Bool.not_true,cond_false,Bool.true_and]
  cases s.1==1
  ·cases s.1==2
   ·cases s.1==3
    ·cases s.1==4
     ·cases s.1==5
      ·rfl
      ·cases s.2.2.1.length==0
       ·rfl
       ·cases s.2.2.2.1.length==0
        ·rfl
        ·cases j1c s.2.2.2.2<;>rfl
     ·cases s.2.2.1.length==0
      ·rfl
      ·cases s.2.2.2.1.length==0<;>rfl
    ·cases j2b s.2.2.1
     ·rfl
     ·cases s.2.2.2.1.length==0<;>rfl
   ·cases j2b s.2.2.1
    ·rfl
    ·cases j2b s.2.2.2.1<;>rfl
  ·cases s.2.2.1.length==0
   ·rfl
   ·cases j2b s.2.2.2.1<;>rfl
theorem jss {d:D} (h:j1c d=true):j0x d.2.1=true:=by
 unfold j1c at h
 rw [Bool.and_eq_true] at h
 exact h.1
theorem joj (s:ST) (h:j0t s) (k:Bool->Res):j3V s k=k (stB s):=by
 obtain ⟨n,p,q,m⟩:=h
 unfold j3V stB j6y
 have d:s.2.2.1.length<=LIM:=by unfold LIM;omega
 have f:s.2.2.2.1.length<=LIM:=by unfold LIM;omega
 rw [j65 _ (by unfold LIM;omega),j46,j46]
 simp only [jkQ _ d,jkQ _ f,jmj,jhQ _ m]
 cases i:s.1==5
 ·rw [cond_false]
  cases j0x s.2.1
  ·rfl
  ·rw [Bool.not_true,cond_false,Bool.true_and]
   cases s.1==1
   ·cases s.1==2
    ·cases s.1==3
     ·cases s.1==4
      ·cases noD s.2.2.2.2<;>rfl
      ·cases noD s.2.2.2.2<;>cases s.2.2.1.length==0<;>cases s.2.2.2.1.length==0<;>rfl
     ·cases noD s.2.2.2.2<;>cases j2b s.2.2.1<;>cases s.2.2.2.1.length==0<;>rfl
    ·cases noD s.2.2.2.2<;>cases j2b s.2.2.1<;>cases j2b s.2.2.2.1<;>rfl
   ·cases noD s.2.2.2.2<;>cases s.2.2.1.length==0<;>cases j2b s.2.2.2.1<;>rfl
 ·have g:s.1=5:=by simpa using i
  rw [cond_true,g,show ((5:Int)==1)=false from rfl,show ((5:Int)==2)=false from rfl,show ((5:Int)==3)=false from rfl,show ((5:Int)==4)=false from rfl,cond_false,cond_false,cond_false,cond_false,cond_true]
  cases j:j1c s.2.2.2.2
  ·rw [cond_false]
   cases j0x s.2.1<;>cases s.2.2.1.length==0<;>cases s.2.2.2.1.length==0<;>rfl
  ·rw [cond_true,Zag s.2.1]
   cases l:sEq s.2.2.2.2.2.1 s.2.1
   ·rw [cond_false]
    cases j0x s.2.1<;>cases s.2.2.1.length==0<;>cases s.2.2.2.1.length==0<;>rfl
   ·have b:=jss j
    rw [(j0e _ _).1 l] at b
    rw [b]
    cases s.2.2.1.length==0<;>cases s.2.2.2.1.length==0<;>rfl
end Go.PI.G
namespace Go.PI.G
open Go Go.PI
theorem js2 {v:V} (h:j0u v=true):msr yV v<=30:=by
 have e:msr yV v=0+(0+v.2.2.size):=rfl
 have:=jt0 h
 omega
theorem j6J {e:Ty} (c:Nat):(l:List (El e))->(∀ x∈l,msr e x<=c)->msr (.slice e) l<=l.length * (c+1)
 | [],_=>Nat.zero_le _
 | x::l,h=>by
  have b:=j6J c l λy d=>h y (List.mem_cons_of_mem _ d)
  have f:=h x (by simp)
  rw [jju] at b ⊢
  simp only [List.map_cons,List.sum_cons,List.length_cons]
  rw [Nat.succ_mul]
  omega
theorem jfX {l:List V} (h:j2b l=true):msr (.slice yV) l<=248:=by
 have b:=jrv h
 have f:=j6J (e:=yV) 30 l λv d=>js2 (b.2.2 v d)
 have g:l.length * 31<=8 * 31:=Nat.mul_le_mul_right _ b.2.1
 omega
theorem jqq {c:C} (h:j1g c=true):msr yC c<=38:=by
 have e:msr yC c=c.1.size+(0+(0+(0+msr yV c.2.2.2.2))):=rfl
 unfold j1g at h
 simp only [Bool.and_eq_true] at h
 have b:=j61 h.1
 have d:=js2 h.2.2.1
 omega
theorem jsq {l:List C} (h:j5t l=true) {c:C} (b:c∈l):j1g c=true:=by
 obtain ⟨i,d,rfl⟩:=List.getElem_of_mem b
 exact jod h i d
theorem jsp {l:List C} {n:ByteArray} (h:0<=j03 l n):∃ c∈l,c.1=n:=by
 unfold j03 Z9F at h
 cases b:List.findIdx? (λc:C=>sEq c.1 n) l with
 | none=>rw [b] at h;dsimp only at h;omega
 | some i=>
  obtain ⟨d,f,_⟩:=List.findIdx?_eq_some_iff_getElem.1 b
  exact ⟨l[i],List.getElem_mem d,(j0e _ _).1 f⟩
theorem jok {l:List C}:(ks:List ByteArray)->(b:Int)->b<(l.length:Int)->j1t l b ks=true->b+(ks.length:Int)<(l.length:Int)
 | [],b,d,_=>by simpa using d
 | q::ks,b,d,h=>by
  simp only [j1t,Bool.and_eq_true,Bool.not_eq_true',decide_eq_false_iff_not] at h
  have f:=jok ks (j03 l q) (ja5 l q).2 h.2.2
  rw [List.length_cons]
  omega
theorem jqs {t:ByteArray} {cs:List C} {ks:List ByteArray} (h:j04 (t,cs,ks)=true):t.size<=8/\msr (.slice yC) cs<=312/\msr (.slice .str) ks<=72:=by
 have b:=j29 h
 dsimp only at b
 have d:∀ c∈cs,j1g c=true:=λc d=>jsq b.2.2.2.2.1 d
 have m:=j6J (e:=yC) 38 cs λc h=>jqq (d c h)
 have n:cs.length * 39<=8 * 39:=Nat.mul_le_mul_right _ b.2.2.1
 have j:=j1u ks (-1) (by omega) b.2.2.2.2.2
 have r:=jok ks (-1) (by omega) b.2.2.2.2.2
 have p:=j6J (e:= .str) 8 ks λk l=>by
  obtain ⟨c,g,i⟩:=jsp (j k l).1
  have f:=d c g
  unfold j1g at f
  rw [Bool.and_eq_true] at f
  have:=(j61 f.1).2
  rw [i] at this
  exact this
 have q:ks.length * 9<=8 * 9:=Nat.mul_le_mul_right _ (by omega)
 exact ⟨(j61 b.1).2,by omega,by omega⟩
theorem jts {d:D} (h:j1c d=true):msr yD d<=500:=by
 have e:∀ d:D,msr yD d=0+(d.2.1.size+(msr (.slice yC) d.2.2.1+(msr (.slice .str) d.2.2.2.1+(d.2.2.2.2.1.size+d.2.2.2.2.2.size)))):=λ_=>rfl
 have l:msr (.slice yC) ([]:List C)=0:=rfl
 have p:msr (.slice .str) ([]:List ByteArray)=0:=rfl
 have q:eS.size=0:=rfl
 rw [e]
 obtain ⟨ht,g⟩:=j7m h
 have ht:=(j61 ht).2
 rcases g with ⟨t,cs,ks,rfl,b⟩ | ⟨t,rfl⟩ | ⟨t,c,rfl,b⟩ | ⟨t,n,rfl,b⟩ | ⟨t,n,m,rfl,b,f⟩
 ·have:=jqs b
  dsimp only at *
  omega
 ·dsimp only at *
  omega
 ·have j:=j6J (e:=yC) 38 [c] λx i=>by rw [List.mem_singleton.1 i];exact jqq b
  have k:[c].length * (38+1)=39:=rfl
  dsimp only at *
  omega
 ·have:=(j61 b).2
  dsimp only at *
  omega
 ·have:=(j61 b).2
  have:=(j61 f).2
  dsimp only at *
  omega
theorem juh {s:ST} (h:stB s=true):msr yST s<=1100:=by
 have e:∀ s:ST,msr yST s=0+(s.2.1.size+(msr (.slice yV) s.2.2.1+(msr (.slice yV) s.2.2.2.1+msr yD s.2.2.2.2))):=λ_=>rfl
 have i:msr (.slice yV) ([]:List V)=0:=rfl
 have j:msr yD zD=0:=rfl
 rw [e]
 obtain ⟨ht,g⟩:=joy h
 have ht:=(j61 ht).2
 rcases g with ⟨t,r,rfl,b⟩ | ⟨t,q,r,rfl,b,f⟩ | ⟨t,q,rfl,b⟩ | ⟨t,rfl⟩ | ⟨d,rfl,b⟩
 ·have:=jfX b
  dsimp only at *
  omega
 ·have:=jfX b
  have:=jfX f
  dsimp only at *
  omega
 ·have:=jfX b
  dsimp only at *
  omega
 ·dsimp only at *
  omega
 ·have:=jts b
  dsimp only at *
  omega
end Go.PI.G
namespace Go.PI.G
open Go Go.PI
theorem job:(x:List UInt8)->Op.bytesLess x x=false
 | []=>rfl
 | a::x=>by simp [Op.bytesLess,job x]
theorem jpX:(x y z:List UInt8)->Op.bytesLess x y=true->Op.bytesLess y z=true->Op.bytesLess x z=true
 | _,_,[],_,h=>by simp [Op.bytesLess] at h
 | _,[],_::_,h,_=>by simp [Op.bytesLess] at h
 | [],_::_,_::_,_,_=>by simp [Op.bytesLess]
 | a::x,b::y,c::z,h,k=>by
  simp only [Op.bytesLess,Bool.or_eq_true,Bool.and_eq_true,decide_eq_true_eq,beq_iff_eq] at h k ⊢
  rcases h with h | ⟨rfl,h⟩
  ·rcases k with k | ⟨rfl,k⟩
   ·exact .inl (UInt8.lt_trans h k)
   ·exact .inl h
  ·rcases k with k | ⟨rfl,k⟩
   ·exact .inl k
   ·exact .inr ⟨rfl,jpX x y z h k⟩
theorem jpW:(x y:List UInt8)->x≠y->Op.bytesLess x y=true\/Op.bytesLess y x=true
 | [],[],h=>absurd rfl h
 | [],_::_,_=> .inl (by simp [Op.bytesLess])
 | _::_,[],_=> .inr (by simp [Op.bytesLess])
 | a::x,b::y,h=>by
  simp only [Op.bytesLess,Bool.or_eq_true,Bool.and_eq_true,decide_eq_true_eq,beq_iff_eq]
  by_cases f:a=b
  ·subst f
   rcases jpW x y (λe=>h (by rw [e])) with d | d
   ·exact .inl (.inr ⟨rfl,d⟩)
   ·exact .inr (.inr ⟨rfl,d⟩)
  ·rcases UInt8.lt_or_lt_of_ne f with d | d
   ·exact .inl (.inl d)
   ·exact .inr (.inl d)
theorem toList_inj {a b:ByteArray} (h:a.toList=b.toList):a=b:=(j0e a b).1 (by unfold sEq;rw [h];simp)
theorem jei (a:ByteArray):sLt a a=false:=job _
theorem jg1 {a b c:ByteArray} (h:sLt a b=true) (k:sLt b c=true):sLt a c=true:=jpX _ _ _ h k
theorem jjK {a b:ByteArray} (h:a≠b):sLt a b=true\/sLt b a=true:=jpW _ _ λe=>h (toList_inj e)
theorem jsR {a b:ByteArray} (h:sLt a b=true):a≠b:=λe=>by rw [e,jei] at h;cases h
theorem jsQ {a b:ByteArray} (h:sLt a b=true):sLt b a=false:=by
 cases d:sLt b a with
 | false=>rfl
 | true=>rw [<-jei a];exact (jg1 h d).symm
theorem jkd (a b:V):vlt a b=true↔j0u a=true/\j0u b=true/\(a.1<b.1\/(a.1=b.1/\(a.2.1<b.2.1\/(a.2.1=b.2.1/\sLt a.2.2 b.2.2=true)))):=by
 unfold vlt
 simp only [Bool.and_eq_true]
 refine and_congr_right λ_=>and_congr_right λ_=> ?_
 by_cases d:a.1=b.1
 ·rw [d,ZaO,cond_false]
  by_cases f:a.2.1=b.2.1
  ·rw [f,ZaO,cond_false]
   simp
  ·rw [show (a.2.1 != b.2.1)=true by simp [f],cond_true]
   simp [f]
 ·rw [show (a.1 != b.1)=true by simp [d],cond_true]
  simp [d]
theorem jsh (a:V):vlt a a=false:=by
 cases h:vlt a a with
 | false=>rfl
 | true=>
  have:=(jkd a a).1 h
  rw [jei] at this
  rcases this.2.2 with h | ⟨_,h | ⟨_,h⟩⟩
  ·omega
  ·omega
  ·cases h
theorem jt2 {a b c:V} (h:vlt a b=true) (k:vlt b c=true):vlt a c=true:=by
 rw [jkd] at h k ⊢
 obtain ⟨g,_,h⟩:=h
 obtain ⟨_,i,k⟩:=k
 refine ⟨g,i,?_⟩
 rcases h with h | ⟨j,h⟩
 ·rcases k with k | ⟨d,k⟩
  ·exact .inl (by omega)
  ·exact .inl (by omega)
 ·rcases k with k | ⟨d,k⟩
  ·exact .inl (by omega)
  ·refine .inr ⟨by omega,?_⟩
   rcases h with h | ⟨l,h⟩
   ·rcases k with k | ⟨f,k⟩
    ·exact .inl (by omega)
    ·exact .inl (by omega)
   ·rcases k with k | ⟨f,k⟩
    ·exact .inl (by omega)
    ·exact .inr ⟨by omega,jg1 h k⟩
theorem jt1 {a b:V} (d:j0u a=true) (f:j0u b=true) (h:a≠b):vlt a b=true\/vlt b a=true:=by
 rw [jkd,jkd]
 by_cases g:a.1=b.1
 ·by_cases j:a.2.1=b.2.1
  ·have i:a.2.2≠b.2.2:=λe=>h (Prod.ext g (Prod.ext j e))
   rcases jjK i with k | k
   ·exact .inl ⟨d,f,.inr ⟨g,.inr ⟨j,k⟩⟩⟩
   ·exact .inr ⟨f,d,.inr ⟨g.symm,.inr ⟨j.symm,k⟩⟩⟩
  ·by_cases i:a.2.1<b.2.1
   ·exact .inl ⟨d,f,.inr ⟨g,.inl i⟩⟩
   ·exact .inr ⟨f,d,.inr ⟨g.symm,.inl (by omega)⟩⟩
 ·by_cases i:a.1<b.1
  ·exact .inl ⟨d,f,.inl i⟩
  ·exact .inr ⟨f,d,.inl (by omega)⟩
theorem jqZ (a:V):veq a a=true:=(jhE a a).2 rfl
theorem jsg {a b:V} (h:a≠b):veq a b=false:=by
 cases d:veq a b with
 | false=>rfl
 | true=>exact absurd ((jhE a b).1 d) h
theorem ji0:(a:List V)->klt a a=false
 | []=>rfl
 | x::a=>by show (bif veq x x then klt a a else vlt x x)=false;rw [jqZ,cond_true];exact ji0 a
theorem jfW:(a b c:List V)->klt a b=true->klt b c=true->klt a c=true
 | _,[],_,h,k=>by
  rename_i a c
  cases a<;>cases h
 | _,_::_,[],h,k=>by cases k
 | [],_::_,_::_,h,k=>rfl
 | x::a,y::b,z::c,h,k=>by
  change (bif veq x y then klt a b else vlt x y)=true at h
  change (bif veq y z then klt b c else vlt y z)=true at k
  show (bif veq x z then klt a c else vlt x z)=true
  cases f:veq x y
  ·rw [f,cond_false] at h
   cases d:veq y z
   ·rw [d,cond_false] at k
    have g:=jt2 h k
    rw [jsg λe=>by rw [e,jsh] at g;cases g]
    exact g
   ·have e:=(jhE y z).1 d
    subst e
    rw [f];exact h
  ·have e:=(jhE x y).1 f
   subst e
   rw [f,cond_true] at h
   cases d:veq x z
   ·rw [d,cond_false] at k;exact k
   ·rw [d,cond_true] at k
    rw [cond_true]
    exact jfW a b c h k
theorem jol:(a b:List V)->(∀ v∈a,j0u v=true)->(∀ v∈b,j0u v=true)->a≠b->klt a b=true\/klt b a=true
 | [],[],_,_,h=>absurd rfl h
 | [],_::_,_,_,_=> .inl rfl
 | _::_,[],_,_,_=> .inr rfl
 | x::a,y::b,g,i,h=>by
  show (bif veq x y then klt a b else vlt x y)=true\/(bif veq y x then klt b a else vlt y x)=true
  by_cases d:x=y
  ·subst d
   rw [jqZ,cond_true,cond_true]
   exact jol a b (λv f=>g v (List.mem_cons_of_mem _ f)) (λv f=>i v (List.mem_cons_of_mem _ f)) λe=>h (by rw [e])
  ·rw [jsg d,jsg (Ne.symm d),cond_false,cond_false]
   exact jt1 (g x (by simp)) (i y (by simp)) d
theorem jsF {a b:List V} (h:klt a b=true):a≠b:=λe=>by rw [e,ji0] at h;cases h
theorem jsE {a b:List V} (h:klt a b=true):klt b a=false:=by
 cases d:klt b a with
 | false=>rfl
 | true=>rw [<-ji0 a];exact (jfW a b a h d).symm
theorem jay {α:Type} {f:Nat->α->Bool}:(l:List α)->(i:Nat)->(Z71 f i l=false↔∀ (j:Nat) (h:j<l.length),f (i+j) l[j]=false)
 | [],_=>⟨λ_ j h=>by simp at h,λ_=>rfl⟩
 | x::l,i=>by
  refine ⟨jeb (x::l) i,λh=> ?_⟩
  simp only [Z71,Bool.or_eq_false_iff]
  refine ⟨h 0 (by simp),(jay l (i+1)).2 λj b=> ?_⟩
  have:=h (j+1) (by simpa using b)
  rw [show i+1+j=i+(j+1) by omega]
  simpa using this
theorem jsY {α:Type} (z:α) (R:α->α->Bool) (r:∀ a b c,R a b=true->R b c=true->R a c=true) (l:List α) :
  (∀ (j:Nat) (h:j<l.length),(decide (0<j)&& !R (nth z l ((j:Int)-1)) l[j])=false)↔l.Pairwise λa b=>R a b=true:=by
 rw [List.pairwise_iff_getElem]
 constructor
 ·intro h i j f g p
  have step:∀ (d i:Nat) (f:i+d+1<l.length),R l[i] l[i+d+1]=true:=by
   intro d
   induction d with
   | zero=>
    intro i f
    have:=h (i+1) (by omega)
    rw [show ((i+1:Nat):Int)-1=(i:Int) by omega,Zay _ _ _ (by omega)] at this
    simpa using this
   | succ d q=>
    intro i f
    have m:=q i (by omega)
    have:=h (i+d+2) (by omega)
    rw [show ((i+d+2:Nat):Int)-1=((i+d+1:Nat):Int) by omega,Zay _ _ _ (by omega)] at this
    have n:R l[i+d+1] l[i+d+2]=true:=by simpa using this
    exact r _ _ _ m n
  have:=step (j-i-1) i (by omega)
  have e:i+(j-i-1)+1=j:=by omega
  simp only [e] at this
  exact this
 ·intro h j g
  by_cases k:0<j
  ·have e:((j:Int)-1)=((j-1:Nat):Int):=by omega
   rw [e,Zay _ _ _ (by omega),h (j-1) j (by omega) g (by omega)]
   simp
  ·rw [decide_eq_false k];rfl
theorem j0h (c:List T):j2z c=true↔c.length<=6/\(∀ t∈c,j04 t=true)/\c.Pairwise λa b=>sLt a.1 b.1=true:=by
 unfold j2z
 rw [Bool.and_eq_true,decide_eq_true_eq,Bool.not_eq_true',jay]
 refine and_congr_right λ_=> ?_
 rw [<-jsY zT (λa b:T=>sLt a.1 b.1) (λa b c=>jg1)]
 constructor
 ·intro h
  refine ⟨λt ht=> ?_,λj d=> ?_⟩
  ·obtain ⟨j,d,rfl⟩:=List.getElem_of_mem ht
   have:=h j d
   simp only [Bool.or_eq_false_iff,Bool.not_eq_false'] at this
   exact this.1
  ·have:=h j d
   rw [Nat.zero_add] at this
   rw [Bool.or_eq_false_iff] at this
   exact this.2
 ·rintro ⟨f,g⟩ j d
  rw [Nat.zero_add,f _ (List.getElem_mem d)]
  exact g j d
theorem j7g (t:T) (l:List (List V)):j0a t l=true↔j04 t=true/\l.length<=60/\(∀ r∈l,j0z t.2.1 r=true)/\l.Pairwise λa b=>klt (j08 t a) (j08 t b)=true:=by
 unfold j0a
 rw [Bool.and_eq_true,Bool.and_eq_true,decide_eq_true_eq,Bool.not_eq_true',jay]
 refine and_congr_right λ_=>and_congr_right λ_=> ?_
 rw [<-jsY [] (λa b:List V=>klt (j08 t a) (j08 t b)) (λa b c=>jfW _ _ _)]
 constructor
 ·intro h
  refine ⟨λr i=> ?_,λj d=> ?_⟩
  ·obtain ⟨j,d,rfl⟩:=List.getElem_of_mem i
   have:=h j d
   simp only [Bool.or_eq_false_iff,Bool.not_eq_false'] at this
   exact this.1
  ·have:=h j d
   rw [Nat.zero_add] at this
   rw [Bool.or_eq_false_iff] at this
   exact this.2
 ·rintro ⟨f,g⟩ j d
  rw [Nat.zero_add,f _ (List.getElem_mem d)]
  exact g j d
theorem j2c (d:DB):dbB d=true↔j2z d.1=true/\d.2.length=d.1.length/\∀ (i:Nat) (h:i<d.1.length) (j:i<d.2.length),j0a d.1[i] d.2[i]=true:=by
 unfold dbB
 rw [Bool.and_eq_true,Bool.and_eq_true,decide_eq_true_eq,Bool.not_eq_true',jay]
 refine and_congr_right λ_=>and_congr_right λg=> ?_
 constructor
 ·intro h i b f
  have:=h i b
  rw [Nat.zero_add,Zay _ _ _ f,Bool.not_eq_false'] at this
  exact this
 ·intro h i b
  rw [Nat.zero_add,Zay _ _ _ (g ▸ b),h i b (g ▸ b)]
  rfl
theorem jjo {α:Type} {p:α->Bool} {l:List α} {i:Nat} (g:i<l.length) (d:p l[i]=true) (f:∀ (j:Nat) (b:j<i),p (l[j]'(by omega))=false):Z9F p l=(i:Int):=by
 unfold Z9F
 have:l.findIdx? p=some i:=List.findIdx?_eq_some_iff_getElem.2 ⟨g,d,λj b=>by rw [f j b];decide⟩
 rw [this]
theorem jsy {α:Type} {p:α->Bool} {l:List α} (h:∀ x∈l,p x=false):Z9F p l= -1:=by
 unfold Z9F
 have:l.findIdx? p=none:=List.findIdx?_eq_none_iff.2 h
 rw [this]
theorem jbh {α:Type} (p:α->Bool) (l:List α):(Z9F p l= -1/\∀ x∈l,p x=false)\/∃ (i:Nat) (b:i<l.length),Z9F p l=(i:Int)/\p l[i]=true/\∀ (j:Nat) (d:j<i),p (l[j]'(by omega))=false:=by
 unfold Z9F
 cases h:l.findIdx? p with
 | none=>exact .inl ⟨rfl,List.findIdx?_eq_none_iff.1 h⟩
 | some i=>
  obtain ⟨b,f,g⟩:=List.findIdx?_eq_some_iff_getElem.1 h
  exact .inr ⟨i,b,rfl,f,λj d=>by simpa using g j d⟩
theorem jrC {α:Type} {p:α->Bool} {l:List α} {i:Nat} (d:i<l.length) (b:p l[i]=true) (g:∀ (j:Nat) (f:j<l.length),p l[j]=true->j=i):Z9F p l=(i:Int):=
 jjo d b λj f=>by
  cases h:p (l[j]'(by omega)) with
  | false=>rfl
  | true=>exact absurd (g j (by omega) h) (by omega)
end Go.PI.G
