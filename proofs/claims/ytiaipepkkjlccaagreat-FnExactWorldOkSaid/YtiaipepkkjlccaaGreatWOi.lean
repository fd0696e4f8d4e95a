/-
  Program's code interpreted over typed values; printed texts; plain laws. No conditions.
-/
import Derived.Test.YtiaipepkkjlccaaGreatPc
import Derived.Test.YtiaipepkkjlccaaGreatWOd
import Derived.Test.YtiaipepkkjlccaaGreatWOe
import Derived.Test.YtiaipepkkjlccaaGreatWOf
import Derived.Test.YtiaipepkkjlccaaGreatWOg
set_option linter.unusedVariables false
namespace Go.PI.G
open Go Go.PI
abbrev V:=Int×Int×ByteArray
theorem jbK (s:ByteArray):(Z1m s).length=s.size:=by unfold Z1m;simp
theorem j09 (a b:ByteArray):sEq a b=true↔a=b:=by
 unfold sEq;rw[QG];constructor
 ·intro h;rw[ByteArray.ext_iff];have d:a.toList=a.data.toList:=by rw[ByteArray.toList_eq]
  have f:b.toList=b.data.toList:=by rw[ByteArray.toList_eq]
  rw[d,f]at h;exact Array.toList_inj.1 h
 ·rintro rfl;rfl
def jpf (n:Int):Bool:=decide (-1099511627775<=n/\n<=1099511627775)
def j0n (v:V):Bool:=
 bif v.1==0 then (v.2.1==0)&&sEq v.2.2 eS
 else bif v.1==1 then ((v.2.1==0)||(v.2.1==1))&&sEq v.2.2 eS
 else bif v.1==2 then jpf v.2.1&&sEq v.2.2 eS
 else bif v.1==3 then (v.2.1==0)&&decide (nI v.2.2.size<=30)
 else false
theorem jrU (x:Int):decide (0<=x/\x<=1)=((x==0)||(x==1)):=by
 by_cases h:0<=x/\x<=1
 ·rw[Q3 h];have:x=0\/x=1:=by omega
  rcases this with rfl | rfl<;>rfl
 ·rw[Q2 h];have b:(x==0)=false:=by simp;omega
  have d:(x==1)=false:=by simp;omega
  rw[b,d];rfl
theorem jgF {v:V}(h:j0n v=true):v=(0,0,eS)\/(∃n,(n=0\/n=1)/\v=(1,n,eS))\/(∃n,(-1099511627775<=n/\n<=1099511627775)/\v=(2,n,eS))\/∃s:ByteArray,s.size<=30/\v=(3,0,s):=by
 obtain⟨t,n,s⟩:=v;unfold j0n at h;simp only at h;cases d:t==0
 ·cases f:t==1
  ·cases g:t==2
   ·cases i:t==3
    ·rw[d,f,g,i]at h;cases h
    ·rw[d,f,g,i]at h;simp only[Q0,Q1,Q6,QG,Ql]at h i;obtain⟨rfl,h⟩:=h;subst i;exact .inr (.inr (.inr ⟨s,by unfold nI at h;omega,rfl⟩))
   ·rw[d,f,g]at h;simp only[Q0,Q1,Q6,QG]at h g;obtain⟨h,b⟩:=h;rw[j09]at b;subst b;subst g;exact .inr (.inr (.inl ⟨n,QT h,rfl⟩))
  ·rw[d,f]at h;simp only[Q0,Q1,Q6,Xq,QG]at h f;obtain⟨h,b⟩:=h;rw[j09]at b;subst b;subst f;exact .inr (.inl ⟨n,h,rfl⟩)
 ·rw[d]at h;simp only[Q1,Q6,QG]at h d;obtain⟨h,b⟩:=h;rw[j09]at b;subst b;subst d;subst h;exact .inl rfl
theorem jsj {v:V}(h:j0n v=true):v.2.2.size<=30:=by
 rcases jgF h with rfl | ⟨n,_,rfl⟩ | ⟨n,_,rfl⟩ | ⟨s,b,rfl⟩
 ·show (0:Nat)<=30;omega
 ·show (0:Nat)<=30;omega
 ·show (0:Nat)<=30;omega
 ·exact b
def be (n:Nat):Nat->List Int
 | 0=>[]
 |s+1=>((n / 256 ^ s % 256:Nat):Int)::be n s
theorem jrq (n:Nat):(s:Nat)->(be n s).length=s
 | 0=>rfl
 |s+1=>by simp[be,jrq n s]
noncomputable def wB (v:V):List Int:=
 bif v.1==1 then [1,v.2.1]
 else bif v.1==2 then 2::(bif decide (v.2.1<0) then 1 else 0)::be v.2.1.natAbs 6
 else bif v.1==3 then 3::nI v.2.2.size::Z1m v.2.2
 else [0]
theorem jtS {v:V}(h:j0n v=true):(wB v).length<=32:=by
 rcases jgF h with rfl | ⟨n,_,rfl⟩ | ⟨n,_,rfl⟩ | ⟨s,b,rfl⟩
 ·show (1:Nat)<=32;omega
 ·show (2:Nat)<=32;omega
 ·show (2::(bif decide (n<0) then 1 else 0)::be n.natAbs 6).length<=32
  simp[jrq]
 ·show (3::nI s.size::Z1m s).length<=32
  simp[jbK];omega
theorem jaY:(l:List V)->(∀v∈l,j0n v=true)->(l.flatMap wB).length<=32 * l.length
 | [],_=>by simp
 |v::l,h=>by
  have d:=jtS (h v (by simp))
  have f:=jaY l λv b=>h v (Qa _ b)
  simp only[QH,Q5,Q8];omega
end Go.PI.G
set_option linter.unusedSimpArgs false
namespace Go.PI.G
open Go Go.PI Go.Proofs
theorem j4P (x b d:Int)(k:Bool->Res):j0a x b d k=k (decide (b<=x/\x<=d)):=by
 unfold j0a;by_cases h:x>=b
 ·rw[Q3 h,Q1];congr 1;exact Xt.2 (by omega)
 ·rw[Q2 h,Q0];congr 1;exact(Q2 (by omega)).symm
end Go.PI.G
namespace Go.PI.G
open Go Go.PI Go.Proofs
theorem jrO (n:Int)(k:Bool->Res):jfd n k=k (jpf n):=j4P n _ _ k
theorem j7W (v:V)(k:Bool->Res):j1a v k=k (j0n v):=by
 unfold j1a j0n;cases v.1==0
 ·cases v.1==1
  ·cases v.1==2
   ·cases v.1==3
    ·rfl
    ·cases v.2.1==0<;>rfl
   ·rw[Q0,Q0,Q1,jrO];cases jpf v.2.1<;>rfl
  ·cases v.2.1==0
   ·cases v.2.1==1<;>rfl
   ·rfl
 ·cases v.2.1==0<;>rfl
theorem j7G (v:V)(k:Bool->Res):j0V v k=k (j0n v):=by
 unfold j0V j0n;simp only[j4P,jrU];cases v.1==0
 ·cases v.1==1
  ·cases v.1==2
   ·cases v.1==3
    ·rfl
    ·cases v.2.1==0<;>rfl
   ·rw[Q0,Q0,Q1,Q0,Q0,Q1];show (bif jpf v.2.1 then _ else _)=_
    cases jpf v.2.1<;>rfl
  ·cases v.2.1==0
   ·cases v.2.1==1<;>rfl
   ·rfl
 ·cases v.2.1==0<;>rfl
end Go.PI.G
namespace Go.PI.G
noncomputable section
open Go Go.PI
def msr:(τ:Ty)->El τ->Nat
 |.str,s=>ByteArray.size s
 |.slice e,l=>List.length (α:=El e) l+(List.map (msr e) l).sum
 |.pair a b,x=>msr a x.1+msr b x.2
 |.int _,_=>0
 |.bool,_=>0
 |.unit,_=>0
def wgt:(τ:Ty)->El τ->Nat
 |.str,_=>1
 |.slice e,l=>(List.map (wgt e) l).sum
 |.pair a b,x=>wgt a x.1+wgt b x.2
 |.int _,_=>1
 |.bool,_=>1
 |.unit,_=>0
theorem j0x {a b:Ty}{x:El (.pair a b)}:msr a x.1<=msr (.pair a b) x:=Nat.le_add_right _ _
theorem j03 {a b:Ty}{x:El (.pair a b)}:msr b x.2<=msr (.pair a b) x:=Nat.le_add_left _ _
def dgt (x:Int):ByteArray:=Z3A [wu8 (Z9J (48+x))]
def jtO (n:Nat):ByteArray:=if h:n<10 then dgt n else jtO (n / 10)++dgt ((n % 10:Nat):Int)
termination_by n
decreasing_by omega
def mT (k:Int):ByteArray:=(⟨#[109]⟩:ByteArray)++jtO k.toNat
def mk:(τ:Ty)->El τ->Int->El τ
 |.str,_,k=>mT k
 |.slice e,l,k=>mkL (wgt e) (mk e) l k
 |.pair a b,x,k=>(mk a x.1 k,mk b x.2 (k+(wgt a x.1:Int)))
 |.int .u8,_,k=>wu8 k
 |.int _,_,k=>k
 |.bool,_,k=>(Int.tmod k 3==0)
 |.unit,x,_=>x
theorem jen (e:Ty)(l:List (El e)):msr (.slice e) l=l.length+(l.map (msr e)).sum:=rfl
theorem j0d {e:Ty}{l:List (El e)}{n:Nat}(h:msr (.slice e) l<=n):l.length<=n:=by
 have:msr (.slice e) l=l.length+(l.map (msr e)).sum:=rfl;omega
theorem j0y {e:Ty}{l:List (El e)}{n:Nat}(h:msr (.slice e) l<=n){x:El e}(b:x∈l):msr e x<=n:=by
 have d:msr (.slice e) l=l.length+(l.map (msr e)).sum:=rfl;have:=Z9G (msr e) l x b;omega
end
end Go.PI.G
namespace Go.PI.G
open Go Go.PI
theorem jt6 {left:Int}(h:0<=left):szR left 0=left:=by unfold szR;rw[QM (by omega)];omega
theorem j8G {left:Int}{n rest:Nat}{F:Int->Res}{k:Int->Res}(f:0<=left)(g:left<=1048576)(d:n<=maxLen)(b:(n:Int)<=left->F (left-n)=k (szR (left-n) rest)) :
  (bif decide (Z9J (left-nI n)<0) then k (-1) else F (Z9J (left-nI n)))=k (szR left (n+rest)):=by
 unfold maxLen at d;rw[ZaG (by unfold nI;omega) (by unfold nI;omega)]
 unfold nI;by_cases h:(n:Int)<=left
 ·rw[Za3 (by omega),Q0,b h,Zaj h]
 ·rw[Za4 (by omega),Q1,Zak h]
theorem j2h {left:Int}{k:Int->Res}(b:0<=left):k left=k (szR left 0):=by rw[jt6 b]
theorem j00 {i n:Nat}(h:i<n):inb (i:Int) n=true:=ZaJ (by omega) (by omega)
theorem j01 {n:Int}(h: -9223372036854775808<=n/\n<9223372036854775808):Z9J n=n:=ZaG h.1 h.2
end Go.PI.G
namespace Go.PI.G
noncomputable section
open Go Go.PI
abbrev C:=ByteArray×Int×Bool×Bool×V
abbrev T:=ByteArray×List C×List ByteArray
abbrev DB:=List T×List (List (List V))
abbrev yV:Ty:= .pair (.int .i64) (.pair (.int .i64) .str)
abbrev yC:Ty:= .pair .str (.pair (.int .i64) (.pair .bool (.pair .bool yV)))
abbrev yT:Ty:= .pair .str (.pair (.slice yC) (.slice .str))
abbrev yDB:Ty:= .pair (.slice yT) (.slice (.slice (.slice yV)))
abbrev zV:V:=(0,0,eS)
abbrev zC:C:=(eS,0,false,false,0,0,eS)
abbrev zT:T:=(eS,[],[])
theorem jcG {α:Type}(p:α->Bool)(l:List α): -1<=Z9E p l/\Z9E p l<(l.length:Int):=by
 unfold Z9E;cases h:l.findIdx? p with
 |none=>simp only[];omega
 |some i=>
  have:=(List.findIdx?_eq_some_iff_findIdx_eq.1 h).1;simp only[];omega
theorem jcF {α:Type}{f:Nat->α->Bool}:(l:List α)->(i:Nat)->Z70 f i l=false->∀(j:Nat) (h:j<l.length),f (i+j) l[j]=false
 | [],_,_,j,h=>by simp at h
 |x::l,i,h,j,b=>by
  simp only[Z70,Xb]at h;cases j with
  |zero=>simpa using h.1
  |succ j=>
   have:=jcF l (i+1) h.2 j (by simpa using b)
   rw[show i+(j+1)=i+1+j by omega]
   simpa using this
def j0h (s:ByteArray):Bool:= !((Z1m s).any λb=>decide (b<97)||decide (b>122))&&(decide (1<=s.size)&&decide (s.size<=8))
def veq (a b:V):Bool:=(a.1==b.1)&&((a.2.1==b.2.1)&&sEq a.2.2 b.2.2)
theorem jg8 (a b:V):veq a b=true↔a=b:=by
 obtain⟨d,f,g⟩:=a;obtain⟨h,i,j⟩:=b;unfold veq;simp only[Q6,QG,j09,Qs]
def vlt (a b:V):Bool:=j0n a&&(j0n b&&(bif a.1 != b.1 then decide (a.1<b.1) else bif a.2.1 != b.2.1 then decide (a.2.1<b.2.1) else sLt a.2.2 b.2.2))
def jiP (v:V):Bool:=(v.1==0)&&((v.2.1==0)&&sEq v.2.2 eS)
def j0S (c:C):Bool:=j0h c.1&&(decide (1<=c.2.1/\c.2.1<=3)&&(j0n c.2.2.2.2&&(bif c.2.2.2.1 then (c.2.2.2.2.1==c.2.1)||((c.2.2.2.2.1==0)&& !c.2.2.1) else jiP c.2.2.2.2)))
def j02 (l:List C)(n:ByteArray):Int:=Z9E (λc=>sEq c.1 n) l
theorem j8r (l:List C)(n:ByteArray): -1<=j02 l n/\j02 l n<(l.length:Int):=jcG _ _
theorem jsi:j0n (0,0,eS)=true:=by
 show (((0:Int)==0)&&sEq eS eS)=true
 rw[Zag];rfl
theorem jqX:jiP (0,0,eS)=true:=by
 show (((0:Int)==0)&&(((0:Int)==0)&&sEq eS eS))=true
 rw[Zag];rfl
def j13 (l:List C):Int->List ByteArray->Bool
 |_,[]=>true
 |b,k::ks=> !decide (j02 l k<=b)&&((nth zC l (j02 l k)).2.2.1&&j13 l (j02 l k) ks)
def j4m (l:List C):Bool:= !Z70 (λi c=> !j0S c||(j02 l c.1 != (i:Int))) 0 l
def j04 (t:T):Bool:=(j0h t.1&&(decide (1<=t.2.1.length)&&(decide (t.2.1.length<=8)&&decide (1<=t.2.2.length))))&&(j4m t.2.1&&j13 t.2.1 (-1) t.2.2)
def j05 (l:List T)(n:ByteArray):Int:=Z9E (λt=>sEq t.1 n) l
def j1T (c:List T):Bool:=decide (c.length<=6)&& !Z70 (λi t=> !j04 t||(decide (0<i)&&sGe (nth zT c ((i:Int)-1)).1 t.1)) 0 c
def j3n (c:C)(v:V):Bool:=j0n v&&((v.1==c.2.1)||((v.1==0)&& !c.2.2.1))
def j0m (l:List C)(r:List V):Bool:=decide (r.length=l.length)&& !Z70 (λi c=> !j3n c (nth zV r (i:Int))) 0 l
def j06 (t:T)(r:List V):List V:=t.2.2.map λk=>nth zV r (j02 t.2.1 k)
def klt:List V->List V->Bool
 | [],[]=>false
 | [],_::_=>true
 |_::_,[]=>false
 |x::xs,y::ys=>bif veq x y then klt xs ys else vlt x y
def j08 (t:T)(l:List (List V)):Bool:=j04 t&&(decide (l.length<=60)&& !Z70 (λi r=> !j0m t.2.1 r||(decide (0<i)&& !klt (j06 t (nth [] l ((i:Int)-1))) (j06 t r))) 0 l)
def dbB (d:DB):Bool:=j1T d.1&&(decide (d.2.length=d.1.length)&& !Z70 (λi t=> !j08 t (nth [] d.2 (i:Int))) 0 d.1)
theorem j1z {t:T}(h:j04 t=true):j0h t.1=true/\1<=t.2.1.length/\t.2.1.length<=8/\1<=t.2.2.length/\j4m t.2.1=true/\j13 t.2.1 (-1) t.2.2=true:=by
 unfold j04 at h;simp only[Q6,Ql]at h;exact⟨h.1.1,h.1.2.1,h.1.2.2.1,h.1.2.2.2,h.2.1,h.2.2⟩
theorem j14 {l:List C}:(ks:List ByteArray)->(b:Int)-> -1<=b->j13 l b ks=true->∀k∈ks,0<=j02 l k/\j02 l k<(l.length:Int)
 | [],_,_,_,k,d=>by cases d
 |q::ks,b,i,h,k,d=>by
  simp only[j13,Q6,QF,Xk]at h;have f:=(jcG (λc:C=>sEq c.1 q) l).2
  have g:0<=j02 l q:=by omega
  rcases Qp.1 d with rfl | d
  ·exact⟨g,f⟩
  ·exact j14 ks (j02 l q) (by omega) h.2.2 k d
theorem jtu {c:C}(h:j0S c=true):1<=c.2.1/\c.2.1<=3:=by
 unfold j0S at h;simp only[Q6,Ql]at h;exact h.2.1
theorem jmP {l:List C}(h:j4m l=true)(i:Nat)(b:i<l.length):j0S l[i]=true:=by
 unfold j4m at h;have:=jcF l 0 (by simpa using h) i b
 simp only[Xb,Xa]at this;exact this.1
end
end Go.PI.G
namespace Go.PI.G
open Go Go.PI Go.Proofs
theorem jrr (s:ByteArray)(i:Nat)(h:i<(Z1m s).length):bt s (i:Int)=(Z1m s)[i]:=by
 have g:=jbK s;have d:i<s.data.size:=by
  have:i<s.size:=by omega
  exact this
 have f:(Z1m s)[i]=((s.data.toList.map λb:UInt8=>(b.toNat:Int))[i]'(by simpa using d)):=rfl
 rw[f,Xn];unfold bt;simp[Xp d]
theorem jtf (s:ByteArray)(x:Bool)(k:Bool->Res):(bif x then k false else (bif decide ((nI (ByteArray.size s))>=1) then k (decide ((nI (ByteArray.size s))<=8)) else k false))=k (!x&&(decide (1<=s.size)&&decide (s.size<=8))):=by
 cases x
 ·unfold nI;by_cases b:1<=s.size
  ·rw[Q0,Q3 (show (s.size:Int)>=1 by omega),Q1,Q3 b]
   congr 1;by_cases d:s.size<=8
   ·rw[Q3 (show (s.size:Int)<=8 by omega),Q3 d];rfl
   ·rw[Q2 (show ¬ (s.size:Int)<=8 by omega),Q2 d];rfl
  ·rw[Q0,Q2 (show ¬ (s.size:Int)>=1 by omega),Q0,Q2 b];rfl
 ·rfl
theorem j39 (s:ByteArray)(h:s.size<=LIM)(k:Bool->Res):j0t s k=k (j0h s):=by
 unfold j0t jg2;have g:=jbK s;have:=Za1 (Z1m s) (λi=>i) (λb=>decide (b<97)||decide (b>122)) (step:=j9h s) ((λ(_:Unit)=>bif decide ((nI (ByteArray.size s))>=1) then k (decide ((nI (ByteArray.size s))<=8)) else k false),(λ(_:Unit)=>k false)) (bif decide ((nI (ByteArray.size s))>=1) then k (decide ((nI (ByteArray.size s))<=8)) else k false) (k false) (by omega) (λi rec f=>by
  show j3R s _ _ _ _=_
  unfold j3R;unfold LIM at h;have d:i<s.size:=by omega
  rw[ZaP d,Q1,j00 d,Q1,Q1,jrr s i f,j01 (n:=(i:Int)+1) (by omega)]
  cases decide ((Z1m s)[i]<97)
  ·cases decide ((Z1m s)[i]>122)<;>rfl
  ·rfl) (λrec=>by
  show j3R s _ _ _ _=_
  unfold j3R;rw[g,ZaO,Q0])
 refine this.trans ?_;exact jtf s _ k
theorem j37 (s:ByteArray)(h:s.size<=LIM)(k:Bool->Res):j0l s k=k (j0h s):=by
 unfold j0l jb2;have j:=jbK s;have:=Za1 (Z1m s) (λi=>i) (λb=>decide (b<97)||decide (b>122)) (step:=j62 s) ((λ(_:Unit)=>j0a (nI (ByteArray.size s)) 1 8 λ(r:Bool)=>k r),(λ(_:Unit)=>k false)) (j0a (nI (ByteArray.size s)) 1 8 λ(r:Bool)=>k r) (k false) (by omega) (λi rec g=>by
  show j3s s _ _ _ _=_
  unfold j3s;unfold LIM at h;have d:i<s.size:=by omega
  rw[ZaP d,Q1,j00 d,Q1,Q1,jrr s i g,j01 (n:=(i:Int)+1) (by omega)]
  cases decide ((Z1m s)[i]<97)
  ·cases decide ((Z1m s)[i]>122)<;>rfl
  ·rfl) (λrec=>by
  show j3s s _ _ _ _=_
  unfold j3s;rw[j,ZaO,Q0])
 refine this.trans ?_;rw[j4P];have f:decide (1<=nI s.size/\nI s.size<=8)=(decide (1<=s.size)&&decide (s.size<=8)):=by
  rw[<-Bool.decide_and];exact Xt.2 (by unfold nI;omega)
 rw[f];unfold j0h;cases (Z1m s).any λb=>decide (b<97)||decide (b>122)<;>rfl
end Go.PI.G
namespace Go.PI.G
open Go Go.PI Go.Proofs
theorem jlo (c:C)(h:c.1.size<=LIM)(k:Bool->Res):j4F c k=k (j0S c):=by
 obtain⟨n,ty,w,r,d⟩:=c;unfold j4F j0S;dsimp only at h ⊢;rw[j39 n h,j7W];cases j0h n
 ·rfl
 ·rw[Q4,Q0,Qd];by_cases p:1<=ty/\ty<=3
  ·rw[Q2 (show ¬ ty<1 by omega),Q0,Q2 (show ¬ ty>3 by omega),Q0,Q3 p,Qd]
   cases r
   ·rw[QQ,Q1,Q0];have:j0n d=false->jiP d=false:=λj=>by
     cases i:jiP d with
     |false=>rfl
     |true=>
      unfold jiP at i;simp only[Q6,QG,j09]at i;have:d=(0,0,eS):=by
       obtain⟨a,b,c⟩:=d;simp only at i;rw[i.1,i.2.1,i.2.2]
      rw[this,jsi]at j;cases j
    cases j:j0n d
    ·rw[QW];exact Xv k (this j)
    ·rfl
   ·rw[Q4,Q0,Q1];cases j:j0n d
    ·rfl
    ·rw[Q1,Qd];have g:(d.1==0)=true->((d.1==0)&&((d.2.1==0)&&sEq d.2.2 eS))=true:=λf=>by
      rcases jgF j with rfl | ⟨m,_,rfl⟩ | ⟨m,_,rfl⟩ | ⟨m,_,rfl⟩
      ·exact jqX
      ·cases f
      ·cases f
      ·cases f
     cases f:d.1==0
     ·rw[QW,Q0];cases d.1==ty<;>rfl
     ·have:=g f;rw[f]at this;rw[this,Q1,Q1];have l:(d.1==ty)=false:=by
       simp only[QG]at f;rw[f];simp;omega
      rw[l,XY,Qd]
  ·rw[Q2 p];by_cases q:ty<1
   ·rw[Q3 q];rfl
   ·rw[Q2 q,Q0,Q3 (show ty>3 by omega)];rfl
theorem jkz (c:C)(h:c.1.size<=LIM)(k:Bool->Res):j4p c k=k (j0S c):=by
 obtain⟨n,ty,f,d,b⟩:=c;unfold j4p j0S;dsimp only at h ⊢;rw[j37 n h,j4P,j7G];cases j0h n
 ·rfl
 ·cases decide (1<=ty/\ty<=3)
  ·rfl
  ·cases j0n b
   ·rfl
   ·cases d
    ·rfl
    ·cases b.1==ty
     ·cases b.1==0<;>rfl
     ·rfl
theorem j5Y (t:T)(n:ByteArray)(h:t.2.1.length<=LIM)(k:Int->Res):j0E t n k=k (j02 t.2.1 n):=by
 unfold j0E jhq;refine Z9R t.2.1 (λi=>i) (λc=>sEq c.1 n) (step:=jap n t.2.1 (nI t.2.1.length)) _ k h (λi rec b=> ?_) (λrec=> ?_)
 ·show j4E n _ _ _ _ _ _=_
  unfold j4E;unfold LIM at h;rw[ZaP b,Q1,j00 b,Q1,Zax _ _ _ b,j01 (n:=(i:Int)+1) (by omega)]
 ·show j4E n _ _ _ _ _ _=_
  unfold j4E;rw[ZaO,Q0]
theorem j77 (t:T)(n:ByteArray)(h:t.2.1.length<=LIM)(k:Int->Res):j0g t n k=k (j02 t.2.1 n):=by
 unfold j0g j66 j82;refine Z9R t.2.1 (λi=>i) (λc=>sEq c.1 n) (step:=j34 t.2.1 n (nI t.2.1.length)) _ k h (λi rec b=> ?_) (λrec=> ?_)
 ·show j0M _ n _ _ _ _ _=_
  unfold j0M jf4;unfold LIM at h;rw[ZaP b,Q1,j00 b,Q1,Zax _ _ _ b,j01 (n:=(i:Int)+1) (by omega)]
 ·show j0M _ n _ _ _ _ _=_
  unfold j0M;rw[ZaO,Q0]
theorem j2m {t:T}(h:msr yT t<=1048576):t.1.size<=1048576/\t.2.1.length<=1048576/\t.2.2.length<=1048576/\(∀c∈t.2.1,c.1.size<=1048576)/\∀x∈t.2.2,x.size<=1048576:=by
 have i:msr yT t=t.1.size+(msr (.slice yC) t.2.1+msr (.slice .str) t.2.2):=rfl;have b:msr (.slice yC) t.2.1<=1048576:=by omega
 have d:msr (.slice .str) t.2.2<=1048576:=by omega
 refine⟨by omega,j0d b,j0d d,λc f=> ?_,λx g=>j0y d g⟩
 have:=j0y b f;have j:msr yC c=c.1.size+msr (.pair (.int .i64) (.pair .bool (.pair .bool yV))) c.2:=rfl;omega
noncomputable def tSm (t:T):Prop:=t.1.size<=1048576/\t.2.1.length<=1048576/\t.2.2.length<=1048576/\(∀c∈t.2.1,c.1.size<=1048576)/\∀x∈t.2.2,x.size<=1048576
theorem joa (t:T)(h:tSm t)(a b:Unit->Res):j70 t.2.1 (nI t.2.1.length) t Z1b 0 a b=bif j4m t.2.1 then a () else b ():=by
 have f:=h;obtain⟨j,k,l,g,m⟩:=f;unfold j70;have:=Z9O t.2.1 (λi=>i) (λi c=> !j0S c||(j02 t.2.1 c.1 != (i:Int))) (step:=j2U t.2.1 (nI t.2.1.length) t) (a,b) (a ()) (b ()) (by unfold LIM;omega) (λi rec d=>by
  show j1E _ _ t _ _ _ _=_
  unfold j1E;rw[ZaP d,Q1,j00 d,Q1,Zax _ _ _ d,jlo _ (by have:=g _ (Q7 d);unfold LIM;omega),j5Y t _ (by unfold LIM;omega),j01 (n:=(i:Int)+1) (by omega)]
  cases j0S t.2.1[i]
  ·rfl
  ·cases j02 t.2.1 t.2.1[i].1 != (i:Int)<;>rfl) (λrec=>by
  show j1E _ _ t _ _ _ _=_
  unfold j1E;rw[ZaO,Q0])
 refine this.trans ?_;unfold j4m;cases Z70 (λi c=> !j0S c||(j02 t.2.1 c.1 != (i:Int))) 0 t.2.1<;>rfl
theorem jnB (t:T)(h:tSm t)(a b:Unit->Res):j6O t.2.1 (nI t.2.1.length) t Z1b 0 a b=bif j4m t.2.1 then a () else b ():=by
 have f:=h;obtain⟨j,k,l,g,m⟩:=f;unfold j6O;have:=Z9O t.2.1 (λi=>i) (λi c=> !j0S c||(j02 t.2.1 c.1 != (i:Int))) (step:=j2E t.2.1 (nI t.2.1.length) t) (a,b) (a ()) (b ()) (by unfold LIM;omega) (λi rec d=>by
  show j1C _ _ t _ _ _ _=_
  unfold j1C;rw[ZaP d,Q1,j00 d,Q1,Zax _ _ _ d,jkz _ (by have:=g _ (Q7 d);unfold LIM;omega),j77 t _ (by unfold LIM;omega),j01 (n:=(i:Int)+1) (by omega)]
  cases j0S t.2.1[i]
  ·rfl
  ·cases j02 t.2.1 t.2.1[i].1 != (i:Int)<;>rfl) (λrec=>by
  show j1C _ _ t _ _ _ _=_
  unfold j1C;rw[ZaO,Q0])
 refine this.trans ?_;unfold j4m;cases Z70 (λi c=> !j0S c||(j02 t.2.1 c.1 != (i:Int))) 0 t.2.1<;>rfl
noncomputable def j7K (l:List C)(b:Int)(k:ByteArray):Except Unit Int:=bif decide (j02 l k<=b) then .error () else bif !(nth zC l (j02 l k)).2.2.1 then .error () else .ok (j02 l k)
theorem ji0 (l:List C):(ks:List ByteArray)->(i:Nat)->(b:Int)->(∃z,Z1R (λ_ b k=>j7K l b k) i ks b= .ok z/\j13 l b ks=true)\/(Z1R (λ_ b k=>j7K l b k) i ks b= .error ()/\j13 l b ks=false)
 | [],_,b=> .inl ⟨b,rfl,rfl⟩
 |k::ks,i,b=>by
  have d:=ji0 l ks (i+1) (j02 l k);simp only[Z1R,j13,j7K]at d ⊢;cases decide (j02 l k<=b)
  ·cases (nth zC l (j02 l k)).2.2.1
   ·exact .inr ⟨rfl,rfl⟩
   ·exact d
  ·exact .inr ⟨rfl,rfl⟩
theorem job (t:T)(h:tSm t)(a b:Unit->Res):j71 t.2.2 (nI t.2.2.length) t Z1b (-1) 0 a b=bif j13 t.2.1 (-1) t.2.2 then a () else b ():=by
 have q:=h;obtain⟨w,y,A,B,C⟩:=q;unfold j71;have:=Z3Y t.2.2 (λi d=>(d,i)) (λ_ d k=>j7K t.2.1 d k) (λ_ d=> -1<=d) (step:=j53 t.2.2 (nI t.2.2.length) t) (a,b) (λ_=>a ()) (λ_=>b ()) (-1) (by unfold LIM;omega) (by omega) (λi d m l p g=>by
  unfold j7K at g;have:=(j8r t.2.1 t.2.2[i]).1;cases f:decide (j02 t.2.1 t.2.2[i]<=d)
  ·rw[f,Q0]at g;cases j:(nth zC t.2.1 (j02 t.2.1 t.2.2[i])).2.2.1
   ·rw[j]at g;cases g
   ·rw[j]at g;cases g;exact this
  ·rw[f]at g;cases g) (λi d rec l p=>by
  show j2V _ _ t _ _ _ _ _=_
  unfold j2V;dsimp only;rw[ZaP l,cond_true,j00 l,cond_true,Zax _ _ _ l,j5Y t _ (by unfold LIM;omega),j01 (n:=(i:Int)+1) (by omega)]
  unfold j7K;by_cases f:j02 t.2.1 t.2.2[i]<=d
  ·rw[Q3 f];rfl
  ·have r:=(j8r t.2.1 t.2.2[i]).2;rw[Q2 f,Q0,Q0,ZaJ (by omega) r,Q1]
   cases (nth zC t.2.1 (j02 t.2.1 t.2.2[i])).2.2.1<;>rfl) (λd rec _=>by
  show j2V _ _ t _ _ _ _ _=_
  unfold j2V;dsimp only;rw[ZaO,cond_false])
 refine this.trans ?_;rcases ji0 t.2.1 t.2.2 0 (-1)with⟨z,f,j⟩ | ⟨f,j⟩<;>rw[f,j]<;>rfl
theorem jnC (t:T)(h:tSm t)(a b:Unit->Res):j6P t.2.2 (nI t.2.2.length) t Z1b (-1) 0 a b=bif j13 t.2.1 (-1) t.2.2 then a () else b ():=by
 have q:=h;obtain⟨w,y,A,B,C⟩:=q;unfold j6P;have:=Z3Y t.2.2 (λi d=>(d,i)) (λ_ d k=>j7K t.2.1 d k) (λ_ d=> -1<=d) (step:=j50 t.2.2 (nI t.2.2.length) t) (a,b) (λ_=>a ()) (λ_=>b ()) (-1) (by unfold LIM;omega) (by omega) (λi d m l p g=>by
  unfold j7K at g;have:=(j8r t.2.1 t.2.2[i]).1;cases f:decide (j02 t.2.1 t.2.2[i]<=d)
  ·rw[f,Q0]at g;cases j:(nth zC t.2.1 (j02 t.2.1 t.2.2[i])).2.2.1
   ·rw[j]at g;cases g
   ·rw[j]at g;cases g;exact this
  ·rw[f]at g;cases g) (λi d rec l p=>by
  show j2F _ _ t _ _ _ _ _=_
  unfold j2F;dsimp only;rw[ZaP l,cond_true,j00 l,cond_true,Zax _ _ _ l,j77 t _ (by unfold LIM;omega),j01 (n:=(i:Int)+1) (by omega)]
  unfold j7K;by_cases f:j02 t.2.1 t.2.2[i]<=d
  ·rw[Q3 f];rfl
  ·have r:=(j8r t.2.1 t.2.2[i]).2;rw[Q2 f,Q0,Q0,ZaJ (by omega) r,Q1]
   cases (nth zC t.2.1 (j02 t.2.1 t.2.2[i])).2.2.1<;>rfl) (λd rec _=>by
  show j2F _ _ t _ _ _ _ _=_
  unfold j2F;dsimp only;rw[ZaO,cond_false])
 refine this.trans ?_;rcases ji0 t.2.1 t.2.2 0 (-1)with⟨z,f,j⟩ | ⟨f,j⟩<;>rw[f,j]<;>rfl
theorem jt8 (t:T)(k:Bool->Res):j4N t k=j0t t.1 λw=>k (!(w&&(decide (1<=t.2.1.length)&&(decide (t.2.1.length<=8)&&decide (1<=t.2.2.length))))):=by
 unfold j4N;congr 1;funext w;unfold nI;cases w
 ·rfl
 ·rw[Q4,Q0,Qd];by_cases b:1<=t.2.1.length
  ·rw[Q2 (show ¬ (t.2.1.length:Int)<1 by omega),Q0,Q3 b,Qd]
   by_cases d:t.2.1.length<=8
   ·rw[Q2 (show ¬ (t.2.1.length:Int)>8 by omega),Q0,Q3 d,Qd]
    congr 1;by_cases f:1<=t.2.2.length
    ·rw[Q2 (show ¬ (t.2.2.length:Int)<1 by omega),Q3 f];rfl
    ·rw[Q3 (show (t.2.2.length:Int)<1 by omega),Q2 f];rfl
   ·rw[Q3 (show (t.2.1.length:Int)>8 by omega),Q2 d];rfl
  ·rw[Q3 (show (t.2.1.length:Int)<1 by omega),Q2 b];rfl
theorem jjk (t:T)(h:tSm t)(k:Bool->Res):j0q t k=k (j04 t):=by
 have b:=h;obtain⟨d,f,g,i,j⟩:=b;unfold j0q j04;rw[jt8,j39 _ (by unfold LIM;omega),joa t h,job t h]
 cases j0h t.1&&(decide (1<=t.2.1.length)&&(decide (t.2.1.length<=8)&&decide (1<=t.2.2.length)))
 ·rfl
 ·cases j4m t.2.1
  ·rfl
  ·cases j13 t.2.1 (-1) t.2.2<;>rfl
theorem jjb (t:T)(h:tSm t)(k:Bool->Res):j0F t k=k (j04 t):=by
 have d:=h;obtain⟨g,i,j,l,m⟩:=d;unfold j0F j04;rw[j37 _ (by unfold LIM;omega),j4P,jnB t h,jnC t h]
 have b:decide (1<=nI t.2.1.length/\nI t.2.1.length<=8)=(decide (1<=t.2.1.length)&&decide (t.2.1.length<=8)):=by
  rw[<-Bool.decide_and];exact Xt.2 (by unfold nI;omega)
 have f:decide (nI t.2.2.length>0)=decide (1<=t.2.2.length):=Xt.2 (by unfold nI;omega)
 rw[b,f];cases j4m t.2.1
 ·rw[QW,XF];rfl
 ·cases j13 t.2.1 (-1) t.2.2
  ·rw[XF,XF];rfl
  ·cases j0h t.1
   ·rfl
   ·cases decide (1<=t.2.1.length)
    ·rfl
    ·cases decide (t.2.1.length<=8)
     ·rfl
     ·cases decide (1<=t.2.2.length)<;>rfl
theorem jcS (t:T)(h:msr yT t<=1048576)(k:Bool->Res):j0q t k=k (j04 t):=jjk t (j2m h) k
theorem jgo (t:T)(h:msr yT t<=1048576)(k:Bool->Res):j0F t k=k (j04 t):=jjb t (j2m h) k
theorem joM (c:List T)(i:Nat)(d:i<c.length)(b:c.length<=LIM)(x:Res)(y:Res):(bif decide ((i:Int)>0) then (bif inb (Z9J ((i:Int)-1)) c.length then (bif sGe (nth zT c (Z9J ((i:Int)-1))).1 c[i].1 then x else y) else none) else y) =
  bif (decide (0<i)&&sGe (nth zT c ((i:Int)-1)).1 c[i].1) then x else y:=by
 by_cases h:0<i
 ·unfold LIM at b;rw[Q3 (show (i:Int)>0 by omega),Q3 h,Q1,j01 (by omega),ZaJ (by omega) (by omega),Q1,Qd]
 ·rw[Q2 (show ¬ (i:Int)>0 by omega),Q2 h];rfl
end Go.PI.G
namespace Go.PI.G
open Go Go.PI Go.Proofs
theorem jqg (a b:V)(k:Bool->Res):j7u a b k=k (vlt a b):=by
 unfold j7u vlt;rw[j7W,j7W];cases j0n a
 ·rfl
 ·cases j0n b
  ·rfl
  ·rw[Q4,Q0,Q0,Qd,Qd];cases a.1 != b.1
   ·rw[Q0,Q0];by_cases h:a.2.1=b.2.1
    ·rw[h,ZaN,Q0,Q2 (by omega),Q0,Xe,Q1]
    ·have d:(a.2.1 != b.2.1)=true:=by simp[h]
     have f:(a.2.1==b.2.1)=false:=by simp[h]
     rw[d,f,Q1,Q0];cases decide (a.2.1<b.2.1)<;>rfl
   ·rfl
theorem jq5 (a b:V)(k:Bool->Res):j7a a b k=k (vlt a b):=by
 unfold j7a vlt;rw[j7G,j7G];cases j0n a
 ·rfl
 ·cases j0n b
  ·rfl
  ·rw[Q4,Q0,Q0,Qd,Qd];cases a.1 != b.1
   ·rw[Q0,Q0];cases a.2.1 != b.2.1<;>rfl
   ·rfl
end Go.PI.G
namespace Go.PI.G
open Go Go.PI Go.Proofs
theorem jmL {α V K:Type}(l:List α)(j:Int->V)(b:Nat->α->Bool)(p:Nat->Prop){step:V->(V->Res)->K->Res}(q:K)(d k:Res)(r:l.length<=LIM)(n:p 0)
  (z:∀(i:Nat),(g:i<l.length)->p i->b i l[i]=false->p (i+1))
  (A:∀(i:Nat) rec,(g:i<l.length)->p i->step (j i) rec q=bif b i l[i] then k else rec (j ((i:Int)+1))) (y:∀rec,step (j (l.length:Int)) rec q=d) :
  Z1e step Z1b (j 0) q=bif Z70 b 0 l then k else d:=by
 have h:=Z3Y l (λi (_:Unit)=>j i) (λi _ x=>if b i x then .error () else (.ok ():Except Unit Unit)) (λi _=>p i) q (λ_=>d) (λ_=>k) () r n (λi a C g f m=>by
   refine z i g f ?_;cases w:b i l[i]with
   |false=>rfl
   |true=>rw[w]at m;cases m)
  (λi a rec g f=>by
   rw[A i rec g f];cases b i l[i]<;>rfl) (λa rec _=>y rec)
 rw[h];have:∀(l:List α) (i:Nat),Z1R (λi _ x=>if b i x then .error () else (.ok ():Except Unit Unit)) i l ()=bif Z70 b i l then .error () else .ok ():=by
  intro l;induction l with
  |nil=>intro i;rfl
  |cons x l B=>
   intro i;simp only[Z1R,Z70];cases b i x with
   |true=>rfl
   |false=>exact B _
 rw[this];cases Z70 b 0 l<;>rfl
theorem jjh (c:C)(f:j0S c=true)(v:V)(k:Bool->Res):j3V c v k=k (j3n c v):=by
 have g:=jtu f;unfold j3V j3n;rw[j7W,j7W];cases b:v.1==0
 ·cases j0n v
  ·rfl
  ·rw[Q0,Q1,QW,Bool.or_false,Qd]
 ·have d:(v.1==c.2.1)=false:=by
   rw[QG]at b;simp;omega
  rw[d,Qd,XY];cases j0n v<;>rfl
theorem jq4 (c:C)(v:V)(k:Bool->Res):jby c v k=k (j3n c v):=by
 unfold jby j3n;rw[j7G];cases j0n v
 ·rfl
 ·cases v.1==c.2.1
  ·cases v.1==0<;>rfl
  ·rfl
theorem jgD (t:T)(h:msr yT t<=1048576)(r:List V)(k:Bool->Res):j23 t r k=k (j04 t&&j0m t.2.1 r):=by
 obtain⟨g,j,l,m,p⟩:=j2m h;unfold j23;rw[jcS t h];cases ht:j04 t
 ·rfl
 ·rw[Q4,Q0,Qd];unfold j0m;by_cases d:r.length=t.2.1.length
  ·have f:(nI r.length != nI t.2.1.length)=false:=by rw[d,ZaN]
   rw[f,Q0,Q3 d,Qd];unfold jck;have:=Z9O t.2.1 (λi=>i) (λi c=> !j3n c (nth zV r (i:Int))) (step:=j6X t.2.1 (nI t.2.1.length) r) ((λ(_:Unit)=>k true),(λ(_:Unit)=>k false)) (k true) (k false) (by unfold LIM;omega) (λi rec b=>by
    show j4L _ _ r _ _ _ _=_
    unfold j4L;rw[ZaP b,Q1,j00 b,Q1,j00 (d ▸ b),Q1,Zax _ _ _ b,jjh _ (jmP (j1z ht).2.2.2.2.1 i b),j01 (n:=(i:Int)+1) (by omega)]) (λrec=>by
    show j4L _ _ r _ _ _ _=_
    unfold j4L;rw[ZaO,Q0])
   refine this.trans ?_;cases Z70 (λi c=> !j3n c (nth zV r (i:Int))) 0 t.2.1<;>rfl
  ·have f:(nI r.length != nI t.2.1.length)=true:=by unfold nI;simp;omega
   rw[f,Q1,Q2 d,QW]
theorem jgn (t:T)(h:msr yT t<=1048576)(r:List V)(k:Bool->Res):j33 t r k=k (j0m t.2.1 r):=by
 obtain⟨g,j,l,m,p⟩:=j2m h;unfold j33 j0m;by_cases b:r.length=t.2.1.length
 ·have d:(nI r.length != nI t.2.1.length)=false:=by rw[b,ZaN]
  rw[d,Q0,Q3 b,Qd];unfold jhc;have:=Z9O t.2.1 (λi=>i) (λi c=> !j3n c (nth zV r (i:Int))) (step:=j9R r (nI r.length) t) ((λ(_:Unit)=>k true),(λ(_:Unit)=>k false)) (k true) (k false) (by unfold LIM;omega) (λi rec f=>by
   show j4y _ _ t _ _ _ _=_
   unfold j4y;rw[b,ZaP f,Q1,j00 f,Q1,Q1,Zax zC _ _ f,jq4,j01 (n:=(i:Int)+1) (by omega)]) (λrec=>by
   show j4y _ _ t _ _ _ _=_
   unfold j4y;rw[b,ZaO,Q0])
  refine this.trans ?_;cases Z70 (λi c=> !j3n c (nth zV r (i:Int))) 0 t.2.1<;>rfl
 ·have d:(nI r.length != nI t.2.1.length)=true:=by unfold nI;simp;omega
  rw[d,Q1,Q2 b,QW]
theorem j0r {l:List C}{r:List V}(h:j0m l r=true):r.length=l.length:=by
 unfold j0m at h;rw[Q6,Ql]at h;exact h.1
theorem j90 {α β:Type}(f:α->β):(l:List α)->l.flatMap (λx=>[f x])=l.map f
 | []=>rfl
 |x::l=>by rw[QH,j90 f l];rfl
theorem j92 (t:T)(r:List V):(j06 t r).length=t.2.2.length:=by unfold j06;simp
theorem j69 (t:T)(h:msr yT t<=1048576)(ht:j04 t=true)(r:List V)(m:r.length=t.2.1.length)(k:List V->Res):j0u t r k=k (j06 t r):=by
 obtain⟨p,q,w,y,z⟩:=j2m h;unfold j0u jg4;have g:=j14 t.2.2 (-1) (by omega) (j1z ht).2.2.2.2.2
 have:=Z9S t.2.2 (λi b=>(b,i)) (λn=>[nth zV r (j02 t.2.1 n)]) 1048576 [] (step:=j9k t.2.2 (nI t.2.2.length) t r) (λb=>k b) (λb=>k b) (by unfold LIM;omega) (λi d _=>by
  rw[j90,Qk,Qy,Qf];omega) (by simp) (λi b rec d l _=>by
  show j3W _ _ t r _ _ _ _=_
  unfold j3W;have f:=g _ (Q7 d);have j:b.length=i:=by
   rw[l,j90,Qk,Qy,Qf];omega
  dsimp only;rw[ZaP d,cond_true,j00 d,cond_true,Zax _ _ _ d,j5Y t _ (by unfold LIM;omega),ZaJ f.1 (by omega),cond_true,ZaK (by unfold LIM;omega),cond_true,j01 (n:=(i:Int)+1) (by omega)]) (λb rec=>by
  show j3W _ _ t r _ _ _ _=_
  unfold j3W;dsimp only;rw[ZaO,cond_false])
 refine this.trans ?_;rw[j90,Qk];rfl
theorem jg0 (a b:List V)(j:a.length<=LIM)(k:Bool->Res):j3P a b k=k (klt a b):=by
 unfold j3P jeu;unfold LIM at j;have h:∀(d i n:Nat),i+d=a.length->d<n->i<=b.length->Z1e (j8h a b) n (i:Int) ((λ(_:Unit)=>k (decide (nI a.length<nI b.length))),(λ(t:Bool)=>k t))=k (klt (a.drop i) (b.drop i)):=by
  intro d;induction d with
  |zero=>
   intro i n p q l;obtain⟨n,rfl⟩:∃m,n=m+1:=⟨n-1,by omega⟩
   have:i=a.length:=by omega
   subst this;show j2Q a b _ _ _ _=_
   unfold j2Q;rw[ZaO,Q0,YT];show k (decide (nI a.length<nI b.length))=_
   by_cases g:a.length<b.length
   ·rw[QJ g,Q3 (show nI a.length<nI b.length by unfold nI;omega)]
    rfl
   ·rw[List.drop_of_length_le (by omega),Q2 (show ¬ nI a.length<nI b.length by unfold nI;omega)]
    rfl
  |succ d r=>
   intro i n p q l;obtain⟨n,rfl⟩:∃m,n=m+1:=⟨n-1,by omega⟩
   have f:i<a.length:=by omega
   show j2Q a b _ _ _ _=_
   unfold j2Q;rw[ZaP f,Q1,QJ f];by_cases g:i<b.length
   ·rw[ZaP g,Q1,j00 f,Q1,j00 g,Q1,QJ g,Zax _ _ _ f,Zax _ _ _ g,Q1,Q1,jqg,j01 (n:=(i:Int)+1) (by omega)]
    show (bif !veq a[i] b[i] then _ else _)=k (bif veq a[i] b[i] then _ else _)
    cases veq a[i] b[i]
    ·rfl
    ·exact r (i+1) n (by omega) (by omega) (by omega)
   ·have:i=b.length:=by omega
    subst this;rw[ZaO,Q0,YT];show k (decide (nI a.length<nI b.length))=_
    rw[Q2 (show ¬ nI a.length<nI b.length by unfold nI;omega)]
    rfl
 exact h a.length 0 Z1b (by omega) (Z2a (by omega)) (by omega)
theorem j32 (t:T)(h:msr yT t<=1048576)(ht:j04 t=true)(r:List V)(m:r.length=t.2.1.length)(k:List V->Res):j0D t r k=k (j06 t r):=by
 obtain⟨p,q,w,y,z⟩:=j2m h;unfold j0D jhb;have g:=j14 t.2.2 (-1) (by omega) (j1z ht).2.2.2.2.2
 have:=Z9S t.2.2 (λi b=>(b,i)) (λn=>[nth zV r (j02 t.2.1 n)]) 1048576 [] (step:=j9Q t.2.2 (nI t.2.2.length) t r) (λb=>k b) (λb=>k b) (by unfold LIM;omega) (λi d _=>by
  rw[j90,Qk,Qy,Qf];omega) (by simp) (λi b rec d l _=>by
  show j4x _ _ t r _ _ _ _=_
  unfold j4x;have f:=g _ (Q7 d);have j:b.length=i:=by
   rw[l,j90,Qk,Qy,Qf];omega
  dsimp only;rw[ZaP d,cond_true,j00 d,cond_true,Zax _ _ _ d,j77 t _ (by unfold LIM;omega),ZaJ f.1 (by omega),cond_true,ZaK (by unfold LIM;omega),cond_true,j01 (n:=(i:Int)+1) (by omega)]) (λb rec=>by
  show j4x _ _ t r _ _ _ _=_
  unfold j4x;dsimp only;rw[ZaO,cond_false])
 refine this.trans ?_;rw[j90,Qk];rfl
theorem jaZ (a b:List V)(j:a.length<=LIM)(k:Bool->Res):j3q a b k=k (klt a b):=by
 unfold j3q jef;unfold LIM at j;have h:∀(d i n:Nat),i+d=a.length->d<n->i<=b.length->Z1e (j87 a b) n (i:Int) ((λ(_:Unit)=>k (decide (nI a.length<nI b.length))),(λ(t:Bool)=>k t))=k (klt (a.drop i) (b.drop i)):=by
  intro d;induction d with
  |zero=>
   intro i n p q l;obtain⟨n,rfl⟩:∃m,n=m+1:=⟨n-1,by omega⟩
   have:i=a.length:=by omega
   subst this;show j2A a b _ _ _ _=_
   unfold j2A;rw[ZaO,Q0,YT];show k (decide (nI a.length<nI b.length))=_
   by_cases g:a.length<b.length
   ·rw[QJ g,Q3 (show nI a.length<nI b.length by unfold nI;omega)]
    rfl
   ·rw[List.drop_of_length_le (by omega),Q2 (show ¬ nI a.length<nI b.length by unfold nI;omega)]
    rfl
  |succ d r=>
   intro i n p q l;obtain⟨n,rfl⟩:∃m,n=m+1:=⟨n-1,by omega⟩
   have f:i<a.length:=by omega
   show j2A a b _ _ _ _=_
   unfold j2A;rw[ZaP f,Q1,QJ f];by_cases g:i<b.length
   ·rw[ZaP g,Q1,j00 f,Q1,j00 g,Q1,QJ g,Zax _ _ _ f,Zax _ _ _ g,Q1,Q1,jq5,j01 (n:=(i:Int)+1) (by omega)]
    show (bif !veq a[i] b[i] then _ else _)=k (bif veq a[i] b[i] then _ else _)
    cases veq a[i] b[i]
    ·rfl
    ·exact r (i+1) n (by omega) (by omega) (by omega)
   ·have:i=b.length:=by omega
    subst this;rw[ZaO,Q0,YT];show k (decide (nI a.length<nI b.length))=_
    rw[Q2 (show ¬ nI a.length<nI b.length by unfold nI;omega)]
    rfl
 exact h a.length 0 Z1b (by omega) (Z2a (by omega)) (by omega)
theorem j6D (t:T)(h:msr yT t<=1048576)(l:List (List V))(k:Bool->Res):j0s t l k=k (j08 t l):=by
 obtain⟨B,C,D,E,F⟩:=j2m h;unfold j0s j08;rw[jcS t h];cases ht:j04 t
 ·rfl
 ·rw[Q4,Q0,Qd];by_cases q:l.length<=60
  ·rw[Q2 (show ¬ nI l.length>60 by unfold nI;omega),Q0,Q3 q,Qd]
   unfold jbj;have:=jmL l (λi=>i) (λi r=> !j0m t.2.1 r||(decide (0<i)&& !klt (j06 t (nth [] l ((i:Int)-1))) (j06 t r))) (λi=>∀(j:Nat) (g:j<l.length),j<i->j0m t.2.1 l[j]=true) (step:=j3Q l l (nI l.length) t) ((λ(_:Unit)=>k true),(λ(_:Unit)=>k false)) (k true) (k false) (by unfold LIM;omega) (λj _ g=>absurd g (by omega)) (λi f m w j g z=>by
    rw[Xb,Xa]at w;by_cases d:j<i
    ·exact m j g d
    ·have:j=i:=by omega
     subst this;exact w.1) (λi rec f m=>by
    show j1W l _ _ t _ _ _ _=_
    unfold j1W;rw[ZaP f,Q1,j00 f,Q1,Zax _ _ _ f,jgD t h];rw[ht,Qd];cases A:j0m t.2.1 l[i]
    ·rfl
    ·rw[Q4,Q0,XY,j01 (n:=(i:Int)+1) (by omega)]
     by_cases p:0<i
     ·have b:i-1<l.length:=by omega
      have y:((i:Int)-1)=((i-1:Nat):Int):=by omega
      rw[Q3 (show (i:Int)>0 by omega),Q1,Q3 p,Qd,j01 (n:=(i:Int)-1) (by omega),y,j00 b,Q1,Zax _ _ _ b,j69 t h ht _ (j0r (m _ b (by omega))),j69 t h ht _ (j0r A),jg0 _ _ (by rw[j92];unfold LIM;omega)]
     ·rw[Q2 (show ¬ (i:Int)>0 by omega),Q0,Q2 p,QW,Q0]) (λrec=>by
    show j1W l _ _ t _ _ _ _=_
    unfold j1W;rw[ZaO,Q0])
   refine this.trans ?_;cases Z70 (λi r=> !j0m t.2.1 r||(decide (0<i)&& !klt (j06 t (nth [] l ((i:Int)-1))) (j06 t r))) 0 l<;>rfl
  ·rw[Q3 (show nI l.length>60 by unfold nI;omega),Q1,Q2 q,QW]
theorem j8s (t:T)(h:msr yT t<=1048576)(l:List (List V))(k:Bool->Res):j0H t l k=k (j08 t l):=by
 obtain⟨B,C,D,E,F⟩:=j2m h;unfold j0H j08;rw[jgo t h];cases ht:j04 t
 ·rfl
 ·rw[Q4,Q0,Qd];by_cases q:l.length<=60
  ·rw[Q2 (show ¬ nI l.length>60 by unfold nI;omega),Q0,Q3 q,Qd]
   unfold jb1;have:=jmL l (λi=>i) (λi r=> !j0m t.2.1 r||(decide (0<i)&& !klt (j06 t (nth [] l ((i:Int)-1))) (j06 t r))) (λi=>∀(j:Nat) (g:j<l.length),j<i->j0m t.2.1 l[j]=true) (step:=j3r l l (nI l.length) t) ((λ(_:Unit)=>k true),(λ(_:Unit)=>k false)) (k true) (k false) (by unfold LIM;omega) (λj _ g=>absurd g (by omega)) (λi f m w j g z=>by
    rw[Xb,Xa]at w;by_cases d:j<i
    ·exact m j g d
    ·have:j=i:=by omega
     subst this;exact w.1) (λi rec f m=>by
    show j1U l _ _ t _ _ _ _=_
    unfold j1U;rw[ZaP f,Q1,j00 f,Q1,Zax _ _ _ f,jgn t h];cases A:j0m t.2.1 l[i]
    ·rfl
    ·rw[Q4,Q0,XY,j01 (n:=(i:Int)+1) (by omega)]
     by_cases p:0<i
     ·have b:i-1<l.length:=by omega
      have y:((i:Int)-1)=((i-1:Nat):Int):=by omega
      rw[Q3 (show (i:Int)>0 by omega),Q1,Q3 p,Qd,j01 (n:=(i:Int)-1) (by omega),y,j00 b,Q1,Zax _ _ _ b,j32 t h ht _ (j0r (m _ b (by omega))),j32 t h ht _ (j0r A),jaZ _ _ (by rw[j92];unfold LIM;omega)]
     ·rw[Q2 (show ¬ (i:Int)>0 by omega),Q0,Q2 p,QW,Q0]) (λrec=>by
    show j1U l _ _ t _ _ _ _=_
    unfold j1U;rw[ZaO,Q0])
   refine this.trans ?_;cases Z70 (λi r=> !j0m t.2.1 r||(decide (0<i)&& !klt (j06 t (nth [] l ((i:Int)-1))) (j06 t r))) 0 l<;>rfl
  ·rw[Q3 (show nI l.length>60 by unfold nI;omega),Q1,Q2 q,QW]
theorem j0i {t:T}{l:List (List V)}(h:j08 t l=true):j04 t=true/\l.length<=60/\∀r∈l,j0m t.2.1 r=true:=by
 unfold j08 at h;simp only[Q6,Ql,QF]at h;refine⟨h.1,h.2.1,λr d=> ?_⟩
 obtain⟨i,b,rfl⟩:=Xo d;have:=jcF l 0 h.2.2 i b;simp only[Xb,Xa]at this;exact this.1
end Go.PI.G
namespace Go.PI.G
open Go Go.PI Go.Proofs
theorem jqz {c:List T}(h:msr (.slice yT) c<=1048576):c.length<=1048576/\∀t∈c,msr yT t<=1048576:=⟨j0d h,λt ht=>j0y h ht⟩
theorem jpx (c:List T)(h:msr (.slice yT) c<=1048576)(a b:Unit->Res):jch c (nI c.length) c Z1b 0 a b=bif Z70 (λi t=> !j04 t||(decide (0<i)&&sGe (nth zT c ((i:Int)-1)).1 t.1)) 0 c then b () else a ():=by
 obtain⟨g,f⟩:=jqz h;unfold jch;exact Z9O c (λi=>i) (λi t=> !j04 t||(decide (0<i)&&sGe (nth zT c ((i:Int)-1)).1 t.1)) (step:=jao c (nI c.length) c) (a,b) (a ()) (b ()) (by unfold LIM;omega) (λi rec d=>by
  show j4D _ _ c _ _ _ _=_
  unfold j4D;rw[ZaP d,Q1,j00 d,Q1,Zax _ _ _ d,jcS _ (f _ (Q7 d)),j01 (n:=(i:Int)+1) (by omega),joM c i d (by unfold LIM;omega)]
  cases j04 c[i]
  ·rfl
  ·cases (decide (0<i)&&sGe (nth zT c ((i:Int)-1)).1 c[i].1)<;>rfl) (λrec=>by
  show j4D _ _ c _ _ _ _=_
  unfold j4D;rw[ZaO,Q0])
theorem joZ (c:List T)(h:msr (.slice yT) c<=1048576)(a b:Unit->Res):jc2 c (nI c.length) c Z1b 0 a b=bif Z70 (λi t=> !j04 t||(decide (0<i)&&sGe (nth zT c ((i:Int)-1)).1 t.1)) 0 c then b () else a ():=by
 obtain⟨g,f⟩:=jqz h;unfold jc2;exact Z9O c (λi=>i) (λi t=> !j04 t||(decide (0<i)&&sGe (nth zT c ((i:Int)-1)).1 t.1)) (step:=j9J c (nI c.length) c) (a,b) (a ()) (b ()) (by unfold LIM;omega) (λi rec d=>by
  show j4o _ _ c _ _ _ _=_
  unfold j4o;rw[ZaP d,Q1,j00 d,Q1,Zax _ _ _ d,jgo _ (f _ (Q7 d)),j01 (n:=(i:Int)+1) (by omega),joM c i d (by unfold LIM;omega)]
  cases j04 c[i]
  ·rfl
  ·cases (decide (0<i)&&sGe (nth zT c ((i:Int)-1)).1 c[i].1)<;>rfl) (λrec=>by
  show j4o _ _ c _ _ _ _=_
  unfold j4o;rw[ZaO,Q0])
theorem jln (c:List T)(h:msr (.slice yT) c<=1048576)(k:Bool->Res):j6a c k=k (j1T c):=by
 unfold j6a j1T;rw[jpx c h];by_cases b:c.length<=6
 ·rw[Q2 (show ¬ nI c.length>6 by unfold nI;omega),Q0,Q3 b,Qd]
  cases Z70 (λi t=> !j04 t||(decide (0<i)&&sGe (nth zT c ((i:Int)-1)).1 t.1)) 0 c<;>rfl
 ·rw[Q3 (show nI c.length>6 by unfold nI;omega),Q1,Q2 b,QW]
theorem jky (c:List T)(h:msr (.slice yT) c<=1048576)(k:Bool->Res):j60 c k=k (j1T c):=by
 unfold j60 j1T;rw[joZ c h];have:decide (nI c.length<=6)=decide (c.length<=6):=Xt.2 (by unfold nI;omega)
 rw[this];cases Z70 (λi t=> !j04 t||(decide (0<i)&&sGe (nth zT c ((i:Int)-1)).1 t.1)) 0 c
 ·rw[QQ,Xm];rfl
 ·rw[Q4,XF];rfl
end Go.PI.G
namespace Go.PI.G
open Go Go.PI Go.Proofs
theorem jrP {d:DB}(h:msr yDB d<=1048576):msr (.slice yT) d.1<=1048576/\d.1.length<=1048576/\d.2.length<=1048576/\(∀t∈d.1,msr yT t<=1048576)/\∀l∈d.2,l.length<=1048576:=by
 have i:msr yDB d=msr (.slice yT) d.1+msr (.slice (.slice (.slice yV))) d.2:=rfl;have b:msr (.slice yT) d.1<=1048576:=by omega
 have f:msr (.slice (.slice (.slice yV))) d.2<=1048576:=by omega
 exact⟨b,j0d b,j0d f,λt ht=>j0y b ht,λl g=>j0d (j0y f g)⟩
theorem jet (d:DB)(h:msr yDB d<=1048576)(k:Bool->Res):j4G d k=k (dbB d):=by
 obtain⟨j,m,p,l,q⟩:=jrP h;unfold j4G dbB;rw[jln _ j];cases j1T d.1
 ·rfl
 ·rw[Q4,Q0,Qd];by_cases f:d.2.length=d.1.length
  ·have g:(nI d.2.length != nI d.1.length)=false:=by rw[f,ZaN]
   rw[g,Q0,Q3 f,Qd];unfold jdF;have:=Z9O d.1 (λi=>i) (λi t=> !j08 t (nth [] d.2 (i:Int))) (step:=j7X d.1 (nI d.1.length) d) ((λ(_:Unit)=>k true),(λ(_:Unit)=>k false)) (k true) (k false) (by unfold LIM;omega) (λi rec b=>by
    show j5L _ _ d _ _ _ _=_
    unfold j5L;rw[ZaP b,Q1,j00 b,Q1,j00 (f ▸ b),Q1,Zax _ _ _ b,j6D _ (l _ (Q7 b)),j01 (n:=(i:Int)+1) (by omega)]) (λrec=>by
    show j5L _ _ d _ _ _ _=_
    unfold j5L;rw[ZaO,Q0])
   refine this.trans ?_;cases Z70 (λi t=> !j08 t (nth [] d.2 (i:Int))) 0 d.1<;>rfl
  ·have g:(nI d.2.length != nI d.1.length)=true:=by unfold nI;simp;omega
   rw[g,Q1,Q2 f,QW]
theorem jmV (d:DB)(h:msr yDB d<=1048576)(k:Bool->Res):j5W d k=k (dbB d):=by
 obtain⟨j,m,p,l,q⟩:=jrP h;unfold j5W dbB;rw[jky _ j];cases j1T d.1
 ·rfl
 ·rw[Q4,Q0,Qd];by_cases f:d.2.length=d.1.length
  ·have g:(nI d.2.length != nI d.1.length)=false:=by rw[f,ZaN]
   rw[g,Q0,Q3 f,Qd];unfold jdi;have:=Z9O d.1 (λi=>i) (λi t=> !j08 t (nth [] d.2 (i:Int))) (step:=j7H d.1 (nI d.1.length) d) ((λ(_:Unit)=>k true),(λ(_:Unit)=>k false)) (k true) (k false) (by unfold LIM;omega) (λi rec b=>by
    show j5h _ _ d _ _ _ _=_
    unfold j5h;rw[ZaP b,Q1,j00 b,Q1,j00 (f ▸ b),Q1,Zax _ _ _ b,j8s _ (l _ (Q7 b)),j01 (n:=(i:Int)+1) (by omega)]) (λrec=>by
    show j5h _ _ d _ _ _ _=_
    unfold j5h;rw[ZaO,Q0])
   refine this.trans ?_;cases Z70 (λi t=> !j08 t (nth [] d.2 (i:Int))) 0 d.1<;>rfl
  ·have g:(nI d.2.length != nI d.1.length)=true:=by unfold nI;simp;omega
   rw[g,Q1,Q2 f,QW]
end Go.PI.G
namespace Go.PI.G
open Go Go.PI
def free (b:Int)(s:ByteArray):Prop:=b ∉ Z1m s
theorem jgG {s:ByteArray}(h:j0h s=true):1<=s.size/\s.size<=8:=by
 unfold j0h at h;simp only[Q6,Ql]at h;exact h.2
end Go.PI.G
namespace Go.PI.G
open Go Go.PI
abbrev D:=Int×ByteArray×List C×List ByteArray×ByteArray×ByteArray
abbrev ST:=Int×ByteArray×List V×List V×D
abbrev yD:Ty:= .pair (.int .i64) (.pair .str (.pair (.slice yC) (.pair (.slice .str) (.pair .str .str))))
abbrev yST:Ty:= .pair (.int .i64) (.pair .str (.pair (.slice yV) (.pair (.slice yV) yD)))
abbrev zD:D:=(0,eS,[],[],eS,eS)
abbrev zST:ST:=(0,eS,[],[],0,eS,[],[],eS,eS)
theorem joi:∃m,Z1b=m+1:=⟨Z1b-1,by have:=Z2a (n:=1) (by omega);omega⟩
theorem j3g (n:Nat):(nI n==0)=(n==0):=by
 unfold nI;cases n with
 |zero=>rfl
 |succ n=>show ((((n+1:Nat):Int))==0)=false;simp;omega
theorem jrQ (n:Nat):(nI n==1)=(n==1):=by
 unfold nI;by_cases h:n=1
 ·subst h;rfl
 ·have b:(n==1)=false:=by simp[h]
  have d:((n:Int)==1)=false:=by simp;omega
  rw[b,d]
theorem jqV (m n:Nat):(nI m != nI n)= !(m==n):=by
 unfold nI;by_cases h:m=n
 ·subst h;simp
 ·have b:(m==n)=false:=by simp[h]
  have d:((m:Int) != n)=true:=by simp;omega
  rw[b,d];rfl
def noD (d:D):Bool:=(d.1==0)&&(sEq d.2.1 eS&&((d.2.2.1.length==0)&&((d.2.2.2.1.length==0)&&(sEq d.2.2.2.2.1 eS&&sEq d.2.2.2.2.2 eS))))
def jbS (d:D):Bool:=(d.2.2.1.length==0)&&(d.2.2.2.1.length==0)
noncomputable def j0T (d:D):Bool:=j0h d.2.1 &&
 (bif d.1==1 then sEq d.2.2.2.2.1 eS&&(sEq d.2.2.2.2.2 eS&&j04 (d.2.1,d.2.2.1,d.2.2.2.1))
  else bif d.1==2 then jbS d&&(sEq d.2.2.2.2.1 eS&&sEq d.2.2.2.2.2 eS)
  else bif d.1==3 then (d.2.2.1.length==1)&&(j0S (nth zC d.2.2.1 0)&&(((nth zC d.2.2.1 0).2.2.2.1|| !(nth zC d.2.2.1 0).2.2.1)&&((d.2.2.2.1.length==0)&&(sEq d.2.2.2.2.1 eS&&sEq d.2.2.2.2.2 eS))))
  else bif d.1==4 then jbS d&&(j0h d.2.2.2.2.1&&sEq d.2.2.2.2.2 eS)
  else bif d.1==5 then jbS d&&(j0h d.2.2.2.2.1&&j0h d.2.2.2.2.2)
  else false)
def j2u (l:List V):Bool:=l.all j0n&&(decide (1<=l.length)&&decide (l.length<=8))
noncomputable def stB (s:ST):Bool:=j0h s.2.1 &&
 (bif s.1==1 then (s.2.2.1.length==0)&&(j2u s.2.2.2.1&&noD s.2.2.2.2)
  else bif s.1==2 then j2u s.2.2.1&&(j2u s.2.2.2.1&&noD s.2.2.2.2)
  else bif s.1==3 then j2u s.2.2.1&&((s.2.2.2.1.length==0)&&noD s.2.2.2.2)
  else bif s.1==4 then (s.2.2.1.length==0)&&((s.2.2.2.1.length==0)&&noD s.2.2.2.2)
  else bif s.1==5 then (s.2.2.1.length==0)&&((s.2.2.2.1.length==0)&&(j0T s.2.2.2.2&&sEq s.2.2.2.2.2.1 s.2.1))
  else false)
def dSm (d:D):Prop:=d.2.1.size<=1048576/\d.2.2.1.length<=1048576/\d.2.2.2.1.length<=1048576/\(∀c∈d.2.2.1,c.1.size<=1048576)/\(∀x∈d.2.2.2.1,x.size<=1048576)/\d.2.2.2.2.1.size<=1048576/\d.2.2.2.2.2.size<=1048576
def j1Y (s:ST):Prop:=s.2.1.size<=1048576/\s.2.2.1.length<=1048576/\s.2.2.2.1.length<=1048576/\dSm s.2.2.2.2
theorem jfO (d:D):noD d=true↔d=zD:=by
 obtain⟨a,b,c,e,f,g⟩:=d;unfold noD;simp only[Q6,QG,j09,Qs,Qv]
theorem j7F {d:D}(h:j0T d=true):j0h d.2.1=true /\
  ((∃t cs ks,d=(1,t,cs,ks,eS,eS)/\j04 (t,cs,ks)=true)\/(∃t,d=(2,t,[],[],eS,eS))\/(∃t c,d=(3,t,[c],[],eS,eS)/\j0S c=true) \/
   (∃t n,d=(4,t,[],[],n,eS)/\j0h n=true)\/∃t n m,d=(5,t,[],[],n,m)/\j0h n=true/\j0h m=true):=by
 obtain⟨k,t,cs,ks,n,m⟩:=d;unfold j0T jbS at h;dsimp only at h ⊢;rw[Bool.and_eq_true]at h;refine⟨h.1,?_⟩;have h:=h.2;cases g:k==1
 ·cases i:k==2
  ·cases j:k==3
   ·cases l:k==4
    ·cases p:k==5
     ·rw[g,i,j,l,p]at h;cases h
     ·rw[g,i,j,l,p]at h;simp only[Q0,Q1,Q6,QG]at h p;obtain⟨⟨a,b⟩,c,e⟩:=h;rw[Qv]at a b;subst a;subst b;subst p;exact .inr (.inr (.inr (.inr ⟨t,n,m,rfl,c,e⟩)))
    ·rw[g,i,j,l]at h;simp only[Q0,Q1,Q6,QG,j09]at h l;obtain⟨⟨a,b⟩,c,e⟩:=h;rw[Qv]at a b;subst a;subst b;subst l;subst e;exact .inr (.inr (.inr (.inl ⟨t,n,rfl,c⟩)))
   ·rw[g,i,j]at h;simp only[Q0,Q1,Q6,QG,j09]at h j;obtain⟨a,b,_,c,e,f⟩:=h;obtain⟨c0,rfl⟩:=List.length_eq_one_iff.1 a;rw[Qv]at c;subst c;subst j;subst e;subst f;exact .inr (.inr (.inl ⟨t,c0,rfl,b⟩))
  ·rw[g,i]at h;simp only[Q0,Q1,Q6,QG,j09]at h i;obtain⟨⟨a,b⟩,e,f⟩:=h;rw[Qv]at a b;subst a;subst b;subst i;subst e;subst f;exact .inr (.inl ⟨t,rfl⟩)
 ·rw[g]at h;simp only[Q1,Q6,QG,j09]at h g;obtain⟨e,f,a⟩:=h;subst g;subst e;subst f;exact .inl ⟨t,cs,ks,rfl,a⟩
theorem js0 {s:ST}(h:stB s=true):j0h s.2.1=true /\
  ((∃t r,s=(1,t,[],r,zD)/\j2u r=true)\/(∃t q r,s=(2,t,q,r,zD)/\j2u q=true/\j2u r=true)\/(∃t q,s=(3,t,q,[],zD)/\j2u q=true) \/
   (∃t,s=(4,t,[],[],zD))\/∃d:D,s=(5,d.2.1,[],[],d)/\j0T d=true):=by
 obtain⟨k,t,q,r,d⟩:=s;unfold stB at h;dsimp only at h ⊢;rw[Bool.and_eq_true]at h;refine⟨h.1,?_⟩;have h:=h.2;cases f:k==1
 ·cases g:k==2
  ·cases i:k==3
   ·cases j:k==4
    ·cases l:k==5
     ·rw[f,g,i,j,l]at h;cases h
     ·rw[f,g,i,j,l]at h;simp only[Q0,Q1,Q6,QG,j09]at h l;obtain⟨a,b,c,e⟩:=h;rw[Qv]at a b;subst a;subst b;subst l;subst e;exact .inr (.inr (.inr (.inr ⟨d,rfl,c⟩)))
    ·rw[f,g,i,j]at h;simp only[Q0,Q1,Q6,QG,jfO]at h j;obtain⟨a,b,c⟩:=h;rw[Qv]at a b;subst a;subst b;subst j;subst c;exact .inr (.inr (.inr (.inl ⟨t,rfl⟩)))
   ·rw[f,g,i]at h;simp only[Q0,Q1,Q6,QG,jfO]at h i;obtain⟨a,b,c⟩:=h;rw[Qv]at b;subst b;subst i;subst c;exact .inr (.inr (.inl ⟨t,q,rfl,a⟩))
  ·rw[f,g]at h;simp only[Q0,Q1,Q6,QG,jfO]at h g;obtain⟨a,b,c⟩:=h;subst g;subst c;exact .inr (.inl ⟨t,q,r,rfl,a,b⟩)
 ·rw[f]at h;simp only[Q1,Q6,QG,jfO]at h f;obtain⟨a,b,c⟩:=h;rw[Qv]at a;subst a;subst f;subst c;exact .inl ⟨t,r,rfl,b⟩
end Go.PI.G
namespace Go.PI.G
open Go Go.PI
theorem jtm {v:V}(h:j0n v=true):msr yV v<=30:=by
 have e:msr yV v=0+(0+v.2.2.size):=rfl;have:=jsj h;omega
theorem j9A {e:Ty}(c:Nat):(l:List (El e))->(∀x∈l,msr e x<=c)->msr (.slice e) l<=l.length * (c+1)
 | [],_=>Qg _
 |x::l,h=>by
  have b:=j9A c l λy d=>h y (Qa _ d)
  have f:=h x (by simp)
  rw[jen]at b ⊢;simp only[Qz,QX,Q8];rw[Nat.succ_mul];omega
theorem jsJ {c:C}(h:j0S c=true):msr yC c<=38:=by
 have e:msr yC c=c.1.size+(0+(0+(0+msr yV c.2.2.2.2))):=rfl;unfold j0S at h;simp only[Q6]at h;have b:=jgG h.1;have d:=jtm h.2.2.1;omega
theorem jrv {l:List C}(h:j4m l=true){c:C}(b:c∈l):j0S c=true:=by
 obtain⟨i,d,rfl⟩:=Xo b;exact jmP h i d
theorem jru {l:List C}{n:ByteArray}(h:0<=j02 l n):∃c∈l,c.1=n:=by
 unfold j02 Z9E at h;cases b:List.findIdx? (λc:C=>sEq c.1 n) l with
 |none=>rw[b]at h;dsimp only at h;omega
 |some i=>
  obtain⟨d,f,_⟩:=Xl.1 b;exact⟨l[i],Q7 d,(j09 _ _).1 f⟩
theorem jmX {l:List C}:(ks:List ByteArray)->(b:Int)->b<(l.length:Int)->j13 l b ks=true->b+(ks.length:Int)<(l.length:Int)
 | [],b,d,_=>by simpa using d
 |q::ks,b,d,h=>by
  simp only[j13,Q6,QF,Xk]at h;have f:=jmX ks (j02 l q) (j8r l q).2 h.2.2;rw[Q8];omega
theorem jsM {t:ByteArray}{cs:List C}{ks:List ByteArray}(h:j04 (t,cs,ks)=true):t.size<=8/\msr (.slice yC) cs<=312/\msr (.slice .str) ks<=72:=by
 have b:=j1z h;dsimp only at b;have d:∀c∈cs,j0S c=true:=λc d=>jrv b.2.2.2.2.1 d
 have m:=j9A (e:=yC) 38 cs λc h=>jsJ (d c h)
 have n:cs.length * 39<=8 * 39:=Qt _ b.2.2.1;have j:=j14 ks (-1) (by omega) b.2.2.2.2.2
 have r:=jmX ks (-1) (by omega) b.2.2.2.2.2
 have p:=j9A (e:= .str) 8 ks λk l=>by
  obtain⟨c,g,i⟩:=jru (j k l).1;have f:=d c g;unfold j0S at f;rw[Q6]at f;have:=(jgG f.1).2;rw[i]at this;exact this
 have q:ks.length * 9<=8 * 9:=Qt _ (by omega)
 exact⟨(jgG b.1).2,by omega,by omega⟩
end Go.PI.G
namespace Go.PI.G
open Go Go.PI
theorem jmN:(x:List UInt8)->Op.bytesLess x x=false
 | []=>rfl
 |a::x=>by simp[Op.bytesLess,jmN x]
theorem joL:(x y z:List UInt8)->Op.bytesLess x y=true->Op.bytesLess y z=true->Op.bytesLess x z=true
 |_,_,[],_,h=>by simp[Op.bytesLess]at h
 |_,[],_::_,h,_=>by simp[Op.bytesLess]at h
 | [],_::_,_::_,_,_=>by simp[Op.bytesLess]
 |a::x,b::y,c::z,h,k=>by
  simp only[Op.bytesLess,Xq,Q6,Ql,QG]at h k ⊢;rcases h with h | ⟨rfl,h⟩
  ·rcases k with k | ⟨rfl,k⟩
   ·exact .inl (UInt8.lt_trans h k)
   ·exact .inl h
  ·rcases k with k | ⟨rfl,k⟩
   ·exact .inl k
   ·exact .inr ⟨rfl,joL x y z h k⟩
theorem joK:(x y:List UInt8)->x≠y->Op.bytesLess x y=true\/Op.bytesLess y x=true
 | [],[],h=>absurd rfl h
 | [],_::_,_=> .inl (by simp[Op.bytesLess])
 |_::_,[],_=> .inr (by simp[Op.bytesLess])
 |a::x,b::y,h=>by
  simp only[Op.bytesLess,Xq,Q6,Ql,QG];by_cases f:a=b
  ·subst f;rcases joK x y (λe=>h (by rw[e]))with d | d
   ·exact .inl (.inr ⟨rfl,d⟩)
   ·exact .inr (.inr ⟨rfl,d⟩)
  ·rcases UInt8.lt_or_lt_of_ne f with d | d
   ·exact .inl (.inl d)
   ·exact .inr (.inl d)
theorem toList_inj {a b:ByteArray}(h:a.toList=b.toList):a=b:=(j09 a b).1 (by unfold sEq;rw[h];simp)
theorem jcR (a:ByteArray):sLt a a=false:=jmN _
theorem jer {a b c:ByteArray}(h:sLt a b=true)(k:sLt b c=true):sLt a c=true:=joL _ _ _ h k
theorem jif {a b:ByteArray}(h:a≠b):sLt a b=true\/sLt b a=true:=joK _ _ λe=>h (toList_inj e)
theorem jrZ {a b:ByteArray}(h:sLt a b=true):a≠b:=λe=>by rw[e,jcR]at h;cases h
theorem jrY {a b:ByteArray}(h:sLt a b=true):sLt b a=false:=by
 cases d:sLt b a with
 |false=>rfl
 |true=>rw[<-jcR a];exact(jer h d).symm
theorem jiR (a b:V):vlt a b=true↔j0n a=true/\j0n b=true/\(a.1<b.1\/(a.1=b.1/\(a.2.1<b.2.1\/(a.2.1=b.2.1/\sLt a.2.2 b.2.2=true)))):=by
 unfold vlt;simp only[Q6];refine YN λ_=>YN λ_=> ?_
 by_cases d:a.1=b.1
 ·rw[d,ZaN,Q0];by_cases f:a.2.1=b.2.1
  ·rw[f,ZaN,Q0];simp
  ·rw[show (a.2.1 != b.2.1)=true by simp[f],Q1]
   simp[f]
 ·rw[show (a.1 != b.1)=true by simp[d],Q1]
  simp[d]
theorem jro (a:V):vlt a a=false:=by
 cases h:vlt a a with
 |false=>rfl
 |true=>
  have:=(jiR a a).1 h;rw[jcR]at this;rcases this.2.2 with h | ⟨_,h | ⟨_,h⟩⟩
  ·omega
  ·omega
  ·cases h
theorem jsl {a b c:V}(h:vlt a b=true)(k:vlt b c=true):vlt a c=true:=by
 rw[jiR]at h k ⊢;obtain⟨g,_,h⟩:=h;obtain⟨_,i,k⟩:=k;refine⟨g,i,?_⟩;rcases h with h | ⟨j,h⟩
 ·rcases k with k | ⟨d,k⟩
  ·exact .inl (by omega)
  ·exact .inl (by omega)
 ·rcases k with k | ⟨d,k⟩
  ·exact .inl (by omega)
  ·refine .inr ⟨by omega,?_⟩
   rcases h with h | ⟨l,h⟩
   ·rcases k with k | ⟨f,k⟩
    ·exact .inl (by omega)
    ·exact .inl (by omega)
   ·rcases k with k | ⟨f,k⟩
    ·exact .inl (by omega)
    ·exact .inr ⟨by omega,jer h k⟩
theorem jsk {a b:V}(d:j0n a=true)(f:j0n b=true)(h:a≠b):vlt a b=true\/vlt b a=true:=by
 rw[jiR,jiR];by_cases g:a.1=b.1
 ·by_cases j:a.2.1=b.2.1
  ·have i:a.2.2≠b.2.2:=λe=>h (Prod.ext g (Prod.ext j e))
   rcases jif i with k | k
   ·exact .inl ⟨d,f,.inr ⟨g,.inr ⟨j,k⟩⟩⟩
   ·exact .inr ⟨f,d,.inr ⟨g.symm,.inr ⟨j.symm,k⟩⟩⟩
  ·by_cases i:a.2.1<b.2.1
   ·exact .inl ⟨d,f,.inr ⟨g,.inl i⟩⟩
   ·exact .inr ⟨f,d,.inr ⟨g.symm,.inl (by omega)⟩⟩
 ·by_cases i:a.1<b.1
  ·exact .inl ⟨d,f,.inl i⟩
  ·exact .inr ⟨f,d,.inl (by omega)⟩
theorem jpO (a:V):veq a a=true:=(jg8 a a).2 rfl
theorem jrn {a b:V}(h:a≠b):veq a b=false:=by
 cases d:veq a b with
 |false=>rfl
 |true=>exact absurd ((jg8 a b).1 d) h
theorem jgr:(a:List V)->klt a a=false
 | []=>rfl
 |x::a=>by show (bif veq x x then klt a a else vlt x x)=false;rw[jpO,Q1];exact jgr a
theorem jej:(a b c:List V)->klt a b=true->klt b c=true->klt a c=true
 |_,[],_,h,k=>by
  rename_i a c;cases a<;>cases h
 |_,_::_,[],h,k=>by cases k
 | [],_::_,_::_,h,k=>rfl
 |x::a,y::b,z::c,h,k=>by
  change (bif veq x y then klt a b else vlt x y)=true at h
  change (bif veq y z then klt b c else vlt y z)=true at k
  show (bif veq x z then klt a c else vlt x z)=true
  cases f:veq x y
  ·rw[f,Q0]at h;cases d:veq y z
   ·rw[d,Q0]at k;have g:=jsl h k;rw[jrn λe=>by rw[e,jro]at g;cases g]
    exact g
   ·have e:=(jg8 y z).1 d;subst e;rw[f];exact h
  ·have e:=(jg8 x y).1 f;subst e;rw[f,Q1]at h;cases d:veq x z
   ·rw[d,Q0]at k;exact k
   ·rw[d,Q1]at k;rw[Q1];exact jej a b c h k
theorem jmY:(a b:List V)->(∀v∈a,j0n v=true)->(∀v∈b,j0n v=true)->a≠b->klt a b=true\/klt b a=true
 | [],[],_,_,h=>absurd rfl h
 | [],_::_,_,_,_=> .inl rfl
 |_::_,[],_,_,_=> .inr rfl
 |x::a,y::b,g,i,h=>by
  show (bif veq x y then klt a b else vlt x y)=true\/(bif veq y x then klt b a else vlt y x)=true
  by_cases d:x=y
  ·subst d;rw[jpO,Q1,Q1];exact jmY a b (λv f=>g v (Qa _ f)) (λv f=>i v (Qa _ f)) λe=>h (by rw[e])
  ·rw[jrn d,jrn (Ne.symm d),Q0,Q0];exact jsk (g x (by simp)) (i y (by simp)) d
theorem jrN {a b:List V}(h:klt a b=true):a≠b:=λe=>by rw[e,jgr]at h;cases h
theorem jrM {a b:List V}(h:klt a b=true):klt b a=false:=by
 cases d:klt b a with
 |false=>rfl
 |true=>rw[<-jgr a];exact(jej a b a h d).symm
theorem j8X {α:Type}{f:Nat->α->Bool}:(l:List α)->(i:Nat)->(Z70 f i l=false↔∀(j:Nat) (h:j<l.length),f (i+j) l[j]=false)
 | [],_=>⟨λ_ j h=>by simp at h,λ_=>rfl⟩
 |x::l,i=>by
  refine⟨jcF (x::l) i,λh=> ?_⟩
  simp only[Z70,Xb];refine⟨h 0 (by simp),(j8X l (i+1)).2 λj b=> ?_⟩
  have:=h (j+1) (by simpa using b)
  rw[show i+1+j=i+(j+1) by omega]
  simpa using this
theorem jsf {α:Type}(z:α)(R:α->α->Bool)(r:∀a b c,R a b=true->R b c=true->R a c=true)(l:List α) :
  (∀(j:Nat) (h:j<l.length),(decide (0<j)&& !R (nth z l ((j:Int)-1)) l[j])=false)↔l.Pairwise λa b=>R a b=true:=by
 rw[XE];constructor
 ·intro h i j f g p;have step:∀(d i:Nat) (f:i+d+1<l.length),R l[i] l[i+d+1]=true:=by
   intro d;induction d with
   |zero=>
    intro i f;have:=h (i+1) (by omega)
    rw[show ((i+1:Nat):Int)-1=(i:Int) by omega,Zax _ _ _ (by omega)]at this
    simpa using this
   |succ d q=>
    intro i f;have m:=q i (by omega)
    have:=h (i+d+2) (by omega)
    rw[show ((i+d+2:Nat):Int)-1=((i+d+1:Nat):Int) by omega,Zax _ _ _ (by omega)]at this
    have n:R l[i+d+1] l[i+d+2]=true:=by simpa using this
    exact r _ _ _ m n
  have:=step (j-i-1) i (by omega)
  have e:i+(j-i-1)+1=j:=by omega
  simp only[e]at this;exact this
 ·intro h j g;by_cases k:0<j
  ·have e:((j:Int)-1)=((j-1:Nat):Int):=by omega
   rw[e,Zax _ _ _ (by omega),h (j-1) j (by omega) g (by omega)]
   simp
  ·rw[Q2 k];rfl
theorem j0e (c:List T):j1T c=true↔c.length<=6/\(∀t∈c,j04 t=true)/\c.Pairwise λa b=>sLt a.1 b.1=true:=by
 unfold j1T;rw[Q6,Ql,QF,j8X];refine YN λ_=> ?_
 rw[<-jsf zT (λa b:T=>sLt a.1 b.1) (λa b c=>jer)]
 constructor
 ·intro h;refine⟨λt ht=> ?_,λj d=> ?_⟩
  ·obtain⟨j,d,rfl⟩:=Xo ht;have:=h j d;simp only[Xb,Xa]at this;exact this.1
  ·have:=h j d;rw[Xu]at this;rw[Xb]at this;exact this.2
 ·rintro⟨f,g⟩ j d;rw[Xu,f _ (Q7 d)];exact g j d
theorem j5X (t:T)(l:List (List V)):j08 t l=true↔j04 t=true/\l.length<=60/\(∀r∈l,j0m t.2.1 r=true)/\l.Pairwise λa b=>klt (j06 t a) (j06 t b)=true:=by
 unfold j08;rw[Q6,Q6,Ql,QF,j8X];refine YN λ_=>YN λ_=> ?_
 rw[<-jsf [] (λa b:List V=>klt (j06 t a) (j06 t b)) (λa b c=>jej _ _ _)]
 constructor
 ·intro h;refine⟨λr i=> ?_,λj d=> ?_⟩
  ·obtain⟨j,d,rfl⟩:=Xo i;have:=h j d;simp only[Xb,Xa]at this;exact this.1
  ·have:=h j d;rw[Xu]at this;rw[Xb]at this;exact this.2
 ·rintro⟨f,g⟩ j d;rw[Xu,f _ (Q7 d)];exact g j d
theorem j1A (d:DB):dbB d=true↔j1T d.1=true/\d.2.length=d.1.length/\∀(i:Nat) (h:i<d.1.length) (j:i<d.2.length),j08 d.1[i] d.2[i]=true:=by
 unfold dbB;rw[Q6,Q6,Ql,QF,j8X];refine YN λ_=>YN λg=> ?_
 constructor
 ·intro h i b f;have:=h i b;rw[Xu,Zax _ _ _ f,Xa]at this;exact this
 ·intro h i b;rw[Xu,Zax _ _ _ (g ▸ b),h i b (g ▸ b)];rfl
theorem jhX {α:Type}{p:α->Bool}{l:List α}{i:Nat}(g:i<l.length)(d:p l[i]=true)(f:∀(j:Nat) (b:j<i),p (l[j]'(by omega))=false):Z9E p l=(i:Int):=by
 unfold Z9E;have:l.findIdx? p=some i:=Xl.2 ⟨g,d,λj b=>by rw[f j b];decide⟩
 rw[this]
theorem jrH {α:Type}{p:α->Bool}{l:List α}(h:∀x∈l,p x=false):Z9E p l= -1:=by
 unfold Z9E;have:l.findIdx? p=none:=Y8.2 h;rw[this]
theorem j9I {α:Type}(p:α->Bool)(l:List α):(Z9E p l= -1/\∀x∈l,p x=false)\/∃(i:Nat) (b:i<l.length),Z9E p l=(i:Int)/\p l[i]=true/\∀(j:Nat) (d:j<i),p (l[j]'(by omega))=false:=by
 unfold Z9E;cases h:l.findIdx? p with
 |none=>exact .inl ⟨rfl,Y8.1 h⟩
 |some i=>
  obtain⟨b,f,g⟩:=Xl.1 h;exact .inr ⟨i,b,rfl,f,λj d=>by simpa using g j d⟩
theorem jqs {α:Type}{p:α->Bool}{l:List α}{i:Nat}(d:i<l.length)(b:p l[i]=true)(g:∀(j:Nat) (f:j<l.length),p l[j]=true->j=i):Z9E p l=(i:Int):=
 jhX d b λj f=>by
  cases h:p (l[j]'(by omega))with
  |false=>rfl
  |true=>exact absurd (g j (by omega) h) (by omega)
end Go.PI.G
