/-
  Program's code interpreted over typed values; printed texts; plain laws. No conditions.
-/
import Derived.Test.YtppeoiidhmegkaaPc
import Derived.Test.YtppeoiidhmegkaaAa
set_option linter.unusedVariables false
namespace Go.PI.G
open Go Go.PI
theorem j3K {left:Int} (h:0<=left):szR left 0=left:=by unfold szR;rw [if_pos (by omega)];omega
theorem j3Y {left:Int} {n rest:Nat} {F:Int->Res} {k:Int->Res} (h0:0<=left) (h1:left<=1048576) (hn:n<=maxLen) (hF:(n:Int)<=left->F (left-n)=k (szR (left-n) rest)) :
  (bif decide (Z8o (left-nI n)<0) then k (-1) else F (Z8o (left-nI n)))=k (szR left (n+rest)):=by
 unfold maxLen at hn
 rw [Z9j (by unfold nI;omega) (by unfold nI;omega)]
 unfold nI
 by_cases h:(n:Int)<=left
 ·rw [Z8I (by omega),cond_false,hF h,Z8W h]
 ·rw [Z8J (by omega),cond_true,Z8X h]
theorem j3X {left:Int} {k:Int->Res} (h0:0<=left):k left=k (szR left 0):=by rw [j3K h0]
theorem j0j {i n:Nat} (h:i<n):inb (i:Int) n=true:=Z9k (by omega) (by omega)
theorem j0e {n:Int} (h: -9223372036854775808<=n/\n<9223372036854775808):Z8o n=n:=Z9j h.1 h.2
theorem j3L (n:Nat):Int.tdiv (n:Int) 10=((n / 10:Nat):Int):=by
 rw [Int.tdiv_eq_ediv_of_nonneg (by omega)];omega
theorem j3M (n:Nat):Int.tmod (n:Int) 10=((n % 10:Nat):Int):=by
 rw [Int.tmod_eq_emod_of_nonneg (by omega)];omega
theorem j2Q {n:Nat} (h:n<10):j22 n=dgt n:=by rw [j22,dif_pos h]
theorem j3n {n:Nat} (h:¬ n<10):j22 n=j22 (n / 10)++dgt ((n % 10:Nat):Int):=by rw [j22,dif_neg h]
theorem j32:∀ (d n:Nat),n<10 ^ (d+1)->(j22 n).size<=d+1
 | 0,n,h=>by rw [j2Q (by omega),j1F];exact Nat.le_refl _
 | d+1,n,h=>by
  by_cases h1:n<10
  ·rw [j2Q h1,j1F];omega
  ·rw [j3n h1,ByteArray.size_append,j1F]
   have:n / 10<10 ^ (d+1):=Nat.div_lt_of_lt_mul (by rw [Nat.pow_succ] at h;omega)
   have:=j32 d (n / 10) this
   omega
theorem j3W (s:ByteArray):s++eS=s:=by
 show s++ByteArray.empty=s
 simp
end Go.PI.G
namespace Go.PI.G
open Go Go.PI
abbrev C:=ByteArray×Int×Bool×Bool×V
abbrev T:=ByteArray×List C×List ByteArray
noncomputable def j0q (s:ByteArray):Bool:= !((Z1e s).any λb=>decide (b<97)||decide (b>122))&&(decide (1<=s.size)&&decide (s.size<=8))
end Go.PI.G
set_option linter.unusedSimpArgs false
namespace Go.PI.G
open Go Go.PI Go.Proofs
theorem j3A (s:ByteArray) (i:Nat) (h:i<(Z1e s).length):bt s (i:Int)=(Z1e s)[i]:=by
 have hl:=j1T s
 have h':i<s.data.size:=by
  have:i<s.size:=by omega
  exact this
 have e1:(Z1e s)[i]=((s.data.toList.map λb:UInt8=>(b.toNat:Int))[i]'(by simpa using h')):=rfl
 rw [e1,List.getElem_map]
 unfold bt
 simp [Array.getElem?_eq_getElem h']
theorem j3N (s:ByteArray) (x:Bool) (k:Bool->Res):(bif x then k false else (bif decide ((nI (ByteArray.size s))>=1) then k (decide ((nI (ByteArray.size s))<=8)) else k false))=k (!x&&(decide (1<=s.size)&&decide (s.size<=8))):=by
 cases x
 ·unfold nI
  by_cases h1:1<=s.size
  ·rw [cond_false,decide_eq_true (show (s.size:Int)>=1 by omega),cond_true,decide_eq_true h1]
   congr 1
   by_cases h2:s.size<=8
   ·rw [decide_eq_true (show (s.size:Int)<=8 by omega),decide_eq_true h2];rfl
   ·rw [decide_eq_false (show ¬ (s.size:Int)<=8 by omega),decide_eq_false h2];rfl
  ·rw [cond_false,decide_eq_false (show ¬ (s.size:Int)>=1 by omega),cond_false,decide_eq_false h1];rfl
 ·rfl
theorem j2q (s:ByteArray) (h:s.size<=LIM) (k:Bool->Res):j0H s k=k (j0q s):=by
 unfold j0H j1p
 have hl:=j1T s
 have:=Z8G (Z1e s) (λi=>i) (λb=>decide (b<97)||decide (b>122)) (step:=j14 s) ((λ(_:Unit)=>bif decide ((nI (ByteArray.size s))>=1) then k (decide ((nI (ByteArray.size s))<=8)) else k false),(λ(_:Unit)=>k false)) (bif decide ((nI (ByteArray.size s))>=1) then k (decide ((nI (ByteArray.size s))<=8)) else k false) (k false) (by omega) (λi rec hi=>by
  show j0n s _ _ _ _=_
  unfold j0n
  unfold LIM at h
  have hi':i<s.size:=by omega
  rw [Z9q hi',cond_true,j0j hi',cond_true,cond_true,j3A s i hi,j0e (n:=(i:Int)+1) (by omega)]
  cases decide ((Z1e s)[i]<97)
  ·cases decide ((Z1e s)[i]>122)<;>rfl
  ·rfl) (λrec=>by
  show j0n s _ _ _ _=_
  unfold j0n
  rw [hl,Z9p,cond_false])
 refine this.trans ?_
 exact j3N s _ k
theorem j2o (s:ByteArray) (h:s.size<=LIM) (k:Bool->Res):j0u s k=k (j0q s):=by
 unfold j0u j0Q
 have hl:=j1T s
 have:=Z8G (Z1e s) (λi=>i) (λb=>decide (b<97)||decide (b>122)) (step:=j12 s) ((λ(_:Unit)=>j0v (nI (ByteArray.size s)) 1 8 λ(r:Bool)=>k r),(λ(_:Unit)=>k false)) (j0v (nI (ByteArray.size s)) 1 8 λ(r:Bool)=>k r) (k false) (by omega) (λi rec hi=>by
  show j0k s _ _ _ _=_
  unfold j0k
  unfold LIM at h
  have hi':i<s.size:=by omega
  rw [Z9q hi',cond_true,j0j hi',cond_true,cond_true,j3A s i hi,j0e (n:=(i:Int)+1) (by omega)]
  cases decide ((Z1e s)[i]<97)
  ·cases decide ((Z1e s)[i]>122)<;>rfl
  ·rfl) (λrec=>by
  show j0k s _ _ _ _=_
  unfold j0k
  rw [hl,Z9p,cond_false])
 refine this.trans ?_
 rw [j3E]
 have hd:decide (1<=nI s.size/\nI s.size<=8)=(decide (1<=s.size)&&decide (s.size<=8)):=by
  rw [<-Bool.decide_and]
  exact decide_eq_decide.2 (by unfold nI;omega)
 rw [hd]
 unfold j0q
 cases (Z1e s).any λb=>decide (b<97)||decide (b>122)<;>rfl
end Go.PI.G
namespace Go.PI.G
open Go Go.PI Go.Proofs
noncomputable def j1z (p:List ByteArray):Bool:= !Z5X (λi s=> !j0q s||(decide (0<i)&&sGe (nth eS p ((i:Int)-1)) s)) 0 p&&decide (p.length<=6)
theorem j3h (c:List ByteArray) (i:Nat) (hi:i<c.length) (hl:c.length<=LIM) (x:Res) (y:Res):(bif decide ((i:Int)>0) then (bif inb (Z8o ((i:Int)-1)) c.length then (bif sGe (nth eS c (Z8o ((i:Int)-1))) c[i] then x else y) else none) else y) =
  bif (decide (0<i)&&sGe (nth eS c ((i:Int)-1)) c[i]) then x else y:=by
 by_cases h:0<i
 ·unfold LIM at hl
  rw [decide_eq_true (show (i:Int)>0 by omega),decide_eq_true h,cond_true,j0e (by omega),Z9k (by omega) (by omega),cond_true,Bool.true_and]
 ·rw [decide_eq_false (show ¬ (i:Int)>0 by omega),decide_eq_false h];rfl
theorem j37 {p:List ByteArray} (h:msr (.slice .str) p<=1048576):p.length<=1048576/\∀ x∈p,x.size<=1048576:=⟨j1V h,λx hx=>j3Q h hx⟩
theorem j3x (p:List ByteArray) (h:msr (.slice .str) p<=1048576) (k:Bool->Res):j1g p k=k (j1z p):=by
 obtain ⟨m1,m2⟩:=j37 h
 unfold j1g j1B j1z
 have:=Z8t p (λi=>i) (λi s=> !j0q s||(decide (0<i)&&sGe (nth eS p ((i:Int)-1)) s)) (step:=j1h p (nI p.length) p) ((λ(_:Unit)=>k (decide (nI p.length<=6))),(λ(_:Unit)=>k false)) (k (decide (nI p.length<=6))) (k false) (by unfold LIM;omega) (λi rec hi=>by
  show j0t _ _ p _ _ _ _=_
  unfold j0t
  rw [Z9q hi,cond_true,j0j hi,cond_true,Z9a _ _ _ hi,j2q _ (by have:=m2 _ (List.getElem_mem hi);unfold LIM;omega),j0e (n:=(i:Int)+1) (by omega),j3h p i hi (by unfold LIM;omega)]
  cases j0q p[i]
  ·rfl
  ·cases (decide (0<i)&&sGe (nth eS p ((i:Int)-1)) p[i])<;>rfl) (λrec=>by
  show j0t _ _ p _ _ _ _=_
  unfold j0t
  rw [Z9p,cond_false])
 refine this.trans ?_
 have hd:decide (nI p.length<=6)=decide (p.length<=6):=decide_eq_decide.2 (by unfold nI;omega)
 rw [hd]
 cases Z5X (λi s=> !j0q s||(decide (0<i)&&sGe (nth eS p ((i:Int)-1)) s)) 0 p
 ·rw [cond_false,Bool.not_false,Bool.true_and]
 ·rfl
theorem j3r (p:List ByteArray) (h:msr (.slice .str) p<=1048576) (k:Bool->Res):j19 p k=k (j1z p):=by
 obtain ⟨m1,m2⟩:=j37 h
 unfold j19 j1x j1z
 have:=Z8t p (λi=>i) (λi s=> !j0q s||(decide (0<i)&&sGe (nth eS p ((i:Int)-1)) s)) (step:=j1a p (nI p.length) p) ((λ(_:Unit)=>k (decide (nI p.length<=6))),(λ(_:Unit)=>k false)) (k (decide (nI p.length<=6))) (k false) (by unfold LIM;omega) (λi rec hi=>by
  show j0r _ _ p _ _ _ _=_
  unfold j0r
  rw [Z9q hi,cond_true,j0j hi,cond_true,Z9a _ _ _ hi,j2o _ (by have:=m2 _ (List.getElem_mem hi);unfold LIM;omega),j0e (n:=(i:Int)+1) (by omega),j3h p i hi (by unfold LIM;omega)]
  cases j0q p[i]
  ·rfl
  ·cases (decide (0<i)&&sGe (nth eS p ((i:Int)-1)) p[i])<;>rfl) (λrec=>by
  show j0r _ _ p _ _ _ _=_
  unfold j0r
  rw [Z9p,cond_false])
 refine this.trans ?_
 have hd:decide (nI p.length<=6)=decide (p.length<=6):=decide_eq_decide.2 (by unfold nI;omega)
 rw [hd]
 cases Z5X (λi s=> !j0q s||(decide (0<i)&&sGe (nth eS p ((i:Int)-1)) s)) 0 p
 ·rw [cond_false,Bool.not_false,Bool.true_and]
 ·rfl
end Go.PI.G
namespace Go.PI.G
open Go Go.PI Go.Proofs
noncomputable def j1R (p:List ByteArray) (s:ByteArray):Bool:=p.any λx=>sEq x s
theorem j3I {α:Type} (q:α->Bool) (l:List α):decide (Z8j q l>=0)=l.any q:=by
 unfold Z8j
 cases h:l.findIdx? q with
 | none=>
  have:=List.findIdx?_eq_none_iff.1 h
  have ha:l.any q=false:=by
   rw [List.any_eq_false]
   intro x hx
   rw [this x hx];simp
  rw [ha];rfl
 | some i=>
  have:=List.findIdx?_eq_some_iff_getElem.1 h
  obtain ⟨hi,hq,_⟩:=this
  have ha:l.any q=true:=List.any_eq_true.2 ⟨l[i],List.getElem_mem hi,hq⟩
  rw [ha]
  show decide ((i:Int)>=0)=true
  exact decide_eq_true (by omega)
theorem j3q (l:List ByteArray) (s:ByteArray) (h:l.length<=LIM) (k:Bool->Res):j02 l s k=k (j1R l s):=by
 unfold j02 j0L j0w j1R
 have:=Z8w l (λi=>i) (λx=>sEq s x) (step:=j0m l s (nI l.length)) ((λ(_:Unit)=>k (decide ((-1:Int)>=0))),(λ(t:Int)=>k (decide (t>=0)))) (λr=>k (decide (r>=0))) h (λi rec hi=>by
  show j01 _ _ _ _ _ _ _=_
  unfold j01
  unfold LIM at h
  rw [Z9q hi,cond_true,j0j hi,cond_true,Z9a _ _ _ hi,j0e (n:=(i:Int)+1) (by omega)]) (λrec=>by
  show j01 _ _ _ _ _ _ _=_
  unfold j01
  rw [Z9p,cond_false])
 refine this.trans ?_
 rw [j3I]
 have:(λx=>sEq s x)=λx=>sEq x s:=by funext x;exact Z8S s x
 rw [this]
end Go.PI.G
namespace Go.PI.G
open Go Go.PI Go.Proofs
theorem j3w (l:List ByteArray) (s:ByteArray) (h:l.length<=LIM) (k:Bool->Res):j10 l s k=k (j1R l s):=by
 unfold j10 j1q j1R
 have:=Z8G l (λi=>i) (λx=>sEq x s) (step:=j15 s l (nI l.length)) ((λ(_:Unit)=>k false),(λ(_:Unit)=>k true)) (k false) (k true) h (λi rec hi=>by
  show j0o _ _ _ _ _ _ _=_
  unfold j0o
  unfold LIM at h
  rw [Z9q hi,cond_true,j0j hi,cond_true,Z9a _ _ _ hi,j0e (n:=(i:Int)+1) (by omega)]) (λrec=>by
  show j0o _ _ _ _ _ _ _=_
  unfold j0o
  rw [Z9p,cond_false])
 refine this.trans ?_
 cases l.any λx=>sEq x s<;>rfl
end Go.PI.G
namespace Go.PI.G
open Go Go.PI Go.Proofs
noncomputable def j1b (s:ByteArray):List ByteArray->List ByteArray
 | []=>[s]
 | x::l=>bif sLt s x then s::x::l else x::j1b s l
theorem j1K (s:ByteArray) (l:List ByteArray):List.Perm (j1b s l) (l++[s]):=by
 induction l with
 | nil=>exact List.Perm.refl _
 | cons x l ih=>
  unfold j1b
  cases sLt s x
  ·exact List.Perm.cons x ih
  ·exact (List.perm_append_singleton s (x::l)).symm
theorem j2Z (a b:ByteArray):sLt a b=decide (a.data.toList<b.data.toList):=by
 unfold sLt
 rw [bytesLess_eq,ByteArray.toList_eq,ByteArray.toList_eq]
theorem j3l {q l:List ByteArray} (hp:List.Perm q l) (hs:List.Pairwise (λx y:ByteArray=>x.data.toList<=y.data.toList) q):j2m l=q:=by
 unfold j2m
 have h:((l.map λs=>s.data.toList).mergeSort λx y=>decide (x<=y))=q.map λs=>s.data.toList:=by
  refine List.Perm.eq_of_pairwise (le:=λa b=>a<=b) (λa b _ _ h1 h2=>List.le_antisymm h1 h2) ?_ ?_ ((List.mergeSort_perm _ _).trans (hp.symm.map _))
  ·have:=List.pairwise_mergeSort (le:=λx y:List UInt8=>decide (x<=y)) (λa b c h1 h2=>decide_eq_true (List.le_trans (of_decide_eq_true h1) (of_decide_eq_true h2))) (λa b=>by
    rcases List.le_total a b with h | h
    ·rw [decide_eq_true h];rfl
    ·rw [decide_eq_true h,Bool.or_true]) (l.map λs=>s.data.toList)
   exact this.imp λh=>of_decide_eq_true h
  ·rw [List.pairwise_map]
   exact hs
 rw [h,List.map_map]
 conv=>rhs;rw [<-List.map_id q]
 rfl
theorem j3k (s:ByteArray) (l:List ByteArray) (h:List.Pairwise (λx y:ByteArray=>x.data.toList<y.data.toList) l):List.Pairwise (λx y:ByteArray=>x.data.toList<=y.data.toList) (j1b s l):=by
 induction l with
 | nil=>exact List.pairwise_singleton _ _
 | cons x l ih=>
  obtain ⟨h1,h2⟩:=List.pairwise_cons.1 h
  unfold j1b
  cases hx:sLt s x
  ·rw [j2Z] at hx
   refine List.pairwise_cons.2 ⟨λy hy=> ?_,ih h2⟩
   rcases List.mem_append.1 ((j1K s l).mem_iff.1 hy) with hy | hy
   ·exact List.le_of_lt (h1 y hy)
   ·have:y=s:=by simpa using hy
    rw [this]
    exact List.not_lt.1 (of_decide_eq_false hx)
  ·rw [j2Z] at hx
   have hx:=of_decide_eq_true hx
   refine List.pairwise_cons.2 ⟨λy hy=> ?_,h.imp λh=>List.le_of_lt h⟩
   rcases List.mem_cons.1 hy with rfl | hy
   ·exact List.le_of_lt hx
   ·exact List.le_of_lt (List.lt_trans hx (h1 y hy))
theorem j2P {α:Type} {bad:Nat->α->Bool}:(l:List α)->(i:Nat)->Z5X bad i l=false->∀ j (h:j<l.length),bad (i+j) l[j]=false
 | [],_,_,j,h=>by cases h
 | x::l,i,hh,j,h=>by
  have hh:(bad i x||Z5X bad (i+1) l)=false:=hh
  rw [Bool.or_eq_false_iff] at hh
  cases j with
  | zero=>exact hh.1
  | succ j=>
   have:=j2P l (i+1) hh.2 j (by simpa using h)
   rw [show i+(j+1)=i+1+j by omega]
   exact this
theorem j3t {p:List ByteArray} (h:j1z p=true):List.Pairwise (λx y:ByteArray=>x.data.toList<y.data.toList) p:=by
 unfold j1z at h
 rw [Bool.and_eq_true] at h
 have h:=h.1
 have h:=j2P p 0 (by simpa using h)
 have step:∀ i (hi:i+1<p.length),p[i].data.toList<p[i+1].data.toList:=λi hi=>by
  have h1:=h (i+1) hi
  rw [Bool.or_eq_false_iff] at h1
  have h2:=h1.2
  rw [show 0+(i+1)=i+1 by omega,decide_eq_true (show 0<i+1 by omega),Bool.true_and,show ((i+1:Nat):Int)-1=(i:Int) by omega,Z9a _ _ _ (show i<p.length by omega)] at h2
  have h3:sLt p[i] p[i+1]=true:=by
   unfold sGe at h2
   unfold sLt
   simpa using h2
  rw [j2Z] at h3
  exact of_decide_eq_true h3
 rw [List.pairwise_iff_getElem]
 intro i j hi hj hij
 induction j with
 | zero=>omega
 | succ j ih=>
  rcases Nat.lt_or_ge i j with h1 | h1
  ·exact List.lt_trans (ih (by omega) h1) (step j hj)
  ·have:i=j:=by omega
   subst this
   exact step i hj
noncomputable def j1y (s:ByteArray) (a:List ByteArray×Bool) (x:ByteArray):List ByteArray×Bool:=bif !a.2&&sLt s x then ((a.1++[s])++[x],true) else (a.1++[x],a.2)
theorem j3B (s:ByteArray) (l o:List ByteArray):l.foldl (j1y s) (o,true)=(o++l,true):=by
 induction l generalizing o with
 | nil=>rw [List.append_nil];rfl
 | cons x l ih=>
  rw [List.foldl_cons]
  show l.foldl (j1y s) (o++[x],true)=_
  rw [ih,List.append_assoc];rfl
theorem j3C (s:ByteArray) (l o:List ByteArray):(bif (l.foldl (j1y s) (o,false)).2 then (l.foldl (j1y s) (o,false)).1 else (l.foldl (j1y s) (o,false)).1++[s])=o++j1b s l:=by
 induction l generalizing o with
 | nil=>rfl
 | cons x l ih=>
  rw [List.foldl_cons]
  unfold j1b
  cases hx:sLt s x
  ·rw [show j1y s (o,false) x=(o++[x],false) by unfold j1y;rw [hx];rfl,ih,List.append_assoc];rfl
  ·rw [show j1y s (o,false) x=((o++[s])++[x],true) by unfold j1y;rw [hx];rfl,j3B,cond_true,cond_true,List.append_assoc,List.append_assoc];rfl
theorem j3m (p:List ByteArray) (s:ByteArray) (hp:p.length<=1048576) (hn:j1R p s=false) (k:List ByteArray->Res):j0O p s k=k (j1b s p):=by
 unfold j0O j1i
 have hno:∀ x∈p,sEq x s=false:=λx hx=>by
  unfold j1R at hn
  have:=List.any_eq_false.1 hn x hx
  simpa using this
 have:=Z73 p (λi (a:List ByteArray×Bool)=>(a.1,a.2,i)) (j1y s) (λi a=>a.1.length=i+(bif a.2 then 1 else 0)) (step:=j0Z s p (nI p.length))
  ((λ(out:List ByteArray) (done:Bool)=>bif !done then bif lim ((List.length out)+1) then k (out++[s]) else none else k out),(λ(_:Unit)=>k p))
  (λa=>k (bif a.2 then a.1 else a.1++[s])) ([],false) (by unfold LIM;omega) (by simp) (λi a hi ha=> ?_) (λi a rec hi ha=> ?_) (λa rec ha=> ?_)
 ·refine this.trans ?_
  rw [j3C];rfl
 ·obtain ⟨o,d⟩:=a
  unfold j1y
  cases d
  ·have ha:o.length=i+0:=ha
   cases sLt s p[i]
   ·show (o++[p[i]]).length=i+1+0
    rw [List.length_append,List.length_singleton];omega
   ·show ((o++[s])++[p[i]]).length=i+1+1
    rw [List.length_append,List.length_append,List.length_singleton,List.length_singleton];omega
  ·have ha:o.length=i+1:=ha
   show (o++[p[i]]).length=i+1+1
   rw [List.length_append,List.length_singleton];omega
 ·show j0f _ _ _ _ _ _ _ _ _=_
  unfold j0f
  rw [Z9q hi,cond_true,j0j hi,cond_true,Z9a _ _ _ hi,hno _ (List.getElem_mem hi),cond_false,j0e (n:=(i:Int)+1) (by omega)]
  unfold j1y
  obtain ⟨o,d⟩:=a
  have ha:o.length<=i+1:=by
   have ha:o.length=i+(bif d then 1 else 0):=ha
   cases d<;>simp at ha<;>omega
  cases d
  ·cases sLt s p[i]
   ·rw [show lim (o.length+1)=true from decide_eq_true (by unfold LIM;omega)];rfl
   ·rw [show lim (o.length+1)=true from decide_eq_true (by unfold LIM;omega),show lim ((o++[s]).length+1)=true from decide_eq_true (by unfold LIM;rw [List.length_append,List.length_singleton];omega)];rfl
  ·rw [show lim (o.length+1)=true from decide_eq_true (by unfold LIM;omega)];rfl
 ·show j0f _ _ _ _ _ _ _ _ _=_
  unfold j0f
  obtain ⟨o,d⟩:=a
  have ha:o.length<=p.length+1:=by
   have ha:o.length=p.length+(bif d then 1 else 0):=ha
   cases d<;>simp at ha<;>omega
  rw [Z9p,cond_false]
  cases d
  ·show (bif lim (o.length+1) then k (o++[s]) else none)=_
   rw [show lim (o.length+1)=true from decide_eq_true (by unfold LIM;omega)];rfl
  ·rfl
noncomputable def j1Q (p:List ByteArray) (t:ByteArray):List ByteArray×Int:=bif !j1z p then ([],1) else bif !j0q t then ([],1) else bif j1R p t then ([],2) else bif (nI p.length)==6 then ([],3) else (j1b t p,0)
theorem j3v (p:List ByteArray) (t:ByteArray) (hp:msr (.slice .str) p<=1048576) (ht:t.size<=1048576) (k:List ByteArray->Int->Res):j0G p t k=k (j1Q p t).1 (j1Q p t).2:=by
 obtain ⟨n1,n2⟩:=j37 hp
 unfold j0G j1Q
 rw [j3x p hp]
 cases j1z p
 ·rfl
 ·rw [Bool.not_true,cond_false,cond_false,j2q t (by unfold LIM;omega)]
  cases j0q t
  ·rfl
  ·rw [Bool.not_true,cond_false,cond_false,j3w p t (by unfold LIM;omega)]
   cases hh:j1R p t
   ·rw [cond_false,cond_false]
    cases (nI p.length)==6
    ·rw [cond_false,cond_false,j3m p t n1 hh]
    ·rfl
   ·rfl
theorem j2E (p:List ByteArray) (t:ByteArray) (hp:msr (.slice .str) p<=1048576) (ht:t.size<=1048576) (k:List ByteArray->Int->Res):j0i p t k=k (j1Q p t).1 (j1Q p t).2:=by
 obtain ⟨n1,n2⟩:=j37 hp
 unfold j0i j1Q
 rw [j3r p hp]
 cases hpb:j1z p
 ·rfl
 ·rw [Bool.not_true,cond_false,cond_false,j2o t (by unfold LIM;omega)]
  cases j0q t
  ·rfl
  ·rw [Bool.not_true,cond_false,cond_false,j3q p t (by unfold LIM;omega)]
   cases hh:j1R p t
   ·rw [cond_false,cond_false]
    cases (nI p.length)==6
    ·rw [cond_false,cond_false]
     unfold j0R
     rw [show lim (0+p.length)=true from decide_eq_true (by unfold LIM;omega),cond_true]
     show (bif lim (p.length+1) then j0d (p++[t]) λx=>k x 0 else none)=_
     rw [show lim (p.length+1)=true from decide_eq_true (by unfold LIM;omega),cond_true]
     unfold j0d
     rw [decide_eq_true (show 0<(p++[t]).length by simp),Bool.true_and,show lim (p++[t]).length=true from decide_eq_true (by unfold LIM;rw [List.length_append,List.length_singleton];omega),cond_true,j3l (j1K t p) (j3k t p (j3t hpb))]
    ·rfl
   ·rfl
theorem j3P (p:List ByteArray) (t:ByteArray):msr (.slice .str) (j1b t p)=msr (.slice .str) p+(1+t.size):=by
 have h1:=(j1K t p).length_eq
 have h2:((j1b t p).map (msr .str)).sum=((p++[t]).map (msr .str)).sum:=((j1K t p).map _).sum_nat
 rw [j1M,j1M]
 rw [List.map_append,List.sum_append] at h2
 have h3:((([t]:List ByteArray)).map (msr .str)).sum=t.size:=by simp [msr]
 rw [h3] at h2
 rw [List.length_append,List.length_singleton] at h1
 have h1':List.length (α:=El .str) (j1b t p)=List.length (α:=El .str) p+1:=h1
 rw [h1']
 have h2':(List.map (msr .str) (j1b t p)).sum=(List.map (msr .str) p).sum+t.size:=h2
 rw [h2']
 omega
theorem j3o:(l:List ByteArray)->(∀ x∈l,x.size<=8)->msr (.slice .str) l<=l.length * 9
 | [],_=>by decide
 | x::l,h=>by
  have h1:=j3o l λy hy=>h y (List.mem_cons_of_mem _ hy)
  have h2:=h x (by simp)
  have e1:=j1M .str (x::l)
  have e2:=j1M .str l
  have e3:(List.map (msr .str) (x::l)).sum=x.size+(List.map (msr .str) l).sum:=by rw [List.map_cons,List.sum_cons];rfl
  have e4:List.length (α:=El .str) (x::l)=List.length (α:=El .str) l+1:=rfl
  have e5:(x::l).length=l.length+1:=rfl
  have e6:List.length (α:=El .str) l=l.length:=rfl
  rw [e5]
  omega
theorem j3D {p:List ByteArray} (h:j1z p=true):msr (.slice .str) p<=54:=by
 unfold j1z at h
 rw [Bool.and_eq_true] at h
 have h2:=of_decide_eq_true h.2
 have h:=j2P p 0 (by simpa using h.1)
 have:=j3o p λx hx=>by
  obtain ⟨i,hi,rfl⟩:=List.mem_iff_getElem.1 hx
  have h1:=h i hi
  rw [Bool.or_eq_false_iff] at h1
  have h3:j0q p[i]=true:=by simpa using h1.1
  unfold j0q at h3
  rw [Bool.and_eq_true,Bool.and_eq_true] at h3
  exact of_decide_eq_true h3.2.2
 omega
theorem j3y {t:ByteArray} (h:j0q t=true):t.size<=8:=by
 unfold j0q at h
 rw [Bool.and_eq_true,Bool.and_eq_true] at h
 exact of_decide_eq_true h.2.2
theorem j3G (p:List ByteArray) (t:ByteArray):msr (.slice .str) (j1Q p t).1<=1048576:=by
 have hz:msr (.slice .str) []<=1048576:=by decide
 unfold j1Q
 cases hp:j1z p
 ·exact hz
 ·cases ht:j0q t
  ·exact hz
  ·cases j1R p t
   ·cases (nI p.length)==6
    ·have h1:=j3P p t
     have h2:=j3D hp
     have h3:=j3y ht
     show msr (.slice .str) (j1b t p)<=_
     omega
    ·exact hz
   ·exact hz
end Go.PI.G
namespace Go.PI.G
open Go Go.PI Go.Proofs
theorem j28 (k:ByteArray->Res):∀ (m n d:Nat) (s:ByteArray),n<m->0<n->n<=4294967296->n<10 ^ (d+1)->s.size+d<=1000 ->
  Z14 j0s m ((n:Int),s) k=k (j22 n++s)
 | 0,n,d,s,h,_,_,_,_=>by omega
 | m+1,n,d,s,h,hn,hb,hd,hs=>by
  rw [Z8C]
  show j0c _ _ _ _=_
  unfold j0c
  have h9:decide ((n:Int)>0)=true:=decide_eq_true (by omega)
  rw [h9,cond_true,j3L,j3M,Z9j (n:=((n / 10:Nat):Int)) (by omega) (by omega)]
  show (bif lim ((dgt ((n % 10:Nat):Int)).size+s.size) then Z14 j0s m (((n / 10:Nat):Int),dgt ((n % 10:Nat):Int)++s) k else none)=_
  rw [j1F,Z9l (by unfold LIM;omega),cond_true]
  by_cases h1:n<10
  ·have h10:n / 10=0:=by omega
   have h11:n % 10=n:=by omega
   rw [h10,h11,j2Q h1]
   obtain ⟨m,rfl⟩:∃ e,m=e+1:=⟨m-1,by omega⟩
   rw [Z8C]
   show j0c _ _ _ _=_
   unfold j0c
   have h0:decide (((0:Nat):Int)>0)=false:=decide_eq_false (by omega)
   rw [h0,cond_false]
  ·obtain ⟨d,rfl⟩:∃ e,d=e+1:=by
    cases d with
    | zero=>exact absurd (by simpa using hd) h1
    | succ d=>exact ⟨d,rfl⟩
   rw [j28 k m (n / 10) d _ (by omega) (by omega) (by omega) (Nat.div_lt_of_lt_mul (by rw [Nat.pow_succ] at hd;omega)) (by rw [ByteArray.size_append,j1F];omega),j3n h1,ByteArray.append_assoc]
theorem j2p (k:Int) (h:1<=k/\k<=4294967296) (K:ByteArray->Res):j0F k K=K (mT k):=by
 unfold j0F j13
 have h0:decide (k<=0)=false:=decide_eq_false (by omega)
 have:=j28 (λ(out:ByteArray)=>bif lim (1+(ByteArray.size out)) then K (z_m++out) else none) Z12 k.toNat 12 eS (Z1U (by omega)) (by omega) (by omega) (by omega) (by show 0+12<=1000;omega)
 rw [show ((k.toNat:Nat):Int)=k by omega,j3W] at this
 rw [h0,cond_false]
 refine this.trans ?_
 have hs:=j32 12 k.toNat (by omega)
 rw [Z9l (by unfold LIM;omega),cond_true]
 rfl
end Go.PI.G
set_option maxRecDepth 10000
namespace Go.PI.G
open Go Go.PI Go.Proofs
theorem j3j (a:(List ByteArray)) (h:msr y1 a<=1048576) (k:(List ByteArray)->Res):j0U a k=k a:=by
 have hl:a.length<=1048576:=j1V h
 unfold j0U
 rw [Z97 (by unfold LIM;omega),cond_true]
 have:=Z9e (eS) a id (step:=j0K a) (λout=>k out) (by unfold LIM;omega) (λout i rec hi hlo=>by
  show j0a a _ _ _ _=_
  unfold j0a
  dsimp only
  simp only [Z9q hi,cond_true,j0j hi,j0j (show i<out.length by omega),Z9a _ _ _ hi,Z9h,j0e (n:=(i:Int)+1) (by omega)]
  rfl) (λout rec=>by
  show j0a a _ _ _ _=_
  unfold j0a
  dsimp only
  rw [Z9p,cond_false])
 rw [List.map_id] at this
 exact this
theorem j3i (a:(List ByteArray)) (left:Int) (h0:0<=left) (h1:left<=1048576) (hw:Wf y1 a) (k:Int->Res):j0T a left k=k (szR left (msr y1 a)):=by
 have hl:a.length<=maxLen:=hw.1
 have hm:msr y1 a=a.length+(a.map (msr .str)).sum:=rfl
 rw [hm]
 unfold j0T
 refine j3Y (F:=λq=>j0y a Z12 q 0 (λleft1=>k left1) (λ_=>k (-1))) (k:=k) h0 h1 hl λhb=> ?_
 unfold j0y
 rw [Z9d (msr .str) a _ (by omega) (λleft i rec hi h0 h1=> ?_) (λleft rec=> ?_) _ (by omega) (by omega)]
 ·by_cases hb:(((a.map (msr .str)).sum:Nat):Int)<=left-a.length
  ·rw [if_pos hb,Z9c hb]
  ·rw [if_neg hb,Z9b hb]
 ·show j09 a _ _ _ _ _=_
  have hx:=hw.2 _ (List.getElem_mem hi)
  unfold j09
  have hx:a[i].size<=maxLen:=hx
  unfold maxLen at hx hl
  rw [Z9q hi,cond_true,j0j hi,cond_true,Z9a _ _ _ hi,j0e (n:=left-nI a[i].size) (by unfold nI;omega),j0e (n:=(i:Int)+1) (by omega)]
  unfold nI
  by_cases hb:((msr .str a[i]:Nat):Int)<=left
  ·have hb':(a[i].size:Int)<=left:=hb
   rw [if_pos hb,Z8I (by omega),cond_false];rfl
  ·have hb':¬ (a[i].size:Int)<=left:=hb
   rw [if_neg hb,Z8J (by omega),cond_true]
 ·show j09 a _ _ _ _ _=_
  unfold j09
  rw [Z9p,cond_false]
theorem j3d (a:(List ByteArray)) (h:msr y1 a<=1048576) (k:Bool->Res):j0S a a k=k true:=by
 have hl:a.length<=1048576:=j1V h
 unfold j0S
 rw [Z9o,cond_false]
 unfold j0Y
 rw [Z93 a _ (by unfold LIM;omega) (λi rec hi=> ?_) (λrec=> ?_)]
 ·show j08 a a _ _ _ _=_
  unfold j08
  simp only [Z9q hi,cond_true,j0j hi,Z9a _ _ _ hi,j0e (n:=(i:Int)+1) (by omega),Z9o,Z8U,cond_false,Bool.not_true]
 ·show j08 a a _ _ _ _=_
  unfold j08
  rw [Z9p,cond_false]
theorem j2S (a:(List ByteArray)) (k:Int) (h:msr y1 a<=1048576) (h0:1<=k) (hk:k+(wgt y1 a:Int)<=4294967296) (K:Int->(List ByteArray)->Res):j0E a k K=K (k+(wgt y1 a:Int)) (mkL (wgt .str) (mk .str) a k):=by
 have hl:a.length<=1048576:=j1V h
 have hwg:wgt y1 a=(a.map (wgt .str)).sum:=rfl
 rw [hwg] at hk ⊢
 unfold j0E j0J
 have:=Z8D (wgt .str) (mk .str) a k (λl k i=>(l,k,i)) (step:=j0B) (λl k=>K k l) (λl k=>K k l) (by unfold LIM;omega) (λl i rec hi hll hli hla=>by
  have e1:=Z6s (wgt .str) a i hi
  have e2:=Z8p (wgt .str) a (i+1)
  generalize hκ:k+((((a.take i).map (wgt .str)).sum:Nat):Int)=κ
  have hκ1:1<=κ/\κ+(wgt .str a[i]:Int)<=4294967296:=by omega
  have hw:(wgt .str a[i]:Int)=1:=by
   have:wgt .str a[i]=1:=by first | rfl | (simp only [wgt];done) | (simp only [wgt];omega)
   first | rfl | omega
  show j05 _ _ _ _ _=_
  dsimp only
  unfold j05
  rw [<-hll] at hi
  have hi':i<a.length:=by omega
  simp (disch:=first | assumption | omega) only [show nI a.length=nI l.length by rw [hll],Z9q,j0j,j3T,cond_true,j3R,j3U,Z9a,hla,j0e,j2p,<-hll]
  rw [Z9h]
  congr 3<;>first | rfl | omega | (simp only [j2W,j2w,j3f,j3s,j2V,j3g,j2C,j30,j2B,j31,Int.natCast_add,Int.natCast_one,<-Int.add_assoc];done) | (simp only [j2W,j2w,j3f,j3s,j2V,j3g,j2C,j30,j2B,j31,Int.natCast_add,Int.natCast_one,<-Int.add_assoc];rfl) | skip) (λl k rec hll=>by
  show j05 _ _ _ _ _=_
  dsimp only
  unfold j05
  rw [<-hll,Z9p,cond_false])
 exact this
theorem j2R (a:(List ByteArray)) (k:Int) (h:msr y1 a<=1048576) (h0:1<=k) (hk:k+(wgt y1 a:Int)<=4294967296) (K:Int->Res):j0D (mkL (wgt .str) (mk .str) a k) k K=K (k+(wgt y1 a:Int)):=by
 have hl:a.length<=1048576:=j1V h
 have hwg:wgt y1 a=(a.map (wgt .str)).sum:=rfl
 rw [hwg] at hk ⊢
 have hll:=Z5t (wgt .str) (mk .str) a k
 have hg:=Z96 (wgt .str) (mk .str) a k
 generalize mkL (wgt .str) (mk .str) a k=l at hll hg
 unfold j0D j0I
 have:=Z8A (wgt .str) a k (λk i=>(k,i)) (step:=j0A l) ((λ(k_1:Int)=>K k_1),(λ(_:Unit)=>K (-1))) (λk=>K k) (by unfold LIM;omega) (λi rec hi=>by
  have e1:=Z6s (wgt .str) a i hi
  have e2:=Z8p (wgt .str) a (i+1)
  have hgi:=hg i hi (by omega)
  generalize hκ:k+((((a.take i).map (wgt .str)).sum:Nat):Int)=κ at hgi
  have hκ1:1<=κ/\κ+(wgt .str a[i]:Int)<=4294967296:=by omega
  have hw:(wgt .str a[i]:Int)=1:=by
   have:wgt .str a[i]=1:=by first | rfl | (simp only [wgt];done) | (simp only [wgt];omega)
   first | rfl | omega
  show j04 _ _ _ _ _ _=_
  dsimp only
  unfold j04
  have hi':i<l.length:=by omega
  simp (disch:=first | assumption | omega) only [Z9q,j0j,cond_true,cond_false,Z9a,hgi,j2W,j2w,j3f,j3s,j2V,j3g,j2C,j30,j2B,j31,Int.natCast_add,Int.natCast_one,<-Int.add_assoc,j0e,j2p,Z9o,Z8U,beq_self_eq_true,Bool.not_true,Z8I]
  all_goals (congr 2;omega)) (λk rec=>by
  show j04 _ _ _ _ _ _=_
  dsimp only
  unfold j04
  rw [<-hll,Z9p,cond_false])
 exact this
end Go.PI.G
namespace Go.PI.G
open Go Go.PI Go.Proofs
theorem j26 (a:List ByteArray) (h:msr y1 a<=1048576) (k:(List ByteArray)->Res):j0h a k=k a:=by
 have h0:msr y1 a<=1048576:=h
 unfold j0h
 simp only [j3j _ h0]
theorem j3J (a:List ByteArray) (left:Int) (h0:0<=left) (h1:left<=1048576) (hw:Wf y1 a) (k:Int->Res):j1c a left k=k (szR left (msr y1 a)):=by
 have hm:msr y1 a=msr y1 a+0:=rfl
 rw [hm]
 unfold j1c
 rw [j3i _ _ (by omega) (by omega) hw]
 by_cases hb0:((msr y1 a:Nat):Int)<=left
 rotate_left
 ·rw [Z9b hb0,Z8X hb0,Z8J (by omega),cond_true]
 rw [Z9c hb0,Z8W hb0,Z8I (by omega),cond_false]
 exact j3X (by omega)
theorem j23 (a:List ByteArray) (h:msr y1 a<=1048576) (k:Bool->Res):j0g a a k=k true:=by
 have h0:msr y1 a<=1048576:=h
 unfold j0g
 simp only [Z9o,Z8U,beq_self_eq_true,cond_false,Bool.not_true,j3d _ h0]
theorem j2F (a:List ByteArray) (k:Int) (h:msr y1 a<=1048576) (h0:1<=k) (hk:k+(j0C y1 a:Int)<=4294967296) (K:Int->(List ByteArray)->Res):j0l a k K=K (k+(j0C y1 a:Int)) (mkT y1 a k):=by
 have h0:msr y1 a<=1048576:=h
 have g0:msr y1 a<=1048576:=h
 have w0:j0C y1 a=wgt y1 a:=rfl
 have hw:j0C y1 a=wgt y1 a:=by first | rfl | (simp only [j1N,w0,j16,j0P,j17,Nat.zero_add,Nat.add_zero];done) | (simp only [j1N,w0,j16,j0P,j17,Nat.zero_add,Nat.add_zero];omega)
 unfold j0l
 simp (disch:=first | assumption | omega) only [j2S]
 first | rfl | (simp only [j1L,j2T,j2v,j2U,w0,j16,j0P,j17,Int.natCast_add,Int.natCast_zero,Int.cast_ofNat_Int,Nat.zero_add,Nat.add_zero,Int.add_zero,<-Int.add_assoc];done) | (simp only [j1L,j2T,j2v,j2U,w0,j16,j0P,j17,Int.natCast_add,Int.natCast_zero,Int.cast_ofNat_Int,Nat.zero_add,Nat.add_zero,Int.add_zero,<-Int.add_assoc];rfl)
theorem j2D (a:List ByteArray) (k:Int) (h:msr y1 a<=1048576) (h0:1<=k) (hk:k+(j0C y1 a:Int)<=4294967296) (K:Int->Res):j0z (mkL (wgt .str) (mk .str) a k) k K=K (k+(j0C y1 a:Int)):=by
 have h0:msr y1 a<=1048576:=h
 have g0:msr y1 a<=1048576:=h
 have w0:j0C y1 a=wgt y1 a:=rfl
 have hw:j0C y1 a=wgt y1 a:=by first | rfl | (simp only [j1N,w0,j16,j0P,j17,Nat.zero_add,Nat.add_zero];done) | (simp only [j1N,w0,j16,j0P,j17,Nat.zero_add,Nat.add_zero];omega)
 unfold j0z
 simp (disch:=first | assumption | omega) only [j1L,j2T,j2v,j2U,w0,j16,j0P,j17,Int.natCast_add,Int.natCast_zero,Int.cast_ofNat_Int,Nat.zero_add,Nat.add_zero,Int.add_zero,<-Int.add_assoc,j2R,Z8I,cond_false]
 all_goals (repeat (show (bif decide (_<(0:Int)) then _ else _)=_;rw [Z8I (by omega),cond_false]))
 all_goals first | done | rfl | (congr 1;omega)
end Go.PI.G
namespace Go.PI.G
open Go Go.PI Go.Proofs
theorem j3F (x0:List ByteArray) (w0:Wf (.slice .str) x0) (x1:ByteArray) (w1:Wf .str x1) (k:Bool->Res):j0b x0 x1 k=k true:=by
 unfold j0b
 by_cases hs:nI x1.size>1048576
 ·rw [decide_eq_true hs,cond_true]
 have hs':x1.size<=1048576:=by unfold nI at hs;omega
 rw [decide_eq_false hs,cond_false,j3J x0 1048576 (by omega) (by omega) w0]
 by_cases hm:((msr (.slice .str) x0:Nat):Int)<=1048576
 rotate_left
 ·rw [Z9b hm];rfl
 have hm':msr (.slice .str) x0<=1048576:=by omega
 have hq:=j3G x0 x1
 rw [Z9c hm,decide_eq_false (by omega),cond_false,j26 x0 hm',j3v x0 x1 hm' hs',j26 x0 hm',j2E x0 x1 hm' hs',j23 _ hq,Bool.not_true,cond_false,Z9o,cond_false,j26 x0 hm',j23 x0 hm',Bool.not_true,cond_false]
 have f0:=j33 (τ:= .slice .str) (by decide) hm'
 have f0':=j1r (.slice .str) x0
 have f2:=j33 (τ:= .slice .str) (by decide) hq
 have f2':=j1r (.slice .str) (j1Q x0 x1).1
 have k0:(1:Int)+((j0C (.slice .str) x0:Nat):Int)<=4294967296:=by omega
 have k2:(1:Int)+((j0C (.slice .str) (j1Q x0 x1).1:Nat):Int)<=4294967296:=by omega
 rw [j2F x0 1 hm' (by omega) k0]
 unfold j03
 rw [decide_eq_false (by omega),cond_false,j23 _ hq,Bool.not_true,cond_false,Z9o,cond_false,j2F _ 1 hq (by omega) k2,j1L,j2D _ 1 hq (by omega) k2,decide_eq_false (by omega),cond_false,Z9o,cond_false,j26 x0 hm',j2E x0 x1 hm' hs',j23 _ hq,Bool.not_true,cond_false,Z9o,cond_false,j2D _ 1 hq (by omega) k2,decide_eq_false (by omega),cond_false,Z9o,cond_false]
end Go.PI.G
