/-
  Program's code interpreted over typed values; printed texts; plain laws. No conditions.
-/
import Derived.Test.YtppeoiidhmegkaaNd
import Derived.Test.YtppeoiidhmegkaaNa
set_option linter.unusedVariables false
namespace Go.PI.G
open Go Go.PI
abbrev C:=ByteArray×Int×Bool×Bool×V
abbrev T:=ByteArray×List C×List ByteArray
abbrev zC:C:=(eS,0,false,false,0,0,eS)
theorem jbf {α:Type} (p:α->Bool) (l:List α): -1<=Z8j p l/\Z8j p l<(l.length:Int):=by
 unfold Z8j
 cases h:l.findIdx? p with
 | none=>simp only [];omega
 | some i=>
  have:=(List.findIdx?_eq_some_iff_findIdx_eq.1 h).1
  simp only [];omega
theorem jbb {α:Type} {f:Nat->α->Bool}:(l:List α)->(i:Nat)->Z5X f i l=false->∀ (j:Nat) (h:j<l.length),f (i+j) l[j]=false
 | [],_,_,j,h=>by simp at h
 | x::l,i,h,j,hj=>by
  simp only [Z5X,Bool.or_eq_false_iff] at h
  cases j with
  | zero=>simpa using h.1
  | succ j=>
   have:=jbb l (i+1) h.2 j (by simpa using hj)
   rw [show i+(j+1)=i+1+j by omega]
   simpa using this
noncomputable def j09 (s:ByteArray):Bool:= !((Z1e s).any λb=>decide (b<97)||decide (b>122))&&(decide (1<=s.size)&&decide (s.size<=8))
def jbi (v:V):Bool:=(v.1==0)&&((v.2.1==0)&&sEq v.2.2 eS)
noncomputable def j10 (c:C):Bool:=j09 c.1&&(decide (1<=c.2.1/\c.2.1<=3)&&(j0h c.2.2.2.2&&(bif c.2.2.2.1 then (c.2.2.2.2.1==c.2.1)||((c.2.2.2.2.1==0)&& !c.2.2.1) else jbi c.2.2.2.2)))
def j0n (l:List C) (n:ByteArray):Int:=Z8j (λc=>sEq c.1 n) l
theorem j5f (l:List C) (n:ByteArray): -1<=j0n l n/\j0n l n<(l.length:Int):=jbf _ _
theorem jeP:j0h (0,0,eS)=true:=by
 show (((0:Int)==0)&&sEq eS eS)=true
 rw [Z8T];rfl
theorem je5:jbi (0,0,eS)=true:=by
 show (((0:Int)==0)&&(((0:Int)==0)&&sEq eS eS))=true
 rw [Z8T];rfl
def j2O (l:List C):Int->List ByteArray->Bool
 | _,[]=>true
 | last,k::ks=> !decide (j0n l k<=last)&&((nth zC l (j0n l k)).2.2.1&&j2O l (j0n l k) ks)
noncomputable def j5W (l:List C):Bool:= !Z5X (λi c=> !j10 c||(j0n l c.1 != (i:Int))) 0 l
noncomputable def j9d (t:T):Bool:=(j09 t.1&&(decide (1<=t.2.1.length)&&(decide (t.2.1.length<=8)&&decide (1<=t.2.2.length))))&&(j5W t.2.1&&j2O t.2.1 (-1) t.2.2)
theorem jei {t:T} (h:j9d t=true):j09 t.1=true/\1<=t.2.1.length/\t.2.1.length<=8/\1<=t.2.2.length/\j5W t.2.1=true/\j2O t.2.1 (-1) t.2.2=true:=by
 unfold j9d at h
 simp only [Bool.and_eq_true,decide_eq_true_eq] at h
 exact ⟨h.1.1,h.1.2.1,h.1.2.2.1,h.1.2.2.2,h.2.1,h.2.2⟩
theorem j9K {l:List C}:(ks:List ByteArray)->(last:Int)-> -1<=last->j2O l last ks=true->∀ k∈ks,0<=j0n l k/\j0n l k<(l.length:Int)
 | [],_,_,_,k,hk=>by cases hk
 | q::ks,last,h0,h,k,hk=>by
  simp only [j2O,Bool.and_eq_true,Bool.not_eq_true',decide_eq_false_iff_not] at h
  have h1:=(jbf (λc:C=>sEq c.1 q) l).2
  have h2:0<=j0n l q:=by omega
  rcases List.mem_cons.1 hk with rfl | hk
  ·exact ⟨h2,h1⟩
  ·exact j9K ks (j0n l q) (by omega) h.2.2 k hk
theorem jeq {l:List C} (h:j5W l=true) (i:Nat) (hi:i<l.length):j10 l[i]=true:=by
 unfold j5W at h
 have:=jbb l 0 (by simpa using h) i hi
 simp only [Bool.or_eq_false_iff,Bool.not_eq_false'] at this
 exact this.1
end Go.PI.G
set_option linter.unusedSimpArgs false
namespace Go.PI.G
open Go Go.PI Go.Proofs
theorem jem (s:ByteArray) (i:Nat) (h:i<(Z1e s).length):bt s (i:Int)=(Z1e s)[i]:=by
 have hl:=j0s s
 have h':i<s.data.size:=by
  have:i<s.size:=by omega
  exact this
 have e1:(Z1e s)[i]=((s.data.toList.map λb:UInt8=>(b.toNat:Int))[i]'(by simpa using h')):=rfl
 rw [e1,List.getElem_map]
 unfold bt
 simp [Array.getElem?_eq_getElem h']
theorem jf9 (s:ByteArray) (x:Bool) (k:Bool->Res):(bif x then k false else (bif decide ((nI (ByteArray.size s))>=1) then k (decide ((nI (ByteArray.size s))<=8)) else k false))=k (!x&&(decide (1<=s.size)&&decide (s.size<=8))):=by
 cases x
 ·unfold nI
  by_cases h1:1<=s.size
  ·rw [cond_false,decide_eq_true (show (s.size:Int)>=1 by omega),cond_true,decide_eq_true h1]
   congr 1
   by_cases h2:s.size<=8
   ·rw [decide_eq_true (show (s.size:Int)<=8 by omega),decide_eq_true h2];rfl
   ·rw [decide_eq_false (show ¬ (s.size:Int)<=8 by omega),decide_eq_false h2];rfl
  ·rw [cond_false,decide_eq_false (show ¬ (s.size:Int)>=1 by omega),cond_false,decide_eq_false h1];rfl
 ·rfl
theorem j1t (s:ByteArray) (h:s.size<=LIM) (k:Bool->Res):j0l s k=k (j09 s):=by
 unfold j0l j6Z
 have hl:=j0s s
 have:=Z8G (Z1e s) (λi=>i) (λb=>decide (b<97)||decide (b>122)) (step:=j5D s) ((λ(_:Unit)=>bif decide ((nI (ByteArray.size s))>=1) then k (decide ((nI (ByteArray.size s))<=8)) else k false),(λ(_:Unit)=>k false)) (bif decide ((nI (ByteArray.size s))>=1) then k (decide ((nI (ByteArray.size s))<=8)) else k false) (k false) (by omega) (λi rec hi=>by
  show j2l s _ _ _ _=_
  unfold j2l
  unfold LIM at h
  have hi':i<s.size:=by omega
  rw [Z9q hi',cond_true,j07 hi',cond_true,cond_true,jem s i hi,j03 (n:=(i:Int)+1) (by omega)]
  cases decide ((Z1e s)[i]<97)
  ·cases decide ((Z1e s)[i]>122)<;>rfl
  ·rfl) (λrec=>by
  show j2l s _ _ _ _=_
  unfold j2l
  rw [hl,Z9p,cond_false])
 refine this.trans ?_
 exact jf9 s _ k
theorem j23 (s:ByteArray) (h:s.size<=LIM) (k:Bool->Res):j0k s k=k (j09 s):=by
 unfold j0k j4J
 have hl:=j0s s
 have:=Z8G (Z1e s) (λi=>i) (λb=>decide (b<97)||decide (b>122)) (step:=j5s s) ((λ(_:Unit)=>j0a (nI (ByteArray.size s)) 1 8 λ(r:Bool)=>k r),(λ(_:Unit)=>k false)) (j0a (nI (ByteArray.size s)) 1 8 λ(r:Bool)=>k r) (k false) (by omega) (λi rec hi=>by
  show j2d s _ _ _ _=_
  unfold j2d
  unfold LIM at h
  have hi':i<s.size:=by omega
  rw [Z9q hi',cond_true,j07 hi',cond_true,cond_true,jem s i hi,j03 (n:=(i:Int)+1) (by omega)]
  cases decide ((Z1e s)[i]<97)
  ·cases decide ((Z1e s)[i]>122)<;>rfl
  ·rfl) (λrec=>by
  show j2d s _ _ _ _=_
  unfold j2d
  rw [hl,Z9p,cond_false])
 refine this.trans ?_
 rw [j33]
 have hd:decide (1<=nI s.size/\nI s.size<=8)=(decide (1<=s.size)&&decide (s.size<=8)):=by
  rw [<-Bool.decide_and]
  exact decide_eq_decide.2 (by unfold nI;omega)
 rw [hd]
 unfold j09
 cases (Z1e s).any λb=>decide (b<97)||decide (b>122)<;>rfl
theorem jbE (c:C) (h:c.1.size<=LIM) (k:Bool->Res):j2S c k=k (j10 c):=by
 obtain ⟨n,ty,nt,hs,df⟩:=c
 unfold j2S j10
 dsimp only at h ⊢
 rw [j1t n h,j9c]
 cases j09 n
 ·rfl
 ·rw [Bool.not_true,cond_false,Bool.true_and]
  by_cases h1:1<=ty/\ty<=3
  ·rw [decide_eq_false (show ¬ ty<1 by omega),cond_false,decide_eq_false (show ¬ ty>3 by omega),cond_false,decide_eq_true h1,Bool.true_and]
   cases hs
   ·rw [Bool.not_false,cond_true,cond_false]
    have:j0h df=false->jbi df=false:=λhv=>by
     cases hn:jbi df with
     | false=>rfl
     | true=>
      unfold jbi at hn
      simp only [Bool.and_eq_true,beq_iff_eq,j2a] at hn
      have:df=(0,0,eS):=by
       obtain ⟨a,b,c⟩:=df
       simp only at hn
       rw [hn.1,hn.2.1,hn.2.2]
      rw [this,jeP] at hv
      cases hv
    cases hv:j0h df
    ·rw [Bool.false_and]
     exact congrArg k (this hv)
    ·rfl
   ·rw [Bool.not_true,cond_false,cond_true]
    cases hv:j0h df
    ·rfl
    ·rw [cond_true,Bool.true_and]
     have hnull:(df.1==0)=true->((df.1==0)&&((df.2.1==0)&&sEq df.2.2 eS))=true:=λh0=>by
      rcases j0B hv with rfl | ⟨m,_,rfl⟩ | ⟨m,_,rfl⟩ | ⟨m,_,rfl⟩
      ·exact je5
      ·cases h0
      ·cases h0
      ·cases h0
     cases h0:df.1==0
     ·rw [Bool.false_and,cond_false]
      cases df.1==ty<;>rfl
     ·have:=hnull h0
      rw [h0] at this
      rw [this,cond_true,cond_true]
      have hty:(df.1==ty)=false:=by
       simp only [beq_iff_eq] at h0
       rw [h0];simp;omega
      rw [hty,Bool.false_or,Bool.true_and]
  ·rw [decide_eq_false h1]
   by_cases h2:ty<1
   ·rw [decide_eq_true h2];rfl
   ·rw [decide_eq_false h2,cond_false,decide_eq_true (show ty>3 by omega)];rfl
theorem jbg (c:C) (h:c.1.size<=LIM) (k:Bool->Res):j2J c k=k (j10 c):=by
 obtain ⟨n,ty,nt,hs,df⟩:=c
 unfold j2J j10
 dsimp only at h ⊢
 rw [j23 n h,j33,jbh]
 cases j09 n
 ·rfl
 ·cases decide (1<=ty/\ty<=3)
  ·rfl
  ·cases j0h df
   ·rfl
   ·cases hs
    ·rfl
    ·cases df.1==ty
     ·cases df.1==0<;>rfl
     ·rfl
theorem jcp (t:T) (n:ByteArray) (h:t.2.1.length<=LIM) (k:Int->Res):j4Q t n k=k (j0n t.2.1 n):=by
 unfold j4Q j7r
 refine Z8w t.2.1 (λi=>i) (λc=>sEq c.1 n) (step:=j6l n t.2.1 (nI t.2.1.length)) _ k h (λi rec hi=> ?_) (λrec=> ?_)
 ·show j2R n _ _ _ _ _ _=_
  unfold j2R
  unfold LIM at h
  rw [Z9q hi,cond_true,j07 hi,cond_true,Z9a _ _ _ hi,j03 (n:=(i:Int)+1) (by omega)]
 ·show j2R n _ _ _ _ _ _=_
  unfold j2R
  rw [Z9p,cond_false]
theorem jch (t:T) (n:ByteArray) (h:t.2.1.length<=LIM) (k:Int->Res):j4F t n k=k (j0n t.2.1 n):=by
 unfold j4F j3F j2v
 refine Z8w t.2.1 (λi=>i) (λc=>sEq c.1 n) (step:=j20 t.2.1 n (nI t.2.1.length)) _ k h (λi rec hi=> ?_) (λrec=> ?_)
 ·show j0z _ n _ _ _ _ _=_
  unfold j0z j8I
  unfold LIM at h
  rw [Z9q hi,cond_true,j07 hi,cond_true,Z9a _ _ _ hi,j03 (n:=(i:Int)+1) (by omega)]
 ·show j0z _ n _ _ _ _ _=_
  unfold j0z
  rw [Z9p,cond_false]
def tSm (t:T):Prop:=t.1.size<=1048576/\t.2.1.length<=1048576/\t.2.2.length<=1048576/\(∀ c∈t.2.1,c.1.size<=1048576)/\∀ x∈t.2.2,x.size<=1048576
theorem jcT (t:T) (h:tSm t) (a b:Unit->Res):j2U t.2.1 (nI t.2.1.length) t Z12 0 a b=bif j5W t.2.1 then a () else b ():=by
 have hh:=h
 obtain ⟨m1,m2,m3,m4,m5⟩:=hh
 unfold j2U
 have:=Z8t t.2.1 (λi=>i) (λi c=> !j10 c||(j0n t.2.1 c.1 != (i:Int))) (step:=j3a t.2.1 (nI t.2.1.length) t) (a,b) (a ()) (b ()) (by unfold LIM;omega) (λi rec hi=>by
  show j19 _ _ t _ _ _ _=_
  unfold j19
  rw [Z9q hi,cond_true,j07 hi,cond_true,Z9a _ _ _ hi,jbE _ (by have:=m4 _ (List.getElem_mem hi);unfold LIM;omega),jcp t _ (by unfold LIM;omega),j03 (n:=(i:Int)+1) (by omega)]
  cases j10 t.2.1[i]
  ·rfl
  ·cases j0n t.2.1 t.2.1[i].1 != (i:Int)<;>rfl) (λrec=>by
  show j19 _ _ t _ _ _ _=_
  unfold j19
  rw [Z9p,cond_false])
 refine this.trans ?_
 unfold j5W
 cases Z5X (λi c=> !j10 c||(j0n t.2.1 c.1 != (i:Int))) 0 t.2.1<;>rfl
theorem jcI (t:T) (h:tSm t) (a b:Unit->Res):j2M t.2.1 (nI t.2.1.length) t Z12 0 a b=bif j5W t.2.1 then a () else b ():=by
 have hh:=h
 obtain ⟨m1,m2,m3,m4,m5⟩:=hh
 unfold j2M
 have:=Z8t t.2.1 (λi=>i) (λi c=> !j10 c||(j0n t.2.1 c.1 != (i:Int))) (step:=j38 t.2.1 (nI t.2.1.length) t) (a,b) (a ()) (b ()) (by unfold LIM;omega) (λi rec hi=>by
  show j17 _ _ t _ _ _ _=_
  unfold j17
  rw [Z9q hi,cond_true,j07 hi,cond_true,Z9a _ _ _ hi,jbg _ (by have:=m4 _ (List.getElem_mem hi);unfold LIM;omega),jch t _ (by unfold LIM;omega),j03 (n:=(i:Int)+1) (by omega)]
  cases j10 t.2.1[i]
  ·rfl
  ·cases j0n t.2.1 t.2.1[i].1 != (i:Int)<;>rfl) (λrec=>by
  show j17 _ _ t _ _ _ _=_
  unfold j17
  rw [Z9p,cond_false])
 refine this.trans ?_
 unfold j5W
 cases Z5X (λi c=> !j10 c||(j0n t.2.1 c.1 != (i:Int))) 0 t.2.1<;>rfl
def j4K (l:List C) (last:Int) (k:ByteArray):Except Unit Int:=bif decide (j0n l k<=last) then .error () else bif !(nth zC l (j0n l k)).2.2.1 then .error () else .ok (j0n l k)
theorem j9L (l:List C):(ks:List ByteArray)->(i:Nat)->(last:Int)->(∃ z,Z1y (λ_ last k=>j4K l last k) i ks last= .ok z/\j2O l last ks=true)\/(Z1y (λ_ last k=>j4K l last k) i ks last= .error ()/\j2O l last ks=false)
 | [],_,last=> .inl ⟨last,rfl,rfl⟩
 | k::ks,i,last=>by
  have ih:=j9L l ks (i+1) (j0n l k)
  simp only [Z1y,j2O,j4K] at ih ⊢
  cases decide (j0n l k<=last)
  ·cases (nth zC l (j0n l k)).2.2.1
   ·exact .inr ⟨rfl,rfl⟩
   ·exact ih
  ·exact .inr ⟨rfl,rfl⟩
theorem jcU (t:T) (h:tSm t) (a b:Unit->Res):j2V t.2.2 (nI t.2.2.length) t Z12 (-1) 0 a b=bif j2O t.2.1 (-1) t.2.2 then a () else b ():=by
 have hh:=h
 obtain ⟨m1,m2,m3,m4,m5⟩:=hh
 unfold j2V
 have:=Z3t t.2.2 (λi last=>(last,i)) (λ_ last k=>j4K t.2.1 last k) (λ_ last=> -1<=last) (step:=j53 t.2.2 (nI t.2.2.length) t) (a,b) (λ_=>a ()) (λ_=>b ()) (-1) (by unfold LIM;omega) (by omega) (λi last last' hi h0 hk=>by
  unfold j4K at hk
  have:=(j5f t.2.1 t.2.2[i]).1
  cases h1:decide (j0n t.2.1 t.2.2[i]<=last)
  ·rw [h1,cond_false] at hk
   cases h2:(nth zC t.2.1 (j0n t.2.1 t.2.2[i])).2.2.1
   ·rw [h2] at hk;cases hk
   ·rw [h2] at hk
    cases hk
    exact this
  ·rw [h1] at hk;cases hk) (λi last rec hi h0=>by
  show j1U _ _ t _ _ _ _ _=_
  unfold j1U
  dsimp only
  rw [Z9q hi,cond_true,j07 hi,cond_true,Z9a _ _ _ hi,jcp t _ (by unfold LIM;omega),j03 (n:=(i:Int)+1) (by omega)]
  unfold j4K
  by_cases h1:j0n t.2.1 t.2.2[i]<=last
  ·rw [decide_eq_true h1];rfl
  ·have hr:=(j5f t.2.1 t.2.2[i]).2
   rw [decide_eq_false h1,cond_false,cond_false,Z9k (by omega) hr,cond_true]
   cases (nth zC t.2.1 (j0n t.2.1 t.2.2[i])).2.2.1<;>rfl) (λlast rec _=>by
  show j1U _ _ t _ _ _ _ _=_
  unfold j1U
  dsimp only
  rw [Z9p,cond_false])
 refine this.trans ?_
 rcases j9L t.2.1 t.2.2 0 (-1) with ⟨z,h1,h2⟩ | ⟨h1,h2⟩<;>rw [h1,h2]<;>rfl
theorem jcJ (t:T) (h:tSm t) (a b:Unit->Res):j2N t.2.2 (nI t.2.2.length) t Z12 (-1) 0 a b=bif j2O t.2.1 (-1) t.2.2 then a () else b ():=by
 have hh:=h
 obtain ⟨m1,m2,m3,m4,m5⟩:=hh
 unfold j2N
 have:=Z3t t.2.2 (λi last=>(last,i)) (λ_ last k=>j4K t.2.1 last k) (λ_ last=> -1<=last) (step:=j4X t.2.2 (nI t.2.2.length) t) (a,b) (λ_=>a ()) (λ_=>b ()) (-1) (by unfold LIM;omega) (by omega) (λi last last' hi h0 hk=>by
  unfold j4K at hk
  have:=(j5f t.2.1 t.2.2[i]).1
  cases h1:decide (j0n t.2.1 t.2.2[i]<=last)
  ·rw [h1,cond_false] at hk
   cases h2:(nth zC t.2.1 (j0n t.2.1 t.2.2[i])).2.2.1
   ·rw [h2] at hk;cases hk
   ·rw [h2] at hk
    cases hk
    exact this
  ·rw [h1] at hk;cases hk) (λi last rec hi h0=>by
  show j1N _ _ t _ _ _ _ _=_
  unfold j1N
  dsimp only
  rw [Z9q hi,cond_true,j07 hi,cond_true,Z9a _ _ _ hi,jch t _ (by unfold LIM;omega),j03 (n:=(i:Int)+1) (by omega)]
  unfold j4K
  by_cases h1:j0n t.2.1 t.2.2[i]<=last
  ·rw [decide_eq_true h1];rfl
  ·have hr:=(j5f t.2.1 t.2.2[i]).2
   rw [decide_eq_false h1,cond_false,cond_false,Z9k (by omega) hr,cond_true]
   cases (nth zC t.2.1 (j0n t.2.1 t.2.2[i])).2.2.1<;>rfl) (λlast rec _=>by
  show j1N _ _ t _ _ _ _ _=_
  unfold j1N
  dsimp only
  rw [Z9p,cond_false])
 refine this.trans ?_
 rcases j9L t.2.1 t.2.2 0 (-1) with ⟨z,h1,h2⟩ | ⟨h1,h2⟩<;>rw [h1,h2]<;>rfl
theorem jf8 (t:T) (k:Bool->Res):j2W t k=j0l t.1 λw=>k (!(w&&(decide (1<=t.2.1.length)&&(decide (t.2.1.length<=8)&&decide (1<=t.2.2.length))))):=by
 unfold j2W
 congr 1
 funext w
 unfold nI
 cases w
 ·rfl
 ·rw [Bool.not_true,cond_false,Bool.true_and]
  by_cases h1:1<=t.2.1.length
  ·rw [decide_eq_false (show ¬ (t.2.1.length:Int)<1 by omega),cond_false,decide_eq_true h1,Bool.true_and]
   by_cases h2:t.2.1.length<=8
   ·rw [decide_eq_false (show ¬ (t.2.1.length:Int)>8 by omega),cond_false,decide_eq_true h2,Bool.true_and]
    congr 1
    by_cases h3:1<=t.2.2.length
    ·rw [decide_eq_false (show ¬ (t.2.2.length:Int)<1 by omega),decide_eq_true h3];rfl
    ·rw [decide_eq_true (show (t.2.2.length:Int)<1 by omega),decide_eq_false h3];rfl
   ·rw [decide_eq_true (show (t.2.1.length:Int)>8 by omega),decide_eq_false h2];rfl
  ·rw [decide_eq_true (show (t.2.1.length:Int)<1 by omega),decide_eq_false h1];rfl
theorem jdA (t:T) (h:tSm t) (k:Bool->Res):j3r t k=k (j9d t):=by
 have hh:=h
 obtain ⟨m1,m2,m3,m4,m5⟩:=hh
 unfold j3r j9d
 rw [jf8,j1t _ (by unfold LIM;omega),jcT t h,jcU t h]
 cases j09 t.1&&(decide (1<=t.2.1.length)&&(decide (t.2.1.length<=8)&&decide (1<=t.2.2.length)))
 ·rfl
 ·cases j5W t.2.1
  ·rfl
  ·cases j2O t.2.1 (-1) t.2.2<;>rfl
theorem jdx (t:T) (h:tSm t) (k:Bool->Res):j3i t k=k (j9d t):=by
 have hh:=h
 obtain ⟨m1,m2,m3,m4,m5⟩:=hh
 unfold j3i j9d
 rw [j23 _ (by unfold LIM;omega),j33,jcI t h,jcJ t h]
 have hd:decide (1<=nI t.2.1.length/\nI t.2.1.length<=8)=(decide (1<=t.2.1.length)&&decide (t.2.1.length<=8)):=by
  rw [<-Bool.decide_and]
  exact decide_eq_decide.2 (by unfold nI;omega)
 have hk:decide (nI t.2.2.length>0)=decide (1<=t.2.2.length):=decide_eq_decide.2 (by unfold nI;omega)
 rw [hd,hk]
 cases j5W t.2.1
 ·rw [Bool.false_and,Bool.and_false];rfl
 ·cases j2O t.2.1 (-1) t.2.2
  ·rw [Bool.and_false,Bool.and_false];rfl
  ·cases j09 t.1
   ·rfl
   ·cases decide (1<=t.2.1.length)
    ·rfl
    ·cases decide (t.2.1.length<=8)
     ·rfl
     ·cases decide (1<=t.2.2.length)<;>rfl
end Go.PI.G
namespace Go.PI.G
open Go Go.PI
def free (b:Int) (s:ByteArray):Prop:=b ∉ Z1e s
theorem j7K {s:ByteArray} (h:j09 s=true):1<=s.size/\s.size<=8:=by
 unfold j09 at h
 simp only [Bool.and_eq_true,decide_eq_true_eq] at h
 exact h.2
end Go.PI.G
namespace Go.PI.G
open Go Go.PI
abbrev D:=Int×ByteArray×List C×List ByteArray×ByteArray×ByteArray
abbrev ST:=Int×ByteArray×List V×List V×D
abbrev zD:D:=(0,eS,[],[],eS,eS)
abbrev zST:ST:=(0,eS,[],[],0,eS,[],[],eS,eS)
theorem jcW:∃ m,Z12=m+1:=⟨Z12-1,by have:=Z1U (n:=1) (by omega);omega⟩
theorem j4O (n:Nat):(nI n==0)=(n==0):=by
 unfold nI
 cases n with
 | zero=>rfl
 | succ n=>show ((((n+1:Nat):Int))==0)=false;simp;omega
theorem jeA (n:Nat):(nI n==1)=(n==1):=by
 unfold nI
 by_cases h:n=1
 ·subst h;rfl
 ·have h1:(n==1)=false:=by simp [h]
  have h2:((n:Int)==1)=false:=by simp;omega
  rw [h1,h2]
theorem je4 (m n:Nat):(nI m != nI n)= !(m==n):=by
 unfold nI
 by_cases h:m=n
 ·subst h;simp
 ·have h1:(m==n)=false:=by simp [h]
  have h2:((m:Int) != n)=true:=by simp;omega
  rw [h1,h2];rfl
def noD (d:D):Bool:=(d.1==0)&&(sEq d.2.1 eS&&((d.2.2.1.length==0)&&((d.2.2.2.1.length==0)&&(sEq d.2.2.2.2.1 eS&&sEq d.2.2.2.2.2 eS))))
def j7f (d:D):Bool:=(d.2.2.1.length==0)&&(d.2.2.2.1.length==0)
noncomputable def j4W (d:D):Bool:=j09 d.2.1 &&
 (bif d.1==1 then sEq d.2.2.2.2.1 eS&&(sEq d.2.2.2.2.2 eS&&j9d (d.2.1,d.2.2.1,d.2.2.2.1))
  else bif d.1==2 then j7f d&&(sEq d.2.2.2.2.1 eS&&sEq d.2.2.2.2.2 eS)
  else bif d.1==3 then (d.2.2.1.length==1)&&(j10 (nth zC d.2.2.1 0)&&(((nth zC d.2.2.1 0).2.2.2.1|| !(nth zC d.2.2.1 0).2.2.1)&&((d.2.2.2.1.length==0)&&(sEq d.2.2.2.2.1 eS&&sEq d.2.2.2.2.2 eS))))
  else bif d.1==4 then j7f d&&(j09 d.2.2.2.2.1&&sEq d.2.2.2.2.2 eS)
  else bif d.1==5 then j7f d&&(j09 d.2.2.2.2.1&&j09 d.2.2.2.2.2)
  else false)
def j1g (l:List V):Bool:=l.all j0h&&(decide (1<=l.length)&&decide (l.length<=8))
noncomputable def stB (s:ST):Bool:=j09 s.2.1 &&
 (bif s.1==1 then (s.2.2.1.length==0)&&(j1g s.2.2.2.1&&noD s.2.2.2.2)
  else bif s.1==2 then j1g s.2.2.1&&(j1g s.2.2.2.1&&noD s.2.2.2.2)
  else bif s.1==3 then j1g s.2.2.1&&((s.2.2.2.1.length==0)&&noD s.2.2.2.2)
  else bif s.1==4 then (s.2.2.1.length==0)&&((s.2.2.2.1.length==0)&&noD s.2.2.2.2)
  else bif s.1==5 then (s.2.2.1.length==0)&&((s.2.2.2.1.length==0)&&(j4W s.2.2.2.2&&sEq s.2.2.2.2.2.1 s.2.1))
  else false)
def dSm (d:D):Prop:=d.2.1.size<=1048576/\d.2.2.1.length<=1048576/\d.2.2.2.1.length<=1048576/\(∀ c∈d.2.2.1,c.1.size<=1048576)/\(∀ x∈d.2.2.2.1,x.size<=1048576)/\d.2.2.2.2.1.size<=1048576/\d.2.2.2.2.2.size<=1048576
def j8Q (s:ST):Prop:=s.2.1.size<=1048576/\s.2.2.1.length<=1048576/\s.2.2.2.1.length<=1048576/\dSm s.2.2.2.2
theorem j96:dSm zD:=by
 refine ⟨?_,?_,?_,?_,?_,?_,?_⟩
 all_goals first | (intro _ h;cases h) | exact Nat.zero_le _
theorem jeL:j8Q zST:=⟨Nat.zero_le _,Nat.zero_le _,Nat.zero_le _,j96⟩
theorem j9Y (d:D):noD d=true↔d=zD:=by
 obtain ⟨a,b,c,e,f,g⟩:=d
 unfold noD
 simp only [Bool.and_eq_true,beq_iff_eq,j2a,Prod.mk.injEq,List.length_eq_zero_iff]
theorem jdS {d:D} (h:j4W d=true):j09 d.2.1=true /\
  ((∃ t cs ks,d=(1,t,cs,ks,eS,eS)/\j9d (t,cs,ks)=true)\/(∃ t,d=(2,t,[],[],eS,eS))\/(∃ t c,d=(3,t,[c],[],eS,eS)/\j10 c=true) \/
   (∃ t n,d=(4,t,[],[],n,eS)/\j09 n=true)\/∃ t n m,d=(5,t,[],[],n,m)/\j09 n=true/\j09 m=true):=by
 obtain ⟨k,t,cs,ks,n,m⟩:=d
 unfold j4W j7f at h
 dsimp only at h ⊢
 rw [Bool.and_eq_true] at h
 refine ⟨h.1,?_⟩
 have h:=h.2
 cases h1:k==1
 ·cases h2:k==2
  ·cases h3:k==3
   ·cases h4:k==4
    ·cases h5:k==5
     ·rw [h1,h2,h3,h4,h5] at h;cases h
     ·rw [h1,h2,h3,h4,h5] at h
      simp only [cond_false,cond_true,Bool.and_eq_true,beq_iff_eq] at h h5
      obtain ⟨⟨a,b⟩,c,e⟩:=h
      rw [List.length_eq_zero_iff] at a b
      subst a;subst b;subst h5
      exact .inr (.inr (.inr (.inr ⟨t,n,m,rfl,c,e⟩)))
    ·rw [h1,h2,h3,h4] at h
     simp only [cond_false,cond_true,Bool.and_eq_true,beq_iff_eq,j2a] at h h4
     obtain ⟨⟨a,b⟩,c,e⟩:=h
     rw [List.length_eq_zero_iff] at a b
     subst a;subst b;subst h4;subst e
     exact .inr (.inr (.inr (.inl ⟨t,n,rfl,c⟩)))
   ·rw [h1,h2,h3] at h
    simp only [cond_false,cond_true,Bool.and_eq_true,beq_iff_eq,j2a] at h h3
    obtain ⟨a,b,_,c,e,f⟩:=h
    obtain ⟨c0,rfl⟩:=List.length_eq_one_iff.1 a
    rw [List.length_eq_zero_iff] at c
    subst c;subst h3;subst e;subst f
    exact .inr (.inr (.inl ⟨t,c0,rfl,b⟩))
  ·rw [h1,h2] at h
   simp only [cond_false,cond_true,Bool.and_eq_true,beq_iff_eq,j2a] at h h2
   obtain ⟨⟨a,b⟩,e,f⟩:=h
   rw [List.length_eq_zero_iff] at a b
   subst a;subst b;subst h2;subst e;subst f
   exact .inr (.inl ⟨t,rfl⟩)
 ·rw [h1] at h
  simp only [cond_true,Bool.and_eq_true,beq_iff_eq,j2a] at h h1
  obtain ⟨e,f,a⟩:=h
  subst h1;subst e;subst f
  exact .inl ⟨t,cs,ks,rfl,a⟩
theorem jeK {s:ST} (h:stB s=true):j09 s.2.1=true /\
  ((∃ t r,s=(1,t,[],r,zD)/\j1g r=true)\/(∃ t q r,s=(2,t,q,r,zD)/\j1g q=true/\j1g r=true)\/(∃ t q,s=(3,t,q,[],zD)/\j1g q=true) \/
   (∃ t,s=(4,t,[],[],zD))\/∃ d:D,s=(5,d.2.1,[],[],d)/\j4W d=true):=by
 obtain ⟨k,t,q,r,d⟩:=s
 unfold stB at h
 dsimp only at h ⊢
 rw [Bool.and_eq_true] at h
 refine ⟨h.1,?_⟩
 have h:=h.2
 cases h1:k==1
 ·cases h2:k==2
  ·cases h3:k==3
   ·cases h4:k==4
    ·cases h5:k==5
     ·rw [h1,h2,h3,h4,h5] at h;cases h
     ·rw [h1,h2,h3,h4,h5] at h
      simp only [cond_false,cond_true,Bool.and_eq_true,beq_iff_eq,j2a] at h h5
      obtain ⟨a,b,c,e⟩:=h
      rw [List.length_eq_zero_iff] at a b
      subst a;subst b;subst h5;subst e
      exact .inr (.inr (.inr (.inr ⟨d,rfl,c⟩)))
    ·rw [h1,h2,h3,h4] at h
     simp only [cond_false,cond_true,Bool.and_eq_true,beq_iff_eq,j9Y] at h h4
     obtain ⟨a,b,c⟩:=h
     rw [List.length_eq_zero_iff] at a b
     subst a;subst b;subst h4;subst c
     exact .inr (.inr (.inr (.inl ⟨t,rfl⟩)))
   ·rw [h1,h2,h3] at h
    simp only [cond_false,cond_true,Bool.and_eq_true,beq_iff_eq,j9Y] at h h3
    obtain ⟨a,b,c⟩:=h
    rw [List.length_eq_zero_iff] at b
    subst b;subst h3;subst c
    exact .inr (.inr (.inl ⟨t,q,rfl,a⟩))
  ·rw [h1,h2] at h
   simp only [cond_false,cond_true,Bool.and_eq_true,beq_iff_eq,j9Y] at h h2
   obtain ⟨a,b,c⟩:=h
   subst h2;subst c
   exact .inr (.inl ⟨t,q,r,rfl,a,b⟩)
 ·rw [h1] at h
  simp only [cond_true,Bool.and_eq_true,beq_iff_eq,j9Y] at h h1
  obtain ⟨a,b,c⟩:=h
  rw [List.length_eq_zero_iff] at a
  subst a;subst h1;subst c
  exact .inl ⟨t,r,rfl,b⟩
theorem j7a {l:List V} (h:j1g l=true):1<=l.length/\l.length<=8/\∀ v∈l,j0h v=true:=by
 unfold j1g at h
 simp only [Bool.and_eq_true,decide_eq_true_eq,List.all_eq_true] at h
 exact ⟨h.2.1,h.2.2,h.1⟩
end Go.PI.G
namespace Go.PI.G
open Go Go.PI Go.Proofs
theorem j7c (l:List ByteArray) (k:Bool->Res):j1k l [] k=k (l.length==0):=by
 unfold j1k
 rw [je4]
 cases l with
 | nil=>
  obtain ⟨m,hm⟩:=jcW
  rw [show (!(([]:List ByteArray).length==([]:List ByteArray).length))=false from rfl,cond_false]
  unfold j34
  rw [hm,Z8C]
  rfl
 | cons x l=>rfl
theorem j8s (l:List C) (k:Bool->Res):j0R l [] k=k (l.length==0):=by
 unfold j0R
 rw [je4]
 cases l with
 | nil=>
  obtain ⟨m,hm⟩:=jcW
  rw [show (!(([]:List C).length==([]:List C).length))=false from rfl,cond_false]
  unfold j2t
  rw [hm,Z8C]
  rfl
 | cons x l=>rfl
theorem jdU (l:List C) (h:l.length<=LIM) (k:Bool->Res):j0R l l k=k true:=by
 unfold j0R j2t
 rw [je4,beq_self_eq_true,Bool.not_true,cond_false]
 have:=Z8G l (λi=>i) (λ_=>false) (step:=j3m l l (nI l.length)) ((λ(_:Unit)=>k true),(λ(_:Unit)=>k false)) (k true) (k false) h (λi rec hi=>by
  show j0U _ _ _ _ _ _ _=_
  unfold j0U
  unfold LIM at h
  have hb:∀ x:Bool,(x==x)=true:=by decide
  rw [Z9q hi,cond_true,j07 hi,cond_true,cond_true]
  simp only [Z8T,beq_self_eq_true,hb,Bool.and_true,Bool.not_true,cond_false]
  rw [j03 (by omega)]) (λrec=>by
  show j0U _ _ _ _ _ _ _=_
  unfold j0U
  rw [Z9p,cond_false])
 refine this.trans ?_
 have:(l.any λ_=>false)=false:=by simp
 rw [this,cond_false]
theorem jfc {d:D} (h:dSm d):tSm (d.2.1,d.2.2.1,d.2.2.2.1):=⟨h.1,h.2.1,h.2.2.1,h.2.2.2.1,h.2.2.2.2.1⟩
theorem jfy (d:D) (K:Bool->Res):j3W d K=K (j7f d):=by
 unfold j3W j7f
 rw [j4O,j4O]
 cases d.2.2.1.length==0<;>rfl
theorem jec (d:D) (h:dSm d) (k:Bool->Res):j4R d k=k (j4W d):=by
 have h0:=jfc h
 obtain ⟨m1,m2,m3,m4,m5,m6,m7⟩:=h
 obtain ⟨kd,t,cs,ks,n,m⟩:=d
 dsimp only at m1 m2 m3 m4 m5 m6 m7 h0
 unfold j4R j4W
 rw [jfy]
 generalize hpl:j7f (kd,t,cs,ks,n,m)=pl
 dsimp only
 rw [j1t _ (by unfold LIM;omega),j4O]
 cases j09 t
 ·rfl
 ·rw [Bool.not_true,cond_false,Bool.true_and]
  cases kd==1
  ·cases kd==2
   ·cases kd==3
    ·cases kd==4
     ·cases kd==5
      ·rfl
      ·rw [cond_false,cond_false,cond_false,cond_false,cond_true,cond_false,cond_false,cond_false,cond_false,cond_true,j1t n (by unfold LIM;omega),j1t m (by unfold LIM;omega)]
       cases pl
       ·rfl
       ·cases j09 n<;>rfl
     ·rw [cond_false,cond_false,cond_false,cond_true,cond_false,cond_false,cond_false,cond_true,j1t n (by unfold LIM;omega)]
      cases pl
      ·rfl
      ·cases j09 n<;>rfl
    ·rw [cond_false,cond_false,cond_true,cond_false,cond_false,cond_true,jeA]
     cases hl:cs.length==1
     ·rfl
     ·have hl':cs.length=1:=by simpa using hl
      have hi:inb 0 cs.length=true:=by rw [hl'];rfl
      have hc:(nth zC cs 0).1.size<=LIM:=by
       have:=m4 (nth zC cs 0) (by rw [show (0:Int)=((0:Nat):Int) by rfl,Z9a _ _ _ (by omega)];exact List.getElem_mem _)
       unfold LIM;omega
      rw [cond_true,hi,cond_true,jbE _ hc,Bool.true_and]
      cases j10 (nth zC cs 0)
      ·rfl
      ·rw [cond_true,cond_true,cond_true,Bool.true_and]
       cases (nth zC cs 0).2.2.2.1
       ·cases (nth zC cs 0).2.2.1
        ·cases ks.length==0
         ·rfl
         ·cases sEq n eS<;>rfl
        ·rfl
       ·cases ks.length==0
        ·rfl
        ·cases sEq n eS<;>rfl
   ·rw [cond_false,cond_true,cond_false,cond_true]
    cases pl
    ·rfl
    ·cases sEq n eS<;>rfl
  ·rw [cond_true,cond_true,jdA _ h0]
   cases sEq n eS
   ·rfl
   ·cases sEq m eS<;>rfl
theorem jdv (d:D) (h:dSm d) (k:T->Res):j3Q d k=k (d.2.1,d.2.2.1,d.2.2.2.1):=by
 unfold j3Q j6G j6H
 have h1:=h.2.1
 have h2:=h.2.2.1
 dsimp only
 rw [Z9l (by unfold LIM;omega),cond_true,Z9l (by unfold LIM;omega),cond_true]
theorem jdZ (d:D) (h:dSm d) (k:Bool->Res):j4G d k=k (j4W d):=by
 have h0:=jfc h
 have hmd:=jdv d h
 obtain ⟨m1,m2,m3,m4,m5,m6,m7⟩:=h
 obtain ⟨kd,t,cs,ks,n,m⟩:=d
 dsimp only at m1 m2 m3 m4 m5 m6 m7 h0 hmd
 unfold j4G j4W j7f
 dsimp only
 rw [j23 _ (by unfold LIM;omega)]
 have L1:cs.length<=LIM:=by unfold LIM;omega
 have L2:ks.length<=LIM:=by unfold LIM;omega
 cases j09 t
 ·rfl
 ·rw [Bool.not_true,cond_false,Bool.true_and]
  cases h1:kd==1
  ·cases kd==2
   ·cases kd==3
    ·cases kd==4
     ·cases kd==5
      ·rfl
      ·rw [cond_false,cond_false,cond_false,cond_false,cond_true,cond_false,cond_false,cond_false,cond_false,cond_true]
       unfold j0g
       dsimp only
       rw [beq_self_eq_true,cond_true,Z8T,cond_true,j8s,j7c,Z8T,cond_true,Z8T,j23 n (by unfold LIM;omega),j23 m (by unfold LIM;omega)]
       cases cs.length==0
       ·rfl
       ·cases ks.length==0
        ·rfl
        ·cases j09 n<;>rfl
     ·rw [cond_false,cond_false,cond_false,cond_true,cond_false,cond_false,cond_false,cond_true]
      unfold j0g
      dsimp only
      rw [beq_self_eq_true,cond_true,Z8T,cond_true,j8s,j7c,Z8T,cond_true,j23 n (by unfold LIM;omega)]
      cases cs.length==0
      ·rfl
      ·cases ks.length==0
       ·rfl
       ·cases sEq m eS<;>cases j09 n<;>rfl
    ·rw [cond_false,cond_false,cond_true,cond_false,cond_false,cond_true,jeA]
     unfold j0g
     dsimp only
     rw [beq_self_eq_true,cond_true,Z8T,cond_true,jdU _ L1,cond_true,j7c]
     cases hl:cs.length==1
     ·cases ks.length==0
      ·rfl
      ·cases sEq n eS
       ·rfl
       ·cases sEq m eS<;>rfl
     ·have hl':cs.length=1:=by simpa using hl
      have hi:inb 0 cs.length=true:=by rw [hl'];rfl
      have hc:(nth zC cs 0).1.size<=LIM:=by
       have:=m4 (nth zC cs 0) (by rw [show (0:Int)=((0:Nat):Int) by rfl,Z9a _ _ _ (by omega)];exact List.getElem_mem _)
       unfold LIM;omega
      rw [hi,jbg _ hc]
      cases ks.length==0
      ·cases j10 (nth zC cs 0)<;>cases (nth zC cs 0).2.2.2.1<;>cases (nth zC cs 0).2.2.1<;>rfl
      ·cases sEq n eS
       ·cases j10 (nth zC cs 0)<;>cases (nth zC cs 0).2.2.2.1<;>cases (nth zC cs 0).2.2.1<;>rfl
       ·cases sEq m eS<;>cases j10 (nth zC cs 0)<;>cases (nth zC cs 0).2.2.2.1<;>cases (nth zC cs 0).2.2.1<;>rfl
   ·rw [cond_false,cond_true,cond_false,cond_true]
    unfold j0g
    dsimp only
    rw [beq_self_eq_true,cond_true,Z8T,cond_true,j8s,j7c]
    cases cs.length==0
    ·rfl
    ·cases ks.length==0
     ·rfl
     ·cases sEq n eS<;>rfl
  ·have e1:kd=1:=by simpa using h1
   subst e1
   rw [cond_true,cond_true,hmd,jdx _ h0]
   cases j9d (t,cs,ks)
   ·cases sEq n eS
    ·rfl
    ·cases sEq m eS<;>rfl
   ·cases sEq n eS<;>cases sEq m eS<;>rfl
theorem jee (d:D) (k:Bool->Res):j1e d k=k (noD d):=by
 unfold j1e noD
 rw [j4O,j4O]
 cases d.1==0
 ·rfl
 ·cases sEq d.2.1 eS
  ·rfl
  ·cases d.2.2.1.length==0
   ·rfl
   ·cases d.2.2.2.1.length==0
    ·rfl
    ·cases sEq d.2.2.2.2.1 eS<;>rfl
theorem je1 (d:D) (k:Bool->Res):j0g d zD k=k (noD d):=by
 unfold j0g noD
 rw [j8s,j7c]
 cases d.1==0
 ·rfl
 ·cases sEq d.2.1 eS
  ·rfl
  ·cases d.2.2.1.length==0
   ·rfl
   ·cases d.2.2.2.1.length==0
    ·rfl
    ·cases sEq d.2.2.2.2.1 eS<;>rfl
theorem jaq (l:List V) (h:l.length<=LIM) (k:Bool->Res):j1B l k=k (j1g l):=by
 unfold j1B j6m j1g
 have:=Z8G l (λi=>i) (λv=> !j0h v) (step:=j54 l (nI l.length)) ((λ(_:Unit)=>bif decide ((nI l.length)>=1) then k (decide ((nI l.length)<=8)) else k false),(λ(_:Unit)=>k false)) (bif decide ((nI l.length)>=1) then k (decide ((nI l.length)<=8)) else k false) (k false) h (λi rec hi=>by
  show j1V _ _ _ _ _ _=_
  unfold j1V
  unfold LIM at h
  rw [Z9q hi,cond_true,j07 hi,cond_true,Z9a _ _ _ hi,j9c,j03 (n:=(i:Int)+1) (by omega)]) (λrec=>by
  show j1V _ _ _ _ _ _=_
  unfold j1V
  rw [Z9p,cond_false])
 refine this.trans ?_
 have hall:(l.any λv=> !j0h v)= !l.all j0h:=by rw [List.all_eq_not_any_not];simp
 rw [hall]
 unfold nI
 cases l.all j0h
 ·rfl
 ·rw [Bool.not_true,cond_false,Bool.true_and]
  by_cases h1:1<=l.length
  ·rw [decide_eq_true (show (l.length:Int)>=1 by omega),cond_true,decide_eq_true h1,Bool.true_and]
   congr 1
   exact decide_eq_decide.2 (by omega)
  ·rw [decide_eq_false (show ¬ (l.length:Int)>=1 by omega),cond_false,decide_eq_false h1,Bool.false_and]
theorem jan (l:List V) (h:l.length<=LIM) (k:Bool->Res):j11 l k=k (j1g l):=by
 unfold j11 j1f j3G j2w j1g
 rw [j33]
 have hd:decide (1<=nI l.length/\nI l.length<=8)=(decide (1<=l.length)&&decide (l.length<=8)):=by
  rw [<-Bool.decide_and]
  exact decide_eq_decide.2 (by unfold nI;omega)
 rw [hd]
 cases decide (1<=l.length)&&decide (l.length<=8)
 ·rw [Bool.and_false];rfl
 ·rw [cond_true,Bool.and_true]
  have:=Z8w l (λi=>i) (λv=> !j0h v) (step:=j21 l (nI l.length)) ((λ(_:Unit)=>k (!decide ((-1:Int)>=0))),(λ(t:Int)=>k (!decide (t>=0)))) (λr=>k (!decide (r>=0))) h (λi rec hi=>by
   show j0A _ _ _ _ _ _=_
   unfold j0A j7m
   unfold LIM at h
   rw [Z9q hi,cond_true,j07 hi,cond_true,Z9a _ _ _ hi,jbh,j03 (n:=(i:Int)+1) (by omega)]) (λrec=>by
   show j0A _ _ _ _ _ _=_
   unfold j0A
   rw [Z9p,cond_false])
  refine this.trans ?_
  congr 1
  unfold Z8j
  cases hf:l.findIdx? λv=> !j0h v with
  | none=>
   rw [List.findIdx?_eq_none_iff] at hf
   symm
   show l.all j0h=true
   rw [List.all_eq_true]
   intro v hv
   simpa using hf v hv
  | some i=>
   dsimp only
   rw [decide_eq_true (show (i:Int)>=0 by omega)]
   obtain ⟨hi,hp,_⟩:=List.findIdx?_eq_some_iff_getElem.1 hf
   symm
   show l.all j0h=false
   rw [List.all_eq_false]
   exact ⟨l[i],List.getElem_mem _,by simpa using hp⟩
theorem jcs (s:ST) (h:j8Q s) (k:Bool->Res):j27 s k=k (stB s):=by
 obtain ⟨m1,m2,m3,m4⟩:=h
 unfold j27 stB j3q
 have L2:s.2.2.1.length<=LIM:=by unfold LIM;omega
 have L3:s.2.2.2.1.length<=LIM:=by unfold LIM;omega
 rw [j1t _ (by unfold LIM;omega),j4O,j4O]
 simp only [jaq _ L2,jaq _ L3,jee,jec _ m4]
 cases j09 s.2.1
 ·rfl
 ·rw [Bool.not_true,cond_false,Bool.true_and]
  cases s.1==1
  ·cases s.1==2
   ·cases s.1==3
    ·cases s.1==4
     ·cases s.1==5
      ·rfl
      ·cases s.2.2.1.length==0
       ·rfl
       ·cases s.2.2.2.1.length==0
        ·rfl
        ·cases j4W s.2.2.2.2<;>rfl
     ·cases s.2.2.1.length==0
      ·rfl
      ·cases s.2.2.2.1.length==0<;>rfl
    ·cases j1g s.2.2.1
     ·rfl
     ·cases s.2.2.2.1.length==0<;>rfl
   ·cases j1g s.2.2.1
    ·rfl
    ·cases j1g s.2.2.2.1<;>rfl
  ·cases s.2.2.1.length==0
   ·rfl
   ·cases j1g s.2.2.2.1<;>rfl
theorem jet {d:D} (h:j4W d=true):j09 d.2.1=true:=by
 unfold j4W at h
 rw [Bool.and_eq_true] at h
 exact h.1
theorem jcj (s:ST) (h:j8Q s) (k:Bool->Res):j24 s k=k (stB s):=by
 obtain ⟨m1,m2,m3,m4⟩:=h
 unfold j24 stB j3h
 have L2:s.2.2.1.length<=LIM:=by unfold LIM;omega
 have L3:s.2.2.2.1.length<=LIM:=by unfold LIM;omega
 rw [j23 _ (by unfold LIM;omega),j4O,j4O]
 simp only [jan _ L2,jan _ L3,je1,jdZ _ m4]
 cases h5:s.1==5
 ·rw [cond_false]
  cases j09 s.2.1
  ·rfl
  ·rw [Bool.not_true,cond_false,Bool.true_and]
   cases s.1==1
   ·cases s.1==2
    ·cases s.1==3
     ·cases s.1==4
      ·cases noD s.2.2.2.2<;>rfl
      ·cases noD s.2.2.2.2<;>cases s.2.2.1.length==0<;>cases s.2.2.2.1.length==0<;>rfl
     ·cases noD s.2.2.2.2<;>cases j1g s.2.2.1<;>cases s.2.2.2.1.length==0<;>rfl
    ·cases noD s.2.2.2.2<;>cases j1g s.2.2.1<;>cases j1g s.2.2.2.1<;>rfl
   ·cases noD s.2.2.2.2<;>cases s.2.2.1.length==0<;>cases j1g s.2.2.2.1<;>rfl
 ·have e5:s.1=5:=by simpa using h5
  rw [cond_true,e5,show ((5:Int)==1)=false from rfl,show ((5:Int)==2)=false from rfl,show ((5:Int)==3)=false from rfl,show ((5:Int)==4)=false from rfl,cond_false,cond_false,cond_false,cond_false,cond_true]
  cases hd:j4W s.2.2.2.2
  ·rw [cond_false]
   cases j09 s.2.1<;>cases s.2.2.1.length==0<;>cases s.2.2.2.1.length==0<;>rfl
  ·rw [cond_true,Z8S s.2.1]
   cases he:sEq s.2.2.2.2.2.1 s.2.1
   ·rw [cond_false]
    cases j09 s.2.1<;>cases s.2.2.1.length==0<;>cases s.2.2.2.1.length==0<;>rfl
   ·have hw:=jet hd
    rw [(j2a _ _).1 he] at hw
    rw [hw]
    cases s.2.2.1.length==0<;>cases s.2.2.2.1.length==0<;>rfl
end Go.PI.G
namespace Go.PI.G
open Go Go.PI
theorem jer {l:List C} (h:j5W l=true) {c:C} (hc:c∈l):j10 c=true:=by
 obtain ⟨i,hi,rfl⟩:=List.getElem_of_mem hc
 exact jeq h i hi
theorem jep {l:List C} {n:ByteArray} (h:0<=j0n l n):∃ c∈l,c.1=n:=by
 unfold j0n Z8j at h
 cases hf:List.findIdx? (λc:C=>sEq c.1 n) l with
 | none=>rw [hf] at h;dsimp only at h;omega
 | some i=>
  obtain ⟨hi,hp,_⟩:=List.findIdx?_eq_some_iff_getElem.1 hf
  exact ⟨l[i],List.getElem_mem hi,(j2a _ _).1 hp⟩
theorem jcm {l:List C}:(ks:List ByteArray)->(last:Int)->last<(l.length:Int)->j2O l last ks=true->last+(ks.length:Int)<(l.length:Int)
 | [],last,h0,_=>by simpa using h0
 | q::ks,last,h0,h=>by
  simp only [j2O,Bool.and_eq_true,Bool.not_eq_true',decide_eq_false_iff_not] at h
  have h1:=jcm ks (j0n l q) (j5f l q).2 h.2.2
  rw [List.length_cons]
  omega
end Go.PI.G
namespace Go.PI.G
open Go Go.PI
noncomputable def byW (s:ByteArray):List Int:=nI s.size::Z1e s
def bI (x:Bool):Int:=bif x then 1 else 0
noncomputable def byC (c:C):List Int:=byW c.1++(c.2.1::bI c.2.2.1::bI c.2.2.2.1::wB c.2.2.2.2)
noncomputable def byD (d:D):List Int:=((d.1::nI d.2.2.1.length::d.2.2.1.flatMap byC)++(nI d.2.2.2.1.length::d.2.2.2.1.flatMap byW))++(byW d.2.2.2.2.1++byW d.2.2.2.2.2)
noncomputable def byS (s:ST):List Int:=((83::s.1::byW s.2.1)++(j0W s.2.2.1++j0W s.2.2.2.1))++(bif s.1==5 then byD s.2.2.2.2 else [])
theorem j2I {c:C} (h:j10 c=true):j09 c.1=true/\(1<=c.2.1/\c.2.1<=3)/\j0h c.2.2.2.2=true:=by
 unfold j10 at h
 simp only [Bool.and_eq_true,decide_eq_true_eq] at h
 exact ⟨h.1,h.2.1,h.2.2.1⟩
theorem j6D {d:D} (h:j4W d=true):(1<=d.1/\d.1<=5)/\d.2.2.1.length<=8/\(∀ c∈d.2.2.1,j10 c=true)/\d.2.2.2.1.length<=8/\(∀ k∈d.2.2.2.1,j09 k=true) /\
  (j09 d.2.2.2.2.1=true\/d.2.2.2.2.1=eS)/\(j09 d.2.2.2.2.2=true\/d.2.2.2.2.2=eS):=by
 obtain ⟨ht,hc⟩:=jdS h
 have z1:∀ c∈([]:List C),j10 c=true:=λc hc=>by cases hc
 have z2:∀ k∈([]:List ByteArray),j09 k=true:=λc hc=>by cases hc
 rcases hc with ⟨t,cs,ks,rfl,hb⟩ | ⟨t,rfl⟩ | ⟨t,c,rfl,hb⟩ | ⟨t,n,rfl,hb⟩ | ⟨t,n,m,rfl,hb,hb2⟩
 ·have hp:=jei hb
  dsimp only at hp
  have hk:=j9K ks (-1) (by omega) hp.2.2.2.2.2
  have hl:=jcm ks (-1) (by omega) hp.2.2.2.2.2
  have hcs:∀ c∈cs,j10 c=true:=λc hc=>jer hp.2.2.2.2.1 hc
  refine ⟨⟨by dsimp only;omega,by dsimp only;omega⟩,hp.2.2.1,hcs,by dsimp only;omega,λk hm=> ?_,.inr rfl,.inr rfl⟩
  obtain ⟨c,hcm,he⟩:=jep (hk k hm).1
  rw [<-he]
  exact (j2I (hcs c hcm)).1
 ·exact ⟨⟨by dsimp only;omega,by dsimp only;omega⟩,Nat.zero_le _,z1,Nat.zero_le _,z2,.inr rfl,.inr rfl⟩
 ·exact ⟨⟨by dsimp only;omega,by dsimp only;omega⟩,Nat.le_of_ble_eq_true rfl,λx hx=>by rw [List.mem_singleton.1 hx];exact hb,Nat.zero_le _,z2,.inr rfl,.inr rfl⟩
 ·exact ⟨⟨by dsimp only;omega,by dsimp only;omega⟩,Nat.zero_le _,z1,Nat.zero_le _,z2,.inl hb,.inr rfl⟩
 ·exact ⟨⟨by dsimp only;omega,by dsimp only;omega⟩,Nat.zero_le _,z1,Nat.zero_le _,z2,.inl hb,.inl hb2⟩
theorem j7b {s:ByteArray} (h:j09 s=true\/s=eS):s.size<=8:=by
 rcases h with h | rfl
 ·exact (j7K h).2
 ·exact Nat.zero_le _
theorem j0F {s:ByteArray} (h:j09 s=true\/s=eS):(byW s).length<=9:=by
 have:=j7b h
 show (Z1e s).length+1<=9
 rw [j0s];omega
theorem j8Y {c:C} (h:j10 c=true):(byC c).length<=44:=by
 obtain ⟨h1,_,h3⟩:=j2I h
 have:=j0F (.inl h1)
 have:=j93 h3
 unfold byC
 simp only [List.length_append,List.length_cons]
 omega
theorem j1u {α:Type} (f:α->List Int) (c:Nat):(l:List α)->(∀ x∈l,(f x).length<=c)->(l.flatMap f).length<=c * l.length
 | [],_=>Nat.zero_le _
 | x::l,h=>by
  have h1:=h x (by simp)
  have h2:=j1u f c l λy hy=>h y (List.mem_cons_of_mem _ hy)
  rw [List.flatMap_cons,List.length_append,List.length_cons,Nat.mul_succ]
  omega
theorem j7d {α:Type} (f:α->List Int):(l:List α)->(∀ x∈l,isB (f x))->isB (l.flatMap f)
 | [],_=>j3k
 | x::l,h=>by
  rw [List.flatMap_cons]
  exact j0p (h x (by simp)) (j7d f l λy hy=>h y (List.mem_cons_of_mem _ hy))
theorem j7M {s:ByteArray} (h:j09 s=true\/s=eS):isB (byW s):=j0q (by have:=j7b h;unfold nI;omega) (j8R s)
theorem jfa (x:Bool):0<=bI x/\bI x<256:=by cases x<;>decide
theorem jbc (x:Bool):(bI x==1)=x:=by cases x<;>rfl
theorem jfg {c:C} (h:j10 c=true):isB (byC c):=by
 obtain ⟨h1,h2,h3⟩:=j2I h
 exact j0p (j7M (.inl h1)) (j0q (by omega) (j0q (jfa _) (j0q (jfa _) (jeQ h3))))
theorem jfh {d:D} (h:j4W d=true):isB (byD d):=by
 obtain ⟨h1,h2,h3,h4,h5,h6,h7⟩:=j6D h
 exact j0p (j0p (j0q (by omega) (j0q (by unfold nI;omega) (j7d _ _ λc hc=>jfg (h3 c hc)))) (j0q (by unfold nI;omega) (j7d _ _ λk hk=>j7M (.inl (h5 k hk))))) (j0p (j7M h6) (j7M h7))
theorem j4x {s:ST} (h:stB s=true):j09 s.2.1=true/\(1<=s.1/\s.1<=5)/\(s.2.2.1.length<=8/\∀ v∈s.2.2.1,j0h v=true)/\(s.2.2.2.1.length<=8/\∀ v∈s.2.2.2.1,j0h v=true)/\((s.1=5/\j4W s.2.2.2.2=true/\s.2.2.2.2.2.1=s.2.1)\/(s.1≠5/\s.2.2.2.2=zD)):=by
 obtain ⟨ht,hc⟩:=jeK h
 have z1:∀ c∈([]:List V),j0h c=true:=λc hc=>by cases hc
 refine ⟨ht,?_⟩
 rcases hc with ⟨t,r,rfl,hb⟩ | ⟨t,q,r,rfl,hb,hb2⟩ | ⟨t,q,rfl,hb⟩ | ⟨t,rfl⟩ | ⟨d,rfl,hb⟩
 ·have hp:=j7a hb
  exact ⟨by dsimp only;omega,⟨Nat.zero_le _,z1⟩,⟨hp.2.1,hp.2.2⟩,.inr ⟨(show (1:Int)≠5 by decide),rfl⟩⟩
 ·have hp:=j7a hb
  have hp2:=j7a hb2
  exact ⟨by dsimp only;omega,⟨hp.2.1,hp.2.2⟩,⟨hp2.2.1,hp2.2.2⟩,.inr ⟨(show (2:Int)≠5 by decide),rfl⟩⟩
 ·have hp:=j7a hb
  exact ⟨by dsimp only;omega,⟨hp.2.1,hp.2.2⟩,⟨Nat.zero_le _,z1⟩,.inr ⟨(show (3:Int)≠5 by decide),rfl⟩⟩
 ·exact ⟨by dsimp only;omega,⟨Nat.zero_le _,z1⟩,⟨Nat.zero_le _,z1⟩,.inr ⟨(show (4:Int)≠5 by decide),rfl⟩⟩
 ·exact ⟨by dsimp only;omega,⟨Nat.zero_le _,z1⟩,⟨Nat.zero_le _,z1⟩,.inl ⟨rfl,hb,rfl⟩⟩
theorem j9X {s:ST} (h:stB s=true):isB (byS s):=by
 obtain ⟨h1,h2,h3,h4,h5⟩:=j4x h
 refine j0p (j0p (j0q (x:=83) (by omega) (j0q (by omega) (j7M (.inl h1)))) (j0p (jdn (by omega) h3.2) (jdn (by omega) h4.2))) ?_
 cases hk:s.1==5
 ·exact j3k
 ·rcases h5 with h5 | h5
  ·exact jfh h5.2.1
  ·exact absurd (by simpa using hk) h5.1
theorem j6N {l:List V} (h:l.length<=8/\∀ v∈l,j0h v=true):(j0W l).length<=257:=by
 have:=jd8 l h.2
 show (l.flatMap wB).length+1<=257
 omega
end Go.PI.G
namespace Go.PI.G
open Go Go.PI Go.Proofs
theorem j6E {α:Type} (f:α->List Int) (c:Nat) (l:List α) (pre:List Int) (B:Nat) (h:∀ x∈l,(f x).length<=c) (hl:l.length<=8) (hp:pre.length+c * 8<=B) (i:Nat):(pre++(l.take i).flatMap f).length<=B:=by
 have h1:=j1u f c (l.take i) λx hx=>h x (List.mem_of_mem_take hx)
 have h2:c * (l.take i).length<=c * 8:=Nat.mul_le_mul_left _ (by rw [List.length_take];omega)
 rw [List.length_append]
 omega
theorem j92 (b:List Int) (hb:b.length<=100000) (s:ByteArray) (h:j09 s=true\/s=eS) (k:List Int->Res):j0v b s k=k (b++byW s):=by
 have h8:=j7b h
 have hl:=j0s s
 have hw:=j0F h
 have e:[wu8 (nI s.size)]++Z1e s=byW s:=by
  rw [j0x (by unfold nI;omega)];rfl
 have q1:lim s.size=true:=Z9l (by unfold LIM;omega)
 have q2:lim (1+(Z1e s).length)=true:=Z9l (by unfold LIM;omega)
 unfold j0v j6Y
 rcases h with h | h
 ·have hn:sNe s eS=true:=by
   cases hs:sNe s eS
   ·have:=(jc5 _ _).1 hs
    have h1:=(j7K h).1
    rw [this] at h1
    exact absurd h1 (by decide)
   ·rfl
  rw [hn,cond_true,j1t s (by unfold LIM;omega),h,Bool.not_true,cond_false,q1,cond_true,q2,cond_true,e]
  dsimp only
  rw [Z9l (by unfold LIM;omega),cond_true]
 ·have hn:sNe s eS=false:=by rw [h,Z8U]
  rw [hn,cond_false,q1,cond_true,q2,cond_true,e]
  dsimp only
  rw [Z9l (by unfold LIM;omega),cond_true]
theorem j8Z (b:List Int) (hb:b.length<=90000) (s:ByteArray) (h:j09 s=true\/s=eS) (k:List Int->Res):j0J b s k=k (b++byW s):=by
 have h8:=j7b h
 unfold j0J
 rw [j1E _ (by omega) _ (by unfold nI;omega),Z9l (by rw [List.length_append,List.length_singleton];unfold LIM;omega),cond_true,List.append_assoc]
 rfl
theorem jap (x:Bool) (k:Int->Res):j4v x k=k (bI x):=by cases x<;>rfl
theorem jal (b:List Int) (hb:b.length<=90000) (x:Bool) (k:List Int->Res):j1w b x k=k (b++[bI x]):=by
 unfold j1w
 rw [Z9l (by unfold LIM;omega)]
 cases x<;>rfl
theorem jf3 (l:List C) (hl:l.length<=8) (h:∀ c∈l,j10 c=true) (b:List Int) (hb:b.length<=10000) (k:List Int->Res):j3s l (nI l.length) Z12 b 0 k=k (b++l.flatMap byC):=by
 have hc:∀ c∈l,(byC c).length<=44:=λc hc=>j8Y (h c hc)
 unfold j3s
 refine Z8x l (λi out=>(out,i)) byC 11000 b (step:=j3J l (nI l.length)) k k (by unfold LIM;omega) (λi hi _=>j6E byC 44 l b 11000 hc hl (by omega) (i+1)) (by omega) (λi out rec hi ho hB=>by
  show j1s _ _ _ _ _ _=_
  unfold j1s
  have hcb:=h _ (List.getElem_mem hi)
  obtain ⟨h1,h2,h3⟩:=j2I hcb
  have hw:=j0F (.inl h1)
  have hv:=j93 h3
  have e1:((out++byW l[i].1)++[wu8 l[i].2.1,bI l[i].2.2.1,bI l[i].2.2.2.1])++wB l[i].2.2.2.2=out++byC l[i]:=by
   rw [j0x (by omega)]
   unfold byC
   simp only [List.append_assoc,List.cons_append,List.nil_append]
  have l1:(out++byW l[i].1).length<=11009:=by rw [List.length_append];omega
  have l2:((out++byW l[i].1)++[wu8 l[i].2.1,bI l[i].2.2.1,bI l[i].2.2.2.1]).length<=11012:=by rw [List.length_append];simp only [List.length_cons,List.length_nil];omega
  dsimp only
  rw [Z9q hi,cond_true,j07 hi,cond_true,Z9a _ _ _ hi,j92 _ (by omega) _ (.inl h1),jap,jap,Z9l (by unfold LIM;omega),cond_true,jct,h3,cond_true,Z9l (by unfold LIM;omega),cond_true,e1,j03 (n:=(i:Int)+1) (by omega)]) (λout rec=>by
  show j1s _ _ _ _ _ _=_
  unfold j1s
  dsimp only
  rw [Z9p,cond_false])
theorem jeW (l:List C) (hl:l.length<=8) (h:∀ c∈l,j10 c=true) (b:List Int) (hb:b.length<=10000) (k:List Int->Res):j1M l (nI l.length) Z12 b 0 k=k (b++l.flatMap byC):=by
 have hc:∀ c∈l,(byC c).length<=44:=λc hc=>j8Y (h c hc)
 unfold j1M
 refine Z8x l (λi out=>(out,i)) byC 11000 b (step:=j2r l (nI l.length)) k k (by unfold LIM;omega) (λi hi _=>j6E byC 44 l b 11000 hc hl (by omega) (i+1)) (by omega) (λi out rec hi ho hB=>by
  show j0K _ _ _ _ _ _=_
  unfold j0K
  have hcb:=h _ (List.getElem_mem hi)
  obtain ⟨h1,h2,h3⟩:=j2I hcb
  have hw:=j0F (.inl h1)
  have e1:((((out++byW l[i].1)++[l[i].2.1])++[bI l[i].2.2.1])++[bI l[i].2.2.2.1])++wB l[i].2.2.2.2=out++byC l[i]:=by
   unfold byC
   simp only [List.append_assoc,List.cons_append,List.nil_append]
  have l1:(out++byW l[i].1).length<=11009:=by rw [List.length_append];omega
  have l2:((out++byW l[i].1)++[l[i].2.1]).length<=11010:=by rw [List.length_append,List.length_singleton];omega
  have l3:(((out++byW l[i].1)++[l[i].2.1])++[bI l[i].2.2.1]).length<=11011:=by rw [List.length_append,List.length_singleton];omega
  have l4:((((out++byW l[i].1)++[l[i].2.1])++[bI l[i].2.2.1])++[bI l[i].2.2.2.1]).length<=11012:=by rw [List.length_append,List.length_singleton];omega
  dsimp only
  rw [Z9q hi,cond_true,j07 hi,cond_true,Z9a _ _ _ hi,j8Z _ (by omega) _ (.inl h1),j1E _ (by omega) _ (by omega),jal _ (by omega),jal _ (by omega),jck _ (by omega) _ h3,e1,j03 (n:=(i:Int)+1) (by omega)]) (λout rec=>by
  show j0K _ _ _ _ _ _=_
  unfold j0K
  dsimp only
  rw [Z9p,cond_false])
theorem jf4 (l:List ByteArray) (hl:l.length<=8) (h:∀ c∈l,j09 c=true) (b:List Int) (hb:b.length<=20000) (k:List Int->Res):j3t l (nI l.length) Z12 b 0 k=k (b++l.flatMap byW):=by
 have hc:∀ c∈l,(byW c).length<=9:=λc hc=>j0F (.inl (h c hc))
 unfold j3t
 refine Z8x l (λi out=>(out,i)) byW 21000 b (step:=j5E l (nI l.length)) k k (by unfold LIM;omega) (λi hi _=>j6E byW 9 l b 21000 hc hl (by omega) (i+1)) (by omega) (λi out rec hi ho hB=>by
  show j2m _ _ _ _ _ _=_
  unfold j2m
  dsimp only
  rw [Z9q hi,cond_true,j07 hi,cond_true,Z9a _ _ _ hi,j92 _ (by omega) _ (.inl (h _ (List.getElem_mem hi))),j03 (n:=(i:Int)+1) (by omega)]) (λout rec=>by
  show j2m _ _ _ _ _ _=_
  unfold j2m
  dsimp only
  rw [Z9p,cond_false])
theorem jeX (l:List ByteArray) (hl:l.length<=8) (h:∀ c∈l,j09 c=true) (b:List Int) (hb:b.length<=20000) (k:List Int->Res):j13 b l k=k (b++(nI l.length::l.flatMap byW)):=by
 have hc:∀ c∈l,(byW c).length<=9:=λc hc=>j0F (.inl (h c hc))
 unfold j13 j3T
 rw [j1E _ (by omega) _ (by unfold nI;omega)]
 have hb1:(b++[nI l.length]).length<=20001:=by rw [List.length_append,List.length_singleton];omega
 refine (Z8x l (λi out=>(out,i)) byW 21000 (b++[nI l.length]) (step:=j48 l (nI l.length)) (λb1=>k b1) (λb1=>k b1) (by unfold LIM;omega) (λi hi _=>j6E byW 9 l (b++[nI l.length]) 21000 hc hl (by omega) (i+1)) (by omega) (λi out rec hi ho hB=>by
  show j0y _ _ _ _ _ _=_
  unfold j0y
  dsimp only
  rw [Z9q hi,cond_true,j07 hi,cond_true,Z9a _ _ _ hi,j8Z _ (by omega) _ (.inl (h _ (List.getElem_mem hi))),j03 (n:=(i:Int)+1) (by omega)]) (λout rec=>by
  show j0y _ _ _ _ _ _=_
  unfold j0y
  dsimp only
  rw [Z9p,cond_false])).trans ?_
 rw [List.append_assoc]
 rfl
theorem jam (l:List V) (hl:l.length<=8) (hav:∀ v∈l,j0h v=true) (b:List Int) (hb:b.length<=20000) (k:List Int->Res):j4m b l k=k (b++j0W l):=by
 have hc:∀ v∈l,(wB v).length<=32:=λv hv=>j93 (hav v hv)
 unfold j4m j5X
 rw [j1E _ (by omega) _ (by unfold nI;omega)]
 have hb1:(b++[nI l.length]).length<=20001:=by rw [List.length_append,List.length_singleton];omega
 refine (Z8x l (λi out=>(out,i)) wB 21000 (b++[nI l.length]) (step:=j6I l (nI l.length)) (λb1=>k b1) (λb1=>k b1) (by unfold LIM;omega) (λi hi _=>j6E wB 32 l (b++[nI l.length]) 21000 hc hl (by omega) (i+1)) (by omega) (λi out rec hi ho hB=>by
  show j3j _ _ _ _ _ _=_
  unfold j3j
  dsimp only
  rw [Z9q hi,cond_true,j07 hi,cond_true,Z9a _ _ _ hi,jck _ (by omega) _ (hav _ (List.getElem_mem hi)),j03 (n:=(i:Int)+1) (by omega)]) (λout rec=>by
  show j3j _ _ _ _ _ _=_
  unfold j3j
  dsimp only
  rw [Z9p,cond_false])).trans ?_
 rw [List.append_assoc]
 rfl
theorem jcr (s:ST) (hs:j8Q s) (k:List Int->Bool->Res):j0w s k=bif stB s then k (byS s) true else k [] false:=by
 unfold j0w
 rw [jcs s hs]
 cases hb:stB s
 ·rfl
 ·rw [Bool.not_true,cond_false,cond_true]
  obtain ⟨h1,h2,h3,h4,h5⟩:=j4x hb
  have w1:=j0F (.inl h1)
  have r3:=j6N h3
  have r4:=j6N h4
  have o3:j9Z s.2.2.1=true:=by unfold j9Z;rw [decide_eq_true h3.1,Bool.true_and,List.all_eq_true];exact h3.2
  have o4:j9Z s.2.2.2.1=true:=by unfold j9Z;rw [decide_eq_true h4.1,Bool.true_and,List.all_eq_true];exact h4.2
  have l1:([83,s.1]++byW s.2.1).length<=11:=by simp only [List.length_append,List.length_cons,List.length_nil];omega
  have l2:(([83,s.1]++byW s.2.1)++j0W s.2.2.1).length<=268:=by rw [List.length_append];omega
  have l3:((([83,s.1]++byW s.2.1)++j0W s.2.2.1)++j0W s.2.2.2.1).length<=525:=by rw [List.length_append];omega
  rw [j0x (by omega),j92 _ (by simp) _ (.inl h1),jcq _ (by omega),o3,cond_true,jcq _ (by omega),o4,cond_true,Z9l (by unfold LIM;omega),cond_true,Z9l (by unfold LIM;omega),cond_true]
  have e0:(([83,s.1]++byW s.2.1)++j0W s.2.2.1)++j0W s.2.2.2.1=(83::s.1::byW s.2.1)++(j0W s.2.2.1++j0W s.2.2.2.1):=by rw [List.append_assoc];rfl
  unfold byS
  rw [<-e0]
  cases hk:s.1==5
  ·rw [cond_false,cond_false,List.append_nil]
  ·rw [cond_true,cond_true]
   rcases h5 with h5 | h5
   rotate_left
   ·exact absurd (by simpa using hk) h5.1
   obtain ⟨a1,a2,a3,a4,a5,a6,a7⟩:=j6D h5.2.1
   generalize (([83,s.1]++byW s.2.1)++j0W s.2.2.1)++j0W s.2.2.2.1=b at l3
   unfold j5i
   have c1:=j1u byC 44 s.2.2.2.2.2.2.1 λc hc=>j8Y (a3 c hc)
   have c2:=j1u byW 9 s.2.2.2.2.2.2.2.1 λc hc=>j0F (.inl (a5 c hc))
   have c6:=j0F a6
   rw [Z9l (by unfold LIM;omega),cond_true,j0x (n:=s.2.2.2.2.1) (by omega),j0x (n:=nI s.2.2.2.2.2.2.1.length) (by unfold nI;omega),jf3 _ a2 a3 _ (by simp only [List.length_append,List.length_cons,List.length_nil];omega),Z9l (by simp only [List.length_append,List.length_cons,List.length_nil];unfold LIM;omega),cond_true,j0x (n:=nI s.2.2.2.2.2.2.2.1.length) (by unfold nI;omega),jf4 _ a4 a5 _ (by simp only [List.length_append,List.length_cons,List.length_nil];omega),j92 _ (by simp only [List.length_append,List.length_cons,List.length_nil];omega) _ a6,j92 _ (by simp only [List.length_append,List.length_cons,List.length_nil];omega) _ a7]
   unfold byD
   simp only [List.append_assoc,List.cons_append,List.nil_append]
theorem jci (s:ST) (hs:j8Q s) (k:List Int->Bool->Res):j0m s k=bif stB s then k (byS s) true else k [] false:=by
 unfold j0m
 rw [jcj s hs]
 cases hb:stB s
 ·rfl
 ·rw [Bool.not_true,cond_false,cond_true]
  obtain ⟨h1,h2,h3,h4,h5⟩:=j4x hb
  have w1:=j0F (.inl h1)
  have r3:=j6N h3
  have r4:=j6N h4
  have l1:([83,s.1]++byW s.2.1).length<=11:=by simp only [List.length_append,List.length_cons,List.length_nil];omega
  have l2:(([83,s.1]++byW s.2.1)++j0W s.2.2.1).length<=268:=by rw [List.length_append];omega
  have l3:((([83,s.1]++byW s.2.1)++j0W s.2.2.1)++j0W s.2.2.2.1).length<=525:=by rw [List.length_append];omega
  rw [j0x (by omega),j8Z _ (by simp) _ (.inl h1),jam _ h3.1 h3.2 _ (by omega),jam _ h4.1 h4.2 _ (by omega)]
  have e0:(([83,s.1]++byW s.2.1)++j0W s.2.2.1)++j0W s.2.2.2.1=(83::s.1::byW s.2.1)++(j0W s.2.2.1++j0W s.2.2.2.1):=by rw [List.append_assoc];rfl
  unfold byS
  rw [<-e0,show (s.1 != 5)= !(s.1==5) from rfl]
  cases hk:s.1==5
  ·rw [Bool.not_false,cond_true,cond_false,List.append_nil]
  ·rw [Bool.not_true,cond_false,cond_true]
   rcases h5 with h5 | h5
   rotate_left
   ·exact absurd (by simpa using hk) h5.1
   obtain ⟨a1,a2,a3,a4,a5,a6,a7⟩:=j6D h5.2.1
   generalize (([83,s.1]++byW s.2.1)++j0W s.2.2.1)++j0W s.2.2.2.1=b at l3
   have c1:=j1u byC 44 s.2.2.2.2.2.2.1 λc hc=>j8Y (a3 c hc)
   have c2:=j1u byW 9 s.2.2.2.2.2.2.2.1 λc hc=>j0F (.inl (a5 c hc))
   have c6:=j0F a6
   rw [j1E _ (by omega) _ (by omega),j1E _ (by simp only [List.length_append,List.length_cons,List.length_nil];omega) _ (by unfold nI;omega),jeW _ a2 a3 _ (by simp only [List.length_append,List.length_cons,List.length_nil];omega),jeX _ a4 a5 _ (by simp only [List.length_append,List.length_cons,List.length_nil];omega),j8Z _ (by simp only [List.length_append,List.length_cons,List.length_nil];omega) _ a6,j8Z _ (by simp only [List.length_append,List.length_cons,List.length_nil];omega) _ a7]
   unfold byD
   simp only [List.append_assoc,List.cons_append,List.nil_append]
end Go.PI.G
namespace Go.PI.G
open Go Go.PI
def Rd {σ α:Type} (b:List Int) (S:Nat->Bool->σ) (N g:Nat) (act:σ->(α->σ->Res)->Res) (R ok:α->Prop) (f:α->List Int):Prop:=
 ∀ (at_:Nat) (bad:Bool),at_<=N->∃ (x:α) (at':Nat) (bad':Bool),R x/\at'<=at_+g/\(∀ k,act (S at_ bad) k=k x (S at' bad')) /\
  (bad=false->∀ y post,ok y->b.drop at_=f y++post->x=y/\bad'=false/\b.drop at'=post)
theorem j5R {σ α β:Type} {b:List Int} {S:Nat->Bool->σ} {N N1 N2 g1 g2:Nat} {a1:σ->(α->σ->Res)->Res} {a2:σ->(β->σ->Res)->Res} {R1 ok1:α->Prop} {R2 ok2:β->Prop} {f1:α->List Int} {f2:β->List Int}
  (h1:Rd b S N1 g1 a1 R1 ok1 f1) (h2:Rd b S N2 g2 a2 R2 ok2 f2) (hN:N<=N1/\N+g1<=N2) :
  Rd b S N (g1+g2) (λe (k:α×β->σ->Res)=>a1 e λx e1=>a2 e1 λy e2=>k (x,y) e2) (λp=>R1 p.1/\R2 p.2) (λp=>ok1 p.1/\ok2 p.2) (λp=>f1 p.1++f2 p.2):=by
 intro at_ bad ha
 obtain ⟨x,u1,v1,r1,p1,q1,z1⟩:=h1 at_ bad (by omega)
 obtain ⟨y,u2,v2,r2,p2,q2,z2⟩:=h2 u1 v1 (by omega)
 refine ⟨(x,y),u2,v2,⟨r1,r2⟩,by omega,λk=> ?_,λhb p post ho hd=> ?_⟩
 ·show a1 (S at_ bad) (λx e1=>a2 e1 λy e2=>k (x,y) e2)=_
  rw [q1,q2]
 ·obtain ⟨px,py⟩:=p
  dsimp only at ho hd
  rw [List.append_assoc] at hd
  obtain ⟨e1,e2,e3⟩:=z1 hb px _ ho.1 hd
  obtain ⟨e4,e5,e6⟩:=z2 e2 py _ ho.2 e3
  exact ⟨by rw [e1,e4],e5,e6⟩
theorem jeG {σ α β:Type} {b:List Int} {S:Nat->Bool->σ} {N g:Nat} {a1:σ->(α->σ->Res)->Res} {R1 ok1:α->Prop} {f1:α->List Int} (h:Rd b S N g a1 R1 ok1 f1) (φ:α->β) (ψ:β->α) {R ok:β->Prop} {f:β->List Int}
  (hR:∀ x,R1 x->R (φ x)) (ho:∀ y,ok y->ok1 (ψ y)/\φ (ψ y)=y/\f y=f1 (ψ y)):Rd b S N g (λe (k:β->σ->Res)=>a1 e λx e1=>k (φ x) e1) R ok f:=by
 intro at_ bad ha
 obtain ⟨x,u1,v1,r1,p1,q1,z1⟩:=h at_ bad ha
 refine ⟨φ x,u1,v1,hR x r1,p1,λk=>q1 _,λhb y post hy hd=> ?_⟩
 obtain ⟨o1,o2,o3⟩:=ho y hy
 rw [o3] at hd
 obtain ⟨e1,e2,e3⟩:=z1 hb _ _ o1 hd
 exact ⟨by rw [e1,o2],e2,e3⟩
theorem je8 {σ α:Type} {b:List Int} {S:Nat->Bool->σ} {N N' g g':Nat} {a:σ->(α->σ->Res)->Res} {R ok:α->Prop} {f:α->List Int} (h:Rd b S N g a R ok f) (hN:N'<=N) (hg:g<=g'):Rd b S N' g' a R ok f:=λat_ bad ha=>by
 obtain ⟨x,u,v,r,p,q,z⟩:=h at_ bad (by omega)
 exact ⟨x,u,v,r,by omega,q,z⟩
theorem jfr {σ α V K:Type} {b:List Int} {S:Nat->Bool->σ} {N g:Nat} {act:σ->(α->σ->Res)->Res} {R ok:α->Prop} {f:α->List Int} (h:Rd b S N g act R ok f)
  (st:Int->List α->σ->V) (step:V->(V->Res)->K->Res) (fin:K->List α->σ->Res) (cond:Nat->Bool) (h9:cond 9=false)
  (hs:∀ (i:Nat) out e rec q,i<=8->out.length=i->cond i=true->step (st (i:Int) out e) rec q=act e λx e'=>rec (st ((i+1:Nat):Int) (out++[x]) e'))
  (he:∀ (i:Nat) out e rec q,i<=9->cond i=false->step (st (i:Int) out e) rec q=fin q out e) :
  ∀ (d i m:Nat) (out:List α) (at_:Nat) (bad:Bool),i+d=9->d<m->out.length=i->(∀ x∈out,R x)->at_+d * g<=N->∃ (r:List α) (at':Nat) (bad':Bool),(r.length<=9/\∀ x∈r,R x)/\at'<=at_+d * g /\
   (∀ q,Z14 step m (st (i:Int) out (S at_ bad)) q=fin q r (S at' bad')) /\
   (bad=false->∀ ws post,(∀ w∈ws,ok w)->(∀ j,i<=j->j<i+ws.length->cond j=true)->cond (i+ws.length)=false->b.drop at_=ws.flatMap f++post->r=out++ws/\bad'=false/\b.drop at'=post):=by
 intro d
 induction d with
 | zero=>
  intro i m out at_ bad hi hm ho hR ha
  obtain ⟨m,rfl⟩:∃ e,m=e+1:=⟨m-1,by omega⟩
  have hi9:i=9:=by omega
  subst hi9
  refine ⟨out,at_,bad,⟨by omega,hR⟩,by omega,λq=>by rw [Z8C,he 9 _ _ _ _ (by omega) h9],λhb ws post hw hc hn hd=> ?_⟩
  cases ws with
  | nil=>exact ⟨by simp,hb,by simpa using hd⟩
  | cons w ws=>
   have:=hc 9 (by omega) (by rw [List.length_cons];omega)
   rw [h9] at this;cases this
 | succ d ih=>
  intro i m out at_ bad hi hm ho hR ha
  obtain ⟨m,rfl⟩:∃ e,m=e+1:=⟨m-1,by omega⟩
  rw [Nat.succ_mul] at ha ⊢
  cases hc:cond i
  ·refine ⟨out,at_,bad,⟨by omega,hR⟩,by omega,λq=>by rw [Z8C,he i _ _ _ _ (by omega) hc],λhb ws post hw hcc hn hd=> ?_⟩
   cases ws with
   | nil=>exact ⟨by simp,hb,by simpa using hd⟩
   | cons w ws=>
    have:=hcc i (by omega) (by rw [List.length_cons];omega)
    rw [hc] at this;cases this
  ·obtain ⟨x,u1,v1,r1,p1,q1,z1⟩:=h at_ bad (by omega)
   obtain ⟨r,u2,v2,r2,p2,q2,z2⟩:=ih (i+1) m (out++[x]) u1 v1 (by omega) (by omega) (by rw [List.length_append,List.length_singleton,ho]) (λy hy=>by
    rcases List.mem_append.1 hy with hy | hy
    ·exact hR y hy
    ·rw [List.mem_singleton.1 hy];exact r1) (by omega)
   refine ⟨r,u2,v2,r2,by omega,λq=> ?_,λhb ws post hw hcc hn hd=> ?_⟩
   ·rw [Z8C,hs i _ _ _ _ (by omega) ho hc,q1]
    exact q2 q
   ·cases ws with
    | nil=>rw [List.length_nil,Nat.add_zero,hc] at hn;cases hn
    | cons w ws=>
     rw [List.flatMap_cons,List.append_assoc] at hd
     obtain ⟨e1,e2,e3⟩:=z1 hb w _ (hw w (by simp)) hd
     rw [List.length_cons] at hcc hn
     obtain ⟨e4,e5,e6⟩:=z2 e2 ws post (λy hy=>hw y (List.mem_cons_of_mem _ hy)) (λj h1 h2=>hcc j (by omega) (by omega)) (by rw [show i+1+ws.length=i+(ws.length+1) by omega];exact hn) e3
     exact ⟨by rw [e4,e1,List.append_assoc];rfl,e5,e6⟩
theorem j6M {σ α V K:Type} {b:List Int} {S:Nat->Bool->σ} {N N' gn g:Nat} {num:σ->(Int->σ->Res)->Res} {RN:Int->Prop} {act:σ->(α->σ->Res)->Res} {R ok:α->Prop} {f:α->List Int}
  (hn:Rd b S N' gn num RN (λn=>0<=n/\n<=8) (λn=>[n])) (h:Rd b S N' g act R ok f) (hN:N+gn+9 * g<=N')
  (st:Int->List α->σ->V) (step:Int->V->(V->Res)->K->Res) (fin:K->List α->σ->Res) (cond:Int->Nat->Bool)
  (h9:∀ n,RN n->cond n 9=false) (hc:∀ (n:Int) (i:Nat),0<=n->n<=8->i<=8->cond n i=decide ((i:Int)<n))
  (hs:∀ n (i:Nat) out e rec q,i<=8->out.length=i->cond n i=true->step n (st (i:Int) out e) rec q=act e λx e'=>rec (st ((i+1:Nat):Int) (out++[x]) e'))
  (he:∀ n (i:Nat) out e rec q,i<=9->cond n i=false->step n (st (i:Int) out e) rec q=fin q out e) (at_:Nat) (bad:Bool) (ha:at_<=N) :
  ∃ (l:List α) (at':Nat) (bad':Bool),(l.length<=9/\∀ x∈l,R x)/\at'<=at_+(gn+9 * g)/\(∀ q:K,num (S at_ bad) (λn e1=>Z14 (step n) Z12 (st 0 [] e1) q)=fin q l (S at' bad')) /\
   (bad=false->∀ y post,(y.length<=8/\∀ x∈y,ok x)->b.drop at_=(nI y.length::y.flatMap f)++post->l=y/\bad'=false/\b.drop at'=post):=by
 obtain ⟨n,u1,v1,r1,p1,q1,z1⟩:=hn at_ bad (by omega)
 obtain ⟨r,u2,v2,r2,p2,q2,z2⟩:=jfr h st (step n) fin (cond n) (h9 n r1) (hs n) (he n) 9 0 Z12 [] u1 v1 (by omega) (Z1U (by omega)) rfl (λx hx=>by cases hx) (by omega)
 refine ⟨r,u2,v2,r2,by omega,λq=> ?_,λhb l post hl hd=> ?_⟩
 ·rw [q1]
  exact q2 q
 ·have hl1:nI l.length<=8:=by unfold nI;omega
  have hl0:0<=nI l.length:=by unfold nI;omega
  obtain ⟨e1,e2,e3⟩:=z1 hb (nI l.length) (l.flatMap f++post) ⟨hl0,hl1⟩ hd
  subst e1
  have:=z2 e2 l post hl.2 (λj h1 h2=>by
   rw [hc _ _ hl0 hl1 (by omega)]
   exact decide_eq_true (by unfold nI;omega)) (by
   rw [hc _ _ hl0 hl1 (by omega)]
   exact decide_eq_false (by unfold nI;omega)) e3
  rw [List.nil_append] at this
  exact this
end Go.PI.G
