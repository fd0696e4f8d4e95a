/-
  Program's code interpreted over typed values; printed texts; plain laws. No conditions.
-/
import Derived.Test.YtppeoiidhmegkaaGreatBa
import Derived.Test.YtppeoiidhmegkaaGreatBe
import Derived.Test.YtppeoiidhmegkaaGreatBb
import Derived.Test.YtppeoiidhmegkaaGreatBc
set_option linter.unusedVariables false
set_option linter.unusedSimpArgs false
namespace Go.PI.G
open Go Go.PI Go.Proofs
theorem jgG (s:ByteArray) (i:Nat) (h:i<(Z1e s).length):bt s (i:Int)=(Z1e s)[i]:=by
 have hl:=j9W s
 have h':i<s.data.size:=by
  have:i<s.size:=by omega
  exact this
 have e1:(Z1e s)[i]=((s.data.toList.map λb:UInt8=>(b.toNat:Int))[i]'(by simpa using h')):=rfl
 rw [e1,List.getElem_map]
 unfold bt
 simp [Array.getElem?_eq_getElem h']
theorem jhp (s:ByteArray) (x:Bool) (k:Bool->Res):(bif x then k false else (bif decide ((nI (ByteArray.size s))>=1) then k (decide ((nI (ByteArray.size s))<=8)) else k false))=k (!x&&(decide (1<=s.size)&&decide (s.size<=8))):=by
 cases x
 ·unfold nI
  by_cases h1:1<=s.size
  ·rw [cond_false,decide_eq_true (show (s.size:Int)>=1 by omega),cond_true,decide_eq_true h1]
   congr 1
   by_cases h2:s.size<=8
   ·rw [decide_eq_true (show (s.size:Int)<=8 by omega),decide_eq_true h2];rfl
   ·rw [decide_eq_false (show ¬ (s.size:Int)<=8 by omega),decide_eq_false h2];rfl
  ·rw [cond_false,decide_eq_false (show ¬ (s.size:Int)>=1 by omega),cond_false,decide_eq_false h1];rfl
 ·rfl
theorem j9T (s:ByteArray) (h:s.size<=LIM) (k:Bool->Res):j1Y s k=k (j1X s):=by
 unfold j1Y j7e
 have hl:=j9W s
 have:=Z8G (Z1e s) (λi=>i) (λb=>decide (b<97)||decide (b>122)) (step:=j5V s) ((λ(_:Unit)=>bif decide ((nI (ByteArray.size s))>=1) then k (decide ((nI (ByteArray.size s))<=8)) else k false),(λ(_:Unit)=>k false)) (bif decide ((nI (ByteArray.size s))>=1) then k (decide ((nI (ByteArray.size s))<=8)) else k false) (k false) (by omega) (λi rec hi=>by
  show j2r s _ _ _ _=_
  unfold j2r
  unfold LIM at h
  have hi':i<s.size:=by omega
  rw [Z9q hi',cond_true,j03 hi',cond_true,cond_true,jgG s i hi,j04 (n:=(i:Int)+1) (by omega)]
  cases decide ((Z1e s)[i]<97)
  ·cases decide ((Z1e s)[i]>122)<;>rfl
  ·rfl) (λrec=>by
  show j2r s _ _ _ _=_
  unfold j2r
  rw [hl,Z9p,cond_false])
 refine this.trans ?_
 exact jhp s _ k
theorem j9O (s:ByteArray) (h:s.size<=LIM) (k:Bool->Res):j1m s k=k (j1X s):=by
 unfold j1m j4v
 have hl:=j9W s
 have:=Z8G (Z1e s) (λi=>i) (λb=>decide (b<97)||decide (b>122)) (step:=j5z s) ((λ(_:Unit)=>j0w (nI (ByteArray.size s)) 1 8 λ(r:Bool)=>k r),(λ(_:Unit)=>k false)) (j0w (nI (ByteArray.size s)) 1 8 λ(r:Bool)=>k r) (k false) (by omega) (λi rec hi=>by
  show j23 s _ _ _ _=_
  unfold j23
  unfold LIM at h
  have hi':i<s.size:=by omega
  rw [Z9q hi',cond_true,j03 hi',cond_true,cond_true,jgG s i hi,j04 (n:=(i:Int)+1) (by omega)]
  cases decide ((Z1e s)[i]<97)
  ·cases decide ((Z1e s)[i]>122)<;>rfl
  ·rfl) (λrec=>by
  show j23 s _ _ _ _=_
  unfold j23
  rw [hl,Z9p,cond_false])
 refine this.trans ?_
 rw [j7x]
 have hd:decide (1<=nI s.size/\nI s.size<=8)=(decide (1<=s.size)&&decide (s.size<=8)):=by
  rw [<-Bool.decide_and]
  exact decide_eq_decide.2 (by unfold nI;omega)
 rw [hd]
 unfold j1X
 cases (Z1e s).any λb=>decide (b<97)||decide (b>122)<;>rfl
theorem jgy (c:C) (h:c.1.size<=LIM) (k:Bool->Res):j4M c k=k (j36 c):=by
 obtain ⟨n,ty,nt,hs,df⟩:=c
 unfold j4M j36
 dsimp only at h ⊢
 rw [j9T n h,j6B]
 cases j1X n
 ·rfl
 ·rw [Bool.not_true,cond_false,Bool.true_and]
  by_cases h1:1<=ty/\ty<=3
  ·rw [decide_eq_false (show ¬ ty<1 by omega),cond_false,decide_eq_false (show ¬ ty>3 by omega),cond_false,decide_eq_true h1,Bool.true_and]
   cases hs
   ·rw [Bool.not_false,cond_true,cond_false]
    have:j1W df=false->jd3 df=false:=λhv=>by
     cases hn:jd3 df with
     | false=>rfl
     | true=>
      unfold jd3 at hn
      simp only [Bool.and_eq_true,beq_iff_eq,ja9] at hn
      have:df=(0,0,eS):=by
       obtain ⟨a,b,c⟩:=df
       simp only at hn
       rw [hn.1,hn.2.1,hn.2.2]
      rw [this,jh4] at hv
      cases hv
    cases hv:j1W df
    ·rw [Bool.false_and]
     exact congrArg k (this hv)
    ·rfl
   ·rw [Bool.not_true,cond_false,cond_true]
    cases hv:j1W df
    ·rfl
    ·rw [cond_true,Bool.true_and]
     have hnull:(df.1==0)=true->((df.1==0)&&((df.2.1==0)&&sEq df.2.2 eS))=true:=λh0=>by
      rcases jdu hv with rfl | ⟨m,_,rfl⟩ | ⟨m,_,rfl⟩ | ⟨m,_,rfl⟩
      ·exact jgw
      ·cases h0
      ·cases h0
      ·cases h0
     cases h0:df.1==0
     ·rw [Bool.false_and,cond_false]
      cases df.1==ty<;>rfl
     ·have:=hnull h0
      rw [h0] at this
      rw [this,cond_true,cond_true]
      have hty:(df.1==ty)=false:=by
       simp only [beq_iff_eq] at h0
       rw [h0];simp;omega
      rw [hty,Bool.false_or,Bool.true_and]
  ·rw [decide_eq_false h1]
   by_cases h2:ty<1
   ·rw [decide_eq_true h2];rfl
   ·rw [decide_eq_false h2,cond_false,decide_eq_true (show ty>3 by omega)];rfl
theorem jgq (c:C) (h:c.1.size<=LIM) (k:Bool->Res):j4s c k=k (j36 c):=by
 obtain ⟨n,ty,nt,hs,df⟩:=c
 unfold j4s j36
 dsimp only at h ⊢
 rw [j9O n h,j7x,j8g]
 cases j1X n
 ·rfl
 ·cases decide (1<=ty/\ty<=3)
  ·rfl
  ·cases j1W df
   ·rfl
   ·cases hs
    ·rfl
    ·cases df.1==ty
     ·cases df.1==0<;>rfl
     ·rfl
theorem jbF (t:T) (n:ByteArray) (h:t.2.1.length<=LIM) (k:Int->Res):j3m t n k=k (j0p t.2.1 n):=by
 unfold j3m j7P
 refine Z8w t.2.1 (λi=>i) (λc=>sEq c.1 n) (step:=j6E n t.2.1 (nI t.2.1.length)) _ k h (λi rec hi=> ?_) (λrec=> ?_)
 ·show j2R n _ _ _ _ _ _=_
  unfold j2R
  unfold LIM at h
  rw [Z9q hi,cond_true,j03 hi,cond_true,Z9a _ _ _ hi,j04 (n:=(i:Int)+1) (by omega)]
 ·show j2R n _ _ _ _ _ _=_
  unfold j2R
  rw [Z9p,cond_false]
theorem jbj (t:T) (n:ByteArray) (h:t.2.1.length<=LIM) (k:Int->Res):j3h t n k=k (j0p t.2.1 n):=by
 unfold j3h j3l j2x
 refine Z8w t.2.1 (λi=>i) (λc=>sEq c.1 n) (step:=j1V t.2.1 n (nI t.2.1.length)) _ k h (λi rec hi=> ?_) (λrec=> ?_)
 ·show j0E _ n _ _ _ _ _=_
  unfold j0E j9P
  unfold LIM at h
  rw [Z9q hi,cond_true,j03 hi,cond_true,Z9a _ _ _ hi,j04 (n:=(i:Int)+1) (by omega)]
 ·show j0E _ n _ _ _ _ _=_
  unfold j0E
  rw [Z9p,cond_false]
theorem j7t {t:T} (h:msr yT t<=1048576):t.1.size<=1048576/\t.2.1.length<=1048576/\t.2.2.length<=1048576/\(∀ c∈t.2.1,c.1.size<=1048576)/\∀ x∈t.2.2,x.size<=1048576:=by
 have h1:msr yT t=t.1.size+(msr (.slice yC) t.2.1+msr (.slice .str) t.2.2):=rfl
 have h2:msr (.slice yC) t.2.1<=1048576:=by omega
 have h3:msr (.slice .str) t.2.2<=1048576:=by omega
 refine ⟨by omega,j0d h2,j0d h3,λc hc=> ?_,λx hx=>j0e h3 hx⟩
 have:=j0e h2 hc
 have h4:msr yC c=c.1.size+msr (.pair (.int .i64) (.pair .bool (.pair .bool yV))) c.2:=rfl
 omega
noncomputable def tSm (t:T):Prop:=t.1.size<=1048576/\t.2.1.length<=1048576/\t.2.2.length<=1048576/\(∀ c∈t.2.1,c.1.size<=1048576)/\∀ x∈t.2.2,x.size<=1048576
theorem jeW (t:T) (h:tSm t) (a b:Unit->Res):j2V t.2.1 (nI t.2.1.length) t Z12 0 a b=bif j65 t.2.1 then a () else b ():=by
 have hh:=h
 obtain ⟨m1,m2,m3,m4,m5⟩:=hh
 unfold j2V
 have:=Z8t t.2.1 (λi=>i) (λi c=> !j36 c||(j0p t.2.1 c.1 != (i:Int))) (step:=j33 t.2.1 (nI t.2.1.length) t) (a,b) (a ()) (b ()) (by unfold LIM;omega) (λi rec hi=>by
  show j15 _ _ t _ _ _ _=_
  unfold j15
  rw [Z9q hi,cond_true,j03 hi,cond_true,Z9a _ _ _ hi,jgy _ (by have:=m4 _ (List.getElem_mem hi);unfold LIM;omega),jbF t _ (by unfold LIM;omega),j04 (n:=(i:Int)+1) (by omega)]
  cases j36 t.2.1[i]
  ·rfl
  ·cases j0p t.2.1 t.2.1[i].1 != (i:Int)<;>rfl) (λrec=>by
  show j15 _ _ t _ _ _ _=_
  unfold j15
  rw [Z9p,cond_false])
 refine this.trans ?_
 unfold j65
 cases Z5X (λi c=> !j36 c||(j0p t.2.1 c.1 != (i:Int))) 0 t.2.1<;>rfl
theorem jeB (t:T) (h:tSm t) (a b:Unit->Res):j2E t.2.1 (nI t.2.1.length) t Z12 0 a b=bif j65 t.2.1 then a () else b ():=by
 have hh:=h
 obtain ⟨m1,m2,m3,m4,m5⟩:=hh
 unfold j2E
 have:=Z8t t.2.1 (λi=>i) (λi c=> !j36 c||(j0p t.2.1 c.1 != (i:Int))) (step:=j31 t.2.1 (nI t.2.1.length) t) (a,b) (a ()) (b ()) (by unfold LIM;omega) (λi rec hi=>by
  show j14 _ _ t _ _ _ _=_
  unfold j14
  rw [Z9q hi,cond_true,j03 hi,cond_true,Z9a _ _ _ hi,jgq _ (by have:=m4 _ (List.getElem_mem hi);unfold LIM;omega),jbj t _ (by unfold LIM;omega),j04 (n:=(i:Int)+1) (by omega)]
  cases j36 t.2.1[i]
  ·rfl
  ·cases j0p t.2.1 t.2.1[i].1 != (i:Int)<;>rfl) (λrec=>by
  show j14 _ _ t _ _ _ _=_
  unfold j14
  rw [Z9p,cond_false])
 refine this.trans ?_
 unfold j65
 cases Z5X (λi c=> !j36 c||(j0p t.2.1 c.1 != (i:Int))) 0 t.2.1<;>rfl
noncomputable def j4z (l:List C) (last:Int) (k:ByteArray):Except Unit Int:=bif decide (j0p l k<=last) then .error () else bif !(nth zC l (j0p l k)).2.2.1 then .error () else .ok (j0p l k)
theorem jbk (l:List C):(ks:List ByteArray)->(i:Nat)->(last:Int)->(∃ z,Z1y (λ_ last k=>j4z l last k) i ks last= .ok z/\j2I l last ks=true)\/(Z1y (λ_ last k=>j4z l last k) i ks last= .error ()/\j2I l last ks=false)
 | [],_,last=> .inl ⟨last,rfl,rfl⟩
 | k::ks,i,last=>by
  have ih:=jbk l ks (i+1) (j0p l k)
  simp only [Z1y,j2I,j4z] at ih ⊢
  cases decide (j0p l k<=last)
  ·cases (nth zC l (j0p l k)).2.2.1
   ·exact .inr ⟨rfl,rfl⟩
   ·exact ih
  ·exact .inr ⟨rfl,rfl⟩
theorem jeY (t:T) (h:tSm t) (a b:Unit->Res):j2W t.2.2 (nI t.2.2.length) t Z12 (-1) 0 a b=bif j2I t.2.1 (-1) t.2.2 then a () else b ():=by
 have hh:=h
 obtain ⟨m1,m2,m3,m4,m5⟩:=hh
 unfold j2W
 have:=Z3t t.2.2 (λi last=>(last,i)) (λ_ last k=>j4z t.2.1 last k) (λ_ last=> -1<=last) (step:=j52 t.2.2 (nI t.2.2.length) t) (a,b) (λ_=>a ()) (λ_=>b ()) (-1) (by unfold LIM;omega) (by omega) (λi last last' hi h0 hk=>by
  unfold j4z at hk
  have:=(j56 t.2.1 t.2.2[i]).1
  cases h1:decide (j0p t.2.1 t.2.2[i]<=last)
  ·rw [h1,cond_false] at hk
   cases h2:(nth zC t.2.1 (j0p t.2.1 t.2.2[i])).2.2.1
   ·rw [h2] at hk;cases hk
   ·rw [h2] at hk
    cases hk
    exact this
  ·rw [h1] at hk;cases hk) (λi last rec hi h0=>by
  show j1N _ _ t _ _ _ _ _=_
  unfold j1N
  dsimp only
  rw [Z9q hi,cond_true,j03 hi,cond_true,Z9a _ _ _ hi,jbF t _ (by unfold LIM;omega),j04 (n:=(i:Int)+1) (by omega)]
  unfold j4z
  by_cases h1:j0p t.2.1 t.2.2[i]<=last
  ·rw [decide_eq_true h1];rfl
  ·have hr:=(j56 t.2.1 t.2.2[i]).2
   rw [decide_eq_false h1,cond_false,cond_false,Z9k (by omega) hr,cond_true]
   cases (nth zC t.2.1 (j0p t.2.1 t.2.2[i])).2.2.1<;>rfl) (λlast rec _=>by
  show j1N _ _ t _ _ _ _ _=_
  unfold j1N
  dsimp only
  rw [Z9p,cond_false])
 refine this.trans ?_
 rcases jbk t.2.1 t.2.2 0 (-1) with ⟨z,h1,h2⟩ | ⟨h1,h2⟩<;>rw [h1,h2]<;>rfl
theorem jeD (t:T) (h:tSm t) (a b:Unit->Res):j2F t.2.2 (nI t.2.2.length) t Z12 (-1) 0 a b=bif j2I t.2.1 (-1) t.2.2 then a () else b ():=by
 have hh:=h
 obtain ⟨m1,m2,m3,m4,m5⟩:=hh
 unfold j2F
 have:=Z3t t.2.2 (λi last=>(last,i)) (λ_ last k=>j4z t.2.1 last k) (λ_ last=> -1<=last) (step:=j4R t.2.2 (nI t.2.2.length) t) (a,b) (λ_=>a ()) (λ_=>b ()) (-1) (by unfold LIM;omega) (by omega) (λi last last' hi h0 hk=>by
  unfold j4z at hk
  have:=(j56 t.2.1 t.2.2[i]).1
  cases h1:decide (j0p t.2.1 t.2.2[i]<=last)
  ·rw [h1,cond_false] at hk
   cases h2:(nth zC t.2.1 (j0p t.2.1 t.2.2[i])).2.2.1
   ·rw [h2] at hk;cases hk
   ·rw [h2] at hk
    cases hk
    exact this
  ·rw [h1] at hk;cases hk) (λi last rec hi h0=>by
  show j1F _ _ t _ _ _ _ _=_
  unfold j1F
  dsimp only
  rw [Z9q hi,cond_true,j03 hi,cond_true,Z9a _ _ _ hi,jbj t _ (by unfold LIM;omega),j04 (n:=(i:Int)+1) (by omega)]
  unfold j4z
  by_cases h1:j0p t.2.1 t.2.2[i]<=last
  ·rw [decide_eq_true h1];rfl
  ·have hr:=(j56 t.2.1 t.2.2[i]).2
   rw [decide_eq_false h1,cond_false,cond_false,Z9k (by omega) hr,cond_true]
   cases (nth zC t.2.1 (j0p t.2.1 t.2.2[i])).2.2.1<;>rfl) (λlast rec _=>by
  show j1F _ _ t _ _ _ _ _=_
  unfold j1F
  dsimp only
  rw [Z9p,cond_false])
 refine this.trans ?_
 rcases jbk t.2.1 t.2.2 0 (-1) with ⟨z,h1,h2⟩ | ⟨h1,h2⟩<;>rw [h1,h2]<;>rfl
theorem jhj (t:T) (k:Bool->Res):j2X t k=j1Y t.1 λw=>k (!(w&&(decide (1<=t.2.1.length)&&(decide (t.2.1.length<=8)&&decide (1<=t.2.2.length))))):=by
 unfold j2X
 congr 1
 funext w
 unfold nI
 cases w
 ·rfl
 ·rw [Bool.not_true,cond_false,Bool.true_and]
  by_cases h1:1<=t.2.1.length
  ·rw [decide_eq_false (show ¬ (t.2.1.length:Int)<1 by omega),cond_false,decide_eq_true h1,Bool.true_and]
   by_cases h2:t.2.1.length<=8
   ·rw [decide_eq_false (show ¬ (t.2.1.length:Int)>8 by omega),cond_false,decide_eq_true h2,Bool.true_and]
    congr 1
    by_cases h3:1<=t.2.2.length
    ·rw [decide_eq_false (show ¬ (t.2.2.length:Int)<1 by omega),decide_eq_true h3];rfl
    ·rw [decide_eq_true (show (t.2.2.length:Int)<1 by omega),decide_eq_false h3];rfl
   ·rw [decide_eq_true (show (t.2.1.length:Int)>8 by omega),decide_eq_false h2];rfl
  ·rw [decide_eq_true (show (t.2.1.length:Int)<1 by omega),decide_eq_false h1];rfl
theorem jga (t:T) (h:tSm t) (k:Bool->Res):j0P t k=k (j1D t):=by
 have hh:=h
 obtain ⟨m1,m2,m3,m4,m5⟩:=hh
 unfold j0P j1D
 rw [jhj,j9T _ (by unfold LIM;omega),jeW t h,jeY t h]
 cases j1X t.1&&(decide (1<=t.2.1.length)&&(decide (t.2.1.length<=8)&&decide (1<=t.2.2.length)))
 ·rfl
 ·cases j65 t.2.1
  ·rfl
  ·cases j2I t.2.1 (-1) t.2.2<;>rfl
theorem jg2 (t:T) (h:tSm t) (k:Bool->Res):j1n t k=k (j1D t):=by
 have hh:=h
 obtain ⟨m1,m2,m3,m4,m5⟩:=hh
 unfold j1n j1D
 rw [j9O _ (by unfold LIM;omega),j7x,jeB t h,jeD t h]
 have hd:decide (1<=nI t.2.1.length/\nI t.2.1.length<=8)=(decide (1<=t.2.1.length)&&decide (t.2.1.length<=8)):=by
  rw [<-Bool.decide_and]
  exact decide_eq_decide.2 (by unfold nI;omega)
 have hk:decide (nI t.2.2.length>0)=decide (1<=t.2.2.length):=decide_eq_decide.2 (by unfold nI;omega)
 rw [hd,hk]
 cases j65 t.2.1
 ·rw [Bool.false_and,Bool.and_false];rfl
 ·cases j2I t.2.1 (-1) t.2.2
  ·rw [Bool.and_false,Bool.and_false];rfl
  ·cases j1X t.1
   ·rfl
   ·cases decide (1<=t.2.1.length)
    ·rfl
    ·cases decide (t.2.1.length<=8)
     ·rfl
     ·cases decide (1<=t.2.2.length)<;>rfl
theorem jaC (t:T) (h:msr yT t<=1048576) (k:Bool->Res):j0P t k=k (j1D t):=jga t (j7t h) k
theorem jd1 (t:T) (h:msr yT t<=1048576) (k:Bool->Res):j1n t k=k (j1D t):=jg2 t (j7t h) k
theorem jfi (c:List T) (i:Nat) (hi:i<c.length) (hl:c.length<=LIM) (x:Res) (y:Res):(bif decide ((i:Int)>0) then (bif inb (Z8o ((i:Int)-1)) c.length then (bif sGe (nth zT c (Z8o ((i:Int)-1))).1 c[i].1 then x else y) else none) else y) =
  bif (decide (0<i)&&sGe (nth zT c ((i:Int)-1)).1 c[i].1) then x else y:=by
 by_cases h:0<i
 ·unfold LIM at hl
  rw [decide_eq_true (show (i:Int)>0 by omega),decide_eq_true h,cond_true,j04 (by omega),Z9k (by omega) (by omega),cond_true,Bool.true_and]
 ·rw [decide_eq_false (show ¬ (i:Int)>0 by omega),decide_eq_false h];rfl
end Go.PI.G
namespace Go.PI.G
open Go Go.PI Go.Proofs
theorem jg8 (a b:V) (k:Bool->Res):j4m a b k=k (vlt a b):=by
 unfold j4m vlt
 rw [j6B,j6B]
 cases j1W a
 ·rfl
 ·cases j1W b
  ·rfl
  ·rw [Bool.not_true,cond_false,cond_false,Bool.true_and,Bool.true_and]
   cases a.1 != b.1
   ·rw [cond_false,cond_false]
    by_cases h:a.2.1=b.2.1
    ·rw [h,Z9o,cond_false,decide_eq_false (by omega),cond_false,beq_self_eq_true,cond_true]
    ·have h1:(a.2.1 != b.2.1)=true:=by simp [h]
     have h2:(a.2.1==b.2.1)=false:=by simp [h]
     rw [h1,h2,cond_true,cond_false]
     cases decide (a.2.1<b.2.1)<;>rfl
   ·rfl
theorem jg0 (a b:V) (k:Bool->Res):j3V a b k=k (vlt a b):=by
 unfold j3V vlt
 rw [j8g,j8g]
 cases j1W a
 ·rfl
 ·cases j1W b
  ·rfl
  ·rw [Bool.not_true,cond_false,cond_false,Bool.true_and,Bool.true_and]
   cases a.1 != b.1
   ·rw [cond_false,cond_false]
    cases a.2.1 != b.2.1<;>rfl
   ·rfl
end Go.PI.G
namespace Go.PI.G
open Go Go.PI Go.Proofs
theorem jea {α V K:Type} (l:List α) (st:Int->V) (bad:Nat->α->Bool) (p:Nat->Prop) {step:V->(V->Res)->K->Res} (q:K) (fin ex:Res) (hN:l.length<=LIM) (h0:p 0)
  (hp:∀ (i:Nat),(hi:i<l.length)->p i->bad i l[i]=false->p (i+1))
  (hs:∀ (i:Nat) rec,(hi:i<l.length)->p i->step (st i) rec q=bif bad i l[i] then ex else rec (st ((i:Int)+1))) (he:∀ rec,step (st (l.length:Int)) rec q=fin) :
  Z14 step Z12 (st 0) q=bif Z5X bad 0 l then ex else fin:=by
 have h:=Z3t l (λi (_:Unit)=>st i) (λi _ x=>if bad i x then .error () else (.ok ():Except Unit Unit)) (λi _=>p i) q (λ_=>fin) (λ_=>ex) () hN h0 (λi a a' hi hpi hf=>by
   refine hp i hi hpi ?_
   cases hb:bad i l[i] with
   | false=>rfl
   | true=>rw [hb] at hf;cases hf)
  (λi a rec hi hpi=>by
   rw [hs i rec hi hpi]
   cases bad i l[i]<;>rfl) (λa rec _=>he rec)
 rw [h]
 have:∀ (l:List α) (i:Nat),Z1y (λi _ x=>if bad i x then .error () else (.ok ():Except Unit Unit)) i l ()=bif Z5X bad i l then .error () else .ok ():=by
  intro l
  induction l with
  | nil=>intro i;rfl
  | cons x l ih=>
   intro i
   simp only [Z1y,Z5X]
   cases bad i x with
   | true=>rfl
   | false=>exact ih _
 rw [this]
 cases Z5X bad 0 l<;>rfl
theorem jg7 (c:C) (hc:j36 c=true) (v:V) (k:Bool->Res):j4o c v k=k (jay c v):=by
 have h1:=jhs hc
 unfold j4o jay
 rw [j6B,j6B]
 cases h0:v.1==0
 ·cases j1W v
  ·rfl
  ·rw [cond_false,cond_true,Bool.false_and,Bool.or_false,Bool.true_and]
 ·have h2:(v.1==c.2.1)=false:=by
   rw [beq_iff_eq] at h0
   simp;omega
  rw [h2,Bool.true_and,Bool.false_or]
  cases j1W v<;>rfl
theorem jfZ (c:C) (v:V) (k:Bool->Res):j7j c v k=k (jay c v):=by
 unfold j7j jay
 rw [j8g]
 cases j1W v
 ·rfl
 ·cases v.1==c.2.1
  ·cases v.1==0<;>rfl
  ·rfl
theorem jgA (t:T) (h:msr yT t<=1048576) (r:List V) (k:Bool->Res):j4O t r k=k (j1D t&&j5R t.2.1 r):=by
 obtain ⟨m1,m2,m3,m4,m5⟩:=j7t h
 unfold j4O
 rw [jaC t h]
 cases ht:j1D t
 ·rfl
 ·rw [Bool.not_true,cond_false,Bool.true_and]
  unfold j5R
  by_cases hl:r.length=t.2.1.length
  ·have hb:(nI r.length != nI t.2.1.length)=false:=by rw [hl,Z9o]
   rw [hb,cond_false,decide_eq_true hl,Bool.true_and]
   unfold j5v
   have:=Z8t t.2.1 (λi=>i) (λi c=> !jay c (nth zV r (i:Int))) (step:=j6K t.2.1 (nI t.2.1.length) r) ((λ(_:Unit)=>k true),(λ(_:Unit)=>k false)) (k true) (k false) (by unfold LIM;omega) (λi rec hi=>by
    show j2U _ _ r _ _ _ _=_
    unfold j2U
    rw [Z9q hi,cond_true,j03 hi,cond_true,j03 (hl ▸ hi),cond_true,Z9a _ _ _ hi,jg7 _ (jeb (j8o ht).2.2.2.2.1 i hi),j04 (n:=(i:Int)+1) (by omega)]) (λrec=>by
    show j2U _ _ r _ _ _ _=_
    unfold j2U
    rw [Z9p,cond_false])
   refine this.trans ?_
   cases Z5X (λi c=> !jay c (nth zV r (i:Int))) 0 t.2.1<;>rfl
  ·have hb:(nI r.length != nI t.2.1.length)=true:=by unfold nI;simp;omega
   rw [hb,cond_true,decide_eq_false hl,Bool.false_and]
theorem jgs (t:T) (h:msr yT t<=1048576) (r:List V) (k:Bool->Res):j6f t r k=k (j5R t.2.1 r):=by
 obtain ⟨m1,m2,m3,m4,m5⟩:=j7t h
 unfold j6f j5R
 by_cases hl:r.length=t.2.1.length
 ·have hb:(nI r.length != nI t.2.1.length)=false:=by rw [hl,Z9o]
  rw [hb,cond_false,decide_eq_true hl,Bool.true_and]
  unfold j7K
  have:=Z8t t.2.1 (λi=>i) (λi c=> !jay c (nth zV r (i:Int))) (step:=j6g r (nI r.length) t) ((λ(_:Unit)=>k true),(λ(_:Unit)=>k false)) (k true) (k false) (by unfold LIM;omega) (λi rec hi=>by
   show j2H _ _ t _ _ _ _=_
   unfold j2H
   rw [hl,Z9q hi,cond_true,j03 hi,cond_true,cond_true,Z9a zC _ _ hi,jfZ,j04 (n:=(i:Int)+1) (by omega)]) (λrec=>by
   show j2H _ _ t _ _ _ _=_
   unfold j2H
   rw [hl,Z9p,cond_false])
  refine this.trans ?_
  cases Z5X (λi c=> !jay c (nth zV r (i:Int))) 0 t.2.1<;>rfl
 ·have hb:(nI r.length != nI t.2.1.length)=true:=by unfold nI;simp;omega
  rw [hb,cond_true,decide_eq_false hl,Bool.false_and]
theorem jaB {l:List C} {r:List V} (h:j5R l r=true):r.length=l.length:=by
 unfold j5R at h
 rw [Bool.and_eq_true,decide_eq_true_eq] at h
 exact h.1
theorem j5y {α β:Type} (f:α->β):(l:List α)->l.flatMap (λx=>[f x])=l.map f
 | []=>rfl
 | x::l=>by rw [List.flatMap_cons,j5y f l];rfl
theorem jfw (t:T) (r:List V):(j6h t r).length=t.2.2.length:=by unfold j6h;simp
theorem jds (t:T) (h:msr yT t<=1048576) (ht:j1D t=true) (r:List V) (hr:r.length=t.2.1.length) (k:List V->Res):j3z t r k=k (j6h t r):=by
 obtain ⟨m1,m2,m3,m4,m5⟩:=j7t h
 unfold j3z j7f
 have hk:=j6i t.2.2 (-1) (by omega) (j8o ht).2.2.2.2.2
 have:=Z8x t.2.2 (λi out=>(out,i)) (λn=>[nth zV r (j0p t.2.1 n)]) 1048576 [] (step:=j5W t.2.2 (nI t.2.2.length) t r) (λout=>k out) (λout=>k out) (by unfold LIM;omega) (λi hi _=>by
  rw [j5y,List.nil_append,List.length_map,List.length_take];omega) (by simp) (λi out rec hi ho _=>by
  show j2s _ _ t r _ _ _ _=_
  unfold j2s
  have hk':=hk _ (List.getElem_mem hi)
  have hlo:out.length=i:=by
   rw [ho,j5y,List.nil_append,List.length_map,List.length_take];omega
  dsimp only
  rw [Z9q hi,cond_true,j03 hi,cond_true,Z9a _ _ _ hi,jbF t _ (by unfold LIM;omega),Z9k hk'.1 (by omega),cond_true,Z9l (by unfold LIM;omega),cond_true,j04 (n:=(i:Int)+1) (by omega)]) (λout rec=>by
  show j2s _ _ t r _ _ _ _=_
  unfold j2s
  dsimp only
  rw [Z9p,cond_false])
 refine this.trans ?_
 rw [j5y,List.nil_append]
 rfl
theorem je9 (a b:List V) (ha:a.length<=LIM) (k:Bool->Res):j4l a b k=k (klt a b):=by
 unfold j4l j6H
 unfold LIM at ha
 have key:∀ (d i n:Nat),i+d=a.length->d<n->i<=b.length->Z14 (j51 a b) n (i:Int) ((λ(_:Unit)=>k (decide (nI a.length<nI b.length))),(λ(t:Bool)=>k t))=k (klt (a.drop i) (b.drop i)):=by
  intro d
  induction d with
  | zero=>
   intro i n hi hn hb
   obtain ⟨n,rfl⟩:∃ m,n=m+1:=⟨n-1,by omega⟩
   have:i=a.length:=by omega
   subst this
   show j1M a b _ _ _ _=_
   unfold j1M
   rw [Z9p,cond_false,List.drop_length]
   show k (decide (nI a.length<nI b.length))=_
   by_cases h1:a.length<b.length
   ·rw [List.drop_eq_getElem_cons h1,decide_eq_true (show nI a.length<nI b.length by unfold nI;omega)]
    rfl
   ·rw [List.drop_of_length_le (by omega),decide_eq_false (show ¬ nI a.length<nI b.length by unfold nI;omega)]
    rfl
  | succ d ih=>
   intro i n hi hn hb
   obtain ⟨n,rfl⟩:∃ m,n=m+1:=⟨n-1,by omega⟩
   have hlt:i<a.length:=by omega
   show j1M a b _ _ _ _=_
   unfold j1M
   rw [Z9q hlt,cond_true,List.drop_eq_getElem_cons hlt]
   by_cases h1:i<b.length
   ·rw [Z9q h1,cond_true,j03 hlt,cond_true,j03 h1,cond_true,List.drop_eq_getElem_cons h1,Z9a _ _ _ hlt,Z9a _ _ _ h1,cond_true,cond_true,jg8,j04 (n:=(i:Int)+1) (by omega)]
    show (bif !veq a[i] b[i] then _ else _)=k (bif veq a[i] b[i] then _ else _)
    cases veq a[i] b[i]
    ·rfl
    ·exact ih (i+1) n (by omega) (by omega) (by omega)
   ·have:i=b.length:=by omega
    subst this
    rw [Z9p,cond_false,List.drop_length]
    show k (decide (nI a.length<nI b.length))=_
    rw [decide_eq_false (show ¬ nI a.length<nI b.length by unfold nI;omega)]
    rfl
 exact key a.length 0 Z12 (by omega) (Z1U (by omega)) (by omega)
theorem jd0 (t:T) (h:msr yT t<=1048576) (ht:j1D t=true) (r:List V) (hr:r.length=t.2.1.length) (k:List V->Res):j4y t r k=k (j6h t r):=by
 obtain ⟨m1,m2,m3,m4,m5⟩:=j7t h
 unfold j4y j7J
 have hk:=j6i t.2.2 (-1) (by omega) (j8o ht).2.2.2.2.2
 have:=Z8x t.2.2 (λi out=>(out,i)) (λn=>[nth zV r (j0p t.2.1 n)]) 1048576 [] (step:=j6e t.2.2 (nI t.2.2.length) t r) (λout=>k out) (λout=>k out) (by unfold LIM;omega) (λi hi _=>by
  rw [j5y,List.nil_append,List.length_map,List.length_take];omega) (by simp) (λi out rec hi ho _=>by
  show j2G _ _ t r _ _ _ _=_
  unfold j2G
  have hk':=hk _ (List.getElem_mem hi)
  have hlo:out.length=i:=by
   rw [ho,j5y,List.nil_append,List.length_map,List.length_take];omega
  dsimp only
  rw [Z9q hi,cond_true,j03 hi,cond_true,Z9a _ _ _ hi,jbj t _ (by unfold LIM;omega),Z9k hk'.1 (by omega),cond_true,Z9l (by unfold LIM;omega),cond_true,j04 (n:=(i:Int)+1) (by omega)]) (λout rec=>by
  show j2G _ _ t r _ _ _ _=_
  unfold j2G
  dsimp only
  rw [Z9p,cond_false])
 refine this.trans ?_
 rw [j5y,List.nil_append]
 rfl
theorem jdR (a b:List V) (ha:a.length<=LIM) (k:Bool->Res):j3U a b k=k (klt a b):=by
 unfold j3U j6a
 unfold LIM at ha
 have key:∀ (d i n:Nat),i+d=a.length->d<n->i<=b.length->Z14 (j4Q a b) n (i:Int) ((λ(_:Unit)=>k (decide (nI a.length<nI b.length))),(λ(t:Bool)=>k t))=k (klt (a.drop i) (b.drop i)):=by
  intro d
  induction d with
  | zero=>
   intro i n hi hn hb
   obtain ⟨n,rfl⟩:∃ m,n=m+1:=⟨n-1,by omega⟩
   have:i=a.length:=by omega
   subst this
   show j1E a b _ _ _ _=_
   unfold j1E
   rw [Z9p,cond_false,List.drop_length]
   show k (decide (nI a.length<nI b.length))=_
   by_cases h1:a.length<b.length
   ·rw [List.drop_eq_getElem_cons h1,decide_eq_true (show nI a.length<nI b.length by unfold nI;omega)]
    rfl
   ·rw [List.drop_of_length_le (by omega),decide_eq_false (show ¬ nI a.length<nI b.length by unfold nI;omega)]
    rfl
  | succ d ih=>
   intro i n hi hn hb
   obtain ⟨n,rfl⟩:∃ m,n=m+1:=⟨n-1,by omega⟩
   have hlt:i<a.length:=by omega
   show j1E a b _ _ _ _=_
   unfold j1E
   rw [Z9q hlt,cond_true,List.drop_eq_getElem_cons hlt]
   by_cases h1:i<b.length
   ·rw [Z9q h1,cond_true,j03 hlt,cond_true,j03 h1,cond_true,List.drop_eq_getElem_cons h1,Z9a _ _ _ hlt,Z9a _ _ _ h1,cond_true,cond_true,jg0,j04 (n:=(i:Int)+1) (by omega)]
    show (bif !veq a[i] b[i] then _ else _)=k (bif veq a[i] b[i] then _ else _)
    cases veq a[i] b[i]
    ·rfl
    ·exact ih (i+1) n (by omega) (by omega) (by omega)
   ·have:i=b.length:=by omega
    subst this
    rw [Z9p,cond_false,List.drop_length]
    show k (decide (nI a.length<nI b.length))=_
    rw [decide_eq_false (show ¬ nI a.length<nI b.length by unfold nI;omega)]
    rfl
 exact key a.length 0 Z12 (by omega) (Z1U (by omega)) (by omega)
theorem jg9 (t:T) (h:msr yT t<=1048576) (l:List (List V)) (k:Bool->Res):j5f t l k=k (j8n t l):=by
 obtain ⟨m1,m2,m3,m4,m5⟩:=j7t h
 unfold j5f j8n
 rw [jaC t h]
 cases ht:j1D t
 ·rfl
 ·rw [Bool.not_true,cond_false,Bool.true_and]
  by_cases h6:l.length<=60
  ·rw [decide_eq_false (show ¬ nI l.length>60 by unfold nI;omega),cond_false,decide_eq_true h6,Bool.true_and]
   unfold j4P
   have:=jea l (λi=>i) (λi r=> !j5R t.2.1 r||(decide (0<i)&& !klt (j6h t (nth [] l ((i:Int)-1))) (j6h t r))) (λi=>∀ (j:Nat) (hj:j<l.length),j<i->j5R t.2.1 l[j]=true) (step:=j3n l l (nI l.length) t) ((λ(_:Unit)=>k true),(λ(_:Unit)=>k false)) (k true) (k false) (by unfold LIM;omega) (λj _ hj=>absurd hj (by omega)) (λi hi hp hb j hj hji=>by
    rw [Bool.or_eq_false_iff,Bool.not_eq_false'] at hb
    by_cases hji':j<i
    ·exact hp j hj hji'
    ·have:j=i:=by omega
     subst this
     exact hb.1) (λi rec hi hp=>by
    show j1j l _ _ t _ _ _ _=_
    unfold j1j
    rw [Z9q hi,cond_true,j03 hi,cond_true,Z9a _ _ _ hi,jgA t h]
    rw [ht,Bool.true_and]
    cases hr:j5R t.2.1 l[i]
    ·rfl
    ·rw [Bool.not_true,cond_false,Bool.false_or,j04 (n:=(i:Int)+1) (by omega)]
     by_cases h0:0<i
     ·have hi':i-1<l.length:=by omega
      have he:((i:Int)-1)=((i-1:Nat):Int):=by omega
      rw [decide_eq_true (show (i:Int)>0 by omega),cond_true,decide_eq_true h0,Bool.true_and,j04 (n:=(i:Int)-1) (by omega),he,j03 hi',cond_true,Z9a _ _ _ hi',jds t h ht _ (jaB (hp _ hi' (by omega))),jds t h ht _ (jaB hr),je9 _ _ (by rw [jfw];unfold LIM;omega)]
     ·rw [decide_eq_false (show ¬ (i:Int)>0 by omega),cond_false,decide_eq_false h0,Bool.false_and,cond_false]) (λrec=>by
    show j1j l _ _ t _ _ _ _=_
    unfold j1j
    rw [Z9p,cond_false])
   refine this.trans ?_
   cases Z5X (λi r=> !j5R t.2.1 r||(decide (0<i)&& !klt (j6h t (nth [] l ((i:Int)-1))) (j6h t r))) 0 l<;>rfl
  ·rw [decide_eq_true (show nI l.length>60 by unfold nI;omega),cond_true,decide_eq_false h6,Bool.false_and]
theorem jg1 (t:T) (h:msr yT t<=1048576) (l:List (List V)) (k:Bool->Res):j57 t l k=k (j8n t l):=by
 obtain ⟨m1,m2,m3,m4,m5⟩:=j7t h
 unfold j57 j8n
 rw [jd1 t h]
 cases ht:j1D t
 ·rfl
 ·rw [Bool.not_true,cond_false,Bool.true_and]
  by_cases h6:l.length<=60
  ·rw [decide_eq_false (show ¬ nI l.length>60 by unfold nI;omega),cond_false,decide_eq_true h6,Bool.true_and]
   unfold j4u
   have:=jea l (λi=>i) (λi r=> !j5R t.2.1 r||(decide (0<i)&& !klt (j6h t (nth [] l ((i:Int)-1))) (j6h t r))) (λi=>∀ (j:Nat) (hj:j<l.length),j<i->j5R t.2.1 l[j]=true) (step:=j3i l l (nI l.length) t) ((λ(_:Unit)=>k true),(λ(_:Unit)=>k false)) (k true) (k false) (by unfold LIM;omega) (λj _ hj=>absurd hj (by omega)) (λi hi hp hb j hj hji=>by
    rw [Bool.or_eq_false_iff,Bool.not_eq_false'] at hb
    by_cases hji':j<i
    ·exact hp j hj hji'
    ·have:j=i:=by omega
     subst this
     exact hb.1) (λi rec hi hp=>by
    show j1h l _ _ t _ _ _ _=_
    unfold j1h
    rw [Z9q hi,cond_true,j03 hi,cond_true,Z9a _ _ _ hi,jgs t h]
    cases hr:j5R t.2.1 l[i]
    ·rfl
    ·rw [Bool.not_true,cond_false,Bool.false_or,j04 (n:=(i:Int)+1) (by omega)]
     by_cases h0:0<i
     ·have hi':i-1<l.length:=by omega
      have he:((i:Int)-1)=((i-1:Nat):Int):=by omega
      rw [decide_eq_true (show (i:Int)>0 by omega),cond_true,decide_eq_true h0,Bool.true_and,j04 (n:=(i:Int)-1) (by omega),he,j03 hi',cond_true,Z9a _ _ _ hi',jd0 t h ht _ (jaB (hp _ hi' (by omega))),jd0 t h ht _ (jaB hr),jdR _ _ (by rw [jfw];unfold LIM;omega)]
     ·rw [decide_eq_false (show ¬ (i:Int)>0 by omega),cond_false,decide_eq_false h0,Bool.false_and,cond_false]) (λrec=>by
    show j1h l _ _ t _ _ _ _=_
    unfold j1h
    rw [Z9p,cond_false])
   refine this.trans ?_
   cases Z5X (λi r=> !j5R t.2.1 r||(decide (0<i)&& !klt (j6h t (nth [] l ((i:Int)-1))) (j6h t r))) 0 l<;>rfl
  ·rw [decide_eq_true (show nI l.length>60 by unfold nI;omega),cond_true,decide_eq_false h6,Bool.false_and]
end Go.PI.G
namespace Go.PI.G
open Go Go.PI Go.Proofs
theorem jgf {c:List T} (h:msr (.slice yT) c<=1048576):c.length<=1048576/\∀ t∈c,msr yT t<=1048576:=⟨j0d h,λt ht=>j0e h ht⟩
theorem jfM (c:List T) (h:msr (.slice yT) c<=1048576) (a b:Unit->Res):j5t c (nI c.length) c Z12 0 a b=bif Z5X (λi t=> !j1D t||(decide (0<i)&&sGe (nth zT c ((i:Int)-1)).1 t.1)) 0 c then b () else a ():=by
 obtain ⟨m1,m2⟩:=jgf h
 unfold j5t
 exact Z8t c (λi=>i) (λi t=> !j1D t||(decide (0<i)&&sGe (nth zT c ((i:Int)-1)).1 t.1)) (step:=j6D c (nI c.length) c) (a,b) (a ()) (b ()) (by unfold LIM;omega) (λi rec hi=>by
  show j2Q _ _ c _ _ _ _=_
  unfold j2Q
  rw [Z9q hi,cond_true,j03 hi,cond_true,Z9a _ _ _ hi,jaC _ (m2 _ (List.getElem_mem hi)),j04 (n:=(i:Int)+1) (by omega),jfi c i hi (by unfold LIM;omega)]
  cases j1D c[i]
  ·rfl
  ·cases (decide (0<i)&&sGe (nth zT c ((i:Int)-1)).1 c[i].1)<;>rfl) (λrec=>by
  show j2Q _ _ c _ _ _ _=_
  unfold j2Q
  rw [Z9p,cond_false])
theorem jfr (c:List T) (h:msr (.slice yT) c<=1048576) (a b:Unit->Res):j5k c (nI c.length) c Z12 0 a b=bif Z5X (λi t=> !j1D t||(decide (0<i)&&sGe (nth zT c ((i:Int)-1)).1 t.1)) 0 c then b () else a ():=by
 obtain ⟨m1,m2⟩:=jgf h
 unfold j5k
 exact Z8t c (λi=>i) (λi t=> !j1D t||(decide (0<i)&&sGe (nth zT c ((i:Int)-1)).1 t.1)) (step:=j67 c (nI c.length) c) (a,b) (a ()) (b ()) (by unfold LIM;omega) (λi rec hi=>by
  show j2B _ _ c _ _ _ _=_
  unfold j2B
  rw [Z9q hi,cond_true,j03 hi,cond_true,Z9a _ _ _ hi,jd1 _ (m2 _ (List.getElem_mem hi)),j04 (n:=(i:Int)+1) (by omega),jfi c i hi (by unfold LIM;omega)]
  cases j1D c[i]
  ·rfl
  ·cases (decide (0<i)&&sGe (nth zT c ((i:Int)-1)).1 c[i].1)<;>rfl) (λrec=>by
  show j2B _ _ c _ _ _ _=_
  unfold j2B
  rw [Z9p,cond_false])
theorem jgx (c:List T) (h:msr (.slice yT) c<=1048576) (k:Bool->Res):j6C c k=k (j9N c):=by
 unfold j6C j9N
 rw [jfM c h]
 by_cases h6:c.length<=6
 ·rw [decide_eq_false (show ¬ nI c.length>6 by unfold nI;omega),cond_false,decide_eq_true h6,Bool.true_and]
  cases Z5X (λi t=> !j1D t||(decide (0<i)&&sGe (nth zT c ((i:Int)-1)).1 t.1)) 0 c<;>rfl
 ·rw [decide_eq_true (show nI c.length>6 by unfold nI;omega),cond_true,decide_eq_false h6,Bool.false_and]
theorem jgp (c:List T) (h:msr (.slice yT) c<=1048576) (k:Bool->Res):j66 c k=k (j9N c):=by
 unfold j66 j9N
 rw [jfr c h]
 have:decide (nI c.length<=6)=decide (c.length<=6):=decide_eq_decide.2 (by unfold nI;omega)
 rw [this]
 cases Z5X (λi t=> !j1D t||(decide (0<i)&&sGe (nth zT c ((i:Int)-1)).1 t.1)) 0 c
 ·rw [Bool.not_false,Bool.and_true];rfl
 ·rw [Bool.not_true,Bool.and_false];rfl
end Go.PI.G
namespace Go.PI.G
open Go Go.PI Go.Proofs
theorem ja8 {d:DB} (h:msr yDB d<=1048576):msr (.slice yT) d.1<=1048576/\d.1.length<=1048576/\d.2.length<=1048576/\(∀ t∈d.1,msr yT t<=1048576)/\∀ l∈d.2,l.length<=1048576:=by
 have h1:msr yDB d=msr (.slice yT) d.1+msr (.slice (.slice (.slice yV))) d.2:=rfl
 have h2:msr (.slice yT) d.1<=1048576:=by omega
 have h3:msr (.slice (.slice (.slice yV))) d.2<=1048576:=by omega
 exact ⟨h2,j0d h2,j0d h3,λt ht=>j0e h2 ht,λl hl=>j0d (j0e h3 hl)⟩
theorem jgU (d:DB) (h:msr yDB d<=1048576) (k:Bool->Res):j62 d k=k (dbB d):=by
 obtain ⟨m1,m2,m3,m4,m5⟩:=ja8 h
 unfold j62 dbB
 rw [jgx _ m1]
 cases j9N d.1
 ·rfl
 ·rw [Bool.not_true,cond_false,Bool.true_and]
  by_cases hl:d.2.length=d.1.length
  ·have hb:(nI d.2.length != nI d.1.length)=false:=by rw [hl,Z9o]
   rw [hb,cond_false,decide_eq_true hl,Bool.true_and]
   unfold j6G
   have:=Z8t d.1 (λi=>i) (λi t=> !j8n t (nth [] d.2 (i:Int))) (step:=j7d d.1 (nI d.1.length) d) ((λ(_:Unit)=>k true),(λ(_:Unit)=>k false)) (k true) (k false) (by unfold LIM;omega) (λi rec hi=>by
    show j3g _ _ d _ _ _ _=_
    unfold j3g
    rw [Z9q hi,cond_true,j03 hi,cond_true,j03 (hl ▸ hi),cond_true,Z9a _ _ _ hi,jg9 _ (m4 _ (List.getElem_mem hi)),j04 (n:=(i:Int)+1) (by omega)]) (λrec=>by
    show j3g _ _ d _ _ _ _=_
    unfold j3g
    rw [Z9p,cond_false])
   refine this.trans ?_
   cases Z5X (λi t=> !j8n t (nth [] d.2 (i:Int))) 0 d.1<;>rfl
  ·have hb:(nI d.2.length != nI d.1.length)=true:=by unfold nI;simp;omega
   rw [hb,cond_true,decide_eq_false hl,Bool.false_and]
theorem jgQ (d:DB) (h:msr yDB d<=1048576) (k:Bool->Res):j60 d k=k (dbB d):=by
 obtain ⟨m1,m2,m3,m4,m5⟩:=ja8 h
 unfold j60 dbB
 rw [jgp _ m1]
 cases j9N d.1
 ·rfl
 ·rw [Bool.not_true,cond_false,Bool.true_and]
  by_cases hl:d.2.length=d.1.length
  ·have hb:(nI d.2.length != nI d.1.length)=false:=by rw [hl,Z9o]
   rw [hb,cond_false,decide_eq_true hl,Bool.true_and]
   unfold j69
   have:=Z8t d.1 (λi=>i) (λi t=> !j8n t (nth [] d.2 (i:Int))) (step:=j71 d.1 (nI d.1.length) d) ((λ(_:Unit)=>k true),(λ(_:Unit)=>k false)) (k true) (k false) (by unfold LIM;omega) (λi rec hi=>by
    show j38 _ _ d _ _ _ _=_
    unfold j38
    rw [Z9q hi,cond_true,j03 hi,cond_true,j03 (hl ▸ hi),cond_true,Z9a _ _ _ hi,jg1 _ (m4 _ (List.getElem_mem hi)),j04 (n:=(i:Int)+1) (by omega)]) (λrec=>by
    show j38 _ _ d _ _ _ _=_
    unfold j38
    rw [Z9p,cond_false])
   refine this.trans ?_
   cases Z5X (λi t=> !j8n t (nth [] d.2 (i:Int))) 0 d.1<;>rfl
  ·have hb:(nI d.2.length != nI d.1.length)=true:=by unfold nI;simp;omega
   rw [hb,cond_true,decide_eq_false hl,Bool.false_and]
end Go.PI.G
namespace Go.PI.G
open Go Go.PI Go.Proofs
noncomputable def j8U (p:List ByteArray):Bool:= !Z5X (λi s=> !j1X s||(decide (0<i)&&sGe (nth eS p ((i:Int)-1)) s)) 0 p&&decide (p.length<=6)
theorem jfC (c:List ByteArray) (i:Nat) (hi:i<c.length) (hl:c.length<=LIM) (x:Res) (y:Res):(bif decide ((i:Int)>0) then (bif inb (Z8o ((i:Int)-1)) c.length then (bif sGe (nth eS c (Z8o ((i:Int)-1))) c[i] then x else y) else none) else y) =
  bif (decide (0<i)&&sGe (nth eS c ((i:Int)-1)) c[i]) then x else y:=by
 by_cases h:0<i
 ·unfold LIM at hl
  rw [decide_eq_true (show (i:Int)>0 by omega),decide_eq_true h,cond_true,j04 (by omega),Z9k (by omega) (by omega),cond_true,Bool.true_and]
 ·rw [decide_eq_false (show ¬ (i:Int)>0 by omega),decide_eq_false h];rfl
theorem jhr {p:List ByteArray} (h:msr (.slice .str) p<=1048576):p.length<=1048576/\∀ x∈p,x.size<=1048576:=⟨j0d h,λx hx=>j0e h hx⟩
theorem jgz (p:List ByteArray) (h:msr (.slice .str) p<=1048576) (k:Bool->Res):j6I p k=k (j8U p):=by
 obtain ⟨m1,m2⟩:=jhr h
 unfold j6I j7Q j8U
 have:=Z8t p (λi=>i) (λi s=> !j1X s||(decide (0<i)&&sGe (nth eS p ((i:Int)-1)) s)) (step:=j6J p (nI p.length) p) ((λ(_:Unit)=>k (decide (nI p.length<=6))),(λ(_:Unit)=>k false)) (k (decide (nI p.length<=6))) (k false) (by unfold LIM;omega) (λi rec hi=>by
  show j2T _ _ p _ _ _ _=_
  unfold j2T
  rw [Z9q hi,cond_true,j03 hi,cond_true,Z9a _ _ _ hi,j9T _ (by have:=m2 _ (List.getElem_mem hi);unfold LIM;omega),j04 (n:=(i:Int)+1) (by omega),jfC p i hi (by unfold LIM;omega)]
  cases j1X p[i]
  ·rfl
  ·cases (decide (0<i)&&sGe (nth eS p ((i:Int)-1)) p[i])<;>rfl) (λrec=>by
  show j2T _ _ p _ _ _ _=_
  unfold j2T
  rw [Z9p,cond_false])
 refine this.trans ?_
 have hd:decide (nI p.length<=6)=decide (p.length<=6):=decide_eq_decide.2 (by unfold nI;omega)
 rw [hd]
 cases Z5X (λi s=> !j1X s||(decide (0<i)&&sGe (nth eS p ((i:Int)-1)) s)) 0 p
 ·rw [cond_false,Bool.not_false,Bool.true_and]
 ·rfl
theorem jgr (p:List ByteArray) (h:msr (.slice .str) p<=1048576) (k:Bool->Res):j6b p k=k (j8U p):=by
 obtain ⟨m1,m2⟩:=jhr h
 unfold j6b j7H j8U
 have:=Z8t p (λi=>i) (λi s=> !j1X s||(decide (0<i)&&sGe (nth eS p ((i:Int)-1)) s)) (step:=j6c p (nI p.length) p) ((λ(_:Unit)=>k (decide (nI p.length<=6))),(λ(_:Unit)=>k false)) (k (decide (nI p.length<=6))) (k false) (by unfold LIM;omega) (λi rec hi=>by
  show j2D _ _ p _ _ _ _=_
  unfold j2D
  rw [Z9q hi,cond_true,j03 hi,cond_true,Z9a _ _ _ hi,j9O _ (by have:=m2 _ (List.getElem_mem hi);unfold LIM;omega),j04 (n:=(i:Int)+1) (by omega),jfC p i hi (by unfold LIM;omega)]
  cases j1X p[i]
  ·rfl
  ·cases (decide (0<i)&&sGe (nth eS p ((i:Int)-1)) p[i])<;>rfl) (λrec=>by
  show j2D _ _ p _ _ _ _=_
  unfold j2D
  rw [Z9p,cond_false])
 refine this.trans ?_
 have hd:decide (nI p.length<=6)=decide (p.length<=6):=decide_eq_decide.2 (by unfold nI;omega)
 rw [hd]
 cases Z5X (λi s=> !j1X s||(decide (0<i)&&sGe (nth eS p ((i:Int)-1)) s)) 0 p
 ·rw [cond_false,Bool.not_false,Bool.true_and]
 ·rfl
end Go.PI.G
namespace Go.PI.G
open Go Go.PI Go.Proofs
theorem j2A {α:Type}:(l:List α)->l.flatMap (λx=>[x])=l
 | []=>rfl
 | x::l=>by rw [List.flatMap_cons,j2A l];rfl
theorem jg6 (l:List (List V)) (h:l.length<=1048576) (h2:∀ r∈l,r.length<=1048576) (k:List (List V)->Res):j6M l k=k l:=by
 unfold j6M j6N
 have:=Z8x l (λi out=>(out,i)) (λx=>[x]) 1048576 [] (step:=j54 l (nI l.length)) (λout=>k out) (λout=>k out) (by unfold LIM;omega) (λi hi _=>by
  rw [j2A,List.nil_append,List.length_take];omega) (by simp) (λi out rec hi ho hB=>by
  show j1P _ _ _ _ _ _=_
  unfold j1P j9V
  have:=h2 _ (List.getElem_mem hi)
  dsimp only
  rw [Z9q hi,cond_true,j03 hi,cond_true,Z9a _ _ _ hi,Z9l (by unfold LIM;omega),cond_true,Z9l (by unfold LIM;omega),cond_true,j04 (n:=(i:Int)+1) (by omega)]) (λout rec=>by
  show j1P _ _ _ _ _ _=_
  unfold j1P
  dsimp only
  rw [Z9p,cond_false])
 refine this.trans ?_
 rw [j2A,List.nil_append]
theorem jfY (l:List (List V)) (h:l.length<=1048576) (h2:∀ r∈l,r.length<=1048576) (k:List (List V)->Res):j5m l k=k l:=by
 unfold j5m j5B
 have:=Z8x l (λi out=>(out,i)) (λx=>[x]) 1048576 [] (step:=j3Y l (nI l.length)) (λout=>k out) (λout=>k out) (by unfold LIM;omega) (λi hi _=>by
  rw [j2A,List.nil_append,List.length_take];omega) (by simp) (λi out rec hi ho hB=>by
  show j1o _ _ _ _ _ _=_
  unfold j1o j7I
  have:=h2 _ (List.getElem_mem hi)
  dsimp only
  rw [Z9q hi,cond_true,j03 hi,cond_true,Z9a _ _ _ hi,Z9l (by unfold LIM;omega),cond_true,Z9l (by unfold LIM;omega),cond_true,j04 (n:=(i:Int)+1) (by omega)]) (λout rec=>by
  show j1o _ _ _ _ _ _=_
  unfold j1o
  dsimp only
  rw [Z9p,cond_false])
 refine this.trans ?_
 rw [j2A,List.nil_append]
theorem jfO (t:T) (h:msr yT t<=1048576) (k:T->Res):j5w t k=k t:=by
 obtain ⟨m1,m2,m3,m4,m5⟩:=j7t h
 unfold j5w
 simp only [Z8u]
 rw [Z9l (by unfold LIM;omega),cond_true,Z9l (by unfold LIM;omega),cond_true]
theorem jft (t:T) (h:msr yT t<=1048576) (k:T->Res):j4x t k=k t:=by
 obtain ⟨m1,m2,m3,m4,m5⟩:=j7t h
 unfold j4x j1Z
 rw [Z9l (by unfold LIM;omega),cond_true,Z9l (by unfold LIM;omega),cond_true]
end Go.PI.G
namespace Go.PI.G
open Go Go.PI
def free (b:Int) (s:ByteArray):Prop:=b ∉ Z1e s
theorem j8p {s:ByteArray} (h:j1X s=true):1<=s.size/\s.size<=8:=by
 unfold j1X at h
 simp only [Bool.and_eq_true,decide_eq_true_eq] at h
 exact h.2
end Go.PI.G
namespace Go.PI.G
open Go Go.PI
abbrev D:=Int×ByteArray×List C×List ByteArray×ByteArray×ByteArray
abbrev ST:=Int×ByteArray×List V×List V×D
abbrev yD:Ty:= .pair (.int .i64) (.pair .str (.pair (.slice yC) (.pair (.slice .str) (.pair .str .str))))
abbrev yST:Ty:= .pair (.int .i64) (.pair .str (.pair (.slice yV) (.pair (.slice yV) yD)))
end Go.PI.G
namespace Go.PI.G
open Go Go.PI
theorem jhx {v:V} (h:j1W v=true):msr yV v<=30:=by
 have e:msr yV v=0+(0+v.2.2.size):=rfl
 have:=jh5 h
 omega
theorem j8q {e:Ty} (c:Nat):(l:List (El e))->(∀ x∈l,msr e x<=c)->msr (.slice e) l<=l.length * (c+1)
 | [],_=>Nat.zero_le _
 | x::l,h=>by
  have h1:=j8q c l λy hy=>h y (List.mem_cons_of_mem _ hy)
  have h2:=h x (by simp)
  rw [jgS] at h1 ⊢
  simp only [List.map_cons,List.sum_cons,List.length_cons]
  rw [Nat.succ_mul]
  omega
theorem jhc {c:C} (h:j36 c=true):msr yC c<=38:=by
 have e:msr yC c=c.1.size+(0+(0+(0+msr yV c.2.2.2.2))):=rfl
 unfold j36 at h
 simp only [Bool.and_eq_true] at h
 have h1:=j8p h.1
 have h2:=jhx h.2.2.1
 omega
theorem jgI {l:List C} (h:j65 l=true) {c:C} (hc:c∈l):j36 c=true:=by
 obtain ⟨i,hi,rfl⟩:=List.getElem_of_mem hc
 exact jeb h i hi
theorem jgH {l:List C} {n:ByteArray} (h:0<=j0p l n):∃ c∈l,c.1=n:=by
 unfold j0p Z8j at h
 cases hf:List.findIdx? (λc:C=>sEq c.1 n) l with
 | none=>rw [hf] at h;dsimp only at h;omega
 | some i=>
  obtain ⟨hi,hp,_⟩:=List.findIdx?_eq_some_iff_getElem.1 hf
  exact ⟨l[i],List.getElem_mem hi,(ja9 _ _).1 hp⟩
theorem jeg {l:List C}:(ks:List ByteArray)->(last:Int)->last<(l.length:Int)->j2I l last ks=true->last+(ks.length:Int)<(l.length:Int)
 | [],last,h0,_=>by simpa using h0
 | q::ks,last,h0,h=>by
  simp only [j2I,Bool.and_eq_true,Bool.not_eq_true',decide_eq_false_iff_not] at h
  have h1:=jeg ks (j0p l q) (j56 l q).2 h.2.2
  rw [List.length_cons]
  omega
theorem jhd {t:ByteArray} {cs:List C} {ks:List ByteArray} (h:j1D (t,cs,ks)=true):t.size<=8/\msr (.slice yC) cs<=312/\msr (.slice .str) ks<=72:=by
 have hp:=j8o h
 dsimp only at hp
 have hc:∀ c∈cs,j36 c=true:=λc hc=>jgI hp.2.2.2.2.1 hc
 have h1:=j8q (e:=yC) 38 cs λc h=>jhc (hc c h)
 have h2:cs.length * 39<=8 * 39:=Nat.mul_le_mul_right _ hp.2.2.1
 have hk:=j6i ks (-1) (by omega) hp.2.2.2.2.2
 have hl:=jeg ks (-1) (by omega) hp.2.2.2.2.2
 have h3:=j8q (e:= .str) 8 ks λk hm=>by
  obtain ⟨c,hcm,he⟩:=jgH (hk k hm).1
  have hb:=hc c hcm
  unfold j36 at hb
  rw [Bool.and_eq_true] at hb
  have:=(j8p hb.1).2
  rw [he] at this
  exact this
 have h4:ks.length * 9<=8 * 9:=Nat.mul_le_mul_right _ (by omega)
 exact ⟨(j8p hp.1).2,by omega,by omega⟩
end Go.PI.G
namespace Go.PI.G
open Go Go.PI Go.Proofs
theorem jaT (k:ByteArray->Res):∀ (m n d:Nat) (s:ByteArray),n<m->0<n->n<=4294967296->n<10 ^ (d+1)->s.size+d<=1000 ->
  Z14 j2N m ((n:Int),s) k=k (jaw n++s)
 | 0,n,d,s,h,_,_,_,_=>by omega
 | m+1,n,d,s,h,hn,hb,hd,hs=>by
  rw [Z8C]
  show j1v _ _ _ _=_
  unfold j1v
  have h9:decide ((n:Int)>0)=true:=decide_eq_true (by omega)
  rw [h9,cond_true,jhk,jhl,Z9j (n:=((n / 10:Nat):Int)) (by omega) (by omega)]
  show (bif lim ((dgt ((n % 10:Nat):Int)).size+s.size) then Z14 j2N m (((n / 10:Nat):Int),dgt ((n % 10:Nat):Int)++s) k else none)=_
  rw [j8F,Z9l (by unfold LIM;omega),cond_true]
  by_cases h1:n<10
  ·have h10:n / 10=0:=by omega
   have h11:n % 10=n:=by omega
   rw [h10,h11,jdQ h1]
   obtain ⟨m,rfl⟩:∃ e,m=e+1:=⟨m-1,by omega⟩
   rw [Z8C]
   show j1v _ _ _ _=_
   unfold j1v
   have h0:decide (((0:Nat):Int)>0)=false:=decide_eq_false (by omega)
   rw [h0,cond_false]
  ·obtain ⟨d,rfl⟩:∃ e,d=e+1:=by
    cases d with
    | zero=>exact absurd (by simpa using hd) h1
    | succ d=>exact ⟨d,rfl⟩
   rw [jaT k m (n / 10) d _ (by omega) (by omega) (by omega) (Nat.div_lt_of_lt_mul (by rw [Nat.pow_succ] at hd;omega)) (by rw [ByteArray.size_append,j8F];omega),jgd h1,ByteArray.append_assoc]
theorem j0j (k:Int) (h:1<=k/\k<=4294967296) (K:ByteArray->Res):j0b k K=K (mT k):=by
 unfold j0b j5M
 have h0:decide (k<=0)=false:=decide_eq_false (by omega)
 have:=jaT (λ(out:ByteArray)=>bif lim (1+(ByteArray.size out)) then K (z_m++out) else none) Z12 k.toNat 12 eS (Z1U (by omega)) (by omega) (by omega) (by omega) (by show 0+12<=1000;omega)
 rw [show ((k.toNat:Nat):Int)=k by omega,jhw] at this
 rw [h0,cond_false]
 refine this.trans ?_
 have hs:=jec 12 k.toNat (by omega)
 rw [Z9l (by unfold LIM;omega),cond_true]
 rfl
end Go.PI.G
set_option maxRecDepth 10000
namespace Go.PI.G
open Go Go.PI Go.Proofs
theorem jfR (a:Int×Int×ByteArray) (h:msr y3 a<=1048576) (k:qV->Res):j6v a k=k a:=by
 unfold j6v
 rfl
theorem jfQ (a:Int×Int×ByteArray) (left:Int) (h0:0<=left) (h1:left<=1048576) (hw:Wf y3 a) (k:Int->Res):j6t a left k=k (szR left (msr y3 a)):=by
 have hm:msr y3 a=ByteArray.size a.2.2+0:=by simp only [msr];omega
 rw [hm]
 unfold j6t
 have hx0:ByteArray.size a.2.2<=maxLen:=hw.2.2
 unfold maxLen at hx0
 rw [j04 (by unfold nI;omega)]
 by_cases hb0:((ByteArray.size a.2.2:Nat):Int)<=left
 rotate_left
 ·rw [Z8X hb0,Z8J (by unfold nI;omega),cond_true]
 rw [Z8I (by unfold nI;omega),cond_false,Z8W hb0,show left-nI (ByteArray.size a.2.2)=left-((ByteArray.size a.2.2:Nat):Int) from rfl]
 exact j7w (by omega)
theorem jfn (a:Int×Int×ByteArray) (h:msr y3 a<=1048576) (k:Bool->Res):j6q a a k=k true:=by
 unfold j6q
 simp only [Z9o,Z8U,beq_self_eq_true,cond_false,Bool.not_true]
end Go.PI.G
namespace Go.PI.G
open Go Go.PI Go.Proofs
theorem jhn (a:ByteArray×Int×Bool×Bool×Int×Int×ByteArray) (h:msr y8 a<=1048576) (k:qC->Res):j8l a k=k a:=by
 have h4:msr y3 a.2.2.2.2<=1048576:=(Nat.le_trans (@j00 .bool y3 a.2.2.2) (Nat.le_trans (@j00 .bool y5 a.2.2) (Nat.le_trans (@j00 (.int .i64) y6 a.2) (Nat.le_trans (@j00 .str y7 a) h))))
 unfold j8l
 simp only [jfR _ h4]
theorem jhf (a:ByteArray×Int×Bool×Bool×Int×Int×ByteArray) (left:Int) (h0:0<=left) (h1:left<=1048576) (hw:Wf y8 a) (k:Int->Res):j8j a left k=k (szR left (msr y8 a)):=by
 have hm:msr y8 a=ByteArray.size a.1+(msr y3 a.2.2.2.2+0):=by simp only [msr];omega
 rw [hm]
 unfold j8j
 have hx0:ByteArray.size a.1<=maxLen:=hw.1
 unfold maxLen at hx0
 rw [j04 (by unfold nI;omega)]
 by_cases hb0:((ByteArray.size a.1:Nat):Int)<=left
 rotate_left
 ·rw [Z8X hb0,Z8J (by unfold nI;omega),cond_true]
 rw [Z8I (by unfold nI;omega),cond_false,Z8W hb0,show left-nI (ByteArray.size a.1)=left-((ByteArray.size a.1:Nat):Int) from rfl]
 rw [jfQ _ _ (by omega) (by omega) hw.2.2.2.2]
 by_cases hb1:((msr y3 a.2.2.2.2:Nat):Int)<=left-(ByteArray.size a.1:Nat)
 rotate_left
 ·rw [Z9b hb1,Z8X hb1,Z8J (by omega),cond_true]
 rw [Z9c hb1,Z8W hb1,Z8I (by omega),cond_false]
 exact j7w (by omega)
theorem jh7 (a:ByteArray×Int×Bool×Bool×Int×Int×ByteArray) (h:msr y8 a<=1048576) (k:Bool->Res):j8h a a k=k true:=by
 have h4:msr y3 a.2.2.2.2<=1048576:=(Nat.le_trans (@j00 .bool y3 a.2.2.2) (Nat.le_trans (@j00 .bool y5 a.2.2) (Nat.le_trans (@j00 (.int .i64) y6 a.2) (Nat.le_trans (@j00 .str y7 a) h))))
 unfold j8h
 simp only [Z9o,Z8U,beq_self_eq_true,cond_false,Bool.not_true,jfn _ h4]
end Go.PI.G
namespace Go.PI.G
open Go Go.PI Go.Proofs
theorem jh0 (a:qE) (h:msr y9 a<=1048576) (k:qE->Res):j5d a k=k a:=by
 have hl:a.length<=1048576:=j0d h
 unfold j5d
 rw [Z97 (by unfold LIM;omega),cond_true]
 have:=Z9e ((eS,0,false,false,0,0,eS)) a id (step:=j5O a) (λout=>k out) (by unfold LIM;omega) (λout i rec hi hlo=>by
  show j2o a _ _ _ _=_
  unfold j2o
  dsimp only
  simp only [Z9q hi,cond_true,j03 hi,j03 (show i<out.length by omega),Z9a _ _ _ hi,Z9h,j04 (n:=(i:Int)+1) (by omega),jhn _ (j0e h (List.getElem_mem hi))]
  rfl) (λout rec=>by
  show j2o a _ _ _ _=_
  unfold j2o
  dsimp only
  rw [Z9p,cond_false])
 rw [List.map_id] at this
 exact this
theorem jgW (a:qE) (left:Int) (h0:0<=left) (h1:left<=1048576) (hw:Wf y9 a) (k:Int->Res):j5c a left k=k (szR left (msr y9 a)):=by
 have hl:a.length<=maxLen:=hw.1
 have hm:msr y9 a=a.length+(a.map (msr y8)).sum:=rfl
 rw [hm]
 unfold j5c
 refine jao (F:=λq=>j4H a Z12 q 0 (λleft1=>k left1) (λ_=>k (-1))) (k:=k) h0 h1 hl λhb=> ?_
 unfold j4H
 rw [Z9d (msr y8) a _ (by omega) (λleft i rec hi h0 h1=> ?_) (λleft rec=> ?_) _ (by omega) (by omega)]
 ·by_cases hb:(((a.map (msr y8)).sum:Nat):Int)<=left-a.length
  ·rw [if_pos hb,Z9c hb]
  ·rw [if_neg hb,Z9b hb]
 ·show j2l a _ _ _ _ _=_
  have hx:=hw.2 _ (List.getElem_mem hi)
  unfold j2l
  rw [Z9q hi,cond_true,j03 hi,cond_true,Z9a _ _ _ hi,jhf _ _ h0 h1 hx]
  have hi9:(i:Int)<4611686018427387904:=by unfold maxLen at hl;omega
  rw [j04 (n:=(i:Int)+1) (by omega)]
  by_cases hb:((msr y8 a[i]:Nat):Int)<=left
  ·rw [if_pos hb,Z9c hb,Z8I (by omega),cond_false]
  ·rw [if_neg hb,Z9b hb,Z8J (by omega),cond_true]
 ·show j2l a _ _ _ _ _=_
  unfold j2l
  rw [Z9p,cond_false]
theorem jed (a:qE) (h:msr y9 a<=1048576) (k:Bool->Res):j2Z a a k=k true:=by
 have hl:a.length<=1048576:=j0d h
 unfold j2Z
 rw [Z9o,cond_false]
 unfold j72
 rw [Z93 a _ (by unfold LIM;omega) (λi rec hi=> ?_) (λrec=> ?_)]
 ·show j25 a a _ _ _ _=_
  unfold j25
  simp only [Z9q hi,cond_true,j03 hi,Z9a _ _ _ hi,j04 (n:=(i:Int)+1) (by omega),Z9o,Z8U,cond_false,Bool.not_true,jh7 _ (j0e h (List.getElem_mem hi))]
 ·show j25 a a _ _ _ _=_
  unfold j25
  rw [Z9p,cond_false]
theorem jck (a:qE) (k:Int) (h:msr y9 a<=1048576) (h0:1<=k) (hk:k+(wgt y9 a:Int)<=4294967296) (K:Int->qE->Res):j2y a k K=K (k+(wgt y9 a:Int)) (mkL (wgt y8) (mk y8) a k):=by
 have hl:a.length<=1048576:=j0d h
 have hwg:wgt y9 a=(a.map (wgt y8)).sum:=rfl
 rw [hwg] at hk ⊢
 unfold j2y j5I
 have:=Z8D (wgt y8) (mk y8) a k (λl k i=>(l,k,i)) (step:=j2L) (λl k=>K k l) (λl k=>K k l) (by unfold LIM;omega) (λl i rec hi hll hli hla=>by
  have e1:=Z6s (wgt y8) a i hi
  have e2:=Z8p (wgt y8) a (i+1)
  generalize hκ:k+((((a.take i).map (wgt y8)).sum:Nat):Int)=κ
  have hκ1:1<=κ/\κ+(wgt y8 a[i]:Int)<=4294967296:=by omega
  have hw:(wgt y8 a[i]:Int)=1+1+1+1+1+1+1:=by
   have:wgt y8 a[i]=1+1+1+1+1+1+1:=by first | rfl | (simp only [wgt];done) | (simp only [wgt];omega)
   first | rfl | omega
  show j0X _ _ _ _ _=_
  dsimp only
  unfold j0X j2a j2b j2c
  rw [<-hll] at hi
  have hi':i<a.length:=by omega
  simp (disch:=first | assumption | omega) only [show nI a.length=nI l.length by rw [hll],Z9q,j03,j3A,cond_true,j3x,j3B,Z9a,hla,j04,j0j,<-hll]
  rw [Z9h]
  congr 3<;>first | rfl | omega | (simp only [j0l,j0g,j0r,j0A,j0k,j0s,j0i,j0m,j0h,j0n,Int.natCast_add,Int.natCast_one,<-Int.add_assoc];done) | (simp only [j0l,j0g,j0r,j0A,j0k,j0s,j0i,j0m,j0h,j0n,Int.natCast_add,Int.natCast_one,<-Int.add_assoc];rfl) | skip) (λl k rec hll=>by
  show j0X _ _ _ _ _=_
  dsimp only
  unfold j0X j2a j2b j2c
  rw [<-hll,Z9p,cond_false])
 exact this
theorem jci (a:qE) (k:Int) (h:msr y9 a<=1048576) (h0:1<=k) (hk:k+(wgt y9 a:Int)<=4294967296) (K:Int->Res):j1A (mkL (wgt y8) (mk y8) a k) k K=K (k+(wgt y9 a:Int)):=by
 have hl:a.length<=1048576:=j0d h
 have hwg:wgt y9 a=(a.map (wgt y8)).sum:=rfl
 rw [hwg] at hk ⊢
 have hll:=Z5t (wgt y8) (mk y8) a k
 have hg:=Z96 (wgt y8) (mk y8) a k
 generalize mkL (wgt y8) (mk y8) a k=l at hll hg
 unfold j1A j5D
 have:=Z8A (wgt y8) a k (λk i=>(k,i)) (step:=j2J l) ((λ(k_1:Int)=>K k_1),(λ(_:Unit)=>K (-1))) (λk=>K k) (by unfold LIM;omega) (λi rec hi=>by
  have e1:=Z6s (wgt y8) a i hi
  have e2:=Z8p (wgt y8) a (i+1)
  have hgi:=hg i hi (by omega)
  generalize hκ:k+((((a.take i).map (wgt y8)).sum:Nat):Int)=κ at hgi
  have hκ1:1<=κ/\κ+(wgt y8 a[i]:Int)<=4294967296:=by omega
  have hw:(wgt y8 a[i]:Int)=1+1+1+1+1+1+1:=by
   have:wgt y8 a[i]=1+1+1+1+1+1+1:=by first | rfl | (simp only [wgt];done) | (simp only [wgt];omega)
   first | rfl | omega
  show j0U _ _ _ _ _ _=_
  dsimp only
  unfold j0U
  have hi':i<l.length:=by omega
  simp (disch:=first | assumption | omega) only [Z9q,j03,cond_true,cond_false,Z9a,hgi,j0l,j0g,j0r,j0A,j0k,j0s,j0i,j0m,j0h,j0n,Int.natCast_add,Int.natCast_one,<-Int.add_assoc,j04,j0j,Z9o,Z8U,beq_self_eq_true,Bool.not_true,Z8I]
  all_goals (congr 2;omega)) (λk rec=>by
  show j0U _ _ _ _ _ _=_
  dsimp only
  unfold j0U
  rw [<-hll,Z9p,cond_false])
 exact this
end Go.PI.G
namespace Go.PI.G
open Go Go.PI Go.Proofs
theorem jbH (a:(List ByteArray)) (h:msr y1 a<=1048576) (k:(List ByteArray)->Res):j22 a k=k a:=by
 have hl:a.length<=1048576:=j0d h
 unfold j22
 rw [Z97 (by unfold LIM;omega),cond_true]
 have:=Z9e (eS) a id (step:=j3K a) (λout=>k out) (by unfold LIM;omega) (λout i rec hi hlo=>by
  show j1g a _ _ _ _=_
  unfold j1g
  dsimp only
  simp only [Z9q hi,cond_true,j03 hi,j03 (show i<out.length by omega),Z9a _ _ _ hi,Z9h,j04 (n:=(i:Int)+1) (by omega)]
  rfl) (λout rec=>by
  show j1g a _ _ _ _=_
  unfold j1g
  dsimp only
  rw [Z9p,cond_false])
 rw [List.map_id] at this
 exact this
theorem jbG (a:(List ByteArray)) (left:Int) (h0:0<=left) (h1:left<=1048576) (hw:Wf y1 a) (k:Int->Res):j21 a left k=k (szR left (msr y1 a)):=by
 have hl:a.length<=maxLen:=hw.1
 have hm:msr y1 a=a.length+(a.map (msr .str)).sum:=rfl
 rw [hm]
 unfold j21
 refine jao (F:=λq=>j32 a Z12 q 0 (λleft1=>k left1) (λ_=>k (-1))) (k:=k) h0 h1 hl λhb=> ?_
 unfold j32
 rw [Z9d (msr .str) a _ (by omega) (λleft i rec hi h0 h1=> ?_) (λleft rec=> ?_) _ (by omega) (by omega)]
 ·by_cases hb:(((a.map (msr .str)).sum:Nat):Int)<=left-a.length
  ·rw [if_pos hb,Z9c hb]
  ·rw [if_neg hb,Z9b hb]
 ·show j1f a _ _ _ _ _=_
  have hx:=hw.2 _ (List.getElem_mem hi)
  unfold j1f
  have hx:a[i].size<=maxLen:=hx
  unfold maxLen at hx hl
  rw [Z9q hi,cond_true,j03 hi,cond_true,Z9a _ _ _ hi,j04 (n:=left-nI a[i].size) (by unfold nI;omega),j04 (n:=(i:Int)+1) (by omega)]
  unfold nI
  by_cases hb:((msr .str a[i]:Nat):Int)<=left
  ·have hb':(a[i].size:Int)<=left:=hb
   rw [if_pos hb,Z8I (by omega),cond_false];rfl
  ·have hb':¬ (a[i].size:Int)<=left:=hb
   rw [if_neg hb,Z8J (by omega),cond_true]
 ·show j1f a _ _ _ _ _=_
  unfold j1f
  rw [Z9p,cond_false]
theorem j8G (a:(List ByteArray)) (h:msr y1 a<=1048576) (k:Bool->Res):j0T a a k=k true:=by
 have hl:a.length<=1048576:=j0d h
 unfold j0T
 rw [Z9o,cond_false]
 unfold j4T
 rw [Z93 a _ (by unfold LIM;omega) (λi rec hi=> ?_) (λrec=> ?_)]
 ·show j18 a a _ _ _ _=_
  unfold j18
  simp only [Z9q hi,cond_true,j03 hi,Z9a _ _ _ hi,j04 (n:=(i:Int)+1) (by omega),Z9o,Z8U,cond_false,Bool.not_true]
 ·show j18 a a _ _ _ _=_
  unfold j18
  rw [Z9p,cond_false]
theorem j77 (a:(List ByteArray)) (k:Int) (h:msr y1 a<=1048576) (h0:1<=k) (hk:k+(wgt y1 a:Int)<=4294967296) (K:Int->(List ByteArray)->Res):j0S a k K=K (k+(wgt y1 a:Int)) (mkL (wgt .str) (mk .str) a k):=by
 have hl:a.length<=1048576:=j0d h
 have hwg:wgt y1 a=(a.map (wgt .str)).sum:=rfl
 rw [hwg] at hk ⊢
 unfold j0S j3J
 have:=Z8D (wgt .str) (mk .str) a k (λl k i=>(l,k,i)) (step:=j3e) (λl k=>K k l) (λl k=>K k l) (by unfold LIM;omega) (λl i rec hi hll hli hla=>by
  have e1:=Z6s (wgt .str) a i hi
  have e2:=Z8p (wgt .str) a (i+1)
  generalize hκ:k+((((a.take i).map (wgt .str)).sum:Nat):Int)=κ
  have hκ1:1<=κ/\κ+(wgt .str a[i]:Int)<=4294967296:=by omega
  have hw:(wgt .str a[i]:Int)=1:=by
   have:wgt .str a[i]=1:=by first | rfl | (simp only [wgt];done) | (simp only [wgt];omega)
   first | rfl | omega
  show j0Z _ _ _ _ _=_
  dsimp only
  unfold j0Z
  rw [<-hll] at hi
  have hi':i<a.length:=by omega
  simp (disch:=first | assumption | omega) only [show nI a.length=nI l.length by rw [hll],Z9q,j03,j3A,cond_true,j3x,j3B,Z9a,hla,j04,j0j,<-hll]
  rw [Z9h]
  congr 3<;>first | rfl | omega | (simp only [j0l,j0g,j0r,j0A,j0k,j0s,j0i,j0m,j0h,j0n,Int.natCast_add,Int.natCast_one,<-Int.add_assoc];done) | (simp only [j0l,j0g,j0r,j0A,j0k,j0s,j0i,j0m,j0h,j0n,Int.natCast_add,Int.natCast_one,<-Int.add_assoc];rfl) | skip) (λl k rec hll=>by
  show j0Z _ _ _ _ _=_
  dsimp only
  unfold j0Z
  rw [<-hll,Z9p,cond_false])
 exact this
theorem j70 (a:(List ByteArray)) (k:Int) (h:msr y1 a<=1048576) (h0:1<=k) (hk:k+(wgt y1 a:Int)<=4294967296) (K:Int->Res):j0F (mkL (wgt .str) (mk .str) a k) k K=K (k+(wgt y1 a:Int)):=by
 have hl:a.length<=1048576:=j0d h
 have hwg:wgt y1 a=(a.map (wgt .str)).sum:=rfl
 rw [hwg] at hk ⊢
 have hll:=Z5t (wgt .str) (mk .str) a k
 have hg:=Z96 (wgt .str) (mk .str) a k
 generalize mkL (wgt .str) (mk .str) a k=l at hll hg
 unfold j0F j3F
 have:=Z8A (wgt .str) a k (λk i=>(k,i)) (step:=j3b l) ((λ(k_1:Int)=>K k_1),(λ(_:Unit)=>K (-1))) (λk=>K k) (by unfold LIM;omega) (λi rec hi=>by
  have e1:=Z6s (wgt .str) a i hi
  have e2:=Z8p (wgt .str) a (i+1)
  have hgi:=hg i hi (by omega)
  generalize hκ:k+((((a.take i).map (wgt .str)).sum:Nat):Int)=κ at hgi
  have hκ1:1<=κ/\κ+(wgt .str a[i]:Int)<=4294967296:=by omega
  have hw:(wgt .str a[i]:Int)=1:=by
   have:wgt .str a[i]=1:=by first | rfl | (simp only [wgt];done) | (simp only [wgt];omega)
   first | rfl | omega
  show j0W _ _ _ _ _ _=_
  dsimp only
  unfold j0W
  have hi':i<l.length:=by omega
  simp (disch:=first | assumption | omega) only [Z9q,j03,cond_true,cond_false,Z9a,hgi,j0l,j0g,j0r,j0A,j0k,j0s,j0i,j0m,j0h,j0n,Int.natCast_add,Int.natCast_one,<-Int.add_assoc,j04,j0j,Z9o,Z8U,beq_self_eq_true,Bool.not_true,Z8I]
  all_goals (congr 2;omega)) (λk rec=>by
  show j0W _ _ _ _ _ _=_
  dsimp only
  unfold j0W
  rw [<-hll,Z9p,cond_false])
 exact this
end Go.PI.G
namespace Go.PI.G
open Go Go.PI Go.Proofs
theorem jgE (a:ByteArray×qE×List ByteArray) (h:msr y22 a<=1048576) (k:qT->Res):j4i a k=k a:=by
 have h1:msr y9 a.2.1<=1048576:=(Nat.le_trans (@j06 y9 y1 a.2) (Nat.le_trans (@j00 .str y21 a) h))
 have h2:msr y1 a.2.2<=1048576:=(Nat.le_trans (@j00 y9 y1 a.2) (Nat.le_trans (@j00 .str y21 a) h))
 unfold j4i
 simp only [jh0 _ h1,jbH _ h2]
theorem jgC (a:ByteArray×qE×List ByteArray) (left:Int) (h0:0<=left) (h1:left<=1048576) (hw:Wf y22 a) (k:Int->Res):j4g a left k=k (szR left (msr y22 a)):=by
 have hm:msr y22 a=ByteArray.size a.1+(msr y9 a.2.1+(msr y1 a.2.2+0)):=by simp only [msr];omega
 rw [hm]
 unfold j4g
 have hx0:ByteArray.size a.1<=maxLen:=hw.1
 unfold maxLen at hx0
 rw [j04 (by unfold nI;omega)]
 by_cases hb0:((ByteArray.size a.1:Nat):Int)<=left
 rotate_left
 ·rw [Z8X hb0,Z8J (by unfold nI;omega),cond_true]
 rw [Z8I (by unfold nI;omega),cond_false,Z8W hb0,show left-nI (ByteArray.size a.1)=left-((ByteArray.size a.1:Nat):Int) from rfl]
 rw [jgW _ _ (by omega) (by omega) hw.2.1]
 by_cases hb1:((msr y9 a.2.1:Nat):Int)<=left-(ByteArray.size a.1:Nat)
 rotate_left
 ·rw [Z9b hb1,Z8X hb1,Z8J (by omega),cond_true]
 rw [Z9c hb1,Z8W hb1,Z8I (by omega),cond_false]
 rw [jbG _ _ (by omega) (by omega) hw.2.2]
 by_cases hb2:((msr y1 a.2.2:Nat):Int)<=left-(ByteArray.size a.1:Nat)-(msr y9 a.2.1:Nat)
 rotate_left
 ·rw [Z9b hb2,Z8X hb2,Z8J (by omega),cond_true]
 rw [Z9c hb2,Z8W hb2,Z8I (by omega),cond_false]
 exact j7w (by omega)
theorem jgk (a:ByteArray×qE×List ByteArray) (h:msr y22 a<=1048576) (k:Bool->Res):j41 a a k=k true:=by
 have h1:msr y9 a.2.1<=1048576:=(Nat.le_trans (@j06 y9 y1 a.2) (Nat.le_trans (@j00 .str y21 a) h))
 have h2:msr y1 a.2.2<=1048576:=(Nat.le_trans (@j00 y9 y1 a.2) (Nat.le_trans (@j00 .str y21 a) h))
 unfold j41
 simp only [Z9o,Z8U,beq_self_eq_true,cond_false,Bool.not_true,jed _ h1,j8G _ h2]
end Go.PI.G
