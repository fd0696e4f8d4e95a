/-
  Program's code interpreted over typed values; printed texts; plain laws. No conditions.
-/
import Derived.Test.YtiieddiheadocaaGreatTi
import Derived.Test.YtiieddiheadocaaGreatTc
import Derived.Test.YtiieddiheadocaaGreatTd
set_option linter.unusedVariables false
set_option linter.unusedSimpArgs false
namespace Go.PI.G
open Go Go.PI Go.Proofs
theorem jdE (x:Int) (h:0<=x/\x<10):Z19 (dg x)=[48+x]:=by
 unfold dg
 rw [j05 (by omega),jfh (by omega),j9c (j9x (by omega) jbk)]
theorem jfG:(n:Nat)->goL dgF (Z19 (j4I n)) 0= .ok (n:Int)/\∃ x xs,Z19 (j4I n)=x::xs/\48<=x/\x<=57:=by
 intro n
 induction n using Nat.strongRecOn with
 | _ n ih=>
  by_cases h:n<10
  ·rw [jdF h,jdE _ (by omega)]
   refine ⟨?_,_,_,rfl,by omega,by omega⟩
   simp only [goL]
   rw [jml (by omega)]
   dsimp only
   congr 1;omega
  ·obtain ⟨i1,x,xs,i2,i3⟩:=ih (n / 10) (by omega)
   rw [jfH h,j0l,jdE _ (by omega),jrN,i1]
   refine ⟨?_,x,xs++[48+((n % 10:Nat):Int)],by rw [i2];rfl,i3⟩
   simp only [goL]
   rw [jml (by omega)]
   dsimp only
   congr 1;omega
theorem jbU {n:Int} (h:j1w n=true):(n<0/\Z19 (j06 n)=45::Z19 (j4I (-n).toNat))\/(0<=n/\Z19 (j06 n)=Z19 (j4I n.toNat)):=by
 unfold j06
 rw [h,cond_true]
 by_cases h0:n<0
 ·rw [if_pos h0,j0l];exact .inl ⟨h0,rfl⟩
 ·rw [if_neg h0];exact .inr ⟨by omega,rfl⟩
theorem jfW {n:Int} (h:j1w n=true):rdN (Z19 (j06 n))=some n:=by
 unfold rdN
 rcases jbU h with ⟨h0,e⟩ | ⟨h0,e⟩
 ·rw [e]
  simp only [List.headD_cons,List.tail_cons]
  rw [show ((45:Int)==45)=true from rfl,cond_true,(jfG _).1]
  dsimp only
  congr 1;omega
 ·obtain ⟨i1,x,xs,i2,i3⟩:=jfG n.toNat
  rw [e,i1]
  have:((Z19 (j4I n.toNat)).headD 0==45)=false:=by rw [i2];simp;omega
  rw [this,cond_false]
  dsimp only
  congr 1;omega
theorem jsC {m n:Int} (hm:j1w m=true) (hn:j1w n=true) (h:j06 m=j06 n):m=n:=by
 have:=jfW hm
 rw [h,jfW hn] at this
 exact (Option.some.inj this).symm
theorem j7v {n:Int} (h:j1w n=true):∃ x xs,Z19 (j06 n)=x::xs/\(x=45\/(48<=x/\x<=57)):=by
 rcases jbU h with ⟨h0,e⟩ | ⟨h0,e⟩
 ·exact ⟨_,_,e,.inl rfl⟩
 ·obtain ⟨i1,x,xs,i2,i3⟩:=jfG n.toNat
  exact ⟨x,xs,by rw [e,i2],.inr i3⟩
theorem jqq {n:Int} (h:j1w n=false):j06 n=eS:=by unfold j06;rw [h];rfl
end Go.PI.G
namespace Go.PI.G
open Go Go.PI Go.Proofs
def esc (l:List Int):List Int:=l.flatMap gB
theorem jt6 (b:Int):0<=h1 b/\h1 b<256:=jhD _ _
theorem jt7 (b:Int):0<=h2 b/\h2 b<256:=jhD _ _
theorem jt5 {b:Int} (h:0<=b/\b<256):isB (gB b):=by
 unfold gB
 cases pB b
 ·exact j9x (by omega) (j9x (jt6 b) (j9x (jt7 b) jbk))
 ·exact j9x h jbk
theorem jqX:(l:List Int)->isB l->isB (esc l)
 | [],_=>jbk
 | x::l,h=>jgx (jt5 (h x (by simp))) (jqX l λy hy=>h y (List.mem_cons_of_mem _ hy))
theorem jsW (s:ByteArray):jgD s=39::esc (Z19 s):=by
 unfold jgD
 rw [jre s gB s.size 0 [39] (by omega),List.drop_zero]
 rfl
theorem jqT (s:ByteArray):Z19 (Z2X (jgD s++[39]))=39::(esc (Z19 s)++[39]):=by
 rw [jsW,j9c]
 ·rfl
 ·exact jgx (j9x (by omega) (jqX _ (j8B s))) (j9x (by omega) jbk)
theorem jdG {b:Int} (h:pB b=true):(33<=b/\b<=126)/\b≠39/\b≠37:=by
 unfold pB at h
 by_cases hb:33<=b/\b<=126
 ·rw [decide_eq_true hb,cond_true] at h
  cases h1:b != 39
  ·rw [h1] at h;cases h
  ·rw [h1,cond_true] at h
   exact ⟨hb,by simpa using h1,by simpa using h⟩
 ·rw [decide_eq_false hb] at h;cases h
theorem joP:j07 (0,0,eS)=j6q:=by
 unfold j07
 rw [jfg];rfl
theorem jdd {v:V} (h:j0u v=true):(v=(0,0,eS)/\j07 v=j6q)\/(v=(1,1,eS)/\j07 v=j1r)\/(v=(1,0,eS)/\j07 v=j19)\/(∃ n,v=(2,n,eS)/\j1w n=true/\j07 v=j06 n) \/
  ∃ s:ByteArray,v=(3,0,s)/\s.size<=30/\Z19 (j07 v)=39::(esc (Z19 s)++[39]):=by
 rcases jgM h with rfl | ⟨n,hn,rfl⟩ | ⟨n,hn,rfl⟩ | ⟨s,hs,rfl⟩
 ·exact .inl ⟨rfl,joP⟩
 ·rcases hn with rfl | rfl
  ·refine .inr (.inr (.inl ⟨rfl,?_⟩))
   unfold j07;rw [h];rfl
  ·refine .inr (.inl ⟨rfl,?_⟩)
   unfold j07;rw [h];rfl
 ·refine .inr (.inr (.inr (.inl ⟨n,rfl,decide_eq_true hn,?_⟩)))
  unfold j07;rw [h];rfl
 ·refine .inr (.inr (.inr (.inr ⟨s,rfl,hs,?_⟩)))
  rw [<-jqT]
  unfold j07;rw [h];rfl
theorem jqC {v:V} (h:j0u v=false):j07 v=eS:=by unfold j07;rw [h];rfl
theorem jgO {v:V} (h:j0u v=true):∃ x xs,Z19 (j07 v)=x::xs/\(x=39->∃ s:ByteArray,v=(3,0,s)/\s.size<=30/\Z19 (j07 v)=39::(esc (Z19 s)++[39])):=by
 rcases jdd h with ⟨rfl,e⟩ | ⟨rfl,e⟩ | ⟨rfl,e⟩ | ⟨n,rfl,hn,e⟩ | ⟨s,rfl,hs,e⟩
 ·exact ⟨110,[117,108,108],by rw [e];rfl,λhx=>by omega⟩
 ·exact ⟨116,[114,117,101],by rw [e];rfl,λhx=>by omega⟩
 ·exact ⟨102,[97,108,115,101],by rw [e];rfl,λhx=>by omega⟩
 ·obtain ⟨x,xs,h1,h2⟩:=j7v hn
  exact ⟨x,xs,by rw [e,h1],λhx=>by omega⟩
 ·exact ⟨39,_,e,λ_=>⟨s,rfl,hs,e⟩⟩
theorem jqY:(l:List Int)->(esc l).length<=3 * l.length
 | []=>by simp [esc]
 | x::l=>by
  have h1:=jqi x
  have h2:=jqY l
  have e:esc (x::l)=gB x++esc l:=rfl
  rw [e,List.length_append,List.length_cons]
  omega
theorem jt2 {v:V} (h:j0u v=true):j07 v≠eS:=λhe=>by
 obtain ⟨x,xs,h1,_⟩:=jgO h
 rw [he] at h1
 cases h1
end Go.PI.G
namespace Go.PI.G
open Go Go.PI Go.Proofs
theorem jrI (s:ByteArray) (i:Nat) (h:i<(Z19 s).length):bt s (i:Int)=(Z19 s)[i]:=by
 have hl:=j0f s
 have h':i<s.data.size:=by
  have:i<s.size:=by omega
  exact this
 have e1:(Z19 s)[i]=((s.data.toList.map λb:UInt8=>(b.toNat:Int))[i]'(by simpa using h')):=rfl
 rw [e1,List.getElem_map]
 unfold bt
 simp [Array.getElem?_eq_getElem h']
theorem jsQ (s:ByteArray) (x:Bool) (k:Bool->Res):(bif x then k false else (bif decide ((nI (ByteArray.size s))>=1) then k (decide ((nI (ByteArray.size s))<=8)) else k false))=k (!x&&(decide (1<=s.size)&&decide (s.size<=8))):=by
 cases x
 ·unfold nI
  by_cases h1:1<=s.size
  ·rw [cond_false,decide_eq_true (show (s.size:Int)>=1 by omega),cond_true,decide_eq_true h1]
   congr 1
   by_cases h2:s.size<=8
   ·rw [decide_eq_true (show (s.size:Int)<=8 by omega),decide_eq_true h2];rfl
   ·rw [decide_eq_false (show ¬ (s.size:Int)<=8 by omega),decide_eq_false h2];rfl
  ·rw [cond_false,decide_eq_false (show ¬ (s.size:Int)>=1 by omega),cond_false,decide_eq_false h1];rfl
 ·rfl
theorem j6B (s:ByteArray) (h:s.size<=LIM) (k:Bool->Res):j26 s k=k (j0T s):=by
 unfold j26 jcV
 have hl:=j0f s
 have:=Z8y (Z19 s) (λi=>i) (λb=>decide (b<97)||decide (b>122)) (step:=j7Q s) ((λ(_:Unit)=>bif decide ((nI (ByteArray.size s))>=1) then k (decide ((nI (ByteArray.size s))<=8)) else k false),(λ(_:Unit)=>k false)) (bif decide ((nI (ByteArray.size s))>=1) then k (decide ((nI (ByteArray.size s))<=8)) else k false) (k false) (by omega) (λi rec hi=>by
  show j5i s _ _ _ _=_
  unfold j5i
  unfold LIM at h
  have hi':i<s.size:=by omega
  rw [Z9i hi',cond_true,j0n hi',cond_true,cond_true,jrI s i hi,j05 (n:=(i:Int)+1) (by omega)]
  cases decide ((Z19 s)[i]<97)
  ·cases decide ((Z19 s)[i]>122)<;>rfl
  ·rfl) (λrec=>by
  show j5i s _ _ _ _=_
  unfold j5i
  rw [hl,Z9h,cond_false])
 refine this.trans ?_
 exact jsQ s _ k
theorem j6x (s:ByteArray) (h:s.size<=LIM) (k:Bool->Res):j2p s k=k (j0T s):=by
 unfold j2p jcI
 have hl:=j0f s
 have:=Z8y (Z19 s) (λi=>i) (λb=>decide (b<97)||decide (b>122)) (step:=j7G s) ((λ(_:Unit)=>j0K (nI (ByteArray.size s)) 1 8 λ(r:Bool)=>k r),(λ(_:Unit)=>k false)) (j0K (nI (ByteArray.size s)) 1 8 λ(r:Bool)=>k r) (k false) (by omega) (λi rec hi=>by
  show j54 s _ _ _ _=_
  unfold j54
  unfold LIM at h
  have hi':i<s.size:=by omega
  rw [Z9i hi',cond_true,j0n hi',cond_true,cond_true,jrI s i hi,j05 (n:=(i:Int)+1) (by omega)]
  cases decide ((Z19 s)[i]<97)
  ·cases decide ((Z19 s)[i]>122)<;>rfl
  ·rfl) (λrec=>by
  show j54 s _ _ _ _=_
  unfold j54
  rw [hl,Z9h,cond_false])
 refine this.trans ?_
 rw [j1I]
 have hd:decide (1<=nI s.size/\nI s.size<=8)=(decide (1<=s.size)&&decide (s.size<=8)):=by
  rw [<-Bool.decide_and]
  exact decide_eq_decide.2 (by unfold nI;omega)
 rw [hd]
 unfold j0T
 cases (Z19 s).any λb=>decide (b<97)||decide (b>122)<;>rfl
theorem jmU (c:C) (h:c.1.size<=LIM) (k:Bool->Res):jad c k=k (j1A c):=by
 obtain ⟨n,ty,nt,hs,df⟩:=c
 unfold jad j1A
 dsimp only at h ⊢
 rw [j6B n h,jgH]
 cases j0T n
 ·rfl
 ·rw [Bool.not_true,cond_false,Bool.true_and]
  by_cases h1:1<=ty/\ty<=3
  ·rw [decide_eq_false (show ¬ ty<1 by omega),cond_false,decide_eq_false (show ¬ ty>3 by omega),cond_false,decide_eq_true h1,Bool.true_and]
   cases hs
   ·rw [Bool.not_false,cond_true,cond_false]
    have:j0u df=false->jgz df=false:=λhv=>by
     cases hn:jgz df with
     | false=>rfl
     | true=>
      unfold jgz at hn
      simp only [Bool.and_eq_true,beq_iff_eq,j0t] at hn
      have:df=(0,0,eS):=by
       obtain ⟨a,b,c⟩:=df
       simp only at hn
       rw [hn.1,hn.2.1,hn.2.2]
      rw [this,jfg] at hv
      cases hv
    cases hv:j0u df
    ·rw [Bool.false_and]
     exact congrArg k (this hv)
    ·rfl
   ·rw [Bool.not_true,cond_false,cond_true]
    cases hv:j0u df
    ·rfl
    ·rw [cond_true,Bool.true_and]
     have hnull:(df.1==0)=true->((df.1==0)&&((df.2.1==0)&&sEq df.2.2 eS))=true:=λh0=>by
      rcases jgM hv with rfl | ⟨m,_,rfl⟩ | ⟨m,_,rfl⟩ | ⟨m,_,rfl⟩
      ·exact jrt
      ·cases h0
      ·cases h0
      ·cases h0
     cases h0:df.1==0
     ·rw [Bool.false_and,cond_false]
      cases df.1==ty<;>rfl
     ·have:=hnull h0
      rw [h0] at this
      rw [this,cond_true,cond_true]
      have hty:(df.1==ty)=false:=by
       simp only [beq_iff_eq] at h0
       rw [h0];simp;omega
      rw [hty,Bool.false_or,Bool.true_and]
  ·rw [decide_eq_false h1]
   by_cases h2:ty<1
   ·rw [decide_eq_true h2];rfl
   ·rw [decide_eq_false h2,cond_false,decide_eq_true (show ty>3 by omega)];rfl
theorem jgu (c:C) (h:c.1.size<=LIM) (k:Bool->Res):j7B c k=k (j1A c):=by
 obtain ⟨n,ty,nt,hs,df⟩:=c
 unfold j7B j1A
 dsimp only at h ⊢
 rw [j6x n h,j1I,jgw]
 cases j0T n
 ·rfl
 ·cases decide (1<=ty/\ty<=3)
  ·rfl
  ·cases j0u df
   ·rfl
   ·cases hs
    ·rfl
    ·cases df.1==ty
     ·cases df.1==0<;>rfl
     ·rfl
theorem joJ (t:T) (n:ByteArray) (h:t.2.1.length<=LIM) (k:Int->Res):jac t n k=k (j13 t.2.1 n):=by
 unfold jac jdx
 refine Z8o t.2.1 (λi=>i) (λc=>sEq c.1 n) (step:=j94 n t.2.1 (nI t.2.1.length)) _ k h (λi rec hi=> ?_) (λrec=> ?_)
 ·show j6f n _ _ _ _ _ _=_
  unfold j6f
  unfold LIM at h
  rw [Z9i hi,cond_true,j0n hi,cond_true,Z92 _ _ _ hi,j05 (n:=(i:Int)+1) (by omega)]
 ·show j6f n _ _ _ _ _ _=_
  unfold j6f
  rw [Z9h,cond_false]
theorem joB (t:T) (n:ByteArray) (h:t.2.1.length<=LIM) (k:Int->Res):j9Z t n k=k (j13 t.2.1 n):=by
 unfold j9Z j4K j5v
 refine Z8o t.2.1 (λi=>i) (λc=>sEq c.1 n) (step:=j2Z t.2.1 n (nI t.2.1.length)) _ k h (λi rec hi=> ?_) (λrec=> ?_)
 ·show j1P _ n _ _ _ _ _=_
  unfold j1P jd1
  unfold LIM at h
  rw [Z9i hi,cond_true,j0n hi,cond_true,Z92 _ _ _ hi,j05 (n:=(i:Int)+1) (by omega)]
 ·show j1P _ n _ _ _ _ _=_
  unfold j1P
  rw [Z9h,cond_false]
def tSm (t:T):Prop:=t.1.size<=1048576/\t.2.1.length<=1048576/\t.2.2.length<=1048576/\(∀ c∈t.2.1,c.1.size<=1048576)/\∀ x∈t.2.2,x.size<=1048576
theorem jps (t:T) (h:tSm t) (a b:Unit->Res):j95 t.2.1 (nI t.2.1.length) t Z0Y 0 a b=bif jby t.2.1 then a () else b ():=by
 have hh:=h
 obtain ⟨m1,m2,m3,m4,m5⟩:=hh
 unfold j95
 have:=Z8l t.2.1 (λi=>i) (λi c=> !j1A c||(j13 t.2.1 c.1 != (i:Int))) (step:=j6K t.2.1 (nI t.2.1.length) t) (a,b) (a ()) (b ()) (by unfold LIM;omega) (λi rec hi=>by
  show j4t _ _ t _ _ _ _=_
  unfold j4t
  rw [Z9i hi,cond_true,j0n hi,cond_true,Z92 _ _ _ hi,jmU _ (by have:=m4 _ (List.getElem_mem hi);unfold LIM;omega),joJ t _ (by unfold LIM;omega),j05 (n:=(i:Int)+1) (by omega)]
  cases j1A t.2.1[i]
  ·rfl
  ·cases j13 t.2.1 t.2.1[i].1 != (i:Int)<;>rfl) (λrec=>by
  show j4t _ _ t _ _ _ _=_
  unfold j4t
  rw [Z9h,cond_false])
 refine this.trans ?_
 unfold jby
 cases Z5P (λi c=> !j1A c||(j13 t.2.1 c.1 != (i:Int))) 0 t.2.1<;>rfl
theorem jpo (t:T) (h:tSm t) (a b:Unit->Res):j8S t.2.1 (nI t.2.1.length) t Z0Y 0 a b=bif jby t.2.1 then a () else b ():=by
 have hh:=h
 obtain ⟨m1,m2,m3,m4,m5⟩:=hh
 unfold j8S
 have:=Z8l t.2.1 (λi=>i) (λi c=> !j1A c||(j13 t.2.1 c.1 != (i:Int))) (step:=j6G t.2.1 (nI t.2.1.length) t) (a,b) (a ()) (b ()) (by unfold LIM;omega) (λi rec hi=>by
  show j4o _ _ t _ _ _ _=_
  unfold j4o
  rw [Z9i hi,cond_true,j0n hi,cond_true,Z92 _ _ _ hi,jgu _ (by have:=m4 _ (List.getElem_mem hi);unfold LIM;omega),joB t _ (by unfold LIM;omega),j05 (n:=(i:Int)+1) (by omega)]
  cases j1A t.2.1[i]
  ·rfl
  ·cases j13 t.2.1 t.2.1[i].1 != (i:Int)<;>rfl) (λrec=>by
  show j4o _ _ t _ _ _ _=_
  unfold j4o
  rw [Z9h,cond_false])
 refine this.trans ?_
 unfold jby
 cases Z5P (λi c=> !j1A c||(j13 t.2.1 c.1 != (i:Int))) 0 t.2.1<;>rfl
def ja4 (l:List C) (last:Int) (k:ByteArray):Except Unit Int:=bif decide (j13 l k<=last) then .error () else bif !(nth zC l (j13 l k)).2.2.1 then .error () else .ok (j13 l k)
theorem ji0 (l:List C):(ks:List ByteArray)->(i:Nat)->(last:Int)->(∃ z,Z1t (λ_ last k=>ja4 l last k) i ks last= .ok z/\j68 l last ks=true)\/(Z1t (λ_ last k=>ja4 l last k) i ks last= .error ()/\j68 l last ks=false)
 | [],_,last=> .inl ⟨last,rfl,rfl⟩
 | k::ks,i,last=>by
  have ih:=ji0 l ks (i+1) (j13 l k)
  simp only [Z1t,j68,ja4] at ih ⊢
  cases decide (j13 l k<=last)
  ·cases (nth zC l (j13 l k)).2.2.1
   ·exact .inr ⟨rfl,rfl⟩
   ·exact ih
  ·exact .inr ⟨rfl,rfl⟩
theorem jpt (t:T) (h:tSm t) (a b:Unit->Res):j96 t.2.2 (nI t.2.2.length) t Z0Y (-1) 0 a b=bif j68 t.2.1 (-1) t.2.2 then a () else b ():=by
 have hh:=h
 obtain ⟨m1,m2,m3,m4,m5⟩:=hh
 unfold j96
 have:=Z3m t.2.2 (λi last=>(last,i)) (λ_ last k=>ja4 t.2.1 last k) (λ_ last=> -1<=last) (step:=j6L t.2.2 (nI t.2.2.length) t) (a,b) (λ_=>a ()) (λ_=>b ()) (-1) (by unfold LIM;omega) (by omega) (λi last last' hi h0 hk=>by
  unfold ja4 at hk
  have:=(jay t.2.1 t.2.2[i]).1
  cases h1:decide (j13 t.2.1 t.2.2[i]<=last)
  ·rw [h1,cond_false] at hk
   cases h2:(nth zC t.2.1 (j13 t.2.1 t.2.2[i])).2.2.1
   ·rw [h2] at hk;cases hk
   ·rw [h2] at hk
    cases hk
    exact this
  ·rw [h1] at hk;cases hk) (λi last rec hi h0=>by
  show j4u _ _ t _ _ _ _ _=_
  unfold j4u
  dsimp only
  rw [Z9i hi,cond_true,j0n hi,cond_true,Z92 _ _ _ hi,joJ t _ (by unfold LIM;omega),j05 (n:=(i:Int)+1) (by omega)]
  unfold ja4
  by_cases h1:j13 t.2.1 t.2.2[i]<=last
  ·rw [decide_eq_true h1];rfl
  ·have hr:=(jay t.2.1 t.2.2[i]).2
   rw [decide_eq_false h1,cond_false,cond_false,Z9c (by omega) hr,cond_true]
   cases (nth zC t.2.1 (j13 t.2.1 t.2.2[i])).2.2.1<;>rfl) (λlast rec _=>by
  show j4u _ _ t _ _ _ _ _=_
  unfold j4u
  dsimp only
  rw [Z9h,cond_false])
 refine this.trans ?_
 rcases ji0 t.2.1 t.2.2 0 (-1) with ⟨z,h1,h2⟩ | ⟨h1,h2⟩<;>rw [h1,h2]<;>rfl
theorem jpp (t:T) (h:tSm t) (a b:Unit->Res):j8T t.2.2 (nI t.2.2.length) t Z0Y (-1) 0 a b=bif j68 t.2.1 (-1) t.2.2 then a () else b ():=by
 have hh:=h
 obtain ⟨m1,m2,m3,m4,m5⟩:=hh
 unfold j8T
 have:=Z3m t.2.2 (λi last=>(last,i)) (λ_ last k=>ja4 t.2.1 last k) (λ_ last=> -1<=last) (step:=j6H t.2.2 (nI t.2.2.length) t) (a,b) (λ_=>a ()) (λ_=>b ()) (-1) (by unfold LIM;omega) (by omega) (λi last last' hi h0 hk=>by
  unfold ja4 at hk
  have:=(jay t.2.1 t.2.2[i]).1
  cases h1:decide (j13 t.2.1 t.2.2[i]<=last)
  ·rw [h1,cond_false] at hk
   cases h2:(nth zC t.2.1 (j13 t.2.1 t.2.2[i])).2.2.1
   ·rw [h2] at hk;cases hk
   ·rw [h2] at hk
    cases hk
    exact this
  ·rw [h1] at hk;cases hk) (λi last rec hi h0=>by
  show j4p _ _ t _ _ _ _ _=_
  unfold j4p
  dsimp only
  rw [Z9i hi,cond_true,j0n hi,cond_true,Z92 _ _ _ hi,joB t _ (by unfold LIM;omega),j05 (n:=(i:Int)+1) (by omega)]
  unfold ja4
  by_cases h1:j13 t.2.1 t.2.2[i]<=last
  ·rw [decide_eq_true h1];rfl
  ·have hr:=(jay t.2.1 t.2.2[i]).2
   rw [decide_eq_false h1,cond_false,cond_false,Z9c (by omega) hr,cond_true]
   cases (nth zC t.2.1 (j13 t.2.1 t.2.2[i])).2.2.1<;>rfl) (λlast rec _=>by
  show j4p _ _ t _ _ _ _ _=_
  unfold j4p
  dsimp only
  rw [Z9h,cond_false])
 refine this.trans ?_
 rcases ji0 t.2.1 t.2.2 0 (-1) with ⟨z,h1,h2⟩ | ⟨h1,h2⟩<;>rw [h1,h2]<;>rfl
theorem jsN (t:T) (k:Bool->Res):j6h t k=j26 t.1 λw=>k (!(w&&(decide (1<=t.2.1.length)&&(decide (t.2.1.length<=8)&&decide (1<=t.2.2.length))))):=by
 unfold j6h
 congr 1
 funext w
 unfold nI
 cases w
 ·rfl
 ·rw [Bool.not_true,cond_false,Bool.true_and]
  by_cases h1:1<=t.2.1.length
  ·rw [decide_eq_false (show ¬ (t.2.1.length:Int)<1 by omega),cond_false,decide_eq_true h1,Bool.true_and]
   by_cases h2:t.2.1.length<=8
   ·rw [decide_eq_false (show ¬ (t.2.1.length:Int)>8 by omega),cond_false,decide_eq_true h2,Bool.true_and]
    congr 1
    by_cases h3:1<=t.2.2.length
    ·rw [decide_eq_false (show ¬ (t.2.2.length:Int)<1 by omega),decide_eq_true h3];rfl
    ·rw [decide_eq_true (show (t.2.2.length:Int)<1 by omega),decide_eq_false h3];rfl
   ·rw [decide_eq_true (show (t.2.1.length:Int)>8 by omega),decide_eq_false h2];rfl
  ·rw [decide_eq_true (show (t.2.1.length:Int)<1 by omega),decide_eq_false h1];rfl
theorem jqR (t:T) (h:tSm t) (k:Bool->Res):j9I t k=k (jei t):=by
 have hh:=h
 obtain ⟨m1,m2,m3,m4,m5⟩:=hh
 unfold j9I jei
 rw [jsN,j6B _ (by unfold LIM;omega),jps t h,jpt t h]
 cases j0T t.1&&(decide (1<=t.2.1.length)&&(decide (t.2.1.length<=8)&&decide (1<=t.2.2.length)))
 ·rfl
 ·cases jby t.2.1
  ·rfl
  ·cases j68 t.2.1 (-1) t.2.2<;>rfl
theorem jqI (t:T) (h:tSm t) (k:Bool->Res):j9t t k=k (jei t):=by
 have hh:=h
 obtain ⟨m1,m2,m3,m4,m5⟩:=hh
 unfold j9t jei
 rw [j6x _ (by unfold LIM;omega),j1I,jpo t h,jpp t h]
 have hd:decide (1<=nI t.2.1.length/\nI t.2.1.length<=8)=(decide (1<=t.2.1.length)&&decide (t.2.1.length<=8)):=by
  rw [<-Bool.decide_and]
  exact decide_eq_decide.2 (by unfold nI;omega)
 have hk:decide (nI t.2.2.length>0)=decide (1<=t.2.2.length):=decide_eq_decide.2 (by unfold nI;omega)
 rw [hd,hk]
 cases jby t.2.1
 ·rw [Bool.false_and,Bool.and_false];rfl
 ·cases j68 t.2.1 (-1) t.2.2
  ·rw [Bool.and_false,Bool.and_false];rfl
  ·cases j0T t.1
   ·rfl
   ·cases decide (1<=t.2.1.length)
    ·rfl
    ·cases decide (t.2.1.length<=8)
     ·rfl
     ·cases decide (1<=t.2.2.length)<;>rfl
end Go.PI.G
namespace Go.PI.G
open Go Go.PI Go.Proofs
theorem jd7 (l:List ByteArray) (k:Bool->Res):j3z l [] k=k (l.length==0):=by
 unfold j3z
 rw [jrs]
 cases l with
 | nil=>
  obtain ⟨m,hm⟩:=jjJ
  rw [show (!(([]:List ByteArray).length==([]:List ByteArray).length))=false from rfl,cond_false]
  unfold j6z
  rw [hm,Z8u]
  rfl
 | cons x l=>rfl
theorem jex (l:List C) (k:Bool->Res):j2v l [] k=k (l.length==0):=by
 unfold j2v
 rw [jrs]
 cases l with
 | nil=>
  obtain ⟨m,hm⟩:=jjJ
  rw [show (!(([]:List C).length==([]:List C).length))=false from rfl,cond_false]
  unfold j5q
  rw [hm,Z8u]
  rfl
 | cons x l=>rfl
theorem jrd (l:List C) (h:l.length<=LIM) (k:Bool->Res):j2v l l k=k true:=by
 unfold j2v j5q
 rw [jrs,beq_self_eq_true,Bool.not_true,cond_false]
 have:=Z8y l (λi=>i) (λ_=>false) (step:=j4f l l (nI l.length)) ((λ(_:Unit)=>k true),(λ(_:Unit)=>k false)) (k true) (k false) h (λi rec hi=>by
  show j2R _ _ _ _ _ _ _=_
  unfold j2R
  unfold LIM at h
  have hb:∀ x:Bool,(x==x)=true:=by decide
  rw [Z9i hi,cond_true,j0n hi,cond_true,cond_true]
  simp only [Z8L,beq_self_eq_true,hb,Bool.and_true,Bool.not_true,cond_false]
  rw [j05 (by omega)]) (λrec=>by
  show j2R _ _ _ _ _ _ _=_
  unfold j2R
  rw [Z9h,cond_false])
 refine this.trans ?_
 have:(l.any λ_=>false)=false:=by simp
 rw [this,cond_false]
theorem jsR {d:D} (h:dSm d):tSm (d.2.1,d.2.2.1,d.2.2.2.1):=⟨h.1,h.2.1,h.2.2.1,h.2.2.2.1,h.2.2.2.2.1⟩
theorem jt4 (d:D) (K:Bool->Res):j8o d K=K (jd8 d):=by
 unfold j8o jd8
 rw [j4W,j4W]
 cases d.2.2.1.length==0<;>rfl
theorem jmV (d:D) (h:dSm d) (k:Bool->Res):jae d k=k (j1Y d):=by
 have h0:=jsR h
 obtain ⟨m1,m2,m3,m4,m5,m6,m7⟩:=h
 obtain ⟨kd,t,cs,ks,n,m⟩:=d
 dsimp only at m1 m2 m3 m4 m5 m6 m7 h0
 unfold jae j1Y
 rw [jt4]
 generalize hpl:jd8 (kd,t,cs,ks,n,m)=pl
 dsimp only
 rw [j6B _ (by unfold LIM;omega),j4W]
 cases j0T t
 ·rfl
 ·rw [Bool.not_true,cond_false,Bool.true_and]
  cases kd==1
  ·cases kd==2
   ·cases kd==3
    ·cases kd==4
     ·cases kd==5
      ·rfl
      ·rw [cond_false,cond_false,cond_false,cond_false,cond_true,cond_false,cond_false,cond_false,cond_false,cond_true,j6B n (by unfold LIM;omega),j6B m (by unfold LIM;omega)]
       cases pl
       ·rfl
       ·cases j0T n<;>rfl
     ·rw [cond_false,cond_false,cond_false,cond_true,cond_false,cond_false,cond_false,cond_true,j6B n (by unfold LIM;omega)]
      cases pl
      ·rfl
      ·cases j0T n<;>rfl
    ·rw [cond_false,cond_false,cond_true,cond_false,cond_false,cond_true,jrZ]
     cases hl:cs.length==1
     ·rfl
     ·have hl':cs.length=1:=by simpa using hl
      have hi:inb 0 cs.length=true:=by rw [hl'];rfl
      have hc:(nth zC cs 0).1.size<=LIM:=by
       have:=m4 (nth zC cs 0) (by rw [show (0:Int)=((0:Nat):Int) by rfl,Z92 _ _ _ (by omega)];exact List.getElem_mem _)
       unfold LIM;omega
      rw [cond_true,hi,cond_true,jmU _ hc,Bool.true_and]
      cases j1A (nth zC cs 0)
      ·rfl
      ·rw [cond_true,cond_true,cond_true,Bool.true_and]
       cases (nth zC cs 0).2.2.2.1
       ·cases (nth zC cs 0).2.2.1
        ·cases ks.length==0
         ·rfl
         ·cases sEq n eS<;>rfl
        ·rfl
       ·cases ks.length==0
        ·rfl
        ·cases sEq n eS<;>rfl
   ·rw [cond_false,cond_true,cond_false,cond_true]
    cases pl
    ·rfl
    ·cases sEq n eS<;>rfl
  ·rw [cond_true,cond_true,jqR _ h0]
   cases sEq n eS
   ·rfl
   ·cases sEq m eS<;>rfl
theorem jqG (d:D) (h:dSm d) (k:T->Res):j8d d k=k (d.2.1,d.2.2.1,d.2.2.2.1):=by
 unfold j8d ja2 j4V
 have h1:=h.2.1
 have h2:=h.2.2.1
 dsimp only
 rw [Z9d (by unfold LIM;omega),cond_true,Z9d (by unfold LIM;omega),cond_true]
theorem jmy (d:D) (h:dSm d) (k:Bool->Res):ja0 d k=k (j1Y d):=by
 have h0:=jsR h
 have hmd:=jqG d h
 obtain ⟨m1,m2,m3,m4,m5,m6,m7⟩:=h
 obtain ⟨kd,t,cs,ks,n,m⟩:=d
 dsimp only at m1 m2 m3 m4 m5 m6 m7 h0 hmd
 unfold ja0 j1Y jd8
 dsimp only
 rw [j6x _ (by unfold LIM;omega)]
 have L1:cs.length<=LIM:=by unfold LIM;omega
 have L2:ks.length<=LIM:=by unfold LIM;omega
 cases j0T t
 ·rfl
 ·rw [Bool.not_true,cond_false,Bool.true_and]
  cases h1:kd==1
  ·cases kd==2
   ·cases kd==3
    ·cases kd==4
     ·cases kd==5
      ·rfl
      ·rw [cond_false,cond_false,cond_false,cond_false,cond_true,cond_false,cond_false,cond_false,cond_false,cond_true]
       unfold j0Y
       dsimp only
       rw [beq_self_eq_true,cond_true,Z8L,cond_true,jex,jd7,Z8L,cond_true,Z8L,j6x n (by unfold LIM;omega),j6x m (by unfold LIM;omega)]
       cases cs.length==0
       ·rfl
       ·cases ks.length==0
        ·rfl
        ·cases j0T n<;>rfl
     ·rw [cond_false,cond_false,cond_false,cond_true,cond_false,cond_false,cond_false,cond_true]
      unfold j0Y
      dsimp only
      rw [beq_self_eq_true,cond_true,Z8L,cond_true,jex,jd7,Z8L,cond_true,j6x n (by unfold LIM;omega)]
      cases cs.length==0
      ·rfl
      ·cases ks.length==0
       ·rfl
       ·cases sEq m eS<;>cases j0T n<;>rfl
    ·rw [cond_false,cond_false,cond_true,cond_false,cond_false,cond_true,jrZ]
     unfold j0Y
     dsimp only
     rw [beq_self_eq_true,cond_true,Z8L,cond_true,jrd _ L1,cond_true,jd7]
     cases hl:cs.length==1
     ·cases ks.length==0
      ·rfl
      ·cases sEq n eS
       ·rfl
       ·cases sEq m eS<;>rfl
     ·have hl':cs.length=1:=by simpa using hl
      have hi:inb 0 cs.length=true:=by rw [hl'];rfl
      have hc:(nth zC cs 0).1.size<=LIM:=by
       have:=m4 (nth zC cs 0) (by rw [show (0:Int)=((0:Nat):Int) by rfl,Z92 _ _ _ (by omega)];exact List.getElem_mem _)
       unfold LIM;omega
      rw [hi,jgu _ hc]
      cases ks.length==0
      ·cases j1A (nth zC cs 0)<;>cases (nth zC cs 0).2.2.2.1<;>cases (nth zC cs 0).2.2.1<;>rfl
      ·cases sEq n eS
       ·cases j1A (nth zC cs 0)<;>cases (nth zC cs 0).2.2.2.1<;>cases (nth zC cs 0).2.2.1<;>rfl
       ·cases sEq m eS<;>cases j1A (nth zC cs 0)<;>cases (nth zC cs 0).2.2.2.1<;>cases (nth zC cs 0).2.2.1<;>rfl
   ·rw [cond_false,cond_true,cond_false,cond_true]
    unfold j0Y
    dsimp only
    rw [beq_self_eq_true,cond_true,Z8L,cond_true,jex,jd7]
    cases cs.length==0
    ·rfl
    ·cases ks.length==0
     ·rfl
     ·cases sEq n eS<;>rfl
  ·have e1:kd=1:=by simpa using h1
   subst e1
   rw [cond_true,cond_true,hmd,jqI _ h0]
   cases jei (t,cs,ks)
   ·cases sEq n eS
    ·rfl
    ·cases sEq m eS<;>rfl
   ·cases sEq n eS<;>cases sEq m eS<;>rfl
theorem jmW (d:D) (k:Bool->Res):j2s d k=k (noD d):=by
 unfold j2s noD
 rw [j4W,j4W]
 cases d.1==0
 ·rfl
 ·cases sEq d.2.1 eS
  ·rfl
  ·cases d.2.2.1.length==0
   ·rfl
   ·cases d.2.2.2.1.length==0
    ·rfl
    ·cases sEq d.2.2.2.2.1 eS<;>rfl
theorem jmA (d:D) (k:Bool->Res):j0Y d zD k=k (noD d):=by
 unfold j0Y noD
 rw [jex,jd7]
 cases d.1==0
 ·rfl
 ·cases sEq d.2.1 eS
  ·rfl
  ·cases d.2.2.1.length==0
   ·rfl
   ·cases d.2.2.2.1.length==0
    ·rfl
    ·cases sEq d.2.2.2.2.1 eS<;>rfl
theorem jjC (l:List V) (h:l.length<=LIM) (k:Bool->Res):j48 l k=k (j1R l):=by
 unfold j48 jcc j1R
 have:=Z8y l (λi=>i) (λv=> !j0u v) (step:=j6P l (nI l.length)) ((λ(_:Unit)=>bif decide ((nI l.length)>=1) then k (decide ((nI l.length)<=8)) else k false),(λ(_:Unit)=>k false)) (bif decide ((nI l.length)>=1) then k (decide ((nI l.length)<=8)) else k false) (k false) h (λi rec hi=>by
  show j4y _ _ _ _ _ _=_
  unfold j4y
  unfold LIM at h
  rw [Z9i hi,cond_true,j0n hi,cond_true,Z92 _ _ _ hi,jgH,j05 (n:=(i:Int)+1) (by omega)]) (λrec=>by
  show j4y _ _ _ _ _ _=_
  unfold j4y
  rw [Z9h,cond_false])
 refine this.trans ?_
 have hall:(l.any λv=> !j0u v)= !l.all j0u:=by rw [List.all_eq_not_any_not];simp
 rw [hall]
 unfold nI
 cases l.all j0u
 ·rfl
 ·rw [Bool.not_true,cond_false,Bool.true_and]
  by_cases h1:1<=l.length
  ·rw [decide_eq_true (show (l.length:Int)>=1 by omega),cond_true,decide_eq_true h1,Bool.true_and]
   congr 1
   exact decide_eq_decide.2 (by omega)
  ·rw [decide_eq_false (show ¬ (l.length:Int)>=1 by omega),cond_false,decide_eq_false h1,Bool.false_and]
theorem jjv (l:List V) (h:l.length<=LIM) (k:Bool->Res):j3W l k=k (j1R l):=by
 unfold j3W j3u j4L j5w j1R
 rw [j1I]
 have hd:decide (1<=nI l.length/\nI l.length<=8)=(decide (1<=l.length)&&decide (l.length<=8)):=by
  rw [<-Bool.decide_and]
  exact decide_eq_decide.2 (by unfold nI;omega)
 rw [hd]
 cases decide (1<=l.length)&&decide (l.length<=8)
 ·rw [Bool.and_false];rfl
 ·rw [cond_true,Bool.and_true]
  have:=Z8o l (λi=>i) (λv=> !j0u v) (step:=j30 l (nI l.length)) ((λ(_:Unit)=>k (!decide ((-1:Int)>=0))),(λ(t:Int)=>k (!decide (t>=0)))) (λr=>k (!decide (r>=0))) h (λi rec hi=>by
   show j1Q _ _ _ _ _ _=_
   unfold j1Q jaN
   unfold LIM at h
   rw [Z9i hi,cond_true,j0n hi,cond_true,Z92 _ _ _ hi,jgw,j05 (n:=(i:Int)+1) (by omega)]) (λrec=>by
   show j1Q _ _ _ _ _ _=_
   unfold j1Q
   rw [Z9h,cond_false])
  refine this.trans ?_
  congr 1
  unfold Z8b
  cases hf:l.findIdx? λv=> !j0u v with
  | none=>
   rw [List.findIdx?_eq_none_iff] at hf
   symm
   show l.all j0u=true
   rw [List.all_eq_true]
   intro v hv
   simpa using hf v hv
  | some i=>
   dsimp only
   rw [decide_eq_true (show (i:Int)>=0 by omega)]
   obtain ⟨hi,hp,_⟩:=List.findIdx?_eq_some_iff_getElem.1 hf
   symm
   show l.all j0u=false
   rw [List.all_eq_false]
   exact ⟨l[i],List.getElem_mem _,by simpa using hp⟩
theorem joL (s:ST) (h:j2y s) (k:Bool->Res):j8A s k=k (stB s):=by
 obtain ⟨m1,m2,m3,m4⟩:=h
 unfold j8A stB jaf
 have L2:s.2.2.1.length<=LIM:=by unfold LIM;omega
 have L3:s.2.2.2.1.length<=LIM:=by unfold LIM;omega
 rw [j6B _ (by unfold LIM;omega),j4W,j4W]
 simp only [jjC _ L2,jjC _ L3,jmW,jmV _ m4]
 cases j0T s.2.1
 ·rfl
 ·rw [Bool.not_true,cond_false,Bool.true_and]
  cases s.1==1
  ·cases s.1==2
   ·cases s.1==3
    ·cases s.1==4
     ·cases s.1==5
      ·rfl
      ·cases s.2.2.1.length==0
       ·rfl
       ·cases s.2.2.2.1.length==0
        ·rfl
        ·cases j1Y s.2.2.2.2<;>rfl
     ·cases s.2.2.1.length==0
      ·rfl
      ·cases s.2.2.2.1.length==0<;>rfl
    ·cases j1R s.2.2.1
     ·rfl
     ·cases s.2.2.2.1.length==0<;>rfl
   ·cases j1R s.2.2.1
    ·rfl
    ·cases j1R s.2.2.2.1<;>rfl
  ·cases s.2.2.1.length==0
   ·rfl
   ·cases j1R s.2.2.2.1<;>rfl
theorem jou {d:D} (h:j1Y d=true):j0T d.2.1=true:=by
 unfold j1Y at h
 rw [Bool.and_eq_true] at h
 exact h.1
theorem joD (s:ST) (h:j2y s) (k:Bool->Res):j8t s k=k (stB s):=by
 obtain ⟨m1,m2,m3,m4⟩:=h
 unfold j8t stB ja1
 have L2:s.2.2.1.length<=LIM:=by unfold LIM;omega
 have L3:s.2.2.2.1.length<=LIM:=by unfold LIM;omega
 rw [j6x _ (by unfold LIM;omega),j4W,j4W]
 simp only [jjv _ L2,jjv _ L3,jmA,jmy _ m4]
 cases h5:s.1==5
 ·rw [cond_false]
  cases j0T s.2.1
  ·rfl
  ·rw [Bool.not_true,cond_false,Bool.true_and]
   cases s.1==1
   ·cases s.1==2
    ·cases s.1==3
     ·cases s.1==4
      ·cases noD s.2.2.2.2<;>rfl
      ·cases noD s.2.2.2.2<;>cases s.2.2.1.length==0<;>cases s.2.2.2.1.length==0<;>rfl
     ·cases noD s.2.2.2.2<;>cases j1R s.2.2.1<;>cases s.2.2.2.1.length==0<;>rfl
    ·cases noD s.2.2.2.2<;>cases j1R s.2.2.1<;>cases j1R s.2.2.2.1<;>rfl
   ·cases noD s.2.2.2.2<;>cases s.2.2.1.length==0<;>cases j1R s.2.2.2.1<;>rfl
 ·have e5:s.1=5:=by simpa using h5
  rw [cond_true,e5,show ((5:Int)==1)=false from rfl,show ((5:Int)==2)=false from rfl,show ((5:Int)==3)=false from rfl,show ((5:Int)==4)=false from rfl,cond_false,cond_false,cond_false,cond_false,cond_true]
  cases hd:j1Y s.2.2.2.2
  ·rw [cond_false]
   cases j0T s.2.1<;>cases s.2.2.1.length==0<;>cases s.2.2.2.1.length==0<;>rfl
  ·rw [cond_true,Z8K s.2.1]
   cases he:sEq s.2.2.2.2.2.1 s.2.1
   ·rw [cond_false]
    cases j0T s.2.1<;>cases s.2.2.1.length==0<;>cases s.2.2.2.1.length==0<;>rfl
   ·have hw:=jou hd
    rw [(j0t _ _).1 he] at hw
    rw [hw]
    cases s.2.2.1.length==0<;>cases s.2.2.2.1.length==0<;>rfl
end Go.PI.G
namespace Go.PI.G
open Go Go.PI Go.Proofs
def tyN (t:Int):ByteArray:=nth eS [eS,j1f,j2c,j1u] t
def j1g (c:C):List ByteArray:=c.1::tyN c.2.1::((bif c.2.2.1 then [j72] else [])++(bif c.2.2.2.1 then [j5u++j07 c.2.2.2.2] else []))
def j1S (c:C):List ByteArray:=j15::(j1g c++[j14])
def j1h (d:D):List ByteArray:=
 bif d.1==1 then j10::d.2.1::(d.2.2.1.flatMap j1S++(j2d::d.2.2.2.1))
 else bif d.1==2 then [j3B,d.2.1]
 else bif d.1==3 then j4j::d.2.1::j1g (nth zC d.2.2.1 0)
 else bif d.1==4 then [j6r,d.2.1,d.2.2.2.2.1]
 else [j2Y,d.2.1,d.2.2.2.2.1,d.2.2.2.2.2]
def stW (s:ST):List ByteArray:=
 bif s.1==1 then j0V::s.2.1::s.2.2.2.1.map j07
 else bif s.1==2 then j0F::s.2.1::(s.2.2.1.map j07++(j1C::s.2.2.2.1.map j07))
 else bif s.1==3 then j0U::s.2.1::s.2.2.1.map j07
 else bif s.1==4 then [j1T,s.2.1]
 else j1h s.2.2.2.2
def j2a (d:D):ByteArray:=bif j1Y d then j04 (j1h d) else eS
def stT (s:ST):ByteArray:=bif stB s then j04 (stW s) else eS
theorem jqB:(l:List ByteArray)->(B:Nat)->(∀ w∈l,w.size<=B)->(tlB l).size<=l.length * (B+1)
 | [],B,_=>by show (0:Nat)<=_;omega
 | w::l,B,h=>by
  have h1:=jqB l B λx hx=>h x (List.mem_cons_of_mem _ hx)
  have h2:=h w (by simp)
  have e:tlB (w::l)=spB++(w++tlB l):=rfl
  have e1:spB.size=1:=rfl
  rw [e,ByteArray.size_append,ByteArray.size_append,List.length_cons,Nat.add_mul]
  omega
theorem jbO (l:List ByteArray) (B:Nat) (h:∀ w∈l,w.size<=B):(j04 l).size<=l.length * (B+1):=by
 cases l with
 | nil=>show (0:Nat)<=_;omega
 | cons w l=>
  have h1:=jqB l B λx hx=>h x (List.mem_cons_of_mem _ hx)
  have h2:=h w (by simp)
  have e:j04 (w::l)=w++tlB l:=rfl
  rw [e,ByteArray.size_append,List.length_cons,Nat.add_mul]
  omega
theorem j5U {c:C} (h:j1A c=true):j0T c.1=true/\(1<=c.2.1/\c.2.1<=3)/\j0u c.2.2.2.2=true:=by
 unfold j1A at h
 simp only [Bool.and_eq_true,decide_eq_true_eq] at h
 exact ⟨h.1,h.2.1,h.2.2.1⟩
theorem jff {t:Int} (h:1<=t/\t<=3):(t=1/\tyN t=j1f)\/(t=2/\tyN t=j2c)\/(t=3/\tyN t=j1u):=by
 have:t=1\/t=2\/t=3:=by omega
 rcases this with rfl | rfl | rfl
 ·exact .inl ⟨rfl,rfl⟩
 ·exact .inr (.inl ⟨rfl,rfl⟩)
 ·exact .inr (.inr ⟨rfl,rfl⟩)
theorem jqh:(l:List Int)->isB l->32 ∉ esc l
 | [],_=>by simp [esc]
 | x::l,h=>by
  have ih:=jqh l λy hy=>h y (List.mem_cons_of_mem _ hy)
  have e:esc (x::l)=gB x++esc l:=rfl
  rw [e,List.mem_append,not_or]
  refine ⟨?_,ih⟩
  unfold gB
  cases hp:pB x
  ·have hh:∀ b:Int,h1 b≠32/\h2 b≠32:=λb=>by
    have hz:∀ i:Int,bt j0k i≠32:=λi=>by
     unfold bt
     intro hc
     have:∀ n:Nat,((j0k.data.toList.getD n 0).toNat:Int)≠32:=λn=>by
      by_cases hn:n<16
      ·have:∀ m:Fin 16,((j0k.data.toList.getD m.val 0).toNat:Int)≠32:=by decide
       exact this ⟨n,hn⟩
      ·rw [List.getD_eq_getElem?_getD,List.getElem?_eq_none (by show 16<=n;omega)]
       simp
     exact this _ hc
    exact ⟨hz _,hz _⟩
   rw [cond_false]
   simp only [List.mem_cons,List.not_mem_nil,or_false,not_or]
   exact ⟨by omega,(hh x).1.symm,(hh x).2.symm⟩
  ·rw [cond_true]
   have:=(jdG hp).1
   simp only [List.mem_singleton]
   omega
theorem jqd:∀ n x,x∈Z19 (j4I n)->48<=x/\x<=57:=by
 intro n
 induction n using Nat.strongRecOn with
 | _ n ih=>
  intro x hx
  by_cases h:n<10
  ·rw [jdF h,jdE _ (by omega),List.mem_singleton] at hx
   omega
  ·rw [jfH h,j0l,jdE _ (by omega),List.mem_append] at hx
   rcases hx with hx | hx
   ·exact ih (n / 10) (by omega) x hx
   ·rw [List.mem_singleton] at hx
    omega
theorem ji3 {n:Int} (h:j1w n=true):free 32 (j06 n):=λhm=>by
 rcases jbU h with ⟨_,e⟩ | ⟨_,e⟩
 ·rw [e] at hm
  rcases List.mem_cons.1 hm with hm | hm
  ·omega
  ·have:=jqd _ _ hm
   omega
 ·rw [e] at hm
  have:=jqd _ _ hm
  omega
theorem joO {v:V} (h:j0u v=true):free 32 (j07 v):=by
 rcases jdd h with ⟨rfl,e⟩ | ⟨rfl,e⟩ | ⟨rfl,e⟩ | ⟨n,rfl,hn,e⟩ | ⟨s,rfl,hs,e⟩
 ·rw [e];exact j8s _ _ (by decide)
 ·rw [e];exact j8s _ _ (by decide)
 ·rw [e];exact j8s _ _ (by decide)
 ·rw [e];exact ji3 hn
 ·unfold free
  rw [e]
  have:=jqh (Z19 s) (j8B s)
  simp only [List.mem_cons,List.mem_append,List.not_mem_nil,or_false,not_or]
  exact ⟨by omega,this,by omega⟩
theorem jct {c:C} (h:j1A c=true):∀ w∈j1g c,w.size<=101/\free 32 w/\w≠j15/\w≠j14:=by
 obtain ⟨h1,h2,h3⟩:=j5U h
 have hp:∀ {w:ByteArray} {b x:Int} {xs:List Int},Z19 w=x::xs->x≠b->∀ z,Z19 z=[b]->w≠z:=λ{w b x xs} e hx z hz hw=>by
  rw [hw,hz] at e
  exact hx (List.cons.inj e).1.symm
 intro w hw
 unfold j1g at hw
 rcases List.mem_cons.1 hw with rfl | hw
 ·have hs:=j0o h1
  refine ⟨by omega,jgQ h1 (by omega),?_,?_⟩<;>intro he<;>rw [he] at h1<;>exact absurd h1 (by decide)
 ·rcases List.mem_cons.1 hw with rfl | hw
  ·rcases jff h2 with ⟨_,e⟩ | ⟨_,e⟩ | ⟨_,e⟩<;>rw [e]<;>exact ⟨by decide,j8s _ _ (by decide),λhe=>absurd (congrArg Z19 he) (by decide),λhe=>absurd (congrArg Z19 he) (by decide)⟩
  ·rcases List.mem_append.1 hw with hw | hw
   ·cases hn:c.2.2.1
    ·rw [hn] at hw;cases hw
    ·rw [hn,cond_true,List.mem_singleton] at hw
     rw [hw]
     exact ⟨by decide,j8s _ _ (by decide),λhe=>absurd (congrArg Z19 he) (by decide),λhe=>absurd (congrArg Z19 he) (by decide)⟩
   ·cases hn:c.2.2.2.1
    ·rw [hn] at hw;cases hw
    ·rw [hn,cond_true,List.mem_singleton] at hw
     rw [hw]
     have e:Z19 (j5u++j07 c.2.2.2.2)=61::Z19 (j07 c.2.2.2.2):=by rw [j0l];rfl
     refine ⟨?_,jsr (j8s _ _ (by decide)) (joO h3),hp (b:=40) e (by omega) _ rfl,hp (b:=41) e (by omega) _ rfl⟩
     have:=jbm c.2.2.2.2
     have e1:(j5u).size=1:=rfl
     rw [ByteArray.size_append]
     omega
theorem jkC {t:T} (h:jei t=true):∀ k∈t.2.2,j0T k=true:=λk hk=>by
 obtain ⟨_,_,_,_,h5,h6⟩:=j2t h
 have hr:=je0 _ _ (by omega) h6 k hk
 unfold j13 Z8b at hr
 cases hf:t.2.1.findIdx? λc=>sEq c.1 k with
 | none=>rw [hf] at hr;simp at hr
 | some i=>
  obtain ⟨hi,hp,_⟩:=List.findIdx?_eq_some_iff_getElem.1 hf
  have:=j7u h5 i hi
  rw [<-(j0t _ _).1 hp]
  exact (j5U this).1
theorem jdM (c:C):(j1g c).length<=4:=by
 unfold j1g
 cases c.2.2.1<;>cases c.2.2.2.1<;>simp
theorem jjR {d:D} (h:j1Y d=true):∀ w∈j1h d,w.size<=101/\free 32 w:=by
 obtain ⟨h0,hc⟩:=j4H h
 have hw:∀ {s:ByteArray},j0T s=true->s.size<=101/\free 32 s:=λ{s} hs=>⟨by have:=j0o hs;omega,jgQ hs (by omega)⟩
 have hz:∀ {s:ByteArray},decide (s.size<=101)=true->(Z19 s).all (λx=>x != 32)=true->s.size<=101/\free 32 s:=λh1 h2=>⟨of_decide_eq_true h1,j8s _ _ h2⟩
 rcases hc with ⟨t,cs,ks,rfl,hT⟩ | ⟨t,rfl⟩ | ⟨t,c,rfl,hC⟩ | ⟨t,n,rfl,hn⟩ | ⟨t,n,m,rfl,hn,hm⟩
 ·intro w hm
  simp only [j1h,beq_self_eq_true,cond_true] at hm
  rcases List.mem_cons.1 hm with rfl | hm
  ·exact hz (by decide) (by decide)
  rcases List.mem_cons.1 hm with rfl | hm
  ·exact hw h0
  rcases List.mem_append.1 hm with hm | hm
  ·obtain ⟨c,hc,hm⟩:=List.mem_flatMap.1 hm
   obtain ⟨i,hi,rfl⟩:=List.mem_iff_getElem.1 hc
   have hcb:=j7u (j2t hT).2.2.2.2.1 i hi
   unfold j1S at hm
   rcases List.mem_cons.1 hm with rfl | hm
   ·exact hz (by decide) (by decide)
   rcases List.mem_append.1 hm with hm | hm
   ·have:=jct hcb w hm;exact ⟨this.1,this.2.1⟩
   ·rw [List.mem_singleton] at hm;subst hm;exact hz (by decide) (by decide)
  ·rcases List.mem_cons.1 hm with rfl | hm
   ·exact hz (by decide) (by decide)
   ·exact hw (jkC hT w hm)
 ·intro w hm
  simp only [j1h,show ((2:Int)==1)=false from rfl,show ((2:Int)==2)=true from rfl,cond_false,cond_true,List.mem_cons,List.not_mem_nil,or_false] at hm
  rcases hm with rfl | rfl
  ·exact hz (by decide) (by decide)
  ·exact hw h0
 ·intro w hm
  simp only [j1h,show ((3:Int)==1)=false from rfl,show ((3:Int)==2)=false from rfl,show ((3:Int)==3)=true from rfl,cond_false,cond_true] at hm
  rcases List.mem_cons.1 hm with rfl | hm
  ·exact hz (by decide) (by decide)
  rcases List.mem_cons.1 hm with rfl | hm
  ·exact hw h0
  ·have:=jct hC w hm;exact ⟨this.1,this.2.1⟩
 ·intro w hm
  simp only [j1h,show ((4:Int)==1)=false from rfl,show ((4:Int)==2)=false from rfl,show ((4:Int)==3)=false from rfl,show ((4:Int)==4)=true from rfl,cond_false,cond_true,List.mem_cons,List.not_mem_nil,or_false] at hm
  rcases hm with rfl | rfl | rfl
  ·exact hz (by decide) (by decide)
  ·exact hw h0
  ·exact hw hn
 ·intro w hmm
  simp only [j1h,show ((5:Int)==1)=false from rfl,show ((5:Int)==2)=false from rfl,show ((5:Int)==3)=false from rfl,show ((5:Int)==4)=false from rfl,cond_false,List.mem_cons,List.not_mem_nil,or_false] at hmm
  rcases hmm with rfl | rfl | rfl | rfl
  ·exact hz (by decide) (by decide)
  ·exact hw h0
  ·exact hw hn
  ·exact hw hm
theorem jon {s:ST} (h:stB s=true):∀ w∈stW s,w.size<=101/\free 32 w:=by
 obtain ⟨h0,hc⟩:=j9K h
 have hw:∀ {s:ByteArray},j0T s=true->s.size<=101/\free 32 s:=λ{s} hs=>⟨by have:=j0o hs;omega,jgQ hs (by omega)⟩
 have hz:∀ {s:ByteArray},decide (s.size<=101)=true->(Z19 s).all (λx=>x != 32)=true->s.size<=101/\free 32 s:=λh1 h2=>⟨of_decide_eq_true h1,j8s _ _ h2⟩
 have hv:∀ {l:List V},j1R l=true->∀ w∈l.map j07,w.size<=101/\free 32 w:=λ{l} hl w hm=>by
  obtain ⟨v,hv,rfl⟩:=List.mem_map.1 hm
  have:=jbm v
  exact ⟨by omega,joO ((j0v hl).2.2 v hv)⟩
 rcases hc with ⟨t,r,rfl,hr⟩ | ⟨t,q,r,rfl,hq,hr⟩ | ⟨t,q,rfl,hq⟩ | ⟨t,rfl⟩ | ⟨d,rfl,hd⟩
 ·intro w hm
  simp only [stW,beq_self_eq_true,cond_true] at hm
  rcases List.mem_cons.1 hm with rfl | hm
  ·exact hz (by decide) (by decide)
  rcases List.mem_cons.1 hm with rfl | hm
  ·exact hw h0
  ·exact hv hr w hm
 ·intro w hm
  simp only [stW,show ((2:Int)==1)=false from rfl,show ((2:Int)==2)=true from rfl,cond_false,cond_true] at hm
  rcases List.mem_cons.1 hm with rfl | hm
  ·exact hz (by decide) (by decide)
  rcases List.mem_cons.1 hm with rfl | hm
  ·exact hw h0
  rcases List.mem_append.1 hm with hm | hm
  ·exact hv hq w hm
  rcases List.mem_cons.1 hm with rfl | hm
  ·exact hz (by decide) (by decide)
  ·exact hv hr w hm
 ·intro w hm
  simp only [stW,show ((3:Int)==1)=false from rfl,show ((3:Int)==2)=false from rfl,show ((3:Int)==3)=true from rfl,cond_false,cond_true] at hm
  rcases List.mem_cons.1 hm with rfl | hm
  ·exact hz (by decide) (by decide)
  rcases List.mem_cons.1 hm with rfl | hm
  ·exact hw h0
  ·exact hv hq w hm
 ·intro w hm
  simp only [stW,show ((4:Int)==1)=false from rfl,show ((4:Int)==2)=false from rfl,show ((4:Int)==3)=false from rfl,show ((4:Int)==4)=true from rfl,cond_false,cond_true,List.mem_cons,List.not_mem_nil,or_false] at hm
  rcases hm with rfl | rfl
  ·exact hz (by decide) (by decide)
  ·exact hw h0
 ·intro w hm
  simp only [stW,show ((5:Int)==1)=false from rfl,show ((5:Int)==2)=false from rfl,show ((5:Int)==3)=false from rfl,show ((5:Int)==4)=false from rfl,cond_false] at hm
  exact jjR hd w hm
end Go.PI.G
