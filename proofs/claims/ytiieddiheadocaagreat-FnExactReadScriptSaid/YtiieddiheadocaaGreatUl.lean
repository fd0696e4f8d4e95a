/-
  Program's code interpreted over typed values; printed texts; plain laws. No conditions.
-/
import Derived.Test.YtiieddiheadocaaGreatUg
import Derived.Test.YtiieddiheadocaaGreatUk
import Derived.Test.YtiieddiheadocaaGreatUe
import Derived.Test.YtiieddiheadocaaGreatUj
set_option linter.unusedVariables false
set_option linter.unusedSimpArgs false
namespace Go.PI.G
open Go Go.PI Go.Proofs
abbrev SP:=Int×RC×Int×Int×Int
abbrev zSP:SP:=(0,(0,0,0,eS,[],[],0,eS,[],[],eS,eS),0,0,0)
def j9m (r:RC):Bool:=(r.1==0)&&((r.2.1==0)&&jiT r.2.2)
def okN (n:Int):Bool:=decide (n>=0)&&j1C n
def j5W (s:SP):ByteArray×List Int:=
 bif s.1==2 then (j0H,[s.2.2.1])
 else bif s.1==4 then (j0I,[s.2.2.1])
 else bif s.1==5 then (j0N,[])
 else bif s.1==6 then (j0M,[])
 else bif s.1==7 then (j0L,[])
 else bif s.1==3 then (bif s.2.2.1==1 then (j0p,[s.2.2.2.1]) else bif s.2.2.1==2 then (j0j,[s.2.2.2.1]) else bif s.2.2.1==3 then (j0o,[s.2.2.2.1]) else bif s.2.2.1==4 then (j0z,[s.2.2.2.1,s.2.2.2.2]) else (eS,[]))
 else (eS,[])
def jcF (s:SP):Bool:=
 bif s.1==2 then (s.2.2.2.1==0)&&(s.2.2.2.2==0)
 else bif s.1==4 then (s.2.2.2.1==0)&&(s.2.2.2.2==0)
 else bif s.1==3 then (bif s.2.2.1==4 then true else s.2.2.2.2==0)
 else (s.2.2.1==0)&&((s.2.2.2.1==0)&&(s.2.2.2.2==0))
def j6Z (s:SP):Bool:=bif s.1==1 then j2a s.2.1&&((s.2.2.1==0)&&((s.2.2.2.1==0)&&(s.2.2.2.2==0))) else (!sEq (j5W s).1 eS)&&(j9m s.2.1&&(jcF s&&(j5W s).2.all okN))
def jhl (s:SP):List ByteArray:=bif s.1==1 then j0E::j1U s.2.1 else (j5W s).1::(j5W s).2.map j04
def j3G (s:SP):ByteArray:=bif j6Z s then j02 (jhl s) else eS
theorem jrX:okN 0=true:=by decide
theorem jst (n:Int):sNe (j04 n) eS=j1C n:=by
 cases h:j1C n
 ·rw [jr0 h,Z8M]
 ·obtain ⟨x,xs,e,_⟩:=j8c h
  exact jtR (by rw [e];exact List.cons_ne_nil _ _)
theorem jtb (n:Int) (K:ByteArray->Bool->Res):j7f n K=K (j0e++j04 n) (okN n):=by
 unfold j7f okN
 have:=j2X n
 rw [jcP,Z9d (by unfold LIM;omega),cond_true,jst]
 cases decide (n>=0)<;>rfl
theorem jrp (r:RC) (k:Bool->Res):jbm r k=k (j9m r):=by
 unfold jbm j9m
 rw [jkG]
 cases r.1==0
 ·rfl
 ·cases r.2.1==0<;>rfl
theorem jdV {r:RC} (h:j2a r=true):sEq (j02 (j1U r)) eS=false:=by
 refine j01 ?_
 have e:j02 (j1U r)=j1V r.1++tlB (j04 r.2.1::(bif r.1==2 then stW r.2.2 else [])):=rfl
 rw [e,j0l]
 rcases jes (j6P h).1 with ⟨_,e⟩ | ⟨_,e⟩ | ⟨_,e⟩ | ⟨_,e⟩<;>rw [e]<;>exact List.cons_ne_nil _ _
theorem jtV (r:RC):jfc++j02 (j1U r)=j02 (j0E::j1U r):=by
 have q1:(jfc:ByteArray)=j0E++spB:=j0R (by rw [j0l];rfl)
 show _=j0E++tlB (j1U r)
 rw [<-jaN (by unfold j1U;exact List.cons_ne_nil _ _),q1,ByteArray.append_assoc]
theorem jr4 {r:RC} (h:j2a r=false):j3E r=eS:=by unfold j3E;rw [h];rfl
theorem jjs {r:RC} (h:j2a r=true):j3E r=j02 (j1U r):=by unfold j3E;rw [h];rfl
theorem w1 (w a:ByteArray):w++(j0e++a)=j02 [w,a]:=by
 show _=w++(spB++(a++eS))
 rw [j3b];rfl
theorem w2 (w a b:ByteArray):(w++(j0e++a))++(j0e++b)=j02 [w,a,b]:=by
 show _=w++(spB++(a++(spB++(b++eS))))
 rw [j3b]
 simp only [ByteArray.append_assoc]
 rfl
theorem w0 (w:ByteArray):w=j02 [w]:=(j3b w).symm
theorem jrG {s:SP} (h:s.1=1) (hc:(j2a s.2.1&&((s.2.2.1==0)&&((s.2.2.2.1==0)&&(s.2.2.2.2==0))))=true):j3G s=jfc++j3E s.2.1:=by
 have e:(s.1==1)=true:=by simp [h]
 unfold j3G j6Z jhl
 rw [e,cond_true,cond_true,hc,cond_true,jjs (by rw [Bool.and_eq_true] at hc;exact hc.1),jtV]
theorem jhk {s:SP} (h:s.1=1) (hc:(j2a s.2.1&&((s.2.2.1==0)&&((s.2.2.2.1==0)&&(s.2.2.2.2==0))))=false):j3G s=eS:=by
 have e:(s.1==1)=true:=by simp [h]
 unfold j3G j6Z
 rw [e,cond_true,hc,cond_false]
theorem jrH {s:SP} (h:s.1≠1):j3G s=bif (!sEq (j5W s).1 eS)&&(j9m s.2.1&&(jcF s&&(j5W s).2.all okN)) then j02 ((j5W s).1::(j5W s).2.map j04) else eS:=by
 have e:(s.1==1)=false:=by simp [h]
 unfold j3G j6Z jhl
 rw [e,cond_false,cond_false]
theorem jrq (s:SP) (hs:j2G s.2.1.2.2) (k:ByteArray->Res):j97 s k=k (j3G s):=by
 unfold j97
 by_cases h1:s.1=1
 ·rw [show (s.1==1)=true by simp [h1],cond_true,jkH _ hs]
  have hrs:=jpj hs
  unfold j8s
  have s1:(jfc).size=4:=rfl
  cases hb:j2a s.2.1
  ·rw [jr4 hb,Z8L,cond_true,jhk h1 (by rw [hb];rfl)]
   rfl
  ·cases hc:(s.2.2.1==0)&&((s.2.2.2.1==0)&&(s.2.2.2.2==0))
   ·rw [jhk h1 (by rw [hb,hc];rfl),jjs hb,jdV hb,cond_false]
    unfold bne
    cases h2:s.2.2.1==0
    ·rfl
    ·cases h3:s.2.2.2.1==0
     ·rfl
     ·cases h4:s.2.2.2.2==0
      ·rfl
      ·rw [h2,h3,h4] at hc;cases hc
   ·rw [jrG h1 (by rw [hb,hc];rfl)]
    simp only [Bool.and_eq_true] at hc
    have e:sEq (j3E s.2.1) eS=false:=by rw [jjs hb];exact jdV hb
    unfold bne
    rw [e,hc.1,hc.2.1,hc.2.2]
    dsimp only [Bool.not_true,cond_false]
    rw [Z9d (by unfold LIM;omega)]
    rfl
 ·rw [show (s.1==1)=false by simp [h1],cond_false,jrH h1]
  simp only [jtb]
  have hp1:∀ (w:ByteArray) (x y z:Bool) (K:Bool->Res),j1D w x y z s K=K (!((!sEq w eS)&&(j9m s.2.1&&(x&&(y&&z))))):=λw x y z K=>by
   unfold j1D
   rw [jrp]
   cases sEq w eS
   ·cases j9m s.2.1
    ·rfl
    ·cases x
     ·rfl
     ·cases y<;>rfl
   ·rfl
  have hA:=j2X s.2.2.1
  have hB:=j2X s.2.2.2.1
  have hC:=j2X s.2.2.2.2
  have s1:(j0e).size=1:=rfl
  have one:∀ (w:ByteArray),w.size<=10->sEq w eS=false->j1D w (okN s.2.2.1) (okN s.2.2.2.1) (okN s.2.2.2.2) s (λt1=>bif t1 then k eS else j1j 1 s (λ_=>j1k w 1 (j0e++j04 s.2.2.1) s (λ_=>j1l w 1 (j0e++j04 s.2.2.2.1) (j0e++j04 s.2.2.2.2) s (λ_=>bif ((1:Int)==2) then (bif s.2.2.2.2==0 then (bif lim (w.size+(j0e++j04 s.2.2.2.1).size) then k (w++(j0e++j04 s.2.2.2.1)) else none) else k eS) else k eS) (λ_=>k ((w++(j0e++j04 s.2.2.2.1))++(j0e++j04 s.2.2.2.2)))) (λ_=>k (w++(j0e++j04 s.2.2.1)))) (λ_=>k w)) =
    k (bif j9m s.2.1&&(((s.2.2.2.1==0)&&(s.2.2.2.2==0))&&okN s.2.2.1) then j02 [w,j04 s.2.2.1] else eS):=λw hw hne=>by
   rw [hp1,hne,Bool.not_false,Bool.true_and,<-w1]
   unfold j1j j1k j1l
   rw [show ((1:Int)==0)=false from rfl,show ((1:Int)==1)=true from rfl,show ((1:Int)==2)=false from rfl]
   simp only [cond_false,cond_true]
   rw [Z9d (by rw [ByteArray.size_append];unfold LIM;omega),cond_true]
   cases j9m s.2.1
   ·rfl
   ·cases ha:okN s.2.2.1
    ·rw [Bool.and_false,Bool.and_false];rfl
    ·cases hb0:s.2.2.2.1==0
     ·cases okN s.2.2.2.1
      ·rfl
      ·cases okN s.2.2.2.2<;>rfl
     ·have e1:s.2.2.2.1=0:=by simpa using hb0
      cases hc0:s.2.2.2.2==0
      ·cases okN s.2.2.2.1
       ·rfl
       ·cases okN s.2.2.2.2<;>rfl
      ·have e2:s.2.2.2.2=0:=by simpa using hc0
       rw [e1,e2,jrX]
       rfl
  have zer:∀ (w:ByteArray),sEq w eS=false->j1D w (okN s.2.2.1) (okN s.2.2.2.1) (okN s.2.2.2.2) s (λt1=>bif t1 then k eS else j1j 0 s (λ_=>j1k w 0 (j0e++j04 s.2.2.1) s (λ_=>j1l w 0 (j0e++j04 s.2.2.2.1) (j0e++j04 s.2.2.2.2) s (λ_=>bif ((0:Int)==2) then (bif s.2.2.2.2==0 then (bif lim (w.size+(j0e++j04 s.2.2.2.1).size) then k (w++(j0e++j04 s.2.2.2.1)) else none) else k eS) else k eS) (λ_=>k ((w++(j0e++j04 s.2.2.2.1))++(j0e++j04 s.2.2.2.2)))) (λ_=>k (w++(j0e++j04 s.2.2.1)))) (λ_=>k w)) =
    k (bif j9m s.2.1&&(((s.2.2.1==0)&&((s.2.2.2.1==0)&&(s.2.2.2.2==0)))&&true) then j02 [w] else eS):=λw hne=>by
   rw [hp1,hne,Bool.not_false,Bool.true_and,<-w0]
   unfold j1j j1k j1l
   rw [show ((0:Int)==0)=true from rfl,show ((0:Int)==1)=false from rfl,show ((0:Int)==2)=false from rfl]
   simp only [cond_false,cond_true]
   cases j9m s.2.1
   ·rfl
   ·cases ha0:s.2.2.1==0
    ·cases okN s.2.2.1
     ·rfl
     ·cases okN s.2.2.2.1
      ·rfl
      ·cases okN s.2.2.2.2<;>rfl
    ·cases hb0:s.2.2.2.1==0
     ·cases okN s.2.2.1
      ·rfl
      ·cases okN s.2.2.2.1
       ·rfl
       ·cases okN s.2.2.2.2<;>rfl
     ·cases hc0:s.2.2.2.2==0
      ·cases okN s.2.2.1
       ·rfl
       ·cases okN s.2.2.2.1
        ·rfl
        ·cases okN s.2.2.2.2<;>rfl
      ·rw [show s.2.2.1=0 by simpa using ha0,show s.2.2.2.1=0 by simpa using hb0,show s.2.2.2.2=0 by simpa using hc0,jrX]
       rfl
  unfold jd0 j5W jcF
  by_cases h2:s.1=2
  ·rw [h2]
   refine (one j0H (by decide) (j01 (by decide))).trans ?_
   rw [show ((2:Int)==2)=true from rfl,cond_true,cond_true]
   rw [j01 (show Z19 j0H≠Z19 eS by decide)]
   simp
  by_cases h4:s.1=4
  ·rw [h4]
   refine (one j0I (by decide) (j01 (by decide))).trans ?_
   rw [show ((4:Int)==2)=false from rfl,show ((4:Int)==4)=true from rfl,cond_false,cond_true,cond_false,cond_true]
   rw [j01 (show Z19 j0I≠Z19 eS by decide)]
   simp
  by_cases h5:s.1=5
  ·rw [h5]
   refine (zer j0N (j01 (by decide))).trans ?_
   rw [show ((5:Int)==2)=false from rfl,show ((5:Int)==4)=false from rfl,show ((5:Int)==5)=true from rfl,show ((5:Int)==3)=false from rfl]
   simp only [cond_false,cond_true]
   rw [j01 (show Z19 j0N≠Z19 eS by decide)]
   rfl
  by_cases h6:s.1=6
  ·rw [h6]
   refine (zer j0M (j01 (by decide))).trans ?_
   rw [show ((6:Int)==2)=false from rfl,show ((6:Int)==4)=false from rfl,show ((6:Int)==5)=false from rfl,show ((6:Int)==6)=true from rfl,show ((6:Int)==3)=false from rfl]
   simp only [cond_false,cond_true]
   rw [j01 (show Z19 j0M≠Z19 eS by decide)]
   rfl
  by_cases h7:s.1=7
  ·rw [h7]
   refine (zer j0L (j01 (by decide))).trans ?_
   rw [show ((7:Int)==2)=false from rfl,show ((7:Int)==4)=false from rfl,show ((7:Int)==5)=false from rfl,show ((7:Int)==6)=false from rfl,show ((7:Int)==7)=true from rfl,show ((7:Int)==3)=false from rfl]
   simp only [cond_false,cond_true]
   rw [j01 (show Z19 j0L≠Z19 eS by decide)]
   rfl
  have g2:(s.1==2)=false:=by simp [h2]
  have g4:(s.1==4)=false:=by simp [h4]
  have g5:(s.1==5)=false:=by simp [h5]
  have g6:(s.1==6)=false:=by simp [h6]
  have g7:(s.1==7)=false:=by simp [h7]
  rw [g2,g4,g5,g6,g7]
  simp only [cond_false]
  have non:∀ n:Int,j1D eS (okN s.2.2.1) (okN s.2.2.2.1) (okN s.2.2.2.2) s (λt1=>bif t1 then k eS else j1j n s (λ_=>j1k eS n (j0e++j04 s.2.2.1) s (λ_=>j1l eS n (j0e++j04 s.2.2.2.1) (j0e++j04 s.2.2.2.2) s (λ_=>bif (n==2) then (bif s.2.2.2.2==0 then (bif lim (eS.size+(j0e++j04 s.2.2.2.1).size) then k (eS++(j0e++j04 s.2.2.2.1)) else none) else k eS) else k eS) (λ_=>k ((eS++(j0e++j04 s.2.2.2.1))++(j0e++j04 s.2.2.2.2)))) (λ_=>k (eS++(j0e++j04 s.2.2.1)))) (λ_=>k eS))=k eS:=λn=>by
   rw [hp1,Z8L]
   rfl
  by_cases h3:s.1=3
  ·rw [show (s.1 != 3)=false by simp [h3],show (s.1==3)=true by simp [h3]]
   simp only [cond_false,cond_true]
   by_cases hA1:1<=s.2.2.1/\s.2.2.1<=4
   ·rw [decide_eq_false (show ¬ s.2.2.1<1 by omega),decide_eq_false (show ¬ s.2.2.1>4 by omega),Z9c (show 0<=s.2.2.1 by omega) (show s.2.2.1<((5:Nat):Int) by omega)]
    simp only [cond_false,cond_true]
    have hokA:okN s.2.2.1=true:=by
     unfold okN j1C
     rw [decide_eq_true (show s.2.2.1>=0 by omega),decide_eq_true (show -1099511627775<=s.2.2.1/\s.2.2.1<=1099511627775 by omega)]
     rfl
    rw [hokA]
    have two:∀ (w:ByteArray),w.size<=10->sEq w eS=false->j1D w true (okN s.2.2.2.1) (okN s.2.2.2.2) s (λt1=>bif t1 then k eS else j1j 2 s (λ_=>j1k w 2 (j0e++j04 s.2.2.1) s (λ_=>j1l w 2 (j0e++j04 s.2.2.2.1) (j0e++j04 s.2.2.2.2) s (λ_=>bif ((2:Int)==2) then (bif s.2.2.2.2==0 then (bif lim (w.size+(j0e++j04 s.2.2.2.1).size) then k (w++(j0e++j04 s.2.2.2.1)) else none) else k eS) else k eS) (λ_=>k ((w++(j0e++j04 s.2.2.2.1))++(j0e++j04 s.2.2.2.2)))) (λ_=>k (w++(j0e++j04 s.2.2.1)))) (λ_=>k w)) =
      k (bif s.2.2.1==4 then (bif j9m s.2.1&&(okN s.2.2.2.1&&okN s.2.2.2.2) then j02 [w,j04 s.2.2.2.1,j04 s.2.2.2.2] else eS) else bif j9m s.2.1&&((s.2.2.2.2==0)&&okN s.2.2.2.1) then j02 [w,j04 s.2.2.2.1] else eS):=λw hw hne=>by
     rw [hp1,hne,Bool.not_false,Bool.true_and,Bool.true_and,<-w1,<-w2]
     unfold j1j j1k j1l
     rw [show ((2:Int)==0)=false from rfl,show ((2:Int)==1)=false from rfl,show ((2:Int)==2)=true from rfl]
     simp only [cond_false,cond_true]
     rw [Z9d (show w.size+(j0e++j04 s.2.2.2.1).size<=LIM by rw [ByteArray.size_append];unfold LIM;omega),cond_true,cond_true,Z9d (by simp only [ByteArray.size_append];unfold LIM;omega),cond_true]
     cases j9m s.2.1
     ·cases s.2.2.1==4<;>rfl
     ·cases okN s.2.2.2.1
      ·rw [Bool.and_false]
       cases s.2.2.1==4<;>rfl
      ·cases hc:s.2.2.2.2==0
       ·cases okN s.2.2.2.2<;>cases s.2.2.1==4<;>rfl
       ·rw [show s.2.2.2.2=0 by simpa using hc,jrX]
        cases s.2.2.1==4<;>rfl
    have hcs:s.2.2.1=1\/s.2.2.1=2\/s.2.2.1=3\/s.2.2.1=4:=by omega
    rcases hcs with e | e | e | e
    ·have:=two j0p (by decide) (j01 (by decide))
     rw [e] at this ⊢
     refine this.trans ?_
     rw [show ((1:Int)==4)=false from rfl,show ((1:Int)==1)=true from rfl]
     simp only [cond_false,cond_true]
     rw [j01 (show Z19 j0p≠Z19 eS by decide)]
     simp
    ·have:=two j0j (by decide) (j01 (by decide))
     rw [e] at this ⊢
     refine this.trans ?_
     rw [show ((2:Int)==4)=false from rfl,show ((2:Int)==1)=false from rfl,show ((2:Int)==2)=true from rfl]
     simp only [cond_false,cond_true]
     rw [j01 (show Z19 j0j≠Z19 eS by decide)]
     simp
    ·have:=two j0o (by decide) (j01 (by decide))
     rw [e] at this ⊢
     refine this.trans ?_
     rw [show ((3:Int)==4)=false from rfl,show ((3:Int)==1)=false from rfl,show ((3:Int)==2)=false from rfl,show ((3:Int)==3)=true from rfl]
     simp only [cond_false,cond_true]
     rw [j01 (show Z19 j0o≠Z19 eS by decide)]
     simp
    ·have:=two j0z (by decide) (j01 (by decide))
     rw [e] at this ⊢
     refine this.trans ?_
     rw [show ((4:Int)==4)=true from rfl,show ((4:Int)==1)=false from rfl,show ((4:Int)==2)=false from rfl,show ((4:Int)==3)=false from rfl]
     simp only [cond_false,cond_true]
     rw [j01 (show Z19 j0z≠Z19 eS by decide)]
     simp
   ·have e:(bif s.2.2.1==1 then (j0p,[s.2.2.2.1]) else bif s.2.2.1==2 then (j0j,[s.2.2.2.1]) else bif s.2.2.1==3 then (j0o,[s.2.2.2.1]) else bif s.2.2.1==4 then (j0z,[s.2.2.2.1,s.2.2.2.2]) else ((eS,[]):ByteArray×List Int))=(eS,[]):=by
     rw [show (s.2.2.1==1)=false by simp;omega,show (s.2.2.1==2)=false by simp;omega,show (s.2.2.1==3)=false by simp;omega,show (s.2.2.1==4)=false by simp;omega]
     rfl
    rw [e]
    by_cases hA2:s.2.2.1<1
    ·rw [decide_eq_true hA2,cond_true]
     refine (non 0).trans ?_
     rw [Z8L];rfl
    ·rw [decide_eq_false hA2,cond_false,decide_eq_true (show s.2.2.1>4 by omega),cond_true]
     refine (non 0).trans ?_
     rw [Z8L];rfl
  ·rw [show (s.1 != 3)=true by simp [h3],show (s.1==3)=false by simp [h3]]
   simp only [cond_false,cond_true]
   refine (non 0).trans ?_
   rw [Z8L];rfl
theorem jrk (s:SP) (k:ByteArray->Res) (Z:Res):jad s (λr=>bif (s.2.2.1 != r.2.2.1) then k eS else bif (s.2.2.2.1 != r.2.2.2.1) then k eS else bif (s.2.2.2.2 != r.2.2.2.2) then k eS else Z)=bif jcF s then Z else k eS:=by
 unfold jad j9H jcF
 dsimp only
 have hb:∀ n:Int,(n != n)=false:=λn=>by simp
 unfold bne
 cases s.1==2
 ·cases s.1==4
  ·cases s.1==3
   ·simp only [cond_false]
    cases s.2.2.1==0
    ·rfl
    ·cases s.2.2.2.1==0
     ·rfl
     ·cases s.2.2.2.2==0<;>rfl
   ·simp only [cond_false,cond_true]
    cases s.2.2.1==4
    ·simp only [cond_false,beq_self_eq_true,Bool.not_true]
     cases s.2.2.2.2==0<;>rfl
    ·simp only [cond_true,beq_self_eq_true,Bool.not_true,cond_false]
  ·simp only [cond_false,cond_true,beq_self_eq_true,Bool.not_true]
   cases s.2.2.2.1==0
   ·rfl
   ·cases s.2.2.2.2==0<;>rfl
 ·simp only [cond_false,cond_true,beq_self_eq_true,Bool.not_true]
  cases s.2.2.2.1==0
  ·rfl
  ·cases s.2.2.2.2==0<;>rfl
theorem jrU (s:SP) (K:ByteArray->List Int->Res):j8Z s K=K (j5W s).1 (j5W s).2:=by
 unfold j8Z j5W
 simp only [Z8m,j1P]
 by_cases h2:s.1=2
 ·rw [h2];rfl
 have g2:(s.1==2)=false:=by simp [h2]
 by_cases h3:s.1=3
 ·rw [h3]
  rw [show ((3:Int)==2)=false from rfl,show ((3:Int)==3)=true from rfl,show ((3:Int)==4)=false from rfl,show ((3:Int)==5)=false from rfl,show ((3:Int)==6)=false from rfl,show ((3:Int)==7)=false from rfl]
  simp only [cond_false,cond_true]
  by_cases hA:1<=s.2.2.1/\s.2.2.1<=3
  ·rw [decide_eq_true hA]
   have:s.2.2.1=1\/s.2.2.1=2\/s.2.2.1=3:=by omega
   rcases this with e | e | e<;>rw [e]<;>rfl
  ·rw [decide_eq_false hA,cond_false,show (s.2.2.1==1)=false by simp;omega,show (s.2.2.1==2)=false by simp;omega,show (s.2.2.1==3)=false by simp;omega]
   simp only [cond_false]
   cases s.2.2.1==4<;>rfl
 have g3:(s.1==3)=false:=by simp [h3]
 rw [g2,g3]
 simp only [cond_false]
 cases s.1==4
 ·cases s.1==5
  ·cases s.1==6
   ·cases s.1==7<;>rfl
   ·rfl
  ·rfl
 ·rfl
def jiU (w:ByteArray) (n:Int):Except Unit ByteArray:=bif okN n then .ok ((w++spB)++j04 n) else .error ()
theorem jrz:(l:List Int)->(w:ByteArray)->goL jiU l w=if l.all okN=true then .ok (w++tlB (l.map j04)) else .error ()
 | [],w=>by
  show Except.ok w=if true=true then Except.ok (w++eS) else Except.error ()
  rw [if_pos rfl,j3b]
 | n::l,w=>by
  simp only [goL]
  cases h:okN n
  ·have e:jiU w n= .error ():=by unfold jiU;rw [h];rfl
   rw [e,List.all_cons,h,Bool.false_and,if_neg (by simp)]
  ·have e:jiU w n= .ok ((w++spB)++j04 n):=by unfold jiU;rw [h];rfl
   rw [e,List.all_cons,h,Bool.true_and]
   dsimp only
   rw [jrz l]
   have e2:w++tlB ((n::l).map j04)=((w++spB)++j04 n)++tlB (l.map j04):=by
    show w++(spB++(j04 n++tlB (l.map j04)))=_
    simp only [ByteArray.append_assoc]
   rw [e2]
theorem jsY (l:List Int) (w:ByteArray) (hl:l.length<=2) (hw:w.size<=100) (a:ByteArray->Res) (b:Unit->Res):j8j l (nI l.length) Z0Y w 0 a b=bif l.all okN then a (w++tlB (l.map j04)) else b ():=by
 unfold j8j
 have:=joO l (λi w=>(w,i)) jiU (λi w=>w.size<=100+20 * i) (step:=j6A l (nI l.length)) (a,b) a b (λi w w' hi hp hf=>by
  have hn:=j2X l[i]
  unfold jiU at hf
  cases ho:okN l[i]
  ·rw [ho] at hf;cases hf
  ·rw [ho] at hf;cases hf
   simp only [ByteArray.size_append]
   have:spB.size=1:=rfl
   omega) (λi w rec hi hp=>by
  show j44 _ _ _ _ _ _ _=_
  unfold j44
  dsimp only
  have hn:=j2X l[i]
  have s1:(j0e).size=1:=rfl
  have q1:(j0e:ByteArray)=spB:=rfl
  rw [Z9i hi,cond_true,j0i hi,cond_true,Z92 _ _ _ hi,jcs]
  have hne:sEq (j04 l[i]) eS= !j1C l[i]:=by rw [<-jst];unfold sNe sEq;rw [Bool.not_not]
  rw [hne]
  unfold jiU okN
  by_cases h0:l[i]<0
  ·rw [decide_eq_true h0,cond_true,decide_eq_false (show ¬ l[i]>=0 by omega)];rfl
  ·rw [decide_eq_false h0,cond_false,decide_eq_true (show l[i]>=0 by omega),Bool.true_and]
   cases j1C l[i]
   ·rfl
   ·rw [Bool.not_true,cond_false,Z9d (by unfold LIM;omega),cond_true,Z9d (by rw [ByteArray.size_append];unfold LIM;omega),cond_true,j03 (by omega),q1]
    rfl) (λw rec hp=>by
  show j44 _ _ _ _ _ _ _=_
  unfold j44
  dsimp only
  rw [Z9h,cond_false]) l.length 0 Z0Y w (by omega) (Z1O (by omega)) (by omega)
 refine Eq.trans this ?_
 rw [List.drop_zero,jrz]
 cases l.all okN<;>rfl
theorem jrs (s:SP):(j5W s).1.size<=10/\(j5W s).2.length<=2:=by
 unfold j5W
 cases s.1==2
 ·cases s.1==4
  ·cases s.1==5
   ·cases s.1==6
    ·cases s.1==7
     ·cases s.1==3
      ·exact ⟨Nat.le_of_ble_eq_true rfl,Nat.le_of_ble_eq_true rfl⟩
      ·cases s.2.2.1==1
       ·cases s.2.2.1==2
        ·cases s.2.2.1==3
         ·cases s.2.2.1==4
          ·exact ⟨Nat.le_of_ble_eq_true rfl,Nat.le_of_ble_eq_true rfl⟩
          ·exact ⟨Nat.le_of_ble_eq_true rfl,Nat.le_of_ble_eq_true rfl⟩
         ·exact ⟨Nat.le_of_ble_eq_true rfl,Nat.le_of_ble_eq_true rfl⟩
        ·exact ⟨Nat.le_of_ble_eq_true rfl,Nat.le_of_ble_eq_true rfl⟩
       ·exact ⟨Nat.le_of_ble_eq_true rfl,Nat.le_of_ble_eq_true rfl⟩
     ·exact ⟨Nat.le_of_ble_eq_true rfl,Nat.le_of_ble_eq_true rfl⟩
    ·exact ⟨Nat.le_of_ble_eq_true rfl,Nat.le_of_ble_eq_true rfl⟩
   ·exact ⟨Nat.le_of_ble_eq_true rfl,Nat.le_of_ble_eq_true rfl⟩
  ·exact ⟨Nat.le_of_ble_eq_true rfl,Nat.le_of_ble_eq_true rfl⟩
 ·exact ⟨Nat.le_of_ble_eq_true rfl,Nat.le_of_ble_eq_true rfl⟩
theorem jri (s:SP) (hs:j2G s.2.1.2.2) (k:ByteArray->Res):j8W s k=k (j3G s):=by
 unfold j8W
 rw [jrk]
 by_cases h1:s.1=1
 ·rw [show (s.1==1)=true by simp [h1],cond_true,jkB _ hs]
  have hrs:=jpj hs
  have s1:(jfc).size=4:=rfl
  have hr:jcF s=((s.2.2.1==0)&&((s.2.2.2.1==0)&&(s.2.2.2.2==0))):=by unfold jcF;rw [h1];rfl
  cases hb:j2a s.2.1
  ·rw [jr4 hb,Z8L,cond_true,jhk h1 (by rw [hb];rfl)]
   cases jcF s<;>rfl
  ·cases hc:jcF s
   ·rw [hr] at hc
    rw [jhk h1 (by rw [hb,hc];rfl)]
    rfl
   ·rw [hr] at hc
    rw [jrG h1 (by rw [hb,hc];rfl),cond_true]
    have e:sEq (j3E s.2.1) eS=false:=by rw [jjs hb];exact jdV hb
    rw [e,cond_false,Z9d (by unfold LIM;omega),cond_true]
 ·rw [show (s.1==1)=false by simp [h1],cond_false,jrH h1,jrU]
  have hsm:=jrs s
  have hp:∀ (w:ByteArray) (K:Bool->Res),j5v w s K=K (!((!sEq w eS)&&j9m s.2.1)):=λw K=>by
   unfold j5v j9m bne
   rw [jkA]
   cases sEq w eS
   ·cases s.2.1.1==0
    ·rfl
    ·cases s.2.1.2.1==0<;>rfl
   ·rfl
  rw [hp,jsY _ _ hsm.2 (by omega)]
  cases jcF s
  ·rw [Bool.false_and,Bool.and_false,Bool.and_false];rfl
  ·rw [cond_true,Bool.true_and]
   cases sEq (j5W s).1 eS
   ·cases j9m s.2.1
    ·rfl
    ·cases (j5W s).2.all okN<;>rfl
   ·rfl
end Go.PI.G
namespace Go.PI.G
open Go Go.PI Go.Proofs
theorem jgV (s:ByteArray) (i j:Nat):Z9k s (i:Int) (j:Int)=Z2X (((Z19 s).take j).drop i):=by
 apply j0R
 unfold Z9k
 rw [show ((i:Int)).toNat=i by omega,show ((j:Int)).toNat=j by omega,jg1,j9S]
 exact λx hx=>j9h s x (List.mem_of_mem_take (List.mem_of_mem_drop hx))
theorem jp2 (s:ByteArray) (b:Int) (h:s.size<=1000000000) (K:List ByteArray->Int->Res):∀ (d i m from_:Nat) (out:List ByteArray),i+d=s.size->d<m->from_<=i->out.length<=i ->
  ∃ (out':List ByteArray) (f':Nat),Z10 (j32 s b) m (out,(from_:Int),(i:Int)) K=K out' (f':Int)/\f'<=s.size/\out'.length<=s.size/\out'++[Z9k s (f':Int) (s.size:Int)]=out++(j39 b (((Z19 s).take i).drop from_) ((Z19 s).drop i)).map Z2X:=by
 have hl:=j0d s
 intro d
 induction d with
 | zero=>
  intro i m from_ out hi hm hf ho
  obtain ⟨m,rfl⟩:∃ e,m=e+1:=⟨m-1,by omega⟩
  refine ⟨out,from_,?_,by omega,by omega,?_⟩
  ·rw [Z8u]
   show j31 s b _ _ _ _ _=_
   unfold j31
   dsimp only
   rw [decide_eq_false (show ¬ (i:Int)<nI s.size by unfold nI;omega),cond_false]
  ·rw [show i=s.size by omega,jgV,List.drop_eq_nil_of_le (by omega:(Z19 s).length<=s.size)]
   rfl
 | succ d ih=>
  intro i m from_ out hi hm hf ho
  obtain ⟨m,rfl⟩:∃ e,m=e+1:=⟨m-1,by omega⟩
  have hil:i<(Z19 s).length:=by omega
  have hun:Z10 (j32 s b) (m+1) (out,(from_:Int),(i:Int)) K=j31 s b out (from_:Int) (i:Int) (λo f i=>Z10 (j32 s b) m (o,f,i) K) K:=rfl
  rw [List.drop_eq_getElem_cons hil]
  by_cases hx:(Z19 s)[i]=b
  ·obtain ⟨o',f',e1,e2,e3,e4⟩:=ih (i+1) m (i+1) (out++[Z9k s (from_:Int) (i:Int)]) (by omega) (by omega) (by omega) (by rw [List.length_append,List.length_singleton];omega)
   refine ⟨o',f',?_,e2,e3,?_⟩
   ·rw [hun]
    unfold j31
    rw [Z9i (by omega),cond_true,j0i (by omega),cond_true,j23 s i hil,hx,beq_self_eq_true,cond_true,show Z6R (from_:Int) (i:Int) s.size=true from decide_eq_true (by omega),cond_true,Z9d (by unfold LIM;omega),cond_true,j03 (by omega)]
    rw [show ((i+1:Nat):Int)=(i:Int)+1 by omega] at e1
    exact e1
   ·rw [e4,jrB]
    simp only [j39]
    rw [if_pos hx,List.map_cons,jgV,List.append_assoc]
    rfl
  ·obtain ⟨o',f',e1,e2,e3,e4⟩:=ih (i+1) m from_ out (by omega) (by omega) (by omega) (by omega)
   refine ⟨o',f',?_,e2,e3,?_⟩
   ·rw [hun]
    unfold j31
    rw [Z9i (by omega),cond_true,j0i (by omega),cond_true,j23 s i hil,show ((Z19 s)[i]==b)=false by simp [hx],cond_false,j03 (by omega)]
    rw [show ((i+1:Nat):Int)=(i:Int)+1 by omega] at e1
    exact e1
   ·rw [e4,jr3 hf hil]
    simp only [j39]
    rw [if_neg hx]
theorem jjn (s:ByteArray) (b:Int) (h:s.size<=1000000000) (k:List ByteArray->Res):j6j s b k=k (j08 b s):=by
 obtain ⟨o',f',e1,e2,e3,e4⟩:=jp2 s b h (λout from_=>bif Z6R from_ (nI s.size) s.size then (bif lim (out.length+1) then k (out++[Z9k s from_ (nI s.size)]) else none) else none) s.size 0 Z0Y 0 [] (by omega) (Z1O (by omega)) (by omega) (by simp)
 unfold j6j jbQ
 refine Eq.trans e1 ?_
 have e4:o'++[Z9k s (f':Int) (s.size:Int)]=j08 b s:=e4
 unfold nI
 rw [show Z6R (f':Int) (s.size:Int) s.size=true from decide_eq_true (by omega),cond_true,Z9d (by unfold LIM;omega),cond_true,e4]
theorem j5K (s:ByteArray) (h:s.size<=1000000000) (k:List ByteArray->Res):j6X s k=k (j08 32 s):=by
 unfold j6X
 rw [jjn s 32 h]
theorem joQ (s:ByteArray) (b:Int) (h:s.size<=1000000000) (K:List ByteArray->Int->Res):∀ (d i m from_:Nat) (out:List ByteArray),i+d=s.size->d<m->from_<=i->out.length<=i ->
  ∃ (out':List ByteArray) (f':Nat),Z10 (j6b s b) m (out,(from_:Int),(i:Int)) K=K out' (f':Int)/\f'<=s.size/\out'.length<=s.size/\out'++[Z9k s (f':Int) (s.size:Int)]=out++(j39 b (((Z19 s).take i).drop from_) ((Z19 s).drop i)).map Z2X:=by
 have hl:=j0d s
 intro d
 induction d with
 | zero=>
  intro i m from_ out hi hm hf ho
  obtain ⟨m,rfl⟩:∃ e,m=e+1:=⟨m-1,by omega⟩
  refine ⟨out,from_,?_,by omega,by omega,?_⟩
  ·rw [Z8u]
   show j6a s b _ _ _ _ _=_
   unfold j6a
   dsimp only
   rw [decide_eq_false (show ¬ (i:Int)<nI s.size by unfold nI;omega),cond_false]
  ·rw [show i=s.size by omega,jgV,List.drop_eq_nil_of_le (by omega:(Z19 s).length<=s.size)]
   rfl
 | succ d ih=>
  intro i m from_ out hi hm hf ho
  obtain ⟨m,rfl⟩:∃ e,m=e+1:=⟨m-1,by omega⟩
  have hil:i<(Z19 s).length:=by omega
  have hun:Z10 (j6b s b) (m+1) (out,(from_:Int),(i:Int)) K=j6a s b out (from_:Int) (i:Int) (λo f i=>Z10 (j6b s b) m (o,f,i) K) K:=rfl
  rw [List.drop_eq_getElem_cons hil]
  by_cases hx:(Z19 s)[i]=b
  ·obtain ⟨o',f',e1,e2,e3,e4⟩:=ih (i+1) m (i+1) (out++[Z9k s (from_:Int) (i:Int)]) (by omega) (by omega) (by omega) (by rw [List.length_append,List.length_singleton];omega)
   refine ⟨o',f',?_,e2,e3,?_⟩
   ·rw [hun]
    unfold j6a
    rw [Z9i (by omega),cond_true,j0i (by omega),cond_true,j23 s i hil,hx,beq_self_eq_true,cond_true,show Z6R (from_:Int) (i:Int) s.size=true from decide_eq_true (by omega),cond_true,Z9d (by unfold LIM;omega),cond_true,j03 (by omega)]
    rw [show ((i+1:Nat):Int)=(i:Int)+1 by omega] at e1
    exact e1
   ·rw [e4,jrB]
    simp only [j39]
    rw [if_pos hx,List.map_cons,jgV,List.append_assoc]
    rfl
  ·obtain ⟨o',f',e1,e2,e3,e4⟩:=ih (i+1) m from_ out (by omega) (by omega) (by omega) (by omega)
   refine ⟨o',f',?_,e2,e3,?_⟩
   ·rw [hun]
    unfold j6a
    rw [Z9i (by omega),cond_true,j0i (by omega),cond_true,j23 s i hil,show ((Z19 s)[i]==b)=false by simp [hx],cond_false,j03 (by omega)]
    rw [show ((i+1:Nat):Int)=(i:Int)+1 by omega] at e1
    exact e1
   ·rw [e4,jr3 hf hil]
    simp only [j39]
    rw [if_neg hx]
theorem jiQ (s:ByteArray) (b:Int) (h:s.size<=1000000000) (k:List ByteArray->Res):jds s b k=k (j08 b s):=by
 obtain ⟨o',f',e1,e2,e3,e4⟩:=joQ s b h (λout from_=>bif Z6R from_ (nI s.size) s.size then (bif lim (out.length+1) then k (out++[Z9k s from_ (nI s.size)]) else none) else none) s.size 0 Z0Y 0 [] (by omega) (Z1O (by omega)) (by omega) (by simp)
 unfold jds jga
 refine Eq.trans e1 ?_
 have e4:o'++[Z9k s (f':Int) (s.size:Int)]=j08 b s:=e4
 unfold nI
 rw [show Z6R (f':Int) (s.size:Int) s.size=true from decide_eq_true (by omega),cond_true,Z9d (by unfold LIM;omega),cond_true,e4]
theorem jct (s:ByteArray) (h:s.size<=1000000000) (k:List ByteArray->Res):j6G s k=k (j08 32 s):=by
 unfold j6G
 rw [jiQ s 32 h]
end Go.PI.G
namespace Go.PI.G
open Go Go.PI Go.Proofs
noncomputable def j0X (s:ByteArray):Int×Bool:=by
 classical
 exact if h:∃ n,j1C n=true/\j04 n=s then (h.choose,true) else (0,false)
theorem jey {n:Int} (h:j1C n=true):j0X (j04 n)=(n,true):=by
 unfold j0X
 have hx:∃ m,j1C m=true/\j04 m=j04 n:=⟨n,h,rfl⟩
 rw [dif_pos hx]
 have:=hx.choose_spec
 rw [jt6 this.1 h this.2]
theorem j8e {s:ByteArray} (h:∀ n,j1C n=true->j04 n≠s):j0X s=(0,false):=by
 unfold j0X
 rw [dif_neg λ⟨n,h1,h2⟩=>h n h1 h2]
theorem jmD {s:ByteArray} (h1:1<=s.size) (r:Option Int) (hr:∀ n,j1C n=true->j04 n=s->r=some n) (k:Int->Bool->Res) :
  opR r (λn=>bif sNe (j04 n) s then k 0 false else k n true) (k 0 false)=k (j0X s).1 (j0X s).2:=by
 by_cases h:∃ n,j1C n=true/\j04 n=s
 ·obtain ⟨n,hn,rfl⟩:=h
  rw [hr n hn rfl,jey hn]
  show (bif sNe (j04 n) (j04 n) then k 0 false else k n true)=_
  rw [Z8M,cond_false]
 ·rw [j8e λn hn he=>h ⟨n,hn,he⟩]
  cases r with
  | none=>rfl
  | some n=>
   show (bif sNe (j04 n) s then k 0 false else k n true)=_
   cases hne:sNe (j04 n) s
   ·have he:=(jex _ _).1 hne
    cases hb:j1C n
    ·rw [jr0 hb] at he
     subst he
     exact absurd h1 (by show ¬ 1<=0;omega)
    ·exact absurd ⟨n,hb,he⟩ h
   ·rfl
theorem jra (s:ByteArray) (i:Nat) (hs:0<s.size) (h:i=0->(bt s 0==45)=false) (A B:Unit->Res):j4s s (i:Int) A B=A ():=by
 unfold j4s
 cases i with
 | zero=>
  rw [show (((0:Nat):Int)==0)=true from rfl,cond_true,Z9c (by omega) (by omega),cond_true,h rfl,cond_false]
 | succ i=>
  rw [show (((i+1:Nat):Int)==0)=false by simp;omega,cond_false]
theorem jkI (s:ByteArray) (h14:s.size<=14) (h1:1<=s.size) (a b:Nat) (hab:a<=s.size) (h0:a=0->(bt s 0==45)=false) (q:(Int->Res)×(Unit->Res)) :
  ∀ m,s.size<m->Z10 (j3z s) m (0,(a:Int)) q=exR (goL dgF ((Z19 s).drop a) 0) q.1 q.2:=by
 intro m hm
 have hl:=j0d s
 refine joO (Z19 s) (λi n=>(n,i)) dgF (λi n=>a<=i/\0<=n/\n<((10 ^ i:Nat):Int)) (step:=j3z s) q q.1 q.2 (λi n n' hi hp hf=> ?_) (λi n rec hi hp=> ?_) (λn rec hp=> ?_) (s.size-a) a m 0 (by omega) (by omega) ⟨Nat.le_refl _,by omega,?_⟩
 ·obtain ⟨hx,rfl⟩:=jqN hf
  have:=jgp (i:=i) (by omega) hp.2 hx
  exact ⟨by omega,this.2.2.2⟩
 ·show j2n s _ _ _ _ _=_
  unfold j2n
  dsimp only
  have hi':i<s.size:=by omega
  rw [Z9i hi',cond_true,jra s i (by omega) (λe=>h0 (by omega)),j0i hi',cond_true,cond_true,cond_true,j23 s i hi]
  by_cases x1:(Z19 s)[i]<48
  ·rw [decide_eq_true x1,cond_true]
   unfold dgF jlN
   rw [decide_eq_false (by omega)];rfl
  ·by_cases x2:(Z19 s)[i]>57
   ·rw [decide_eq_false x1,cond_false,decide_eq_true x2,cond_true]
    unfold dgF jlN
    rw [decide_eq_false (by omega)];rfl
   ·have:=jgp (i:=i) (by omega) hp.2 (x:=(Z19 s)[i]) (by omega)
    rw [decide_eq_false x1,cond_false,decide_eq_false x2,cond_false,this.1,this.2.1,this.2.2.1,j03 (n:=(i:Int)+1) (by omega),jnl (by omega)]
    rfl
 ·show j2n s _ _ _ _ _=_
  unfold j2n
  dsimp only
  rw [hl,Z9h,cond_false]
 ·have:0<10 ^ a:=Nat.pow_pos (by omega)
  omega
theorem jkC (s:ByteArray) (h14:s.size<=14) (a:Nat) (hab:a<=s.size) (q:(Int->Res)×(Unit->Res)) :
  ∀ m,s.size<m->Z10 (j4I s) m (0,(a:Int)) q=exR (goL dgF ((Z19 s).drop a) 0) q.1 q.2:=by
 intro m hm
 have hl:=j0d s
 refine joO (Z19 s) (λi n=>(n,i)) dgF (λi n=>0<=n/\n<((10 ^ i:Nat):Int)) (step:=j4I s) q q.1 q.2 (λi n n' hi hp hf=> ?_) (λi n rec hi hp=> ?_) (λn rec hp=> ?_) (s.size-a) a m 0 (by omega) (by omega) ⟨by omega,?_⟩
 ·obtain ⟨hx,rfl⟩:=jqN hf
  have:=jgp (i:=i) (by omega) hp hx
  exact this.2.2.2
 ·show j4H s _ _ _ _ _=_
  unfold j4H
  dsimp only
  have hi':i<s.size:=by omega
  rw [Z9i hi',cond_true,j0i hi',cond_true,cond_true,cond_true,j23 s i hi]
  by_cases x1:(Z19 s)[i]<48
  ·rw [decide_eq_true x1,cond_true]
   unfold dgF jlN
   rw [decide_eq_false (by omega)];rfl
  ·by_cases x2:(Z19 s)[i]>57
   ·rw [decide_eq_false x1,cond_false,decide_eq_true x2,cond_true]
    unfold dgF jlN
    rw [decide_eq_false (by omega)];rfl
   ·have:=jgp (i:=i) (by omega) hp (x:=(Z19 s)[i]) (by omega)
    rw [decide_eq_false x1,cond_false,decide_eq_false x2,cond_false,Int.mul_comm 10 n,this.1,this.2.1,this.2.2.1,j03 (n:=(i:Int)+1) (by omega),jnl (by omega)]
    rfl
 ·show j4H s _ _ _ _ _=_
  unfold j4H
  dsimp only
  rw [hl,Z9h,cond_false]
 ·have:0<10 ^ a:=Nat.pow_pos (by omega)
  omega
theorem jlM:(l:List Int)->(a n:Int)->(i:Nat)->i+l.length<=14->0<=a/\a<((10 ^ i:Nat):Int)->goL dgF l a= .ok n->0<=n/\n<1000000000000000
 | [],a,n,i,hi,ha,h=>by
  simp only [goL,Except.ok.injEq] at h
  subst h
  have:10 ^ i<=10 ^ 14:=Nat.pow_le_pow_right (by omega) (by simpa using hi)
  omega
 | x::l,a,n,i,hi,ha,h=>by
  simp only [goL] at h
  simp only [List.length_cons] at hi
  cases hf:dgF a x with
  | error e=>rw [hf] at h;cases h
  | ok a'=>
   rw [hf] at h
   obtain ⟨hx,rfl⟩:=jqN hf
   have:=jgp (i:=i) (by omega) ha hx
   exact jlM l _ n (i+1) (by omega) this.2.2.2 h
theorem jfY (s:ByteArray) (k:Int->Bool->Res):j3p s k=k (j0X s).1 (j0X s).2:=by
 have hlen:=j0d s
 have hsz:∀ n,j1C n=true->j04 n=s->1<=s.size/\s.size<=14:=λn hn he=>by
  obtain ⟨x,xs,h1,_⟩:=j8c hn
  have h2:=j2X n
  rw [he] at h1 h2
  rw [h1] at hlen
  simp only [List.length_cons] at hlen
  omega
 unfold j3p
 by_cases h1:1<=s.size
 ·rw [decide_eq_false (show ¬ nI s.size<1 by unfold nI;omega),cond_false]
  by_cases h14:s.size<=14
  ·rw [decide_eq_false (show ¬ nI s.size>14 by unfold nI;omega),cond_false]
   obtain ⟨x,xs,hx⟩:∃ x xs,Z19 s=x::xs:=by
    cases h:Z19 s with
    | nil=>rw [h] at hlen;simp at hlen;omega
    | cons x xs=>exact ⟨x,xs,rfl⟩
   have hb:=jda hx
   refine Eq.trans ?_ (jmD h1 (rdN (Z19 s)) (λn hn he=>by rw [<-he];exact jgz hn) k)
   have hrd:rdN (Z19 s)=bif x==45 then (match goL dgF xs 0 with | .ok n=>some (-n) | .error _=>none) else match goL dgF (x::xs) 0 with | .ok n=>some n | .error _=>none:=by rw [hx];rfl
   rw [hrd]
   unfold jcR j9P
   rw [Z9c (by omega) (by omega),hb]
   have hxs:xs.length<=13:=by rw [hx] at hlen;simp only [List.length_cons] at hlen;omega
   cases hc:x==45
   ·have:=jkI s h14 h1 0 0 (by omega) (λ_=>by rw [hb];exact hc) ((λ(n_:Int)=>bif true then bif false then j0U (Z8g (0-n_)) (λ(r:ByteArray)=>bif sNe r s then k 0 false else k (Z8g (0-n_)) true) else j0U n_ (λ(r:ByteArray)=>bif sNe r s then k 0 false else k n_ true) else none),λ(_:Unit)=>k 0 false) Z0Y (Z1O (by omega))
    refine Eq.trans this ?_
    rw [List.drop_zero,hx,cond_false]
    cases goL dgF (x::xs) 0 with
    | error e=>rfl
    | ok n=>
     simp only [exR,cond_true,cond_false]
     rw [jcP]
     rfl
   ·have h1':=jkI s h14 h1 1 0 (by omega) (λe=>by omega) ((λ(n_:Int)=>bif true then bif true then j0U (Z8g (0-n_)) (λ(r:ByteArray)=>bif sNe r s then k 0 false else k (Z8g (0-n_)) true) else j0U n_ (λ(r:ByteArray)=>bif sNe r s then k 0 false else k n_ true) else none),λ(_:Unit)=>k 0 false)
    obtain ⟨m,hm⟩:∃ m,Z0Y=m+1:=jkS
    have hmm:s.size<m:=by have:=Z1O (n:=100) (by omega);omega
    have h2:=h1' m hmm
    rw [hm,Z8u]
    have e:∀ (rec:Int×Int->Res) (q:(Int->Res)×(Unit->Res)),j3z s (0,0) rec q=rec (0,1):=λrec q=>by
     show j2n s _ _ _ _ _=_
     unfold j2n j4s
     dsimp only
     rw [decide_eq_true (show (0:Int)<nI s.size by unfold nI;omega),cond_true,show ((0:Int)==0)=true from rfl,cond_true,Z9c (by omega) (by omega),cond_true,hb,hc,cond_true]
     rfl
    refine (e _ _).trans ?_
    refine Eq.trans h2 ?_
    rw [hx,List.drop_one,List.tail_cons,cond_true]
    cases hg:goL dgF xs 0 with
    | error e=>rfl
    | ok n=>
     have hr:=jlM xs 0 n 0 (by omega) (by omega) hg
     simp only [exR,cond_true]
     rw [jcP,j03 (by omega),show (0:Int)-n= -n by omega]
     rfl
  ·rw [decide_eq_true (show nI s.size>14 by unfold nI;omega),cond_true,j8e λn hn he=>absurd (hsz n hn he).2 h14]
 ·rw [decide_eq_true (show nI s.size<1 by unfold nI;omega),cond_true,j8e λn hn he=>absurd (hsz n hn he).1 h1]
theorem jiR (s:ByteArray) (hmax:s.size<=LIM) (k:Int->Bool->Res):j3g s k=k (j0X s).1 (j0X s).2:=by
 have hlen:=j0d s
 unfold j3g j9D
 unfold LIM at hmax
 by_cases h1:1<=s.size
 ·rw [decide_eq_true (show nI s.size>0 by unfold nI;omega),cond_true,Z9c (by omega) (by omega),cond_true]
  obtain ⟨x,xs,hx⟩:∃ x xs,Z19 s=x::xs:=by
   cases h:Z19 s with
   | nil=>rw [h] at hlen;simp at hlen;omega
   | cons x xs=>exact ⟨x,xs,rfl⟩
  have hb:=jda hx
  have hxs:xs.length+1=s.size:=by rw [hx] at hlen;simpa using hlen
  rw [hb]
  have hd:∀ n:Nat,(j5a n).size=(Z19 (j5a n)).length:=λn=>(j0d _).symm
  cases hc:x==45
  ·rw [cond_false]
   dsimp only
   rw [j1P,j03 (by unfold nI;omega)]
   by_cases h13:s.size<=13
   ·rw [decide_eq_true (show (1:Int)<=nI s.size-0/\nI s.size-0<=13 by unfold nI;omega),Bool.not_true,cond_false]
    refine Eq.trans ?_ (jmD h1 (rdN (Z19 s)) (λn hn he=>by rw [<-he];exact jgz hn) k)
    have hrd:rdN (Z19 s)=bif x==45 then (match goL dgF xs 0 with | .ok n=>some (-n) | .error _=>none) else match goL dgF (x::xs) 0 with | .ok n=>some n | .error _=>none:=by rw [hx];rfl
    rw [hrd]
    unfold j9C j6B
    have:=jkC s (by omega) 0 (by omega) ((λ(n_:Int)=>bif ((0:Int)==1) then j0T (Z8g (0-n_)) (λ(r1:ByteArray)=>bif sNe r1 s then k 0 false else k (Z8g (0-n_)) true) else j0T n_ (λ(r1:ByteArray)=>bif sNe r1 s then k 0 false else k n_ true)),λ(_:Unit)=>k 0 false) Z0Y (Z1O (by omega))
    refine Eq.trans this ?_
    rw [List.drop_zero,hx]
    rw [hc,cond_false]
    cases goL dgF (x::xs) 0 with
    | error e=>rfl
    | ok n=>
     simp only [exR]
     rw [show ((0:Int)==1)=false from rfl,cond_false,jcs]
     rfl
   ·rw [decide_eq_false (show ¬ ((1:Int)<=nI s.size-0/\nI s.size-0<=13) by unfold nI;omega),Bool.not_false,cond_true,j8e λn hn he=> ?_]
    rcases jcE hn with ⟨h0,e⟩ | ⟨h0,e⟩
    ·rw [he,hx] at e
     have:=(List.cons.inj e).1
     simp [this] at hc
    ·have hq:=congrArg List.length e
     rw [he,<-hd,hlen] at hq
     unfold j1C at hn
     have:=j75 (n:=n.toNat) (by have:=of_decide_eq_true hn;omega)
     omega
  ·have ex:x=45:=by simpa using hc
   rw [cond_true]
   dsimp only
   rw [j1P,j03 (by unfold nI;omega)]
   by_cases h13:1<=xs.length/\xs.length<=13
   ·rw [decide_eq_true (show (1:Int)<=nI s.size-1/\nI s.size-1<=13 by unfold nI;omega),Bool.not_true,cond_false]
    refine Eq.trans ?_ (jmD h1 (rdN (Z19 s)) (λn hn he=>by rw [<-he];exact jgz hn) k)
    have hrd:rdN (Z19 s)=bif x==45 then (match goL dgF xs 0 with | .ok n=>some (-n) | .error _=>none) else match goL dgF (x::xs) 0 with | .ok n=>some n | .error _=>none:=by rw [hx];rfl
    rw [hrd]
    unfold j9C j6B
    have:=jkC s (by omega) 1 (by omega) ((λ(n_:Int)=>bif ((1:Int)==1) then j0T (Z8g (0-n_)) (λ(r1:ByteArray)=>bif sNe r1 s then k 0 false else k (Z8g (0-n_)) true) else j0T n_ (λ(r1:ByteArray)=>bif sNe r1 s then k 0 false else k n_ true)),λ(_:Unit)=>k 0 false) Z0Y (Z1O (by omega))
    refine Eq.trans this ?_
    rw [List.drop_one,hx,List.tail_cons]
    rw [hc,cond_true]
    cases hg:goL dgF xs 0 with
    | error e=>rfl
    | ok n=>
     have hr:=jlM xs 0 n 0 (by omega) (by omega) hg
     simp only [exR]
     rw [show ((1:Int)==1)=true from rfl,cond_true,jcs,j03 (by omega),show (0:Int)-n= -n by omega]
     rfl
   ·rw [decide_eq_false (show ¬ ((1:Int)<=nI s.size-1/\nI s.size-1<=13) by unfold nI;omega),Bool.not_false,cond_true,j8e λn hn he=> ?_]
    rcases jcE hn with ⟨h0,e⟩ | ⟨h0,e⟩
    ·rw [he,hx] at e
     have e2:=(List.cons.inj e).2
     have hq:=congrArg List.length e2
     rw [<-hd] at hq
     unfold j1C at hn
     have:=j75 (n:=(-n).toNat) (by have:=of_decide_eq_true hn;omega)
     obtain ⟨_,y,ys,g,_⟩:=jgq (-n).toNat
     rw [g] at e2
     rw [e2] at h13 hq
     simp only [List.length_cons] at h13 hq
     omega
    ·obtain ⟨_,y,ys,g,g2⟩:=jgq n.toNat
     rw [he,hx,g] at e
     have:=(List.cons.inj e).1
     omega
 ·rw [decide_eq_false (show ¬ nI s.size>0 by unfold nI;omega),cond_false]
  dsimp only
  rw [j1P,j03 (by unfold nI;omega),decide_eq_false (show ¬ ((1:Int)<=nI s.size-0/\nI s.size-0<=13) by unfold nI;omega),Bool.not_false,cond_true,j8e λn hn he=> ?_]
  obtain ⟨x,xs,h2,_⟩:=j8c hn
  rw [he] at h2
  rw [h2] at hlen
  simp only [List.length_cons] at hlen
  omega
theorem js3 (s:ByteArray) (hs:s.size<=1048576) (k:Int->Bool->Res):j3p s k=k (j0X s).1 (j0X s).2:=jfY s k
theorem jrS (s:ByteArray) (hs:s.size<=1048576) (k:Int->Bool->Res):j3g s k=k (j0X s).1 (j0X s).2:=jiR s (by unfold LIM;omega) k
end Go.PI.G
namespace Go.PI.G
open Go Go.PI Go.Proofs
def hx (b:Int):Int:=Z8b (λx=>x==b) (Z19 j0k)
theorem jtF:∀ b:Fin 256,((hx (h1 ((b.val:Nat):Int))==(((b.val / 16:Nat)):Int))&&(hx (h2 ((b.val:Nat):Int))==(((b.val % 16:Nat)):Int)))=true:=by decide +kernel
theorem jq8 {b:Int} (h:0<=b/\b<256):hx (h1 b)=b / 16/\hx (h2 b)=b % 16:=by
 have:=jtF ⟨b.toNat,by omega⟩
 dsimp only at this
 simp only [Bool.and_eq_true,beq_iff_eq] at this
 rw [show ((b.toNat:Nat):Int)=b by omega] at this
 obtain ⟨q1,q2⟩:=this
 have e1:((b.toNat / 16:Nat):Int)=b / 16:=by omega
 have e2:((b.toNat % 16:Nat):Int)=b % 16:=by omega
 exact ⟨q1.trans e1,q2.trans e2⟩
theorem jnA (b:Int) (k:Int->Res):j9c b k=k (hx b):=by
 unfold j9c jdt hx
 have e:(Z19 j0k).length=16:=rfl
 refine Z8o (Z19 j0k) (λi=>i) (λx=>x==b) (step:=j8p b) ((λ(_:Unit)=>k (-1)),(λ(t:Int)=>k t)) k (by rw [e];unfold LIM;omega) (λi rec hi=> ?_) (λrec=> ?_)
 ·show j5A _ _ _ _ _=_
  unfold j5A
  rw [decide_eq_true (show (i:Int)<16 by omega),cond_true,Z9c (by omega) (by omega),cond_true,j23 _ i hi,j03 (n:=(i:Int)+1) (by omega)]
 ·show j5A _ _ _ _ _=_
  unfold j5A
  rw [e];rfl
theorem jkF (b:Int) (k:Int->Res):j88 b k=k (if hx b<0 then 0 else hx b):=by
 unfold j88 jcU hx
 have e:(Z19 j0k).length=16:=rfl
 refine Z8o (Z19 j0k) (λi=>i) (λx=>x==b) (step:=j7q b) ((λ(_:Unit)=>k 0),(λ(t:Int)=>k t)) (λr=>k (if r<0 then 0 else r)) (by rw [e];unfold LIM;omega) (λi rec hi=> ?_) (λrec=> ?_)
 ·show j4Z _ _ _ _ _=_
  unfold j4Z j7e
  rw [decide_eq_true (show (i:Int)<16 by omega),cond_true,Int.tmod_eq_emod_of_nonneg (by omega),show (i:Int) % 16=(i:Int) by omega,Z9c (by omega) (by omega),cond_true,j23 _ i hi,j03 (n:=(i:Int)+1) (by omega),if_neg (by omega)]
 ·show j4Z _ _ _ _ _=_
  unfold j4Z
  rw [e];rfl
theorem jrP (b:Int):1<=(gB b).length:=by unfold gB;cases pB b<;>simp
theorem jsv {y:Int} (h:0<=y/\y<256):wu8 (Z8g (Z8g (16 * (if hx (h1 y)<0 then 0 else hx (h1 y)))+(if hx (h2 y)<0 then 0 else hx (h2 y))))=y:=by
 obtain ⟨e1,e2⟩:=jq8 h
 rw [e1,e2,if_neg (by omega),if_neg (by omega),j03 (n:=16 * (y / 16)) (by omega),j03 (by omega),jg4 (by omega)]
 omega
theorem jrZ {y:Int} (h:0<=y/\y<256):wu8 (Z8g (Z8g (16 * hx (h1 y))+hx (h2 y)))=y:=by
 obtain ⟨e1,e2⟩:=jq8 h
 rw [e1,e2,j03 (n:=16 * (y / 16)) (by omega),j03 (by omega),jg4 (by omega)]
 omega
theorem jtS (s:ByteArray) (hs:2<=s.size/\s.size<=1000):∀ (d i m:Nat) (b:List Int),s.size-i<=d->i<=s.size->d<m->b.length<=i->∃ r,(∀ K,Z10 (j3A s) m (b,(i:Int)) K=K r)/\∀ ys,isB ys->(Z19 s).drop i=esc ys++[39]->r=b++ys:=by
 have hl:=j0d s
 intro d
 induction d with
 | zero=>
  intro i m b hd hi hm hb
  obtain ⟨m,rfl⟩:∃ e,m=e+1:=⟨m-1,by omega⟩
  refine ⟨b,λK=> ?_,λys _ h=> ?_⟩
  ·rw [Z8u]
   show j1O s _ _ _ _=_
   unfold j1O
   dsimp only
   rw [j03 (n:=nI s.size-1) (by unfold nI;omega),decide_eq_false (show ¬ (i:Int)<nI s.size-1 by unfold nI;omega),cond_false]
  ·have:=congrArg List.length h
   rw [List.length_drop,List.length_append,List.length_singleton] at this
   omega
 | succ d ih=>
  intro i m b hd hi hm hb
  obtain ⟨m,rfl⟩:∃ e,m=e+1:=⟨m-1,by omega⟩
  have hun:∀ K,Z10 (j3A s) (m+1) (b,(i:Int)) K=j1O s b (i:Int) (λb i=>Z10 (j3A s) m (b,i) K) K:=λK=>rfl
  by_cases c1:i<s.size-1
  ·have hil:i<(Z19 s).length:=by omega
   have e1:Z8g (nI s.size-1)=nI s.size-1:=j03 (by unfold nI;omega)
   have e2:decide ((i:Int)<nI s.size-1)=true:=decide_eq_true (by unfold nI;omega)
   have e3:inb (i:Int) s.size=true:=Z9c (by omega) (by omega)
   have hcase:∀ ys,isB ys->(Z19 s).drop i=esc ys++[39]->∃ y ys',ys=y::ys'/\(0<=y/\y<256)/\isB ys'/\(Z19 s).drop i=gB y++(esc ys'++[39]):=λys hB h=>by
    cases ys with
    | nil=>
     have:=congrArg List.length h
     rw [List.length_drop] at this
     simp [esc] at this
     omega
    | cons y ys'=>
     refine ⟨y,ys',rfl,hB y (by simp),λz hz=>hB z (List.mem_cons_of_mem _ hz),?_⟩
     rw [h]
     simp [esc]
   by_cases h37:(Z19 s)[i]=37
   ·by_cases c2:i+2<s.size
    ·obtain ⟨r,r1,r2⟩:=ih (i+3) m (b++[wu8 (Z8g (Z8g (16 * (if hx (bt s ((i+1:Nat):Int))<0 then 0 else hx (bt s ((i+1:Nat):Int))))+(if hx (bt s ((i+2:Nat):Int))<0 then 0 else hx (bt s ((i+2:Nat):Int)))))]) (by omega) (by omega) (by omega) (by rw [List.length_append,List.length_singleton];omega)
     refine ⟨r,λK=> ?_,λys hB h=> ?_⟩
     ·rw [hun]
      unfold j1O
      rw [e1,e2,cond_true,e3,cond_true,j23 s i hil,h37,show ((37:Int)==37)=true from rfl,cond_true,j03 (n:=(i:Int)+2) (by omega),decide_eq_true (show (i:Int)+2<nI s.size by unfold nI;omega),cond_true,j03 (n:=(i:Int)+1) (by omega),Z9c (i:=(i:Int)+1) (by omega) (by omega),cond_true,Z9c (i:=(i:Int)+2) (by omega) (by omega),cond_true,jkF,jkF,Z9d (by unfold LIM;omega),cond_true,j03 (n:=(i:Int)+2+1) (by omega)]
      have:=r1 K
      rw [show ((i+3:Nat):Int)=(i:Int)+2+1 by omega,show ((i+1:Nat):Int)=(i:Int)+1 by omega,show ((i+2:Nat):Int)=(i:Int)+2 by omega] at this
      exact this
     ·obtain ⟨y,ys',rfl,hy,hB',h⟩:=hcase ys hB h
      cases hp:pB y
      ·unfold gB at h
       rw [hp,cond_false] at h
       obtain ⟨_,_,g1⟩:=j1S h
       obtain ⟨i1,g2,g3⟩:=j1S g1
       obtain ⟨i2,g4,g5⟩:=j1S g3
       have f1:bt s ((i+1:Nat):Int)=h1 y:=by rw [j23 s (i+1) i1,g2]
       have f2:bt s ((i+2:Nat):Int)=h2 y:=by rw [j23 s (i+2) i2];exact g4
       rw [r2 ys' hB' g5,f1,f2,jsv hy,List.append_assoc]
       rfl
      ·unfold gB at h
       rw [hp,cond_true] at h
       obtain ⟨_,g1,_⟩:=j1S h
       exact absurd (g1.symm.trans h37) (jew hp).2.2
    ·obtain ⟨r,r1,r2⟩:=ih (i+1) m (b++[(Z19 s)[i]]) (by omega) (by omega) (by omega) (by rw [List.length_append,List.length_singleton];omega)
     refine ⟨r,λK=> ?_,λys hB h=> ?_⟩
     ·rw [hun]
      unfold j1O
      rw [e1,e2,cond_true,e3,cond_true,j23 s i hil,h37,show ((37:Int)==37)=true from rfl,cond_true,j03 (n:=(i:Int)+2) (by omega),decide_eq_false (show ¬ (i:Int)+2<nI s.size by unfold nI;omega),cond_false,cond_true,Z9d (by unfold LIM;omega),cond_true,j03 (n:=(i:Int)+1) (by omega)]
      have:=r1 K
      rw [h37,show ((i+1:Nat):Int)=(i:Int)+1 by omega] at this
      exact this
     ·obtain ⟨y,ys',rfl,hy,hB',h⟩:=hcase ys hB h
      cases hp:pB y
      ·have:=congrArg List.length h
       unfold gB at this
       rw [hp,cond_false,List.length_drop] at this
       simp at this
       omega
      ·unfold gB at h
       rw [hp,cond_true] at h
       obtain ⟨_,g1,_⟩:=j1S h
       exact absurd (g1.symm.trans h37) (jew hp).2.2
   ·obtain ⟨r,r1,r2⟩:=ih (i+1) m (b++[(Z19 s)[i]]) (by omega) (by omega) (by omega) (by rw [List.length_append,List.length_singleton];omega)
    refine ⟨r,λK=> ?_,λys hB h=> ?_⟩
    ·rw [hun]
     unfold j1O
     rw [e1,e2,cond_true,e3,cond_true,j23 s i hil,show ((Z19 s)[i]==37)=false by simp [h37],cond_false,cond_true,Z9d (by unfold LIM;omega),cond_true,j03 (n:=(i:Int)+1) (by omega)]
     have:=r1 K
     rw [show ((i+1:Nat):Int)=(i:Int)+1 by omega] at this
     exact this
    ·obtain ⟨y,ys',rfl,hy,hB',h⟩:=hcase ys hB h
     cases hp:pB y
     ·unfold gB at h
      rw [hp,cond_false] at h
      obtain ⟨_,g1,_⟩:=j1S h
      exact absurd g1 h37
     ·unfold gB at h
      rw [hp,cond_true] at h
      obtain ⟨_,g1,g2⟩:=j1S h
      rw [r2 ys' hB' g2,g1,List.append_assoc]
      rfl
  ·refine ⟨b,λK=> ?_,λys _ h=> ?_⟩
   ·rw [hun]
    unfold j1O
    rw [j03 (n:=nI s.size-1) (by unfold nI;omega),decide_eq_false (show ¬ (i:Int)<nI s.size-1 by unfold nI;omega),cond_false]
   ·cases ys with
    | nil=>simp
    | cons y ys'=>
     have:=congrArg List.length h
     have hg:=jrP y
     rw [List.length_drop] at this
     simp [esc] at this
     omega
theorem jtP (s:ByteArray) (hs:s.size<=1000000000):∀ (d i m:Nat) (b:List Int),s.size-i<=d->i<=s.size->d<m->b.length<=i->∃ r,(∀ q,Z10 (j29 s) m (b,(i:Int)) q=opR r q.1 (q.2 ()))/\∀ ys,isB ys->(Z19 s).drop i=esc ys->r=some (b++ys):=by
 have hl:=j0d s
 intro d
 induction d with
 | zero=>
  intro i m b hd hi hm hb
  obtain ⟨m,rfl⟩:∃ e,m=e+1:=⟨m-1,by omega⟩
  refine ⟨some b,λq=> ?_,λys _ h=> ?_⟩
  ·rw [Z8u]
   show j28 s _ _ _ _ _=_
   unfold j28
   dsimp only
   rw [decide_eq_false (show ¬ (i:Int)<nI s.size by unfold nI;omega),cond_false]
   rfl
  ·cases ys with
   | nil=>simp
   | cons y ys'=>
    have:=congrArg List.length h
    have hg:=jrP y
    rw [List.length_drop] at this
    simp [esc] at this
    omega
 | succ d ih=>
  intro i m b hd hi hm hb
  obtain ⟨m,rfl⟩:∃ e,m=e+1:=⟨m-1,by omega⟩
  have hun:∀ q,Z10 (j29 s) (m+1) (b,(i:Int)) q=j28 s b (i:Int) (λb i=>Z10 (j29 s) m (b,i) q) q.1 q.2:=λq=>rfl
  by_cases c1:i<s.size
  ·have hil:i<(Z19 s).length:=by omega
   have e2:decide ((i:Int)<nI s.size)=true:=decide_eq_true (by unfold nI;omega)
   have e3:inb (i:Int) s.size=true:=Z9c (by omega) (by omega)
   have hcase:∀ ys,isB ys->(Z19 s).drop i=esc ys->∃ y ys',ys=y::ys'/\(0<=y/\y<256)/\isB ys'/\(Z19 s).drop i=gB y++esc ys':=λys hB h=>by
    cases ys with
    | nil=>
     have:=congrArg List.length h
     rw [List.length_drop] at this
     simp [esc] at this
     omega
    | cons y ys'=>
     refine ⟨y,ys',rfl,hB y (by simp),λz hz=>hB z (List.mem_cons_of_mem _ hz),?_⟩
     rw [h]
     simp [esc]
   by_cases h37:(Z19 s)[i]=37
   ·by_cases c2:i+2<s.size
    ·have hu2:∀ q,Z10 (j29 s) (m+1) (b,(i:Int)) q=bif decide (hx (bt s ((i+1:Nat):Int))<0) then q.2 () else bif decide (hx (bt s ((i+2:Nat):Int))<0) then q.2 () else Z10 (j29 s) m (b++[wu8 (Z8g (Z8g (16 * hx (bt s ((i+1:Nat):Int)))+hx (bt s ((i+2:Nat):Int))))],((i+3:Nat):Int)) q:=λq=>by
      rw [hun]
      unfold j28
      rw [e2,cond_true,e3,cond_true,j23 s i hil,h37,show ((37:Int) != 37)=false from rfl,cond_false,j03 (n:=(i:Int)+2) (by omega),decide_eq_false (show ¬ (i:Int)+2>=nI s.size by unfold nI;omega),cond_false,j03 (n:=(i:Int)+1) (by omega),Z9c (i:=(i:Int)+1) (by omega) (by omega),cond_true,Z9c (i:=(i:Int)+2) (by omega) (by omega),cond_true,jnA,jnA,Z9d (by unfold LIM;omega),cond_true,j03 (n:=(i:Int)+2+1) (by omega),show ((i+3:Nat):Int)=(i:Int)+2+1 by omega,show ((i+1:Nat):Int)=(i:Int)+1 by omega,show ((i+2:Nat):Int)=(i:Int)+2 by omega]
     by_cases n1:hx (bt s ((i+1:Nat):Int))<0\/hx (bt s ((i+2:Nat):Int))<0
     ·refine ⟨none,λq=> ?_,λys hB h=> ?_⟩
      ·rw [hu2]
       rcases n1 with n1 | n1
       ·rw [decide_eq_true n1,cond_true];rfl
       ·rw [decide_eq_true n1,cond_true]
        cases decide (hx (bt s ((i+1:Nat):Int))<0)<;>rfl
      ·obtain ⟨y,ys',rfl,hy,hB',h⟩:=hcase ys hB h
       cases hp:pB y
       ·unfold gB at h
        rw [hp,cond_false] at h
        obtain ⟨_,_,g1⟩:=j1S h
        obtain ⟨i1,g2,g3⟩:=j1S g1
        obtain ⟨i2,g4,g5⟩:=j1S g3
        have f1:bt s ((i+1:Nat):Int)=h1 y:=by rw [j23 s (i+1) i1,g2]
        have f2:bt s ((i+2:Nat):Int)=h2 y:=by rw [j23 s (i+2) i2];exact g4
        rw [f1,f2,(jq8 hy).1,(jq8 hy).2] at n1
        omega
       ·unfold gB at h
        rw [hp,cond_true] at h
        obtain ⟨_,g1,_⟩:=j1S h
        exact absurd (g1.symm.trans h37) (jew hp).2.2
     ·obtain ⟨r,r1,r2⟩:=ih (i+3) m (b++[wu8 (Z8g (Z8g (16 * hx (bt s ((i+1:Nat):Int)))+hx (bt s ((i+2:Nat):Int))))]) (by omega) (by omega) (by omega) (by rw [List.length_append,List.length_singleton];omega)
      refine ⟨r,λq=> ?_,λys hB h=> ?_⟩
      ·rw [hu2,decide_eq_false (by omega),cond_false,decide_eq_false (by omega),cond_false]
       exact r1 q
      ·obtain ⟨y,ys',rfl,hy,hB',h⟩:=hcase ys hB h
       cases hp:pB y
       ·unfold gB at h
        rw [hp,cond_false] at h
        obtain ⟨_,_,g1⟩:=j1S h
        obtain ⟨i1,g2,g3⟩:=j1S g1
        obtain ⟨i2,g4,g5⟩:=j1S g3
        have f1:bt s ((i+1:Nat):Int)=h1 y:=by rw [j23 s (i+1) i1,g2]
        have f2:bt s ((i+2:Nat):Int)=h2 y:=by rw [j23 s (i+2) i2];exact g4
        rw [r2 ys' hB' g5,f1,f2,jrZ hy,List.append_assoc]
        rfl
       ·unfold gB at h
        rw [hp,cond_true] at h
        obtain ⟨_,g1,_⟩:=j1S h
        exact absurd (g1.symm.trans h37) (jew hp).2.2
    ·refine ⟨none,λq=> ?_,λys hB h=> ?_⟩
     ·rw [hun]
      unfold j28
      rw [e2,cond_true,e3,cond_true,j23 s i hil,h37,show ((37:Int) != 37)=false from rfl,cond_false,j03 (n:=(i:Int)+2) (by omega),decide_eq_true (show (i:Int)+2>=nI s.size by unfold nI;omega),cond_true]
      rfl
     ·obtain ⟨y,ys',rfl,hy,hB',h⟩:=hcase ys hB h
      cases hp:pB y
      ·have:=congrArg List.length h
       unfold gB at this
       rw [hp,cond_false,List.length_drop] at this
       simp at this
       omega
      ·unfold gB at h
       rw [hp,cond_true] at h
       obtain ⟨_,g1,_⟩:=j1S h
       exact absurd (g1.symm.trans h37) (jew hp).2.2
   ·obtain ⟨r,r1,r2⟩:=ih (i+1) m (b++[(Z19 s)[i]]) (by omega) (by omega) (by omega) (by rw [List.length_append,List.length_singleton];omega)
    refine ⟨r,λq=> ?_,λys hB h=> ?_⟩
    ·rw [hun]
     unfold j28
     rw [e2,cond_true,e3,cond_true,j23 s i hil,show ((Z19 s)[i] != 37)=true by simp [h37],cond_true,cond_true,Z9d (by unfold LIM;omega),cond_true,j03 (n:=(i:Int)+1) (by omega)]
     have:=r1 q
     rw [show ((i+1:Nat):Int)=(i:Int)+1 by omega] at this
     exact this
    ·obtain ⟨y,ys',rfl,hy,hB',h⟩:=hcase ys hB h
     cases hp:pB y
     ·unfold gB at h
      rw [hp,cond_false] at h
      obtain ⟨_,g1,_⟩:=j1S h
      exact absurd g1 h37
     ·unfold gB at h
      rw [hp,cond_true] at h
      obtain ⟨_,g1,g2⟩:=j1S h
      rw [r2 ys' hB' g2,g1,List.append_assoc]
      rfl
  ·refine ⟨some b,λq=> ?_,λys _ h=> ?_⟩
   ·rw [hun]
    unfold j28
    rw [decide_eq_false (show ¬ (i:Int)<nI s.size by unfold nI;omega),cond_false]
    rfl
   ·cases ys with
    | nil=>simp
    | cons y ys'=>
     have:=congrArg List.length h
     have hg:=jrP y
     rw [List.length_drop] at this
     simp [esc] at this
     omega
end Go.PI.G
