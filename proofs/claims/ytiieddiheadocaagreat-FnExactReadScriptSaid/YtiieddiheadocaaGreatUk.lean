/-
  Program's code interpreted over typed values; printed texts; plain laws. No conditions.
-/
import Derived.Test.YtiieddiheadocaaGreatUd
import Derived.Test.YtiieddiheadocaaGreatUj
import Derived.Test.YtiieddiheadocaaGreatUf
set_option linter.unusedVariables false
set_option linter.unusedSimpArgs false
namespace Go.PI.G
open Go Go.PI Go.Proofs
theorem jdS (l:List ByteArray) (k:Bool->Res):j3L l [] k=k (l.length==0):=by
 unfold j3L
 rw [jrV]
 cases l with
 | nil=>
  obtain ⟨m,hm⟩:=jkS
  rw [show (!(([]:List ByteArray).length==([]:List ByteArray).length))=false from rfl,cond_false]
  unfold j7b
  rw [hm,Z8u]
  rfl
 | cons x l=>rfl
theorem jfp (l:List C) (k:Bool->Res):j2D l [] k=k (l.length==0):=by
 unfold j2D
 rw [jrV]
 cases l with
 | nil=>
  obtain ⟨m,hm⟩:=jkS
  rw [show (!(([]:List C).length==([]:List C).length))=false from rfl,cond_false]
  unfold j5V
  rw [hm,Z8u]
  rfl
 | cons x l=>rfl
theorem jrN (l:List C) (h:l.length<=LIM) (k:Bool->Res):j2D l l k=k true:=by
 unfold j2D j5V
 rw [jrV,beq_self_eq_true,Bool.not_true,cond_false]
 have:=Z8y l (λi=>i) (λ_=>false) (step:=j4r l l (nI l.length)) ((λ(_:Unit)=>k true),(λ(_:Unit)=>k false)) (k true) (k false) h (λi rec hi=>by
  show j2Z _ _ _ _ _ _ _=_
  unfold j2Z
  unfold LIM at h
  have hb:∀ x:Bool,(x==x)=true:=by decide
  rw [Z9i hi,cond_true,j0i hi,cond_true,cond_true]
  simp only [Z8L,beq_self_eq_true,hb,Bool.and_true,Bool.not_true,cond_false]
  rw [j03 (by omega)]) (λrec=>by
  show j2Z _ _ _ _ _ _ _=_
  unfold j2Z
  rw [Z9h,cond_false])
 refine this.trans ?_
 have:(l.any λ_=>false)=false:=by simp
 rw [this,cond_false]
theorem jtl {d:D} (h:dSm d):tSm (d.2.1,d.2.2.1,d.2.2.2.1):=⟨h.1,h.2.1,h.2.2.1,h.2.2.2.1,h.2.2.2.2.1⟩
theorem jtB (d:D) (K:Bool->Res):j96 d K=K (jdU d):=by
 unfold j96 jdU
 rw [j5q,j5q]
 cases d.2.2.1.length==0<;>rfl
theorem jnU (d:D) (h:dSm d) (k:Bool->Res):jaQ d k=k (j26 d):=by
 have h0:=jtl h
 obtain ⟨m1,m2,m3,m4,m5,m6,m7⟩:=h
 obtain ⟨kd,t,cs,ks,n,m⟩:=d
 dsimp only at m1 m2 m3 m4 m5 m6 m7 h0
 unfold jaQ j26
 rw [jtB]
 generalize hpl:jdU (kd,t,cs,ks,n,m)=pl
 dsimp only
 rw [j7d _ (by unfold LIM;omega),j5q]
 cases j0Y t
 ·rfl
 ·rw [Bool.not_true,cond_false,Bool.true_and]
  cases kd==1
  ·cases kd==2
   ·cases kd==3
    ·cases kd==4
     ·cases kd==5
      ·rfl
      ·rw [cond_false,cond_false,cond_false,cond_false,cond_true,cond_false,cond_false,cond_false,cond_false,cond_true,j7d n (by unfold LIM;omega),j7d m (by unfold LIM;omega)]
       cases pl
       ·rfl
       ·cases j0Y n<;>rfl
     ·rw [cond_false,cond_false,cond_false,cond_true,cond_false,cond_false,cond_false,cond_true,j7d n (by unfold LIM;omega)]
      cases pl
      ·rfl
      ·cases j0Y n<;>rfl
    ·rw [cond_false,cond_false,cond_true,cond_false,cond_false,cond_true,jss]
     cases hl:cs.length==1
     ·rfl
     ·have hl':cs.length=1:=by simpa using hl
      have hi:inb 0 cs.length=true:=by rw [hl'];rfl
      have hc:(nth zC cs 0).1.size<=LIM:=by
       have:=m4 (nth zC cs 0) (by rw [show (0:Int)=((0:Nat):Int) by rfl,Z92 _ _ _ (by omega)];exact List.getElem_mem _)
       unfold LIM;omega
      rw [cond_true,hi,cond_true,jnT _ hc,Bool.true_and]
      cases j1G (nth zC cs 0)
      ·rfl
      ·rw [cond_true,cond_true,cond_true,Bool.true_and]
       cases (nth zC cs 0).2.2.2.1
       ·cases (nth zC cs 0).2.2.1
        ·cases ks.length==0
         ·rfl
         ·cases sEq n eS<;>rfl
        ·rfl
       ·cases ks.length==0
        ·rfl
        ·cases sEq n eS<;>rfl
   ·rw [cond_false,cond_true,cond_false,cond_true]
    cases pl
    ·rfl
    ·cases sEq n eS<;>rfl
  ·rw [cond_true,cond_true,jrr _ h0]
   cases sEq n eS
   ·rfl
   ·cases sEq m eS<;>rfl
theorem jrh (d:D) (h:dSm d) (k:T->Res):j8V d k=k (d.2.1,d.2.2.1,d.2.2.2.1):=by
 unfold j8V jaF j5o
 have h1:=h.2.1
 have h2:=h.2.2.1
 dsimp only
 rw [Z9d (by unfold LIM;omega),cond_true,Z9d (by unfold LIM;omega),cond_true]
theorem jnz (d:D) (h:dSm d) (k:Bool->Res):jaD d k=k (j26 d):=by
 have h0:=jtl h
 have hmd:=jrh d h
 obtain ⟨m1,m2,m3,m4,m5,m6,m7⟩:=h
 obtain ⟨kd,t,cs,ks,n,m⟩:=d
 dsimp only at m1 m2 m3 m4 m5 m6 m7 h0 hmd
 unfold jaD j26 jdU
 dsimp only
 rw [j79 _ (by unfold LIM;omega)]
 have L1:cs.length<=LIM:=by unfold LIM;omega
 have L2:ks.length<=LIM:=by unfold LIM;omega
 cases j0Y t
 ·rfl
 ·rw [Bool.not_true,cond_false,Bool.true_and]
  cases h1:kd==1
  ·cases kd==2
   ·cases kd==3
    ·cases kd==4
     ·cases kd==5
      ·rfl
      ·rw [cond_false,cond_false,cond_false,cond_false,cond_true,cond_false,cond_false,cond_false,cond_false,cond_true]
       unfold j15
       dsimp only
       rw [beq_self_eq_true,cond_true,Z8L,cond_true,jfp,jdS,Z8L,cond_true,Z8L,j79 n (by unfold LIM;omega),j79 m (by unfold LIM;omega)]
       cases cs.length==0
       ·rfl
       ·cases ks.length==0
        ·rfl
        ·cases j0Y n<;>rfl
     ·rw [cond_false,cond_false,cond_false,cond_true,cond_false,cond_false,cond_false,cond_true]
      unfold j15
      dsimp only
      rw [beq_self_eq_true,cond_true,Z8L,cond_true,jfp,jdS,Z8L,cond_true,j79 n (by unfold LIM;omega)]
      cases cs.length==0
      ·rfl
      ·cases ks.length==0
       ·rfl
       ·cases sEq m eS<;>cases j0Y n<;>rfl
    ·rw [cond_false,cond_false,cond_true,cond_false,cond_false,cond_true,jss]
     unfold j15
     dsimp only
     rw [beq_self_eq_true,cond_true,Z8L,cond_true,jrN _ L1,cond_true,jdS]
     cases hl:cs.length==1
     ·cases ks.length==0
      ·rfl
      ·cases sEq n eS
       ·rfl
       ·cases sEq m eS<;>rfl
     ·have hl':cs.length=1:=by simpa using hl
      have hi:inb 0 cs.length=true:=by rw [hl'];rfl
      have hc:(nth zC cs 0).1.size<=LIM:=by
       have:=m4 (nth zC cs 0) (by rw [show (0:Int)=((0:Nat):Int) by rfl,Z92 _ _ _ (by omega)];exact List.getElem_mem _)
       unfold LIM;omega
      rw [hi,jh4 _ hc]
      cases ks.length==0
      ·cases j1G (nth zC cs 0)<;>cases (nth zC cs 0).2.2.2.1<;>cases (nth zC cs 0).2.2.1<;>rfl
      ·cases sEq n eS
       ·cases j1G (nth zC cs 0)<;>cases (nth zC cs 0).2.2.2.1<;>cases (nth zC cs 0).2.2.1<;>rfl
       ·cases sEq m eS<;>cases j1G (nth zC cs 0)<;>cases (nth zC cs 0).2.2.2.1<;>cases (nth zC cs 0).2.2.1<;>rfl
   ·rw [cond_false,cond_true,cond_false,cond_true]
    unfold j15
    dsimp only
    rw [beq_self_eq_true,cond_true,Z8L,cond_true,jfp,jdS]
    cases cs.length==0
    ·rfl
    ·cases ks.length==0
     ·rfl
     ·cases sEq n eS<;>rfl
  ·have e1:kd=1:=by simpa using h1
   subst e1
   rw [cond_true,cond_true,hmd,jrj _ h0]
   cases jfa (t,cs,ks)
   ·cases sEq n eS
    ·rfl
    ·cases sEq m eS<;>rfl
   ·cases sEq n eS<;>cases sEq m eS<;>rfl
theorem jnV (d:D) (k:Bool->Res):j2B d k=k (noD d):=by
 unfold j2B noD
 rw [j5q,j5q]
 cases d.1==0
 ·rfl
 ·cases sEq d.2.1 eS
  ·rfl
  ·cases d.2.2.1.length==0
   ·rfl
   ·cases d.2.2.2.1.length==0
    ·rfl
    ·cases sEq d.2.2.2.2.1 eS<;>rfl
theorem jnB (d:D) (k:Bool->Res):j15 d zD k=k (noD d):=by
 unfold j15 noD
 rw [jfp,jdS]
 cases d.1==0
 ·rfl
 ·cases sEq d.2.1 eS
  ·rfl
  ·cases d.2.2.1.length==0
   ·rfl
   ·cases d.2.2.2.1.length==0
    ·rfl
    ·cases sEq d.2.2.2.2.1 eS<;>rfl
theorem jkJ (l:List V) (h:l.length<=LIM) (k:Bool->Res):j4i l k=k (j1Z l):=by
 unfold j4i jcV j1Z
 have:=Z8y l (λi=>i) (λv=> !j0w v) (step:=j7r l (nI l.length)) ((λ(_:Unit)=>bif decide ((nI l.length)>=1) then k (decide ((nI l.length)<=8)) else k false),(λ(_:Unit)=>k false)) (bif decide ((nI l.length)>=1) then k (decide ((nI l.length)<=8)) else k false) (k false) h (λi rec hi=>by
  show j50 _ _ _ _ _ _=_
  unfold j50
  unfold LIM at h
  rw [Z9i hi,cond_true,j0i hi,cond_true,Z92 _ _ _ hi,jhj,j03 (n:=(i:Int)+1) (by omega)]) (λrec=>by
  show j50 _ _ _ _ _ _=_
  unfold j50
  rw [Z9h,cond_false])
 refine this.trans ?_
 have hall:(l.any λv=> !j0w v)= !l.all j0w:=by rw [List.all_eq_not_any_not];simp
 rw [hall]
 unfold nI
 cases l.all j0w
 ·rfl
 ·rw [Bool.not_true,cond_false,Bool.true_and]
  by_cases h1:1<=l.length
  ·rw [decide_eq_true (show (l.length:Int)>=1 by omega),cond_true,decide_eq_true h1,Bool.true_and]
   congr 1
   exact decide_eq_decide.2 (by omega)
  ·rw [decide_eq_false (show ¬ (l.length:Int)>=1 by omega),cond_false,decide_eq_false h1,Bool.false_and]
theorem jkD (l:List V) (h:l.length<=LIM) (k:Bool->Res):j45 l k=k (j1Z l):=by
 unfold j45 j3F j5d j64 j1Z
 rw [j1P]
 have hd:decide (1<=nI l.length/\nI l.length<=8)=(decide (1<=l.length)&&decide (l.length<=8)):=by
  rw [<-Bool.decide_and]
  exact decide_eq_decide.2 (by unfold nI;omega)
 rw [hd]
 cases decide (1<=l.length)&&decide (l.length<=8)
 ·rw [Bool.and_false];rfl
 ·rw [cond_true,Bool.and_true]
  have:=Z8o l (λi=>i) (λv=> !j0w v) (step:=j38 l (nI l.length)) ((λ(_:Unit)=>k (!decide ((-1:Int)>=0))),(λ(t:Int)=>k (!decide (t>=0)))) (λr=>k (!decide (r>=0))) h (λi rec hi=>by
   show j1Y _ _ _ _ _ _=_
   unfold j1Y jbu
   unfold LIM at h
   rw [Z9i hi,cond_true,j0i hi,cond_true,Z92 _ _ _ hi,jh6,j03 (n:=(i:Int)+1) (by omega)]) (λrec=>by
   show j1Y _ _ _ _ _ _=_
   unfold j1Y
   rw [Z9h,cond_false])
  refine this.trans ?_
  congr 1
  unfold Z8b
  cases hf:l.findIdx? λv=> !j0w v with
  | none=>
   rw [List.findIdx?_eq_none_iff] at hf
   symm
   show l.all j0w=true
   rw [List.all_eq_true]
   intro v hv
   simpa using hf v hv
  | some i=>
   dsimp only
   rw [decide_eq_true (show (i:Int)>=0 by omega)]
   obtain ⟨hi,hp,_⟩:=List.findIdx?_eq_some_iff_getElem.1 hf
   symm
   show l.all j0w=false
   rw [List.all_eq_false]
   exact ⟨l[i],List.getElem_mem _,by simpa using hp⟩
theorem jpn (s:ST) (h:j2G s) (k:Bool->Res):j9g s k=k (stB s):=by
 obtain ⟨m1,m2,m3,m4⟩:=h
 unfold j9g stB jaR
 have L2:s.2.2.1.length<=LIM:=by unfold LIM;omega
 have L3:s.2.2.2.1.length<=LIM:=by unfold LIM;omega
 rw [j7d _ (by unfold LIM;omega),j5q,j5q]
 simp only [jkJ _ L2,jkJ _ L3,jnV,jnU _ m4]
 cases j0Y s.2.1
 ·rfl
 ·rw [Bool.not_true,cond_false,Bool.true_and]
  cases s.1==1
  ·cases s.1==2
   ·cases s.1==3
    ·cases s.1==4
     ·cases s.1==5
      ·rfl
      ·cases s.2.2.1.length==0
       ·rfl
       ·cases s.2.2.2.1.length==0
        ·rfl
        ·cases j26 s.2.2.2.2<;>rfl
     ·cases s.2.2.1.length==0
      ·rfl
      ·cases s.2.2.2.1.length==0<;>rfl
    ·cases j1Z s.2.2.1
     ·rfl
     ·cases s.2.2.2.1.length==0<;>rfl
   ·cases j1Z s.2.2.1
    ·rfl
    ·cases j1Z s.2.2.2.1<;>rfl
  ·cases s.2.2.1.length==0
   ·rfl
   ·cases j1Z s.2.2.2.1<;>rfl
theorem jp6 {d:D} (h:j26 d=true):j0Y d.2.1=true:=by
 unfold j26 at h
 rw [Bool.and_eq_true] at h
 exact h.1
theorem jpf (s:ST) (h:j2G s) (k:Bool->Res):j9b s k=k (stB s):=by
 obtain ⟨m1,m2,m3,m4⟩:=h
 unfold j9b stB jaE
 have L2:s.2.2.1.length<=LIM:=by unfold LIM;omega
 have L3:s.2.2.2.1.length<=LIM:=by unfold LIM;omega
 rw [j79 _ (by unfold LIM;omega),j5q,j5q]
 simp only [jkD _ L2,jkD _ L3,jnB,jnz _ m4]
 cases h5:s.1==5
 ·rw [cond_false]
  cases j0Y s.2.1
  ·rfl
  ·rw [Bool.not_true,cond_false,Bool.true_and]
   cases s.1==1
   ·cases s.1==2
    ·cases s.1==3
     ·cases s.1==4
      ·cases noD s.2.2.2.2<;>rfl
      ·cases noD s.2.2.2.2<;>cases s.2.2.1.length==0<;>cases s.2.2.2.1.length==0<;>rfl
     ·cases noD s.2.2.2.2<;>cases j1Z s.2.2.1<;>cases s.2.2.2.1.length==0<;>rfl
    ·cases noD s.2.2.2.2<;>cases j1Z s.2.2.1<;>cases j1Z s.2.2.2.1<;>rfl
   ·cases noD s.2.2.2.2<;>cases s.2.2.1.length==0<;>cases j1Z s.2.2.2.1<;>rfl
 ·have e5:s.1=5:=by simpa using h5
  rw [cond_true,e5,show ((5:Int)==1)=false from rfl,show ((5:Int)==2)=false from rfl,show ((5:Int)==3)=false from rfl,show ((5:Int)==4)=false from rfl,cond_false,cond_false,cond_false,cond_false,cond_true]
  cases hd:j26 s.2.2.2.2
  ·rw [cond_false]
   cases j0Y s.2.1<;>cases s.2.2.1.length==0<;>cases s.2.2.2.1.length==0<;>rfl
  ·rw [cond_true,Z8K s.2.1]
   cases he:sEq s.2.2.2.2.2.1 s.2.1
   ·rw [cond_false]
    cases j0Y s.2.1<;>cases s.2.2.1.length==0<;>cases s.2.2.2.1.length==0<;>rfl
   ·have hw:=jp6 hd
    rw [(j0t _ _).1 he] at hw
    rw [hw]
    cases s.2.2.1.length==0<;>cases s.2.2.2.1.length==0<;>rfl
end Go.PI.G
namespace Go.PI.G
open Go Go.PI Go.Proofs
def tyN (t:Int):ByteArray:=nth eS [eS,j1m,j2l,j1A] t
def j1n (c:C):List ByteArray:=c.1::tyN c.2.1::((bif c.2.2.1 then [j7F] else [])++(bif c.2.2.2.1 then [j62++j07 c.2.2.2.2] else []))
def j20 (c:C):List ByteArray:=j1b::(j1n c++[j1a])
def j1o (d:D):List ByteArray:=
 bif d.1==1 then j17::d.2.1::(d.2.2.1.flatMap j20++(j2m::d.2.2.2.1))
 else bif d.1==2 then [j3N,d.2.1]
 else bif d.1==3 then j4v::d.2.1::j1n (nth zC d.2.2.1 0)
 else bif d.1==4 then [j74,d.2.1,d.2.2.2.2.1]
 else [j36,d.2.1,d.2.2.2.2.1,d.2.2.2.2.2]
def stW (s:ST):List ByteArray:=
 bif s.1==1 then j10::s.2.1::s.2.2.2.1.map j07
 else bif s.1==2 then j0J::s.2.1::(s.2.2.1.map j07++(j1I::s.2.2.2.1.map j07))
 else bif s.1==3 then j0Z::s.2.1::s.2.2.1.map j07
 else bif s.1==4 then [j21,s.2.1]
 else j1o s.2.2.2.2
def j2j (d:D):ByteArray:=bif j26 d then j02 (j1o d) else eS
def stT (s:ST):ByteArray:=bif stB s then j02 (stW s) else eS
theorem jrc:(l:List ByteArray)->(B:Nat)->(∀ w∈l,w.size<=B)->(tlB l).size<=l.length * (B+1)
 | [],B,_=>by show (0:Nat)<=_;omega
 | w::l,B,h=>by
  have h1:=jrc l B λx hx=>h x (List.mem_cons_of_mem _ hx)
  have h2:=h w (by simp)
  have e:tlB (w::l)=spB++(w++tlB l):=rfl
  have e1:spB.size=1:=rfl
  rw [e,ByteArray.size_append,ByteArray.size_append,List.length_cons,Nat.add_mul]
  omega
theorem jcx (l:List ByteArray) (B:Nat) (h:∀ w∈l,w.size<=B):(j02 l).size<=l.length * (B+1):=by
 cases l with
 | nil=>show (0:Nat)<=_;omega
 | cons w l=>
  have h1:=jrc l B λx hx=>h x (List.mem_cons_of_mem _ hx)
  have h2:=h w (by simp)
  have e:j02 (w::l)=w++tlB l:=rfl
  rw [e,ByteArray.size_append,List.length_cons,Nat.add_mul]
  omega
theorem j6w {c:C} (h:j1G c=true):j0Y c.1=true/\(1<=c.2.1/\c.2.1<=3)/\j0w c.2.2.2.2=true:=by
 unfold j1G at h
 simp only [Bool.and_eq_true,decide_eq_true_eq] at h
 exact ⟨h.1,h.2.1,h.2.2.1⟩
theorem jg2 {t:Int} (h:1<=t/\t<=3):(t=1/\tyN t=j1m)\/(t=2/\tyN t=j2l)\/(t=3/\tyN t=j1A):=by
 have:t=1\/t=2\/t=3:=by omega
 rcases this with rfl | rfl | rfl
 ·exact .inl ⟨rfl,rfl⟩
 ·exact .inr (.inl ⟨rfl,rfl⟩)
 ·exact .inr (.inr ⟨rfl,rfl⟩)
theorem jqS:(l:List Int)->isB l->32 ∉ esc l
 | [],_=>by simp [esc]
 | x::l,h=>by
  have ih:=jqS l λy hy=>h y (List.mem_cons_of_mem _ hy)
  have e:esc (x::l)=gB x++esc l:=rfl
  rw [e,List.mem_append,not_or]
  refine ⟨?_,ih⟩
  unfold gB
  cases hp:pB x
  ·have hh:∀ b:Int,h1 b≠32/\h2 b≠32:=λb=>by
    have hz:∀ i:Int,bt j0k i≠32:=λi=>by
     unfold bt
     intro hc
     have:∀ n:Nat,((j0k.data.toList.getD n 0).toNat:Int)≠32:=λn=>by
      by_cases hn:n<16
      ·have:∀ m:Fin 16,((j0k.data.toList.getD m.val 0).toNat:Int)≠32:=by decide
       exact this ⟨n,hn⟩
      ·rw [List.getD_eq_getElem?_getD,List.getElem?_eq_none (by show 16<=n;omega)]
       simp
     exact this _ hc
    exact ⟨hz _,hz _⟩
   rw [cond_false]
   simp only [List.mem_cons,List.not_mem_nil,or_false,not_or]
   exact ⟨by omega,(hh x).1.symm,(hh x).2.symm⟩
  ·rw [cond_true]
   have:=(jew hp).1
   simp only [List.mem_singleton]
   omega
theorem jqO:∀ n x,x∈Z19 (j5a n)->48<=x/\x<=57:=by
 intro n
 induction n using Nat.strongRecOn with
 | _ n ih=>
  intro x hx
  by_cases h:n<10
  ·rw [jeu h,jet _ (by omega),List.mem_singleton] at hx
   omega
  ·rw [jgr h,j0l,jet _ (by omega),List.mem_append] at hx
   rcases hx with hx | hx
   ·exact ih (n / 10) (by omega) x hx
   ·rw [List.mem_singleton] at hx
    omega
theorem jiV {n:Int} (h:j1C n=true):free 32 (j04 n):=λhm=>by
 rcases jcE h with ⟨_,e⟩ | ⟨_,e⟩
 ·rw [e] at hm
  rcases List.mem_cons.1 hm with hm | hm
  ·omega
  ·have:=jqO _ _ hm
   omega
 ·rw [e] at hm
  have:=jqO _ _ hm
  omega
theorem jpq {v:V} (h:j0w v=true):free 32 (j07 v):=by
 rcases jdZ h with ⟨rfl,e⟩ | ⟨rfl,e⟩ | ⟨rfl,e⟩ | ⟨n,rfl,hn,e⟩ | ⟨s,rfl,hs,e⟩
 ·rw [e];exact j9a _ _ (by decide)
 ·rw [e];exact j9a _ _ (by decide)
 ·rw [e];exact j9a _ _ (by decide)
 ·rw [e];exact jiV hn
 ·unfold free
  rw [e]
  have:=jqS (Z19 s) (j9h s)
  simp only [List.mem_cons,List.mem_append,List.not_mem_nil,or_false,not_or]
  exact ⟨by omega,this,by omega⟩
theorem jdb {c:C} (h:j1G c=true):∀ w∈j1n c,w.size<=101/\free 32 w/\w≠j1b/\w≠j1a:=by
 obtain ⟨h1,h2,h3⟩:=j6w h
 have hp:∀ {w:ByteArray} {b x:Int} {xs:List Int},Z19 w=x::xs->x≠b->∀ z,Z19 z=[b]->w≠z:=λ{w b x xs} e hx z hz hw=>by
  rw [hw,hz] at e
  exact hx (List.cons.inj e).1.symm
 intro w hw
 unfold j1n at hw
 rcases List.mem_cons.1 hw with rfl | hw
 ·have hs:=j0n h1
  refine ⟨by omega,jhs h1 (by omega),?_,?_⟩<;>intro he<;>rw [he] at h1<;>exact absurd h1 (by decide)
 ·rcases List.mem_cons.1 hw with rfl | hw
  ·rcases jg2 h2 with ⟨_,e⟩ | ⟨_,e⟩ | ⟨_,e⟩<;>rw [e]<;>exact ⟨by decide,j9a _ _ (by decide),λhe=>absurd (congrArg Z19 he) (by decide),λhe=>absurd (congrArg Z19 he) (by decide)⟩
  ·rcases List.mem_append.1 hw with hw | hw
   ·cases hn:c.2.2.1
    ·rw [hn] at hw;cases hw
    ·rw [hn,cond_true,List.mem_singleton] at hw
     rw [hw]
     exact ⟨by decide,j9a _ _ (by decide),λhe=>absurd (congrArg Z19 he) (by decide),λhe=>absurd (congrArg Z19 he) (by decide)⟩
   ·cases hn:c.2.2.2.1
    ·rw [hn] at hw;cases hw
    ·rw [hn,cond_true,List.mem_singleton] at hw
     rw [hw]
     have e:Z19 (j62++j07 c.2.2.2.2)=61::Z19 (j07 c.2.2.2.2):=by rw [j0l];rfl
     refine ⟨?_,jsV (j9a _ _ (by decide)) (jpq h3),hp (b:=40) e (by omega) _ rfl,hp (b:=41) e (by omega) _ rfl⟩
     have:=jc5 c.2.2.2.2
     have e1:(j62).size=1:=rfl
     rw [ByteArray.size_append]
     omega
theorem jlP {t:T} (h:jfa t=true):∀ k∈t.2.2,j0Y k=true:=λk hk=>by
 obtain ⟨_,_,_,_,h5,h6⟩:=j2C h
 have hr:=jeR _ _ (by omega) h6 k hk
 unfold j19 Z8b at hr
 cases hf:t.2.1.findIdx? λc=>sEq c.1 k with
 | none=>rw [hf] at hr;simp at hr
 | some i=>
  obtain ⟨hi,hp,_⟩:=List.findIdx?_eq_some_iff_getElem.1 hf
  have:=j8b h5 i hi
  rw [<-(j0t _ _).1 hp]
  exact (j6w this).1
theorem jeF (c:C):(j1n c).length<=4:=by
 unfold j1n
 cases c.2.2.1<;>cases c.2.2.2.1<;>simp
theorem jl3 {d:D} (h:j26 d=true):∀ w∈j1o d,w.size<=101/\free 32 w:=by
 obtain ⟨h0,hc⟩:=j59 h
 have hw:∀ {s:ByteArray},j0Y s=true->s.size<=101/\free 32 s:=λ{s} hs=>⟨by have:=j0n hs;omega,jhs hs (by omega)⟩
 have hz:∀ {s:ByteArray},decide (s.size<=101)=true->(Z19 s).all (λx=>x != 32)=true->s.size<=101/\free 32 s:=λh1 h2=>⟨of_decide_eq_true h1,j9a _ _ h2⟩
 rcases hc with ⟨t,cs,ks,rfl,hT⟩ | ⟨t,rfl⟩ | ⟨t,c,rfl,hC⟩ | ⟨t,n,rfl,hn⟩ | ⟨t,n,m,rfl,hn,hm⟩
 ·intro w hm
  simp only [j1o,beq_self_eq_true,cond_true] at hm
  rcases List.mem_cons.1 hm with rfl | hm
  ·exact hz (by decide) (by decide)
  rcases List.mem_cons.1 hm with rfl | hm
  ·exact hw h0
  rcases List.mem_append.1 hm with hm | hm
  ·obtain ⟨c,hc,hm⟩:=List.mem_flatMap.1 hm
   obtain ⟨i,hi,rfl⟩:=List.mem_iff_getElem.1 hc
   have hcb:=j8b (j2C hT).2.2.2.2.1 i hi
   unfold j20 at hm
   rcases List.mem_cons.1 hm with rfl | hm
   ·exact hz (by decide) (by decide)
   rcases List.mem_append.1 hm with hm | hm
   ·have:=jdb hcb w hm;exact ⟨this.1,this.2.1⟩
   ·rw [List.mem_singleton] at hm;subst hm;exact hz (by decide) (by decide)
  ·rcases List.mem_cons.1 hm with rfl | hm
   ·exact hz (by decide) (by decide)
   ·exact hw (jlP hT w hm)
 ·intro w hm
  simp only [j1o,show ((2:Int)==1)=false from rfl,show ((2:Int)==2)=true from rfl,cond_false,cond_true,List.mem_cons,List.not_mem_nil,or_false] at hm
  rcases hm with rfl | rfl
  ·exact hz (by decide) (by decide)
  ·exact hw h0
 ·intro w hm
  simp only [j1o,show ((3:Int)==1)=false from rfl,show ((3:Int)==2)=false from rfl,show ((3:Int)==3)=true from rfl,cond_false,cond_true] at hm
  rcases List.mem_cons.1 hm with rfl | hm
  ·exact hz (by decide) (by decide)
  rcases List.mem_cons.1 hm with rfl | hm
  ·exact hw h0
  ·have:=jdb hC w hm;exact ⟨this.1,this.2.1⟩
 ·intro w hm
  simp only [j1o,show ((4:Int)==1)=false from rfl,show ((4:Int)==2)=false from rfl,show ((4:Int)==3)=false from rfl,show ((4:Int)==4)=true from rfl,cond_false,cond_true,List.mem_cons,List.not_mem_nil,or_false] at hm
  rcases hm with rfl | rfl | rfl
  ·exact hz (by decide) (by decide)
  ·exact hw h0
  ·exact hw hn
 ·intro w hmm
  simp only [j1o,show ((5:Int)==1)=false from rfl,show ((5:Int)==2)=false from rfl,show ((5:Int)==3)=false from rfl,show ((5:Int)==4)=false from rfl,cond_false,List.mem_cons,List.not_mem_nil,or_false] at hmm
  rcases hmm with rfl | rfl | rfl | rfl
  ·exact hz (by decide) (by decide)
  ·exact hw h0
  ·exact hw hn
  ·exact hw hm
theorem jp3 {s:ST} (h:stB s=true):∀ w∈stW s,w.size<=101/\free 32 w:=by
 obtain ⟨h0,hc⟩:=jan h
 have hw:∀ {s:ByteArray},j0Y s=true->s.size<=101/\free 32 s:=λ{s} hs=>⟨by have:=j0n hs;omega,jhs hs (by omega)⟩
 have hz:∀ {s:ByteArray},decide (s.size<=101)=true->(Z19 s).all (λx=>x != 32)=true->s.size<=101/\free 32 s:=λh1 h2=>⟨of_decide_eq_true h1,j9a _ _ h2⟩
 have hv:∀ {l:List V},j1Z l=true->∀ w∈l.map j07,w.size<=101/\free 32 w:=λ{l} hl w hm=>by
  obtain ⟨v,hv,rfl⟩:=List.mem_map.1 hm
  have:=jc5 v
  exact ⟨by omega,jpq ((j0x hl).2.2 v hv)⟩
 rcases hc with ⟨t,r,rfl,hr⟩ | ⟨t,q,r,rfl,hq,hr⟩ | ⟨t,q,rfl,hq⟩ | ⟨t,rfl⟩ | ⟨d,rfl,hd⟩
 ·intro w hm
  simp only [stW,beq_self_eq_true,cond_true] at hm
  rcases List.mem_cons.1 hm with rfl | hm
  ·exact hz (by decide) (by decide)
  rcases List.mem_cons.1 hm with rfl | hm
  ·exact hw h0
  ·exact hv hr w hm
 ·intro w hm
  simp only [stW,show ((2:Int)==1)=false from rfl,show ((2:Int)==2)=true from rfl,cond_false,cond_true] at hm
  rcases List.mem_cons.1 hm with rfl | hm
  ·exact hz (by decide) (by decide)
  rcases List.mem_cons.1 hm with rfl | hm
  ·exact hw h0
  rcases List.mem_append.1 hm with hm | hm
  ·exact hv hq w hm
  rcases List.mem_cons.1 hm with rfl | hm
  ·exact hz (by decide) (by decide)
  ·exact hv hr w hm
 ·intro w hm
  simp only [stW,show ((3:Int)==1)=false from rfl,show ((3:Int)==2)=false from rfl,show ((3:Int)==3)=true from rfl,cond_false,cond_true] at hm
  rcases List.mem_cons.1 hm with rfl | hm
  ·exact hz (by decide) (by decide)
  rcases List.mem_cons.1 hm with rfl | hm
  ·exact hw h0
  ·exact hv hq w hm
 ·intro w hm
  simp only [stW,show ((4:Int)==1)=false from rfl,show ((4:Int)==2)=false from rfl,show ((4:Int)==3)=false from rfl,show ((4:Int)==4)=true from rfl,cond_false,cond_true,List.mem_cons,List.not_mem_nil,or_false] at hm
  rcases hm with rfl | rfl
  ·exact hz (by decide) (by decide)
  ·exact hw h0
 ·intro w hm
  simp only [stW,show ((5:Int)==1)=false from rfl,show ((5:Int)==2)=false from rfl,show ((5:Int)==3)=false from rfl,show ((5:Int)==4)=false from rfl,cond_false] at hm
  exact jl3 hd w hm
end Go.PI.G
namespace Go.PI.G
open Go Go.PI Go.Proofs
theorem jr7 (c:C) (h:j1G c=true) (k:List ByteArray->Res):j40 c k=k (j1n c):=by
 obtain ⟨h1,h2,h3⟩:=j6w h
 unfold j40 j6k jaS j1n tyN
 dsimp only
 have hv:=jc5 c.2.2.2.2
 rw [show inb c.2.1 ([eS,j1m,j2l,j1A]:List ByteArray).length=true from Z9c (by omega) (by show c.2.1<((4:Nat):Int);omega),cond_true]
 cases c.2.2.1
 ·rw [cond_false,cond_false]
  cases c.2.2.2.1
  ·rfl
  ·rw [cond_true,cond_true,jf8,Z9d (by unfold LIM;omega),cond_true]
   rfl
 ·rw [cond_true,cond_true,Z9d (by show (2:Nat)+1<=LIM;unfold LIM;omega),cond_true]
  cases c.2.2.2.1
  ·rfl
  ·rw [cond_true,cond_true,jf8,Z9d (by unfold LIM;omega),cond_true]
   rfl
theorem jt7 (c:C):(j20 c).length<=6:=by
 have:=jeF c
 unfold j20
 simp only [List.length_cons,List.length_append,List.length_nil]
 omega
theorem jpb {α β:Type} (l:List α) (g:α->List β) (i:Nat) (hi:i<l.length):(l.take (i+1)).flatMap g=(l.take i).flatMap g++g l[i]:=by
 rw [List.take_succ_eq_append_getElem hi,List.flatMap_append,List.flatMap_cons,List.flatMap_nil,List.append_nil]
theorem jp0 (l:List C):(l.flatMap j20).length<=6 * l.length:=by
 induction l with
 | nil=>simp
 | cons c l ih=>
  have:=jt7 c
  rw [List.flatMap_cons,List.length_append,List.length_cons]
  omega
theorem jl2 {d:D} (h:j26 d=true) (hd:dSm d):(j1o d).length<=1048700:=by
 obtain ⟨h0,hc⟩:=j59 h
 rcases hc with ⟨t,cs,ks,rfl,hT⟩ | ⟨t,rfl⟩ | ⟨t,c,rfl,hC⟩ | ⟨t,n,rfl,hn⟩ | ⟨t,n,m,rfl,hn,hm⟩
 ·have h1:=(j2C hT).2.2.1
  have h2:=jp0 cs
  have h3:=hd.2.2.1
  simp only [j1o,beq_self_eq_true,cond_true,List.length_cons,List.length_append] at h1 h3 ⊢
  omega
 ·show (2:Nat)<=_;omega
 ·have:=jeF c
  simp only [j1o,show ((3:Int)==1)=false from rfl,show ((3:Int)==2)=false from rfl,show ((3:Int)==3)=true from rfl,cond_false,cond_true,List.length_cons]
  show (j1n c).length+1+1<=_
  omega
 ·show (3:Nat)<=_;omega
 ·show (4:Nat)<=_;omega
theorem jp7 {d:D} (h:j26 d=true) (hd:dSm d):(j02 (j1o d)).size<=108000000:=by
 have h1:=jl2 h hd
 have h2:=jcx (j1o d) 101 λw hw=>(jl3 h w hw).1
 omega
theorem jt9 (d:D) (h:j26 d=true) (hd:dSm d) (k:List ByteArray->Res):jbl d k=k (j1o d):=by
 obtain ⟨h0,hc⟩:=j59 h
 unfold jbl jaT
 rcases hc with ⟨t,cs,ks,rfl,hT⟩ | ⟨t,rfl⟩ | ⟨t,c,rfl,hC⟩ | ⟨t,n,rfl,hn⟩ | ⟨t,n,m,rfl,hn,hm⟩
 ·obtain ⟨_,c1,c8,_,hcs,_⟩:=j2C hT
  have hks:=hd.2.2.1
  dsimp only at c1 c8 hcs hks ⊢
  rw [show inb 1 6=true from rfl,cond_true,show ((1:Int)==1)=true from rfl,cond_true]
  unfold jdG
  have key:=Z8q cs.length (λi out=>(out,i)) (λi _=>[j17,t]++(cs.take (i+1)).flatMap j20) (λi out=>out=[j17,t]++(cs.take i).flatMap j20) (step:=j8y cs (nI cs.length))
   (λout1=>bif lim (out1.length+1) then (bif lim ((out1++[j2m]).length+ks.length) then k ((out1++[j2m])++ks) else none) else none) (λout1=>bif lim (out1.length+1) then (bif lim ((out1++[j2m]).length+ks.length) then k ((out1++[j2m])++ks) else none) else none) [j17,t] (by unfold LIM;omega) rfl (λi out hi ho=>rfl) (λi out rec hi ho=>by
   show j5O _ _ _ _ _ _=_
   unfold j5O
   dsimp only
   have hcb:=j8b hcs i hi
   have hlen:out.length<=100:=by
    rw [ho,List.length_append]
    have:=jp0 (cs.take i)
    rw [List.length_take] at this
    show 2+_<=100
    omega
   have hcw:=jeF cs[i]
   have e:out++[j1b]++j1n cs[i]++[j1a]=[j17,t]++(cs.take (i+1)).flatMap j20:=by
    rw [jpb cs j20 i hi,ho]
    unfold j20
    simp
   have l1:lim (out.length+1)=true:=Z9d (by unfold LIM;omega)
   have l2:lim ((out++[j1b]).length+(j1n cs[i]).length)=true:=Z9d (by rw [List.length_append,List.length_singleton];unfold LIM;omega)
   have l3:lim ((out++[j1b]++j1n cs[i]).length+1)=true:=Z9d (by rw [List.length_append,List.length_append,List.length_singleton];unfold LIM;omega)
   rw [Z9i hi,cond_true,j0i hi,cond_true,Z92 _ _ _ hi,j03 (n:=(i:Int)+1) (by omega)]
   simp only [jr7 _ hcb,l1,l2,l3,cond_true,Z8m,e]) (λout rec ho=>by
   show j5O _ _ _ _ _ _=_
   unfold j5O
   dsimp only
   rw [Z9h,cond_false])
  have hq:=key.2
  rw [hq,List.take_length] at key
  refine Eq.trans key.1 ?_
  have:=jp0 cs
  rw [Z9d (by rw [List.length_append];show 2+_+1<=LIM;unfold LIM;omega),cond_true,Z9d (by rw [List.length_append,List.length_append];show 2+_+1+_<=LIM;unfold LIM;omega),cond_true]
  congr 1
  simp [j1o]
 ·rfl
 ·dsimp only
  rw [show inb 3 6=true from rfl,cond_true,show ((3:Int)==1)=false from rfl,cond_false,show ((3:Int)==3)=true from rfl,cond_true,show inb 0 ([c]:List C).length=true from rfl,cond_true]
  have e:nth zC [c] 0=c:=rfl
  have:=jeF c
  rw [e,jr7 _ hC,Z9d (by show 2+_<=LIM;unfold LIM;omega),cond_true]
  rfl
 ·rfl
 ·rfl
theorem jkE (d:D) (hd:dSm d) (k:ByteArray->Res):j87 d k=k (j2j d):=by
 unfold j87 j2j
 rw [jnU d hd]
 cases h:j26 d
 ·rfl
 ·rw [Bool.not_true,cond_false,cond_true,jt9 d h hd]
  have h1:=jl2 h hd
  have h2:=jp7 h hd
  rw [jdO _ (by omega) (by unfold LIM;omega)]
theorem jfb {w:List ByteArray} (h:w≠[]):tlB [j02 w]=tlB w:=by
 show spB++(j02 w++eS)=_
 rw [j3b,jaN h]
theorem jtn (c:C):j02 (j1n c)=c.1++(spB++(tyN c.2.1++((bif c.2.2.1 then spB++j7F else eS)++(bif c.2.2.2.1 then spB++(j62++j07 c.2.2.2.2) else eS)))):=by
 unfold j1n
 show c.1++(spB++(tyN c.2.1++tlB _))=_
 rw [j89]
 have e1:tlB (bif c.2.2.1 then [j7F] else [])=bif c.2.2.1 then spB++j7F else eS:=by
  cases c.2.2.1
  ·rfl
  ·show spB++(j7F++eS)=_
   rw [j3b];rfl
 have e2:tlB (bif c.2.2.2.1 then [j62++j07 c.2.2.2.2] else [])=bif c.2.2.2.1 then spB++(j62++j07 c.2.2.2.2) else eS:=by
  cases c.2.2.2.1
  ·rfl
  ·show spB++((j62++j07 c.2.2.2.2)++eS)=_
   rw [j3b];rfl
 rw [e1,e2]
theorem jqU (c:C) (hs:c.1.size<=1048576) (k:ByteArray->Res):j81 c k=k (bif j1G c then j02 (j1n c) else eS):=by
 unfold j81
 rw [jh4 c (by unfold LIM;omega)]
 cases h:j1G c
 ·rfl
 ·obtain ⟨h1,h2,h3⟩:=j6w h
  have hv:=jc5 c.2.2.2.2
  have ht:(tyN c.2.1).size<=4:=by rcases jg2 h2 with ⟨_,e⟩ | ⟨_,e⟩ | ⟨_,e⟩<;>rw [e]<;>decide
  have s1:(j0e).size=1:=rfl
  have s2:(jre).size=4:=rfl
  have s3:(js8).size=2:=rfl
  rw [Bool.not_true,cond_false,Z9d (by unfold LIM;omega),cond_true,cond_true]
  unfold jdM
  have e0:nth eS [eS,j1m,j2l,j1A] c.2.1=tyN c.2.1:=rfl
  rw [Z9c (by omega) (by omega),cond_true,e0]
  unfold j9x
  dsimp only
  rw [Z9d (by rw [ByteArray.size_append];unfold LIM;omega),cond_true,jtn]
  have q1:(j0e:ByteArray)=spB:=rfl
  have q2:(jre:ByteArray)=spB++j7F:=j0R (by rw [j0l];rfl)
  have q3:(js8:ByteArray)=spB++j62:=j0R (by rw [j0l];rfl)
  cases c.2.2.1
  ·rw [cond_false,cond_false,jn9]
   cases c.2.2.2.1
   ·rw [cond_false,cond_false,j3b,q1,ByteArray.append_assoc]
   ·rw [cond_true,cond_true,Z9d (by simp only [ByteArray.size_append];unfold LIM;omega),cond_true,jh5,Z9d (by simp only [ByteArray.size_append];unfold LIM;omega),cond_true,q1,q3]
    simp only [ByteArray.append_assoc]
  ·rw [cond_true,cond_true,Z9d (by simp only [ByteArray.size_append];unfold LIM;omega),cond_true]
   cases c.2.2.2.1
   ·rw [cond_false,cond_false,j3b,q1,q2]
    simp only [ByteArray.append_assoc]
   ·rw [cond_true,cond_true,Z9d (by simp only [ByteArray.size_append];unfold LIM;omega),cond_true,jh5,Z9d (by simp only [ByteArray.size_append];unfold LIM;omega),cond_true,q1,q2,q3]
    simp only [ByteArray.append_assoc]
theorem jp5 {c:C} (h:j1G c=true):(j02 (j1n c)).size<=408:=by
 have h1:=jeF c
 have h2:=jcx (j1n c) 101 λw hw=>(jdb h w hw).1
 omega
theorem jtG (c:C):tlB (j20 c)=jg5++(j02 (j1n c)++jgS):=by
 unfold j20
 have q1:(jg5:ByteArray)=spB++(j1b++spB):=j0R (by rw [j0l,j0l];rfl)
 have q2:(jgS:ByteArray)=spB++j1a:=j0R (by rw [j0l];rfl)
 have hne:j1n c≠[]:=by unfold j1n;exact List.cons_ne_nil _ _
 show spB++(j1b++tlB (j1n c++[j1a]))=_
 rw [j89,<-jaN hne,q1,q2]
 show spB++(j1b++((spB++j02 (j1n c))++(spB++(j1a++eS))))=_
 rw [j3b]
 simp only [ByteArray.append_assoc]
theorem jr2 (l:List C) (h:∀ c∈l,j1G c=true):(tlB (l.flatMap j20)).size<=413 * l.length:=by
 induction l with
 | nil=>show (0:Nat)<=_;omega
 | cons c l ih=>
  have h1:=ih λx hx=>h x (List.mem_cons_of_mem _ hx)
  have h2:=jp5 (h c (by simp))
  have s1:(jg5).size=3:=rfl
  have s2:(jgS).size=2:=rfl
  rw [List.flatMap_cons,j89,ByteArray.size_append,jtG,ByteArray.size_append,ByteArray.size_append,List.length_cons]
  omega
theorem j78 (d:D) (hd:dSm d) (k:ByteArray->Res):j3d d k=k (j2j d):=by
 unfold j3d j2j
 rw [jnz d hd]
 cases h:j26 d
 ·rfl
 ·rw [Bool.not_true,cond_false,cond_true]
  have hJ:=jp7 h hd
  obtain ⟨h0,hc⟩:=j59 h
  rcases hc with ⟨t,cs,ks,rfl,hT⟩ | ⟨t,rfl⟩ | ⟨t,c,rfl,hC⟩ | ⟨t,n,rfl,hn⟩ | ⟨t,n,m,rfl,hn,hm⟩
  ·obtain ⟨_,c1,c8,k1,hcs,_⟩:=j2C hT
   have hks:=hd.2.2.1
   have hw:=j0n h0
   dsimp only at c1 c8 k1 hcs hks hw ⊢
   have hcb:∀ c∈cs,j1G c=true:=λc hc=>by
    obtain ⟨i,hi,rfl⟩:=List.mem_iff_getElem.1 hc
    exact j8b hcs i hi
   have s1:(jg5).size=3:=rfl
   have s2:(jgS).size=2:=rfl
   have s3:(j8f).size=7:=rfl
   have s4:(jc6).size=5:=rfl
   have hkn:ks≠[]:=λe=>by rw [e] at k1;simp at k1
   have hkj:(j02 ks).size<=108000000:=by
    have:=jcx ks 8 λw hw=>(j0n (jlP hT w hw)).2
    omega
   rw [show ((1:Int)==1)=true from rfl,cond_true,Z9d (by unfold LIM;omega),cond_true]
   unfold jcu
   have key:=Z8q cs.length (λi out=>(out,i)) (λi _=>(j8f++t)++tlB ((cs.take (i+1)).flatMap j20)) (λi out=>out=(j8f++t)++tlB ((cs.take i).flatMap j20)) (step:=j7h cs (nI cs.length))
    (λs=>bif lim (s.size+5) then (j1h ks λ(r1:ByteArray)=>bif lim ((s++jc6).size+r1.size) then k ((s++jc6)++r1) else none) else none) (λs=>bif lim (s.size+5) then (j1h ks λ(r1:ByteArray)=>bif lim ((s++jc6).size+r1.size) then k ((s++jc6)++r1) else none) else none) (j8f++t) (by unfold LIM;omega) (j3b _).symm (λi out hi ho=>rfl) (λi out rec hi ho=>by
    show j4E _ _ _ _ _ _=_
    unfold j4E
    dsimp only
    have hci:=hcb cs[i] (List.getElem_mem _)
    have hsz:=jr2 (cs.take i) λc hc=>hcb c (List.mem_of_mem_take hc)
    rw [List.length_take] at hsz
    have hcj:=jp5 hci
    have hw2:=j0n (j6w hci).1
    have ho2:out.size<=5000:=by rw [ho,ByteArray.size_append,ByteArray.size_append];omega
    have e:out++jg5++j02 (j1n cs[i])++jgS=(j8f++t)++tlB ((cs.take (i+1)).flatMap j20):=by
     rw [jpb cs j20 i hi,j89,jtG,ho]
     simp only [ByteArray.append_assoc]
    rw [Z9i hi,cond_true,j0i hi,cond_true,Z92 _ _ _ hi,Z9d (by unfold LIM;omega),cond_true,jqU _ (by omega),hci,cond_true,Z9d (by rw [ByteArray.size_append];unfold LIM;omega),cond_true,Z9d (by rw [ByteArray.size_append,ByteArray.size_append];unfold LIM;omega),cond_true,e,j03 (n:=(i:Int)+1) (by omega)]) (λout rec ho=>by
    show j4E _ _ _ _ _ _=_
    unfold j4E
    dsimp only
    rw [Z9h,cond_false])
   have hq:=key.2
   rw [hq,List.take_length] at key
   refine Eq.trans key.1 ?_
   have hsz:=jr2 cs hcb
   have ho2:((j8f++t)++tlB (cs.flatMap j20)).size<=5000:=by rw [ByteArray.size_append,ByteArray.size_append];omega
   rw [Z9d (by unfold LIM;omega),cond_true,j3Z ks (by omega) (by unfold LIM;omega),Z9d (by rw [ByteArray.size_append];unfold LIM;omega),cond_true]
   congr 1
   have q1:(j8f:ByteArray)=j17++spB:=j0R (by rw [j0l];rfl)
   have q2:(jc6:ByteArray)=spB++(j2m++spB):=j0R (by rw [j0l,j0l];rfl)
   have e2:j02 (j1o (1,t,cs,ks,eS,eS))=j17++(spB++(t++(tlB (cs.flatMap j20)++(spB++(j2m++tlB ks))))):=by
    show j17++(spB++(t++tlB (cs.flatMap j20++(j2m::ks))))=_
    rw [j89]
    rfl
   rw [e2,<-jaN hkn,q1,q2]
   simp only [ByteArray.append_assoc]
  ·have hw:=j0n h0
   dsimp only at hw ⊢
   rw [show ((2:Int)==1)=false from rfl,cond_false,show ((2:Int)==2)=true from rfl,cond_true,Z9d (by unfold LIM;omega),cond_true]
   congr 1
   have q1:(jrL:ByteArray)=j3N++spB:=j0R (by rw [j0l];rfl)
   show _=j3N++(spB++(t++eS))
   rw [j3b,q1,ByteArray.append_assoc]
  ·have hw2:=j0n (j6w hC).1
   dsimp only
   have e:nth zC [c] 0=c:=rfl
   have hne:j1n c≠[]:=by unfold j1n;exact List.cons_ne_nil _ _
   have ej:j02 [j4v,t,j02 (j1n c)]=j02 (j1o (3,t,[c],[],eS,eS)):=by
    show j4v++(spB++(t++tlB [j02 (j1n c)]))=j4v++(spB++(t++tlB (j1n c)))
    rw [jfb hne]
   rw [show ((3:Int)==1)=false from rfl,cond_false,show ((3:Int)==2)=false from rfl,cond_false,show ((3:Int)==3)=true from rfl,cond_true,show inb 0 ([c]:List C).length=true from rfl,cond_true,e,jqU _ (by omega),hC,cond_true,j3Z _ (by simp) (by rw [ej];unfold LIM;omega),ej]
  ·dsimp only
   rw [show ((4:Int)==1)=false from rfl,cond_false,show ((4:Int)==2)=false from rfl,cond_false,show ((4:Int)==3)=false from rfl,cond_false,show ((4:Int)==4)=true from rfl,cond_true]
   exact j3Z _ (by simp) (by show (j02 (j1o (4,t,[],[],n,eS))).size<=_;unfold LIM;omega) k
  ·dsimp only
   rw [show ((5:Int)==1)=false from rfl,cond_false,show ((5:Int)==2)=false from rfl,cond_false,show ((5:Int)==3)=false from rfl,cond_false,show ((5:Int)==4)=false from rfl,cond_false]
   exact j3Z _ (by simp) (by show (j02 (j1o (5,t,[],[],n,m))).size<=_;unfold LIM;omega) k
theorem map_take {α β:Type} (l:List α) (g:α->β) (i:Nat) (hi:i<l.length):(l.take (i+1)).map g=(l.take i).map g++[g l[i]]:=by
 rw [List.take_succ_eq_append_getElem hi,List.map_append]
 rfl
theorem jfZ (l:List V) (h:l.length<=1000000000) (k:List ByteArray->Res):j2d l k=k (l.map j07):=by
 unfold j2d jcZ
 have key:=Z8q l.length (λi out=>(out,i)) (λi _=>(l.take (i+1)).map j07) (λi out=>out=(l.take i).map j07) (step:=j7u l (nI l.length)) (λout=>k out) k [] (by unfold LIM;omega) rfl (λi out hi ho=>rfl) (λi out rec hi ho=>by
  show j53 _ _ _ _ _ _=_
  unfold j53
  dsimp only
  have hl:out.length<=i:=by rw [ho,List.length_map,List.length_take];omega
  rw [Z9i hi,cond_true,j0i hi,cond_true,Z92 _ _ _ hi,jf8,Z9d (by unfold LIM;omega),cond_true,j03 (by omega),map_take l j07 i hi,ho]) (λout rec ho=>by
  show j53 _ _ _ _ _ _=_
  unfold j53
  dsimp only
  rw [Z9h,cond_false])
 have hq:=key.2
 rw [hq,List.take_length] at key
 exact key.1
theorem jfB (l:List V) (h:l.length<=8) (k:ByteArray->Res):j3C l k=k (j02 (l.map j07)):=by
 unfold j3C jbF
 have hsz:(j02 (l.map j07)).size<=LIM:=by
  have:=jcx (l.map j07) 101 λw hw=>by
   obtain ⟨v,_,rfl⟩:=List.mem_map.1 hw
   have:=jc5 v
   omega
  rw [List.length_map] at this
  unfold LIM;omega
 have key:=Z8q l.length (λi out=>(out,i)) (λi _=>(l.take (i+1)).map j07) (λi out=>out=(l.take i).map j07) (step:=j6J l (nI l.length)) (λout=>j1h out λr=>k r) (λout=>j1h out λr=>k r) [] (by unfold LIM;omega) rfl (λi out hi ho=>rfl) (λi out rec hi ho=>by
  show j46 _ _ _ _ _ _=_
  unfold j46
  dsimp only
  have hl:out.length<=i:=by rw [ho,List.length_map,List.length_take];omega
  rw [Z9i hi,cond_true,j0i hi,cond_true,Z92 _ _ _ hi,jh5,Z9d (by unfold LIM;omega),cond_true,j03 (by omega),map_take l j07 i hi,ho]) (λout rec ho=>by
  show j46 _ _ _ _ _ _=_
  unfold j46
  dsimp only
  rw [Z9h,cond_false])
 have hq:=key.2
 rw [hq,List.take_length] at key
 refine Eq.trans key.1 ?_
 rw [j3Z _ (by rw [List.length_map];omega) hsz]
theorem jrF {s:ST} (h:stB s=true) (hs:j2G s):(stW s).length<=1048700:=by
 obtain ⟨h0,hc⟩:=jan h
 rcases hc with ⟨t,r,rfl,hr⟩ | ⟨t,q,r,rfl,hq,hr⟩ | ⟨t,q,rfl,hq⟩ | ⟨t,rfl⟩ | ⟨d,rfl,hd⟩
 ·have:=(j0x hr).2.1
  show (r.map j07).length+1+1<=_
  rw [List.length_map];omega
 ·have h1:=(j0x hr).2.1
  have h2:=(j0x hq).2.1
  show (q.map j07++(j1I::r.map j07)).length+1+1<=_
  rw [List.length_append,List.length_cons,List.length_map,List.length_map];omega
 ·have:=(j0x hq).2.1
  show (q.map j07).length+1+1<=_
  rw [List.length_map];omega
 ·show (2:Nat)<=_;omega
 ·exact jl2 hd hs.2.2.2
theorem jmz {s:ST} (h:stB s=true) (hs:j2G s):(j02 (stW s)).size<=108000000:=by
 have h1:=jrF h hs
 have h2:=jcx (stW s) 101 λw hw=>(jp3 h w hw).1
 omega
theorem j8r (s:ST) (hs:j2G s) (k:ByteArray->Res):j6i s k=k (stT s):=by
 unfold j6i stT
 rw [jpn s hs]
 cases h:stB s
 ·rfl
 ·rw [Bool.not_true,cond_false,cond_true]
  have hJ:=jmz h hs
  have hL:=jrF h hs
  obtain ⟨h0,hc⟩:=jan h
  rcases hc with ⟨t,r,rfl,hr⟩ | ⟨t,q,r,rfl,hq,hr⟩ | ⟨t,q,rfl,hq⟩ | ⟨t,rfl⟩ | ⟨d,rfl,hd⟩
  ·have h8:=(j0x hr).2.1
   dsimp only at hJ ⊢
   have hg:∀ K,j1v ([j10,t]++r.map j07) K=K (j02 ([j10,t]++r.map j07)):=λK=>jdO _ (by simp;omega) (by show (j02 (stW (1,t,[],r,zD))).size<=_;unfold LIM;omega) K
   rw [show ((1:Int)==1)=true from rfl,cond_true]
   have hl:lim (2+(r.map j07).length)=true:=Z9d (by rw [List.length_map];unfold LIM;omega)
   simp only [jfZ r (by omega),hl,cond_true,hg,Z8m]
   rfl
  ·have h8:=(j0x hr).2.1
   have h9:=(j0x hq).2.1
   dsimp only at hJ ⊢
   rw [show ((2:Int)==1)=false from rfl,cond_false,show ((2:Int)==2)=true from rfl,cond_true]
   unfold j8t
   dsimp only
   have hl:lim (2+(q.map j07).length)=true:=Z9d (by rw [List.length_map];unfold LIM;omega)
   have hl2:lim (([j0J,t]++q.map j07).length+1)=true:=Z9d (by rw [List.length_append,List.length_map];show 2+_+1<=_;unfold LIM;omega)
   have hl3:lim ((([j0J,t]++q.map j07)++[j1I]).length+(r.map j07).length)=true:=Z9d (by rw [List.length_append,List.length_append,List.length_map,List.length_map];show 2+_+1+_<=_;unfold LIM;omega)
   have e:(([j0J,t]++q.map j07)++[j1I])++r.map j07=stW (2,t,q,r,zD):=by
    simp [stW]
   have hg:∀ K,j1v ((([j0J,t]++q.map j07)++[j1I])++r.map j07) K=K (j02 (stW (2,t,q,r,zD))):=λK=>by
    rw [e]
    exact jdO _ (by omega) (by unfold LIM;omega) K
   simp only [jfZ q (by omega),jfZ r (by omega),hl,hl2,hl3,cond_true,hg,Z8m]
  ·have h8:=(j0x hq).2.1
   dsimp only at hJ ⊢
   have hg:∀ K,j1v ([j0Z,t]++q.map j07) K=K (j02 ([j0Z,t]++q.map j07)):=λK=>jdO _ (by simp;omega) (by show (j02 (stW (3,t,q,[],zD))).size<=_;unfold LIM;omega) K
   rw [show ((3:Int)==1)=false from rfl,cond_false,show ((3:Int)==2)=false from rfl,cond_false,show ((3:Int)==3)=true from rfl,cond_true]
   have hl:lim (2+(q.map j07).length)=true:=Z9d (by rw [List.length_map];unfold LIM;omega)
   simp only [jfZ q (by omega),hl,cond_true,hg,Z8m]
   rfl
  ·have hw:=j0n h0
   dsimp only at hw ⊢
   rw [show ((4:Int)==1)=false from rfl,cond_false,show ((4:Int)==2)=false from rfl,cond_false,show ((4:Int)==3)=false from rfl,cond_false,show ((4:Int)==4)=true from rfl,cond_true,Z9d (by unfold LIM;omega),cond_true]
   congr 1
   have q1:(jht:ByteArray)=j21++spB:=j0R (by rw [j0l];rfl)
   show _=j21++(spB++(t++eS))
   rw [j3b,q1,ByteArray.append_assoc]
  ·dsimp only
   rw [show ((5:Int)==1)=false from rfl,cond_false,show ((5:Int)==2)=false from rfl,cond_false,show ((5:Int)==3)=false from rfl,cond_false,show ((5:Int)==4)=false from rfl,cond_false,jkE d hs.2.2.2]
   unfold j2j
   rw [hd]
   rfl
theorem jaB (s:ST) (hs:j2G s) (k:ByteArray->Res):j4y s k=k (stT s):=by
 unfold j4y stT
 rw [jpf s hs]
 cases h:stB s
 ·rfl
 ·rw [Bool.not_true,cond_false,cond_true]
  have hJ:=jmz h hs
  have hne:∀ {l:List V},j1Z l=true->l.map j07≠[]:=λ{l} hl e=>by
   have h1:=(j0x hl).1
   have:=congrArg List.length e
   rw [List.length_map] at this
   simp at this
   rw [this] at h1
   simp at h1
  obtain ⟨h0,hc⟩:=jan h
  rcases hc with ⟨t,r,rfl,hr⟩ | ⟨t,q,r,rfl,hq,hr⟩ | ⟨t,q,rfl,hq⟩ | ⟨t,rfl⟩ | ⟨d,rfl,hd⟩
  ·have h8:=(j0x hr).2.1
   dsimp only at hJ ⊢
   have e:j02 [j10,t,j02 (r.map j07)]=j02 (stW (1,t,[],r,zD)):=by
    show j10++(spB++(t++tlB [j02 (r.map j07)]))=j10++(spB++(t++tlB (r.map j07)))
    rw [jfb (hne hr)]
   rw [show ((1:Int)==1)=true from rfl,cond_true,jfB r h8,j3Z _ (by simp) (by rw [e];unfold LIM;omega),e]
  ·have h8:=(j0x hr).2.1
   have h9:=(j0x hq).2.1
   dsimp only at hJ ⊢
   have e:j02 [j0J,t,j02 (q.map j07),j1I,j02 (r.map j07)]=j02 (stW (2,t,q,r,zD)):=by
    show j0J++(spB++(t++tlB ([j02 (q.map j07)]++([j1I]++[j02 (r.map j07)]))))=j0J++(spB++(t++tlB (q.map j07++([j1I]++r.map j07))))
    rw [j89,j89,j89,j89,jfb (hne hq),jfb (hne hr)]
   rw [show ((2:Int)==1)=false from rfl,cond_false,show ((2:Int)==2)=true from rfl,cond_true,jfB q h9,jfB r h8,j3Z _ (by simp) (by rw [e];unfold LIM;omega),e]
  ·have h8:=(j0x hq).2.1
   dsimp only at hJ ⊢
   have e:j02 [j0Z,t,j02 (q.map j07)]=j02 (stW (3,t,q,[],zD)):=by
    show j0Z++(spB++(t++tlB [j02 (q.map j07)]))=j0Z++(spB++(t++tlB (q.map j07)))
    rw [jfb (hne hq)]
   rw [show ((3:Int)==1)=false from rfl,cond_false,show ((3:Int)==2)=false from rfl,cond_false,show ((3:Int)==3)=true from rfl,cond_true,jfB q h8,j3Z _ (by simp) (by rw [e];unfold LIM;omega),e]
  ·have hw:=j0n h0
   dsimp only at hw ⊢
   rw [show ((4:Int)==1)=false from rfl,cond_false,show ((4:Int)==2)=false from rfl,cond_false,show ((4:Int)==3)=false from rfl,cond_false,show ((4:Int)==4)=true from rfl,cond_true,Z9d (by unfold LIM;omega),cond_true]
   congr 1
   have q1:(jht:ByteArray)=j21++spB:=j0R (by rw [j0l];rfl)
   show _=j21++(spB++(t++eS))
   rw [j3b,q1,ByteArray.append_assoc]
  ·dsimp only
   rw [show ((5:Int)==1)=false from rfl,cond_false,show ((5:Int)==2)=false from rfl,cond_false,show ((5:Int)==3)=false from rfl,cond_false,show ((5:Int)==4)=false from rfl,cond_false,j78 d hs.2.2.2]
   unfold j2j
   rw [hd]
   rfl
end Go.PI.G
namespace Go.PI.G
open Go Go.PI Go.Proofs
abbrev RC:=Int×Int×ST
abbrev zRC:RC:=(0,0,0,eS,[],[],0,eS,[],[],eS,eS)
def jiT (s:ST):Bool:=(s.1==0)&&(sEq s.2.1 eS&&((s.2.2.1.length==0)&&((s.2.2.2.1.length==0)&&noD s.2.2.2.2)))
theorem jqZ (s:ST):jiT s=true↔s=zST:=by
 obtain ⟨a,b,c,e,d⟩:=s
 unfold jiT
 simp only [Bool.and_eq_true,beq_iff_eq,j0t,Prod.mk.injEq,List.length_eq_zero_iff,jgy]
def j2a (r:RC):Bool:=decide (1<=r.1/\r.1<=4)&&(decide (1<=r.2.1/\r.2.1<=1000000)&&(bif r.1==2 then stB r.2.2 else jiT r.2.2))
def j1V (k:Int):ByteArray:=nth eS [eS,j0h,j0W,j0b,j0g] k
def j1U (r:RC):List ByteArray:=j1V r.1::j04 r.2.1::(bif r.1==2 then stW r.2.2 else [])
def j3E (r:RC):ByteArray:=bif j2a r then j02 (j1U r) else eS
theorem j6P {r:RC} (h:j2a r=true):(1<=r.1/\r.1<=4)/\(1<=r.2.1/\r.2.1<=1000000)/\((r.1=2/\stB r.2.2=true)\/(r.1≠2/\r.2.2=zST)):=by
 unfold j2a at h
 rw [Bool.and_eq_true,Bool.and_eq_true,decide_eq_true_eq,decide_eq_true_eq] at h
 refine ⟨h.1,h.2.1,?_⟩
 have h3:=h.2.2
 cases hk:r.1==2
 ·rw [hk,cond_false] at h3
  exact .inr ⟨by simpa using hk,(jqZ _).1 h3⟩
 ·rw [hk,cond_true] at h3
  exact .inl ⟨by simpa using hk,h3⟩
theorem jes {k:Int} (h:1<=k/\k<=4):(k=1/\j1V k=j0h)\/(k=2/\j1V k=j0W)\/(k=3/\j1V k=j0b)\/(k=4/\j1V k=j0g):=by
 have:k=1\/k=2\/k=3\/k=4:=by omega
 rcases this with rfl | rfl | rfl | rfl
 ·exact .inl ⟨rfl,rfl⟩
 ·exact .inr (.inl ⟨rfl,rfl⟩)
 ·exact .inr (.inr (.inl ⟨rfl,rfl⟩))
 ·exact .inr (.inr (.inr ⟨rfl,rfl⟩))
theorem jfD {k:Int} (h:1<=k/\k<=4):(j1V k).size<=6/\free 32 (j1V k):=by
 rcases jes h with ⟨_,e⟩ | ⟨_,e⟩ | ⟨_,e⟩ | ⟨_,e⟩<;>rw [e]<;>exact ⟨by decide,j9a _ _ (by decide)⟩
theorem jkG (s:ST) (k:Bool->Res):j5s s k=k (jiT s):=by
 unfold j5s jiT
 rw [j5q,j5q,jnV]
 cases s.1==0
 ·rfl
 ·cases sEq s.2.1 eS
  ·rfl
  ·cases s.2.2.1.length==0
   ·rfl
   ·cases s.2.2.2.1.length==0<;>rfl
theorem jkA (s:ST) (k:Bool->Res):j6c s k=k (jiT s):=by
 unfold j6c jiT
 rw [j5q,j5q,jnB]
 cases s.1==0
 ·rfl
 ·cases sEq s.2.1 eS
  ·rfl
  ·cases s.2.2.1.length==0
   ·rfl
   ·cases s.2.2.2.1.length==0<;>rfl
theorem js2 (r:RC) (h:j2G r.2.2) (k:Bool->Res):jcQ r k=k (j2a r):=by
 unfold jcQ jbz j2a
 by_cases h1:1<=r.1/\r.1<=4
 ·rw [decide_eq_false (show ¬ r.1<1 by omega),cond_false,decide_eq_false (show ¬ r.1>4 by omega),cond_false,decide_eq_true h1,Bool.true_and]
  by_cases h2:1<=r.2.1/\r.2.1<=1000000
  ·rw [decide_eq_false (show ¬ r.2.1<1 by omega),cond_false,decide_eq_false (show ¬ r.2.1>1000000 by omega),decide_eq_true h2,Bool.true_and]
   dsimp only
   rw [cond_false,jpn _ h,jkG]
   cases r.1==2<;>rfl
  ·rw [decide_eq_false h2]
   by_cases h3:r.2.1<1
   ·rw [decide_eq_true h3];rfl
   ·rw [decide_eq_false h3,decide_eq_true (show r.2.1>1000000 by omega)];rfl
 ·rw [decide_eq_false h1]
  by_cases h3:r.1<1
  ·rw [decide_eq_true h3];rfl
  ·rw [decide_eq_false h3,decide_eq_true (show r.1>4 by omega)];rfl
theorem jrR (r:RC) (h:j2G r.2.2) (k:Bool->Res):jcw r k=k (j2a r):=by
 unfold jcw j2a
 rw [j1P,j1P]
 cases decide (1<=r.1/\r.1<=4)
 ·rfl
 ·cases decide (1<=r.2.1/\r.2.1<=1000000)
  ·rfl
  ·rw [Bool.not_true,cond_false,cond_false,jpf _ h,jkA]
   cases r.1==2<;>rfl
theorem jtL (s:ST):stW s≠[]:=by
 unfold stW j1o
 cases s.1==1<;>cases s.1==2<;>cases s.1==3<;>cases s.1==4<;>cases s.2.2.2.2.1==1<;>cases s.2.2.2.2.1==2<;>cases s.2.2.2.2.1==3<;>cases s.2.2.2.2.1==4<;>exact List.cons_ne_nil _ _
theorem jp1 (r:RC) (hr:j2a r=true) (B:ByteArray) (hB:B=stT r.2.2):(bif r.1==2 then ((j1V r.1++j0e)++j04 r.2.1)++j0e++B else ((j1V r.1++j0e)++j04 r.2.1))=j02 (j1U r):=by
 obtain ⟨h1,h2,h3⟩:=j6P hr
 have q1:(j0e:ByteArray)=spB:=rfl
 unfold j1U
 rcases h3 with ⟨hk,hs⟩ | ⟨hk,hs⟩
 ·have e:(r.1==2)=true:=by simp [hk]
  rw [e,cond_true,cond_true,hB]
  unfold stT
  rw [hs,cond_true]
  show _=j1V r.1++(spB++(j04 r.2.1++tlB (stW r.2.2)))
  rw [<-jaN (jtL _),q1]
  simp only [ByteArray.append_assoc]
 ·have e:(r.1==2)=false:=by simp [hk]
  rw [e,cond_false,cond_false]
  show _=j1V r.1++(spB++(j04 r.2.1++eS))
  rw [j3b,q1,ByteArray.append_assoc]
theorem jmA {s:ST} (h:j2G s):(stT s).size<=108000000:=by
 unfold stT
 cases hb:stB s
 ·show (0:Nat)<=_;omega
 ·exact jmz hb h
theorem jkH (r:RC) (h:j2G r.2.2) (k:ByteArray->Res):j4e r k=k (j3E r):=by
 unfold j4e j3E
 rw [js2 r h]
 cases hr:j2a r
 ·rfl
 ·rw [Bool.not_true,cond_false,cond_true]
  obtain ⟨h1,h2,h3⟩:=j6P hr
  have hk:=(jfD h1).1
  have hn:=j2X r.2.1
  have hs:=jmA h
  have s1:(j0e).size=1:=rfl
  have e0:nth eS [eS,j0h,j0W,j0b,j0g] r.1=j1V r.1:=rfl
  have hp:∀ K,j6S r K=K ((j1V r.1++j0e)++j04 r.2.1):=λK=>by
   unfold j6S
   have l0:inb r.1 5=true:=Z9c (by omega) (by omega)
   have l1:lim ((j1V r.1).size+1)=true:=Z9d (by unfold LIM;omega)
   have l2:lim ((j1V r.1++j0e).size+(j04 r.2.1).size)=true:=Z9d (by rw [ByteArray.size_append];unfold LIM;omega)
   simp only [e0,jcP,l0,l1,l2,cond_true,Z8m]
  rw [hp,<-jp1 r hr _ rfl]
  cases hk2:r.1==2
  ·rfl
  ·rw [cond_true,cond_true,Z9d (by simp only [ByteArray.size_append];unfold LIM;omega),cond_true,j8r _ h,Z9d (by simp only [ByteArray.size_append];unfold LIM;omega),cond_true]
theorem jkB (r:RC) (h:j2G r.2.2) (k:ByteArray->Res):j82 r k=k (j3E r):=by
 unfold j82 j3E
 rw [jrR r h]
 cases hr:j2a r
 ·rfl
 ·rw [Bool.not_true,cond_false,cond_true]
  obtain ⟨h1,h2,h3⟩:=j6P hr
  have hk:=(jfD h1).1
  have hn:=j2X r.2.1
  have hs:=jmA h
  have s1:(j0e).size=1:=rfl
  have e0:nth eS [j0h,j0W,j0b,j0g] (Z8g (r.1-1))=j1V r.1:=by
   rw [j03 (by omega)]
   have:r.1=1\/r.1=2\/r.1=3\/r.1=4:=by omega
   rcases this with e | e | e | e<;>rw [e]<;>rfl
  have hp:∀ K,j6z r K=K ((j1V r.1++j0e)++j04 r.2.1):=λK=>by
   unfold j6z
   have l0:inb (Z8g (r.1-1)) 4=true:=by rw [j03 (by omega)];exact Z9c (by omega) (by omega)
   have l1:lim ((j1V r.1).size+1)=true:=Z9d (by unfold LIM;omega)
   have l2:lim ((j1V r.1++j0e).size+(j04 r.2.1).size)=true:=Z9d (by rw [ByteArray.size_append];unfold LIM;omega)
   simp only [e0,jcs,l0,l1,l2,cond_true,Z8m]
  rw [hp,<-jp1 r hr _ rfl]
  cases hk2:r.1==2
  ·rfl
  ·rw [cond_true,cond_true,Z9d (by simp only [ByteArray.size_append];unfold LIM;omega),cond_true,jaB _ h,Z9d (by simp only [ByteArray.size_append];unfold LIM;omega),cond_true]
theorem jpj {r:RC} (h:j2G r.2.2):(j3E r).size<=109000000:=by
 unfold j3E
 cases hr:j2a r
 ·show (0:Nat)<=_;omega
 ·rw [cond_true,<-jp1 r hr _ rfl]
  have hk:=(jfD (j6P hr).1).1
  have hn:=j2X r.2.1
  have hs:=jmA h
  have s1:(j0e).size=1:=rfl
  cases r.1==2
  ·rw [cond_false];simp only [ByteArray.size_append];omega
  ·rw [cond_true];simp only [ByteArray.size_append];omega
theorem jr5 {r:RC} (h:j2a r=true):∀ w∈j1U r,w.size<=101/\free 32 w:=λw hw=>by
 obtain ⟨h1,h2,h3⟩:=j6P h
 unfold j1U at hw
 rcases List.mem_cons.1 hw with rfl | hw
 ·have:=jfD h1;exact ⟨by omega,this.2⟩
 rcases List.mem_cons.1 hw with rfl | hw
 ·have:=j2X r.2.1
  exact ⟨by omega,jiV (decide_eq_true (by omega))⟩
 ·rcases h3 with ⟨hk,hs⟩ | ⟨hk,hs⟩
  ·have e:(r.1==2)=true:=by simp [hk]
   rw [e,cond_true] at hw
   exact jp3 hs w hw
  ·have e:(r.1==2)=false:=by simp [hk]
   rw [e,cond_false] at hw
   cases hw
theorem jeV {r:RC} (h:j2a r=true):j3E r=j02 (j1U r):=by unfold j3E;rw [h];rfl
end Go.PI.G
