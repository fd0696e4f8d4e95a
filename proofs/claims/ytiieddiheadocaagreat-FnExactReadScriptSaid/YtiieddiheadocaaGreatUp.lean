/-
  Program's code interpreted over typed values; printed texts; plain laws. No conditions.
-/
import Derived.Test.YtiieddiheadocaaGreatUi
import Derived.Test.YtiieddiheadocaaGreatUo
set_option linter.unusedVariables false
set_option linter.unusedSimpArgs false
namespace Go.PI.G
open Go Go.PI Go.Proofs
noncomputable def scr:List ByteArray->Int->List SP->List SP×Int
 | [],_,out=>(out,0)
 | l::ls,i,out=>bif sEq l eS then scr ls (i+1) out else bif bt l 0==35 then scr ls (i+1) out else bif !(j7v l).2 then ([],i+1) else bif out.length==300 then ([],i+1) else scr ls (i+1) (out++[(j7v l).1])
theorem jrE:(ls:List ByteArray)->(i:Int)->(out:List SP)->scr (ls++[eS]) i out=scr ls i out
 | [],i,out=>by
  simp only [List.nil_append,scr,Z8L,cond_true]
 | l::ls,i,out=>by
  simp only [List.cons_append,scr,jrE ls]
noncomputable def jec (s:ByteArray):List SP×Int:=bif decide (nI s.size>20000) then ([],1) else scr (j08 10 s) 0 []
theorem jtt (w:List ByteArray) (hw:∀ x∈w,x.size<=1048576) (hl:w.length<=1048577) (k:List SP->Int->Res) :
  ∀ (d i m:Nat) (out:List SP),i+d=w.length->d<m->out.length<=300->Z10 (j3n w (nI w.length)) m (out,(i:Int)) ((λ(out:List SP)=>k out 0),(λ(t:Int)=>k [] t))=k (scr (w.drop i) (i:Int) out).1 (scr (w.drop i) (i:Int) out).2:=by
 intro d
 induction d with
 | zero=>
  intro i m out hi hm ho
  obtain ⟨m,rfl⟩:∃ e,m=e+1:=⟨m-1,by omega⟩
  have hil:i=w.length:=by omega
  subst hil
  rw [Z8u,List.drop_length]
  show j3m _ _ _ _ _ _ _=_
  unfold j3m
  rw [Z9h,cond_false]
  rfl
 | succ d ih=>
  intro i m out hi hm ho
  obtain ⟨m,rfl⟩:∃ e,m=e+1:=⟨m-1,by omega⟩
  have hil:i<w.length:=by omega
  have hi1:Z8g ((i:Int)+1)=((i+1:Nat):Int):=by rw [j03 (by omega)];omega
  have go:∀ o:List SP,o.length<=300->Z10 (j3n w (nI w.length)) m (o,((i+1:Nat):Int)) ((λ(out:List SP)=>k out 0),(λ(t:Int)=>k [] t))=k (scr (w.drop (i+1)) ((i:Int)+1) o).1 (scr (w.drop (i+1)) ((i:Int)+1) o).2:=λo ho=>by
   have:=ih (i+1) m o (by omega) (by omega) ho
   rw [show (((i+1:Nat):Int))=(i:Int)+1 by omega] at this ⊢
   exact this
  rw [Z8u,List.drop_eq_getElem_cons hil]
  simp only [scr]
  show j3m _ _ _ _ _ _ _=_
  unfold j3m
  rw [Z9i hil,cond_true,j0i hil,cond_true,Z92 _ _ _ hil,hi1]
  cases h1:sEq w[i] eS
  ·simp only [cond_false]
   have hpos:0<w[i].size:=by
    rcases Nat.eq_zero_or_pos w[i].size with h0 | h0
    ·exfalso
     have:w[i]=eS:=j0R (by
      have:=j0d w[i]
      rw [h0] at this
      rw [List.length_eq_zero_iff.1 this]
      rfl)
     rw [this,Z8L] at h1
     cases h1
    ·exact h0
   rw [Z9c (by omega) (by omega),cond_true]
   cases h2:bt w[i] 0==35
   ·simp only [cond_false]
    rw [jr9 _ (hw _ (List.getElem_mem hil))]
    cases h3:(j7v w[i]).2
    ·simp only [Bool.not_false,cond_true]
     rw [show ((i+1:Nat):Int)=(i:Int)+1 by omega]
    ·simp only [Bool.not_true,cond_false]
     have h300:(nI out.length==300)=(out.length==300):=by
      unfold nI
      by_cases h:out.length=300
      ·rw [h];rfl
      ·rw [show (out.length==300)=false by simp [h],show (((out.length:Nat):Int)==300)=false by simp;omega]
     rw [h300]
     cases h4:out.length==300
     ·simp only [cond_false]
      have:out.length≠300:=by simpa using h4
      rw [Z9d (by unfold LIM;omega),cond_true]
      exact go _ (by rw [List.length_append];simp;omega)
     ·simp only [cond_true]
      rw [show ((i+1:Nat):Int)=(i:Int)+1 by omega]
   ·simp only [cond_true]
    exact go out ho
  ·simp only [cond_true]
   exact go out ho
theorem jto (w:List ByteArray) (hw:∀ x∈w,x.size<=1048576) (hl:w.length<=1048577) (k:List SP->Int->Res) :
  ∀ (d i m:Nat) (out:List SP),i+d=w.length->d<m->out.length<=300->Z10 (j3f w (nI w.length)) m (out,(i:Int)) ((λ(out:List SP)=>k out 0),(λ(t:Int)=>k [] t))=k (scr (w.drop i) (i:Int) out).1 (scr (w.drop i) (i:Int) out).2:=by
 intro d
 induction d with
 | zero=>
  intro i m out hi hm ho
  obtain ⟨m,rfl⟩:∃ e,m=e+1:=⟨m-1,by omega⟩
  have hil:i=w.length:=by omega
  subst hil
  rw [Z8u,List.drop_length]
  show j3e _ _ _ _ _ _ _=_
  unfold j3e
  rw [Z9h,cond_false]
  rfl
 | succ d ih=>
  intro i m out hi hm ho
  obtain ⟨m,rfl⟩:∃ e,m=e+1:=⟨m-1,by omega⟩
  have hil:i<w.length:=by omega
  have hi1:Z8g ((i:Int)+1)=((i+1:Nat):Int):=by rw [j03 (by omega)];omega
  have go:∀ o:List SP,o.length<=300->Z10 (j3f w (nI w.length)) m (o,((i+1:Nat):Int)) ((λ(out:List SP)=>k out 0),(λ(t:Int)=>k [] t))=k (scr (w.drop (i+1)) ((i:Int)+1) o).1 (scr (w.drop (i+1)) ((i:Int)+1) o).2:=λo ho=>by
   have:=ih (i+1) m o (by omega) (by omega) ho
   rw [show (((i+1:Nat):Int))=(i:Int)+1 by omega] at this ⊢
   exact this
  rw [Z8u,List.drop_eq_getElem_cons hil]
  simp only [scr]
  show j3e _ _ _ _ _ _ _=_
  unfold j3e
  rw [Z9i hil,cond_true,j0i hil,cond_true,Z92 _ _ _ hil,hi1]
  cases h1:sEq w[i] eS
  ·simp only [cond_false]
   have hpos:0<w[i].size:=by
    rcases Nat.eq_zero_or_pos w[i].size with h0 | h0
    ·exfalso
     have:w[i]=eS:=j0R (by
      have:=j0d w[i]
      rw [h0] at this
      rw [List.length_eq_zero_iff.1 this]
      rfl)
     rw [this,Z8L] at h1
     cases h1
    ·exact h0
   rw [Z9c (by omega) (by omega),cond_true]
   cases h2:bt w[i] 0==35
   ·simp only [cond_false]
    rw [jqW _ (hw _ (List.getElem_mem hil))]
    cases h3:(j7v w[i]).2
    ·simp only [Bool.not_false,cond_true]
     rw [show ((i+1:Nat):Int)=(i:Int)+1 by omega]
    ·simp only [Bool.not_true,cond_false]
     have h300:(nI out.length==300)=(out.length==300):=by
      unfold nI
      by_cases h:out.length=300
      ·rw [h];rfl
      ·rw [show (out.length==300)=false by simp [h],show (((out.length:Nat):Int)==300)=false by simp;omega]
     rw [h300]
     cases h4:out.length==300
     ·simp only [cond_false]
      have:out.length≠300:=by simpa using h4
      rw [Z9d (by unfold LIM;omega),cond_true]
      exact go _ (by rw [List.length_append];simp;omega)
     ·simp only [cond_true]
      rw [show ((i+1:Nat):Int)=(i:Int)+1 by omega]
   ·simp only [cond_true]
    exact go out ho
  ·simp only [cond_true]
   exact go out ho
theorem jr8 (s:ByteArray) (hs:s.size<=1048576) (k:List ByteArray->Res):∃ w,(∀ i out,scr w i out=scr (j08 10 s) i out)/\w.length<=1048577/\(∀ x∈w,x.size<=1048576)/\j99 s k=k w:=by
 have hp:=j4d 10 s
 have hz:∀ x∈j08 10 s,x.size<=1048576:=λx hx=>Nat.le_trans (j3k 10 s x hx) hs
 obtain ⟨a,r,hw⟩:=jhe 10 s
 have hne:j08 10 s≠[]:=by rw [hw];exact List.cons_ne_nil _ _
 unfold j99
 rw [jjn s 10 (by omega)]
 have hl:0<(j08 10 s).length:=List.length_pos_iff.2 hne
 have e1:Z8g (nI (j08 10 s).length-1)=(((j08 10 s).length-1:Nat):Int):=by rw [j03 (by unfold nI;omega)];unfold nI;omega
 rw [e1,Z9c (by omega) (by omega),cond_true,Z92 _ _ _ (show (j08 10 s).length-1<(j08 10 s).length by omega)]
 cases h:sEq (j08 10 s)[(j08 10 s).length-1] eS
 ·exact ⟨_,λ_ _=>rfl,by omega,hz,rfl⟩
 ·have he:(j08 10 s)[(j08 10 s).length-1]=eS:=(j0t _ _).1 h
  have hd:j08 10 s=(j08 10 s).take ((j08 10 s).length-1)++[eS]:=by
   have h1:=List.dropLast_concat_getLast hne
   rw [List.getLast_eq_getElem,he,List.dropLast_eq_take] at h1
   exact h1.symm
  refine ⟨(j08 10 s).take ((j08 10 s).length-1),λi out=> ?_,by rw [List.length_take];omega,λx hx=>hz x (List.mem_of_mem_take hx),?_⟩
  ·conv=>rhs;rw [hd]
   rw [jrE]
  ·rw [cond_true,show (0:Int)=((0:Nat):Int) from rfl,jl1 ⟨by omega,by omega⟩,cond_true,jgQ,List.drop_zero]
theorem jsz (s:ByteArray) (hs:s.size<=1048576) (k:List SP->Int->Res):j6R s k=k (jec s).1 (jec s).2:=by
 unfold j6R jec
 cases decide (nI s.size>20000)
 ·rw [cond_false,cond_false]
  obtain ⟨w,h1,h2,h3,h4⟩:=jr8 s hs (λ(r:List ByteArray)=>jak r (nI (List.length r)) Z0Y [] 0 (λ(out:List SP)=>k out 0) (λ(t:Int)=>k [] t))
  refine h4.trans ?_
  have:=jtt w h3 h2 k w.length 0 Z0Y [] (by omega) (Z1O (by omega)) (by simp)
  rw [List.drop_zero] at this
  rw [<-h1]
  exact this
 ·rfl
theorem jpe (s:ByteArray) (hs:s.size<=1048576) (k:List SP->Int->Res):j4n s k=k (jec s).1 (jec s).2:=by
 unfold j4n jec
 cases decide (nI s.size>20000)
 ·rw [cond_false,cond_false,jiQ s 10 (by omega)]
  have hp:=j4d 10 s
  have:=jto (j08 10 s) (λx hx=>Nat.le_trans (j3k 10 s x hx) hs) (by omega) k (j08 10 s).length 0 Z0Y [] (by omega) (Z1O (by omega)) (by simp)
  rw [List.drop_zero] at this
  exact this
 ·rfl
theorem jr6:(ls:List ByteArray)->(i:Int)->(out:List SP)->out.length<=300->(∀ x∈out,msr ySP x<=1100)->(scr ls i out).1.length<=300/\∀ x∈(scr ls i out).1,msr ySP x<=1100
 | [],i,out,h1,h2=>⟨h1,h2⟩
 | l::ls,i,out,h1,h2=>by
  have z:(([],i+1):List SP×Int).1.length<=300/\∀ x∈(([],i+1):List SP×Int).1,msr ySP x<=1100:=⟨Nat.zero_le _,λx hx=>by cases hx⟩
  have r:=jr6 ls (i+1) out h1 h2
  simp only [scr]
  cases sEq l eS
  ·cases bt l 0==35
   ·cases (j7v l).2
    ·exact z
    ·cases h:out.length==300
     ·have:out.length≠300:=by simpa using h
      exact jr6 ls (i+1) (out++[(j7v l).1]) (by rw [List.length_append];simp;omega) (λx hx=>by
       rcases List.mem_append.1 hx with hx | hx
       ·exact h2 x hx
       ·rw [List.mem_singleton.1 hx]
        exact jsK l)
     ·exact z
   ·exact r
  ·exact r
theorem jts (s:ByteArray):msr (.slice ySP) (jec s).1<=1048576:=by
 have h:(jec s).1.length<=300/\∀ x∈(jec s).1,msr ySP x<=1100:=by
  unfold jec
  cases decide (nI s.size>20000)
  ·exact jr6 _ 0 [] (Nat.zero_le _) (λx hx=>by cases hx)
  ·exact ⟨Nat.zero_le _,λx hx=>by cases hx⟩
 have h1:=jev (e:=ySP) 1100 _ h.2
 have h2:(jec s).1.length * 1101<=300 * 1101:=Nat.mul_le_mul_right _ h.1
 omega
theorem jrD (x0:ByteArray) (w0:Wf .str x0) (k:Bool->Res):j2z x0 k=k true:=by
 unfold j2z
 by_cases hs:nI x0.size>1048576
 ·rw [decide_eq_true hs];rfl
 have hl:x0.size<=1048576:=by unfold nI at hs;omega
 rw [decide_eq_false hs,cond_false,jsz x0 hl,jpe x0 hl]
 have hm:=jts x0
 generalize hr:jec x0=r at hm
 obtain ⟨l,e⟩:=r
 dsimp only at hm ⊢
 have e3:=jsP (τ:= .slice ySP) (by decide) hm
 have k3:(1:Int)+((wgt (.slice ySP) l:Nat):Int)<=4294967296:=by omega
 rw [jnt _ hm,Bool.not_true,cond_false,Z9g,cond_false,jqX l 1 hm (by omega) k3,jiN l 1 hm (by omega) k3,decide_eq_false (by omega),cond_false,Z9g,cond_false,jpe x0 hl,hr]
 dsimp only
 rw [jnt _ hm,Bool.not_true,cond_false,Z9g,cond_false,jiN l 1 hm (by omega) k3,decide_eq_false (by omega),cond_false,Z9g,cond_false]
end Go.PI.G
