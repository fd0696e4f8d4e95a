/-
  Program's code interpreted over typed values; printed texts; plain laws. No conditions.
-/
import Derived.Test.YtiieddiheadocaaGreatUl
import Derived.Test.YtiieddiheadocaaGreatUn
import Derived.Test.YtiieddiheadocaaGreatUk
import Derived.Test.YtiieddiheadocaaGreatUj
import Derived.Test.YtiieddiheadocaaGreatUh
import Derived.Test.YtiieddiheadocaaGreatUi
set_option linter.unusedVariables false
set_option linter.unusedSimpArgs false
namespace Go.PI.G
open Go Go.PI Go.Proofs
noncomputable def j7v (s:ByteArray):SP×Bool:=rdX j6Z j3G zSP s
theorem jt4 (r:RC):j9m r=true↔r=zRC:=by
 obtain ⟨a,b,c⟩:=r
 unfold j9m
 simp only [Bool.and_eq_true,beq_iff_eq,jqZ,Prod.mk.injEq]
theorem jbn {s:SP} (h:j6Z s=true) :
  (∃ r,s=(1,r,0,0,0)/\j2a r=true)\/(∃ n,s=(2,zRC,n,0,0)/\okN n=true)\/(∃ n,s=(3,zRC,1,n,0)/\okN n=true)\/(∃ n,s=(3,zRC,2,n,0)/\okN n=true)\/(∃ n,s=(3,zRC,3,n,0)/\okN n=true) \/
  (∃ n m,s=(3,zRC,4,n,m)/\okN n=true/\okN m=true)\/(∃ n,s=(4,zRC,n,0,0)/\okN n=true)\/s=(5,zRC,0,0,0)\/s=(6,zRC,0,0,0)\/s=(7,zRC,0,0,0):=by
 obtain ⟨k,r,a,b,c⟩:=s
 unfold j6Z at h
 dsimp only at h
 by_cases h1:k=1
 ·subst h1
  rw [show ((1:Int)==1)=true from rfl,cond_true] at h
  simp only [Bool.and_eq_true,beq_iff_eq] at h
  obtain ⟨h1,rfl,rfl,rfl⟩:=h
  exact .inl ⟨r,rfl,h1⟩
 rw [show (k==1)=false by simp [h1],cond_false,Bool.and_eq_true,Bool.and_eq_true,Bool.and_eq_true,jt4] at h
 obtain ⟨hw,rfl,h0,hn⟩:=h
 unfold j5W at hw hn
 unfold jcF at h0
 dsimp only at hw hn h0
 by_cases h2:k=2
 ·subst h2
  rw [show ((2:Int)==2)=true from rfl] at hn h0
  simp only [cond_true,Bool.and_eq_true,beq_iff_eq,List.all_cons,List.all_nil,Bool.and_true] at hn h0
  obtain ⟨rfl,rfl⟩:=h0
  exact .inr (.inl ⟨a,rfl,hn⟩)
 rw [show (k==2)=false by simp [h2]] at hw hn h0
 by_cases h4:k=4
 ·subst h4
  rw [show ((4:Int)==4)=true from rfl] at hn h0
  simp only [cond_false,cond_true,Bool.and_eq_true,beq_iff_eq,List.all_cons,List.all_nil,Bool.and_true] at hn h0
  obtain ⟨rfl,rfl⟩:=h0
  exact .inr (.inr (.inr (.inr (.inr (.inr (.inl ⟨a,rfl,hn⟩))))))
 rw [show (k==4)=false by simp [h4]] at hw hn h0
 by_cases h3:k=3
 ·subst h3
  rw [show ((3:Int)==5)=false from rfl,show ((3:Int)==6)=false from rfl,show ((3:Int)==7)=false from rfl,show ((3:Int)==3)=true from rfl] at hw hn
  rw [show ((3:Int)==3)=true from rfl] at h0
  simp only [cond_false,cond_true] at hw hn h0
  by_cases a1:a=1
  ·subst a1
   rw [show ((1:Int)==1)=true from rfl] at hn
   rw [show ((1:Int)==4)=false from rfl] at h0
   simp only [cond_false,cond_true,beq_iff_eq,List.all_cons,List.all_nil,Bool.and_true] at hn h0
   subst h0
   exact .inr (.inr (.inl ⟨b,rfl,hn⟩))
  rw [show (a==1)=false by simp [a1]] at hw hn
  by_cases a2:a=2
  ·subst a2
   rw [show ((2:Int)==2)=true from rfl] at hn
   rw [show ((2:Int)==4)=false from rfl] at h0
   simp only [cond_false,cond_true,beq_iff_eq,List.all_cons,List.all_nil,Bool.and_true] at hn h0
   subst h0
   exact .inr (.inr (.inr (.inl ⟨b,rfl,hn⟩)))
  rw [show (a==2)=false by simp [a2]] at hw hn
  by_cases a3:a=3
  ·subst a3
   rw [show ((3:Int)==3)=true from rfl] at hn
   rw [show ((3:Int)==4)=false from rfl] at h0
   simp only [cond_false,cond_true,beq_iff_eq,List.all_cons,List.all_nil,Bool.and_true] at hn h0
   subst h0
   exact .inr (.inr (.inr (.inr (.inl ⟨b,rfl,hn⟩))))
  rw [show (a==3)=false by simp [a3]] at hw hn
  by_cases a4:a=4
  ·subst a4
   rw [show ((4:Int)==4)=true from rfl] at hn
   simp only [cond_false,cond_true,Bool.and_eq_true,List.all_cons,List.all_nil,Bool.and_true] at hn
   exact .inr (.inr (.inr (.inr (.inr (.inl ⟨b,c,rfl,hn.1,hn.2⟩)))))
  rw [show (a==4)=false by simp [a4]] at hw
  simp only [cond_false,Z8L] at hw
  cases hw
 rw [show (k==3)=false by simp [h3]] at hw h0
 simp only [cond_false,Bool.and_eq_true,beq_iff_eq] at h0
 obtain ⟨rfl,rfl,rfl⟩:=h0
 by_cases h5:k=5
 ·subst h5;exact .inr (.inr (.inr (.inr (.inr (.inr (.inr (.inl rfl)))))))
 by_cases h6:k=6
 ·subst h6;exact .inr (.inr (.inr (.inr (.inr (.inr (.inr (.inr (.inl rfl))))))))
 by_cases h7:k=7
 ·subst h7;exact .inr (.inr (.inr (.inr (.inr (.inr (.inr (.inr (.inr rfl))))))))
 rw [show (k==5)=false by simp [h5],show (k==6)=false by simp [h6],show (k==7)=false by simp [h7]] at hw
 simp only [cond_false,Z8L] at hw
 cases hw
theorem jrY {n:Int} (h:okN n=true):j1C n=true:=by
 unfold okN at h
 rw [Bool.and_eq_true] at h
 exact h.2
theorem jsH {s:SP} (h:j6Z s=true):∀ w∈jhl s,w.size<=101/\free 32 w:=by
 have hz:∀ {s:ByteArray},decide (s.size<=101)=true->(Z19 s).all (λx=>x != 32)=true->s.size<=101/\free 32 s:=λh1 h2=>⟨of_decide_eq_true h1,j9a _ _ h2⟩
 have hn:∀ {n:Int},okN n=true->(j04 n).size<=101/\free 32 (j04 n):=λ{n} hn=>⟨by have:=j2X n;omega,jiV (jrY hn)⟩
 intro w hw
 rcases jbn h with ⟨r,rfl,hr⟩ | ⟨n,rfl,ho⟩ | ⟨n,rfl,ho⟩ | ⟨n,rfl,ho⟩ | ⟨n,rfl,ho⟩ | ⟨n,m,rfl,ho,hm⟩ | ⟨n,rfl,ho⟩ | rfl | rfl | rfl
 ·have hw:w∈j0E::j1U r:=hw
  rcases List.mem_cons.1 hw with rfl | hw
  ·exact hz (by decide) (by decide)
  ·exact jr5 hr w hw
 ·have hw:w∈[j0H,j04 n]:=hw
  simp only [List.mem_cons,List.not_mem_nil,or_false] at hw
  rcases hw with rfl | rfl
  ·exact hz (by decide) (by decide)
  ·exact hn ho
 ·have hw:w∈[j0p,j04 n]:=hw
  simp only [List.mem_cons,List.not_mem_nil,or_false] at hw
  rcases hw with rfl | rfl
  ·exact hz (by decide) (by decide)
  ·exact hn ho
 ·have hw:w∈[j0j,j04 n]:=hw
  simp only [List.mem_cons,List.not_mem_nil,or_false] at hw
  rcases hw with rfl | rfl
  ·exact hz (by decide) (by decide)
  ·exact hn ho
 ·have hw:w∈[j0o,j04 n]:=hw
  simp only [List.mem_cons,List.not_mem_nil,or_false] at hw
  rcases hw with rfl | rfl
  ·exact hz (by decide) (by decide)
  ·exact hn ho
 ·have hw:w∈[j0z,j04 n,j04 m]:=hw
  simp only [List.mem_cons,List.not_mem_nil,or_false] at hw
  rcases hw with rfl | rfl | rfl
  ·exact hz (by decide) (by decide)
  ·exact hn ho
  ·exact hn hm
 ·have hw:w∈[j0I,j04 n]:=hw
  simp only [List.mem_cons,List.not_mem_nil,or_false] at hw
  rcases hw with rfl | rfl
  ·exact hz (by decide) (by decide)
  ·exact hn ho
 ·have hw:w∈[j0N]:=hw
  rw [List.mem_singleton.1 hw];exact hz (by decide) (by decide)
 ·have hw:w∈[j0M]:=hw
  rw [List.mem_singleton.1 hw];exact hz (by decide) (by decide)
 ·have hw:w∈[j0L]:=hw
  rw [List.mem_singleton.1 hw];exact hz (by decide) (by decide)
theorem jsI (s:SP):∃ a r,jhl s=a::r:=by
 unfold jhl
 cases s.1==1<;>exact ⟨_,_,rfl⟩
theorem jhm {x:SP} {s:ByteArray} (h:j6Z x=true) (he:j3G x=s):j08 32 s=jhl x:=by
 unfold j3G at he
 rw [h,cond_true] at he
 obtain ⟨a,r,e⟩:=jsI x
 rw [e] at he ⊢
 exact (jjq (λv hv=>(jsH h v (by rw [e];exact hv)).2) s).1 he
theorem jtg {d:SP} {s:ByteArray} (h:j3G d=s) (h2:s≠eS):j6Z d=true:=by
 cases hb:j6Z d with
 | true=>rfl
 | false=>
  unfold j3G at h
  rw [hb,cond_false] at h
  exact absurd h.symm h2
theorem jtf {x:SP} (h:j6Z x=true):j3G x≠eS:=λhe=>by
 have hp:=jhm h he
 rw [jhf] at hp
 have hx:∀ {z:ByteArray} {r:List ByteArray},[eS]=z::r->Z19 z≠[]->False:=λhh hz=>hz (by rw [<-(List.cons.inj hh).1];rfl)
 rcases jbn h with ⟨r,rfl,hr⟩ | ⟨n,rfl,ho⟩ | ⟨n,rfl,ho⟩ | ⟨n,rfl,ho⟩ | ⟨n,rfl,ho⟩ | ⟨n,m,rfl,ho,hm⟩ | ⟨n,rfl,ho⟩ | rfl | rfl | rfl
 ·exact hx (z:=j0E) (r:=j1U r) hp (by decide)
 ·exact hx (z:=j0H) (r:=[j04 n]) hp (by decide)
 ·exact hx (z:=j0p) (r:=[j04 n]) hp (by decide)
 ·exact hx (z:=j0j) (r:=[j04 n]) hp (by decide)
 ·exact hx (z:=j0o) (r:=[j04 n]) hp (by decide)
 ·exact hx (z:=j0z) (r:=[j04 n,j04 m]) hp (by decide)
 ·exact hx (z:=j0I) (r:=[j04 n]) hp (by decide)
 ·exact hx (z:=j0N) (r:=[]) hp (by decide)
 ·exact hx (z:=j0M) (r:=[]) hp (by decide)
 ·exact hx (z:=j0L) (r:=[]) hp (by decide)
theorem jtj:j7v eS=(zSP,false):=jeU λx hx he=>jtf hx he
noncomputable def j1T (w:List ByteArray):Int:=match w with | _::a::_=>(j0X a).1 | _=>0
noncomputable def j3R (w:List ByteArray):Int:=match w with | _::_::b::_=>(j0X b).1 | _=>0
theorem jtu (w:List ByteArray) (hw:∀ x∈w,x.size<=1048576) (hl:w.length<=1048577) (k:List Int->Res):j8u w Z0Y [0,0] 1 k=k [j1T w,j3R w]:=by
 unfold j8u
 obtain ⟨m,hm⟩:∃ m,Z0Y=m+3:=⟨Z0Y-3,by have:=Z1O (n:=10) (by omega);omega⟩
 rw [hm]
 have st:∀ (v:List Int) (i:Int) (rec:List Int×Int->Res) (q:List Int->Res),j6U w (v,i) rec q=j30 w v i (λv i=>rec (v,i)) q:=λ_ _ _ _=>rfl
 have tn:∀ (s:ByteArray),s.size<=1048576->∀ K:Int->Bool->Res,j3p s K=K (j0X s).1 (j0X s).2:=λs hs K=>js3 s hs K
 match w,hw,hl,st with
 | [],_,_,st=>
  rw [Z8u,st]
  rfl
 | [a],_,_,st=>
  rw [Z8u,st]
  rfl
 | [a,b],hw,_,st=>
  rw [Z8u,st]
  unfold j30
  rw [show decide ((1:Int)<nI [a,b].length)=true from rfl,cond_true,show decide ((1:Int)<3)=true from rfl,cond_true,show inb 1 [a,b].length=true from rfl,cond_true]
  have e1:nth eS [a,b] 1=b:=rfl
  rw [e1,tn b (hw b (by simp)),show inb (Z8g (1-1)) ([0,0]:List Int).length=true from rfl,cond_true]
  dsimp only
  rw [Z8u,st]
  rfl
 | a::b::c::r,hw,hl,st=>
  have hlen:(a::b::c::r).length=r.length+3:=rfl
  rw [Z8u,st]
  unfold j30
  rw [decide_eq_true (show (1:Int)<nI (a::b::c::r).length by unfold nI;omega),cond_true,show decide ((1:Int)<3)=true from rfl,cond_true,Z9c (by omega) (by omega),cond_true]
  have e1:nth eS (a::b::c::r) 1=b:=rfl
  have e2:nth eS (a::b::c::r) 2=c:=rfl
  rw [e1,tn b (hw b (by simp)),show inb (Z8g (1-1)) ([0,0]:List Int).length=true from rfl,cond_true]
  dsimp only
  rw [Z8u,st]
  unfold j30
  rw [show Z8g (1+1)=2 from rfl,decide_eq_true (show (2:Int)<nI (a::b::c::r).length by unfold nI;omega),cond_true,show decide ((2:Int)<3)=true from rfl,cond_true,Z9c (by omega) (by omega),cond_true,e2,tn c (hw c (by simp)),show inb (Z8g (2-1)) (upd ([0,0]:List Int) (Z8g (1-1)) (j0X b).1).length=true from rfl,cond_true]
  dsimp only
  rw [Z8u,st]
  unfold j30
  rw [show Z8g (2+1)=3 from rfl,show decide ((3:Int)<3)=false from rfl,cond_false]
  cases decide ((3:Int)<nI (a::b::c::r).length)<;>rfl
theorem jtp (w:List ByteArray) (hw:∀ x∈w,x.size<=1048576) (hl:w.length<=1048577) (k:List Int->Res):j8k w Z0Y [0,0] 1 k=k [j1T w,j3R w]:=by
 unfold j8k
 obtain ⟨m,hm⟩:∃ m,Z0Y=m+3:=⟨Z0Y-3,by have:=Z1O (n:=10) (by omega);omega⟩
 rw [hm]
 have st:∀ (v:List Int) (i:Int) (rec:List Int×Int->Res) (q:List Int->Res),j6D w (v,i) rec q=j2U w v i (λv i=>rec (v,i)) q:=λ_ _ _ _=>rfl
 have tn:∀ (s:ByteArray),s.size<=1048576->∀ K:Int->Bool->Res,j3g s K=K (j0X s).1 (j0X s).2:=λs hs K=>jrS s hs K
 match w,hw,hl,st with
 | [],_,_,st=>
  rw [Z8u,st]
  rfl
 | [a],_,_,st=>
  rw [Z8u,st]
  rfl
 | [a,b],hw,_,st=>
  rw [Z8u,st]
  unfold j2U
  rw [show decide ((1:Int)<nI [a,b].length)=true from rfl,cond_true,show decide ((1:Int)<3)=true from rfl,cond_true,show inb 1 [a,b].length=true from rfl,cond_true]
  have e1:nth eS [a,b] 1=b:=rfl
  rw [e1,tn b (hw b (by simp)),show inb (Z8g (1-1)) ([0,0]:List Int).length=true from rfl,cond_true]
  dsimp only
  rw [Z8u,st]
  rfl
 | a::b::c::r,hw,hl,st=>
  have hlen:(a::b::c::r).length=r.length+3:=rfl
  rw [Z8u,st]
  unfold j2U
  rw [decide_eq_true (show (1:Int)<nI (a::b::c::r).length by unfold nI;omega),cond_true,show decide ((1:Int)<3)=true from rfl,cond_true,Z9c (by omega) (by omega),cond_true]
  have e1:nth eS (a::b::c::r) 1=b:=rfl
  have e2:nth eS (a::b::c::r) 2=c:=rfl
  rw [e1,tn b (hw b (by simp)),show inb (Z8g (1-1)) ([0,0]:List Int).length=true from rfl,cond_true]
  dsimp only
  rw [Z8u,st]
  unfold j2U
  rw [show Z8g (1+1)=2 from rfl,decide_eq_true (show (2:Int)<nI (a::b::c::r).length by unfold nI;omega),cond_true,show decide ((2:Int)<3)=true from rfl,cond_true,Z9c (by omega) (by omega),cond_true,e2,tn c (hw c (by simp)),show inb (Z8g (2-1)) (upd ([0,0]:List Int) (Z8g (1-1)) (j0X b).1).length=true from rfl,cond_true]
  dsimp only
  rw [Z8u,st]
  unfold j2U
  rw [show Z8g (2+1)=3 from rfl,show decide ((3:Int)<3)=false from rfl,cond_false]
  cases decide ((3:Int)<nI (a::b::c::r).length)<;>rfl
theorem jdN (a:ByteArray) (r:List ByteArray):(j02 r).size<=(j02 (a::r)).size:=by
 cases r with
 | nil=>show (0:Nat)<=_;omega
 | cons b r=>
  show _<=(a++(spB++j02 (b::r))).size
  simp only [ByteArray.size_append]
  omega
theorem jtK (r:List ByteArray) (hr:r≠[]):Z9k (j02 (j0E::r)) 4 (nI (j02 (j0E::r)).size)=j02 r:=by
 apply j0R
 have e:j02 (j0E::r)=j0E++(spB++j02 r):=by rw [jaN hr];rfl
 have hl:=j0d (j02 (j0E::r))
 unfold nI
 rw [show (4:Int)=((4:Nat):Int) from rfl,jav,<-hl,List.take_length,e,j0l,j0l]
 rfl
noncomputable def jju (s:ByteArray) (w:List ByteArray) (w0:ByteArray):SP:=
 bif sEq w0 j0E then (1,(jb7 (j02 (w.drop 1))).1,0,0,0)
 else bif sEq w0 j0H then (2,zRC,j1T w,0,0)
 else bif sEq w0 j0p then (3,zRC,1,j1T w,0)
 else bif sEq w0 j0j then (3,zRC,2,j1T w,0)
 else bif sEq w0 j0o then (3,zRC,3,j1T w,0)
 else bif sEq w0 j0z then (3,zRC,4,j1T w,j3R w)
 else bif sEq w0 j0I then (4,zRC,j1T w,0,0)
 else bif sEq w0 j0N then (5,zRC,0,0,0)
 else bif sEq w0 j0M then (6,zRC,0,0,0)
 else bif sEq w0 j0L then (7,zRC,0,0,0)
 else zSP
noncomputable def jjv (s:ByteArray) (w:List ByteArray) (w0:ByteArray):SP:=
 bif sEq w0 j0E then (1,(bif decide (4<s.size) then (jb7 (Z9k s 4 (nI s.size))).1 else zRC),0,0,0)
 else bif sEq w0 j0H then (2,zRC,j1T w,0,0)
 else bif sEq w0 j0I then (4,zRC,j1T w,0,0)
 else bif sEq w0 j0N then (5,zRC,0,0,0)
 else bif sEq w0 j0M then (6,zRC,0,0,0)
 else bif sEq w0 j0L then (7,zRC,0,0,0)
 else bif sEq j0z w0 then (3,zRC,4,j1T w,j3R w)
 else bif sEq j0o w0 then (3,zRC,3,j1T w,j3R w)
 else bif sEq j0j w0 then (3,zRC,2,j1T w,j3R w)
 else bif sEq j0p w0 then (3,zRC,1,j1T w,j3R w)
 else zSP
theorem jpk {r:RC} {s:ByteArray} (hr:j2a r=true) (he:j3G (1,r,0,0,0)=s):s=j02 (j0E::j1U r):=by
 rw [<-he]
 unfold j3G j6Z
 dsimp only
 rw [show ((1:Int)==1)=true from rfl,cond_true,hr]
 rfl
theorem js5 {s:ByteArray} (hs:s.size<=1048576) {x:SP} (hx:j6Z x=true) (he:j3G x=s) {w0:ByteArray} {r:List ByteArray} (hw:j08 32 s=w0::r):jju s (w0::r) w0=x:=by
 have hp:=jhm hx he
 rw [hw] at hp
 have tn:∀ {n:Int},okN n=true->(j0X (j04 n)).1=n:=λ{n} h=>by rw [jey (jrY h)]
 unfold jju
 rcases jbn hx with ⟨r',rfl,hr⟩ | ⟨n,rfl,ho⟩ | ⟨n,rfl,ho⟩ | ⟨n,rfl,ho⟩ | ⟨n,rfl,ho⟩ | ⟨n,m,rfl,ho,hm⟩ | ⟨n,rfl,ho⟩ | rfl | rfl | rfl
 ·have hp:w0::r=j0E::j1U r':=hp
  obtain ⟨rfl,rfl⟩:=List.cons.inj hp
  have hsr:=jpk hr he
  have hsz:=jdN j0E (j1U r')
  rw [<-hsr] at hsz
  rw [Z8L,cond_true]
  show (1,(jb7 (j02 (j1U r'))).1,0,0,0)=_
  rw [jrJ hr (jeV hr) (by omega)]
 ·have hp:w0::r=[j0H,j04 n]:=hp
  obtain ⟨rfl,rfl⟩:=List.cons.inj hp
  rw [j01 (show Z19 j0H≠Z19 j0E by decide),cond_false,Z8L,cond_true]
  show (2,zRC,(j0X (j04 n)).1,0,0)=_
  rw [tn ho]
 ·have hp:w0::r=[j0p,j04 n]:=hp
  obtain ⟨rfl,rfl⟩:=List.cons.inj hp
  rw [j01 (show Z19 j0p≠Z19 j0E by decide),cond_false,j01 (show Z19 j0p≠Z19 j0H by decide),cond_false,Z8L,cond_true]
  show (3,zRC,1,(j0X (j04 n)).1,0)=_
  rw [tn ho]
 ·have hp:w0::r=[j0j,j04 n]:=hp
  obtain ⟨rfl,rfl⟩:=List.cons.inj hp
  rw [j01 (show Z19 j0j≠Z19 j0E by decide),cond_false,j01 (show Z19 j0j≠Z19 j0H by decide),cond_false,j01 (show Z19 j0j≠Z19 j0p by decide),cond_false,Z8L,cond_true]
  show (3,zRC,2,(j0X (j04 n)).1,0)=_
  rw [tn ho]
 ·have hp:w0::r=[j0o,j04 n]:=hp
  obtain ⟨rfl,rfl⟩:=List.cons.inj hp
  rw [j01 (show Z19 j0o≠Z19 j0E by decide),cond_false,j01 (show Z19 j0o≠Z19 j0H by decide),cond_false,j01 (show Z19 j0o≠Z19 j0p by decide),cond_false,j01 (show Z19 j0o≠Z19 j0j by decide),cond_false,Z8L,cond_true]
  show (3,zRC,3,(j0X (j04 n)).1,0)=_
  rw [tn ho]
 ·have hp:w0::r=[j0z,j04 n,j04 m]:=hp
  obtain ⟨rfl,rfl⟩:=List.cons.inj hp
  rw [j01 (show Z19 j0z≠Z19 j0E by decide),cond_false,j01 (show Z19 j0z≠Z19 j0H by decide),cond_false,j01 (show Z19 j0z≠Z19 j0p by decide),cond_false,j01 (show Z19 j0z≠Z19 j0j by decide),cond_false,j01 (show Z19 j0z≠Z19 j0o by decide),cond_false,Z8L,cond_true]
  show (3,zRC,4,(j0X (j04 n)).1,(j0X (j04 m)).1)=_
  rw [tn ho,tn hm]
 ·have hp:w0::r=[j0I,j04 n]:=hp
  obtain ⟨rfl,rfl⟩:=List.cons.inj hp
  rw [j01 (show Z19 j0I≠Z19 j0E by decide),cond_false,j01 (show Z19 j0I≠Z19 j0H by decide),cond_false,j01 (show Z19 j0I≠Z19 j0p by decide),cond_false,j01 (show Z19 j0I≠Z19 j0j by decide),cond_false,j01 (show Z19 j0I≠Z19 j0o by decide),cond_false,j01 (show Z19 j0I≠Z19 j0z by decide),cond_false,Z8L,cond_true]
  show (4,zRC,(j0X (j04 n)).1,0,0)=_
  rw [tn ho]
 ·have hp:w0::r=[j0N]:=hp
  obtain ⟨rfl,rfl⟩:=List.cons.inj hp
  rw [j01 (show Z19 j0N≠Z19 j0E by decide),j01 (show Z19 j0N≠Z19 j0H by decide),j01 (show Z19 j0N≠Z19 j0p by decide),j01 (show Z19 j0N≠Z19 j0j by decide),j01 (show Z19 j0N≠Z19 j0o by decide),j01 (show Z19 j0N≠Z19 j0z by decide),j01 (show Z19 j0N≠Z19 j0I by decide),Z8L]
  rfl
 ·have hp:w0::r=[j0M]:=hp
  obtain ⟨rfl,rfl⟩:=List.cons.inj hp
  rw [j01 (show Z19 j0M≠Z19 j0E by decide),j01 (show Z19 j0M≠Z19 j0H by decide),j01 (show Z19 j0M≠Z19 j0p by decide),j01 (show Z19 j0M≠Z19 j0j by decide),j01 (show Z19 j0M≠Z19 j0o by decide),j01 (show Z19 j0M≠Z19 j0z by decide),j01 (show Z19 j0M≠Z19 j0I by decide),j01 (show Z19 j0M≠Z19 j0N by decide),Z8L]
  rfl
 ·have hp:w0::r=[j0L]:=hp
  obtain ⟨rfl,rfl⟩:=List.cons.inj hp
  rw [j01 (show Z19 j0L≠Z19 j0E by decide),j01 (show Z19 j0L≠Z19 j0H by decide),j01 (show Z19 j0L≠Z19 j0p by decide),j01 (show Z19 j0L≠Z19 j0j by decide),j01 (show Z19 j0L≠Z19 j0o by decide),j01 (show Z19 j0L≠Z19 j0z by decide),j01 (show Z19 j0L≠Z19 j0I by decide),j01 (show Z19 j0L≠Z19 j0N by decide),j01 (show Z19 j0L≠Z19 j0M by decide),Z8L]
  rfl
theorem js6 {s:ByteArray} (hs:s.size<=1048576) {x:SP} (hx:j6Z x=true) (he:j3G x=s) {w0:ByteArray} {r:List ByteArray} (hw:j08 32 s=w0::r):jjv s (w0::r) w0=x:=by
 have hp:=jhm hx he
 rw [hw] at hp
 have tn:∀ {n:Int},okN n=true->(j0X (j04 n)).1=n:=λ{n} h=>by rw [jey (jrY h)]
 unfold jjv
 rcases jbn hx with ⟨r',rfl,hr⟩ | ⟨n,rfl,ho⟩ | ⟨n,rfl,ho⟩ | ⟨n,rfl,ho⟩ | ⟨n,rfl,ho⟩ | ⟨n,m,rfl,ho,hm⟩ | ⟨n,rfl,ho⟩ | rfl | rfl | rfl
 ·have hp:w0::r=j0E::j1U r':=hp
  obtain ⟨rfl,rfl⟩:=List.cons.inj hp
  have hsr:=jpk hr he
  have hsz:=jdN j0E (j1U r')
  rw [<-hsr] at hsz
  have hne:j1U r'≠[]:=by unfold j1U;exact List.cons_ne_nil _ _
  have h4:4<s.size:=by
   have e:j02 (j0E::j1U r')=j0E++(spB++j02 (j1U r')):=by rw [jaN hne];rfl
   rw [hsr,e]
   simp only [ByteArray.size_append]
   have s1:(j0E).size=3:=rfl
   have s2:spB.size=1:=rfl
   have s3:0<(j02 (j1U r')).size:=by
    have:=jdV hr
    rw [<-j0d]
    cases hb:Z19 (j02 (j1U r')) with
    | nil=>
     have hj:j02 (j1U r')=eS:=j0R hb
     have hh:=jdV hr
     rw [hj,Z8L] at hh
     cases hh
    | cons _ _=>simp
   omega
  have hc:=jtK (j1U r') hne
  rw [<-hsr] at hc
  rw [Z8L,cond_true,decide_eq_true h4,cond_true,hc,jrJ hr (jeV hr) (by omega)]
 ·have hp:w0::r=[j0H,j04 n]:=hp
  obtain ⟨rfl,rfl⟩:=List.cons.inj hp
  rw [j01 (show Z19 j0H≠Z19 j0E by decide),cond_false,Z8L,cond_true]
  show (2,zRC,(j0X (j04 n)).1,0,0)=_
  rw [tn ho]
 ·have hp:w0::r=[j0p,j04 n]:=hp
  obtain ⟨rfl,rfl⟩:=List.cons.inj hp
  rw [j01 (show Z19 j0p≠Z19 j0E by decide),j01 (show Z19 j0p≠Z19 j0H by decide),j01 (show Z19 j0p≠Z19 j0I by decide),j01 (show Z19 j0p≠Z19 j0N by decide),j01 (show Z19 j0p≠Z19 j0M by decide),j01 (show Z19 j0p≠Z19 j0L by decide),j01 (show Z19 j0z≠Z19 j0p by decide),j01 (show Z19 j0o≠Z19 j0p by decide),j01 (show Z19 j0j≠Z19 j0p by decide),Z8L]
  show (3,zRC,1,(j0X (j04 n)).1,0)=_
  rw [tn ho]
 ·have hp:w0::r=[j0j,j04 n]:=hp
  obtain ⟨rfl,rfl⟩:=List.cons.inj hp
  rw [j01 (show Z19 j0j≠Z19 j0E by decide),j01 (show Z19 j0j≠Z19 j0H by decide),j01 (show Z19 j0j≠Z19 j0I by decide),j01 (show Z19 j0j≠Z19 j0N by decide),j01 (show Z19 j0j≠Z19 j0M by decide),j01 (show Z19 j0j≠Z19 j0L by decide),j01 (show Z19 j0z≠Z19 j0j by decide),j01 (show Z19 j0o≠Z19 j0j by decide),Z8L]
  show (3,zRC,2,(j0X (j04 n)).1,0)=_
  rw [tn ho]
 ·have hp:w0::r=[j0o,j04 n]:=hp
  obtain ⟨rfl,rfl⟩:=List.cons.inj hp
  rw [j01 (show Z19 j0o≠Z19 j0E by decide),j01 (show Z19 j0o≠Z19 j0H by decide),j01 (show Z19 j0o≠Z19 j0I by decide),j01 (show Z19 j0o≠Z19 j0N by decide),j01 (show Z19 j0o≠Z19 j0M by decide),j01 (show Z19 j0o≠Z19 j0L by decide),j01 (show Z19 j0z≠Z19 j0o by decide),Z8L]
  show (3,zRC,3,(j0X (j04 n)).1,0)=_
  rw [tn ho]
 ·have hp:w0::r=[j0z,j04 n,j04 m]:=hp
  obtain ⟨rfl,rfl⟩:=List.cons.inj hp
  rw [j01 (show Z19 j0z≠Z19 j0E by decide),j01 (show Z19 j0z≠Z19 j0H by decide),j01 (show Z19 j0z≠Z19 j0I by decide),j01 (show Z19 j0z≠Z19 j0N by decide),j01 (show Z19 j0z≠Z19 j0M by decide),j01 (show Z19 j0z≠Z19 j0L by decide),Z8L]
  show (3,zRC,4,(j0X (j04 n)).1,(j0X (j04 m)).1)=_
  rw [tn ho,tn hm]
 ·have hp:w0::r=[j0I,j04 n]:=hp
  obtain ⟨rfl,rfl⟩:=List.cons.inj hp
  rw [j01 (show Z19 j0I≠Z19 j0E by decide),j01 (show Z19 j0I≠Z19 j0H by decide),Z8L]
  show (4,zRC,(j0X (j04 n)).1,0,0)=_
  rw [tn ho]
 ·have hp:w0::r=[j0N]:=hp
  obtain ⟨rfl,rfl⟩:=List.cons.inj hp
  rw [j01 (show Z19 j0N≠Z19 j0E by decide),j01 (show Z19 j0N≠Z19 j0H by decide),j01 (show Z19 j0N≠Z19 j0I by decide),Z8L]
  rfl
 ·have hp:w0::r=[j0M]:=hp
  obtain ⟨rfl,rfl⟩:=List.cons.inj hp
  rw [j01 (show Z19 j0M≠Z19 j0E by decide),j01 (show Z19 j0M≠Z19 j0H by decide),j01 (show Z19 j0M≠Z19 j0I by decide),j01 (show Z19 j0M≠Z19 j0N by decide),Z8L]
  rfl
 ·have hp:w0::r=[j0L]:=hp
  obtain ⟨rfl,rfl⟩:=List.cons.inj hp
  rw [j01 (show Z19 j0L≠Z19 j0E by decide),j01 (show Z19 j0L≠Z19 j0H by decide),j01 (show Z19 j0L≠Z19 j0I by decide),j01 (show Z19 j0L≠Z19 j0N by decide),j01 (show Z19 j0L≠Z19 j0M by decide),Z8L]
  rfl
theorem jnk (s:ByteArray):(Z9k s 4 (nI s.size)).size<=s.size:=by
 rw [<-j0d,<-j0d s]
 unfold nI
 rw [show (4:Int)=((4:Nat):Int) from rfl,jav,List.length_drop,List.length_take]
 omega
noncomputable def jjw (w:List ByteArray) (w0:ByteArray):SP:=
 bif sEq j0z w0 then (3,zRC,4,j1T w,j3R w)
 else bif sEq j0o w0 then (3,zRC,3,j1T w,j3R w)
 else bif sEq j0j w0 then (3,zRC,2,j1T w,j3R w)
 else bif sEq j0p w0 then (3,zRC,1,j1T w,j3R w)
 else zSP
theorem jjx (w:List ByteArray) {w0:ByteArray} (h:Z19 j0z≠Z19 w0/\Z19 j0o≠Z19 w0/\Z19 j0j≠Z19 w0/\Z19 j0p≠Z19 w0):jjw w w0=zSP:=by
 unfold jjw
 rw [j01 h.1,j01 h.2.1,j01 h.2.2.1,j01 h.2.2.2]
 rfl
theorem jtw (s:ByteArray) (w:List ByteArray) (w0:ByteArray):jjv s w w0 =
  bif sEq w0 j0E then (1,(bif decide (4<s.size) then (jb7 (Z9k s 4 (nI s.size))).1 else zRC),0,0,0)
  else bif sEq w0 j0H then (2,zRC,j1T w,0,0)
  else bif sEq w0 j0I then (4,zRC,j1T w,0,0)
  else bif sEq w0 j0N then (5,zRC,0,0,0)
  else bif sEq w0 j0M then (6,zRC,0,0,0)
  else bif sEq w0 j0L then (7,zRC,0,0,0)
  else jjw w w0:=rfl
theorem jtJ (s:ByteArray) (hs:s.size<=1048576) (w:List ByteArray) (w0:ByteArray) (K:SP->Res):j2E s [j1T w,j3R w] w0 (jjw w w0) K=K (jjv s w w0):=by
 rw [jtw]
 unfold j2E
 have i0:inb 0 ([j1T w,j3R w]:List Int).length=true:=rfl
 have n0:nth 0 ([j1T w,j3R w]:List Int) 0=j1T w:=rfl
 rw [i0,n0]
 simp only [cond_true]
 cases h1:sEq w0 j0E
 ·simp only [cond_false]
  cases h2:sEq w0 j0H
  ·simp only [cond_false]
   cases h3:sEq w0 j0I
   ·simp only [cond_false]
    cases h4:sEq w0 j0N
    ·simp only [cond_false]
     cases h5:sEq w0 j0M
     ·simp only [cond_false]
      cases h6:sEq w0 j0L
      ·rfl
      ·rw [(j0t _ _).1 h6,jjx w (by decide)];rfl
     ·rw [(j0t _ _).1 h5,jjx w (by decide)];rfl
    ·rw [(j0t _ _).1 h4,jjx w (by decide)];rfl
   ·rfl
  ·rfl
 ·rw [(j0t _ _).1 h1,jjx w (by decide)]
  simp only [cond_true]
  by_cases h4:4<s.size
  ·rw [decide_eq_true (show nI s.size>4 by unfold nI;omega),decide_eq_true h4]
   simp only [cond_true]
   have hc:Z6R 4 (nI s.size) s.size=true:=j4x (i:=4) (by omega)
   rw [hc,cond_true,jsD _ (Nat.le_trans (jnk s) hs)]
  ·rw [decide_eq_false (show ¬ nI s.size>4 by unfold nI;omega),decide_eq_false h4]
   rfl
theorem jta (s:ByteArray) (x:SP) (hx:j2G x.2.1.2.2) (k:SP->Bool->Res):j2F s x (λt t1=>k t1 t)=bif sEq s eS then k zSP false else bif sNe (j3G x) s then k zSP false else k x true:=by
 unfold j2F
 rw [jrq x hx]
theorem jsX (s:ByteArray) (x:SP) (hx:j2G x.2.1.2.2) (k:SP->Bool->Res):j5x s x (λt t1=>k t1 t)=bif sEq s eS then k zSP false else bif sNe (j3G x) s then k zSP false else k x true:=by
 unfold j5x
 rw [jri x hx]
theorem j1w {c:Bool} {a b:SP} (ha:j2G a.2.1.2.2) (hb:j2G b.2.1.2.2):j2G (bif c then a else b).2.1.2.2:=by cases c<;>assumption
theorem jte {s:ByteArray} (hs:s.size<=1048576) (w:List ByteArray) (w0:ByteArray):j2G (jjv s w w0).2.1.2.2:=by
 have z:∀ (k a b c:Int),j2G ((k,zRC,a,b,c):SP).2.1.2.2:=λ_ _ _ _=>j8d
 unfold jjv
 refine j1w ?_ (j1w (z _ _ _ _) (j1w (z _ _ _ _) (j1w (z _ _ _ _) (j1w (z _ _ _ _) (j1w (z _ _ _ _) (j1w (z _ _ _ _) (j1w (z _ _ _ _) (j1w (z _ _ _ _) (j1w (z _ _ _ _) (z _ _ _ _))))))))))
 show j2G (bif decide (4<s.size) then (jb7 (Z9k s 4 (nI s.size))).1 else zRC).2.2
 cases decide (4<s.size)
 ·exact j8d
 ·exact jrK (Nat.le_trans (jnk s) hs)
theorem jtd {s:ByteArray} (hs:s.size<=1048576) {w0:ByteArray} {r:List ByteArray} (hw:j08 32 s=w0::r):j2G (jju s (w0::r) w0).2.1.2.2:=by
 have z:∀ (k a b c:Int),j2G ((k,zRC,a,b,c):SP).2.1.2.2:=λ_ _ _ _=>j8d
 unfold jju
 refine j1w ?_ (j1w (z _ _ _ _) (j1w (z _ _ _ _) (j1w (z _ _ _ _) (j1w (z _ _ _ _) (j1w (z _ _ _ _) (j1w (z _ _ _ _) (j1w (z _ _ _ _) (j1w (z _ _ _ _) (j1w (z _ _ _ _) (z _ _ _ _))))))))))
 have hj:=jaG s
 rw [hw] at hj
 have:=jdN w0 r
 rw [hj] at this
 exact jrK (s:=j02 r) (by omega)
theorem jrb {s:ByteArray} {x:SP} (hb:∀ y,j6Z y=true->j3G y=s->x=y) (k:SP->Bool->Res):(bif sEq s eS then k zSP false else bif sNe (j3G x) s then k zSP false else k x true)=k (j7v s).1 (j7v s).2:=by
 by_cases he:s=eS
 ·subst he
  rw [Z8L,cond_true,jtj]
 ·have:sEq s eS=false:=by
   cases h:sEq s eS
   ·rfl
   ·exact absurd ((j0t _ _).1 h) he
  rw [this,cond_false]
  exact jdx x hb (λh=>jtg h he) k
theorem jr9 (s:ByteArray) (hs:s.size<=1048576) (k:SP->Bool->Res):j98 s k=k (j7v s).1 (j7v s).2:=by
 unfold j98
 rw [j5K s (by omega)]
 have hws:∀ x∈j08 32 s,x.size<=1048576:=λx hx=>Nat.le_trans (j3k 32 s x hx) hs
 have hwl:=j4d 32 s
 obtain ⟨w0,r,hw⟩:=jhe 32 s
 rw [hw] at hws hwl ⊢
 rw [jtu _ hws (by omega)]
 unfold jbP
 have hlen:(w0::r).length=r.length+1:=rfl
 have e0:nth eS (w0::r) 0=w0:=rfl
 have i0:inb 0 (w0::r).length=true:=Z9c (by omega) (by omega)
 have j0:inb 0 ([j1T (w0::r),j3R (w0::r)]:List Int).length=true:=rfl
 have j1:inb 1 ([j1T (w0::r),j3R (w0::r)]:List Int).length=true:=rfl
 have key:=Z8q 5 (λi x=>(i,x)) (λi (x:SP)=>bif decide (0<i)&&sEq (nth eS [eS,j0p,j0j,j0o,j0z] (i:Int)) w0 then (3,zRC,(i:Int),j1T (w0::r),j3R (w0::r)) else x) (λ_ _=>True) (step:=j6V (w0::r) [j1T (w0::r),j3R (w0::r)] [eS,j0p,j0j,j0o,j0z] 5)
  (λ(x:SP)=>bif inb 0 (w0::r).length then j2E s [j1T (w0::r),j3R (w0::r)] (nth eS (w0::r) 0) x λ(x1:SP)=>j2F s x1 λ(t:Bool) (t1:SP)=>k t1 t else none)
  (λ(x:SP)=>bif inb 0 (w0::r).length then j2E s [j1T (w0::r),j3R (w0::r)] (nth eS (w0::r) 0) x λ(x1:SP)=>j2F s x1 λ(t:Bool) (t1:SP)=>k t1 t else none)
  zSP (by unfold LIM;omega) trivial (λ_ _ _ _=>trivial) (λi x rec hi _=>by
   show j4g _ _ _ _ _ _ _ _=_
   unfold j4g
   dsimp only
   rw [decide_eq_true (show (i:Int)<5 by omega),cond_true,show inb (i:Int) ([eS,j0p,j0j,j0o,j0z]:List ByteArray).length=true from Z9c (by omega) (by show (i:Int)<((5:Nat):Int);omega),cond_true,j03 (n:=(i:Int)+1) (by omega)]
   by_cases h0:0<i
   ·rw [decide_eq_true (show (i:Int)>0 by omega),cond_true,i0,cond_true,decide_eq_true h0,Bool.true_and,e0,j0,j1]
    simp only [cond_true]
    cases sEq (nth eS [eS,j0p,j0j,j0o,j0z] (i:Int)) w0<;>rfl
   ·rw [decide_eq_false (show ¬ (i:Int)>0 by omega),cond_false,decide_eq_false h0];rfl) (λx rec _=>by
   show j4g _ _ _ _ _ _ _ _=_
   unfold j4g
   rfl)
 refine Eq.trans key.1 ?_
 have ef:Z4T (λi (x:SP)=>bif decide (0<i)&&sEq (nth eS [eS,j0p,j0j,j0o,j0z] (i:Int)) w0 then (3,zRC,(i:Int),j1T (w0::r),j3R (w0::r)) else x) 0 5 zSP=jjw (w0::r) w0:=by
  unfold jjw
  simp only [Z4T]
  have q1:nth eS [eS,j0p,j0j,j0o,j0z] ((0+1:Nat):Int)=j0p:=rfl
  have q2:nth eS [eS,j0p,j0j,j0o,j0z] ((0+1+1:Nat):Int)=j0j:=rfl
  have q3:nth eS [eS,j0p,j0j,j0o,j0z] ((0+1+1+1:Nat):Int)=j0o:=rfl
  have q4:nth eS [eS,j0p,j0j,j0o,j0z] ((0+1+1+1+1:Nat):Int)=j0z:=rfl
  rw [q1,q2,q3,q4]
  cases sEq j0p w0<;>cases sEq j0j w0<;>cases sEq j0o w0<;>cases sEq j0z w0<;>rfl
 rw [ef,i0,cond_true,e0,jtJ s hs,jta s _ (jte hs _ _)]
 exact jrb (λx hx he=>js6 hs hx he hw) k
theorem jqW (s:ByteArray) (hs:s.size<=1048576) (k:SP->Bool->Res):j8X s k=k (j7v s).1 (j7v s).2:=by
 unfold j8X
 rw [jct s (by omega)]
 have hws:∀ x∈j08 32 s,x.size<=1048576:=λx hx=>Nat.le_trans (j3k 32 s x hx) hs
 have hwl:=j4d 32 s
 obtain ⟨w0,r,hw⟩:=jhe 32 s
 rw [hw] at hws hwl ⊢
 rw [jtp _ hws (by omega)]
 have hlen:(w0::r).length=r.length+1:=rfl
 have e0:nth eS (w0::r) 0=w0:=rfl
 have i0:inb 0 (w0::r).length=true:=Z9c (by omega) (by omega)
 have j0:inb 0 ([j1T (w0::r),j3R (w0::r)]:List Int).length=true:=rfl
 have j1:inb 1 ([j1T (w0::r),j3R (w0::r)]:List Int).length=true:=rfl
 have n0:nth 0 ([j1T (w0::r),j3R (w0::r)]:List Int) 0=j1T (w0::r):=rfl
 have n1:nth 0 ([j1T (w0::r),j3R (w0::r)]:List Int) 1=j3R (w0::r):=rfl
 have hj:=jaG s
 rw [hw] at hj
 have hd:=jdN w0 r
 rw [hj] at hd
 rw [i0,cond_true,e0]
 have sw:∀ K:SP->Res,j5w (w0::r) [j1T (w0::r),j3R (w0::r)] w0 zSP K=K (jju s (w0::r) w0):=λK=>by
  have hb:=jhM (w0::r) 1 (by show (j02 r).size<=LIM;unfold LIM;omega) (by omega)
  have hb:∀ k,j7a (w0::r) 1 k=k (j02 r):=hb
  unfold j5w jju
  rw [hb,jsn _ (by omega),j0,j1,n0,n1]
  simp only [cond_true]
  cases sEq w0 j0E
  ·cases sEq w0 j0H
   ·cases sEq w0 j0p
    ·cases sEq w0 j0j
     ·cases sEq w0 j0o
      ·cases sEq w0 j0z
       ·cases sEq w0 j0I
        ·cases sEq w0 j0N
         ·cases sEq w0 j0M
          ·cases sEq w0 j0L<;>rfl
          ·rfl
         ·rfl
        ·rfl
       ·rfl
      ·rfl
     ·rfl
    ·rfl
   ·rfl
  ·rfl
 rw [sw,jsX s _ (jtd hs hw)]
 exact jrb (λx hx he=>js5 hs hx he hw) k
end Go.PI.G
namespace Go.PI.G
open Go Go.PI
abbrev yRC:Ty:= .pair (.int .i64) (.pair (.int .i64) yST)
abbrev ySP:Ty:= .pair (.int .i64) (.pair yRC (.pair (.int .i64) (.pair (.int .i64) (.int .i64))))
end Go.PI.G
namespace Go.PI.G
open Go Go.PI
theorem jtm {v:V} (h:j0w v=true):msr yV v<=30:=by
 have e:msr yV v=0+(0+v.2.2.size):=rfl
 have:=jsO h
 omega
theorem jev {e:Ty} (c:Nat):(l:List (El e))->(∀ x∈l,msr e x<=c)->msr (.slice e) l<=l.length * (c+1)
 | [],_=>Nat.zero_le _
 | x::l,h=>by
  have h1:=jev c l λy hy=>h y (List.mem_cons_of_mem _ hy)
  have h2:=h x (by simp)
  rw [jsq] at h1 ⊢
  simp only [List.map_cons,List.sum_cons,List.length_cons]
  rw [Nat.succ_mul]
  omega
theorem jfF {l:List V} (h:j1Z l=true):msr (.slice yV) l<=248:=by
 have hp:=j0x h
 have h1:=jev (e:=yV) 30 l λv hv=>jtm (hp.2.2 v hv)
 have h2:l.length * 31<=8 * 31:=Nat.mul_le_mul_right _ hp.2.1
 omega
theorem jqY {c:C} (h:j1G c=true):msr yC c<=38:=by
 have e:msr yC c=c.1.size+(0+(0+(0+msr yV c.2.2.2.2))):=rfl
 unfold j1G at h
 simp only [Bool.and_eq_true] at h
 have h1:=j0n h.1
 have h2:=jtm h.2.2.1
 omega
theorem jsc {l:List C} (h:jch l=true) {c:C} (hc:c∈l):j1G c=true:=by
 obtain ⟨i,hi,rfl⟩:=List.getElem_of_mem hc
 exact j8b h i hi
theorem jsb {l:List C} {n:ByteArray} (h:0<=j19 l n):∃ c∈l,c.1=n:=by
 unfold j19 Z8b at h
 cases hf:List.findIdx? (λc:C=>sEq c.1 n) l with
 | none=>rw [hf] at h;dsimp only at h;omega
 | some i=>
  obtain ⟨hi,hp,_⟩:=List.findIdx?_eq_some_iff_getElem.1 hf
  exact ⟨l[i],List.getElem_mem hi,(j0t _ _).1 hp⟩
theorem jpi {l:List C}:(ks:List ByteArray)->(last:Int)->last<(l.length:Int)->j6K l last ks=true->last+(ks.length:Int)<(l.length:Int)
 | [],last,h0,_=>by simpa using h0
 | q::ks,last,h0,h=>by
  simp only [j6K,Bool.and_eq_true,Bool.not_eq_true',decide_eq_false_iff_not] at h
  have h1:=jpi ks (j19 l q) (jbe l q).2 h.2.2
  rw [List.length_cons]
  omega
theorem jt3 {t:ByteArray} {cs:List C} {ks:List ByteArray} (h:jfa (t,cs,ks)=true):t.size<=8/\msr (.slice yC) cs<=312/\msr (.slice .str) ks<=72:=by
 have hp:=j2C h
 dsimp only at hp
 have hc:∀ c∈cs,j1G c=true:=λc hc=>jsc hp.2.2.2.2.1 hc
 have h1:=jev (e:=yC) 38 cs λc h=>jqY (hc c h)
 have h2:cs.length * 39<=8 * 39:=Nat.mul_le_mul_right _ hp.2.2.1
 have hk:=jeR ks (-1) (by omega) hp.2.2.2.2.2
 have hl:=jpi ks (-1) (by omega) hp.2.2.2.2.2
 have h3:=jev (e:= .str) 8 ks λk hm=>by
  obtain ⟨c,hcm,he⟩:=jsb (hk k hm).1
  have hb:=hc c hcm
  unfold j1G at hb
  rw [Bool.and_eq_true] at hb
  have:=(j0n hb.1).2
  rw [he] at this
  exact this
 have h4:ks.length * 9<=8 * 9:=Nat.mul_le_mul_right _ (by omega)
 exact ⟨(j0n hp.1).2,by omega,by omega⟩
theorem jt1 {d:D} (h:j26 d=true):msr yD d<=500:=by
 have e:∀ d:D,msr yD d=0+(d.2.1.size+(msr (.slice yC) d.2.2.1+(msr (.slice .str) d.2.2.2.1+(d.2.2.2.2.1.size+d.2.2.2.2.2.size)))):=λ_=>rfl
 have z1:msr (.slice yC) ([]:List C)=0:=rfl
 have z2:msr (.slice .str) ([]:List ByteArray)=0:=rfl
 have z3:eS.size=0:=rfl
 rw [e]
 obtain ⟨ht,hc⟩:=j59 h
 have ht:=(j0n ht).2
 rcases hc with ⟨t,cs,ks,rfl,hb⟩ | ⟨t,rfl⟩ | ⟨t,c,rfl,hb⟩ | ⟨t,n,rfl,hb⟩ | ⟨t,n,m,rfl,hb,hb2⟩
 ·have:=jt3 hb
  dsimp only at *
  omega
 ·dsimp only at *
  omega
 ·have h1:=jev (e:=yC) 38 [c] λx hx=>by rw [List.mem_singleton.1 hx];exact jqY hb
  have h2:[c].length * (38+1)=39:=rfl
  dsimp only at *
  omega
 ·have:=(j0n hb).2
  dsimp only at *
  omega
 ·have:=(j0n hb).2
  have:=(j0n hb2).2
  dsimp only at *
  omega
theorem jtq {s:ST} (h:stB s=true):msr yST s<=1100:=by
 have e:∀ s:ST,msr yST s=0+(s.2.1.size+(msr (.slice yV) s.2.2.1+(msr (.slice yV) s.2.2.2.1+msr yD s.2.2.2.2))):=λ_=>rfl
 have z1:msr (.slice yV) ([]:List V)=0:=rfl
 have z2:msr yD zD=0:=rfl
 rw [e]
 obtain ⟨ht,hc⟩:=jan h
 have ht:=(j0n ht).2
 rcases hc with ⟨t,r,rfl,hb⟩ | ⟨t,q,r,rfl,hb,hb2⟩ | ⟨t,q,rfl,hb⟩ | ⟨t,rfl⟩ | ⟨d,rfl,hb⟩
 ·have:=jfF hb
  dsimp only at *
  omega
 ·have:=jfF hb
  have:=jfF hb2
  dsimp only at *
  omega
 ·have:=jfF hb
  dsimp only at *
  omega
 ·dsimp only at *
  omega
 ·have:=jt1 hb
  dsimp only at *
  omega
end Go.PI.G
namespace Go.PI.G
open Go Go.PI Go.Proofs
theorem jt2 {r:RC} (h:j2a r=true):msr yRC r<=1100:=by
 have e:msr yRC r=0+(0+msr yST r.2.2):=rfl
 obtain ⟨_,_,h | h⟩:=j6P h
 ·have:=jtq h.2
  omega
 ·have z:msr yST zST=0:=rfl
  rw [h.2] at e
  omega
theorem jsr {s:SP} (h:j6Z s=true):msr ySP s<=1100:=by
 have e:∀ s:SP,msr ySP s=0+(msr yRC s.2.1+(0+(0+0))):=λ_=>rfl
 have z:msr yRC zRC=0:=rfl
 rw [e]
 rcases jbn h with ⟨r,rfl,hr⟩ | ⟨n,rfl,ho⟩ | ⟨n,rfl,ho⟩ | ⟨n,rfl,ho⟩ | ⟨n,rfl,ho⟩ | ⟨n,m,rfl,ho,hm⟩ | ⟨n,rfl,ho⟩ | rfl | rfl | rfl
 ·have:=jt2 hr
  dsimp only at *
  omega
 all_goals (dsimp only at *;omega)
theorem jsK (s:ByteArray):msr ySP (j7v s).1<=1100:=by
 cases h:(j7v s).2
 ·have e:(j7v s).1=zSP:=(jnR h).1
  rw [e]
  exact Nat.zero_le _
 ·exact jsr (jjb h).1
end Go.PI.G
namespace Go.PI.G
open Go Go.PI Go.Proofs
theorem jhN (k:ByteArray->Res):∀ (m n d:Nat) (s:ByteArray),n<m->0<n->n<=4294967296->n<10 ^ (d+1)->s.size+d<=1000 ->
  Z10 j4b m ((n:Int),s) k=k (jgY n++s)
 | 0,n,d,s,h,_,_,_,_=>by omega
 | m+1,n,d,s,h,hn,hb,hd,hs=>by
  rw [Z8u]
  show j4a _ _ _ _=_
  unfold j4a
  have h9:decide ((n:Int)>0)=true:=decide_eq_true (by omega)
  rw [h9,cond_true,jmB,jmC,Z9b (n:=((n / 10:Nat):Int)) (by omega) (by omega)]
  show (bif lim ((dgt ((n % 10:Nat):Int)).size+s.size) then Z10 j4b m (((n / 10:Nat):Int),dgt ((n % 10:Nat):Int)++s) k else none)=_
  rw [jeG,Z9d (by unfold LIM;omega),cond_true]
  by_cases h1:n<10
  ·have h10:n / 10=0:=by omega
   have h11:n % 10=n:=by omega
   rw [h10,h11,joF h1]
   obtain ⟨m,rfl⟩:∃ e,m=e+1:=⟨m-1,by omega⟩
   rw [Z8u]
   show j4a _ _ _ _=_
   unfold j4a
   have h0:decide (((0:Nat):Int)>0)=false:=decide_eq_false (by omega)
   rw [h0,cond_false]
  ·obtain ⟨d,rfl⟩:∃ e,d=e+1:=by
    cases d with
    | zero=>exact absurd (by simpa using hd) h1
    | succ d=>exact ⟨d,rfl⟩
   rw [jhN k m (n / 10) d _ (by omega) (by omega) (by omega) (Nat.div_lt_of_lt_mul (by rw [Nat.pow_succ] at hd;omega)) (by rw [ByteArray.size_append,jeG];omega),jrw h1,ByteArray.append_assoc]
theorem j5j (k:Int) (h:1<=k/\k<=4294967296) (K:ByteArray->Res):j0r k K=K (mT k):=by
 unfold j0r jbL
 have h0:decide (k<=0)=false:=decide_eq_false (by omega)
 have:=jhN (λ(out:ByteArray)=>bif lim (1+(ByteArray.size out)) then K (z_m++out) else none) Z0Y k.toNat 12 eS (Z1O (by omega)) (by omega) (by omega) (by omega) (by show 0+12<=1000;omega)
 rw [show ((k.toNat:Nat):Int)=k by omega,j3b] at this
 rw [h0,cond_false]
 refine this.trans ?_
 have hs:=jp9 12 k.toNat (by omega)
 rw [Z9d (by unfold LIM;omega),cond_true]
 rfl
end Go.PI.G
set_option maxRecDepth 10000
namespace Go.PI.G
open Go Go.PI Go.Proofs
theorem jqR (a:Int×Int×ByteArray) (h:msr y2 a<=1048576) (k:Bool->Res):jaI a a k=k true:=by
 unfold jaI
 simp only [Z9g,Z8M,beq_self_eq_true,cond_false,Bool.not_true]
end Go.PI.G
namespace Go.PI.G
open Go Go.PI Go.Proofs
theorem jsR (a:ByteArray×Int×Bool×Bool×Int×Int×ByteArray) (h:msr y7 a<=1048576) (k:Bool->Res):jcz a a k=k true:=by
 have h4:msr y2 a.2.2.2.2<=1048576:=(Nat.le_trans (@j06 .bool y2 a.2.2.2) (Nat.le_trans (@j06 .bool y4 a.2.2) (Nat.le_trans (@j06 (.int .i64) y5 a.2) (Nat.le_trans (@j06 .str y6 a) h))))
 unfold jcz
 simp only [Z9g,Z8M,beq_self_eq_true,cond_false,Bool.not_true,jqR _ h4]
end Go.PI.G
namespace Go.PI.G
open Go Go.PI Go.Proofs
theorem jsd (a:(List (ByteArray×Int×Bool×Bool×Int×Int×ByteArray))) (h:msr y8 a<=1048576) (k:Bool->Res):jbf a a k=k true:=by
 have hl:a.length<=1048576:=j6h h
 unfold jbf
 rw [Z9g,cond_false]
 unfold jdv
 rw [Z8V a _ (by unfold LIM;omega) (λi rec hi=> ?_) (λrec=> ?_)]
 ·show j5C a a _ _ _ _=_
  unfold j5C
  simp only [Z9i hi,cond_true,j0i hi,Z92 _ _ _ hi,j03 (n:=(i:Int)+1) (by omega),Z9g,Z8M,cond_false,Bool.not_true,jsR _ (j86 h (List.getElem_mem hi))]
 ·show j5C a a _ _ _ _=_
  unfold j5C
  rw [Z9h,cond_false]
theorem jrn (a:(List (ByteArray×Int×Bool×Bool×Int×Int×ByteArray))) (k:Int) (h:msr y8 a<=1048576) (h0:1<=k) (hk:k+(wgt y8 a:Int)<=4294967296) (K:Int->(List (ByteArray×Int×Bool×Bool×Int×Int×ByteArray))->Res):j91 a k K=K (k+(wgt y8 a:Int)) (mkL (wgt y7) (mk y7) a k):=by
 have hl:a.length<=1048576:=j6h h
 have hwg:wgt y8 a=(a.map (wgt y7)).sum:=rfl
 rw [hwg] at hk ⊢
 unfold j91 jbK
 have:=Z8v (wgt y7) (mk y7) a k (λl k i=>(l,k,i)) (step:=j6N) (λl k=>K k l) (λl k=>K k l) (by unfold LIM;omega) (λl i rec hi hll hli hla=>by
  have e1:=Z6k (wgt y7) a i hi
  have e2:=Z8h (wgt y7) a (i+1)
  generalize hκ:k+((((a.take i).map (wgt y7)).sum:Nat):Int)=κ
  have hκ1:1<=κ/\κ+(wgt y7 a[i]:Int)<=4294967296:=by omega
  have hw:(wgt y7 a[i]:Int)=1+1+1+1+1+1+1:=by
   have:wgt y7 a[i]=1+1+1+1+1+1+1:=by first | rfl | (simp only [wgt];done) | (simp only [wgt];omega)
   first | rfl | omega
  show j49 _ _ _ _ _=_
  dsimp only
  unfold j49 j5F j5G j5H
  rw [<-hll] at hi
  have hi':i<a.length:=by omega
  simp (disch:=first | assumption | omega) only [show nI a.length=nI l.length by rw [hll],Z9i,j0i,jjz,cond_true,jjr,jjA,Z92,hla,j03,j5j,<-hll]
  rw [Z99]
  congr 3<;>first | rfl | omega | (simp only [j6g,j4z,j92,jby,j6f,j93,j4B,j6l,j4A,j6m,Int.natCast_add,Int.natCast_one,<-Int.add_assoc];done) | (simp only [j6g,j4z,j92,jby,j6f,j93,j4B,j6l,j4A,j6m,Int.natCast_add,Int.natCast_one,<-Int.add_assoc];rfl) | skip) (λl k rec hll=>by
  show j49 _ _ _ _ _=_
  dsimp only
  unfold j49 j5F j5G j5H
  rw [<-hll,Z9h,cond_false])
 exact this
theorem jrf (a:(List (ByteArray×Int×Bool×Bool×Int×Int×ByteArray))) (k:Int) (h:msr y8 a<=1048576) (h0:1<=k) (hk:k+(wgt y8 a:Int)<=4294967296) (K:Int->Res):j90 (mkL (wgt y7) (mk y7) a k) k K=K (k+(wgt y8 a:Int)):=by
 have hl:a.length<=1048576:=j6h h
 have hwg:wgt y8 a=(a.map (wgt y7)).sum:=rfl
 rw [hwg] at hk ⊢
 have hll:=Z5l (wgt y7) (mk y7) a k
 have hg:=Z8Y (wgt y7) (mk y7) a k
 generalize mkL (wgt y7) (mk y7) a k=l at hll hg
 unfold j90 jbI
 have:=Z8s (wgt y7) a k (λk i=>(k,i)) (step:=j6L l) ((λ(k_1:Int)=>K k_1),(λ(_:Unit)=>K (-1))) (λk=>K k) (by unfold LIM;omega) (λi rec hi=>by
  have e1:=Z6k (wgt y7) a i hi
  have e2:=Z8h (wgt y7) a (i+1)
  have hgi:=hg i hi (by omega)
  generalize hκ:k+((((a.take i).map (wgt y7)).sum:Nat):Int)=κ at hgi
  have hκ1:1<=κ/\κ+(wgt y7 a[i]:Int)<=4294967296:=by omega
  have hw:(wgt y7 a[i]:Int)=1+1+1+1+1+1+1:=by
   have:wgt y7 a[i]=1+1+1+1+1+1+1:=by first | rfl | (simp only [wgt];done) | (simp only [wgt];omega)
   first | rfl | omega
  show j47 _ _ _ _ _ _=_
  dsimp only
  unfold j47
  have hi':i<l.length:=by omega
  simp (disch:=first | assumption | omega) only [Z9i,j0i,cond_true,cond_false,Z92,hgi,j6g,j4z,j92,jby,j6f,j93,j4B,j6l,j4A,j6m,Int.natCast_add,Int.natCast_one,<-Int.add_assoc,j03,j5j,Z9g,Z8M,beq_self_eq_true,Bool.not_true,Z8A]
  all_goals (congr 2;omega)) (λk rec=>by
  show j47 _ _ _ _ _ _=_
  dsimp only
  unfold j47
  rw [<-hll,Z9h,cond_false])
 exact this
end Go.PI.G
namespace Go.PI.G
open Go Go.PI Go.Proofs
theorem jqQ (a:(List ByteArray)) (h:msr y9 a<=1048576) (k:Bool->Res):j84 a a k=k true:=by
 have hl:a.length<=1048576:=j6h h
 unfold j84
 rw [Z9g,cond_false]
 unfold jb2
 rw [Z8V a _ (by unfold LIM;omega) (λi rec hi=> ?_) (λrec=> ?_)]
 ·show j3J a a _ _ _ _=_
  unfold j3J
  simp only [Z9i hi,cond_true,j0i hi,Z92 _ _ _ hi,j03 (n:=(i:Int)+1) (by omega),Z9g,Z8M,cond_false,Bool.not_true]
 ·show j3J a a _ _ _ _=_
  unfold j3J
  rw [Z9h,cond_false]
theorem joR (a:(List ByteArray)) (k:Int) (h:msr y9 a<=1048576) (h0:1<=k) (hk:k+(wgt y9 a:Int)<=4294967296) (K:Int->(List ByteArray)->Res):j5I a k K=K (k+(wgt y9 a:Int)) (mkL (wgt .str) (mk .str) a k):=by
 have hl:a.length<=1048576:=j6h h
 have hwg:wgt y9 a=(a.map (wgt .str)).sum:=rfl
 rw [hwg] at hk ⊢
 unfold j5I j9l
 have:=Z8v (wgt .str) (mk .str) a k (λl k i=>(l,k,i)) (step:=j4p) (λl k=>K k l) (λl k=>K k l) (by unfold LIM;omega) (λl i rec hi hll hli hla=>by
  have e1:=Z6k (wgt .str) a i hi
  have e2:=Z8h (wgt .str) a (i+1)
  generalize hκ:k+((((a.take i).map (wgt .str)).sum:Nat):Int)=κ
  have hκ1:1<=κ/\κ+(wgt .str a[i]:Int)<=4294967296:=by omega
  have hw:(wgt .str a[i]:Int)=1:=by
   have:wgt .str a[i]=1:=by first | rfl | (simp only [wgt];done) | (simp only [wgt];omega)
   first | rfl | omega
  show j2W _ _ _ _ _=_
  dsimp only
  unfold j2W
  rw [<-hll] at hi
  have hi':i<a.length:=by omega
  simp (disch:=first | assumption | omega) only [show nI a.length=nI l.length by rw [hll],Z9i,j0i,jjz,cond_true,jjr,jjA,Z92,hla,j03,j5j,<-hll]
  rw [Z99]
  congr 3<;>first | rfl | omega | (simp only [j6g,j4z,j92,jby,j6f,j93,j4B,j6l,j4A,j6m,Int.natCast_add,Int.natCast_one,<-Int.add_assoc];done) | (simp only [j6g,j4z,j92,jby,j6f,j93,j4B,j6l,j4A,j6m,Int.natCast_add,Int.natCast_one,<-Int.add_assoc];rfl) | skip) (λl k rec hll=>by
  show j2W _ _ _ _ _=_
  dsimp only
  unfold j2W
  rw [<-hll,Z9h,cond_false])
 exact this
theorem joP (a:(List ByteArray)) (k:Int) (h:msr y9 a<=1048576) (h0:1<=k) (hk:k+(wgt y9 a:Int)<=4294967296) (K:Int->Res):j5E (mkL (wgt .str) (mk .str) a k) k K=K (k+(wgt y9 a:Int)):=by
 have hl:a.length<=1048576:=j6h h
 have hwg:wgt y9 a=(a.map (wgt .str)).sum:=rfl
 rw [hwg] at hk ⊢
 have hll:=Z5l (wgt .str) (mk .str) a k
 have hg:=Z8Y (wgt .str) (mk .str) a k
 generalize mkL (wgt .str) (mk .str) a k=l at hll hg
 unfold j5E j9k
 have:=Z8s (wgt .str) a k (λk i=>(k,i)) (step:=j4o l) ((λ(k_1:Int)=>K k_1),(λ(_:Unit)=>K (-1))) (λk=>K k) (by unfold LIM;omega) (λi rec hi=>by
  have e1:=Z6k (wgt .str) a i hi
  have e2:=Z8h (wgt .str) a (i+1)
  have hgi:=hg i hi (by omega)
  generalize hκ:k+((((a.take i).map (wgt .str)).sum:Nat):Int)=κ at hgi
  have hκ1:1<=κ/\κ+(wgt .str a[i]:Int)<=4294967296:=by omega
  have hw:(wgt .str a[i]:Int)=1:=by
   have:wgt .str a[i]=1:=by first | rfl | (simp only [wgt];done) | (simp only [wgt];omega)
   first | rfl | omega
  show j2V _ _ _ _ _ _=_
  dsimp only
  unfold j2V
  have hi':i<l.length:=by omega
  simp (disch:=first | assumption | omega) only [Z9i,j0i,cond_true,cond_false,Z92,hgi,j6g,j4z,j92,jby,j6f,j93,j4B,j6l,j4A,j6m,Int.natCast_add,Int.natCast_one,<-Int.add_assoc,j03,j5j,Z9g,Z8M,beq_self_eq_true,Bool.not_true,Z8A]
  all_goals (congr 2;omega)) (λk rec=>by
  show j2V _ _ _ _ _ _=_
  dsimp only
  unfold j2V
  rw [<-hll,Z9h,cond_false])
 exact this
end Go.PI.G
namespace Go.PI.G
open Go Go.PI Go.Proofs
theorem jsS (a:Int×ByteArray×(List (ByteArray×Int×Bool×Bool×Int×Int×ByteArray))×List ByteArray×ByteArray×ByteArray) (h:msr y14 a<=1048576) (k:Bool->Res):jcA a a k=k true:=by
 have h2:msr y8 a.2.2.1<=1048576:=(Nat.le_trans (@j1M y8 y11 a.2.2) (Nat.le_trans (@j06 .str y12 a.2) (Nat.le_trans (@j06 (.int .i64) y13 a) h)))
 have h3:msr y9 a.2.2.2.1<=1048576:=(Nat.le_trans (@j1M y9 y10 a.2.2.2) (Nat.le_trans (@j06 y8 y11 a.2.2) (Nat.le_trans (@j06 .str y12 a.2) (Nat.le_trans (@j06 (.int .i64) y13 a) h))))
 unfold jcA
 simp only [Z9g,Z8M,beq_self_eq_true,cond_false,Bool.not_true,jsd _ h2,jqQ _ h3]
end Go.PI.G
namespace Go.PI.G
open Go Go.PI Go.Proofs
theorem jpa (a:(List (Int×Int×ByteArray))) (h:msr y3 a<=1048576) (k:Bool->Res):j9e a a k=k true:=by
 have hl:a.length<=1048576:=j6h h
 unfold j9e
 rw [Z9g,cond_false]
 unfold jdw
 rw [Z8V a _ (by unfold LIM;omega) (λi rec hi=> ?_) (λrec=> ?_)]
 ·show j5D a a _ _ _ _=_
  unfold j5D
  simp only [Z9i hi,cond_true,j0i hi,Z92 _ _ _ hi,j03 (n:=(i:Int)+1) (by omega),Z9g,Z8M,cond_false,Bool.not_true,jqR _ (j86 h (List.getElem_mem hi))]
 ·show j5D a a _ _ _ _=_
  unfold j5D
  rw [Z9h,cond_false]
theorem jro (a:(List (Int×Int×ByteArray))) (k:Int) (h:msr y3 a<=1048576) (h0:1<=k) (hk:k+(wgt y3 a:Int)<=4294967296) (K:Int->(List (Int×Int×ByteArray))->Res):j6e a k K=K (k+(wgt y3 a:Int)) (mkL (wgt y2) (mk y2) a k):=by
 have hl:a.length<=1048576:=j6h h
 have hwg:wgt y3 a=(a.map (wgt y2)).sum:=rfl
 rw [hwg] at hk ⊢
 unfold j6e jbM
 have:=Z8v (wgt y2) (mk y2) a k (λl k i=>(l,k,i)) (step:=j6O) (λl k=>K k l) (λl k=>K k l) (by unfold LIM;omega) (λl i rec hi hll hli hla=>by
  have e1:=Z6k (wgt y2) a i hi
  have e2:=Z8h (wgt y2) a (i+1)
  generalize hκ:k+((((a.take i).map (wgt y2)).sum:Nat):Int)=κ
  have hκ1:1<=κ/\κ+(wgt y2 a[i]:Int)<=4294967296:=by omega
  have hw:(wgt y2 a[i]:Int)=1+1+1:=by
   have:wgt y2 a[i]=1+1+1:=by first | rfl | (simp only [wgt];done) | (simp only [wgt];omega)
   first | rfl | omega
  show j4c _ _ _ _ _=_
  dsimp only
  unfold j4c
  rw [<-hll] at hi
  have hi':i<a.length:=by omega
  simp (disch:=first | assumption | omega) only [show nI a.length=nI l.length by rw [hll],Z9i,j0i,jjz,cond_true,jjr,jjA,Z92,hla,j03,j5j,<-hll]
  rw [Z99]
  congr 3<;>first | rfl | omega | (simp only [j6g,j4z,j92,jby,j6f,j93,j4B,j6l,j4A,j6m,Int.natCast_add,Int.natCast_one,<-Int.add_assoc];done) | (simp only [j6g,j4z,j92,jby,j6f,j93,j4B,j6l,j4A,j6m,Int.natCast_add,Int.natCast_one,<-Int.add_assoc];rfl) | skip) (λl k rec hll=>by
  show j4c _ _ _ _ _=_
  dsimp only
  unfold j4c
  rw [<-hll,Z9h,cond_false])
 exact this
theorem jrg (a:(List (Int×Int×ByteArray))) (k:Int) (h:msr y3 a<=1048576) (h0:1<=k) (hk:k+(wgt y3 a:Int)<=4294967296) (K:Int->Res):j6d (mkL (wgt y2) (mk y2) a k) k K=K (k+(wgt y3 a:Int)):=by
 have hl:a.length<=1048576:=j6h h
 have hwg:wgt y3 a=(a.map (wgt y2)).sum:=rfl
 rw [hwg] at hk ⊢
 have hll:=Z5l (wgt y2) (mk y2) a k
 have hg:=Z8Y (wgt y2) (mk y2) a k
 generalize mkL (wgt y2) (mk y2) a k=l at hll hg
 unfold j6d jbJ
 have:=Z8s (wgt y2) a k (λk i=>(k,i)) (step:=j6M l) ((λ(k_1:Int)=>K k_1),(λ(_:Unit)=>K (-1))) (λk=>K k) (by unfold LIM;omega) (λi rec hi=>by
  have e1:=Z6k (wgt y2) a i hi
  have e2:=Z8h (wgt y2) a (i+1)
  have hgi:=hg i hi (by omega)
  generalize hκ:k+((((a.take i).map (wgt y2)).sum:Nat):Int)=κ at hgi
  have hκ1:1<=κ/\κ+(wgt y2 a[i]:Int)<=4294967296:=by omega
  have hw:(wgt y2 a[i]:Int)=1+1+1:=by
   have:wgt y2 a[i]=1+1+1:=by first | rfl | (simp only [wgt];done) | (simp only [wgt];omega)
   first | rfl | omega
  show j48 _ _ _ _ _ _=_
  dsimp only
  unfold j48
  have hi':i<l.length:=by omega
  simp (disch:=first | assumption | omega) only [Z9i,j0i,cond_true,cond_false,Z92,hgi,j6g,j4z,j92,jby,j6f,j93,j4B,j6l,j4A,j6m,Int.natCast_add,Int.natCast_one,<-Int.add_assoc,j03,j5j,Z9g,Z8M,beq_self_eq_true,Bool.not_true,Z8A]
  all_goals (congr 2;omega)) (λk rec=>by
  show j48 _ _ _ _ _ _=_
  dsimp only
  unfold j48
  rw [<-hll,Z9h,cond_false])
 exact this
end Go.PI.G
namespace Go.PI.G
open Go Go.PI Go.Proofs
theorem jsU (a:List (Int×Int×ByteArray)) (h:msr y3 a<=1048576) (k:Bool->Res):jcC a a k=k true:=by
 have h0:msr y3 a<=1048576:=h
 unfold jcC
 simp only [Z9g,Z8M,beq_self_eq_true,cond_false,Bool.not_true,jpa _ h0]
end Go.PI.G
namespace Go.PI.G
open Go Go.PI Go.Proofs
theorem jsf (a:Int×ByteArray×(List (Int×Int×ByteArray))×(List (Int×Int×ByteArray))×Int×ByteArray×(List (ByteArray×Int×Bool×Bool×Int×Int×ByteArray))×List ByteArray×ByteArray×ByteArray) (h:msr y18 a<=1048576) (k:Bool->Res):jbh a a k=k true:=by
 have h2:msr y3 a.2.2.1<=1048576:=(Nat.le_trans (@j1M y3 y15 a.2.2) (Nat.le_trans (@j06 .str y16 a.2) (Nat.le_trans (@j06 (.int .i64) y17 a) h)))
 have h3:msr y3 a.2.2.2.1<=1048576:=(Nat.le_trans (@j1M y3 y14 a.2.2.2) (Nat.le_trans (@j06 y3 y15 a.2.2) (Nat.le_trans (@j06 .str y16 a.2) (Nat.le_trans (@j06 (.int .i64) y17 a) h))))
 have h4:msr y14 a.2.2.2.2<=1048576:=(Nat.le_trans (@j06 y3 y14 a.2.2.2) (Nat.le_trans (@j06 y3 y15 a.2.2) (Nat.le_trans (@j06 .str y16 a.2) (Nat.le_trans (@j06 (.int .i64) y17 a) h))))
 unfold jbh
 simp only [Z9g,Z8M,beq_self_eq_true,cond_false,Bool.not_true,jpa _ h2,jsU _ h3,jsS _ h4]
end Go.PI.G
namespace Go.PI.G
open Go Go.PI Go.Proofs
theorem jsT (a:Int×Int×Int×ByteArray×(List (Int×Int×ByteArray))×(List (Int×Int×ByteArray))×Int×ByteArray×(List (ByteArray×Int×Bool×Bool×Int×Int×ByteArray))×List ByteArray×ByteArray×ByteArray) (h:msr y20 a<=1048576) (k:Bool->Res):jcB a a k=k true:=by
 have h2:msr y18 a.2.2<=1048576:=(Nat.le_trans (@j06 (.int .i64) y18 a.2) (Nat.le_trans (@j06 (.int .i64) y19 a) h))
 unfold jcB
 simp only [Z9g,Z8M,beq_self_eq_true,cond_false,Bool.not_true,jsf _ h2]
end Go.PI.G
namespace Go.PI.G
open Go Go.PI Go.Proofs
theorem jse (a:Int×(Int×Int×Int×ByteArray×(List (Int×Int×ByteArray))×(List (Int×Int×ByteArray))×Int×ByteArray×(List (ByteArray×Int×Bool×Bool×Int×Int×ByteArray))×List ByteArray×ByteArray×ByteArray)×Int×Int×Int) (h:msr y24 a<=1048576) (k:Bool->Res):jbg a a k=k true:=by
 have h1:msr y20 a.2.1<=1048576:=(Nat.le_trans (@j1M y20 y22 a.2) (Nat.le_trans (@j06 (.int .i64) y23 a) h))
 unfold jbg
 simp only [Z9g,Z8M,beq_self_eq_true,cond_false,Bool.not_true,jsT _ h1]
end Go.PI.G
namespace Go.PI.G
open Go Go.PI Go.Proofs
theorem jnt (a:(List (Int×(Int×Int×Int×ByteArray×(List (Int×Int×ByteArray))×(List (Int×Int×ByteArray))×Int×ByteArray×(List (ByteArray×Int×Bool×Bool×Int×Int×ByteArray))×List ByteArray×ByteArray×ByteArray)×Int×Int×Int))) (h:msr y25 a<=1048576) (k:Bool->Res):j83 a a k=k true:=by
 have hl:a.length<=1048576:=j6h h
 unfold j83
 rw [Z9g,cond_false]
 unfold jcD
 rw [Z8V a _ (by unfold LIM;omega) (λi rec hi=> ?_) (λrec=> ?_)]
 ·show j4K a a _ _ _ _=_
  unfold j4K
  simp only [Z9i hi,cond_true,j0i hi,Z92 _ _ _ hi,j03 (n:=(i:Int)+1) (by omega),Z9g,Z8M,cond_false,Bool.not_true,jse _ (j86 h (List.getElem_mem hi))]
 ·show j4K a a _ _ _ _=_
  unfold j4K
  rw [Z9h,cond_false]
theorem jqX (a:(List (Int×(Int×Int×Int×ByteArray×(List (Int×Int×ByteArray))×(List (Int×Int×ByteArray))×Int×ByteArray×(List (ByteArray×Int×Bool×Bool×Int×Int×ByteArray))×List ByteArray×ByteArray×ByteArray)×Int×Int×Int))) (k:Int) (h:msr y25 a<=1048576) (h0:1<=k) (hk:k+(wgt y25 a:Int)<=4294967296) (K:Int->(List (Int×(Int×Int×Int×ByteArray×(List (Int×Int×ByteArray))×(List (Int×Int×ByteArray))×Int×ByteArray×(List (ByteArray×Int×Bool×Bool×Int×Int×ByteArray))×List ByteArray×ByteArray×ByteArray)×Int×Int×Int))->Res):j85 a k K=K (k+(wgt y25 a:Int)) (mkL (wgt y24) (mk y24) a k):=by
 have hl:a.length<=1048576:=j6h h
 have hwg:wgt y25 a=(a.map (wgt y24)).sum:=rfl
 rw [hwg] at hk ⊢
 unfold j85 jaf
 have:=Z8v (wgt y24) (mk y24) a k (λl k i=>(l,k,i)) (step:=j5b) (λl k=>K k l) (λl k=>K k l) (by unfold LIM;omega) (λl i rec hi hll hli hla=>by
  have e1:=Z6k (wgt y24) a i hi
  have e2:=Z8h (wgt y24) a (i+1)
  generalize hκ:k+((((a.take i).map (wgt y24)).sum:Nat):Int)=κ
  have hκ1:1<=κ/\κ+(wgt y24 a[i]:Int)<=4294967296:=by omega
  have hw:(wgt y24 a[i]:Int)=1+1+1+1+1+(wgt y3 a[i].2.1.2.2.2.2.1:Int)+(wgt y3 a[i].2.1.2.2.2.2.2.1:Int)+1+1+(wgt y8 a[i].2.1.2.2.2.2.2.2.2.2.1:Int)+(wgt y9 a[i].2.1.2.2.2.2.2.2.2.2.2.1:Int)+1+1+1+1+1:=by
   have:wgt y24 a[i]=1+1+1+1+1+(wgt y3 a[i].2.1.2.2.2.2.1)+(wgt y3 a[i].2.1.2.2.2.2.2.1)+1+1+(wgt y8 a[i].2.1.2.2.2.2.2.2.2.2.1)+(wgt y9 a[i].2.1.2.2.2.2.2.2.2.2.2.1)+1+1+1+1+1:=by first | rfl | (simp only [wgt];done) | (simp only [wgt];omega)
   first | rfl | omega
  have hr0:msr y3 a[i].2.1.2.2.2.2.1<=1048576:=(Nat.le_trans (@j1M y3 y15 a[i].2.1.2.2.2.2) (Nat.le_trans (@j06 .str y16 a[i].2.1.2.2.2) (Nat.le_trans (@j06 (.int .i64) y17 a[i].2.1.2.2) (Nat.le_trans (@j06 (.int .i64) y18 a[i].2.1.2) (Nat.le_trans (@j06 (.int .i64) y19 a[i].2.1) (Nat.le_trans (@j1M y20 y22 a[i].2) (Nat.le_trans (@j06 (.int .i64) y23 a[i]) (j86 h (List.getElem_mem hi)))))))))
  have hr1:msr y3 a[i].2.1.2.2.2.2.2.1<=1048576:=(Nat.le_trans (@j1M y3 y14 a[i].2.1.2.2.2.2.2) (Nat.le_trans (@j06 y3 y15 a[i].2.1.2.2.2.2) (Nat.le_trans (@j06 .str y16 a[i].2.1.2.2.2) (Nat.le_trans (@j06 (.int .i64) y17 a[i].2.1.2.2) (Nat.le_trans (@j06 (.int .i64) y18 a[i].2.1.2) (Nat.le_trans (@j06 (.int .i64) y19 a[i].2.1) (Nat.le_trans (@j1M y20 y22 a[i].2) (Nat.le_trans (@j06 (.int .i64) y23 a[i]) (j86 h (List.getElem_mem hi))))))))))
  have hr2:msr y8 a[i].2.1.2.2.2.2.2.2.2.2.1<=1048576:=(Nat.le_trans (@j1M y8 y11 a[i].2.1.2.2.2.2.2.2.2.2) (Nat.le_trans (@j06 .str y12 a[i].2.1.2.2.2.2.2.2.2) (Nat.le_trans (@j06 (.int .i64) y13 a[i].2.1.2.2.2.2.2.2) (Nat.le_trans (@j06 y3 y14 a[i].2.1.2.2.2.2.2) (Nat.le_trans (@j06 y3 y15 a[i].2.1.2.2.2.2) (Nat.le_trans (@j06 .str y16 a[i].2.1.2.2.2) (Nat.le_trans (@j06 (.int .i64) y17 a[i].2.1.2.2) (Nat.le_trans (@j06 (.int .i64) y18 a[i].2.1.2) (Nat.le_trans (@j06 (.int .i64) y19 a[i].2.1) (Nat.le_trans (@j1M y20 y22 a[i].2) (Nat.le_trans (@j06 (.int .i64) y23 a[i]) (j86 h (List.getElem_mem hi)))))))))))))
  have hr3:msr y9 a[i].2.1.2.2.2.2.2.2.2.2.2.1<=1048576:=(Nat.le_trans (@j1M y9 y10 a[i].2.1.2.2.2.2.2.2.2.2.2) (Nat.le_trans (@j06 y8 y11 a[i].2.1.2.2.2.2.2.2.2.2) (Nat.le_trans (@j06 .str y12 a[i].2.1.2.2.2.2.2.2.2) (Nat.le_trans (@j06 (.int .i64) y13 a[i].2.1.2.2.2.2.2.2) (Nat.le_trans (@j06 y3 y14 a[i].2.1.2.2.2.2.2) (Nat.le_trans (@j06 y3 y15 a[i].2.1.2.2.2.2) (Nat.le_trans (@j06 .str y16 a[i].2.1.2.2.2) (Nat.le_trans (@j06 (.int .i64) y17 a[i].2.1.2.2) (Nat.le_trans (@j06 (.int .i64) y18 a[i].2.1.2) (Nat.le_trans (@j06 (.int .i64) y19 a[i].2.1) (Nat.le_trans (@j1M y20 y22 a[i].2) (Nat.le_trans (@j06 (.int .i64) y23 a[i]) (j86 h (List.getElem_mem hi))))))))))))))
  show j3j _ _ _ _ _=_
  dsimp only
  unfold j3j j4L j4M j4N j4O j4P j4Q j4R j4S j4T j4U
  rw [<-hll] at hi
  have hi':i<a.length:=by omega
  simp (disch:=first | assumption | omega) only [show nI a.length=nI l.length by rw [hll],Z9i,j0i,jjz,cond_true,jjr,jjA,Z92,hla,j03,j5j,jrn,joR,jro,<-hll]
  rw [Z99]
  congr 3<;>first | rfl | omega | (simp only [j6g,j4z,j92,jby,j6f,j93,j4B,j6l,j4A,j6m,Int.natCast_add,Int.natCast_one,<-Int.add_assoc];done) | (simp only [j6g,j4z,j92,jby,j6f,j93,j4B,j6l,j4A,j6m,Int.natCast_add,Int.natCast_one,<-Int.add_assoc];rfl) | skip) (λl k rec hll=>by
  show j3j _ _ _ _ _=_
  dsimp only
  unfold j3j j4L j4M j4N j4O j4P j4Q j4R j4S j4T j4U
  rw [<-hll,Z9h,cond_false])
 exact this
theorem jiN (a:(List (Int×(Int×Int×Int×ByteArray×(List (Int×Int×ByteArray))×(List (Int×Int×ByteArray))×Int×ByteArray×(List (ByteArray×Int×Bool×Bool×Int×Int×ByteArray))×List ByteArray×ByteArray×ByteArray)×Int×Int×Int))) (k:Int) (h:msr y25 a<=1048576) (h0:1<=k) (hk:k+(wgt y25 a:Int)<=4294967296) (K:Int->Res):j5p (mkL (wgt y24) (mk y24) a k) k K=K (k+(wgt y25 a:Int)):=by
 have hl:a.length<=1048576:=j6h h
 have hwg:wgt y25 a=(a.map (wgt y24)).sum:=rfl
 rw [hwg] at hk ⊢
 have hll:=Z5l (wgt y24) (mk y24) a k
 have hg:=Z8Y (wgt y24) (mk y24) a k
 generalize mkL (wgt y24) (mk y24) a k=l at hll hg
 unfold j5p jb3
 have:=Z8s (wgt y24) a k (λk i=>(k,i)) (step:=j5U l) ((λ(k_1:Int)=>K k_1),(λ(_:Unit)=>K (-1))) (λk=>K k) (by unfold LIM;omega) (λi rec hi=>by
  have e1:=Z6k (wgt y24) a i hi
  have e2:=Z8h (wgt y24) a (i+1)
  have hgi:=hg i hi (by omega)
  generalize hκ:k+((((a.take i).map (wgt y24)).sum:Nat):Int)=κ at hgi
  have hκ1:1<=κ/\κ+(wgt y24 a[i]:Int)<=4294967296:=by omega
  have hw:(wgt y24 a[i]:Int)=1+1+1+1+1+(wgt y3 a[i].2.1.2.2.2.2.1:Int)+(wgt y3 a[i].2.1.2.2.2.2.2.1:Int)+1+1+(wgt y8 a[i].2.1.2.2.2.2.2.2.2.2.1:Int)+(wgt y9 a[i].2.1.2.2.2.2.2.2.2.2.2.1:Int)+1+1+1+1+1:=by
   have:wgt y24 a[i]=1+1+1+1+1+(wgt y3 a[i].2.1.2.2.2.2.1)+(wgt y3 a[i].2.1.2.2.2.2.2.1)+1+1+(wgt y8 a[i].2.1.2.2.2.2.2.2.2.2.1)+(wgt y9 a[i].2.1.2.2.2.2.2.2.2.2.2.1)+1+1+1+1+1:=by first | rfl | (simp only [wgt];done) | (simp only [wgt];omega)
   first | rfl | omega
  have hr0:msr y3 a[i].2.1.2.2.2.2.1<=1048576:=(Nat.le_trans (@j1M y3 y15 a[i].2.1.2.2.2.2) (Nat.le_trans (@j06 .str y16 a[i].2.1.2.2.2) (Nat.le_trans (@j06 (.int .i64) y17 a[i].2.1.2.2) (Nat.le_trans (@j06 (.int .i64) y18 a[i].2.1.2) (Nat.le_trans (@j06 (.int .i64) y19 a[i].2.1) (Nat.le_trans (@j1M y20 y22 a[i].2) (Nat.le_trans (@j06 (.int .i64) y23 a[i]) (j86 h (List.getElem_mem hi)))))))))
  have hr1:msr y3 a[i].2.1.2.2.2.2.2.1<=1048576:=(Nat.le_trans (@j1M y3 y14 a[i].2.1.2.2.2.2.2) (Nat.le_trans (@j06 y3 y15 a[i].2.1.2.2.2.2) (Nat.le_trans (@j06 .str y16 a[i].2.1.2.2.2) (Nat.le_trans (@j06 (.int .i64) y17 a[i].2.1.2.2) (Nat.le_trans (@j06 (.int .i64) y18 a[i].2.1.2) (Nat.le_trans (@j06 (.int .i64) y19 a[i].2.1) (Nat.le_trans (@j1M y20 y22 a[i].2) (Nat.le_trans (@j06 (.int .i64) y23 a[i]) (j86 h (List.getElem_mem hi))))))))))
  have hr2:msr y8 a[i].2.1.2.2.2.2.2.2.2.2.1<=1048576:=(Nat.le_trans (@j1M y8 y11 a[i].2.1.2.2.2.2.2.2.2.2) (Nat.le_trans (@j06 .str y12 a[i].2.1.2.2.2.2.2.2.2) (Nat.le_trans (@j06 (.int .i64) y13 a[i].2.1.2.2.2.2.2.2) (Nat.le_trans (@j06 y3 y14 a[i].2.1.2.2.2.2.2) (Nat.le_trans (@j06 y3 y15 a[i].2.1.2.2.2.2) (Nat.le_trans (@j06 .str y16 a[i].2.1.2.2.2) (Nat.le_trans (@j06 (.int .i64) y17 a[i].2.1.2.2) (Nat.le_trans (@j06 (.int .i64) y18 a[i].2.1.2) (Nat.le_trans (@j06 (.int .i64) y19 a[i].2.1) (Nat.le_trans (@j1M y20 y22 a[i].2) (Nat.le_trans (@j06 (.int .i64) y23 a[i]) (j86 h (List.getElem_mem hi)))))))))))))
  have hr3:msr y9 a[i].2.1.2.2.2.2.2.2.2.2.2.1<=1048576:=(Nat.le_trans (@j1M y9 y10 a[i].2.1.2.2.2.2.2.2.2.2.2) (Nat.le_trans (@j06 y8 y11 a[i].2.1.2.2.2.2.2.2.2.2) (Nat.le_trans (@j06 .str y12 a[i].2.1.2.2.2.2.2.2.2) (Nat.le_trans (@j06 (.int .i64) y13 a[i].2.1.2.2.2.2.2.2) (Nat.le_trans (@j06 y3 y14 a[i].2.1.2.2.2.2.2) (Nat.le_trans (@j06 y3 y15 a[i].2.1.2.2.2.2) (Nat.le_trans (@j06 .str y16 a[i].2.1.2.2.2) (Nat.le_trans (@j06 (.int .i64) y17 a[i].2.1.2.2) (Nat.le_trans (@j06 (.int .i64) y18 a[i].2.1.2) (Nat.le_trans (@j06 (.int .i64) y19 a[i].2.1) (Nat.le_trans (@j1M y20 y22 a[i].2) (Nat.le_trans (@j06 (.int .i64) y23 a[i]) (j86 h (List.getElem_mem hi))))))))))))))
  show j3K _ _ _ _ _ _=_
  dsimp only
  unfold j3K
  have hi':i<l.length:=by omega
  simp (disch:=first | assumption | omega) only [Z9i,j0i,cond_true,cond_false,Z92,hgi,j6g,j4z,j92,jby,j6f,j93,j4B,j6l,j4A,j6m,Int.natCast_add,Int.natCast_one,<-Int.add_assoc,j03,j5j,Z9g,Z8M,beq_self_eq_true,Bool.not_true,Z8A,jrf,joP,jrg]
  all_goals (congr 2;omega)) (λk rec=>by
  show j3K _ _ _ _ _ _=_
  dsimp only
  unfold j3K
  rw [<-hll,Z9h,cond_false])
 exact this
end Go.PI.G
