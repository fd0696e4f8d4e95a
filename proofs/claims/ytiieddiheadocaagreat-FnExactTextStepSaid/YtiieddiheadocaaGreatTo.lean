/-
  Program's code interpreted over typed values; printed texts; plain laws. No conditions.
-/
import Derived.Test.YtiieddiheadocaaGreatTk
import Derived.Test.YtiieddiheadocaaGreatTn
import Derived.Test.YtiieddiheadocaaGreatTj
import Derived.Test.YtiieddiheadocaaGreatTi
import Derived.Test.YtiieddiheadocaaGreatTg
import Derived.Test.YtiieddiheadocaaGreatTh
set_option linter.unusedVariables false
set_option linter.unusedSimpArgs false
namespace Go.PI.G
open Go Go.PI Go.Proofs
noncomputable def jci (s:ByteArray):SP×Bool:=rdX j6n j3v zSP s
theorem jsA (r:RC):j8G r=true↔r=zRC:=by
 obtain ⟨a,b,c⟩:=r
 unfold j8G
 simp only [Bool.and_eq_true,beq_iff_eq,jqp,Prod.mk.injEq]
theorem jaG {s:SP} (h:j6n s=true) :
  (∃ r,s=(1,r,0,0,0)/\j23 r=true)\/(∃ n,s=(2,zRC,n,0,0)/\okN n=true)\/(∃ n,s=(3,zRC,1,n,0)/\okN n=true)\/(∃ n,s=(3,zRC,2,n,0)/\okN n=true)\/(∃ n,s=(3,zRC,3,n,0)/\okN n=true) \/
  (∃ n m,s=(3,zRC,4,n,m)/\okN n=true/\okN m=true)\/(∃ n,s=(4,zRC,n,0,0)/\okN n=true)\/s=(5,zRC,0,0,0)\/s=(6,zRC,0,0,0)\/s=(7,zRC,0,0,0):=by
 obtain ⟨k,r,a,b,c⟩:=s
 unfold j6n at h
 dsimp only at h
 by_cases h1:k=1
 ·subst h1
  rw [show ((1:Int)==1)=true from rfl,cond_true] at h
  simp only [Bool.and_eq_true,beq_iff_eq] at h
  obtain ⟨h1,rfl,rfl,rfl⟩:=h
  exact .inl ⟨r,rfl,h1⟩
 rw [show (k==1)=false by simp [h1],cond_false,Bool.and_eq_true,Bool.and_eq_true,Bool.and_eq_true,jsA] at h
 obtain ⟨hw,rfl,h0,hn⟩:=h
 unfold j5r at hw hn
 unfold jbV at h0
 dsimp only at hw hn h0
 by_cases h2:k=2
 ·subst h2
  rw [show ((2:Int)==2)=true from rfl] at hn h0
  simp only [cond_true,Bool.and_eq_true,beq_iff_eq,List.all_cons,List.all_nil,Bool.and_true] at hn h0
  obtain ⟨rfl,rfl⟩:=h0
  exact .inr (.inl ⟨a,rfl,hn⟩)
 rw [show (k==2)=false by simp [h2]] at hw hn h0
 by_cases h4:k=4
 ·subst h4
  rw [show ((4:Int)==4)=true from rfl] at hn h0
  simp only [cond_false,cond_true,Bool.and_eq_true,beq_iff_eq,List.all_cons,List.all_nil,Bool.and_true] at hn h0
  obtain ⟨rfl,rfl⟩:=h0
  exact .inr (.inr (.inr (.inr (.inr (.inr (.inl ⟨a,rfl,hn⟩))))))
 rw [show (k==4)=false by simp [h4]] at hw hn h0
 by_cases h3:k=3
 ·subst h3
  rw [show ((3:Int)==5)=false from rfl,show ((3:Int)==6)=false from rfl,show ((3:Int)==7)=false from rfl,show ((3:Int)==3)=true from rfl] at hw hn
  rw [show ((3:Int)==3)=true from rfl] at h0
  simp only [cond_false,cond_true] at hw hn h0
  by_cases a1:a=1
  ·subst a1
   rw [show ((1:Int)==1)=true from rfl] at hn
   rw [show ((1:Int)==4)=false from rfl] at h0
   simp only [cond_false,cond_true,beq_iff_eq,List.all_cons,List.all_nil,Bool.and_true] at hn h0
   subst h0
   exact .inr (.inr (.inl ⟨b,rfl,hn⟩))
  rw [show (a==1)=false by simp [a1]] at hw hn
  by_cases a2:a=2
  ·subst a2
   rw [show ((2:Int)==2)=true from rfl] at hn
   rw [show ((2:Int)==4)=false from rfl] at h0
   simp only [cond_false,cond_true,beq_iff_eq,List.all_cons,List.all_nil,Bool.and_true] at hn h0
   subst h0
   exact .inr (.inr (.inr (.inl ⟨b,rfl,hn⟩)))
  rw [show (a==2)=false by simp [a2]] at hw hn
  by_cases a3:a=3
  ·subst a3
   rw [show ((3:Int)==3)=true from rfl] at hn
   rw [show ((3:Int)==4)=false from rfl] at h0
   simp only [cond_false,cond_true,beq_iff_eq,List.all_cons,List.all_nil,Bool.and_true] at hn h0
   subst h0
   exact .inr (.inr (.inr (.inr (.inl ⟨b,rfl,hn⟩))))
  rw [show (a==3)=false by simp [a3]] at hw hn
  by_cases a4:a=4
  ·subst a4
   rw [show ((4:Int)==4)=true from rfl] at hn
   simp only [cond_false,cond_true,Bool.and_eq_true,List.all_cons,List.all_nil,Bool.and_true] at hn
   exact .inr (.inr (.inr (.inr (.inr (.inl ⟨b,c,rfl,hn.1,hn.2⟩)))))
  rw [show (a==4)=false by simp [a4]] at hw
  simp only [cond_false,Z8L] at hw
  cases hw
 rw [show (k==3)=false by simp [h3]] at hw h0
 simp only [cond_false,Bool.and_eq_true,beq_iff_eq] at h0
 obtain ⟨rfl,rfl,rfl⟩:=h0
 by_cases h5:k=5
 ·subst h5;exact .inr (.inr (.inr (.inr (.inr (.inr (.inr (.inl rfl)))))))
 by_cases h6:k=6
 ·subst h6;exact .inr (.inr (.inr (.inr (.inr (.inr (.inr (.inr (.inl rfl))))))))
 by_cases h7:k=7
 ·subst h7;exact .inr (.inr (.inr (.inr (.inr (.inr (.inr (.inr (.inr rfl))))))))
 rw [show (k==5)=false by simp [h5],show (k==6)=false by simp [h6],show (k==7)=false by simp [h7]] at hw
 simp only [cond_false,Z8L] at hw
 cases hw
theorem jrv {n:Int} (h:okN n=true):j1w n=true:=by
 unfold okN at h
 rw [Bool.and_eq_true] at h
 exact h.2
theorem jsd {s:SP} (h:j6n s=true):∀ w∈jgJ s,w.size<=101/\free 32 w:=by
 have hz:∀ {s:ByteArray},decide (s.size<=101)=true->(Z19 s).all (λx=>x != 32)=true->s.size<=101/\free 32 s:=λh1 h2=>⟨of_decide_eq_true h1,j8s _ _ h2⟩
 have hn:∀ {n:Int},okN n=true->(j06 n).size<=101/\free 32 (j06 n):=λ{n} hn=>⟨by have:=j2P n;omega,ji3 (jrv hn)⟩
 intro w hw
 rcases jaG h with ⟨r,rfl,hr⟩ | ⟨n,rfl,ho⟩ | ⟨n,rfl,ho⟩ | ⟨n,rfl,ho⟩ | ⟨n,rfl,ho⟩ | ⟨n,m,rfl,ho,hm⟩ | ⟨n,rfl,ho⟩ | rfl | rfl | rfl
 ·have hw:w∈j0C::j1N r:=hw
  rcases List.mem_cons.1 hw with rfl | hw
  ·exact hz (by decide) (by decide)
  ·exact jqv hr w hw
 ·have hw:w∈[j0D,j06 n]:=hw
  simp only [List.mem_cons,List.not_mem_nil,or_false] at hw
  rcases hw with rfl | rfl
  ·exact hz (by decide) (by decide)
  ·exact hn ho
 ·have hw:w∈[j0q,j06 n]:=hw
  simp only [List.mem_cons,List.not_mem_nil,or_false] at hw
  rcases hw with rfl | rfl
  ·exact hz (by decide) (by decide)
  ·exact hn ho
 ·have hw:w∈[j0j,j06 n]:=hw
  simp only [List.mem_cons,List.not_mem_nil,or_false] at hw
  rcases hw with rfl | rfl
  ·exact hz (by decide) (by decide)
  ·exact hn ho
 ·have hw:w∈[j0p,j06 n]:=hw
  simp only [List.mem_cons,List.not_mem_nil,or_false] at hw
  rcases hw with rfl | rfl
  ·exact hz (by decide) (by decide)
  ·exact hn ho
 ·have hw:w∈[j0y,j06 n,j06 m]:=hw
  simp only [List.mem_cons,List.not_mem_nil,or_false] at hw
  rcases hw with rfl | rfl | rfl
  ·exact hz (by decide) (by decide)
  ·exact hn ho
  ·exact hn hm
 ·have hw:w∈[j0E,j06 n]:=hw
  simp only [List.mem_cons,List.not_mem_nil,or_false] at hw
  rcases hw with rfl | rfl
  ·exact hz (by decide) (by decide)
  ·exact hn ho
 ·have hw:w∈[j0J]:=hw
  rw [List.mem_singleton.1 hw];exact hz (by decide) (by decide)
 ·have hw:w∈[j0I]:=hw
  rw [List.mem_singleton.1 hw];exact hz (by decide) (by decide)
 ·have hw:w∈[j0H]:=hw
  rw [List.mem_singleton.1 hw];exact hz (by decide) (by decide)
theorem jse (s:SP):∃ a r,jgJ s=a::r:=by
 unfold jgJ
 cases s.1==1<;>exact ⟨_,_,rfl⟩
theorem jgK {x:SP} {s:ByteArray} (h:j6n x=true) (he:j3v x=s):j0g 32 s=jgJ x:=by
 unfold j3v at he
 rw [h,cond_true] at he
 obtain ⟨a,r,e⟩:=jse x
 rw [e] at he ⊢
 exact (jim (λv hv=>(jsd h v (by rw [e];exact hv)).2) s).1 he
theorem jsM {d:SP} {s:ByteArray} (h:j3v d=s) (h2:s≠eS):j6n d=true:=by
 cases hb:j6n d with
 | true=>rfl
 | false=>
  unfold j3v at h
  rw [hb,cond_false] at h
  exact absurd h.symm h2
theorem jsL {x:SP} (h:j6n x=true):j3v x≠eS:=λhe=>by
 have hp:=jgK h he
 rw [jgE] at hp
 have hx:∀ {z:ByteArray} {r:List ByteArray},[eS]=z::r->Z19 z≠[]->False:=λhh hz=>hz (by rw [<-(List.cons.inj hh).1];rfl)
 rcases jaG h with ⟨r,rfl,hr⟩ | ⟨n,rfl,ho⟩ | ⟨n,rfl,ho⟩ | ⟨n,rfl,ho⟩ | ⟨n,rfl,ho⟩ | ⟨n,m,rfl,ho,hm⟩ | ⟨n,rfl,ho⟩ | rfl | rfl | rfl
 ·exact hx (z:=j0C) (r:=j1N r) hp (by decide)
 ·exact hx (z:=j0D) (r:=[j06 n]) hp (by decide)
 ·exact hx (z:=j0q) (r:=[j06 n]) hp (by decide)
 ·exact hx (z:=j0j) (r:=[j06 n]) hp (by decide)
 ·exact hx (z:=j0p) (r:=[j06 n]) hp (by decide)
 ·exact hx (z:=j0y) (r:=[j06 n,j06 m]) hp (by decide)
 ·exact hx (z:=j0E) (r:=[j06 n]) hp (by decide)
 ·exact hx (z:=j0J) (r:=[]) hp (by decide)
 ·exact hx (z:=j0I) (r:=[]) hp (by decide)
 ·exact hx (z:=j0H) (r:=[]) hp (by decide)
theorem jsP:jci eS=(zSP,false):=je4 λx hx he=>jsL hx he
noncomputable def j1M (w:List ByteArray):Int:=match w with | _::a::_=>(j0S a).1 | _=>0
noncomputable def j3H (w:List ByteArray):Int:=match w with | _::_::b::_=>(j0S b).1 | _=>0
theorem jsX (w:List ByteArray) (hw:∀ x∈w,x.size<=1048576) (hl:w.length<=1048577) (k:List Int->Res):j7N w Z0Y [0,0] 1 k=k [j1M w,j3H w]:=by
 unfold j7N
 obtain ⟨m,hm⟩:∃ m,Z0Y=m+3:=⟨Z0Y-3,by have:=Z1O (n:=10) (by omega);omega⟩
 rw [hm]
 have st:∀ (v:List Int) (i:Int) (rec:List Int×Int->Res) (q:List Int->Res),j6i w (v,i) rec q=j2S w v i (λv i=>rec (v,i)) q:=λ_ _ _ _=>rfl
 have tn:∀ (s:ByteArray),s.size<=1048576->∀ K:Int->Bool->Res,j3d s K=K (j0S s).1 (j0S s).2:=λs hs K=>jrA s hs K
 match w,hw,hl,st with
 | [],_,_,st=>
  rw [Z8u,st]
  rfl
 | [a],_,_,st=>
  rw [Z8u,st]
  rfl
 | [a,b],hw,_,st=>
  rw [Z8u,st]
  unfold j2S
  rw [show decide ((1:Int)<nI [a,b].length)=true from rfl,cond_true,show decide ((1:Int)<3)=true from rfl,cond_true,show inb 1 [a,b].length=true from rfl,cond_true]
  have e1:nth eS [a,b] 1=b:=rfl
  rw [e1,tn b (hw b (by simp)),show inb (Z8g (1-1)) ([0,0]:List Int).length=true from rfl,cond_true]
  dsimp only
  rw [Z8u,st]
  rfl
 | a::b::c::r,hw,hl,st=>
  have hlen:(a::b::c::r).length=r.length+3:=rfl
  rw [Z8u,st]
  unfold j2S
  rw [decide_eq_true (show (1:Int)<nI (a::b::c::r).length by unfold nI;omega),cond_true,show decide ((1:Int)<3)=true from rfl,cond_true,Z9c (by omega) (by omega),cond_true]
  have e1:nth eS (a::b::c::r) 1=b:=rfl
  have e2:nth eS (a::b::c::r) 2=c:=rfl
  rw [e1,tn b (hw b (by simp)),show inb (Z8g (1-1)) ([0,0]:List Int).length=true from rfl,cond_true]
  dsimp only
  rw [Z8u,st]
  unfold j2S
  rw [show Z8g (1+1)=2 from rfl,decide_eq_true (show (2:Int)<nI (a::b::c::r).length by unfold nI;omega),cond_true,show decide ((2:Int)<3)=true from rfl,cond_true,Z9c (by omega) (by omega),cond_true,e2,tn c (hw c (by simp)),show inb (Z8g (2-1)) (upd ([0,0]:List Int) (Z8g (1-1)) (j0S b).1).length=true from rfl,cond_true]
  dsimp only
  rw [Z8u,st]
  unfold j2S
  rw [show Z8g (2+1)=3 from rfl,show decide ((3:Int)<3)=false from rfl,cond_false]
  cases decide ((3:Int)<nI (a::b::c::r).length)<;>rfl
theorem jsU (w:List ByteArray) (hw:∀ x∈w,x.size<=1048576) (hl:w.length<=1048577) (k:List Int->Res):j7D w Z0Y [0,0] 1 k=k [j1M w,j3H w]:=by
 unfold j7D
 obtain ⟨m,hm⟩:∃ m,Z0Y=m+3:=⟨Z0Y-3,by have:=Z1O (n:=10) (by omega);omega⟩
 rw [hm]
 have st:∀ (v:List Int) (i:Int) (rec:List Int×Int->Res) (q:List Int->Res),j61 w (v,i) rec q=j2M w v i (λv i=>rec (v,i)) q:=λ_ _ _ _=>rfl
 have tn:∀ (s:ByteArray),s.size<=1048576->∀ K:Int->Bool->Res,j36 s K=K (j0S s).1 (j0S s).2:=λs hs K=>jrl s hs K
 match w,hw,hl,st with
 | [],_,_,st=>
  rw [Z8u,st]
  rfl
 | [a],_,_,st=>
  rw [Z8u,st]
  rfl
 | [a,b],hw,_,st=>
  rw [Z8u,st]
  unfold j2M
  rw [show decide ((1:Int)<nI [a,b].length)=true from rfl,cond_true,show decide ((1:Int)<3)=true from rfl,cond_true,show inb 1 [a,b].length=true from rfl,cond_true]
  have e1:nth eS [a,b] 1=b:=rfl
  rw [e1,tn b (hw b (by simp)),show inb (Z8g (1-1)) ([0,0]:List Int).length=true from rfl,cond_true]
  dsimp only
  rw [Z8u,st]
  rfl
 | a::b::c::r,hw,hl,st=>
  have hlen:(a::b::c::r).length=r.length+3:=rfl
  rw [Z8u,st]
  unfold j2M
  rw [decide_eq_true (show (1:Int)<nI (a::b::c::r).length by unfold nI;omega),cond_true,show decide ((1:Int)<3)=true from rfl,cond_true,Z9c (by omega) (by omega),cond_true]
  have e1:nth eS (a::b::c::r) 1=b:=rfl
  have e2:nth eS (a::b::c::r) 2=c:=rfl
  rw [e1,tn b (hw b (by simp)),show inb (Z8g (1-1)) ([0,0]:List Int).length=true from rfl,cond_true]
  dsimp only
  rw [Z8u,st]
  unfold j2M
  rw [show Z8g (1+1)=2 from rfl,decide_eq_true (show (2:Int)<nI (a::b::c::r).length by unfold nI;omega),cond_true,show decide ((2:Int)<3)=true from rfl,cond_true,Z9c (by omega) (by omega),cond_true,e2,tn c (hw c (by simp)),show inb (Z8g (2-1)) (upd ([0,0]:List Int) (Z8g (1-1)) (j0S b).1).length=true from rfl,cond_true]
  dsimp only
  rw [Z8u,st]
  unfold j2M
  rw [show Z8g (2+1)=3 from rfl,show decide ((3:Int)<3)=false from rfl,cond_false]
  cases decide ((3:Int)<nI (a::b::c::r).length)<;>rfl
theorem jd3 (a:ByteArray) (r:List ByteArray):(j04 r).size<=(j04 (a::r)).size:=by
 cases r with
 | nil=>show (0:Nat)<=_;omega
 | cons b r=>
  show _<=(a++(spB++j04 (b::r))).size
  simp only [ByteArray.size_append]
  omega
theorem jtd (r:List ByteArray) (hr:r≠[]):Z9k (j04 (j0C::r)) 4 (nI (j04 (j0C::r)).size)=j04 r:=by
 apply j11
 have e:j04 (j0C::r)=j0C++(spB++j04 r):=by rw [jab hr];rfl
 have hl:=j0f (j04 (j0C::r))
 unfold nI
 rw [show (4:Int)=((4:Nat):Int) from rfl,j9S,<-hl,List.take_length,e,j0l,j0l]
 rfl
noncomputable def jip (s:ByteArray) (w:List ByteArray) (w0:ByteArray):SP:=
 bif sEq w0 j0C then (1,(jar (j04 (w.drop 1))).1,0,0,0)
 else bif sEq w0 j0D then (2,zRC,j1M w,0,0)
 else bif sEq w0 j0q then (3,zRC,1,j1M w,0)
 else bif sEq w0 j0j then (3,zRC,2,j1M w,0)
 else bif sEq w0 j0p then (3,zRC,3,j1M w,0)
 else bif sEq w0 j0y then (3,zRC,4,j1M w,j3H w)
 else bif sEq w0 j0E then (4,zRC,j1M w,0,0)
 else bif sEq w0 j0J then (5,zRC,0,0,0)
 else bif sEq w0 j0I then (6,zRC,0,0,0)
 else bif sEq w0 j0H then (7,zRC,0,0,0)
 else zSP
noncomputable def jiq (s:ByteArray) (w:List ByteArray) (w0:ByteArray):SP:=
 bif sEq w0 j0C then (1,(bif decide (4<s.size) then (jar (Z9k s 4 (nI s.size))).1 else zRC),0,0,0)
 else bif sEq w0 j0D then (2,zRC,j1M w,0,0)
 else bif sEq w0 j0E then (4,zRC,j1M w,0,0)
 else bif sEq w0 j0J then (5,zRC,0,0,0)
 else bif sEq w0 j0I then (6,zRC,0,0,0)
 else bif sEq w0 j0H then (7,zRC,0,0,0)
 else bif sEq j0y w0 then (3,zRC,4,j1M w,j3H w)
 else bif sEq j0p w0 then (3,zRC,3,j1M w,j3H w)
 else bif sEq j0j w0 then (3,zRC,2,j1M w,j3H w)
 else bif sEq j0q w0 then (3,zRC,1,j1M w,j3H w)
 else zSP
theorem joI {r:RC} {s:ByteArray} (hr:j23 r=true) (he:j3v (1,r,0,0,0)=s):s=j04 (j0C::j1N r):=by
 rw [<-he]
 unfold j3v j6n
 dsimp only
 rw [show ((1:Int)==1)=true from rfl,cond_true,hr]
 rfl
theorem jrC {s:ByteArray} (hs:s.size<=1048576) {x:SP} (hx:j6n x=true) (he:j3v x=s) {w0:ByteArray} {r:List ByteArray} (hw:j0g 32 s=w0::r):jip s (w0::r) w0=x:=by
 have hp:=jgK hx he
 rw [hw] at hp
 have tn:∀ {n:Int},okN n=true->(j0S (j06 n)).1=n:=λ{n} h=>by rw [jdI (jrv h)]
 unfold jip
 rcases jaG hx with ⟨r',rfl,hr⟩ | ⟨n,rfl,ho⟩ | ⟨n,rfl,ho⟩ | ⟨n,rfl,ho⟩ | ⟨n,rfl,ho⟩ | ⟨n,m,rfl,ho,hm⟩ | ⟨n,rfl,ho⟩ | rfl | rfl | rfl
 ·have hp:w0::r=j0C::j1N r':=hp
  obtain ⟨rfl,rfl⟩:=List.cons.inj hp
  have hsr:=joI hr he
  have hsz:=jd3 j0C (j1N r')
  rw [<-hsr] at hsz
  rw [Z8L,cond_true]
  show (1,(jar (j04 (j1N r'))).1,0,0,0)=_
  rw [jr8 hr (je5 hr) (by omega)]
 ·have hp:w0::r=[j0D,j06 n]:=hp
  obtain ⟨rfl,rfl⟩:=List.cons.inj hp
  rw [j02 (show Z19 j0D≠Z19 j0C by decide),cond_false,Z8L,cond_true]
  show (2,zRC,(j0S (j06 n)).1,0,0)=_
  rw [tn ho]
 ·have hp:w0::r=[j0q,j06 n]:=hp
  obtain ⟨rfl,rfl⟩:=List.cons.inj hp
  rw [j02 (show Z19 j0q≠Z19 j0C by decide),cond_false,j02 (show Z19 j0q≠Z19 j0D by decide),cond_false,Z8L,cond_true]
  show (3,zRC,1,(j0S (j06 n)).1,0)=_
  rw [tn ho]
 ·have hp:w0::r=[j0j,j06 n]:=hp
  obtain ⟨rfl,rfl⟩:=List.cons.inj hp
  rw [j02 (show Z19 j0j≠Z19 j0C by decide),cond_false,j02 (show Z19 j0j≠Z19 j0D by decide),cond_false,j02 (show Z19 j0j≠Z19 j0q by decide),cond_false,Z8L,cond_true]
  show (3,zRC,2,(j0S (j06 n)).1,0)=_
  rw [tn ho]
 ·have hp:w0::r=[j0p,j06 n]:=hp
  obtain ⟨rfl,rfl⟩:=List.cons.inj hp
  rw [j02 (show Z19 j0p≠Z19 j0C by decide),cond_false,j02 (show Z19 j0p≠Z19 j0D by decide),cond_false,j02 (show Z19 j0p≠Z19 j0q by decide),cond_false,j02 (show Z19 j0p≠Z19 j0j by decide),cond_false,Z8L,cond_true]
  show (3,zRC,3,(j0S (j06 n)).1,0)=_
  rw [tn ho]
 ·have hp:w0::r=[j0y,j06 n,j06 m]:=hp
  obtain ⟨rfl,rfl⟩:=List.cons.inj hp
  rw [j02 (show Z19 j0y≠Z19 j0C by decide),cond_false,j02 (show Z19 j0y≠Z19 j0D by decide),cond_false,j02 (show Z19 j0y≠Z19 j0q by decide),cond_false,j02 (show Z19 j0y≠Z19 j0j by decide),cond_false,j02 (show Z19 j0y≠Z19 j0p by decide),cond_false,Z8L,cond_true]
  show (3,zRC,4,(j0S (j06 n)).1,(j0S (j06 m)).1)=_
  rw [tn ho,tn hm]
 ·have hp:w0::r=[j0E,j06 n]:=hp
  obtain ⟨rfl,rfl⟩:=List.cons.inj hp
  rw [j02 (show Z19 j0E≠Z19 j0C by decide),cond_false,j02 (show Z19 j0E≠Z19 j0D by decide),cond_false,j02 (show Z19 j0E≠Z19 j0q by decide),cond_false,j02 (show Z19 j0E≠Z19 j0j by decide),cond_false,j02 (show Z19 j0E≠Z19 j0p by decide),cond_false,j02 (show Z19 j0E≠Z19 j0y by decide),cond_false,Z8L,cond_true]
  show (4,zRC,(j0S (j06 n)).1,0,0)=_
  rw [tn ho]
 ·have hp:w0::r=[j0J]:=hp
  obtain ⟨rfl,rfl⟩:=List.cons.inj hp
  rw [j02 (show Z19 j0J≠Z19 j0C by decide),j02 (show Z19 j0J≠Z19 j0D by decide),j02 (show Z19 j0J≠Z19 j0q by decide),j02 (show Z19 j0J≠Z19 j0j by decide),j02 (show Z19 j0J≠Z19 j0p by decide),j02 (show Z19 j0J≠Z19 j0y by decide),j02 (show Z19 j0J≠Z19 j0E by decide),Z8L]
  rfl
 ·have hp:w0::r=[j0I]:=hp
  obtain ⟨rfl,rfl⟩:=List.cons.inj hp
  rw [j02 (show Z19 j0I≠Z19 j0C by decide),j02 (show Z19 j0I≠Z19 j0D by decide),j02 (show Z19 j0I≠Z19 j0q by decide),j02 (show Z19 j0I≠Z19 j0j by decide),j02 (show Z19 j0I≠Z19 j0p by decide),j02 (show Z19 j0I≠Z19 j0y by decide),j02 (show Z19 j0I≠Z19 j0E by decide),j02 (show Z19 j0I≠Z19 j0J by decide),Z8L]
  rfl
 ·have hp:w0::r=[j0H]:=hp
  obtain ⟨rfl,rfl⟩:=List.cons.inj hp
  rw [j02 (show Z19 j0H≠Z19 j0C by decide),j02 (show Z19 j0H≠Z19 j0D by decide),j02 (show Z19 j0H≠Z19 j0q by decide),j02 (show Z19 j0H≠Z19 j0j by decide),j02 (show Z19 j0H≠Z19 j0p by decide),j02 (show Z19 j0H≠Z19 j0y by decide),j02 (show Z19 j0H≠Z19 j0E by decide),j02 (show Z19 j0H≠Z19 j0J by decide),j02 (show Z19 j0H≠Z19 j0I by decide),Z8L]
  rfl
theorem jrD {s:ByteArray} (hs:s.size<=1048576) {x:SP} (hx:j6n x=true) (he:j3v x=s) {w0:ByteArray} {r:List ByteArray} (hw:j0g 32 s=w0::r):jiq s (w0::r) w0=x:=by
 have hp:=jgK hx he
 rw [hw] at hp
 have tn:∀ {n:Int},okN n=true->(j0S (j06 n)).1=n:=λ{n} h=>by rw [jdI (jrv h)]
 unfold jiq
 rcases jaG hx with ⟨r',rfl,hr⟩ | ⟨n,rfl,ho⟩ | ⟨n,rfl,ho⟩ | ⟨n,rfl,ho⟩ | ⟨n,rfl,ho⟩ | ⟨n,m,rfl,ho,hm⟩ | ⟨n,rfl,ho⟩ | rfl | rfl | rfl
 ·have hp:w0::r=j0C::j1N r':=hp
  obtain ⟨rfl,rfl⟩:=List.cons.inj hp
  have hsr:=joI hr he
  have hsz:=jd3 j0C (j1N r')
  rw [<-hsr] at hsz
  have hne:j1N r'≠[]:=by unfold j1N;exact List.cons_ne_nil _ _
  have h4:4<s.size:=by
   have e:j04 (j0C::j1N r')=j0C++(spB++j04 (j1N r')):=by rw [jab hne];rfl
   rw [hsr,e]
   simp only [ByteArray.size_append]
   have s1:(j0C).size=3:=rfl
   have s2:spB.size=1:=rfl
   have s3:0<(j04 (j1N r')).size:=by
    have:=jd9 hr
    rw [<-j0f]
    cases hb:Z19 (j04 (j1N r')) with
    | nil=>
     have hj:j04 (j1N r')=eS:=j11 hb
     have hh:=jd9 hr
     rw [hj,Z8L] at hh
     cases hh
    | cons _ _=>simp
   omega
  have hc:=jtd (j1N r') hne
  rw [<-hsr] at hc
  rw [Z8L,cond_true,decide_eq_true h4,cond_true,hc,jr8 hr (je5 hr) (by omega)]
 ·have hp:w0::r=[j0D,j06 n]:=hp
  obtain ⟨rfl,rfl⟩:=List.cons.inj hp
  rw [j02 (show Z19 j0D≠Z19 j0C by decide),cond_false,Z8L,cond_true]
  show (2,zRC,(j0S (j06 n)).1,0,0)=_
  rw [tn ho]
 ·have hp:w0::r=[j0q,j06 n]:=hp
  obtain ⟨rfl,rfl⟩:=List.cons.inj hp
  rw [j02 (show Z19 j0q≠Z19 j0C by decide),j02 (show Z19 j0q≠Z19 j0D by decide),j02 (show Z19 j0q≠Z19 j0E by decide),j02 (show Z19 j0q≠Z19 j0J by decide),j02 (show Z19 j0q≠Z19 j0I by decide),j02 (show Z19 j0q≠Z19 j0H by decide),j02 (show Z19 j0y≠Z19 j0q by decide),j02 (show Z19 j0p≠Z19 j0q by decide),j02 (show Z19 j0j≠Z19 j0q by decide),Z8L]
  show (3,zRC,1,(j0S (j06 n)).1,0)=_
  rw [tn ho]
 ·have hp:w0::r=[j0j,j06 n]:=hp
  obtain ⟨rfl,rfl⟩:=List.cons.inj hp
  rw [j02 (show Z19 j0j≠Z19 j0C by decide),j02 (show Z19 j0j≠Z19 j0D by decide),j02 (show Z19 j0j≠Z19 j0E by decide),j02 (show Z19 j0j≠Z19 j0J by decide),j02 (show Z19 j0j≠Z19 j0I by decide),j02 (show Z19 j0j≠Z19 j0H by decide),j02 (show Z19 j0y≠Z19 j0j by decide),j02 (show Z19 j0p≠Z19 j0j by decide),Z8L]
  show (3,zRC,2,(j0S (j06 n)).1,0)=_
  rw [tn ho]
 ·have hp:w0::r=[j0p,j06 n]:=hp
  obtain ⟨rfl,rfl⟩:=List.cons.inj hp
  rw [j02 (show Z19 j0p≠Z19 j0C by decide),j02 (show Z19 j0p≠Z19 j0D by decide),j02 (show Z19 j0p≠Z19 j0E by decide),j02 (show Z19 j0p≠Z19 j0J by decide),j02 (show Z19 j0p≠Z19 j0I by decide),j02 (show Z19 j0p≠Z19 j0H by decide),j02 (show Z19 j0y≠Z19 j0p by decide),Z8L]
  show (3,zRC,3,(j0S (j06 n)).1,0)=_
  rw [tn ho]
 ·have hp:w0::r=[j0y,j06 n,j06 m]:=hp
  obtain ⟨rfl,rfl⟩:=List.cons.inj hp
  rw [j02 (show Z19 j0y≠Z19 j0C by decide),j02 (show Z19 j0y≠Z19 j0D by decide),j02 (show Z19 j0y≠Z19 j0E by decide),j02 (show Z19 j0y≠Z19 j0J by decide),j02 (show Z19 j0y≠Z19 j0I by decide),j02 (show Z19 j0y≠Z19 j0H by decide),Z8L]
  show (3,zRC,4,(j0S (j06 n)).1,(j0S (j06 m)).1)=_
  rw [tn ho,tn hm]
 ·have hp:w0::r=[j0E,j06 n]:=hp
  obtain ⟨rfl,rfl⟩:=List.cons.inj hp
  rw [j02 (show Z19 j0E≠Z19 j0C by decide),j02 (show Z19 j0E≠Z19 j0D by decide),Z8L]
  show (4,zRC,(j0S (j06 n)).1,0,0)=_
  rw [tn ho]
 ·have hp:w0::r=[j0J]:=hp
  obtain ⟨rfl,rfl⟩:=List.cons.inj hp
  rw [j02 (show Z19 j0J≠Z19 j0C by decide),j02 (show Z19 j0J≠Z19 j0D by decide),j02 (show Z19 j0J≠Z19 j0E by decide),Z8L]
  rfl
 ·have hp:w0::r=[j0I]:=hp
  obtain ⟨rfl,rfl⟩:=List.cons.inj hp
  rw [j02 (show Z19 j0I≠Z19 j0C by decide),j02 (show Z19 j0I≠Z19 j0D by decide),j02 (show Z19 j0I≠Z19 j0E by decide),j02 (show Z19 j0I≠Z19 j0J by decide),Z8L]
  rfl
 ·have hp:w0::r=[j0H]:=hp
  obtain ⟨rfl,rfl⟩:=List.cons.inj hp
  rw [j02 (show Z19 j0H≠Z19 j0C by decide),j02 (show Z19 j0H≠Z19 j0D by decide),j02 (show Z19 j0H≠Z19 j0E by decide),j02 (show Z19 j0H≠Z19 j0J by decide),j02 (show Z19 j0H≠Z19 j0I by decide),Z8L]
  rfl
theorem jmk (s:ByteArray):(Z9k s 4 (nI s.size)).size<=s.size:=by
 rw [<-j0f,<-j0f s]
 unfold nI
 rw [show (4:Int)=((4:Nat):Int) from rfl,j9S,List.length_drop,List.length_take]
 omega
noncomputable def jir (w:List ByteArray) (w0:ByteArray):SP:=
 bif sEq j0y w0 then (3,zRC,4,j1M w,j3H w)
 else bif sEq j0p w0 then (3,zRC,3,j1M w,j3H w)
 else bif sEq j0j w0 then (3,zRC,2,j1M w,j3H w)
 else bif sEq j0q w0 then (3,zRC,1,j1M w,j3H w)
 else zSP
theorem jis (w:List ByteArray) {w0:ByteArray} (h:Z19 j0y≠Z19 w0/\Z19 j0p≠Z19 w0/\Z19 j0j≠Z19 w0/\Z19 j0q≠Z19 w0):jir w w0=zSP:=by
 unfold jir
 rw [j02 h.1,j02 h.2.1,j02 h.2.2.1,j02 h.2.2.2]
 rfl
theorem jsZ (s:ByteArray) (w:List ByteArray) (w0:ByteArray):jiq s w w0 =
  bif sEq w0 j0C then (1,(bif decide (4<s.size) then (jar (Z9k s 4 (nI s.size))).1 else zRC),0,0,0)
  else bif sEq w0 j0D then (2,zRC,j1M w,0,0)
  else bif sEq w0 j0E then (4,zRC,j1M w,0,0)
  else bif sEq w0 j0J then (5,zRC,0,0,0)
  else bif sEq w0 j0I then (6,zRC,0,0,0)
  else bif sEq w0 j0H then (7,zRC,0,0,0)
  else jir w w0:=rfl
theorem jtc (s:ByteArray) (hs:s.size<=1048576) (w:List ByteArray) (w0:ByteArray) (K:SP->Res):j2w s [j1M w,j3H w] w0 (jir w w0) K=K (jiq s w w0):=by
 rw [jsZ]
 unfold j2w
 have i0:inb 0 ([j1M w,j3H w]:List Int).length=true:=rfl
 have n0:nth 0 ([j1M w,j3H w]:List Int) 0=j1M w:=rfl
 rw [i0,n0]
 simp only [cond_true]
 cases h1:sEq w0 j0C
 ·simp only [cond_false]
  cases h2:sEq w0 j0D
  ·simp only [cond_false]
   cases h3:sEq w0 j0E
   ·simp only [cond_false]
    cases h4:sEq w0 j0J
    ·simp only [cond_false]
     cases h5:sEq w0 j0I
     ·simp only [cond_false]
      cases h6:sEq w0 j0H
      ·rfl
      ·rw [(j0t _ _).1 h6,jis w (by decide)];rfl
     ·rw [(j0t _ _).1 h5,jis w (by decide)];rfl
    ·rw [(j0t _ _).1 h4,jis w (by decide)];rfl
   ·rfl
  ·rfl
 ·rw [(j0t _ _).1 h1,jis w (by decide)]
  simp only [cond_true]
  by_cases h4:4<s.size
  ·rw [decide_eq_true (show nI s.size>4 by unfold nI;omega),decide_eq_true h4]
   simp only [cond_true]
   have hc:Z6R 4 (nI s.size) s.size=true:=j4l (i:=4) (by omega)
   rw [hc,cond_true,js9 _ (Nat.le_trans (jmk s) hs)]
  ·rw [decide_eq_false (show ¬ nI s.size>4 by unfold nI;omega),decide_eq_false h4]
   rfl
theorem jsG (s:ByteArray) (x:SP) (hx:j2y x.2.1.2.2) (k:SP->Bool->Res):j2x s x (λt t1=>k t1 t)=bif sEq s eS then k zSP false else bif sNe (j3v x) s then k zSP false else k x true:=by
 unfold j2x
 rw [jqQ x hx]
theorem jst (s:ByteArray) (x:SP) (hx:j2y x.2.1.2.2) (k:SP->Bool->Res):j52 s x (λt t1=>k t1 t)=bif sEq s eS then k zSP false else bif sNe (j3v x) s then k zSP false else k x true:=by
 unfold j52
 rw [jqH x hx]
theorem j1q {c:Bool} {a b:SP} (ha:j2y a.2.1.2.2) (hb:j2y b.2.1.2.2):j2y (bif c then a else b).2.1.2.2:=by cases c<;>assumption
theorem jsK {s:ByteArray} (hs:s.size<=1048576) (w:List ByteArray) (w0:ByteArray):j2y (jiq s w w0).2.1.2.2:=by
 have z:∀ (k a b c:Int),j2y ((k,zRC,a,b,c):SP).2.1.2.2:=λ_ _ _ _=>j7w
 unfold jiq
 refine j1q ?_ (j1q (z _ _ _ _) (j1q (z _ _ _ _) (j1q (z _ _ _ _) (j1q (z _ _ _ _) (j1q (z _ _ _ _) (j1q (z _ _ _ _) (j1q (z _ _ _ _) (j1q (z _ _ _ _) (j1q (z _ _ _ _) (z _ _ _ _))))))))))
 show j2y (bif decide (4<s.size) then (jar (Z9k s 4 (nI s.size))).1 else zRC).2.2
 cases decide (4<s.size)
 ·exact j7w
 ·exact jr9 (Nat.le_trans (jmk s) hs)
theorem jsJ {s:ByteArray} (hs:s.size<=1048576) {w0:ByteArray} {r:List ByteArray} (hw:j0g 32 s=w0::r):j2y (jip s (w0::r) w0).2.1.2.2:=by
 have z:∀ (k a b c:Int),j2y ((k,zRC,a,b,c):SP).2.1.2.2:=λ_ _ _ _=>j7w
 unfold jip
 refine j1q ?_ (j1q (z _ _ _ _) (j1q (z _ _ _ _) (j1q (z _ _ _ _) (j1q (z _ _ _ _) (j1q (z _ _ _ _) (j1q (z _ _ _ _) (j1q (z _ _ _ _) (j1q (z _ _ _ _) (j1q (z _ _ _ _) (z _ _ _ _))))))))))
 have hj:=ja3 s
 rw [hw] at hj
 have:=jd3 w0 r
 rw [hj] at this
 exact jr9 (s:=j04 r) (by omega)
theorem jqA {s:ByteArray} {x:SP} (hb:∀ y,j6n y=true->j3v y=s->x=y) (k:SP->Bool->Res):(bif sEq s eS then k zSP false else bif sNe (j3v x) s then k zSP false else k x true)=k (jci s).1 (jci s).2:=by
 by_cases he:s=eS
 ·subst he
  rw [Z8L,cond_true,jsP]
 ·have:sEq s eS=false:=by
   cases h:sEq s eS
   ·rfl
   ·exact absurd ((j0t _ _).1 h) he
  rw [this,cond_false]
  exact jcN x hb (λh=>jsM h he) k
theorem jqy (s:ByteArray) (hs:s.size<=1048576) (k:SP->Bool->Res):j8q s k=k (jci s).1 (jci s).2:=by
 unfold j8q
 rw [j5f s (by omega)]
 have hws:∀ x∈j0g 32 s,x.size<=1048576:=λx hx=>Nat.le_trans (j4J 32 s x hx) hs
 have hwl:=j6d 32 s
 obtain ⟨w0,r,hw⟩:=jmQ 32 s
 rw [hw] at hws hwl ⊢
 rw [jsX _ hws (by omega)]
 unfold jb6
 have hlen:(w0::r).length=r.length+1:=rfl
 have e0:nth eS (w0::r) 0=w0:=rfl
 have i0:inb 0 (w0::r).length=true:=Z9c (by omega) (by omega)
 have j0:inb 0 ([j1M (w0::r),j3H (w0::r)]:List Int).length=true:=rfl
 have j1:inb 1 ([j1M (w0::r),j3H (w0::r)]:List Int).length=true:=rfl
 have key:=Z8q 5 (λi x=>(i,x)) (λi (x:SP)=>bif decide (0<i)&&sEq (nth eS [eS,j0q,j0j,j0p,j0y] (i:Int)) w0 then (3,zRC,(i:Int),j1M (w0::r),j3H (w0::r)) else x) (λ_ _=>True) (step:=j6j (w0::r) [j1M (w0::r),j3H (w0::r)] [eS,j0q,j0j,j0p,j0y] 5)
  (λ(x:SP)=>bif inb 0 (w0::r).length then j2w s [j1M (w0::r),j3H (w0::r)] (nth eS (w0::r) 0) x λ(x1:SP)=>j2x s x1 λ(t:Bool) (t1:SP)=>k t1 t else none)
  (λ(x:SP)=>bif inb 0 (w0::r).length then j2w s [j1M (w0::r),j3H (w0::r)] (nth eS (w0::r) 0) x λ(x1:SP)=>j2x s x1 λ(t:Bool) (t1:SP)=>k t1 t else none)
  zSP (by unfold LIM;omega) trivial (λ_ _ _ _=>trivial) (λi x rec hi _=>by
   show j46 _ _ _ _ _ _ _ _=_
   unfold j46
   dsimp only
   rw [decide_eq_true (show (i:Int)<5 by omega),cond_true,show inb (i:Int) ([eS,j0q,j0j,j0p,j0y]:List ByteArray).length=true from Z9c (by omega) (by show (i:Int)<((5:Nat):Int);omega),cond_true,j05 (n:=(i:Int)+1) (by omega)]
   by_cases h0:0<i
   ·rw [decide_eq_true (show (i:Int)>0 by omega),cond_true,i0,cond_true,decide_eq_true h0,Bool.true_and,e0,j0,j1]
    simp only [cond_true]
    cases sEq (nth eS [eS,j0q,j0j,j0p,j0y] (i:Int)) w0<;>rfl
   ·rw [decide_eq_false (show ¬ (i:Int)>0 by omega),cond_false,decide_eq_false h0];rfl) (λx rec _=>by
   show j46 _ _ _ _ _ _ _ _=_
   unfold j46
   rfl)
 refine Eq.trans key.1 ?_
 have ef:Z4T (λi (x:SP)=>bif decide (0<i)&&sEq (nth eS [eS,j0q,j0j,j0p,j0y] (i:Int)) w0 then (3,zRC,(i:Int),j1M (w0::r),j3H (w0::r)) else x) 0 5 zSP=jir (w0::r) w0:=by
  unfold jir
  simp only [Z4T]
  have q1:nth eS [eS,j0q,j0j,j0p,j0y] ((0+1:Nat):Int)=j0q:=rfl
  have q2:nth eS [eS,j0q,j0j,j0p,j0y] ((0+1+1:Nat):Int)=j0j:=rfl
  have q3:nth eS [eS,j0q,j0j,j0p,j0y] ((0+1+1+1:Nat):Int)=j0p:=rfl
  have q4:nth eS [eS,j0q,j0j,j0p,j0y] ((0+1+1+1+1:Nat):Int)=j0y:=rfl
  rw [q1,q2,q3,q4]
  cases sEq j0q w0<;>cases sEq j0j w0<;>cases sEq j0p w0<;>cases sEq j0y w0<;>rfl
 rw [ef,i0,cond_true,e0,jtc s hs,jsG s _ (jsK hs _ _)]
 exact jqA (λx hx he=>jrD hs hx he hw) k
theorem jhZ (s:ByteArray) (hs:s.size<=1048576) (k:SP->Bool->Res):j5A s k=k (jci s).1 (jci s).2:=by
 unfold j5A
 rw [jbK s (by omega)]
 have hws:∀ x∈j0g 32 s,x.size<=1048576:=λx hx=>Nat.le_trans (j4J 32 s x hx) hs
 have hwl:=j6d 32 s
 obtain ⟨w0,r,hw⟩:=jmQ 32 s
 rw [hw] at hws hwl ⊢
 rw [jsU _ hws (by omega)]
 have hlen:(w0::r).length=r.length+1:=rfl
 have e0:nth eS (w0::r) 0=w0:=rfl
 have i0:inb 0 (w0::r).length=true:=Z9c (by omega) (by omega)
 have j0:inb 0 ([j1M (w0::r),j3H (w0::r)]:List Int).length=true:=rfl
 have j1:inb 1 ([j1M (w0::r),j3H (w0::r)]:List Int).length=true:=rfl
 have n0:nth 0 ([j1M (w0::r),j3H (w0::r)]:List Int) 0=j1M (w0::r):=rfl
 have n1:nth 0 ([j1M (w0::r),j3H (w0::r)]:List Int) 1=j3H (w0::r):=rfl
 have hj:=ja3 s
 rw [hw] at hj
 have hd:=jd3 w0 r
 rw [hj] at hd
 rw [i0,cond_true,e0]
 have sw:∀ K:SP->Res,j51 (w0::r) [j1M (w0::r),j3H (w0::r)] w0 zSP K=K (jip s (w0::r) w0):=λK=>by
  have hb:=jha (w0::r) 1 (by show (j04 r).size<=LIM;unfold LIM;omega) (by omega)
  have hb:∀ k,j6y (w0::r) 1 k=k (j04 r):=hb
  unfold j51 jip
  rw [hb,jrU _ (by omega),j0,j1,n0,n1]
  simp only [cond_true]
  cases sEq w0 j0C
  ·cases sEq w0 j0D
   ·cases sEq w0 j0q
    ·cases sEq w0 j0j
     ·cases sEq w0 j0p
      ·cases sEq w0 j0y
       ·cases sEq w0 j0E
        ·cases sEq w0 j0J
         ·cases sEq w0 j0I
          ·cases sEq w0 j0H<;>rfl
          ·rfl
         ·rfl
        ·rfl
       ·rfl
      ·rfl
     ·rfl
    ·rfl
   ·rfl
  ·rfl
 rw [sw,jst s _ (jsJ hs hw)]
 exact jqA (λx hx he=>jrC hs hx he hw) k
end Go.PI.G
namespace Go.PI.G
open Go Go.PI
abbrev yRC:Ty:= .pair (.int .i64) (.pair (.int .i64) yST)
abbrev ySP:Ty:= .pair (.int .i64) (.pair yRC (.pair (.int .i64) (.pair (.int .i64) (.int .i64))))
end Go.PI.G
namespace Go.PI.G
open Go Go.PI
theorem jsS {v:V} (h:j0u v=true):msr yV v<=30:=by
 have e:msr yV v=0+(0+v.2.2.size):=rfl
 have:=jsk h
 omega
theorem jfU {e:Ty} (c:Nat):(l:List (El e))->(∀ x∈l,msr e x<=c)->msr (.slice e) l<=l.length * (c+1)
 | [],_=>Nat.zero_le _
 | x::l,h=>by
  have h1:=jfU c l λy hy=>h y (List.mem_cons_of_mem _ hy)
  have h2:=h x (by simp)
  rw [jrX] at h1 ⊢
  simp only [List.map_cons,List.sum_cons,List.length_cons]
  rw [Nat.succ_mul]
  omega
theorem jeQ {l:List V} (h:j1R l=true):msr (.slice yV) l<=248:=by
 have hp:=j0v h
 have h1:=jfU (e:=yV) 30 l λv hv=>jsS (hp.2.2 v hv)
 have h2:l.length * 31<=8 * 31:=Nat.mul_le_mul_right _ hp.2.1
 omega
theorem jqo {c:C} (h:j1A c=true):msr yC c<=38:=by
 have e:msr yC c=c.1.size+(0+(0+(0+msr yV c.2.2.2.2))):=rfl
 unfold j1A at h
 simp only [Bool.and_eq_true] at h
 have h1:=j0o h.1
 have h2:=jsS h.2.2.1
 omega
theorem jrK {l:List C} (h:jby l=true) {c:C} (hc:c∈l):j1A c=true:=by
 obtain ⟨i,hi,rfl⟩:=List.getElem_of_mem hc
 exact j7u h i hi
theorem jrJ {l:List C} {n:ByteArray} (h:0<=j13 l n):∃ c∈l,c.1=n:=by
 unfold j13 Z8b at h
 cases hf:List.findIdx? (λc:C=>sEq c.1 n) l with
 | none=>rw [hf] at h;dsimp only at h;omega
 | some i=>
  obtain ⟨hi,hp,_⟩:=List.findIdx?_eq_some_iff_getElem.1 hf
  exact ⟨l[i],List.getElem_mem hi,(j0t _ _).1 hp⟩
theorem joG {l:List C}:(ks:List ByteArray)->(last:Int)->last<(l.length:Int)->j68 l last ks=true->last+(ks.length:Int)<(l.length:Int)
 | [],last,h0,_=>by simpa using h0
 | q::ks,last,h0,h=>by
  simp only [j68,Bool.and_eq_true,Bool.not_eq_true',decide_eq_false_iff_not] at h
  have h1:=joG ks (j13 l q) (jay l q).2 h.2.2
  rw [List.length_cons]
  omega
theorem jsz {t:ByteArray} {cs:List C} {ks:List ByteArray} (h:jei (t,cs,ks)=true):t.size<=8/\msr (.slice yC) cs<=312/\msr (.slice .str) ks<=72:=by
 have hp:=j2t h
 dsimp only at hp
 have hc:∀ c∈cs,j1A c=true:=λc hc=>jrK hp.2.2.2.2.1 hc
 have h1:=jfU (e:=yC) 38 cs λc h=>jqo (hc c h)
 have h2:cs.length * 39<=8 * 39:=Nat.mul_le_mul_right _ hp.2.2.1
 have hk:=je0 ks (-1) (by omega) hp.2.2.2.2.2
 have hl:=joG ks (-1) (by omega) hp.2.2.2.2.2
 have h3:=jfU (e:= .str) 8 ks λk hm=>by
  obtain ⟨c,hcm,he⟩:=jrJ (hk k hm).1
  have hb:=hc c hcm
  unfold j1A at hb
  rw [Bool.and_eq_true] at hb
  have:=(j0o hb.1).2
  rw [he] at this
  exact this
 have h4:ks.length * 9<=8 * 9:=Nat.mul_le_mul_right _ (by omega)
 exact ⟨(j0o hp.1).2,by omega,by omega⟩
theorem jsx {d:D} (h:j1Y d=true):msr yD d<=500:=by
 have e:∀ d:D,msr yD d=0+(d.2.1.size+(msr (.slice yC) d.2.2.1+(msr (.slice .str) d.2.2.2.1+(d.2.2.2.2.1.size+d.2.2.2.2.2.size)))):=λ_=>rfl
 have z1:msr (.slice yC) ([]:List C)=0:=rfl
 have z2:msr (.slice .str) ([]:List ByteArray)=0:=rfl
 have z3:eS.size=0:=rfl
 rw [e]
 obtain ⟨ht,hc⟩:=j4H h
 have ht:=(j0o ht).2
 rcases hc with ⟨t,cs,ks,rfl,hb⟩ | ⟨t,rfl⟩ | ⟨t,c,rfl,hb⟩ | ⟨t,n,rfl,hb⟩ | ⟨t,n,m,rfl,hb,hb2⟩
 ·have:=jsz hb
  dsimp only at *
  omega
 ·dsimp only at *
  omega
 ·have h1:=jfU (e:=yC) 38 [c] λx hx=>by rw [List.mem_singleton.1 hx];exact jqo hb
  have h2:[c].length * (38+1)=39:=rfl
  dsimp only at *
  omega
 ·have:=(j0o hb).2
  dsimp only at *
  omega
 ·have:=(j0o hb).2
  have:=(j0o hb2).2
  dsimp only at *
  omega
theorem jsV {s:ST} (h:stB s=true):msr yST s<=1100:=by
 have e:∀ s:ST,msr yST s=0+(s.2.1.size+(msr (.slice yV) s.2.2.1+(msr (.slice yV) s.2.2.2.1+msr yD s.2.2.2.2))):=λ_=>rfl
 have z1:msr (.slice yV) ([]:List V)=0:=rfl
 have z2:msr yD zD=0:=rfl
 rw [e]
 obtain ⟨ht,hc⟩:=j9K h
 have ht:=(j0o ht).2
 rcases hc with ⟨t,r,rfl,hb⟩ | ⟨t,q,r,rfl,hb,hb2⟩ | ⟨t,q,rfl,hb⟩ | ⟨t,rfl⟩ | ⟨d,rfl,hb⟩
 ·have:=jeQ hb
  dsimp only at *
  omega
 ·have:=jeQ hb
  have:=jeQ hb2
  dsimp only at *
  omega
 ·have:=jeQ hb
  dsimp only at *
  omega
 ·dsimp only at *
  omega
 ·have:=jsx hb
  dsimp only at *
  omega
end Go.PI.G
namespace Go.PI.G
open Go Go.PI Go.Proofs
theorem jhb (k:ByteArray->Res):∀ (m n d:Nat) (s:ByteArray),n<m->0<n->n<=4294967296->n<10 ^ (d+1)->s.size+d<=1000 ->
  Z10 j42 m ((n:Int),s) k=k (jgo n++s)
 | 0,n,d,s,h,_,_,_,_=>by omega
 | m+1,n,d,s,h,hn,hb,hd,hs=>by
  rw [Z8u]
  show j41 _ _ _ _=_
  unfold j41
  have h9:decide ((n:Int)>0)=true:=decide_eq_true (by omega)
  rw [h9,cond_true,jlo,jlp,Z9b (n:=((n / 10:Nat):Int)) (by omega) (by omega)]
  show (bif lim ((dgt ((n % 10:Nat):Int)).size+s.size) then Z10 j42 m (((n / 10:Nat):Int),dgt ((n % 10:Nat):Int)++s) k else none)=_
  rw [jdN,Z9d (by unfold LIM;omega),cond_true]
  by_cases h1:n<10
  ·have h10:n / 10=0:=by omega
   have h11:n % 10=n:=by omega
   rw [h10,h11,jnW h1]
   obtain ⟨m,rfl⟩:∃ e,m=e+1:=⟨m-1,by omega⟩
   rw [Z8u]
   show j41 _ _ _ _=_
   unfold j41
   have h0:decide (((0:Nat):Int)>0)=false:=decide_eq_false (by omega)
   rw [h0,cond_false]
  ·obtain ⟨d,rfl⟩:∃ e,d=e+1:=by
    cases d with
    | zero=>exact absurd (by simpa using hd) h1
    | succ d=>exact ⟨d,rfl⟩
   rw [jhb k m (n / 10) d _ (by omega) (by omega) (by omega) (Nat.div_lt_of_lt_mul (by rw [Nat.pow_succ] at hd;omega)) (by rw [ByteArray.size_append,jdN];omega),jqW h1,ByteArray.append_assoc]
theorem j8z (k:Int) (h:1<=k/\k<=4294967296) (K:ByteArray->Res):j1m k K=K (mT k):=by
 unfold j1m jb2
 have h0:decide (k<=0)=false:=decide_eq_false (by omega)
 have:=jhb (λ(out:ByteArray)=>bif lim (1+(ByteArray.size out)) then K (z_m++out) else none) Z0Y k.toNat 12 eS (Z1O (by omega)) (by omega) (by omega) (by omega) (by show 0+12<=1000;omega)
 rw [show ((k.toNat:Nat):Int)=k by omega,j33] at this
 rw [h0,cond_false]
 refine this.trans ?_
 have hs:=jox 12 k.toNat (by omega)
 rw [Z9d (by unfold LIM;omega),cond_true]
 rfl
end Go.PI.G
set_option maxRecDepth 10000
namespace Go.PI.G
open Go Go.PI Go.Proofs
theorem jqg (a:Int×Int×ByteArray) (h:msr y2 a<=1048576) (k:Bool->Res):ja5 a a k=k true:=by
 unfold ja5
 simp only [Z9g,Z8M,beq_self_eq_true,cond_false,Bool.not_true]
end Go.PI.G
namespace Go.PI.G
open Go Go.PI Go.Proofs
theorem jsn (a:ByteArray×Int×Bool×Bool×Int×Int×ByteArray) (h:msr y7 a<=1048576) (k:Bool->Res):jbQ a a k=k true:=by
 have h4:msr y2 a.2.2.2.2<=1048576:=(Nat.le_trans (@j00 .bool y2 a.2.2.2) (Nat.le_trans (@j00 .bool y4 a.2.2) (Nat.le_trans (@j00 (.int .i64) y5 a.2) (Nat.le_trans (@j00 .str y6 a) h))))
 unfold jbQ
 simp only [Z9g,Z8M,beq_self_eq_true,cond_false,Bool.not_true,jqg _ h4]
end Go.PI.G
namespace Go.PI.G
open Go Go.PI Go.Proofs
theorem jrL (a:(List (ByteArray×Int×Bool×Bool×Int×Int×ByteArray))) (h:msr y8 a<=1048576) (k:Bool->Res):jaz a a k=k true:=by
 have hl:a.length<=1048576:=ja6 h
 unfold jaz
 rw [Z9g,cond_false]
 unfold jcL
 rw [Z8V a _ (by unfold LIM;omega) (λi rec hi=> ?_) (λrec=> ?_)]
 ·show j57 a a _ _ _ _=_
  unfold j57
  simp only [Z9i hi,cond_true,j0n hi,Z92 _ _ _ hi,j05 (n:=(i:Int)+1) (by omega),Z9g,Z8M,cond_false,Bool.not_true,jsn _ (jr0 h (List.getElem_mem hi))]
 ·show j57 a a _ _ _ _=_
  unfold j57
  rw [Z9h,cond_false]
theorem jqM (a:(List (ByteArray×Int×Bool×Bool×Int×Int×ByteArray))) (k:Int) (h:msr y8 a<=1048576) (h0:1<=k) (hk:k+(wgt y8 a:Int)<=4294967296) (K:Int->(List (ByteArray×Int×Bool×Bool×Int×Int×ByteArray))->Res):j8j a k K=K (k+(wgt y8 a:Int)) (mkL (wgt y7) (mk y7) a k):=by
 have hl:a.length<=1048576:=ja6 h
 have hwg:wgt y8 a=(a.map (wgt y7)).sum:=rfl
 rw [hwg] at hk ⊢
 unfold j8j jb1
 have:=Z8v (wgt y7) (mk y7) a k (λl k i=>(l,k,i)) (step:=j6b) (λl k=>K k l) (λl k=>K k l) (by unfold LIM;omega) (λl i rec hi hll hli hla=>by
  have e1:=Z6k (wgt y7) a i hi
  have e2:=Z8h (wgt y7) a (i+1)
  generalize hκ:k+((((a.take i).map (wgt y7)).sum:Nat):Int)=κ
  have hκ1:1<=κ/\κ+(wgt y7 a[i]:Int)<=4294967296:=by omega
  have hw:(wgt y7 a[i]:Int)=1+1+1+1+1+1+1:=by
   have:wgt y7 a[i]=1+1+1+1+1+1+1:=by first | rfl | (simp only [wgt];done) | (simp only [wgt];omega)
   first | rfl | omega
  show j40 _ _ _ _ _=_
  dsimp only
  unfold j40 j5a j5b j5c
  rw [<-hll] at hi
  have hi':i<a.length:=by omega
  simp (disch:=first | assumption | omega) only [show nI a.length=nI l.length by rw [hll],Z9i,j0n,joo,cond_true,job,jop,Z92,hla,j05,j8z,<-hll]
  rw [Z99]
  congr 3<;>first | rfl | omega | skip) (λl k rec hll=>by
  show j40 _ _ _ _ _=_
  dsimp only
  unfold j40 j5a j5b j5c
  rw [<-hll,Z9h,cond_false])
 exact this
theorem jqE (a:(List (ByteArray×Int×Bool×Bool×Int×Int×ByteArray))) (k:Int) (h:msr y8 a<=1048576) (h0:1<=k) (hk:k+(wgt y8 a:Int)<=4294967296) (K:Int->Res):j8h (mkL (wgt y7) (mk y7) a k) k K=K (k+(wgt y8 a:Int)):=by
 have hl:a.length<=1048576:=ja6 h
 have hwg:wgt y8 a=(a.map (wgt y7)).sum:=rfl
 rw [hwg] at hk ⊢
 have hll:=Z5l (wgt y7) (mk y7) a k
 have hg:=Z8Y (wgt y7) (mk y7) a k
 generalize mkL (wgt y7) (mk y7) a k=l at hll hg
 unfold j8h jaZ
 have:=Z8s (wgt y7) a k (λk i=>(k,i)) (step:=j69 l) ((λ(k_1:Int)=>K k_1),(λ(_:Unit)=>K (-1))) (λk=>K k) (by unfold LIM;omega) (λi rec hi=>by
  have e1:=Z6k (wgt y7) a i hi
  have e2:=Z8h (wgt y7) a (i+1)
  have hgi:=hg i hi (by omega)
  generalize hκ:k+((((a.take i).map (wgt y7)).sum:Nat):Int)=κ at hgi
  have hκ1:1<=κ/\κ+(wgt y7 a[i]:Int)<=4294967296:=by omega
  have hw:(wgt y7 a[i]:Int)=1+1+1+1+1+1+1:=by
   have:wgt y7 a[i]=1+1+1+1+1+1+1:=by first | rfl | (simp only [wgt];done) | (simp only [wgt];omega)
   first | rfl | omega
  show j3Y _ _ _ _ _ _=_
  dsimp only
  unfold j3Y
  have hi':i<l.length:=by omega
  simp (disch:=first | assumption | omega) only [Z9i,j0n,cond_true,cond_false,Z92,hgi,joa,jkE,jqm,jrr,jo9,jqn,jlt,joq,jls,jor,Int.natCast_add,Int.natCast_one,<-Int.add_assoc,j05,j8z,Z9g,Z8M,beq_self_eq_true,Bool.not_true,Z8A]
  all_goals (congr 2;omega)) (λk rec=>by
  show j3Y _ _ _ _ _ _=_
  dsimp only
  unfold j3Y
  rw [<-hll,Z9h,cond_false])
 exact this
end Go.PI.G
namespace Go.PI.G
open Go Go.PI Go.Proofs
theorem jqf (a:(List ByteArray)) (h:msr y9 a<=1048576) (k:Bool->Res):j7p a a k=k true:=by
 have hl:a.length<=1048576:=ja6 h
 unfold j7p
 rw [Z9g,cond_false]
 unfold jan
 rw [Z8V a _ (by unfold LIM;omega) (λi rec hi=> ?_) (λrec=> ?_)]
 ·show j3y a a _ _ _ _=_
  unfold j3y
  simp only [Z9i hi,cond_true,j0n hi,Z92 _ _ _ hi,j05 (n:=(i:Int)+1) (by omega),Z9g,Z8M,cond_false,Bool.not_true]
 ·show j3y a a _ _ _ _=_
  unfold j3y
  rw [Z9h,cond_false]
theorem jo8 (a:(List ByteArray)) (k:Int) (h:msr y9 a<=1048576) (h0:1<=k) (hk:k+(wgt y9 a:Int)<=4294967296) (K:Int->(List ByteArray)->Res):j5d a k K=K (k+(wgt y9 a:Int)) (mkL (wgt .str) (mk .str) a k):=by
 have hl:a.length<=1048576:=ja6 h
 have hwg:wgt y9 a=(a.map (wgt .str)).sum:=rfl
 rw [hwg] at hk ⊢
 unfold j5d j8F
 have:=Z8v (wgt .str) (mk .str) a k (λl k i=>(l,k,i)) (step:=j4d) (λl k=>K k l) (λl k=>K k l) (by unfold LIM;omega) (λl i rec hi hll hli hla=>by
  have e1:=Z6k (wgt .str) a i hi
  have e2:=Z8h (wgt .str) a (i+1)
  generalize hκ:k+((((a.take i).map (wgt .str)).sum:Nat):Int)=κ
  have hκ1:1<=κ/\κ+(wgt .str a[i]:Int)<=4294967296:=by omega
  have hw:(wgt .str a[i]:Int)=1:=by
   have:wgt .str a[i]=1:=by first | rfl | (simp only [wgt];done) | (simp only [wgt];omega)
   first | rfl | omega
  show j2O _ _ _ _ _=_
  dsimp only
  unfold j2O
  rw [<-hll] at hi
  have hi':i<a.length:=by omega
  simp (disch:=first | assumption | omega) only [show nI a.length=nI l.length by rw [hll],Z9i,j0n,joo,cond_true,job,jop,Z92,hla,j05,j8z,<-hll]
  rw [Z99]
  congr 3<;>first | rfl | omega | skip) (λl k rec hll=>by
  show j2O _ _ _ _ _=_
  dsimp only
  unfold j2O
  rw [<-hll,Z9h,cond_false])
 exact this
theorem jo6 (a:(List ByteArray)) (k:Int) (h:msr y9 a<=1048576) (h0:1<=k) (hk:k+(wgt y9 a:Int)<=4294967296) (K:Int->Res):j59 (mkL (wgt .str) (mk .str) a k) k K=K (k+(wgt y9 a:Int)):=by
 have hl:a.length<=1048576:=ja6 h
 have hwg:wgt y9 a=(a.map (wgt .str)).sum:=rfl
 rw [hwg] at hk ⊢
 have hll:=Z5l (wgt .str) (mk .str) a k
 have hg:=Z8Y (wgt .str) (mk .str) a k
 generalize mkL (wgt .str) (mk .str) a k=l at hll hg
 unfold j59 j8E
 have:=Z8s (wgt .str) a k (λk i=>(k,i)) (step:=j4c l) ((λ(k_1:Int)=>K k_1),(λ(_:Unit)=>K (-1))) (λk=>K k) (by unfold LIM;omega) (λi rec hi=>by
  have e1:=Z6k (wgt .str) a i hi
  have e2:=Z8h (wgt .str) a (i+1)
  have hgi:=hg i hi (by omega)
  generalize hκ:k+((((a.take i).map (wgt .str)).sum:Nat):Int)=κ at hgi
  have hκ1:1<=κ/\κ+(wgt .str a[i]:Int)<=4294967296:=by omega
  have hw:(wgt .str a[i]:Int)=1:=by
   have:wgt .str a[i]=1:=by first | rfl | (simp only [wgt];done) | (simp only [wgt];omega)
   first | rfl | omega
  show j2N _ _ _ _ _ _=_
  dsimp only
  unfold j2N
  have hi':i<l.length:=by omega
  simp (disch:=first | assumption | omega) only [Z9i,j0n,cond_true,cond_false,Z92,hgi,joa,jkE,jqm,jrr,jo9,jqn,jlt,joq,jls,jor,Int.natCast_add,Int.natCast_one,<-Int.add_assoc,j05,j8z,Z9g,Z8M,beq_self_eq_true,Bool.not_true,Z8A]
  all_goals (congr 2;omega)) (λk rec=>by
  show j2N _ _ _ _ _ _=_
  dsimp only
  unfold j2N
  rw [<-hll,Z9h,cond_false])
 exact this
end Go.PI.G
namespace Go.PI.G
open Go Go.PI Go.Proofs
theorem jso (a:Int×ByteArray×(List (ByteArray×Int×Bool×Bool×Int×Int×ByteArray))×List ByteArray×ByteArray×ByteArray) (h:msr y14 a<=1048576) (k:Bool->Res):jbR a a k=k true:=by
 have h2:msr y8 a.2.2.1<=1048576:=(Nat.le_trans (@j0e y8 y11 a.2.2) (Nat.le_trans (@j00 .str y12 a.2) (Nat.le_trans (@j00 (.int .i64) y13 a) h)))
 have h3:msr y9 a.2.2.2.1<=1048576:=(Nat.le_trans (@j0e y9 y10 a.2.2.2) (Nat.le_trans (@j00 y8 y11 a.2.2) (Nat.le_trans (@j00 .str y12 a.2) (Nat.le_trans (@j00 (.int .i64) y13 a) h))))
 unfold jbR
 simp only [Z9g,Z8M,beq_self_eq_true,cond_false,Bool.not_true,jrL _ h2,jqf _ h3]
theorem jro (a:Int×ByteArray×(List (ByteArray×Int×Bool×Bool×Int×Int×ByteArray))×List ByteArray×ByteArray×ByteArray) (k:Int) (h:msr y14 a<=1048576) (h0:1<=k) (hk:k+(j0m y14 a:Int)<=4294967296) (K:Int->(Int×ByteArray×(List (ByteArray×Int×Bool×Bool×Int×Int×ByteArray))×List ByteArray×ByteArray×ByteArray)->Res):j9B a k K=K (k+(j0m y14 a:Int)) (mkT y14 a k):=by
 have h2:msr y8 a.2.2.1<=1048576:=(Nat.le_trans (@j0e y8 y11 a.2.2) (Nat.le_trans (@j00 .str y12 a.2) (Nat.le_trans (@j00 (.int .i64) y13 a) h)))
 have h3:msr y9 a.2.2.2.1<=1048576:=(Nat.le_trans (@j0e y9 y10 a.2.2.2) (Nat.le_trans (@j00 y8 y11 a.2.2) (Nat.le_trans (@j00 .str y12 a.2) (Nat.le_trans (@j00 (.int .i64) y13 a) h))))
 have g0:msr y8 a.2.2.1<=1048576:=(Nat.le_trans (@j0e y8 y11 a.2.2) (Nat.le_trans (@j00 .str y12 a.2) (Nat.le_trans (@j00 (.int .i64) y13 a) h)))
 have g1:msr y9 a.2.2.2.1<=1048576:=(Nat.le_trans (@j0e y9 y10 a.2.2.2) (Nat.le_trans (@j00 y8 y11 a.2.2) (Nat.le_trans (@j00 .str y12 a.2) (Nat.le_trans (@j00 (.int .i64) y13 a) h))))
 have w0:j0m y8 a.2.2.1=wgt y8 a.2.2.1:=rfl
 have w1:j0m y9 a.2.2.2.1=wgt y9 a.2.2.2.1:=rfl
 have hw:j0m y14 a=wgt y8 a.2.2.1+wgt y9 a.2.2.2.1:=by first | rfl | (simp only [j03,w0,w1,j0a,j08,j0b,Nat.zero_add,Nat.add_zero];done) | (simp only [j03,w0,w1,j0a,j08,j0b,Nat.zero_add,Nat.add_zero];omega)
 unfold j9B
 simp (disch:=first | assumption | omega) only [jqM,jo8]
 first | rfl | (simp only [j0d (.int .i64) y13,j03 (.int .i64) y13,j0d .str y12,j03 .str y12,j0d y8 y11,j03 y8 y11,j0d y9 y10,j03 y9 y10,j0d .str .str,j03 .str .str,j22,j3F,j2u,j3G,w0,w1,j0a,j08,j0b,Int.natCast_add,Int.natCast_zero,Int.cast_ofNat_Int,Nat.zero_add,Nat.add_zero,Int.add_zero,<-Int.add_assoc];done) | (simp only [j0d (.int .i64) y13,j03 (.int .i64) y13,j0d .str y12,j03 .str y12,j0d y8 y11,j03 y8 y11,j0d y9 y10,j03 y9 y10,j0d .str .str,j03 .str .str,j22,j3F,j2u,j3G,w0,w1,j0a,j08,j0b,Int.natCast_add,Int.natCast_zero,Int.cast_ofNat_Int,Nat.zero_add,Nat.add_zero,Int.add_zero,<-Int.add_assoc];rfl)
theorem jrg (a:Int×ByteArray×(List (ByteArray×Int×Bool×Bool×Int×Int×ByteArray))×List ByteArray×ByteArray×ByteArray) (k:Int) (h:msr y14 a<=1048576) (h0:1<=k) (hk:k+(j0m y14 a:Int)<=4294967296) (K:Int->Res):j9y (mkT y14 a k) k K=K (k+(j0m y14 a:Int)):=by
 have h2:msr y8 a.2.2.1<=1048576:=(Nat.le_trans (@j0e y8 y11 a.2.2) (Nat.le_trans (@j00 .str y12 a.2) (Nat.le_trans (@j00 (.int .i64) y13 a) h)))
 have h3:msr y9 a.2.2.2.1<=1048576:=(Nat.le_trans (@j0e y9 y10 a.2.2.2) (Nat.le_trans (@j00 y8 y11 a.2.2) (Nat.le_trans (@j00 .str y12 a.2) (Nat.le_trans (@j00 (.int .i64) y13 a) h))))
 have g0:msr y8 a.2.2.1<=1048576:=(Nat.le_trans (@j0e y8 y11 a.2.2) (Nat.le_trans (@j00 .str y12 a.2) (Nat.le_trans (@j00 (.int .i64) y13 a) h)))
 have g1:msr y9 a.2.2.2.1<=1048576:=(Nat.le_trans (@j0e y9 y10 a.2.2.2) (Nat.le_trans (@j00 y8 y11 a.2.2) (Nat.le_trans (@j00 .str y12 a.2) (Nat.le_trans (@j00 (.int .i64) y13 a) h))))
 have w0:j0m y8 a.2.2.1=wgt y8 a.2.2.1:=rfl
 have w1:j0m y9 a.2.2.2.1=wgt y9 a.2.2.2.1:=rfl
 have hw:j0m y14 a=wgt y8 a.2.2.1+wgt y9 a.2.2.2.1:=by first | rfl | (simp only [j03,w0,w1,j0a,j08,j0b,Nat.zero_add,Nat.add_zero];done) | (simp only [j03,w0,w1,j0a,j08,j0b,Nat.zero_add,Nat.add_zero];omega)
 unfold j9y
 simp (disch:=first | assumption | omega) only [j0d (.int .i64) y13,j03 (.int .i64) y13,j0d .str y12,j03 .str y12,j0d y8 y11,j03 y8 y11,j0d y9 y10,j03 y9 y10,j0d .str .str,j03 .str .str,j22,j3F,j2u,j3G,w0,w1,j0a,j08,j0b,Int.natCast_add,Int.natCast_zero,Int.cast_ofNat_Int,Nat.zero_add,Nat.add_zero,Int.add_zero,<-Int.add_assoc,jqE,jo6,Z8A,cond_false]
 all_goals (repeat (show (bif decide (_<(0:Int)) then _ else _)=_;rw [Z8A (by omega),cond_false]))
 all_goals first | done | rfl | (congr 1;omega)
end Go.PI.G
namespace Go.PI.G
open Go Go.PI Go.Proofs
theorem joz (a:(List (Int×Int×ByteArray))) (h:msr y3 a<=1048576) (k:Bool->Res):j8x a a k=k true:=by
 have hl:a.length<=1048576:=ja6 h
 unfold j8x
 rw [Z9g,cond_false]
 unfold jcM
 rw [Z8V a _ (by unfold LIM;omega) (λi rec hi=> ?_) (λrec=> ?_)]
 ·show j58 a a _ _ _ _=_
  unfold j58
  simp only [Z9i hi,cond_true,j0n hi,Z92 _ _ _ hi,j05 (n:=(i:Int)+1) (by omega),Z9g,Z8M,cond_false,Bool.not_true,jqg _ (jr0 h (List.getElem_mem hi))]
 ·show j58 a a _ _ _ _=_
  unfold j58
  rw [Z9h,cond_false]
theorem jjw (a:(List (Int×Int×ByteArray))) (k:Int) (h:msr y3 a<=1048576) (h0:1<=k) (hk:k+(wgt y3 a:Int)<=4294967296) (K:Int->(List (Int×Int×ByteArray))->Res):j5I a k K=K (k+(wgt y3 a:Int)) (mkL (wgt y2) (mk y2) a k):=by
 have hl:a.length<=1048576:=ja6 h
 have hwg:wgt y3 a=(a.map (wgt y2)).sum:=rfl
 rw [hwg] at hk ⊢
 unfold j5I jb3
 have:=Z8v (wgt y2) (mk y2) a k (λl k i=>(l,k,i)) (step:=j6c) (λl k=>K k l) (λl k=>K k l) (by unfold LIM;omega) (λl i rec hi hll hli hla=>by
  have e1:=Z6k (wgt y2) a i hi
  have e2:=Z8h (wgt y2) a (i+1)
  generalize hκ:k+((((a.take i).map (wgt y2)).sum:Nat):Int)=κ
  have hκ1:1<=κ/\κ+(wgt y2 a[i]:Int)<=4294967296:=by omega
  have hw:(wgt y2 a[i]:Int)=1+1+1:=by
   have:wgt y2 a[i]=1+1+1:=by first | rfl | (simp only [wgt];done) | (simp only [wgt];omega)
   first | rfl | omega
  show j43 _ _ _ _ _=_
  dsimp only
  unfold j43
  rw [<-hll] at hi
  have hi':i<a.length:=by omega
  simp (disch:=first | assumption | omega) only [show nI a.length=nI l.length by rw [hll],Z9i,j0n,joo,cond_true,job,jop,Z92,hla,j05,j8z,<-hll]
  rw [Z99]
  congr 3<;>first | rfl | omega | skip) (λl k rec hll=>by
  show j43 _ _ _ _ _=_
  dsimp only
  unfold j43
  rw [<-hll,Z9h,cond_false])
 exact this
theorem jjr (a:(List (Int×Int×ByteArray))) (k:Int) (h:msr y3 a<=1048576) (h0:1<=k) (hk:k+(wgt y3 a:Int)<=4294967296) (K:Int->Res):j5H (mkL (wgt y2) (mk y2) a k) k K=K (k+(wgt y3 a:Int)):=by
 have hl:a.length<=1048576:=ja6 h
 have hwg:wgt y3 a=(a.map (wgt y2)).sum:=rfl
 rw [hwg] at hk ⊢
 have hll:=Z5l (wgt y2) (mk y2) a k
 have hg:=Z8Y (wgt y2) (mk y2) a k
 generalize mkL (wgt y2) (mk y2) a k=l at hll hg
 unfold j5H jb0
 have:=Z8s (wgt y2) a k (λk i=>(k,i)) (step:=j6a l) ((λ(k_1:Int)=>K k_1),(λ(_:Unit)=>K (-1))) (λk=>K k) (by unfold LIM;omega) (λi rec hi=>by
  have e1:=Z6k (wgt y2) a i hi
  have e2:=Z8h (wgt y2) a (i+1)
  have hgi:=hg i hi (by omega)
  generalize hκ:k+((((a.take i).map (wgt y2)).sum:Nat):Int)=κ at hgi
  have hκ1:1<=κ/\κ+(wgt y2 a[i]:Int)<=4294967296:=by omega
  have hw:(wgt y2 a[i]:Int)=1+1+1:=by
   have:wgt y2 a[i]=1+1+1:=by first | rfl | (simp only [wgt];done) | (simp only [wgt];omega)
   first | rfl | omega
  show j3Z _ _ _ _ _ _=_
  dsimp only
  unfold j3Z
  have hi':i<l.length:=by omega
  simp (disch:=first | assumption | omega) only [Z9i,j0n,cond_true,cond_false,Z92,hgi,joa,jkE,jqm,jrr,jo9,jqn,jlt,joq,jls,jor,Int.natCast_add,Int.natCast_one,<-Int.add_assoc,j05,j8z,Z9g,Z8M,beq_self_eq_true,Bool.not_true,Z8A]
  all_goals (congr 2;omega)) (λk rec=>by
  show j3Z _ _ _ _ _ _=_
  dsimp only
  unfold j3Z
  rw [<-hll,Z9h,cond_false])
 exact this
end Go.PI.G
namespace Go.PI.G
open Go Go.PI Go.Proofs
theorem jsq (a:List (Int×Int×ByteArray)) (h:msr y3 a<=1048576) (k:Bool->Res):jbT a a k=k true:=by
 have h0:msr y3 a<=1048576:=h
 unfold jbT
 simp only [Z9g,Z8M,beq_self_eq_true,cond_false,Bool.not_true,joz _ h0]
theorem jrq (a:List (Int×Int×ByteArray)) (k:Int) (h:msr y3 a<=1048576) (h0:1<=k) (hk:k+(j0m y3 a:Int)<=4294967296) (K:Int->(List (Int×Int×ByteArray))->Res):j9D a k K=K (k+(j0m y3 a:Int)) (mkT y3 a k):=by
 have h0:msr y3 a<=1048576:=h
 have g0:msr y3 a<=1048576:=h
 have w0:j0m y3 a=wgt y3 a:=rfl
 have hw:j0m y3 a=wgt y3 a:=by first | rfl | (simp only [j03,w0,j0a,j08,j0b,Nat.zero_add,Nat.add_zero];done) | (simp only [j03,w0,j0a,j08,j0b,Nat.zero_add,Nat.add_zero];omega)
 unfold j9D
 simp (disch:=first | assumption | omega) only [jjw]
 first | rfl | (simp only [j22,j3F,j2u,j3G,w0,j0a,j08,j0b,Int.natCast_add,Int.natCast_zero,Int.cast_ofNat_Int,Nat.zero_add,Nat.add_zero,Int.add_zero,<-Int.add_assoc];done) | (simp only [j22,j3F,j2u,j3G,w0,j0a,j08,j0b,Int.natCast_add,Int.natCast_zero,Int.cast_ofNat_Int,Nat.zero_add,Nat.add_zero,Int.add_zero,<-Int.add_assoc];rfl)
theorem jri (a:List (Int×Int×ByteArray)) (k:Int) (h:msr y3 a<=1048576) (h0:1<=k) (hk:k+(j0m y3 a:Int)<=4294967296) (K:Int->Res):j9A (mkL (wgt y2) (mk y2) a k) k K=K (k+(j0m y3 a:Int)):=by
 have h0:msr y3 a<=1048576:=h
 have g0:msr y3 a<=1048576:=h
 have w0:j0m y3 a=wgt y3 a:=rfl
 have hw:j0m y3 a=wgt y3 a:=by first | rfl | (simp only [j03,w0,j0a,j08,j0b,Nat.zero_add,Nat.add_zero];done) | (simp only [j03,w0,j0a,j08,j0b,Nat.zero_add,Nat.add_zero];omega)
 unfold j9A
 simp (disch:=first | assumption | omega) only [j22,j3F,j2u,j3G,w0,j0a,j08,j0b,Int.natCast_add,Int.natCast_zero,Int.cast_ofNat_Int,Nat.zero_add,Nat.add_zero,Int.add_zero,<-Int.add_assoc,jjr,Z8A,cond_false]
 all_goals (repeat (show (bif decide (_<(0:Int)) then _ else _)=_;rw [Z8A (by omega),cond_false]))
 all_goals first | done | rfl | (congr 1;omega)
end Go.PI.G
namespace Go.PI.G
open Go Go.PI Go.Proofs
theorem jrM (a:Int×ByteArray×(List (Int×Int×ByteArray))×(List (Int×Int×ByteArray))×Int×ByteArray×(List (ByteArray×Int×Bool×Bool×Int×Int×ByteArray))×List ByteArray×ByteArray×ByteArray) (h:msr y18 a<=1048576) (k:Bool->Res):jaA a a k=k true:=by
 have h2:msr y3 a.2.2.1<=1048576:=(Nat.le_trans (@j0e y3 y15 a.2.2) (Nat.le_trans (@j00 .str y16 a.2) (Nat.le_trans (@j00 (.int .i64) y17 a) h)))
 have h3:msr y3 a.2.2.2.1<=1048576:=(Nat.le_trans (@j0e y3 y14 a.2.2.2) (Nat.le_trans (@j00 y3 y15 a.2.2) (Nat.le_trans (@j00 .str y16 a.2) (Nat.le_trans (@j00 (.int .i64) y17 a) h))))
 have h4:msr y14 a.2.2.2.2<=1048576:=(Nat.le_trans (@j00 y3 y14 a.2.2.2) (Nat.le_trans (@j00 y3 y15 a.2.2) (Nat.le_trans (@j00 .str y16 a.2) (Nat.le_trans (@j00 (.int .i64) y17 a) h))))
 unfold jaA
 simp only [Z9g,Z8M,beq_self_eq_true,cond_false,Bool.not_true,joz _ h2,jsq _ h3,jso _ h4]
theorem jqO (a:Int×ByteArray×(List (Int×Int×ByteArray))×(List (Int×Int×ByteArray))×Int×ByteArray×(List (ByteArray×Int×Bool×Bool×Int×Int×ByteArray))×List ByteArray×ByteArray×ByteArray) (k:Int) (h:msr y18 a<=1048576) (h0:1<=k) (hk:k+(j0m y18 a:Int)<=4294967296) (K:Int->(Int×ByteArray×(List (Int×Int×ByteArray))×(List (Int×Int×ByteArray))×Int×ByteArray×(List (ByteArray×Int×Bool×Bool×Int×Int×ByteArray))×List ByteArray×ByteArray×ByteArray)->Res):j8l a k K=K (k+(j0m y18 a:Int)) (mkT y18 a k):=by
 have h2:msr y3 a.2.2.1<=1048576:=(Nat.le_trans (@j0e y3 y15 a.2.2) (Nat.le_trans (@j00 .str y16 a.2) (Nat.le_trans (@j00 (.int .i64) y17 a) h)))
 have h3:msr y3 a.2.2.2.1<=1048576:=(Nat.le_trans (@j0e y3 y14 a.2.2.2) (Nat.le_trans (@j00 y3 y15 a.2.2) (Nat.le_trans (@j00 .str y16 a.2) (Nat.le_trans (@j00 (.int .i64) y17 a) h))))
 have h4:msr y14 a.2.2.2.2<=1048576:=(Nat.le_trans (@j00 y3 y14 a.2.2.2) (Nat.le_trans (@j00 y3 y15 a.2.2) (Nat.le_trans (@j00 .str y16 a.2) (Nat.le_trans (@j00 (.int .i64) y17 a) h))))
 have g0:msr y3 a.2.2.1<=1048576:=(Nat.le_trans (@j0e y3 y15 a.2.2) (Nat.le_trans (@j00 .str y16 a.2) (Nat.le_trans (@j00 (.int .i64) y17 a) h)))
 have g1:msr y3 a.2.2.2.1<=1048576:=(Nat.le_trans (@j0e y3 y14 a.2.2.2) (Nat.le_trans (@j00 y3 y15 a.2.2) (Nat.le_trans (@j00 .str y16 a.2) (Nat.le_trans (@j00 (.int .i64) y17 a) h))))
 have g2:msr y8 a.2.2.2.2.2.2.1<=1048576:=(Nat.le_trans (@j0e y8 y11 a.2.2.2.2.2.2) (Nat.le_trans (@j00 .str y12 a.2.2.2.2.2) (Nat.le_trans (@j00 (.int .i64) y13 a.2.2.2.2) (Nat.le_trans (@j00 y3 y14 a.2.2.2) (Nat.le_trans (@j00 y3 y15 a.2.2) (Nat.le_trans (@j00 .str y16 a.2) (Nat.le_trans (@j00 (.int .i64) y17 a) h)))))))
 have g3:msr y9 a.2.2.2.2.2.2.2.1<=1048576:=(Nat.le_trans (@j0e y9 y10 a.2.2.2.2.2.2.2) (Nat.le_trans (@j00 y8 y11 a.2.2.2.2.2.2) (Nat.le_trans (@j00 .str y12 a.2.2.2.2.2) (Nat.le_trans (@j00 (.int .i64) y13 a.2.2.2.2) (Nat.le_trans (@j00 y3 y14 a.2.2.2) (Nat.le_trans (@j00 y3 y15 a.2.2) (Nat.le_trans (@j00 .str y16 a.2) (Nat.le_trans (@j00 (.int .i64) y17 a) h))))))))
 have w0:j0m y3 a.2.2.1=wgt y3 a.2.2.1:=rfl
 have w1:j0m y3 a.2.2.2.1=wgt y3 a.2.2.2.1:=rfl
 have w2:j0m y8 a.2.2.2.2.2.2.1=wgt y8 a.2.2.2.2.2.2.1:=rfl
 have w3:j0m y9 a.2.2.2.2.2.2.2.1=wgt y9 a.2.2.2.2.2.2.2.1:=rfl
 have hw:j0m y18 a=wgt y3 a.2.2.1+wgt y3 a.2.2.2.1+wgt y8 a.2.2.2.2.2.2.1+wgt y9 a.2.2.2.2.2.2.2.1:=by first | rfl | (simp only [j03,w0,w1,w2,w3,j0a,j08,j0b,Nat.zero_add,Nat.add_zero];done) | (simp only [j03,w0,w1,w2,w3,j0a,j08,j0b,Nat.zero_add,Nat.add_zero];omega)
 have v4:j0m y14 a.2.2.2.2=wgt y8 a.2.2.2.2.2.2.1+wgt y9 a.2.2.2.2.2.2.2.1:=by first | rfl | (simp only [j03,w0,w1,w2,w3,j0a,j08,j0b,Nat.zero_add,Nat.add_zero];done) | (simp only [j03,w0,w1,w2,w3,j0a,j08,j0b,Nat.zero_add,Nat.add_zero];omega)
 unfold j8l
 simp (disch:=first | assumption | omega) only [jro,jrq,jjw]
 first | rfl | (simp only [j0d (.int .i64) y17,j03 (.int .i64) y17,j0d .str y16,j03 .str y16,j0d y3 y15,j03 y3 y15,j0d y3 y14,j03 y3 y14,j22,j3F,j2u,j3G,w0,w1,w2,w3,j0a,j08,j0b,Int.natCast_add,Int.natCast_zero,Int.cast_ofNat_Int,Nat.zero_add,Nat.add_zero,Int.add_zero,<-Int.add_assoc];done) | (simp only [j0d (.int .i64) y17,j03 (.int .i64) y17,j0d .str y16,j03 .str y16,j0d y3 y15,j03 y3 y15,j0d y3 y14,j03 y3 y14,j22,j3F,j2u,j3G,w0,w1,w2,w3,j0a,j08,j0b,Int.natCast_add,Int.natCast_zero,Int.cast_ofNat_Int,Nat.zero_add,Nat.add_zero,Int.add_zero,<-Int.add_assoc];rfl)
theorem jqF (a:Int×ByteArray×(List (Int×Int×ByteArray))×(List (Int×Int×ByteArray))×Int×ByteArray×(List (ByteArray×Int×Bool×Bool×Int×Int×ByteArray))×List ByteArray×ByteArray×ByteArray) (k:Int) (h:msr y18 a<=1048576) (h0:1<=k) (hk:k+(j0m y18 a:Int)<=4294967296) (K:Int->Res):j8i (mkT y18 a k) k K=K (k+(j0m y18 a:Int)):=by
 have h2:msr y3 a.2.2.1<=1048576:=(Nat.le_trans (@j0e y3 y15 a.2.2) (Nat.le_trans (@j00 .str y16 a.2) (Nat.le_trans (@j00 (.int .i64) y17 a) h)))
 have h3:msr y3 a.2.2.2.1<=1048576:=(Nat.le_trans (@j0e y3 y14 a.2.2.2) (Nat.le_trans (@j00 y3 y15 a.2.2) (Nat.le_trans (@j00 .str y16 a.2) (Nat.le_trans (@j00 (.int .i64) y17 a) h))))
 have h4:msr y14 a.2.2.2.2<=1048576:=(Nat.le_trans (@j00 y3 y14 a.2.2.2) (Nat.le_trans (@j00 y3 y15 a.2.2) (Nat.le_trans (@j00 .str y16 a.2) (Nat.le_trans (@j00 (.int .i64) y17 a) h))))
 have g0:msr y3 a.2.2.1<=1048576:=(Nat.le_trans (@j0e y3 y15 a.2.2) (Nat.le_trans (@j00 .str y16 a.2) (Nat.le_trans (@j00 (.int .i64) y17 a) h)))
 have g1:msr y3 a.2.2.2.1<=1048576:=(Nat.le_trans (@j0e y3 y14 a.2.2.2) (Nat.le_trans (@j00 y3 y15 a.2.2) (Nat.le_trans (@j00 .str y16 a.2) (Nat.le_trans (@j00 (.int .i64) y17 a) h))))
 have g2:msr y8 a.2.2.2.2.2.2.1<=1048576:=(Nat.le_trans (@j0e y8 y11 a.2.2.2.2.2.2) (Nat.le_trans (@j00 .str y12 a.2.2.2.2.2) (Nat.le_trans (@j00 (.int .i64) y13 a.2.2.2.2) (Nat.le_trans (@j00 y3 y14 a.2.2.2) (Nat.le_trans (@j00 y3 y15 a.2.2) (Nat.le_trans (@j00 .str y16 a.2) (Nat.le_trans (@j00 (.int .i64) y17 a) h)))))))
 have g3:msr y9 a.2.2.2.2.2.2.2.1<=1048576:=(Nat.le_trans (@j0e y9 y10 a.2.2.2.2.2.2.2) (Nat.le_trans (@j00 y8 y11 a.2.2.2.2.2.2) (Nat.le_trans (@j00 .str y12 a.2.2.2.2.2) (Nat.le_trans (@j00 (.int .i64) y13 a.2.2.2.2) (Nat.le_trans (@j00 y3 y14 a.2.2.2) (Nat.le_trans (@j00 y3 y15 a.2.2) (Nat.le_trans (@j00 .str y16 a.2) (Nat.le_trans (@j00 (.int .i64) y17 a) h))))))))
 have w0:j0m y3 a.2.2.1=wgt y3 a.2.2.1:=rfl
 have w1:j0m y3 a.2.2.2.1=wgt y3 a.2.2.2.1:=rfl
 have w2:j0m y8 a.2.2.2.2.2.2.1=wgt y8 a.2.2.2.2.2.2.1:=rfl
 have w3:j0m y9 a.2.2.2.2.2.2.2.1=wgt y9 a.2.2.2.2.2.2.2.1:=rfl
 have hw:j0m y18 a=wgt y3 a.2.2.1+wgt y3 a.2.2.2.1+wgt y8 a.2.2.2.2.2.2.1+wgt y9 a.2.2.2.2.2.2.2.1:=by first | rfl | (simp only [j03,w0,w1,w2,w3,j0a,j08,j0b,Nat.zero_add,Nat.add_zero];done) | (simp only [j03,w0,w1,w2,w3,j0a,j08,j0b,Nat.zero_add,Nat.add_zero];omega)
 have v4:j0m y14 a.2.2.2.2=wgt y8 a.2.2.2.2.2.2.1+wgt y9 a.2.2.2.2.2.2.2.1:=by first | rfl | (simp only [j03,w0,w1,w2,w3,j0a,j08,j0b,Nat.zero_add,Nat.add_zero];done) | (simp only [j03,w0,w1,w2,w3,j0a,j08,j0b,Nat.zero_add,Nat.add_zero];omega)
 unfold j8i
 simp (disch:=first | assumption | omega) only [j0d (.int .i64) y17,j03 (.int .i64) y17,j0d .str y16,j03 .str y16,j0d y3 y15,j03 y3 y15,j0d y3 y14,j03 y3 y14,j22,j3F,j2u,j3G,w0,w1,w2,w3,j0a,j08,j0b,Int.natCast_add,Int.natCast_zero,Int.cast_ofNat_Int,Nat.zero_add,Nat.add_zero,Int.add_zero,<-Int.add_assoc,jrg,jri,jjr,Z8A,cond_false]
 all_goals (repeat (show (bif decide (_<(0:Int)) then _ else _)=_;rw [Z8A (by omega),cond_false]))
 all_goals first | done | rfl | (congr 1;omega)
end Go.PI.G
