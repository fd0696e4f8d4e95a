/-
  Program's code interpreted over typed values; printed texts; plain laws. No conditions.
-/
import Derived.Test.YtiieddiheadocaaGreatUl
import Derived.Test.YtiieddiheadocaaGreatUk
set_option linter.unusedVariables false
set_option linter.unusedSimpArgs false
namespace Go.PI.G
open Go Go.PI Go.Proofs
noncomputable def jd1 (s:ByteArray):V×Bool:=by
 classical
 exact if h:∃ v,j0w v=true/\j07 v=s then (h.choose,true) else (zV,false)
theorem jpp {s:ByteArray} (h:∀ v,j0w v=true->j07 v≠s):jd1 s=(zV,false):=by
 unfold jd1
 rw [dif_neg λ⟨n,h1,h2⟩=>h n h1 h2]
theorem jsL {s:ByteArray} {v:V} (hv:j0w v=true) (h:j07 v=s) (hu:∀ w,j0w w=true->j07 w=s->w=v):jd1 s=(v,true):=by
 unfold jd1
 have hx:∃ v,j0w v=true/\j07 v=s:=⟨v,hv,h⟩
 rw [dif_pos hx,hu _ hx.choose_spec.1 hx.choose_spec.2]
theorem jsy (s:ByteArray) (v:V) (h:¬ (1<s.size/\bt s 0=39/\s.size<94)) (K:V->Res):j3t s v K=K v:=by
 unfold j3t
 by_cases h1:1<s.size
 ·rw [decide_eq_true (show nI s.size>1 by unfold nI;omega),cond_true,Z9c (by omega) (by omega),cond_true]
  by_cases h2:bt s 0=39
  ·rw [decide_eq_false (show ¬ nI s.size<94 by unfold nI;omega),cond_false]
   cases bt s 0==39<;>rfl
  ·rw [show (bt s 0==39)=false by simp [h2],cond_false]
 ·rw [decide_eq_false (show ¬ nI s.size>1 by unfold nI;omega),cond_false]
theorem jnX (s:ByteArray) (hmax:s.size<=LIM):∃ raw:V,(∀ k,j4h s k=bif sNe (j07 raw) s then k zV false else k raw true)/\(∀ v,j0w v=true->j07 v=s->raw=v)/\(s=eS->raw=zV):=by
 have hl:=j0d s
 by_cases hC:1<s.size/\bt s 0=39/\s.size<94
 ·obtain ⟨r,r1,r2⟩:=jtS s (by omega) (s.size-1) 1 Z0Y [] (by omega) (by omega) (Z1O (by omega)) (by simp)
  refine ⟨(3,0,Z2X r),λk=> ?_,λv hv he=> ?_,λhe=> ?_⟩
  ·unfold j4h
   rw [jfY]
   have e3:∀ (v:V) (K:V->Res),j3t s v K=K (3,0,Z2X r):=λv K=>by
    unfold j3t
    rw [decide_eq_true (show nI s.size>1 by unfold nI;omega),cond_true,Z9c (by omega) (by omega),cond_true,show (bt s 0==39)=true by simp [hC.2.1],cond_true,decide_eq_true (show nI s.size<94 by unfold nI;omega),cond_true]
    exact r1 _
   have e0:∀ (n:Int) (b:Bool) (v:V) (K:V->Res),j3r n b v K=K (bif b then (2,n,eS) else v):=λn b v K=>by unfold j3r;cases b<;>rfl
   have e1:∀ (v:V) (K:V->Res),j3s s v K=K (bif sEq s j1x then (1,Z8g (5-nI s.size),eS) else bif sEq s j1f then (1,Z8g (5-nI s.size),eS) else v):=λv K=>by
    unfold j3s
    cases sEq s j1x
    ·cases sEq s j1f<;>rfl
    ·rfl
   rw [e0,e1,e3,jf8]
  ·obtain ⟨x,xs,q1,q2⟩:=jhq hv
   rw [he] at q1
   have hx:=jda q1
   obtain ⟨t,rfl,ht,e⟩:=q2 (by rw [<-hx];exact hC.2.1)
   rw [he] at e
   have:=r2 (Z19 t) (j9h t) (by rw [e];rfl)
   rw [this,List.nil_append,j4q]
  ·subst he;exact absurd hC.1 (by show ¬ 1<0;omega)
 ·refine ⟨bif sEq s j1x then (1,Z8g (5-nI s.size),eS) else bif sEq s j1f then (1,Z8g (5-nI s.size),eS) else bif (j0X s).2 then (2,(j0X s).1,eS) else zV,λk=> ?_,λv hv he=> ?_,λhe=> ?_⟩
  ·unfold j4h
   rw [jfY]
   have e0:∀ (n:Int) (b:Bool) (v:V) (K:V->Res),j3r n b v K=K (bif b then (2,n,eS) else v):=λn b v K=>by unfold j3r;cases b<;>rfl
   have e1:∀ (v:V) (K:V->Res),j3s s v K=K (bif sEq s j1x then (1,Z8g (5-nI s.size),eS) else bif sEq s j1f then (1,Z8g (5-nI s.size),eS) else v):=λv K=>by
    unfold j3s
    cases sEq s j1x
    ·cases sEq s j1f<;>rfl
    ·rfl
   rw [e0,e1,jsy s _ hC,jf8]
  ·have nt:∀ {x:Int} {xs:List Int},Z19 s=x::xs->x≠116->sEq s j1x=false:=λ{x xs} h hx=>by
    cases hq:sEq s j1x with
    | false=>rfl
    | true=>
     rw [(j0t _ _).1 hq] at h
     exact absurd (List.cons.inj h).1.symm hx
   have nf:∀ {x:Int} {xs:List Int},Z19 s=x::xs->x≠102->sEq s j1f=false:=λ{x xs} h hx=>by
    cases hq:sEq s j1f with
    | false=>rfl
    | true=>
     rw [(j0t _ _).1 hq] at h
     exact absurd (List.cons.inj h).1.symm hx
   rcases jdZ hv with ⟨rfl,e⟩ | ⟨rfl,e⟩ | ⟨rfl,e⟩ | ⟨n,rfl,hn,e⟩ | ⟨t,rfl,ht,e⟩
   ·have hs:s=j73:=by rw [<-he,e]
    have h1:Z19 s=[110,117,108,108]:=by rw [hs];rfl
    rw [nt h1 (by omega),nf h1 (by omega),cond_false,cond_false,j8e λn hn hh=> ?_]
    ·rfl
    ·obtain ⟨x,xs,g1,g2⟩:=j8c hn
     rw [hh,h1] at g1
     have:=(List.cons.inj g1).1
     omega
   ·have hs:s=j1x:=by rw [<-he,e]
    rw [hs,Z8L,cond_true]
    rfl
   ·have hs:s=j1f:=by rw [<-he,e]
    rw [hs,j01 (show Z19 j1f≠Z19 j1x by decide),cond_false,Z8L,cond_true]
    rfl
   ·have hs:s=j04 n:=by rw [<-he,e]
    obtain ⟨x,xs,g1,g2⟩:=j8c hn
    have h1:Z19 s=x::xs:=by rw [hs,g1]
    rw [nt h1 (by omega),nf h1 (by omega),cond_false,cond_false,hs,jey hn]
    rfl
   ·rw [he] at e
    have hb:=jda e
    have h1:=jry (Z19 t)
    rw [j0d] at h1
    have h2:=congrArg List.length e
    simp only [List.length_cons,List.length_append,List.length_nil] at h2
    exact absurd ⟨by omega,hb,by omega⟩ hC
  ·subst he
   rw [j01 (show Z19 eS≠Z19 j1x by decide),j01 (show Z19 eS≠Z19 j1f by decide),cond_false,cond_false,j8e λn hn hh=> ?_]
   ·rfl
   ·obtain ⟨x,xs,g1,g2⟩:=j8c hn
    rw [hh] at g1
    cases g1
theorem jhr {v w:V} (hv:j0w v=true) (hw:j0w w=true) (h:j07 v=j07 w):v=w:=by
 have hsz:(j07 w).size<=LIM:=by have:=jc5 w;unfold LIM;omega
 obtain ⟨raw,_,r2,_⟩:=jnX (j07 w) hsz
 rw [<-r2 v hv h,<-r2 w hw rfl]
theorem jgR {v:V} (h:j0w v=true):jd1 (j07 v)=(v,true):=jsL h rfl λw hw he=>jhr hw h he
theorem jpo (s:ByteArray) (hmax:s.size<=LIM) (k:V->Bool->Res):j4h s k=k (jd1 s).1 (jd1 s).2:=by
 obtain ⟨raw,r1,r2,r3⟩:=jnX s hmax
 rw [r1]
 by_cases h:∃ v,j0w v=true/\j07 v=s
 ·obtain ⟨v,hv,he⟩:=h
  rw [r2 v hv he,<-he,Z8M,cond_false,jgR hv]
 ·rw [jpp λv hv he=>h ⟨v,hv,he⟩]
  cases hne:sNe (j07 raw) s
  ·have he:=(jex _ _).1 hne
   cases hb:j0w raw
   ·have h0:=r3 (by rw [<-he,jrd hb])
    rw [h0] at hb
    exact absurd jg3 (by rw [hb];simp)
   ·exact absurd ⟨raw,hb,he⟩ h
  ·rfl
theorem jsk (s:ByteArray) (hmax:s.size<=LIM):∃ b,(∀ K:Bool->Res,j3i s K=K b)/\(b=true->2<=s.size/\bt s 0=39)/\∀ t,Z19 s=39::(t++[39])->b=true:=by
 unfold LIM at hmax
 have hl:=j0d s
 by_cases h1:1<s.size
 ·have e0:∀ K:Bool->Res,j3i s K=bif bt s 0==39 then (bif inb (Z8g (nI s.size-1)) s.size then K (bt s (Z8g (nI s.size-1))==39) else none) else K false:=λK=>by
   unfold j3i
   rw [decide_eq_true (show nI s.size>1 by unfold nI;omega),cond_true,Z9c (by omega) (by omega),cond_true]
  cases h2:bt s 0==39
  ·refine ⟨false,λK=>by rw [e0,h2,cond_false],λh=>(by cases h),λt h=> ?_⟩
   have:=jda h
   rw [this] at h2;cases h2
  ·have e1:Z8g (nI s.size-1)=((s.size-1:Nat):Int):=by rw [j03 (by unfold nI;omega)];unfold nI;omega
   refine ⟨bt s (Z8g (nI s.size-1))==39,λK=> ?_,λ_=>⟨by omega,by simpa using h2⟩,λt h=> ?_⟩
   ·rw [e0,h2,cond_true,e1,Z9c (by omega) (by omega),cond_true]
   ·rw [e1,j23 s (s.size-1) (by omega)]
    have h3:=congrArg List.length h
    simp only [List.length_cons,List.length_append,List.length_nil] at h3
    have e2:(Z19 s)[s.size-1]'(by omega)=39:=by
     simp only [h]
     rw [List.getElem_cons,dif_neg (by omega),List.getElem_append_right (by omega)]
     simp
    rw [e2];rfl
 ·refine ⟨false,λK=> ?_,λh=>(by cases h),λt h=> ?_⟩
  ·unfold j3i
   rw [decide_eq_false (show ¬ nI s.size>1 by unfold nI;omega),cond_false]
  ·have h3:=congrArg List.length h
   simp only [List.length_cons,List.length_append,List.length_nil] at h3
   omega
theorem jav (s:ByteArray) (i j:Nat):Z19 (Z9k s (i:Int) (j:Int))=((Z19 s).take j).drop i:=by
 unfold Z9k
 rw [show ((i:Int)).toNat=i by omega,show ((j:Int)).toNat=j by omega,jg1]
theorem jsl (t:ByteArray) (hmax:t.size<=1000000000):∃ r:Option (List Int),(∀ k,j9d t k=opR r (λout=>k (Z2X out) true) (k eS false))/\∀ ys,isB ys->Z19 t=esc ys->r=some ys:=by
 obtain ⟨r,r1,r2⟩:=jtP t hmax t.size 0 Z0Y [] (by omega) (by omega) (Z1O (by omega)) (by simp)
 refine ⟨r,λk=> ?_,λys hB h=>by have:=r2 ys hB (by rw [List.drop_zero,h]);simpa using this⟩
 unfold j9d
 exact r1 _
theorem jrT (s:ByteArray) (hmax:s.size<=1000000000):∃ raw:Option V,(∀ k,j3h s k=opR raw (λv=>bif sEq s eS then k zV false else bif sNe (j07 v) s then k zV false else k v true) (k zV false))/\∀ v,j0w v=true->j07 v=s->raw=some v:=by
 have hl:=j0d s
 have hm2:s.size<=LIM:=by unfold LIM;omega
 have hu:∀ k,j3h s k=j2r s zV (λv=>bif sEq s eS then k zV false else bif sNe (j07 v) s then k zV false else k v true) (λ_=>k zV false):=λk=>by
  unfold j3h
  congr 1
  funext v
  rw [jh5]
 have nn:∀ {x:Int} {xs:List Int},Z19 s=x::xs->x≠110->sEq s j73=false:=λ{x xs} h hx=>by
  cases hq:sEq s j73 with
  | false=>rfl
  | true=>
   rw [(j0t _ _).1 hq] at h
   exact absurd (List.cons.inj h).1.symm hx
 have nt:∀ {x:Int} {xs:List Int},Z19 s=x::xs->x≠116->sEq s j1x=false:=λ{x xs} h hx=>by
  cases hq:sEq s j1x with
  | false=>rfl
  | true=>
   rw [(j0t _ _).1 hq] at h
   exact absurd (List.cons.inj h).1.symm hx
 have nf:∀ {x:Int} {xs:List Int},Z19 s=x::xs->x≠102->sEq s j1f=false:=λ{x xs} h hx=>by
  cases hq:sEq s j1f with
  | false=>rfl
  | true=>
   rw [(j0t _ _).1 hq] at h
   exact absurd (List.cons.inj h).1.symm hx
 have p0:∀ K:Bool->Res,j6E s K=K (sEq s j1x||sEq s j1f):=λK=>by
  unfold j6E
  cases sEq s j1x<;>rfl
 by_cases c0:s=j73
 ·refine ⟨some zV,λk=> ?_,λv hv he=> ?_⟩
  ·rw [hu]
   unfold j2r
   rw [c0,Z8L,cond_true]
   rfl
  ·rw [jhr hv jg3 (by rw [he,c0,jpr])]
 by_cases c1:s=j1x
 ·refine ⟨some (1,1,eS),λk=> ?_,λv hv he=> ?_⟩
  ·rw [hu]
   unfold j2r
   rw [p0,c1,Z8L,j01 (show Z19 j1x≠Z19 j73 by decide)]
   rfl
  ·have hb:j0w (1,1,eS)=true:=by unfold j0w;rw [Z8L];rfl
   have ht:j07 (1,1,eS)=j1x:=by unfold j07;rw [hb];rfl
   rw [jhr hv hb (by rw [he,c1,ht])]
 by_cases c2:s=j1f
 ·refine ⟨some (1,0,eS),λk=> ?_,λv hv he=> ?_⟩
  ·rw [hu]
   unfold j2r
   rw [p0,c2,Z8L,j01 (show Z19 j1f≠Z19 j73 by decide),j01 (show Z19 j1f≠Z19 j1x by decide)]
   rfl
  ·have hb:j0w (1,0,eS)=true:=by unfold j0w;rw [Z8L];rfl
   have ht:j07 (1,0,eS)=j1f:=by unfold j07;rw [hb];rfl
   rw [jhr hv hb (by rw [he,c2,ht])]
 have f0:sEq s j73=false:=by cases h:sEq s j73 with
  | false=>rfl
  | true=>exact absurd ((j0t _ _).1 h) c0
 have f1:sEq s j1x=false:=by cases h:sEq s j1x with
  | false=>rfl
  | true=>exact absurd ((j0t _ _).1 h) c1
 have f2:sEq s j1f=false:=by cases h:sEq s j1f with
  | false=>rfl
  | true=>exact absurd ((j0t _ _).1 h) c2
 obtain ⟨b,p1,b2,b3⟩:=jsk s hm2
 have hu2:∀ k,j3h s k=bif b then (bif Z6R 1 (Z8g (nI s.size-1)) s.size then j9d (Z9k s 1 (Z8g (nI s.size-1))) (λr r1=>bif !r1 then k zV false else (bif sEq s eS then k zV false else bif sNe (j07 (3,0,r)) s then k zV false else k (3,0,r) true)) else none)
   else (bif sEq s eS then k zV false else bif sNe (j07 (2,(j0X s).1,eS)) s then k zV false else k (2,(j0X s).1,eS) true):=λk=>by
  rw [hu]
  unfold j2r
  rw [f0,cond_false,p0,f1,f2]
  dsimp only [Bool.or]
  rw [cond_false,p1,jiR s hm2]
 cases hb:b
 ·refine ⟨some (2,(j0X s).1,eS),λk=>by rw [hu2,hb];rfl,λv hv he=> ?_⟩
  rcases jdZ hv with ⟨rfl,e⟩ | ⟨rfl,e⟩ | ⟨rfl,e⟩ | ⟨n,rfl,hn,e⟩ | ⟨t,rfl,ht,e⟩
  ·exact absurd (he.symm.trans e) c0
  ·exact absurd (he.symm.trans e) c1
  ·exact absurd (he.symm.trans e) c2
  ·have hs:s=j04 n:=by rw [<-he,e]
   rw [hs,jey hn]
  ·rw [he] at e
   have:=b3 _ e
   rw [hb] at this
   cases this
 ·obtain ⟨h2,h39⟩:=b2 hb
  have e1:Z8g (nI s.size-1)=((s.size-1:Nat):Int):=by rw [j03 (by unfold nI;omega)];unfold nI;omega
  have hcb:=jav s 1 (s.size-1)
  rw [show ((1:Nat):Int)=1 from rfl] at hcb
  have hcs:(Z9k s 1 ((s.size-1:Nat):Int)).size<=1000000000:=by
   rw [<-j0d,hcb,List.length_drop,List.length_take]
   omega
  obtain ⟨r,r1,r2⟩:=jsl _ hcs
  refine ⟨r.map λout=>(3,0,Z2X out),λk=> ?_,λv hv he=> ?_⟩
  ·rw [hu2,hb,cond_true,e1,show Z6R 1 ((s.size-1:Nat):Int) s.size=true from decide_eq_true (by omega),cond_true,r1]
   cases r<;>rfl
  ·obtain ⟨x,xs,q1,q2⟩:=jhq hv
   rw [he] at q1
   have hx:=jda q1
   obtain ⟨t,rfl,ht,e⟩:=q2 (by rw [<-hx];exact h39)
   rw [he] at e
   have h3:=congrArg List.length e
   simp only [List.length_cons,List.length_append,List.length_nil] at h3
   have h4:s.size-1=(esc (Z19 t)).length+1:=by rw [hl] at h3;rw [h3];rfl
   have:=r2 (Z19 t) (j9h t) (by
    rw [hcb,e,h4,List.take_succ_cons,List.take_left,List.drop_one,List.tail_cons])
   rw [this]
   show some (3,0,Z2X (Z19 t))=_
   rw [j4q]
theorem jpg (s:ByteArray) (hmax:s.size<=1000000000) (k:V->Bool->Res):j3h s k=k (jd1 s).1 (jd1 s).2:=by
 obtain ⟨raw,r1,r2⟩:=jrT s hmax
 rw [r1]
 by_cases h:∃ v,j0w v=true/\j07 v=s
 ·obtain ⟨v,hv,he⟩:=h
  rw [r2 v hv he,<-he,jgR hv]
  have hne:sEq (j07 v) eS=false:=by cases hq:sEq (j07 v) eS with
   | false=>rfl
   | true=>exact absurd ((j0t _ _).1 hq) (jtz hv)
  show (bif sEq (j07 v) eS then _ else bif sNe (j07 v) (j07 v) then _ else _)=_
  rw [hne,cond_false,Z8M,cond_false]
 ·rw [jpp λv hv he=>h ⟨v,hv,he⟩]
  cases raw with
  | none=>rfl
  | some v=>
   show (bif sEq s eS then k zV false else bif sNe (j07 v) s then k zV false else k v true)=_
   cases hs:sEq s eS
   ·rw [cond_false]
    cases hne:sNe (j07 v) s
    ·have he:=(jex _ _).1 hne
     cases hb:j0w v
     ·rw [jrd hb] at he
      rw [<-he,Z8L] at hs
      cases hs
     ·exact absurd ⟨v,hb,he⟩ h
    ·rfl
   ·rfl
end Go.PI.G
namespace Go.PI.G
open Go Go.PI Go.Proofs
theorem jfA (l:List ByteArray) (v:ByteArray) (h:l.length<=LIM) (k:Int->Res):j0P l v k=k (Z8b (λx=>sEq v x) l):=by
 unfold j0P j7c
 refine Z8o l (λi=>i) (λx=>sEq v x) (step:=j3l l v (nI l.length)) ((λ(_:Unit)=>k (-1)),(λ(t:Int)=>k t)) k h (λi rec hi=> ?_) (λrec=> ?_)
 ·show j2c _ _ _ _ _ _ _=_
  unfold j2c
  unfold LIM at h
  rw [Z9i hi,cond_true,j0i hi,cond_true,Z92 _ _ _ hi,j03 (n:=(i:Int)+1) (by omega)]
 ·show j2c _ _ _ _ _ _ _=_
  unfold j2c
  rw [Z9h,cond_false]
theorem j8h {α:Type} (p:α->Bool) (u:List α) (y:α) (r:List α) (hu:∀ x∈u,p x=false) (hy:p y=true):Z8b p (u++y::r)=(u.length:Int):=by
 unfold Z8b
 have:(u++y::r).findIdx? p=some u.length:=by
  rw [List.findIdx?_eq_some_iff_getElem]
  refine ⟨by rw [List.length_append,List.length_cons];omega,?_,λj hj=> ?_⟩
  ·simp [hy]
  ·rw [List.getElem_append_left hj]
   simp [hu _ (List.getElem_mem hj)]
 rw [this]
theorem jsi {α:Type} {p:α->Bool} {l:List α} (h:Z8b p l<0):∀ x∈l,p x=false:=by
 unfold Z8b at h
 cases hf:l.findIdx? p with
 | none=>exact List.findIdx?_eq_none_iff.1 hf
 | some i=>rw [hf] at h;dsimp only at h;omega
theorem jiO {α:Type} {p:α->Bool} {l:List α} (h:0<=Z8b p l):∃ (i:Nat) (hi:i<l.length),Z8b p l=(i:Int)/\p l[i]=true:=by
 unfold Z8b at h ⊢
 cases hf:l.findIdx? p with
 | none=>rw [hf] at h;dsimp only at h;omega
 | some i=>
  obtain ⟨hi,hp,_⟩:=List.findIdx?_eq_some_iff_getElem.1 hf
  exact ⟨i,hi,rfl,hp⟩
def jhn (x:ByteArray):ByteArray:=Z9k x 1 (nI x.size)
noncomputable def j9i (c:C) (x:ByteArray):C:=bif sEq x j7F then (c.1,c.2.1,true,c.2.2.2) else bif decide (0<x.size)&&(bt x 0==61) then (c.1,c.2.1,c.2.2.1,true,(jd1 (jhn x)).1) else c
noncomputable def j6x (ty:ByteArray->Int):List ByteArray->C
 | n::t::rest=>rest.foldl j9i (n,ty t,false,false,0,0,eS)
 | _=>zC
theorem jtA (c:C) (x:ByteArray):(j9i c x).1=c.1:=by
 unfold j9i
 cases sEq x j7F
 ·cases decide (0<x.size)&&(bt x 0==61)<;>rfl
 ·rfl
theorem jru:(l:List ByteArray)->(c:C)->(l.foldl j9i c).1=c.1
 | [],c=>rfl
 | x::l,c=>by rw [List.foldl_cons,jru l,jtA]
theorem jqL (c:C):j9i c j7F=(c.1,c.2.1,true,c.2.2.2):=by unfold j9i;rw [Z8L];rfl
theorem jnZ (x:ByteArray):(jhn x).size<=x.size:=by
 unfold jhn nI
 rw [<-j0d,show (1:Int)=((1:Nat):Int) from rfl,jav,List.length_drop,List.length_take,j0d]
 omega
theorem jti (v:ByteArray):jhn (j62++v)=v:=by
 apply j0R
 unfold jhn nI
 have e:Z19 (j62++v)=61::Z19 v:=by rw [j0l];rfl
 have hl:=j0d (j62++v)
 rw [show (1:Int)=((1:Nat):Int) from rfl,jav,<-hl,List.take_length,e,List.drop_one,List.tail_cons]
theorem jqK (c:C) {v:V} (hv:j0w v=true):j9i c (j62++j07 v)=(c.1,c.2.1,c.2.2.1,true,v):=by
 have e:Z19 (j62++j07 v)=61::Z19 (j07 v):=by rw [j0l];rfl
 have hl:=j0d (j62++j07 v)
 rw [e,List.length_cons] at hl
 unfold j9i
 rw [j01 (by rw [e];intro h;have h2:=congrArg (λl=>l.headD 0) h;exact absurd (show (61:Int)=110 from h2) (by decide)),cond_false,decide_eq_true (show 0<(j62++j07 v).size by omega),Bool.true_and,jda e,show ((61:Int)==61)=true from rfl,cond_true,jti,jgR hv]
theorem jt5 {v:V} (h:jh9 v=true):v=zV:=by
 obtain ⟨a,b,c⟩:=v
 unfold jh9 at h
 simp only [Bool.and_eq_true,beq_iff_eq,j0t] at h
 obtain ⟨rfl,rfl,rfl⟩:=h
 rfl
theorem jdJ (ty:ByteArray->Int) (hty:∀ t,1<=t/\t<=3->ty (tyN t)=t) {c:C} (h:j1G c=true):j6x ty (j1n c)=c:=by
 obtain ⟨h1,h2,h3⟩:=j6w h
 obtain ⟨n,t,nt,hs,df⟩:=c
 dsimp only at h1 h2 h3
 have hd:hs=false->df=zV:=λe=>by
  subst e
  unfold j1G at h
  simp only [Bool.and_eq_true,cond_false] at h
  exact jt5 h.2.2.2
 unfold j1n j6x
 dsimp only
 rw [hty t h2]
 cases nt
 ·cases hs
  ·rw [hd rfl];rfl
  ·show [j62++j07 df].foldl j9i _=_
   rw [List.foldl_cons,List.foldl_nil,jqK _ h3]
 ·cases hs
  ·show [j7F].foldl j9i _=_
   rw [List.foldl_cons,List.foldl_nil,jqL,hd rfl]
  ·show [j7F,j62++j07 df].foldl j9i _=_
   rw [List.foldl_cons,List.foldl_cons,List.foldl_nil,jqL,jqK _ h3]
theorem jgU (ty:ByteArray->Int) (w:List ByteArray) (hw:∀ x∈w,x.size<=1048576):(j6x ty w).1.size<=1048576:=by
 match w,hw with
 | [],_=>exact Nat.zero_le _
 | [x],_=>exact Nat.zero_le _
 | n::t::rest,hw=>
  show (rest.foldl j9i _).1.size<=_
  rw [jru]
  exact hw n (by simp)
def tyS (t:ByteArray):Int:=bif sEq j1A t then 3 else bif sEq j2l t then 2 else bif sEq j1m t then 1 else 0
def tyI (t:ByteArray):Int:=Z8b (λx=>sEq t x) [eS,j1m,j2l,j1A]
theorem jsN (t:Int) (h:1<=t/\t<=3):tyS (tyN t)=t:=by
 unfold tyS
 rcases jg2 h with ⟨rfl,e⟩ | ⟨rfl,e⟩ | ⟨rfl,e⟩<;>rw [e]
 ·rw [j01 (show Z19 j1A≠Z19 j1m by decide),j01 (show Z19 j2l≠Z19 j1m by decide),Z8L];rfl
 ·rw [j01 (show Z19 j1A≠Z19 j2l by decide),Z8L];rfl
 ·rw [Z8L];rfl
theorem jsM (t:Int) (h:1<=t/\t<=3):tyI (tyN t)=t:=by
 unfold tyI
 rcases jg2 h with ⟨rfl,e⟩ | ⟨rfl,e⟩ | ⟨rfl,e⟩<;>rw [e]
 ·exact j8h _ [eS] j1m _ (λx hx=>by rw [List.mem_singleton.1 hx];exact j01 (by decide)) (Z8L _)
 ·exact j8h _ [eS,j1m] j2l _ (λx hx=>by
   simp only [List.mem_cons,List.not_mem_nil,or_false] at hx
   rcases hx with rfl | rfl<;>exact j01 (by decide)) (Z8L _)
 ·exact j8h _ [eS,j1m,j2l] j1A _ (λx hx=>by
   simp only [List.mem_cons,List.not_mem_nil,or_false] at hx
   rcases hx with rfl | rfl | rfl<;>exact j01 (by decide)) (Z8L _)
theorem jpm (w:List ByteArray) (hw:∀ x∈w,x.size<=1048576) (hl:w.length<=1048577) (k:C->Res):j4t w k=k (j6x tyS w):=by
 unfold j4t
 match w,hw,hl with
 | [],_,_=>rfl
 | [x],_,_=>rfl
 | n::t::rest,hw,hl=>
  have hlen:(n::t::rest).length=rest.length+2:=rfl
  rw [decide_eq_false (show ¬ nI (n::t::rest).length<2 by unfold nI;omega),cond_false,Z9c (by omega) (by omega),cond_true]
  unfold j6k
  dsimp only
  have key:=Z8q 4 (λi c=>(i,c)) (λi (c:C)=>bif decide (0<i)&&sEq (nth eS [eS,j1m,j2l,j1A] (i:Int)) t then (c.1,(i:Int),c.2.2) else c) (λ_ _=>True) (step:=j5e (n::t::rest) [eS,j1m,j2l,j1A] (nI ([eS,j1m,j2l,j1A]:List ByteArray).length))
   (λ(c:C)=>bif Z6R 2 (nI (n::t::rest).length) (n::t::rest).length then j33 (sub (n::t::rest) 2 (nI (n::t::rest).length)) (nI (sub (n::t::rest) 2 (nI (n::t::rest).length)).length) Z0Y 0 c (λ(c1:C)=>k c1) else none)
   (λ(c:C)=>bif Z6R 2 (nI (n::t::rest).length) (n::t::rest).length then j33 (sub (n::t::rest) 2 (nI (n::t::rest).length)) (nI (sub (n::t::rest) 2 (nI (n::t::rest).length)).length) Z0Y 0 c (λ(c1:C)=>k c1) else none)
   (n,0,false,false,0,0,eS) (by unfold LIM;omega) trivial (λ_ _ _ _=>trivial) (λi c rec hi _=>by
    show j3u _ _ _ _ _ _ _=_
    unfold j3u
    dsimp only
    rw [show decide ((i:Int)<nI ([eS,j1m,j2l,j1A]:List ByteArray).length)=true from decide_eq_true (by show (i:Int)<4;omega),cond_true,show inb (i:Int) ([eS,j1m,j2l,j1A]:List ByteArray).length=true from Z9c (by omega) (by show (i:Int)<((4:Nat):Int);omega),cond_true,j03 (n:=(i:Int)+1) (by omega)]
    by_cases h0:0<i
    ·rw [decide_eq_true (show (i:Int)>0 by omega),cond_true,Z9c (by omega) (by omega),cond_true,decide_eq_true h0,Bool.true_and]
     have e:nth eS (n::t::rest) 1=t:=rfl
     rw [e]
     cases sEq (nth eS [eS,j1m,j2l,j1A] (i:Int)) t<;>rfl
    ·rw [decide_eq_false (show ¬ (i:Int)>0 by omega),cond_false,decide_eq_false h0];rfl) (λc rec _=>by
    show j3u _ _ _ _ _ _ _=_
    unfold j3u
    rfl)
  unfold jam
  refine Eq.trans key.1 ?_
  have e0:Z4T (λi (c:C)=>bif decide (0<i)&&sEq (nth eS [eS,j1m,j2l,j1A] (i:Int)) t then (c.1,(i:Int),c.2.2) else c) 0 4 (n,0,false,false,0,0,eS)=(n,tyS t,false,false,0,0,eS):=by
   unfold tyS
   show (bif true&&sEq j1A t then _ else _)=_
   simp only [Z4T,Bool.true_and]
   have q0:nth eS [eS,j1m,j2l,j1A] ((0+1:Nat):Int)=j1m:=rfl
   have q1:nth eS [eS,j1m,j2l,j1A] ((0+1+1:Nat):Int)=j2l:=rfl
   rw [q0,q1]
   cases sEq j1m t<;>cases sEq j2l t<;>cases sEq j1A t<;>rfl
  rw [e0,show (2:Int)=((2:Nat):Int) from rfl,j4x (by omega),cond_true,j8z]
  show j33 rest (nI rest.length) Z0Y 0 _ _=k (rest.foldl j9i (n,tyS t,false,false,0,0,eS))
  unfold j33
  refine Z6V rest (λi c=>(i,c)) j9i (λ_ _=>True) (step:=j5f rest (nI rest.length)) (λc1=>k c1) k _ (by unfold LIM;omega) trivial (λ_ _ _ _=>trivial) (λi c rec hi _=>by
   show j3v _ _ _ _ _ _=_
   unfold j3v
   dsimp only
   have hx:=hw rest[i] (List.mem_cons_of_mem _ (List.mem_cons_of_mem _ (List.getElem_mem hi)))
   rw [Z9i hi,cond_true,j0i hi,cond_true,Z92 _ _ _ hi,j03 (n:=(i:Int)+1) (by omega)]
   unfold j9i
   cases sEq rest[i] j7F
   ·rw [cond_false,cond_false]
    by_cases h0:0<rest[i].size
    ·rw [decide_eq_true (show nI rest[i].size>0 by unfold nI;omega),cond_true,Z9c (by omega) (by omega),cond_true,decide_eq_true h0,Bool.true_and]
     cases bt rest[i] 0==61
     ·rfl
     ·have ht:=jnZ rest[i]
      unfold jhn at ht
      rw [cond_true,cond_true,show (1:Int)=((1:Nat):Int) from rfl,j4x (by omega),cond_true,show ((1:Nat):Int)=1 from rfl,jpo _ (by unfold LIM;omega)]
      rfl
    ·rw [decide_eq_false (show ¬ nI rest[i].size>0 by unfold nI;omega),cond_false,decide_eq_false h0,Bool.false_and,cond_false]
   ·rfl) (λc rec _=>by
   show j3v _ _ _ _ _ _=_
   unfold j3v
   dsimp only
   rw [Z9h,cond_false])
theorem jpd (w:List ByteArray) (hw:∀ x∈w,x.size<=1048576) (hl:w.length<=1048577) (k:C->Res):j8o w k=k (j6x tyI w):=by
 unfold j8o
 match w,hw,hl with
 | [],_,_=>rfl
 | [x],_,_=>rfl
 | n::t::rest,hw,hl=>
  have hlen:(n::t::rest).length=rest.length+2:=rfl
  rw [decide_eq_false (show ¬ nI (n::t::rest).length<2 by unfold nI;omega),cond_false]
  have hp:∀ K,j8Y (n::t::rest) K=K (n,tyI t,false,false,0,0,eS):=λK=>by
   unfold j8Y
   rw [Z9c (by omega) (by omega),cond_true,Z9c (by omega) (by omega),cond_true]
   have e1:nth eS (n::t::rest) 1=t:=rfl
   have e0:nth eS (n::t::rest) 0=n:=rfl
   simp only [e0,e1,jfA [eS,j1m,j2l,j1A] t (by show (4:Nat)<=LIM;unfold LIM;omega),Z8m]
   rfl
  rw [hp,show (2:Int)=((2:Nat):Int) from rfl,j4x (by omega),cond_true,j8z]
  show jbw rest (nI rest.length) Z0Y 0 _ _=k (rest.foldl j9i (n,tyI t,false,false,0,0,eS))
  unfold jbw
  refine Z6V rest (λi c=>(i,c)) j9i (λ_ _=>True) (step:=j9F rest (nI rest.length)) (λc1=>k c1) k _ (by unfold LIM;omega) trivial (λ_ _ _ _=>trivial) (λi c rec hi _=>by
   show j6H _ _ _ _ _ _=_
   unfold j6H jbx
   dsimp only
   have hx:=hw rest[i] (List.mem_cons_of_mem _ (List.mem_cons_of_mem _ (List.getElem_mem hi)))
   rw [Z9i hi,cond_true,j0i hi,cond_true,Z92 _ _ _ hi,j03 (n:=(i:Int)+1) (by omega)]
   unfold j9i
   cases hn:sEq rest[i] j7F
   ·rw [cond_false,cond_false]
    by_cases h0:0<rest[i].size
    ·rw [decide_eq_true (show nI rest[i].size>0 by unfold nI;omega),cond_true,Z9c (by omega) (by omega),cond_true,decide_eq_true h0,Bool.true_and]
     cases bt rest[i] 0==61
     ·rfl
     ·have ht:=jnZ rest[i]
      unfold jhn at ht
      rw [cond_true,cond_true,show (1:Int)=((1:Nat):Int) from rfl,j4x (by omega),cond_true,show ((1:Nat):Int)=1 from rfl,jpg _ (by omega)]
      rfl
    ·rw [decide_eq_false (show ¬ nI rest[i].size>0 by unfold nI;omega),cond_false,decide_eq_false h0,Bool.false_and,cond_false]
   ·rw [(j0t _ _).1 hn]
    rfl) (λc rec _=>by
   show j6H _ _ _ _ _ _=_
   unfold j6H
   dsimp only
   rw [Z9h,cond_false])
theorem jsw (w:List ByteArray) (hl:w.length<=1048577):∀ (d i m:Nat),i+d=w.length->d<m->∃ j:Nat,i<=j/\j<=w.length/\(∀ K,Z10 (j2t w) m (i:Int) K=K (j:Int))/\(∀ h:j<w.length,w[j]=j1a) /\
  ∀ u r,w.drop i=u++j1a::r->(∀ x∈u,x≠j1a)->j=i+u.length:=by
 intro d
 induction d with
 | zero=>
  intro i m hi hm
  obtain ⟨m,rfl⟩:∃ e,m=e+1:=⟨m-1,by omega⟩
  refine ⟨i,by omega,by omega,λK=> ?_,λh=>by omega,λu r h _=> ?_⟩
  ·rw [Z8u]
   show j3M w _ _ _=_
   unfold j3M
   rw [decide_eq_false (show ¬ (i:Int)<nI w.length by unfold nI;omega),cond_false]
  ·have:=congrArg List.length h
   rw [List.length_drop,List.length_append,List.length_cons] at this
   omega
 | succ d ih=>
  intro i m hi hm
  obtain ⟨m,rfl⟩:∃ e,m=e+1:=⟨m-1,by omega⟩
  have hil:i<w.length:=by omega
  have hun:∀ K,Z10 (j2t w) (m+1) (i:Int) K=bif sNe w[i] j1a then Z10 (j2t w) m ((i+1:Nat):Int) K else K (i:Int):=λK=>by
   rw [Z8u]
   show j3M w _ _ _=_
   unfold j3M
   rw [Z9i hil,cond_true,j0i hil,cond_true,Z92 _ _ _ hil,j03 (by omega),show ((i+1:Nat):Int)=(i:Int)+1 by omega]
  cases hx:sNe w[i] j1a
  ·have e:=(jex _ _).1 hx
   refine ⟨i,by omega,by omega,λK=>by rw [hun,hx,cond_false],λ_=>e,λu r h hu=> ?_⟩
   rw [List.drop_eq_getElem_cons hil] at h
   cases u with
   | nil=>rfl
   | cons y u=>exact absurd ((List.cons.inj h).1.symm.trans e) (hu y (by simp))
  ·obtain ⟨j,j1,j2,j3,j4,j5⟩:=ih (i+1) m (by omega) (by omega)
   refine ⟨j,by omega,j2,λK=>by rw [hun,hx,cond_true];exact j3 K,j4,λu r h hu=> ?_⟩
   rw [List.drop_eq_getElem_cons hil] at h
   cases u with
   | nil=>
    have:=(List.cons.inj h).1
    rw [this,Z8M] at hx
    cases hx
   | cons y u=>
    have:=j5 u r (List.cons.inj h).2 λx hx=>hu x (List.mem_cons_of_mem _ hx)
    rw [List.length_cons];omega
theorem jnS:(j1b:ByteArray)≠j1a:=λh=>absurd (congrArg Z19 h) (by decide)
theorem jnE:(j2m:ByteArray)≠j1b:=λh=>absurd (congrArg Z19 h) (by decide)
theorem jjd {a b:ByteArray} (h:a≠b):sEq a b=false:=by
 cases hq:sEq a b with
 | false=>rfl
 | true=>exact absurd ((j0t _ _).1 hq) h
theorem jsx (w:List ByteArray) (hw:∀ x∈w,x.size<=1048576) (hl:w.length<=1048576):∀ (d i m:Nat) (D0:D),w.length-i<=d->i<=w.length->d<m->D0.2.2.1.length<=i ->
  ∃ (i':Nat) (cs:List C),(∀ K,Z10 (j2u w) m ((i:Int),D0) K=K (i':Int) (D0.1,D0.2.1,D0.2.2.1++cs,D0.2.2.2))/\i'<=w.length+1/\cs.length<=d/\(∀ c∈cs,c.1.size<=1048576) /\
   ∀ cs' ks,(∀ c∈cs',j1G c=true)->w.drop i=cs'.flatMap j20++(j2m::ks)->cs=cs'/\w.drop i'=j2m::ks:=by
 intro d
 induction d with
 | zero=>
  intro i m D0 hd hi hm h0
  obtain ⟨m,rfl⟩:∃ e,m=e+1:=⟨m-1,by omega⟩
  refine ⟨i,[],λK=> ?_,by omega,by simp,λc hc=>(by cases hc),λcs' ks _ h=> ?_⟩
  ·rw [Z8u]
   show j0Q w _ _ _ _=_
   unfold j0Q
   dsimp only
   rw [decide_eq_false (show ¬ (i:Int)<nI w.length by unfold nI;omega),cond_false,List.append_nil]
  ·have:=congrArg List.length h
   rw [List.length_drop,List.length_append,List.length_cons] at this
   omega
 | succ d ih=>
  intro i m D0 hd hi hm h0
  obtain ⟨m,rfl⟩:∃ e,m=e+1:=⟨m-1,by omega⟩
  have hun:∀ K,Z10 (j2u w) (m+1) ((i:Int),D0) K=j0Q w (i:Int) D0 (λi d=>Z10 (j2u w) m (i,d) K) K:=λK=>rfl
  by_cases hil:i<w.length
  ·by_cases hx:w[i]=j1b
   ·obtain ⟨j,j1,j2,j3,j4,j5⟩:=jsw w (by omega) (w.length-i) i Z0Y (by omega) (Z1O (by omega))
    have hj:i+1<=j:=by
     rcases Nat.lt_or_ge i j with h | h
     ·exact h
     ·have e:j=i:=by omega
      have:=j4 (by omega)
      simp only [e] at this
      exact absurd (hx.symm.trans this) jnS
    have hin:∀ K,jb5 w Z0Y (i:Int) K=K (j:Int):=λK=>j3 K
    by_cases hjl:j<w.length
    ·have hws:∀ x∈(w.take j).drop (i+1),x.size<=1048576:=λx hx=>hw x (List.mem_of_mem_take (List.mem_of_mem_drop hx))
     have hwl:((w.take j).drop (i+1)).length<=1048577:=by rw [List.length_drop,List.length_take];omega
     obtain ⟨i',cs,e1,e2,e3,e4,e5⟩:=ih (j+1) m (D0.1,D0.2.1,D0.2.2.1++[j6x tyS ((w.take j).drop (i+1))],D0.2.2.2) (by omega) (by omega) (by omega) (by show (D0.2.2.1++[_]).length<=_;rw [List.length_append,List.length_singleton];omega)
     refine ⟨i',j6x tyS ((w.take j).drop (i+1))::cs,λK=> ?_,e2,by rw [List.length_cons];omega,λc hc=> ?_,λcs' ks hcs h=> ?_⟩
     ·rw [hun]
      unfold j0Q
      rw [Z9i hil,cond_true,j0i hil,cond_true,Z92 _ _ _ hil,hx,Z8L,cond_true,hin,Z9i hjl,cond_true,j03 (n:=(i:Int)+1) (by omega),show (i:Int)+1=((i+1:Nat):Int) by omega,jl1 (by omega),cond_true,jgQ,jpm _ hws hwl,Z9d (by unfold LIM;omega),cond_true,j03 (n:=(j:Int)+1) (by omega)]
      have:=e1 K
      rw [show ((j+1:Nat):Int)=(j:Int)+1 by omega] at this
      refine this.trans ?_
      dsimp only
      rw [List.append_assoc]
      rfl
     ·rcases List.mem_cons.1 hc with rfl | hc
      ·exact jgU _ _ hws
      ·exact e4 c hc
     ·cases cs' with
      | nil=>
       rw [List.drop_eq_getElem_cons hil] at h
       exact absurd ((List.cons.inj h).1.symm.trans hx) jnE
      | cons c' cs'=>
       have hcb:=hcs c' (by simp)
       have hne:∀ x∈j1b::j1n c',x≠j1a:=λx hx=>by
        rcases List.mem_cons.1 hx with rfl | hx
        ·exact jnS
        ·exact (jdb hcb x hx).2.2.2
       have hsp:w.drop i=(j1b::j1n c')++j1a::(cs'.flatMap j20++(j2m::ks)):=by
        rw [h,List.flatMap_cons]
        unfold j20
        simp
       have ej:=j5 _ _ hsp hne
       rw [List.length_cons] at ej
       have hd1:w.drop (i+1)=j1n c'++j1a::(cs'.flatMap j20++(j2m::ks)):=by
        rw [List.drop_eq_getElem_cons hil] at hsp
        exact (List.cons.inj hsp).2
       have hsub:(w.take j).drop (i+1)=j1n c':=by
        rw [List.drop_take,hd1,show j-(i+1)=(j1n c').length by omega,List.take_left]
       have hd2:w.drop (j+1)=cs'.flatMap j20++(j2m::ks):=by
        rw [show j+1=(i+1)+((j1n c').length+1) by omega,<-List.drop_drop,hd1,<-List.drop_drop,List.drop_left]
        rfl
       obtain ⟨f1,f2⟩:=e5 cs' ks (λc hc=>hcs c (List.mem_cons_of_mem _ hc)) hd2
       rw [hsub,jdJ tyS jsN hcb,f1]
       exact ⟨rfl,f2⟩
    ·obtain ⟨m,rfl⟩:∃ e,m=e+1:=⟨m-1,by omega⟩
     refine ⟨w.length+1,[],λK=> ?_,by omega,by simp,λc hc=>(by cases hc),λcs' ks hcs h=> ?_⟩
     ·rw [hun]
      unfold j0Q
      rw [Z9i hil,cond_true,j0i hil,cond_true,Z92 _ _ _ hil,hx,Z8L,cond_true,hin,decide_eq_false (show ¬ (j:Int)<nI w.length by unfold nI;omega),cond_false,j03 (n:=(j:Int)+1) (by omega)]
      dsimp only
      rw [Z8u]
      show j0Q w _ _ _ _=_
      unfold j0Q
      dsimp only
      rw [decide_eq_false (show ¬ (j:Int)+1<nI w.length by unfold nI;omega),cond_false,List.append_nil,show (j:Int)+1=((w.length+1:Nat):Int) by omega]
     ·cases cs' with
      | nil=>
       rw [List.drop_eq_getElem_cons hil] at h
       exact absurd ((List.cons.inj h).1.symm.trans hx) jnE
      | cons c' cs'=>
       have hcb:=hcs c' (by simp)
       have hne:∀ x∈j1b::j1n c',x≠j1a:=λx hx=>by
        rcases List.mem_cons.1 hx with rfl | hx
        ·exact jnS
        ·exact (jdb hcb x hx).2.2.2
       have hsp:w.drop i=(j1b::j1n c')++j1a::(cs'.flatMap j20++(j2m::ks)):=by
        rw [h,List.flatMap_cons]
        unfold j20
        simp
       have ej:=j5 _ _ hsp hne
       have:=congrArg List.length hsp
       rw [List.length_drop,List.length_append,List.length_cons,List.length_cons] at this
       rw [List.length_cons] at ej
       omega
   ·refine ⟨i,[],λK=> ?_,by omega,by simp,λc hc=>(by cases hc),λcs' ks hcs h=> ?_⟩
    ·rw [hun]
     unfold j0Q
     rw [Z9i hil,cond_true,j0i hil,cond_true,Z92 _ _ _ hil,jjd hx,cond_false,List.append_nil]
    ·cases cs' with
     | nil=>exact ⟨rfl,h⟩
     | cons c' cs'=>
      rw [List.drop_eq_getElem_cons hil] at h
      exact absurd (List.cons.inj h).1 hx
  ·refine ⟨i,[],λK=> ?_,by omega,by simp,λc hc=>(by cases hc),λcs' ks _ h=> ?_⟩
   ·rw [hun]
    unfold j0Q
    rw [decide_eq_false (show ¬ (i:Int)<nI w.length by unfold nI;omega),cond_false,List.append_nil]
   ·have:=congrArg List.length h
    rw [List.length_drop,List.length_append,List.length_cons] at this
    omega
theorem js1 (w:List ByteArray) (hw:∀ x∈w,x.size<=1048576) (hl:w.length<=1048576) (t:ByteArray):∃ (cs:List C) (ks:List ByteArray),(∀ K,j5r (1,t,[],[],eS,eS) w K=K (1,t,cs,ks,eS,eS))/\cs.length<=1048576/\(∀ c∈cs,c.1.size<=1048576)/\ks.length<=1048576/\(∀ x∈ks,x.size<=1048576) /\
  ∀ cs' ks',(∀ c∈cs',j1G c=true)->ks'≠[]->w=cs'.flatMap j20++(j2m::ks')->cs=cs'/\ks=ks':=by
 obtain ⟨i',cs,e1,e2,e3,e4,e5⟩:=jsx w hw hl w.length 0 Z0Y (1,t,[],[],eS,eS) (by omega) (by omega) (Z1O (by omega)) (by simp)
 have hu:∀ K,j5r (1,t,[],[],eS,eS) w K=bif decide ((i':Int)+1<nI w.length) then K (1,t,cs,w.drop (i'+1),eS,eS) else K (1,t,cs,[],eS,eS):=λK=>by
  unfold j5r jb6
  refine (e1 _).trans ?_
  dsimp only
  rw [List.nil_append,j03 (n:=(i':Int)+1) (by omega)]
  by_cases h:i'+1<w.length
  ·rw [decide_eq_true (show (i':Int)+1<nI w.length by unfold nI;omega),cond_true,cond_true,show (i':Int)+1=((i'+1:Nat):Int) by omega,j4x (by omega),cond_true,j8z,Z9d (by rw [List.length_drop];unfold LIM;omega),cond_true]
  ·rw [decide_eq_false (show ¬ (i':Int)+1<nI w.length by unfold nI;omega),cond_false,cond_false]
 by_cases h:i'+1<w.length
 ·refine ⟨cs,w.drop (i'+1),λK=> ?_,by omega,e4,by rw [List.length_drop];omega,λx hx=>hw x (List.mem_of_mem_drop hx),λcs' ks' h1 h2 h3=> ?_⟩
  ·rw [hu,decide_eq_true (show (i':Int)+1<nI w.length by unfold nI;omega),cond_true]
  ·obtain ⟨f1,f2⟩:=e5 cs' ks' h1 (by rw [List.drop_zero];exact h3)
   refine ⟨f1,?_⟩
   rw [<-List.drop_drop,f2];rfl
 ·refine ⟨cs,[],λK=> ?_,by omega,e4,by simp,λx hx=>(by cases hx),λcs' ks' h1 h2 h3=> ?_⟩
  ·rw [hu,decide_eq_false (show ¬ (i':Int)+1<nI w.length by unfold nI;omega),cond_false]
  ·obtain ⟨f1,f2⟩:=e5 cs' ks' h1 (by rw [List.drop_zero];exact h3)
   have:=congrArg List.length f2
   rw [List.length_drop,List.length_cons] at this
   have h4:ks'.length≠0:=λe=>h2 (List.length_eq_zero_iff.1 e)
   omega
theorem jsj:∀ (d:Nat) (w:List ByteArray) (m:Nat) (e:D),(∀ x∈w,x.size<=1048576)->w.length<=1048576->w.length<=d->d<m->e.2.2.1.length+w.length<=1048576 ->
  ∃ (ex:Bool) (w1:List ByteArray) (cs:List C),(∀ q,Z10 j1z m (w,e) q=bif ex then q.2 (e.1,e.2.1,e.2.2.1++cs,e.2.2.2) else q.1 w1 (e.1,e.2.1,e.2.2.1++cs,e.2.2.2))/\w1.length<=w.length/\(∀ x∈w1,x∈w)/\cs.length<=w.length/\(∀ c∈cs,c.1.size<=1048576) /\
   ∀ cs' ks,(∀ c∈cs',j1G c=true)->w=cs'.flatMap j20++(j2m::ks)->ex=false/\cs=cs'/\w1=j2m::ks:=by
 intro d
 induction d with
 | zero=>
  intro w m e hw hl hd hm h0
  obtain ⟨m,rfl⟩:∃ e,m=e+1:=⟨m-1,by omega⟩
  have hn:w=[]:=List.length_eq_zero_iff.1 (by omega)
  subst hn
  refine ⟨false,[],[],λq=> ?_,by simp,λx hx=>hx,by simp,λc hc=>(by cases hc),λcs' ks _ h=> ?_⟩
  ·rw [Z8u]
   show j27 _ _ _ _ _=_
   unfold j27
   rw [List.append_nil]
   rfl
  ·have:=congrArg List.length h
   rw [List.length_append,List.length_cons] at this
   simp at this
 | succ d ih=>
  intro w m e hw hl hd hm h0
  obtain ⟨m,rfl⟩:∃ e,m=e+1:=⟨m-1,by omega⟩
  have hun:∀ q,Z10 j1z (m+1) (w,e) q=j27 w e (λw e=>Z10 j1z m (w,e) q) q.1 q.2:=λq=>rfl
  by_cases hl0:0<w.length
  ·by_cases hx:w[0]=j1b
   ·have hst:∀ q,Z10 j1z (m+1) (w,e) q=bif decide (Z8b (λx=>sEq j1a x) w<0) then q.2 e else bif Z6R 1 (Z8b (λx=>sEq j1a x) w) w.length then j8o (sub w 1 (Z8b (λx=>sEq j1a x) w)) (λ(r1:C)=>bif lim (e.2.2.1.length+1) then (bif Z6R (Z8g (Z8b (λx=>sEq j1a x) w+1)) (nI w.length) w.length then Z10 j1z m (sub w (Z8g (Z8b (λx=>sEq j1a x) w+1)) (nI w.length),(e.1,e.2.1,(e.2.2.1++[r1]),e.2.2.2)) q else none) else none) else none:=λq=>by
     rw [hun]
     unfold j27
     have e0:nth eS w 0=w[0]:=Z92 eS w 0 hl0
     rw [decide_eq_true (show nI w.length>0 by unfold nI;omega),cond_true,Z9c (by omega) (by omega),cond_true,e0,hx,Z8L,cond_true,jfA w _ (by unfold LIM;omega)]
    by_cases hr:Z8b (λx=>sEq j1a x) w<0
    ·refine ⟨true,[],[],λq=> ?_,by simp,λx hx=>(by cases hx),by simp,λc hc=>(by cases hc),λcs' ks hcs h=> ?_⟩
     ·rw [hst,decide_eq_true hr,cond_true,cond_true,List.append_nil]
     ·have hno:=jsi hr
      cases cs' with
      | nil=>
       have:w[0]=j2m:=by simp only [h];rfl
       exact absurd (this.symm.trans hx) jnE
      | cons c' cs'=>
       have:j1a∈w:=by rw [h,List.flatMap_cons];unfold j20;simp
       have:=hno _ this
       rw [Z8L] at this
       cases this
    ·obtain ⟨j,hj,e1,e2⟩:=jiO (show 0<=Z8b (λx=>sEq j1a x) w by omega)
     have ej:=(j0t _ _).1 e2
     have hj1:1<=j:=by
      rcases Nat.eq_zero_or_pos j with h | h
      ·have:w[0]=j1a:=by simp only [h] at ej;exact ej.symm
       exact absurd (hx.symm.trans this) jnS
      ·exact h
     have hws:∀ x∈(w.take j).drop 1,x.size<=1048576:=λx hx=>hw x (List.mem_of_mem_take (List.mem_of_mem_drop hx))
     have hwl:((w.take j).drop 1).length<=1048577:=by rw [List.length_drop,List.length_take];omega
     obtain ⟨ex,w1,cs,f1,f2,f3,f4,f5,f6⟩:=ih (w.drop (j+1)) m (e.1,e.2.1,e.2.2.1++[j6x tyI ((w.take j).drop 1)],e.2.2.2) (λx hx=>hw x (List.mem_of_mem_drop hx)) (by rw [List.length_drop];omega) (by rw [List.length_drop];omega) (by omega) (by show (e.2.2.1++[_]).length+_<=_;rw [List.length_append,List.length_singleton,List.length_drop];omega)
     rw [List.length_drop] at f2 f4
     refine ⟨ex,w1,j6x tyI ((w.take j).drop 1)::cs,λq=> ?_,by omega,λx hx=>List.mem_of_mem_drop (f3 x hx),by rw [List.length_cons];omega,λc hc=> ?_,λcs' ks hcs h=> ?_⟩
     ·rw [hst,e1,decide_eq_false (by omega),cond_false,show (1:Int)=((1:Nat):Int) from rfl,jl1 (by omega),cond_true,jgQ,jpd _ hws hwl,Z9d (by unfold LIM;omega),cond_true,j03 (by omega),show (j:Int)+((1:Nat):Int)=((j+1:Nat):Int) by omega,j4x (by omega),cond_true,j8z,f1]
      dsimp only
      rw [List.append_assoc]
      rfl
     ·rcases List.mem_cons.1 hc with rfl | hc
      ·exact jgU _ _ hws
      ·exact f5 c hc
     ·cases cs' with
      | nil=>
       have:w[0]=j2m:=by simp only [h];rfl
       exact absurd (this.symm.trans hx) jnE
      | cons c' cs'=>
       have hcb:=hcs c' (by simp)
       have hsp:w=(j1b::j1n c')++j1a::(cs'.flatMap j20++(j2m::ks)):=by
        rw [h,List.flatMap_cons]
        unfold j20
        simp
       have hq:=j8h (λx=>sEq j1a x) (j1b::j1n c') j1a (cs'.flatMap j20++(j2m::ks)) (λx hx=>by
        rcases List.mem_cons.1 hx with rfl | hx
        ·exact jjd jnS.symm
        ·exact jjd (jdb hcb x hx).2.2.2.symm) (Z8L _)
       rw [<-hsp,e1,List.length_cons] at hq
       have ejc:j=(j1n c').length+1:=by omega
       have hsub:(w.take j).drop 1=j1n c':=by
        rw [hsp,ejc,List.cons_append,List.take_succ_cons,List.take_left]
        rfl
       have hdr:w.drop (j+1)=cs'.flatMap j20++(j2m::ks):=by
        rw [hsp,ejc,List.cons_append,List.drop_succ_cons,<-List.drop_drop,List.drop_left]
        rfl
       obtain ⟨g1,g2,g3⟩:=f6 cs' ks (λc hc=>hcs c (List.mem_cons_of_mem _ hc)) hdr
       rw [hsub,jdJ tyI jsM hcb,g2]
       exact ⟨g1,rfl,g3⟩
   ·refine ⟨false,w,[],λq=> ?_,by omega,λx hx=>hx,by simp,λc hc=>(by cases hc),λcs' ks hcs h=> ?_⟩
    ·rw [hun]
     unfold j27
     have e0:nth eS w 0=w[0]:=Z92 eS w 0 hl0
     rw [decide_eq_true (show nI w.length>0 by unfold nI;omega),cond_true,Z9c (by omega) (by omega),cond_true,e0,jjd hx,cond_false,cond_false,List.append_nil]
    ·cases cs' with
     | nil=>exact ⟨rfl,rfl,h⟩
     | cons c' cs'=>
      have:w[0]=j1b:=by simp only [h];rfl
      exact absurd this hx
  ·have hn:w=[]:=List.length_eq_zero_iff.1 (by omega)
   subst hn
   refine ⟨false,[],[],λq=> ?_,by simp,λx hx=>hx,by simp,λc hc=>(by cases hc),λcs' ks _ h=> ?_⟩
   ·rw [hun]
    unfold j27
    rw [List.append_nil]
    rfl
   ·have:=congrArg List.length h
    rw [List.length_append,List.length_cons] at this
    simp at this
theorem jrQ (w:List ByteArray) (hw:∀ x∈w,x.size<=1048576) (hl:w.length<=1048576) (t:ByteArray):∃ (cs:List C) (ks:List ByteArray),(∀ K,j69 w (1,t,[],[],eS,eS) K=K (1,t,cs,ks,eS,eS))/\cs.length<=1048576/\(∀ c∈cs,c.1.size<=1048576)/\ks.length<=1048576/\(∀ x∈ks,x.size<=1048576) /\
  ∀ cs' ks',(∀ c∈cs',j1G c=true)->ks'≠[]->w=cs'.flatMap j20++(j2m::ks')->cs=cs'/\ks=ks':=by
 obtain ⟨ex,w1,cs,e1,e2,e3,e4,e5,e6⟩:=jsj w.length w Z0Y (1,t,[],[],eS,eS) hw hl (by omega) (Z1O (by omega)) (by show 0+_<=_;omega)
 have hu:∀ K,j69 w (1,t,[],[],eS,eS) K=bif ex then K (1,t,cs,[],eS,eS) else bif decide (nI w1.length>0) then K (1,t,cs,w1.drop 1,eS,eS) else K (1,t,cs,[],eS,eS):=λK=>by
  unfold j69 jbE
  refine (e1 _).trans ?_
  dsimp only
  rw [List.nil_append]
  cases ex
  ·rw [cond_false,cond_false]
   by_cases h:0<w1.length
   ·unfold j5o
    rw [decide_eq_true (show nI w1.length>0 by unfold nI;omega),cond_true,cond_true,show (1:Int)=((1:Nat):Int) from rfl,j4x (by omega),cond_true,j8z,Z9d (by rw [List.length_drop];unfold LIM;omega),cond_true]
   ·rw [decide_eq_false (show ¬ nI w1.length>0 by unfold nI;omega),cond_false,cond_false]
  ·rfl
 cases hex:ex
 ·by_cases h:0<w1.length
  ·refine ⟨cs,w1.drop 1,λK=> ?_,by omega,e5,by rw [List.length_drop];omega,λx hx=>hw x (e3 x (List.mem_of_mem_drop hx)),λcs' ks' h1 h2 h3=> ?_⟩
   ·rw [hu,hex,cond_false,decide_eq_true (show nI w1.length>0 by unfold nI;omega),cond_true]
   ·obtain ⟨f0,f1,f2⟩:=e6 cs' ks' h1 h3
    refine ⟨f1,?_⟩
    rw [f2];rfl
  ·refine ⟨cs,[],λK=> ?_,by omega,e5,by simp,λx hx=>(by cases hx),λcs' ks' h1 h2 h3=> ?_⟩
   ·rw [hu,hex,cond_false,decide_eq_false (show ¬ nI w1.length>0 by unfold nI;omega),cond_false]
   ·obtain ⟨f0,f1,f2⟩:=e6 cs' ks' h1 h3
    rw [f2] at h
    exact absurd (by simp) h
 ·refine ⟨cs,[],λK=> ?_,by omega,e5,by simp,λx hx=>(by cases hx),λcs' ks' h1 h2 h3=> ?_⟩
  ·rw [hu,hex,cond_true]
  ·obtain ⟨f0,f1,f2⟩:=e6 cs' ks' h1 h3
   rw [hex] at f0
   cases f0
end Go.PI.G
namespace Go.PI.G
open Go Go.PI Go.Proofs
noncomputable def j8A (s:ByteArray):D×Bool:=rdX j26 j2j zD s
noncomputable def tst (s:ByteArray):ST×Bool:=rdX stB stT zST s
theorem jgX (d:D):∃ a b r,j1o d=a::b::r:=by
 unfold j1o
 cases d.1==1
 ·cases d.1==2
  ·cases d.1==3
   ·cases d.1==4<;>exact ⟨_,_,_,rfl⟩
   ·exact ⟨_,_,_,rfl⟩
  ·exact ⟨_,_,_,rfl⟩
 ·exact ⟨_,_,_,rfl⟩
theorem jdR {d:D} {s:ByteArray} (h:j26 d=true) (he:j2j d=s):j08 32 s=j1o d:=by
 unfold j2j at he
 rw [h,cond_true] at he
 obtain ⟨a,b,r,e⟩:=jgX d
 rw [e] at he ⊢
 exact (jjq (λv hv=>(jl3 h v (by rw [e];exact hv)).2) s).1 he
theorem jjt {s:ST}:∃ a b r,stW s=a::b::r:=by
 unfold stW
 cases s.1==1
 ·cases s.1==2
  ·cases s.1==3
   ·cases s.1==4
    ·exact jgX _
    ·exact ⟨_,_,_,rfl⟩
   ·exact ⟨_,_,_,rfl⟩
  ·exact ⟨_,_,_,rfl⟩
 ·exact ⟨_,_,_,rfl⟩
theorem jf9 {x:ST} {s:ByteArray} (h:stB x=true) (he:stT x=s):j08 32 s=stW x:=by
 unfold stT at he
 rw [h,cond_true] at he
 obtain ⟨a,b,r,e⟩:=jjt (s:=x)
 rw [e] at he ⊢
 exact (jjq (λv hv=>(jp3 h v (by rw [e];exact hv)).2) s).1 he
theorem jhf:j08 32 eS=[eS]:=rfl
theorem jrv {d:D} {s:ByteArray} (h:j2j d=s) (h2:2<=(j08 32 s).length):j26 d=true:=by
 cases hb:j26 d with
 | true=>rfl
 | false=>
  unfold j2j at h
  rw [hb,cond_false] at h
  rw [<-h,jhf] at h2
  simp at h2
theorem jsG {d:ST} {s:ByteArray} (h:stT d=s) (h2:2<=(j08 32 s).length):stB d=true:=by
 cases hb:stB d with
 | true=>rfl
 | false=>
  unfold stT at h
  rw [hb,cond_false] at h
  rw [<-h,jhf] at h2
  simp at h2
theorem jo0 {s:ByteArray} (h:(j08 32 s).length<2):j8A s=(zD,false):=jeU λx hx he=>by
 obtain ⟨a,b,r,e⟩:=jgX x
 rw [jdR hx he,e] at h
 simp at h
 omega
theorem jjo {s:ByteArray} (h:(j08 32 s).length<2):tst s=(zST,false):=jeU λx hx he=>by
 obtain ⟨a,b,r,e⟩:=jjt (s:=x)
 rw [jf9 hx he,e] at h
 simp at h
 omega
theorem jsB (s:ByteArray) (d:D) (hd:dSm d) (K:Bool->D->Res):j3o s d K=bif sNe (j2j d) s then K false zD else K true d:=by
 unfold j3o j9O j9N
 rw [jkE d hd]
def jmE (w:List ByteArray) (d:D):D:=
 bif d.1==4 then (d.1,d.2.1,d.2.2.1,d.2.2.2.1,(bif decide (2<w.length) then nth eS w 2 else d.2.2.2.2.1),d.2.2.2.2.2)
 else bif d.1==5 then (d.1,d.2.1,d.2.2.1,d.2.2.2.1,(bif decide (2<w.length) then nth eS w 2 else d.2.2.2.2.1),(bif decide (3<w.length) then nth eS w 3 else d.2.2.2.2.2))
 else d
theorem jrA {w:List ByteArray} {i:Nat} (h:i<w.length):nth eS w (i:Int)∈w:=by rw [Z92 _ _ _ h];exact List.getElem_mem _
theorem jty (w:List ByteArray) (hw:∀ x∈w,x.size<=1048576) (d:D) (hd:dSm d):dSm (jmE w d):=by
 obtain ⟨m1,m2,m3,m4,m5,m6,m7⟩:=hd
 have h2:(bif decide (2<w.length) then nth eS w 2 else d.2.2.2.2.1).size<=1048576:=by
  by_cases h:2<w.length
  ·rw [decide_eq_true h,cond_true];exact hw _ (jrA h)
  ·rw [decide_eq_false h,cond_false];exact m6
 have h3:(bif decide (3<w.length) then nth eS w 3 else d.2.2.2.2.2).size<=1048576:=by
  by_cases h:3<w.length
  ·rw [decide_eq_true h,cond_true];exact hw _ (jrA h)
  ·rw [decide_eq_false h,cond_false];exact m7
 unfold jmE
 cases d.1==4
 ·cases d.1==5
  ·exact ⟨m1,m2,m3,m4,m5,m6,m7⟩
  ·exact ⟨m1,m2,m3,m4,m5,h2,h3⟩
 ·exact ⟨m1,m2,m3,m4,m5,h2,m7⟩
theorem jsC (s:ByteArray) (w:List ByteArray) (hw:∀ x∈w,x.size<=1048576) (d:D) (hd:dSm d) (K:Bool->D->Res):j1y s w d K=bif sNe (j2j (jmE w d)) s then K false zD else K true (jmE w d):=by
 rw [<-jsB s _ (jty w hw d hd)]
 unfold j1y j2s jmE
 have i2:2<w.length->inb 2 w.length=true:=λh=>Z9c (by omega) (by omega)
 have i3:3<w.length->inb 3 w.length=true:=λh=>Z9c (by omega) (by omega)
 have d2:decide (nI w.length>2)=decide (2<w.length):=decide_eq_decide.2 (by unfold nI;omega)
 have d3:decide (nI w.length>3)=decide (3<w.length):=decide_eq_decide.2 (by unfold nI;omega)
 rw [d2,d3]
 by_cases h4:d.1=4
 ·rw [h4,show ((4:Int)==4)=true from rfl,show ((4:Int)==5)=false from rfl]
  by_cases h:2<w.length
  ·rw [decide_eq_true h,i2 h];simp only [cond_true,cond_false]
  ·rw [decide_eq_false h];simp only [cond_true,cond_false]
   rw [<-h4]
 ·rw [show (d.1==4)=false by simp [h4]]
  by_cases h5:d.1=5
  ·rw [h5,show ((5:Int)==5)=true from rfl]
   by_cases h:2<w.length
   ·rw [decide_eq_true h,i2 h]
    by_cases h':3<w.length
    ·rw [decide_eq_true h',i3 h'];simp only [cond_true,cond_false]
    ·rw [decide_eq_false h'];simp only [cond_true,cond_false]
   ·rw [decide_eq_false h,decide_eq_false (show ¬ 3<w.length by omega)];simp only [cond_true,cond_false]
    rw [<-h5]
  ·rw [show (d.1==5)=false by simp [h5]];rfl
theorem jdc (k:Int) {t:ByteArray} (h:t.size<=1048576):dSm (k,t,[],[],eS,eS):=⟨h,Nat.zero_le _,Nat.zero_le _,(λc hc=>(by cases hc)),(λx hx=>(by cases hx)),Nat.zero_le _,Nat.zero_le _⟩
theorem jnW (s:ByteArray) (hs:s.size<=1048576) (h2:¬ (j08 32 s).length<2):∃ raw:D,(∀ k,j4f s k=bif sNe (j2j raw) s then k zD false else k raw true)/\∀ x,j26 x=true->j2j x=s->raw=x:=by
 have hun:∀ k,j4f s k=_:=λk=>by
  unfold j4f
  exact j5K s (by omega) _
 have hws:∀ x∈j08 32 s,x.size<=1048576:=λx hx=>Nat.le_trans (j3k 32 s x hx) hs
 have hwl:=j4d 32 s
 ·have hp:=λ(x:D) (hx:j26 x=true) (he:j2j x=s)=>jdR hx he
  generalize hw:j08 32 s=w at *
  obtain ⟨w0,w1,rest,rfl⟩:∃ a b r,w=a::b::r:=by
   match w,h2 with
   | [],h=>simp at h
   | [_],h=>simp at h
   | a::b::r,_=>exact ⟨a,b,r,rfl⟩
  have hlen:(w0::w1::rest).length=rest.length+2:=rfl
  have e0:nth eS (w0::w1::rest) 0=w0:=rfl
  have e1:nth eS (w0::w1::rest) 1=w1:=rfl
  have e2:(w0::w1::rest).drop 2=rest:=rfl
  have hrs:∀ x∈rest,x.size<=1048576:=λx hx=>hws x (List.mem_cons_of_mem _ (List.mem_cons_of_mem _ hx))
  have h1s:=hws w1 (by simp)
  obtain ⟨cs,ks,c1,c2,c3,c4,c5,c6⟩:=js1 rest hrs (by omega) w1
  have hsc:dSm (1,w1,cs,ks,eS,eS):=⟨h1s,c2,c4,c3,c5,Nat.zero_le _,Nat.zero_le _⟩
  have hsa:dSm (3,w1,[j6x tyS rest],[],eS,eS):=⟨h1s,by simp,Nat.zero_le _,(λc hc=>by rw [List.mem_singleton.1 hc];exact jgU _ _ hrs),(λx hx=>(by cases hx)),Nat.zero_le _,Nat.zero_le _⟩
  refine ⟨bif sEq w0 j17 then (1,w1,cs,ks,eS,eS) else bif sEq w0 j3N then (2,w1,[],[],eS,eS) else bif sEq w0 j4v then (3,w1,[j6x tyS rest],[],eS,eS) else bif sEq w0 j74 then jmE (w0::w1::rest) (4,w1,[],[],eS,eS) else bif sEq w0 j36 then jmE (w0::w1::rest) (5,w1,[],[],eS,eS) else (0,w1,[],[],eS,eS),λk=> ?_,λx hx he=> ?_⟩
  ·rw [hun]
   rw [decide_eq_false (show ¬ nI (w0::w1::rest).length<2 by unfold nI;omega),cond_false,Z9c (by omega) (by omega),cond_true,Z9c (by omega) (by omega),cond_true,jgW (by omega),cond_true,jjy]
   rw [e0,e1,e2,cond_true]
   have hq:=λ(d:D) (hd:dSm d) (K:Bool->D->Res)=>jsC s (w0::w1::rest) hws d hd K
   rw [c1,jpm rest hrs (by omega)]
   cases sEq w0 j17
   ·cases sEq w0 j3N
    ·cases sEq w0 j4v
     ·cases sEq w0 j74
      ·cases sEq w0 j36
       ·exact hq _ (jdc 0 h1s) λt t1=>k t1 t
       ·exact hq _ (jdc 5 h1s) λt t1=>k t1 t
      ·exact hq _ (jdc 4 h1s) λt t1=>k t1 t
     ·exact hq _ hsa λt t1=>k t1 t
    ·exact hq _ (jdc 2 h1s) λt t1=>k t1 t
   ·exact hq _ hsc λt t1=>k t1 t
  ·have hpx:=hp x hx he
   obtain ⟨_,hc⟩:=j59 hx
   rcases hc with ⟨t,cs',ks',rfl,hT⟩ | ⟨t,rfl⟩ | ⟨t,c,rfl,hC⟩ | ⟨t,n,rfl,hn⟩ | ⟨t,n,m,rfl,hn,hm⟩
   ·simp only [j1o,beq_self_eq_true,cond_true,List.cons.injEq] at hpx
    obtain ⟨rfl,rfl,hr⟩:=hpx
    have hk:ks'≠[]:=λe=>by
     have:=(j2C hT).2.2.2.1
     rw [e] at this
     simp at this
    obtain ⟨f1,f2⟩:=c6 cs' ks' (λc hc=>by
     obtain ⟨i,hi,rfl⟩:=List.mem_iff_getElem.1 hc
     exact j8b (j2C hT).2.2.2.2.1 i hi) hk hr
    rw [Z8L,cond_true,f1,f2]
   ·simp only [j1o,show ((2:Int)==1)=false from rfl,show ((2:Int)==2)=true from rfl,cond_false,cond_true,List.cons.injEq] at hpx
    obtain ⟨rfl,rfl,hr⟩:=hpx
    rw [j01 (show Z19 j3N≠Z19 j17 by decide),cond_false,Z8L,cond_true]
   ·simp only [j1o,show ((3:Int)==1)=false from rfl,show ((3:Int)==2)=false from rfl,show ((3:Int)==3)=true from rfl,cond_false,cond_true,List.cons.injEq] at hpx
    obtain ⟨rfl,rfl,hr⟩:=hpx
    have:nth zC [c] 0=c:=rfl
    rw [this] at hr
    rw [j01 (show Z19 j4v≠Z19 j17 by decide),cond_false,j01 (show Z19 j4v≠Z19 j3N by decide),cond_false,Z8L,cond_true,hr,jdJ tyS jsN hC]
   ·simp only [j1o,show ((4:Int)==1)=false from rfl,show ((4:Int)==2)=false from rfl,show ((4:Int)==3)=false from rfl,show ((4:Int)==4)=true from rfl,cond_false,cond_true,List.cons.injEq] at hpx
    obtain ⟨rfl,rfl,hr⟩:=hpx
    subst hr
    rw [j01 (show Z19 j74≠Z19 j17 by decide),cond_false,j01 (show Z19 j74≠Z19 j3N by decide),cond_false,j01 (show Z19 j74≠Z19 j4v by decide),cond_false,Z8L,cond_true]
    rfl
   ·simp only [j1o,show ((5:Int)==1)=false from rfl,show ((5:Int)==2)=false from rfl,show ((5:Int)==3)=false from rfl,show ((5:Int)==4)=false from rfl,cond_false,List.cons.injEq] at hpx
    obtain ⟨rfl,rfl,hr⟩:=hpx
    subst hr
    rw [j01 (show Z19 j36≠Z19 j17 by decide),cond_false,j01 (show Z19 j36≠Z19 j3N by decide),cond_false,j01 (show Z19 j36≠Z19 j4v by decide),cond_false,j01 (show Z19 j36≠Z19 j74 by decide),cond_false,Z8L,cond_true]
    rfl
theorem jsQ {x y:D} (hx:j26 x=true) (hy:j26 y=true) (h:j2j x=j2j y) (hs:(j2j y).size<=1048576):x=y:=by
 have h2:¬ (j08 32 (j2j y)).length<2:=by
  rw [jdR hy rfl]
  obtain ⟨a,b,r,e⟩:=jgX y
  rw [e];simp
 obtain ⟨raw,_,r2⟩:=jnW (j2j y) hs h2
 rw [<-r2 x hx h,<-r2 y hy rfl]
theorem jsA (s:ByteArray) (hs:s.size<=1048576) (k:D->Bool->Res):j4f s k=k (j8A s).1 (j8A s).2:=by
 by_cases h2:(j08 32 s).length<2
 ·unfold j4f
  rw [j5K s (by omega),decide_eq_true (show nI (j08 32 s).length<2 by unfold nI;omega),cond_true,jo0 h2]
 ·obtain ⟨raw,r1,r2⟩:=jnW s hs h2
  rw [r1]
  exact jdx raw r2 (λhe=>jrv he (by omega)) k
theorem jsm (s:ByteArray) (hs:s.size<=1048576) (k:D->Bool->Res):jab s k=k (j8A s).1 (j8A s).2:=by
 unfold jab
 rw [jct s (by omega)]
 have hws:∀ x∈j08 32 s,x.size<=1048576:=λx hx=>Nat.le_trans (j3k 32 s x hx) hs
 have hwl:=j4d 32 s
 by_cases h2:(j08 32 s).length<2
 ·rw [decide_eq_true (show nI (j08 32 s).length<2 by unfold nI;omega),cond_true,jo0 h2]
 ·have hp:=λ(x:D) (hx:j26 x=true) (he:j2j x=s)=>jdR hx he
  have hne:=λ(d:D) (he:j2j d=s)=>jrv he (show 2<=(j08 32 s).length by omega)
  generalize hw:j08 32 s=w at *
  obtain ⟨w0,w1,rest,rfl⟩:∃ a b r,w=a::b::r:=by
   match w,h2 with
   | [],h=>simp at h
   | [_],h=>simp at h
   | a::b::r,_=>exact ⟨a,b,r,rfl⟩
  have hlen:(w0::w1::rest).length=rest.length+2:=rfl
  rw [decide_eq_false (show ¬ nI (w0::w1::rest).length<2 by unfold nI;omega),cond_false,Z9c (by omega) (by omega),cond_true]
  unfold j9B j9A
  dsimp only
  rw [Z9c (i:=0) (by omega) (by omega),cond_true,cond_true,cond_true,cond_true,jgW (by omega),cond_true,cond_true,jjy]
  have e0:nth eS (w0::w1::rest) 0=w0:=rfl
  have e1:nth eS (w0::w1::rest) 1=w1:=rfl
  have e2:(w0::w1::rest).drop 2=rest:=rfl
  rw [e0,e1,e2]
  have hrs:∀ x∈rest,x.size<=1048576:=λx hx=>hws x (List.mem_cons_of_mem _ (List.mem_cons_of_mem _ hx))
  have h1s:=hws w1 (by simp)
  obtain ⟨cs,ks,c1,c2,c3,c4,c5,c6⟩:=jrQ rest hrs (by omega) w1
  have hsc:dSm (1,w1,cs,ks,eS,eS):=⟨h1s,c2,c4,c3,c5,Nat.zero_le _,Nat.zero_le _⟩
  have hsa:dSm (3,w1,[j6x tyI rest],[],eS,eS):=⟨h1s,by simp,Nat.zero_le _,(λc hc=>by rw [List.mem_singleton.1 hc];exact jgU _ _ hrs),(λx hx=>(by cases hx)),Nat.zero_le _,Nat.zero_le _⟩
  have d3:(nI (w0::w1::rest).length==3)=decide (rest.length=1):=by
   unfold nI
   by_cases h:rest.length=1
   ·rw [decide_eq_true h,hlen,h];rfl
   ·rw [decide_eq_false h,hlen];simp;omega
  have d4:(nI (w0::w1::rest).length==4)=decide (rest.length=2):=by
   unfold nI
   by_cases h:rest.length=2
   ·rw [decide_eq_true h,hlen,h];rfl
   ·rw [decide_eq_false h,hlen];simp;omega
  have hsz:∀ i,(nth eS (w0::w1::rest) i).size<=1048576:=λi=>by
   unfold nth
   by_cases h:i.toNat<(w0::w1::rest).length
   ·rw [List.getD_eq_getElem?_getD,List.getElem?_eq_getElem h];exact hws _ (List.getElem_mem _)
   ·rw [List.getD_eq_getElem?_getD,List.getElem?_eq_none (by omega)];exact Nat.zero_le _
  have hs4:dSm (4,w1,[],[],nth eS (w0::w1::rest) 2,eS):=⟨h1s,Nat.zero_le _,Nat.zero_le _,(λc hc=>(by cases hc)),(λx hx=>(by cases hx)),hsz 2,Nat.zero_le _⟩
  have hs5:dSm (5,w1,[],[],nth eS (w0::w1::rest) 2,nth eS (w0::w1::rest) 3):=⟨h1s,Nat.zero_le _,Nat.zero_le _,(λc hc=>(by cases hc)),(λx hx=>(by cases hx)),hsz 2,hsz 3⟩
  refine Eq.trans ?_ (jdx (ok:=j26) (T:=j2j) (z:=zD) (s:=s) (bif sEq w0 j17 then (1,w1,cs,ks,eS,eS) else bif sEq w0 j3N then (2,w1,[],[],eS,eS) else bif sEq w0 j4v then (3,w1,[j6x tyI rest],[],eS,eS) else bif sEq w0 j74&&decide (rest.length=1) then (4,w1,[],[],nth eS (w0::w1::rest) 2,eS) else bif sEq w0 j36&&decide (rest.length=2) then (5,w1,[],[],nth eS (w0::w1::rest) 2,nth eS (w0::w1::rest) 3) else (0,w1,[],[],eS,eS)) (λx hx he=> ?_) (λhe=>hne _ he) k)
  ·rw [c1,jpd rest hrs (by omega),d3,d4]
   cases sEq w0 j17
   ·cases sEq w0 j3N
    ·cases sEq w0 j4v
     ·simp only [cond_false]
      have hnm:(bif sEq w0 j36 then (bif decide (rest.length=2) then (bif inb 2 (w0::w1::rest).length then (bif inb 3 (w0::w1::rest).length then j3d (5,w1,[],[],nth eS (w0::w1::rest) 2,nth eS (w0::w1::rest) 3) (λ(r1:ByteArray)=>bif sNe r1 s then k (0,eS,[],[],eS,eS) false else k (5,w1,[],[],nth eS (w0::w1::rest) 2,nth eS (w0::w1::rest) 3) true) else none) else none) else j3d (0,w1,[],[],eS,eS) (λ(r1:ByteArray)=>bif sNe r1 s then k (0,eS,[],[],eS,eS) false else k (0,w1,[],[],eS,eS) true)) else j3d (0,w1,[],[],eS,eS) (λ(r1:ByteArray)=>bif sNe r1 s then k (0,eS,[],[],eS,eS) false else k (0,w1,[],[],eS,eS) true)) =
        bif sNe (j2j (bif sEq w0 j36&&decide (rest.length=2) then (5,w1,[],[],nth eS (w0::w1::rest) 2,nth eS (w0::w1::rest) 3) else (0,w1,[],[],eS,eS))) s then k zD false else k (bif sEq w0 j36&&decide (rest.length=2) then (5,w1,[],[],nth eS (w0::w1::rest) 2,nth eS (w0::w1::rest) 3) else (0,w1,[],[],eS,eS)) true:=by
       rw [j78 _ (jdc 0 h1s),j78 _ hs5]
       cases sEq w0 j36
       ·rfl
       ·by_cases h:rest.length=2
        ·rw [decide_eq_true h,Z9c (by omega) (by omega),Z9c (by omega) (by omega)];rfl
        ·rw [decide_eq_false h];rfl
      cases sEq w0 j74
      ·simp only [cond_false,Bool.false_and]
       exact hnm
      ·by_cases h:rest.length=1
       ·rw [decide_eq_true h,Z9c (by omega) (by omega)]
        simp only [cond_true,Bool.true_and]
        rw [j78 _ hs4]
       ·rw [decide_eq_false h]
        simp only [cond_true,cond_false,Bool.and_false]
        exact hnm
     ·exact j78 _ hsa λ(r1:ByteArray)=>bif sNe r1 s then k (0,eS,[],[],eS,eS) false else k (3,w1,[j6x tyI rest],[],eS,eS) true
    ·exact j78 _ (jdc 2 h1s) λ(r1:ByteArray)=>bif sNe r1 s then k (0,eS,[],[],eS,eS) false else k (2,w1,[],[],eS,eS) true
   ·exact j78 _ hsc λ(r1:ByteArray)=>bif sNe r1 s then k (0,eS,[],[],eS,eS) false else k (1,w1,cs,ks,eS,eS) true
  ·have hpx:=hp x hx he
   obtain ⟨_,hc⟩:=j59 hx
   rcases hc with ⟨t,cs',ks',rfl,hT⟩ | ⟨t,rfl⟩ | ⟨t,c,rfl,hC⟩ | ⟨t,n,rfl,hn⟩ | ⟨t,n,m,rfl,hn,hm⟩
   ·simp only [j1o,beq_self_eq_true,cond_true,List.cons.injEq] at hpx
    obtain ⟨rfl,rfl,hr⟩:=hpx
    have hk:ks'≠[]:=λe=>by
     have:=(j2C hT).2.2.2.1
     rw [e] at this
     simp at this
    obtain ⟨f1,f2⟩:=c6 cs' ks' (λc hc=>by
     obtain ⟨i,hi,rfl⟩:=List.mem_iff_getElem.1 hc
     exact j8b (j2C hT).2.2.2.2.1 i hi) hk hr
    rw [Z8L,cond_true,f1,f2]
   ·simp only [j1o,show ((2:Int)==1)=false from rfl,show ((2:Int)==2)=true from rfl,cond_false,cond_true,List.cons.injEq] at hpx
    obtain ⟨rfl,rfl,hr⟩:=hpx
    rw [j01 (show Z19 j3N≠Z19 j17 by decide),cond_false,Z8L,cond_true]
   ·simp only [j1o,show ((3:Int)==1)=false from rfl,show ((3:Int)==2)=false from rfl,show ((3:Int)==3)=true from rfl,cond_false,cond_true,List.cons.injEq] at hpx
    obtain ⟨rfl,rfl,hr⟩:=hpx
    have:nth zC [c] 0=c:=rfl
    rw [this] at hr
    rw [j01 (show Z19 j4v≠Z19 j17 by decide),cond_false,j01 (show Z19 j4v≠Z19 j3N by decide),cond_false,Z8L,cond_true,hr,jdJ tyI jsM hC]
   ·simp only [j1o,show ((4:Int)==1)=false from rfl,show ((4:Int)==2)=false from rfl,show ((4:Int)==3)=false from rfl,show ((4:Int)==4)=true from rfl,cond_false,cond_true,List.cons.injEq] at hpx
    obtain ⟨rfl,rfl,hr⟩:=hpx
    subst hr
    rw [j01 (show Z19 j74≠Z19 j17 by decide),cond_false,j01 (show Z19 j74≠Z19 j3N by decide),cond_false,j01 (show Z19 j74≠Z19 j4v by decide),cond_false,Z8L]
    rfl
   ·simp only [j1o,show ((5:Int)==1)=false from rfl,show ((5:Int)==2)=false from rfl,show ((5:Int)==3)=false from rfl,show ((5:Int)==4)=false from rfl,cond_false,List.cons.injEq] at hpx
    obtain ⟨rfl,rfl,hr⟩:=hpx
    subst hr
    rw [j01 (show Z19 j36≠Z19 j17 by decide),cond_false,j01 (show Z19 j36≠Z19 j3N by decide),cond_false,j01 (show Z19 j36≠Z19 j4v by decide),cond_false,j01 (show Z19 j36≠Z19 j74 by decide),Z8L]
    rfl
end Go.PI.G
