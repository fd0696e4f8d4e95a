/-
  Program's code interpreted over typed values; printed texts; plain laws. No conditions.
-/
import Derived.Test.YtppeoiidhmegkaaNe
import Derived.Test.YtppeoiidhmegkaaNd
import Derived.Test.YtppeoiidhmegkaaNc
set_option linter.unusedVariables false
set_option linter.unusedSimpArgs false
namespace Go.PI.G
open Go Go.PI Go.Proofs
def sS (b:List Int) (at_:Nat) (_:Bool):List Int×Int:=(b,(at_:Int))
def iS (b:List Int) (at_:Nat) (bad:Bool):List Int×Int×Bool:=(b,(at_:Int),bad)
theorem jdg {l:List Int} (h:isB l):(Z34 l).size=l.length:=by rw [<-j0s,j4f h]
def okS (s:ByteArray):Prop:=s.size<=30
def okC (c:C):Prop:=j10 c=true
def rgC (c:C):Prop:=c.1.size<=1048576
def rgS (s:ByteArray):Prop:=s.size<=1048576
def rgB (x:Int):Prop:=0<=x/\x<256
def okV (v:V):Prop:=j0h v=true
def Z9t (x:Int):List Int:=[x]
def rgA (α:Type) (_:α):Prop:=True
theorem rB (b:List Int) (hb:isB b) (hl:b.length<=1048576):Rd b (sS b) 900000000000 1 (λe k=>j00 1 e k) rgB (rgA Int) Z9t:=by
 intro at_ bad ha
 exact ⟨tk b at_ 1,at_+1,bad,j9e hb at_,by omega,λk=>j81 b hb hl at_ (by omega) k,λhbad y post _ hd=>⟨(j5k hd).2.1,hbad,(j5k hd).2.2⟩⟩
theorem jeJ (b:List Int) (hb:isB b) (hl:b.length<=1048576) (at_ m:Nat) (ha:at_<=1000000000000) (hm:m<70000):∃ (s:ByteArray) (at':Nat),s.size<=1048576/\at'<=at_+1050000/\(∀ k,j02 (m:Int) (b,(at_:Int)) k=k s (b,(at':Int)))/\∀ (x:List Int) post,x.length=m->at_<=b.length->b.drop at_=x++post->s=Z34 x/\b.drop at'=post:=by
 obtain ⟨s,u,p1,p2,p3⟩:=jff b hb hl at_ m ha hm
 by_cases h:at_+m<=b.length
 ·refine ⟨s,u,?_,p1,p2,p3⟩
  have hd:b.drop at_=seg b at_ m++b.drop (at_+m):=by
   unfold seg
   rw [<-List.drop_drop,List.take_append_drop]
  have hs:=j4P h
  rw [(p3 _ _ hs (by omega) hd).1,jdg (j3Z hb _ _),hs]
  omega
 ·refine ⟨eS,b.length+1,by show (0:Nat)<=_;omega,by omega,λk=> ?_,λx post hx hle hd=> ?_⟩
  ·unfold j02 j32
   dsimp only
   rw [j03 (n:=nI b.length-(at_:Int)) (by unfold nI;omega),decide_eq_true (show (m:Int)>nI b.length-(at_:Int) by unfold nI;omega),cond_true,cond_true,j03 (by unfold nI;omega)]
   rfl
  ·have hl:=congrArg List.length hd
   rw [List.length_drop,List.length_append] at hl
   omega
theorem rW (b:List Int) (hb:isB b) (hl:b.length<=1048576):Rd b (sS b) 900000000000 1050010 (λe k=>j00 1 e λr e'=>j02 r e' k) rgS okS byW:=by
 intro at_ bad ha
 have hr:=j9e hb at_
 obtain ⟨m,hm⟩:∃ m:Nat,tk b at_ 1=(m:Int):=⟨(tk b at_ 1).toNat,by omega⟩
 obtain ⟨s,u,p0,p1,p2,p3⟩:=jeJ b hb hl (at_+1) m (by omega) (by omega)
 refine ⟨s,u,bad,p0,by omega,λk=> ?_,λhbad y post hy hd=> ?_⟩
 ·show j00 1 (b,(at_:Int)) (λr e'=>j02 r e' k)=_
  rw [j81 b hb hl at_ (by omega),hm,p2]
  rfl
 ·obtain ⟨f0,f1,f2⟩:=j5k (x:=nI y.size) (post:=Z1e y++post) hd
  have:=p3 (Z1e y) post (by rw [j0s];rw [hm] at f1;unfold nI at f1;omega) (by omega) f2
  rw [j68] at this
  exact ⟨this.1,hbad,this.2⟩
theorem rV (b:List Int) (hb:isB b) (hl:b.length<=1048576):Rd b (sS b) 900000000000 1050010 (λe k=>j0Y e k) (rgA V) okV wB:=by
 intro at_ bad ha
 obtain ⟨v,u,p1,p2,p3⟩:=jfM b hb hl at_ (by omega)
 exact ⟨v,u,bad,trivial,p1,λk=>p2 k,λhbad y post hy hd=>⟨(p3 y post hy hd).1,hbad,(p3 y post hy hd).2⟩⟩
theorem je7 (b:List Int) (hb:isB b) (hl:b.length<=1048576):Rd b (sS b) 900000000000 1 (λe k=>j00 1 e k) (rgA Int) (λn=>0<=n/\n<=8) (λn=>[n]):=by
 intro at_ bad ha
 exact ⟨tk b at_ 1,at_+1,bad,trivial,by omega,λk=>j81 b hb hl at_ (by omega) k,λhbad y post _ hd=>⟨(j5k hd).2.1,hbad,(j5k hd).2.2⟩⟩
theorem jfJ (b:List Int) (hb:isB b) (hl:b.length<=1048576):Rd b (sS b) 890000000000 2100023 (λe k=>j00 1 e λr e1=>j02 r e1 λr1 e2=>j00 1 e2 λr2 e3=>j00 1 e3 λr3 e4=>j00 1 e4 λr4 e5=>j0Y e5 λr5 e6=>k (r1,r2,(r3==1),(r4==1),r5) e6) rgC okC byC:=
 jeG (j5R (N:=890000000000) (rW b hb hl) (j5R (N:=895000000000) (rB b hb hl) (j5R (N:=896000000000) (rB b hb hl) (j5R (N:=897000000000) (rB b hb hl) (rV b hb hl) (by omega)) (by omega)) (by omega)) (by omega))
  (λp=>(p.1,p.2.1,(p.2.2.1==1),(p.2.2.2.1==1),p.2.2.2.2)) (λc:C=>(c.1,c.2.1,bI c.2.2.1,bI c.2.2.2.1,c.2.2.2.2)) (λx hx=>hx.1) (λc hc=>by
   obtain ⟨h1,h2,h3⟩:=j2I hc
   refine ⟨⟨?_,trivial,trivial,trivial,h3⟩,?_,rfl⟩
   ·have:=(j7K h1).2
    show c.1.size<=30
    omega
   ·show (c.1,c.2.1,(bI c.2.2.1==1),(bI c.2.2.2.1==1),c.2.2.2.2)=c
    rw [jbc,jbc])
def cS (n:Int) (i:Nat):Bool:=decide ((i:Int)<n)&&decide (i<=8)
theorem jdP (n:Int):cS n 9=false:=by unfold cS;simp
theorem jcV (n:Int) (i:Nat) (h:i<=8):cS n i=decide ((i:Int)<n):=by unfold cS;rw [decide_eq_true h,Bool.and_true]
theorem jdR {n:Int} {i:Nat} (h:cS n i=true):(i:Int)<n/\i<=8:=by
 unfold cS at h
 rw [Bool.and_eq_true,decide_eq_true_eq,decide_eq_true_eq] at h
 exact h
theorem jdQ {n:Int} {i:Nat} (h:cS n i=false) (a:Res) (z:Res):(bif decide ((i:Int)<n) then (bif decide ((i:Int)<=8) then a else z) else z)=z:=by
 unfold cS at h
 by_cases h1:(i:Int)<n
 ·rw [decide_eq_true h1,Bool.true_and,decide_eq_false_iff_not] at h
  rw [decide_eq_true h1,cond_true,decide_eq_false (show ¬ (i:Int)<=8 by omega),cond_false]
 ·rw [decide_eq_false h1,cond_false]
theorem jfe (b:List Int) (hb:isB b) (hl:b.length<=1048576):Rd b (sS b) 880000000000 (1+9 * 1050010) (λe k=>j3u e k) (λl=>l.length<=9) (λl=>l.length<=8/\∀ v∈l,okV v) j0W:=by
 intro at_ bad ha
 obtain ⟨l,u,v,p1,p2,p3,p4⟩:=j6M (N:=880000000000) (je7 b hb hl) (rV b hb hl) (by omega) (λi out e=>(out,i,e)) (λn=>j55 n) (λ(k:List V->(List Int×Int)->Res) out e=>k out e) cS (λn _=>jdP n) (λn i _ _ h=>jcV n i h)
  (λn i out e rec q hi ho hc=>by
   have h:=jdR hc
   show j1W n out (i:Int) e (λout i e0=>rec (out,i,e0)) q=_
   unfold j1W
   rw [decide_eq_true h.1,cond_true,decide_eq_true (show (i:Int)<=8 by omega),cond_true,Z9l (by unfold LIM;omega),j03 (n:=(i:Int)+1) (by omega)]
   rfl)
  (λn i out e rec q hi hc=>by
   show j1W n out (i:Int) e (λout i e0=>rec (out,i,e0)) q=_
   unfold j1W
   exact jdQ hc _ _) at_ bad ha
 exact ⟨l,u,v,p1.1,p2,λk=>p3 k,p4⟩
theorem jfE (b:List Int) (hb:isB b) (hl:b.length<=1048576) (r:Int) (t:ByteArray) (at_:Nat) (bad:Bool) (ha:at_<=870000000000):∃ (l:List C) (at':Nat) (bad':Bool),(l.length<=9/\∀ c∈l,rgC c)/\at'<=at_+(1+9 * 2100023) /\
  (∀ q:D->(List Int×Int)->Res,j00 1 (b,(at_:Int)) (λn e1=>j2Z n Z12 0 (r,t,[],[],eS,eS) e1 q)=q (r,t,l,[],eS,eS) (b,(at':Int))) /\
  (bad=false->∀ y post,(y.length<=8/\∀ c∈y,okC c)->b.drop at_=(nI y.length::y.flatMap byC)++post->l=y/\bad'=false/\b.drop at'=post):=by
 obtain ⟨l,u,v,p1,p2,p3,p4⟩:=j6M (N:=870000000000) (je8 (je7 b hb hl) (by omega) (Nat.le_refl _)) (jfJ b hb hl) (by omega) (λi out e=>(i,((r,t,out,[],eS,eS):D),e)) (λn=>j22 n) (λ(q:D->(List Int×Int)->Res) out e=>q (r,t,out,[],eS,eS) e) cS (λn _=>jdP n) (λn i _ _ h=>jcV n i h)
  (λn i out e rec q hi ho hc=>by
   have h:=jdR hc
   show j0G n (i:Int) (r,t,out,[],eS,eS) e (λi d e0=>rec (i,d,e0)) q=_
   unfold j0G
   dsimp only
   rw [decide_eq_true h.1,cond_true,decide_eq_true (show (i:Int)<=8 by omega),cond_true,Z9l (by unfold LIM;omega),j03 (n:=(i:Int)+1) (by omega)]
   rfl)
  (λn i out e rec q hi hc=>by
   show j0G n (i:Int) (r,t,out,[],eS,eS) e (λi d e0=>rec (i,d,e0)) q=_
   unfold j0G
   exact jdQ hc _ _) at_ bad ha
 exact ⟨l,u,v,p1,p2,λq=>p3 q,p4⟩
theorem jfF (b:List Int) (hb:isB b) (hl:b.length<=1048576) (r:Int) (t:ByteArray) (cs:List C) (at_:Nat) (bad:Bool) (ha:at_<=890000000000):∃ (l:List ByteArray) (at':Nat) (bad':Bool),(l.length<=9/\∀ c∈l,rgS c)/\at'<=at_+(1+9 * 1050010) /\
  (∀ q:D->(List Int×Int)->Res,j00 1 (b,(at_:Int)) (λn e1=>j30 n Z12 0 (r,t,cs,[],eS,eS) e1 q)=q (r,t,cs,l,eS,eS) (b,(at':Int))) /\
  (bad=false->∀ y post,(y.length<=8/\∀ c∈y,okS c)->b.drop at_=(nI y.length::y.flatMap byW)++post->l=y/\bad'=false/\b.drop at'=post):=by
 obtain ⟨l,u,v,p1,p2,p3,p4⟩:=j6M (N:=890000000000) (je7 b hb hl) (rW b hb hl) (by omega) (λi out e=>(i,((r,t,cs,out,eS,eS):D),e)) (λn=>j3K n) (λ(q:D->(List Int×Int)->Res) out e=>q (r,t,cs,out,eS,eS) e) cS (λn _=>jdP n) (λn i _ _ h=>jcV n i h)
  (λn i out e rec q hi ho hc=>by
   have h:=jdR hc
   show j15 n (i:Int) (r,t,cs,out,eS,eS) e (λi d e0=>rec (i,d,e0)) q=_
   unfold j15 j31
   simp only [Z8u]
   rw [decide_eq_true h.1,cond_true,decide_eq_true (show (i:Int)<=8 by omega),cond_true,Z9l (by unfold LIM;omega),j03 (n:=(i:Int)+1) (by omega)]
   rfl)
  (λn i out e rec q hi hc=>by
   show j15 n (i:Int) (r,t,cs,out,eS,eS) e (λi d e0=>rec (i,d,e0)) q=_
   unfold j15
   exact jdQ hc _ _) at_ bad ha
 exact ⟨l,u,v,p1,p2,λq=>p3 q,p4⟩
theorem j3D {s:ByteArray} (h:j09 s=true\/s=eS):okS s:=by
 have:=j7b h
 unfold okS
 omega
theorem jce (d:D) (post:List Int):byD d++post=Z9t d.1++((nI d.2.2.1.length::d.2.2.1.flatMap byC)++((nI d.2.2.2.1.length::d.2.2.2.1.flatMap byW)++(byW d.2.2.2.2.1++(byW d.2.2.2.2.2++post)))):=by
 unfold byD Z9t
 simp only [List.append_assoc,List.cons_append,List.nil_append]
theorem jes {r:Int} {t n m:ByteArray} {cs:List C} {ks:List ByteArray} (ht:t.size<=1048576) (hc:cs.length<=9/\∀ c∈cs,rgC c) (hk:ks.length<=9/\∀ c∈ks,rgS c) (hn:rgS n) (hm:rgS m):dSm (r,t,cs,ks,n,m):=⟨ht,by dsimp only;omega,by dsimp only;omega,hc.2,hk.2,hn,hm⟩
theorem jfK (b:List Int) (hb:isB b) (hl:b.length<=1048576) (t:ByteArray) (ht:t.size<=1048576) (at_:Nat) (ha:at_<=800000000000):∃ (d:D) (at':Nat),dSm d/\(∀ k,j2Y t (b,(at_:Int)) k=k d (b,(at':Int)))/\∀ y:D,j4W y=true->y.2.1=t->b.drop at_=byD y->d=y:=by
 obtain ⟨r,u1,v1,r1,p1,q1,z1⟩:=rB b hb hl at_ false (by omega)
 obtain ⟨cs,u2,v2,r2,p2,q2,z2⟩:=jfE b hb hl r t u1 v1 (by omega)
 obtain ⟨ks,u3,v3,r3,p3,q3,z3⟩:=jfF b hb hl r t cs u2 v2 (by omega)
 obtain ⟨n,u4,v4,r4,p4,q4,z4⟩:=rW b hb hl u3 v3 (by omega)
 obtain ⟨m,u5,v5,r5,p5,q5,z5⟩:=rW b hb hl u4 v4 (by omega)
 refine ⟨(r,t,cs,ks,n,m),u5,jes ht r2 r3 r4 r5,λk=> ?_,λy hy hyt hd=> ?_⟩
 ·unfold j2Y
  refine (q1 _).trans ?_
  refine (q2 _).trans ?_
  refine (q3 _).trans ?_
  refine (q4 _).trans ?_
  exact q5 _
 ·obtain ⟨a1,a2,a3,a4,a5,a6,a7⟩:=j6D hy
  have hd:=(hd.trans (List.append_nil _).symm).trans (jce y [])
  obtain ⟨e1,f1,g1⟩:=z1 rfl y.1 _ trivial hd
  obtain ⟨e2,f2,g2⟩:=z2 f1 y.2.2.1 _ ⟨a2,a3⟩ g1
  obtain ⟨e3,f3,g3⟩:=z3 f2 y.2.2.2.1 _ ⟨a4,λc hc=>j3D (.inl (a5 c hc))⟩ g2
  obtain ⟨e4,f4,g4⟩:=z4 f3 y.2.2.2.2.1 _ (j3D a6) g3
  obtain ⟨e5,f5,g5⟩:=z5 f4 y.2.2.2.2.2 _ (j3D a7) g4
  rw [e1,e2,e3,e4,e5,<-hyt]
theorem jcf (s:ST) (post:List Int):byS s++post=Z9t 83++(Z9t s.1++(byW s.2.1++(j0W s.2.2.1++(j0W s.2.2.2.1++((bif s.1==5 then byD s.2.2.2.2 else [])++post))))):=by
 unfold byS Z9t
 simp only [List.append_assoc,List.cons_append,List.nil_append]
theorem jeS {s:ST} {b:List Int} (h:byS s=b):b.drop 1=Z9t s.1++(byW s.2.1++(j0W s.2.2.1++(j0W s.2.2.2.1++(bif s.1==5 then byD s.2.2.2.2 else [])))):=by
 have:=jcf s []
 rw [List.append_nil,List.append_nil] at this
 rw [<-h,this]
 rfl
theorem jdK (b:List Int) (hb:isB b) (hl:b.length<=1048576):∃ raw:ST,j8Q raw/\(∀ k:ST->Bool->Res,j0P b k=j0w raw λr5 r6=>bif !r6 then k zST false else bif sNe (Z34 r5) (Z34 b) then k zST false else k raw true)/\∀ x,stB x=true->byS x=b->raw=x:=by
 obtain ⟨r,u1,v1,r1,p1,q1,z1⟩:=rB b hb hl 1 false (by omega)
 obtain ⟨t,u2,v2,r2,p2,q2,z2⟩:=rW b hb hl u1 v1 (by omega)
 obtain ⟨x,u3,v3,r3,p3,q3,z3⟩:=jfe b hb hl u2 v2 (by omega)
 obtain ⟨y,u4,v4,r4,p4,q4,z4⟩:=jfe b hb hl u3 v3 (by omega)
 obtain ⟨d,u5,r5,q5,z5⟩:=jfK b hb hl t r2 u4 (by omega)
 have hx:x.length<=1048576:=by omega
 have hy:y.length<=1048576:=by omega
 have hu:∀ k:ST->Bool->Res,j0P b k=j2j (r==5) (r,t,x,y,0,eS,[],[],eS,eS) (b,(u4:Int)) λ(s:ST)=>j0w s λr5 r6=>bif !r6 then k zST false else bif sNe (Z34 r5) (Z34 b) then k zST false else k s true:=λk=>by
  unfold j0P
  refine (q1 _).trans ?_
  refine (q2 _).trans ?_
  refine (q3 _).trans ?_
  exact q4 _
 have back:∀ s,stB s=true->byS s=b->r=s.1/\t=s.2.1/\x=s.2.2.1/\y=s.2.2.2.1/\b.drop u4=(bif s.1==5 then byD s.2.2.2.2 else []):=λs hs he=>by
  obtain ⟨h1,h2,h3,h4,h5⟩:=j4x hs
  have hd:=jeS he
  obtain ⟨e1,f1,g1⟩:=z1 rfl s.1 _ trivial hd
  obtain ⟨e2,f2,g2⟩:=z2 f1 s.2.1 _ (j3D (.inl h1)) g1
  obtain ⟨e3,f3,g3⟩:=z3 f2 s.2.2.1 _ h3 g2
  obtain ⟨e4,f4,g4⟩:=z4 f3 s.2.2.2.1 _ h4 g3
  exact ⟨e1,e2,e3,e4,g4⟩
 cases hk:r==5
 ·refine ⟨(r,t,x,y,zD),⟨r2,hx,hy,j96⟩,λk=> ?_,λs hs he=> ?_⟩
  ·rw [hu,hk]
   rfl
  ·obtain ⟨e1,e2,e3,e4,e5⟩:=back s hs he
   obtain ⟨h1,h2,h3,h4,h5⟩:=j4x hs
   rcases h5 with h5 | h5
   ·rw [e1,h5.1] at hk;cases hk
   ·rw [e1,e2,e3,e4,<-h5.2]
 ·refine ⟨(r,t,x,y,d),⟨r2,hx,hy,r5⟩,λk=> ?_,λs hs he=> ?_⟩
  ·rw [hu,hk]
   unfold j2j
   rw [cond_true]
   exact q5 _
  ·obtain ⟨e1,e2,e3,e4,e5⟩:=back s hs he
   obtain ⟨h1,h2,h3,h4,h5⟩:=j4x hs
   have hk5:s.1=5:=by rw [<-e1];simpa using hk
   rcases h5 with h5 | h5
   ·rw [show (s.1==5)=true by simp [hk5],cond_true] at e5
    have:=z5 s.2.2.2.2 h5.2.1 (by rw [h5.2.2,e2]) e5
    rw [e1,e2,e3,e4,this]
   ·exact absurd hk5 h5.1
end Go.PI.G
namespace Go.PI.G
open Go Go.PI Go.Proofs
theorem iB (b:List Int) (hb:isB b) (hl:b.length<=1048576):Rd b (iS b) 900000000000 6 (λe k=>j05 1 e k) rgB (rgA Int) Z9t:=by
 intro at_ bad ha
 obtain ⟨n,u,v,q1,q2,q3,q4,q5,q6⟩:=iN b hb hl at_ 1 (by omega) (.inl rfl) bad
 refine ⟨n,u,v,⟨q2,q4 rfl⟩,q1,λk=>q5 k,λhbad y post _ hd=> ?_⟩
 obtain ⟨f1,f2,f3,_⟩:=q6 hbad [y] post rfl hd
 rw [ja0] at f1
 exact ⟨f1,f2,f3⟩
theorem iW (b:List Int) (hb:isB b) (hl:b.length<=1048576):Rd b (iS b) 900000000000 300 (λe k=>j08 e k) rgS okS byW:=by
 intro at_ bad ha
 obtain ⟨s,u,v,p1,p2,p3⟩:=jfd b hb hl at_ (by omega) bad
 have hsz:s.size<=1048576:=by
  obtain ⟨n,a1,b1,q0,q1,q2,q3,q4,q5⟩:=iN b hb hl at_ 1 (by omega) (.inl rfl) bad
  obtain ⟨m,rfl⟩:∃ m:Nat,n=(m:Int):=⟨n.toNat,by omega⟩
  have hm:=q3 rfl
  have hu:∀ k,j08 (b,(at_:Int),bad) k=j0f (m:Int) (b,(a1:Int),b1) λr1 bt=>k (Z34 r1) bt:=λk=>by
   unfold j08
   exact q4 _
  have hz:(Z34 ([]:List Int)).size=0:=rfl
  have key:∃ (r:List Int) (w:List Int×Int×Bool),isB r/\r.length<=1048576/\∀ k,j08 (b,(at_:Int),bad) k=k (Z34 r) w:=by
   cases b1
   ·by_cases h:a1+m<=b.length
    ·refine ⟨seg b a1 m,(b,((a1+m:Nat):Int),false),j3Z hb _ _,by rw [j4P h];omega,λk=> ?_⟩
     rw [hu]
     unfold j0f
     dsimp only
     rw [cond_false,j03 (n:=nI b.length-(a1:Int)) (by unfold nI;omega),decide_eq_false (show ¬ (m:Int)>nI b.length-(a1:Int) by unfold nI;omega),cond_false,j03 (n:=(a1:Int)+(m:Int)) (by omega),show (a1:Int)+(m:Int)-(m:Int)=(a1:Int) by omega,j03 (n:=(a1:Int)) (by omega)]
     have hc:Z6Z (a1:Int) ((a1:Int)+(m:Int)) b.length=true:=decide_eq_true (by omega)
     rw [hc,cond_true,j91]
     rfl
    ·refine ⟨[],(b,(a1:Int),true),j3k,Nat.zero_le _,λk=> ?_⟩
     rw [hu]
     unfold j0f
     dsimp only
     rw [cond_false,j03 (n:=nI b.length-(a1:Int)) (by unfold nI;omega),decide_eq_true (show (m:Int)>nI b.length-(a1:Int) by unfold nI;omega),cond_true]
   ·exact ⟨[],(b,(a1:Int),true),j3k,Nat.zero_le _,λk=>by rw [hu];rfl⟩
  obtain ⟨r,w,k1,k2,k3⟩:=key
  have e1:=p2 (λs _=>if s.size<=1048576 then some () else none)
  rw [k3] at e1
  rw [jdg k1,if_pos k2] at e1
  by_cases h:s.size<=1048576
  ·exact h
  ·rw [if_neg h] at e1;cases e1
 exact ⟨s,u,v,hsz,p1,λk=>p2 k,λhbad y post hy hd=>p3 hbad y post hy hd⟩
theorem iV (b:List Int) (hb:isB b) (hl:b.length<=1048576):Rd b (iS b) 800000000000 400 (λe k=>j0D e k) (rgA V) okV wB:=by
 intro at_ bad ha
 obtain ⟨v,u,w,p1,p2,p3⟩:=jfI b hb hl at_ (by omega) bad
 exact ⟨v,u,w,trivial,p1,λk=>p2 k,λhbad y post hy hd=>p3 hbad y post hy hd⟩
def rg8 (n:Int):Prop:=0<=n/\n<=8
theorem jdW (b:List Int) (hb:isB b) (hl:b.length<=1048576):Rd b (iS b) 900000000000 6 (λe k=>j06 8 e k) rg8 (λn=>0<=n/\n<=8) (λn=>[n]):=by
 intro at_ bad ha
 obtain ⟨n,u,v,r1,p1,q1,z1⟩:=iB b hb hl at_ bad ha
 have hu:∀ k,j06 8 (b,(at_:Int),bad) k=(bif decide (n>8) then k 0 (b,(u:Int),true) else bif v then k 0 (b,(u:Int),v) else k n (b,(u:Int),v)):=λk=>by
  unfold j06
  exact q1 _
 by_cases h8:n>8
 ·refine ⟨0,u,true,⟨by omega,by omega⟩,p1,λk=>by
   show j06 8 (b,(at_:Int),bad) k=_
   rw [hu,decide_eq_true h8];rfl,λhbad y post hy hd=> ?_⟩
  have:=(z1 hbad y post trivial hd).1
  omega
 ·cases v
  ·refine ⟨n,u,false,⟨r1.1,by omega⟩,p1,λk=>by
    show j06 8 (b,(at_:Int),bad) k=_
    rw [hu,decide_eq_false h8];rfl,λhbad y post hy hd=>z1 hbad y post trivial hd⟩
  ·refine ⟨0,u,true,⟨by omega,by omega⟩,p1,λk=>by
    show j06 8 (b,(at_:Int),bad) k=_
    rw [hu,decide_eq_false h8];rfl,λhbad y post hy hd=> ?_⟩
   exact absurd (z1 hbad y post trivial hd).2.1 (by simp)
theorem jfG (b:List Int) (hb:isB b) (hl:b.length<=1048576):Rd b (iS b) 790000000000 718 (λe k=>j08 e λr1 e2=>j05 1 e2 λr2 e3=>j05 1 e3 λr3 e4=>j05 1 e4 λr4 e5=>j0D e5 λr5 e6=>k (r1,r2,(r3==1),(r4==1),r5) e6) rgC okC byC:=
 jeG (j5R (N:=790000000000) (iW b hb hl) (j5R (N:=795000000000) (iB b hb hl) (j5R (N:=796000000000) (iB b hb hl) (j5R (N:=797000000000) (iB b hb hl) (iV b hb hl) (by omega)) (by omega)) (by omega)) (by omega))
  (λp=>(p.1,p.2.1,(p.2.2.1==1),(p.2.2.2.1==1),p.2.2.2.2)) (λc:C=>(c.1,c.2.1,bI c.2.2.1,bI c.2.2.2.1,c.2.2.2.2)) (λx hx=>hx.1) (λc hc=>by
   obtain ⟨h1,h2,h3⟩:=j2I hc
   refine ⟨⟨?_,trivial,trivial,trivial,h3⟩,?_,rfl⟩
   ·have:=(j7K h1).2
    show c.1.size<=30
    omega
   ·show (c.1,c.2.1,(bI c.2.2.1==1),(bI c.2.2.2.1==1),c.2.2.2.2)=c
    rw [jbc,jbc])
def cI (n:Int) (i:Nat):Bool:=decide ((i:Int)<n)
theorem jeT {n:Int} (h:rg8 n):cI n 9=false:=decide_eq_false (by have:=h.2;omega)
theorem jew (b:List Int) (hb:isB b) (hl:b.length<=1048576):Rd b (iS b) 780000000000 (6+9 * 400) (λe k=>j29 e k) (λl=>l.length<=9) (λl=>l.length<=8/\∀ v∈l,okV v) j0W:=by
 intro at_ bad ha
 obtain ⟨l,u,v,p1,p2,p3,p4⟩:=j6M (N:=780000000000) (je8 (jdW b hb hl) (show 800000000000<=900000000000 by omega) (Nat.le_refl _)) (iV b hb hl) (by omega) (λi out e=>(out,i,e)) (λn=>j41 n) (λ(k:List V->(List Int×Int×Bool)->Res) out e=>k out e) cI (λn h=>jeT h) (λn i _ _ h=>rfl)
  (λn i out e rec q hi ho hc=>by
   show j1h n out (i:Int) e (λout i e0=>rec (out,i,e0)) q=_
   unfold j1h
   rw [show decide ((i:Int)<n)=true from hc,cond_true,Z9l (by unfold LIM;omega),j03 (n:=(i:Int)+1) (by omega)]
   rfl)
  (λn i out e rec q hi hc=>by
   show j1h n out (i:Int) e (λout i e0=>rec (out,i,e0)) q=_
   unfold j1h
   rw [show decide ((i:Int)<n)=false from hc,cond_false]) at_ bad ha
 exact ⟨l,u,v,p1.1,p2,λk=>p3 k,p4⟩
theorem jev (b:List Int) (hb:isB b) (hl:b.length<=1048576):Rd b (iS b) 780000000000 (6+9 * 300) (λe k=>j0o e k) (λl=>l.length<=9/\∀ s∈l,rgS s) (λl=>l.length<=8/\∀ v∈l,okS v) (λl=>nI l.length::l.flatMap byW):=by
 intro at_ bad ha
 obtain ⟨l,u,v,p1,p2,p3,p4⟩:=j6M (N:=780000000000) (jdW b hb hl) (iW b hb hl) (by omega) (λi out e=>(out,i,e)) (λn=>j3C n) (λ(k:List ByteArray->(List Int×Int×Bool)->Res) out e=>k out e) cI (λn h=>jeT h) (λn i _ _ h=>rfl)
  (λn i out e rec q hi ho hc=>by
   show j12 n out (i:Int) e (λout i e0=>rec (out,i,e0)) q=_
   unfold j12
   rw [show decide ((i:Int)<n)=true from hc,cond_true,Z9l (by unfold LIM;omega),j03 (n:=(i:Int)+1) (by omega)]
   rfl)
  (λn i out e rec q hi hc=>by
   show j12 n out (i:Int) e (λout i e0=>rec (out,i,e0)) q=_
   unfold j12
   rw [show decide ((i:Int)<n)=false from hc,cond_false]) at_ bad ha
 exact ⟨l,u,v,p1,p2,λk=>p3 k,p4⟩
theorem jfD (b:List Int) (hb:isB b) (hl:b.length<=1048576) (z:Int) (t:ByteArray) (x y:List V) (r:Int) (at_:Nat) (bad:Bool) (ha:at_<=770000000000):∃ (l:List C) (at':Nat) (bad':Bool),(l.length<=9/\∀ c∈l,rgC c)/\at'<=at_+(6+9 * 718) /\
  (∀ q:ST->(List Int×Int×Bool)->Res,j06 8 (b,(at_:Int),bad) (λn e1=>j3A n Z12 0 (z,t,x,y,r,t,[],[],eS,eS) e1 q)=q (z,t,x,y,r,t,l,[],eS,eS) (b,(at':Int),bad')) /\
  (bad=false->∀ y post,(y.length<=8/\∀ c∈y,okC c)->b.drop at_=(nI y.length::y.flatMap byC)++post->l=y/\bad'=false/\b.drop at'=post):=by
 obtain ⟨l,u,v,p1,p2,p3,p4⟩:=j6M (N:=770000000000) (je8 (jdW b hb hl) (show 790000000000<=900000000000 by omega) (Nat.le_refl _)) (jfG b hb hl) (by omega) (λi out e=>(i,((z,t,x,y,r,t,out,[],eS,eS):ST),e)) (λn=>j2L n) (λ(q:ST->(List Int×Int×Bool)->Res) out e=>q (z,t,x,y,r,t,out,[],eS,eS) e) cI (λn h=>jeT h) (λn i _ _ h=>rfl)
  (λn i out e rec q hi ho hc=>by
   show j0T n (i:Int) (z,t,x,y,r,t,out,[],eS,eS) e (λi d e0=>rec (i,d,e0)) q=_
   unfold j0T
   dsimp only
   rw [show decide ((i:Int)<n)=true from hc,cond_true,Z9l (by unfold LIM;omega),j03 (n:=(i:Int)+1) (by omega)]
   rfl)
  (λn i out e rec q hi hc=>by
   show j0T n (i:Int) (z,t,x,y,r,t,out,[],eS,eS) e (λi d e0=>rec (i,d,e0)) q=_
   unfold j0T
   rw [show decide ((i:Int)<n)=false from hc,cond_false]) at_ bad ha
 exact ⟨l,u,v,p1,p2,λq=>p3 q,p4⟩
theorem jfm (b:List Int) (hb:isB b) (hl:b.length<=1048576):∃ (raw:ST) (bad:Bool),j8Q raw/\(∀ k:ST->Bool->Res,j0N b k=j0m raw λr5 r6=>bif bad then k zST false else bif !r6 then k zST false else bif sNe (Z34 r5) (Z34 b) then k zST false else k raw true)/\∀ x,stB x=true->byS x=b->raw=x/\bad=false:=by
 obtain ⟨r0,u0,v0,r00,p0,q0,z0⟩:=iB b hb hl 0 false (by omega)
 obtain ⟨r,u1,v1,r1,p1,q1,z1⟩:=iB b hb hl u0 v0 (by omega)
 obtain ⟨t,u2,v2,r2,p2,q2,z2⟩:=iW b hb hl u1 v1 (by omega)
 obtain ⟨x,u3,v3,r3,p3,q3,z3⟩:=jew b hb hl u2 v2 (by omega)
 obtain ⟨y,u4,v4,r4,p4,q4,z4⟩:=jew b hb hl u3 v3 (by omega)
 have hx:x.length<=1048576:=by omega
 have hy:y.length<=1048576:=by omega
 have fin:∀ (raw:ST) (u:Nat) (bad:Bool) (k:ST->Bool->Res),(j0m raw λr5 r6=>j0Q b r5 r6 (b,(u:Int),bad) λt1=>bif t1 then k zST false else k raw true)=j0m raw λr5 r6=>bif bad then k zST false else bif !r6 then k zST false else bif sNe (Z34 r5) (Z34 b) then k zST false else k raw true:=λraw u bad k=>by
  have e:(λ(r5:List Int) (r6:Bool)=>j0Q b r5 r6 (b,(u:Int),bad) λt1=>bif t1 then k zST false else k raw true)=λr5 r6=>bif bad then k zST false else bif !r6 then k zST false else bif sNe (Z34 r5) (Z34 b) then k zST false else k raw true:=by
   funext r5 r6
   unfold j0Q
   cases bad
   ·cases r6<;>rfl
   ·rfl
  rw [e]
 have hu:∀ k:ST->Bool->Res,j0N b k=j1p (r==5) (r,t,x,y,0,eS,[],[],eS,eS) (b,(u4:Int),v4) λ(s:ST) e=>j0m s λr5 r6=>j0Q b r5 r6 e λt1=>bif t1 then k zST false else k s true:=λk=>by
  unfold j0N
  refine (q0 _).trans ?_
  refine (q1 _).trans ?_
  refine (q2 _).trans ?_
  refine (q3 _).trans ?_
  exact q4 _
 have back:∀ s,stB s=true->byS s=b->r=s.1/\t=s.2.1/\x=s.2.2.1/\y=s.2.2.2.1/\v4=false/\b.drop u4=(bif s.1==5 then byD s.2.2.2.2 else []):=λs hs he=>by
  obtain ⟨h1,h2,h3,h4,h5⟩:=j4x hs
  have hd:=jcf s []
  rw [List.append_nil,List.append_nil,he] at hd
  have hd:b.drop 0=_:=hd
  obtain ⟨e0,f0,g0⟩:=z0 rfl 83 _ trivial hd
  obtain ⟨e1,f1,g1⟩:=z1 f0 s.1 _ trivial g0
  obtain ⟨e2,f2,g2⟩:=z2 f1 s.2.1 _ (j3D (.inl h1)) g1
  obtain ⟨e3,f3,g3⟩:=z3 f2 s.2.2.1 _ h3 g2
  obtain ⟨e4,f4,g4⟩:=z4 f3 s.2.2.2.1 _ h4 g3
  exact ⟨e1,e2,e3,e4,f4,g4⟩
 cases hk:r==5
 ·refine ⟨(r,t,x,y,zD),v4,⟨r2,hx,hy,j96⟩,λk=> ?_,λs hs he=> ?_⟩
  ·rw [hu,hk]
   exact fin _ _ _ _
  ·obtain ⟨e1,e2,e3,e4,e5,e6⟩:=back s hs he
   obtain ⟨h1,h2,h3,h4,h5⟩:=j4x hs
   rcases h5 with h5 | h5
   ·rw [e1,h5.1] at hk;cases hk
   ·exact ⟨by rw [e1,e2,e3,e4,<-h5.2],e5⟩
 ·obtain ⟨d,a1,b1,s1,t1,w1,y1⟩:=iB b hb hl u4 v4 (by omega)
  obtain ⟨cs,a2,b2,s2,t2,w2,y2⟩:=jfD b hb hl r t x y d a1 b1 (by omega)
  obtain ⟨ks,a3,b3,s3,t3,w3,y3⟩:=jev b hb hl a2 b2 (by omega)
  obtain ⟨n,a4,b4,s4,t4,w4,y4⟩:=iW b hb hl a3 b3 (by omega)
  obtain ⟨m,a5,b5,s5,t5,w5,y5⟩:=iW b hb hl a4 b4 (by omega)
  refine ⟨(r,t,x,y,d,t,cs,ks,n,m),b5,⟨r2,hx,hy,jes r2 s2 s3 s4 s5⟩,λk=> ?_,λs hs he=> ?_⟩
  ·rw [hu,hk]
   unfold j1p j2c
   rw [cond_true]
   simp only [Z8u]
   refine (w1 _).trans ?_
   refine (w2 _).trans ?_
   refine (w3 _).trans ?_
   refine (w4 _).trans ?_
   refine (w5 _).trans ?_
   exact fin _ _ _ _
  ·obtain ⟨e1,e2,e3,e4,e5,e6⟩:=back s hs he
   obtain ⟨h1,h2,h3,h4,h5⟩:=j4x hs
   have hk5:s.1=5:=by rw [<-e1];simpa using hk
   rcases h5 with h5 | h5
   ·rw [show (s.1==5)=true by simp [hk5],cond_true] at e6
    obtain ⟨a1,a2,a3,a4,a5,a6,a7⟩:=j6D h5.2.1
    have hd:=(e6.trans (List.append_nil _).symm).trans (jce s.2.2.2.2 [])
    obtain ⟨c1,d1,g1⟩:=y1 e5 s.2.2.2.2.1 _ trivial hd
    obtain ⟨c2,d2,g2⟩:=y2 d1 s.2.2.2.2.2.2.1 _ ⟨a2,a3⟩ g1
    obtain ⟨c3,d3,g3⟩:=y3 d2 s.2.2.2.2.2.2.2.1 _ ⟨a4,λc hc=>j3D (.inl (a5 c hc))⟩ g2
    obtain ⟨c4,d4,g4⟩:=y4 d3 s.2.2.2.2.2.2.2.2.1 _ (j3D a6) g3
    obtain ⟨c5,d5,g5⟩:=y5 d4 s.2.2.2.2.2.2.2.2.2 _ (j3D a7) g4
    refine ⟨?_,d5⟩
    have ht:=h5.2.2
    rw [e1,e2,e3,e4,c1,c2,c3,c4,c5]
    conv=>lhs;arg 2;arg 2;arg 2;arg 2;arg 2;arg 1;rw [<-ht]
   ·exact absurd hk5 h5.1
end Go.PI.G
namespace Go.PI.G
open Go Go.PI
abbrev PT:=ST×List ByteArray×List ByteArray
abbrev BT:=Int×Int×List PT
abbrev zBT:BT:=(0,0,[])
noncomputable def j1l (l:List ByteArray):Bool:=l.all j09&&decide (l.length<=8)
noncomputable def j2P (p:PT):Bool:=stB p.1&&(j1l p.2.1&&j1l p.2.2)
def j4j (x:BT):Bool:=decide (1<=x.1/\x.1<=400/\0<=x.2.1/\x.2.1<x.1/\nI x.2.2.length<=60)
noncomputable def j1G (x:BT):Bool:=j4j x&&x.2.2.all j2P
noncomputable def byL (l:List ByteArray):List Int:=nI l.length::l.flatMap byW
noncomputable def j3f (p:PT):List Int:=be (byS p.1).length 2++(byS p.1++(byL p.2.1++byL p.2.2))
def jaV (l:List Int):Int:=l.foldl (λn x=>Int.tmod (257 * n+x+1) 16777213) 1
noncomputable def j3P (x:BT):List Int:=(([80]++be x.1.toNat 2)++be x.2.1.toNat 2++[nI x.2.2.length])++x.2.2.flatMap j3f
noncomputable def byP (x:BT):List Int:=j3P x++be (jaV (j3P x)).toNat 3
theorem j3v {l:List ByteArray} (h:j1l l=true):l.length<=8/\∀ w∈l,j09 w=true:=by
 unfold j1l at h
 rw [Bool.and_eq_true,List.all_eq_true,decide_eq_true_eq] at h
 exact ⟨h.2,h.1⟩
theorem j26 {p:PT} (h:j2P p=true):stB p.1=true/\j1l p.2.1=true/\j1l p.2.2=true:=by
 unfold j2P at h
 rw [Bool.and_eq_true,Bool.and_eq_true] at h
 exact h
theorem j2H {x:BT} (h:j1G x=true):(1<=x.1/\x.1<=400/\0<=x.2.1/\x.2.1<x.1/\x.2.2.length<=60)/\∀ p∈x.2.2,j2P p=true:=by
 unfold j1G j4j at h
 rw [Bool.and_eq_true,List.all_eq_true,decide_eq_true_eq] at h
 unfold nI at h
 exact ⟨⟨h.1.1,h.1.2.1,h.1.2.2.1,h.1.2.2.2.1,by omega⟩,h.2⟩
theorem j7L {s:ST} (h:stB s=true):(byS s).length<=1100:=by
 obtain ⟨h1,h2,h3,h4,h5⟩:=j4x h
 have w1:=j0F (.inl h1)
 have r3:=j6N h3
 have r4:=j6N h4
 have hd:(bif s.1==5 then byD s.2.2.2.2 else []).length<=460:=by
  rcases h5 with h5 | h5
  ·rw [h5.1]
   show (byD s.2.2.2.2).length<=460
   obtain ⟨a1,a2,a3,a4,a5,a6,a7⟩:=j6D h5.2.1
   have c1:=j1u byC 44 s.2.2.2.2.2.2.1 λc hc=>j8Y (a3 c hc)
   have c2:=j1u byW 9 s.2.2.2.2.2.2.2.1 λc hc=>j0F (.inl (a5 c hc))
   have c6:=j0F a6
   have c7:=j0F a7
   unfold byD
   simp only [List.length_append,List.length_cons]
   omega
  ·rw [show (s.1==5)=false by simp [h5.1],cond_false]
   exact Nat.zero_le _
 unfold byS
 simp only [List.length_append,List.length_cons]
 omega
theorem j9W {l:List ByteArray} (h:j1l l=true):(byL l).length<=73:=by
 obtain ⟨h1,h2⟩:=j3v h
 have:=j1u byW 9 l λc hc=>j0F (.inl (h2 c hc))
 unfold byL
 rw [List.length_cons]
 omega
theorem jax {p:PT} (h:j2P p=true):(j3f p).length<=1248:=by
 obtain ⟨h1,h2,h3⟩:=j26 h
 have a1:=j7L h1
 have a2:=j9W h2
 have a3:=j9W h3
 unfold j3f
 simp only [List.length_append,j0Z]
 omega
theorem jdC {l:List ByteArray} (h:j1l l=true):isB (byL l):=by
 obtain ⟨h1,h2⟩:=j3v h
 exact j0q (by unfold nI;omega) (j7d _ _ λc hc=>j7M (.inl (h2 c hc)))
theorem jeR {p:PT} (h:j2P p=true):isB (j3f p):=by
 obtain ⟨h1,h2,h3⟩:=j26 h
 exact j0p (j8X _ _) (j0p (j9X h1) (j0p (jdC h2) (jdC h3)))
theorem jbd {x:BT} (h:j1G x=true):(j3P x).length<=74886:=by
 obtain ⟨h1,h2⟩:=j2H h
 have:=j1u j3f 1248 x.2.2 λp hp=>jax (h2 p hp)
 unfold j3P
 simp only [List.length_append,List.length_cons,List.length_nil,j0Z]
 omega
theorem j95 {x:BT} (h:j1G x=true):isB (j3P x):=by
 obtain ⟨h1,h2⟩:=j2H h
 exact j0p (j0p (j0p (j0p (j0q (by omega) j3k) (j8X _ _)) (j8X _ _)) (j0q (by unfold nI;omega) j3k)) (j7d _ _ λp hp=>jeR (h2 p hp))
theorem jfi {x:BT} (h:j1G x=true):isB (byP x):=j0p (j95 h) (j8X _ _)
theorem jaW {n x:Int} (hn:0<=n/\n<16777213) (hx:0<=x/\x<256):0<=Int.tmod (257 * n+x+1) 16777213/\Int.tmod (257 * n+x+1) 16777213<16777213:=
 ⟨Int.tmod_nonneg _ (by omega),Int.tmod_lt_of_pos _ (by omega)⟩
theorem jbF {l:List Int} (h:isB l):0<=jaV l/\jaV l<16777213:=by
 have:∀ (l:List Int) (n:Int),isB l->(0<=n/\n<16777213)->0<=l.foldl (λn x=>Int.tmod (257 * n+x+1) 16777213) n/\l.foldl (λn x=>Int.tmod (257 * n+x+1) 16777213) n<16777213:=by
  intro l
  induction l with
  | nil=>intro n _ hn;exact hn
  | cons x l ih=>
   intro n hl hn
   rw [List.foldl_cons]
   exact ih _ (λy hy=>hl y (List.mem_cons_of_mem _ hy)) (jaW hn (hl x (by simp)))
 exact this l 1 h (by omega)
def RdF {σ α:Type} (b:List Int) (S:Nat->Bool->σ) (N g:Nat) (act:σ->(α->σ->Res)->Res->Res) (R ok:α->Prop) (f:α->List Int):Prop:=
 ∀ (at_:Nat) (bad:Bool),at_<=N->(∃ (x:α) (at':Nat) (bad':Bool),R x/\at'<=at_+g/\(∀ k z,act (S at_ bad) k z=k x (S at' bad')) /\
  (bad=false->∀ y post,ok y->b.drop at_=f y++post->x=y/\bad'=false/\b.drop at'=post)) \/
  ((∀ k z,act (S at_ bad) k z=z)/\(bad=false->∀ y post,ok y->b.drop at_=f y++post->False))
theorem jdm {σ α V K:Type} {b:List Int} {S:Nat->Bool->σ} {N g:Nat} {act:σ->(α->σ->Res)->Res->Res} {R ok:α->Prop} {f:α->List Int} (h:RdF b S N g act R ok f) (M:Nat)
  (st:Int->List α->σ->V) (step:V->(V->Res)->K->Res) (fin:K->List α->σ->Res) (ff:K->Res) (cond:Nat->Bool) (h9:cond M=false)
  (hs:∀ (i:Nat) out e rec q,i<M->out.length=i->cond i=true->step (st (i:Int) out e) rec q=act e (λx e'=>rec (st ((i+1:Nat):Int) (out++[x]) e')) (ff q))
  (he:∀ (i:Nat) out e rec q,i<=M->cond i=false->step (st (i:Int) out e) rec q=fin q out e) :
  ∀ (d i m:Nat) (out:List α) (at_:Nat) (bad:Bool),i+d=M->d<m->out.length=i->(∀ x∈out,R x)->at_+d * g<=N->(∃ (r:List α) (at':Nat) (bad':Bool),(r.length<=M/\∀ x∈r,R x)/\at'<=at_+d * g /\
   (∀ q,Z14 step m (st (i:Int) out (S at_ bad)) q=fin q r (S at' bad')) /\
   (bad=false->∀ ws post,(∀ w∈ws,ok w)->(∀ j,i<=j->j<i+ws.length->cond j=true)->cond (i+ws.length)=false->b.drop at_=ws.flatMap f++post->r=out++ws/\bad'=false/\b.drop at'=post)) \/
   ((∀ q,Z14 step m (st (i:Int) out (S at_ bad)) q=ff q)/\(bad=false->∀ (ws:List α) (post:List Int),(∀ w∈ws,ok w)->(∀ j,i<=j->j<i+ws.length->cond j=true)->cond (i+ws.length)=false->b.drop at_=ws.flatMap f++post->False)):=by
 intro d
 induction d with
 | zero=>
  intro i m out at_ bad hi hm ho hR ha
  obtain ⟨m,rfl⟩:∃ e,m=e+1:=⟨m-1,by omega⟩
  have hiM:i=M:=by omega
  subst hiM
  refine .inl ⟨out,at_,bad,⟨by omega,hR⟩,by omega,λq=>by rw [Z8C,he i _ _ _ _ (by omega) h9],λhb ws post hw hc hn hd=> ?_⟩
  cases ws with
  | nil=>exact ⟨by simp,hb,by simpa using hd⟩
  | cons w ws=>
   have:=hc i (by omega) (by rw [List.length_cons];omega)
   rw [h9] at this;cases this
 | succ d ih=>
  intro i m out at_ bad hi hm ho hR ha
  obtain ⟨m,rfl⟩:∃ e,m=e+1:=⟨m-1,by omega⟩
  rw [Nat.succ_mul] at ha ⊢
  cases hc:cond i
  ·refine .inl ⟨out,at_,bad,⟨by omega,hR⟩,by omega,λq=>by rw [Z8C,he i _ _ _ _ (by omega) hc],λhb ws post hw hcc hn hd=> ?_⟩
   cases ws with
   | nil=>exact ⟨by simp,hb,by simpa using hd⟩
   | cons w ws=>
    have:=hcc i (by omega) (by rw [List.length_cons];omega)
    rw [hc] at this;cases this
  ·rcases h at_ bad (by omega) with ⟨x,u1,v1,r1,p1,q1,z1⟩ | ⟨q1,z1⟩
   ·have hR2:∀ y∈out++[x],R y:=λy hy=>by
     rcases List.mem_append.1 hy with hy | hy
     ·exact hR y hy
     ·rw [List.mem_singleton.1 hy];exact r1
    rcases ih (i+1) m (out++[x]) u1 v1 (by omega) (by omega) (by rw [List.length_append,List.length_singleton,ho]) hR2 (by omega) with ⟨r,u2,v2,r2,p2,q2,z2⟩ | ⟨q2,z2⟩
    ·refine .inl ⟨r,u2,v2,r2,by omega,λq=> ?_,λhb ws post hw hcc hn hd=> ?_⟩
     ·rw [Z8C,hs i _ _ _ _ (by omega) ho hc,q1]
      exact q2 q
     ·cases ws with
      | nil=>rw [List.length_nil,Nat.add_zero,hc] at hn;cases hn
      | cons w ws=>
       rw [List.flatMap_cons,List.append_assoc] at hd
       obtain ⟨e1,e2,e3⟩:=z1 hb w _ (hw w (by simp)) hd
       rw [List.length_cons] at hcc hn
       obtain ⟨e4,e5,e6⟩:=z2 e2 ws post (λy hy=>hw y (List.mem_cons_of_mem _ hy)) (λj h1 h2=>hcc j (by omega) (by omega)) (by rw [show i+1+ws.length=i+(ws.length+1) by omega];exact hn) e3
       exact ⟨by rw [e4,e1,List.append_assoc];rfl,e5,e6⟩
    ·refine .inr ⟨λq=> ?_,λhb ws post hw hcc hn hd=> ?_⟩
     ·rw [Z8C,hs i _ _ _ _ (by omega) ho hc,q1]
      exact q2 q
     ·cases ws with
      | nil=>rw [List.length_nil,Nat.add_zero,hc] at hn;cases hn
      | cons w ws=>
       rw [List.flatMap_cons,List.append_assoc] at hd
       obtain ⟨e1,e2,e3⟩:=z1 hb w _ (hw w (by simp)) hd
       rw [List.length_cons] at hcc hn
       exact z2 e2 ws post (λy hy=>hw y (List.mem_cons_of_mem _ hy)) (λj h1 h2=>hcc j (by omega) (by omega)) (by rw [show i+1+ws.length=i+(ws.length+1) by omega];exact hn) e3
   ·refine .inr ⟨λq=> ?_,λhb ws post hw hcc hn hd=> ?_⟩
    ·rw [Z8C,hs i _ _ _ _ (by omega) ho hc,q1]
    ·cases ws with
     | nil=>rw [List.length_nil,Nat.add_zero,hc] at hn;cases hn
     | cons w ws=>
      rw [List.flatMap_cons,List.append_assoc] at hd
      exact z1 hb w _ (hw w (by simp)) hd
end Go.PI.G
namespace Go.PI.G
open Go Go.PI Go.Proofs
noncomputable def rst (b:List Int):ST×Bool:=by
 classical
 exact if h:∃ x,stB x=true/\byS x=b then (h.choose,true) else (zST,false)
theorem jdJ (b:List Int) (hb:isB b) (raw:ST) (bad:Bool) (hback:∀ x,stB x=true->byS x=b->raw=x/\bad=false) (k:ST->Bool->Res) :
  (bif stB raw then (bif bad then k zST false else bif !true then k zST false else bif sNe (Z34 (byS raw)) (Z34 b) then k zST false else k raw true) else (bif bad then k zST false else bif !false then k zST false else bif sNe (Z34 []) (Z34 b) then k zST false else k raw true))=k (rst b).1 (rst b).2:=by
 unfold rst
 by_cases h:∃ x,stB x=true/\byS x=b
 ·rw [dif_pos h]
  have hc:=h.choose_spec
  obtain ⟨hr,hbad⟩:=hback h.choose hc.1 hc.2
  rw [hr,hc.1,cond_true,hbad,cond_false,hc.2,Z8U]
  rfl
 ·rw [dif_neg h]
  cases hs:stB raw
  ·cases bad<;>rfl
  ·cases bad
   ·rw [cond_true,cond_false]
    cases hn:sNe (Z34 (byS raw)) (Z34 b)
    ·exact absurd ⟨raw,hs,jao (j9X hs) hb ((jc5 _ _).1 hn)⟩ h
    ·rfl
   ·rfl
theorem jfu (b:List Int) (hb:isB b) (hl:b.length<=1048576) (k:ST->Bool->Res):j0P b k=k (rst b).1 (rst b).2:=by
 obtain ⟨raw,h1,h2,h3⟩:=jdK b hb hl
 rw [h2,jcr raw h1]
 exact jdJ b hb raw false (λx hx he=>⟨h3 x hx he,rfl⟩) k
theorem jfl (b:List Int) (hb:isB b) (hl:b.length<=1048576) (k:ST->Bool->Res):j0N b k=k (rst b).1 (rst b).2:=by
 obtain ⟨raw,bad,h1,h2,h3⟩:=jfm b hb hl
 rw [h2,jci raw h1]
 exact jdJ b hb raw bad h3 k
theorem jdo {x:ST} (hx:stB x=true):rst (byS x)=(x,true):=by
 have h:∃ y,stB y=true/\byS y=byS x:=⟨x,hx,rfl⟩
 have hl:(byS x).length<=1048576:=by have:=j7L hx;omega
 obtain ⟨raw,h1,h2,h3⟩:=jdK (byS x) (j9X hx) hl
 unfold rst
 rw [dif_pos h]
 have hc:=h.choose_spec
 rw [<-h3 _ hc.1 hc.2,h3 x hx rfl]
theorem jfv {s:ST} (h:stB s=true):j8Q s:=by
 obtain ⟨h1,h2,h3,h4,h5⟩:=j4x h
 have w1:=j7b (.inl h1)
 refine ⟨by omega,by omega,by omega,?_⟩
 rcases h5 with h5 | h5
 ·obtain ⟨a1,a2,a3,a4,a5,a6,a7⟩:=j6D h5.2.1
  have w6:=j7b a6
  have w7:=j7b a7
  refine ⟨by rw [h5.2.2];omega,by omega,by omega,λc hc=> ?_,λc hc=> ?_,by omega,by omega⟩
  ·have:=j7b (.inl (j2I (a3 c hc)).1);omega
  ·have:=j7b (.inl (a5 c hc));omega
 ·rw [h5.2];exact j96
theorem jeH (b:List Int):(stB (rst b).1=true/\(rst b).2=true/\byS (rst b).1=b)\/rst b=(zST,false):=by
 unfold rst
 by_cases h:∃ x,stB x=true/\byS x=b
 ·rw [dif_pos h]
  exact .inl ⟨h.choose_spec.1,rfl,h.choose_spec.2⟩
 ·rw [dif_neg h]
  exact .inr rfl
theorem jeI (b:List Int):j8Q (rst b).1:=by
 rcases jeH b with h | h
 ·exact jfv h.1
 ·rw [h];exact jeL
end Go.PI.G
namespace Go.PI.G
open Go Go.PI Go.Proofs
theorem jcg {α:Type} (f:α->List Int) (c n:Nat) (l:List α) (pre:List Int) (B:Nat) (h:∀ x∈l,(f x).length<=c) (hl:l.length<=n) (hp:pre.length+c * n<=B) (i:Nat):(pre++(l.take i).flatMap f).length<=B:=by
 have h1:=j1u f c (l.take i) λx hx=>h x (List.mem_of_mem_take hx)
 have h2:(l.take i).length<=n:=by rw [List.length_take];omega
 have h3:=Nat.mul_le_mul_left c h2
 rw [List.length_append]
 omega
theorem jeE (b:List Int) (hb:b.length<=900000) (n s:Nat) (hn:n<=1099511627775) (hs:1<=s/\s<=6) (hp:(n:Int)<256 ^ s) (k:List Int->Bool->Res):j0e b (n:Int) (s:Int) k=k (b++be n s) true:=by
 unfold j0e j3p
 have hq:=jdk s (by omega) (λ(r:Int)=>(λ(t:Bool)=>bif t then k [] false else bif lim (0+b.length) then j3o (n:Int) Z12 b (Z8o ((s:Int)-1)) λ(out:List Int)=>k out true else none) (decide ((n:Int)>=r)))
 rw [decide_eq_false (show ¬ (s:Int)<1 by omega),cond_false,decide_eq_false (show ¬ (s:Int)>6 by omega),cond_false,decide_eq_false (show ¬ (n:Int)<0 by omega),cond_false]
 refine Eq.trans hq ?_
 rw [decide_eq_false (show ¬ (n:Int)>=256 ^ s from Int.not_le.2 hp)]
 dsimp only
 rw [cond_false,Z9l (by unfold LIM;omega),cond_true,j03 (n:=(s:Int)-1) (by omega)]
 exact jdl n hn (λout=>k out true) s Z12 b hs.2 (Z1U (by omega)) (by omega)
theorem jc4 (b:List Int) (hb:b.length<=900000) (n:Int) (hn:0<=n/\n<65536) (k:List Int->Bool->Res):j0e b n 2 k=k (b++be n.toNat 2) true:=by
 obtain ⟨m,rfl⟩:∃ m:Nat,n=(m:Int):=⟨n.toNat,by omega⟩
 exact jeE b hb m 2 (by omega) (by omega) (by rw [show (256:Int) ^ 2=65536 by decide];exact hn.2) k
theorem jfq (b:List Int) (hb:b.length<=900000) (n:Int) (hn:0<=n/\n<16777216) (k:List Int->Bool->Res):j0e b n 3 k=k (b++be n.toNat 3) true:=by
 obtain ⟨m,rfl⟩:∃ m:Nat,n=(m:Int):=⟨n.toNat,by omega⟩
 exact jeE b hb m 3 (by omega) (by omega) (by rw [show (256:Int) ^ 3=16777216 by decide];exact hn.2) k
theorem jc0 (b:List Int) (hb:b.length<=100000) (n:Int) (hn:0<=n/\n<65536) (k:List Int->Res):j0d b n 2 k=k (b++be n.toNat 2):=by
 obtain ⟨m,rfl⟩:∃ m:Nat,n=(m:Int):=⟨n.toNat,by omega⟩
 exact jbj b hb m 2 (by omega) (by omega) k
theorem jfn (b:List Int) (hb:b.length<=100000) (n:Int) (hn:0<=n/\n<16777216) (k:List Int->Res):j0d b n 3 k=k (b++be n.toNat 3):=by
 obtain ⟨m,rfl⟩:∃ m:Nat,n=(m:Int):=⟨n.toNat,by omega⟩
 exact jbj b hb m 3 (by omega) (by omega) k
theorem jef (b:List Int) (hb:isB b) (hl:b.length<=LIM) (k:Int->Res):j5C b k=k (jaV b):=by
 unfold j5C j8O
 have hl2:b.length<=2147483648:=hl
 refine (Z73 b (λi n=>(n,i)) (λn x=>Int.tmod (257 * n+x+1) 16777213) (λ_ n=>0<=n/\n<16777213) (step:=j7s b (nI b.length)) (λn=>k n) (λn=>k n) 1 hl (by omega) (λi n hi hn=>jaW hn (hb _ (List.getElem_mem hi))) (λi n rec hi hn=> ?_) (λn rec hn=> ?_))
 ·have hx:=hb _ (List.getElem_mem hi)
  show j3X _ _ _ _ _ _=_
  unfold j3X
  dsimp only
  rw [Z9q hi,cond_true,j07 hi,cond_true,Z9a _ _ _ hi,j03 (n:=257 * n) (by omega),j03 (n:=b[i]) (by omega),j03 (n:=257 * n+b[i]) (by omega),j03 (n:=257 * n+b[i]+1) (by omega),j03 (n:=(i:Int)+1) (by omega)]
 ·show j3X _ _ _ _ _ _=_
  unfold j3X
  dsimp only
  rw [Z9p,cond_false]
theorem je2 (b:List Int) (hb:isB b) (hl:b.length<=LIM) (k:Int->Res):j5r b k=k (jaV b):=by
 unfold j5r j8J
 have hl2:b.length<=2147483648:=hl
 refine (Z73 b (λi n=>(n,i)) (λn x=>Int.tmod (257 * n+x+1) 16777213) (λ_ n=>0<=n/\n<16777213) (step:=j7l b (nI b.length)) (λn=>k n) (λn=>k n) 1 hl (by omega) (λi n hi hn=>jaW hn (hb _ (List.getElem_mem hi))) (λi n rec hi hn=> ?_) (λn rec hn=> ?_))
 ·have hx:=hb _ (List.getElem_mem hi)
  show j3R _ _ _ _ _ _=_
  unfold j3R
  dsimp only
  rw [Z9q hi,cond_true,j07 hi,cond_true,Z9a _ _ _ hi,j03 (n:=257 * n) (by omega),j03 (n:=b[i]) (by omega),j03 (n:=257 * n+b[i]) (by omega),j03 (n:=257 * n+b[i]+1) (by omega),j03 (n:=(i:Int)+1) (by omega)]
 ·show j3R _ _ _ _ _ _=_
  unfold j3R
  dsimp only
  rw [Z9p,cond_false]
def jds (l:List ByteArray):Prop:=l.length<=1048576/\∀ w∈l,w.size<=1048576
theorem jcu (l:List ByteArray) (h:jds l) (k:Bool->Res):j2E l k=k (j1l l):=by
 unfold j2E j5H j1l
 have hl:=h.1
 have:=Z8G l (λi=>i) (λv=> !j09 v) (step:=j4w l (nI l.length)) ((λ(_:Unit)=>k (decide (nI l.length<=8))),(λ(_:Unit)=>k false)) (k (decide (nI l.length<=8))) (k false) (by unfold LIM;omega) (λi rec hi=>by
  show j1D _ _ _ _ _ _=_
  unfold j1D
  have hw:=h.2 _ (List.getElem_mem hi)
  rw [Z9q hi,cond_true,j07 hi,cond_true,Z9a _ _ _ hi,j1t _ (by unfold LIM;omega),j03 (n:=(i:Int)+1) (by omega)]) (λrec=>by
  show j1D _ _ _ _ _ _=_
  unfold j1D
  rw [Z9p,cond_false])
 refine this.trans ?_
 have hall:(l.any λv=> !j09 v)= !l.all j09:=by rw [List.all_eq_not_any_not];simp
 rw [hall]
 cases l.all j09
 ·rfl
 ·rw [Bool.not_true,cond_false,Bool.true_and]
  congr 1
  exact decide_eq_decide.2 (by unfold nI;omega)
theorem jcl (l:List ByteArray) (h:jds l) (k:Bool->Res):j2y l k=k (j1l l):=by
 unfold j2y j1J j2x j1K j1l
 have hl:=h.1
 have hd:decide (nI l.length<=8)=decide (l.length<=8):=decide_eq_decide.2 (by unfold nI;omega)
 rw [hd]
 cases decide (l.length<=8)
 ·rw [Bool.and_false];rfl
 ·rw [cond_true,Bool.and_true]
  have:=Z8w l (λi=>i) (λv=> !j09 v) (step:=j1q l (nI l.length)) ((λ(_:Unit)=>k (!decide ((-1:Int)>=0))),(λ(t:Int)=>k (!decide (t>=0)))) (λr=>k (!decide (r>=0))) (by unfold LIM;omega) (λi rec hi=>by
   show j0r _ _ _ _ _ _=_
   unfold j0r j6F
   have hw:=h.2 _ (List.getElem_mem hi)
   rw [Z9q hi,cond_true,j07 hi,cond_true,Z9a _ _ _ hi,j23 _ (by unfold LIM;omega),j03 (n:=(i:Int)+1) (by omega)]) (λrec=>by
   show j0r _ _ _ _ _ _=_
   unfold j0r
   rw [Z9p,cond_false])
  refine this.trans ?_
  congr 1
  unfold Z8j
  cases hf:l.findIdx? λv=> !j09 v with
  | none=>
   rw [List.findIdx?_eq_none_iff] at hf
   symm
   show l.all j09=true
   rw [List.all_eq_true]
   intro v hv
   simpa using hf v hv
  | some i=>
   dsimp only
   rw [decide_eq_true (show (i:Int)>=0 by omega)]
   obtain ⟨hi,hp,_⟩:=List.findIdx?_eq_some_iff_getElem.1 hf
   symm
   show l.all j09=false
   rw [List.all_eq_false]
   exact ⟨l[i],List.getElem_mem _,by simpa using hp⟩
theorem jdp (l:List ByteArray) (h:j1l l=true) (b:List Int) (hb:b.length<=89800) (k:List Int->Res):j40 b l k=k (b++byL l):=by
 obtain ⟨hl,hw⟩:=j3v h
 have hc:∀ c∈l,(byW c).length<=9:=λc hc=>j0F (.inl (hw c hc))
 unfold j40 j71
 rw [Z9l (by unfold LIM;omega),cond_true,j0x (by unfold nI;omega)]
 have hb1:(b++[nI l.length]).length<=89801:=by rw [List.length_append,List.length_singleton];omega
 refine (Z8x l (λi out=>(out,i)) byW 90000 (b++[nI l.length]) (step:=j5G l (nI l.length)) (λb1=>k b1) (λb1=>k b1) (by unfold LIM;omega) (λi hi _=>j6E byW 9 l (b++[nI l.length]) 90000 hc hl (by omega) (i+1)) (by omega) (λi out rec hi ho hB=>by
  show j2o _ _ _ _ _ _=_
  unfold j2o
  dsimp only
  rw [Z9q hi,cond_true,j07 hi,cond_true,Z9a _ _ _ hi,j92 _ (by omega) _ (.inl (hw _ (List.getElem_mem hi))),j03 (n:=(i:Int)+1) (by omega)]) (λout rec=>by
  show j2o _ _ _ _ _ _=_
  unfold j2o
  dsimp only
  rw [Z9p,cond_false])).trans ?_
 rw [List.append_assoc]
 rfl
theorem jda (l:List ByteArray) (h:j1l l=true) (b:List Int) (hb:b.length<=89800) (k:List Int->Res):j13 b l k=k (b++byL l):=by
 obtain ⟨hl,hw⟩:=j3v h
 have hc:∀ c∈l,(byW c).length<=9:=λc hc=>j0F (.inl (hw c hc))
 unfold j13 j3T
 rw [j1E _ (by omega) _ (by unfold nI;omega)]
 have hb1:(b++[nI l.length]).length<=89801:=by rw [List.length_append,List.length_singleton];omega
 refine (Z8x l (λi out=>(out,i)) byW 90000 (b++[nI l.length]) (step:=j48 l (nI l.length)) (λb1=>k b1) (λb1=>k b1) (by unfold LIM;omega) (λi hi _=>j6E byW 9 l (b++[nI l.length]) 90000 hc hl (by omega) (i+1)) (by omega) (λi out rec hi ho hB=>by
  show j0y _ _ _ _ _ _=_
  unfold j0y
  dsimp only
  rw [Z9q hi,cond_true,j07 hi,cond_true,Z9a _ _ _ hi,j8Z _ (by omega) _ (.inl (hw _ (List.getElem_mem hi))),j03 (n:=(i:Int)+1) (by omega)]) (λout rec=>by
  show j0y _ _ _ _ _ _=_
  unfold j0y
  dsimp only
  rw [Z9p,cond_false])).trans ?_
 rw [List.append_assoc]
 rfl
def je6 (p:PT):Prop:=j8Q p.1/\jds p.2.1/\jds p.2.2
def jaw (x:BT):Prop:=x.2.2.length<=1048576/\(∀ p∈x.2.2,je6 p)/\ -4611686018427387904<=x.1
theorem jco (p:PT) (a z:Res):(bif !stB p.1 then z else bif !j1l p.2.1 then z else bif !j1l p.2.2 then z else a)=bif !j2P p then z else a:=by
 unfold j2P
 cases stB p.1
 ·rfl
 ·cases j1l p.2.1
  ·rfl
  ·rfl
theorem jeV (x:BT) (hl:x.2.2.length<=1048576) (K:Bool->Res):j2Q x K=K (!j4j x):=by
 unfold j2Q
 by_cases h1:x.1<1
 ·rw [decide_eq_true h1,cond_true];congr 1;unfold j4j;rw [decide_eq_false (by omega)];rfl
 rw [decide_eq_false h1,cond_false]
 by_cases h2:x.1>400
 ·rw [decide_eq_true h2,cond_true];congr 1;unfold j4j;rw [decide_eq_false (by omega)];rfl
 rw [decide_eq_false h2,cond_false]
 by_cases h3:x.2.1<0
 ·rw [decide_eq_true h3,cond_true];congr 1;unfold j4j;rw [decide_eq_false (by omega)];rfl
 rw [decide_eq_false h3,cond_false]
 by_cases h4:x.2.1>=x.1
 ·rw [decide_eq_true h4,cond_true];congr 1;unfold j4j;rw [decide_eq_false (by omega)];rfl
 rw [decide_eq_false h4,cond_false]
 congr 1
 unfold j4j
 by_cases h5:nI x.2.2.length>60
 ·rw [decide_eq_true h5,decide_eq_false (by omega)];rfl
 ·rw [decide_eq_false h5,decide_eq_true (by omega)];rfl
theorem jeb (x:BT) (h:jaw x) (k:Bool->Res):j3n x k=k (j1G x):=by
 unfold j3n
 rw [jeV x h.1]
 have hl:=h.1
 cases hf:j4j x
 ·unfold j1G;rw [hf];rfl
 ·rw [Bool.not_true,cond_false]
  unfold j4e
  refine (Z8G x.2.2 (λi=>i) (λp=> !j2P p) (step:=j39 x.2.2 (nI x.2.2.length)) ((λ(_:Unit)=>k true),(λ(_:Unit)=>k false)) (k true) (k false) (by unfold LIM;omega) (λi rec hi=>by
   show j18 _ _ _ _ _ _=_
   unfold j18
   have hp:=h.2.1 _ (List.getElem_mem hi)
   rw [Z9q hi,cond_true,j07 hi,cond_true,Z9a _ _ _ hi,jcs _ hp.1]
   simp only [jcu _ hp.2.1,jcu _ hp.2.2]
   rw [j03 (n:=(i:Int)+1) (by omega)]
   exact jco _ _ _) (λrec=>by
   show j18 _ _ _ _ _ _=_
   unfold j18
   rw [Z9p,cond_false])).trans ?_
  have hall:(x.2.2.any λv=> !j2P v)= !x.2.2.all j2P:=by rw [List.all_eq_not_any_not];simp
  unfold j1G
  rw [hall,hf,Bool.true_and]
  cases x.2.2.all j2P<;>rfl
theorem jdY (x:BT) (h:jaw x) (k:Bool->Res):j3g x k=k (j1G x):=by
 unfold j3g j47
 have hl:=h.1
 have h64:=h.2.2
 refine (Z8G x.2.2 (λi=>i) (λp=> !j2P p) (step:=j37 x.2.2 (nI x.2.2.length)) ((λ(_:Unit)=>j0a x.1 1 400 λ(r:Bool)=>bif r then j0a x.2.1 0 (Z8o (x.1-1)) λ(r1:Bool)=>bif r1 then k (decide (nI x.2.2.length<=60)) else k false else k false),(λ(_:Unit)=>k false)) (k (j4j x)) (k false) (by unfold LIM;omega) (λi rec hi=>by
  show j16 _ _ _ _ _ _=_
  unfold j16
  have hp:=h.2.1 _ (List.getElem_mem hi)
  rw [Z9q hi,cond_true,j07 hi,cond_true,Z9a _ _ _ hi,jcj _ hp.1]
  simp only [jcl _ hp.2.1,jcl _ hp.2.2]
  rw [j03 (n:=(i:Int)+1) (by omega)]
  exact jco _ _ _) (λrec=>by
  show j16 _ _ _ _ _ _=_
  unfold j16
  rw [Z9p,cond_false]
  simp only [j33]
  unfold j4j
  by_cases h1:1<=x.1/\x.1<=400
  ·rw [decide_eq_true h1,cond_true,j03 (by omega)]
   by_cases h2:0<=x.2.1/\x.2.1<=x.1-1
   ·rw [decide_eq_true h2,cond_true]
    congr 1
    exact decide_eq_decide.2 ⟨λh3=>⟨h1.1,h1.2,h2.1,by omega,h3⟩,λh3=>h3.2.2.2.2⟩
   ·rw [decide_eq_false h2,cond_false,decide_eq_false (by omega)]
  ·rw [decide_eq_false h1,cond_false,decide_eq_false (by omega)])).trans ?_
 have hall:(x.2.2.any λv=> !j2P v)= !x.2.2.all j2P:=by rw [List.all_eq_not_any_not];simp
 unfold j1G
 rw [hall]
 cases x.2.2.all j2P
 ·rw [Bool.and_false];rfl
 ·rw [Bool.and_true];rfl
theorem jdH (x:BT):(([80]++be x.1.toNat 2)++be x.2.1.toNat 2++[nI x.2.2.length]).length=6:=by
 simp only [List.length_append,List.length_cons,List.length_nil,j0Z]
theorem jdz (x:BT) (h:jaw x) (k:List Int->Bool->Res):j35 x k=bif j1G x then k (byP x) true else k [] false:=by
 unfold j35
 rw [jeb x h]
 cases hb:j1G x
 ·rfl
 ·rw [Bool.not_true,cond_false,cond_true]
  obtain ⟨⟨h1,h2,h3,h4,h5⟩,hp⟩:=j2H hb
  rw [jc4 _ (by simp) _ (by omega),jc4 _ (by simp only [List.length_append,List.length_cons,List.length_nil,j0Z];omega) _ (by omega),Z9l (by simp only [List.length_append,List.length_cons,List.length_nil,j0Z];unfold LIM;omega),cond_true,j0x (by unfold nI;omega)]
  have hpre:=jdH x
  generalize hpr:([80]++be x.1.toNat 2)++be x.2.1.toNat 2++[nI x.2.2.length]=pre at hpre
  have hbody:j3P x=pre++x.2.2.flatMap j3f:=by unfold j3P;rw [hpr]
  unfold j4U
  refine (Z8x x.2.2 (λi out=>(out,i)) j3f 74886 pre (step:=j3I x.2.2 (nI x.2.2.length)) (λb=>j5C b λ(r5:Int)=>j0e b r5 3 λ(r6:List Int) (r7:Bool)=>k r6 true) (λb=>j5C b λ(r5:Int)=>j0e b r5 3 λ(r6:List Int) (r7:Bool)=>k r6 true) (by unfold LIM;omega) (λi hi _=>jcg j3f 1248 60 x.2.2 pre 74886 (λp hpp=>jax (hp p hpp)) h5 (by omega) (i+1)) (by omega) (λi out rec hi ho hB=>by
   have hpi:=hp _ (List.getElem_mem hi)
   have hs:=h.2.1 _ (List.getElem_mem hi)
   obtain ⟨p1,p2,p3⟩:=j26 hpi
   have l1:=j7L p1
   have l2:=j9W p2
   show j1r _ _ _ _ _ _=_
   unfold j1r
   dsimp only
   rw [Z9q hi,cond_true,j07 hi,cond_true,Z9a _ _ _ hi,jcr _ hs.1,p1,cond_true,jc4 _ (by omega) _ (by unfold nI;omega),Z9l (by simp only [List.length_append,j0Z];unfold LIM;omega),cond_true,jdp _ p2 _ (by simp only [List.length_append,j0Z];omega),jdp _ p3 _ (by simp only [List.length_append,j0Z];omega),j03 (n:=(i:Int)+1) (by omega)]
   congr 1
   unfold j3f
   simp only [List.append_assoc]
   rfl) (λout rec=>by
   show j1r _ _ _ _ _ _=_
   unfold j1r
   dsimp only
   rw [Z9p,cond_false])).trans ?_
  rw [<-hbody]
  have hl:=jbd hb
  have hi:=j95 hb
  have hr:=jbF hi
  rw [jef _ hi (by unfold LIM;omega),jfq _ (by omega) _ (by omega)]
  rfl
theorem jdw (x:BT) (h:jaw x) (k:List Int->Bool->Res):j0X x k=bif j1G x then k (byP x) true else k [] false:=by
 unfold j0X
 rw [jdY x h]
 cases hb:j1G x
 ·rfl
 ·rw [Bool.not_true,cond_false,cond_true]
  obtain ⟨⟨h1,h2,h3,h4,h5⟩,hp⟩:=j2H hb
  rw [jc0 _ (by simp) _ (by omega),jc0 _ (by simp only [List.length_append,List.length_cons,List.length_nil,j0Z];omega) _ (by omega),j1E _ (by simp only [List.length_append,List.length_cons,List.length_nil,j0Z];omega) _ (by unfold nI;omega)]
  have hpre:=jdH x
  generalize hpr:([80]++be x.1.toNat 2)++be x.2.1.toNat 2++[nI x.2.2.length]=pre at hpre
  have hbody:j3P x=pre++x.2.2.flatMap j3f:=by unfold j3P;rw [hpr]
  unfold j4I
  refine (Z8x x.2.2 (λi out=>(out,i)) j3f 74886 pre (step:=j3z x.2.2 (nI x.2.2.length)) (λb=>j5r b λ(r5:Int)=>j0d b r5 3 λ(r6:List Int)=>k r6 true) (λb=>j5r b λ(r5:Int)=>j0d b r5 3 λ(r6:List Int)=>k r6 true) (by unfold LIM;omega) (λi hi _=>jcg j3f 1248 60 x.2.2 pre 74886 (λp hpp=>jax (hp p hpp)) h5 (by omega) (i+1)) (by omega) (λi out rec hi ho hB=>by
   have hpi:=hp _ (List.getElem_mem hi)
   have hs:=h.2.1 _ (List.getElem_mem hi)
   obtain ⟨p1,p2,p3⟩:=j26 hpi
   have l1:=j7L p1
   have l2:=j9W p2
   show j1n _ _ _ _ _ _=_
   unfold j1n
   dsimp only
   rw [Z9q hi,cond_true,j07 hi,cond_true,Z9a _ _ _ hi,jci _ hs.1,p1,cond_true,jc0 _ (by omega) _ (by unfold nI;omega),Z9l (by simp only [List.length_append,j0Z];unfold LIM;omega),cond_true,jda _ p2 _ (by simp only [List.length_append,j0Z];omega),jda _ p3 _ (by simp only [List.length_append,j0Z];omega),j03 (n:=(i:Int)+1) (by omega)]
   congr 1
   unfold j3f
   simp only [List.append_assoc]
   rfl) (λout rec=>by
   show j1n _ _ _ _ _ _=_
   unfold j1n
   dsimp only
   rw [Z9p,cond_false])).trans ?_
  rw [<-hbody]
  have hl:=jbd hb
  have hi:=j95 hb
  have hr:=jbF hi
  rw [je2 _ hi (by unfold LIM;omega),jfn _ (by omega) _ (by omega)]
  rfl
end Go.PI.G
