/-
  Program's code interpreted over typed values; printed texts; plain laws. No conditions.
-/
import Derived.Test.YtppeoiidhmegkaaNf
import Derived.Test.YtppeoiidhmegkaaNd
import Derived.Test.YtppeoiidhmegkaaNc
import Derived.Test.YtppeoiidhmegkaaNe
set_option linter.unusedVariables false
set_option linter.unusedSimpArgs false
namespace Go.PI.G
open Go Go.PI Go.Proofs
theorem jcv {b:List Int} (hb:isB b) (at_:Nat):0<=tk b at_ 2/\tk b at_ 2<65536:=by
 unfold tk
 by_cases h:at_+2<=b.length
 ·rw [if_pos h]
  have hl:=j4P h
  have hB:=j3Z hb at_ 2
  match seg b at_ 2,hl,hB with
  | [x0,x1],_,hB=>
   have h0:=hB x0 (by simp)
   have h1:=hB x1 (by simp)
   simp only [j1Z,List.foldl_cons,List.foldl_nil]
   omega
 ·rw [if_neg h];omega
theorem jfo (n:Nat) (h:n<65536):j1Z (be n 2)=(n:Int):=by
 simp only [j1Z,be,List.foldl_cons,List.foldl_nil]
 rw [show (256:Nat) ^ 1=256 by decide,show (256:Nat) ^ 0=1 by decide]
 omega
def be2 (n:Int):List Int:=be n.toNat 2
def ok2 (n:Int):Prop:=0<=n/\n<65536
theorem j9R {b:List Int} {at_:Nat} {y:Int} {post:List Int} (hy:ok2 y) (hd:b.drop at_=be2 y++post):at_+2<=b.length/\tk b at_ 2=y/\b.drop (at_+2)=post:=by
 have hl:(be2 y).length=2:=j0Z _ _
 have:=j9S (x:=be2 y) (by omega) hd
 rw [hl] at this
 refine ⟨this.1,?_,this.2.2⟩
 rw [this.2.1]
 obtain ⟨h1,h2⟩:=hy
 have h3:=jfo y.toNat (by omega)
 show j1Z (be y.toNat 2)=y
 rw [h3];omega
def jf2 (p:PT):Prop:=j2P p=true
def okL (l:List ByteArray):Prop:=l.length<=8/\∀ s∈l,okS s
theorem jbo {l:List ByteArray} (h:j1l l=true):okL l:=⟨(j3v h).1,λs hs=>j3D (.inl ((j3v h).2 s hs))⟩
def rgL (l:List ByteArray):Prop:=l.length<=9/\∀ s∈l,rgS s
theorem jbC {l:List ByteArray} (h:rgL l):jds l:=⟨by have:=h.1;omega,h.2⟩
theorem jbe (y:PT) (post:List Int):j3f y++post=be2 (nI (byS y.1).length)++(byS y.1++(byL y.2.1++(byL y.2.2++post))):=by
 unfold j3f be2 nI
 simp only [List.append_assoc]
 rfl
theorem r2 (b:List Int) (hb:isB b) (hl:b.length<=1048576):Rd b (sS b) 900000000000 2 (λe k=>j00 2 e k) ok2 ok2 be2:=by
 intro at_ bad ha
 exact ⟨tk b at_ 2,at_+2,bad,jcv hb at_,by omega,λk=>jea b hb hl at_ 2 (by omega) (by omega) k,λhbad y post hy hd=>⟨(j9R hy hd).2.1,hbad,(j9R hy hd).2.2⟩⟩
theorem jeF (b:List Int) (hb:isB b) (hl:b.length<=1048576):Rd b (sS b) 880000000000 (1+9 * 1050010) (λe k=>j1C e k) rgL okL byL:=by
 intro at_ bad ha
 obtain ⟨l,u,v,p1,p2,p3,p4⟩:=j6M (N:=880000000000) (je7 b hb hl) (rW b hb hl) (by omega) (λi out e=>(out,i,e)) (λn=>j3b n) (λ(k:List ByteArray->(List Int×Int)->Res) out e=>k out e) cS (λn _=>jdP n) (λn i _ _ h=>jcV n i h)
  (λn i out e rec q hi ho hc=>by
   have h:=jdR hc
   show j1a n out (i:Int) e (λout i e0=>rec (out,i,e0)) q=_
   unfold j1a
   rw [decide_eq_true h.1,cond_true,decide_eq_true (show (i:Int)<=8 by omega),cond_true,Z9l (by unfold LIM;omega),j03 (n:=(i:Int)+1) (by omega)]
   rfl)
  (λn i out e rec q hi hc=>by
   show j1a n out (i:Int) e (λout i e0=>rec (out,i,e0)) q=_
   unfold j1a
   exact jdQ hc _ _) at_ bad ha
 exact ⟨l,u,v,p1,p2,λk=>p3 k,p4⟩
noncomputable def sPt (e:List Int×Int) (k:PT->(List Int×Int)->Res) (z:Res):Res:=
 j00 2 e λr e1=>j02 r e1 λr1 e2=>bif lim (ByteArray.size r1) then (j0P (Z1e r1) λr2 r3=>j1C e2 λr4 e3=>j1C e3 λr5 e4=>k (r2,r4,r5) e4) else none
theorem rPt (b:List Int) (hb:isB b) (hl:b.length<=1048576):RdF b (sS b) 870000000000 20000000 sPt je6 jf2 j3f:=by
 intro at_ bad ha
 left
 obtain ⟨r,u1,v1,a1,p1,q1,z1⟩:=r2 b hb hl at_ bad (by omega)
 obtain ⟨m,rfl⟩:∃ m:Nat,r=(m:Int):=⟨r.toNat,by have:=a1.1;omega⟩
 have hm:m<65536:=by have:=a1.2;omega
 obtain ⟨s,u2,s0,s1,s2,s3⟩:=jeJ b hb hl u1 m (by omega) (by omega)
 have hs:(Z1e s).length<=1048576:=by rw [j0s];exact s0
 obtain ⟨l1,u3,v3,a3,p3,q3,z3⟩:=jeF b hb hl u2 v1 (by omega)
 obtain ⟨l2,u4,v4,a4,p4,q4,z4⟩:=jeF b hb hl u3 v3 (by omega)
 refine ⟨((rst (Z1e s)).1,l1,l2),u4,v4,⟨jeI _,jbC a3,jbC a4⟩,by omega,λk z=> ?_,λhbad y post hy hd=> ?_⟩
 ·unfold sPt
  refine (q1 _).trans ?_
  refine (s2 _).trans ?_
  rw [Z9l (show s.size<=LIM by unfold LIM;omega),cond_true,jfu _ (j8R s) hs]
  refine (q3 _).trans ?_
  exact q4 _
 ·obtain ⟨y1,y2,y3⟩:=j26 hy
  have ln:=j7L y1
  rw [jbe] at hd
  obtain ⟨e1,f1,g1⟩:=z1 hbad (nI (byS y.1).length) _ ⟨by unfold nI;omega,by unfold nI;omega⟩ hd
  have hle:u1<=b.length:=by
   have hl2:=congrArg List.length g1
   rw [List.length_drop,List.length_append] at hl2
   have h1:1<=(byL y.2.1).length:=by unfold byL;rw [List.length_cons];omega
   rw [List.length_append] at hl2
   omega
  obtain ⟨e2,g2⟩:=s3 (byS y.1) _ (by unfold nI at e1;omega) hle g1
  obtain ⟨e3,f3,g3⟩:=z3 f1 y.2.1 _ (jbo y2) g2
  obtain ⟨e4,f4,g4⟩:=z4 f3 y.2.2 _ (jbo y3) g3
  refine ⟨?_,f4,g4⟩
  rw [e2,j4f (j9X y1),jdo y1,e3,e4]
def j9H (n:Int) (i:Nat):Bool:=decide ((i:Int)<n)&&decide (i<=60)
theorem jfx {n:Int} {i:Nat} (h:j9H n i=true):(i:Int)<n/\i<=60:=by
 unfold j9H at h
 rw [Bool.and_eq_true,decide_eq_true_eq,decide_eq_true_eq] at h
 exact h
theorem jfw {n:Int} {i:Nat} (h:j9H n i=false) (a:Res) (z:Res):(bif decide ((i:Int)<n) then (bif decide ((i:Int)<=60) then a else z) else z)=z:=by
 unfold j9H at h
 by_cases h1:(i:Int)<n
 ·rw [decide_eq_true h1,Bool.true_and,decide_eq_false_iff_not] at h
  rw [decide_eq_true h1,cond_true,decide_eq_false (show ¬ (i:Int)<=60 by omega),cond_false]
 ·rw [decide_eq_false h1,cond_false]
theorem jd6 {x:BT} {b:List Int} (h:byP x=b):b=[80]++(be2 x.1++(be2 x.2.1++(Z9t (nI x.2.2.length)++(x.2.2.flatMap j3f++be (jaV (j3P x)).toNat 3)))):=by
 rw [<-h]
 unfold byP j3P be2 Z9t
 simp only [List.append_assoc]
theorem jdB {l p:Int} {ps:List PT} (hl:0<=l) (h:ps.length<=61/\∀ q∈ps,je6 q):jaw (l,p,ps):=⟨by show ps.length<=1048576;omega,h.2,by show -4611686018427387904<=l;omega⟩
theorem jf5 (b:List Int) (hb:isB b) (hl:b.length<=1048576):∃ raw:BT,jaw raw/\(∀ k:BT->Bool->Res,j2C b k=j35 raw λr3 r4=>bif !r4 then k zBT false else bif sNe (Z34 r3) (Z34 b) then k zBT false else k raw true)/\∀ x,j1G x=true->byP x=b->raw=x:=by
 obtain ⟨r,u1,v1,a1,p1,q1,z1⟩:=r2 b hb hl 1 false (by omega)
 obtain ⟨t,u2,v2,a2,p2,q2,z2⟩:=r2 b hb hl u1 v1 (by omega)
 obtain ⟨n,u3,v3,a3,p3,q3,z3⟩:=rB b hb hl u2 v2 (by omega)
 have key:=λ(ff:(BT->Res)->Res)=>jdm (rPt b hb hl) 61 (λi out e=>(i,((r,t,out):BT),e)) (j2T n) (λ(k:BT->Res) out e=>k (r,t,out)) ff (j9H n) (by unfold j9H;simp)
  (λi out e rec q hi ho hc=>by
   have h:=jfx hc
   show j0V n (i:Int) (r,t,out) e (λi x e0=>rec (i,x,e0)) q=_
   unfold j0V sPt
   dsimp only
   rw [decide_eq_true h.1,cond_true,decide_eq_true (show (i:Int)<=60 by omega),cond_true,Z9l (n:=out.length+1) (by unfold LIM;omega),j03 (n:=(i:Int)+1) (by omega)]
   rfl)
  (λi out e rec q hi hc=>by
   show j0V n (i:Int) (r,t,out) e (λi x e0=>rec (i,x,e0)) q=_
   unfold j0V
   exact jfw hc _ _) 61 0 Z12 [] u3 v3 (by omega) (Z1U (by omega)) rfl (λx hx=>by cases hx) (by omega)
 rcases key (λ_=>none) with ⟨ps,u4,v4,a4,p4,q4,z4⟩ | ⟨q4,z4⟩
 ·refine ⟨(r,t,ps),jdB a1.1 a4,λk=> ?_,λx hx he=> ?_⟩
  ·unfold j2C
   refine (q1 _).trans ?_
   refine (q2 _).trans ?_
   refine (q3 _).trans ?_
   exact q4 _
  ·obtain ⟨⟨h1,h2,h3,h4,h5⟩,h6⟩:=j2H hx
   have hd:=jd6 he
   have hd:b.drop 1=_:=congrArg (List.drop 1) hd
   obtain ⟨e1,f1,g1⟩:=z1 rfl x.1 _ ⟨by omega,by omega⟩ hd
   obtain ⟨e2,f2,g2⟩:=z2 f1 x.2.1 _ ⟨by omega,by omega⟩ g1
   obtain ⟨e3,f3,g3⟩:=z3 f2 (nI x.2.2.length) _ trivial g2
   have:=z4 f3 x.2.2 _ h6 (λj j1 j2=>by
    unfold j9H
    rw [e3,decide_eq_true (show (j:Int)<nI x.2.2.length by unfold nI;omega),decide_eq_true (show j<=60 by omega)];rfl) (by
    unfold j9H
    rw [e3,decide_eq_false (show ¬ ((0+x.2.2.length:Nat):Int)<nI x.2.2.length by unfold nI;omega)];rfl) g3
   rw [e1,e2,this.1]
   rfl
 ·exfalso
  have h1:=q4 (λ_=>some ())
  rcases key (λ_=>some ()) with ⟨ps,u4,v4,a4,p4,q5,z5⟩ | ⟨q5,z5⟩
  ·exact absurd ((q5 (λ_=>some ())).symm.trans h1) (by simp)
  ·exact absurd ((q5 (λ_=>some ())).symm.trans h1) (by simp)
theorem i2 (b:List Int) (hb:isB b) (hl:b.length<=1048576):Rd b (iS b) 900000000000 2 (λe k=>j05 2 e k) ok2 ok2 be2:=by
 intro at_ bad ha
 have hn:∀ k,j05 2 (b,(at_:Int),bad) k=j97 b at_ 2 bad k:=λk=>jdX b hb hl at_ 2 (by omega) (by omega) bad k
 cases bad
 ·by_cases h:at_+2<=b.length
  ·refine ⟨tk b at_ 2,at_+2,false,jcv hb at_,by omega,λk=> ?_,λ_ y post hy hd=>⟨(j9R hy hd).2.1,rfl,(j9R hy hd).2.2⟩⟩
   refine (hn k).trans ?_
   unfold j97
   rw [cond_false,decide_eq_true h,cond_true]
   rfl
  ·refine ⟨0,at_,true,⟨by omega,by omega⟩,by omega,λk=> ?_,λ_ y post hy hd=>absurd (j9R hy hd).1 h⟩
   refine (hn k).trans ?_
   unfold j97
   rw [cond_false,decide_eq_false h,cond_false]
   rfl
 ·refine ⟨0,at_,true,⟨by omega,by omega⟩,by omega,λk=> ?_,λh=>by cases h⟩
  exact hn k
theorem jfA (b:List Int) (hb:isB b) (hl:b.length<=1048576) (at_ m:Nat) (ha:at_<=900000000000) (hm:m<70000) (bad:Bool):∃ (r:List Int) (u:Nat) (v:Bool),isB r/\r.length<=1048576/\u<=at_+m/\(∀ k,j0f (m:Int) (b,(at_:Int),bad) k=k r (b,(u:Int),v)) /\
  (bad=false->∀ (x:List Int) post,x.length=m->at_<=b.length->b.drop at_=x++post->r=x/\v=false/\b.drop u=post):=by
 cases bad
 ·by_cases h:at_+m<=b.length
  ·refine ⟨seg b at_ m,at_+m,false,j3Z hb _ _,by rw [j4P h];omega,by omega,λk=> ?_,λ_ x post hx _ hd=> ?_⟩
   ·unfold j0f
    dsimp only
    rw [cond_false,j03 (n:=nI b.length-(at_:Int)) (by unfold nI;omega),decide_eq_false (show ¬ (m:Int)>nI b.length-(at_:Int) by unfold nI;omega),cond_false,j03 (n:=(at_:Int)+(m:Int)) (by omega),show (at_:Int)+(m:Int)-(m:Int)=(at_:Int) by omega,j03 (n:=(at_:Int)) (by omega)]
    have hc:Z6Z (at_:Int) ((at_:Int)+(m:Int)) b.length=true:=decide_eq_true (by omega)
    rw [hc,cond_true,j91]
    rfl
   ·subst hx
    unfold seg
    rw [hd,List.take_left,<-List.drop_drop,hd,List.drop_left]
    exact ⟨rfl,rfl,rfl⟩
  ·refine ⟨[],at_,true,j3k,Nat.zero_le _,by omega,λk=> ?_,λ_ x post hx hle hd=> ?_⟩
   ·unfold j0f
    dsimp only
    rw [cond_false,j03 (n:=nI b.length-(at_:Int)) (by unfold nI;omega),decide_eq_true (show (m:Int)>nI b.length-(at_:Int) by unfold nI;omega),cond_true]
   ·have hl:=congrArg List.length hd
    rw [List.length_drop,List.length_append] at hl
    omega
 ·exact ⟨[],at_,true,j3k,Nat.zero_le _,by omega,λk=>rfl,λh=>by cases h⟩
noncomputable def iPt (e:List Int×Int×Bool) (k:PT->(List Int×Int×Bool)->Res) (z:Res):Res:=
 j05 2 e λr e1=>j0f r e1 λr1 e2=>j0N r1 λr2 r3=>bif !r3 then z else j0o e2 λr4 e3=>j0o e3 λr5 e4=>k (r2,r4,r5) e4
theorem jdD (b:List Int) (hb:isB b) (hl:b.length<=1048576):Rd b (iS b) 780000000000 (6+9 * 300) (λe k=>j0o e k) rgL okL byL:=jev b hb hl
theorem jfH (b:List Int) (hb:isB b) (hl:b.length<=1048576):RdF b (iS b) 770000000000 80000 iPt je6 jf2 j3f:=by
 intro at_ bad ha
 obtain ⟨r,u1,v1,a1,p1,q1,z1⟩:=i2 b hb hl at_ bad (by omega)
 obtain ⟨m,rfl⟩:∃ m:Nat,r=(m:Int):=⟨r.toNat,by have:=a1.1;omega⟩
 have hm:m<65536:=by have:=a1.2;omega
 obtain ⟨s,u2,v2,s0,s1,p2,q2,z2⟩:=jfA b hb hl u1 m (by omega) (by omega) v1
 obtain ⟨l1,u3,v3,a3,p3,q3,z3⟩:=jdD b hb hl u2 v2 (by omega)
 obtain ⟨l2,u4,v4,a4,p4,q4,z4⟩:=jdD b hb hl u3 v3 (by omega)
 have hu:∀ (k:PT->(List Int×Int×Bool)->Res) z,iPt (iS b at_ bad) k z=bif !(rst s).2 then z else k ((rst s).1,l1,l2) (iS b u4 v4):=λk z=>by
  unfold iPt
  refine (q1 _).trans ?_
  refine (q2 _).trans ?_
  rw [jfl _ s0 s1]
  cases (rst s).2
  ·rfl
  ·rw [Bool.not_true,cond_false,cond_false]
   refine (q3 _).trans ?_
   exact q4 _
 have back:bad=false->∀ y post,jf2 y->b.drop at_=j3f y++post->s=byS y.1/\l1=y.2.1/\l2=y.2.2/\v4=false/\b.drop u4=post:=λhbad y post hy hd=>by
  obtain ⟨y1,y2,y3⟩:=j26 hy
  have ln:=j7L y1
  rw [jbe] at hd
  obtain ⟨e1,f1,g1⟩:=z1 hbad (nI (byS y.1).length) _ ⟨by unfold nI;omega,by unfold nI;omega⟩ hd
  have hle:u1<=b.length:=by
   have hl2:=congrArg List.length g1
   rw [List.length_drop,List.length_append] at hl2
   have h1:1<=(byL y.2.1).length:=by unfold byL;rw [List.length_cons];omega
   rw [List.length_append] at hl2
   omega
  obtain ⟨e2,f2,g2⟩:=z2 f1 (byS y.1) _ (by unfold nI at e1;omega) hle g1
  obtain ⟨e3,f3,g3⟩:=z3 f2 y.2.1 _ (jbo y2) g2
  obtain ⟨e4,f4,g4⟩:=z4 f3 y.2.2 _ (jbo y3) g3
  exact ⟨e2,e3,e4,f4,g4⟩
 cases hr:(rst s).2
 ·refine .inr ⟨λk z=>by rw [hu,hr];rfl,λhbad y post hy hd=> ?_⟩
  have h:=back hbad y post hy hd
  rw [h.1,jdo (j26 hy).1] at hr
  cases hr
 ·refine .inl ⟨((rst s).1,l1,l2),u4,v4,⟨jeI _,jbC a3,jbC a4⟩,by omega,λk z=>by rw [hu,hr];rfl,λhbad y post hy hd=> ?_⟩
  have h:=back hbad y post hy hd
  refine ⟨?_,h.2.2.2.1,h.2.2.2.2⟩
  rw [h.1,jdo (j26 hy).1,h.2.1,h.2.2.1]
def jfL (n:Int):Prop:=0<=n/\n<=60
theorem jfj (b:List Int) (hb:isB b) (hl:b.length<=1048576):Rd b (iS b) 900000000000 6 (λe k=>j06 60 e k) jfL (λn=>0<=n/\n<=60) (λn=>[n]):=by
 intro at_ bad ha
 obtain ⟨n,u,v,r1,p1,q1,z1⟩:=iB b hb hl at_ bad ha
 have hu:∀ k,j06 60 (b,(at_:Int),bad) k=(bif decide (n>60) then k 0 (b,(u:Int),true) else bif v then k 0 (b,(u:Int),v) else k n (b,(u:Int),v)):=λk=>by
  unfold j06
  exact q1 _
 by_cases h8:n>60
 ·refine ⟨0,u,true,⟨by omega,by omega⟩,p1,λk=>by
   show j06 60 (b,(at_:Int),bad) k=_
   rw [hu,decide_eq_true h8];rfl,λhbad y post hy hd=> ?_⟩
  have:=(z1 hbad y post trivial hd).1
  omega
 ·cases v
  ·refine ⟨n,u,false,⟨r1.1,by omega⟩,p1,λk=>by
    show j06 60 (b,(at_:Int),bad) k=_
    rw [hu,decide_eq_false h8];rfl,λhbad y post hy hd=>z1 hbad y post trivial hd⟩
  ·refine ⟨0,u,true,⟨by omega,by omega⟩,p1,λk=>by
    show j06 60 (b,(at_:Int),bad) k=_
    rw [hu,decide_eq_false h8];rfl,λhbad y post hy hd=> ?_⟩
   exact absurd (z1 hbad y post trivial hd).2.1 (by simp)
theorem jeY (b:List Int) (hb:isB b) (hl:b.length<=1048576):(∃ (raw:BT) (bad:Bool),jaw raw/\(∀ k:BT->Bool->Res,j1d b k=j0X raw λr3 r4=>bif bad then k zBT false else bif !r4 then k zBT false else bif sNe (Z34 r3) (Z34 b) then k zBT false else k raw true)/\∀ x,j1G x=true->byP x=b->raw=x/\bad=false) \/
  ((∀ k:BT->Bool->Res,j1d b k=k zBT false)/\∀ x,j1G x=true->byP x=b->False):=by
 obtain ⟨r0,u0,v0,a0,p0,q0,z0⟩:=iB b hb hl 0 false (by omega)
 obtain ⟨r,u1,v1,a1,p1,q1,z1⟩:=i2 b hb hl u0 v0 (by omega)
 obtain ⟨t,u2,v2,a2,p2,q2,z2⟩:=i2 b hb hl u1 v1 (by omega)
 obtain ⟨n,u3,v3,a3,p3,q3,z3⟩:=jfj b hb hl u2 v2 (by omega)
 have Z3r:∀ x,j1G x=true->byP x=b->r=x.1/\t=x.2.1/\n=nI x.2.2.length/\v3=false/\b.drop u3=x.2.2.flatMap j3f++be (jaV (j3P x)).toNat 3:=λx hx he=>by
  obtain ⟨⟨h1,h2,h3,h4,h5⟩,h6⟩:=j2H hx
  have hd:=jd6 he
  have hd:b.drop 0=_:=hd
  obtain ⟨e0,f0,g0⟩:=z0 rfl 80 _ trivial hd
  obtain ⟨e1,f1,g1⟩:=z1 f0 x.1 _ ⟨by omega,by omega⟩ g0
  obtain ⟨e2,f2,g2⟩:=z2 f1 x.2.1 _ ⟨by omega,by omega⟩ g1
  obtain ⟨e3,f3,g3⟩:=z3 f2 (nI x.2.2.length) _ ⟨by unfold nI;omega,by unfold nI;omega⟩ g2
  exact ⟨e1,e2,e3,f3,g3⟩
 have key:=jdm (jfH b hb hl) 60 (λi out e=>(i,((r,t,out):BT),e)) (j2K n) (λ(k:(BT->(List Int×Int×Bool)->Res)×(Unit->Res)) out e=>k.1 (r,t,out) e) (λk=>k.2 ()) (cI n) (decide_eq_false (by have:=a3.2;omega))
  (λi out e rec q hi ho hc=>by
   show j0S n (i:Int) (r,t,out) e (λi x e0=>rec (i,x,e0)) q.1 q.2=_
   unfold j0S iPt
   dsimp only
   rw [show decide ((i:Int)<n)=true from hc,cond_true,Z9l (n:=out.length+1) (by unfold LIM;omega),j03 (n:=(i:Int)+1) (by omega)]
   rfl)
  (λi out e rec q hi hc=>by
   show j0S n (i:Int) (r,t,out) e (λi x e0=>rec (i,x,e0)) q.1 q.2=_
   unfold j0S
   rw [show decide ((i:Int)<n)=false from hc,cond_false]) 60 0 Z12 [] u3 v3 (by omega) (Z1U (by omega)) rfl (λx hx=>by cases hx) (by omega)
 have lens:∀ x,j1G x=true->n=nI x.2.2.length->(∀ j,0<=j->j<0+x.2.2.length->cI n j=true)/\cI n (0+x.2.2.length)=false:=λx hx e3=>
  ⟨λj j1 j2=>by rw [e3];exact decide_eq_true (by unfold nI;omega),by rw [e3];exact decide_eq_false (by unfold nI;omega)⟩
 rcases key with ⟨ps,u4,v4,a4,p4,q4,z4⟩ | ⟨q4,z4⟩
 ·refine .inl ⟨(r,t,ps),v4,jdB a1.1 ⟨by have:=a4.1;omega,a4.2⟩,λk=> ?_,λx hx he=> ?_⟩
  ·unfold j1d
   refine (q0 _).trans ?_
   refine (q1 _).trans ?_
   refine (q2 _).trans ?_
   refine (q3 _).trans ?_
   refine (q4 ((λ(b_1:BT) (t:List Int×Int×Bool)=>j0X b_1 λ(r4:List Int) (r5:Bool)=>j1o r5 b r4 t λ(t1:Bool)=>bif t1 then k zBT false else k b_1 true),(λ(_:Unit)=>k zBT false))).trans ?_
   show (j0X (r,t,ps) λ(r4:List Int) (r5:Bool)=>j1o r5 b r4 (b,(u4:Int),v4) λ(t1:Bool)=>bif t1 then k zBT false else k (r,t,ps) true)=_
   rfl
  ·obtain ⟨e1,e2,e3,e4,e5⟩:=Z3r x hx he
   have:=z4 e4 x.2.2 _ (j2H hx).2 (lens x hx e3).1 (lens x hx e3).2 e5
   exact ⟨by rw [e1,e2,this.1];rfl,this.2.1⟩
 ·refine .inr ⟨λk=> ?_,λx hx he=> ?_⟩
  ·unfold j1d
   refine (q0 _).trans ?_
   refine (q1 _).trans ?_
   refine (q2 _).trans ?_
   refine (q3 _).trans ?_
   exact q4 ((λ(b_1:BT) (t:List Int×Int×Bool)=>j0X b_1 λ(r4:List Int) (r5:Bool)=>j1o r5 b r4 t λ(t1:Bool)=>bif t1 then k zBT false else k b_1 true),(λ(_:Unit)=>k zBT false))
  ·obtain ⟨e1,e2,e3,e4,e5⟩:=Z3r x hx he
   exact z4 e4 x.2.2 _ (j2H hx).2 (lens x hx e3).1 (lens x hx e3).2 e5
noncomputable def prd (b:List Int):BT×Bool:=by
 classical
 exact if h:∃ x,j1G x=true/\byP x=b then (h.choose,true) else (zBT,false)
theorem jdG (b:List Int) (hb:isB b) (raw:BT) (bad:Bool) (hback:∀ x,j1G x=true->byP x=b->raw=x/\bad=false) (k:BT->Bool->Res) :
  (bif j1G raw then (bif bad then k zBT false else bif !true then k zBT false else bif sNe (Z34 (byP raw)) (Z34 b) then k zBT false else k raw true) else (bif bad then k zBT false else bif !false then k zBT false else bif sNe (Z34 []) (Z34 b) then k zBT false else k raw true))=k (prd b).1 (prd b).2:=by
 unfold prd
 by_cases h:∃ x,j1G x=true/\byP x=b
 ·rw [dif_pos h]
  have hc:=h.choose_spec
  obtain ⟨hr,hbad⟩:=hback h.choose hc.1 hc.2
  rw [hr,hc.1,cond_true,hbad,cond_false,hc.2,Z8U]
  rfl
 ·rw [dif_neg h]
  cases hs:j1G raw
  ·cases bad<;>rfl
  ·cases bad
   ·rw [cond_true,cond_false]
    cases hn:sNe (Z34 (byP raw)) (Z34 b)
    ·exact absurd ⟨raw,hs,jao (jfi hs) hb ((jc5 _ _).1 hn)⟩ h
    ·rfl
   ·rfl
theorem jft (b:List Int) (hb:isB b) (hl:b.length<=1048576) (k:BT->Bool->Res):j2C b k=k (prd b).1 (prd b).2:=by
 obtain ⟨raw,h1,h2,h3⟩:=jf5 b hb hl
 rw [h2,jdz raw h1]
 exact jdG b hb raw false (λx hx he=>⟨h3 x hx he,rfl⟩) k
theorem jfk (b:List Int) (hb:isB b) (hl:b.length<=1048576) (k:BT->Bool->Res):j1d b k=k (prd b).1 (prd b).2:=by
 rcases jeY b hb hl with ⟨raw,bad,h1,h2,h3⟩ | ⟨h1,h2⟩
 ·rw [h2,jdw raw h1]
  exact jdG b hb raw bad h3 k
 ·rw [h1]
  have:¬ ∃ x,j1G x=true/\byP x=b:=λ⟨x,hx,he⟩=>h2 x hx he
  unfold prd
  rw [dif_neg this]
end Go.PI.G
set_option maxRecDepth 10000
namespace Go.PI.G
open Go Go.PI Go.Proofs
theorem j9I (a:(List Int)) (h:msr y20 a<=1048576) (k:Bool->Res):j25 a a k=k true:=by
 have hl:a.length<=1048576:=j4N h
 unfold j25
 rw [Z9o,cond_false]
 unfold j6J
 rw [Z93 a _ (by unfold LIM;omega) (λi rec hi=> ?_) (λrec=> ?_)]
 ·show j2e a a _ _ _ _=_
  unfold j2e
  simp only [Z9q hi,cond_true,j07 hi,Z9a _ _ _ hi,j03 (n:=(i:Int)+1) (by omega),Z9o,Z8U,cond_false,Bool.not_true]
 ·show j2e a a _ _ _ _=_
  unfold j2e
  rw [Z9p,cond_false]
theorem jdy (a:(List Int)) (k:Int) (h:msr y20 a<=1048576) (h0:1<=k) (hk:k+(wgt y20 a:Int)<=4294967296) (K:Int->(List Int)->Res):j3U a k K=K (k+(wgt y20 a:Int)) (mkL (wgt (.int .i64)) (mk (.int .i64)) a k):=by
 have hl:a.length<=1048576:=j4N h
 have hwg:wgt y20 a=(a.map (wgt (.int .i64))).sum:=rfl
 rw [hwg] at hk ⊢
 unfold j3U j5v
 have:=Z8D (wgt (.int .i64)) (mk (.int .i64)) a k (λl k i=>(l,k,i)) (step:=j4o) (λl k=>K k l) (λl k=>K k l) (by unfold LIM;omega) (λl i rec hi hll hli hla=>by
  have e1:=Z6s (wgt (.int .i64)) a i hi
  have e2:=Z8p (wgt (.int .i64)) a (i+1)
  generalize hκ:k+((((a.take i).map (wgt (.int .i64))).sum:Nat):Int)=κ
  have hκ1:1<=κ/\κ+(wgt (.int .i64) a[i]:Int)<=4294967296:=by omega
  have hw:(wgt (.int .i64) a[i]:Int)=1:=by
   have:wgt (.int .i64) a[i]=1:=by first | rfl | (simp only [wgt];done) | (simp only [wgt];omega)
   first | rfl | omega
  show j1y _ _ _ _ _=_
  dsimp only
  unfold j1y
  rw [<-hll] at hi
  have hi':i<a.length:=by omega
  simp (disch:=first | assumption | omega) only [show nI a.length=nI l.length by rw [hll],Z9q,j07,jcc,cond_true,jbZ,jcd,Z9a,hla,j03,<-hll]
  rw [Z9h]
  congr 3<;>first | rfl | omega | (simp only [j6L,j5w,j7V,j98,j6K,j7W,j5K,j72,j5J,j73,Int.natCast_add,Int.natCast_one,<-Int.add_assoc];done) | (simp only [j6L,j5w,j7V,j98,j6K,j7W,j5K,j72,j5J,j73,Int.natCast_add,Int.natCast_one,<-Int.add_assoc];rfl) | skip) (λl k rec hll=>by
  show j1y _ _ _ _ _=_
  dsimp only
  unfold j1y
  rw [<-hll,Z9p,cond_false])
 exact this
theorem jak (a:(List Int)) (k:Int) (h:msr y20 a<=1048576) (h0:1<=k) (hk:k+(wgt y20 a:Int)<=4294967296) (K:Int->Res):j2z (mkL (wgt (.int .i64)) (mk (.int .i64)) a k) k K=K (k+(wgt y20 a:Int)):=by
 have hl:a.length<=1048576:=j4N h
 have hwg:wgt y20 a=(a.map (wgt (.int .i64))).sum:=rfl
 rw [hwg] at hk ⊢
 have hll:=Z5t (wgt (.int .i64)) (mk (.int .i64)) a k
 have hg:=Z96 (wgt (.int .i64)) (mk (.int .i64)) a k
 generalize mkL (wgt (.int .i64)) (mk (.int .i64)) a k=l at hll hg
 unfold j2z j5u
 have:=Z8A (wgt (.int .i64)) a k (λk i=>(k,i)) (step:=j4n l) ((λ(k_1:Int)=>K k_1),(λ(_:Unit)=>K (-1))) (λk=>K k) (by unfold LIM;omega) (λi rec hi=>by
  have e1:=Z6s (wgt (.int .i64)) a i hi
  have e2:=Z8p (wgt (.int .i64)) a (i+1)
  have hgi:=hg i hi (by omega)
  generalize hκ:k+((((a.take i).map (wgt (.int .i64))).sum:Nat):Int)=κ at hgi
  have hκ1:1<=κ/\κ+(wgt (.int .i64) a[i]:Int)<=4294967296:=by omega
  have hw:(wgt (.int .i64) a[i]:Int)=1:=by
   have:wgt (.int .i64) a[i]=1:=by first | rfl | (simp only [wgt];done) | (simp only [wgt];omega)
   first | rfl | omega
  show j1x _ _ _ _ _ _=_
  dsimp only
  unfold j1x
  have hi':i<l.length:=by omega
  simp (disch:=first | assumption | omega) only [Z9q,j07,cond_true,cond_false,Z9a,hgi,j6L,j5w,j7V,j98,j6K,j7W,j5K,j72,j5J,j73,Int.natCast_add,Int.natCast_one,<-Int.add_assoc,j03,Z9o,Z8U,beq_self_eq_true,Bool.not_true,Z8I]
  all_goals (congr 2;omega)) (λk rec=>by
  show j1x _ _ _ _ _ _=_
  dsimp only
  unfold j1x
  rw [<-hll,Z9p,cond_false])
 exact this
end Go.PI.G
namespace Go.PI.G
open Go Go.PI Go.Proofs
theorem jej (a:(List Int)) (h:msr y0 a<=1048576) (k:(List Int)->Res):j66 a k=k a:=by
 have hl:a.length<=1048576:=j4N h
 unfold j66
 rw [Z97 (by unfold LIM;omega),cond_true]
 have:=Z9e (0) a id (step:=j51 a) (λout=>k out) (by unfold LIM;omega) (λout i rec hi hlo=>by
  show j1R a _ _ _ _=_
  unfold j1R
  dsimp only
  simp only [Z9q hi,cond_true,j07 hi,j07 (show i<out.length by omega),Z9a _ _ _ hi,Z9h,j03 (n:=(i:Int)+1) (by omega)]
  rfl) (λout rec=>by
  show j1R a _ _ _ _=_
  unfold j1R
  dsimp only
  rw [Z9p,cond_false])
 rw [List.map_id] at this
 exact this
theorem jeg (a:(List Int)) (left:Int) (h0:0<=left) (h1:left<=1048576) (hw:Wf y0 a) (k:Int->Res):j63 a left k=k (szR left (msr y0 a)):=by
 have hl:a.length<=maxLen:=hw.1
 have hm:msr y0 a=a.length+0:=by
  have:∀ l:List Int,(l.map (msr (.int .u8))).sum=0:=λl=>by
   induction l with
   | nil=>rfl
   | cons x l ih=>simpa [msr] using ih
  rw [jez,this]
 rw [hm]
 unfold j63
 exact jeN h0 h1 hl λhb=>jdr (by omega)
theorem jdT (a:(List Int)) (h:msr y0 a<=1048576) (k:Bool->Res):j5Y a a k=k true:=by
 have hl:a.length<=1048576:=j4N h
 unfold j5Y
 rw [Z9o,cond_false]
 unfold j5Z
 rw [Z93 a _ (by unfold LIM;omega) (λi rec hi=> ?_) (λrec=> ?_)]
 ·show j1O a a _ _ _ _=_
  unfold j1O
  simp only [Z9q hi,cond_true,j07 hi,Z9a _ _ _ hi,j03 (n:=(i:Int)+1) (by omega),Z9o,Z8U,cond_false,Bool.not_true]
 ·show j1O a a _ _ _ _=_
  unfold j1O
  rw [Z9p,cond_false]
theorem jdc (a:(List Int)) (k:Int) (h:msr y0 a<=1048576) (h0:1<=k) (hk:k+(wgt y0 a:Int)<=4294967296) (K:Int->(List Int)->Res):j4L a k K=K (k+(wgt y0 a:Int)) (mkL (wgt (.int .u8)) (mk (.int .u8)) a k):=by
 have hl:a.length<=1048576:=j4N h
 have hwg:wgt y0 a=(a.map (wgt (.int .u8))).sum:=rfl
 rw [hwg] at hk ⊢
 unfold j4L j4Z
 have:=Z8D (wgt (.int .u8)) (mk (.int .u8)) a k (λl k i=>(l,k,i)) (step:=j42) (λl k=>K k l) (λl k=>K k l) (by unfold LIM;omega) (λl i rec hi hll hli hla=>by
  have e1:=Z6s (wgt (.int .u8)) a i hi
  have e2:=Z8p (wgt (.int .u8)) a (i+1)
  generalize hκ:k+((((a.take i).map (wgt (.int .u8))).sum:Nat):Int)=κ
  have hκ1:1<=κ/\κ+(wgt (.int .u8) a[i]:Int)<=4294967296:=by omega
  have hw:(wgt (.int .u8) a[i]:Int)=1:=by
   have:wgt (.int .u8) a[i]=1:=by first | rfl | (simp only [wgt];done) | (simp only [wgt];omega)
   first | rfl | omega
  show j1i _ _ _ _ _=_
  dsimp only
  unfold j1i
  rw [<-hll] at hi
  have hi':i<a.length:=by omega
  simp (disch:=first | assumption | omega) only [show nI a.length=nI l.length by rw [hll],Z9q,j07,jcc,cond_true,jbZ,jcd,Z9a,hla,j03,<-hll]
  rw [Z9h]
  congr 3<;>first | rfl | omega | (simp only [j6L,j5w,j7V,j98,j6K,j7W,j5K,j72,j5J,j73,Int.natCast_add,Int.natCast_one,<-Int.add_assoc];done) | (simp only [j6L,j5w,j7V,j98,j6K,j7W,j5K,j72,j5J,j73,Int.natCast_add,Int.natCast_one,<-Int.add_assoc];rfl) | skip) (λl k rec hll=>by
  show j1i _ _ _ _ _=_
  dsimp only
  unfold j1i
  rw [<-hll,Z9p,cond_false])
 exact this
end Go.PI.G
namespace Go.PI.G
open Go Go.PI Go.Proofs
theorem jeO (a:List Int) (h:msr y0 a<=1048576) (k:(List Int)->Res):j78 a k=k a:=by
 have h0:msr y0 a<=1048576:=h
 unfold j78
 simp only [jej _ h0]
theorem jeM (a:List Int) (left:Int) (h0:0<=left) (h1:left<=1048576) (hw:Wf y0 a) (k:Int->Res):j77 a left k=k (szR left (msr y0 a)):=by
 have hm:msr y0 a=msr y0 a+0:=rfl
 rw [hm]
 unfold j77
 rw [jeg _ _ (by omega) (by omega) hw]
 by_cases hb0:((msr y0 a:Nat):Int)<=left
 rotate_left
 ·rw [Z9b hb0,Z8X hb0,Z8J (by omega),cond_true]
 rw [Z9c hb0,Z8W hb0,Z8I (by omega),cond_false]
 exact jdr (by omega)
theorem jeu (a:List Int) (h:msr y0 a<=1048576) (k:Bool->Res):j76 a a k=k true:=by
 have h0:msr y0 a<=1048576:=h
 unfold j76
 simp only [Z9o,Z8U,beq_self_eq_true,cond_false,Bool.not_true,jdT _ h0]
end Go.PI.G
namespace Go.PI.G
open Go Go.PI Go.Proofs
theorem jek (a:(List (List Int))) (h:msr y19 a<=1048576) (k:(List (List Int))->Res):j67 a k=k a:=by
 have hl:a.length<=1048576:=j4N h
 unfold j67
 rw [Z97 (by unfold LIM;omega),cond_true]
 have:=Z9e ([]) a id (step:=j52 a) (λout=>k out) (by unfold LIM;omega) (λout i rec hi hlo=>by
  show j1S a _ _ _ _=_
  unfold j1S
  dsimp only
  simp only [Z9q hi,cond_true,j07 hi,j07 (show i<out.length by omega),Z9a _ _ _ hi,Z9h,j03 (n:=(i:Int)+1) (by omega),jeO _ (jbY h (List.getElem_mem hi))]
  rfl) (λout rec=>by
  show j1S a _ _ _ _=_
  unfold j1S
  dsimp only
  rw [Z9p,cond_false])
 rw [List.map_id] at this
 exact this
theorem jeh (a:(List (List Int))) (left:Int) (h0:0<=left) (h1:left<=1048576) (hw:Wf y19 a) (k:Int->Res):j65 a left k=k (szR left (msr y19 a)):=by
 have hl:a.length<=maxLen:=hw.1
 have hm:msr y19 a=a.length+(a.map (msr y0)).sum:=rfl
 rw [hm]
 unfold j65
 refine jeN (F:=λq=>j49 a Z12 q 0 (λleft1=>k left1) (λ_=>k (-1))) (k:=k) h0 h1 hl λhb=> ?_
 unfold j49
 rw [Z9d (msr y0) a _ (by omega) (λleft i rec hi h0 h1=> ?_) (λleft rec=> ?_) _ (by omega) (by omega)]
 ·by_cases hb:(((a.map (msr y0)).sum:Nat):Int)<=left-a.length
  ·rw [if_pos hb,Z9c hb]
  ·rw [if_neg hb,Z9b hb]
 ·show j1Q a _ _ _ _ _=_
  have hx:=hw.2 _ (List.getElem_mem hi)
  unfold j1Q
  rw [Z9q hi,cond_true,j07 hi,cond_true,Z9a _ _ _ hi,jeM _ _ h0 h1 hx]
  have hi9:(i:Int)<4611686018427387904:=by unfold maxLen at hl;omega
  rw [j03 (n:=(i:Int)+1) (by omega)]
  by_cases hb:((msr y0 a[i]:Nat):Int)<=left
  ·rw [if_pos hb,Z9c hb,Z8I (by omega),cond_false]
  ·rw [if_neg hb,Z9b hb,Z8J (by omega),cond_true]
 ·show j1Q a _ _ _ _ _=_
  unfold j1Q
  rw [Z9p,cond_false]
theorem jdV (a:(List (List Int))) (h:msr y19 a<=1048576) (k:Bool->Res):j61 a a k=k true:=by
 have hl:a.length<=1048576:=j4N h
 unfold j61
 rw [Z9o,cond_false]
 unfold j62
 rw [Z93 a _ (by unfold LIM;omega) (λi rec hi=> ?_) (λrec=> ?_)]
 ·show j1P a a _ _ _ _=_
  unfold j1P
  simp only [Z9q hi,cond_true,j07 hi,Z9a _ _ _ hi,j03 (n:=(i:Int)+1) (by omega),Z9o,Z8U,cond_false,Bool.not_true,jeu _ (jbY h (List.getElem_mem hi))]
 ·show j1P a a _ _ _ _=_
  unfold j1P
  rw [Z9p,cond_false]
theorem jdd (a:(List (List Int))) (k:Int) (h:msr y19 a<=1048576) (h0:1<=k) (hk:k+(wgt y19 a:Int)<=4294967296) (K:Int->(List (List Int))->Res):j4M a k K=K (k+(wgt y19 a:Int)) (mkL (wgt y0) (mk y0) a k):=by
 have hl:a.length<=1048576:=j4N h
 have hwg:wgt y19 a=(a.map (wgt y0)).sum:=rfl
 rw [hwg] at hk ⊢
 unfold j4M j50
 have:=Z8D (wgt y0) (mk y0) a k (λl k i=>(l,k,i)) (step:=j43) (λl k=>K k l) (λl k=>K k l) (by unfold LIM;omega) (λl i rec hi hll hli hla=>by
  have e1:=Z6s (wgt y0) a i hi
  have e2:=Z8p (wgt y0) a (i+1)
  generalize hκ:k+((((a.take i).map (wgt y0)).sum:Nat):Int)=κ
  have hκ1:1<=κ/\κ+(wgt y0 a[i]:Int)<=4294967296:=by omega
  have hw:(wgt y0 a[i]:Int)=(wgt y0 a[i]:Int):=by
   have:wgt y0 a[i]=(wgt y0 a[i]):=by first | rfl | (simp only [wgt];done) | (simp only [wgt];omega)
   first | rfl | omega
  have hr0:msr y0 a[i]<=1048576:=(jbY h (List.getElem_mem hi))
  show j1j _ _ _ _ _=_
  dsimp only
  unfold j1j
  rw [<-hll] at hi
  have hi':i<a.length:=by omega
  simp (disch:=first | assumption | omega) only [show nI a.length=nI l.length by rw [hll],Z9q,j07,jcc,cond_true,jbZ,jcd,Z9a,hla,j03,jdc,<-hll]
  rw [Z9h]
  congr 3<;>first | rfl | omega | (simp only [j6L,j5w,j7V,j98,j6K,j7W,j5K,j72,j5J,j73,Int.natCast_add,Int.natCast_one,<-Int.add_assoc];done) | (simp only [j6L,j5w,j7V,j98,j6K,j7W,j5K,j72,j5J,j73,Int.natCast_add,Int.natCast_one,<-Int.add_assoc];rfl) | skip) (λl k rec hll=>by
  show j1j _ _ _ _ _=_
  dsimp only
  unfold j1j
  rw [<-hll,Z9p,cond_false])
 exact this
end Go.PI.G
namespace Go.PI.G
open Go Go.PI Go.Proofs
theorem j9f (a:List (List Int)) (h:msr y19 a<=1048576) (k:(List (List Int))->Res):j1Y a k=k a:=by
 have h0:msr y19 a<=1048576:=h
 unfold j1Y
 simp only [jek _ h0]
theorem jf6 (a:List (List Int)) (left:Int) (h0:0<=left) (h1:left<=1048576) (hw:Wf y19 a) (k:Int->Res):j64 a left k=k (szR left (msr y19 a)):=by
 have hm:msr y19 a=msr y19 a+0:=rfl
 rw [hm]
 unfold j64
 rw [jeh _ _ (by omega) (by omega) hw]
 by_cases hb0:((msr y19 a:Nat):Int)<=left
 rotate_left
 ·rw [Z9b hb0,Z8X hb0,Z8J (by omega),cond_true]
 rw [Z9c hb0,Z8W hb0,Z8I (by omega),cond_false]
 exact jdr (by omega)
theorem jeU (a:List (List Int)) (h:msr y19 a<=1048576) (k:Bool->Res):j60 a a k=k true:=by
 have h0:msr y19 a<=1048576:=h
 unfold j60
 simp only [Z9o,Z8U,beq_self_eq_true,cond_false,Bool.not_true,jdV _ h0]
theorem je3 (a:List (List Int)) (k:Int) (h:msr y19 a<=1048576) (h0:1<=k) (hk:k+(j5I y19 a:Int)<=4294967296) (K:Int->(List (List Int))->Res):j4p a k K=K (k+(j5I y19 a:Int)) (mkT y19 a k):=by
 have h0:msr y19 a<=1048576:=h
 have g0:msr y19 a<=1048576:=h
 have w0:j5I y19 a=wgt y19 a:=rfl
 have hw:j5I y19 a=wgt y19 a:=by first | rfl | (simp only [jcy,w0,j9g,j8z,j9h,Nat.zero_add,Nat.add_zero];done) | (simp only [jcy,w0,j9g,j8z,j9h,Nat.zero_add,Nat.add_zero];omega)
 unfold j4p
 simp (disch:=first | assumption | omega) only [jdd]
 first | rfl | (simp only [jcn,jdE,jde,jdF,w0,j9g,j8z,j9h,Int.natCast_add,Int.natCast_zero,Int.cast_ofNat_Int,Nat.zero_add,Nat.add_zero,Int.add_zero,<-Int.add_assoc];done) | (simp only [jcn,jdE,jde,jdF,w0,j9g,j8z,j9h,Int.natCast_add,Int.natCast_zero,Int.cast_ofNat_Int,Nat.zero_add,Nat.add_zero,Int.add_zero,<-Int.add_assoc];rfl)
end Go.PI.G
namespace Go.PI.G
open Go Go.PI Go.Proofs
theorem jey (l:List Int):msr (.slice (.int .u8)) l=l.length:=by
 have h1:msr (.slice (.int .u8)) l=l.length+(l.map (msr (.int .u8))).sum:=rfl
 have h2:∀ l:List Int,(l.map (msr (.int .u8))).sum=0:=by
  intro l
  induction l with
  | nil=>rfl
  | cons x l ih=>
   simp only [List.map_cons,List.sum_cons]
   rw [ih];rfl
 rw [h1,h2];rfl
theorem jf0 (l:List Int):msr (.slice (.int .i64)) l=l.length:=by
 have h1:msr (.slice (.int .i64)) l=l.length+(l.map (msr (.int .i64))).sum:=rfl
 have h2:∀ l:List Int,(l.map (msr (.int .i64))).sum=0:=by
  intro l
  induction l with
  | nil=>rfl
  | cons x l ih=>
   simp only [List.map_cons,List.sum_cons]
   rw [ih];rfl
 rw [h1,h2];rfl
theorem jfC {l:List Int} (h:Wf (.slice (.int .u8)) l):isB l:=λx hx=>by
 have:=h.2 x hx
 have h2:IntKind.u8.min=0:=by decide
 have h3:IntKind.u8.max=255:=by decide
 simp only [Wf,Lit.wf,h2,h3,Bool.and_eq_true,decide_eq_true_eq] at this
 omega
theorem jeZ {e:Ty} {l:List (El e)} {x:El e} (h:x∈l):msr e x<=msr (.slice e) l:=by
 have h1:msr (.slice e) l=l.length+(l.map (msr e)).sum:=rfl
 have h2:∀ (l:List (El e)),x∈l->msr e x<=(l.map (msr e)).sum:=by
  intro l
  induction l with
  | nil=>intro h;cases h
  | cons y l ih=>
   intro h
   simp only [List.map_cons,List.sum_cons]
   rcases List.mem_cons.1 h with rfl | h
   ·omega
   ·have:=ih h;omega
 have:=h2 l h
 omega
noncomputable def j80 (n:List (List Int)):List Int:=bif decide (nI n.length<=30) then n.foldl (λout x=>out++[(prd x).1.1]) [] else []
theorem jd9 {α β:Type} (g:α->β):(l:List α)->(a:List β)->(l.foldl (λout x=>out++[g x]) a).length=a.length+l.length
 | [],a=>rfl
 | x::l,a=>by rw [List.foldl_cons,jd9 g l,List.length_append,List.length_singleton,List.length_cons];omega
theorem jdq (n:List (List Int)) (hb:∀ x∈n,isB x/\x.length<=1048576) (k:List Int->Res):j2B n k=k (j80 n):=by
 unfold j2B j7J j80
 dsimp only
 by_cases h:nI n.length<=30
 ·rw [decide_eq_true h,Bool.not_true,cond_false,cond_true]
  have hn:n.length<=30:=by unfold nI at h;omega
  unfold j3H
  exact Z73 n (λi out=>(out,i)) (λout x=>out++[(prd x).1.1]) (λi out=>out.length=i) (step:=j4t n (nI n.length)) (λout=>k out) (λout=>k out) [] (by unfold LIM;omega) rfl (λi out hi ho=>by rw [List.length_append,List.length_singleton,ho]) (λi out rec hi ho=>by
   have hx:=hb _ (List.getElem_mem hi)
   show j1z _ _ _ _ _ _=_
   unfold j1z
   dsimp only
   rw [Z9q hi,cond_true,j07 hi,cond_true,Z9a _ _ _ hi,jft _ hx.1 hx.2,Z9l (by unfold LIM;omega),cond_true,j03 (n:=(i:Int)+1) (by omega)]) (λout rec ho=>by
   show j1z _ _ _ _ _ _=_
   unfold j1z
   dsimp only
   rw [Z9p,cond_false])
 ·rw [decide_eq_false h];rfl
theorem j9J (n:List (List Int)) (hb:∀ x∈n,isB x/\x.length<=1048576) (k:List Int->Res):j1c n k=k (j80 n):=by
 unfold j1c j7G j80
 dsimp only
 by_cases h:nI n.length<=30
 ·rw [decide_eq_true h,Bool.not_true,cond_false,cond_true]
  have hn:n.length<=30:=by unfold nI at h;omega
  unfold j3y
  exact Z73 n (λi out=>(out,i)) (λout x=>out++[(prd x).1.1]) (λi out=>out.length=i) (step:=j4k n (nI n.length)) (λout=>k out) (λout=>k out) [] (by unfold LIM;omega) rfl (λi out hi ho=>by rw [List.length_append,List.length_singleton,ho]) (λi out rec hi ho=>by
   have hx:=hb _ (List.getElem_mem hi)
   show j1v _ _ _ _ _ _=_
   unfold j1v
   dsimp only
   rw [Z9q hi,cond_true,j07 hi,cond_true,Z9a _ _ _ hi,jfk _ hx.1 hx.2,Z9l (by unfold LIM;omega),cond_true,j03 (n:=(i:Int)+1) (by omega)]) (λout rec ho=>by
   show j1v _ _ _ _ _ _=_
   unfold j1v
   dsimp only
   rw [Z9p,cond_false])
 ·rw [decide_eq_false h];rfl
theorem je9 (n:List (List Int)):msr (.slice (.int .i64)) (j80 n)<=1048576:=by
 rw [jf0]
 unfold j80
 by_cases h:nI n.length<=30
 ·rw [decide_eq_true h,cond_true]
  have:=jd9 (λx=>(prd x).1.1) n []
  rw [this]
  unfold nI at h
  show 0+n.length<=_
  omega
 ·rw [decide_eq_false h];exact Nat.zero_le _
theorem jel (x0:List (List Int)) (w0:Wf (.slice (.slice (.int .u8))) x0) (k:Bool->Res):j14 x0 k=k true:=by
 unfold j14
 rw [jf6 x0 1048576 (by omega) (by omega) w0]
 by_cases hn:((msr (.slice (.slice (.int .u8))) x0:Nat):Int)<=1048576
 rotate_left
 ·rw [Z9b hn];rfl
 have hm:msr (.slice (.slice (.int .u8))) x0<=1048576:=by omega
 have hb:∀ x∈x0,isB x/\x.length<=1048576:=λx hx=>by
  refine ⟨jfC (w0.2 x hx),?_⟩
  have h1:msr (.slice (.int .u8)) x<=msr (.slice (.slice (.int .u8))) x0:=jeZ hx
  rw [jey] at h1
  omega
 rw [Z9c hn,decide_eq_false (by omega),cond_false,j9f x0 hm,jdq x0 hb,j9f x0 hm,j9J x0 hb]
 have hq:=je9 x0
 have e0:=jcz (τ:= .slice (.slice (.int .u8))) (by decide) hm
 have e0':=j8S (.slice (.slice (.int .u8))) x0
 have e3:=jcz (τ:= .slice (.int .i64)) (by decide) hq
 have k0:(1:Int)+((j5I (.slice (.slice (.int .u8))) x0:Nat):Int)<=4294967296:=by omega
 have k3:(1:Int)+((wgt (.slice (.int .i64)) (j80 x0):Nat):Int)<=4294967296:=by omega
 rw [j9I _ hq,Bool.not_true,cond_false,j9f x0 hm,jeU x0 hm,Bool.not_true,cond_false,je3 x0 1 hm (by omega) k0,decide_eq_false (by omega),cond_false,j9I _ hq,Bool.not_true,cond_false]
 unfold j0I
 rw [jdy _ 1 hq (by omega) k3,jak _ 1 hq (by omega) k3,decide_eq_false (by omega),cond_false,Z9o,cond_false,j9f x0 hm,j9J x0 hb,j9I _ hq,Bool.not_true,cond_false,jak _ 1 hq (by omega) k3,decide_eq_false (by omega),cond_false,Z9o,cond_false]
end Go.PI.G
