/-
  Program's code interpreted over typed values; printed texts; plain laws. No conditions.
-/
import Derived.Test.YtppeoiidhmegkaaGreatAf
import Derived.Test.YtppeoiidhmegkaaGreatAc
import Derived.Test.YtppeoiidhmegkaaGreatAd
set_option linter.unusedVariables false
set_option linter.unusedSimpArgs false
namespace Go.PI.G
open Go Go.PI Go.Proofs
theorem iB (b:List Int) (hb:isB b) (hl:b.length<=1048576):Rd b (iS b) 900000000000 6 (λe k=>j06 1 e k) rgB (rgA Int) Z9t:=by
 intro at_ bad ha
 obtain ⟨n,u,v,q1,q2,q3,q4,q5,q6⟩:=iN b hb hl at_ 1 (by omega) (.inl rfl) bad
 refine ⟨n,u,v,⟨q2,q4 rfl⟩,q1,λk=>q5 k,λhbad y post _ hd=> ?_⟩
 obtain ⟨f1,f2,f3,_⟩:=q6 hbad [y] post rfl hd
 rw [jbm] at f1
 exact ⟨f1,f2,f3⟩
theorem iW (b:List Int) (hb:isB b) (hl:b.length<=1048576):Rd b (iS b) 900000000000 300 (λe k=>j0a e k) rgS okS byW:=by
 intro at_ bad ha
 obtain ⟨s,u,v,p1,p2,p3⟩:=jgL b hb hl at_ (by omega) bad
 have hsz:s.size<=1048576:=by
  obtain ⟨n,a1,b1,q0,q1,q2,q3,q4,q5⟩:=iN b hb hl at_ 1 (by omega) (.inl rfl) bad
  obtain ⟨m,rfl⟩:∃ m:Nat,n=(m:Int):=⟨n.toNat,by omega⟩
  have hm:=q3 rfl
  have hu:∀ k,j0a (b,(at_:Int),bad) k=j0i (m:Int) (b,(a1:Int),b1) λr1 bt=>k (Z34 r1) bt:=λk=>by
   unfold j0a
   exact q4 _
  have hz:(Z34 ([]:List Int)).size=0:=rfl
  have key:∃ (r:List Int) (w:List Int×Int×Bool),isB r/\r.length<=1048576/\∀ k,j0a (b,(at_:Int),bad) k=k (Z34 r) w:=by
   cases b1
   ·by_cases h:a1+m<=b.length
    ·refine ⟨seg b a1 m,(b,((a1+m:Nat):Int),false),j4W hb _ _,by rw [j5P h];omega,λk=> ?_⟩
     rw [hu]
     unfold j0i
     dsimp only
     rw [cond_false,j03 (n:=nI b.length-(a1:Int)) (by unfold nI;omega),decide_eq_false (show ¬ (m:Int)>nI b.length-(a1:Int) by unfold nI;omega),cond_false,j03 (n:=(a1:Int)+(m:Int)) (by omega),show (a1:Int)+(m:Int)-(m:Int)=(a1:Int) by omega,j03 (n:=(a1:Int)) (by omega)]
     have hc:Z6Z (a1:Int) ((a1:Int)+(m:Int)) b.length=true:=decide_eq_true (by omega)
     rw [hc,cond_true,ja7]
     rfl
    ·refine ⟨[],(b,(a1:Int),true),j4d,Nat.zero_le _,λk=> ?_⟩
     rw [hu]
     unfold j0i
     dsimp only
     rw [cond_false,j03 (n:=nI b.length-(a1:Int)) (by unfold nI;omega),decide_eq_true (show (m:Int)>nI b.length-(a1:Int) by unfold nI;omega),cond_true]
   ·exact ⟨[],(b,(a1:Int),true),j4d,Nat.zero_le _,λk=>by rw [hu];rfl⟩
  obtain ⟨r,w,k1,k2,k3⟩:=key
  have e1:=p2 (λs _=>if s.size<=1048576 then some () else none)
  rw [k3] at e1
  rw [jeL k1,if_pos k2] at e1
  by_cases h:s.size<=1048576
  ·exact h
  ·rw [if_neg h] at e1;cases e1
 exact ⟨s,u,v,hsz,p1,λk=>p2 k,λhbad y post hy hd=>p3 hbad y post hy hd⟩
theorem iV (b:List Int) (hb:isB b) (hl:b.length<=1048576):Rd b (iS b) 800000000000 400 (λe k=>j0M e k) (rgA V) okV wB:=by
 intro at_ bad ha
 obtain ⟨v,u,w,p1,p2,p3⟩:=jhk b hb hl at_ (by omega) bad
 exact ⟨v,u,w,trivial,p1,λk=>p2 k,λhbad y post hy hd=>p3 hbad y post hy hd⟩
def rg8 (n:Int):Prop:=0<=n/\n<=8
theorem jfu (b:List Int) (hb:isB b) (hl:b.length<=1048576):Rd b (iS b) 900000000000 6 (λe k=>j07 8 e k) rg8 (λn=>0<=n/\n<=8) (λn=>[n]):=by
 intro at_ bad ha
 obtain ⟨n,u,v,r1,p1,q1,z1⟩:=iB b hb hl at_ bad ha
 have hu:∀ k,j07 8 (b,(at_:Int),bad) k=(bif decide (n>8) then k 0 (b,(u:Int),true) else bif v then k 0 (b,(u:Int),v) else k n (b,(u:Int),v)):=λk=>by
  unfold j07
  exact q1 _
 by_cases h8:n>8
 ·refine ⟨0,u,true,⟨by omega,by omega⟩,p1,λk=>by
   show j07 8 (b,(at_:Int),bad) k=_
   rw [hu,decide_eq_true h8];rfl,λhbad y post hy hd=> ?_⟩
  have:=(z1 hbad y post trivial hd).1
  omega
 ·cases v
  ·refine ⟨n,u,false,⟨r1.1,by omega⟩,p1,λk=>by
    show j07 8 (b,(at_:Int),bad) k=_
    rw [hu,decide_eq_false h8];rfl,λhbad y post hy hd=>z1 hbad y post trivial hd⟩
  ·refine ⟨0,u,true,⟨by omega,by omega⟩,p1,λk=>by
    show j07 8 (b,(at_:Int),bad) k=_
    rw [hu,decide_eq_false h8];rfl,λhbad y post hy hd=> ?_⟩
   exact absurd (z1 hbad y post trivial hd).2.1 (by simp)
theorem jhi (b:List Int) (hb:isB b) (hl:b.length<=1048576):Rd b (iS b) 790000000000 718 (λe k=>j0a e λr1 e2=>j06 1 e2 λr2 e3=>j06 1 e3 λr3 e4=>j06 1 e4 λr4 e5=>j0M e5 λr5 e6=>k (r1,r2,(r3==1),(r4==1),r5) e6) rgC okC byC:=
 jgb (j6W (N:=790000000000) (iW b hb hl) (j6W (N:=795000000000) (iB b hb hl) (j6W (N:=796000000000) (iB b hb hl) (j6W (N:=797000000000) (iB b hb hl) (iV b hb hl) (by omega)) (by omega)) (by omega)) (by omega))
  (λp=>(p.1,p.2.1,(p.2.2.1==1),(p.2.2.2.1==1),p.2.2.2.2)) (λc:C=>(c.1,c.2.1,bI c.2.2.1,bI c.2.2.2.1,c.2.2.2.2)) (λx hx=>hx.1) (λc hc=>by
   obtain ⟨h1,h2,h3⟩:=j3v hc
   refine ⟨⟨?_,trivial,trivial,trivial,h3⟩,?_,rfl⟩
   ·have:=(j0S h1).2
    show c.1.size<=30
    omega
   ·show (c.1,c.2.1,(bI c.2.2.1==1),(bI c.2.2.2.1==1),c.2.2.2.2)=c
    rw [jcF,jcF])
def cI (n:Int) (i:Nat):Bool:=decide ((i:Int)<n)
theorem jgn {n:Int} (h:rg8 n):cI n 9=false:=decide_eq_false (by have:=h.2;omega)
theorem jg0 (b:List Int) (hb:isB b) (hl:b.length<=1048576):Rd b (iS b) 780000000000 (6+9 * 400) (λe k=>j2O e k) (λl=>l.length<=9) (λl=>l.length<=8/\∀ v∈l,okV v) j1i:=by
 intro at_ bad ha
 obtain ⟨l,u,v,p1,p2,p3,p4⟩:=j7V (N:=780000000000) (jfF (jfu b hb hl) (show 800000000000<=900000000000 by omega) (Nat.le_refl _)) (iV b hb hl) (by omega) (λi out e=>(out,i,e)) (λn=>j4Y n) (λ(k:List V->(List Int×Int×Bool)->Res) out e=>k out e) cI (λn h=>jgn h) (λn i _ _ h=>rfl)
  (λn i out e rec q hi ho hc=>by
   show j1H n out (i:Int) e (λout i e0=>rec (out,i,e0)) q=_
   unfold j1H
   rw [show decide ((i:Int)<n)=true from hc,cond_true,Z9l (by unfold LIM;omega),j03 (n:=(i:Int)+1) (by omega)]
   rfl)
  (λn i out e rec q hi hc=>by
   show j1H n out (i:Int) e (λout i e0=>rec (out,i,e0)) q=_
   unfold j1H
   rw [show decide ((i:Int)<n)=false from hc,cond_false]) at_ bad ha
 exact ⟨l,u,v,p1.1,p2,λk=>p3 k,p4⟩
theorem jfZ (b:List Int) (hb:isB b) (hl:b.length<=1048576):Rd b (iS b) 780000000000 (6+9 * 300) (λe k=>j0r e k) (λl=>l.length<=9/\∀ s∈l,rgS s) (λl=>l.length<=8/\∀ v∈l,okS v) (λl=>nI l.length::l.flatMap byW):=by
 intro at_ bad ha
 obtain ⟨l,u,v,p1,p2,p3,p4⟩:=j7V (N:=780000000000) (jfu b hb hl) (iW b hb hl) (by omega) (λi out e=>(out,i,e)) (λn=>j4w n) (λ(k:List ByteArray->(List Int×Int×Bool)->Res) out e=>k out e) cI (λn h=>jgn h) (λn i _ _ h=>rfl)
  (λn i out e rec q hi ho hc=>by
   show j1n n out (i:Int) e (λout i e0=>rec (out,i,e0)) q=_
   unfold j1n
   rw [show decide ((i:Int)<n)=true from hc,cond_true,Z9l (by unfold LIM;omega),j03 (n:=(i:Int)+1) (by omega)]
   rfl)
  (λn i out e rec q hi hc=>by
   show j1n n out (i:Int) e (λout i e0=>rec (out,i,e0)) q=_
   unfold j1n
   rw [show decide ((i:Int)<n)=false from hc,cond_false]) at_ bad ha
 exact ⟨l,u,v,p1,p2,λk=>p3 k,p4⟩
theorem jhf (b:List Int) (hb:isB b) (hl:b.length<=1048576) (z:Int) (t:ByteArray) (x y:List V) (r:Int) (at_:Nat) (bad:Bool) (ha:at_<=770000000000):∃ (l:List C) (at':Nat) (bad':Bool),(l.length<=9/\∀ c∈l,rgC c)/\at'<=at_+(6+9 * 718) /\
  (∀ q:ST->(List Int×Int×Bool)->Res,j07 8 (b,(at_:Int),bad) (λn e1=>j4u n Z12 0 (z,t,x,y,r,t,[],[],eS,eS) e1 q)=q (z,t,x,y,r,t,l,[],eS,eS) (b,(at':Int),bad')) /\
  (bad=false->∀ y post,(y.length<=8/\∀ c∈y,okC c)->b.drop at_=(nI y.length::y.flatMap byC)++post->l=y/\bad'=false/\b.drop at'=post):=by
 obtain ⟨l,u,v,p1,p2,p3,p4⟩:=j7V (N:=770000000000) (jfF (jfu b hb hl) (show 790000000000<=900000000000 by omega) (Nat.le_refl _)) (jhi b hb hl) (by omega) (λi out e=>(i,((z,t,x,y,r,t,out,[],eS,eS):ST),e)) (λn=>j3y n) (λ(q:ST->(List Int×Int×Bool)->Res) out e=>q (z,t,x,y,r,t,out,[],eS,eS) e) cI (λn h=>jgn h) (λn i _ _ h=>rfl)
  (λn i out e rec q hi ho hc=>by
   show j19 n (i:Int) (z,t,x,y,r,t,out,[],eS,eS) e (λi d e0=>rec (i,d,e0)) q=_
   unfold j19
   dsimp only
   rw [show decide ((i:Int)<n)=true from hc,cond_true,Z9l (by unfold LIM;omega),j03 (n:=(i:Int)+1) (by omega)]
   rfl)
  (λn i out e rec q hi hc=>by
   show j19 n (i:Int) (z,t,x,y,r,t,out,[],eS,eS) e (λi d e0=>rec (i,d,e0)) q=_
   unfold j19
   rw [show decide ((i:Int)<n)=false from hc,cond_false]) at_ bad ha
 exact ⟨l,u,v,p1,p2,λq=>p3 q,p4⟩
theorem jgU (b:List Int) (hb:isB b) (hl:b.length<=1048576):∃ (raw:ST) (bad:Bool),j9T raw/\(∀ k:ST->Bool->Res,j11 b k=j0p raw λr5 r6=>bif bad then k zST false else bif !r6 then k zST false else bif sNe (Z34 r5) (Z34 b) then k zST false else k raw true)/\∀ x,stB x=true->byS x=b->raw=x/\bad=false:=by
 obtain ⟨r0,u0,v0,r00,p0,q0,z0⟩:=iB b hb hl 0 false (by omega)
 obtain ⟨r,u1,v1,r1,p1,q1,z1⟩:=iB b hb hl u0 v0 (by omega)
 obtain ⟨t,u2,v2,r2,p2,q2,z2⟩:=iW b hb hl u1 v1 (by omega)
 obtain ⟨x,u3,v3,r3,p3,q3,z3⟩:=jg0 b hb hl u2 v2 (by omega)
 obtain ⟨y,u4,v4,r4,p4,q4,z4⟩:=jg0 b hb hl u3 v3 (by omega)
 have hx:x.length<=1048576:=by omega
 have hy:y.length<=1048576:=by omega
 have fin:∀ (raw:ST) (u:Nat) (bad:Bool) (k:ST->Bool->Res),(j0p raw λr5 r6=>j14 b r5 r6 (b,(u:Int),bad) λt1=>bif t1 then k zST false else k raw true)=j0p raw λr5 r6=>bif bad then k zST false else bif !r6 then k zST false else bif sNe (Z34 r5) (Z34 b) then k zST false else k raw true:=λraw u bad k=>by
  have e:(λ(r5:List Int) (r6:Bool)=>j14 b r5 r6 (b,(u:Int),bad) λt1=>bif t1 then k zST false else k raw true)=λr5 r6=>bif bad then k zST false else bif !r6 then k zST false else bif sNe (Z34 r5) (Z34 b) then k zST false else k raw true:=by
   funext r5 r6
   unfold j14
   cases bad
   ·cases r6<;>rfl
   ·rfl
  rw [e]
 have hu:∀ k:ST->Bool->Res,j11 b k=j1O (r==5) (r,t,x,y,0,eS,[],[],eS,eS) (b,(u4:Int),v4) λ(s:ST) e=>j0p s λr5 r6=>j14 b r5 r6 e λt1=>bif t1 then k zST false else k s true:=λk=>by
  unfold j11
  refine (q0 _).trans ?_
  refine (q1 _).trans ?_
  refine (q2 _).trans ?_
  refine (q3 _).trans ?_
  exact q4 _
 have back:∀ s,stB s=true->byS s=b->r=s.1/\t=s.2.1/\x=s.2.2.1/\y=s.2.2.2.1/\v4=false/\b.drop u4=(bif s.1==5 then byD s.2.2.2.2 else []):=λs hs he=>by
  obtain ⟨h1,h2,h3,h4,h5⟩:=j5v hs
  have hd:=jdG s []
  rw [List.append_nil,List.append_nil,he] at hd
  have hd:b.drop 0=_:=hd
  obtain ⟨e0,f0,g0⟩:=z0 rfl 83 _ trivial hd
  obtain ⟨e1,f1,g1⟩:=z1 f0 s.1 _ trivial g0
  obtain ⟨e2,f2,g2⟩:=z2 f1 s.2.1 _ (j4x (.inl h1)) g1
  obtain ⟨e3,f3,g3⟩:=z3 f2 s.2.2.1 _ h3 g2
  obtain ⟨e4,f4,g4⟩:=z4 f3 s.2.2.2.1 _ h4 g3
  exact ⟨e1,e2,e3,e4,f4,g4⟩
 cases hk:r==5
 ·refine ⟨(r,t,x,y,zD),v4,⟨r2,hx,hy,jae⟩,λk=> ?_,λs hs he=> ?_⟩
  ·rw [hu,hk]
   exact fin _ _ _ _
  ·obtain ⟨e1,e2,e3,e4,e5,e6⟩:=back s hs he
   obtain ⟨h1,h2,h3,h4,h5⟩:=j5v hs
   rcases h5 with h5 | h5
   ·rw [e1,h5.1] at hk;cases hk
   ·exact ⟨by rw [e1,e2,e3,e4,<-h5.2],e5⟩
 ·obtain ⟨d,a1,b1,s1,t1,w1,y1⟩:=iB b hb hl u4 v4 (by omega)
  obtain ⟨cs,a2,b2,s2,t2,w2,y2⟩:=jhf b hb hl r t x y d a1 b1 (by omega)
  obtain ⟨ks,a3,b3,s3,t3,w3,y3⟩:=jfZ b hb hl a2 b2 (by omega)
  obtain ⟨n,a4,b4,s4,t4,w4,y4⟩:=iW b hb hl a3 b3 (by omega)
  obtain ⟨m,a5,b5,s5,t5,w5,y5⟩:=iW b hb hl a4 b4 (by omega)
  refine ⟨(r,t,x,y,d,t,cs,ks,n,m),b5,⟨r2,hx,hy,jfT r2 s2 s3 s4 s5⟩,λk=> ?_,λs hs he=> ?_⟩
  ·rw [hu,hk]
   unfold j1O j2S
   rw [cond_true]
   simp only [Z8u]
   refine (w1 _).trans ?_
   refine (w2 _).trans ?_
   refine (w3 _).trans ?_
   refine (w4 _).trans ?_
   refine (w5 _).trans ?_
   exact fin _ _ _ _
  ·obtain ⟨e1,e2,e3,e4,e5,e6⟩:=back s hs he
   obtain ⟨h1,h2,h3,h4,h5⟩:=j5v hs
   have hk5:s.1=5:=by rw [<-e1];simpa using hk
   rcases h5 with h5 | h5
   ·rw [show (s.1==5)=true by simp [hk5],cond_true] at e6
    obtain ⟨a1,a2,a3,a4,a5,a6,a7⟩:=j7L h5.2.1
    have hd:=(e6.trans (List.append_nil _).symm).trans (jdF s.2.2.2.2 [])
    obtain ⟨c1,d1,g1⟩:=y1 e5 s.2.2.2.2.1 _ trivial hd
    obtain ⟨c2,d2,g2⟩:=y2 d1 s.2.2.2.2.2.2.1 _ ⟨a2,a3⟩ g1
    obtain ⟨c3,d3,g3⟩:=y3 d2 s.2.2.2.2.2.2.2.1 _ ⟨a4,λc hc=>j4x (.inl (a5 c hc))⟩ g2
    obtain ⟨c4,d4,g4⟩:=y4 d3 s.2.2.2.2.2.2.2.2.1 _ (j4x a6) g3
    obtain ⟨c5,d5,g5⟩:=y5 d4 s.2.2.2.2.2.2.2.2.2 _ (j4x a7) g4
    refine ⟨?_,d5⟩
    have ht:=h5.2.2
    rw [e1,e2,e3,e4,c1,c2,c3,c4,c5]
    conv=>lhs;arg 2;arg 2;arg 2;arg 2;arg 2;arg 1;rw [<-ht]
   ·exact absurd hk5 h5.1
end Go.PI.G
namespace Go.PI.G
open Go Go.PI
abbrev PT:=ST×List ByteArray×List ByteArray
abbrev BT:=Int×Int×List PT
abbrev zBT:BT:=(0,0,[])
abbrev yPT:Ty:= .pair yST (.pair (.slice .str) (.slice .str))
abbrev yBT:Ty:= .pair (.int .i64) (.pair (.int .i64) (.slice yPT))
noncomputable def j1v (l:List ByteArray):Bool:=l.all j0c&&decide (l.length<=8)
noncomputable def j3h (p:PT):Bool:=stB p.1&&(j1v p.2.1&&j1v p.2.2)
def j5i (x:BT):Bool:=decide (1<=x.1/\x.1<=400/\0<=x.2.1/\x.2.1<x.1/\nI x.2.2.length<=60)
noncomputable def j1F (x:BT):Bool:=j5i x&&x.2.2.all j3h
noncomputable def byL (l:List ByteArray):List Int:=nI l.length::l.flatMap byW
noncomputable def j48 (p:PT):List Int:=be (byS p.1).length 2++(byS p.1++(byL p.2.1++byL p.2.2))
def jcn (l:List Int):Int:=l.foldl (λn x=>Int.tmod (257 * n+x+1) 16777213) 1
noncomputable def j4I (x:BT):List Int:=(([80]++be x.1.toNat 2)++be x.2.1.toNat 2++[nI x.2.2.length])++x.2.2.flatMap j48
noncomputable def byP (x:BT):List Int:=j4I x++be (jcn (j4I x)).toNat 3
theorem j3b {l:List ByteArray} (h:j1v l=true):l.length<=8/\∀ w∈l,j0c w=true:=by
 unfold j1v at h
 rw [Bool.and_eq_true,List.all_eq_true,decide_eq_true_eq] at h
 exact ⟨h.2,h.1⟩
theorem j1W {p:PT} (h:j3h p=true):stB p.1=true/\j1v p.2.1=true/\j1v p.2.2=true:=by
 unfold j3h at h
 rw [Bool.and_eq_true,Bool.and_eq_true] at h
 exact h
theorem j2F {x:BT} (h:j1F x=true):(1<=x.1/\x.1<=400/\0<=x.2.1/\x.2.1<x.1/\x.2.2.length<=60)/\∀ p∈x.2.2,j3h p=true:=by
 unfold j1F j5i at h
 rw [Bool.and_eq_true,List.all_eq_true,decide_eq_true_eq] at h
 unfold nI at h
 exact ⟨⟨h.1.1,h.1.2.1,h.1.2.2.1,h.1.2.2.2.1,by omega⟩,h.2⟩
theorem j8T {s:ST} (h:stB s=true):(byS s).length<=1100:=by
 obtain ⟨h1,h2,h3,h4,h5⟩:=j5v h
 have w1:=j0O (.inl h1)
 have r3:=j7W h3
 have r4:=j7W h4
 have hd:(bif s.1==5 then byD s.2.2.2.2 else []).length<=460:=by
  rcases h5 with h5 | h5
  ·rw [h5.1]
   show (byD s.2.2.2.2).length<=460
   obtain ⟨a1,a2,a3,a4,a5,a6,a7⟩:=j7L h5.2.1
   have c1:=j1Y byC 44 s.2.2.2.2.2.2.1 λc hc=>ja1 (a3 c hc)
   have c2:=j1Y byW 9 s.2.2.2.2.2.2.2.1 λc hc=>j0O (.inl (a5 c hc))
   have c6:=j0O a6
   have c7:=j0O a7
   unfold byD
   simp only [List.length_append,List.length_cons]
   omega
  ·rw [show (s.1==5)=false by simp [h5.1],cond_false]
   exact Nat.zero_le _
 unfold byS
 simp only [List.length_append,List.length_cons]
 omega
theorem jbi {l:List ByteArray} (h:j1v l=true):(byL l).length<=73:=by
 obtain ⟨h1,h2⟩:=j3b h
 have:=j1Y byW 9 l λc hc=>j0O (.inl (h2 c hc))
 unfold byL
 rw [List.length_cons]
 omega
theorem jc0 {p:PT} (h:j3h p=true):(j48 p).length<=1248:=by
 obtain ⟨h1,h2,h3⟩:=j1W h
 have a1:=j8T h1
 have a2:=jbi h2
 have a3:=jbi h3
 unfold j48
 simp only [List.length_append,j1l]
 omega
theorem jfb {l:List ByteArray} (h:j1v l=true):isB (byL l):=by
 obtain ⟨h1,h2⟩:=j3b h
 exact j0v (by unfold nI;omega) (j8g _ _ λc hc=>j8U (.inl (h2 c hc)))
theorem jgl {p:PT} (h:j3h p=true):isB (j48 p):=by
 obtain ⟨h1,h2,h3⟩:=j1W h
 exact j0s (ja0 _ _) (j0s (jbj h1) (j0s (jfb h2) (jfb h3)))
theorem jcG {x:BT} (h:j1F x=true):(j4I x).length<=74886:=by
 obtain ⟨h1,h2⟩:=j2F h
 have:=j1Y j48 1248 x.2.2 λp hp=>jc0 (h2 p hp)
 unfold j4I
 simp only [List.length_append,List.length_cons,List.length_nil,j1l]
 omega
theorem jad {x:BT} (h:j1F x=true):isB (j4I x):=by
 obtain ⟨h1,h2⟩:=j2F h
 exact j0s (j0s (j0s (j0s (j0v (by omega) j4d) (ja0 _ _)) (ja0 _ _)) (j0v (by unfold nI;omega) j4d)) (j8g _ _ λp hp=>jgl (h2 p hp))
theorem jgR {x:BT} (h:j1F x=true):isB (byP x):=j0s (jad h) (ja0 _ _)
theorem jco {n x:Int} (hn:0<=n/\n<16777213) (hx:0<=x/\x<256):0<=Int.tmod (257 * n+x+1) 16777213/\Int.tmod (257 * n+x+1) 16777213<16777213:=
 ⟨Int.tmod_nonneg _ (by omega),Int.tmod_lt_of_pos _ (by omega)⟩
theorem jda {l:List Int} (h:isB l):0<=jcn l/\jcn l<16777213:=by
 have:∀ (l:List Int) (n:Int),isB l->(0<=n/\n<16777213)->0<=l.foldl (λn x=>Int.tmod (257 * n+x+1) 16777213) n/\l.foldl (λn x=>Int.tmod (257 * n+x+1) 16777213) n<16777213:=by
  intro l
  induction l with
  | nil=>intro n _ hn;exact hn
  | cons x l ih=>
   intro n hl hn
   rw [List.foldl_cons]
   exact ih _ (λy hy=>hl y (List.mem_cons_of_mem _ hy)) (jco hn (hl x (by simp)))
 exact this l 1 h (by omega)
def RdF {σ α:Type} (b:List Int) (S:Nat->Bool->σ) (N g:Nat) (act:σ->(α->σ->Res)->Res->Res) (R ok:α->Prop) (f:α->List Int):Prop:=
 ∀ (at_:Nat) (bad:Bool),at_<=N->(∃ (x:α) (at':Nat) (bad':Bool),R x/\at'<=at_+g/\(∀ k z,act (S at_ bad) k z=k x (S at' bad')) /\
  (bad=false->∀ y post,ok y->b.drop at_=f y++post->x=y/\bad'=false/\b.drop at'=post)) \/
  ((∀ k z,act (S at_ bad) k z=z)/\(bad=false->∀ y post,ok y->b.drop at_=f y++post->False))
theorem jeR {σ α V K:Type} {b:List Int} {S:Nat->Bool->σ} {N g:Nat} {act:σ->(α->σ->Res)->Res->Res} {R ok:α->Prop} {f:α->List Int} (h:RdF b S N g act R ok f) (M:Nat)
  (st:Int->List α->σ->V) (step:V->(V->Res)->K->Res) (fin:K->List α->σ->Res) (ff:K->Res) (cond:Nat->Bool) (h9:cond M=false)
  (hs:∀ (i:Nat) out e rec q,i<M->out.length=i->cond i=true->step (st (i:Int) out e) rec q=act e (λx e'=>rec (st ((i+1:Nat):Int) (out++[x]) e')) (ff q))
  (he:∀ (i:Nat) out e rec q,i<=M->cond i=false->step (st (i:Int) out e) rec q=fin q out e) :
  ∀ (d i m:Nat) (out:List α) (at_:Nat) (bad:Bool),i+d=M->d<m->out.length=i->(∀ x∈out,R x)->at_+d * g<=N->(∃ (r:List α) (at':Nat) (bad':Bool),(r.length<=M/\∀ x∈r,R x)/\at'<=at_+d * g /\
   (∀ q,Z14 step m (st (i:Int) out (S at_ bad)) q=fin q r (S at' bad')) /\
   (bad=false->∀ ws post,(∀ w∈ws,ok w)->(∀ j,i<=j->j<i+ws.length->cond j=true)->cond (i+ws.length)=false->b.drop at_=ws.flatMap f++post->r=out++ws/\bad'=false/\b.drop at'=post)) \/
   ((∀ q,Z14 step m (st (i:Int) out (S at_ bad)) q=ff q)/\(bad=false->∀ (ws:List α) (post:List Int),(∀ w∈ws,ok w)->(∀ j,i<=j->j<i+ws.length->cond j=true)->cond (i+ws.length)=false->b.drop at_=ws.flatMap f++post->False)):=by
 intro d
 induction d with
 | zero=>
  intro i m out at_ bad hi hm ho hR ha
  obtain ⟨m,rfl⟩:∃ e,m=e+1:=⟨m-1,by omega⟩
  have hiM:i=M:=by omega
  subst hiM
  refine .inl ⟨out,at_,bad,⟨by omega,hR⟩,by omega,λq=>by rw [Z8C,he i _ _ _ _ (by omega) h9],λhb ws post hw hc hn hd=> ?_⟩
  cases ws with
  | nil=>exact ⟨by simp,hb,by simpa using hd⟩
  | cons w ws=>
   have:=hc i (by omega) (by rw [List.length_cons];omega)
   rw [h9] at this;cases this
 | succ d ih=>
  intro i m out at_ bad hi hm ho hR ha
  obtain ⟨m,rfl⟩:∃ e,m=e+1:=⟨m-1,by omega⟩
  rw [Nat.succ_mul] at ha ⊢
  cases hc:cond i
  ·refine .inl ⟨out,at_,bad,⟨by omega,hR⟩,by omega,λq=>by rw [Z8C,he i _ _ _ _ (by omega) hc],λhb ws post hw hcc hn hd=> ?_⟩
   cases ws with
   | nil=>exact ⟨by simp,hb,by simpa using hd⟩
   | cons w ws=>
    have:=hcc i (by omega) (by rw [List.length_cons];omega)
    rw [hc] at this;cases this
  ·rcases h at_ bad (by omega) with ⟨x,u1,v1,r1,p1,q1,z1⟩ | ⟨q1,z1⟩
   ·have hR2:∀ y∈out++[x],R y:=λy hy=>by
     rcases List.mem_append.1 hy with hy | hy
     ·exact hR y hy
     ·rw [List.mem_singleton.1 hy];exact r1
    rcases ih (i+1) m (out++[x]) u1 v1 (by omega) (by omega) (by rw [List.length_append,List.length_singleton,ho]) hR2 (by omega) with ⟨r,u2,v2,r2,p2,q2,z2⟩ | ⟨q2,z2⟩
    ·refine .inl ⟨r,u2,v2,r2,by omega,λq=> ?_,λhb ws post hw hcc hn hd=> ?_⟩
     ·rw [Z8C,hs i _ _ _ _ (by omega) ho hc,q1]
      exact q2 q
     ·cases ws with
      | nil=>rw [List.length_nil,Nat.add_zero,hc] at hn;cases hn
      | cons w ws=>
       rw [List.flatMap_cons,List.append_assoc] at hd
       obtain ⟨e1,e2,e3⟩:=z1 hb w _ (hw w (by simp)) hd
       rw [List.length_cons] at hcc hn
       obtain ⟨e4,e5,e6⟩:=z2 e2 ws post (λy hy=>hw y (List.mem_cons_of_mem _ hy)) (λj h1 h2=>hcc j (by omega) (by omega)) (by rw [show i+1+ws.length=i+(ws.length+1) by omega];exact hn) e3
       exact ⟨by rw [e4,e1,List.append_assoc];rfl,e5,e6⟩
    ·refine .inr ⟨λq=> ?_,λhb ws post hw hcc hn hd=> ?_⟩
     ·rw [Z8C,hs i _ _ _ _ (by omega) ho hc,q1]
      exact q2 q
     ·cases ws with
      | nil=>rw [List.length_nil,Nat.add_zero,hc] at hn;cases hn
      | cons w ws=>
       rw [List.flatMap_cons,List.append_assoc] at hd
       obtain ⟨e1,e2,e3⟩:=z1 hb w _ (hw w (by simp)) hd
       rw [List.length_cons] at hcc hn
       exact z2 e2 ws post (λy hy=>hw y (List.mem_cons_of_mem _ hy)) (λj h1 h2=>hcc j (by omega) (by omega)) (by rw [show i+1+ws.length=i+(ws.length+1) by omega];exact hn) e3
   ·refine .inr ⟨λq=> ?_,λhb ws post hw hcc hn hd=> ?_⟩
    ·rw [Z8C,hs i _ _ _ _ (by omega) ho hc,q1]
    ·cases ws with
     | nil=>rw [List.length_nil,Nat.add_zero,hc] at hn;cases hn
     | cons w ws=>
      rw [List.flatMap_cons,List.append_assoc] at hd
      exact z1 hb w _ (hw w (by simp)) hd
end Go.PI.G
namespace Go.PI.G
open Go Go.PI Go.Proofs
noncomputable def rst (b:List Int):ST×Bool:=by
 classical
 exact if h:∃ x,stB x=true/\byS x=b then (h.choose,true) else (zST,false)
theorem jfi (b:List Int) (hb:isB b) (raw:ST) (bad:Bool) (hback:∀ x,stB x=true->byS x=b->raw=x/\bad=false) (k:ST->Bool->Res) :
  (bif stB raw then (bif bad then k zST false else bif !true then k zST false else bif sNe (Z34 (byS raw)) (Z34 b) then k zST false else k raw true) else (bif bad then k zST false else bif !false then k zST false else bif sNe (Z34 []) (Z34 b) then k zST false else k raw true))=k (rst b).1 (rst b).2:=by
 unfold rst
 by_cases h:∃ x,stB x=true/\byS x=b
 ·rw [dif_pos h]
  have hc:=h.choose_spec
  obtain ⟨hr,hbad⟩:=hback h.choose hc.1 hc.2
  rw [hr,hc.1,cond_true,hbad,cond_false,hc.2,Z8U]
  rfl
 ·rw [dif_neg h]
  cases hs:stB raw
  ·cases bad<;>rfl
  ·cases bad
   ·rw [cond_true,cond_false]
    cases hn:sNe (Z34 (byS raw)) (Z34 b)
    ·exact absurd ⟨raw,hs,jbN (jbj hs) hb ((jdA _ _).1 hn)⟩ h
    ·rfl
   ·rfl
theorem jh5 (b:List Int) (hb:isB b) (hl:b.length<=1048576) (k:ST->Bool->Res):j13 b k=k (rst b).1 (rst b).2:=by
 obtain ⟨raw,h1,h2,h3⟩:=jfj b hb hl
 rw [h2,jdV raw h1]
 exact jfi b hb raw false (λx hx he=>⟨h3 x hx he,rfl⟩) k
theorem jgT (b:List Int) (hb:isB b) (hl:b.length<=1048576) (k:ST->Bool->Res):j11 b k=k (rst b).1 (rst b).2:=by
 obtain ⟨raw,bad,h1,h2,h3⟩:=jgU b hb hl
 rw [h2,jdN raw h1]
 exact jfi b hb raw bad h3 k
theorem jeT {x:ST} (hx:stB x=true):rst (byS x)=(x,true):=by
 have h:∃ y,stB y=true/\byS y=byS x:=⟨x,hx,rfl⟩
 have hl:(byS x).length<=1048576:=by have:=j8T hx;omega
 obtain ⟨raw,h1,h2,h3⟩:=jfj (byS x) (jbj hx) hl
 unfold rst
 rw [dif_pos h]
 have hc:=h.choose_spec
 rw [<-h3 _ hc.1 hc.2,h3 x hx rfl]
theorem jh6 {s:ST} (h:stB s=true):j9T s:=by
 obtain ⟨h1,h2,h3,h4,h5⟩:=j5v h
 have w1:=j8e (.inl h1)
 refine ⟨by omega,by omega,by omega,?_⟩
 rcases h5 with h5 | h5
 ·obtain ⟨a1,a2,a3,a4,a5,a6,a7⟩:=j7L h5.2.1
  have w6:=j8e a6
  have w7:=j8e a7
  refine ⟨by rw [h5.2.2];omega,by omega,by omega,λc hc=> ?_,λc hc=> ?_,by omega,by omega⟩
  ·have:=j8e (.inl (j3v (a3 c hc)).1);omega
  ·have:=j8e (.inl (a5 c hc));omega
 ·rw [h5.2];exact jae
theorem jgc (b:List Int):(stB (rst b).1=true/\(rst b).2=true/\byS (rst b).1=b)\/rst b=(zST,false):=by
 unfold rst
 by_cases h:∃ x,stB x=true/\byS x=b
 ·rw [dif_pos h]
  exact .inl ⟨h.choose_spec.1,rfl,h.choose_spec.2⟩
 ·rw [dif_neg h]
  exact .inr rfl
theorem jgd (b:List Int):j9T (rst b).1:=by
 rcases jgc b with h | h
 ·exact jh6 h.1
 ·rw [h];exact jgf
end Go.PI.G
namespace Go.PI.G
open Go Go.PI Go.Proofs
theorem jdL {α:Type} (f:α->List Int) (c n:Nat) (l:List α) (pre:List Int) (B:Nat) (h:∀ x∈l,(f x).length<=c) (hl:l.length<=n) (hp:pre.length+c * n<=B) (i:Nat):(pre++(l.take i).flatMap f).length<=B:=by
 have h1:=j1Y f c (l.take i) λx hx=>h x (List.mem_of_mem_take hx)
 have h2:(l.take i).length<=n:=by rw [List.length_take];omega
 have h3:=Nat.mul_le_mul_left c h2
 rw [List.length_append]
 omega
theorem jg9 (b:List Int) (hb:b.length<=900000) (n s:Nat) (hn:n<=1099511627775) (hs:1<=s/\s<=6) (hp:(n:Int)<256 ^ s) (k:List Int->Bool->Res):j0h b (n:Int) (s:Int) k=k (b++be n s) true:=by
 unfold j0h j4l
 have hq:=jeP s (by omega) (λ(r:Int)=>(λ(t:Bool)=>bif t then k [] false else bif lim (0+b.length) then j4k (n:Int) Z12 b (Z8o ((s:Int)-1)) λ(out:List Int)=>k out true else none) (decide ((n:Int)>=r)))
 rw [decide_eq_false (show ¬ (s:Int)<1 by omega),cond_false,decide_eq_false (show ¬ (s:Int)>6 by omega),cond_false,decide_eq_false (show ¬ (n:Int)<0 by omega),cond_false]
 refine Eq.trans hq ?_
 rw [decide_eq_false (show ¬ (n:Int)>=256 ^ s from Int.not_le.2 hp)]
 dsimp only
 rw [cond_false,Z9l (by unfold LIM;omega),cond_true,j03 (n:=(s:Int)-1) (by omega)]
 exact jeQ n hn (λout=>k out true) s Z12 b hs.2 (Z1U (by omega)) (by omega)
theorem jdz (b:List Int) (hb:b.length<=900000) (n:Int) (hn:0<=n/\n<65536) (k:List Int->Bool->Res):j0h b n 2 k=k (b++be n.toNat 2) true:=by
 obtain ⟨m,rfl⟩:∃ m:Nat,n=(m:Int):=⟨n.toNat,by omega⟩
 exact jg9 b hb m 2 (by omega) (by omega) (by rw [show (256:Int) ^ 2=65536 by decide];exact hn.2) k
theorem jh1 (b:List Int) (hb:b.length<=900000) (n:Int) (hn:0<=n/\n<16777216) (k:List Int->Bool->Res):j0h b n 3 k=k (b++be n.toNat 3) true:=by
 obtain ⟨m,rfl⟩:∃ m:Nat,n=(m:Int):=⟨n.toNat,by omega⟩
 exact jg9 b hb m 3 (by omega) (by omega) (by rw [show (256:Int) ^ 3=16777216 by decide];exact hn.2) k
theorem jdv (b:List Int) (hb:b.length<=100000) (n:Int) (hn:0<=n/\n<65536) (k:List Int->Res):j0g b n 2 k=k (b++be n.toNat 2):=by
 obtain ⟨m,rfl⟩:∃ m:Nat,n=(m:Int):=⟨n.toNat,by omega⟩
 exact jcN b hb m 2 (by omega) (by omega) k
theorem jgX (b:List Int) (hb:b.length<=100000) (n:Int) (hn:0<=n/\n<16777216) (k:List Int->Res):j0g b n 3 k=k (b++be n.toNat 3):=by
 obtain ⟨m,rfl⟩:∃ m:Nat,n=(m:Int):=⟨n.toNat,by omega⟩
 exact jcN b hb m 3 (by omega) (by omega) k
theorem jfL (b:List Int) (hb:isB b) (hl:b.length<=LIM) (k:Int->Res):j6K b k=k (jcn b):=by
 unfold j6K j9R
 have hl2:b.length<=2147483648:=hl
 refine (Z73 b (λi n=>(n,i)) (λn x=>Int.tmod (257 * n+x+1) 16777213) (λ_ n=>0<=n/\n<16777213) (step:=j8A b (nI b.length)) (λn=>k n) (λn=>k n) 1 hl (by omega) (λi n hi hn=>jco hn (hb _ (List.getElem_mem hi))) (λi n rec hi hn=> ?_) (λn rec hn=> ?_))
 ·have hx:=hb _ (List.getElem_mem hi)
  show j4S _ _ _ _ _ _=_
  unfold j4S
  dsimp only
  rw [Z9q hi,cond_true,j08 hi,cond_true,Z9a _ _ _ hi,j03 (n:=257 * n) (by omega),j03 (n:=b[i]) (by omega),j03 (n:=257 * n+b[i]) (by omega),j03 (n:=257 * n+b[i]+1) (by omega),j03 (n:=(i:Int)+1) (by omega)]
 ·show j4S _ _ _ _ _ _=_
  unfold j4S
  dsimp only
  rw [Z9p,cond_false]
theorem jfA (b:List Int) (hb:isB b) (hl:b.length<=LIM) (k:Int->Res):j6u b k=k (jcn b):=by
 unfold j6u j9M
 have hl2:b.length<=2147483648:=hl
 refine (Z73 b (λi n=>(n,i)) (λn x=>Int.tmod (257 * n+x+1) 16777213) (λ_ n=>0<=n/\n<16777213) (step:=j8r b (nI b.length)) (λn=>k n) (λn=>k n) 1 hl (by omega) (λi n hi hn=>jco hn (hb _ (List.getElem_mem hi))) (λi n rec hi hn=> ?_) (λn rec hn=> ?_))
 ·have hx:=hb _ (List.getElem_mem hi)
  show j4K _ _ _ _ _ _=_
  unfold j4K
  dsimp only
  rw [Z9q hi,cond_true,j08 hi,cond_true,Z9a _ _ _ hi,j03 (n:=257 * n) (by omega),j03 (n:=b[i]) (by omega),j03 (n:=257 * n+b[i]) (by omega),j03 (n:=257 * n+b[i]+1) (by omega),j03 (n:=(i:Int)+1) (by omega)]
 ·show j4K _ _ _ _ _ _=_
  unfold j4K
  dsimp only
  rw [Z9p,cond_false]
def jeX (l:List ByteArray):Prop:=l.length<=1048576/\∀ w∈l,w.size<=1048576
theorem jdY (l:List ByteArray) (h:jeX l) (k:Bool->Res):j3s l k=k (j1v l):=by
 unfold j3s j6P j1v
 have hl:=h.1
 have:=Z8G l (λi=>i) (λv=> !j0c v) (step:=j5u l (nI l.length)) ((λ(_:Unit)=>k (decide (nI l.length<=8))),(λ(_:Unit)=>k false)) (k (decide (nI l.length<=8))) (k false) (by unfold LIM;omega) (λi rec hi=>by
  show j27 _ _ _ _ _ _=_
  unfold j27
  have hw:=h.2 _ (List.getElem_mem hi)
  rw [Z9q hi,cond_true,j08 hi,cond_true,Z9a _ _ _ hi,j1X _ (by unfold LIM;omega),j03 (n:=(i:Int)+1) (by omega)]) (λrec=>by
  show j27 _ _ _ _ _ _=_
  unfold j27
  rw [Z9p,cond_false])
 refine this.trans ?_
 have hall:(l.any λv=> !j0c v)= !l.all j0c:=by rw [List.all_eq_not_any_not];simp
 rw [hall]
 cases l.all j0c
 ·rfl
 ·rw [Bool.not_true,cond_false,Bool.true_and]
  congr 1
  exact decide_eq_decide.2 (by unfold nI;omega)
theorem jdQ (l:List ByteArray) (h:jeX l) (k:Bool->Res):j3n l k=k (j1v l):=by
 unfold j3n j2j j3m j2k j1v
 have hl:=h.1
 have hd:decide (nI l.length<=8)=decide (l.length<=8):=decide_eq_decide.2 (by unfold nI;omega)
 rw [hd]
 cases decide (l.length<=8)
 ·rw [Bool.and_false];rfl
 ·rw [cond_true,Bool.and_true]
  have:=Z8w l (λi=>i) (λv=> !j0c v) (step:=j1R l (nI l.length)) ((λ(_:Unit)=>k (!decide ((-1:Int)>=0))),(λ(t:Int)=>k (!decide (t>=0)))) (λr=>k (!decide (r>=0))) (by unfold LIM;omega) (λi rec hi=>by
   show j0w _ _ _ _ _ _=_
   unfold j0w j7N
   have hw:=h.2 _ (List.getElem_mem hi)
   rw [Z9q hi,cond_true,j08 hi,cond_true,Z9a _ _ _ hi,j2K _ (by unfold LIM;omega),j03 (n:=(i:Int)+1) (by omega)]) (λrec=>by
   show j0w _ _ _ _ _ _=_
   unfold j0w
   rw [Z9p,cond_false])
  refine this.trans ?_
  congr 1
  unfold Z8j
  cases hf:l.findIdx? λv=> !j0c v with
  | none=>
   rw [List.findIdx?_eq_none_iff] at hf
   symm
   show l.all j0c=true
   rw [List.all_eq_true]
   intro v hv
   simpa using hf v hv
  | some i=>
   dsimp only
   rw [decide_eq_true (show (i:Int)>=0 by omega)]
   obtain ⟨hi,hp,_⟩:=List.findIdx?_eq_some_iff_getElem.1 hf
   symm
   show l.all j0c=false
   rw [List.all_eq_false]
   exact ⟨l[i],List.getElem_mem _,by simpa using hp⟩
theorem jeW (l:List ByteArray) (h:j1v l=true) (b:List Int) (hb:b.length<=89800) (k:List Int->Res):j4X b l k=k (b++byL l):=by
 obtain ⟨hl,hw⟩:=j3b h
 have hc:∀ c∈l,(byW c).length<=9:=λc hc=>j0O (.inl (hw c hc))
 unfold j4X j89
 rw [Z9l (by unfold LIM;omega),cond_true,j0F (by unfold nI;omega)]
 have hb1:(b++[nI l.length]).length<=89801:=by rw [List.length_append,List.length_singleton];omega
 refine (Z8x l (λi out=>(out,i)) byW 90000 (b++[nI l.length]) (step:=j6O l (nI l.length)) (λb1=>k b1) (λb1=>k b1) (by unfold LIM;omega) (λi hi _=>j7M byW 9 l (b++[nI l.length]) 90000 hc hl (by omega) (i+1)) (by omega) (λi out rec hi ho hB=>by
  show j38 _ _ _ _ _ _=_
  unfold j38
  dsimp only
  rw [Z9q hi,cond_true,j08 hi,cond_true,Z9a _ _ _ hi,ja8 _ (by omega) _ (.inl (hw _ (List.getElem_mem hi))),j03 (n:=(i:Int)+1) (by omega)]) (λout rec=>by
  show j38 _ _ _ _ _ _=_
  unfold j38
  dsimp only
  rw [Z9p,cond_false])).trans ?_
 rw [List.append_assoc]
 rfl
theorem jeE (l:List ByteArray) (h:j1v l=true) (b:List Int) (hb:b.length<=89800) (k:List Int->Res):j1o b l k=k (b++byL l):=by
 obtain ⟨hl,hw⟩:=j3b h
 have hc:∀ c∈l,(byW c).length<=9:=λc hc=>j0O (.inl (hw c hc))
 unfold j1o j4M
 rw [j2c _ (by omega) _ (by unfold nI;omega)]
 have hb1:(b++[nI l.length]).length<=89801:=by rw [List.length_append,List.length_singleton];omega
 refine (Z8x l (λi out=>(out,i)) byW 90000 (b++[nI l.length]) (step:=j56 l (nI l.length)) (λb1=>k b1) (λb1=>k b1) (by unfold LIM;omega) (λi hi _=>j7M byW 9 l (b++[nI l.length]) 90000 hc hl (by omega) (i+1)) (by omega) (λi out rec hi ho hB=>by
  show j0G _ _ _ _ _ _=_
  unfold j0G
  dsimp only
  rw [Z9q hi,cond_true,j08 hi,cond_true,Z9a _ _ _ hi,ja2 _ (by omega) _ (.inl (hw _ (List.getElem_mem hi))),j03 (n:=(i:Int)+1) (by omega)]) (λout rec=>by
  show j0G _ _ _ _ _ _=_
  unfold j0G
  dsimp only
  rw [Z9p,cond_false])).trans ?_
 rw [List.append_assoc]
 rfl
def jfD (p:PT):Prop:=j9T p.1/\jeX p.2.1/\jeX p.2.2
def jbZ (x:BT):Prop:=x.2.2.length<=1048576/\(∀ p∈x.2.2,jfD p)/\ -4611686018427387904<=x.1
theorem jdS (p:PT) (a z:Res):(bif !stB p.1 then z else bif !j1v p.2.1 then z else bif !j1v p.2.2 then z else a)=bif !j3h p then z else a:=by
 unfold j3h
 cases stB p.1
 ·rfl
 ·cases j1v p.2.1
  ·rfl
  ·rfl
theorem jgr (x:BT) (hl:x.2.2.length<=1048576) (K:Bool->Res):j3H x K=K (!j5i x):=by
 unfold j3H
 by_cases h1:x.1<1
 ·rw [decide_eq_true h1,cond_true];congr 1;unfold j5i;rw [decide_eq_false (by omega)];rfl
 rw [decide_eq_false h1,cond_false]
 by_cases h2:x.1>400
 ·rw [decide_eq_true h2,cond_true];congr 1;unfold j5i;rw [decide_eq_false (by omega)];rfl
 rw [decide_eq_false h2,cond_false]
 by_cases h3:x.2.1<0
 ·rw [decide_eq_true h3,cond_true];congr 1;unfold j5i;rw [decide_eq_false (by omega)];rfl
 rw [decide_eq_false h3,cond_false]
 by_cases h4:x.2.1>=x.1
 ·rw [decide_eq_true h4,cond_true];congr 1;unfold j5i;rw [decide_eq_false (by omega)];rfl
 rw [decide_eq_false h4,cond_false]
 congr 1
 unfold j5i
 by_cases h5:nI x.2.2.length>60
 ·rw [decide_eq_true h5,decide_eq_false (by omega)];rfl
 ·rw [decide_eq_false h5,decide_eq_true (by omega)];rfl
theorem jfH (x:BT) (h:jbZ x) (k:Bool->Res):j4j x k=k (j1F x):=by
 unfold j4j
 rw [jgr x h.1]
 have hl:=h.1
 cases hf:j5i x
 ·unfold j1F;rw [hf];rfl
 ·rw [Bool.not_true,cond_false]
  unfold j5c
  refine (Z8G x.2.2 (λi=>i) (λp=> !j3h p) (step:=j41 x.2.2 (nI x.2.2.length)) ((λ(_:Unit)=>k true),(λ(_:Unit)=>k false)) (k true) (k false) (by unfold LIM;omega) (λi rec hi=>by
   show j1y _ _ _ _ _ _=_
   unfold j1y
   have hp:=h.2.1 _ (List.getElem_mem hi)
   rw [Z9q hi,cond_true,j08 hi,cond_true,Z9a _ _ _ hi,jdW _ hp.1]
   simp only [jdY _ hp.2.1,jdY _ hp.2.2]
   rw [j03 (n:=(i:Int)+1) (by omega)]
   exact jdS _ _ _) (λrec=>by
   show j1y _ _ _ _ _ _=_
   unfold j1y
   rw [Z9p,cond_false])).trans ?_
  have hall:(x.2.2.any λv=> !j3h v)= !x.2.2.all j3h:=by rw [List.all_eq_not_any_not];simp
  unfold j1F
  rw [hall,hf,Bool.true_and]
  cases x.2.2.all j3h<;>rfl
theorem jfw (x:BT) (h:jbZ x) (k:Bool->Res):j49 x k=k (j1F x):=by
 unfold j49 j55
 have hl:=h.1
 have h64:=h.2.2
 refine (Z8G x.2.2 (λi=>i) (λp=> !j3h p) (step:=j3Z x.2.2 (nI x.2.2.length)) ((λ(_:Unit)=>j0d x.1 1 400 λ(r:Bool)=>bif r then j0d x.2.1 0 (Z8o (x.1-1)) λ(r1:Bool)=>bif r1 then k (decide (nI x.2.2.length<=60)) else k false else k false),(λ(_:Unit)=>k false)) (k (j5i x)) (k false) (by unfold LIM;omega) (λi rec hi=>by
  show j1w _ _ _ _ _ _=_
  unfold j1w
  have hp:=h.2.1 _ (List.getElem_mem hi)
  rw [Z9q hi,cond_true,j08 hi,cond_true,Z9a _ _ _ hi,jdO _ hp.1]
  simp only [jdQ _ hp.2.1,jdQ _ hp.2.2]
  rw [j03 (n:=(i:Int)+1) (by omega)]
  exact jdS _ _ _) (λrec=>by
  show j1w _ _ _ _ _ _=_
  unfold j1w
  rw [Z9p,cond_false]
  simp only [j3U]
  unfold j5i
  by_cases h1:1<=x.1/\x.1<=400
  ·rw [decide_eq_true h1,cond_true,j03 (by omega)]
   by_cases h2:0<=x.2.1/\x.2.1<=x.1-1
   ·rw [decide_eq_true h2,cond_true]
    congr 1
    exact decide_eq_decide.2 ⟨λh3=>⟨h1.1,h1.2,h2.1,by omega,h3⟩,λh3=>h3.2.2.2.2⟩
   ·rw [decide_eq_false h2,cond_false,decide_eq_false (by omega)]
  ·rw [decide_eq_false h1,cond_false,decide_eq_false (by omega)])).trans ?_
 have hall:(x.2.2.any λv=> !j3h v)= !x.2.2.all j3h:=by rw [List.all_eq_not_any_not];simp
 unfold j1F
 rw [hall]
 cases x.2.2.all j3h
 ·rw [Bool.and_false];rfl
 ·rw [Bool.and_true];rfl
theorem jfg (x:BT):(([80]++be x.1.toNat 2)++be x.2.1.toNat 2++[nI x.2.2.length]).length=6:=by
 simp only [List.length_append,List.length_cons,List.length_nil,j1l]
theorem jf8 (x:BT) (h:jbZ x) (k:List Int->Bool->Res):j3X x k=bif j1F x then k (byP x) true else k [] false:=by
 unfold j3X
 rw [jfH x h]
 cases hb:j1F x
 ·rfl
 ·rw [Bool.not_true,cond_false,cond_true]
  obtain ⟨⟨h1,h2,h3,h4,h5⟩,hp⟩:=j2F hb
  rw [jdz _ (by simp) _ (by omega),jdz _ (by simp only [List.length_append,List.length_cons,List.length_nil,j1l];omega) _ (by omega),Z9l (by simp only [List.length_append,List.length_cons,List.length_nil,j1l];unfold LIM;omega),cond_true,j0F (by unfold nI;omega)]
  have hpre:=jfg x
  generalize hpr:([80]++be x.1.toNat 2)++be x.2.1.toNat 2++[nI x.2.2.length]=pre at hpre
  have hbody:j4I x=pre++x.2.2.flatMap j48:=by unfold j4I;rw [hpr]
  unfold j5U
  refine (Z8x x.2.2 (λi out=>(out,i)) j48 74886 pre (step:=j4B x.2.2 (nI x.2.2.length)) (λb=>j6K b λ(r5:Int)=>j0h b r5 3 λ(r6:List Int) (r7:Bool)=>k r6 true) (λb=>j6K b λ(r5:Int)=>j0h b r5 3 λ(r6:List Int) (r7:Bool)=>k r6 true) (by unfold LIM;omega) (λi hi _=>jdL j48 1248 60 x.2.2 pre 74886 (λp hpp=>jc0 (hp p hpp)) h5 (by omega) (i+1)) (by omega) (λi out rec hi ho hB=>by
   have hpi:=hp _ (List.getElem_mem hi)
   have hs:=h.2.1 _ (List.getElem_mem hi)
   obtain ⟨p1,p2,p3⟩:=j1W hpi
   have l1:=j8T p1
   have l2:=jbi p2
   show j1S _ _ _ _ _ _=_
   unfold j1S
   dsimp only
   rw [Z9q hi,cond_true,j08 hi,cond_true,Z9a _ _ _ hi,jdV _ hs.1,p1,cond_true,jdz _ (by omega) _ (by unfold nI;omega),Z9l (by simp only [List.length_append,j1l];unfold LIM;omega),cond_true,jeW _ p2 _ (by simp only [List.length_append,j1l];omega),jeW _ p3 _ (by simp only [List.length_append,j1l];omega),j03 (n:=(i:Int)+1) (by omega)]
   congr 1
   unfold j48
   simp only [List.append_assoc]
   rfl) (λout rec=>by
   show j1S _ _ _ _ _ _=_
   unfold j1S
   dsimp only
   rw [Z9p,cond_false])).trans ?_
  rw [<-hbody]
  have hl:=jcG hb
  have hi:=jad hb
  have hr:=jda hi
  rw [jfL _ hi (by unfold LIM;omega),jh1 _ (by omega) _ (by omega)]
  rfl
theorem jf3 (x:BT) (h:jbZ x) (k:List Int->Bool->Res):j1j x k=bif j1F x then k (byP x) true else k [] false:=by
 unfold j1j
 rw [jfw x h]
 cases hb:j1F x
 ·rfl
 ·rw [Bool.not_true,cond_false,cond_true]
  obtain ⟨⟨h1,h2,h3,h4,h5⟩,hp⟩:=j2F hb
  rw [jdv _ (by simp) _ (by omega),jdv _ (by simp only [List.length_append,List.length_cons,List.length_nil,j1l];omega) _ (by omega),j2c _ (by simp only [List.length_append,List.length_cons,List.length_nil,j1l];omega) _ (by unfold nI;omega)]
  have hpre:=jfg x
  generalize hpr:([80]++be x.1.toNat 2)++be x.2.1.toNat 2++[nI x.2.2.length]=pre at hpre
  have hbody:j4I x=pre++x.2.2.flatMap j48:=by unfold j4I;rw [hpr]
  unfold j5G
  refine (Z8x x.2.2 (λi out=>(out,i)) j48 74886 pre (step:=j4t x.2.2 (nI x.2.2.length)) (λb=>j6u b λ(r5:Int)=>j0g b r5 3 λ(r6:List Int)=>k r6 true) (λb=>j6u b λ(r5:Int)=>j0g b r5 3 λ(r6:List Int)=>k r6 true) (by unfold LIM;omega) (λi hi _=>jdL j48 1248 60 x.2.2 pre 74886 (λp hpp=>jc0 (hp p hpp)) h5 (by omega) (i+1)) (by omega) (λi out rec hi ho hB=>by
   have hpi:=hp _ (List.getElem_mem hi)
   have hs:=h.2.1 _ (List.getElem_mem hi)
   obtain ⟨p1,p2,p3⟩:=j1W hpi
   have l1:=j8T p1
   have l2:=jbi p2
   show j1M _ _ _ _ _ _=_
   unfold j1M
   dsimp only
   rw [Z9q hi,cond_true,j08 hi,cond_true,Z9a _ _ _ hi,jdN _ hs.1,p1,cond_true,jdv _ (by omega) _ (by unfold nI;omega),Z9l (by simp only [List.length_append,j1l];unfold LIM;omega),cond_true,jeE _ p2 _ (by simp only [List.length_append,j1l];omega),jeE _ p3 _ (by simp only [List.length_append,j1l];omega),j03 (n:=(i:Int)+1) (by omega)]
   congr 1
   unfold j48
   simp only [List.append_assoc]
   rfl) (λout rec=>by
   show j1M _ _ _ _ _ _=_
   unfold j1M
   dsimp only
   rw [Z9p,cond_false])).trans ?_
  rw [<-hbody]
  have hl:=jcG hb
  have hi:=jad hb
  have hr:=jda hi
  rw [jfA _ hi (by unfold LIM;omega),jgX _ (by omega) _ (by omega)]
  rfl
end Go.PI.G
namespace Go.PI.G
open Go Go.PI Go.Proofs
theorem je0 {b:List Int} (hb:isB b) (at_:Nat):0<=tk b at_ 2/\tk b at_ 2<65536:=by
 unfold tk
 by_cases h:at_+2<=b.length
 ·rw [if_pos h]
  have hl:=j5P h
  have hB:=j4W hb at_ 2
  match seg b at_ 2,hl,hB with
  | [x0,x1],_,hB=>
   have h0:=hB x0 (by simp)
   have h1:=hB x1 (by simp)
   simp only [j2G,List.foldl_cons,List.foldl_nil]
   omega
 ·rw [if_neg h];omega
theorem jgY (n:Nat) (h:n<65536):j2G (be n 2)=(n:Int):=by
 simp only [j2G,be,List.foldl_cons,List.foldl_nil]
 rw [show (256:Nat) ^ 1=256 by decide,show (256:Nat) ^ 0=1 by decide]
 omega
def be2 (n:Int):List Int:=be n.toNat 2
def ok2 (n:Int):Prop:=0<=n/\n<65536
theorem jbd {b:List Int} {at_:Nat} {y:Int} {post:List Int} (hy:ok2 y) (hd:b.drop at_=be2 y++post):at_+2<=b.length/\tk b at_ 2=y/\b.drop (at_+2)=post:=by
 have hl:(be2 y).length=2:=j1l _ _
 have:=jbe (x:=be2 y) (by omega) hd
 rw [hl] at this
 refine ⟨this.1,?_,this.2.2⟩
 rw [this.2.1]
 obtain ⟨h1,h2⟩:=hy
 have h3:=jgY y.toNat (by omega)
 show j2G (be y.toNat 2)=y
 rw [h3];omega
def jgz (p:PT):Prop:=j3h p=true
def okL (l:List ByteArray):Prop:=l.length<=8/\∀ s∈l,okS s
theorem jcS {l:List ByteArray} (h:j1v l=true):okL l:=⟨(j3b h).1,λs hs=>j4x (.inl ((j3b h).2 s hs))⟩
def rgL (l:List ByteArray):Prop:=l.length<=9/\∀ s∈l,rgS s
theorem jd7 {l:List ByteArray} (h:rgL l):jeX l:=⟨by have:=h.1;omega,h.2⟩
theorem jcH (y:PT) (post:List Int):j48 y++post=be2 (nI (byS y.1).length)++(byS y.1++(byL y.2.1++(byL y.2.2++post))):=by
 unfold j48 be2 nI
 simp only [List.append_assoc]
 rfl
theorem r2 (b:List Int) (hb:isB b) (hl:b.length<=1048576):Rd b (sS b) 900000000000 2 (λe k=>j01 2 e k) ok2 ok2 be2:=by
 intro at_ bad ha
 exact ⟨tk b at_ 2,at_+2,bad,je0 hb at_,by omega,λk=>jfG b hb hl at_ 2 (by omega) (by omega) k,λhbad y post hy hd=>⟨(jbd hy hd).2.1,hbad,(jbd hy hd).2.2⟩⟩
theorem jga (b:List Int) (hb:isB b) (hl:b.length<=1048576):Rd b (sS b) 880000000000 (1+9 * 1050010) (λe k=>j26 e k) rgL okL byL:=by
 intro at_ bad ha
 obtain ⟨l,u,v,p1,p2,p3,p4⟩:=j7V (N:=880000000000) (jfE b hb hl) (rW b hb hl) (by omega) (λi out e=>(out,i,e)) (λn=>j43 n) (λ(k:List ByteArray->(List Int×Int)->Res) out e=>k out e) cS (λn _=>jfo n) (λn i _ _ h=>jer n i h)
  (λn i out e rec q hi ho hc=>by
   have h:=jfq hc
   show j1A n out (i:Int) e (λout i e0=>rec (out,i,e0)) q=_
   unfold j1A
   rw [decide_eq_true h.1,cond_true,decide_eq_true (show (i:Int)<=8 by omega),cond_true,Z9l (by unfold LIM;omega),j03 (n:=(i:Int)+1) (by omega)]
   rfl)
  (λn i out e rec q hi hc=>by
   show j1A n out (i:Int) e (λout i e0=>rec (out,i,e0)) q=_
   unfold j1A
   exact jfp hc _ _) at_ bad ha
 exact ⟨l,u,v,p1,p2,λk=>p3 k,p4⟩
noncomputable def sPt (e:List Int×Int) (k:PT->(List Int×Int)->Res) (z:Res):Res:=
 j01 2 e λr e1=>j02 r e1 λr1 e2=>bif lim (ByteArray.size r1) then (j13 (Z1e r1) λr2 r3=>j26 e2 λr4 e3=>j26 e3 λr5 e4=>k (r2,r4,r5) e4) else none
theorem rPt (b:List Int) (hb:isB b) (hl:b.length<=1048576):RdF b (sS b) 870000000000 20000000 sPt jfD jgz j48:=by
 intro at_ bad ha
 left
 obtain ⟨r,u1,v1,a1,p1,q1,z1⟩:=r2 b hb hl at_ bad (by omega)
 obtain ⟨m,rfl⟩:∃ m:Nat,r=(m:Int):=⟨r.toNat,by have:=a1.1;omega⟩
 have hm:m<65536:=by have:=a1.2;omega
 obtain ⟨s,u2,s0,s1,s2,s3⟩:=jge b hb hl u1 m (by omega) (by omega)
 have hs:(Z1e s).length<=1048576:=by rw [j0x];exact s0
 obtain ⟨l1,u3,v3,a3,p3,q3,z3⟩:=jga b hb hl u2 v1 (by omega)
 obtain ⟨l2,u4,v4,a4,p4,q4,z4⟩:=jga b hb hl u3 v3 (by omega)
 refine ⟨((rst (Z1e s)).1,l1,l2),u4,v4,⟨jgd _,jd7 a3,jd7 a4⟩,by omega,λk z=> ?_,λhbad y post hy hd=> ?_⟩
 ·unfold sPt
  refine (q1 _).trans ?_
  refine (s2 _).trans ?_
  rw [Z9l (show s.size<=LIM by unfold LIM;omega),cond_true,jh5 _ (j9V s) hs]
  refine (q3 _).trans ?_
  exact q4 _
 ·obtain ⟨y1,y2,y3⟩:=j1W hy
  have ln:=j8T y1
  rw [jcH] at hd
  obtain ⟨e1,f1,g1⟩:=z1 hbad (nI (byS y.1).length) _ ⟨by unfold nI;omega,by unfold nI;omega⟩ hd
  have hle:u1<=b.length:=by
   have hl2:=congrArg List.length g1
   rw [List.length_drop,List.length_append] at hl2
   have h1:1<=(byL y.2.1).length:=by unfold byL;rw [List.length_cons];omega
   rw [List.length_append] at hl2
   omega
  obtain ⟨e2,g2⟩:=s3 (byS y.1) _ (by unfold nI at e1;omega) hle g1
  obtain ⟨e3,f3,g3⟩:=z3 f1 y.2.1 _ (jcS y2) g2
  obtain ⟨e4,f4,g4⟩:=z4 f3 y.2.2 _ (jcS y3) g3
  refine ⟨?_,f4,g4⟩
  rw [e2,j5d (jbj y1),jeT y1,e3,e4]
def jaU (n:Int) (i:Nat):Bool:=decide ((i:Int)<n)&&decide (i<=60)
theorem jh8 {n:Int} {i:Nat} (h:jaU n i=true):(i:Int)<n/\i<=60:=by
 unfold jaU at h
 rw [Bool.and_eq_true,decide_eq_true_eq,decide_eq_true_eq] at h
 exact h
theorem jh7 {n:Int} {i:Nat} (h:jaU n i=false) (a:Res) (z:Res):(bif decide ((i:Int)<n) then (bif decide ((i:Int)<=60) then a else z) else z)=z:=by
 unfold jaU at h
 by_cases h1:(i:Int)<n
 ·rw [decide_eq_true h1,Bool.true_and,decide_eq_false_iff_not] at h
  rw [decide_eq_true h1,cond_true,decide_eq_false (show ¬ (i:Int)<=60 by omega),cond_false]
 ·rw [decide_eq_false h1,cond_false]
theorem jez {x:BT} {b:List Int} (h:byP x=b):b=[80]++(be2 x.1++(be2 x.2.1++(Z9t (nI x.2.2.length)++(x.2.2.flatMap j48++be (jcn (j4I x)).toNat 3)))):=by
 rw [<-h]
 unfold byP j4I be2 Z9t
 simp only [List.append_assoc]
theorem jfa {l p:Int} {ps:List PT} (hl:0<=l) (h:ps.length<=61/\∀ q∈ps,jfD q):jbZ (l,p,ps):=⟨by show ps.length<=1048576;omega,h.2,by show -4611686018427387904<=l;omega⟩
theorem jgC (b:List Int) (hb:isB b) (hl:b.length<=1048576):∃ raw:BT,jbZ raw/\(∀ k:BT->Bool->Res,j2l b k=j3X raw λr3 r4=>bif !r4 then k zBT false else bif sNe (Z34 r3) (Z34 b) then k zBT false else k raw true)/\∀ x,j1F x=true->byP x=b->raw=x:=by
 obtain ⟨r,u1,v1,a1,p1,q1,z1⟩:=r2 b hb hl 1 false (by omega)
 obtain ⟨t,u2,v2,a2,p2,q2,z2⟩:=r2 b hb hl u1 v1 (by omega)
 obtain ⟨n,u3,v3,a3,p3,q3,z3⟩:=rB b hb hl u2 v2 (by omega)
 have key:=λ(ff:(BT->Res)->Res)=>jeR (rPt b hb hl) 61 (λi out e=>(i,((r,t,out):BT),e)) (j3K n) (λ(k:BT->Res) out e=>k (r,t,out)) ff (jaU n) (by unfold jaU;simp)
  (λi out e rec q hi ho hc=>by
   have h:=jh8 hc
   show j1g n (i:Int) (r,t,out) e (λi x e0=>rec (i,x,e0)) q=_
   unfold j1g sPt
   dsimp only
   rw [decide_eq_true h.1,cond_true,decide_eq_true (show (i:Int)<=60 by omega),cond_true,Z9l (n:=out.length+1) (by unfold LIM;omega),j03 (n:=(i:Int)+1) (by omega)]
   rfl)
  (λi out e rec q hi hc=>by
   show j1g n (i:Int) (r,t,out) e (λi x e0=>rec (i,x,e0)) q=_
   unfold j1g
   exact jh7 hc _ _) 61 0 Z12 [] u3 v3 (by omega) (Z1U (by omega)) rfl (λx hx=>by cases hx) (by omega)
 rcases key (λ_=>none) with ⟨ps,u4,v4,a4,p4,q4,z4⟩ | ⟨q4,z4⟩
 ·refine ⟨(r,t,ps),jfa a1.1 a4,λk=> ?_,λx hx he=> ?_⟩
  ·unfold j2l
   refine (q1 _).trans ?_
   refine (q2 _).trans ?_
   refine (q3 _).trans ?_
   exact q4 _
  ·obtain ⟨⟨h1,h2,h3,h4,h5⟩,h6⟩:=j2F hx
   have hd:=jez he
   have hd:b.drop 1=_:=congrArg (List.drop 1) hd
   obtain ⟨e1,f1,g1⟩:=z1 rfl x.1 _ ⟨by omega,by omega⟩ hd
   obtain ⟨e2,f2,g2⟩:=z2 f1 x.2.1 _ ⟨by omega,by omega⟩ g1
   obtain ⟨e3,f3,g3⟩:=z3 f2 (nI x.2.2.length) _ trivial g2
   have:=z4 f3 x.2.2 _ h6 (λj j1 j2=>by
    unfold jaU
    rw [e3,decide_eq_true (show (j:Int)<nI x.2.2.length by unfold nI;omega),decide_eq_true (show j<=60 by omega)];rfl) (by
    unfold jaU
    rw [e3,decide_eq_false (show ¬ ((0+x.2.2.length:Nat):Int)<nI x.2.2.length by unfold nI;omega)];rfl) g3
   rw [e1,e2,this.1]
   rfl
 ·exfalso
  have h1:=q4 (λ_=>some ())
  rcases key (λ_=>some ()) with ⟨ps,u4,v4,a4,p4,q5,z5⟩ | ⟨q5,z5⟩
  ·exact absurd ((q5 (λ_=>some ())).symm.trans h1) (by simp)
  ·exact absurd ((q5 (λ_=>some ())).symm.trans h1) (by simp)
theorem i2 (b:List Int) (hb:isB b) (hl:b.length<=1048576):Rd b (iS b) 900000000000 2 (λe k=>j06 2 e k) ok2 ok2 be2:=by
 intro at_ bad ha
 have hn:∀ k,j06 2 (b,(at_:Int),bad) k=jah b at_ 2 bad k:=λk=>jfv b hb hl at_ 2 (by omega) (by omega) bad k
 cases bad
 ·by_cases h:at_+2<=b.length
  ·refine ⟨tk b at_ 2,at_+2,false,je0 hb at_,by omega,λk=> ?_,λ_ y post hy hd=>⟨(jbd hy hd).2.1,rfl,(jbd hy hd).2.2⟩⟩
   refine (hn k).trans ?_
   unfold jah
   rw [cond_false,decide_eq_true h,cond_true]
   rfl
  ·refine ⟨0,at_,true,⟨by omega,by omega⟩,by omega,λk=> ?_,λ_ y post hy hd=>absurd (jbd hy hd).1 h⟩
   refine (hn k).trans ?_
   unfold jah
   rw [cond_false,decide_eq_false h,cond_false]
   rfl
 ·refine ⟨0,at_,true,⟨by omega,by omega⟩,by omega,λk=> ?_,λh=>by cases h⟩
  exact hn k
theorem jhb (b:List Int) (hb:isB b) (hl:b.length<=1048576) (at_ m:Nat) (ha:at_<=900000000000) (hm:m<70000) (bad:Bool):∃ (r:List Int) (u:Nat) (v:Bool),isB r/\r.length<=1048576/\u<=at_+m/\(∀ k,j0i (m:Int) (b,(at_:Int),bad) k=k r (b,(u:Int),v)) /\
  (bad=false->∀ (x:List Int) post,x.length=m->at_<=b.length->b.drop at_=x++post->r=x/\v=false/\b.drop u=post):=by
 cases bad
 ·by_cases h:at_+m<=b.length
  ·refine ⟨seg b at_ m,at_+m,false,j4W hb _ _,by rw [j5P h];omega,by omega,λk=> ?_,λ_ x post hx _ hd=> ?_⟩
   ·unfold j0i
    dsimp only
    rw [cond_false,j03 (n:=nI b.length-(at_:Int)) (by unfold nI;omega),decide_eq_false (show ¬ (m:Int)>nI b.length-(at_:Int) by unfold nI;omega),cond_false,j03 (n:=(at_:Int)+(m:Int)) (by omega),show (at_:Int)+(m:Int)-(m:Int)=(at_:Int) by omega,j03 (n:=(at_:Int)) (by omega)]
    have hc:Z6Z (at_:Int) ((at_:Int)+(m:Int)) b.length=true:=decide_eq_true (by omega)
    rw [hc,cond_true,ja7]
    rfl
   ·subst hx
    unfold seg
    rw [hd,List.take_left,<-List.drop_drop,hd,List.drop_left]
    exact ⟨rfl,rfl,rfl⟩
  ·refine ⟨[],at_,true,j4d,Nat.zero_le _,by omega,λk=> ?_,λ_ x post hx hle hd=> ?_⟩
   ·unfold j0i
    dsimp only
    rw [cond_false,j03 (n:=nI b.length-(at_:Int)) (by unfold nI;omega),decide_eq_true (show (m:Int)>nI b.length-(at_:Int) by unfold nI;omega),cond_true]
   ·have hl:=congrArg List.length hd
    rw [List.length_drop,List.length_append] at hl
    omega
 ·exact ⟨[],at_,true,j4d,Nat.zero_le _,by omega,λk=>rfl,λh=>by cases h⟩
noncomputable def iPt (e:List Int×Int×Bool) (k:PT->(List Int×Int×Bool)->Res) (z:Res):Res:=
 j06 2 e λr e1=>j0i r e1 λr1 e2=>j11 r1 λr2 r3=>bif !r3 then z else j0r e2 λr4 e3=>j0r e3 λr5 e4=>k (r2,r4,r5) e4
theorem jfd (b:List Int) (hb:isB b) (hl:b.length<=1048576):Rd b (iS b) 780000000000 (6+9 * 300) (λe k=>j0r e k) rgL okL byL:=jfZ b hb hl
theorem jhj (b:List Int) (hb:isB b) (hl:b.length<=1048576):RdF b (iS b) 770000000000 80000 iPt jfD jgz j48:=by
 intro at_ bad ha
 obtain ⟨r,u1,v1,a1,p1,q1,z1⟩:=i2 b hb hl at_ bad (by omega)
 obtain ⟨m,rfl⟩:∃ m:Nat,r=(m:Int):=⟨r.toNat,by have:=a1.1;omega⟩
 have hm:m<65536:=by have:=a1.2;omega
 obtain ⟨s,u2,v2,s0,s1,p2,q2,z2⟩:=jhb b hb hl u1 m (by omega) (by omega) v1
 obtain ⟨l1,u3,v3,a3,p3,q3,z3⟩:=jfd b hb hl u2 v2 (by omega)
 obtain ⟨l2,u4,v4,a4,p4,q4,z4⟩:=jfd b hb hl u3 v3 (by omega)
 have hu:∀ (k:PT->(List Int×Int×Bool)->Res) z,iPt (iS b at_ bad) k z=bif !(rst s).2 then z else k ((rst s).1,l1,l2) (iS b u4 v4):=λk z=>by
  unfold iPt
  refine (q1 _).trans ?_
  refine (q2 _).trans ?_
  rw [jgT _ s0 s1]
  cases (rst s).2
  ·rfl
  ·rw [Bool.not_true,cond_false,cond_false]
   refine (q3 _).trans ?_
   exact q4 _
 have back:bad=false->∀ y post,jgz y->b.drop at_=j48 y++post->s=byS y.1/\l1=y.2.1/\l2=y.2.2/\v4=false/\b.drop u4=post:=λhbad y post hy hd=>by
  obtain ⟨y1,y2,y3⟩:=j1W hy
  have ln:=j8T y1
  rw [jcH] at hd
  obtain ⟨e1,f1,g1⟩:=z1 hbad (nI (byS y.1).length) _ ⟨by unfold nI;omega,by unfold nI;omega⟩ hd
  have hle:u1<=b.length:=by
   have hl2:=congrArg List.length g1
   rw [List.length_drop,List.length_append] at hl2
   have h1:1<=(byL y.2.1).length:=by unfold byL;rw [List.length_cons];omega
   rw [List.length_append] at hl2
   omega
  obtain ⟨e2,f2,g2⟩:=z2 f1 (byS y.1) _ (by unfold nI at e1;omega) hle g1
  obtain ⟨e3,f3,g3⟩:=z3 f2 y.2.1 _ (jcS y2) g2
  obtain ⟨e4,f4,g4⟩:=z4 f3 y.2.2 _ (jcS y3) g3
  exact ⟨e2,e3,e4,f4,g4⟩
 cases hr:(rst s).2
 ·refine .inr ⟨λk z=>by rw [hu,hr];rfl,λhbad y post hy hd=> ?_⟩
  have h:=back hbad y post hy hd
  rw [h.1,jeT (j1W hy).1] at hr
  cases hr
 ·refine .inl ⟨((rst s).1,l1,l2),u4,v4,⟨jgd _,jd7 a3,jd7 a4⟩,by omega,λk z=>by rw [hu,hr];rfl,λhbad y post hy hd=> ?_⟩
  have h:=back hbad y post hy hd
  refine ⟨?_,h.2.2.2.1,h.2.2.2.2⟩
  rw [h.1,jeT (j1W hy).1,h.2.1,h.2.2.1]
def jhn (n:Int):Prop:=0<=n/\n<=60
theorem jgS (b:List Int) (hb:isB b) (hl:b.length<=1048576):Rd b (iS b) 900000000000 6 (λe k=>j07 60 e k) jhn (λn=>0<=n/\n<=60) (λn=>[n]):=by
 intro at_ bad ha
 obtain ⟨n,u,v,r1,p1,q1,z1⟩:=iB b hb hl at_ bad ha
 have hu:∀ k,j07 60 (b,(at_:Int),bad) k=(bif decide (n>60) then k 0 (b,(u:Int),true) else bif v then k 0 (b,(u:Int),v) else k n (b,(u:Int),v)):=λk=>by
  unfold j07
  exact q1 _
 by_cases h8:n>60
 ·refine ⟨0,u,true,⟨by omega,by omega⟩,p1,λk=>by
   show j07 60 (b,(at_:Int),bad) k=_
   rw [hu,decide_eq_true h8];rfl,λhbad y post hy hd=> ?_⟩
  have:=(z1 hbad y post trivial hd).1
  omega
 ·cases v
  ·refine ⟨n,u,false,⟨r1.1,by omega⟩,p1,λk=>by
    show j07 60 (b,(at_:Int),bad) k=_
    rw [hu,decide_eq_false h8];rfl,λhbad y post hy hd=>z1 hbad y post trivial hd⟩
  ·refine ⟨0,u,true,⟨by omega,by omega⟩,p1,λk=>by
    show j07 60 (b,(at_:Int),bad) k=_
    rw [hu,decide_eq_false h8];rfl,λhbad y post hy hd=> ?_⟩
   exact absurd (z1 hbad y post trivial hd).2.1 (by simp)
theorem jgu (b:List Int) (hb:isB b) (hl:b.length<=1048576):(∃ (raw:BT) (bad:Bool),jbZ raw/\(∀ k:BT->Bool->Res,j0C b k=j1j raw λr3 r4=>bif bad then k zBT false else bif !r4 then k zBT false else bif sNe (Z34 r3) (Z34 b) then k zBT false else k raw true)/\∀ x,j1F x=true->byP x=b->raw=x/\bad=false) \/
  ((∀ k:BT->Bool->Res,j0C b k=k zBT false)/\∀ x,j1F x=true->byP x=b->False):=by
 obtain ⟨r0,u0,v0,a0,p0,q0,z0⟩:=iB b hb hl 0 false (by omega)
 obtain ⟨r,u1,v1,a1,p1,q1,z1⟩:=i2 b hb hl u0 v0 (by omega)
 obtain ⟨t,u2,v2,a2,p2,q2,z2⟩:=i2 b hb hl u1 v1 (by omega)
 obtain ⟨n,u3,v3,a3,p3,q3,z3⟩:=jgS b hb hl u2 v2 (by omega)
 have Z3r:∀ x,j1F x=true->byP x=b->r=x.1/\t=x.2.1/\n=nI x.2.2.length/\v3=false/\b.drop u3=x.2.2.flatMap j48++be (jcn (j4I x)).toNat 3:=λx hx he=>by
  obtain ⟨⟨h1,h2,h3,h4,h5⟩,h6⟩:=j2F hx
  have hd:=jez he
  have hd:b.drop 0=_:=hd
  obtain ⟨e0,f0,g0⟩:=z0 rfl 80 _ trivial hd
  obtain ⟨e1,f1,g1⟩:=z1 f0 x.1 _ ⟨by omega,by omega⟩ g0
  obtain ⟨e2,f2,g2⟩:=z2 f1 x.2.1 _ ⟨by omega,by omega⟩ g1
  obtain ⟨e3,f3,g3⟩:=z3 f2 (nI x.2.2.length) _ ⟨by unfold nI;omega,by unfold nI;omega⟩ g2
  exact ⟨e1,e2,e3,f3,g3⟩
 have key:=jeR (jhj b hb hl) 60 (λi out e=>(i,((r,t,out):BT),e)) (j3x n) (λ(k:(BT->(List Int×Int×Bool)->Res)×(Unit->Res)) out e=>k.1 (r,t,out) e) (λk=>k.2 ()) (cI n) (decide_eq_false (by have:=a3.2;omega))
  (λi out e rec q hi ho hc=>by
   show j18 n (i:Int) (r,t,out) e (λi x e0=>rec (i,x,e0)) q.1 q.2=_
   unfold j18 iPt
   dsimp only
   rw [show decide ((i:Int)<n)=true from hc,cond_true,Z9l (n:=out.length+1) (by unfold LIM;omega),j03 (n:=(i:Int)+1) (by omega)]
   rfl)
  (λi out e rec q hi hc=>by
   show j18 n (i:Int) (r,t,out) e (λi x e0=>rec (i,x,e0)) q.1 q.2=_
   unfold j18
   rw [show decide ((i:Int)<n)=false from hc,cond_false]) 60 0 Z12 [] u3 v3 (by omega) (Z1U (by omega)) rfl (λx hx=>by cases hx) (by omega)
 have lens:∀ x,j1F x=true->n=nI x.2.2.length->(∀ j,0<=j->j<0+x.2.2.length->cI n j=true)/\cI n (0+x.2.2.length)=false:=λx hx e3=>
  ⟨λj j1 j2=>by rw [e3];exact decide_eq_true (by unfold nI;omega),by rw [e3];exact decide_eq_false (by unfold nI;omega)⟩
 rcases key with ⟨ps,u4,v4,a4,p4,q4,z4⟩ | ⟨q4,z4⟩
 ·refine .inl ⟨(r,t,ps),v4,jfa a1.1 ⟨by have:=a4.1;omega,a4.2⟩,λk=> ?_,λx hx he=> ?_⟩
  ·unfold j0C
   refine (q0 _).trans ?_
   refine (q1 _).trans ?_
   refine (q2 _).trans ?_
   refine (q3 _).trans ?_
   refine (q4 ((λ(b_1:BT) (t:List Int×Int×Bool)=>j1j b_1 λ(r4:List Int) (r5:Bool)=>j1N r5 b r4 t λ(t1:Bool)=>bif t1 then k zBT false else k b_1 true),(λ(_:Unit)=>k zBT false))).trans ?_
   show (j1j (r,t,ps) λ(r4:List Int) (r5:Bool)=>j1N r5 b r4 (b,(u4:Int),v4) λ(t1:Bool)=>bif t1 then k zBT false else k (r,t,ps) true)=_
   rfl
  ·obtain ⟨e1,e2,e3,e4,e5⟩:=Z3r x hx he
   have:=z4 e4 x.2.2 _ (j2F hx).2 (lens x hx e3).1 (lens x hx e3).2 e5
   exact ⟨by rw [e1,e2,this.1];rfl,this.2.1⟩
 ·refine .inr ⟨λk=> ?_,λx hx he=> ?_⟩
  ·unfold j0C
   refine (q0 _).trans ?_
   refine (q1 _).trans ?_
   refine (q2 _).trans ?_
   refine (q3 _).trans ?_
   exact q4 ((λ(b_1:BT) (t:List Int×Int×Bool)=>j1j b_1 λ(r4:List Int) (r5:Bool)=>j1N r5 b r4 t λ(t1:Bool)=>bif t1 then k zBT false else k b_1 true),(λ(_:Unit)=>k zBT false))
  ·obtain ⟨e1,e2,e3,e4,e5⟩:=Z3r x hx he
   exact z4 e4 x.2.2 _ (j2F hx).2 (lens x hx e3).1 (lens x hx e3).2 e5
noncomputable def prd (b:List Int):BT×Bool:=by
 classical
 exact if h:∃ x,j1F x=true/\byP x=b then (h.choose,true) else (zBT,false)
theorem jff (b:List Int) (hb:isB b) (raw:BT) (bad:Bool) (hback:∀ x,j1F x=true->byP x=b->raw=x/\bad=false) (k:BT->Bool->Res) :
  (bif j1F raw then (bif bad then k zBT false else bif !true then k zBT false else bif sNe (Z34 (byP raw)) (Z34 b) then k zBT false else k raw true) else (bif bad then k zBT false else bif !false then k zBT false else bif sNe (Z34 []) (Z34 b) then k zBT false else k raw true))=k (prd b).1 (prd b).2:=by
 unfold prd
 by_cases h:∃ x,j1F x=true/\byP x=b
 ·rw [dif_pos h]
  have hc:=h.choose_spec
  obtain ⟨hr,hbad⟩:=hback h.choose hc.1 hc.2
  rw [hr,hc.1,cond_true,hbad,cond_false,hc.2,Z8U]
  rfl
 ·rw [dif_neg h]
  cases hs:j1F raw
  ·cases bad<;>rfl
  ·cases bad
   ·rw [cond_true,cond_false]
    cases hn:sNe (Z34 (byP raw)) (Z34 b)
    ·exact absurd ⟨raw,hs,jbN (jgR hs) hb ((jdA _ _).1 hn)⟩ h
    ·rfl
   ·rfl
theorem jh4 (b:List Int) (hb:isB b) (hl:b.length<=1048576) (k:BT->Bool->Res):j2l b k=k (prd b).1 (prd b).2:=by
 obtain ⟨raw,h1,h2,h3⟩:=jgC b hb hl
 rw [h2,jf8 raw h1]
 exact jff b hb raw false (λx hx he=>⟨h3 x hx he,rfl⟩) k
theorem jfe (b:List Int) (hb:isB b) (hl:b.length<=1048576) (k:BT->Bool->Res):j0C b k=k (prd b).1 (prd b).2:=by
 rcases jgu b hb hl with ⟨raw,bad,h1,h2,h3⟩ | ⟨h1,h2⟩
 ·rw [h2,jf3 raw h1]
  exact jff b hb raw bad h3 k
 ·rw [h1]
  have:¬ ∃ x,j1F x=true/\byP x=b:=λ⟨x,hx,he⟩=>h2 x hx he
  unfold prd
  rw [dif_neg this]
theorem jg8 (b:List Int):(j1F (prd b).1=true/\(prd b).2=true/\byP (prd b).1=b)\/prd b=(zBT,false):=by
 unfold prd
 by_cases h:∃ x,j1F x=true/\byP x=b
 ·rw [dif_pos h]
  exact .inl ⟨h.choose_spec.1,rfl,h.choose_spec.2⟩
 ·rw [dif_neg h]
  exact .inr rfl
end Go.PI.G
namespace Go.PI.G
open Go Go.PI Go.Proofs
theorem jaB (k:ByteArray->Res):∀ (m n d:Nat) (s:ByteArray),n<m->0<n->n<=4294967296->n<10 ^ (d+1)->s.size+d<=1000 ->
  Z14 j3E m ((n:Int),s) k=k (jaf n++s)
 | 0,n,d,s,h,_,_,_,_=>by omega
 | m+1,n,d,s,h,hn,hb,hd,hs=>by
  rw [Z8C]
  show j22 _ _ _ _=_
  unfold j22
  have h9:decide ((n:Int)>0)=true:=decide_eq_true (by omega)
  rw [h9,cond_true,jgF,jgG,Z9j (n:=((n / 10:Nat):Int)) (by omega) (by omega)]
  show (bif lim ((dgt ((n % 10:Nat):Int)).size+s.size) then Z14 j3E m (((n / 10:Nat):Int),dgt ((n % 10:Nat):Int)++s) k else none)=_
  rw [j94,Z9l (by unfold LIM;omega),cond_true]
  by_cases h1:n<10
  ·have h10:n / 10=0:=by omega
   have h11:n % 10=n:=by omega
   rw [h10,h11,jds h1]
   obtain ⟨m,rfl⟩:∃ e,m=e+1:=⟨m-1,by omega⟩
   rw [Z8C]
   show j22 _ _ _ _=_
   unfold j22
   have h0:decide (((0:Nat):Int)>0)=false:=decide_eq_false (by omega)
   rw [h0,cond_false]
  ·obtain ⟨d,rfl⟩:∃ e,d=e+1:=by
    cases d with
    | zero=>exact absurd (by simpa using hd) h1
    | succ d=>exact ⟨d,rfl⟩
   rw [jaB k m (n / 10) d _ (by omega) (by omega) (by omega) (Nat.div_lt_of_lt_mul (by rw [Nat.pow_succ] at hd;omega)) (by rw [ByteArray.size_append,j94];omega),jfc h1,ByteArray.append_assoc]
theorem j1V (k:Int) (h:1<=k/\k<=4294967296) (K:ByteArray->Res):j09 k K=K (mT k):=by
 unfold j09 j6A
 have h0:decide (k<=0)=false:=decide_eq_false (by omega)
 have:=jaB (λ(out:ByteArray)=>bif lim (1+(ByteArray.size out)) then K (z_m++out) else none) Z12 k.toNat 12 eS (Z1U (by omega)) (by omega) (by omega) (by omega) (by show 0+12<=1000;omega)
 rw [show ((k.toNat:Nat):Int)=k by omega,jha] at this
 rw [h0,cond_false]
 refine this.trans ?_
 have hs:=jdJ 12 k.toNat (by omega)
 rw [Z9l (by unfold LIM;omega),cond_true]
 rfl
end Go.PI.G
set_option maxRecDepth 10000
namespace Go.PI.G
open Go Go.PI Go.Proofs
theorem jeA (a:Int×Int×ByteArray) (h:msr y2 a<=1048576) (k:Bool->Res):j78 a a k=k true:=by
 unfold j78
 simp only [Z9o,Z8U,beq_self_eq_true,cond_false,Bool.not_true]
end Go.PI.G
namespace Go.PI.G
open Go Go.PI Go.Proofs
theorem jgo (a:ByteArray×Int×Bool×Bool×Int×Int×ByteArray) (h:msr y7 a<=1048576) (k:Bool->Res):j8Q a a k=k true:=by
 have h4:msr y2 a.2.2.2.2<=1048576:=(Nat.le_trans (@j05 .bool y2 a.2.2.2) (Nat.le_trans (@j05 .bool y4 a.2.2) (Nat.le_trans (@j05 (.int .i64) y5 a.2) (Nat.le_trans (@j05 .str y6 a) h))))
 unfold j8Q
 simp only [Z9o,Z8U,beq_self_eq_true,cond_false,Bool.not_true,jeA _ h4]
end Go.PI.G
