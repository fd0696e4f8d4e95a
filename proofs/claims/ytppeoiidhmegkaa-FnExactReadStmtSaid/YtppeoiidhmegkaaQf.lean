/-
  Program's code interpreted over typed values; printed texts; plain laws. No conditions.
-/
import Derived.Test.YtppeoiidhmegkaaQe
import Derived.Test.YtppeoiidhmegkaaQc
import Derived.Test.YtppeoiidhmegkaaQd
set_option linter.unusedVariables false
set_option linter.unusedSimpArgs false
namespace Go.PI.G
open Go Go.PI Go.Proofs
theorem iB (b:List Int) (hb:isB b) (hl:b.length<=1048576):Rd b (iS b) 900000000 6 (λe k=>j07 1 e k) rgB (rgA Int) Z9t:=by
 intro at_ bad ha
 obtain ⟨n,u,v,q1,q2,q3,q4,q5,q6⟩:=iN b hb hl at_ 1 (by omega) (.inl rfl) bad
 refine ⟨n,u,v,⟨q2,q4 rfl⟩,q1,λk=>q5 k,λhbad y post _ hd=> ?_⟩
 obtain ⟨f1,f2,f3,_⟩:=q6 hbad [y] post rfl hd
 rw [j8G] at f1
 exact ⟨f1,f2,f3⟩
theorem iW (b:List Int) (hb:isB b) (hl:b.length<=1048576):Rd b (iS b) 900000000 300 (λe k=>j08 e k) rgS okS byW:=by
 intro at_ bad ha
 obtain ⟨s,u,v,p1,p2,p3⟩:=jcO b hb hl at_ (by omega) bad
 have hsz:s.size<=1048576:=by
  obtain ⟨n,a1,b1,q0,q1,q2,q3,q4,q5⟩:=iN b hb hl at_ 1 (by omega) (.inl rfl) bad
  obtain ⟨m,rfl⟩:∃ m:Nat,n=(m:Int):=⟨n.toNat,by omega⟩
  have hm:=q3 rfl
  have hu:∀ k,j08 (b,(at_:Int),bad) k=j0F (m:Int) (b,(a1:Int),b1) λr1 bt=>k (Z34 r1) bt:=λk=>by
   unfold j08
   exact q4 _
  have hz:(Z34 ([]:List Int)).size=0:=rfl
  have key:∃ (r:List Int) (w:List Int×Int×Bool),isB r/\r.length<=1048576/\∀ k,j08 (b,(at_:Int),bad) k=k (Z34 r) w:=by
   cases b1
   ·by_cases h:a1+m<=b.length
    ·refine ⟨seg b a1 m,(b,((a1+m:Nat):Int),false),j5k hb _ _,by rw [j69 h];omega,λk=> ?_⟩
     rw [hu]
     unfold j0F
     dsimp only
     rw [cond_false,j04 (n:=nI b.length-(a1:Int)) (by unfold nI;omega),decide_eq_false (show ¬ (m:Int)>nI b.length-(a1:Int) by unfold nI;omega),cond_false,j04 (n:=(a1:Int)+(m:Int)) (by omega),show (a1:Int)+(m:Int)-(m:Int)=(a1:Int) by omega,j04 (n:=(a1:Int)) (by omega)]
     have hc:Z6Z (a1:Int) ((a1:Int)+(m:Int)) b.length=true:=decide_eq_true (by omega)
     rw [hc,cond_true,j8H]
     rfl
    ·refine ⟨[],(b,(a1:Int),true),j60,Nat.zero_le _,λk=> ?_⟩
     rw [hu]
     unfold j0F
     dsimp only
     rw [cond_false,j04 (n:=nI b.length-(a1:Int)) (by unfold nI;omega),decide_eq_true (show (m:Int)>nI b.length-(a1:Int) by unfold nI;omega),cond_true]
   ·exact ⟨[],(b,(a1:Int),true),j60,Nat.zero_le _,λk=>by rw [hu];rfl⟩
  obtain ⟨r,w,k1,k2,k3⟩:=key
  have e1:=p2 (λs _=>if s.size<=1048576 then some () else none)
  rw [k3] at e1
  rw [jbl k1,if_pos k2] at e1
  by_cases h:s.size<=1048576
  ·exact h
  ·rw [if_neg h] at e1;cases e1
 exact ⟨s,u,v,hsz,p1,λk=>p2 k,λhbad y post hy hd=>p3 hbad y post hy hd⟩
theorem iV (b:List Int) (hb:isB b) (hl:b.length<=1048576):Rd b (iS b) 800000000 400 (λe k=>j0E e k) (rgA V) okV wB:=by
 intro at_ bad ha
 obtain ⟨v,u,w,p1,p2,p3⟩:=jde b hb hl at_ (by omega) bad
 exact ⟨v,u,w,trivial,p1,λk=>p2 k,λhbad y post hy hd=>p3 hbad y post hy hd⟩
def rg8 (n:Int):Prop:=0<=n/\n<=8
theorem jbM (b:List Int) (hb:isB b) (hl:b.length<=1048576):Rd b (iS b) 900000000 6 (λe k=>j0h 8 e k) rg8 (λn=>0<=n/\n<=8) (λn=>[n]):=by
 intro at_ bad ha
 obtain ⟨n,u,v,r1,p1,q1,z1⟩:=iB b hb hl at_ bad ha
 have hu:∀ k,j0h 8 (b,(at_:Int),bad) k=(bif decide (n>8) then k 0 (b,(u:Int),true) else bif v then k 0 (b,(u:Int),v) else k n (b,(u:Int),v)):=λk=>by
  unfold j0h
  exact q1 _
 by_cases h8:n>8
 ·refine ⟨0,u,true,⟨by omega,by omega⟩,p1,λk=>by
   show j0h 8 (b,(at_:Int),bad) k=_
   rw [hu,decide_eq_true h8];rfl,λhbad y post hy hd=> ?_⟩
  have:=(z1 hbad y post trivial hd).1
  omega
 ·cases v
  ·refine ⟨n,u,false,⟨r1.1,by omega⟩,p1,λk=>by
    show j0h 8 (b,(at_:Int),bad) k=_
    rw [hu,decide_eq_false h8];rfl,λhbad y post hy hd=>z1 hbad y post trivial hd⟩
  ·refine ⟨0,u,true,⟨by omega,by omega⟩,p1,λk=>by
    show j0h 8 (b,(at_:Int),bad) k=_
    rw [hu,decide_eq_false h8];rfl,λhbad y post hy hd=> ?_⟩
   exact absurd (z1 hbad y post trivial hd).2.1 (by simp)
theorem jdd (b:List Int) (hb:isB b) (hl:b.length<=1048576):Rd b (iS b) 790000000 718 (λe k=>j08 e λr1 e2=>j07 1 e2 λr2 e3=>j07 1 e3 λr3 e4=>j07 1 e4 λr4 e5=>j0E e5 λr5 e6=>k (r1,r2,(r3==1),(r4==1),r5) e6) rgC okC byC:=
 jcj (j5i (N:=790000000) (iW b hb hl) (j5i (N:=795000000) (iB b hb hl) (j5i (N:=796000000) (iB b hb hl) (j5i (N:=797000000) (iB b hb hl) (iV b hb hl) (by omega)) (by omega)) (by omega)) (by omega))
  (λp=>(p.1,p.2.1,(p.2.2.1==1),(p.2.2.2.1==1),p.2.2.2.2)) (λc:C=>(c.1,c.2.1,bI c.2.2.1,bI c.2.2.2.1,c.2.2.2.2)) (λx hx=>hx.1) (λc hc=>by
   obtain ⟨h1,h2,h3⟩:=j3g hc
   refine ⟨⟨?_,trivial,trivial,trivial,h3⟩,?_,rfl⟩
   ·have:=(j0P h1).2
    show c.1.size<=30
    omega
   ·show (c.1,c.2.1,(bI c.2.2.1==1),(bI c.2.2.2.1==1),c.2.2.2.2)=c
    rw [j9K,j9K])
def cI (n:Int) (i:Nat):Bool:=decide ((i:Int)<n)
theorem jcq {n:Int} (h:rg8 n):cI n 9=false:=decide_eq_false (by have:=h.2;omega)
theorem jc7 (b:List Int) (hb:isB b) (hl:b.length<=1048576):Rd b (iS b) 780000000 (6+9 * 400) (λe k=>j1Q e k) (λl=>l.length<=9) (λl=>l.length<=8/\∀ v∈l,okV v) j10:=by
 intro at_ bad ha
 obtain ⟨l,u,v,p1,p2,p3,p4⟩:=j6I (N:=780000000) (jbU (jbM b hb hl) (show 800000000<=900000000 by omega) (Nat.le_refl _)) (iV b hb hl) (by omega) (λi out e=>(out,i,e)) (λn=>j3C n) (λ(k:List V->(List Int×Int×Bool)->Res) out e=>k out e) cI (λn h=>jcq h) (λn i _ _ h=>rfl)
  (λn i out e rec q hi ho hc=>by
   show j1h n out (i:Int) e (λout i e0=>rec (out,i,e0)) q=_
   unfold j1h
   rw [show decide ((i:Int)<n)=true from hc,cond_true,Z9l (by unfold LIM;omega),j04 (n:=(i:Int)+1) (by omega)]
   rfl)
  (λn i out e rec q hi hc=>by
   show j1h n out (i:Int) e (λout i e0=>rec (out,i,e0)) q=_
   unfold j1h
   rw [show decide ((i:Int)<n)=false from hc,cond_false]) at_ bad ha
 exact ⟨l,u,v,p1.1,p2,λk=>p3 k,p4⟩
theorem jd6 (b:List Int) (hb:isB b) (hl:b.length<=1048576):Rd b (iS b) 780000000 (6+9 * 300) (λe k=>j2v e k) (λl=>l.length<=9/\∀ s∈l,rgS s) (λl=>l.length<=8/\∀ v∈l,okS v) (λl=>nI l.length::l.flatMap byW):=by
 intro at_ bad ha
 obtain ⟨l,u,v,p1,p2,p3,p4⟩:=j6I (N:=780000000) (jbM b hb hl) (iW b hb hl) (by omega) (λi out e=>(out,i,e)) (λn=>j3j n) (λ(k:List ByteArray->(List Int×Int×Bool)->Res) out e=>k out e) cI (λn h=>jcq h) (λn i _ _ h=>rfl)
  (λn i out e rec q hi ho hc=>by
   show j13 n out (i:Int) e (λout i e0=>rec (out,i,e0)) q=_
   unfold j13
   rw [show decide ((i:Int)<n)=true from hc,cond_true,Z9l (by unfold LIM;omega),j04 (n:=(i:Int)+1) (by omega)]
   rfl)
  (λn i out e rec q hi hc=>by
   show j13 n out (i:Int) e (λout i e0=>rec (out,i,e0)) q=_
   unfold j13
   rw [show decide ((i:Int)<n)=false from hc,cond_false]) at_ bad ha
 exact ⟨l,u,v,p1,p2,λk=>p3 k,p4⟩
theorem jda (b:List Int) (hb:isB b) (hl:b.length<=1048576) (z:Int) (t:ByteArray) (x y:List V) (r:Int) (at_:Nat) (bad:Bool) (ha:at_<=770000000):∃ (l:List C) (at':Nat) (bad':Bool),(l.length<=9/\∀ c∈l,rgC c)/\at'<=at_+(6+9 * 718) /\
  (∀ q:ST->(List Int×Int×Bool)->Res,j0h 8 (b,(at_:Int),bad) (λn e1=>j3h n Z12 0 (z,t,x,y,r,t,[],[],eS,eS) e1 q)=q (z,t,x,y,r,t,l,[],eS,eS) (b,(at':Int),bad')) /\
  (bad=false->∀ y post,(y.length<=8/\∀ c∈y,okC c)->b.drop at_=(nI y.length::y.flatMap byC)++post->l=y/\bad'=false/\b.drop at'=post):=by
 obtain ⟨l,u,v,p1,p2,p3,p4⟩:=j6I (N:=770000000) (jbU (jbM b hb hl) (show 790000000<=900000000 by omega) (Nat.le_refl _)) (jdd b hb hl) (by omega) (λi out e=>(i,((z,t,x,y,r,t,out,[],eS,eS):ST),e)) (λn=>j2s n) (λ(q:ST->(List Int×Int×Bool)->Res) out e=>q (z,t,x,y,r,t,out,[],eS,eS) e) cI (λn h=>jcq h) (λn i _ _ h=>rfl)
  (λn i out e rec q hi ho hc=>by
   show j0T n (i:Int) (z,t,x,y,r,t,out,[],eS,eS) e (λi d e0=>rec (i,d,e0)) q=_
   unfold j0T
   dsimp only
   rw [show decide ((i:Int)<n)=true from hc,cond_true,Z9l (by unfold LIM;omega),j04 (n:=(i:Int)+1) (by omega)]
   rfl)
  (λn i out e rec q hi hc=>by
   show j0T n (i:Int) (z,t,x,y,r,t,out,[],eS,eS) e (λi d e0=>rec (i,d,e0)) q=_
   unfold j0T
   rw [show decide ((i:Int)<n)=false from hc,cond_false]) at_ bad ha
 exact ⟨l,u,v,p1,p2,λq=>p3 q,p4⟩
theorem jcW (b:List Int) (hb:isB b) (hl:b.length<=1048576):∃ (raw:ST) (bad:Bool),jau raw/\(∀ k:ST->Bool->Res,j0D b k=j0v raw λr5 r6=>bif bad then k zST false else bif !r6 then k zST false else bif sNe (Z34 r5) (Z34 b) then k zST false else k raw true)/\∀ x,stB x=true->byS x=b->raw=x/\bad=false:=by
 obtain ⟨r0,u0,v0,r00,p0,q0,z0⟩:=iB b hb hl 0 false (by omega)
 obtain ⟨r,u1,v1,r1,p1,q1,z1⟩:=iB b hb hl u0 v0 (by omega)
 obtain ⟨t,u2,v2,r2,p2,q2,z2⟩:=iW b hb hl u1 v1 (by omega)
 obtain ⟨x,u3,v3,r3,p3,q3,z3⟩:=jc7 b hb hl u2 v2 (by omega)
 obtain ⟨y,u4,v4,r4,p4,q4,z4⟩:=jc7 b hb hl u3 v3 (by omega)
 have hx:x.length<=1048576:=by omega
 have hy:y.length<=1048576:=by omega
 have fin:∀ (raw:ST) (u:Nat) (bad:Bool) (k:ST->Bool->Res),(j0v raw λr5 r6=>j0Q b r5 r6 (b,(u:Int),bad) λt1=>bif t1 then k zST false else k raw true)=j0v raw λr5 r6=>bif bad then k zST false else bif !r6 then k zST false else bif sNe (Z34 r5) (Z34 b) then k zST false else k raw true:=λraw u bad k=>by
  have e:(λ(r5:List Int) (r6:Bool)=>j0Q b r5 r6 (b,(u:Int),bad) λt1=>bif t1 then k zST false else k raw true)=λr5 r6=>bif bad then k zST false else bif !r6 then k zST false else bif sNe (Z34 r5) (Z34 b) then k zST false else k raw true:=by
   funext r5 r6
   unfold j0Q
   cases bad
   ·cases r6<;>rfl
   ·rfl
  rw [e]
 have hu:∀ k:ST->Bool->Res,j0D b k=j1m (r==5) (r,t,x,y,0,eS,[],[],eS,eS) (b,(u4:Int),v4) λ(s:ST) e=>j0v s λr5 r6=>j0Q b r5 r6 e λt1=>bif t1 then k zST false else k s true:=λk=>by
  unfold j0D
  refine (q0 _).trans ?_
  refine (q1 _).trans ?_
  refine (q2 _).trans ?_
  refine (q3 _).trans ?_
  exact q4 _
 have back:∀ s,stB s=true->byS s=b->r=s.1/\t=s.2.1/\x=s.2.2.1/\y=s.2.2.2.1/\v4=false/\b.drop u4=(bif s.1==5 then byD s.2.2.2.2 else []):=λs hs he=>by
  obtain ⟨h1,h2,h3,h4,h5⟩:=j5H hs
  have hd:=jaw s []
  rw [List.append_nil,List.append_nil,he] at hd
  have hd:b.drop 0=_:=hd
  obtain ⟨e0,f0,g0⟩:=z0 rfl 83 _ trivial hd
  obtain ⟨e1,f1,g1⟩:=z1 f0 s.1 _ trivial g0
  obtain ⟨e2,f2,g2⟩:=z2 f1 s.2.1 _ (j41 (.inl h1)) g1
  obtain ⟨e3,f3,g3⟩:=z3 f2 s.2.2.1 _ h3 g2
  obtain ⟨e4,f4,g4⟩:=z4 f3 s.2.2.2.1 _ h4 g3
  exact ⟨e1,e2,e3,e4,f4,g4⟩
 cases hk:r==5
 ·refine ⟨(r,t,x,y,zD),v4,⟨r2,hx,hy,jbc⟩,λk=> ?_,λs hs he=> ?_⟩
  ·rw [hu,hk]
   exact fin _ _ _ _
  ·obtain ⟨e1,e2,e3,e4,e5,e6⟩:=back s hs he
   obtain ⟨h1,h2,h3,h4,h5⟩:=j5H hs
   rcases h5 with h5 | h5
   ·rw [e1,h5.1] at hk;cases hk
   ·exact ⟨by rw [e1,e2,e3,e4,<-h5.2],e5⟩
 ·obtain ⟨d,a1,b1,s1,t1,w1,y1⟩:=iB b hb hl u4 v4 (by omega)
  obtain ⟨cs,a2,b2,s2,t2,w2,y2⟩:=jda b hb hl r t x y d a1 b1 (by omega)
  obtain ⟨ks,a3,b3,s3,t3,w3,y3⟩:=jd6 b hb hl a2 b2 (by omega)
  obtain ⟨n,a4,b4,s4,t4,w4,y4⟩:=iW b hb hl a3 b3 (by omega)
  obtain ⟨m,a5,b5,s5,t5,w5,y5⟩:=iW b hb hl a4 b4 (by omega)
  refine ⟨(r,t,x,y,d,t,cs,ks,n,m),b5,⟨r2,hx,hy,jc4 r2 s2 s3 s4 s5⟩,λk=> ?_,λs hs he=> ?_⟩
  ·rw [hu,hk]
   unfold j1m j1T
   rw [cond_true]
   simp only [Z8u]
   refine (w1 _).trans ?_
   refine (w2 _).trans ?_
   refine (w3 _).trans ?_
   refine (w4 _).trans ?_
   refine (w5 _).trans ?_
   exact fin _ _ _ _
  ·obtain ⟨e1,e2,e3,e4,e5,e6⟩:=back s hs he
   obtain ⟨h1,h2,h3,h4,h5⟩:=j5H hs
   have hk5:s.1=5:=by rw [<-e1];simpa using hk
   rcases h5 with h5 | h5
   ·rw [show (s.1==5)=true by simp [hk5],cond_true] at e6
    obtain ⟨a1,a2,a3,a4,a5,a6,a7⟩:=j7I h5.2.1
    have hd:=(e6.trans (List.append_nil _).symm).trans (jav s.2.2.2.2 [])
    obtain ⟨c1,d1,g1⟩:=y1 e5 s.2.2.2.2.1 _ trivial hd
    obtain ⟨c2,d2,g2⟩:=y2 d1 s.2.2.2.2.2.2.1 _ ⟨a2,a3⟩ g1
    obtain ⟨c3,d3,g3⟩:=y3 d2 s.2.2.2.2.2.2.2.1 _ ⟨a4,λc hc=>j41 (.inl (a5 c hc))⟩ g2
    obtain ⟨c4,d4,g4⟩:=y4 d3 s.2.2.2.2.2.2.2.2.1 _ (j41 a6) g3
    obtain ⟨c5,d5,g5⟩:=y5 d4 s.2.2.2.2.2.2.2.2.2 _ (j41 a7) g4
    refine ⟨?_,d5⟩
    have ht:=h5.2.2
    rw [e1,e2,e3,e4,c1,c2,c3,c4,c5]
    conv=>lhs;arg 2;arg 2;arg 2;arg 2;arg 2;arg 1;rw [<-ht]
   ·exact absurd hk5 h5.1
end Go.PI.G
namespace Go.PI.G
open Go Go.PI Go.Proofs
theorem j85 (k:ByteArray->Res):∀ (m n d:Nat) (s:ByteArray),n<m->0<n->n<=4294967296->n<10 ^ (d+1)->s.size+d<=1000 ->
  Z14 j2A m ((n:Int),s) k=k (j7S n++s)
 | 0,n,d,s,h,_,_,_,_=>by omega
 | m+1,n,d,s,h,hn,hb,hd,hs=>by
  rw [Z8C]
  show j1r _ _ _ _=_
  unfold j1r
  have h9:decide ((n:Int)>0)=true:=decide_eq_true (by omega)
  rw [h9,cond_true,jcI,jcJ,Z9j (n:=((n / 10:Nat):Int)) (by omega) (by omega)]
  show (bif lim ((dgt ((n % 10:Nat):Int)).size+s.size) then Z14 j2A m (((n / 10:Nat):Int),dgt ((n % 10:Nat):Int)++s) k else none)=_
  rw [j6M,Z9l (by unfold LIM;omega),cond_true]
  by_cases h1:n<10
  ·have h10:n / 10=0:=by omega
   have h11:n % 10=n:=by omega
   rw [h10,h11,jao h1]
   obtain ⟨m,rfl⟩:∃ e,m=e+1:=⟨m-1,by omega⟩
   rw [Z8C]
   show j1r _ _ _ _=_
   unfold j1r
   have h0:decide (((0:Nat):Int)>0)=false:=decide_eq_false (by omega)
   rw [h0,cond_false]
  ·obtain ⟨d,rfl⟩:∃ e,d=e+1:=by
    cases d with
    | zero=>exact absurd (by simpa using hd) h1
    | succ d=>exact ⟨d,rfl⟩
   rw [j85 k m (n / 10) d _ (by omega) (by omega) (by omega) (Nat.div_lt_of_lt_mul (by rw [Nat.pow_succ] at hd;omega)) (by rw [ByteArray.size_append,j6M];omega),jbz h1,ByteArray.append_assoc]
theorem j2O (k:Int) (h:1<=k/\k<=4294967296) (K:ByteArray->Res):j0m k K=K (mT k):=by
 unfold j0m j52
 have h0:decide (k<=0)=false:=decide_eq_false (by omega)
 have:=j85 (λ(out:ByteArray)=>bif lim (1+(ByteArray.size out)) then K (z_m++out) else none) Z12 k.toNat 12 eS (Z1U (by omega)) (by omega) (by omega) (by omega) (by show 0+12<=1000;omega)
 rw [show ((k.toNat:Nat):Int)=k by omega,jd5] at this
 rw [h0,cond_false]
 refine this.trans ?_
 have hs:=jaz 12 k.toNat (by omega)
 rw [Z9l (by unfold LIM;omega),cond_true]
 rfl
end Go.PI.G
set_option maxRecDepth 10000
namespace Go.PI.G
open Go Go.PI Go.Proofs
theorem jbe (a:Int×Int×ByteArray) (h:msr y2 a<=1048576) (k:Bool->Res):j5t a a k=k true:=by
 unfold j5t
 simp only [Z9o,Z8U,beq_self_eq_true,cond_false,Bool.not_true]
end Go.PI.G
namespace Go.PI.G
open Go Go.PI Go.Proofs
theorem jcu (a:ByteArray×Int×Bool×Bool×Int×Int×ByteArray) (h:msr y7 a<=1048576) (k:Bool->Res):j6F a a k=k true:=by
 have h4:msr y2 a.2.2.2.2<=1048576:=(Nat.le_trans (@j03 .bool y2 a.2.2.2) (Nat.le_trans (@j03 .bool y4 a.2.2) (Nat.le_trans (@j03 (.int .i64) y5 a.2) (Nat.le_trans (@j03 .str y6 a) h))))
 unfold j6F
 simp only [Z9o,Z8U,beq_self_eq_true,cond_false,Bool.not_true,jbe _ h4]
end Go.PI.G
namespace Go.PI.G
open Go Go.PI Go.Proofs
theorem jc6 (a:qE) (h:msr y8 a<=1048576) (k:Bool->Res):j4K a a k=k true:=by
 have hl:a.length<=1048576:=j2n h
 unfold j4K
 rw [Z9o,cond_false]
 unfold j61
 rw [Z93 a _ (by unfold LIM;omega) (λi rec hi=> ?_) (λrec=> ?_)]
 ·show j1V a a _ _ _ _=_
  unfold j1V
  simp only [Z9q hi,cond_true,j0c hi,Z9a _ _ _ hi,j04 (n:=(i:Int)+1) (by omega),Z9o,Z8U,cond_false,Bool.not_true,jcu _ (jbB h (List.getElem_mem hi))]
 ·show j1V a a _ _ _ _=_
  unfold j1V
  rw [Z9p,cond_false]
theorem jbv (a:qE) (k:Int) (h:msr y8 a<=1048576) (h0:1<=k) (hk:k+(wgt y8 a:Int)<=4294967296) (K:Int->qE->Res):j3w a k K=K (k+(wgt y8 a:Int)) (mkL (wgt y7) (mk y7) a k):=by
 have hl:a.length<=1048576:=j2n h
 have hwg:wgt y8 a=(a.map (wgt y7)).sum:=rfl
 rw [hwg] at hk ⊢
 unfold j3w j51
 have:=Z8D (wgt y7) (mk y7) a k (λl k i=>(l,k,i)) (step:=j2z) (λl k=>K k l) (λl k=>K k l) (by unfold LIM;omega) (λl i rec hi hll hli hla=>by
  have e1:=Z6s (wgt y7) a i hi
  have e2:=Z8p (wgt y7) a (i+1)
  generalize hκ:k+((((a.take i).map (wgt y7)).sum:Nat):Int)=κ
  have hκ1:1<=κ/\κ+(wgt y7 a[i]:Int)<=4294967296:=by omega
  have hw:(wgt y7 a[i]:Int)=1+1+1+1+1+1+1:=by
   have:wgt y7 a[i]=1+1+1+1+1+1+1:=by first | rfl | (simp only [wgt];done) | (simp only [wgt];omega)
   first | rfl | omega
  show j0W _ _ _ _ _=_
  dsimp only
  unfold j0W j1Y j1Z j20
  rw [<-hll] at hi
  have hi':i<a.length:=by omega
  simp (disch:=first | assumption | omega) only [show nI a.length=nI l.length by rw [hll],Z9q,j0c,j8I,cond_true,j8E,j8J,Z9a,hla,j04,j2O,<-hll]
  rw [Z9h]
  congr 3<;>first | rfl | omega | (simp only [j35,j22,j3Z,j5u,j34,j40,j2b,j3d,j2a,j3e,Int.natCast_add,Int.natCast_one,<-Int.add_assoc];done) | (simp only [j35,j22,j3Z,j5u,j34,j40,j2b,j3d,j2a,j3e,Int.natCast_add,Int.natCast_one,<-Int.add_assoc];rfl) | skip) (λl k rec hll=>by
  show j0W _ _ _ _ _=_
  dsimp only
  unfold j0W j1Y j1Z j20
  rw [<-hll,Z9p,cond_false])
 exact this
theorem jbs (a:qE) (k:Int) (h:msr y8 a<=1048576) (h0:1<=k) (hk:k+(wgt y8 a:Int)<=4294967296) (K:Int->Res):j3v (mkL (wgt y7) (mk y7) a k) k K=K (k+(wgt y8 a:Int)):=by
 have hl:a.length<=1048576:=j2n h
 have hwg:wgt y8 a=(a.map (wgt y7)).sum:=rfl
 rw [hwg] at hk ⊢
 have hll:=Z5t (wgt y7) (mk y7) a k
 have hg:=Z96 (wgt y7) (mk y7) a k
 generalize mkL (wgt y7) (mk y7) a k=l at hll hg
 unfold j3v j4Z
 have:=Z8A (wgt y7) a k (λk i=>(k,i)) (step:=j2y l) ((λ(k_1:Int)=>K k_1),(λ(_:Unit)=>K (-1))) (λk=>K k) (by unfold LIM;omega) (λi rec hi=>by
  have e1:=Z6s (wgt y7) a i hi
  have e2:=Z8p (wgt y7) a (i+1)
  have hgi:=hg i hi (by omega)
  generalize hκ:k+((((a.take i).map (wgt y7)).sum:Nat):Int)=κ at hgi
  have hκ1:1<=κ/\κ+(wgt y7 a[i]:Int)<=4294967296:=by omega
  have hw:(wgt y7 a[i]:Int)=1+1+1+1+1+1+1:=by
   have:wgt y7 a[i]=1+1+1+1+1+1+1:=by first | rfl | (simp only [wgt];done) | (simp only [wgt];omega)
   first | rfl | omega
  show j0U _ _ _ _ _ _=_
  dsimp only
  unfold j0U
  have hi':i<l.length:=by omega
  simp (disch:=first | assumption | omega) only [Z9q,j0c,cond_true,cond_false,Z9a,hgi,j35,j22,j3Z,j5u,j34,j40,j2b,j3d,j2a,j3e,Int.natCast_add,Int.natCast_one,<-Int.add_assoc,j04,j2O,Z9o,Z8U,beq_self_eq_true,Bool.not_true,Z8I]
  all_goals (congr 2;omega)) (λk rec=>by
  show j0U _ _ _ _ _ _=_
  dsimp only
  unfold j0U
  rw [<-hll,Z9p,cond_false])
 exact this
end Go.PI.G
namespace Go.PI.G
open Go Go.PI Go.Proofs
theorem jbd (a:(List ByteArray)) (h:msr y9 a<=1048576) (k:Bool->Res):j2Y a a k=k true:=by
 have hl:a.length<=1048576:=j2n h
 unfold j2Y
 rw [Z9o,cond_false]
 unfold j4w
 rw [Z93 a _ (by unfold LIM;omega) (λi rec hi=> ?_) (λrec=> ?_)]
 ·show j1i a a _ _ _ _=_
  unfold j1i
  simp only [Z9q hi,cond_true,j0c hi,Z9a _ _ _ hi,j04 (n:=(i:Int)+1) (by omega),Z9o,Z8U,cond_false,Bool.not_true]
 ·show j1i a a _ _ _ _=_
  unfold j1i
  rw [Z9p,cond_false]
theorem jaq (a:(List ByteArray)) (k:Int) (h:msr y9 a<=1048576) (h0:1<=k) (hk:k+(wgt y9 a:Int)<=4294967296) (K:Int->(List ByteArray)->Res):j21 a k K=K (k+(wgt y9 a:Int)) (mkL (wgt .str) (mk .str) a k):=by
 have hl:a.length<=1048576:=j2n h
 have hwg:wgt y9 a=(a.map (wgt .str)).sum:=rfl
 rw [hwg] at hk ⊢
 unfold j21 j3F
 have:=Z8D (wgt .str) (mk .str) a k (λl k i=>(l,k,i)) (step:=j33) (λl k=>K k l) (λl k=>K k l) (by unfold LIM;omega) (λl i rec hi hll hli hla=>by
  have e1:=Z6s (wgt .str) a i hi
  have e2:=Z8p (wgt .str) a (i+1)
  generalize hκ:k+((((a.take i).map (wgt .str)).sum:Nat):Int)=κ
  have hκ1:1<=κ/\κ+(wgt .str a[i]:Int)<=4294967296:=by omega
  have hw:(wgt .str a[i]:Int)=1:=by
   have:wgt .str a[i]=1:=by first | rfl | (simp only [wgt];done) | (simp only [wgt];omega)
   first | rfl | omega
  show j0X _ _ _ _ _=_
  dsimp only
  unfold j0X
  rw [<-hll] at hi
  have hi':i<a.length:=by omega
  simp (disch:=first | assumption | omega) only [show nI a.length=nI l.length by rw [hll],Z9q,j0c,j8I,cond_true,j8E,j8J,Z9a,hla,j04,j2O,<-hll]
  rw [Z9h]
  congr 3<;>first | rfl | omega | (simp only [j35,j22,j3Z,j5u,j34,j40,j2b,j3d,j2a,j3e,Int.natCast_add,Int.natCast_one,<-Int.add_assoc];done) | (simp only [j35,j22,j3Z,j5u,j34,j40,j2b,j3d,j2a,j3e,Int.natCast_add,Int.natCast_one,<-Int.add_assoc];rfl) | skip) (λl k rec hll=>by
  show j0X _ _ _ _ _=_
  dsimp only
  unfold j0X
  rw [<-hll,Z9p,cond_false])
 exact this
theorem jap (a:(List ByteArray)) (k:Int) (h:msr y9 a<=1048576) (h0:1<=k) (hk:k+(wgt y9 a:Int)<=4294967296) (K:Int->Res):j1X (mkL (wgt .str) (mk .str) a k) k K=K (k+(wgt y9 a:Int)):=by
 have hl:a.length<=1048576:=j2n h
 have hwg:wgt y9 a=(a.map (wgt .str)).sum:=rfl
 rw [hwg] at hk ⊢
 have hll:=Z5t (wgt .str) (mk .str) a k
 have hg:=Z96 (wgt .str) (mk .str) a k
 generalize mkL (wgt .str) (mk .str) a k=l at hll hg
 unfold j1X j3D
 have:=Z8A (wgt .str) a k (λk i=>(k,i)) (step:=j30 l) ((λ(k_1:Int)=>K k_1),(λ(_:Unit)=>K (-1))) (λk=>K k) (by unfold LIM;omega) (λi rec hi=>by
  have e1:=Z6s (wgt .str) a i hi
  have e2:=Z8p (wgt .str) a (i+1)
  have hgi:=hg i hi (by omega)
  generalize hκ:k+((((a.take i).map (wgt .str)).sum:Nat):Int)=κ at hgi
  have hκ1:1<=κ/\κ+(wgt .str a[i]:Int)<=4294967296:=by omega
  have hw:(wgt .str a[i]:Int)=1:=by
   have:wgt .str a[i]=1:=by first | rfl | (simp only [wgt];done) | (simp only [wgt];omega)
   first | rfl | omega
  show j0V _ _ _ _ _ _=_
  dsimp only
  unfold j0V
  have hi':i<l.length:=by omega
  simp (disch:=first | assumption | omega) only [Z9q,j0c,cond_true,cond_false,Z9a,hgi,j35,j22,j3Z,j5u,j34,j40,j2b,j3d,j2a,j3e,Int.natCast_add,Int.natCast_one,<-Int.add_assoc,j04,j2O,Z9o,Z8U,beq_self_eq_true,Bool.not_true,Z8I]
  all_goals (congr 2;omega)) (λk rec=>by
  show j0V _ _ _ _ _ _=_
  dsimp only
  unfold j0V
  rw [<-hll,Z9p,cond_false])
 exact this
end Go.PI.G
namespace Go.PI.G
open Go Go.PI Go.Proofs
theorem jcv (a:Int×ByteArray×qE×List ByteArray×ByteArray×ByteArray) (h:msr y14 a<=1048576) (k:Bool->Res):j4i a a k=k true:=by
 have h2:msr y8 a.2.2.1<=1048576:=(Nat.le_trans (@j0r y8 y11 a.2.2) (Nat.le_trans (@j03 .str y12 a.2) (Nat.le_trans (@j03 (.int .i64) y13 a) h)))
 have h3:msr y9 a.2.2.2.1<=1048576:=(Nat.le_trans (@j0r y9 y10 a.2.2.2) (Nat.le_trans (@j03 y8 y11 a.2.2) (Nat.le_trans (@j03 .str y12 a.2) (Nat.le_trans (@j03 (.int .i64) y13 a) h))))
 unfold j4i
 simp only [Z9o,Z8U,beq_self_eq_true,cond_false,Bool.not_true,jc6 _ h2,jbd _ h3]
theorem jbQ (a:Int×ByteArray×qE×List ByteArray×ByteArray×ByteArray) (k:Int) (h:msr y14 a<=1048576) (h0:1<=k) (hk:k+(j0l y14 a:Int)<=4294967296) (K:Int->(Int×ByteArray×qE×List ByteArray×ByteArray×ByteArray)->Res):j32 a k K=K (k+(j0l y14 a:Int)) (mkT y14 a k):=by
 have h2:msr y8 a.2.2.1<=1048576:=(Nat.le_trans (@j0r y8 y11 a.2.2) (Nat.le_trans (@j03 .str y12 a.2) (Nat.le_trans (@j03 (.int .i64) y13 a) h)))
 have h3:msr y9 a.2.2.2.1<=1048576:=(Nat.le_trans (@j0r y9 y10 a.2.2.2) (Nat.le_trans (@j03 y8 y11 a.2.2) (Nat.le_trans (@j03 .str y12 a.2) (Nat.le_trans (@j03 (.int .i64) y13 a) h))))
 have g0:msr y8 a.2.2.1<=1048576:=(Nat.le_trans (@j0r y8 y11 a.2.2) (Nat.le_trans (@j03 .str y12 a.2) (Nat.le_trans (@j03 (.int .i64) y13 a) h)))
 have g1:msr y9 a.2.2.2.1<=1048576:=(Nat.le_trans (@j0r y9 y10 a.2.2.2) (Nat.le_trans (@j03 y8 y11 a.2.2) (Nat.le_trans (@j03 .str y12 a.2) (Nat.le_trans (@j03 (.int .i64) y13 a) h))))
 have w0:j0l y8 a.2.2.1=wgt y8 a.2.2.1:=rfl
 have w1:j0l y9 a.2.2.2.1=wgt y9 a.2.2.2.1:=rfl
 have hw:j0l y14 a=wgt y8 a.2.2.1+wgt y9 a.2.2.2.1:=by first | rfl | (simp only [j06,w0,w1,j0j,j0b,j0k,Nat.zero_add,Nat.add_zero];done) | (simp only [j06,w0,w1,j0j,j0b,j0k,Nat.zero_add,Nat.add_zero];omega)
 unfold j32
 simp (disch:=first | assumption | omega) only [jbv,jaq]
 first | rfl | (simp only [j0d (.int .i64) y13,j06 (.int .i64) y13,j0d .str y12,j06 .str y12,j0d y8 y11,j06 y8 y11,j0d y9 y10,j06 y9 y10,j0d .str .str,j06 .str .str,j2B,j4j,j3k,j4k,w0,w1,j0j,j0b,j0k,Int.natCast_add,Int.natCast_zero,Int.cast_ofNat_Int,Nat.zero_add,Nat.add_zero,Int.add_zero,<-Int.add_assoc];done) | (simp only [j0d (.int .i64) y13,j06 (.int .i64) y13,j0d .str y12,j06 .str y12,j0d y8 y11,j06 y8 y11,j0d y9 y10,j06 y9 y10,j0d .str .str,j06 .str .str,j2B,j4j,j3k,j4k,w0,w1,j0j,j0b,j0k,Int.natCast_add,Int.natCast_zero,Int.cast_ofNat_Int,Nat.zero_add,Nat.add_zero,Int.add_zero,<-Int.add_assoc];rfl)
theorem jbK (a:Int×ByteArray×qE×List ByteArray×ByteArray×ByteArray) (k:Int) (h:msr y14 a<=1048576) (h0:1<=k) (hk:k+(j0l y14 a:Int)<=4294967296) (K:Int->Res):j2Z (mkT y14 a k) k K=K (k+(j0l y14 a:Int)):=by
 have h2:msr y8 a.2.2.1<=1048576:=(Nat.le_trans (@j0r y8 y11 a.2.2) (Nat.le_trans (@j03 .str y12 a.2) (Nat.le_trans (@j03 (.int .i64) y13 a) h)))
 have h3:msr y9 a.2.2.2.1<=1048576:=(Nat.le_trans (@j0r y9 y10 a.2.2.2) (Nat.le_trans (@j03 y8 y11 a.2.2) (Nat.le_trans (@j03 .str y12 a.2) (Nat.le_trans (@j03 (.int .i64) y13 a) h))))
 have g0:msr y8 a.2.2.1<=1048576:=(Nat.le_trans (@j0r y8 y11 a.2.2) (Nat.le_trans (@j03 .str y12 a.2) (Nat.le_trans (@j03 (.int .i64) y13 a) h)))
 have g1:msr y9 a.2.2.2.1<=1048576:=(Nat.le_trans (@j0r y9 y10 a.2.2.2) (Nat.le_trans (@j03 y8 y11 a.2.2) (Nat.le_trans (@j03 .str y12 a.2) (Nat.le_trans (@j03 (.int .i64) y13 a) h))))
 have w0:j0l y8 a.2.2.1=wgt y8 a.2.2.1:=rfl
 have w1:j0l y9 a.2.2.2.1=wgt y9 a.2.2.2.1:=rfl
 have hw:j0l y14 a=wgt y8 a.2.2.1+wgt y9 a.2.2.2.1:=by first | rfl | (simp only [j06,w0,w1,j0j,j0b,j0k,Nat.zero_add,Nat.add_zero];done) | (simp only [j06,w0,w1,j0j,j0b,j0k,Nat.zero_add,Nat.add_zero];omega)
 unfold j2Z
 simp (disch:=first | assumption | omega) only [j0d (.int .i64) y13,j06 (.int .i64) y13,j0d .str y12,j06 .str y12,j0d y8 y11,j06 y8 y11,j0d y9 y10,j06 y9 y10,j0d .str .str,j06 .str .str,j2B,j4j,j3k,j4k,w0,w1,j0j,j0b,j0k,Int.natCast_add,Int.natCast_zero,Int.cast_ofNat_Int,Nat.zero_add,Nat.add_zero,Int.add_zero,<-Int.add_assoc,jbs,jap,Z8I,cond_false]
 all_goals (repeat (show (bif decide (_<(0:Int)) then _ else _)=_;rw [Z8I (by omega),cond_false]))
 all_goals first | done | rfl | (congr 1;omega)
end Go.PI.G
namespace Go.PI.G
open Go Go.PI Go.Proofs
theorem jaA (a:qW) (h:msr y3 a<=1048576) (k:Bool->Res):j3z a a k=k true:=by
 have hl:a.length<=1048576:=j2n h
 unfold j3z
 rw [Z9o,cond_false]
 unfold j62
 rw [Z93 a _ (by unfold LIM;omega) (λi rec hi=> ?_) (λrec=> ?_)]
 ·show j1W a a _ _ _ _=_
  unfold j1W
  simp only [Z9q hi,cond_true,j0c hi,Z9a _ _ _ hi,j04 (n:=(i:Int)+1) (by omega),Z9o,Z8U,cond_false,Bool.not_true,jbe _ (jbB h (List.getElem_mem hi))]
 ·show j1W a a _ _ _ _=_
  unfold j1W
  rw [Z9p,cond_false]
theorem j99 (a:qW) (k:Int) (h:msr y3 a<=1048576) (h0:1<=k) (hk:k+(wgt y3 a:Int)<=4294967296) (K:Int->qW->Res):j2m a k K=K (k+(wgt y3 a:Int)) (mkL (wgt y2) (mk y2) a k):=by
 have hl:a.length<=1048576:=j2n h
 have hwg:wgt y3 a=(a.map (wgt y2)).sum:=rfl
 rw [hwg] at hk ⊢
 unfold j2m j53
 have:=Z8D (wgt y2) (mk y2) a k (λl k i=>(l,k,i)) (step:=j3Y) (λl k=>K k l) (λl k=>K k l) (by unfold LIM;omega) (λl i rec hi hll hli hla=>by
  have e1:=Z6s (wgt y2) a i hi
  have e2:=Z8p (wgt y2) a (i+1)
  generalize hκ:k+((((a.take i).map (wgt y2)).sum:Nat):Int)=κ
  have hκ1:1<=κ/\κ+(wgt y2 a[i]:Int)<=4294967296:=by omega
  have hw:(wgt y2 a[i]:Int)=1+1+1:=by
   have:wgt y2 a[i]=1+1+1:=by first | rfl | (simp only [wgt];done) | (simp only [wgt];omega)
   first | rfl | omega
  show j1s _ _ _ _ _=_
  dsimp only
  unfold j1s
  rw [<-hll] at hi
  have hi':i<a.length:=by omega
  simp (disch:=first | assumption | omega) only [show nI a.length=nI l.length by rw [hll],Z9q,j0c,j8I,cond_true,j8E,j8J,Z9a,hla,j04,j2O,<-hll]
  rw [Z9h]
  congr 3<;>first | rfl | omega | (simp only [j35,j22,j3Z,j5u,j34,j40,j2b,j3d,j2a,j3e,Int.natCast_add,Int.natCast_one,<-Int.add_assoc];done) | (simp only [j35,j22,j3Z,j5u,j34,j40,j2b,j3d,j2a,j3e,Int.natCast_add,Int.natCast_one,<-Int.add_assoc];rfl) | skip) (λl k rec hll=>by
  show j1s _ _ _ _ _=_
  dsimp only
  unfold j1s
  rw [<-hll,Z9p,cond_false])
 exact this
theorem j95 (a:qW) (k:Int) (h:msr y3 a<=1048576) (h0:1<=k) (hk:k+(wgt y3 a:Int)<=4294967296) (K:Int->Res):j2k (mkL (wgt y2) (mk y2) a k) k K=K (k+(wgt y3 a:Int)):=by
 have hl:a.length<=1048576:=j2n h
 have hwg:wgt y3 a=(a.map (wgt y2)).sum:=rfl
 rw [hwg] at hk ⊢
 have hll:=Z5t (wgt y2) (mk y2) a k
 have hg:=Z96 (wgt y2) (mk y2) a k
 generalize mkL (wgt y2) (mk y2) a k=l at hll hg
 unfold j2k j50
 have:=Z8A (wgt y2) a k (λk i=>(k,i)) (step:=j3W l) ((λ(k_1:Int)=>K k_1),(λ(_:Unit)=>K (-1))) (λk=>K k) (by unfold LIM;omega) (λi rec hi=>by
  have e1:=Z6s (wgt y2) a i hi
  have e2:=Z8p (wgt y2) a (i+1)
  have hgi:=hg i hi (by omega)
  generalize hκ:k+((((a.take i).map (wgt y2)).sum:Nat):Int)=κ at hgi
  have hκ1:1<=κ/\κ+(wgt y2 a[i]:Int)<=4294967296:=by omega
  have hw:(wgt y2 a[i]:Int)=1+1+1:=by
   have:wgt y2 a[i]=1+1+1:=by first | rfl | (simp only [wgt];done) | (simp only [wgt];omega)
   first | rfl | omega
  show j1q _ _ _ _ _ _=_
  dsimp only
  unfold j1q
  have hi':i<l.length:=by omega
  simp (disch:=first | assumption | omega) only [Z9q,j0c,cond_true,cond_false,Z9a,hgi,j35,j22,j3Z,j5u,j34,j40,j2b,j3d,j2a,j3e,Int.natCast_add,Int.natCast_one,<-Int.add_assoc,j04,j2O,Z9o,Z8U,beq_self_eq_true,Bool.not_true,Z8I]
  all_goals (congr 2;omega)) (λk rec=>by
  show j1q _ _ _ _ _ _=_
  dsimp only
  unfold j1q
  rw [<-hll,Z9p,cond_false])
 exact this
end Go.PI.G
namespace Go.PI.G
open Go Go.PI Go.Proofs
theorem jcw (a:List qV) (h:msr y3 a<=1048576) (k:Bool->Res):j5s a a k=k true:=by
 have h0:msr y3 a<=1048576:=h
 unfold j5s
 simp only [Z9o,Z8U,beq_self_eq_true,cond_false,Bool.not_true,jaA _ h0]
theorem jbR (a:List qV) (k:Int) (h:msr y3 a<=1048576) (h0:1<=k) (hk:k+(j0l y3 a:Int)<=4294967296) (K:Int->qW->Res):j3X a k K=K (k+(j0l y3 a:Int)) (mkT y3 a k):=by
 have h0:msr y3 a<=1048576:=h
 have g0:msr y3 a<=1048576:=h
 have w0:j0l y3 a=wgt y3 a:=rfl
 have hw:j0l y3 a=wgt y3 a:=by first | rfl | (simp only [j06,w0,j0j,j0b,j0k,Nat.zero_add,Nat.add_zero];done) | (simp only [j06,w0,j0j,j0b,j0k,Nat.zero_add,Nat.add_zero];omega)
 unfold j3X
 simp (disch:=first | assumption | omega) only [j99]
 first | rfl | (simp only [j2B,j4j,j3k,j4k,w0,j0j,j0b,j0k,Int.natCast_add,Int.natCast_zero,Int.cast_ofNat_Int,Nat.zero_add,Nat.add_zero,Int.add_zero,<-Int.add_assoc];done) | (simp only [j2B,j4j,j3k,j4k,w0,j0j,j0b,j0k,Int.natCast_add,Int.natCast_zero,Int.cast_ofNat_Int,Nat.zero_add,Nat.add_zero,Int.add_zero,<-Int.add_assoc];rfl)
theorem jbL (a:List qV) (k:Int) (h:msr y3 a<=1048576) (h0:1<=k) (hk:k+(j0l y3 a:Int)<=4294967296) (K:Int->Res):j3V (mkL (wgt y2) (mk y2) a k) k K=K (k+(j0l y3 a:Int)):=by
 have h0:msr y3 a<=1048576:=h
 have g0:msr y3 a<=1048576:=h
 have w0:j0l y3 a=wgt y3 a:=rfl
 have hw:j0l y3 a=wgt y3 a:=by first | rfl | (simp only [j06,w0,j0j,j0b,j0k,Nat.zero_add,Nat.add_zero];done) | (simp only [j06,w0,j0j,j0b,j0k,Nat.zero_add,Nat.add_zero];omega)
 unfold j3V
 simp (disch:=first | assumption | omega) only [j2B,j4j,j3k,j4k,w0,j0j,j0b,j0k,Int.natCast_add,Int.natCast_zero,Int.cast_ofNat_Int,Nat.zero_add,Nat.add_zero,Int.add_zero,<-Int.add_assoc,j95,Z8I,cond_false]
 all_goals (repeat (show (bif decide (_<(0:Int)) then _ else _)=_;rw [Z8I (by omega),cond_false]))
 all_goals first | done | rfl | (congr 1;omega)
end Go.PI.G
namespace Go.PI.G
open Go Go.PI Go.Proofs
theorem j8o (a:Int×ByteArray×qW×qW×Int×ByteArray×qE×List ByteArray×ByteArray×ByteArray) (h:msr y18 a<=1048576) (k:Bool->Res):j1o a a k=k true:=by
 have h2:msr y3 a.2.2.1<=1048576:=(Nat.le_trans (@j0r y3 y15 a.2.2) (Nat.le_trans (@j03 .str y16 a.2) (Nat.le_trans (@j03 (.int .i64) y17 a) h)))
 have h3:msr y3 a.2.2.2.1<=1048576:=(Nat.le_trans (@j0r y3 y14 a.2.2.2) (Nat.le_trans (@j03 y3 y15 a.2.2) (Nat.le_trans (@j03 .str y16 a.2) (Nat.le_trans (@j03 (.int .i64) y17 a) h))))
 have h4:msr y14 a.2.2.2.2<=1048576:=(Nat.le_trans (@j03 y3 y14 a.2.2.2) (Nat.le_trans (@j03 y3 y15 a.2.2) (Nat.le_trans (@j03 .str y16 a.2) (Nat.le_trans (@j03 (.int .i64) y17 a) h))))
 unfold j1o
 simp only [Z9o,Z8U,beq_self_eq_true,cond_false,Bool.not_true,jaA _ h2,jcw _ h3,jcv _ h4]
theorem jbw (a:Int×ByteArray×qW×qW×Int×ByteArray×qE×List ByteArray×ByteArray×ByteArray) (k:Int) (h:msr y18 a<=1048576) (h0:1<=k) (hk:k+(j0l y18 a:Int)<=4294967296) (K:Int->qS->Res):j2l a k K=K (k+(j0l y18 a:Int)) (mkT y18 a k):=by
 have h2:msr y3 a.2.2.1<=1048576:=(Nat.le_trans (@j0r y3 y15 a.2.2) (Nat.le_trans (@j03 .str y16 a.2) (Nat.le_trans (@j03 (.int .i64) y17 a) h)))
 have h3:msr y3 a.2.2.2.1<=1048576:=(Nat.le_trans (@j0r y3 y14 a.2.2.2) (Nat.le_trans (@j03 y3 y15 a.2.2) (Nat.le_trans (@j03 .str y16 a.2) (Nat.le_trans (@j03 (.int .i64) y17 a) h))))
 have h4:msr y14 a.2.2.2.2<=1048576:=(Nat.le_trans (@j03 y3 y14 a.2.2.2) (Nat.le_trans (@j03 y3 y15 a.2.2) (Nat.le_trans (@j03 .str y16 a.2) (Nat.le_trans (@j03 (.int .i64) y17 a) h))))
 have g0:msr y3 a.2.2.1<=1048576:=(Nat.le_trans (@j0r y3 y15 a.2.2) (Nat.le_trans (@j03 .str y16 a.2) (Nat.le_trans (@j03 (.int .i64) y17 a) h)))
 have g1:msr y3 a.2.2.2.1<=1048576:=(Nat.le_trans (@j0r y3 y14 a.2.2.2) (Nat.le_trans (@j03 y3 y15 a.2.2) (Nat.le_trans (@j03 .str y16 a.2) (Nat.le_trans (@j03 (.int .i64) y17 a) h))))
 have g2:msr y8 a.2.2.2.2.2.2.1<=1048576:=(Nat.le_trans (@j0r y8 y11 a.2.2.2.2.2.2) (Nat.le_trans (@j03 .str y12 a.2.2.2.2.2) (Nat.le_trans (@j03 (.int .i64) y13 a.2.2.2.2) (Nat.le_trans (@j03 y3 y14 a.2.2.2) (Nat.le_trans (@j03 y3 y15 a.2.2) (Nat.le_trans (@j03 .str y16 a.2) (Nat.le_trans (@j03 (.int .i64) y17 a) h)))))))
 have g3:msr y9 a.2.2.2.2.2.2.2.1<=1048576:=(Nat.le_trans (@j0r y9 y10 a.2.2.2.2.2.2.2) (Nat.le_trans (@j03 y8 y11 a.2.2.2.2.2.2) (Nat.le_trans (@j03 .str y12 a.2.2.2.2.2) (Nat.le_trans (@j03 (.int .i64) y13 a.2.2.2.2) (Nat.le_trans (@j03 y3 y14 a.2.2.2) (Nat.le_trans (@j03 y3 y15 a.2.2) (Nat.le_trans (@j03 .str y16 a.2) (Nat.le_trans (@j03 (.int .i64) y17 a) h))))))))
 have w0:j0l y3 a.2.2.1=wgt y3 a.2.2.1:=rfl
 have w1:j0l y3 a.2.2.2.1=wgt y3 a.2.2.2.1:=rfl
 have w2:j0l y8 a.2.2.2.2.2.2.1=wgt y8 a.2.2.2.2.2.2.1:=rfl
 have w3:j0l y9 a.2.2.2.2.2.2.2.1=wgt y9 a.2.2.2.2.2.2.2.1:=rfl
 have hw:j0l y18 a=wgt y3 a.2.2.1+wgt y3 a.2.2.2.1+wgt y8 a.2.2.2.2.2.2.1+wgt y9 a.2.2.2.2.2.2.2.1:=by first | rfl | (simp only [j06,w0,w1,w2,w3,j0j,j0b,j0k,Nat.zero_add,Nat.add_zero];done) | (simp only [j06,w0,w1,w2,w3,j0j,j0b,j0k,Nat.zero_add,Nat.add_zero];omega)
 have v4:j0l y14 a.2.2.2.2=wgt y8 a.2.2.2.2.2.2.1+wgt y9 a.2.2.2.2.2.2.2.1:=by first | rfl | (simp only [j06,w0,w1,w2,w3,j0j,j0b,j0k,Nat.zero_add,Nat.add_zero];done) | (simp only [j06,w0,w1,w2,w3,j0j,j0b,j0k,Nat.zero_add,Nat.add_zero];omega)
 unfold j2l
 simp (disch:=first | assumption | omega) only [jbQ,jbR,j99]
 first | rfl | (simp only [j0d (.int .i64) y17,j06 (.int .i64) y17,j0d .str y16,j06 .str y16,j0d y3 y15,j06 y3 y15,j0d y3 y14,j06 y3 y14,j2B,j4j,j3k,j4k,w0,w1,w2,w3,j0j,j0b,j0k,Int.natCast_add,Int.natCast_zero,Int.cast_ofNat_Int,Nat.zero_add,Nat.add_zero,Int.add_zero,<-Int.add_assoc];done) | (simp only [j0d (.int .i64) y17,j06 (.int .i64) y17,j0d .str y16,j06 .str y16,j0d y3 y15,j06 y3 y15,j0d y3 y14,j06 y3 y14,j2B,j4j,j3k,j4k,w0,w1,w2,w3,j0j,j0b,j0k,Int.natCast_add,Int.natCast_zero,Int.cast_ofNat_Int,Nat.zero_add,Nat.add_zero,Int.add_zero,<-Int.add_assoc];rfl)
theorem j94 (a:Int×ByteArray×qW×qW×Int×ByteArray×qE×List ByteArray×ByteArray×ByteArray) (k:Int) (h:msr y18 a<=1048576) (h0:1<=k) (hk:k+(j0l y18 a:Int)<=4294967296) (K:Int->Res):j1v (mkT y18 a k) k K=K (k+(j0l y18 a:Int)):=by
 have h2:msr y3 a.2.2.1<=1048576:=(Nat.le_trans (@j0r y3 y15 a.2.2) (Nat.le_trans (@j03 .str y16 a.2) (Nat.le_trans (@j03 (.int .i64) y17 a) h)))
 have h3:msr y3 a.2.2.2.1<=1048576:=(Nat.le_trans (@j0r y3 y14 a.2.2.2) (Nat.le_trans (@j03 y3 y15 a.2.2) (Nat.le_trans (@j03 .str y16 a.2) (Nat.le_trans (@j03 (.int .i64) y17 a) h))))
 have h4:msr y14 a.2.2.2.2<=1048576:=(Nat.le_trans (@j03 y3 y14 a.2.2.2) (Nat.le_trans (@j03 y3 y15 a.2.2) (Nat.le_trans (@j03 .str y16 a.2) (Nat.le_trans (@j03 (.int .i64) y17 a) h))))
 have g0:msr y3 a.2.2.1<=1048576:=(Nat.le_trans (@j0r y3 y15 a.2.2) (Nat.le_trans (@j03 .str y16 a.2) (Nat.le_trans (@j03 (.int .i64) y17 a) h)))
 have g1:msr y3 a.2.2.2.1<=1048576:=(Nat.le_trans (@j0r y3 y14 a.2.2.2) (Nat.le_trans (@j03 y3 y15 a.2.2) (Nat.le_trans (@j03 .str y16 a.2) (Nat.le_trans (@j03 (.int .i64) y17 a) h))))
 have g2:msr y8 a.2.2.2.2.2.2.1<=1048576:=(Nat.le_trans (@j0r y8 y11 a.2.2.2.2.2.2) (Nat.le_trans (@j03 .str y12 a.2.2.2.2.2) (Nat.le_trans (@j03 (.int .i64) y13 a.2.2.2.2) (Nat.le_trans (@j03 y3 y14 a.2.2.2) (Nat.le_trans (@j03 y3 y15 a.2.2) (Nat.le_trans (@j03 .str y16 a.2) (Nat.le_trans (@j03 (.int .i64) y17 a) h)))))))
 have g3:msr y9 a.2.2.2.2.2.2.2.1<=1048576:=(Nat.le_trans (@j0r y9 y10 a.2.2.2.2.2.2.2) (Nat.le_trans (@j03 y8 y11 a.2.2.2.2.2.2) (Nat.le_trans (@j03 .str y12 a.2.2.2.2.2) (Nat.le_trans (@j03 (.int .i64) y13 a.2.2.2.2) (Nat.le_trans (@j03 y3 y14 a.2.2.2) (Nat.le_trans (@j03 y3 y15 a.2.2) (Nat.le_trans (@j03 .str y16 a.2) (Nat.le_trans (@j03 (.int .i64) y17 a) h))))))))
 have w0:j0l y3 a.2.2.1=wgt y3 a.2.2.1:=rfl
 have w1:j0l y3 a.2.2.2.1=wgt y3 a.2.2.2.1:=rfl
 have w2:j0l y8 a.2.2.2.2.2.2.1=wgt y8 a.2.2.2.2.2.2.1:=rfl
 have w3:j0l y9 a.2.2.2.2.2.2.2.1=wgt y9 a.2.2.2.2.2.2.2.1:=rfl
 have hw:j0l y18 a=wgt y3 a.2.2.1+wgt y3 a.2.2.2.1+wgt y8 a.2.2.2.2.2.2.1+wgt y9 a.2.2.2.2.2.2.2.1:=by first | rfl | (simp only [j06,w0,w1,w2,w3,j0j,j0b,j0k,Nat.zero_add,Nat.add_zero];done) | (simp only [j06,w0,w1,w2,w3,j0j,j0b,j0k,Nat.zero_add,Nat.add_zero];omega)
 have v4:j0l y14 a.2.2.2.2=wgt y8 a.2.2.2.2.2.2.1+wgt y9 a.2.2.2.2.2.2.2.1:=by first | rfl | (simp only [j06,w0,w1,w2,w3,j0j,j0b,j0k,Nat.zero_add,Nat.add_zero];done) | (simp only [j06,w0,w1,w2,w3,j0j,j0b,j0k,Nat.zero_add,Nat.add_zero];omega)
 unfold j1v
 simp (disch:=first | assumption | omega) only [j0d (.int .i64) y17,j06 (.int .i64) y17,j0d .str y16,j06 .str y16,j0d y3 y15,j06 y3 y15,j0d y3 y14,j06 y3 y14,j2B,j4j,j3k,j4k,w0,w1,w2,w3,j0j,j0b,j0k,Int.natCast_add,Int.natCast_zero,Int.cast_ofNat_Int,Nat.zero_add,Nat.add_zero,Int.add_zero,<-Int.add_assoc,jbK,jbL,j95,Z8I,cond_false]
 all_goals (repeat (show (bif decide (_<(0:Int)) then _ else _)=_;rw [Z8I (by omega),cond_false]))
 all_goals first | done | rfl | (congr 1;omega)
end Go.PI.G
namespace Go.PI.G
open Go Go.PI Go.Proofs
theorem j6H (a:(List Int)) (h:msr y0 a<=1048576) (k:(List Int)->Res):j15 a k=k a:=by
 have hl:a.length<=1048576:=j2n h
 unfold j15
 rw [Z97 (by unfold LIM;omega),cond_true]
 have:=Z9e (0) a id (step:=j4y a) (λout=>k out) (by unfold LIM;omega) (λout i rec hi hlo=>by
  show j1C a _ _ _ _=_
  unfold j1C
  dsimp only
  simp only [Z9q hi,cond_true,j0c hi,j0c (show i<out.length by omega),Z9a _ _ _ hi,Z9h,j04 (n:=(i:Int)+1) (by omega)]
  rfl) (λout rec=>by
  show j1C a _ _ _ _=_
  unfold j1C
  dsimp only
  rw [Z9p,cond_false])
 rw [List.map_id] at this
 exact this
theorem jbI (a:(List Int)) (h:msr y0 a<=1048576) (k:Bool->Res):j3U a a k=k true:=by
 have hl:a.length<=1048576:=j2n h
 unfold j3U
 rw [Z9o,cond_false]
 unfold j5r
 rw [Z93 a _ (by unfold LIM;omega) (λi rec hi=> ?_) (λrec=> ?_)]
 ·show j1B a a _ _ _ _=_
  unfold j1B
  simp only [Z9q hi,cond_true,j0c hi,Z9a _ _ _ hi,j04 (n:=(i:Int)+1) (by omega),Z9o,Z8U,cond_false,Bool.not_true]
 ·show j1B a a _ _ _ _=_
  unfold j1B
  rw [Z9p,cond_false]
theorem jbi (a:(List Int)) (k:Int) (h:msr y0 a<=1048576) (h0:1<=k) (hk:k+(wgt y0 a:Int)<=4294967296) (K:Int->(List Int)->Res):j31 a k K=K (k+(wgt y0 a:Int)) (mkL (wgt (.int .u8)) (mk (.int .u8)) a k):=by
 have hl:a.length<=1048576:=j2n h
 have hwg:wgt y0 a=(a.map (wgt (.int .u8))).sum:=rfl
 rw [hwg] at hk ⊢
 unfold j31 j4x
 have:=Z8D (wgt (.int .u8)) (mk (.int .u8)) a k (λl k i=>(l,k,i)) (step:=j3E) (λl k=>K k l) (λl k=>K k l) (by unfold LIM;omega) (λl i rec hi hll hli hla=>by
  have e1:=Z6s (wgt (.int .u8)) a i hi
  have e2:=Z8p (wgt (.int .u8)) a (i+1)
  generalize hκ:k+((((a.take i).map (wgt (.int .u8))).sum:Nat):Int)=κ
  have hκ1:1<=κ/\κ+(wgt (.int .u8) a[i]:Int)<=4294967296:=by omega
  have hw:(wgt (.int .u8) a[i]:Int)=1:=by
   have:wgt (.int .u8) a[i]=1:=by first | rfl | (simp only [wgt];done) | (simp only [wgt];omega)
   first | rfl | omega
  show j1j _ _ _ _ _=_
  dsimp only
  unfold j1j
  rw [<-hll] at hi
  have hi':i<a.length:=by omega
  simp (disch:=first | assumption | omega) only [show nI a.length=nI l.length by rw [hll],Z9q,j0c,j8I,cond_true,j8E,j8J,Z9a,hla,j04,j2O,<-hll]
  rw [Z9h]
  congr 3<;>first | rfl | omega | (simp only [j35,j22,j3Z,j5u,j34,j40,j2b,j3d,j2a,j3e,Int.natCast_add,Int.natCast_one,<-Int.add_assoc];done) | (simp only [j35,j22,j3Z,j5u,j34,j40,j2b,j3d,j2a,j3e,Int.natCast_add,Int.natCast_one,<-Int.add_assoc];rfl) | skip) (λl k rec hll=>by
  show j1j _ _ _ _ _=_
  dsimp only
  unfold j1j
  rw [<-hll,Z9p,cond_false])
 exact this
end Go.PI.G
namespace Go.PI.G
open Go Go.PI Go.Proofs
noncomputable def rst (b:List Int):ST×Bool:=by
 classical
 exact if h:∃ x,stB x=true/\byS x=b then (h.choose,true) else (zST,false)
theorem jbD (b:List Int) (hb:isB b) (raw:ST) (bad:Bool) (hback:∀ x,stB x=true->byS x=b->raw=x/\bad=false) (k:ST->Bool->Res) :
  (bif stB raw then (bif bad then k zST false else bif !true then k zST false else bif sNe (Z34 (byS raw)) (Z34 b) then k zST false else k raw true) else (bif bad then k zST false else bif !false then k zST false else bif sNe (Z34 []) (Z34 b) then k zST false else k raw true))=k (rst b).1 (rst b).2:=by
 unfold rst
 by_cases h:∃ x,stB x=true/\byS x=b
 ·rw [dif_pos h]
  have hc:=h.choose_spec
  obtain ⟨hr,hbad⟩:=hback h.choose hc.1 hc.2
  rw [hr,hc.1,cond_true,hbad,cond_false,hc.2,Z8U]
  rfl
 ·rw [dif_neg h]
  cases hs:stB raw
  ·cases bad<;>rfl
  ·cases bad
   ·rw [cond_true,cond_false]
    cases hn:sNe (Z34 (byS raw)) (Z34 b)
    ·exact absurd ⟨raw,hs,jbx (jcV hs) hb ((jbE _ _).1 hn)⟩ h
    ·rfl
   ·rfl
theorem jd2 (b:List Int) (hb:isB b) (hl:b.length<=1048576) (k:ST->Bool->Res):j1e b k=k (rst b).1 (rst b).2:=by
 obtain ⟨raw,h1,h2,h3⟩:=jd3 b hb hl
 rw [h2,jck raw h1]
 exact jbD b hb raw false (λx hx he=>⟨h3 x hx he,rfl⟩) k
theorem jbA (b:List Int) (hb:isB b) (hl:b.length<=1048576) (k:ST->Bool->Res):j0D b k=k (rst b).1 (rst b).2:=by
 obtain ⟨raw,bad,h1,h2,h3⟩:=jcW b hb hl
 rw [h2,jc8 raw h1]
 exact jbD b hb raw bad h3 k
theorem jd0 (b:List Int):msr yST (rst b).1<=1048576:=by
 unfold rst
 by_cases h:∃ x,stB x=true/\byS x=b
 ·rw [dif_pos h]
  have:=jcX h.choose_spec.1
  show msr yST h.choose<=1048576
  omega
 ·rw [dif_neg h]
  exact Nat.zero_le _
theorem jcb (l:List Int):msr (.slice (.int .u8)) l=l.length:=by
 have h1:msr (.slice (.int .u8)) l=l.length+(l.map (msr (.int .u8))).sum:=rfl
 have h2:∀ l:List Int,(l.map (msr (.int .u8))).sum=0:=by
  intro l
  induction l with
  | nil=>rfl
  | cons x l ih=>
   simp only [List.map_cons,List.sum_cons]
   rw [ih];rfl
 rw [h1,h2];rfl
theorem jd9 {l:List Int} (h:Wf (.slice (.int .u8)) l):isB l:=λx hx=>by
 have:=h.2 x hx
 have h2:IntKind.u8.min=0:=by decide
 have h3:IntKind.u8.max=255:=by decide
 simp only [Wf,Lit.wf,h2,h3,Bool.and_eq_true,decide_eq_true_eq] at this
 omega
theorem jbY (x0:List Int) (w0:Wf (.slice (.int .u8)) x0) (k:Bool->Res):j14 x0 k=k true:=by
 have hb:=jd9 w0
 unfold j14
 by_cases hs:nI x0.length>1048576
 ·rw [decide_eq_true hs];rfl
 have hl:x0.length<=1048576:=by unfold nI at hs;omega
 have hm:msr (.slice (.int .u8)) x0<=1048576:=by rw [jcb];exact hl
 rw [decide_eq_false hs,cond_false,j6H x0 hm,jd2 x0 hb hl,j6H x0 hm,jbA x0 hb hl]
 have hq:=jd0 x0
 generalize hr:rst x0=r at hq
 obtain ⟨l,ok⟩:=r
 have hbb:∀ x:Bool,(x==x)=true:=by decide
 dsimp only at hq ⊢
 have e0:=jaJ (τ:= .slice (.int .u8)) (by decide) hm
 have e3:=jaJ (τ:=yST) (by decide) hq
 have e3':=j7D yST l
 have k0:(1:Int)+((wgt (.slice (.int .u8)) x0:Nat):Int)<=4294967296:=by omega
 have k3:(1:Int)+((j0l yST l:Nat):Int)<=4294967296:=by omega
 rw [j8o _ hq,Bool.not_true,cond_false,hbb,Bool.not_true,cond_false,j6H x0 hm,jbI x0 hm,Bool.not_true,cond_false,jbi x0 1 hm (by omega) k0,decide_eq_false (by omega),cond_false,j8o _ hq,Bool.not_true,cond_false,cond_false]
 unfold j0J
 rw [jbw _ 1 hq (by omega) k3,j94 _ 1 hq (by omega) k3,decide_eq_false (by omega),cond_false,Z9o,cond_false,j6H x0 hm,jbA x0 hb hl,hr]
 dsimp only
 rw [j8o _ hq,Bool.not_true,cond_false,hbb,Bool.not_true,cond_false,j94 _ 1 hq (by omega) k3,decide_eq_false (by omega),cond_false,Z9o,cond_false]
end Go.PI.G
