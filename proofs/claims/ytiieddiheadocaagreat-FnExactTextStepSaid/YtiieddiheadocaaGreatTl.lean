/-
  Program's code interpreted over typed values; printed texts; plain laws. No conditions.
-/
import Derived.Test.YtiieddiheadocaaGreatTj
set_option linter.unusedVariables false
set_option linter.unusedSimpArgs false
namespace Go.PI.G
open Go Go.PI Go.Proofs
noncomputable def j0S (s:ByteArray):Int×Bool:=by
 classical
 exact if h:∃ n,j1w n=true/\j06 n=s then (h.choose,true) else (0,false)
theorem jdI {n:Int} (h:j1w n=true):j0S (j06 n)=(n,true):=by
 unfold j0S
 have hx:∃ m,j1w m=true/\j06 m=j06 n:=⟨n,h,rfl⟩
 rw [dif_pos hx]
 have:=hx.choose_spec
 rw [jsC this.1 h this.2]
theorem j7x {s:ByteArray} (h:∀ n,j1w n=true->j06 n≠s):j0S s=(0,false):=by
 unfold j0S
 rw [dif_neg λ⟨n,h1,h2⟩=>h n h1 h2]
theorem jlq {s:ByteArray} (h1:1<=s.size) (r:Option Int) (hr:∀ n,j1w n=true->j06 n=s->r=some n) (k:Int->Bool->Res) :
  opR r (λn=>bif sNe (j06 n) s then k 0 false else k n true) (k 0 false)=k (j0S s).1 (j0S s).2:=by
 by_cases h:∃ n,j1w n=true/\j06 n=s
 ·obtain ⟨n,hn,rfl⟩:=h
  rw [hr n hn rfl,jdI hn]
  show (bif sNe (j06 n) (j06 n) then k 0 false else k n true)=_
  rw [Z8M,cond_false]
 ·rw [j7x λn hn he=>h ⟨n,hn,he⟩]
  cases r with
  | none=>rfl
  | some n=>
   show (bif sNe (j06 n) s then k 0 false else k n true)=_
   cases hne:sNe (j06 n) s
   ·have he:=(jdH _ _).1 hne
    cases hb:j1w n
    ·rw [jqq hb] at he
     subst he
     exact absurd h1 (by show ¬ 1<=0;omega)
    ·exact absurd ⟨n,hb,he⟩ h
   ·rfl
theorem jqz (s:ByteArray) (i:Nat) (hs:0<s.size) (h:i=0->(bt s 0==45)=false) (A B:Unit->Res):j4g s (i:Int) A B=A ():=by
 unfold j4g
 cases i with
 | zero=>
  rw [show (((0:Nat):Int)==0)=true from rfl,cond_true,Z9c (by omega) (by omega),cond_true,h rfl,cond_false]
 | succ i=>
  rw [show (((i+1:Nat):Int)==0)=false by simp;omega,cond_false]
theorem jjB (s:ByteArray) (h14:s.size<=14) (h1:1<=s.size) (a b:Nat) (hab:a<=s.size) (h0:a=0->(bt s 0==45)=false) (q:(Int->Res)×(Unit->Res)) :
  ∀ m,s.size<m->Z10 (j3n s) m (0,(a:Int)) q=exR (goL dgF ((Z19 s).drop a) 0) q.1 q.2:=by
 intro m hm
 have hl:=j0f s
 refine jo5 (Z19 s) (λi n=>(n,i)) dgF (λi n=>a<=i/\0<=n/\n<((10 ^ i:Nat):Int)) (step:=j3n s) q q.1 q.2 (λi n n' hi hp hf=> ?_) (λi n rec hi hp=> ?_) (λn rec hp=> ?_) (s.size-a) a m 0 (by omega) (by omega) ⟨Nat.le_refl _,by omega,?_⟩
 ·obtain ⟨hx,rfl⟩:=jqc hf
  have:=jfF (i:=i) (by omega) hp.2 hx
  exact ⟨by omega,this.2.2.2⟩
 ·show j2e s _ _ _ _ _=_
  unfold j2e
  dsimp only
  have hi':i<s.size:=by omega
  rw [Z9i hi',cond_true,jqz s i (by omega) (λe=>h0 (by omega)),j0n hi',cond_true,cond_true,cond_true,j1V s i hi]
  by_cases x1:(Z19 s)[i]<48
  ·rw [decide_eq_true x1,cond_true]
   unfold dgF jkA
   rw [decide_eq_false (by omega)];rfl
  ·by_cases x2:(Z19 s)[i]>57
   ·rw [decide_eq_false x1,cond_false,decide_eq_true x2,cond_true]
    unfold dgF jkA
    rw [decide_eq_false (by omega)];rfl
   ·have:=jfF (i:=i) (by omega) hp.2 (x:=(Z19 s)[i]) (by omega)
    rw [decide_eq_false x1,cond_false,decide_eq_false x2,cond_false,this.1,this.2.1,this.2.2.1,j05 (n:=(i:Int)+1) (by omega),jml (by omega)]
    rfl
 ·show j2e s _ _ _ _ _=_
  unfold j2e
  dsimp only
  rw [hl,Z9h,cond_false]
 ·have:0<10 ^ a:=Nat.pow_pos (by omega)
  omega
theorem jju (s:ByteArray) (h14:s.size<=14) (a:Nat) (hab:a<=s.size) (q:(Int->Res)×(Unit->Res)) :
  ∀ m,s.size<m->Z10 (j4r s) m (0,(a:Int)) q=exR (goL dgF ((Z19 s).drop a) 0) q.1 q.2:=by
 intro m hm
 have hl:=j0f s
 refine jo5 (Z19 s) (λi n=>(n,i)) dgF (λi n=>0<=n/\n<((10 ^ i:Nat):Int)) (step:=j4r s) q q.1 q.2 (λi n n' hi hp hf=> ?_) (λi n rec hi hp=> ?_) (λn rec hp=> ?_) (s.size-a) a m 0 (by omega) (by omega) ⟨by omega,?_⟩
 ·obtain ⟨hx,rfl⟩:=jqc hf
  have:=jfF (i:=i) (by omega) hp hx
  exact this.2.2.2
 ·show j4q s _ _ _ _ _=_
  unfold j4q
  dsimp only
  have hi':i<s.size:=by omega
  rw [Z9i hi',cond_true,j0n hi',cond_true,cond_true,cond_true,j1V s i hi]
  by_cases x1:(Z19 s)[i]<48
  ·rw [decide_eq_true x1,cond_true]
   unfold dgF jkA
   rw [decide_eq_false (by omega)];rfl
  ·by_cases x2:(Z19 s)[i]>57
   ·rw [decide_eq_false x1,cond_false,decide_eq_true x2,cond_true]
    unfold dgF jkA
    rw [decide_eq_false (by omega)];rfl
   ·have:=jfF (i:=i) (by omega) hp (x:=(Z19 s)[i]) (by omega)
    rw [decide_eq_false x1,cond_false,decide_eq_false x2,cond_false,Int.mul_comm 10 n,this.1,this.2.1,this.2.2.1,j05 (n:=(i:Int)+1) (by omega),jml (by omega)]
    rfl
 ·show j4q s _ _ _ _ _=_
  unfold j4q
  dsimp only
  rw [hl,Z9h,cond_false]
 ·have:0<10 ^ a:=Nat.pow_pos (by omega)
  omega
theorem jkz:(l:List Int)->(a n:Int)->(i:Nat)->i+l.length<=14->0<=a/\a<((10 ^ i:Nat):Int)->goL dgF l a= .ok n->0<=n/\n<1000000000000000
 | [],a,n,i,hi,ha,h=>by
  simp only [goL,Except.ok.injEq] at h
  subst h
  have:10 ^ i<=10 ^ 14:=Nat.pow_le_pow_right (by omega) (by simpa using hi)
  omega
 | x::l,a,n,i,hi,ha,h=>by
  simp only [goL] at h
  simp only [List.length_cons] at hi
  cases hf:dgF a x with
  | error e=>rw [hf] at h;cases h
  | ok a'=>
   rw [hf] at h
   obtain ⟨hx,rfl⟩:=jqc hf
   have:=jfF (i:=i) (by omega) ha hx
   exact jkz l _ n (i+1) (by omega) this.2.2.2 h
theorem jfb (s:ByteArray) (k:Int->Bool->Res):j3d s k=k (j0S s).1 (j0S s).2:=by
 have hlen:=j0f s
 have hsz:∀ n,j1w n=true->j06 n=s->1<=s.size/\s.size<=14:=λn hn he=>by
  obtain ⟨x,xs,h1,_⟩:=j7v hn
  have h2:=j2P n
  rw [he] at h1 h2
  rw [h1] at hlen
  simp only [List.length_cons] at hlen
  omega
 unfold j3d
 by_cases h1:1<=s.size
 ·rw [decide_eq_false (show ¬ nI s.size<1 by unfold nI;omega),cond_false]
  by_cases h14:s.size<=14
  ·rw [decide_eq_false (show ¬ nI s.size>14 by unfold nI;omega),cond_false]
   obtain ⟨x,xs,hx⟩:∃ x xs,Z19 s=x::xs:=by
    cases h:Z19 s with
    | nil=>rw [h] at hlen;simp at hlen;omega
    | cons x xs=>exact ⟨x,xs,rfl⟩
   have hb:=jcs hx
   refine Eq.trans ?_ (jlq h1 (rdN (Z19 s)) (λn hn he=>by rw [<-he];exact jfW hn) k)
   have hrd:rdN (Z19 s)=bif x==45 then (match goL dgF xs 0 with | .ok n=>some (-n) | .error _=>none) else match goL dgF (x::xs) 0 with | .ok n=>some n | .error _=>none:=by rw [hx];rfl
   rw [hrd]
   unfold jc8 j99
   rw [Z9c (by omega) (by omega),hb]
   have hxs:xs.length<=13:=by rw [hx] at hlen;simp only [List.length_cons] at hlen;omega
   cases hc:x==45
   ·have:=jjB s h14 h1 0 0 (by omega) (λ_=>by rw [hb];exact hc) ((λ(n_:Int)=>bif true then bif false then j0P (Z8g (0-n_)) (λ(r:ByteArray)=>bif sNe r s then k 0 false else k (Z8g (0-n_)) true) else j0P n_ (λ(r:ByteArray)=>bif sNe r s then k 0 false else k n_ true) else none),λ(_:Unit)=>k 0 false) Z0Y (Z1O (by omega))
    refine Eq.trans this ?_
    rw [List.drop_zero,hx,cond_false]
    cases goL dgF (x::xs) 0 with
    | error e=>rfl
    | ok n=>
     simp only [exR,cond_true,cond_false]
     rw [jc6]
     rfl
   ·have h1':=jjB s h14 h1 1 0 (by omega) (λe=>by omega) ((λ(n_:Int)=>bif true then bif true then j0P (Z8g (0-n_)) (λ(r:ByteArray)=>bif sNe r s then k 0 false else k (Z8g (0-n_)) true) else j0P n_ (λ(r:ByteArray)=>bif sNe r s then k 0 false else k n_ true) else none),λ(_:Unit)=>k 0 false)
    obtain ⟨m,hm⟩:∃ m,Z0Y=m+1:=jjJ
    have hmm:s.size<m:=by have:=Z1O (n:=100) (by omega);omega
    have h2:=h1' m hmm
    rw [hm,Z8u]
    have e:∀ (rec:Int×Int->Res) (q:(Int->Res)×(Unit->Res)),j3n s (0,0) rec q=rec (0,1):=λrec q=>by
     show j2e s _ _ _ _ _=_
     unfold j2e j4g
     dsimp only
     rw [decide_eq_true (show (0:Int)<nI s.size by unfold nI;omega),cond_true,show ((0:Int)==0)=true from rfl,cond_true,Z9c (by omega) (by omega),cond_true,hb,hc,cond_true]
     rfl
    refine (e _ _).trans ?_
    refine Eq.trans h2 ?_
    rw [hx,List.drop_one,List.tail_cons,cond_true]
    cases hg:goL dgF xs 0 with
    | error e=>rfl
    | ok n=>
     have hr:=jkz xs 0 n 0 (by omega) (by omega) hg
     simp only [exR,cond_true]
     rw [jc6,j05 (by omega),show (0:Int)-n= -n by omega]
     rfl
  ·rw [decide_eq_true (show nI s.size>14 by unfold nI;omega),cond_true,j7x λn hn he=>absurd (hsz n hn he).2 h14]
 ·rw [decide_eq_true (show nI s.size<1 by unfold nI;omega),cond_true,j7x λn hn he=>absurd (hsz n hn he).1 h1]
theorem jhY (s:ByteArray) (hmax:s.size<=LIM) (k:Int->Bool->Res):j36 s k=k (j0S s).1 (j0S s).2:=by
 have hlen:=j0f s
 unfold j36 j8X
 unfold LIM at hmax
 by_cases h1:1<=s.size
 ·rw [decide_eq_true (show nI s.size>0 by unfold nI;omega),cond_true,Z9c (by omega) (by omega),cond_true]
  obtain ⟨x,xs,hx⟩:∃ x xs,Z19 s=x::xs:=by
   cases h:Z19 s with
   | nil=>rw [h] at hlen;simp at hlen;omega
   | cons x xs=>exact ⟨x,xs,rfl⟩
  have hb:=jcs hx
  have hxs:xs.length+1=s.size:=by rw [hx] at hlen;simpa using hlen
  rw [hb]
  have hd:∀ n:Nat,(j4I n).size=(Z19 (j4I n)).length:=λn=>(j0f _).symm
  cases hc:x==45
  ·rw [cond_false]
   dsimp only
   rw [j1I,j05 (by unfold nI;omega)]
   by_cases h13:s.size<=13
   ·rw [decide_eq_true (show (1:Int)<=nI s.size-0/\nI s.size-0<=13 by unfold nI;omega),Bool.not_true,cond_false]
    refine Eq.trans ?_ (jlq h1 (rdN (Z19 s)) (λn hn he=>by rw [<-he];exact jfW hn) k)
    have hrd:rdN (Z19 s)=bif x==45 then (match goL dgF xs 0 with | .ok n=>some (-n) | .error _=>none) else match goL dgF (x::xs) 0 with | .ok n=>some n | .error _=>none:=by rw [hx];rfl
    rw [hrd]
    unfold j8W j5Z
    have:=jju s (by omega) 0 (by omega) ((λ(n_:Int)=>bif ((0:Int)==1) then j0O (Z8g (0-n_)) (λ(r1:ByteArray)=>bif sNe r1 s then k 0 false else k (Z8g (0-n_)) true) else j0O n_ (λ(r1:ByteArray)=>bif sNe r1 s then k 0 false else k n_ true)),λ(_:Unit)=>k 0 false) Z0Y (Z1O (by omega))
    refine Eq.trans this ?_
    rw [List.drop_zero,hx]
    rw [hc,cond_false]
    cases goL dgF (x::xs) 0 with
    | error e=>rfl
    | ok n=>
     simp only [exR]
     rw [show ((0:Int)==1)=false from rfl,cond_false,jbJ]
     rfl
   ·rw [decide_eq_false (show ¬ ((1:Int)<=nI s.size-0/\nI s.size-0<=13) by unfold nI;omega),Bool.not_false,cond_true,j7x λn hn he=> ?_]
    rcases jbU hn with ⟨h0,e⟩ | ⟨h0,e⟩
    ·rw [he,hx] at e
     have:=(List.cons.inj e).1
     simp [this] at hc
    ·have hq:=congrArg List.length e
     rw [he,<-hd,hlen] at hq
     unfold j1w at hn
     have:=j6s (n:=n.toNat) (by have:=of_decide_eq_true hn;omega)
     omega
  ·have ex:x=45:=by simpa using hc
   rw [cond_true]
   dsimp only
   rw [j1I,j05 (by unfold nI;omega)]
   by_cases h13:1<=xs.length/\xs.length<=13
   ·rw [decide_eq_true (show (1:Int)<=nI s.size-1/\nI s.size-1<=13 by unfold nI;omega),Bool.not_true,cond_false]
    refine Eq.trans ?_ (jlq h1 (rdN (Z19 s)) (λn hn he=>by rw [<-he];exact jfW hn) k)
    have hrd:rdN (Z19 s)=bif x==45 then (match goL dgF xs 0 with | .ok n=>some (-n) | .error _=>none) else match goL dgF (x::xs) 0 with | .ok n=>some n | .error _=>none:=by rw [hx];rfl
    rw [hrd]
    unfold j8W j5Z
    have:=jju s (by omega) 1 (by omega) ((λ(n_:Int)=>bif ((1:Int)==1) then j0O (Z8g (0-n_)) (λ(r1:ByteArray)=>bif sNe r1 s then k 0 false else k (Z8g (0-n_)) true) else j0O n_ (λ(r1:ByteArray)=>bif sNe r1 s then k 0 false else k n_ true)),λ(_:Unit)=>k 0 false) Z0Y (Z1O (by omega))
    refine Eq.trans this ?_
    rw [List.drop_one,hx,List.tail_cons]
    rw [hc,cond_true]
    cases hg:goL dgF xs 0 with
    | error e=>rfl
    | ok n=>
     have hr:=jkz xs 0 n 0 (by omega) (by omega) hg
     simp only [exR]
     rw [show ((1:Int)==1)=true from rfl,cond_true,jbJ,j05 (by omega),show (0:Int)-n= -n by omega]
     rfl
   ·rw [decide_eq_false (show ¬ ((1:Int)<=nI s.size-1/\nI s.size-1<=13) by unfold nI;omega),Bool.not_false,cond_true,j7x λn hn he=> ?_]
    rcases jbU hn with ⟨h0,e⟩ | ⟨h0,e⟩
    ·rw [he,hx] at e
     have e2:=(List.cons.inj e).2
     have hq:=congrArg List.length e2
     rw [<-hd] at hq
     unfold j1w at hn
     have:=j6s (n:=(-n).toNat) (by have:=of_decide_eq_true hn;omega)
     obtain ⟨_,y,ys,g,_⟩:=jfG (-n).toNat
     rw [g] at e2
     rw [e2] at h13 hq
     simp only [List.length_cons] at h13 hq
     omega
    ·obtain ⟨_,y,ys,g,g2⟩:=jfG n.toNat
     rw [he,hx,g] at e
     have:=(List.cons.inj e).1
     omega
 ·rw [decide_eq_false (show ¬ nI s.size>0 by unfold nI;omega),cond_false]
  dsimp only
  rw [j1I,j05 (by unfold nI;omega),decide_eq_false (show ¬ ((1:Int)<=nI s.size-0/\nI s.size-0<=13) by unfold nI;omega),Bool.not_false,cond_true,j7x λn hn he=> ?_]
  obtain ⟨x,xs,h2,_⟩:=j7v hn
  rw [he] at h2
  rw [h2] at hlen
  simp only [List.length_cons] at hlen
  omega
theorem jrA (s:ByteArray) (hs:s.size<=1048576) (k:Int->Bool->Res):j3d s k=k (j0S s).1 (j0S s).2:=jfb s k
theorem jrl (s:ByteArray) (hs:s.size<=1048576) (k:Int->Bool->Res):j36 s k=k (j0S s).1 (j0S s).2:=jhY s (by unfold LIM;omega) k
end Go.PI.G
namespace Go.PI.G
open Go Go.PI Go.Proofs
def hx (b:Int):Int:=Z8b (λx=>x==b) (Z19 j0k)
theorem jt8:∀ b:Fin 256,((hx (h1 ((b.val:Nat):Int))==(((b.val / 16:Nat)):Int))&&(hx (h2 ((b.val:Nat):Int))==(((b.val % 16:Nat)):Int)))=true:=by decide +kernel
theorem jpw {b:Int} (h:0<=b/\b<256):hx (h1 b)=b / 16/\hx (h2 b)=b % 16:=by
 have:=jt8 ⟨b.toNat,by omega⟩
 dsimp only at this
 simp only [Bool.and_eq_true,beq_iff_eq] at this
 rw [show ((b.toNat:Nat):Int)=b by omega] at this
 obtain ⟨q1,q2⟩:=this
 have e1:((b.toNat / 16:Nat):Int)=b / 16:=by omega
 have e2:((b.toNat % 16:Nat):Int)=b % 16:=by omega
 exact ⟨q1.trans e1,q2.trans e2⟩
theorem jmz (b:Int) (k:Int->Res):j8u b k=k (hx b):=by
 unfold j8u jcJ hx
 have e:(Z19 j0k).length=16:=rfl
 refine Z8o (Z19 j0k) (λi=>i) (λx=>x==b) (step:=j7I b) ((λ(_:Unit)=>k (-1)),(λ(t:Int)=>k t)) k (by rw [e];unfold LIM;omega) (λi rec hi=> ?_) (λrec=> ?_)
 ·show j55 _ _ _ _ _=_
  unfold j55
  rw [decide_eq_true (show (i:Int)<16 by omega),cond_true,Z9c (by omega) (by omega),cond_true,j1V _ i hi,j05 (n:=(i:Int)+1) (by omega)]
 ·show j55 _ _ _ _ _=_
  unfold j55
  rw [e];rfl
theorem jjy (b:Int) (k:Int->Res):j7r b k=k (if hx b<0 then 0 else hx b):=by
 unfold j7r jcb hx
 have e:(Z19 j0k).length=16:=rfl
 refine Z8o (Z19 j0k) (λi=>i) (λx=>x==b) (step:=j6O b) ((λ(_:Unit)=>k 0),(λ(t:Int)=>k t)) (λr=>k (if r<0 then 0 else r)) (by rw [e];unfold LIM;omega) (λi rec hi=> ?_) (λrec=> ?_)
 ·show j4x _ _ _ _ _=_
  unfold j4x j6C
  rw [decide_eq_true (show (i:Int)<16 by omega),cond_true,Int.tmod_eq_emod_of_nonneg (by omega),show (i:Int) % 16=(i:Int) by omega,Z9c (by omega) (by omega),cond_true,j1V _ i hi,j05 (n:=(i:Int)+1) (by omega),if_neg (by omega)]
 ·show j4x _ _ _ _ _=_
  unfold j4x
  rw [e];rfl
theorem jrf (b:Int):1<=(gB b).length:=by unfold gB;cases pB b<;>simp
theorem js2 {y:Int} (h:0<=y/\y<256):wu8 (Z8g (Z8g (16 * (if hx (h1 y)<0 then 0 else hx (h1 y)))+(if hx (h2 y)<0 then 0 else hx (h2 y))))=y:=by
 obtain ⟨e1,e2⟩:=jpw h
 rw [e1,e2,if_neg (by omega),if_neg (by omega),j05 (n:=16 * (y / 16)) (by omega),j05 (by omega),jfh (by omega)]
 omega
theorem jrw {y:Int} (h:0<=y/\y<256):wu8 (Z8g (Z8g (16 * hx (h1 y))+hx (h2 y)))=y:=by
 obtain ⟨e1,e2⟩:=jpw h
 rw [e1,e2,j05 (n:=16 * (y / 16)) (by omega),j05 (by omega),jfh (by omega)]
 omega
theorem jtl (s:ByteArray) (hs:2<=s.size/\s.size<=1000):∀ (d i m:Nat) (b:List Int),s.size-i<=d->i<=s.size->d<m->b.length<=i->∃ r,(∀ K,Z10 (j3o s) m (b,(i:Int)) K=K r)/\∀ ys,isB ys->(Z19 s).drop i=esc ys++[39]->r=b++ys:=by
 have hl:=j0f s
 intro d
 induction d with
 | zero=>
  intro i m b hd hi hm hb
  obtain ⟨m,rfl⟩:∃ e,m=e+1:=⟨m-1,by omega⟩
  refine ⟨b,λK=> ?_,λys _ h=> ?_⟩
  ·rw [Z8u]
   show j1H s _ _ _ _=_
   unfold j1H
   dsimp only
   rw [j05 (n:=nI s.size-1) (by unfold nI;omega),decide_eq_false (show ¬ (i:Int)<nI s.size-1 by unfold nI;omega),cond_false]
  ·have:=congrArg List.length h
   rw [List.length_drop,List.length_append,List.length_singleton] at this
   omega
 | succ d ih=>
  intro i m b hd hi hm hb
  obtain ⟨m,rfl⟩:∃ e,m=e+1:=⟨m-1,by omega⟩
  have hun:∀ K,Z10 (j3o s) (m+1) (b,(i:Int)) K=j1H s b (i:Int) (λb i=>Z10 (j3o s) m (b,i) K) K:=λK=>rfl
  by_cases c1:i<s.size-1
  ·have hil:i<(Z19 s).length:=by omega
   have e1:Z8g (nI s.size-1)=nI s.size-1:=j05 (by unfold nI;omega)
   have e2:decide ((i:Int)<nI s.size-1)=true:=decide_eq_true (by unfold nI;omega)
   have e3:inb (i:Int) s.size=true:=Z9c (by omega) (by omega)
   have hcase:∀ ys,isB ys->(Z19 s).drop i=esc ys++[39]->∃ y ys',ys=y::ys'/\(0<=y/\y<256)/\isB ys'/\(Z19 s).drop i=gB y++(esc ys'++[39]):=λys hB h=>by
    cases ys with
    | nil=>
     have:=congrArg List.length h
     rw [List.length_drop] at this
     simp [esc] at this
     omega
    | cons y ys'=>
     refine ⟨y,ys',rfl,hB y (by simp),λz hz=>hB z (List.mem_cons_of_mem _ hz),?_⟩
     rw [h]
     simp [esc]
   by_cases h37:(Z19 s)[i]=37
   ·by_cases c2:i+2<s.size
    ·obtain ⟨r,r1,r2⟩:=ih (i+3) m (b++[wu8 (Z8g (Z8g (16 * (if hx (bt s ((i+1:Nat):Int))<0 then 0 else hx (bt s ((i+1:Nat):Int))))+(if hx (bt s ((i+2:Nat):Int))<0 then 0 else hx (bt s ((i+2:Nat):Int)))))]) (by omega) (by omega) (by omega) (by rw [List.length_append,List.length_singleton];omega)
     refine ⟨r,λK=> ?_,λys hB h=> ?_⟩
     ·rw [hun]
      unfold j1H
      rw [e1,e2,cond_true,e3,cond_true,j1V s i hil,h37,show ((37:Int)==37)=true from rfl,cond_true,j05 (n:=(i:Int)+2) (by omega),decide_eq_true (show (i:Int)+2<nI s.size by unfold nI;omega),cond_true,j05 (n:=(i:Int)+1) (by omega),Z9c (i:=(i:Int)+1) (by omega) (by omega),cond_true,Z9c (i:=(i:Int)+2) (by omega) (by omega),cond_true,jjy,jjy,Z9d (by unfold LIM;omega),cond_true,j05 (n:=(i:Int)+2+1) (by omega)]
      have:=r1 K
      rw [show ((i+3:Nat):Int)=(i:Int)+2+1 by omega,show ((i+1:Nat):Int)=(i:Int)+1 by omega,show ((i+2:Nat):Int)=(i:Int)+2 by omega] at this
      exact this
     ·obtain ⟨y,ys',rfl,hy,hB',h⟩:=hcase ys hB h
      cases hp:pB y
      ·unfold gB at h
       rw [hp,cond_false] at h
       obtain ⟨_,_,g1⟩:=j1L h
       obtain ⟨i1,g2,g3⟩:=j1L g1
       obtain ⟨i2,g4,g5⟩:=j1L g3
       have f1:bt s ((i+1:Nat):Int)=h1 y:=by rw [j1V s (i+1) i1,g2]
       have f2:bt s ((i+2:Nat):Int)=h2 y:=by rw [j1V s (i+2) i2];exact g4
       rw [r2 ys' hB' g5,f1,f2,js2 hy,List.append_assoc]
       rfl
      ·unfold gB at h
       rw [hp,cond_true] at h
       obtain ⟨_,g1,_⟩:=j1L h
       exact absurd (g1.symm.trans h37) (jdG hp).2.2
    ·obtain ⟨r,r1,r2⟩:=ih (i+1) m (b++[(Z19 s)[i]]) (by omega) (by omega) (by omega) (by rw [List.length_append,List.length_singleton];omega)
     refine ⟨r,λK=> ?_,λys hB h=> ?_⟩
     ·rw [hun]
      unfold j1H
      rw [e1,e2,cond_true,e3,cond_true,j1V s i hil,h37,show ((37:Int)==37)=true from rfl,cond_true,j05 (n:=(i:Int)+2) (by omega),decide_eq_false (show ¬ (i:Int)+2<nI s.size by unfold nI;omega),cond_false,cond_true,Z9d (by unfold LIM;omega),cond_true,j05 (n:=(i:Int)+1) (by omega)]
      have:=r1 K
      rw [h37,show ((i+1:Nat):Int)=(i:Int)+1 by omega] at this
      exact this
     ·obtain ⟨y,ys',rfl,hy,hB',h⟩:=hcase ys hB h
      cases hp:pB y
      ·have:=congrArg List.length h
       unfold gB at this
       rw [hp,cond_false,List.length_drop] at this
       simp at this
       omega
      ·unfold gB at h
       rw [hp,cond_true] at h
       obtain ⟨_,g1,_⟩:=j1L h
       exact absurd (g1.symm.trans h37) (jdG hp).2.2
   ·obtain ⟨r,r1,r2⟩:=ih (i+1) m (b++[(Z19 s)[i]]) (by omega) (by omega) (by omega) (by rw [List.length_append,List.length_singleton];omega)
    refine ⟨r,λK=> ?_,λys hB h=> ?_⟩
    ·rw [hun]
     unfold j1H
     rw [e1,e2,cond_true,e3,cond_true,j1V s i hil,show ((Z19 s)[i]==37)=false by simp [h37],cond_false,cond_true,Z9d (by unfold LIM;omega),cond_true,j05 (n:=(i:Int)+1) (by omega)]
     have:=r1 K
     rw [show ((i+1:Nat):Int)=(i:Int)+1 by omega] at this
     exact this
    ·obtain ⟨y,ys',rfl,hy,hB',h⟩:=hcase ys hB h
     cases hp:pB y
     ·unfold gB at h
      rw [hp,cond_false] at h
      obtain ⟨_,g1,_⟩:=j1L h
      exact absurd g1 h37
     ·unfold gB at h
      rw [hp,cond_true] at h
      obtain ⟨_,g1,g2⟩:=j1L h
      rw [r2 ys' hB' g2,g1,List.append_assoc]
      rfl
  ·refine ⟨b,λK=> ?_,λys _ h=> ?_⟩
   ·rw [hun]
    unfold j1H
    rw [j05 (n:=nI s.size-1) (by unfold nI;omega),decide_eq_false (show ¬ (i:Int)<nI s.size-1 by unfold nI;omega),cond_false]
   ·cases ys with
    | nil=>simp
    | cons y ys'=>
     have:=congrArg List.length h
     have hg:=jrf y
     rw [List.length_drop] at this
     simp [esc] at this
     omega
theorem jti (s:ByteArray) (hs:s.size<=1000000000):∀ (d i m:Nat) (b:List Int),s.size-i<=d->i<=s.size->d<m->b.length<=i->∃ r,(∀ q,Z10 (j21 s) m (b,(i:Int)) q=opR r q.1 (q.2 ()))/\∀ ys,isB ys->(Z19 s).drop i=esc ys->r=some (b++ys):=by
 have hl:=j0f s
 intro d
 induction d with
 | zero=>
  intro i m b hd hi hm hb
  obtain ⟨m,rfl⟩:∃ e,m=e+1:=⟨m-1,by omega⟩
  refine ⟨some b,λq=> ?_,λys _ h=> ?_⟩
  ·rw [Z8u]
   show j20 s _ _ _ _ _=_
   unfold j20
   dsimp only
   rw [decide_eq_false (show ¬ (i:Int)<nI s.size by unfold nI;omega),cond_false]
   rfl
  ·cases ys with
   | nil=>simp
   | cons y ys'=>
    have:=congrArg List.length h
    have hg:=jrf y
    rw [List.length_drop] at this
    simp [esc] at this
    omega
 | succ d ih=>
  intro i m b hd hi hm hb
  obtain ⟨m,rfl⟩:∃ e,m=e+1:=⟨m-1,by omega⟩
  have hun:∀ q,Z10 (j21 s) (m+1) (b,(i:Int)) q=j20 s b (i:Int) (λb i=>Z10 (j21 s) m (b,i) q) q.1 q.2:=λq=>rfl
  by_cases c1:i<s.size
  ·have hil:i<(Z19 s).length:=by omega
   have e2:decide ((i:Int)<nI s.size)=true:=decide_eq_true (by unfold nI;omega)
   have e3:inb (i:Int) s.size=true:=Z9c (by omega) (by omega)
   have hcase:∀ ys,isB ys->(Z19 s).drop i=esc ys->∃ y ys',ys=y::ys'/\(0<=y/\y<256)/\isB ys'/\(Z19 s).drop i=gB y++esc ys':=λys hB h=>by
    cases ys with
    | nil=>
     have:=congrArg List.length h
     rw [List.length_drop] at this
     simp [esc] at this
     omega
    | cons y ys'=>
     refine ⟨y,ys',rfl,hB y (by simp),λz hz=>hB z (List.mem_cons_of_mem _ hz),?_⟩
     rw [h]
     simp [esc]
   by_cases h37:(Z19 s)[i]=37
   ·by_cases c2:i+2<s.size
    ·have hu2:∀ q,Z10 (j21 s) (m+1) (b,(i:Int)) q=bif decide (hx (bt s ((i+1:Nat):Int))<0) then q.2 () else bif decide (hx (bt s ((i+2:Nat):Int))<0) then q.2 () else Z10 (j21 s) m (b++[wu8 (Z8g (Z8g (16 * hx (bt s ((i+1:Nat):Int)))+hx (bt s ((i+2:Nat):Int))))],((i+3:Nat):Int)) q:=λq=>by
      rw [hun]
      unfold j20
      rw [e2,cond_true,e3,cond_true,j1V s i hil,h37,show ((37:Int) != 37)=false from rfl,cond_false,j05 (n:=(i:Int)+2) (by omega),decide_eq_false (show ¬ (i:Int)+2>=nI s.size by unfold nI;omega),cond_false,j05 (n:=(i:Int)+1) (by omega),Z9c (i:=(i:Int)+1) (by omega) (by omega),cond_true,Z9c (i:=(i:Int)+2) (by omega) (by omega),cond_true,jmz,jmz,Z9d (by unfold LIM;omega),cond_true,j05 (n:=(i:Int)+2+1) (by omega),show ((i+3:Nat):Int)=(i:Int)+2+1 by omega,show ((i+1:Nat):Int)=(i:Int)+1 by omega,show ((i+2:Nat):Int)=(i:Int)+2 by omega]
     by_cases n1:hx (bt s ((i+1:Nat):Int))<0\/hx (bt s ((i+2:Nat):Int))<0
     ·refine ⟨none,λq=> ?_,λys hB h=> ?_⟩
      ·rw [hu2]
       rcases n1 with n1 | n1
       ·rw [decide_eq_true n1,cond_true];rfl
       ·rw [decide_eq_true n1,cond_true]
        cases decide (hx (bt s ((i+1:Nat):Int))<0)<;>rfl
      ·obtain ⟨y,ys',rfl,hy,hB',h⟩:=hcase ys hB h
       cases hp:pB y
       ·unfold gB at h
        rw [hp,cond_false] at h
        obtain ⟨_,_,g1⟩:=j1L h
        obtain ⟨i1,g2,g3⟩:=j1L g1
        obtain ⟨i2,g4,g5⟩:=j1L g3
        have f1:bt s ((i+1:Nat):Int)=h1 y:=by rw [j1V s (i+1) i1,g2]
        have f2:bt s ((i+2:Nat):Int)=h2 y:=by rw [j1V s (i+2) i2];exact g4
        rw [f1,f2,(jpw hy).1,(jpw hy).2] at n1
        omega
       ·unfold gB at h
        rw [hp,cond_true] at h
        obtain ⟨_,g1,_⟩:=j1L h
        exact absurd (g1.symm.trans h37) (jdG hp).2.2
     ·obtain ⟨r,r1,r2⟩:=ih (i+3) m (b++[wu8 (Z8g (Z8g (16 * hx (bt s ((i+1:Nat):Int)))+hx (bt s ((i+2:Nat):Int))))]) (by omega) (by omega) (by omega) (by rw [List.length_append,List.length_singleton];omega)
      refine ⟨r,λq=> ?_,λys hB h=> ?_⟩
      ·rw [hu2,decide_eq_false (by omega),cond_false,decide_eq_false (by omega),cond_false]
       exact r1 q
      ·obtain ⟨y,ys',rfl,hy,hB',h⟩:=hcase ys hB h
       cases hp:pB y
       ·unfold gB at h
        rw [hp,cond_false] at h
        obtain ⟨_,_,g1⟩:=j1L h
        obtain ⟨i1,g2,g3⟩:=j1L g1
        obtain ⟨i2,g4,g5⟩:=j1L g3
        have f1:bt s ((i+1:Nat):Int)=h1 y:=by rw [j1V s (i+1) i1,g2]
        have f2:bt s ((i+2:Nat):Int)=h2 y:=by rw [j1V s (i+2) i2];exact g4
        rw [r2 ys' hB' g5,f1,f2,jrw hy,List.append_assoc]
        rfl
       ·unfold gB at h
        rw [hp,cond_true] at h
        obtain ⟨_,g1,_⟩:=j1L h
        exact absurd (g1.symm.trans h37) (jdG hp).2.2
    ·refine ⟨none,λq=> ?_,λys hB h=> ?_⟩
     ·rw [hun]
      unfold j20
      rw [e2,cond_true,e3,cond_true,j1V s i hil,h37,show ((37:Int) != 37)=false from rfl,cond_false,j05 (n:=(i:Int)+2) (by omega),decide_eq_true (show (i:Int)+2>=nI s.size by unfold nI;omega),cond_true]
      rfl
     ·obtain ⟨y,ys',rfl,hy,hB',h⟩:=hcase ys hB h
      cases hp:pB y
      ·have:=congrArg List.length h
       unfold gB at this
       rw [hp,cond_false,List.length_drop] at this
       simp at this
       omega
      ·unfold gB at h
       rw [hp,cond_true] at h
       obtain ⟨_,g1,_⟩:=j1L h
       exact absurd (g1.symm.trans h37) (jdG hp).2.2
   ·obtain ⟨r,r1,r2⟩:=ih (i+1) m (b++[(Z19 s)[i]]) (by omega) (by omega) (by omega) (by rw [List.length_append,List.length_singleton];omega)
    refine ⟨r,λq=> ?_,λys hB h=> ?_⟩
    ·rw [hun]
     unfold j20
     rw [e2,cond_true,e3,cond_true,j1V s i hil,show ((Z19 s)[i] != 37)=true by simp [h37],cond_true,cond_true,Z9d (by unfold LIM;omega),cond_true,j05 (n:=(i:Int)+1) (by omega)]
     have:=r1 q
     rw [show ((i+1:Nat):Int)=(i:Int)+1 by omega] at this
     exact this
    ·obtain ⟨y,ys',rfl,hy,hB',h⟩:=hcase ys hB h
     cases hp:pB y
     ·unfold gB at h
      rw [hp,cond_false] at h
      obtain ⟨_,g1,_⟩:=j1L h
      exact absurd g1 h37
     ·unfold gB at h
      rw [hp,cond_true] at h
      obtain ⟨_,g1,g2⟩:=j1L h
      rw [r2 ys' hB' g2,g1,List.append_assoc]
      rfl
  ·refine ⟨some b,λq=> ?_,λys _ h=> ?_⟩
   ·rw [hun]
    unfold j20
    rw [decide_eq_false (show ¬ (i:Int)<nI s.size by unfold nI;omega),cond_false]
    rfl
   ·cases ys with
    | nil=>simp
    | cons y ys'=>
     have:=congrArg List.length h
     have hg:=jrf y
     rw [List.length_drop] at this
     simp [esc] at this
     omega
end Go.PI.G
namespace Go.PI.G
open Go Go.PI Go.Proofs
noncomputable def jcj (s:ByteArray):V×Bool:=by
 classical
 exact if h:∃ v,j0u v=true/\j07 v=s then (h.choose,true) else (zV,false)
theorem joN {s:ByteArray} (h:∀ v,j0u v=true->j07 v≠s):jcj s=(zV,false):=by
 unfold jcj
 rw [dif_neg λ⟨n,h1,h2⟩=>h n h1 h2]
theorem jsh {s:ByteArray} {v:V} (hv:j0u v=true) (h:j07 v=s) (hu:∀ w,j0u w=true->j07 w=s->w=v):jcj s=(v,true):=by
 unfold jcj
 have hx:∃ v,j0u v=true/\j07 v=s:=⟨v,hv,h⟩
 rw [dif_pos hx,hu _ hx.choose_spec.1 hx.choose_spec.2]
theorem js5 (s:ByteArray) (v:V) (h:¬ (1<s.size/\bt s 0=39/\s.size<94)) (K:V->Res):j3h s v K=K v:=by
 unfold j3h
 by_cases h1:1<s.size
 ·rw [decide_eq_true (show nI s.size>1 by unfold nI;omega),cond_true,Z9c (by omega) (by omega),cond_true]
  by_cases h2:bt s 0=39
  ·rw [decide_eq_false (show ¬ nI s.size<94 by unfold nI;omega),cond_false]
   cases bt s 0==39<;>rfl
  ·rw [show (bt s 0==39)=false by simp [h2],cond_false]
 ·rw [decide_eq_false (show ¬ nI s.size>1 by unfold nI;omega),cond_false]
theorem jmY (s:ByteArray) (hmax:s.size<=LIM):∃ raw:V,(∀ k,j47 s k=bif sNe (j07 raw) s then k zV false else k raw true)/\(∀ v,j0u v=true->j07 v=s->raw=v)/\(s=eS->raw=zV):=by
 have hl:=j0f s
 by_cases hC:1<s.size/\bt s 0=39/\s.size<94
 ·obtain ⟨r,r1,r2⟩:=jtl s (by omega) (s.size-1) 1 Z0Y [] (by omega) (by omega) (Z1O (by omega)) (by simp)
  refine ⟨(3,0,Z2X r),λk=> ?_,λv hv he=> ?_,λhe=> ?_⟩
  ·unfold j47
   rw [jfb]
   have e3:∀ (v:V) (K:V->Res),j3h s v K=K (3,0,Z2X r):=λv K=>by
    unfold j3h
    rw [decide_eq_true (show nI s.size>1 by unfold nI;omega),cond_true,Z9c (by omega) (by omega),cond_true,show (bt s 0==39)=true by simp [hC.2.1],cond_true,decide_eq_true (show nI s.size<94 by unfold nI;omega),cond_true]
    exact r1 _
   have e0:∀ (n:Int) (b:Bool) (v:V) (K:V->Res),j3f n b v K=K (bif b then (2,n,eS) else v):=λn b v K=>by unfold j3f;cases b<;>rfl
   have e1:∀ (v:V) (K:V->Res),j3g s v K=K (bif sEq s j1r then (1,Z8g (5-nI s.size),eS) else bif sEq s j19 then (1,Z8g (5-nI s.size),eS) else v):=λv K=>by
    unfold j3g
    cases sEq s j1r
    ·cases sEq s j19<;>rfl
    ·rfl
   rw [e0,e1,e3,jeg]
  ·obtain ⟨x,xs,q1,q2⟩:=jgO hv
   rw [he] at q1
   have hx:=jcs q1
   obtain ⟨t,rfl,ht,e⟩:=q2 (by rw [<-hx];exact hC.2.1)
   rw [he] at e
   have:=r2 (Z19 t) (j8B t) (by rw [e];rfl)
   rw [this,List.nil_append,j4e]
  ·subst he;exact absurd hC.1 (by show ¬ 1<0;omega)
 ·refine ⟨bif sEq s j1r then (1,Z8g (5-nI s.size),eS) else bif sEq s j19 then (1,Z8g (5-nI s.size),eS) else bif (j0S s).2 then (2,(j0S s).1,eS) else zV,λk=> ?_,λv hv he=> ?_,λhe=> ?_⟩
  ·unfold j47
   rw [jfb]
   have e0:∀ (n:Int) (b:Bool) (v:V) (K:V->Res),j3f n b v K=K (bif b then (2,n,eS) else v):=λn b v K=>by unfold j3f;cases b<;>rfl
   have e1:∀ (v:V) (K:V->Res),j3g s v K=K (bif sEq s j1r then (1,Z8g (5-nI s.size),eS) else bif sEq s j19 then (1,Z8g (5-nI s.size),eS) else v):=λv K=>by
    unfold j3g
    cases sEq s j1r
    ·cases sEq s j19<;>rfl
    ·rfl
   rw [e0,e1,js5 s _ hC,jeg]
  ·have nt:∀ {x:Int} {xs:List Int},Z19 s=x::xs->x≠116->sEq s j1r=false:=λ{x xs} h hx=>by
    cases hq:sEq s j1r with
    | false=>rfl
    | true=>
     rw [(j0t _ _).1 hq] at h
     exact absurd (List.cons.inj h).1.symm hx
   have nf:∀ {x:Int} {xs:List Int},Z19 s=x::xs->x≠102->sEq s j19=false:=λ{x xs} h hx=>by
    cases hq:sEq s j19 with
    | false=>rfl
    | true=>
     rw [(j0t _ _).1 hq] at h
     exact absurd (List.cons.inj h).1.symm hx
   rcases jdd hv with ⟨rfl,e⟩ | ⟨rfl,e⟩ | ⟨rfl,e⟩ | ⟨n,rfl,hn,e⟩ | ⟨t,rfl,ht,e⟩
   ·have hs:s=j6q:=by rw [<-he,e]
    have h1:Z19 s=[110,117,108,108]:=by rw [hs];rfl
    rw [nt h1 (by omega),nf h1 (by omega),cond_false,cond_false,j7x λn hn hh=> ?_]
    ·rfl
    ·obtain ⟨x,xs,g1,g2⟩:=j7v hn
     rw [hh,h1] at g1
     have:=(List.cons.inj g1).1
     omega
   ·have hs:s=j1r:=by rw [<-he,e]
    rw [hs,Z8L,cond_true]
    rfl
   ·have hs:s=j19:=by rw [<-he,e]
    rw [hs,j02 (show Z19 j19≠Z19 j1r by decide),cond_false,Z8L,cond_true]
    rfl
   ·have hs:s=j06 n:=by rw [<-he,e]
    obtain ⟨x,xs,g1,g2⟩:=j7v hn
    have h1:Z19 s=x::xs:=by rw [hs,g1]
    rw [nt h1 (by omega),nf h1 (by omega),cond_false,cond_false,hs,jdI hn]
    rfl
   ·rw [he] at e
    have hb:=jcs e
    have h1:=jqY (Z19 t)
    rw [j0f] at h1
    have h2:=congrArg List.length e
    simp only [List.length_cons,List.length_append,List.length_nil] at h2
    exact absurd ⟨by omega,hb,by omega⟩ hC
  ·subst he
   rw [j02 (show Z19 eS≠Z19 j1r by decide),j02 (show Z19 eS≠Z19 j19 by decide),cond_false,cond_false,j7x λn hn hh=> ?_]
   ·rfl
   ·obtain ⟨x,xs,g1,g2⟩:=j7v hn
    rw [hh] at g1
    cases g1
theorem jgP {v w:V} (hv:j0u v=true) (hw:j0u w=true) (h:j07 v=j07 w):v=w:=by
 have hsz:(j07 w).size<=LIM:=by have:=jbm w;unfold LIM;omega
 obtain ⟨raw,_,r2,_⟩:=jmY (j07 w) hsz
 rw [<-r2 v hv h,<-r2 w hw rfl]
theorem jgi {v:V} (h:j0u v=true):jcj (j07 v)=(v,true):=jsh h rfl λw hw he=>jgP hw h he
theorem joM (s:ByteArray) (hmax:s.size<=LIM) (k:V->Bool->Res):j47 s k=k (jcj s).1 (jcj s).2:=by
 obtain ⟨raw,r1,r2,r3⟩:=jmY s hmax
 rw [r1]
 by_cases h:∃ v,j0u v=true/\j07 v=s
 ·obtain ⟨v,hv,he⟩:=h
  rw [r2 v hv he,<-he,Z8M,cond_false,jgi hv]
 ·rw [joN λv hv he=>h ⟨v,hv,he⟩]
  cases hne:sNe (j07 raw) s
  ·have he:=(jdH _ _).1 hne
   cases hb:j0u raw
   ·have h0:=r3 (by rw [<-he,jqC hb])
    rw [h0] at hb
    exact absurd jfg (by rw [hb];simp)
   ·exact absurd ⟨raw,hb,he⟩ h
  ·rfl
theorem jrR (s:ByteArray) (hmax:s.size<=LIM):∃ b,(∀ K:Bool->Res,j38 s K=K b)/\(b=true->2<=s.size/\bt s 0=39)/\∀ t,Z19 s=39::(t++[39])->b=true:=by
 unfold LIM at hmax
 have hl:=j0f s
 by_cases h1:1<s.size
 ·have e0:∀ K:Bool->Res,j38 s K=bif bt s 0==39 then (bif inb (Z8g (nI s.size-1)) s.size then K (bt s (Z8g (nI s.size-1))==39) else none) else K false:=λK=>by
   unfold j38
   rw [decide_eq_true (show nI s.size>1 by unfold nI;omega),cond_true,Z9c (by omega) (by omega),cond_true]
  cases h2:bt s 0==39
  ·refine ⟨false,λK=>by rw [e0,h2,cond_false],λh=>(by cases h),λt h=> ?_⟩
   have:=jcs h
   rw [this] at h2;cases h2
  ·have e1:Z8g (nI s.size-1)=((s.size-1:Nat):Int):=by rw [j05 (by unfold nI;omega)];unfold nI;omega
   refine ⟨bt s (Z8g (nI s.size-1))==39,λK=> ?_,λ_=>⟨by omega,by simpa using h2⟩,λt h=> ?_⟩
   ·rw [e0,h2,cond_true,e1,Z9c (by omega) (by omega),cond_true]
   ·rw [e1,j1V s (s.size-1) (by omega)]
    have h3:=congrArg List.length h
    simp only [List.length_cons,List.length_append,List.length_nil] at h3
    have e2:(Z19 s)[s.size-1]'(by omega)=39:=by
     simp only [h]
     rw [List.getElem_cons,dif_neg (by omega),List.getElem_append_right (by omega)]
     simp
    rw [e2];rfl
 ·refine ⟨false,λK=> ?_,λh=>(by cases h),λt h=> ?_⟩
  ·unfold j38
   rw [decide_eq_false (show ¬ nI s.size>1 by unfold nI;omega),cond_false]
  ·have h3:=congrArg List.length h
   simp only [List.length_cons,List.length_append,List.length_nil] at h3
   omega
theorem j9S (s:ByteArray) (i j:Nat):Z19 (Z9k s (i:Int) (j:Int))=((Z19 s).take j).drop i:=by
 unfold Z9k
 rw [show ((i:Int)).toNat=i by omega,show ((j:Int)).toNat=j by omega,jfe]
theorem jrS (t:ByteArray) (hmax:t.size<=1000000000):∃ r:Option (List Int),(∀ k,j8v t k=opR r (λout=>k (Z2X out) true) (k eS false))/\∀ ys,isB ys->Z19 t=esc ys->r=some ys:=by
 obtain ⟨r,r1,r2⟩:=jti t hmax t.size 0 Z0Y [] (by omega) (by omega) (Z1O (by omega)) (by simp)
 refine ⟨r,λk=> ?_,λys hB h=>by have:=r2 ys hB (by rw [List.drop_zero,h]);simpa using this⟩
 unfold j8v
 exact r1 _
theorem jrm (s:ByteArray) (hmax:s.size<=1000000000):∃ raw:Option V,(∀ k,j37 s k=opR raw (λv=>bif sEq s eS then k zV false else bif sNe (j07 v) s then k zV false else k v true) (k zV false))/\∀ v,j0u v=true->j07 v=s->raw=some v:=by
 have hl:=j0f s
 have hm2:s.size<=LIM:=by unfold LIM;omega
 have hu:∀ k,j37 s k=j2i s zV (λv=>bif sEq s eS then k zV false else bif sNe (j07 v) s then k zV false else k v true) (λ_=>k zV false):=λk=>by
  unfold j37
  congr 1
  funext v
  rw [jgv]
 have nn:∀ {x:Int} {xs:List Int},Z19 s=x::xs->x≠110->sEq s j6q=false:=λ{x xs} h hx=>by
  cases hq:sEq s j6q with
  | false=>rfl
  | true=>
   rw [(j0t _ _).1 hq] at h
   exact absurd (List.cons.inj h).1.symm hx
 have nt:∀ {x:Int} {xs:List Int},Z19 s=x::xs->x≠116->sEq s j1r=false:=λ{x xs} h hx=>by
  cases hq:sEq s j1r with
  | false=>rfl
  | true=>
   rw [(j0t _ _).1 hq] at h
   exact absurd (List.cons.inj h).1.symm hx
 have nf:∀ {x:Int} {xs:List Int},Z19 s=x::xs->x≠102->sEq s j19=false:=λ{x xs} h hx=>by
  cases hq:sEq s j19 with
  | false=>rfl
  | true=>
   rw [(j0t _ _).1 hq] at h
   exact absurd (List.cons.inj h).1.symm hx
 have p0:∀ K:Bool->Res,j62 s K=K (sEq s j1r||sEq s j19):=λK=>by
  unfold j62
  cases sEq s j1r<;>rfl
 by_cases c0:s=j6q
 ·refine ⟨some zV,λk=> ?_,λv hv he=> ?_⟩
  ·rw [hu]
   unfold j2i
   rw [c0,Z8L,cond_true]
   rfl
  ·rw [jgP hv jfg (by rw [he,c0,joP])]
 by_cases c1:s=j1r
 ·refine ⟨some (1,1,eS),λk=> ?_,λv hv he=> ?_⟩
  ·rw [hu]
   unfold j2i
   rw [p0,c1,Z8L,j02 (show Z19 j1r≠Z19 j6q by decide)]
   rfl
  ·have hb:j0u (1,1,eS)=true:=by unfold j0u;rw [Z8L];rfl
   have ht:j07 (1,1,eS)=j1r:=by unfold j07;rw [hb];rfl
   rw [jgP hv hb (by rw [he,c1,ht])]
 by_cases c2:s=j19
 ·refine ⟨some (1,0,eS),λk=> ?_,λv hv he=> ?_⟩
  ·rw [hu]
   unfold j2i
   rw [p0,c2,Z8L,j02 (show Z19 j19≠Z19 j6q by decide),j02 (show Z19 j19≠Z19 j1r by decide)]
   rfl
  ·have hb:j0u (1,0,eS)=true:=by unfold j0u;rw [Z8L];rfl
   have ht:j07 (1,0,eS)=j19:=by unfold j07;rw [hb];rfl
   rw [jgP hv hb (by rw [he,c2,ht])]
 have f0:sEq s j6q=false:=by cases h:sEq s j6q with
  | false=>rfl
  | true=>exact absurd ((j0t _ _).1 h) c0
 have f1:sEq s j1r=false:=by cases h:sEq s j1r with
  | false=>rfl
  | true=>exact absurd ((j0t _ _).1 h) c1
 have f2:sEq s j19=false:=by cases h:sEq s j19 with
  | false=>rfl
  | true=>exact absurd ((j0t _ _).1 h) c2
 obtain ⟨b,p1,b2,b3⟩:=jrR s hm2
 have hu2:∀ k,j37 s k=bif b then (bif Z6R 1 (Z8g (nI s.size-1)) s.size then j8v (Z9k s 1 (Z8g (nI s.size-1))) (λr r1=>bif !r1 then k zV false else (bif sEq s eS then k zV false else bif sNe (j07 (3,0,r)) s then k zV false else k (3,0,r) true)) else none)
   else (bif sEq s eS then k zV false else bif sNe (j07 (2,(j0S s).1,eS)) s then k zV false else k (2,(j0S s).1,eS) true):=λk=>by
  rw [hu]
  unfold j2i
  rw [f0,cond_false,p0,f1,f2]
  dsimp only [Bool.or]
  rw [cond_false,p1,jhY s hm2]
 cases hb:b
 ·refine ⟨some (2,(j0S s).1,eS),λk=>by rw [hu2,hb];rfl,λv hv he=> ?_⟩
  rcases jdd hv with ⟨rfl,e⟩ | ⟨rfl,e⟩ | ⟨rfl,e⟩ | ⟨n,rfl,hn,e⟩ | ⟨t,rfl,ht,e⟩
  ·exact absurd (he.symm.trans e) c0
  ·exact absurd (he.symm.trans e) c1
  ·exact absurd (he.symm.trans e) c2
  ·have hs:s=j06 n:=by rw [<-he,e]
   rw [hs,jdI hn]
  ·rw [he] at e
   have:=b3 _ e
   rw [hb] at this
   cases this
 ·obtain ⟨h2,h39⟩:=b2 hb
  have e1:Z8g (nI s.size-1)=((s.size-1:Nat):Int):=by rw [j05 (by unfold nI;omega)];unfold nI;omega
  have hcb:=j9S s 1 (s.size-1)
  rw [show ((1:Nat):Int)=1 from rfl] at hcb
  have hcs:(Z9k s 1 ((s.size-1:Nat):Int)).size<=1000000000:=by
   rw [<-j0f,hcb,List.length_drop,List.length_take]
   omega
  obtain ⟨r,r1,r2⟩:=jrS _ hcs
  refine ⟨r.map λout=>(3,0,Z2X out),λk=> ?_,λv hv he=> ?_⟩
  ·rw [hu2,hb,cond_true,e1,show Z6R 1 ((s.size-1:Nat):Int) s.size=true from decide_eq_true (by omega),cond_true,r1]
   cases r<;>rfl
  ·obtain ⟨x,xs,q1,q2⟩:=jgO hv
   rw [he] at q1
   have hx:=jcs q1
   obtain ⟨t,rfl,ht,e⟩:=q2 (by rw [<-hx];exact h39)
   rw [he] at e
   have h3:=congrArg List.length e
   simp only [List.length_cons,List.length_append,List.length_nil] at h3
   have h4:s.size-1=(esc (Z19 t)).length+1:=by rw [hl] at h3;rw [h3];rfl
   have:=r2 (Z19 t) (j8B t) (by
    rw [hcb,e,h4,List.take_succ_cons,List.take_left,List.drop_one,List.tail_cons])
   rw [this]
   show some (3,0,Z2X (Z19 t))=_
   rw [j4e]
theorem joE (s:ByteArray) (hmax:s.size<=1000000000) (k:V->Bool->Res):j37 s k=k (jcj s).1 (jcj s).2:=by
 obtain ⟨raw,r1,r2⟩:=jrm s hmax
 rw [r1]
 by_cases h:∃ v,j0u v=true/\j07 v=s
 ·obtain ⟨v,hv,he⟩:=h
  rw [r2 v hv he,<-he,jgi hv]
  have hne:sEq (j07 v) eS=false:=by cases hq:sEq (j07 v) eS with
   | false=>rfl
   | true=>exact absurd ((j0t _ _).1 hq) (jt2 hv)
  show (bif sEq (j07 v) eS then _ else bif sNe (j07 v) (j07 v) then _ else _)=_
  rw [hne,cond_false,Z8M,cond_false]
 ·rw [joN λv hv he=>h ⟨v,hv,he⟩]
  cases raw with
  | none=>rfl
  | some v=>
   show (bif sEq s eS then k zV false else bif sNe (j07 v) s then k zV false else k v true)=_
   cases hs:sEq s eS
   ·rw [cond_false]
    cases hne:sNe (j07 v) s
    ·have he:=(jdH _ _).1 hne
     cases hb:j0u v
     ·rw [jqC hb] at he
      rw [<-he,Z8L] at hs
      cases hs
     ·exact absurd ⟨v,hb,he⟩ h
    ·rfl
   ·rfl
end Go.PI.G
