/-
  Program's code interpreted over typed values; printed texts; plain laws. No conditions.
-/
import Derived.Test.YtppeoiidhmegkaaGreatAb
import Derived.Test.YtppeoiidhmegkaaGreatAd
import Derived.Test.YtppeoiidhmegkaaGreatAa
set_option linter.unusedVariables false
set_option linter.unusedSimpArgs false
namespace Go.PI.G
open Go Go.PI Go.Proofs
def j2G (l:List Int):Int:=l.foldl (λn x=>n * 256+x) 0
def seg (b:List Int) (at_ size:Nat):List Int:=(b.drop at_).take size
def tk (b:List Int) (at_ size:Nat):Int:=if at_+size<=b.length then j2G (seg b at_ size) else 0
theorem pw (i:Nat) (h:i<=5):(256:Int) ^ i<=1099511627776:=by
 have:i=0\/i=1\/i=2\/i=3\/i=4\/i=5:=by omega
 rcases this with rfl | rfl | rfl | rfl | rfl | rfl<;>decide
theorem j5P {b:List Int} {at_ size:Nat} (h:at_+size<=b.length):(seg b at_ size).length=size:=by
 unfold seg;rw [List.length_take,List.length_drop];omega
theorem jh3 {b:List Int} {at_ size:Nat} (h:at_+size<=b.length) (i:Nat) (hi:i<(seg b at_ size).length):(seg b at_ size)[i]=b[at_+i]'(by rw [j5P h] at hi;omega):=by
 simp only [seg,List.getElem_take,List.getElem_drop]
theorem j4W {b:List Int} (hb:isB b) (at_ size:Nat):isB (seg b at_ size):=λx hx=>hb x (List.mem_of_mem_drop (List.mem_of_mem_take hx))
theorem ja7 (b:List Int) (at_ size:Nat):sub b (at_:Int) ((at_:Int)+(size:Int))=seg b at_ size:=by
 unfold sub seg
 rw [show ((at_:Int)+(size:Int)).toNat=at_+size by omega,show ((at_:Int)).toNat=at_ by omega,List.drop_take]
 congr 1
 omega
theorem jgZ (n x:Int) (hn:0<=n/\n<1099511627776) (hx:0<=x/\x<256):orI .i64 (Z9u .i64 n 8) (Z8o x)=n * 256+x:=by
 have h1:Z9u .i64 n 8=n * 256:=by
  unfold Z9u
  show Z8o (n * 2 ^ min (8:Int).toNat 64)=_
  rw [show ((2:Int) ^ min (8:Int).toNat 64)=256 by decide]
  exact j03 (by omega)
 rw [h1,j03 (n:=x) (by omega)]
 unfold orI
 show Z8o (((BitVec.ofInt 64 (n * 256) ||| BitVec.ofInt 64 x).toNat:Nat):Int)=_
 obtain ⟨a,rfl⟩:∃ a:Nat,n=(a:Int):=⟨n.toNat,by omega⟩
 obtain ⟨c,rfl⟩:∃ c:Nat,x=(c:Int):=⟨x.toNat,by omega⟩
 have e1:BitVec.ofInt 64 ((a:Int) * 256)=BitVec.ofNat 64 (a * 256):=by
  rw [show (a:Int) * 256=((a * 256:Nat):Int) by omega,BitVec.ofInt_natCast]
 rw [e1,BitVec.ofInt_natCast,BitVec.toNat_or,BitVec.toNat_ofNat,BitVec.toNat_ofNat,Nat.mod_eq_of_lt (by omega),Nat.mod_eq_of_lt (by omega)]
 have:=Nat.two_pow_add_eq_or_of_lt (i:=8) (b:=c) (by omega) a
 rw [show a * 256=2 ^ 8 * a by omega,<-this]
 rw [j03 (by omega)]
 omega
theorem jfJ (b:List Int) (hb:isB b) (hl:b.length<=1048576) (at_ size:Nat) (ha:at_<=1000000000000) (hs:1<=size/\size<=6) (k:Int->Bool->Res):j6j b (at_:Int) (size:Int) k=k (tk b at_ size) (decide (at_+size<=b.length)):=by
 unfold j6j j5T tk
 rw [decide_eq_false (show ¬ (size:Int)<1 by omega),cond_false,decide_eq_false (show ¬ (size:Int)>6 by omega),cond_false,decide_eq_false (show ¬ (at_:Int)<0 by omega),cond_false,j03 (by unfold nI;omega)]
 by_cases h:at_+size<=b.length
 ·rw [decide_eq_false (show ¬ (at_:Int)>nI b.length-(size:Int) by unfold nI;omega)]
  dsimp only
  rw [cond_false,if_pos h,decide_eq_true h]
  unfold j5S
  have hsl:=j5P h
  have:=Z73 (seg b at_ size) (λi a=>(a,i)) (λn x=>n * 256+x) (λi a=>0<=a/\a<256 ^ i) (step:=j6G b (at_:Int) (size:Int)) (λn=>k n true) (λn=>k n true) 0 (by unfold LIM;omega) ⟨by omega,by decide⟩ (λi a hi hp=>by
   have:=j4W hb at_ size _ (List.getElem_mem hi)
   rw [Int.pow_succ]
   omega) (λi a rec hi hp=>by
   have hx:=j4W hb at_ size _ (List.getElem_mem hi)
   have hi':i<size:=by omega
   have:=pw i (by omega)
   show j31 b _ _ _ _ _ _=_
   unfold j31
   dsimp only
   rw [decide_eq_true (show (i:Int)<(size:Int) by omega),cond_true,j03 (n:=(at_:Int)+(i:Int)) (by omega),show (at_:Int)+(i:Int)=((at_+i:Nat):Int) by omega,j08 (by omega),cond_true,Z9a _ _ _ (by omega),<-jh3 h i hi,j03 (n:=a * 256) (by omega),j03 (n:=(seg b at_ size)[i]) (by omega),j03 (by omega),j03 (n:=(i:Int)+1) (by omega)]) (λa rec _=>by
   show j31 b _ _ _ _ _ _=_
   unfold j31
   dsimp only
   rw [hsl,decide_eq_false (by omega),cond_false])
  exact this
 ·rw [decide_eq_true (show (at_:Int)>nI b.length-(size:Int) by unfold nI;omega)]
  dsimp only
  rw [cond_true,if_neg h,decide_eq_false h]
theorem jfy (b:List Int) (hb:isB b) (hl:b.length<=1048576) (at_ size:Nat) (ha:at_<=1000000000000) (hs:1<=size/\size<=6) (k:Int->Bool->Res):j6e b (at_:Int) (size:Int) k=k (tk b at_ size) (decide (at_+size<=b.length)):=by
 unfold j6e tk
 rw [j3U,j3U,decide_eq_true (show (1:Int)<=(size:Int)/\(size:Int)<=6 by omega),Bool.not_true,cond_false]
 by_cases h0:at_<=b.length
 ·rw [decide_eq_true (show (0:Int)<=(at_:Int)/\(at_:Int)<=nI b.length by unfold nI;omega),Bool.not_true,cond_false,j03 (n:=nI b.length-(at_:Int)) (by unfold nI;omega)]
  by_cases h:at_+size<=b.length
  ·rw [decide_eq_false (show ¬ nI b.length-(at_:Int)<(size:Int) by unfold nI;omega),cond_false,if_pos h,decide_eq_true h,j03 (n:=(at_:Int)+(size:Int)) (by omega)]
   have hc:Z6Z (at_:Int) ((at_:Int)+(size:Int)) b.length=true:=decide_eq_true (by omega)
   rw [hc,cond_true,ja7]
   unfold j5F
   have hsl:=j5P h
   have:=Z73 (seg b at_ size) (λi a=>(a,i)) (λn x=>n * 256+x) (λi a=>0<=a/\a<256 ^ i) (step:=j6s (seg b at_ size) (nI (seg b at_ size).length)) (λn=>k n true) (λn=>k n true) 0 (by unfold LIM;omega) ⟨by omega,by decide⟩ (λi a hi hp=>by
    have:=j4W hb at_ size _ (List.getElem_mem hi)
    rw [Int.pow_succ]
    omega) (λi a rec hi hp=>by
    have hx:=j4W hb at_ size _ (List.getElem_mem hi)
    have:=pw i (by omega)
    show j2R _ _ _ _ _ _=_
    unfold j2R
    dsimp only
    rw [Z9q hi,cond_true,j08 hi,cond_true,Z9a _ _ _ hi,jgZ _ _ (by omega) hx,j03 (n:=(i:Int)+1) (by omega)]) (λa rec _=>by
    show j2R _ _ _ _ _ _=_
    unfold j2R
    dsimp only
    rw [Z9p,cond_false])
   exact this
  ·rw [decide_eq_true (show nI b.length-(at_:Int)<(size:Int) by unfold nI;omega),cond_true,if_neg h,decide_eq_false h]
 ·rw [decide_eq_false (show ¬ ((0:Int)<=(at_:Int)/\(at_:Int)<=nI b.length) by unfold nI;omega),Bool.not_false,cond_true,if_neg (by omega),decide_eq_false (by omega)]
end Go.PI.G
namespace Go.PI.G
open Go Go.PI Go.Proofs
theorem jbe {b:List Int} {at_:Nat} {x post:List Int} (h1:1<=x.length) (h:b.drop at_=x++post):at_+x.length<=b.length/\tk b at_ x.length=j2G x/\b.drop (at_+x.length)=post:=by
 have hl:=congrArg List.length h
 rw [List.length_drop,List.length_append] at hl
 have hle:at_+x.length<=b.length:=by omega
 refine ⟨hle,?_,?_⟩
 ·unfold tk seg
  rw [if_pos hle,h,List.take_left]
 ·rw [<-List.drop_drop,h,List.drop_left]
theorem j6m {b:List Int} {at_:Nat} {x:Int} {post:List Int} (h:b.drop at_=x::post):at_+1<=b.length/\tk b at_ 1=x/\b.drop (at_+1)=post:=by
 have:=jbe (x:=[x]) (by simp) h
 have e:j2G [x]=x:=by simp [j2G]
 rw [e] at this
 exact this
theorem jao {b:List Int} (hb:isB b) (at_:Nat):0<=tk b at_ 1/\tk b at_ 1<256:=by
 unfold tk
 by_cases h:at_+1<=b.length
 ·rw [if_pos h]
  have hl:=j5P h
  obtain ⟨x,hx⟩:=List.length_eq_one_iff.1 hl
  have:=j4W hb at_ 1 x (by rw [hx];simp)
  rw [hx]
  simp only [j2G,List.foldl_cons,List.foldl_nil]
  omega
 ·rw [if_neg h];omega
theorem je1 {b:List Int} (hb:isB b) (at_:Nat):0<=tk b at_ 6/\tk b at_ 6<281474976710656:=by
 unfold tk
 by_cases h:at_+6<=b.length
 ·rw [if_pos h]
  have hl:=j5P h
  have hB:=j4W hb at_ 6
  match seg b at_ 6,hl,hB with
  | [x0,x1,x2,x3,x4,x5],_,hB=>
   have h0:=hB x0 (by simp)
   have h1:=hB x1 (by simp)
   have h2:=hB x2 (by simp)
   have h3:=hB x3 (by simp)
   have h4:=hB x4 (by simp)
   have h5:=hB x5 (by simp)
   simp only [j2G,List.foldl_cons,List.foldl_nil]
   omega
 ·rw [if_neg h];omega
theorem jg5 (n:Nat) (h:n<=1099511627775):j2G (be n 6)=(n:Int):=by
 simp only [j2G,be,List.foldl_cons,List.foldl_nil]
 rw [show (256:Nat) ^ 5=1099511627776 by decide,show (256:Nat) ^ 4=4294967296 by decide,show (256:Nat) ^ 3=16777216 by decide,show (256:Nat) ^ 2=65536 by decide,show (256:Nat) ^ 1=256 by decide,show (256:Nat) ^ 0=1 by decide]
 omega
theorem jfG (b:List Int) (hb:isB b) (hl:b.length<=1048576) (at_ size:Nat) (ha:at_<=1000000000000) (hs:1<=size/\size<=6) (k:Int->(List Int×Int)->Res):j01 (size:Int) (b,(at_:Int)) k=k (tk b at_ size) (b,((at_+size:Nat):Int)):=by
 unfold j01
 dsimp only
 rw [jfJ b hb hl at_ size ha hs,j03 (by omega)]
 rfl
theorem j9d (b:List Int) (hb:isB b) (hl:b.length<=1048576) (at_:Nat) (ha:at_<=1000000000000) (k:Int->(List Int×Int)->Res):j01 1 (b,(at_:Int)) k=k (tk b at_ 1) (b,((at_+1:Nat):Int)):=jfG b hb hl at_ 1 ha (by omega) k
theorem jhc (b:List Int) (hb:isB b) (hl:b.length<=1048576) (at_:Nat) (ha:at_<=1000000000000) (k:Int->(List Int×Int)->Res):j01 6 (b,(at_:Int)) k=k (tk b at_ 6) (b,((at_+6:Nat):Int)):=jfG b hb hl at_ 6 ha (by omega) k
def jah (b:List Int) (at_ size:Nat) (bad:Bool) (k:Int->(List Int×Int×Bool)->Res):Res:=bif bad then k 0 (b,(at_:Int),true) else bif decide (at_+size<=b.length) then k (tk b at_ size) (b,((at_+size:Nat):Int),false) else k 0 (b,(at_:Int),true)
theorem jfv (b:List Int) (hb:isB b) (hl:b.length<=1048576) (at_ size:Nat) (ha:at_<=1000000000000) (hs:1<=size/\size<=6) (bad:Bool) (k:Int->(List Int×Int×Bool)->Res):j06 (size:Int) (b,(at_:Int),bad) k=jah b at_ size bad k:=by
 unfold j06 jah
 dsimp only
 rw [jfy b hb hl at_ size ha hs]
 cases bad
 ·rw [cond_false,cond_false]
  cases decide (at_+size<=b.length)
  ·rfl
  ·rw [Bool.not_true,cond_false,cond_true,j03 (by omega)]
   rfl
 ·rfl
theorem jfk {w:V} (h:j0j w=true):wB w=w.1::(wB w).tail:=by
 rcases j0B h with rfl | ⟨n,_,rfl⟩ | ⟨n,_,rfl⟩ | ⟨s,_,rfl⟩<;>rfl
theorem jgO (b:List Int) (hb:isB b) (hl:b.length<=1048576) (at_ m:Nat) (ha:at_<=1000000000000) (hm:m<70000):∃ (s:ByteArray) (at':Nat),at'<=at_+1050000/\(∀ k,j02 (m:Int) (b,(at_:Int)) k=k s (b,(at':Int)))/\∀ (x:List Int) post,x.length=m->at_<=b.length->b.drop at_=x++post->s=Z34 x/\b.drop at'=post:=by
 by_cases h:at_+m<=b.length
 ·refine ⟨Z34 (seg b at_ m),at_+m,by omega,λk=> ?_,λx post hx _ hd=> ?_⟩
  ·unfold j02 j3T
   dsimp only
   rw [j03 (n:=nI b.length-(at_:Int)) (by unfold nI;omega),decide_eq_false (show ¬ (m:Int)>nI b.length-(at_:Int) by unfold nI;omega),cond_false,decide_eq_false (show ¬ (at_:Int)>nI b.length by unfold nI;omega),cond_false,j03 (n:=(at_:Int)+(m:Int)) (by omega),show (at_:Int)+(m:Int)-(m:Int)=(at_:Int) by omega,j03 (n:=(at_:Int)) (by omega)]
   have hc:Z6Z (at_:Int) ((at_:Int)+(m:Int)) b.length=true:=decide_eq_true (by omega)
   rw [hc,cond_true,ja7]
   rfl
  ·subst hx
   unfold seg
   rw [hd,List.take_left,<-List.drop_drop,hd,List.drop_left]
   exact ⟨rfl,rfl⟩
 ·refine ⟨eS,b.length+1,by omega,λk=> ?_,λx post hx hle hd=> ?_⟩
  ·unfold j02 j3T
   dsimp only
   rw [j03 (n:=nI b.length-(at_:Int)) (by unfold nI;omega),decide_eq_true (show (m:Int)>nI b.length-(at_:Int) by unfold nI;omega),cond_true,cond_true,j03 (by unfold nI;omega)]
   rfl
  ·have hl:=congrArg List.length hd
   rw [List.length_drop,List.length_append] at hl
   omega
theorem jho (b:List Int) (hb:isB b) (hl:b.length<=1048576) (at_:Nat) (ha:at_<=900000000000):∃ (v:V) (at':Nat),at'<=at_+1050010/\(∀ k,j1k (b,(at_:Int)) k=k v (b,(at':Int)))/\∀ w post,j0j w=true->b.drop at_=wB w++post->v=w/\b.drop at'=post:=by
 have hd1:∀ w post,j0j w=true->b.drop at_=wB w++post->tk b at_ 1=w.1/\b.drop (at_+1)=(wB w).tail++post:=λw post hw h=>by
  rw [jfk hw,List.cons_append] at h
  exact ⟨(j6m h).2.1,(j6m h).2.2⟩
 have hu:∀ k,j1k (b,(at_:Int)) k=j0R (tk b at_ 1) (tk b at_ 1,0,eS) (b,((at_+1:Nat):Int)) k:=λk=>by
  unfold j1k
  rw [j9d b hb hl at_ (by omega)]
 by_cases t1:tk b at_ 1=1
 ·refine ⟨(1,tk b (at_+1) 1,eS),at_+1+1,by omega,λk=> ?_,λw post hw h=> ?_⟩
  ·rw [hu,t1]
   unfold j0R
   rw [show ((1:Int)==1)=true from rfl,cond_true,j9d b hb hl _ (by omega)]
  ·obtain ⟨e1,e2⟩:=hd1 w post hw h
   rcases j0B hw with rfl | ⟨n,hn,rfl⟩ | ⟨n,hn,rfl⟩ | ⟨s,hs,rfl⟩
   ·simp only at e1;omega
   ·obtain ⟨_,f1,f2⟩:=j6m (x:=n) (post:=post) e2
    exact ⟨by rw [f1],f2⟩
   ·simp only at e1;omega
   ·simp only at e1;omega
 by_cases t2:tk b at_ 1=2
 ·have r6:=je1 hb (at_+1+1)
  refine ⟨(2,if tk b (at_+1) 1=1 then 0-tk b (at_+1+1) 6 else tk b (at_+1+1) 6,eS),at_+1+1+6,by omega,λk=> ?_,λw post hw h=> ?_⟩
  ·rw [hu,t2]
   unfold j0R
   rw [show ((2:Int)==1)=false from rfl,cond_false,show ((2:Int)==2)=true from rfl,cond_true,j9d b hb hl _ (by omega),jhc b hb hl _ (by omega),j03 (by omega)]
   by_cases h1:tk b (at_+1) 1=1
   ·rw [if_pos h1,h1];rfl
   ·rw [if_neg h1,show (tk b (at_+1) 1==1)=false by simp [h1]];rfl
  ·obtain ⟨e1,e2⟩:=hd1 w post hw h
   rcases j0B hw with rfl | ⟨n,hn,rfl⟩ | ⟨n,hn,rfl⟩ | ⟨s,hs,rfl⟩
   ·simp only at e1;omega
   ·simp only at e1;omega
   ·obtain ⟨_,f1,f2⟩:=j6m (x:=bif decide (n<0) then 1 else 0) (post:=be n.natAbs 6++post) e2
    have h6:=jbe (x:=be n.natAbs 6) (post:=post) (by rw [j1l];omega) f2
    rw [j1l,jg5 _ (by omega)] at h6
    refine ⟨?_,h6.2.2⟩
    rw [f1,h6.2.1]
    by_cases h0:n<0
    ·rw [decide_eq_true h0,cond_true,if_pos rfl,show (0:Int)-(n.natAbs:Int)=n by omega]
    ·rw [decide_eq_false h0,cond_false,if_neg (by omega),show ((n.natAbs:Nat):Int)=n by omega]
   ·simp only at e1;omega
 by_cases t3:tk b at_ 1=3
 ·have r1:=jao hb (at_+1)
  obtain ⟨m,hm⟩:∃ m:Nat,tk b (at_+1) 1=(m:Int):=⟨(tk b (at_+1) 1).toNat,by omega⟩
  obtain ⟨s,at',q1,q2,q3⟩:=jgO b hb hl (at_+1+1) m (by omega) (by omega)
  refine ⟨(3,0,s),at',by omega,λk=> ?_,λw post hw h=> ?_⟩
  ·rw [hu,t3]
   unfold j0R
   rw [show ((3:Int)==1)=false from rfl,cond_false,show ((3:Int)==2)=false from rfl,cond_false,show ((3:Int)==3)=true from rfl,cond_true,j9d b hb hl _ (by omega),hm,q2]
  ·obtain ⟨e1,e2⟩:=hd1 w post hw h
   rcases j0B hw with rfl | ⟨n,hn,rfl⟩ | ⟨n,hn,rfl⟩ | ⟨x,hx,rfl⟩
   ·simp only at e1;omega
   ·simp only at e1;omega
   ·simp only at e1;omega
   ·obtain ⟨f0,f1,f2⟩:=j6m (x:=nI x.size) (post:=Z1e x++post) e2
    have:=q3 (Z1e x) post (by rw [j0x];unfold nI at f1;omega) (by omega) f2
    rw [j7b] at this
    exact ⟨by rw [this.1],this.2⟩
 ·refine ⟨(tk b at_ 1,0,eS),at_+1,by omega,λk=> ?_,λw post hw h=> ?_⟩
  ·rw [hu]
   unfold j0R
   rw [show (tk b at_ 1==1)=false by simp [t1],cond_false,show (tk b at_ 1==2)=false by simp [t2],cond_false,show (tk b at_ 1==3)=false by simp [t3],cond_false]
  ·obtain ⟨e1,e2⟩:=hd1 w post hw h
   rcases j0B hw with rfl | ⟨n,hn,rfl⟩ | ⟨n,hn,rfl⟩ | ⟨x,hx,rfl⟩
   ·exact ⟨by rw [e1],e2⟩
   ·simp only at e1;omega
   ·simp only at e1;omega
   ·simp only at e1;omega
end Go.PI.G
namespace Go.PI.G
open Go Go.PI Go.Proofs
theorem iN (b:List Int) (hb:isB b) (hl:b.length<=1048576) (at_ size:Nat) (ha:at_<=1000000000000) (hs:size=1\/size=6) (bad:Bool):∃ (n:Int) (at':Nat) (bad':Bool),at'<=at_+6/\0<=n/\n<281474976710656/\(size=1->n<256)/\(∀ k,j06 (size:Int) (b,(at_:Int),bad) k=k n (b,(at':Int),bad'))/\(bad=false->∀ x post,x.length=size->b.drop at_=x++post->n=j2G x/\bad'=false/\b.drop at'=post/\at'<=b.length):=by
 have hs':1<=size/\size<=6:=by omega
 cases bad
 ·by_cases h:at_+size<=b.length
  ·have hr:0<=tk b at_ size/\tk b at_ size<281474976710656/\(size=1->tk b at_ size<256):=by
    rcases hs with rfl | rfl
    ·have:=jao hb at_
     exact ⟨this.1,by omega,λ_=>this.2⟩
    ·have:=je1 hb at_
     exact ⟨this.1,this.2,λh=>by omega⟩
   refine ⟨tk b at_ size,at_+size,false,by omega,hr.1,hr.2.1,hr.2.2,λk=> ?_,λ_ x post hx hd=> ?_⟩
   ·rw [jfv b hb hl at_ size ha hs']
    unfold jah
    rw [cond_false,decide_eq_true h,cond_true]
   ·subst hx
    have:=jbe hs'.1 hd
    exact ⟨this.2.1,rfl,this.2.2,this.1⟩
  ·refine ⟨0,at_,true,by omega,by omega,by omega,λ_=>by omega,λk=> ?_,λ_ x post hx hd=> ?_⟩
   ·rw [jfv b hb hl at_ size ha hs']
    unfold jah
    rw [cond_false,decide_eq_false h,cond_false]
   ·subst hx
    exact absurd (jbe hs'.1 hd).1 h
 ·refine ⟨0,at_,true,by omega,by omega,by omega,λ_=>by omega,λk=> ?_,λh=>by cases h⟩
  rw [jfv b hb hl at_ size ha hs']
  rfl
theorem jgL (b:List Int) (hb:isB b) (hl:b.length<=1048576) (at_:Nat) (ha:at_<=900000000000) (bad:Bool):∃ (s:ByteArray) (at':Nat) (bad':Bool),at'<=at_+300/\(∀ k,j0a (b,(at_:Int),bad) k=k s (b,(at':Int),bad'))/\(bad=false->∀ (x:ByteArray) post,x.size<=30->b.drop at_=nI x.size::(Z1e x++post)->s=x/\bad'=false/\b.drop at'=post):=by
 obtain ⟨n,a1,b1,q0,q1,q2,q3,q4,q5⟩:=iN b hb hl at_ 1 (by omega) (.inl rfl) bad
 have hn:=q3 rfl
 obtain ⟨m,rfl⟩:∃ m:Nat,n=(m:Int):=⟨n.toNat,by omega⟩
 have hu:∀ k,j0a (b,(at_:Int),bad) k=j0i (m:Int) (b,(a1:Int),b1) λr1 bt=>k (Z34 r1) bt:=λk=>by
  unfold j0a
  exact q4 _
 cases b1
 ·by_cases h:a1+m<=b.length
  ·refine ⟨Z34 (seg b a1 m),a1+m,false,by omega,λk=> ?_,λhbad x post hx hd=> ?_⟩
   ·rw [hu]
    unfold j0i
    dsimp only
    rw [cond_false,j03 (n:=nI b.length-(a1:Int)) (by unfold nI;omega),decide_eq_false (show ¬ (m:Int)>nI b.length-(a1:Int) by unfold nI;omega),cond_false,j03 (n:=(a1:Int)+(m:Int)) (by omega),show (a1:Int)+(m:Int)-(m:Int)=(a1:Int) by omega,j03 (n:=(a1:Int)) (by omega)]
    have hc:Z6Z (a1:Int) ((a1:Int)+(m:Int)) b.length=true:=decide_eq_true (by omega)
    rw [hc,cond_true,ja7]
    rfl
   ·obtain ⟨f1,f2,f3,f4⟩:=q5 hbad [nI x.size] (Z1e x++post) rfl hd
    have e:j2G [nI x.size]=nI x.size:=by simp [j2G]
    rw [e] at f1
    have hm:m=(Z1e x).length:=by rw [j0x];unfold nI at f1;omega
    subst hm
    unfold seg
    rw [f3,List.take_left,<-List.drop_drop,f3,List.drop_left,j7b]
    exact ⟨rfl,rfl,rfl⟩
  ·refine ⟨Z34 [],a1,true,by omega,λk=> ?_,λhbad x post hx hd=> ?_⟩
   ·rw [hu]
    unfold j0i
    dsimp only
    rw [cond_false,j03 (n:=nI b.length-(a1:Int)) (by unfold nI;omega),decide_eq_true (show (m:Int)>nI b.length-(a1:Int) by unfold nI;omega),cond_true]
   ·obtain ⟨f1,f2,f3,f4⟩:=q5 hbad [nI x.size] (Z1e x++post) rfl hd
    have e:j2G [nI x.size]=nI x.size:=by simp [j2G]
    rw [e] at f1
    have hm:m=(Z1e x).length:=by rw [j0x];unfold nI at f1;omega
    have hl:=congrArg List.length f3
    rw [List.length_drop,List.length_append] at hl
    omega
 ·refine ⟨Z34 [],a1,true,by omega,λk=> ?_,λhbad x post hx hd=> ?_⟩
  ·rw [hu];rfl
  ·exact absurd (q5 hbad [nI x.size] (Z1e x++post) rfl hd).2.1 (by simp)
theorem jbm (x:Int):j2G [x]=x:=by simp [j2G]
theorem jhk (b:List Int) (hb:isB b) (hl:b.length<=1048576) (at_:Nat) (ha:at_<=800000000000) (bad:Bool):∃ (v:V) (at':Nat) (bad':Bool),at'<=at_+400/\(∀ k,j0M (b,(at_:Int),bad) k=k v (b,(at':Int),bad'))/\(bad=false->∀ w post,j0j w=true->b.drop at_=wB w++post->v=w/\bad'=false/\b.drop at'=post):=by
 obtain ⟨t,a1,b1,q0,q1,q2,q3,q4,q5⟩:=iN b hb hl at_ 1 (by omega) (.inl rfl) bad
 have hd1:bad=false->∀ w post,j0j w=true->b.drop at_=wB w++post->t=w.1/\b1=false/\b.drop a1=(wB w).tail++post:=λhbad w post hw h=>by
  rw [jfk hw,List.cons_append] at h
  obtain ⟨f1,f2,f3,f4⟩:=q5 hbad [w.1] _ rfl h
  rw [jbm] at f1
  exact ⟨f1,f2,f3⟩
 have hu:∀ k,j0M (b,(at_:Int),bad) k=j0z t (t,0,eS) (b,(a1:Int),b1) k:=λk=>by
  unfold j0M
  exact q4 _
 obtain ⟨n2,a2,b2,p0,p1,p2,p3,p4,p5⟩:=iN b hb hl a1 1 (by omega) (.inl rfl) b1
 by_cases t1:t=1
 ·refine ⟨(1,n2,eS),a2,b2,by omega,λk=> ?_,λhbad w post hw h=> ?_⟩
  ·rw [hu,t1]
   unfold j0z
   rw [show ((1:Int)==1)=true from rfl,cond_true]
   exact p4 _
  ·obtain ⟨e1,e2,e3⟩:=hd1 hbad w post hw h
   rcases j0B hw with rfl | ⟨n,hn,rfl⟩ | ⟨n,hn,rfl⟩ | ⟨s,hs,rfl⟩
   ·simp only at e1;omega
   ·obtain ⟨f1,f2,f3,_⟩:=p5 e2 [n] post rfl e3
    rw [jbm] at f1
    exact ⟨by rw [f1],f2,f3⟩
   ·simp only at e1;omega
   ·simp only at e1;omega
 by_cases t2:t=2
 ·obtain ⟨n3,a3,b3,r0,r1,r2,r3,r4,r5⟩:=iN b hb hl a2 6 (by omega) (.inr rfl) b2
  refine ⟨(2,if n2=1 then 0-n3 else n3,eS),a3,b3,by omega,λk=> ?_,λhbad w post hw h=> ?_⟩
  ·rw [hu,t2]
   unfold j0z
   rw [show ((2:Int)==1)=false from rfl,cond_false,show ((2:Int)==2)=true from rfl,cond_true]
   refine (p4 _).trans ?_
   refine (r4 _).trans ?_
   rw [j03 (by omega)]
   by_cases h1:n2=1
   ·rw [if_pos h1,h1];rfl
   ·rw [if_neg h1,show (n2==1)=false by simp [h1]];rfl
  ·obtain ⟨e1,e2,e3⟩:=hd1 hbad w post hw h
   rcases j0B hw with rfl | ⟨n,hn,rfl⟩ | ⟨n,hn,rfl⟩ | ⟨s,hs,rfl⟩
   ·simp only at e1;omega
   ·simp only at e1;omega
   ·obtain ⟨f1,f2,f3,_⟩:=p5 e2 [bif decide (n<0) then 1 else 0] (be n.natAbs 6++post) rfl e3
    obtain ⟨g1,g2,g3,_⟩:=r5 f2 (be n.natAbs 6) post (j1l _ _) f3
    rw [jbm] at f1
    rw [jg5 _ (by omega)] at g1
    refine ⟨?_,g2,g3⟩
    rw [f1,g1]
    by_cases h0:n<0
    ·rw [decide_eq_true h0,cond_true,if_pos rfl,show (0:Int)-(n.natAbs:Int)=n by omega]
    ·rw [decide_eq_false h0,cond_false,if_neg (by omega),show ((n.natAbs:Nat):Int)=n by omega]
   ·simp only at e1;omega
 by_cases t3:t=3
 ·obtain ⟨s,a3,b3,r0,r4,r5⟩:=jgL b hb hl a1 (by omega) b1
  refine ⟨(3,0,s),a3,b3,by omega,λk=> ?_,λhbad w post hw h=> ?_⟩
  ·rw [hu,t3]
   unfold j0z
   rw [show ((3:Int)==1)=false from rfl,cond_false,show ((3:Int)==2)=false from rfl,cond_false,show ((3:Int)==3)=true from rfl,cond_true]
   exact r4 _
  ·obtain ⟨e1,e2,e3⟩:=hd1 hbad w post hw h
   rcases j0B hw with rfl | ⟨n,hn,rfl⟩ | ⟨n,hn,rfl⟩ | ⟨x,hx,rfl⟩
   ·simp only at e1;omega
   ·simp only at e1;omega
   ·simp only at e1;omega
   ·obtain ⟨f1,f2,f3⟩:=r5 e2 x post hx e3
    exact ⟨by rw [f1],f2,f3⟩
 ·refine ⟨(t,0,eS),a1,b1,by omega,λk=> ?_,λhbad w post hw h=> ?_⟩
  ·rw [hu]
   unfold j0z
   rw [show (t==1)=false by simp [t1],cond_false,show (t==2)=false by simp [t2],cond_false,show (t==3)=false by simp [t3],cond_false]
  ·obtain ⟨e1,e2,e3⟩:=hd1 hbad w post hw h
   rcases j0B hw with rfl | ⟨n,hn,rfl⟩ | ⟨n,hn,rfl⟩ | ⟨x,hx,rfl⟩
   ·exact ⟨by rw [e1],e2,e3⟩
   ·simp only at e1;omega
   ·simp only at e1;omega
   ·simp only at e1;omega
end Go.PI.G
namespace Go.PI.G
open Go Go.PI Go.Proofs
theorem jg7 {P:Nat->Prop} (h0:P 0) (h1:P 1) (h2:P 2) (h3:P 3) (h4:P 4) (h5:P 5) (s:Nat) (h:s<=5):P s:=by
 have:s=0\/s=1\/s=2\/s=3\/s=4\/s=5:=by omega
 rcases this with rfl | rfl | rfl | rfl | rfl | rfl<;>assumption
theorem jeP (s:Nat) (hs:s<=6) (k:Int->Res):j6l (s:Int) k=k ((256:Int) ^ s):=by
 unfold j6l j88
 have hl:(List.replicate s ()).length=s:=by simp
 refine Z73 (List.replicate s ()) (λi a=>(a,i)) (λ(a:Int) _=>a * 256) (λi a=>a=(256:Int) ^ i) (step:=j6N (s:Int)) (λp=>k p) (λ_=>k ((256:Int) ^ s)) 1 (by rw [hl];unfold LIM;omega) (by simp) (λi a hi hp=>by
  rw [Int.pow_succ,hp]) (λi a rec hi hp=>by
  rw [hl] at hi
  show j37 _ _ _ _ _=_
  unfold j37
  dsimp only
  have h1:=pw i (by omega)
  have h2:(0:Int)<256 ^ i:=Int.pow_pos (by omega)
  rw [decide_eq_true (show (i:Int)<(s:Int) by omega),cond_true,j03 (n:=a * 256) (by rw [hp];omega),j03 (by omega)]) (λa rec hp=>by
  rw [hl] at hp ⊢
  show j37 _ _ _ _ _=_
  unfold j37
  dsimp only
  rw [decide_eq_false (by omega),cond_false,hp])
theorem jfR (n s:Nat) (h:n<=1099511627775) (hs:s<=5):wu8 (Int.tmod (Z8o (Int.tdiv (n:Int) ((256:Int) ^ s))) 256)=((n / 256 ^ s % 256:Nat):Int):=by
 have e:((256:Int) ^ s)=((256 ^ s:Nat):Int):=by simp
 have hd:n / 256 ^ s<=n:=Nat.div_le_self _ _
 have e2:Int.tdiv (n:Int) ((256 ^ s:Nat):Int)=((n / 256 ^ s:Nat):Int):=by
  rw [Int.tdiv_eq_ediv_of_nonneg (by omega)]
  exact (Int.natCast_ediv _ _).symm
 rw [e]
 generalize hq:Int.tdiv (n:Int) ((256 ^ s:Nat):Int)=q at e2 ⊢
 generalize n / 256 ^ s=d at e2 hd ⊢
 subst e2
 rw [j03 (by omega),Int.tmod_eq_emod_of_nonneg (by omega),jeY]
 omega
theorem jfQ (n s:Nat) (h:n<=1099511627775) (hs:s<=5):wu8 (Z9v .i64 (n:Int) (Z8o (8 * (s:Int))))=((n / 256 ^ s % 256:Nat):Int):=by
 have e:∀ s:Nat,s<=5->(2:Int) ^ min (Z8o (8 * (s:Int))).toNat 64=((256 ^ s:Nat):Int):=λs hs=>by
  refine jg7 (P:=λs=>(2:Int) ^ min (Z8o (8 * (s:Int))).toNat 64=((256 ^ s:Nat):Int)) ?_ ?_ ?_ ?_ ?_ ?_ s hs<;>decide
 unfold Z9v
 show wu8 (Int.fdiv (n:Int) (2 ^ min (Z8o (8 * (s:Int))).toNat 64))=_
 rw [e s hs,Int.fdiv_eq_ediv_of_nonneg _ (Int.natCast_nonneg _),<-Int.natCast_ediv,jeY]
 omega
theorem jeQ (n:Nat) (hn:n<=1099511627775) (k:List Int->Res):∀ (s m:Nat) (out:List Int),s<=6->s<m->out.length+s<=1000000->Z14 (j6I (n:Int)) m (out,(s:Int)-1) k=k (out++be n s):=by
 intro s
 induction s with
 | zero=>
  intro m out hs hm ho
  obtain ⟨m,rfl⟩:∃ e,m=e+1:=⟨m-1,by omega⟩
  rw [Z8C]
  show j32 _ _ _ _ _=_
  unfold j32
  dsimp only
  rw [decide_eq_false (by omega),cond_false]
  simp [be]
 | succ s ih=>
  intro m out hs hm ho
  obtain ⟨m,rfl⟩:∃ e,m=e+1:=⟨m-1,by omega⟩
  rw [Z8C]
  show j32 _ _ _ _ _=_
  unfold j32
  dsimp only
  have h2:(0:Int)<256 ^ s:=Int.pow_pos (by omega)
  rw [show ((s+1:Nat):Int)-1=(s:Int) by omega,decide_eq_true (show (s:Int)>=0 by omega),cond_true,jeP s (by omega),decide_eq_false (by omega),Bool.not_false,cond_true,Z9l (by unfold LIM;omega),cond_true,jfR n s hn (by omega),j03 (by omega)]
  have:=ih m (out++[((n / 256 ^ s % 256:Nat):Int)]) (by omega) (by omega) (by rw [List.length_append,List.length_singleton];omega)
  refine this.trans ?_
  rw [List.append_assoc]
  rfl
theorem jgy (n:Nat) (hn:n<=1099511627775) (k:List Int->Res):∀ (s m:Nat) (out:List Int),s<=6->s<m->out.length+s<=1000000->Z14 (j8t (n:Int)) m (out,(s:Int)-1) k=k (out++be n s):=by
 intro s
 induction s with
 | zero=>
  intro m out hs hm ho
  obtain ⟨m,rfl⟩:∃ e,m=e+1:=⟨m-1,by omega⟩
  rw [Z8C]
  show j4L _ _ _ _ _=_
  unfold j4L
  dsimp only
  rw [decide_eq_false (by omega),cond_false]
  simp [be]
 | succ s ih=>
  intro m out hs hm ho
  obtain ⟨m,rfl⟩:∃ e,m=e+1:=⟨m-1,by omega⟩
  rw [Z8C]
  show j4L _ _ _ _ _=_
  unfold j4L
  dsimp only
  rw [show ((s+1:Nat):Int)-1=(s:Int) by omega,decide_eq_true (show (s:Int)>=0 by omega),cond_true,jfQ n s hn (by omega),j03 (n:=8 * (s:Int)) (by omega),decide_eq_false (show ¬ 8 * (s:Int)<0 by omega),Bool.not_false,cond_true,Z9l (by unfold LIM;omega),cond_true,j03 (by omega)]
  have:=ih m (out++[((n / 256 ^ s % 256:Nat):Int)]) (by omega) (by omega) (by rw [List.length_append,List.length_singleton];omega)
  refine this.trans ?_
  rw [List.append_assoc]
  rfl
theorem jcN (b:List Int) (hb:b.length<=100000) (n s:Nat) (hn:n<=1099511627775) (hs:1<=s/\s<=6) (k:List Int->Res):j0g b (n:Int) (s:Int) k=k (b++be n s):=by
 unfold j0g j9N
 rw [j03 (by omega)]
 exact jgy n hn k s Z12 b hs.2 (Z1U (by omega)) (by omega)
theorem j2c (b:List Int) (hb:b.length<=100000) (n:Int) (hn:0<=n/\n<256) (k:List Int->Res):j0g b n 1 k=k (b++[n]):=by
 obtain ⟨m,rfl⟩:∃ m:Nat,n=(m:Int):=⟨n.toNat,by omega⟩
 have:=jcN b hb m 1 (by omega) (by omega) k
 refine Eq.trans this ?_
 have e:be m 1=[(m:Int)]:=by
  simp only [be]
  rw [show (256:Nat) ^ 0=1 by decide]
  congr 1
  omega
 rw [e]
theorem jfh (b:List Int) (hb:b.length<=100) (n:Nat) (hn:n<=1099511627775) (k:List Int->Bool->Res):j0h b (n:Int) 6 k=k (b++be n 6) true:=by
 unfold j0h j4l
 have hp:=jeP 6 (by omega) (λ(r:Int)=>(λ(t:Bool)=>bif t then k [] false else bif lim (0+b.length) then j4k (n:Int) Z12 b (Z8o (6-1)) λ(out:List Int)=>k out true else none) (decide ((n:Int)>=r)))
 rw [decide_eq_false (show ¬ (6:Int)<1 by omega),cond_false,decide_eq_false (show ¬ (6:Int)>6 by omega),cond_false,decide_eq_false (show ¬ (n:Int)<0 by omega),cond_false]
 refine Eq.trans hp ?_
 rw [show ((256:Int) ^ 6)=281474976710656 by decide,decide_eq_false (show ¬ (n:Int)>=281474976710656 by omega)]
 dsimp only
 rw [cond_false,Z9l (by unfold LIM;omega),cond_true]
 exact jeQ n hn (λout=>k out true) 6 Z12 b (by omega) (Z1U (by omega)) (by omega)
theorem jdX (v:V) (k:List Int->Bool->Res):j2m v k=bif j0j v then k (wB v) true else k [] false:=by
 unfold j2m
 rw [jan]
 cases hv:j0j v
 ·rfl
 ·rw [Bool.not_true,cond_false,cond_true]
  rcases j0B hv with rfl | ⟨n,hn,rfl⟩ | ⟨n,hn,rfl⟩ | ⟨s,hs,rfl⟩
  ·rfl
  ·dsimp only
   rw [show ((1:Int)==1)=true from rfl,cond_true]
   show k [wu8 1,wu8 n] true=k [1,n] true
   rw [j0F (by omega),j0F (by omega)]
  ·dsimp only
   rw [show ((2:Int)==1)=false from rfl,cond_false,show ((2:Int)==2)=true from rfl,cond_true]
   show j34 n 0 (decide (n<0)) _=k (2::(bif decide (n<0) then 1 else 0)::be n.natAbs 6) true
   unfold j34
   by_cases h0:n<0
   ·rw [decide_eq_true h0,cond_true,cond_true,j03 (by omega),show (0:Int)-n=((n.natAbs:Nat):Int) by omega]
    dsimp only
    rw [jfh _ (by simp) _ (by omega)]
    rw [j0F (n:=2) (by omega)]
    rfl
   ·rw [decide_eq_false h0,cond_false,cond_false]
    dsimp only
    have e:n=((n.natAbs:Nat):Int):=by omega
    rw [show j0h [wu8 2,0] n 6=j0h [wu8 2,0] ((n.natAbs:Nat):Int) 6 by rw [<-e],jfh _ (by simp) _ (by omega),j0F (n:=2) (by omega)]
    rfl
  ·dsimp only
   rw [show ((3:Int)==1)=false from rfl,cond_false,show ((3:Int)==2)=false from rfl,cond_false,show ((3:Int)==3)=true from rfl,cond_true]
   show _=k (3::nI s.size::Z1e s) true
   simp only [Z8u]
   have:=j0x s
   rw [Z9l (by show s.size<=LIM;unfold LIM;omega),cond_true,Z9l (by unfold LIM;omega),cond_true]
   show k ([wu8 3,wu8 (nI s.size)]++Z1e s) true=_
   rw [j0F (by omega),j0F (by unfold nI;omega)]
   rfl
theorem jdP (b:List Int) (hb:b.length<=90000) (v:V) (hv:j0j v=true) (k:List Int->Res):j6w b v k=k (b++wB v):=by
 unfold j6w
 rcases j0B hv with rfl | ⟨n,hn,rfl⟩ | ⟨n,hn,rfl⟩ | ⟨s,hs,rfl⟩
 ·rw [j2c b (by omega) _ (by simp)]
  rfl
 ·rw [j2c b (by omega) _ (by simp)]
  show j0g (b++[1]) n 1 _=k (b++[1,n])
  rw [j2c _ (by rw [List.length_append,List.length_singleton];omega) _ (by omega),List.append_assoc]
  rfl
 ·rw [j2c b (by omega) _ (by simp)]
  show j1Z (b++[2]) (decide (n<0)) (λr2=>j0g r2 (mxI n (Z8o (0-n))) 6 _)=k (b++(2::(bif decide (n<0) then 1 else 0)::be n.natAbs 6))
  have hmx:mxI n (Z8o (0-n))=((n.natAbs:Nat):Int):=by
   unfold mxI
   rw [j03 (by omega)]
   split<;>omega
  rw [hmx]
  have hf:∀ (is:Bool) (K:List Int->Res),j1Z (b++[2]) is K=K (b++[2]++[bif is then 1 else 0]):=λis K=>by
   unfold j1Z
   cases is
   ·rw [cond_false,Z9l (by rw [List.length_append,List.length_singleton];unfold LIM;omega),cond_true];rfl
   ·rw [cond_true,Z9l (by rw [List.length_append,List.length_singleton];unfold LIM;omega),cond_true];rfl
  rw [hf]
  have:=jcN (b++[2]++[bif decide (n<0) then 1 else 0]) (by simp;omega) n.natAbs 6 (by omega) (by omega) k
  refine Eq.trans this ?_
  rw [List.append_assoc,List.append_assoc]
  rfl
 ·rw [j2c b (by omega) _ (by simp)]
  show j0V (b++[3]) s _=k (b++(3::nI s.size::Z1e s))
  unfold j0V
  have:=j0x s
  rw [j2c _ (by rw [List.length_append,List.length_singleton];omega) _ (by unfold nI;omega),Z9l (by simp;unfold LIM;omega),cond_true,List.append_assoc,List.append_assoc]
  rfl
def jbl (l:List V):Bool:=decide (l.length<=8)&&l.all j0j
theorem je2:(l:List V)->(i:Nat)->(out:List Int)->Z1y (λ_ out v=>bif j0j v then (.ok (out++wB v):Except Unit (List Int)) else .error ()) i l out=bif l.all j0j then .ok (out++l.flatMap wB) else .error ()
 | [],_,out=>by simp [Z1y]
 | v::l,i,out=>by
  simp only [Z1y,List.all_cons]
  cases j0j v
  ·rfl
  ·simp only [cond_true,Bool.true_and]
   rw [je2 l (i+1),List.flatMap_cons,List.append_assoc]
theorem jdU (l:List V) (h:l.length<=9) (k:List Int->Bool->Res):j3r l k=bif jbl l then k (j1i l) true else k [] false:=by
 unfold j3r jbl
 by_cases h8:l.length<=8
 ·rw [decide_eq_false (show ¬ nI l.length>8 by unfold nI;omega),cond_false,decide_eq_true h8,Bool.true_and,j0F (by unfold nI;omega)]
  unfold j6J
  have:=Z3t l (λi out=>(out,i)) (λ_ out v=>bif j0j v then (.ok (out++wB v):Except Unit (List Int)) else .error ()) (λi out=>out.length<=1+32 * i) (step:=j5s l (nI l.length)) ((λ(b:List Int)=>k b true),(λ(_:Unit)=>k [] false)) (λb=>k b true) (λ_=>k [] false) [nI l.length] (by unfold LIM;omega) (by simp) (λi out out' hi ho hf=>by
   cases hv:j0j l[i]
   ·rw [hv] at hf;cases hf
   ·rw [hv] at hf;cases hf
    have:=jab hv
    rw [List.length_append];omega) (λi out rec hi ho=>by
   show j24 _ _ _ _ _ _ _=_
   unfold j24
   dsimp only
   rw [Z9q hi,cond_true,j08 hi,cond_true,Z9a _ _ _ hi,jdX,j03 (n:=(i:Int)+1) (by omega)]
   cases hv:j0j l[i]
   ·rfl
   ·have:=jab hv
    rw [cond_true,cond_true,Bool.not_true,cond_false,Z9l (by unfold LIM;omega),cond_true]) (λout rec _=>by
   show j24 _ _ _ _ _ _ _=_
   unfold j24
   dsimp only
   rw [Z9p,cond_false])
  refine this.trans ?_
  rw [je2]
  cases l.all j0j<;>rfl
 ·rw [decide_eq_true (show nI l.length>8 by unfold nI;omega),cond_true,decide_eq_false h8,Bool.false_and,cond_false]
end Go.PI.G
namespace Go.PI.G
open Go Go.PI
abbrev C:=ByteArray×Int×Bool×Bool×V
abbrev T:=ByteArray×List C×List ByteArray
abbrev yV:Ty:= .pair (.int .i64) (.pair (.int .i64) .str)
abbrev yC:Ty:= .pair .str (.pair (.int .i64) (.pair .bool (.pair .bool yV)))
abbrev zC:C:=(eS,0,false,false,0,0,eS)
theorem jcJ {α:Type} (p:α->Bool) (l:List α): -1<=Z8j p l/\Z8j p l<(l.length:Int):=by
 unfold Z8j
 cases h:l.findIdx? p with
 | none=>simp only [];omega
 | some i=>
  have:=(List.findIdx?_eq_some_iff_findIdx_eq.1 h).1
  simp only [];omega
theorem jcE {α:Type} {f:Nat->α->Bool}:(l:List α)->(i:Nat)->Z5X f i l=false->∀ (j:Nat) (h:j<l.length),f (i+j) l[j]=false
 | [],_,_,j,h=>by simp at h
 | x::l,i,h,j,hj=>by
  simp only [Z5X,Bool.or_eq_false_iff] at h
  cases j with
  | zero=>simpa using h.1
  | succ j=>
   have:=jcE l (i+1) h.2 j (by simpa using hj)
   rw [show i+(j+1)=i+1+j by omega]
   simpa using this
noncomputable def j0c (s:ByteArray):Bool:= !((Z1e s).any λb=>decide (b<97)||decide (b>122))&&(decide (1<=s.size)&&decide (s.size<=8))
def jcM (v:V):Bool:=(v.1==0)&&((v.2.1==0)&&sEq v.2.2 eS)
noncomputable def j0U (c:C):Bool:=j0c c.1&&(decide (1<=c.2.1/\c.2.1<=3)&&(j0j c.2.2.2.2&&(bif c.2.2.2.1 then (c.2.2.2.2.1==c.2.1)||((c.2.2.2.2.1==0)&& !c.2.2.1) else jcM c.2.2.2.2)))
def j0q (l:List C) (n:ByteArray):Int:=Z8j (λc=>sEq c.1 n) l
theorem j6d (l:List C) (n:ByteArray): -1<=j0q l n/\j0q l n<(l.length:Int):=jcJ _ _
theorem jgi:j0j (0,0,eS)=true:=by
 show (((0:Int)==0)&&sEq eS eS)=true
 rw [Z8T];rfl
theorem jfC:jcM (0,0,eS)=true:=by
 show (((0:Int)==0)&&(((0:Int)==0)&&sEq eS eS))=true
 rw [Z8T];rfl
def j3B (l:List C):Int->List ByteArray->Bool
 | _,[]=>true
 | last,k::ks=> !decide (j0q l k<=last)&&((nth zC l (j0q l k)).2.2.1&&j3B l (j0q l k) ks)
noncomputable def j71 (l:List C):Bool:= !Z5X (λi c=> !j0U c||(j0q l c.1 != (i:Int))) 0 l
noncomputable def j9U (t:T):Bool:=(j0c t.1&&(decide (1<=t.2.1.length)&&(decide (t.2.1.length<=8)&&decide (1<=t.2.2.length))))&&(j71 t.2.1&&j3B t.2.1 (-1) t.2.2)
theorem jdc {t:T} (h:j9U t=true):j0c t.1=true/\1<=t.2.1.length/\t.2.1.length<=8/\1<=t.2.2.length/\j71 t.2.1=true/\j3B t.2.1 (-1) t.2.2=true:=by
 unfold j9U at h
 simp only [Bool.and_eq_true,decide_eq_true_eq] at h
 exact ⟨h.1.1,h.1.2.1,h.1.2.2.1,h.1.2.2.2,h.2.1,h.2.2⟩
theorem j96 {l:List C}:(ks:List ByteArray)->(last:Int)-> -1<=last->j3B l last ks=true->∀ k∈ks,0<=j0q l k/\j0q l k<(l.length:Int)
 | [],_,_,_,k,hk=>by cases hk
 | q::ks,last,h0,h,k,hk=>by
  simp only [j3B,Bool.and_eq_true,Bool.not_eq_true',decide_eq_false_iff_not] at h
  have h1:=(jcJ (λc:C=>sEq c.1 q) l).2
  have h2:0<=j0q l q:=by omega
  rcases List.mem_cons.1 hk with rfl | hk
  ·exact ⟨h2,h1⟩
  ·exact j96 ks (j0q l q) (by omega) h.2.2 k hk
theorem jfS {l:List C} (h:j71 l=true) (i:Nat) (hi:i<l.length):j0U l[i]=true:=by
 unfold j71 at h
 have:=jcE l 0 (by simpa using h) i hi
 simp only [Bool.or_eq_false_iff,Bool.not_eq_false'] at this
 exact this.1
end Go.PI.G
namespace Go.PI.G
open Go Go.PI Go.Proofs
theorem jfP (s:ByteArray) (i:Nat) (h:i<(Z1e s).length):bt s (i:Int)=(Z1e s)[i]:=by
 have hl:=j0x s
 have h':i<s.data.size:=by
  have:i<s.size:=by omega
  exact this
 have e1:(Z1e s)[i]=((s.data.toList.map λb:UInt8=>(b.toNat:Int))[i]'(by simpa using h')):=rfl
 rw [e1,List.getElem_map]
 unfold bt
 simp [Array.getElem?_eq_getElem h']
theorem jgH (s:ByteArray) (x:Bool) (k:Bool->Res):(bif x then k false else (bif decide ((nI (ByteArray.size s))>=1) then k (decide ((nI (ByteArray.size s))<=8)) else k false))=k (!x&&(decide (1<=s.size)&&decide (s.size<=8))):=by
 cases x
 ·unfold nI
  by_cases h1:1<=s.size
  ·rw [cond_false,decide_eq_true (show (s.size:Int)>=1 by omega),cond_true,decide_eq_true h1]
   congr 1
   by_cases h2:s.size<=8
   ·rw [decide_eq_true (show (s.size:Int)<=8 by omega),decide_eq_true h2];rfl
   ·rw [decide_eq_false (show ¬ (s.size:Int)<=8 by omega),decide_eq_false h2];rfl
  ·rw [cond_false,decide_eq_false (show ¬ (s.size:Int)>=1 by omega),cond_false,decide_eq_false h1];rfl
 ·rfl
theorem j1X (s:ByteArray) (h:s.size<=LIM) (k:Bool->Res):j0o s k=k (j0c s):=by
 unfold j0o j87
 have hl:=j0x s
 have:=Z8G (Z1e s) (λi=>i) (λb=>decide (b<97)||decide (b>122)) (step:=j6L s) ((λ(_:Unit)=>bif decide ((nI (ByteArray.size s))>=1) then k (decide ((nI (ByteArray.size s))<=8)) else k false),(λ(_:Unit)=>k false)) (bif decide ((nI (ByteArray.size s))>=1) then k (decide ((nI (ByteArray.size s))<=8)) else k false) (k false) (by omega) (λi rec hi=>by
  show j35 s _ _ _ _=_
  unfold j35
  unfold LIM at h
  have hi':i<s.size:=by omega
  rw [Z9q hi',cond_true,j08 hi',cond_true,cond_true,jfP s i hi,j03 (n:=(i:Int)+1) (by omega)]
  cases decide ((Z1e s)[i]<97)
  ·cases decide ((Z1e s)[i]>122)<;>rfl
  ·rfl) (λrec=>by
  show j35 s _ _ _ _=_
  unfold j35
  rw [hl,Z9p,cond_false])
 refine this.trans ?_
 exact jgH s _ k
theorem j2K (s:ByteArray) (h:s.size<=LIM) (k:Bool->Res):j0n s k=k (j0c s):=by
 unfold j0n j5H
 have hl:=j0x s
 have:=Z8G (Z1e s) (λi=>i) (λb=>decide (b<97)||decide (b>122)) (step:=j6v s) ((λ(_:Unit)=>j0d (nI (ByteArray.size s)) 1 8 λ(r:Bool)=>k r),(λ(_:Unit)=>k false)) (j0d (nI (ByteArray.size s)) 1 8 λ(r:Bool)=>k r) (k false) (by omega) (λi rec hi=>by
  show j2T s _ _ _ _=_
  unfold j2T
  unfold LIM at h
  have hi':i<s.size:=by omega
  rw [Z9q hi',cond_true,j08 hi',cond_true,cond_true,jfP s i hi,j03 (n:=(i:Int)+1) (by omega)]
  cases decide ((Z1e s)[i]<97)
  ·cases decide ((Z1e s)[i]>122)<;>rfl
  ·rfl) (λrec=>by
  show j2T s _ _ _ _=_
  unfold j2T
  rw [hl,Z9p,cond_false])
 refine this.trans ?_
 rw [j3U]
 have hd:decide (1<=nI s.size/\nI s.size<=8)=(decide (1<=s.size)&&decide (s.size<=8)):=by
  rw [<-Bool.decide_and]
  exact decide_eq_decide.2 (by unfold nI;omega)
 rw [hd]
 unfold j0c
 cases (Z1e s).any λb=>decide (b<97)||decide (b>122)<;>rfl
theorem jd9 (c:C) (h:c.1.size<=LIM) (k:Bool->Res):j3J c k=k (j0U c):=by
 obtain ⟨n,ty,nt,hs,df⟩:=c
 unfold j3J j0U
 dsimp only at h ⊢
 rw [j1X n h,jan]
 cases j0c n
 ·rfl
 ·rw [Bool.not_true,cond_false,Bool.true_and]
  by_cases h1:1<=ty/\ty<=3
  ·rw [decide_eq_false (show ¬ ty<1 by omega),cond_false,decide_eq_false (show ¬ ty>3 by omega),cond_false,decide_eq_true h1,Bool.true_and]
   cases hs
   ·rw [Bool.not_false,cond_true,cond_false]
    have:j0j df=false->jcM df=false:=λhv=>by
     cases hn:jcM df with
     | false=>rfl
     | true=>
      unfold jcM at hn
      simp only [Bool.and_eq_true,beq_iff_eq,j2Q] at hn
      have:df=(0,0,eS):=by
       obtain ⟨a,b,c⟩:=df
       simp only at hn
       rw [hn.1,hn.2.1,hn.2.2]
      rw [this,jgi] at hv
      cases hv
    cases hv:j0j df
    ·rw [Bool.false_and]
     exact congrArg k (this hv)
    ·rfl
   ·rw [Bool.not_true,cond_false,cond_true]
    cases hv:j0j df
    ·rfl
    ·rw [cond_true,Bool.true_and]
     have hnull:(df.1==0)=true->((df.1==0)&&((df.2.1==0)&&sEq df.2.2 eS))=true:=λh0=>by
      rcases j0B hv with rfl | ⟨m,_,rfl⟩ | ⟨m,_,rfl⟩ | ⟨m,_,rfl⟩
      ·exact jfC
      ·cases h0
      ·cases h0
      ·cases h0
     cases h0:df.1==0
     ·rw [Bool.false_and,cond_false]
      cases df.1==ty<;>rfl
     ·have:=hnull h0
      rw [h0] at this
      rw [this,cond_true,cond_true]
      have hty:(df.1==ty)=false:=by
       simp only [beq_iff_eq] at h0
       rw [h0];simp;omega
      rw [hty,Bool.false_or,Bool.true_and]
  ·rw [decide_eq_false h1]
   by_cases h2:ty<1
   ·rw [decide_eq_true h2];rfl
   ·rw [decide_eq_false h2,cond_false,decide_eq_true (show ty>3 by omega)];rfl
theorem jcK (c:C) (h:c.1.size<=LIM) (k:Bool->Res):j3w c k=k (j0U c):=by
 obtain ⟨n,ty,nt,hs,df⟩:=c
 unfold j3w j0U
 dsimp only at h ⊢
 rw [j2K n h,j3U,jcL]
 cases j0c n
 ·rfl
 ·cases decide (1<=ty/\ty<=3)
  ·rfl
  ·cases j0j df
   ·rfl
   ·cases hs
    ·rfl
    ·cases df.1==ty
     ·cases df.1==0<;>rfl
     ·rfl
theorem jdT (t:T) (n:ByteArray) (h:t.2.1.length<=LIM) (k:Int->Res):j5Q t n k=k (j0q t.2.1 n):=by
 unfold j5Q j8z
 refine Z8w t.2.1 (λi=>i) (λc=>sEq c.1 n) (step:=j7q n t.2.1 (nI t.2.1.length)) _ k h (λi rec hi=> ?_) (λrec=> ?_)
 ·show j3I n _ _ _ _ _ _=_
  unfold j3I
  unfold LIM at h
  rw [Z9q hi,cond_true,j08 hi,cond_true,Z9a _ _ _ hi,j03 (n:=(i:Int)+1) (by omega)]
 ·show j3I n _ _ _ _ _ _=_
  unfold j3I
  rw [Z9p,cond_false]
theorem jdM (t:T) (n:ByteArray) (h:t.2.1.length<=LIM) (k:Int->Res):j5D t n k=k (j0q t.2.1 n):=by
 unfold j5D j4z j3k
 refine Z8w t.2.1 (λi=>i) (λc=>sEq c.1 n) (step:=j2H t.2.1 n (nI t.2.1.length)) _ k h (λi rec hi=> ?_) (λrec=> ?_)
 ·show j0H _ n _ _ _ _ _=_
  unfold j0H j9L
  unfold LIM at h
  rw [Z9q hi,cond_true,j08 hi,cond_true,Z9a _ _ _ hi,j03 (n:=(i:Int)+1) (by omega)]
 ·show j0H _ n _ _ _ _ _=_
  unfold j0H
  rw [Z9p,cond_false]
def tSm (t:T):Prop:=t.1.size<=1048576/\t.2.1.length<=1048576/\t.2.2.length<=1048576/\(∀ c∈t.2.1,c.1.size<=1048576)/\∀ x∈t.2.2,x.size<=1048576
theorem jep (t:T) (h:tSm t) (a b:Unit->Res):j3L t.2.1 (nI t.2.1.length) t Z12 0 a b=bif j71 t.2.1 then a () else b ():=by
 have hh:=h
 obtain ⟨m1,m2,m3,m4,m5⟩:=hh
 unfold j3L
 have:=Z8t t.2.1 (λi=>i) (λi c=> !j0U c||(j0q t.2.1 c.1 != (i:Int))) (step:=j42 t.2.1 (nI t.2.1.length) t) (a,b) (a ()) (b ()) (by unfold LIM;omega) (λi rec hi=>by
  show j1z _ _ t _ _ _ _=_
  unfold j1z
  rw [Z9q hi,cond_true,j08 hi,cond_true,Z9a _ _ _ hi,jd9 _ (by have:=m4 _ (List.getElem_mem hi);unfold LIM;omega),jdT t _ (by unfold LIM;omega),j03 (n:=(i:Int)+1) (by omega)]
  cases j0U t.2.1[i]
  ·rfl
  ·cases j0q t.2.1 t.2.1[i].1 != (i:Int)<;>rfl) (λrec=>by
  show j1z _ _ t _ _ _ _=_
  unfold j1z
  rw [Z9p,cond_false])
 refine this.trans ?_
 unfold j71
 cases Z5X (λi c=> !j0U c||(j0q t.2.1 c.1 != (i:Int))) 0 t.2.1<;>rfl
theorem jeg (t:T) (h:tSm t) (a b:Unit->Res):j3z t.2.1 (nI t.2.1.length) t Z12 0 a b=bif j71 t.2.1 then a () else b ():=by
 have hh:=h
 obtain ⟨m1,m2,m3,m4,m5⟩:=hh
 unfold j3z
 have:=Z8t t.2.1 (λi=>i) (λi c=> !j0U c||(j0q t.2.1 c.1 != (i:Int))) (step:=j40 t.2.1 (nI t.2.1.length) t) (a,b) (a ()) (b ()) (by unfold LIM;omega) (λi rec hi=>by
  show j1x _ _ t _ _ _ _=_
  unfold j1x
  rw [Z9q hi,cond_true,j08 hi,cond_true,Z9a _ _ _ hi,jcK _ (by have:=m4 _ (List.getElem_mem hi);unfold LIM;omega),jdM t _ (by unfold LIM;omega),j03 (n:=(i:Int)+1) (by omega)]
  cases j0U t.2.1[i]
  ·rfl
  ·cases j0q t.2.1 t.2.1[i].1 != (i:Int)<;>rfl) (λrec=>by
  show j1x _ _ t _ _ _ _=_
  unfold j1x
  rw [Z9p,cond_false])
 refine this.trans ?_
 unfold j71
 cases Z5X (λi c=> !j0U c||(j0q t.2.1 c.1 != (i:Int))) 0 t.2.1<;>rfl
def j5I (l:List C) (last:Int) (k:ByteArray):Except Unit Int:=bif decide (j0q l k<=last) then .error () else bif !(nth zC l (j0q l k)).2.2.1 then .error () else .ok (j0q l k)
theorem jaX (l:List C):(ks:List ByteArray)->(i:Nat)->(last:Int)->(∃ z,Z1y (λ_ last k=>j5I l last k) i ks last= .ok z/\j3B l last ks=true)\/(Z1y (λ_ last k=>j5I l last k) i ks last= .error ()/\j3B l last ks=false)
 | [],_,last=> .inl ⟨last,rfl,rfl⟩
 | k::ks,i,last=>by
  have ih:=jaX l ks (i+1) (j0q l k)
  simp only [Z1y,j3B,j5I] at ih ⊢
  cases decide (j0q l k<=last)
  ·cases (nth zC l (j0q l k)).2.2.1
   ·exact .inr ⟨rfl,rfl⟩
   ·exact ih
  ·exact .inr ⟨rfl,rfl⟩
theorem jeq (t:T) (h:tSm t) (a b:Unit->Res):j3M t.2.2 (nI t.2.2.length) t Z12 (-1) 0 a b=bif j3B t.2.1 (-1) t.2.2 then a () else b ():=by
 have hh:=h
 obtain ⟨m1,m2,m3,m4,m5⟩:=hh
 unfold j3M
 have:=Z3t t.2.2 (λi last=>(last,i)) (λ_ last k=>j5I t.2.1 last k) (λ_ last=> -1<=last) (step:=j63 t.2.2 (nI t.2.2.length) t) (a,b) (λ_=>a ()) (λ_=>b ()) (-1) (by unfold LIM;omega) (by omega) (λi last last' hi h0 hk=>by
  unfold j5I at hk
  have:=(j6d t.2.1 t.2.2[i]).1
  cases h1:decide (j0q t.2.1 t.2.2[i]<=last)
  ·rw [h1,cond_false] at hk
   cases h2:(nth zC t.2.1 (j0q t.2.1 t.2.2[i])).2.2.1
   ·rw [h2] at hk;cases hk
   ·rw [h2] at hk
    cases hk
    exact this
  ·rw [h1] at hk;cases hk) (λi last rec hi h0=>by
  show j2A _ _ t _ _ _ _ _=_
  unfold j2A
  dsimp only
  rw [Z9q hi,cond_true,j08 hi,cond_true,Z9a _ _ _ hi,jdT t _ (by unfold LIM;omega),j03 (n:=(i:Int)+1) (by omega)]
  unfold j5I
  by_cases h1:j0q t.2.1 t.2.2[i]<=last
  ·rw [decide_eq_true h1];rfl
  ·have hr:=(j6d t.2.1 t.2.2[i]).2
   rw [decide_eq_false h1,cond_false,cond_false,Z9k (by omega) hr,cond_true]
   cases (nth zC t.2.1 (j0q t.2.1 t.2.2[i])).2.2.1<;>rfl) (λlast rec _=>by
  show j2A _ _ t _ _ _ _ _=_
  unfold j2A
  dsimp only
  rw [Z9p,cond_false])
 refine this.trans ?_
 rcases jaX t.2.1 t.2.2 0 (-1) with ⟨z,h1,h2⟩ | ⟨h1,h2⟩<;>rw [h1,h2]<;>rfl
theorem jeh (t:T) (h:tSm t) (a b:Unit->Res):j3A t.2.2 (nI t.2.2.length) t Z12 (-1) 0 a b=bif j3B t.2.1 (-1) t.2.2 then a () else b ():=by
 have hh:=h
 obtain ⟨m1,m2,m3,m4,m5⟩:=hh
 unfold j3A
 have:=Z3t t.2.2 (λi last=>(last,i)) (λ_ last k=>j5I t.2.1 last k) (λ_ last=> -1<=last) (step:=j5W t.2.2 (nI t.2.2.length) t) (a,b) (λ_=>a ()) (λ_=>b ()) (-1) (by unfold LIM;omega) (by omega) (λi last last' hi h0 hk=>by
  unfold j5I at hk
  have:=(j6d t.2.1 t.2.2[i]).1
  cases h1:decide (j0q t.2.1 t.2.2[i]<=last)
  ·rw [h1,cond_false] at hk
   cases h2:(nth zC t.2.1 (j0q t.2.1 t.2.2[i])).2.2.1
   ·rw [h2] at hk;cases hk
   ·rw [h2] at hk
    cases hk
    exact this
  ·rw [h1] at hk;cases hk) (λi last rec hi h0=>by
  show j2p _ _ t _ _ _ _ _=_
  unfold j2p
  dsimp only
  rw [Z9q hi,cond_true,j08 hi,cond_true,Z9a _ _ _ hi,jdM t _ (by unfold LIM;omega),j03 (n:=(i:Int)+1) (by omega)]
  unfold j5I
  by_cases h1:j0q t.2.1 t.2.2[i]<=last
  ·rw [decide_eq_true h1];rfl
  ·have hr:=(j6d t.2.1 t.2.2[i]).2
   rw [decide_eq_false h1,cond_false,cond_false,Z9k (by omega) hr,cond_true]
   cases (nth zC t.2.1 (j0q t.2.1 t.2.2[i])).2.2.1<;>rfl) (λlast rec _=>by
  show j2p _ _ t _ _ _ _ _=_
  unfold j2p
  dsimp only
  rw [Z9p,cond_false])
 refine this.trans ?_
 rcases jaX t.2.1 t.2.2 0 (-1) with ⟨z,h1,h2⟩ | ⟨h1,h2⟩<;>rw [h1,h2]<;>rfl
theorem jgE (t:T) (k:Bool->Res):j3N t k=j0o t.1 λw=>k (!(w&&(decide (1<=t.2.1.length)&&(decide (t.2.1.length<=8)&&decide (1<=t.2.2.length))))):=by
 unfold j3N
 congr 1
 funext w
 unfold nI
 cases w
 ·rfl
 ·rw [Bool.not_true,cond_false,Bool.true_and]
  by_cases h1:1<=t.2.1.length
  ·rw [decide_eq_false (show ¬ (t.2.1.length:Int)<1 by omega),cond_false,decide_eq_true h1,Bool.true_and]
   by_cases h2:t.2.1.length<=8
   ·rw [decide_eq_false (show ¬ (t.2.1.length:Int)>8 by omega),cond_false,decide_eq_true h2,Bool.true_and]
    congr 1
    by_cases h3:1<=t.2.2.length
    ·rw [decide_eq_false (show ¬ (t.2.2.length:Int)<1 by omega),decide_eq_true h3];rfl
    ·rw [decide_eq_true (show (t.2.2.length:Int)<1 by omega),decide_eq_false h3];rfl
   ·rw [decide_eq_true (show (t.2.1.length:Int)>8 by omega),decide_eq_false h2];rfl
  ·rw [decide_eq_true (show (t.2.1.length:Int)<1 by omega),decide_eq_false h1];rfl
theorem jf9 (t:T) (h:tSm t) (k:Bool->Res):j4n t k=k (j9U t):=by
 have hh:=h
 obtain ⟨m1,m2,m3,m4,m5⟩:=hh
 unfold j4n j9U
 rw [jgE,j1X _ (by unfold LIM;omega),jep t h,jeq t h]
 cases j0c t.1&&(decide (1<=t.2.1.length)&&(decide (t.2.1.length<=8)&&decide (1<=t.2.2.length)))
 ·rfl
 ·cases j71 t.2.1
  ·rfl
  ·cases j3B t.2.1 (-1) t.2.2<;>rfl
theorem jf4 (t:T) (h:tSm t) (k:Bool->Res):j4b t k=k (j9U t):=by
 have hh:=h
 obtain ⟨m1,m2,m3,m4,m5⟩:=hh
 unfold j4b j9U
 rw [j2K _ (by unfold LIM;omega),j3U,jeg t h,jeh t h]
 have hd:decide (1<=nI t.2.1.length/\nI t.2.1.length<=8)=(decide (1<=t.2.1.length)&&decide (t.2.1.length<=8)):=by
  rw [<-Bool.decide_and]
  exact decide_eq_decide.2 (by unfold nI;omega)
 have hk:decide (nI t.2.2.length>0)=decide (1<=t.2.2.length):=decide_eq_decide.2 (by unfold nI;omega)
 rw [hd,hk]
 cases j71 t.2.1
 ·rw [Bool.false_and,Bool.and_false];rfl
 ·cases j3B t.2.1 (-1) t.2.2
  ·rw [Bool.and_false,Bool.and_false];rfl
  ·cases j0c t.1
   ·rfl
   ·cases decide (1<=t.2.1.length)
    ·rfl
    ·cases decide (t.2.1.length<=8)
     ·rfl
     ·cases decide (1<=t.2.2.length)<;>rfl
end Go.PI.G
namespace Go.PI.G
open Go Go.PI
def free (b:Int) (s:ByteArray):Prop:=b ∉ Z1e s
theorem j0S {s:ByteArray} (h:j0c s=true):1<=s.size/\s.size<=8:=by
 unfold j0c at h
 simp only [Bool.and_eq_true,decide_eq_true_eq] at h
 exact h.2
end Go.PI.G
namespace Go.PI.G
open Go Go.PI
abbrev D:=Int×ByteArray×List C×List ByteArray×ByteArray×ByteArray
abbrev ST:=Int×ByteArray×List V×List V×D
abbrev yD:Ty:= .pair (.int .i64) (.pair .str (.pair (.slice yC) (.pair (.slice .str) (.pair .str .str))))
abbrev yST:Ty:= .pair (.int .i64) (.pair .str (.pair (.slice yV) (.pair (.slice yV) yD)))
abbrev zD:D:=(0,eS,[],[],eS,eS)
abbrev zST:ST:=(0,eS,[],[],0,eS,[],[],eS,eS)
theorem jes:∃ m,Z12=m+1:=⟨Z12-1,by have:=Z1U (n:=1) (by omega);omega⟩
theorem j5N (n:Nat):(nI n==0)=(n==0):=by
 unfold nI
 cases n with
 | zero=>rfl
 | succ n=>show ((((n+1:Nat):Int))==0)=false;simp;omega
theorem jg4 (n:Nat):(nI n==1)=(n==1):=by
 unfold nI
 by_cases h:n=1
 ·subst h;rfl
 ·have h1:(n==1)=false:=by simp [h]
  have h2:((n:Int)==1)=false:=by simp;omega
  rw [h1,h2]
theorem jfB (m n:Nat):(nI m != nI n)= !(m==n):=by
 unfold nI
 by_cases h:m=n
 ·subst h;simp
 ·have h1:(m==n)=false:=by simp [h]
  have h2:((m:Int) != n)=true:=by simp;omega
  rw [h1,h2];rfl
def noD (d:D):Bool:=(d.1==0)&&(sEq d.2.1 eS&&((d.2.2.1.length==0)&&((d.2.2.2.1.length==0)&&(sEq d.2.2.2.2.1 eS&&sEq d.2.2.2.2.2 eS))))
def j8j (d:D):Bool:=(d.2.2.1.length==0)&&(d.2.2.2.1.length==0)
noncomputable def j5h (d:D):Bool:=j0c d.2.1 &&
 (bif d.1==1 then sEq d.2.2.2.2.1 eS&&(sEq d.2.2.2.2.2 eS&&j9U (d.2.1,d.2.2.1,d.2.2.2.1))
  else bif d.1==2 then j8j d&&(sEq d.2.2.2.2.1 eS&&sEq d.2.2.2.2.2 eS)
  else bif d.1==3 then (d.2.2.1.length==1)&&(j0U (nth zC d.2.2.1 0)&&(((nth zC d.2.2.1 0).2.2.2.1|| !(nth zC d.2.2.1 0).2.2.1)&&((d.2.2.2.1.length==0)&&(sEq d.2.2.2.2.1 eS&&sEq d.2.2.2.2.2 eS))))
  else bif d.1==4 then j8j d&&(j0c d.2.2.2.2.1&&sEq d.2.2.2.2.2 eS)
  else bif d.1==5 then j8j d&&(j0c d.2.2.2.2.1&&j0c d.2.2.2.2.2)
  else false)
def j1s (l:List V):Bool:=l.all j0j&&(decide (1<=l.length)&&decide (l.length<=8))
noncomputable def stB (s:ST):Bool:=j0c s.2.1 &&
 (bif s.1==1 then (s.2.2.1.length==0)&&(j1s s.2.2.2.1&&noD s.2.2.2.2)
  else bif s.1==2 then j1s s.2.2.1&&(j1s s.2.2.2.1&&noD s.2.2.2.2)
  else bif s.1==3 then j1s s.2.2.1&&((s.2.2.2.1.length==0)&&noD s.2.2.2.2)
  else bif s.1==4 then (s.2.2.1.length==0)&&((s.2.2.2.1.length==0)&&noD s.2.2.2.2)
  else bif s.1==5 then (s.2.2.1.length==0)&&((s.2.2.2.1.length==0)&&(j5h s.2.2.2.2&&sEq s.2.2.2.2.2.1 s.2.1))
  else false)
def dSm (d:D):Prop:=d.2.1.size<=1048576/\d.2.2.1.length<=1048576/\d.2.2.2.1.length<=1048576/\(∀ c∈d.2.2.1,c.1.size<=1048576)/\(∀ x∈d.2.2.2.1,x.size<=1048576)/\d.2.2.2.2.1.size<=1048576/\d.2.2.2.2.2.size<=1048576
def j9T (s:ST):Prop:=s.2.1.size<=1048576/\s.2.2.1.length<=1048576/\s.2.2.2.1.length<=1048576/\dSm s.2.2.2.2
theorem jae:dSm zD:=by
 refine ⟨?_,?_,?_,?_,?_,?_,?_⟩
 all_goals first | (intro _ h;cases h) | exact Nat.zero_le _
theorem jgf:j9T zST:=⟨Nat.zero_le _,Nat.zero_le _,Nat.zero_le _,jae⟩
theorem jbk (d:D):noD d=true↔d=zD:=by
 obtain ⟨a,b,c,e,f,g⟩:=d
 unfold noD
 simp only [Bool.and_eq_true,beq_iff_eq,j2Q,Prod.mk.injEq,List.length_eq_zero_iff]
theorem jcI {d:D} (h:j5h d=true):j0c d.2.1=true /\
  ((∃ t cs ks,d=(1,t,cs,ks,eS,eS)/\j9U (t,cs,ks)=true)\/(∃ t,d=(2,t,[],[],eS,eS))\/(∃ t c,d=(3,t,[c],[],eS,eS)/\j0U c=true) \/
   (∃ t n,d=(4,t,[],[],n,eS)/\j0c n=true)\/∃ t n m,d=(5,t,[],[],n,m)/\j0c n=true/\j0c m=true):=by
 obtain ⟨k,t,cs,ks,n,m⟩:=d
 unfold j5h j8j at h
 dsimp only at h ⊢
 rw [Bool.and_eq_true] at h
 refine ⟨h.1,?_⟩
 have h:=h.2
 cases h1:k==1
 ·cases h2:k==2
  ·cases h3:k==3
   ·cases h4:k==4
    ·cases h5:k==5
     ·rw [h1,h2,h3,h4,h5] at h;cases h
     ·rw [h1,h2,h3,h4,h5] at h
      simp only [cond_false,cond_true,Bool.and_eq_true,beq_iff_eq] at h h5
      obtain ⟨⟨a,b⟩,c,e⟩:=h
      rw [List.length_eq_zero_iff] at a b
      subst a;subst b;subst h5
      exact .inr (.inr (.inr (.inr ⟨t,n,m,rfl,c,e⟩)))
    ·rw [h1,h2,h3,h4] at h
     simp only [cond_false,cond_true,Bool.and_eq_true,beq_iff_eq,j2Q] at h h4
     obtain ⟨⟨a,b⟩,c,e⟩:=h
     rw [List.length_eq_zero_iff] at a b
     subst a;subst b;subst h4;subst e
     exact .inr (.inr (.inr (.inl ⟨t,n,rfl,c⟩)))
   ·rw [h1,h2,h3] at h
    simp only [cond_false,cond_true,Bool.and_eq_true,beq_iff_eq,j2Q] at h h3
    obtain ⟨a,b,_,c,e,f⟩:=h
    obtain ⟨c0,rfl⟩:=List.length_eq_one_iff.1 a
    rw [List.length_eq_zero_iff] at c
    subst c;subst h3;subst e;subst f
    exact .inr (.inr (.inl ⟨t,c0,rfl,b⟩))
  ·rw [h1,h2] at h
   simp only [cond_false,cond_true,Bool.and_eq_true,beq_iff_eq,j2Q] at h h2
   obtain ⟨⟨a,b⟩,e,f⟩:=h
   rw [List.length_eq_zero_iff] at a b
   subst a;subst b;subst h2;subst e;subst f
   exact .inr (.inl ⟨t,rfl⟩)
 ·rw [h1] at h
  simp only [cond_true,Bool.and_eq_true,beq_iff_eq,j2Q] at h h1
  obtain ⟨e,f,a⟩:=h
  subst h1;subst e;subst f
  exact .inl ⟨t,cs,ks,rfl,a⟩
theorem jdZ {s:ST} (h:stB s=true):j0c s.2.1=true /\
  ((∃ t r,s=(1,t,[],r,zD)/\j1s r=true)\/(∃ t q r,s=(2,t,q,r,zD)/\j1s q=true/\j1s r=true)\/(∃ t q,s=(3,t,q,[],zD)/\j1s q=true) \/
   (∃ t,s=(4,t,[],[],zD))\/∃ d:D,s=(5,d.2.1,[],[],d)/\j5h d=true):=by
 obtain ⟨k,t,q,r,d⟩:=s
 unfold stB at h
 dsimp only at h ⊢
 rw [Bool.and_eq_true] at h
 refine ⟨h.1,?_⟩
 have h:=h.2
 cases h1:k==1
 ·cases h2:k==2
  ·cases h3:k==3
   ·cases h4:k==4
    ·cases h5:k==5
     ·rw [h1,h2,h3,h4,h5] at h;cases h
     ·rw [h1,h2,h3,h4,h5] at h
      simp only [cond_false,cond_true,Bool.and_eq_true,beq_iff_eq,j2Q] at h h5
      obtain ⟨a,b,c,e⟩:=h
      rw [List.length_eq_zero_iff] at a b
      subst a;subst b;subst h5;subst e
      exact .inr (.inr (.inr (.inr ⟨d,rfl,c⟩)))
    ·rw [h1,h2,h3,h4] at h
     simp only [cond_false,cond_true,Bool.and_eq_true,beq_iff_eq,jbk] at h h4
     obtain ⟨a,b,c⟩:=h
     rw [List.length_eq_zero_iff] at a b
     subst a;subst b;subst h4;subst c
     exact .inr (.inr (.inr (.inl ⟨t,rfl⟩)))
   ·rw [h1,h2,h3] at h
    simp only [cond_false,cond_true,Bool.and_eq_true,beq_iff_eq,jbk] at h h3
    obtain ⟨a,b,c⟩:=h
    rw [List.length_eq_zero_iff] at b
    subst b;subst h3;subst c
    exact .inr (.inr (.inl ⟨t,q,rfl,a⟩))
  ·rw [h1,h2] at h
   simp only [cond_false,cond_true,Bool.and_eq_true,beq_iff_eq,jbk] at h h2
   obtain ⟨a,b,c⟩:=h
   subst h2;subst c
   exact .inr (.inl ⟨t,q,r,rfl,a,b⟩)
 ·rw [h1] at h
  simp only [cond_true,Bool.and_eq_true,beq_iff_eq,jbk] at h h1
  obtain ⟨a,b,c⟩:=h
  rw [List.length_eq_zero_iff] at a
  subst a;subst h1;subst c
  exact .inl ⟨t,r,rfl,b⟩
theorem j6n {l:List V} (h:j1s l=true):1<=l.length/\l.length<=8/\∀ v∈l,j0j v=true:=by
 unfold j1s at h
 simp only [Bool.and_eq_true,decide_eq_true_eq,List.all_eq_true] at h
 exact ⟨h.2.1,h.2.2,h.1⟩
end Go.PI.G
