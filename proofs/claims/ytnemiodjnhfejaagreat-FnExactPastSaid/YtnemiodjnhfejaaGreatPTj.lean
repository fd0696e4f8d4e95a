/-
  Program's code interpreted over typed values; printed texts; plain laws. No conditions.
-/
import Derived.Test.YtnemiodjnhfejaaGreatPTg
import Derived.Test.YtnemiodjnhfejaaGreatPTi
set_option linter.unusedVariables false
set_option linter.unusedSimpArgs false
namespace Go.PI.G
open Go Go.PI Go.Proofs
theorem jcQ (l:List ByteArray) (k:Bool->Res):j2j l [] k=k (l.length==0):=by
 unfold j2j
 rw [jr7]
 cases l with
 | nil=>
  obtain ⟨m,b⟩:=joJ
  rw [show (!(([]:List ByteArray).length==([]:List ByteArray).length))=false from rfl,cond_false]
  unfold j9I
  rw [b,Z9Y]
  rfl
 | cons x l=>rfl
theorem jfd (l:List C) (k:Bool->Res):j1A l [] k=k (l.length==0):=by
 unfold j1A
 rw [jr7]
 cases l with
 | nil=>
  obtain ⟨m,b⟩:=joJ
  rw [show (!(([]:List C).length==([]:List C).length))=false from rfl,cond_false]
  unfold j7S
  rw [b,Z9Y]
  rfl
 | cons x l=>rfl
theorem jqZ (l:List C) (h:l.length<=LIM) (k:Bool->Res):j1A l l k=k true:=by
 unfold j1A j7S
 rw [jr7,beq_self_eq_true,Bool.not_true,cond_false]
 have:=Za2 l (λi=>i) (λ_=>false) (step:=j6F l l (nI l.length)) ((λ(_:Unit)=>k true),(λ(_:Unit)=>k false)) (k true) (k false) h (λi rec b=>by
  show j1G _ _ _ _ _ _ _=_
  unfold j1G
  unfold LIM at h
  have d:∀ x:Bool,(x==x)=true:=by decide
  rw [ZaQ b,cond_true,j00 b,cond_true,cond_true]
  simp only [Zah,beq_self_eq_true,d,Bool.and_true,Bool.not_true,cond_false]
  rw [j01 (by omega)]) (λrec=>by
  show j1G _ _ _ _ _ _ _=_
  unfold j1G
  rw [ZaP,cond_false])
 refine this.trans ?_
 have:(l.any λ_=>false)=false:=by simp
 rw [this,cond_false]
theorem jtc {d:D} (h:dSm d):tSm (d.2.1,d.2.2.1,d.2.2.2.1):=⟨h.1,h.2.1,h.2.2.1,h.2.2.2.1,h.2.2.2.2.1⟩
theorem jtD (d:D) (K:Bool->Res):j7B d K=K (jcR d):=by
 unfold j7B jcR
 rw [j3R,j3R]
 cases d.2.2.1.length==0<;>rfl
theorem jhD (d:D) (h:dSm d) (k:Bool->Res):j2z d k=k (j1b d):=by
 have i:=jtc h
 obtain ⟨w,y,z,j,A,B,C⟩:=h
 obtain ⟨b,t,cs,ks,n,m⟩:=d
 dsimp only at w y z j A B C i
 unfold j2z j1b
 rw [jtD]
 generalize r:jcR (b,t,cs,ks,n,m)=g
 dsimp only
 rw [j5I _ (by unfold LIM;omega),j3R]
 cases j0u t
 ·rfl
 ·rw [Bool.not_true,cond_false,Bool.true_and]
  cases b==1
  ·cases b==2
   ·cases b==3
    ·cases b==4
     ·cases b==5
      ·rfl
      ·rw [cond_false,cond_false,cond_false,cond_false,cond_true,cond_false,cond_false,cond_false,cond_false,cond_true,j5I n (by unfold LIM;omega),j5I m (by unfold LIM;omega)]
       cases g
       ·rfl
       ·cases j0u n<;>rfl
     ·rw [cond_false,cond_false,cond_false,cond_true,cond_false,cond_false,cond_false,cond_true,j5I n (by unfold LIM;omega)]
      cases g
      ·rfl
      ·cases j0u n<;>rfl
    ·rw [cond_false,cond_false,cond_true,cond_false,cond_false,cond_true,jrS]
     cases q:cs.length==1
     ·rfl
     ·have f:cs.length=1:=by simpa using q
      have p:inb 0 cs.length=true:=by rw [f];rfl
      have l:(nth zC cs 0).1.size<=LIM:=by
       have:=j (nth zC cs 0) (by rw [show (0:Int)=((0:Nat):Int) by rfl,Zay _ _ _ (by omega)];exact List.getElem_mem _)
       unfold LIM;omega
      rw [cond_true,p,cond_true,jmf _ l,Bool.true_and]
      cases j1a (nth zC cs 0)
      ·rfl
      ·rw [cond_true,cond_true,cond_true,Bool.true_and]
       cases (nth zC cs 0).2.2.2.1
       ·cases (nth zC cs 0).2.2.1
        ·cases ks.length==0
         ·rfl
         ·cases sEq n eS<;>rfl
        ·rfl
       ·cases ks.length==0
        ·rfl
        ·cases sEq n eS<;>rfl
   ·rw [cond_false,cond_true,cond_false,cond_true]
    cases g
    ·rfl
    ·cases sEq n eS<;>rfl
  ·rw [cond_true,cond_true,jka _ i]
   cases sEq n eS
   ·rfl
   ·cases sEq m eS<;>rfl
theorem jjX (d:D) (h:dSm d) (k:T->Res):j34 d k=k (d.2.1,d.2.2.1,d.2.2.2.1):=by
 unfold j34 j3M j3N
 have b:=h.2.1
 have f:=h.2.2.1
 dsimp only
 rw [ZaL (by unfold LIM;omega),cond_true,ZaL (by unfold LIM;omega),cond_true]
theorem jhl (d:D) (h:dSm d) (k:Bool->Res):j2w d k=k (j1b d):=by
 have i:=jtc h
 have f:=jjX d h
 obtain ⟨z,A,B,j,C,E,F⟩:=h
 obtain ⟨b,t,cs,ks,n,m⟩:=d
 dsimp only at z A B j C E F i f
 unfold j2w j1b jcR
 dsimp only
 rw [j5E _ (by unfold LIM;omega)]
 have l:cs.length<=LIM:=by unfold LIM;omega
 have G:ks.length<=LIM:=by unfold LIM;omega
 cases j0u t
 ·rfl
 ·rw [Bool.not_true,cond_false,Bool.true_and]
  cases q:b==1
  ·cases b==2
   ·cases b==3
    ·cases b==4
     ·cases b==5
      ·rfl
      ·rw [cond_false,cond_false,cond_false,cond_false,cond_true,cond_false,cond_false,cond_false,cond_false,cond_true]
       unfold j0g
       dsimp only
       rw [beq_self_eq_true,cond_true,Zah,cond_true,jfd,jcQ,Zah,cond_true,Zah,j5E n (by unfold LIM;omega),j5E m (by unfold LIM;omega)]
       cases cs.length==0
       ·rfl
       ·cases ks.length==0
        ·rfl
        ·cases j0u n<;>rfl
     ·rw [cond_false,cond_false,cond_false,cond_true,cond_false,cond_false,cond_false,cond_true]
      unfold j0g
      dsimp only
      rw [beq_self_eq_true,cond_true,Zah,cond_true,jfd,jcQ,Zah,cond_true,j5E n (by unfold LIM;omega)]
      cases cs.length==0
      ·rfl
      ·cases ks.length==0
       ·rfl
       ·cases sEq m eS<;>cases j0u n<;>rfl
    ·rw [cond_false,cond_false,cond_true,cond_false,cond_false,cond_true,jrS]
     unfold j0g
     dsimp only
     rw [beq_self_eq_true,cond_true,Zah,cond_true,jqZ _ l,cond_true,jcQ]
     cases y:cs.length==1
     ·cases ks.length==0
      ·rfl
      ·cases sEq n eS
       ·rfl
       ·cases sEq m eS<;>rfl
     ·have g:cs.length=1:=by simpa using y
      have w:inb 0 cs.length=true:=by rw [g];rfl
      have r:(nth zC cs 0).1.size<=LIM:=by
       have:=j (nth zC cs 0) (by rw [show (0:Int)=((0:Nat):Int) by rfl,Zay _ _ _ (by omega)];exact List.getElem_mem _)
       unfold LIM;omega
      rw [w,jlp _ r]
      cases ks.length==0
      ·cases j1a (nth zC cs 0)<;>cases (nth zC cs 0).2.2.2.1<;>cases (nth zC cs 0).2.2.1<;>rfl
      ·cases sEq n eS
       ·cases j1a (nth zC cs 0)<;>cases (nth zC cs 0).2.2.2.1<;>cases (nth zC cs 0).2.2.1<;>rfl
       ·cases sEq m eS<;>cases j1a (nth zC cs 0)<;>cases (nth zC cs 0).2.2.2.1<;>cases (nth zC cs 0).2.2.1<;>rfl
   ·rw [cond_false,cond_true,cond_false,cond_true]
    unfold j0g
    dsimp only
    rw [beq_self_eq_true,cond_true,Zah,cond_true,jfd,jcQ]
    cases cs.length==0
    ·rfl
    ·cases ks.length==0
     ·rfl
     ·cases sEq n eS<;>rfl
  ·have p:b=1:=by simpa using q
   subst p
   rw [cond_true,cond_true,f,jjZ _ i]
   cases j05 (t,cs,ks)
   ·cases sEq n eS
    ·rfl
    ·cases sEq m eS<;>rfl
   ·cases sEq n eS<;>cases sEq m eS<;>rfl
theorem jmj (d:D) (k:Bool->Res):j1w d k=k (noD d):=by
 unfold j1w noD
 rw [j3R,j3R]
 cases d.1==0
 ·rfl
 ·cases sEq d.2.1 eS
  ·rfl
  ·cases d.2.2.1.length==0
   ·rfl
   ·cases d.2.2.2.1.length==0
    ·rfl
    ·cases sEq d.2.2.2.2.1 eS<;>rfl
theorem jlr (d:D) (k:Bool->Res):j0g d zD k=k (noD d):=by
 unfold j0g noD
 rw [jfd,jcQ]
 cases d.1==0
 ·rfl
 ·cases sEq d.2.1 eS
  ·rfl
  ·cases d.2.2.1.length==0
   ·rfl
   ·cases d.2.2.2.1.length==0
    ·rfl
    ·cases sEq d.2.2.2.2.1 eS<;>rfl
theorem jkb (l:List V) (h:l.length<=LIM) (k:Bool->Res):j2P l k=k (j31 l):=by
 unfold j2P jfy j31
 have:=Za2 l (λi=>i) (λv=> !j0w v) (step:=j9p l (nI l.length)) ((λ(_:Unit)=>bif decide ((nI l.length)>=1) then k (decide ((nI l.length)<=8)) else k false),(λ(_:Unit)=>k false)) (bif decide ((nI l.length)>=1) then k (decide ((nI l.length)<=8)) else k false) (k false) h (λi rec d=>by
  show j3x _ _ _ _ _ _=_
  unfold j3x
  unfold LIM at h
  rw [ZaQ d,cond_true,j00 d,cond_true,Zay _ _ _ d,j92,j01 (n:=(i:Int)+1) (by omega)]) (λrec=>by
  show j3x _ _ _ _ _ _=_
  unfold j3x
  rw [ZaP,cond_false])
 refine this.trans ?_
 have b:(l.any λv=> !j0w v)= !l.all j0w:=by rw [List.all_eq_not_any_not];simp
 rw [b]
 unfold nI
 cases l.all j0w
 ·rfl
 ·rw [Bool.not_true,cond_false,Bool.true_and]
  by_cases f:1<=l.length
  ·rw [decide_eq_true (show (l.length:Int)>=1 by omega),cond_true,decide_eq_true f,Bool.true_and]
   congr 1
   exact decide_eq_decide.2 (by omega)
  ·rw [decide_eq_false (show ¬ (l.length:Int)>=1 by omega),cond_false,decide_eq_false f,Bool.false_and]
theorem jk0 (l:List V) (h:l.length<=LIM) (k:Bool->Res):j1O l k=k (j31 l):=by
 unfold j1O j2c j7c j9b j31
 rw [j70]
 have f:decide (1<=nI l.length/\nI l.length<=8)=(decide (1<=l.length)&&decide (l.length<=8)):=by
  rw [<-Bool.decide_and]
  exact decide_eq_decide.2 (by unfold nI;omega)
 rw [f]
 cases decide (1<=l.length)&&decide (l.length<=8)
 ·rw [Bool.and_false];rfl
 ·rw [cond_true,Bool.and_true]
  have:=Z9S l (λi=>i) (λv=> !j0w v) (step:=j3E l (nI l.length)) ((λ(_:Unit)=>k (!decide ((-1:Int)>=0))),(λ(t:Int)=>k (!decide (t>=0)))) (λr=>k (!decide (r>=0))) h (λi rec b=>by
   show j14 _ _ _ _ _ _=_
   unfold j14 jd9
   unfold LIM at h
   rw [ZaQ b,cond_true,j00 b,cond_true,Zay _ _ _ b,j8Q,j01 (n:=(i:Int)+1) (by omega)]) (λrec=>by
   show j14 _ _ _ _ _ _=_
   unfold j14
   rw [ZaP,cond_false])
  refine this.trans ?_
  congr 1
  unfold Z9F
  cases d:l.findIdx? λv=> !j0w v with
  | none=>
   rw [List.findIdx?_eq_none_iff] at d
   symm
   show l.all j0w=true
   rw [List.all_eq_true]
   intro v j
   simpa using d v j
  | some i=>
   dsimp only
   rw [decide_eq_true (show (i:Int)>=0 by omega)]
   obtain ⟨b,g,_⟩:=List.findIdx?_eq_some_iff_getElem.1 d
   symm
   show l.all j0w=false
   rw [List.all_eq_false]
   exact ⟨l[i],List.getElem_mem _,by simpa using g⟩
theorem jji (s:ST) (h:j15 s) (k:Bool->Res):j3I s k=k (stB s):=by
 obtain ⟨g,i,j,f⟩:=h
 unfold j3I stB j6O
 have b:s.2.2.1.length<=LIM:=by unfold LIM;omega
 have d:s.2.2.2.1.length<=LIM:=by unfold LIM;omega
 rw [j5I _ (by unfold LIM;omega),j3R,j3R]
 simp only [jkb _ b,jkb _ d,jmj,jhD _ f]
 cases j0u s.2.1
 ·rfl
 ·rw [Bool.not_true,cond_false,Bool.true_and]
  cases s.1==1
  ·cases s.1==2
   ·cases s.1==3
    ·cases s.1==4
     ·cases s.1==5
      ·rfl
      ·cases s.2.2.1.length==0
       ·rfl
       ·cases s.2.2.2.1.length==0
        ·rfl
        ·cases j1b s.2.2.2.2<;>rfl
     ·cases s.2.2.1.length==0
      ·rfl
      ·cases s.2.2.2.1.length==0<;>rfl
    ·cases j31 s.2.2.1
     ·rfl
     ·cases s.2.2.2.1.length==0<;>rfl
   ·cases j31 s.2.2.1
    ·rfl
    ·cases j31 s.2.2.2.1<;>rfl
  ·cases s.2.2.1.length==0
   ·rfl
   ·cases j31 s.2.2.2.1<;>rfl
theorem jrA {d:D} (h:j1b d=true):j0u d.2.1=true:=by
 unfold j1b at h
 rw [Bool.and_eq_true] at h
 exact h.1
theorem jnp (s:ST) (h:j15 s) (k:Bool->Res):j3F s k=k (stB s):=by
 obtain ⟨n,p,q,m⟩:=h
 unfold j3F stB j6f
 have d:s.2.2.1.length<=LIM:=by unfold LIM;omega
 have f:s.2.2.2.1.length<=LIM:=by unfold LIM;omega
 rw [j5E _ (by unfold LIM;omega),j3R,j3R]
 simp only [jk0 _ d,jk0 _ f,jlr,jhl _ m]
 cases i:s.1==5
 ·rw [cond_false]
  cases j0u s.2.1
  ·rfl
  ·rw [Bool.not_true,cond_false,Bool.true_and]
   cases s.1==1
   ·cases s.1==2
    ·cases s.1==3
     ·cases s.1==4
      ·cases noD s.2.2.2.2<;>rfl
      ·cases noD s.2.2.2.2<;>cases s.2.2.1.length==0<;>cases s.2.2.2.1.length==0<;>rfl
     ·cases noD s.2.2.2.2<;>cases j31 s.2.2.1<;>cases s.2.2.2.1.length==0<;>rfl
    ·cases noD s.2.2.2.2<;>cases j31 s.2.2.1<;>cases j31 s.2.2.2.1<;>rfl
   ·cases noD s.2.2.2.2<;>cases s.2.2.1.length==0<;>cases j31 s.2.2.2.1<;>rfl
 ·have g:s.1=5:=by simpa using i
  rw [cond_true,g,show ((5:Int)==1)=false from rfl,show ((5:Int)==2)=false from rfl,show ((5:Int)==3)=false from rfl,show ((5:Int)==4)=false from rfl,cond_false,cond_false,cond_false,cond_false,cond_true]
  cases j:j1b s.2.2.2.2
  ·rw [cond_false]
   cases j0u s.2.1<;>cases s.2.2.1.length==0<;>cases s.2.2.2.1.length==0<;>rfl
  ·rw [cond_true,Zag s.2.1]
   cases l:sEq s.2.2.2.2.2.1 s.2.1
   ·rw [cond_false]
    cases j0u s.2.1<;>cases s.2.2.1.length==0<;>cases s.2.2.2.1.length==0<;>rfl
   ·have b:=jrA j
    rw [(j0a _ _).1 l] at b
    rw [b]
    cases s.2.2.1.length==0<;>cases s.2.2.2.1.length==0<;>rfl
end Go.PI.G
namespace Go.PI.G
open Go Go.PI
theorem jr6 {v:V} (h:j0w v=true):msr yV v<=30:=by
 have e:msr yV v=0+(0+v.2.2.size):=rfl
 have:=jsc h
 omega
theorem j7I {e:Ty} (c:Nat):(l:List (El e))->(∀ x∈l,msr e x<=c)->msr (.slice e) l<=l.length * (c+1)
 | [],_=>Nat.zero_le _
 | x::l,h=>by
  have b:=j7I c l λy d=>h y (List.mem_cons_of_mem _ d)
  have f:=h x (by simp)
  rw [jns] at b ⊢
  simp only [List.map_cons,List.sum_cons,List.length_cons]
  rw [Nat.succ_mul]
  omega
theorem jsF {c:C} (h:j1a c=true):msr yC c<=38:=by
 have e:msr yC c=c.1.size+(0+(0+(0+msr yV c.2.2.2.2))):=rfl
 unfold j1a at h
 simp only [Bool.and_eq_true] at h
 have b:=jhH h.1
 have d:=jr6 h.2.2.1
 omega
theorem jry {l:List C} (h:j53 l=true) {c:C} (b:c∈l):j1a c=true:=by
 obtain ⟨i,d,rfl⟩:=List.getElem_of_mem b
 exact jni h i d
theorem jrx {l:List C} {n:ByteArray} (h:0<=j02 l n):∃ c∈l,c.1=n:=by
 unfold j02 Z9F at h
 cases b:List.findIdx? (λc:C=>sEq c.1 n) l with
 | none=>rw [b] at h;dsimp only at h;omega
 | some i=>
  obtain ⟨d,f,_⟩:=List.findIdx?_eq_some_iff_getElem.1 b
  exact ⟨l[i],List.getElem_mem d,(j0a _ _).1 f⟩
theorem jnq {l:List C}:(ks:List ByteArray)->(b:Int)->b<(l.length:Int)->j1m l b ks=true->b+(ks.length:Int)<(l.length:Int)
 | [],b,d,_=>by simpa using d
 | q::ks,b,d,h=>by
  simp only [j1m,Bool.and_eq_true,Bool.not_eq_true',decide_eq_false_iff_not] at h
  have f:=jnq ks (j02 l q) (j9v l q).2 h.2.2
  rw [List.length_cons]
  omega
theorem jsI {t:ByteArray} {cs:List C} {ks:List ByteArray} (h:j05 (t,cs,ks)=true):t.size<=8/\msr (.slice yC) cs<=312/\msr (.slice .str) ks<=72:=by
 have b:=j1x h
 dsimp only at b
 have d:∀ c∈cs,j1a c=true:=λc d=>jry b.2.2.2.2.1 d
 have m:=j7I (e:=yC) 38 cs λc h=>jsF (d c h)
 have n:cs.length * 39<=8 * 39:=Nat.mul_le_mul_right _ b.2.2.1
 have j:=j1n ks (-1) (by omega) b.2.2.2.2.2
 have r:=jnq ks (-1) (by omega) b.2.2.2.2.2
 have p:=j7I (e:= .str) 8 ks λk l=>by
  obtain ⟨c,g,i⟩:=jrx (j k l).1
  have f:=d c g
  unfold j1a at f
  rw [Bool.and_eq_true] at f
  have:=(jhH f.1).2
  rw [i] at this
  exact this
 have q:ks.length * 9<=8 * 9:=Nat.mul_le_mul_right _ (by omega)
 exact ⟨(jhH b.1).2,by omega,by omega⟩
end Go.PI.G
namespace Go.PI.G
open Go Go.PI
theorem jng:(x:List UInt8)->Op.bytesLess x x=false
 | []=>rfl
 | a::x=>by simp [Op.bytesLess,jng x]
theorem joU:(x y z:List UInt8)->Op.bytesLess x y=true->Op.bytesLess y z=true->Op.bytesLess x z=true
 | _,_,[],_,h=>by simp [Op.bytesLess] at h
 | _,[],_::_,h,_=>by simp [Op.bytesLess] at h
 | [],_::_,_::_,_,_=>by simp [Op.bytesLess]
 | a::x,b::y,c::z,h,k=>by
  simp only [Op.bytesLess,Bool.or_eq_true,Bool.and_eq_true,decide_eq_true_eq,beq_iff_eq] at h k ⊢
  rcases h with h | ⟨rfl,h⟩
  ·rcases k with k | ⟨rfl,k⟩
   ·exact .inl (UInt8.lt_trans h k)
   ·exact .inl h
  ·rcases k with k | ⟨rfl,k⟩
   ·exact .inl k
   ·exact .inr ⟨rfl,joU x y z h k⟩
theorem joT:(x y:List UInt8)->x≠y->Op.bytesLess x y=true\/Op.bytesLess y x=true
 | [],[],h=>absurd rfl h
 | [],_::_,_=> .inl (by simp [Op.bytesLess])
 | _::_,[],_=> .inr (by simp [Op.bytesLess])
 | a::x,b::y,h=>by
  simp only [Op.bytesLess,Bool.or_eq_true,Bool.and_eq_true,decide_eq_true_eq,beq_iff_eq]
  by_cases f:a=b
  ·subst f
   rcases joT x y (λe=>h (by rw [e])) with d | d
   ·exact .inl (.inr ⟨rfl,d⟩)
   ·exact .inr (.inr ⟨rfl,d⟩)
  ·rcases UInt8.lt_or_lt_of_ne f with d | d
   ·exact .inl (.inl d)
   ·exact .inr (.inl d)
theorem toList_inj {a b:ByteArray} (h:a.toList=b.toList):a=b:=(j0a a b).1 (by unfold sEq;rw [h];simp)
theorem jdX (a:ByteArray):sLt a a=false:=jng _
theorem jfp {a b c:ByteArray} (h:sLt a b=true) (k:sLt b c=true):sLt a c=true:=joU _ _ _ h k
theorem jj7 {a b:ByteArray} (h:a≠b):sLt a b=true\/sLt b a=true:=joT _ _ λe=>h (toList_inj e)
theorem js1 {a b:ByteArray} (h:sLt a b=true):a≠b:=λe=>by rw [e,jdX] at h;cases h
theorem js0 {a b:ByteArray} (h:sLt a b=true):sLt b a=false:=by
 cases d:sLt b a with
 | false=>rfl
 | true=>rw [<-jdX a];exact (jfp h d).symm
theorem jjs (a b:V):vlt a b=true↔j0w a=true/\j0w b=true/\(a.1<b.1\/(a.1=b.1/\(a.2.1<b.2.1\/(a.2.1=b.2.1/\sLt a.2.2 b.2.2=true)))):=by
 unfold vlt
 simp only [Bool.and_eq_true]
 refine and_congr_right λ_=>and_congr_right λ_=> ?_
 by_cases d:a.1=b.1
 ·rw [d,ZaO,cond_false]
  by_cases f:a.2.1=b.2.1
  ·rw [f,ZaO,cond_false]
   simp
  ·rw [show (a.2.1 != b.2.1)=true by simp [f],cond_true]
   simp [f]
 ·rw [show (a.1 != b.1)=true by simp [d],cond_true]
  simp [d]
theorem jrq (a:V):vlt a a=false:=by
 cases h:vlt a a with
 | false=>rfl
 | true=>
  have:=(jjs a a).1 h
  rw [jdX] at this
  rcases this.2.2 with h | ⟨_,h | ⟨_,h⟩⟩
  ·omega
  ·omega
  ·cases h
theorem jse {a b c:V} (h:vlt a b=true) (k:vlt b c=true):vlt a c=true:=by
 rw [jjs] at h k ⊢
 obtain ⟨g,_,h⟩:=h
 obtain ⟨_,i,k⟩:=k
 refine ⟨g,i,?_⟩
 rcases h with h | ⟨j,h⟩
 ·rcases k with k | ⟨d,k⟩
  ·exact .inl (by omega)
  ·exact .inl (by omega)
 ·rcases k with k | ⟨d,k⟩
  ·exact .inl (by omega)
  ·refine .inr ⟨by omega,?_⟩
   rcases h with h | ⟨l,h⟩
   ·rcases k with k | ⟨f,k⟩
    ·exact .inl (by omega)
    ·exact .inl (by omega)
   ·rcases k with k | ⟨f,k⟩
    ·exact .inl (by omega)
    ·exact .inr ⟨by omega,jfp h k⟩
theorem jsd {a b:V} (d:j0w a=true) (f:j0w b=true) (h:a≠b):vlt a b=true\/vlt b a=true:=by
 rw [jjs,jjs]
 by_cases g:a.1=b.1
 ·by_cases j:a.2.1=b.2.1
  ·have i:a.2.2≠b.2.2:=λe=>h (Prod.ext g (Prod.ext j e))
   rcases jj7 i with k | k
   ·exact .inl ⟨d,f,.inr ⟨g,.inr ⟨j,k⟩⟩⟩
   ·exact .inr ⟨f,d,.inr ⟨g.symm,.inr ⟨j.symm,k⟩⟩⟩
  ·by_cases i:a.2.1<b.2.1
   ·exact .inl ⟨d,f,.inr ⟨g,.inl i⟩⟩
   ·exact .inr ⟨f,d,.inr ⟨g.symm,.inl (by omega)⟩⟩
 ·by_cases i:a.1<b.1
  ·exact .inl ⟨d,f,.inl i⟩
  ·exact .inr ⟨f,d,.inl (by omega)⟩
theorem jq1 (a:V):veq a a=true:=(je3 a a).2 rfl
theorem jrp {a b:V} (h:a≠b):veq a b=false:=by
 cases d:veq a b with
 | false=>rfl
 | true=>exact absurd ((je3 a b).1 d) h
theorem jhq:(a:List V)->klt a a=false
 | []=>rfl
 | x::a=>by show (bif veq x x then klt a a else vlt x x)=false;rw [jq1,cond_true];exact jhq a
theorem jfk:(a b c:List V)->klt a b=true->klt b c=true->klt a c=true
 | _,[],_,h,k=>by
  rename_i a c
  cases a<;>cases h
 | _,_::_,[],h,k=>by cases k
 | [],_::_,_::_,h,k=>rfl
 | x::a,y::b,z::c,h,k=>by
  change (bif veq x y then klt a b else vlt x y)=true at h
  change (bif veq y z then klt b c else vlt y z)=true at k
  show (bif veq x z then klt a c else vlt x z)=true
  cases f:veq x y
  ·rw [f,cond_false] at h
   cases d:veq y z
   ·rw [d,cond_false] at k
    have g:=jse h k
    rw [jrp λe=>by rw [e,jrq] at g;cases g]
    exact g
   ·have e:=(je3 y z).1 d
    subst e
    rw [f];exact h
  ·have e:=(je3 x y).1 f
   subst e
   rw [f,cond_true] at h
   cases d:veq x z
   ·rw [d,cond_false] at k;exact k
   ·rw [d,cond_true] at k
    rw [cond_true]
    exact jfk a b c h k
theorem jnr:(a b:List V)->(∀ v∈a,j0w v=true)->(∀ v∈b,j0w v=true)->a≠b->klt a b=true\/klt b a=true
 | [],[],_,_,h=>absurd rfl h
 | [],_::_,_,_,_=> .inl rfl
 | _::_,[],_,_,_=> .inr rfl
 | x::a,y::b,g,i,h=>by
  show (bif veq x y then klt a b else vlt x y)=true\/(bif veq y x then klt b a else vlt y x)=true
  by_cases d:x=y
  ·subst d
   rw [jq1,cond_true,cond_true]
   exact jnr a b (λv f=>g v (List.mem_cons_of_mem _ f)) (λv f=>i v (List.mem_cons_of_mem _ f)) λe=>h (by rw [e])
  ·rw [jrp d,jrp (Ne.symm d),cond_false,cond_false]
   exact jsd (g x (by simp)) (i y (by simp)) d
theorem jrP {a b:List V} (h:klt a b=true):a≠b:=λe=>by rw [e,jhq] at h;cases h
theorem jrO {a b:List V} (h:klt a b=true):klt b a=false:=by
 cases d:klt b a with
 | false=>rfl
 | true=>rw [<-jhq a];exact (jfk a b a h d).symm
theorem ja5 {α:Type} {f:Nat->α->Bool}:(l:List α)->(i:Nat)->(Z71 f i l=false↔∀ (j:Nat) (h:j<l.length),f (i+j) l[j]=false)
 | [],_=>⟨λ_ j h=>by simp at h,λ_=>rfl⟩
 | x::l,i=>by
  refine ⟨jdN (x::l) i,λh=> ?_⟩
  simp only [Z71,Bool.or_eq_false_iff]
  refine ⟨h 0 (by simp),(ja5 l (i+1)).2 λj b=> ?_⟩
  have:=h (j+1) (by simpa using b)
  rw [show i+1+j=i+(j+1) by omega]
  simpa using this
theorem jsa {α:Type} (z:α) (R:α->α->Bool) (r:∀ a b c,R a b=true->R b c=true->R a c=true) (l:List α) :
  (∀ (j:Nat) (h:j<l.length),(decide (0<j)&& !R (nth z l ((j:Int)-1)) l[j])=false)↔l.Pairwise λa b=>R a b=true:=by
 rw [List.pairwise_iff_getElem]
 constructor
 ·intro h i j f g p
  have step:∀ (d i:Nat) (f:i+d+1<l.length),R l[i] l[i+d+1]=true:=by
   intro d
   induction d with
   | zero=>
    intro i f
    have:=h (i+1) (by omega)
    rw [show ((i+1:Nat):Int)-1=(i:Int) by omega,Zay _ _ _ (by omega)] at this
    simpa using this
   | succ d q=>
    intro i f
    have m:=q i (by omega)
    have:=h (i+d+2) (by omega)
    rw [show ((i+d+2:Nat):Int)-1=((i+d+1:Nat):Int) by omega,Zay _ _ _ (by omega)] at this
    have n:R l[i+d+1] l[i+d+2]=true:=by simpa using this
    exact r _ _ _ m n
  have:=step (j-i-1) i (by omega)
  have e:i+(j-i-1)+1=j:=by omega
  simp only [e] at this
  exact this
 ·intro h j g
  by_cases k:0<j
  ·have e:((j:Int)-1)=((j-1:Nat):Int):=by omega
   rw [e,Zay _ _ _ (by omega),h (j-1) j (by omega) g (by omega)]
   simp
  ·rw [decide_eq_false k];rfl
theorem j0e (c:List T):j2m c=true↔c.length<=6/\(∀ t∈c,j05 t=true)/\c.Pairwise λa b=>sLt a.1 b.1=true:=by
 unfold j2m
 rw [Bool.and_eq_true,decide_eq_true_eq,Bool.not_eq_true',ja5]
 refine and_congr_right λ_=> ?_
 rw [<-jsa zT (λa b:T=>sLt a.1 b.1) (λa b c=>jfp)]
 constructor
 ·intro h
  refine ⟨λt ht=> ?_,λj d=> ?_⟩
  ·obtain ⟨j,d,rfl⟩:=List.getElem_of_mem ht
   have:=h j d
   simp only [Bool.or_eq_false_iff,Bool.not_eq_false'] at this
   exact this.1
  ·have:=h j d
   rw [Nat.zero_add] at this
   rw [Bool.or_eq_false_iff] at this
   exact this.2
 ·rintro ⟨f,g⟩ j d
  rw [Nat.zero_add,f _ (List.getElem_mem d)]
  exact g j d
theorem j5k (t:T) (l:List (List V)):j09 t l=true↔j05 t=true/\l.length<=60/\(∀ r∈l,j0v t.2.1 r=true)/\l.Pairwise λa b=>klt (j07 t a) (j07 t b)=true:=by
 unfold j09
 rw [Bool.and_eq_true,Bool.and_eq_true,decide_eq_true_eq,Bool.not_eq_true',ja5]
 refine and_congr_right λ_=>and_congr_right λ_=> ?_
 rw [<-jsa [] (λa b:List V=>klt (j07 t a) (j07 t b)) (λa b c=>jfk _ _ _)]
 constructor
 ·intro h
  refine ⟨λr i=> ?_,λj d=> ?_⟩
  ·obtain ⟨j,d,rfl⟩:=List.getElem_of_mem i
   have:=h j d
   simp only [Bool.or_eq_false_iff,Bool.not_eq_false'] at this
   exact this.1
  ·have:=h j d
   rw [Nat.zero_add] at this
   rw [Bool.or_eq_false_iff] at this
   exact this.2
 ·rintro ⟨f,g⟩ j d
  rw [Nat.zero_add,f _ (List.getElem_mem d)]
  exact g j d
theorem j1B (d:DB):dbB d=true↔j2m d.1=true/\d.2.length=d.1.length/\∀ (i:Nat) (h:i<d.1.length) (j:i<d.2.length),j09 d.1[i] d.2[i]=true:=by
 unfold dbB
 rw [Bool.and_eq_true,Bool.and_eq_true,decide_eq_true_eq,Bool.not_eq_true',ja5]
 refine and_congr_right λ_=>and_congr_right λg=> ?_
 constructor
 ·intro h i b f
  have:=h i b
  rw [Nat.zero_add,Zay _ _ _ f,Bool.not_eq_false'] at this
  exact this
 ·intro h i b
  rw [Nat.zero_add,Zay _ _ _ (g ▸ b),h i b (g ▸ b)]
  rfl
theorem jiN {α:Type} {p:α->Bool} {l:List α} {i:Nat} (g:i<l.length) (d:p l[i]=true) (f:∀ (j:Nat) (b:j<i),p (l[j]'(by omega))=false):Z9F p l=(i:Int):=by
 unfold Z9F
 have:l.findIdx? p=some i:=List.findIdx?_eq_some_iff_getElem.2 ⟨g,d,λj b=>by rw [f j b];decide⟩
 rw [this]
theorem jrI {α:Type} {p:α->Bool} {l:List α} (h:∀ x∈l,p x=false):Z9F p l= -1:=by
 unfold Z9F
 have:l.findIdx? p=none:=List.findIdx?_eq_none_iff.2 h
 rw [this]
theorem jaW {α:Type} (p:α->Bool) (l:List α):(Z9F p l= -1/\∀ x∈l,p x=false)\/∃ (i:Nat) (b:i<l.length),Z9F p l=(i:Int)/\p l[i]=true/\∀ (j:Nat) (d:j<i),p (l[j]'(by omega))=false:=by
 unfold Z9F
 cases h:l.findIdx? p with
 | none=>exact .inl ⟨rfl,List.findIdx?_eq_none_iff.1 h⟩
 | some i=>
  obtain ⟨b,f,g⟩:=List.findIdx?_eq_some_iff_getElem.1 h
  exact .inr ⟨i,b,rfl,f,λj d=>by simpa using g j d⟩
theorem jqK {α:Type} {p:α->Bool} {l:List α} {i:Nat} (d:i<l.length) (b:p l[i]=true) (g:∀ (j:Nat) (f:j<l.length),p l[j]=true->j=i):Z9F p l=(i:Int):=
 jiN d b λj f=>by
  cases h:p (l[j]'(by omega)) with
  | false=>rfl
  | true=>exact absurd (g j (by omega) h) (by omega)
end Go.PI.G
namespace Go.PI.G
open Go Go.PI
theorem jiJ {l:List C} (h:l.Pairwise λa b=>a.1≠b.1) {i:Nat} (g:i<l.length):j02 l l[i].1=(i:Int):=by
 unfold j02
 refine jqK g (Zah _) λj k f=> ?_
 have f:=(j0a _ _).1 f
 rw [List.pairwise_iff_getElem] at h
 rcases Nat.lt_trichotomy i j with d | d | d
 ·exact absurd f.symm (h i j g k d)
 ·exact d.symm
 ·exact absurd f (h j i k g d)
theorem j6W (l:List C):j53 l=true↔(∀ c∈l,j1a c=true)/\l.Pairwise λa b=>a.1≠b.1:=by
 unfold j53
 rw [Bool.not_eq_true',ja5]
 constructor
 ·intro h
  refine ⟨λc k=> ?_,List.pairwise_iff_getElem.2 λi j n d p m=> ?_⟩
  ·obtain ⟨j,d,rfl⟩:=List.getElem_of_mem k
   have:=h j d
   simp only [Bool.or_eq_false_iff,Bool.not_eq_false'] at this
   exact this.1
  ·have f:=h i n
   have g:=h j d
   simp only [Bool.or_eq_false_iff,Nat.zero_add,bne_eq_false_iff_eq] at f g
   rw [m] at f
   omega
 ·rintro ⟨f,g⟩ j d
  rw [f _ (List.getElem_mem d),Nat.zero_add,jiJ g d]
  simp
theorem j5g (l:List C):(ks:List ByteArray)->(d:Int)->(j1m l d ks=true↔(∀ k∈ks,d<j02 l k/\(nth zC l (j02 l k)).2.2.1=true)/\ks.Pairwise λa b=>j02 l a<j02 l b)
 | [],_=>by simp [j1m]
 | k::ks,d=>by
  simp only [j1m,Bool.and_eq_true,Bool.not_eq_true',decide_eq_false_iff_not,j5g l ks,List.pairwise_cons,List.mem_cons,forall_eq_or_imp]
  constructor
  ·rintro ⟨j,h,g,i⟩
   exact ⟨⟨⟨by omega,h⟩,λq f=>⟨by have:=(g q f).1;omega,(g q f).2⟩⟩,λq f=>(g q f).1,i⟩
  ·rintro ⟨⟨⟨j,h⟩,g⟩,i,m⟩
   exact ⟨by omega,h,λq f=>⟨i q f,(g q f).2⟩,m⟩
theorem j7h (t:T):j05 t=true↔j0u t.1=true/\1<=t.2.1.length/\t.2.1.length<=8/\1<=t.2.2.length/\j53 t.2.1=true/\j1m t.2.1 (-1) t.2.2=true:=by
 unfold j05
 simp only [Bool.and_eq_true,decide_eq_true_eq,and_assoc]
theorem jqY {l:List C} {n:ByteArray} (h:∀ c∈l,c.1≠n):j02 l n= -1:=
 jrI λc b=>by
  cases d:sEq c.1 n with
  | false=>rfl
  | true=>exact absurd ((j0a _ _).1 d) (h c b)
theorem j1k (l:List C) (n:ByteArray):(j02 l n= -1/\∀ c∈l,c.1≠n)\/∃ (i:Nat) (f:i<l.length),j02 l n=(i:Int)/\l[i].1=n/\∀ (j:Nat) (g:j<i),(l[j]'(by omega)).1≠n:=by
 rcases jaW (λc:C=>sEq c.1 n) l with ⟨b,d⟩ | ⟨i,f,b,d,h⟩
 ·exact .inl ⟨b,λc k e=>by have:=d c k;rw [e,Zah] at this;cases this⟩
 ·exact .inr ⟨i,f,b,(j0a _ _).1 d,λj g e=>by have:=h j g;rw [e,Zah] at this;cases this⟩
theorem jhp {l l':List C} {ks:List ByteArray} (g:ByteArray->ByteArray) (h:j1m l (-1) ks=true) (f:∀ k∈ks,0<=j02 l' (g k)/\(nth zC l' (j02 l' (g k))).2.2.1=true)
  (i:∀ a∈ks,∀ b∈ks,j02 l a<j02 l b->j02 l' (g a)<j02 l' (g b)):j1m l' (-1) (ks.map g)=true:=by
 rw [j5g] at h ⊢
 refine ⟨λk n=> ?_,?_⟩
 ·obtain ⟨q,p,rfl⟩:=List.mem_map.1 n
  have:=f q p
  exact ⟨by omega,this.2⟩
 ·rw [List.pairwise_map]
  exact h.2.imp_of_mem λj m d=>i _ j _ m d
theorem j8p (l:List C) (r:List V):j0v l r=true↔r.length=l.length/\∀ (i:Nat) (b:i<l.length) (d:i<r.length),j3Z l[i] r[i]=true:=by
 unfold j0v
 rw [Bool.and_eq_true,decide_eq_true_eq,Bool.not_eq_true',ja5]
 refine and_congr_right λf=> ?_
 constructor
 ·intro h i b d
  have:=h i b
  rw [Nat.zero_add,Zay _ _ _ d,Bool.not_eq_false'] at this
  exact this
 ·intro h i b
  rw [Nat.zero_add,Zay _ _ _ (f ▸ b),h i b (f ▸ b)]
  rfl
def jko (t:T) (c:C):T:=(t.1,t.2.1++[c],t.2.2)
theorem jlB {α:Type} (z:α) (l m:List α) {i:Int} (h:0<=i/\i<(l.length:Int)):nth z (l++m) i=nth z l i:=by
 obtain ⟨n,rfl⟩:∃ n:Nat,i=(n:Int):=⟨i.toNat,by omega⟩
 rw [Zay _ _ _ (by rw [List.length_append];omega),Zay _ _ _ (by omega),List.getElem_append_left (by omega)]
theorem jfb {l:List C} {c:C} {n:ByteArray} (h:0<=j02 l n):j02 (l++[c]) n=j02 l n:=by
 rcases j1k l n with ⟨b,_⟩ | ⟨i,g,b,d,f⟩
 ·omega
 ·rw [b]
  refine jiN (by rw [List.length_append];omega) ?_ λj k=> ?_
  ·rw [List.getElem_append_left g,d];exact Zah _
  ·rw [List.getElem_append_left (by omega)]
   cases m:sEq (l[j]'(by omega)).1 n with
   | false=>rfl
   | true=>exact absurd ((j0a _ _).1 m) (f j k)
theorem jtk {t:T} {c:C} (ht:j05 t=true) (z:j1a c=true) (F:j02 t.2.1 c.1<0) (E:t.2.1.length<8):j05 (jko t c)=true:=by
 rw [j7h] at ht ⊢
 obtain ⟨r,A,B,w,g,j⟩:=ht
 have q:=j1n t.2.2 (-1) (by omega) j
 refine ⟨r,?_,?_,w,?_,?_⟩
 ·show 1<=(t.2.1++[c]).length;rw [List.length_append];omega
 ·show (t.2.1++[c]).length<=8;rw [List.length_append];simp;omega
 ·rw [j6W] at g ⊢
  refine ⟨λx f=> ?_,?_⟩
  ·rcases List.mem_append.1 f with f | f
   ·exact g.1 x f
   ·rw [List.mem_singleton.1 f];exact z
  ·show (t.2.1++[c]).Pairwise _
   rw [List.pairwise_append]
   refine ⟨g.2,List.pairwise_singleton _ _,λa m b p=> ?_⟩
   rw [List.mem_singleton.1 p]
   rcases j1k t.2.1 c.1 with ⟨_,h⟩ | ⟨i,D,h,_⟩
   ·exact h a m
   ·omega
 ·have:=jhp (l':=t.2.1++[c]) id j (λk d=>by
   have l:=q k d
   have y:j02 (t.2.1++[c]) k=j02 t.2.1 k:=jfb l.1
   simp only [id]
   rw [y,jlB _ _ _ l]
   exact ⟨l.1,((j5g _ _ _).1 j).1 k d |>.2⟩) (λa m b p n=>by
   simp only [id]
   rw [jfb (q a m).1,jfb (q b p).1]
   exact n)
  rw [List.map_id] at this
  exact this
theorem jsg {t:T} {c:C} (ht:j05 t=true) {r:List V} (f:r.length=t.2.1.length) (v:V):j07 (jko t c) (r++[v])=j07 t r:=by
 have d:=j1n t.2.2 (-1) (by omega) (j1x ht).2.2.2.2.2
 refine List.map_congr_left λk b=> ?_
 have:=d k b
 show nth zV (r++[v]) (j02 (t.2.1++[c]) k)=_
 rw [jfb this.1,jlB _ _ _ ⟨this.1,by omega⟩]
theorem jtj {l:List C} {c:C} {r:List V} (b:j0v l r=true) {v:V} (g:j3Z c v=true):j0v (l++[c]) (r++[v])=true:=by
 rw [j8p] at b ⊢
 refine ⟨by rw [List.length_append,List.length_append,b.1];rfl,λi d f=> ?_⟩
 by_cases h:i<l.length
 ·rw [List.getElem_append_left h,List.getElem_append_left (b.1 ▸ h)]
  exact b.2 i h _
 ·rw [List.length_append] at d
  simp only [List.length_cons,List.length_nil] at d
  have:i=l.length:=by omega
  subst this
  rw [List.getElem_append_right (Nat.le_refl _),List.getElem_append_right (by omega)]
  simpa using g
theorem jsx {c:C} (d:j1a c=true) (h:(c.2.2.2.1|| !c.2.2.1)=true):j3Z c c.2.2.2.2=true:=by
 unfold j1a at d
 simp only [Bool.and_eq_true] at d
 obtain ⟨_,_,g,b⟩:=d
 unfold j3Z
 rw [g,Bool.true_and]
 cases f:c.2.2.2.1
 ·rw [f] at h b
  rw [cond_false] at b
  unfold jjq at b
  rw [Bool.and_eq_true] at b
  rw [Bool.false_or] at h
  rw [b.1,h,Bool.and_self,Bool.or_true]
 ·rw [f,cond_true] at b
  exact b
def jhz (t:T) (n:ByteArray):T:=(t.1,t.2.1.filter λc=> !sEq c.1 n,t.2.2)
theorem jp2 {l:List C} (h:l.Pairwise λa b=>a.1≠b.1) {i:Nat} (g:i<l.length):(l.filter λc=> !sEq c.1 l[i].1)=l.eraseIdx i:=by
 induction l generalizing i with
 | nil=>simp at g
 | cons a l m=>
  rw [List.pairwise_cons] at h
  cases i with
  | zero=>
   simp only [List.getElem_cons_zero,List.filter_cons,Zah,Bool.not_true,List.eraseIdx_zero,List.tail_cons]
   rw [if_neg (by simp),List.filter_eq_self]
   intro c k
   have:=h.1 c k
   cases f:sEq c.1 a.1 with
   | false=>rfl
   | true=>exact absurd ((j0a _ _).1 f).symm this
  | succ i=>
   simp only [List.length_cons] at g
   have d:i<l.length:=by omega
   have j:sEq a.1 l[i].1=false:=by
    cases f:sEq a.1 l[i].1 with
    | false=>rfl
    | true=>exact absurd ((j0a _ _).1 f) (h.1 _ (List.getElem_mem d))
   simp only [List.getElem_cons_succ,List.filter_cons,j,Bool.not_false,if_true,List.eraseIdx_cons_succ]
   rw [m h.2 d]
theorem jcE {l:List C} (h:l.Pairwise λa b=>a.1≠b.1) {i:Nat} (n:i<l.length) {j:Nat} (q:j<l.length) (p:j≠i) :
  j02 (l.eraseIdx i) l[j].1=if j<i then (j:Int) else (j:Int)-1:=by
 have k:(l.eraseIdx i).Pairwise λa b=>a.1≠b.1:=h.sublist (List.eraseIdx_sublist _ _)
 have g:(l.eraseIdx i).length=l.length-1:=List.length_eraseIdx_of_lt n
 by_cases d:j<i
 ·rw [if_pos d]
  have f:(l.eraseIdx i)[j]'(by omega)=l[j]:=by rw [List.getElem_eraseIdx,dif_pos d]
  rw [<-f]
  exact jiJ k _
 ·rw [if_neg d]
  obtain ⟨m,rfl⟩:∃ m,j=m+1:=⟨j-1,by omega⟩
  have f:(l.eraseIdx i)[m]'(by omega)=l[m+1]:=by rw [List.getElem_eraseIdx,dif_neg (by omega)]
  rw [<-f,jiJ k]
  omega
theorem jnt {α:Type} (z:α) (l:List α) {i j:Nat} (f:i<l.length) (h:j<l.length) (g:j≠i):nth z (l.eraseIdx i) (if j<i then (j:Int) else (j:Int)-1)=l[j]:=by
 have d:(l.eraseIdx i).length=l.length-1:=List.length_eraseIdx_of_lt f
 by_cases b:j<i
 ·rw [if_pos b,Zay _ _ _ (by omega),List.getElem_eraseIdx,dif_pos b]
 ·rw [if_neg b]
  obtain ⟨m,rfl⟩:∃ m,j=m+1:=⟨j-1,by omega⟩
  rw [show ((m+1:Nat):Int)-1=(m:Int) by omega,Zay _ _ _ (by omega),List.getElem_eraseIdx,dif_neg (by omega)]
theorem jgM {t:T} (ht:j05 t=true) {n k:ByteArray} (g:k∈t.2.2) (h:(t.2.2.any λx=>sEq x n)=false) {i:Nat} (r:j02 t.2.1 n=(i:Int)):∃ (j:Nat) (f:j<t.2.1.length),j02 t.2.1 k=(j:Int)/\t.2.1[j].1=k/\j≠i:=by
 have w:=j1n t.2.2 (-1) (by omega) (j1x ht).2.2.2.2.2 k g
 rcases j1k t.2.1 k with ⟨b,_⟩ | ⟨j,f,b,d,_⟩
 ·omega
 ·refine ⟨j,f,b,d,λe=> ?_⟩
  rcases j1k t.2.1 n with ⟨l,_⟩ | ⟨q,p,l,m,_⟩
  ·omega
  ·have:j=q:=by omega
   subst this
   rw [List.any_eq_false] at h
   exact h k g (by rw [<-d,m];exact Zah _)
theorem jn0 {t:T} (ht:j05 t=true) {n:ByteArray} {i:Nat} (j:j02 t.2.1 n=(i:Int)):i<t.2.1.length/\jhz t n=(t.1,t.2.1.eraseIdx i,t.2.2):=by
 have g:=((j6W _).1 (j1x ht).2.2.2.2.1).2
 rcases j1k t.2.1 n with ⟨d,_⟩ | ⟨h,b,d,f,_⟩
 ·omega
 ·have:i=h:=by omega
  subst this
  refine ⟨b,?_⟩
  unfold jhz
  rw [<-f,jp2 g b]
theorem jtw {t:T} (ht:j05 t=true) {n:ByteArray} {i:Nat} (q:j02 t.2.1 n=(i:Int)) (y:(t.2.2.any λx=>sEq x n)=false):j05 (jhz t n)=true:=by
 obtain ⟨d,M⟩:=jn0 ht q
 have g:=ht
 rw [M]
 rw [j7h] at ht ⊢
 obtain ⟨H,P,Q,I,h,F⟩:=ht
 rw [j6W] at h
 have G:(t.2.1.eraseIdx i).length=t.2.1.length-1:=List.length_eraseIdx_of_lt d
 refine ⟨H,?_,?_,I,?_,?_⟩
 ·show 1<=(t.2.1.eraseIdx i).length
  obtain ⟨k,w⟩:∃ k,k∈t.2.2:=⟨t.2.2[0]'(by omega),List.getElem_mem _⟩
  obtain ⟨j,l,_,_,f⟩:=jgM g w y q
  omega
 ·show (t.2.1.eraseIdx i).length<=8
  omega
 ·show j53 (t.2.1.eraseIdx i)=true
  rw [j6W]
  exact ⟨λc L=>h.1 c (List.mem_of_mem_eraseIdx L),h.2.sublist (List.eraseIdx_sublist _ _)⟩
 ·have:=jhp (l':=t.2.1.eraseIdx i) id F (λk w=>by
   obtain ⟨j,l,z,B,f⟩:=jgM g w y q
   simp only [id]
   have m:=jcE h.2 d l f
   rw [B] at m
   rw [m]
   refine ⟨by split<;>omega,?_⟩
   rw [jnt zC t.2.1 d l f]
   have:=((j5g _ _ _).1 F).1 k w |>.2
   rw [z,Zay _ _ _ l] at this
   exact this) (λa J b K D=>by
   obtain ⟨j,l,z,B,f⟩:=jgM g J y q
   obtain ⟨R,E,A,C,r⟩:=jgM g K y q
   simp only [id]
   have m:=jcE h.2 d l f
   have p:=jcE h.2 d E r
   rw [B] at m
   rw [C] at p
   rw [m,p]
   rw [z,A] at D
   split<;>split<;>omega)
  rw [List.map_id] at this
  exact this
theorem jsN {t:T} (ht:j05 t=true) {n:ByteArray} {i:Nat} (g:j02 t.2.1 n=(i:Int)) (w:(t.2.2.any λx=>sEq x n)=false) {r:List V} (z:r.length=t.2.1.length):j07 (jhz t n) (r.eraseIdx i)=j07 t r:=by
 obtain ⟨d,m⟩:=jn0 ht g
 have y:=((j6W _).1 (j1x ht).2.2.2.2.1).2
 rw [m]
 refine List.map_congr_left λk q=> ?_
 obtain ⟨j,p,h,l,b⟩:=jgM ht q w g
 show nth zV (r.eraseIdx i) (j02 (t.2.1.eraseIdx i) k)=_
 have f:=jcE y d p b
 rw [l] at f
 rw [f,jnt zV r (by omega) (by omega) b,h,Zay _ _ _ (by omega)]
theorem jtv {l:List C} {r:List V} (d:j0v l r=true) (i:Nat):j0v (l.eraseIdx i) (r.eraseIdx i)=true:=by
 rw [j8p] at d ⊢
 refine ⟨by rw [List.length_eraseIdx,List.length_eraseIdx,d.1],λj b f=> ?_⟩
 have g:j+1<=l.length:=by
  rw [List.length_eraseIdx] at b
  split at b<;>omega
 rw [List.getElem_eraseIdx,List.getElem_eraseIdx]
 by_cases h:j<i
 ·rw [dif_pos h,dif_pos h];exact d.2 _ _ _
 ·rw [dif_neg h,dif_neg h]
  have:j+1<l.length:=by
   rw [List.length_eraseIdx] at b
   split at b<;>omega
  exact d.2 _ this _
def ren (n m s:ByteArray):ByteArray:=bif sEq s n then m else s
def j9i (n m:ByteArray) (c:C):C:=(ren n m c.1,c.2)
def jfm (t:T) (n m:ByteArray):T:=(t.1,t.2.1.map (j9i n m),t.2.2.map (ren n m))
theorem jn2 {n m a b:ByteArray} (g:a≠m) (i:b≠m) (h:ren n m a=ren n m b):a=b:=by
 unfold ren at h
 cases d:sEq a n<;>cases f:sEq b n<;>rw [d,f] at h<;>simp only [cond_true,cond_false] at h
 ·exact h
 ·exact absurd h g
 ·exact absurd h.symm i
 ·rw [(j0a _ _).1 d,(j0a _ _).1 f]
theorem jfc {l:List C} {n m:ByteArray} (f:∀ c∈l,c.1≠m) {s:ByteArray} (g:s≠m):j02 (l.map (j9i n m)) (ren n m s)=j02 l s:=by
 rcases j1k l s with ⟨b,d⟩ | ⟨i,q,b,d,k⟩
 ·rw [b]
  refine jqY λc p=> ?_
  obtain ⟨x,h,rfl⟩:=List.mem_map.1 p
  exact λe=>d x h (jn2 (f x h) g e)
 ·rw [b]
  refine jiN (by rw [List.length_map];exact q) ?_ λj r=> ?_
  ·rw [List.getElem_map]
   show sEq (ren n m l[i].1) (ren n m s)=true
   rw [d];exact Zah _
  ·rw [List.getElem_map]
   show sEq (ren n m (l[j]'(by omega)).1) (ren n m s)=false
   cases w:sEq (ren n m (l[j]'(by omega)).1) (ren n m s) with
   | false=>rfl
   | true=>exact absurd (jn2 (f _ (List.getElem_mem _)) g ((j0a _ _).1 w)) (k j r)
theorem jty {n m:ByteArray} (d:j0u m=true) {c:C} (b:j1a c=true):j1a (j9i n m c)=true:=by
 unfold j1a j9i at *
 simp only [Bool.and_eq_true] at b ⊢
 refine ⟨?_,b.2⟩
 unfold ren
 cases sEq c.1 n
 ·exact b.1
 ·exact d
theorem jsK {t:T} (ht:j05 t=true) {n m:ByteArray} (H:j0u m=true) (J:j02 t.2.1 m<0):j05 (jfm t n m)=true:=by
 rw [j7h] at ht ⊢
 obtain ⟨B,C,D,E,p,q⟩:=ht
 have A:=j1n t.2.2 (-1) (by omega) q
 have f:∀ c∈t.2.1,c.1≠m:=by
  rcases j1k t.2.1 m with ⟨_,h⟩ | ⟨i,_,h,_⟩
  ·exact h
  ·omega
 have l:∀ k∈t.2.2,k≠m:=λk d e=>by
  have:=(A k d).1
  rw [e] at this
  omega
 refine ⟨B,?_,?_,?_,?_,?_⟩
 ·show 1<=(t.2.1.map _).length;rw [List.length_map];exact C
 ·show (t.2.1.map _).length<=8;rw [List.length_map];exact D
 ·show 1<=(t.2.2.map _).length;rw [List.length_map];exact E
 ·show j53 (t.2.1.map (j9i n m))=true
  rw [j6W] at p ⊢
  refine ⟨λc F=> ?_,?_⟩
  ·obtain ⟨x,I,rfl⟩:=List.mem_map.1 F
   exact jty H (p.1 x I)
  ·rw [List.pairwise_map]
   exact p.2.imp_of_mem λw y g e=>g (jn2 (f _ w) (f _ y) e)
 ·refine jhp (l':=t.2.1.map (j9i n m)) (ren n m) q (λk d=> ?_) (λa w b y g=> ?_)
  ·rw [jfc f (l k d)]
   have z:=A k d
   refine ⟨z.1,?_⟩
   have r:=((j5g _ _ _).1 q).1 k d |>.2
   obtain ⟨j,G⟩:∃ j:Nat,j02 t.2.1 k=(j:Int):=⟨(j02 t.2.1 k).toNat,by omega⟩
   rw [G] at z r ⊢
   rw [Zay _ _ _ (by omega)] at r
   rw [Zay _ _ _ (by rw [List.length_map];omega),List.getElem_map]
   exact r
  ·rw [jfc f (l a w),jfc f (l b y)]
   exact g
theorem jrT {t:T} (ht:j05 t=true) {n m:ByteArray} (g:j02 t.2.1 m<0) (r:List V):j07 (jfm t n m) r=j07 t r:=by
 have f:=j1n t.2.2 (-1) (by omega) (j1x ht).2.2.2.2.2
 have d:∀ c∈t.2.1,c.1≠m:=by
  rcases j1k t.2.1 m with ⟨_,h⟩ | ⟨i,_,h,_⟩
  ·exact h
  ·omega
 show ((t.2.2.map (ren n m)).map λk=>nth zV r (j02 (t.2.1.map (j9i n m)) k))=_
 rw [List.map_map]
 refine List.map_congr_left λk b=> ?_
 simp only [Function.comp]
 rw [jfc d λe=>by have:=(f k b).1;rw [e] at this;omega]
theorem jsy {n m:ByteArray} (c:C) (v:V):j3Z (j9i n m c) v=j3Z c v:=rfl
theorem jsJ {l:List C} {r:List V} (d:j0v l r=true) (n m:ByteArray):j0v (l.map (j9i n m)) r=true:=by
 rw [j8p] at d ⊢
 refine ⟨by rw [List.length_map];exact d.1,λi f b=> ?_⟩
 rw [List.getElem_map,jsy]
 exact d.2 i (by rw [List.length_map] at f;exact f) b
theorem jj6 {t t':T} {l:List (List V)} (f:List V->List V) (h:j09 t l=true) (ht:j05 t'=true) (p:∀ r,j0v t.2.1 r=true->j0v t'.2.1 (f r)=true) (i:∀ r,j0v t.2.1 r=true->j07 t' (f r)=j07 t r):j09 t' (l.map f)=true:=by
 rw [j5k] at h ⊢
 obtain ⟨_,j,b,k⟩:=h
 refine ⟨ht,by rw [List.length_map];exact j,λr g=> ?_,?_⟩
 ·obtain ⟨x,q,rfl⟩:=List.mem_map.1 g
  exact p x (b x q)
 ·rw [List.pairwise_map]
  refine k.imp_of_mem λm n d=> ?_
  rw [i _ (b _ m),i _ (b _ n)]
  exact d
end Go.PI.G
