/-
  Program's code interpreted over typed values; printed texts; plain laws. No conditions.
-/
import Derived.Test.YtnemiodjnhfejaaGreatPTh
import Derived.Test.YtnemiodjnhfejaaGreatPTm
import Derived.Test.YtnemiodjnhfejaaGreatPTk
import Derived.Test.YtnemiodjnhfejaaGreatPTi
set_option linter.unusedVariables false
set_option linter.unusedSimpArgs false
namespace Go.PI.G
open Go Go.PI Go.Proofs
theorem jn3 {d:DB} (h:dbB d=true) {i j:Nat} (b:i<d.2.length) (f:j<d.2[i].length):d.2[i][j].length<=1048576:=
 ((jc0 h).2.2.2 _ (List.getElem_mem b)).2 _ (List.getElem_mem f)
theorem jbh {d:DB} (h:dbB d=true) (t:ByteArray) (b:List V) :
  (j04 d.1 t<0/\j9G d t b=([],false))\/∃ (i:Nat) (g:i<d.1.length) (f:i<d.2.length),j04 d.1 t=(i:Int)/\j05 d.1[i]=true/\j09 d.1[i] d.2[i]=true /\
   ((j06 d.1[i] d.2[i] b<0/\j9G d t b=([],false))\/∃ (j:Nat) (l:j<d.2[i].length),j06 d.1[i] d.2[i] b=(j:Int)/\j9G d t b=(d.2[i][j],true)):=by
 obtain ⟨m,p,n⟩:=(j1B d).1 h
 unfold j9G
 rcases j0s d.1 t with ⟨e,_⟩ | ⟨i,g,e,_⟩
 ·left
  rw [e]
  exact ⟨by omega,rfl⟩
 ·right
  have f:i<d.2.length:=by omega
  refine ⟨i,g,f,e,((j0e _).1 m).2.1 _ (List.getElem_mem g),n i g f,?_⟩
  rw [e,decide_eq_false (by omega),cond_false,Zay _ _ _ g,Zay _ _ _ f]
  rcases jbg d.1[i] d.2[i] b with ⟨k,_⟩ | ⟨j,l,k,_⟩
  ·left
   rw [k]
   exact ⟨by omega,rfl⟩
  ·right
   refine ⟨j,l,k,?_⟩
   rw [k,decide_eq_false (by omega),cond_false,Zay _ _ _ l]
theorem jr9 {d:DB} (h:dbB d=true) (t:ByteArray) (b:List V):(j9G d t b).1.length<=1048576:=by
 rcases jbh h t b with ⟨_,e⟩ | ⟨i,k,f,_,_,_,⟨_,e⟩ | ⟨j,g,_,e⟩⟩
 ·rw [e];exact Nat.zero_le _
 ·rw [e];exact Nat.zero_le _
 ·rw [e];exact jn3 h f g
theorem jjr {t:T} (ht:j05 t=true):msr yT t<=1048576:=Nat.le_trans (jaI ht) (by omega)
theorem jqB (l:List RC) (h:l.length<=1048576) (F:∀ r∈l,j15 r.2.2) (t:ByteArray) (f:List V) (p:Int) (k:List V->Bool->Res):j6M l t f p k=k (j08 l t f p).1 (j08 l t f p).2:=by
 unfold j6M j08
 rw [jqt l h F]
 rcases jcF l p with ⟨y,C⟩ | ⟨m,rfl,E,D,y⟩
 ·rw [y,C,j8y _ _ (by unfold LIM;simp)]
  rfl
 ·have n:=(j8O D E).2
  have z:=(jc0 n).2.1
  rw [y,cond_true]
  generalize j0f l m=d at n z
  rw [j8y _ _ (by unfold LIM;omega),Bool.not_true,cond_false]
  rcases jbh n t f with ⟨g,e⟩ | ⟨i,q,b,g,ht,B,⟨w,e⟩ | ⟨j,A,w,e⟩⟩
  ·rw [e,decide_eq_true g];rfl
  ·rw [e,g,decide_eq_false (by omega),cond_false,j00 q,cond_true,j00 b,cond_true,Zay _ _ _ q,Zay _ _ _ b,j6I _ (jjr ht) _ B,decide_eq_true w];rfl
  ·rw [e,g,decide_eq_false (by omega),cond_false,j00 q,cond_true,j00 b,cond_true,Zay _ _ _ q,Zay _ _ _ b,j6I _ (jjr ht) _ B,w,decide_eq_false (by omega),cond_false,cond_true,j00 A,cond_true,Zay _ _ _ A]
   unfold j0b
   rw [jeB (jn3 n b A)]
   rfl
theorem jpe (d:DB) (m:dbB d=true) (t:ByteArray) (f:List V) (k:List V->Bool->Res):j8S d t f k=k (j9G d t f).1 (j9G d t f).2:=by
 have q:=(jc0 m).2.1
 unfold j8S
 rw [j69 _ _ (by unfold LIM;omega)]
 rcases jbh m t f with ⟨g,e⟩ | ⟨i,h,b,g,ht,p,⟨l,e⟩ | ⟨j,n,l,e⟩⟩
 ·rw [e,decide_eq_true g];rfl
 ·rw [e,g,decide_eq_false (by omega),cond_false,j00 h,cond_true,j00 b,cond_true,Zay _ _ _ h,Zay _ _ _ b,j1M _ (jjr ht) _ p,decide_eq_true l];rfl
 ·rw [e,g,decide_eq_false (by omega),cond_false,j00 h,cond_true,j00 b,cond_true,Zay _ _ _ h,Zay _ _ _ b,j1M _ (jjr ht) _ p,l,decide_eq_false (by omega),cond_false,cond_true,j00 n,cond_true,Zay _ _ _ n]
  unfold j0y
  rw [jeB (jn3 m b n)]
  rfl
theorem jeF (l:List RC) (t:ByteArray) (b:List V) (p:Int):(j08 l t b p).1.length<=1048576:=by
 unfold j08
 rcases jcF l p with ⟨d,h⟩ | ⟨m,rfl,g,f,d⟩
 ·rw [d];exact Nat.zero_le _
 ·rw [d,cond_true]
  exact jr9 (j8O f g).2 t b
end Go.PI.G
namespace Go.PI.G
open Go Go.PI Go.Proofs
theorem jnC (l:List RC) (t:ByteArray) (b:List V) (a:(List V×Bool)×List SN) (p:Int):(j9Y l t b a p).2.length<=a.2.length+1:=by
 unfold j9Y
 cases ((j08 l t b p).2 != a.1.2)|| !j0z zV veq (j08 l t b p).1 a.1.1
 ·exact Nat.le_succ _
 ·show (a.2++[_]).length<=_
  simp
theorem js2 (l:List RC) (t:ByteArray) (b:List V) (a:SN×List SN) (p:Int):(jfs l t b a p).2.length<=a.2.length+1:=by
 unfold jfs
 cases ((j08 l t b p).2 != a.1.2.2)|| !j0z zV veq (j08 l t b p).1 a.1.2.1
 ·exact Nat.le_succ _
 ·show (a.2++[_]).length<=_
  simp
theorem jpP (b ok:Bool) (row r:List V) (d:r.length<=1048576) (k:Bool->Res):j8C b ok row r k=k ((ok != b)|| !j0z zV veq r row):=by
 unfold j8C
 rw [jft _ _ (by unfold LIM;omega)]
 unfold bne
 cases ok==b<;>rfl
theorem jpb (d:Bool) (b:SN) (r:List V) (f:r.length<=1048576) (k:Bool->Res):j8i d b r k=k ((d != b.2.2)|| !j0z zV veq r b.2.1):=by
 unfold j8i
 rw [jaX _ _ (by unfold LIM;omega)]
 unfold bne
 cases d==b.2.2<;>rfl
theorem jqz (l:List RC) (h:l.length<=1048576) (j:∀ r∈l,j15 r.2.2) (t:ByteArray) (b:List V) (k:List SN->Res):jaM l t b k=k (j9Q l t b):=by
 unfold jaM j9Q
 rw [jrf l h j]
 have m:(j0p l).length<=1048576:=Nat.le_trans (jei l) h
 generalize j0p l=c at m
 unfold jeQ
 refine Z8i c (λi (a:(List V×Bool)×List SN)=>(a.2,a.1.2,i,a.1.1)) (j9Y l t b) (λi a=>a.2.length<=i) (step:=j6L l t b c (nI c.length)) (λf=>k f) (λa=>k a.2) (([],false),[]) (by unfold LIM;omega) (Nat.zero_le _) (λi a d g=>Nat.le_trans (jnC _ _ _ _ _) (by omega)) (λi a rec d g=>by
  show j3U _ _ _ _ _ _ _ _ _ _ _=_
  unfold j3U j9Y
  dsimp only
  rw [ZaQ d,cond_true,j00 d,cond_true,Zay _ _ _ d,jqB l h j,j01 (n:=(i:Int)+1) (by omega),jpP _ _ _ _ (jeF _ _ _ _)]
  unfold j0b
  rw [jeB (jeF l t b c[i]),cond_true,ZaL (by unfold LIM;omega)]
  cases ((j08 l t b c[i]).2 != a.1.2)|| !j0z zV veq (j08 l t b c[i]).1 a.1.1<;>rfl) (λa rec g=>by
  show j3U _ _ _ _ _ _ _ _ _ _ _=_
  unfold j3U
  dsimp only
  rw [ZaP,cond_false])
theorem jsm {l:List RC} (h:j2a l=true) {c:Int} (b:c∈j0p l):j7U l c=true/\dbB (j0f l c)=true:=by
 have:jsk l c=true:=(jp6 _ _).2 b
 obtain ⟨_,i,d,rfl,_⟩:=(jsl l c).1 this
 have e:(i:Int)+1=((i+1:Nat):Int):=by omega
 rw [e]
 refine ⟨?_,(j8O h d).2⟩
 unfold j7U
 rw [h,decide_eq_true (by omega)]
 rfl
theorem jjY (l:List RC) (h:l.length<=1048576) (p:∀ r∈l,j15 r.2.2) (t:ByteArray) (b:List V) (k:List SN->Res):j6X l t b k=k (j9Q l t b):=by
 unfold j6X
 rw [jlq l h p,jsO]
 cases m:j2a l
 ·unfold j0p
  rw [m]
  rfl
 rw [Bool.not_true,cond_false,jr1 l h p,jo9 l h p m]
 have y:∀ c∈j0p l,j7U l c=true/\dbB (j0f l c)=true:=λc j=>jsm m j
 have j:(j0p l).length<=1048576:=Nat.le_trans (jei l) h
 generalize j0p l=c at j y
 unfold jb1
 have g:(c.map (j0f l)).length=c.length:=List.length_map ..
 rw [g]
 refine Z8i c (λi (a:SN×List SN)=>(a.2,i,a.1)) (jfs l t b) (λi a=>a.2.length<=i) (step:=j6c t b c (c.map (j0f l)) (nI c.length)) (λq=>k q) (λa=>k a.2) ((0,[],false),[]) (by unfold LIM;omega) (Nat.zero_le _) (λi a d w=>Nat.le_trans (js2 _ _ _ _ _) (by omega)) (λi a rec d w=>by
  show j3L _ _ _ _ _ _ _ _ _ _=_
  unfold j3L jfs
  dsimp only
  have f:i<(c.map (j0f l)).length:=by omega
  obtain ⟨A,B⟩:=y _ (List.getElem_mem d)
  have z:j9G (j0f l c[i]) t b=j08 l t b c[i]:=by
   unfold j08
   rw [A,cond_true]
  rw [ZaQ d,cond_true,j00 f,cond_true,Zay _ _ _ f,List.getElem_map,jpe _ B,z,j01 (n:=(i:Int)+1) (by omega),jpb _ _ _ (jeF _ _ _ _),j00 d,cond_true,Zay _ _ _ d,ZaL (by unfold LIM;omega),cond_true]
  cases ((j08 l t b c[i]).2 != a.1.2.2)|| !j0z zV veq (j08 l t b c[i]).1 a.1.2.1<;>rfl) (λa rec w=>by
  show j3L _ _ _ _ _ _ _ _ _ _=_
  unfold j3L
  dsimp only
  rw [ZaP,cond_false])
end Go.PI.G
namespace Go.PI.G
open Go Go.PI Go.Proofs
theorem ji3 (k:ByteArray->Res):∀ (m n d:Nat) (s:ByteArray),n<m->0<n->n<=4294967296->n<10 ^ (d+1)->s.size+d<=1000 ->
  Z1f j5j m ((n:Int),s) k=k (jhi n++s)
 | 0,n,d,s,h,_,_,_,_=>by omega
 | m+1,n,d,s,h,q,p,i,r=>by
  rw [Z9Y]
  show j2H _ _ _ _=_
  unfold j2H
  have l:decide ((n:Int)>0)=true:=decide_eq_true (by omega)
  rw [l,cond_true,jt4,jt5,ZaH (n:=((n / 10:Nat):Int)) (by omega) (by omega)]
  show (bif lim ((dgt ((n % 10:Nat):Int)).size+s.size) then Z1f j5j m (((n / 10:Nat):Int),dgt ((n % 10:Nat):Int)++s) k else none)=_
  rw [jel,ZaL (by unfold LIM;omega),cond_true]
  by_cases b:n<10
  ·have f:n / 10=0:=by omega
   have g:n % 10=n:=by omega
   rw [f,g,jmC b]
   obtain ⟨m,rfl⟩:∃ e,m=e+1:=⟨m-1,by omega⟩
   rw [Z9Y]
   show j2H _ _ _ _=_
   unfold j2H
   have j:decide (((0:Nat):Int)>0)=false:=decide_eq_false (by omega)
   rw [j,cond_false]
  ·obtain ⟨d,rfl⟩:∃ e,d=e+1:=by
    cases d with
    | zero=>exact absurd (by simpa using i) b
    | succ d=>exact ⟨d,rfl⟩
   rw [ji3 k m (n / 10) d _ (by omega) (by omega) (by omega) (Nat.div_lt_of_lt_mul (by rw [Nat.pow_succ] at i;omega)) (by rw [ByteArray.size_append,jel];omega),jqI b,ByteArray.append_assoc]
theorem j5F (k:Int) (h:1<=k/\k<=4294967296) (K:ByteArray->Res):j0o k K=K (mT k):=by
 unfold j0o jew
 have d:decide (k<=0)=false:=decide_eq_false (by omega)
 have:=ji3 (λ(b:ByteArray)=>bif lim (1+(ByteArray.size b)) then K (z_m++b) else none) Z1c k.toNat 12 eS (Z2b (by omega)) (by omega) (by omega) (by omega) (by show 0+12<=1000;omega)
 rw [show ((k.toNat:Nat):Int)=k by omega,jtG] at this
 rw [d,cond_false]
 refine this.trans ?_
 have f:=jnm 12 k.toNat (by omega)
 rw [ZaL (by unfold LIM;omega),cond_true]
 rfl
end Go.PI.G
set_option maxRecDepth 10000
namespace Go.PI.G
open Go Go.PI Go.Proofs
theorem jpY (a:Int×Int×ByteArray) (h:msr y2 a<=1048576) (k:qV->Res):jbc a k=k a:=by
 unfold jbc
 rfl
theorem jpV (a:Int×Int×ByteArray) (left:Int) (h:0<=left) (i:left<=1048576) (g:Wf y2 a) (k:Int->Res):jba a left k=k (szR left (msr y2 a)):=by
 have f:msr y2 a=ByteArray.size a.2.2+0:=by simp only [msr]<;>omega
 rw [f]
 unfold jba
 have d:ByteArray.size a.2.2<=maxLen:=g.2.2
 unfold maxLen at d
 rw [j01 (by unfold nI;omega)]
 by_cases b:((ByteArray.size a.2.2:Nat):Int)<=left
 rotate_left
 ·rw [Zal b,Za5 (by unfold nI;omega),cond_true]
 rw [Za4 (by unfold nI;omega),cond_false,Zak b,show left-nI (ByteArray.size a.2.2)=left-((ByteArray.size a.2.2:Nat):Int) from rfl]
 exact jh4 (by omega)
theorem jp1 (a:Int×Int×ByteArray) (h:msr y2 a<=1048576) (k:Bool->Res):jb8 a a k=k true:=by
 unfold jb8
 simp only [ZaO,Zai,beq_self_eq_true,cond_false,Bool.not_true]
end Go.PI.G
namespace Go.PI.G
open Go Go.PI Go.Proofs
theorem jt6 (a:ByteArray×Int×Bool×Bool×Int×Int×ByteArray) (h:msr y7 a<=1048576) (k:qC->Res):jdT a k=k a:=by
 have b:msr y2 a.2.2.2.2<=1048576:=(Nat.le_trans (@j03 .bool y2 a.2.2.2) (Nat.le_trans (@j03 .bool y4 a.2.2) (Nat.le_trans (@j03 (.int .i64) y5 a.2) (Nat.le_trans (@j03 .str y6 a) h))))
 unfold jdT
 simp only [jpY _ b]
theorem jsY (a:ByteArray×Int×Bool×Bool×Int×Int×ByteArray) (left:Int) (i:0<=left) (j:left<=1048576) (g:Wf y7 a) (k:Int->Res):jdR a left k=k (szR left (msr y7 a)):=by
 have h:msr y7 a=ByteArray.size a.1+(msr y2 a.2.2.2.2+0):=by simp only [msr]<;>omega
 rw [h]
 unfold jdR
 have f:ByteArray.size a.1<=maxLen:=g.1
 unfold maxLen at f
 rw [j01 (by unfold nI;omega)]
 by_cases d:((ByteArray.size a.1:Nat):Int)<=left
 rotate_left
 ·rw [Zal d,Za5 (by unfold nI;omega),cond_true]
 rw [Za4 (by unfold nI;omega),cond_false,Zak d,show left-nI (ByteArray.size a.1)=left-((ByteArray.size a.1:Nat):Int) from rfl]
 rw [jpV _ _ (by omega) (by omega) g.2.2.2.2]
 by_cases b:((msr y2 a.2.2.2.2:Nat):Int)<=left-(ByteArray.size a.1:Nat)
 rotate_left
 ·rw [Zaz b,Zal b,Za5 (by omega),cond_true]
 rw [ZaA b,Zak b,Za4 (by omega),cond_false]
 exact jh4 (by omega)
theorem jsu (a:ByteArray×Int×Bool×Bool×Int×Int×ByteArray) (h:msr y7 a<=1048576) (k:Bool->Res):jdP a a k=k true:=by
 have b:msr y2 a.2.2.2.2<=1048576:=(Nat.le_trans (@j03 .bool y2 a.2.2.2) (Nat.le_trans (@j03 .bool y4 a.2.2) (Nat.le_trans (@j03 (.int .i64) y5 a.2) (Nat.le_trans (@j03 .str y6 a) h))))
 unfold jdP
 simp only [ZaO,Zai,beq_self_eq_true,cond_false,Bool.not_true,jp1 _ b]
end Go.PI.G
namespace Go.PI.G
open Go Go.PI Go.Proofs
theorem js8 (a:qE) (h:msr y8 a<=1048576) (k:qE->Res):j9E a k=k a:=by
 have g:a.length<=1048576:=j0l h
 unfold j9E
 rw [Zav (by unfold LIM;omega),cond_true]
 have:=ZaC ((eS,0,false,false,0,0,eS)) a id (step:=jac a) (λb=>k b) (by unfold LIM;omega) (λb i rec d f=>by
  show j4n a _ _ _ _=_
  unfold j4n
  dsimp only
  simp only [ZaQ d,cond_true,j00 d,j00 (show i<b.length by omega),Zay _ _ _ d,ZaF,j01 (n:=(i:Int)+1) (by omega),jt6 _ (j0M h (List.getElem_mem d))]
  rfl) (λb rec=>by
  show j4n a _ _ _ _=_
  unfold j4n
  dsimp only
  rw [ZaP,cond_false])
 rw [List.map_id] at this
 exact this
theorem js5 (a:qE) (left:Int) (g:0<=left) (h:left<=1048576) (l:Wf y8 a) (k:Int->Res):j9B a left k=k (szR left (msr y8 a)):=by
 have j:a.length<=maxLen:=l.1
 have p:msr y8 a=a.length+(a.map (msr y7)).sum:=rfl
 rw [p]
 unfold j9B
 refine jml (F:=λq=>jcb a Z1c q 0 (λd=>k d) (λ_=>k (-1))) (k:=k) g h j λb=> ?_
 unfold jcb
 rw [ZaB (msr y7) a _ (by omega) (λleft i rec f g h=> ?_) (λleft rec=> ?_) _ (by omega) (by omega)]
 ·by_cases b:(((a.map (msr y7)).sum:Nat):Int)<=left-a.length
  ·rw [if_pos b,ZaA b]
  ·rw [if_neg b,Zaz b]
 ·show j4k a _ _ _ _ _=_
  have r:=l.2 _ (List.getElem_mem f)
  unfold j4k
  rw [ZaQ f,cond_true,j00 f,cond_true,Zay _ _ _ f,jsY _ _ g h r]
  have m:(i:Int)<4611686018427387904:=by unfold maxLen at j;omega
  rw [j01 (n:=(i:Int)+1) (by omega)]
  by_cases b:((msr y7 a[i]:Nat):Int)<=left
  ·rw [if_pos b,ZaA b,Za4 (by omega),cond_false]
  ·rw [if_neg b,Zaz b,Za5 (by omega),cond_true]
 ·show j4k a _ _ _ _ _=_
  unfold j4k
  rw [ZaP,cond_false]
theorem jrE (a:qE) (h:msr y8 a<=1048576) (k:Bool->Res):j9y a a k=k true:=by
 have d:a.length<=1048576:=j0l h
 unfold j9y
 rw [ZaO,cond_false]
 unfold jgN
 rw [Zar a _ (by unfold LIM;omega) (λi rec b=> ?_) (λrec=> ?_)]
 ·show j47 a a _ _ _ _=_
  unfold j47
  simp only [ZaQ b,cond_true,j00 b,Zay _ _ _ b,j01 (n:=(i:Int)+1) (by omega),ZaO,Zai,cond_false,Bool.not_true,jsu _ (j0M h (List.getElem_mem b))]
 ·show j47 a a _ _ _ _=_
  unfold j47
  rw [ZaP,cond_false]
theorem jqp (a:qE) (k:Int) (h:msr y8 a<=1048576) (w:1<=k) (m:k+(wgt y8 a:Int)<=4294967296) (K:Int->qE->Res):j9O a k K=K (k+(wgt y8 a:Int)) (mkL (wgt y7) (mk y7) a k):=by
 have y:a.length<=1048576:=j0l h
 have f:wgt y8 a=(a.map (wgt y7)).sum:=rfl
 rw [f] at m ⊢
 unfold j9O jeu
 have:=Z9Z (wgt y7) (mk y7) a k (λl k i=>(l,k,i)) (step:=j5h) (λl k=>K k l) (λl k=>K k l) (by unfold LIM;omega) (λl i rec g b n d=>by
  have q:=Z7B (wgt y7) a i g
  have r:=Z9L (wgt y7) a (i+1)
  generalize A:k+((((a.take i).map (wgt y7)).sum:Nat):Int)=κ
  have p:1<=κ/\κ+(wgt y7 a[i]:Int)<=4294967296:=by omega
  have z:(wgt y7 a[i]:Int)=1+1+1+1+1+1+1:=by
   have:wgt y7 a[i]=1+1+1+1+1+1+1:=by first | rfl | (simp only [wgt];done) | (simp only [wgt];omega)
   first | rfl | omega
  show j1C _ _ _ _ _=_
  dsimp only
  unfold j1C j4a j4b j4c
  rw [<-b] at g
  have j:i<a.length:=by omega
  simp (disch:=first | assumption | omega) only [show nI a.length=nI l.length by rw [b],ZaQ,j00,jh5,cond_true,jgR,jh6,Zay,d,j01,j5F,<-b]
  rw [ZaF]
  congr 3<;>first | rfl | omega | (simp only [j4U,j35,j7x,j9P,j4T,j7y,j3a,j4X,j39,j4Y,Int.natCast_add,Int.natCast_one,<-Int.add_assoc];done) | (simp only [j4U,j35,j7x,j9P,j4T,j7y,j3a,j4X,j39,j4Y,Int.natCast_add,Int.natCast_one,<-Int.add_assoc];rfl) | skip) (λl k rec b=>by
  show j1C _ _ _ _ _=_
  dsimp only
  unfold j1C j4a j4b j4c
  rw [<-b,ZaP,cond_false])
 exact this
end Go.PI.G
namespace Go.PI.G
open Go Go.PI Go.Proofs
theorem jpX (a:(List ByteArray)) (h:msr y0 a<=1048576) (k:(List ByteArray)->Res):j6o a k=k a:=by
 have g:a.length<=1048576:=j0l h
 unfold j6o
 rw [Zav (by unfold LIM;omega),cond_true]
 have:=ZaC (eS) a id (step:=j7Q a) (λb=>k b) (by unfold LIM;omega) (λb i rec d f=>by
  show j2i a _ _ _ _=_
  unfold j2i
  dsimp only
  simp only [ZaQ d,cond_true,j00 d,j00 (show i<b.length by omega),Zay _ _ _ d,ZaF,j01 (n:=(i:Int)+1) (by omega)]
  rfl) (λb rec=>by
  show j2i a _ _ _ _=_
  unfold j2i
  dsimp only
  rw [ZaP,cond_false])
 rw [List.map_id] at this
 exact this
theorem jpU (a:(List ByteArray)) (left:Int) (j:0<=left) (l:left<=1048576) (p:Wf y0 a) (k:Int->Res):j6n a left k=k (szR left (msr y0 a)):=by
 have m:a.length<=maxLen:=p.1
 have r:msr y0 a=a.length+(a.map (msr .str)).sum:=rfl
 rw [r]
 unfold j6n
 refine jml (F:=λq=>j9h a Z1c q 0 (λd=>k d) (λ_=>k (-1))) (k:=k) j l m λb=> ?_
 unfold j9h
 rw [ZaB (msr .str) a _ (by omega) (λleft i rec f j l=> ?_) (λleft rec=> ?_) _ (by omega) (by omega)]
 ·by_cases b:(((a.map (msr .str)).sum:Nat):Int)<=left-a.length
  ·rw [if_pos b,ZaA b]
  ·rw [if_neg b,Zaz b]
 ·show j2h a _ _ _ _ _=_
  have h:=p.2 _ (List.getElem_mem f)
  unfold j2h
  have h:a[i].size<=maxLen:=h
  unfold maxLen at h m
  rw [ZaQ f,cond_true,j00 f,cond_true,Zay _ _ _ f,j01 (n:=left-nI a[i].size) (by unfold nI;omega),j01 (n:=(i:Int)+1) (by omega)]
  unfold nI
  by_cases b:((msr .str a[i]:Nat):Int)<=left
  ·have g:(a[i].size:Int)<=left:=b
   rw [if_pos b,Za4 (by omega),cond_false];rfl
  ·have g:¬ (a[i].size:Int)<=left:=b
   rw [if_neg b,Za5 (by omega),cond_true]
 ·show j2h a _ _ _ _ _=_
  unfold j2h
  rw [ZaP,cond_false]
theorem jp0 (a:(List ByteArray)) (h:msr y0 a<=1048576) (k:Bool->Res):j6k a a k=k true:=by
 have d:a.length<=1048576:=j0l h
 unfold j6k
 rw [ZaO,cond_false]
 unfold jdD
 rw [Zar a _ (by unfold LIM;omega) (λi rec b=> ?_) (λrec=> ?_)]
 ·show j2e a a _ _ _ _=_
  unfold j2e
  simp only [ZaQ b,cond_true,j00 b,Zay _ _ _ b,j01 (n:=(i:Int)+1) (by omega),ZaO,Zai,cond_false,Bool.not_true]
 ·show j2e a a _ _ _ _=_
  unfold j2e
  rw [ZaP,cond_false]
theorem jmM (a:(List ByteArray)) (k:Int) (h:msr y0 a<=1048576) (w:1<=k) (m:k+(wgt y0 a:Int)<=4294967296) (K:Int->(List ByteArray)->Res):j77 a k K=K (k+(wgt y0 a:Int)) (mkL (wgt .str) (mk .str) a k):=by
 have y:a.length<=1048576:=j0l h
 have f:wgt y0 a=(a.map (wgt .str)).sum:=rfl
 rw [f] at m ⊢
 unfold j77 jbS
 have:=Z9Z (wgt .str) (mk .str) a k (λl k i=>(l,k,i)) (step:=j6m) (λl k=>K k l) (λl k=>K k l) (by unfold LIM;omega) (λl i rec g b n d=>by
  have q:=Z7B (wgt .str) a i g
  have r:=Z9L (wgt .str) a (i+1)
  generalize A:k+((((a.take i).map (wgt .str)).sum:Nat):Int)=κ
  have p:1<=κ/\κ+(wgt .str a[i]:Int)<=4294967296:=by omega
  have z:(wgt .str a[i]:Int)=1:=by
   have:wgt .str a[i]=1:=by first | rfl | (simp only [wgt];done) | (simp only [wgt];omega)
   first | rfl | omega
  show j1E _ _ _ _ _=_
  dsimp only
  unfold j1E
  rw [<-b] at g
  have j:i<a.length:=by omega
  simp (disch:=first | assumption | omega) only [show nI a.length=nI l.length by rw [b],ZaQ,j00,jh5,cond_true,jgR,jh6,Zay,d,j01,j5F,<-b]
  rw [ZaF]
  congr 3<;>first | rfl | omega | (simp only [j4U,j35,j7x,j9P,j4T,j7y,j3a,j4X,j39,j4Y,Int.natCast_add,Int.natCast_one,<-Int.add_assoc];done) | (simp only [j4U,j35,j7x,j9P,j4T,j7y,j3a,j4X,j39,j4Y,Int.natCast_add,Int.natCast_one,<-Int.add_assoc];rfl) | skip) (λl k rec b=>by
  show j1E _ _ _ _ _=_
  dsimp only
  unfold j1E
  rw [<-b,ZaP,cond_false])
 exact this
end Go.PI.G
namespace Go.PI.G
open Go Go.PI Go.Proofs
theorem jt7 (a:Int×ByteArray×qE×List ByteArray×ByteArray×ByteArray) (h:msr y13 a<=1048576) (k:(Int×ByteArray×qE×List ByteArray×ByteArray×ByteArray)->Res):j8Y a k=k a:=by
 have b:msr y8 a.2.2.1<=1048576:=(Nat.le_trans (@j2q y8 y10 a.2.2) (Nat.le_trans (@j03 .str y11 a.2) (Nat.le_trans (@j03 (.int .i64) y12 a) h)))
 have d:msr y0 a.2.2.2.1<=1048576:=(Nat.le_trans (@j2q y0 y9 a.2.2.2) (Nat.le_trans (@j03 y8 y10 a.2.2) (Nat.le_trans (@j03 .str y11 a.2) (Nat.le_trans (@j03 (.int .i64) y12 a) h))))
 unfold j8Y
 simp only [js8 _ b,jpX _ d]
theorem jsZ (a:Int×ByteArray×qE×List ByteArray×ByteArray×ByteArray) (left:Int) (p:0<=left) (q:left<=1048576) (i:Wf y13 a) (k:Int->Res):j8X a left k=k (szR left (msr y13 a)):=by
 have n:msr y13 a=ByteArray.size a.2.1+(msr y8 a.2.2.1+(msr y0 a.2.2.2.1+(ByteArray.size a.2.2.2.2.1+(ByteArray.size a.2.2.2.2.2+0)))):=by simp only [msr]<;>omega
 rw [n]
 unfold j8X
 have j:ByteArray.size a.2.1<=maxLen:=i.2.1
 unfold maxLen at j
 rw [j01 (by unfold nI;omega)]
 by_cases f:((ByteArray.size a.2.1:Nat):Int)<=left
 rotate_left
 ·rw [Zal f,Za5 (by unfold nI;omega),cond_true]
 rw [Za4 (by unfold nI;omega),cond_false,Zak f,show left-nI (ByteArray.size a.2.1)=left-((ByteArray.size a.2.1:Nat):Int) from rfl]
 rw [js5 _ _ (by omega) (by omega) i.2.2.1]
 by_cases b:((msr y8 a.2.2.1:Nat):Int)<=left-(ByteArray.size a.2.1:Nat)
 rotate_left
 ·rw [Zaz b,Zal b,Za5 (by omega),cond_true]
 rw [ZaA b,Zak b,Za4 (by omega),cond_false]
 rw [jpU _ _ (by omega) (by omega) i.2.2.2.1]
 by_cases d:((msr y0 a.2.2.2.1:Nat):Int)<=left-(ByteArray.size a.2.1:Nat)-(msr y8 a.2.2.1:Nat)
 rotate_left
 ·rw [Zaz d,Zal d,Za5 (by omega),cond_true]
 rw [ZaA d,Zak d,Za4 (by omega),cond_false]
 have l:ByteArray.size a.2.2.2.2.1<=maxLen:=i.2.2.2.2.1
 unfold maxLen at l
 rw [j01 (by unfold nI;omega)]
 by_cases g:((ByteArray.size a.2.2.2.2.1:Nat):Int)<=left-(ByteArray.size a.2.1:Nat)-(msr y8 a.2.2.1:Nat)-(msr y0 a.2.2.2.1:Nat)
 rotate_left
 ·rw [Zal g,Za5 (by unfold nI;omega),cond_true]
 rw [Za4 (by unfold nI;omega),cond_false,Zak g,show left-(ByteArray.size a.2.1:Nat)-(msr y8 a.2.2.1:Nat)-(msr y0 a.2.2.2.1:Nat)-nI (ByteArray.size a.2.2.2.2.1)=left-(ByteArray.size a.2.1:Nat)-(msr y8 a.2.2.1:Nat)-(msr y0 a.2.2.2.1:Nat)-((ByteArray.size a.2.2.2.2.1:Nat):Int) from rfl]
 have m:ByteArray.size a.2.2.2.2.2<=maxLen:=i.2.2.2.2.2
 unfold maxLen at m
 rw [j01 (by unfold nI;omega)]
 by_cases h:((ByteArray.size a.2.2.2.2.2:Nat):Int)<=left-(ByteArray.size a.2.1:Nat)-(msr y8 a.2.2.1:Nat)-(msr y0 a.2.2.2.1:Nat)-(ByteArray.size a.2.2.2.2.1:Nat)
 rotate_left
 ·rw [Zal h,Za5 (by unfold nI;omega),cond_true]
 rw [Za4 (by unfold nI;omega),cond_false,Zak h,show left-(ByteArray.size a.2.1:Nat)-(msr y8 a.2.2.1:Nat)-(msr y0 a.2.2.2.1:Nat)-(ByteArray.size a.2.2.2.2.1:Nat)-nI (ByteArray.size a.2.2.2.2.2)=left-(ByteArray.size a.2.1:Nat)-(msr y8 a.2.2.1:Nat)-(msr y0 a.2.2.2.1:Nat)-(ByteArray.size a.2.2.2.2.1:Nat)-((ByteArray.size a.2.2.2.2.2:Nat):Int) from rfl]
 exact jh4 (by omega)
theorem jsv (a:Int×ByteArray×qE×List ByteArray×ByteArray×ByteArray) (h:msr y13 a<=1048576) (k:Bool->Res):j8V a a k=k true:=by
 have b:msr y8 a.2.2.1<=1048576:=(Nat.le_trans (@j2q y8 y10 a.2.2) (Nat.le_trans (@j03 .str y11 a.2) (Nat.le_trans (@j03 (.int .i64) y12 a) h)))
 have d:msr y0 a.2.2.2.1<=1048576:=(Nat.le_trans (@j2q y0 y9 a.2.2.2) (Nat.le_trans (@j03 y8 y10 a.2.2) (Nat.le_trans (@j03 .str y11 a.2) (Nat.le_trans (@j03 (.int .i64) y12 a) h))))
 unfold j8V
 simp only [ZaO,Zai,beq_self_eq_true,cond_false,Bool.not_true,jrE _ b,jp0 _ d]
end Go.PI.G
namespace Go.PI.G
open Go Go.PI Go.Proofs
theorem jaN (a:qW) (h:msr y3 a<=1048576) (k:qW->Res):j18 a k=k a:=by
 have g:a.length<=1048576:=j0l h
 unfold j18
 rw [Zav (by unfold LIM;omega),cond_true]
 have:=ZaC ((0,0,eS)) a id (step:=jae a) (λb=>k b) (by unfold LIM;omega) (λb i rec d f=>by
  show j4p a _ _ _ _=_
  unfold j4p
  dsimp only
  simp only [ZaQ d,cond_true,j00 d,j00 (show i<b.length by omega),Zay _ _ _ d,ZaF,j01 (n:=(i:Int)+1) (by omega),jpY _ (j0M h (List.getElem_mem d))]
  rfl) (λb rec=>by
  show j4p a _ _ _ _=_
  unfold j4p
  dsimp only
  rw [ZaP,cond_false])
 rw [List.map_id] at this
 exact this
theorem jjm (a:qW) (left:Int) (g:0<=left) (h:left<=1048576) (l:Wf y3 a) (k:Int->Res):j3H a left k=k (szR left (msr y3 a)):=by
 have j:a.length<=maxLen:=l.1
 have p:msr y3 a=a.length+(a.map (msr y2)).sum:=rfl
 rw [p]
 unfold j3H
 refine jml (F:=λq=>jcd a Z1c q 0 (λd=>k d) (λ_=>k (-1))) (k:=k) g h j λb=> ?_
 unfold jcd
 rw [ZaB (msr y2) a _ (by omega) (λleft i rec f g h=> ?_) (λleft rec=> ?_) _ (by omega) (by omega)]
 ·by_cases b:(((a.map (msr y2)).sum:Nat):Int)<=left-a.length
  ·rw [if_pos b,ZaA b]
  ·rw [if_neg b,Zaz b]
 ·show j4m a _ _ _ _ _=_
  have r:=l.2 _ (List.getElem_mem f)
  unfold j4m
  rw [ZaQ f,cond_true,j00 f,cond_true,Zay _ _ _ f,jpV _ _ g h r]
  have m:(i:Int)<4611686018427387904:=by unfold maxLen at j;omega
  rw [j01 (n:=(i:Int)+1) (by omega)]
  by_cases b:((msr y2 a[i]:Nat):Int)<=left
  ·rw [if_pos b,ZaA b,Za4 (by omega),cond_false]
  ·rw [if_neg b,Zaz b,Za5 (by omega),cond_true]
 ·show j4m a _ _ _ _ _=_
  unfold j4m
  rw [ZaP,cond_false]
theorem jiL (a:qW) (h:msr y3 a<=1048576) (k:Bool->Res):j3G a a k=k true:=by
 have d:a.length<=1048576:=j0l h
 unfold j3G
 rw [ZaO,cond_false]
 unfold jgP
 rw [Zar a _ (by unfold LIM;omega) (λi rec b=> ?_) (λrec=> ?_)]
 ·show j49 a a _ _ _ _=_
  unfold j49
  simp only [ZaQ b,cond_true,j00 b,Zay _ _ _ b,j01 (n:=(i:Int)+1) (by omega),ZaO,Zai,cond_false,Bool.not_true,jp1 _ (j0M h (List.getElem_mem b))]
 ·show j49 a a _ _ _ _=_
  unfold j49
  rw [ZaP,cond_false]
theorem jg6 (a:qW) (k:Int) (h:msr y3 a<=1048576) (w:1<=k) (m:k+(wgt y3 a:Int)<=4294967296) (K:Int->qW->Res):j1r a k K=K (k+(wgt y3 a:Int)) (mkL (wgt y2) (mk y2) a k):=by
 have y:a.length<=1048576:=j0l h
 have f:wgt y3 a=(a.map (wgt y2)).sum:=rfl
 rw [f] at m ⊢
 unfold j1r jex
 have:=Z9Z (wgt y2) (mk y2) a k (λl k i=>(l,k,i)) (step:=j8o) (λl k=>K k l) (λl k=>K k l) (by unfold LIM;omega) (λl i rec g b n d=>by
  have q:=Z7B (wgt y2) a i g
  have r:=Z9L (wgt y2) a (i+1)
  generalize A:k+((((a.take i).map (wgt y2)).sum:Nat):Int)=κ
  have p:1<=κ/\κ+(wgt y2 a[i]:Int)<=4294967296:=by omega
  have z:(wgt y2 a[i]:Int)=1+1+1:=by
   have:wgt y2 a[i]=1+1+1:=by first | rfl | (simp only [wgt];done) | (simp only [wgt];omega)
   first | rfl | omega
  show j2I _ _ _ _ _=_
  dsimp only
  unfold j2I
  rw [<-b] at g
  have j:i<a.length:=by omega
  simp (disch:=first | assumption | omega) only [show nI a.length=nI l.length by rw [b],ZaQ,j00,jh5,cond_true,jgR,jh6,Zay,d,j01,j5F,<-b]
  rw [ZaF]
  congr 3<;>first | rfl | omega | (simp only [j4U,j35,j7x,j9P,j4T,j7y,j3a,j4X,j39,j4Y,Int.natCast_add,Int.natCast_one,<-Int.add_assoc];done) | (simp only [j4U,j35,j7x,j9P,j4T,j7y,j3a,j4X,j39,j4Y,Int.natCast_add,Int.natCast_one,<-Int.add_assoc];rfl) | skip) (λl k rec b=>by
  show j2I _ _ _ _ _=_
  dsimp only
  unfold j2I
  rw [<-b,ZaP,cond_false])
 exact this
theorem jqh (a:qW) (k:Int) (h:msr y3 a<=1048576) (y:1<=k) (p:k+(wgt y3 a:Int)<=4294967296) (K:Int->Res):j9N (mkL (wgt y2) (mk y2) a k) k K=K (k+(wgt y3 a:Int)):=by
 have z:a.length<=1048576:=j0l h
 have f:wgt y3 a=(a.map (wgt y2)).sum:=rfl
 rw [f] at p ⊢
 have d:=Z6s (wgt y2) (mk y2) a k
 have j:=Zau (wgt y2) (mk y2) a k
 generalize mkL (wgt y2) (mk y2) a k=l at d j
 unfold j9N jet
 have:=Z9W (wgt y2) a k (λk i=>(k,i)) (step:=j8n l) ((λ(g:Int)=>K g),(λ(_:Unit)=>K (-1))) (λk=>K k) (by unfold LIM;omega) (λi rec m=>by
  have r:=Z7B (wgt y2) a i m
  have w:=Z9L (wgt y2) a (i+1)
  have b:=j i m (by omega)
  generalize B:k+((((a.take i).map (wgt y2)).sum:Nat):Int)=κ at b
  have q:1<=κ/\κ+(wgt y2 a[i]:Int)<=4294967296:=by omega
  have A:(wgt y2 a[i]:Int)=1+1+1:=by
   have:wgt y2 a[i]=1+1+1:=by first | rfl | (simp only [wgt];done) | (simp only [wgt];omega)
   first | rfl | omega
  show j2G _ _ _ _ _ _=_
  dsimp only
  unfold j2G
  have n:i<l.length:=by omega
  simp (disch:=first | assumption | omega) only [ZaQ,j00,cond_true,cond_false,Zay,b,j4U,j35,j7x,j9P,j4T,j7y,j3a,j4X,j39,j4Y,Int.natCast_add,Int.natCast_one,<-Int.add_assoc,j01,j5F,ZaO,Zai,beq_self_eq_true,Bool.not_true,Za4]
  all_goals (congr 2;omega)) (λk rec=>by
  show j2G _ _ _ _ _ _=_
  dsimp only
  unfold j2G
  rw [<-d,ZaP,cond_false])
 exact this
end Go.PI.G
namespace Go.PI.G
open Go Go.PI Go.Proofs
theorem jt9 (a:List qV) (h:msr y3 a<=1048576) (k:qW->Res):jbb a k=k a:=by
 have b:msr y3 a<=1048576:=h
 unfold jbb
 simp only [jaN _ b]
theorem jt2 (a:List qV) (left:Int) (g:0<=left) (h:left<=1048576) (f:Wf y3 a) (k:Int->Res):jb9 a left k=k (szR left (msr y3 a)):=by
 have d:msr y3 a=msr y3 a+0:=rfl
 rw [d]
 unfold jb9
 rw [jjm _ _ (by omega) (by omega) f]
 by_cases b:((msr y3 a:Nat):Int)<=left
 rotate_left
 ·rw [Zaz b,Zal b,Za5 (by omega),cond_true]
 rw [ZaA b,Zak b,Za4 (by omega),cond_false]
 exact jh4 (by omega)
theorem joZ (a:List qV) (h:msr y3 a<=1048576) (k:Bool->Res):j8W a a k=k true:=by
 have b:msr y3 a<=1048576:=h
 unfold j8W
 simp only [ZaO,Zai,beq_self_eq_true,cond_false,Bool.not_true,jiL _ b]
end Go.PI.G
namespace Go.PI.G
open Go Go.PI Go.Proofs
theorem js9 (a:Int×ByteArray×qW×qW×Int×ByteArray×qE×List ByteArray×ByteArray×ByteArray) (h:msr y17 a<=1048576) (k:qS->Res):j9F a k=k a:=by
 have b:msr y3 a.2.2.1<=1048576:=(Nat.le_trans (@j2q y3 y14 a.2.2) (Nat.le_trans (@j03 .str y15 a.2) (Nat.le_trans (@j03 (.int .i64) y16 a) h)))
 have d:msr y3 a.2.2.2.1<=1048576:=(Nat.le_trans (@j2q y3 y13 a.2.2.2) (Nat.le_trans (@j03 y3 y14 a.2.2) (Nat.le_trans (@j03 .str y15 a.2) (Nat.le_trans (@j03 (.int .i64) y16 a) h))))
 have f:msr y13 a.2.2.2.2<=1048576:=(Nat.le_trans (@j03 y3 y13 a.2.2.2) (Nat.le_trans (@j03 y3 y14 a.2.2) (Nat.le_trans (@j03 .str y15 a.2) (Nat.le_trans (@j03 (.int .i64) y16 a) h))))
 unfold j9F
 simp only [jaN _ b,jt9 _ d,jt7 _ f]
theorem js7 (a:Int×ByteArray×qW×qW×Int×ByteArray×qE×List ByteArray×ByteArray×ByteArray) (left:Int) (l:0<=left) (m:left<=1048576) (h:Wf y17 a) (k:Int->Res):j9D a left k=k (szR left (msr y17 a)):=by
 have j:msr y17 a=ByteArray.size a.2.1+(msr y3 a.2.2.1+(msr y3 a.2.2.2.1+(msr y13 a.2.2.2.2+0))):=by simp only [msr]<;>omega
 rw [j]
 unfold j9D
 have i:ByteArray.size a.2.1<=maxLen:=h.2.1
 unfold maxLen at i
 rw [j01 (by unfold nI;omega)]
 by_cases g:((ByteArray.size a.2.1:Nat):Int)<=left
 rotate_left
 ·rw [Zal g,Za5 (by unfold nI;omega),cond_true]
 rw [Za4 (by unfold nI;omega),cond_false,Zak g,show left-nI (ByteArray.size a.2.1)=left-((ByteArray.size a.2.1:Nat):Int) from rfl]
 rw [jjm _ _ (by omega) (by omega) h.2.2.1]
 by_cases b:((msr y3 a.2.2.1:Nat):Int)<=left-(ByteArray.size a.2.1:Nat)
 rotate_left
 ·rw [Zaz b,Zal b,Za5 (by omega),cond_true]
 rw [ZaA b,Zak b,Za4 (by omega),cond_false]
 rw [jt2 _ _ (by omega) (by omega) h.2.2.2.1]
 by_cases d:((msr y3 a.2.2.2.1:Nat):Int)<=left-(ByteArray.size a.2.1:Nat)-(msr y3 a.2.2.1:Nat)
 rotate_left
 ·rw [Zaz d,Zal d,Za5 (by omega),cond_true]
 rw [ZaA d,Zak d,Za4 (by omega),cond_false]
 rw [jsZ _ _ (by omega) (by omega) h.2.2.2.2]
 by_cases f:((msr y13 a.2.2.2.2:Nat):Int)<=left-(ByteArray.size a.2.1:Nat)-(msr y3 a.2.2.1:Nat)-(msr y3 a.2.2.2.1:Nat)
 rotate_left
 ·rw [Zaz f,Zal f,Za5 (by omega),cond_true]
 rw [ZaA f,Zak f,Za4 (by omega),cond_false]
 exact jh4 (by omega)
theorem jrH (a:Int×ByteArray×qW×qW×Int×ByteArray×qE×List ByteArray×ByteArray×ByteArray) (h:msr y17 a<=1048576) (k:Bool->Res):j9A a a k=k true:=by
 have b:msr y3 a.2.2.1<=1048576:=(Nat.le_trans (@j2q y3 y14 a.2.2) (Nat.le_trans (@j03 .str y15 a.2) (Nat.le_trans (@j03 (.int .i64) y16 a) h)))
 have d:msr y3 a.2.2.2.1<=1048576:=(Nat.le_trans (@j2q y3 y13 a.2.2.2) (Nat.le_trans (@j03 y3 y14 a.2.2) (Nat.le_trans (@j03 .str y15 a.2) (Nat.le_trans (@j03 (.int .i64) y16 a) h))))
 have f:msr y13 a.2.2.2.2<=1048576:=(Nat.le_trans (@j03 y3 y13 a.2.2.2) (Nat.le_trans (@j03 y3 y14 a.2.2) (Nat.le_trans (@j03 .str y15 a.2) (Nat.le_trans (@j03 (.int .i64) y16 a) h))))
 unfold j9A
 simp only [ZaO,Zai,beq_self_eq_true,cond_false,Bool.not_true,jiL _ b,joZ _ d,jsv _ f]
end Go.PI.G
namespace Go.PI.G
open Go Go.PI Go.Proofs
theorem jt8 (a:Int×Int×Int×ByteArray×qW×qW×Int×ByteArray×qE×List ByteArray×ByteArray×ByteArray) (h:msr y19 a<=1048576) (k:(Int×Int×Int×ByteArray×qW×qW×Int×ByteArray×qE×List ByteArray×ByteArray×ByteArray)->Res):jdU a k=k a:=by
 have b:msr y17 a.2.2<=1048576:=(Nat.le_trans (@j03 (.int .i64) y17 a.2) (Nat.le_trans (@j03 (.int .i64) y18 a) h))
 unfold jdU
 simp only [js9 _ b]
theorem jt1 (a:Int×Int×Int×ByteArray×qW×qW×Int×ByteArray×qE×List ByteArray×ByteArray×ByteArray) (left:Int) (g:0<=left) (h:left<=1048576) (f:Wf y19 a) (k:Int->Res):jdS a left k=k (szR left (msr y19 a)):=by
 have d:msr y19 a=msr y17 a.2.2+0:=by simp only [msr]<;>omega
 rw [d]
 unfold jdS
 rw [js7 _ _ (by omega) (by omega) f.2.2]
 by_cases b:((msr y17 a.2.2:Nat):Int)<=left
 rotate_left
 ·rw [Zaz b,Zal b,Za5 (by omega),cond_true]
 rw [ZaA b,Zak b,Za4 (by omega),cond_false]
 exact jh4 (by omega)
theorem jsw (a:Int×Int×Int×ByteArray×qW×qW×Int×ByteArray×qE×List ByteArray×ByteArray×ByteArray) (h:msr y19 a<=1048576) (k:Bool->Res):jdQ a a k=k true:=by
 have b:msr y17 a.2.2<=1048576:=(Nat.le_trans (@j03 (.int .i64) y17 a.2) (Nat.le_trans (@j03 (.int .i64) y18 a) h))
 unfold jdQ
 simp only [ZaO,Zai,beq_self_eq_true,cond_false,Bool.not_true,jrH _ b]
end Go.PI.G
namespace Go.PI.G
open Go Go.PI Go.Proofs
theorem jfA (a:(List (Int×Int×Int×ByteArray×qW×qW×Int×ByteArray×qE×List ByteArray×ByteArray×ByteArray))) (h:msr y20 a<=1048576) (k:(List (Int×Int×Int×ByteArray×qW×qW×Int×ByteArray×qE×List ByteArray×ByteArray×ByteArray))->Res):j2y a k=k a:=by
 have g:a.length<=1048576:=j0l h
 unfold j2y
 rw [Zav (by unfold LIM;omega),cond_true]
 have:=ZaC ((0,0,0,eS,[],[],0,eS,[],[],eS,eS)) a id (step:=jad a) (λb=>k b) (by unfold LIM;omega) (λb i rec d f=>by
  show j4o a _ _ _ _=_
  unfold j4o
  dsimp only
  simp only [ZaQ d,cond_true,j00 d,j00 (show i<b.length by omega),Zay _ _ _ d,ZaF,j01 (n:=(i:Int)+1) (by omega),jt8 _ (j0M h (List.getElem_mem d))]
  rfl) (λb rec=>by
  show j4o a _ _ _ _=_
  unfold j4o
  dsimp only
  rw [ZaP,cond_false])
 rw [List.map_id] at this
 exact this
theorem js6 (a:(List (Int×Int×Int×ByteArray×qW×qW×Int×ByteArray×qE×List ByteArray×ByteArray×ByteArray))) (left:Int) (g:0<=left) (h:left<=1048576) (l:Wf y20 a) (k:Int->Res):j9C a left k=k (szR left (msr y20 a)):=by
 have j:a.length<=maxLen:=l.1
 have p:msr y20 a=a.length+(a.map (msr y19)).sum:=rfl
 rw [p]
 unfold j9C
 refine jml (F:=λq=>jcc a Z1c q 0 (λd=>k d) (λ_=>k (-1))) (k:=k) g h j λb=> ?_
 unfold jcc
 rw [ZaB (msr y19) a _ (by omega) (λleft i rec f g h=> ?_) (λleft rec=> ?_) _ (by omega) (by omega)]
 ·by_cases b:(((a.map (msr y19)).sum:Nat):Int)<=left-a.length
  ·rw [if_pos b,ZaA b]
  ·rw [if_neg b,Zaz b]
 ·show j4l a _ _ _ _ _=_
  have r:=l.2 _ (List.getElem_mem f)
  unfold j4l
  rw [ZaQ f,cond_true,j00 f,cond_true,Zay _ _ _ f,jt1 _ _ g h r]
  have m:(i:Int)<4611686018427387904:=by unfold maxLen at j;omega
  rw [j01 (n:=(i:Int)+1) (by omega)]
  by_cases b:((msr y19 a[i]:Nat):Int)<=left
  ·rw [if_pos b,ZaA b,Za4 (by omega),cond_false]
  ·rw [if_neg b,Zaz b,Za5 (by omega),cond_true]
 ·show j4l a _ _ _ _ _=_
  unfold j4l
  rw [ZaP,cond_false]
theorem jrF (a:(List (Int×Int×Int×ByteArray×qW×qW×Int×ByteArray×qE×List ByteArray×ByteArray×ByteArray))) (h:msr y20 a<=1048576) (k:Bool->Res):j9z a a k=k true:=by
 have d:a.length<=1048576:=j0l h
 unfold j9z
 rw [ZaO,cond_false]
 unfold jgO
 rw [Zar a _ (by unfold LIM;omega) (λi rec b=> ?_) (λrec=> ?_)]
 ·show j48 a a _ _ _ _=_
  unfold j48
  simp only [ZaQ b,cond_true,j00 b,Zay _ _ _ b,j01 (n:=(i:Int)+1) (by omega),ZaO,Zai,cond_false,Bool.not_true,jsw _ (j0M h (List.getElem_mem b))]
 ·show j48 a a _ _ _ _=_
  unfold j48
  rw [ZaP,cond_false]
theorem jqq (a:(List (Int×Int×Int×ByteArray×qW×qW×Int×ByteArray×qE×List ByteArray×ByteArray×ByteArray))) (k:Int) (h:msr y20 a<=1048576) (B:1<=k) (m:k+(wgt y20 a:Int)<=4294967296) (K:Int->(List (Int×Int×Int×ByteArray×qW×qW×Int×ByteArray×qE×List ByteArray×ByteArray×ByteArray))->Res):j7w a k K=K (k+(wgt y20 a:Int)) (mkL (wgt y19) (mk y19) a k):=by
 have C:a.length<=1048576:=j0l h
 have g:wgt y20 a=(a.map (wgt y19)).sum:=rfl
 rw [g] at m ⊢
 unfold j7w jev
 have:=Z9Z (wgt y19) (mk y19) a k (λl k i=>(l,k,i)) (step:=j5i) (λl k=>K k l) (λl k=>K k l) (by unfold LIM;omega) (λl i rec d b n f=>by
  have z:=Z7B (wgt y19) a i d
  have A:=Z9L (wgt y19) a (i+1)
  generalize E:k+((((a.take i).map (wgt y19)).sum:Nat):Int)=κ
  have y:1<=κ/\κ+(wgt y19 a[i]:Int)<=4294967296:=by omega
  have D:(wgt y19 a[i]:Int)=1+1+1+1+(wgt y3 a[i].2.2.2.2.1:Int)+(wgt y3 a[i].2.2.2.2.2.1:Int)+1+1+(wgt y8 a[i].2.2.2.2.2.2.2.2.1:Int)+(wgt y0 a[i].2.2.2.2.2.2.2.2.2.1:Int)+1+1:=by
   have:wgt y19 a[i]=1+1+1+1+(wgt y3 a[i].2.2.2.2.1)+(wgt y3 a[i].2.2.2.2.2.1)+1+1+(wgt y8 a[i].2.2.2.2.2.2.2.2.1)+(wgt y0 a[i].2.2.2.2.2.2.2.2.2.1)+1+1:=by first | rfl | (simp only [wgt];done) | (simp only [wgt];omega)
   first | rfl | omega
  have p:msr y3 a[i].2.2.2.2.1<=1048576:=(Nat.le_trans (@j2q y3 y14 a[i].2.2.2.2) (Nat.le_trans (@j03 .str y15 a[i].2.2.2) (Nat.le_trans (@j03 (.int .i64) y16 a[i].2.2) (Nat.le_trans (@j03 (.int .i64) y17 a[i].2) (Nat.le_trans (@j03 (.int .i64) y18 a[i]) (j0M h (List.getElem_mem d)))))))
  have q:msr y3 a[i].2.2.2.2.2.1<=1048576:=(Nat.le_trans (@j2q y3 y13 a[i].2.2.2.2.2) (Nat.le_trans (@j03 y3 y14 a[i].2.2.2.2) (Nat.le_trans (@j03 .str y15 a[i].2.2.2) (Nat.le_trans (@j03 (.int .i64) y16 a[i].2.2) (Nat.le_trans (@j03 (.int .i64) y17 a[i].2) (Nat.le_trans (@j03 (.int .i64) y18 a[i]) (j0M h (List.getElem_mem d))))))))
  have r:msr y8 a[i].2.2.2.2.2.2.2.2.1<=1048576:=(Nat.le_trans (@j2q y8 y10 a[i].2.2.2.2.2.2.2.2) (Nat.le_trans (@j03 .str y11 a[i].2.2.2.2.2.2.2) (Nat.le_trans (@j03 (.int .i64) y12 a[i].2.2.2.2.2.2) (Nat.le_trans (@j03 y3 y13 a[i].2.2.2.2.2) (Nat.le_trans (@j03 y3 y14 a[i].2.2.2.2) (Nat.le_trans (@j03 .str y15 a[i].2.2.2) (Nat.le_trans (@j03 (.int .i64) y16 a[i].2.2) (Nat.le_trans (@j03 (.int .i64) y17 a[i].2) (Nat.le_trans (@j03 (.int .i64) y18 a[i]) (j0M h (List.getElem_mem d)))))))))))
  have w:msr y0 a[i].2.2.2.2.2.2.2.2.2.1<=1048576:=(Nat.le_trans (@j2q y0 y9 a[i].2.2.2.2.2.2.2.2.2) (Nat.le_trans (@j03 y8 y10 a[i].2.2.2.2.2.2.2.2) (Nat.le_trans (@j03 .str y11 a[i].2.2.2.2.2.2.2) (Nat.le_trans (@j03 (.int .i64) y12 a[i].2.2.2.2.2.2) (Nat.le_trans (@j03 y3 y13 a[i].2.2.2.2.2) (Nat.le_trans (@j03 y3 y14 a[i].2.2.2.2) (Nat.le_trans (@j03 .str y15 a[i].2.2.2) (Nat.le_trans (@j03 (.int .i64) y16 a[i].2.2) (Nat.le_trans (@j03 (.int .i64) y17 a[i].2) (Nat.le_trans (@j03 (.int .i64) y18 a[i]) (j0M h (List.getElem_mem d))))))))))))
  show j1D _ _ _ _ _=_
  dsimp only
  unfold j1D j4d j4e j4f j4g j4h j4i j4j
  rw [<-b] at d
  have j:i<a.length:=by omega
  simp (disch:=first | assumption | omega) only [show nI a.length=nI l.length by rw [b],ZaQ,j00,jh5,cond_true,jgR,jh6,Zay,f,j01,j5F,jqp,jmM,jg6,<-b]
  rw [ZaF]
  congr 3<;>first | rfl | omega | (simp only [j4U,j35,j7x,j9P,j4T,j7y,j3a,j4X,j39,j4Y,Int.natCast_add,Int.natCast_one,<-Int.add_assoc];done) | (simp only [j4U,j35,j7x,j9P,j4T,j7y,j3a,j4X,j39,j4Y,Int.natCast_add,Int.natCast_one,<-Int.add_assoc];rfl) | skip) (λl k rec b=>by
  show j1D _ _ _ _ _=_
  dsimp only
  unfold j1D j4d j4e j4f j4g j4h j4i j4j
  rw [<-b,ZaP,cond_false])
 exact this
end Go.PI.G
namespace Go.PI.G
open Go Go.PI Go.Proofs
theorem jrG (a:Int×qW×Bool) (h:msr y25 a<=1048576) (k:Bool->Res):jcK a a k=k true:=by
 have b:msr y3 a.2.1<=1048576:=(Nat.le_trans (@j2q y3 .bool a.2) (Nat.le_trans (@j03 (.int .i64) y24 a) h))
 unfold jcK
 simp only [ZaO,Zai,beq_self_eq_true,cond_false,Bool.not_true,joZ _ b]
end Go.PI.G
namespace Go.PI.G
open Go Go.PI Go.Proofs
theorem jhj (a:(List (Int×qW×Bool))) (h:msr y26 a<=1048576) (k:Bool->Res):j2F a a k=k true:=by
 have d:a.length<=1048576:=j0l h
 unfold j2F
 rw [ZaO,cond_false]
 unfold jfl
 rw [Zar a _ (by unfold LIM;omega) (λi rec b=> ?_) (λrec=> ?_)]
 ·show j3k a a _ _ _ _=_
  unfold j3k
  simp only [ZaQ b,cond_true,j00 b,Zay _ _ _ b,j01 (n:=(i:Int)+1) (by omega),ZaO,Zai,cond_false,Bool.not_true,jrG _ (j0M h (List.getElem_mem b))]
 ·show j3k a a _ _ _ _=_
  unfold j3k
  rw [ZaP,cond_false]
theorem jpq (a:(List (Int×qW×Bool))) (k:Int) (h:msr y26 a<=1048576) (y:1<=k) (m:k+(wgt y26 a:Int)<=4294967296) (K:Int->(List (Int×qW×Bool))->Res):j6l a k K=K (k+(wgt y26 a:Int)) (mkL (wgt y25) (mk y25) a k):=by
 have z:a.length<=1048576:=j0l h
 have g:wgt y26 a=(a.map (wgt y25)).sum:=rfl
 rw [g] at m ⊢
 unfold j6l jdF
 have:=Z9Z (wgt y25) (mk y25) a k (λl k i=>(l,k,i)) (step:=j7P) (λl k=>K k l) (λl k=>K k l) (by unfold LIM;omega) (λl i rec d b n f=>by
  have r:=Z7B (wgt y25) a i d
  have w:=Z9L (wgt y25) a (i+1)
  generalize B:k+((((a.take i).map (wgt y25)).sum:Nat):Int)=κ
  have q:1<=κ/\κ+(wgt y25 a[i]:Int)<=4294967296:=by omega
  have A:(wgt y25 a[i]:Int)=1+(wgt y3 a[i].2.1:Int)+1:=by
   have:wgt y25 a[i]=1+(wgt y3 a[i].2.1)+1:=by first | rfl | (simp only [wgt];done) | (simp only [wgt];omega)
   first | rfl | omega
  have p:msr y3 a[i].2.1<=1048576:=(Nat.le_trans (@j2q y3 .bool a[i].2) (Nat.le_trans (@j03 (.int .i64) y24 a[i]) (j0M h (List.getElem_mem d))))
  show j2g _ _ _ _ _=_
  dsimp only
  unfold j2g
  rw [<-b] at d
  have j:i<a.length:=by omega
  simp (disch:=first | assumption | omega) only [show nI a.length=nI l.length by rw [b],ZaQ,j00,jh5,cond_true,jgR,jh6,Zay,f,j01,j5F,jg6,<-b]
  rw [ZaF]
  congr 3<;>first | rfl | omega | (simp only [j4U,j35,j7x,j9P,j4T,j7y,j3a,j4X,j39,j4Y,Int.natCast_add,Int.natCast_one,<-Int.add_assoc];done) | (simp only [j4U,j35,j7x,j9P,j4T,j7y,j3a,j4X,j39,j4Y,Int.natCast_add,Int.natCast_one,<-Int.add_assoc];rfl) | skip) (λl k rec b=>by
  show j2g _ _ _ _ _=_
  dsimp only
  unfold j2g
  rw [<-b,ZaP,cond_false])
 exact this
theorem jiM (a:(List (Int×qW×Bool))) (k:Int) (h:msr y26 a<=1048576) (z:1<=k) (p:k+(wgt y26 a:Int)<=4294967296) (K:Int->Res):j3Q (mkL (wgt y25) (mk y25) a k) k K=K (k+(wgt y26 a:Int)):=by
 have A:a.length<=1048576:=j0l h
 have g:wgt y26 a=(a.map (wgt y25)).sum:=rfl
 rw [g] at p ⊢
 have d:=Z6s (wgt y25) (mk y25) a k
 have m:=Zau (wgt y25) (mk y25) a k
 generalize mkL (wgt y25) (mk y25) a k=l at d m
 unfold j3Q jdE
 have:=Z9W (wgt y25) a k (λk i=>(k,i)) (step:=j7O l) ((λ(j:Int)=>K j),(λ(_:Unit)=>K (-1))) (λk=>K k) (by unfold LIM;omega) (λi rec f=>by
  have w:=Z7B (wgt y25) a i f
  have y:=Z9L (wgt y25) a (i+1)
  have b:=m i f (by omega)
  generalize C:k+((((a.take i).map (wgt y25)).sum:Nat):Int)=κ at b
  have r:1<=κ/\κ+(wgt y25 a[i]:Int)<=4294967296:=by omega
  have B:(wgt y25 a[i]:Int)=1+(wgt y3 a[i].2.1:Int)+1:=by
   have:wgt y25 a[i]=1+(wgt y3 a[i].2.1)+1:=by first | rfl | (simp only [wgt];done) | (simp only [wgt];omega)
   first | rfl | omega
  have q:msr y3 a[i].2.1<=1048576:=(Nat.le_trans (@j2q y3 .bool a[i].2) (Nat.le_trans (@j03 (.int .i64) y24 a[i]) (j0M h (List.getElem_mem f))))
  show j2f _ _ _ _ _ _=_
  dsimp only
  unfold j2f
  have n:i<l.length:=by omega
  simp (disch:=first | assumption | omega) only [ZaQ,j00,cond_true,cond_false,Zay,b,j4U,j35,j7x,j9P,j4T,j7y,j3a,j4X,j39,j4Y,Int.natCast_add,Int.natCast_one,<-Int.add_assoc,j01,j5F,ZaO,Zai,beq_self_eq_true,Bool.not_true,Za4,jqh]
  all_goals (congr 2;omega)) (λk rec=>by
  show j2f _ _ _ _ _ _=_
  dsimp only
  unfold j2f
  rw [<-d,ZaP,cond_false])
 exact this
end Go.PI.G
namespace Go.PI.G
open Go Go.PI Go.Proofs
abbrev ySN:Ty:= .pair (.int .i64) (.pair (.slice yV) .bool)
theorem jra {d:DB} (h:dbB d=true) (t:ByteArray) (b:List V):msr (.slice yV) (j9G d t b).1<=248:=by
 rcases jbh h t b with ⟨_,e⟩ | ⟨i,y,g,_,ht,l,⟨_,e⟩ | ⟨j,k,_,e⟩⟩
 ·rw [e];exact Nat.zero_le _
 ·rw [e];exact Nat.zero_le _
 ·rw [e]
  show msr (.slice yV) d.2[i][j]<=248
  obtain ⟨_,_,n,_⟩:=(j5k _ _).1 l
  have f:=n _ (List.getElem_mem k)
  have p:=j7I (e:=yV) 30 d.2[i][j] (λv m=>jr6 (jl3 f v m))
  have q:=((j8p _ _).1 f).1
  have r:=(j1x ht).2.2.1
  have w:d.2[i][j].length * 31<=8 * 31:=Nat.mul_le_mul_right _ (by omega)
  omega
theorem jpy (l:List RC) (t:ByteArray) (b:List V) (p:Int):msr (.slice yV) (j08 l t b p).1<=248:=by
 unfold j08
 rcases jcF l p with ⟨d,h⟩ | ⟨m,rfl,g,f,d⟩
 ·rw [d];exact Nat.zero_le _
 ·rw [d,cond_true]
  exact jra (j8O f g).2 t b
theorem jno {α β:Type} (f:β->α->β) (p:β->Prop) (d:∀ b a,p b->p (f b a)):(l:List α)->(b:β)->p b->p (l.foldl f b)
 | [],b,h=>h
 | a::l,b,h=>jno f p d l (f b a) (d b a h)
theorem jpu (l:List RC) (t:ByteArray) (b:List V):(c:List Int)->(a:(List V×Bool)×List SN)->(c.foldl (j9Y l t b) a).2.length<=a.2.length+c.length
 | [],a=>Nat.le_refl _
 | p::c,a=>by
  have d:=jpu l t b c (j9Y l t b a p)
  have f:=jnC l t b a p
  rw [List.foldl_cons,List.length_cons]
  omega
theorem jrW (l:List RC) (t:ByteArray) (b:List V):msr (.slice ySN) (j9Q l t b)<=1048576:=by
 have i:∀ s∈j9Q l t b,msr ySN s<=248:=by
  unfold j9Q
  refine jno (j9Y l t b) (λa=>∀ s∈a.2,msr ySN s<=248) (λa p g s d=> ?_) _ _ (λs d=>by cases d)
  unfold j9Y at d
  dsimp only at d
  cases m:(((j08 l t b p).2 != a.1.2)|| !j0z zV veq (j08 l t b p).1 a.1.1)<;>rw [m] at d
  ·exact g s d
  ·rcases List.mem_append.1 d with d | d
   ·exact g s d
   ·rw [List.mem_singleton] at d
    subst d
    have e:msr ySN (p,j08 l t b p)=0+(msr (.slice yV) (j08 l t b p).1+0):=rfl
    have:=jpy l t b p
    omega
 have j:(j9Q l t b).length<=400:=by
  unfold j9Q
  have f:=jpu l t b (j0p l) (([],false),[])
  have k:(j0p l).length<=400:=by
   cases h:j2a l
   ·unfold j0p
    rw [h]
    exact Nat.zero_le _
   ·have:=((jks l).1 h).1
    have:=jei l
    omega
  have n:(([]:List SN)).length=0:=rfl
  dsimp only at f
  omega
 have f:=j7I (e:=ySN) 248 _ i
 have k:(j9Q l t b).length * 249<=400 * 249:=Nat.mul_le_mul_right _ j
 omega
theorem jth (b:List RC) (z:Wf (.slice yRC) b) (j:ByteArray) (w1:Wf .str j) (h:List V) (w2:Wf (.slice yV) h) (k:Bool->Res):j46 b j h k=k true:=by
 unfold j46
 by_cases ht:nI j.size>1048576
 ·rw [decide_eq_true ht];rfl
 rw [decide_eq_false ht,cond_false,js6 b 1048576 (by omega) (by omega) z]
 by_cases p:((msr (.slice yRC) b:Nat):Int)<=1048576
 rotate_left
 ·rw [Zaz p];rfl
 have d:msr (.slice yRC) b<=1048576:=by omega
 obtain ⟨l,m⟩:=jsG d
 rw [ZaA p,decide_eq_false (by omega),cond_false,jjm h (1048576-((msr (.slice yRC) b:Nat):Int)) (by omega) (by omega) w2]
 by_cases q:((msr (.slice yV) h:Nat):Int)<=1048576-((msr (.slice yRC) b:Nat):Int)
 rotate_left
 ·rw [Zaz q];rfl
 have f:msr (.slice yV) h<=1048576:=by omega
 rw [ZaA q,decide_eq_false (by omega),cond_false,jfA b d,jaN h f,jqz b l m,jfA b d,jaN h f,jjY b l m]
 have i:=jrW b j h
 generalize r:j9Q b j h=g at i
 have A:=jjn (τ:= .slice yRC) (by decide) d
 have B:=jjn (τ:= .slice yV) (by decide) f
 have C:=jjn (τ:= .slice ySN) (by decide) i
 have w:(1:Int)+((wgt (.slice yRC) b:Nat):Int)<=4294967296:=by omega
 have y:(1:Int)+((wgt (.slice yRC) b:Nat):Int)+((wgt (.slice yV) h:Nat):Int)<=4294967296:=by omega
 have n:(1:Int)+((wgt (.slice ySN) g:Nat):Int)<=4294967296:=by omega
 rw [jhj _ i,Bool.not_true,cond_false,jfA b d,jrF b d,Bool.not_true,cond_false,jaN h f,jiL h f,Bool.not_true,cond_false]
 unfold j2d
 rw [jqq b 1 d (by omega) w,jg6 h _ f (by omega) y,decide_eq_false (by omega),cond_false,jhj _ i,Bool.not_true,cond_false,jpq _ 1 i (by omega) n,jiM _ 1 i (by omega) n,decide_eq_false (by omega),cond_false,ZaO,cond_false,jfA b d,jaN h f,jjY b l m,r,jhj _ i,Bool.not_true,cond_false,jiM _ 1 i (by omega) n,decide_eq_false (by omega),cond_false,ZaO,cond_false]
end Go.PI.G
