/-
  Program's code interpreted over typed values; printed texts; plain laws. No conditions.
-/
import Derived.Test.YtnemiodjnhfejaaGreatBOh
import Derived.Test.YtnemiodjnhfejaaGreatBOl
import Derived.Test.YtnemiodjnhfejaaGreatBOj
set_option linter.unusedVariables false
set_option linter.unusedSimpArgs false
namespace Go.PI.G
open Go Go.PI Go.Proofs
theorem jkP {d:DB} (h:dbB d=true) {i j:Nat} (b:i<d.2.length) (f:j<d.2[i].length):d.2[i][j].length<=1048576:=
 ((jaH h).2.2.2 _ (List.getElem_mem b)).2 _ (List.getElem_mem f)
theorem jd7 {d:DB} (h:dbB d=true) (t:ByteArray) (b:List V) :
  (j03 d.1 t<0/\ja1 d t b=([],false))\/∃ (i:Nat) (g:i<d.1.length) (f:i<d.2.length),j03 d.1 t=(i:Int)/\j04 d.1[i]=true/\j08 d.1[i] d.2[i]=true /\
   ((j05 d.1[i] d.2[i] b<0/\ja1 d t b=([],false))\/∃ (j:Nat) (l:j<d.2[i].length),j05 d.1[i] d.2[i] b=(j:Int)/\ja1 d t b=(d.2[i][j],true)):=by
 obtain ⟨m,p,n⟩:=(j1p d).1 h
 unfold ja1
 rcases j0o d.1 t with ⟨e,_⟩ | ⟨i,g,e,_⟩
 ·left
  rw [e]
  exact ⟨by omega,rfl⟩
 ·right
  have f:i<d.2.length:=by omega
  refine ⟨i,g,f,e,((j0d _).1 m).2.1 _ (List.getElem_mem g),n i g f,?_⟩
  rw [e,decide_eq_false (by omega),cond_false,Zay _ _ _ g,Zay _ _ _ f]
  rcases ja0 d.1[i] d.2[i] b with ⟨k,_⟩ | ⟨j,l,k,_⟩
  ·left
   rw [k]
   exact ⟨by omega,rfl⟩
  ·right
   refine ⟨j,l,k,?_⟩
   rw [k,decide_eq_false (by omega),cond_false,Zay _ _ _ l]
theorem joU {d:DB} (h:dbB d=true) (t:ByteArray) (b:List V):(ja1 d t b).1.length<=1048576:=by
 rcases jd7 h t b with ⟨_,e⟩ | ⟨i,k,f,_,_,_,⟨_,e⟩ | ⟨j,g,_,e⟩⟩
 ·rw [e];exact Nat.zero_le _
 ·rw [e];exact Nat.zero_le _
 ·rw [e];exact jkP h f g
theorem jhF {t:T} (ht:j04 t=true):msr yT t<=1048576:=Nat.le_trans (j9t ht) (by omega)
theorem joo (l:List RC) (h:l.length<=1048576) (F:∀ r∈l,j0P r.2.2) (t:ByteArray) (f:List V) (p:Int) (k:List V->Bool->Res):j5V l t f p k=k (j0e l t f p).1 (j0e l t f p).2:=by
 unfold j5V j0e
 rw [jog l h F]
 rcases jeq l p with ⟨y,C⟩ | ⟨m,rfl,E,D,y⟩
 ·rw [y,C,j7t _ _ (by unfold LIM;simp)]
  rfl
 ·have n:=(j9n D E).2
  have z:=(jaH n).2.1
  rw [y,cond_true]
  generalize j0f l m=d at n z
  rw [j7t _ _ (by unfold LIM;omega),Bool.not_true,cond_false]
  rcases jd7 n t f with ⟨g,e⟩ | ⟨i,q,b,g,ht,B,⟨w,e⟩ | ⟨j,A,w,e⟩⟩
  ·rw [e,decide_eq_true g];rfl
  ·rw [e,g,decide_eq_false (by omega),cond_false,j00 q,cond_true,j00 b,cond_true,Zay _ _ _ q,Zay _ _ _ b,j5R _ (jhF ht) _ B,decide_eq_true w];rfl
  ·rw [e,g,decide_eq_false (by omega),cond_false,j00 q,cond_true,j00 b,cond_true,Zay _ _ _ q,Zay _ _ _ b,j5R _ (jhF ht) _ B,w,decide_eq_false (by omega),cond_false,cond_true,j00 A,cond_true,Zay _ _ _ A]
   unfold j0a
   rw [jd3 (jkP n b A)]
   rfl
theorem jmY (d:DB) (m:dbB d=true) (t:ByteArray) (f:List V) (k:List V->Bool->Res):j7M d t f k=k (ja1 d t f).1 (ja1 d t f).2:=by
 have q:=(jaH m).2.1
 unfold j7M
 rw [j5k _ _ (by unfold LIM;omega)]
 rcases jd7 m t f with ⟨g,e⟩ | ⟨i,h,b,g,ht,p,⟨l,e⟩ | ⟨j,n,l,e⟩⟩
 ·rw [e,decide_eq_true g];rfl
 ·rw [e,g,decide_eq_false (by omega),cond_false,j00 h,cond_true,j00 b,cond_true,Zay _ _ _ h,Zay _ _ _ b,j1z _ (jhF ht) _ p,decide_eq_true l];rfl
 ·rw [e,g,decide_eq_false (by omega),cond_false,j00 h,cond_true,j00 b,cond_true,Zay _ _ _ h,Zay _ _ _ b,j1z _ (jhF ht) _ p,l,decide_eq_false (by omega),cond_false,cond_true,j00 n,cond_true,Zay _ _ _ n]
  unfold j0t
  rw [jd3 (jkP m b n)]
  rfl
theorem jd8 (l:List RC) (t:ByteArray) (b:List V) (p:Int):(j0e l t b p).1.length<=1048576:=by
 unfold j0e
 rcases jeq l p with ⟨d,h⟩ | ⟨m,rfl,g,f,d⟩
 ·rw [d];exact Nat.zero_le _
 ·rw [d,cond_true]
  exact joU (j9n f g).2 t b
end Go.PI.G
namespace Go.PI.G
open Go Go.PI Go.Proofs
theorem jpK (l:List RC) (t:ByteArray) (b:List V) (a:(List V×Bool)×List SN) (p:Int):(jdR l t b a p).2.length<=a.2.length+1:=by
 unfold jdR
 cases ((j0e l t b p).2 != a.1.2)|| !j0A zV veq (j0e l t b p).1 a.1.1
 ·exact Nat.le_succ _
 ·show (a.2++[_]).length<=_
  simp
theorem jpL (l:List RC) (t:ByteArray) (b:List V) (a:SN×List SN) (p:Int):(jdS l t b a p).2.length<=a.2.length+1:=by
 unfold jdS
 cases ((j0e l t b p).2 != a.1.2.2)|| !j0A zV veq (j0e l t b p).1 a.1.2.1
 ·exact Nat.le_succ _
 ·show (a.2++[_]).length<=_
  simp
theorem jny (b ok:Bool) (row r:List V) (d:r.length<=1048576) (k:Bool->Res):j7x b ok row r k=k ((ok != b)|| !j0A zV veq r row):=by
 unfold j7x
 rw [jdT _ _ (by unfold LIM;omega)]
 unfold bne
 cases ok==b<;>rfl
theorem jmV (d:Bool) (b:SN) (r:List V) (f:r.length<=1048576) (k:Bool->Res):j7g d b r k=k ((d != b.2.2)|| !j0A zV veq r b.2.1):=by
 unfold j7g
 rw [j9G _ _ (by unfold LIM;omega)]
 unfold bne
 cases d==b.2.2<;>rfl
theorem jom (l:List RC) (h:l.length<=1048576) (j:∀ r∈l,j0P r.2.2) (t:ByteArray) (b:List V) (k:List SN->Res):jbA l t b k=k (jcu l t b):=by
 unfold jbA jcu
 rw [joZ l h j]
 have m:(j0D l).length<=1048576:=Nat.le_trans (jh0 l) h
 generalize j0D l=c at m
 unfold jdj
 refine Z8i c (λi (a:(List V×Bool)×List SN)=>(a.2,a.1.2,i,a.1.1)) (jdR l t b) (λi a=>a.2.length<=i) (step:=j5U l t b c (nI c.length)) (λf=>k f) (λa=>k a.2) (([],false),[]) (by unfold LIM;omega) (Nat.zero_le _) (λi a d g=>Nat.le_trans (jpK _ _ _ _ _) (by omega)) (λi a rec d g=>by
  show j3r _ _ _ _ _ _ _ _ _ _ _=_
  unfold j3r jdR
  dsimp only
  rw [ZaQ d,cond_true,j00 d,cond_true,Zay _ _ _ d,joo l h j,j01 (n:=(i:Int)+1) (by omega),jny _ _ _ _ (jd8 _ _ _ _)]
  unfold j0a
  rw [jd3 (jd8 l t b c[i]),cond_true,ZaL (by unfold LIM;omega)]
  cases ((j0e l t b c[i]).2 != a.1.2)|| !j0A zV veq (j0e l t b c[i]).1 a.1.1<;>rfl) (λa rec g=>by
  show j3r _ _ _ _ _ _ _ _ _ _ _=_
  unfold j3r
  dsimp only
  rw [ZaP,cond_false])
theorem jq5 {l:List RC} (h:j28 l=true) {c:Int} (b:c∈j0D l):j6T l c=true/\dbB (j0f l c)=true:=by
 have:jq3 l c=true:=(jmQ _ _).2 b
 obtain ⟨_,i,d,rfl,_⟩:=(jq4 l c).1 this
 have e:(i:Int)+1=((i+1:Nat):Int):=by omega
 rw [e]
 refine ⟨?_,(j9n h d).2⟩
 unfold j6T
 rw [h,decide_eq_true (by omega)]
 rfl
theorem jo8 (l:List RC) (h:l.length<=1048576) (p:∀ r∈l,j0P r.2.2) (t:ByteArray) (b:List V) (k:List SN->Res):jbv l t b k=k (jcu l t b):=by
 unfold jbv
 rw [jjj l h p,jqy]
 cases m:j28 l
 ·unfold j0D
  rw [m]
  rfl
 rw [Bool.not_true,cond_false,joN l h p,jlS l h p m]
 have y:∀ c∈j0D l,j6T l c=true/\dbB (j0f l c)=true:=λc j=>jq5 m j
 have j:(j0D l).length<=1048576:=Nat.le_trans (jh0 l) h
 generalize j0D l=c at j y
 unfold j9K
 have g:(c.map (j0f l)).length=c.length:=List.length_map ..
 rw [g]
 refine Z8i c (λi (a:SN×List SN)=>(a.2,i,a.1)) (jdS l t b) (λi a=>a.2.length<=i) (step:=j5n t b c (c.map (j0f l)) (nI c.length)) (λq=>k q) (λa=>k a.2) ((0,[],false),[]) (by unfold LIM;omega) (Nat.zero_le _) (λi a d w=>Nat.le_trans (jpL _ _ _ _ _) (by omega)) (λi a rec d w=>by
  show j3j _ _ _ _ _ _ _ _ _ _=_
  unfold j3j jdS
  dsimp only
  have f:i<(c.map (j0f l)).length:=by omega
  obtain ⟨A,B⟩:=y _ (List.getElem_mem d)
  have z:ja1 (j0f l c[i]) t b=j0e l t b c[i]:=by
   unfold j0e
   rw [A,cond_true]
  rw [ZaQ d,cond_true,j00 f,cond_true,Zay _ _ _ f,List.getElem_map,jmY _ B,z,j01 (n:=(i:Int)+1) (by omega),jmV _ _ _ (jd8 _ _ _ _),j00 d,cond_true,Zay _ _ _ d,ZaL (by unfold LIM;omega),cond_true]
  cases ((j0e l t b c[i]).2 != a.1.2.2)|| !j0A zV veq (j0e l t b c[i]).1 a.1.2.1<;>rfl) (λa rec w=>by
  show j3j _ _ _ _ _ _ _ _ _ _=_
  unfold j3j
  dsimp only
  rw [ZaP,cond_false])
end Go.PI.G
namespace Go.PI.G
open Go Go.PI Go.Proofs
end Go.PI.G
set_option maxRecDepth 10000
namespace Go.PI.G
open Go Go.PI Go.Proofs
theorem jnH (a:Int×Int×ByteArray) (h:msr y2 a<=1048576) (k:qV->Res):j9W a k=k a:=by
 unfold j9W
 rfl
theorem jnE (a:Int×Int×ByteArray) (left:Int) (h:0<=left) (i:left<=1048576) (g:Wf y2 a) (k:Int->Res):j9U a left k=k (szR left (msr y2 a)):=by
 have f:msr y2 a=ByteArray.size a.2.2+0:=by simp only [msr]<;>omega
 rw [f]
 unfold j9U
 have d:ByteArray.size a.2.2<=maxLen:=g.2.2
 unfold maxLen at d
 rw [j01 (by unfold nI;omega)]
 by_cases b:((ByteArray.size a.2.2:Nat):Int)<=left
 rotate_left
 ·rw [Zal b,Za5 (by unfold nI;omega),cond_true]
 rw [Za4 (by unfold nI;omega),cond_false,Zak b,show left-nI (ByteArray.size a.2.2)=left-((ByteArray.size a.2.2:Nat):Int) from rfl]
 exact jfr (by omega)
theorem jmL (a:Int×Int×ByteArray) (h:msr y2 a<=1048576) (k:Bool->Res):j9S a a k=k true:=by
 unfold j9S
 simp only [ZaO,Zai,beq_self_eq_true,cond_false,Bool.not_true]
end Go.PI.G
namespace Go.PI.G
open Go Go.PI Go.Proofs
theorem jqO (a:ByteArray×Int×Bool×Bool×Int×Int×ByteArray) (h:msr y7 a<=1048576) (k:qC->Res):jcr a k=k a:=by
 have b:msr y2 a.2.2.2.2<=1048576:=(Nat.le_trans (@j07 .bool y2 a.2.2.2) (Nat.le_trans (@j07 .bool y4 a.2.2) (Nat.le_trans (@j07 (.int .i64) y5 a.2) (Nat.le_trans (@j07 .str y6 a) h))))
 unfold jcr
 simp only [jnH _ b]
theorem jqI (a:ByteArray×Int×Bool×Bool×Int×Int×ByteArray) (left:Int) (i:0<=left) (j:left<=1048576) (g:Wf y7 a) (k:Int->Res):jcp a left k=k (szR left (msr y7 a)):=by
 have h:msr y7 a=ByteArray.size a.1+(msr y2 a.2.2.2.2+0):=by simp only [msr]<;>omega
 rw [h]
 unfold jcp
 have f:ByteArray.size a.1<=maxLen:=g.1
 unfold maxLen at f
 rw [j01 (by unfold nI;omega)]
 by_cases d:((ByteArray.size a.1:Nat):Int)<=left
 rotate_left
 ·rw [Zal d,Za5 (by unfold nI;omega),cond_true]
 rw [Za4 (by unfold nI;omega),cond_false,Zak d,show left-nI (ByteArray.size a.1)=left-((ByteArray.size a.1:Nat):Int) from rfl]
 rw [jnE _ _ (by omega) (by omega) g.2.2.2.2]
 by_cases b:((msr y2 a.2.2.2.2:Nat):Int)<=left-(ByteArray.size a.1:Nat)
 rotate_left
 ·rw [Zaz b,Zal b,Za5 (by omega),cond_true]
 rw [ZaA b,Zak b,Za4 (by omega),cond_false]
 exact jfr (by omega)
theorem jqd (a:ByteArray×Int×Bool×Bool×Int×Int×ByteArray) (h:msr y7 a<=1048576) (k:Bool->Res):jcn a a k=k true:=by
 have b:msr y2 a.2.2.2.2<=1048576:=(Nat.le_trans (@j07 .bool y2 a.2.2.2) (Nat.le_trans (@j07 .bool y4 a.2.2) (Nat.le_trans (@j07 (.int .i64) y5 a.2) (Nat.le_trans (@j07 .str y6 a) h))))
 unfold jcn
 simp only [ZaO,Zai,beq_self_eq_true,cond_false,Bool.not_true,jmL _ b]
end Go.PI.G
namespace Go.PI.G
open Go Go.PI Go.Proofs
theorem jpR (a:qE) (h:msr y8 a<=1048576) (k:qE->Res):j8w a k=k a:=by
 have g:a.length<=1048576:=j0Y h
 unfold j8w
 rw [Zav (by unfold LIM;omega),cond_true]
 have:=ZaC ((eS,0,false,false,0,0,eS)) a id (step:=j8V a) (λb=>k b) (by unfold LIM;omega) (λb i rec d f=>by
  show j3K a _ _ _ _=_
  unfold j3K
  dsimp only
  simp only [ZaQ d,cond_true,j00 d,j00 (show i<b.length by omega),Zay _ _ _ d,ZaF,j01 (n:=(i:Int)+1) (by omega),jqO _ (j29 h (List.getElem_mem d))]
  rfl) (λb rec=>by
  show j3K a _ _ _ _=_
  unfold j3K
  dsimp only
  rw [ZaP,cond_false])
 rw [List.map_id] at this
 exact this
theorem jpO (a:qE) (left:Int) (g:0<=left) (h:left<=1048576) (l:Wf y8 a) (k:Int->Res):j8t a left k=k (szR left (msr y8 a)):=by
 have j:a.length<=maxLen:=l.1
 have p:msr y8 a=a.length+(a.map (msr y7)).sum:=rfl
 rw [p]
 unfold j8t
 refine jkb (F:=λq=>jaS a Z1c q 0 (λd=>k d) (λ_=>k (-1))) (k:=k) g h j λb=> ?_
 unfold jaS
 rw [ZaB (msr y7) a _ (by omega) (λleft i rec f g h=> ?_) (λleft rec=> ?_) _ (by omega) (by omega)]
 ·by_cases b:(((a.map (msr y7)).sum:Nat):Int)<=left-a.length
  ·rw [if_pos b,ZaA b]
  ·rw [if_neg b,Zaz b]
 ·show j3H a _ _ _ _ _=_
  have r:=l.2 _ (List.getElem_mem f)
  unfold j3H
  rw [ZaQ f,cond_true,j00 f,cond_true,Zay _ _ _ f,jqI _ _ g h r]
  have m:(i:Int)<4611686018427387904:=by unfold maxLen at j;omega
  rw [j01 (n:=(i:Int)+1) (by omega)]
  by_cases b:((msr y7 a[i]:Nat):Int)<=left
  ·rw [if_pos b,ZaA b,Za4 (by omega),cond_false]
  ·rw [if_neg b,Zaz b,Za5 (by omega),cond_true]
 ·show j3H a _ _ _ _ _=_
  unfold j3H
  rw [ZaP,cond_false]
theorem jpo (a:qE) (h:msr y8 a<=1048576) (k:Bool->Res):j8q a a k=k true:=by
 have d:a.length<=1048576:=j0Y h
 unfold j8q
 rw [ZaO,cond_false]
 unfold jfb
 rw [Zar a _ (by unfold LIM;omega) (λi rec b=> ?_) (λrec=> ?_)]
 ·show j3E a a _ _ _ _=_
  unfold j3E
  simp only [ZaQ b,cond_true,j00 b,Zay _ _ _ b,j01 (n:=(i:Int)+1) (by omega),ZaO,Zai,cond_false,Bool.not_true,jqd _ (j29 h (List.getElem_mem b))]
 ·show j3E a a _ _ _ _=_
  unfold j3E
  rw [ZaP,cond_false]
end Go.PI.G
namespace Go.PI.G
open Go Go.PI Go.Proofs
theorem jnG (a:(List ByteArray)) (h:msr y0 a<=1048576) (k:(List ByteArray)->Res):j5x a k=k a:=by
 have g:a.length<=1048576:=j0Y h
 unfold j5x
 rw [Zav (by unfold LIM;omega),cond_true]
 have:=ZaC (eS) a id (step:=j6Q a) (λb=>k b) (by unfold LIM;omega) (λb i rec d f=>by
  show j20 a _ _ _ _=_
  unfold j20
  dsimp only
  simp only [ZaQ d,cond_true,j00 d,j00 (show i<b.length by omega),Zay _ _ _ d,ZaF,j01 (n:=(i:Int)+1) (by omega)]
  rfl) (λb rec=>by
  show j20 a _ _ _ _=_
  unfold j20
  dsimp only
  rw [ZaP,cond_false])
 rw [List.map_id] at this
 exact this
theorem jnD (a:(List ByteArray)) (left:Int) (j:0<=left) (l:left<=1048576) (p:Wf y0 a) (k:Int->Res):j5w a left k=k (szR left (msr y0 a)):=by
 have m:a.length<=maxLen:=p.1
 have r:msr y0 a=a.length+(a.map (msr .str)).sum:=rfl
 rw [r]
 unfold j5w
 refine jkb (F:=λq=>j89 a Z1c q 0 (λd=>k d) (λ_=>k (-1))) (k:=k) j l m λb=> ?_
 unfold j89
 rw [ZaB (msr .str) a _ (by omega) (λleft i rec f j l=> ?_) (λleft rec=> ?_) _ (by omega) (by omega)]
 ·by_cases b:(((a.map (msr .str)).sum:Nat):Int)<=left-a.length
  ·rw [if_pos b,ZaA b]
  ·rw [if_neg b,Zaz b]
 ·show j1Z a _ _ _ _ _=_
  have h:=p.2 _ (List.getElem_mem f)
  unfold j1Z
  have h:a[i].size<=maxLen:=h
  unfold maxLen at h m
  rw [ZaQ f,cond_true,j00 f,cond_true,Zay _ _ _ f,j01 (n:=left-nI a[i].size) (by unfold nI;omega),j01 (n:=(i:Int)+1) (by omega)]
  unfold nI
  by_cases b:((msr .str a[i]:Nat):Int)<=left
  ·have g:(a[i].size:Int)<=left:=b
   rw [if_pos b,Za4 (by omega),cond_false];rfl
  ·have g:¬ (a[i].size:Int)<=left:=b
   rw [if_neg b,Za5 (by omega),cond_true]
 ·show j1Z a _ _ _ _ _=_
  unfold j1Z
  rw [ZaP,cond_false]
theorem jmK (a:(List ByteArray)) (h:msr y0 a<=1048576) (k:Bool->Res):j5v a a k=k true:=by
 have d:a.length<=1048576:=j0Y h
 unfold j5v
 rw [ZaO,cond_false]
 unfold jci
 rw [Zar a _ (by unfold LIM;omega) (λi rec b=> ?_) (λrec=> ?_)]
 ·show j1Y a a _ _ _ _=_
  unfold j1Y
  simp only [ZaQ b,cond_true,j00 b,Zay _ _ _ b,j01 (n:=(i:Int)+1) (by omega),ZaO,Zai,cond_false,Bool.not_true]
 ·show j1Y a a _ _ _ _=_
  unfold j1Y
  rw [ZaP,cond_false]
end Go.PI.G
namespace Go.PI.G
open Go Go.PI Go.Proofs
theorem jqP (a:Int×ByteArray×qE×List ByteArray×ByteArray×ByteArray) (h:msr y13 a<=1048576) (k:(Int×ByteArray×qE×List ByteArray×ByteArray×ByteArray)->Res):j7R a k=k a:=by
 have b:msr y8 a.2.2.1<=1048576:=(Nat.le_trans (@j9s y8 y10 a.2.2) (Nat.le_trans (@j07 .str y11 a.2) (Nat.le_trans (@j07 (.int .i64) y12 a) h)))
 have d:msr y0 a.2.2.2.1<=1048576:=(Nat.le_trans (@j9s y0 y9 a.2.2.2) (Nat.le_trans (@j07 y8 y10 a.2.2) (Nat.le_trans (@j07 .str y11 a.2) (Nat.le_trans (@j07 (.int .i64) y12 a) h))))
 unfold j7R
 simp only [jpR _ b,jnG _ d]
theorem jqJ (a:Int×ByteArray×qE×List ByteArray×ByteArray×ByteArray) (left:Int) (p:0<=left) (q:left<=1048576) (i:Wf y13 a) (k:Int->Res):j7Q a left k=k (szR left (msr y13 a)):=by
 have n:msr y13 a=ByteArray.size a.2.1+(msr y8 a.2.2.1+(msr y0 a.2.2.2.1+(ByteArray.size a.2.2.2.2.1+(ByteArray.size a.2.2.2.2.2+0)))):=by simp only [msr]<;>omega
 rw [n]
 unfold j7Q
 have j:ByteArray.size a.2.1<=maxLen:=i.2.1
 unfold maxLen at j
 rw [j01 (by unfold nI;omega)]
 by_cases f:((ByteArray.size a.2.1:Nat):Int)<=left
 rotate_left
 ·rw [Zal f,Za5 (by unfold nI;omega),cond_true]
 rw [Za4 (by unfold nI;omega),cond_false,Zak f,show left-nI (ByteArray.size a.2.1)=left-((ByteArray.size a.2.1:Nat):Int) from rfl]
 rw [jpO _ _ (by omega) (by omega) i.2.2.1]
 by_cases b:((msr y8 a.2.2.1:Nat):Int)<=left-(ByteArray.size a.2.1:Nat)
 rotate_left
 ·rw [Zaz b,Zal b,Za5 (by omega),cond_true]
 rw [ZaA b,Zak b,Za4 (by omega),cond_false]
 rw [jnD _ _ (by omega) (by omega) i.2.2.2.1]
 by_cases d:((msr y0 a.2.2.2.1:Nat):Int)<=left-(ByteArray.size a.2.1:Nat)-(msr y8 a.2.2.1:Nat)
 rotate_left
 ·rw [Zaz d,Zal d,Za5 (by omega),cond_true]
 rw [ZaA d,Zak d,Za4 (by omega),cond_false]
 have l:ByteArray.size a.2.2.2.2.1<=maxLen:=i.2.2.2.2.1
 unfold maxLen at l
 rw [j01 (by unfold nI;omega)]
 by_cases g:((ByteArray.size a.2.2.2.2.1:Nat):Int)<=left-(ByteArray.size a.2.1:Nat)-(msr y8 a.2.2.1:Nat)-(msr y0 a.2.2.2.1:Nat)
 rotate_left
 ·rw [Zal g,Za5 (by unfold nI;omega),cond_true]
 rw [Za4 (by unfold nI;omega),cond_false,Zak g,show left-(ByteArray.size a.2.1:Nat)-(msr y8 a.2.2.1:Nat)-(msr y0 a.2.2.2.1:Nat)-nI (ByteArray.size a.2.2.2.2.1)=left-(ByteArray.size a.2.1:Nat)-(msr y8 a.2.2.1:Nat)-(msr y0 a.2.2.2.1:Nat)-((ByteArray.size a.2.2.2.2.1:Nat):Int) from rfl]
 have m:ByteArray.size a.2.2.2.2.2<=maxLen:=i.2.2.2.2.2
 unfold maxLen at m
 rw [j01 (by unfold nI;omega)]
 by_cases h:((ByteArray.size a.2.2.2.2.2:Nat):Int)<=left-(ByteArray.size a.2.1:Nat)-(msr y8 a.2.2.1:Nat)-(msr y0 a.2.2.2.1:Nat)-(ByteArray.size a.2.2.2.2.1:Nat)
 rotate_left
 ·rw [Zal h,Za5 (by unfold nI;omega),cond_true]
 rw [Za4 (by unfold nI;omega),cond_false,Zak h,show left-(ByteArray.size a.2.1:Nat)-(msr y8 a.2.2.1:Nat)-(msr y0 a.2.2.2.1:Nat)-(ByteArray.size a.2.2.2.2.1:Nat)-nI (ByteArray.size a.2.2.2.2.2)=left-(ByteArray.size a.2.1:Nat)-(msr y8 a.2.2.1:Nat)-(msr y0 a.2.2.2.1:Nat)-(ByteArray.size a.2.2.2.2.1:Nat)-((ByteArray.size a.2.2.2.2.2:Nat):Int) from rfl]
 exact jfr (by omega)
theorem jqe (a:Int×ByteArray×qE×List ByteArray×ByteArray×ByteArray) (h:msr y13 a<=1048576) (k:Bool->Res):j7P a a k=k true:=by
 have b:msr y8 a.2.2.1<=1048576:=(Nat.le_trans (@j9s y8 y10 a.2.2) (Nat.le_trans (@j07 .str y11 a.2) (Nat.le_trans (@j07 (.int .i64) y12 a) h)))
 have d:msr y0 a.2.2.2.1<=1048576:=(Nat.le_trans (@j9s y0 y9 a.2.2.2) (Nat.le_trans (@j07 y8 y10 a.2.2) (Nat.le_trans (@j07 .str y11 a.2) (Nat.le_trans (@j07 (.int .i64) y12 a) h))))
 unfold j7P
 simp only [ZaO,Zai,beq_self_eq_true,cond_false,Bool.not_true,jpo _ b,jmK _ d]
end Go.PI.G
namespace Go.PI.G
open Go Go.PI Go.Proofs
theorem jbD (a:qW) (h:msr y3 a<=1048576) (k:qW->Res):j1y a k=k a:=by
 have g:a.length<=1048576:=j0Y h
 unfold j1y
 rw [Zav (by unfold LIM;omega),cond_true]
 have:=ZaC ((0,0,eS)) a id (step:=j8X a) (λb=>k b) (by unfold LIM;omega) (λb i rec d f=>by
  show j3M a _ _ _ _=_
  unfold j3M
  dsimp only
  simp only [ZaQ d,cond_true,j00 d,j00 (show i<b.length by omega),Zay _ _ _ d,ZaF,j01 (n:=(i:Int)+1) (by omega),jnH _ (j29 h (List.getElem_mem d))]
  rfl) (λb rec=>by
  show j3M a _ _ _ _=_
  unfold j3M
  dsimp only
  rw [ZaP,cond_false])
 rw [List.map_id] at this
 exact this
theorem jhA (a:qW) (left:Int) (g:0<=left) (h:left<=1048576) (l:Wf y3 a) (k:Int->Res):j3f a left k=k (szR left (msr y3 a)):=by
 have j:a.length<=maxLen:=l.1
 have p:msr y3 a=a.length+(a.map (msr y2)).sum:=rfl
 rw [p]
 unfold j3f
 refine jkb (F:=λq=>jaU a Z1c q 0 (λd=>k d) (λ_=>k (-1))) (k:=k) g h j λb=> ?_
 unfold jaU
 rw [ZaB (msr y2) a _ (by omega) (λleft i rec f g h=> ?_) (λleft rec=> ?_) _ (by omega) (by omega)]
 ·by_cases b:(((a.map (msr y2)).sum:Nat):Int)<=left-a.length
  ·rw [if_pos b,ZaA b]
  ·rw [if_neg b,Zaz b]
 ·show j3J a _ _ _ _ _=_
  have r:=l.2 _ (List.getElem_mem f)
  unfold j3J
  rw [ZaQ f,cond_true,j00 f,cond_true,Zay _ _ _ f,jnE _ _ g h r]
  have m:(i:Int)<4611686018427387904:=by unfold maxLen at j;omega
  rw [j01 (n:=(i:Int)+1) (by omega)]
  by_cases b:((msr y2 a[i]:Nat):Int)<=left
  ·rw [if_pos b,ZaA b,Za4 (by omega),cond_false]
  ·rw [if_neg b,Zaz b,Za5 (by omega),cond_true]
 ·show j3J a _ _ _ _ _=_
  unfold j3J
  rw [ZaP,cond_false]
theorem jh2 (a:qW) (h:msr y3 a<=1048576) (k:Bool->Res):j3e a a k=k true:=by
 have d:a.length<=1048576:=j0Y h
 unfold j3e
 rw [ZaO,cond_false]
 unfold jfd
 rw [Zar a _ (by unfold LIM;omega) (λi rec b=> ?_) (λrec=> ?_)]
 ·show j3G a a _ _ _ _=_
  unfold j3G
  simp only [ZaQ b,cond_true,j00 b,Zay _ _ _ b,j01 (n:=(i:Int)+1) (by omega),ZaO,Zai,cond_false,Bool.not_true,jmL _ (j29 h (List.getElem_mem b))]
 ·show j3G a a _ _ _ _=_
  unfold j3G
  rw [ZaP,cond_false]
end Go.PI.G
namespace Go.PI.G
open Go Go.PI Go.Proofs
theorem jqR (a:List qV) (h:msr y3 a<=1048576) (k:qW->Res):j9V a k=k a:=by
 have b:msr y3 a<=1048576:=h
 unfold j9V
 simp only [jbD _ b]
theorem jqM (a:List qV) (left:Int) (g:0<=left) (h:left<=1048576) (f:Wf y3 a) (k:Int->Res):j9T a left k=k (szR left (msr y3 a)):=by
 have d:msr y3 a=msr y3 a+0:=rfl
 rw [d]
 unfold j9T
 rw [jhA _ _ (by omega) (by omega) f]
 by_cases b:((msr y3 a:Nat):Int)<=left
 rotate_left
 ·rw [Zaz b,Zal b,Za5 (by omega),cond_true]
 rw [ZaA b,Zak b,Za4 (by omega),cond_false]
 exact jfr (by omega)
theorem jqg (a:List qV) (h:msr y3 a<=1048576) (k:Bool->Res):j9R a a k=k true:=by
 have b:msr y3 a<=1048576:=h
 unfold j9R
 simp only [ZaO,Zai,beq_self_eq_true,cond_false,Bool.not_true,jh2 _ b]
end Go.PI.G
namespace Go.PI.G
open Go Go.PI Go.Proofs
theorem jpS (a:Int×ByteArray×qW×qW×Int×ByteArray×qE×List ByteArray×ByteArray×ByteArray) (h:msr y17 a<=1048576) (k:qS->Res):j8x a k=k a:=by
 have b:msr y3 a.2.2.1<=1048576:=(Nat.le_trans (@j9s y3 y14 a.2.2) (Nat.le_trans (@j07 .str y15 a.2) (Nat.le_trans (@j07 (.int .i64) y16 a) h)))
 have d:msr y3 a.2.2.2.1<=1048576:=(Nat.le_trans (@j9s y3 y13 a.2.2.2) (Nat.le_trans (@j07 y3 y14 a.2.2) (Nat.le_trans (@j07 .str y15 a.2) (Nat.le_trans (@j07 (.int .i64) y16 a) h))))
 have f:msr y13 a.2.2.2.2<=1048576:=(Nat.le_trans (@j07 y3 y13 a.2.2.2) (Nat.le_trans (@j07 y3 y14 a.2.2) (Nat.le_trans (@j07 .str y15 a.2) (Nat.le_trans (@j07 (.int .i64) y16 a) h))))
 unfold j8x
 simp only [jbD _ b,jqR _ d,jqP _ f]
theorem jpQ (a:Int×ByteArray×qW×qW×Int×ByteArray×qE×List ByteArray×ByteArray×ByteArray) (left:Int) (l:0<=left) (m:left<=1048576) (h:Wf y17 a) (k:Int->Res):j8v a left k=k (szR left (msr y17 a)):=by
 have j:msr y17 a=ByteArray.size a.2.1+(msr y3 a.2.2.1+(msr y3 a.2.2.2.1+(msr y13 a.2.2.2.2+0))):=by simp only [msr]<;>omega
 rw [j]
 unfold j8v
 have i:ByteArray.size a.2.1<=maxLen:=h.2.1
 unfold maxLen at i
 rw [j01 (by unfold nI;omega)]
 by_cases g:((ByteArray.size a.2.1:Nat):Int)<=left
 rotate_left
 ·rw [Zal g,Za5 (by unfold nI;omega),cond_true]
 rw [Za4 (by unfold nI;omega),cond_false,Zak g,show left-nI (ByteArray.size a.2.1)=left-((ByteArray.size a.2.1:Nat):Int) from rfl]
 rw [jhA _ _ (by omega) (by omega) h.2.2.1]
 by_cases b:((msr y3 a.2.2.1:Nat):Int)<=left-(ByteArray.size a.2.1:Nat)
 rotate_left
 ·rw [Zaz b,Zal b,Za5 (by omega),cond_true]
 rw [ZaA b,Zak b,Za4 (by omega),cond_false]
 rw [jqM _ _ (by omega) (by omega) h.2.2.2.1]
 by_cases d:((msr y3 a.2.2.2.1:Nat):Int)<=left-(ByteArray.size a.2.1:Nat)-(msr y3 a.2.2.1:Nat)
 rotate_left
 ·rw [Zaz d,Zal d,Za5 (by omega),cond_true]
 rw [ZaA d,Zak d,Za4 (by omega),cond_false]
 rw [jqJ _ _ (by omega) (by omega) h.2.2.2.2]
 by_cases f:((msr y13 a.2.2.2.2:Nat):Int)<=left-(ByteArray.size a.2.1:Nat)-(msr y3 a.2.2.1:Nat)-(msr y3 a.2.2.2.1:Nat)
 rotate_left
 ·rw [Zaz f,Zal f,Za5 (by omega),cond_true]
 rw [ZaA f,Zak f,Za4 (by omega),cond_false]
 exact jfr (by omega)
theorem jpq (a:Int×ByteArray×qW×qW×Int×ByteArray×qE×List ByteArray×ByteArray×ByteArray) (h:msr y17 a<=1048576) (k:Bool->Res):j8s a a k=k true:=by
 have b:msr y3 a.2.2.1<=1048576:=(Nat.le_trans (@j9s y3 y14 a.2.2) (Nat.le_trans (@j07 .str y15 a.2) (Nat.le_trans (@j07 (.int .i64) y16 a) h)))
 have d:msr y3 a.2.2.2.1<=1048576:=(Nat.le_trans (@j9s y3 y13 a.2.2.2) (Nat.le_trans (@j07 y3 y14 a.2.2) (Nat.le_trans (@j07 .str y15 a.2) (Nat.le_trans (@j07 (.int .i64) y16 a) h))))
 have f:msr y13 a.2.2.2.2<=1048576:=(Nat.le_trans (@j07 y3 y13 a.2.2.2) (Nat.le_trans (@j07 y3 y14 a.2.2) (Nat.le_trans (@j07 .str y15 a.2) (Nat.le_trans (@j07 (.int .i64) y16 a) h))))
 unfold j8s
 simp only [ZaO,Zai,beq_self_eq_true,cond_false,Bool.not_true,jh2 _ b,jqg _ d,jqe _ f]
end Go.PI.G
namespace Go.PI.G
open Go Go.PI Go.Proofs
theorem jqQ (a:Int×Int×Int×ByteArray×qW×qW×Int×ByteArray×qE×List ByteArray×ByteArray×ByteArray) (h:msr y19 a<=1048576) (k:(Int×Int×Int×ByteArray×qW×qW×Int×ByteArray×qE×List ByteArray×ByteArray×ByteArray)->Res):jcs a k=k a:=by
 have b:msr y17 a.2.2<=1048576:=(Nat.le_trans (@j07 (.int .i64) y17 a.2) (Nat.le_trans (@j07 (.int .i64) y18 a) h))
 unfold jcs
 simp only [jpS _ b]
theorem jqL (a:Int×Int×Int×ByteArray×qW×qW×Int×ByteArray×qE×List ByteArray×ByteArray×ByteArray) (left:Int) (g:0<=left) (h:left<=1048576) (f:Wf y19 a) (k:Int->Res):jcq a left k=k (szR left (msr y19 a)):=by
 have d:msr y19 a=msr y17 a.2.2+0:=by simp only [msr]<;>omega
 rw [d]
 unfold jcq
 rw [jpQ _ _ (by omega) (by omega) f.2.2]
 by_cases b:((msr y17 a.2.2:Nat):Int)<=left
 rotate_left
 ·rw [Zaz b,Zal b,Za5 (by omega),cond_true]
 rw [ZaA b,Zak b,Za4 (by omega),cond_false]
 exact jfr (by omega)
theorem jqf (a:Int×Int×Int×ByteArray×qW×qW×Int×ByteArray×qE×List ByteArray×ByteArray×ByteArray) (h:msr y19 a<=1048576) (k:Bool->Res):jco a a k=k true:=by
 have b:msr y17 a.2.2<=1048576:=(Nat.le_trans (@j07 (.int .i64) y17 a.2) (Nat.le_trans (@j07 (.int .i64) y18 a) h))
 unfold jco
 simp only [ZaO,Zai,beq_self_eq_true,cond_false,Bool.not_true,jpq _ b]
end Go.PI.G
namespace Go.PI.G
open Go Go.PI Go.Proofs
theorem jhB (a:(List (Int×Int×Int×ByteArray×qW×qW×Int×ByteArray×qE×List ByteArray×ByteArray×ByteArray))) (h:msr y20 a<=1048576) (k:(List (Int×Int×Int×ByteArray×qW×qW×Int×ByteArray×qE×List ByteArray×ByteArray×ByteArray))->Res):j4S a k=k a:=by
 have g:a.length<=1048576:=j0Y h
 unfold j4S
 rw [Zav (by unfold LIM;omega),cond_true]
 have:=ZaC ((0,0,0,eS,[],[],0,eS,[],[],eS,eS)) a id (step:=j8W a) (λb=>k b) (by unfold LIM;omega) (λb i rec d f=>by
  show j3L a _ _ _ _=_
  unfold j3L
  dsimp only
  simp only [ZaQ d,cond_true,j00 d,j00 (show i<b.length by omega),Zay _ _ _ d,ZaF,j01 (n:=(i:Int)+1) (by omega),jqQ _ (j29 h (List.getElem_mem d))]
  rfl) (λb rec=>by
  show j3L a _ _ _ _=_
  unfold j3L
  dsimp only
  rw [ZaP,cond_false])
 rw [List.map_id] at this
 exact this
theorem jpP (a:(List (Int×Int×Int×ByteArray×qW×qW×Int×ByteArray×qE×List ByteArray×ByteArray×ByteArray))) (left:Int) (g:0<=left) (h:left<=1048576) (l:Wf y20 a) (k:Int->Res):j8u a left k=k (szR left (msr y20 a)):=by
 have j:a.length<=maxLen:=l.1
 have p:msr y20 a=a.length+(a.map (msr y19)).sum:=rfl
 rw [p]
 unfold j8u
 refine jkb (F:=λq=>jaT a Z1c q 0 (λd=>k d) (λ_=>k (-1))) (k:=k) g h j λb=> ?_
 unfold jaT
 rw [ZaB (msr y19) a _ (by omega) (λleft i rec f g h=> ?_) (λleft rec=> ?_) _ (by omega) (by omega)]
 ·by_cases b:(((a.map (msr y19)).sum:Nat):Int)<=left-a.length
  ·rw [if_pos b,ZaA b]
  ·rw [if_neg b,Zaz b]
 ·show j3I a _ _ _ _ _=_
  have r:=l.2 _ (List.getElem_mem f)
  unfold j3I
  rw [ZaQ f,cond_true,j00 f,cond_true,Zay _ _ _ f,jqL _ _ g h r]
  have m:(i:Int)<4611686018427387904:=by unfold maxLen at j;omega
  rw [j01 (n:=(i:Int)+1) (by omega)]
  by_cases b:((msr y19 a[i]:Nat):Int)<=left
  ·rw [if_pos b,ZaA b,Za4 (by omega),cond_false]
  ·rw [if_neg b,Zaz b,Za5 (by omega),cond_true]
 ·show j3I a _ _ _ _ _=_
  unfold j3I
  rw [ZaP,cond_false]
theorem jpp (a:(List (Int×Int×Int×ByteArray×qW×qW×Int×ByteArray×qE×List ByteArray×ByteArray×ByteArray))) (h:msr y20 a<=1048576) (k:Bool->Res):j8r a a k=k true:=by
 have d:a.length<=1048576:=j0Y h
 unfold j8r
 rw [ZaO,cond_false]
 unfold jfc
 rw [Zar a _ (by unfold LIM;omega) (λi rec b=> ?_) (λrec=> ?_)]
 ·show j3F a a _ _ _ _=_
  unfold j3F
  simp only [ZaQ b,cond_true,j00 b,Zay _ _ _ b,j01 (n:=(i:Int)+1) (by omega),ZaO,Zai,cond_false,Bool.not_true,jqf _ (j29 h (List.getElem_mem b))]
 ·show j3F a a _ _ _ _=_
  unfold j3F
  rw [ZaP,cond_false]
end Go.PI.G
namespace Go.PI.G
open Go Go.PI Go.Proofs
theorem jrq {n:Nat} (h:(nI n==0)=false):inb 0 n=true:=by
 have:n≠0:=by
  intro e
  rw [e] at h
  cases h
 exact ZaK (by omega) (by omega)
theorem gt0 (n:Nat):decide (nI n>0)= !(nI n==0):=by
 cases n with
 | zero=>rfl
 | succ n=>
  have:(nI (n+1)==0)=false:=by unfold nI;simp;omega
  rw [this,decide_eq_true (by unfold nI;omega)]
  rfl
theorem joe (l:List RC) (h:l.length<=1048576) (d:∀ r∈l,j0P r.2.2) (t:ByteArray) (b:List V) (k:Int->Res):jbz l t b k=k (jmq l t b):=by
 unfold jbz jmq
 rw [jom l h d]
 generalize jcu l t b=w
 cases e:(nI w.length)==0
 ·rw [cond_false,cond_false,jrq e];rfl
 ·rfl
theorem jo2 (l:List RC) (h:l.length<=1048576) (d:∀ r∈l,j0P r.2.2) (t:ByteArray) (b:List V) (k:Int->Res):jbu l t b k=k (jmq l t b):=by
 unfold jbu jmq
 rw [jo8 l h d]
 generalize jcu l t b=w
 rw [gt0]
 cases e:(nI w.length)==0
 ·rw [cond_false,Bool.not_false,cond_true,jrq e];rfl
 ·rfl
theorem jr0 (b:List RC) (n:Wf (.slice yRC) b) (h:ByteArray) (w1:Wf .str h) (g:List V) (w2:Wf (.slice yV) g) (k:Bool->Res):j3D b h g k=k true:=by
 unfold j3D
 by_cases ht:nI h.size>1048576
 ·rw [decide_eq_true ht];rfl
 rw [decide_eq_false ht,cond_false,jpP b 1048576 (by omega) (by omega) n]
 by_cases j:((msr (.slice yRC) b:Nat):Int)<=1048576
 rotate_left
 ·rw [Zaz j];rfl
 have d:msr (.slice yRC) b<=1048576:=by omega
 obtain ⟨i,m⟩:=jqq d
 rw [ZaA j,decide_eq_false (by omega),cond_false,jhA g (1048576-((msr (.slice yRC) b:Nat):Int)) (by omega) (by omega) w2]
 by_cases l:((msr (.slice yV) g:Nat):Int)<=1048576-((msr (.slice yRC) b:Nat):Int)
 rotate_left
 ·rw [Zaz l];rfl
 have f:msr (.slice yV) g<=1048576:=by omega
 rw [ZaA l,decide_eq_false (by omega),cond_false,jhB b d,jbD g f,joe b i m,jhB b d,jbD g f,jo2 b i m,ZaO,cond_false,jhB b d,jpp b d,Bool.not_true,cond_false,jbD g f,jh2 g f]
 rfl
end Go.PI.G
