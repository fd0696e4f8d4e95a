/-
  Program's code interpreted over typed values; printed texts; plain laws. No conditions.
-/
import Derived.Test.YtnemiodjnhfejaaGreatSPi
import Derived.Test.YtnemiodjnhfejaaGreatSPm
set_option linter.unusedVariables false
set_option linter.unusedSimpArgs false
set_option maxRecDepth 10000
namespace Go.PI.G
open Go Go.PI Go.Proofs
theorem jom (a:Int×ByteArray×qW×qW×Int×ByteArray×qE×List ByteArray×ByteArray×ByteArray) (h:msr y17 a<=1048576) (k:qS->Res):j81 a k=k a:=by
 have b:msr y3 a.2.2.1<=1048576:=(Nat.le_trans (@j8S y3 y14 a.2.2) (Nat.le_trans (@j07 .str y15 a.2) (Nat.le_trans (@j07 (.int .i64) y16 a) h)))
 have d:msr y3 a.2.2.2.1<=1048576:=(Nat.le_trans (@j8S y3 y13 a.2.2.2) (Nat.le_trans (@j07 y3 y14 a.2.2) (Nat.le_trans (@j07 .str y15 a.2) (Nat.le_trans (@j07 (.int .i64) y16 a) h))))
 have f:msr y13 a.2.2.2.2<=1048576:=(Nat.le_trans (@j07 y3 y13 a.2.2.2) (Nat.le_trans (@j07 y3 y14 a.2.2) (Nat.le_trans (@j07 .str y15 a.2) (Nat.le_trans (@j07 (.int .i64) y16 a) h))))
 unfold j81
 simp only [jk8 _ b,jpk _ d,jpi _ f]
theorem jok (a:Int×ByteArray×qW×qW×Int×ByteArray×qE×List ByteArray×ByteArray×ByteArray) (left:Int) (l:0<=left) (m:left<=1048576) (h:Wf y17 a) (k:Int->Res):j7Z a left k=k (szR left (msr y17 a)):=by
 have j:msr y17 a=ByteArray.size a.2.1+(msr y3 a.2.2.1+(msr y3 a.2.2.2.1+(msr y13 a.2.2.2.2+0))):=by simp only [msr];omega
 rw [j]
 unfold j7Z
 have i:ByteArray.size a.2.1<=maxLen:=h.2.1
 unfold maxLen at i
 rw [j01 (by unfold nI;omega)]
 by_cases g:((ByteArray.size a.2.1:Nat):Int)<=left
 rotate_left
 ·rw [Z9V g,Z9G (by unfold nI;omega),cond_true]
 rw [Z9F (by unfold nI;omega),cond_false,Z9U g,show left-nI (ByteArray.size a.2.1)=left-((ByteArray.size a.2.1:Nat):Int) from rfl]
 rw [jk7 _ _ (by omega) (by omega) h.2.2.1]
 by_cases b:((msr y3 a.2.2.1:Nat):Int)<=left-(ByteArray.size a.2.1:Nat)
 rotate_left
 ·rw [Za8 b,Z9V b,Z9G (by omega),cond_true]
 rw [Za9 b,Z9U b,Z9F (by omega),cond_false]
 rw [jpf _ _ (by omega) (by omega) h.2.2.2.1]
 by_cases d:((msr y3 a.2.2.2.1:Nat):Int)<=left-(ByteArray.size a.2.1:Nat)-(msr y3 a.2.2.1:Nat)
 rotate_left
 ·rw [Za8 d,Z9V d,Z9G (by omega),cond_true]
 rw [Za9 d,Z9U d,Z9F (by omega),cond_false]
 rw [jpc _ _ (by omega) (by omega) h.2.2.2.2]
 by_cases f:((msr y13 a.2.2.2.2:Nat):Int)<=left-(ByteArray.size a.2.1:Nat)-(msr y3 a.2.2.1:Nat)-(msr y3 a.2.2.2.1:Nat)
 rotate_left
 ·rw [Za8 f,Z9V f,Z9G (by omega),cond_true]
 rw [Za9 f,Z9U f,Z9F (by omega),cond_false]
 exact jeg (by omega)
theorem jnV (a:Int×ByteArray×qW×qW×Int×ByteArray×qE×List ByteArray×ByteArray×ByteArray) (h:msr y17 a<=1048576) (k:Bool->Res):j7W a a k=k true:=by
 have b:msr y3 a.2.2.1<=1048576:=(Nat.le_trans (@j8S y3 y14 a.2.2) (Nat.le_trans (@j07 .str y15 a.2) (Nat.le_trans (@j07 (.int .i64) y16 a) h)))
 have d:msr y3 a.2.2.2.1<=1048576:=(Nat.le_trans (@j8S y3 y13 a.2.2.2) (Nat.le_trans (@j07 y3 y14 a.2.2) (Nat.le_trans (@j07 .str y15 a.2) (Nat.le_trans (@j07 (.int .i64) y16 a) h))))
 have f:msr y13 a.2.2.2.2<=1048576:=(Nat.le_trans (@j07 y3 y13 a.2.2.2) (Nat.le_trans (@j07 y3 y14 a.2.2) (Nat.le_trans (@j07 .str y15 a.2) (Nat.le_trans (@j07 (.int .i64) y16 a) h))))
 unfold j7W
 simp only [Zak,Z9S,beq_self_eq_true,cond_false,Bool.not_true,jjO _ b,joI _ d,joG _ f]
end Go.PI.G
namespace Go.PI.G
open Go Go.PI Go.Proofs
theorem jpj (a:Int×Int×Int×ByteArray×qW×qW×Int×ByteArray×qE×List ByteArray×ByteArray×ByteArray) (h:msr y19 a<=1048576) (k:(Int×Int×Int×ByteArray×qW×qW×Int×ByteArray×qE×List ByteArray×ByteArray×ByteArray)->Res):jbv a k=k a:=by
 have b:msr y17 a.2.2<=1048576:=(Nat.le_trans (@j07 (.int .i64) y17 a.2) (Nat.le_trans (@j07 (.int .i64) y18 a) h))
 unfold jbv
 simp only [jom _ b]
theorem jpe (a:Int×Int×Int×ByteArray×qW×qW×Int×ByteArray×qE×List ByteArray×ByteArray×ByteArray) (left:Int) (g:0<=left) (h:left<=1048576) (f:Wf y19 a) (k:Int->Res):jbt a left k=k (szR left (msr y19 a)):=by
 have d:msr y19 a=msr y17 a.2.2+0:=by simp only [msr];omega
 rw [d]
 unfold jbt
 rw [jok _ _ (by omega) (by omega) f.2.2]
 by_cases b:((msr y17 a.2.2:Nat):Int)<=left
 rotate_left
 ·rw [Za8 b,Z9V b,Z9G (by omega),cond_true]
 rw [Za9 b,Z9U b,Z9F (by omega),cond_false]
 exact jeg (by omega)
theorem joH (a:Int×Int×Int×ByteArray×qW×qW×Int×ByteArray×qE×List ByteArray×ByteArray×ByteArray) (h:msr y19 a<=1048576) (k:Bool->Res):jbr a a k=k true:=by
 have b:msr y17 a.2.2<=1048576:=(Nat.le_trans (@j07 (.int .i64) y17 a.2) (Nat.le_trans (@j07 (.int .i64) y18 a) h))
 unfold jbr
 simp only [Zak,Z9S,beq_self_eq_true,cond_false,Bool.not_true,jnV _ b]
end Go.PI.G
namespace Go.PI.G
open Go Go.PI Go.Proofs
theorem jgq (a:(List (Int×Int×Int×ByteArray×qW×qW×Int×ByteArray×qE×List ByteArray×ByteArray×ByteArray))) (h:msr y20 a<=1048576) (k:(List (Int×Int×Int×ByteArray×qW×qW×Int×ByteArray×qE×List ByteArray×ByteArray×ByteArray))->Res):j4v a k=k a:=by
 have g:a.length<=1048576:=j0M h
 unfold j4v
 rw [Za4 (by unfold LIM;omega),cond_true]
 have:=Zab ((0,0,0,eS,[],[],0,eS,[],[],eS,eS)) a id (step:=j8n a) (λb=>k b) (by unfold LIM;omega) (λb i rec d f=>by
  show j3o a _ _ _ _=_
  unfold j3o
  dsimp only
  simp only [Zam d,cond_true,j00 d,j00 (show i<b.length by omega),Za7 _ _ _ d,Zad,j01 (n:=(i:Int)+1) (by omega),jpj _ (j1R h (List.getElem_mem d))]
  rfl) (λb rec=>by
  show j3o a _ _ _ _=_
  unfold j3o
  dsimp only
  rw [Zal,cond_false])
 rw [List.map_id] at this
 exact this
theorem joj (a:(List (Int×Int×Int×ByteArray×qW×qW×Int×ByteArray×qE×List ByteArray×ByteArray×ByteArray))) (left:Int) (g:0<=left) (h:left<=1048576) (l:Wf y20 a) (k:Int->Res):j7Y a left k=k (szR left (msr y20 a)):=by
 have j:a.length<=maxLen:=l.1
 have p:msr y20 a=a.length+(a.map (msr y19)).sum:=rfl
 rw [p]
 unfold j7Y
 refine jiO (F:=λq=>ja8 a Z1Y q 0 (λd=>k d) (λ_=>k (-1))) (k:=k) g h j λb=> ?_
 unfold ja8
 rw [Zaa (msr y19) a _ (by omega) (λleft i rec f g h=> ?_) (λleft rec=> ?_) _ (by omega) (by omega)]
 ·by_cases b:(((a.map (msr y19)).sum:Nat):Int)<=left-a.length
  ·rw [if_pos b,Za9 b]
  ·rw [if_neg b,Za8 b]
 ·show j3l a _ _ _ _ _=_
  have r:=l.2 _ (List.getElem_mem f)
  unfold j3l
  rw [Zam f,cond_true,j00 f,cond_true,Za7 _ _ _ f,jpe _ _ g h r]
  have m:(i:Int)<4611686018427387904:=by unfold maxLen at j;omega
  rw [j01 (n:=(i:Int)+1) (by omega)]
  by_cases b:((msr y19 a[i]:Nat):Int)<=left
  ·rw [if_pos b,Za9 b,Z9F (by omega),cond_false]
  ·rw [if_neg b,Za8 b,Z9G (by omega),cond_true]
 ·show j3l a _ _ _ _ _=_
  unfold j3l
  rw [Zal,cond_false]
theorem jnU (a:(List (Int×Int×Int×ByteArray×qW×qW×Int×ByteArray×qE×List ByteArray×ByteArray×ByteArray))) (h:msr y20 a<=1048576) (k:Bool->Res):j7V a a k=k true:=by
 have d:a.length<=1048576:=j0M h
 unfold j7V
 rw [Zak,cond_false]
 unfold je2
 rw [Za1 a _ (by unfold LIM;omega) (λi rec b=> ?_) (λrec=> ?_)]
 ·show j3i a a _ _ _ _=_
  unfold j3i
  simp only [Zam b,cond_true,j00 b,Za7 _ _ _ b,j01 (n:=(i:Int)+1) (by omega),Zak,Z9S,cond_false,Bool.not_true,joH _ (j1R h (List.getElem_mem b))]
 ·show j3i a a _ _ _ _=_
  unfold j3i
  rw [Zal,cond_false]
end Go.PI.G
namespace Go.PI.G
open Go Go.PI Go.Proofs
theorem jmP (l:List RC) (h:l.length<=1048576) (d:∀ r∈l,j1d r.2.2) (p:Int) (k:Int->Res):jaL l p k=k (jl3 l p):=by
 unfold jaL jl3
 rw [jmJ l h d]
 rcases jbo l p with ⟨e,b⟩ | ⟨i,j,g,m,b,w,e,f,y,q⟩
 ·rw [e];rfl
 ·rw [e,jnd,cond_false,cond_false,j01 (n:=p-((j:Int)+1)) (by omega),j01 (by omega)]
theorem jmC (l:List RC) (h:l.length<=1048576) (d:∀ r∈l,j1d r.2.2) (p:Int) (k:Int->Res):jaG l p k=k (jl3 l p):=by
 unfold jaG jl3
 rw [jlD l h d]
 unfold jnt
 rcases jbo l p with ⟨e,b⟩ | ⟨i,j,g,m,b,q,e,f,w,n⟩
 ·rw [e];rfl
 ·rw [e,jnd,cond_false,cond_false,List.length_drop,List.length_take]
  unfold nI
  congr 1
  omega
theorem jpt (d:List RC) (j:Wf (.slice yRC) d) (i:Int) (w1:Wf (.int .i64) i) (k:Bool->Res):j3g d i k=k true:=by
 unfold j3g
 rw [joj d 1048576 (by omega) (by omega) j]
 by_cases g:((msr (.slice yRC) d:Nat):Int)<=1048576
 rotate_left
 ·rw [Za8 g];rfl
 have b:msr (.slice yRC) d<=1048576:=by omega
 obtain ⟨f,h⟩:=joT b
 rw [Za9 g,decide_eq_false (by omega),cond_false,jgq d b,jmP d f h,jgq d b,jmC d f h,Zak,cond_false,jgq d b,jnU d b]
 rfl
end Go.PI.G
