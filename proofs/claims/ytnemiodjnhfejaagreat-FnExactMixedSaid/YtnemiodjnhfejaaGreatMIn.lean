/-
  Program's code interpreted over typed values; printed texts; plain laws. No conditions.
-/
import Derived.Test.YtnemiodjnhfejaaGreatMIm
import Derived.Test.YtnemiodjnhfejaaGreatMIi
set_option linter.unusedVariables false
set_option linter.unusedSimpArgs false
set_option maxRecDepth 10000
namespace Go.PI.G
open Go Go.PI Go.Proofs
theorem jpz (a:Int×ByteArray×qE×List ByteArray×ByteArray×ByteArray) (h:msr y13 a<=1048576) (k:(Int×ByteArray×qE×List ByteArray×ByteArray×ByteArray)->Res):j7u a k=k a:=by
 have b:msr y8 a.2.2.1<=1048576:=(Nat.le_trans (@j91 y8 y10 a.2.2) (Nat.le_trans (@j07 .str y11 a.2) (Nat.le_trans (@j07 (.int .i64) y12 a) h)))
 have d:msr y0 a.2.2.2.1<=1048576:=(Nat.le_trans (@j91 y0 y9 a.2.2.2) (Nat.le_trans (@j07 y8 y10 a.2.2) (Nat.le_trans (@j07 .str y11 a.2) (Nat.le_trans (@j07 (.int .i64) y12 a) h))))
 unfold j7u
 simp only [joB _ b,jmy _ d]
theorem jpt (a:Int×ByteArray×qE×List ByteArray×ByteArray×ByteArray) (left:Int) (p:0<=left) (q:left<=1048576) (i:Wf y13 a) (k:Int->Res):j7t a left k=k (szR left (msr y13 a)):=by
 have n:msr y13 a=ByteArray.size a.2.1+(msr y8 a.2.2.1+(msr y0 a.2.2.2.1+(ByteArray.size a.2.2.2.2.1+(ByteArray.size a.2.2.2.2.2+0)))):=by simp only [msr]<;>omega
 rw [n]
 unfold j7t
 have j:ByteArray.size a.2.1<=maxLen:=i.2.1
 unfold maxLen at j
 rw [j01 (by unfold nI;omega)]
 by_cases f:((ByteArray.size a.2.1:Nat):Int)<=left
 rotate_left
 ·rw [Zal f,Za5 (by unfold nI;omega),cond_true]
 rw [Za4 (by unfold nI;omega),cond_false,Zak f,show left-nI (ByteArray.size a.2.1)=left-((ByteArray.size a.2.1:Nat):Int) from rfl]
 rw [joy _ _ (by omega) (by omega) i.2.2.1]
 by_cases b:((msr y8 a.2.2.1:Nat):Int)<=left-(ByteArray.size a.2.1:Nat)
 rotate_left
 ·rw [Zaz b,Zal b,Za5 (by omega),cond_true]
 rw [ZaA b,Zak b,Za4 (by omega),cond_false]
 rw [jmv _ _ (by omega) (by omega) i.2.2.2.1]
 by_cases d:((msr y0 a.2.2.2.1:Nat):Int)<=left-(ByteArray.size a.2.1:Nat)-(msr y8 a.2.2.1:Nat)
 rotate_left
 ·rw [Zaz d,Zal d,Za5 (by omega),cond_true]
 rw [ZaA d,Zak d,Za4 (by omega),cond_false]
 have l:ByteArray.size a.2.2.2.2.1<=maxLen:=i.2.2.2.2.1
 unfold maxLen at l
 rw [j01 (by unfold nI;omega)]
 by_cases g:((ByteArray.size a.2.2.2.2.1:Nat):Int)<=left-(ByteArray.size a.2.1:Nat)-(msr y8 a.2.2.1:Nat)-(msr y0 a.2.2.2.1:Nat)
 rotate_left
 ·rw [Zal g,Za5 (by unfold nI;omega),cond_true]
 rw [Za4 (by unfold nI;omega),cond_false,Zak g,show left-(ByteArray.size a.2.1:Nat)-(msr y8 a.2.2.1:Nat)-(msr y0 a.2.2.2.1:Nat)-nI (ByteArray.size a.2.2.2.2.1)=left-(ByteArray.size a.2.1:Nat)-(msr y8 a.2.2.1:Nat)-(msr y0 a.2.2.2.1:Nat)-((ByteArray.size a.2.2.2.2.1:Nat):Int) from rfl]
 have m:ByteArray.size a.2.2.2.2.2<=maxLen:=i.2.2.2.2.2
 unfold maxLen at m
 rw [j01 (by unfold nI;omega)]
 by_cases h:((ByteArray.size a.2.2.2.2.2:Nat):Int)<=left-(ByteArray.size a.2.1:Nat)-(msr y8 a.2.2.1:Nat)-(msr y0 a.2.2.2.1:Nat)-(ByteArray.size a.2.2.2.2.1:Nat)
 rotate_left
 ·rw [Zal h,Za5 (by unfold nI;omega),cond_true]
 rw [Za4 (by unfold nI;omega),cond_false,Zak h,show left-(ByteArray.size a.2.1:Nat)-(msr y8 a.2.2.1:Nat)-(msr y0 a.2.2.2.1:Nat)-(ByteArray.size a.2.2.2.2.1:Nat)-nI (ByteArray.size a.2.2.2.2.2)=left-(ByteArray.size a.2.1:Nat)-(msr y8 a.2.2.1:Nat)-(msr y0 a.2.2.2.1:Nat)-(ByteArray.size a.2.2.2.2.1:Nat)-((ByteArray.size a.2.2.2.2.2:Nat):Int) from rfl]
 exact jes (by omega)
theorem joW (a:Int×ByteArray×qE×List ByteArray×ByteArray×ByteArray) (h:msr y13 a<=1048576) (k:Bool->Res):j7s a a k=k true:=by
 have b:msr y8 a.2.2.1<=1048576:=(Nat.le_trans (@j91 y8 y10 a.2.2) (Nat.le_trans (@j07 .str y11 a.2) (Nat.le_trans (@j07 (.int .i64) y12 a) h)))
 have d:msr y0 a.2.2.2.1<=1048576:=(Nat.le_trans (@j91 y0 y9 a.2.2.2) (Nat.le_trans (@j07 y8 y10 a.2.2) (Nat.le_trans (@j07 .str y11 a.2) (Nat.le_trans (@j07 (.int .i64) y12 a) h))))
 unfold j7s
 simp only [ZaO,Zai,beq_self_eq_true,cond_false,Bool.not_true,jo9 _ b,jlH _ d]
end Go.PI.G
namespace Go.PI.G
open Go Go.PI Go.Proofs
theorem jkp (a:qW) (h:msr y3 a<=1048576) (k:qW->Res):j6k a k=k a:=by
 have g:a.length<=1048576:=j0M h
 unfold j6k
 rw [Zav (by unfold LIM;omega),cond_true]
 have:=ZaC ((0,0,eS)) a id (step:=j8w a) (λb=>k b) (by unfold LIM;omega) (λb i rec d f=>by
  show j3r a _ _ _ _=_
  unfold j3r
  dsimp only
  simp only [ZaQ d,cond_true,j00 d,j00 (show i<b.length by omega),Zay _ _ _ d,ZaF,j01 (n:=(i:Int)+1) (by omega),jmz _ (j1U h (List.getElem_mem d))]
  rfl) (λb rec=>by
  show j3r a _ _ _ _=_
  unfold j3r
  dsimp only
  rw [ZaP,cond_false])
 rw [List.map_id] at this
 exact this
theorem jko (a:qW) (left:Int) (g:0<=left) (h:left<=1048576) (l:Wf y3 a) (k:Int->Res):j6j a left k=k (szR left (msr y3 a)):=by
 have j:a.length<=maxLen:=l.1
 have p:msr y3 a=a.length+(a.map (msr y2)).sum:=rfl
 rw [p]
 unfold j6j
 refine jj3 (F:=λq=>jai a Z1c q 0 (λd=>k d) (λ_=>k (-1))) (k:=k) g h j λb=> ?_
 unfold jai
 rw [ZaB (msr y2) a _ (by omega) (λleft i rec f g h=> ?_) (λleft rec=> ?_) _ (by omega) (by omega)]
 ·by_cases b:(((a.map (msr y2)).sum:Nat):Int)<=left-a.length
  ·rw [if_pos b,ZaA b]
  ·rw [if_neg b,Zaz b]
 ·show j3o a _ _ _ _ _=_
  have r:=l.2 _ (List.getElem_mem f)
  unfold j3o
  rw [ZaQ f,cond_true,j00 f,cond_true,Zay _ _ _ f,jmw _ _ g h r]
  have m:(i:Int)<4611686018427387904:=by unfold maxLen at j;omega
  rw [j01 (n:=(i:Int)+1) (by omega)]
  by_cases b:((msr y2 a[i]:Nat):Int)<=left
  ·rw [if_pos b,ZaA b,Za4 (by omega),cond_false]
  ·rw [if_neg b,Zaz b,Za5 (by omega),cond_true]
 ·show j3o a _ _ _ _ _=_
  unfold j3o
  rw [ZaP,cond_false]
theorem jk3 (a:qW) (h:msr y3 a<=1048576) (k:Bool->Res):j6i a a k=k true:=by
 have d:a.length<=1048576:=j0M h
 unfold j6i
 rw [ZaO,cond_false]
 unfold jed
 rw [Zar a _ (by unfold LIM;omega) (λi rec b=> ?_) (λrec=> ?_)]
 ·show j3l a a _ _ _ _=_
  unfold j3l
  simp only [ZaQ b,cond_true,j00 b,Zay _ _ _ b,j01 (n:=(i:Int)+1) (by omega),ZaO,Zai,cond_false,Bool.not_true,jlI _ (j1U h (List.getElem_mem b))]
 ·show j3l a a _ _ _ _=_
  unfold j3l
  rw [ZaP,cond_false]
end Go.PI.G
namespace Go.PI.G
open Go Go.PI Go.Proofs
theorem jpB (a:List qV) (h:msr y3 a<=1048576) (k:qW->Res):j9l a k=k a:=by
 have b:msr y3 a<=1048576:=h
 unfold j9l
 simp only [jkp _ b]
theorem jpw (a:List qV) (left:Int) (g:0<=left) (h:left<=1048576) (f:Wf y3 a) (k:Int->Res):j9j a left k=k (szR left (msr y3 a)):=by
 have d:msr y3 a=msr y3 a+0:=rfl
 rw [d]
 unfold j9j
 rw [jko _ _ (by omega) (by omega) f]
 by_cases b:((msr y3 a:Nat):Int)<=left
 rotate_left
 ·rw [Zaz b,Zal b,Za5 (by omega),cond_true]
 rw [ZaA b,Zak b,Za4 (by omega),cond_false]
 exact jes (by omega)
theorem joY (a:List qV) (h:msr y3 a<=1048576) (k:Bool->Res):j9h a a k=k true:=by
 have b:msr y3 a<=1048576:=h
 unfold j9h
 simp only [ZaO,Zai,beq_self_eq_true,cond_false,Bool.not_true,jk3 _ b]
end Go.PI.G
namespace Go.PI.G
open Go Go.PI Go.Proofs
theorem joC (a:Int×ByteArray×qW×qW×Int×ByteArray×qE×List ByteArray×ByteArray×ByteArray) (h:msr y17 a<=1048576) (k:qS->Res):j88 a k=k a:=by
 have b:msr y3 a.2.2.1<=1048576:=(Nat.le_trans (@j91 y3 y14 a.2.2) (Nat.le_trans (@j07 .str y15 a.2) (Nat.le_trans (@j07 (.int .i64) y16 a) h)))
 have d:msr y3 a.2.2.2.1<=1048576:=(Nat.le_trans (@j91 y3 y13 a.2.2.2) (Nat.le_trans (@j07 y3 y14 a.2.2) (Nat.le_trans (@j07 .str y15 a.2) (Nat.le_trans (@j07 (.int .i64) y16 a) h))))
 have f:msr y13 a.2.2.2.2<=1048576:=(Nat.le_trans (@j07 y3 y13 a.2.2.2) (Nat.le_trans (@j07 y3 y14 a.2.2) (Nat.le_trans (@j07 .str y15 a.2) (Nat.le_trans (@j07 (.int .i64) y16 a) h))))
 unfold j88
 simp only [jkp _ b,jpB _ d,jpz _ f]
theorem joA (a:Int×ByteArray×qW×qW×Int×ByteArray×qE×List ByteArray×ByteArray×ByteArray) (left:Int) (l:0<=left) (m:left<=1048576) (h:Wf y17 a) (k:Int->Res):j86 a left k=k (szR left (msr y17 a)):=by
 have j:msr y17 a=ByteArray.size a.2.1+(msr y3 a.2.2.1+(msr y3 a.2.2.2.1+(msr y13 a.2.2.2.2+0))):=by simp only [msr]<;>omega
 rw [j]
 unfold j86
 have i:ByteArray.size a.2.1<=maxLen:=h.2.1
 unfold maxLen at i
 rw [j01 (by unfold nI;omega)]
 by_cases g:((ByteArray.size a.2.1:Nat):Int)<=left
 rotate_left
 ·rw [Zal g,Za5 (by unfold nI;omega),cond_true]
 rw [Za4 (by unfold nI;omega),cond_false,Zak g,show left-nI (ByteArray.size a.2.1)=left-((ByteArray.size a.2.1:Nat):Int) from rfl]
 rw [jko _ _ (by omega) (by omega) h.2.2.1]
 by_cases b:((msr y3 a.2.2.1:Nat):Int)<=left-(ByteArray.size a.2.1:Nat)
 rotate_left
 ·rw [Zaz b,Zal b,Za5 (by omega),cond_true]
 rw [ZaA b,Zak b,Za4 (by omega),cond_false]
 rw [jpw _ _ (by omega) (by omega) h.2.2.2.1]
 by_cases d:((msr y3 a.2.2.2.1:Nat):Int)<=left-(ByteArray.size a.2.1:Nat)-(msr y3 a.2.2.1:Nat)
 rotate_left
 ·rw [Zaz d,Zal d,Za5 (by omega),cond_true]
 rw [ZaA d,Zak d,Za4 (by omega),cond_false]
 rw [jpt _ _ (by omega) (by omega) h.2.2.2.2]
 by_cases f:((msr y13 a.2.2.2.2:Nat):Int)<=left-(ByteArray.size a.2.1:Nat)-(msr y3 a.2.2.1:Nat)-(msr y3 a.2.2.2.1:Nat)
 rotate_left
 ·rw [Zaz f,Zal f,Za5 (by omega),cond_true]
 rw [ZaA f,Zak f,Za4 (by omega),cond_false]
 exact jes (by omega)
theorem job (a:Int×ByteArray×qW×qW×Int×ByteArray×qE×List ByteArray×ByteArray×ByteArray) (h:msr y17 a<=1048576) (k:Bool->Res):j83 a a k=k true:=by
 have b:msr y3 a.2.2.1<=1048576:=(Nat.le_trans (@j91 y3 y14 a.2.2) (Nat.le_trans (@j07 .str y15 a.2) (Nat.le_trans (@j07 (.int .i64) y16 a) h)))
 have d:msr y3 a.2.2.2.1<=1048576:=(Nat.le_trans (@j91 y3 y13 a.2.2.2) (Nat.le_trans (@j07 y3 y14 a.2.2) (Nat.le_trans (@j07 .str y15 a.2) (Nat.le_trans (@j07 (.int .i64) y16 a) h))))
 have f:msr y13 a.2.2.2.2<=1048576:=(Nat.le_trans (@j07 y3 y13 a.2.2.2) (Nat.le_trans (@j07 y3 y14 a.2.2) (Nat.le_trans (@j07 .str y15 a.2) (Nat.le_trans (@j07 (.int .i64) y16 a) h))))
 unfold j83
 simp only [ZaO,Zai,beq_self_eq_true,cond_false,Bool.not_true,jk3 _ b,joY _ d,joW _ f]
end Go.PI.G
namespace Go.PI.G
open Go Go.PI Go.Proofs
theorem jpA (a:Int×Int×Int×ByteArray×qW×qW×Int×ByteArray×qE×List ByteArray×ByteArray×ByteArray) (h:msr y19 a<=1048576) (k:(Int×Int×Int×ByteArray×qW×qW×Int×ByteArray×qE×List ByteArray×ByteArray×ByteArray)->Res):jbE a k=k a:=by
 have b:msr y17 a.2.2<=1048576:=(Nat.le_trans (@j07 (.int .i64) y17 a.2) (Nat.le_trans (@j07 (.int .i64) y18 a) h))
 unfold jbE
 simp only [joC _ b]
theorem jpv (a:Int×Int×Int×ByteArray×qW×qW×Int×ByteArray×qE×List ByteArray×ByteArray×ByteArray) (left:Int) (g:0<=left) (h:left<=1048576) (f:Wf y19 a) (k:Int->Res):jbC a left k=k (szR left (msr y19 a)):=by
 have d:msr y19 a=msr y17 a.2.2+0:=by simp only [msr]<;>omega
 rw [d]
 unfold jbC
 rw [joA _ _ (by omega) (by omega) f.2.2]
 by_cases b:((msr y17 a.2.2:Nat):Int)<=left
 rotate_left
 ·rw [Zaz b,Zal b,Za5 (by omega),cond_true]
 rw [ZaA b,Zak b,Za4 (by omega),cond_false]
 exact jes (by omega)
theorem joX (a:Int×Int×Int×ByteArray×qW×qW×Int×ByteArray×qE×List ByteArray×ByteArray×ByteArray) (h:msr y19 a<=1048576) (k:Bool->Res):jbA a a k=k true:=by
 have b:msr y17 a.2.2<=1048576:=(Nat.le_trans (@j07 (.int .i64) y17 a.2) (Nat.le_trans (@j07 (.int .i64) y18 a) h))
 unfold jbA
 simp only [ZaO,Zai,beq_self_eq_true,cond_false,Bool.not_true,job _ b]
end Go.PI.G
namespace Go.PI.G
open Go Go.PI Go.Proofs
theorem jgF (a:(List (Int×Int×Int×ByteArray×qW×qW×Int×ByteArray×qE×List ByteArray×ByteArray×ByteArray))) (h:msr y20 a<=1048576) (k:(List (Int×Int×Int×ByteArray×qW×qW×Int×ByteArray×qE×List ByteArray×ByteArray×ByteArray))->Res):j4x a k=k a:=by
 have g:a.length<=1048576:=j0M h
 unfold j4x
 rw [Zav (by unfold LIM;omega),cond_true]
 have:=ZaC ((0,0,0,eS,[],[],0,eS,[],[],eS,eS)) a id (step:=j8v a) (λb=>k b) (by unfold LIM;omega) (λb i rec d f=>by
  show j3q a _ _ _ _=_
  unfold j3q
  dsimp only
  simp only [ZaQ d,cond_true,j00 d,j00 (show i<b.length by omega),Zay _ _ _ d,ZaF,j01 (n:=(i:Int)+1) (by omega),jpA _ (j1U h (List.getElem_mem d))]
  rfl) (λb rec=>by
  show j3q a _ _ _ _=_
  unfold j3q
  dsimp only
  rw [ZaP,cond_false])
 rw [List.map_id] at this
 exact this
theorem joz (a:(List (Int×Int×Int×ByteArray×qW×qW×Int×ByteArray×qE×List ByteArray×ByteArray×ByteArray))) (left:Int) (g:0<=left) (h:left<=1048576) (l:Wf y20 a) (k:Int->Res):j85 a left k=k (szR left (msr y20 a)):=by
 have j:a.length<=maxLen:=l.1
 have p:msr y20 a=a.length+(a.map (msr y19)).sum:=rfl
 rw [p]
 unfold j85
 refine jj3 (F:=λq=>jah a Z1c q 0 (λd=>k d) (λ_=>k (-1))) (k:=k) g h j λb=> ?_
 unfold jah
 rw [ZaB (msr y19) a _ (by omega) (λleft i rec f g h=> ?_) (λleft rec=> ?_) _ (by omega) (by omega)]
 ·by_cases b:(((a.map (msr y19)).sum:Nat):Int)<=left-a.length
  ·rw [if_pos b,ZaA b]
  ·rw [if_neg b,Zaz b]
 ·show j3n a _ _ _ _ _=_
  have r:=l.2 _ (List.getElem_mem f)
  unfold j3n
  rw [ZaQ f,cond_true,j00 f,cond_true,Zay _ _ _ f,jpv _ _ g h r]
  have m:(i:Int)<4611686018427387904:=by unfold maxLen at j;omega
  rw [j01 (n:=(i:Int)+1) (by omega)]
  by_cases b:((msr y19 a[i]:Nat):Int)<=left
  ·rw [if_pos b,ZaA b,Za4 (by omega),cond_false]
  ·rw [if_neg b,Zaz b,Za5 (by omega),cond_true]
 ·show j3n a _ _ _ _ _=_
  unfold j3n
  rw [ZaP,cond_false]
theorem joa (a:(List (Int×Int×Int×ByteArray×qW×qW×Int×ByteArray×qE×List ByteArray×ByteArray×ByteArray))) (h:msr y20 a<=1048576) (k:Bool->Res):j82 a a k=k true:=by
 have d:a.length<=1048576:=j0M h
 unfold j82
 rw [ZaO,cond_false]
 unfold jec
 rw [Zar a _ (by unfold LIM;omega) (λi rec b=> ?_) (λrec=> ?_)]
 ·show j3k a a _ _ _ _=_
  unfold j3k
  simp only [ZaQ b,cond_true,j00 b,Zay _ _ _ b,j01 (n:=(i:Int)+1) (by omega),ZaO,Zai,cond_false,Bool.not_true,joX _ (j1U h (List.getElem_mem b))]
 ·show j3k a a _ _ _ _=_
  unfold j3k
  rw [ZaP,cond_false]
end Go.PI.G
namespace Go.PI.G
open Go Go.PI Go.Proofs
theorem jpo (d:List RC) (j:Wf (.slice yRC) d) (i:Int) (w1:Wf (.int .i64) i) (k:Bool->Res):j2C d i k=k true:=by
 unfold j2C
 rw [joz d 1048576 (by omega) (by omega) j]
 by_cases g:((msr (.slice yRC) d:Nat):Int)<=1048576
 rotate_left
 ·rw [Zaz g];rfl
 have b:msr (.slice yRC) d<=1048576:=by omega
 obtain ⟨f,h⟩:=jp9 b
 rw [ZaA g,decide_eq_false (by omega),cond_false,jgF d b,jms d f h,jgF d b,jlR d f h,ZaO,cond_false,jgF d b,joa d b]
 rfl
end Go.PI.G
