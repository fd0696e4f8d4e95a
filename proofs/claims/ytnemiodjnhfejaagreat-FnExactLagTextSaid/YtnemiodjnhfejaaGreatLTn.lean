/-
  Program's code interpreted over typed values; printed texts; plain laws. No conditions.
-/
import Derived.Test.YtnemiodjnhfejaaGreatLTm
import Derived.Test.YtnemiodjnhfejaaGreatLTi
set_option linter.unusedVariables false
set_option linter.unusedSimpArgs false
set_option maxRecDepth 10000
namespace Go.PI.G
open Go Go.PI Go.Proofs
theorem jrf (a:Int×ByteArray×qE×List ByteArray×ByteArray×ByteArray) (h:msr y13 a<=1048576) (k:(Int×ByteArray×qE×List ByteArray×ByteArray×ByteArray)->Res):j7X a k=k a:=by
 have b:msr y8 a.2.2.1<=1048576:=(Nat.le_trans (@j9D y8 y10 a.2.2) (Nat.le_trans (@j07 .str y11 a.2) (Nat.le_trans (@j07 (.int .i64) y12 a) h)))
 have d:msr y0 a.2.2.2.1<=1048576:=(Nat.le_trans (@j9D y0 y9 a.2.2.2) (Nat.le_trans (@j07 y8 y10 a.2.2) (Nat.le_trans (@j07 .str y11 a.2) (Nat.le_trans (@j07 (.int .i64) y12 a) h))))
 unfold j7X
 simp only [jql _ b,joe _ d]
theorem jr9 (a:Int×ByteArray×qE×List ByteArray×ByteArray×ByteArray) (left:Int) (p:0<=left) (q:left<=1048576) (i:Wf y13 a) (k:Int->Res):j7W a left k=k (szR left (msr y13 a)):=by
 have n:msr y13 a=ByteArray.size a.2.1+(msr y8 a.2.2.1+(msr y0 a.2.2.2.1+(ByteArray.size a.2.2.2.2.1+(ByteArray.size a.2.2.2.2.2+0)))):=by simp only [msr]<;>omega
 rw [n]
 unfold j7W
 have j:ByteArray.size a.2.1<=maxLen:=i.2.1
 unfold maxLen at j
 rw [j01 (by unfold nI;omega)]
 by_cases f:((ByteArray.size a.2.1:Nat):Int)<=left
 rotate_left
 ·rw [Zal f,Za5 (by unfold nI;omega),cond_true]
 rw [Za4 (by unfold nI;omega),cond_false,Zak f,show left-nI (ByteArray.size a.2.1)=left-((ByteArray.size a.2.1:Nat):Int) from rfl]
 rw [jqh _ _ (by omega) (by omega) i.2.2.1]
 by_cases b:((msr y8 a.2.2.1:Nat):Int)<=left-(ByteArray.size a.2.1:Nat)
 rotate_left
 ·rw [Zaz b,Zal b,Za5 (by omega),cond_true]
 rw [ZaA b,Zak b,Za4 (by omega),cond_false]
 rw [jo9 _ _ (by omega) (by omega) i.2.2.2.1]
 by_cases d:((msr y0 a.2.2.2.1:Nat):Int)<=left-(ByteArray.size a.2.1:Nat)-(msr y8 a.2.2.1:Nat)
 rotate_left
 ·rw [Zaz d,Zal d,Za5 (by omega),cond_true]
 rw [ZaA d,Zak d,Za4 (by omega),cond_false]
 have l:ByteArray.size a.2.2.2.2.1<=maxLen:=i.2.2.2.2.1
 unfold maxLen at l
 rw [j01 (by unfold nI;omega)]
 by_cases g:((ByteArray.size a.2.2.2.2.1:Nat):Int)<=left-(ByteArray.size a.2.1:Nat)-(msr y8 a.2.2.1:Nat)-(msr y0 a.2.2.2.1:Nat)
 rotate_left
 ·rw [Zal g,Za5 (by unfold nI;omega),cond_true]
 rw [Za4 (by unfold nI;omega),cond_false,Zak g,show left-(ByteArray.size a.2.1:Nat)-(msr y8 a.2.2.1:Nat)-(msr y0 a.2.2.2.1:Nat)-nI (ByteArray.size a.2.2.2.2.1)=left-(ByteArray.size a.2.1:Nat)-(msr y8 a.2.2.1:Nat)-(msr y0 a.2.2.2.1:Nat)-((ByteArray.size a.2.2.2.2.1:Nat):Int) from rfl]
 have m:ByteArray.size a.2.2.2.2.2<=maxLen:=i.2.2.2.2.2
 unfold maxLen at m
 rw [j01 (by unfold nI;omega)]
 by_cases h:((ByteArray.size a.2.2.2.2.2:Nat):Int)<=left-(ByteArray.size a.2.1:Nat)-(msr y8 a.2.2.1:Nat)-(msr y0 a.2.2.2.1:Nat)-(ByteArray.size a.2.2.2.2.1:Nat)
 rotate_left
 ·rw [Zal h,Za5 (by unfold nI;omega),cond_true]
 rw [Za4 (by unfold nI;omega),cond_false,Zak h,show left-(ByteArray.size a.2.1:Nat)-(msr y8 a.2.2.1:Nat)-(msr y0 a.2.2.2.1:Nat)-(ByteArray.size a.2.2.2.2.1:Nat)-nI (ByteArray.size a.2.2.2.2.2)=left-(ByteArray.size a.2.1:Nat)-(msr y8 a.2.2.1:Nat)-(msr y0 a.2.2.2.1:Nat)-(ByteArray.size a.2.2.2.2.1:Nat)-((ByteArray.size a.2.2.2.2.2:Nat):Int) from rfl]
 exact jdh (by omega)
theorem jqH (a:Int×ByteArray×qE×List ByteArray×ByteArray×ByteArray) (h:msr y13 a<=1048576) (k:Bool->Res):j7V a a k=k true:=by
 have b:msr y8 a.2.2.1<=1048576:=(Nat.le_trans (@j9D y8 y10 a.2.2) (Nat.le_trans (@j07 .str y11 a.2) (Nat.le_trans (@j07 (.int .i64) y12 a) h)))
 have d:msr y0 a.2.2.2.1<=1048576:=(Nat.le_trans (@j9D y0 y9 a.2.2.2) (Nat.le_trans (@j07 y8 y10 a.2.2) (Nat.le_trans (@j07 .str y11 a.2) (Nat.le_trans (@j07 (.int .i64) y12 a) h))))
 unfold j7V
 simp only [ZaO,Zai,beq_self_eq_true,cond_false,Bool.not_true,jpR _ b,jnm _ d]
end Go.PI.G
namespace Go.PI.G
open Go Go.PI Go.Proofs
theorem jm4 (a:qW) (h:msr y3 a<=1048576) (k:qW->Res):j6J a k=k a:=by
 have g:a.length<=1048576:=j0C h
 unfold j6J
 rw [Zav (by unfold LIM;omega),cond_true]
 have:=ZaC ((0,0,eS)) a id (step:=j94 a) (λb=>k b) (by unfold LIM;omega) (λb i rec d f=>by
  show j3K a _ _ _ _=_
  unfold j3K
  dsimp only
  simp only [ZaQ d,cond_true,j00 d,j00 (show i<b.length by omega),Zay _ _ _ d,ZaF,j01 (n:=(i:Int)+1) (by omega),jof _ (j11 h (List.getElem_mem d))]
  rfl) (λb rec=>by
  show j3K a _ _ _ _=_
  unfold j3K
  dsimp only
  rw [ZaP,cond_false])
 rw [List.map_id] at this
 exact this
theorem jm3 (a:qW) (left:Int) (g:0<=left) (h:left<=1048576) (l:Wf y3 a) (k:Int->Res):j6I a left k=k (szR left (msr y3 a)):=by
 have j:a.length<=maxLen:=l.1
 have p:msr y3 a=a.length+(a.map (msr y2)).sum:=rfl
 rw [p]
 unfold j6I
 refine jhW (F:=λq=>jb4 a Z1c q 0 (λd=>k d) (λ_=>k (-1))) (k:=k) g h j λb=> ?_
 unfold jb4
 rw [ZaB (msr y2) a _ (by omega) (λleft i rec f g h=> ?_) (λleft rec=> ?_) _ (by omega) (by omega)]
 ·by_cases b:(((a.map (msr y2)).sum:Nat):Int)<=left-a.length
  ·rw [if_pos b,ZaA b]
  ·rw [if_neg b,Zaz b]
 ·show j3G a _ _ _ _ _=_
  have r:=l.2 _ (List.getElem_mem f)
  unfold j3G
  rw [ZaQ f,cond_true,j00 f,cond_true,Zay _ _ _ f,joa _ _ g h r]
  have m:(i:Int)<4611686018427387904:=by unfold maxLen at j;omega
  rw [j01 (n:=(i:Int)+1) (by omega)]
  by_cases b:((msr y2 a[i]:Nat):Int)<=left
  ·rw [if_pos b,ZaA b,Za4 (by omega),cond_false]
  ·rw [if_neg b,Zaz b,Za5 (by omega),cond_true]
 ·show j3G a _ _ _ _ _=_
  unfold j3G
  rw [ZaP,cond_false]
theorem jlK (a:qW) (h:msr y3 a<=1048576) (k:Bool->Res):j6H a a k=k true:=by
 have d:a.length<=1048576:=j0C h
 unfold j6H
 rw [ZaO,cond_false]
 unfold jfh
 rw [Zar a _ (by unfold LIM;omega) (λi rec b=> ?_) (λrec=> ?_)]
 ·show j3D a a _ _ _ _=_
  unfold j3D
  simp only [ZaQ b,cond_true,j00 b,Zay _ _ _ b,j01 (n:=(i:Int)+1) (by omega),ZaO,Zai,cond_false,Bool.not_true,jnn _ (j11 h (List.getElem_mem b))]
 ·show j3D a a _ _ _ _=_
  unfold j3D
  rw [ZaP,cond_false]
end Go.PI.G
namespace Go.PI.G
open Go Go.PI Go.Proofs
theorem jrh (a:List qV) (h:msr y3 a<=1048576) (k:qW->Res):ja4 a k=k a:=by
 have b:msr y3 a<=1048576:=h
 unfold ja4
 simp only [jm4 _ b]
theorem jrc (a:List qV) (left:Int) (g:0<=left) (h:left<=1048576) (f:Wf y3 a) (k:Int->Res):ja1 a left k=k (szR left (msr y3 a)):=by
 have d:msr y3 a=msr y3 a+0:=rfl
 rw [d]
 unfold ja1
 rw [jm3 _ _ (by omega) (by omega) f]
 by_cases b:((msr y3 a:Nat):Int)<=left
 rotate_left
 ·rw [Zaz b,Zal b,Za5 (by omega),cond_true]
 rw [ZaA b,Zak b,Za4 (by omega),cond_false]
 exact jdh (by omega)
theorem jqJ (a:List qV) (h:msr y3 a<=1048576) (k:Bool->Res):j9Z a a k=k true:=by
 have b:msr y3 a<=1048576:=h
 unfold j9Z
 simp only [ZaO,Zai,beq_self_eq_true,cond_false,Bool.not_true,jlK _ b]
end Go.PI.G
namespace Go.PI.G
open Go Go.PI Go.Proofs
theorem jqn (a:Int×ByteArray×qW×qW×Int×ByteArray×qE×List ByteArray×ByteArray×ByteArray) (h:msr y17 a<=1048576) (k:qS->Res):j8G a k=k a:=by
 have b:msr y3 a.2.2.1<=1048576:=(Nat.le_trans (@j9D y3 y14 a.2.2) (Nat.le_trans (@j07 .str y15 a.2) (Nat.le_trans (@j07 (.int .i64) y16 a) h)))
 have d:msr y3 a.2.2.2.1<=1048576:=(Nat.le_trans (@j9D y3 y13 a.2.2.2) (Nat.le_trans (@j07 y3 y14 a.2.2) (Nat.le_trans (@j07 .str y15 a.2) (Nat.le_trans (@j07 (.int .i64) y16 a) h))))
 have f:msr y13 a.2.2.2.2<=1048576:=(Nat.le_trans (@j07 y3 y13 a.2.2.2) (Nat.le_trans (@j07 y3 y14 a.2.2) (Nat.le_trans (@j07 .str y15 a.2) (Nat.le_trans (@j07 (.int .i64) y16 a) h))))
 unfold j8G
 simp only [jm4 _ b,jrh _ d,jrf _ f]
theorem jqk (a:Int×ByteArray×qW×qW×Int×ByteArray×qE×List ByteArray×ByteArray×ByteArray) (left:Int) (l:0<=left) (m:left<=1048576) (h:Wf y17 a) (k:Int->Res):j8E a left k=k (szR left (msr y17 a)):=by
 have j:msr y17 a=ByteArray.size a.2.1+(msr y3 a.2.2.1+(msr y3 a.2.2.2.1+(msr y13 a.2.2.2.2+0))):=by simp only [msr]<;>omega
 rw [j]
 unfold j8E
 have i:ByteArray.size a.2.1<=maxLen:=h.2.1
 unfold maxLen at i
 rw [j01 (by unfold nI;omega)]
 by_cases g:((ByteArray.size a.2.1:Nat):Int)<=left
 rotate_left
 ·rw [Zal g,Za5 (by unfold nI;omega),cond_true]
 rw [Za4 (by unfold nI;omega),cond_false,Zak g,show left-nI (ByteArray.size a.2.1)=left-((ByteArray.size a.2.1:Nat):Int) from rfl]
 rw [jm3 _ _ (by omega) (by omega) h.2.2.1]
 by_cases b:((msr y3 a.2.2.1:Nat):Int)<=left-(ByteArray.size a.2.1:Nat)
 rotate_left
 ·rw [Zaz b,Zal b,Za5 (by omega),cond_true]
 rw [ZaA b,Zak b,Za4 (by omega),cond_false]
 rw [jrc _ _ (by omega) (by omega) h.2.2.2.1]
 by_cases d:((msr y3 a.2.2.2.1:Nat):Int)<=left-(ByteArray.size a.2.1:Nat)-(msr y3 a.2.2.1:Nat)
 rotate_left
 ·rw [Zaz d,Zal d,Za5 (by omega),cond_true]
 rw [ZaA d,Zak d,Za4 (by omega),cond_false]
 rw [jr9 _ _ (by omega) (by omega) h.2.2.2.2]
 by_cases f:((msr y13 a.2.2.2.2:Nat):Int)<=left-(ByteArray.size a.2.1:Nat)-(msr y3 a.2.2.1:Nat)-(msr y3 a.2.2.2.1:Nat)
 rotate_left
 ·rw [Zaz f,Zal f,Za5 (by omega),cond_true]
 rw [ZaA f,Zak f,Za4 (by omega),cond_false]
 exact jdh (by omega)
theorem jpU (a:Int×ByteArray×qW×qW×Int×ByteArray×qE×List ByteArray×ByteArray×ByteArray) (h:msr y17 a<=1048576) (k:Bool->Res):j8B a a k=k true:=by
 have b:msr y3 a.2.2.1<=1048576:=(Nat.le_trans (@j9D y3 y14 a.2.2) (Nat.le_trans (@j07 .str y15 a.2) (Nat.le_trans (@j07 (.int .i64) y16 a) h)))
 have d:msr y3 a.2.2.2.1<=1048576:=(Nat.le_trans (@j9D y3 y13 a.2.2.2) (Nat.le_trans (@j07 y3 y14 a.2.2) (Nat.le_trans (@j07 .str y15 a.2) (Nat.le_trans (@j07 (.int .i64) y16 a) h))))
 have f:msr y13 a.2.2.2.2<=1048576:=(Nat.le_trans (@j07 y3 y13 a.2.2.2) (Nat.le_trans (@j07 y3 y14 a.2.2) (Nat.le_trans (@j07 .str y15 a.2) (Nat.le_trans (@j07 (.int .i64) y16 a) h))))
 unfold j8B
 simp only [ZaO,Zai,beq_self_eq_true,cond_false,Bool.not_true,jlK _ b,jqJ _ d,jqH _ f]
end Go.PI.G
namespace Go.PI.G
open Go Go.PI Go.Proofs
theorem jrg (a:Int×Int×Int×ByteArray×qW×qW×Int×ByteArray×qE×List ByteArray×ByteArray×ByteArray) (h:msr y19 a<=1048576) (k:(Int×Int×Int×ByteArray×qW×qW×Int×ByteArray×qE×List ByteArray×ByteArray×ByteArray)->Res):jcr a k=k a:=by
 have b:msr y17 a.2.2<=1048576:=(Nat.le_trans (@j07 (.int .i64) y17 a.2) (Nat.le_trans (@j07 (.int .i64) y18 a) h))
 unfold jcr
 simp only [jqn _ b]
theorem jrb (a:Int×Int×Int×ByteArray×qW×qW×Int×ByteArray×qE×List ByteArray×ByteArray×ByteArray) (left:Int) (g:0<=left) (h:left<=1048576) (f:Wf y19 a) (k:Int->Res):jcp a left k=k (szR left (msr y19 a)):=by
 have d:msr y19 a=msr y17 a.2.2+0:=by simp only [msr]<;>omega
 rw [d]
 unfold jcp
 rw [jqk _ _ (by omega) (by omega) f.2.2]
 by_cases b:((msr y17 a.2.2:Nat):Int)<=left
 rotate_left
 ·rw [Zaz b,Zal b,Za5 (by omega),cond_true]
 rw [ZaA b,Zak b,Za4 (by omega),cond_false]
 exact jdh (by omega)
theorem jqI (a:Int×Int×Int×ByteArray×qW×qW×Int×ByteArray×qE×List ByteArray×ByteArray×ByteArray) (h:msr y19 a<=1048576) (k:Bool->Res):jcn a a k=k true:=by
 have b:msr y17 a.2.2<=1048576:=(Nat.le_trans (@j07 (.int .i64) y17 a.2) (Nat.le_trans (@j07 (.int .i64) y18 a) h))
 unfold jcn
 simp only [ZaO,Zai,beq_self_eq_true,cond_false,Bool.not_true,jpU _ b]
end Go.PI.G
namespace Go.PI.G
open Go Go.PI Go.Proofs
theorem jhX (a:(List (Int×Int×Int×ByteArray×qW×qW×Int×ByteArray×qE×List ByteArray×ByteArray×ByteArray))) (h:msr y20 a<=1048576) (k:(List (Int×Int×Int×ByteArray×qW×qW×Int×ByteArray×qE×List ByteArray×ByteArray×ByteArray))->Res):j4N a k=k a:=by
 have g:a.length<=1048576:=j0C h
 unfold j4N
 rw [Zav (by unfold LIM;omega),cond_true]
 have:=ZaC ((0,0,0,eS,[],[],0,eS,[],[],eS,eS)) a id (step:=j93 a) (λb=>k b) (by unfold LIM;omega) (λb i rec d f=>by
  show j3I a _ _ _ _=_
  unfold j3I
  dsimp only
  simp only [ZaQ d,cond_true,j00 d,j00 (show i<b.length by omega),Zay _ _ _ d,ZaF,j01 (n:=(i:Int)+1) (by omega),jrg _ (j11 h (List.getElem_mem d))]
  rfl) (λb rec=>by
  show j3I a _ _ _ _=_
  unfold j3I
  dsimp only
  rw [ZaP,cond_false])
 rw [List.map_id] at this
 exact this
theorem jqi (a:(List (Int×Int×Int×ByteArray×qW×qW×Int×ByteArray×qE×List ByteArray×ByteArray×ByteArray))) (left:Int) (g:0<=left) (h:left<=1048576) (l:Wf y20 a) (k:Int->Res):j8D a left k=k (szR left (msr y20 a)):=by
 have j:a.length<=maxLen:=l.1
 have p:msr y20 a=a.length+(a.map (msr y19)).sum:=rfl
 rw [p]
 unfold j8D
 refine jhW (F:=λq=>jb3 a Z1c q 0 (λd=>k d) (λ_=>k (-1))) (k:=k) g h j λb=> ?_
 unfold jb3
 rw [ZaB (msr y19) a _ (by omega) (λleft i rec f g h=> ?_) (λleft rec=> ?_) _ (by omega) (by omega)]
 ·by_cases b:(((a.map (msr y19)).sum:Nat):Int)<=left-a.length
  ·rw [if_pos b,ZaA b]
  ·rw [if_neg b,Zaz b]
 ·show j3F a _ _ _ _ _=_
  have r:=l.2 _ (List.getElem_mem f)
  unfold j3F
  rw [ZaQ f,cond_true,j00 f,cond_true,Zay _ _ _ f,jrb _ _ g h r]
  have m:(i:Int)<4611686018427387904:=by unfold maxLen at j;omega
  rw [j01 (n:=(i:Int)+1) (by omega)]
  by_cases b:((msr y19 a[i]:Nat):Int)<=left
  ·rw [if_pos b,ZaA b,Za4 (by omega),cond_false]
  ·rw [if_neg b,Zaz b,Za5 (by omega),cond_true]
 ·show j3F a _ _ _ _ _=_
  unfold j3F
  rw [ZaP,cond_false]
theorem jpS (a:(List (Int×Int×Int×ByteArray×qW×qW×Int×ByteArray×qE×List ByteArray×ByteArray×ByteArray))) (h:msr y20 a<=1048576) (k:Bool->Res):j8A a a k=k true:=by
 have d:a.length<=1048576:=j0C h
 unfold j8A
 rw [ZaO,cond_false]
 unfold jfg
 rw [Zar a _ (by unfold LIM;omega) (λi rec b=> ?_) (λrec=> ?_)]
 ·show j3C a a _ _ _ _=_
  unfold j3C
  simp only [ZaQ b,cond_true,j00 b,Zay _ _ _ b,j01 (n:=(i:Int)+1) (by omega),ZaO,Zai,cond_false,Bool.not_true,jqI _ (j11 h (List.getElem_mem b))]
 ·show j3C a a _ _ _ _=_
  unfold j3C
  rw [ZaP,cond_false]
end Go.PI.G
namespace Go.PI.G
open Go Go.PI Go.Proofs
theorem jqm (a:ByteArray×Int) (h:msr y22 a<=1048576) (k:(ByteArray×Int)->Res):jbA a k=k a:=by
 unfold jbA
 rfl
theorem jqj (a:ByteArray×Int) (left:Int) (h:0<=left) (i:left<=1048576) (g:Wf y22 a) (k:Int->Res):jbz a left k=k (szR left (msr y22 a)):=by
 have f:msr y22 a=ByteArray.size a.1+0:=by simp only [msr]<;>omega
 rw [f]
 unfold jbz
 have d:ByteArray.size a.1<=maxLen:=g.1
 unfold maxLen at d
 rw [j01 (by unfold nI;omega)]
 by_cases b:((ByteArray.size a.1:Nat):Int)<=left
 rotate_left
 ·rw [Zal b,Za5 (by unfold nI;omega),cond_true]
 rw [Za4 (by unfold nI;omega),cond_false,Zak b,show left-nI (ByteArray.size a.1)=left-((ByteArray.size a.1:Nat):Int) from rfl]
 exact jdh (by omega)
theorem jpT (a:ByteArray×Int) (h:msr y22 a<=1048576) (k:Bool->Res):jby a a k=k true:=by
 unfold jby
 simp only [ZaO,Zai,beq_self_eq_true,cond_false,Bool.not_true]
end Go.PI.G
namespace Go.PI.G
open Go Go.PI Go.Proofs
theorem jg9 (a:(List (ByteArray×Int))) (h:msr y23 a<=1048576) (k:(List (ByteArray×Int))->Res):j3J a k=k a:=by
 have g:a.length<=1048576:=j0C h
 unfold j3J
 rw [Zav (by unfold LIM;omega),cond_true]
 have:=ZaC ((eS,0)) a id (step:=j8h a) (λb=>k b) (by unfold LIM;omega) (λb i rec d f=>by
  show j2M a _ _ _ _=_
  unfold j2M
  dsimp only
  simp only [ZaQ d,cond_true,j00 d,j00 (show i<b.length by omega),Zay _ _ _ d,ZaF,j01 (n:=(i:Int)+1) (by omega),jqm _ (j11 h (List.getElem_mem d))]
  rfl) (λb rec=>by
  show j2M a _ _ _ _=_
  unfold j2M
  dsimp only
  rw [ZaP,cond_false])
 rw [List.map_id] at this
 exact this
theorem jpA (a:(List (ByteArray×Int))) (left:Int) (g:0<=left) (h:left<=1048576) (l:Wf y23 a) (k:Int->Res):j7q a left k=k (szR left (msr y23 a)):=by
 have j:a.length<=maxLen:=l.1
 have p:msr y23 a=a.length+(a.map (msr y22)).sum:=rfl
 rw [p]
 unfold j7q
 refine jhW (F:=λq=>ja2 a Z1c q 0 (λd=>k d) (λ_=>k (-1))) (k:=k) g h j λb=> ?_
 unfold ja2
 rw [ZaB (msr y22) a _ (by omega) (λleft i rec f g h=> ?_) (λleft rec=> ?_) _ (by omega) (by omega)]
 ·by_cases b:(((a.map (msr y22)).sum:Nat):Int)<=left-a.length
  ·rw [if_pos b,ZaA b]
  ·rw [if_neg b,Zaz b]
 ·show j2L a _ _ _ _ _=_
  have r:=l.2 _ (List.getElem_mem f)
  unfold j2L
  rw [ZaQ f,cond_true,j00 f,cond_true,Zay _ _ _ f,jqj _ _ g h r]
  have m:(i:Int)<4611686018427387904:=by unfold maxLen at j;omega
  rw [j01 (n:=(i:Int)+1) (by omega)]
  by_cases b:((msr y22 a[i]:Nat):Int)<=left
  ·rw [if_pos b,ZaA b,Za4 (by omega),cond_false]
  ·rw [if_neg b,Zaz b,Za5 (by omega),cond_true]
 ·show j2L a _ _ _ _ _=_
  unfold j2L
  rw [ZaP,cond_false]
theorem jp6 (a:(List (ByteArray×Int))) (h:msr y23 a<=1048576) (k:Bool->Res):j7p a a k=k true:=by
 have d:a.length<=1048576:=j0C h
 unfold j7p
 rw [ZaO,cond_false]
 unfold jdU
 rw [Zar a _ (by unfold LIM;omega) (λi rec b=> ?_) (λrec=> ?_)]
 ·show j2K a a _ _ _ _=_
  unfold j2K
  simp only [ZaQ b,cond_true,j00 b,Zay _ _ _ b,j01 (n:=(i:Int)+1) (by omega),ZaO,Zai,cond_false,Bool.not_true,jpT _ (j11 h (List.getElem_mem b))]
 ·show j2K a a _ _ _ _=_
  unfold j2K
  rw [ZaP,cond_false]
end Go.PI.G
namespace Go.PI.G
open Go Go.PI Go.Proofs
abbrev ySL:Ty:= .pair .str (.int .i64)
theorem jqa (d:List RC) (q:Wf (.slice yRC) d) (f:List SL) (w1:Wf (.slice ySL) f) (k:Bool->Res):j1U d f k=k true:=by
 unfold j1U
 rw [jqi d 1048576 (by omega) (by omega) q]
 by_cases m:((msr (.slice yRC) d:Nat):Int)<=1048576
 rotate_left
 ·rw [Zaz m];rfl
 have g:msr (.slice yRC) d<=1048576:=by omega
 obtain ⟨l,p⟩:=jqR g
 rw [ZaA m,decide_eq_false (by omega),cond_false,jpA f (1048576-((msr (.slice yRC) d:Nat):Int)) (by omega) (by omega) w1]
 by_cases n:((msr (.slice ySL) f:Nat):Int)<=1048576-((msr (.slice yRC) d:Nat):Int)
 rotate_left
 ·rw [Zaz n];rfl
 have b:msr (.slice ySL) f<=1048576:=by omega
 have j:f.length<=1048576:=j0C b
 have h:∀ s∈f,s.1.size<=1048576:=λs i=>by
  have:=j11 (e:=ySL) b i
  have e:msr ySL s=s.1.size+0:=rfl
  omega
 rw [ZaA n,decide_eq_false (by omega),cond_false,jhX d g,jg9 f b,jpt d l p f j h,jhX d g,jg9 f b,jpa d l p f j h,Zai,cond_false,jhX d g,jpS d g,Bool.not_true,cond_false,jg9 f b,jp6 f b]
 rfl
end Go.PI.G
