/-
  Program's code interpreted over typed values; printed texts; plain laws. No conditions.
-/
import Derived.Test.YtppeoiidhmegkaaGreatBf
import Derived.Test.YtppeoiidhmegkaaGreatBe
import Derived.Test.YtppeoiidhmegkaaGreatBg
set_option linter.unusedVariables false
set_option linter.unusedSimpArgs false
set_option maxRecDepth 10000
namespace Go.PI.G
open Go Go.PI Go.Proofs
theorem jax (a:(List (Int×Int×Int×ByteArray×qW×qW×Int×ByteArray×qE×List ByteArray×ByteArray×ByteArray))×List ByteArray×(qD×Int×Int)×(qD×Int×Int)×List (List Int)×List Int) (h:msr y36 a<=1048576) (k:Bool->Res):j11 a a k=k true:=by
 have h0:msr y27 a.1<=1048576:=(Nat.le_trans (@j06 y27 y35 a) h)
 have h1:msr y1 a.2.1<=1048576:=(Nat.le_trans (@j06 y1 y34 a.2) (Nat.le_trans (@j00 y27 y35 a) h))
 have h2:msr y29 a.2.2.1<=1048576:=(Nat.le_trans (@j06 y29 y33 a.2.2) (Nat.le_trans (@j00 y1 y34 a.2) (Nat.le_trans (@j00 y27 y35 a) h)))
 have h3:msr y29 a.2.2.2.1<=1048576:=(Nat.le_trans (@j06 y29 y32 a.2.2.2) (Nat.le_trans (@j00 y29 y33 a.2.2) (Nat.le_trans (@j00 y1 y34 a.2) (Nat.le_trans (@j00 y27 y35 a) h))))
 have h4:msr y30 a.2.2.2.2.1<=1048576:=(Nat.le_trans (@j06 y30 y31 a.2.2.2.2) (Nat.le_trans (@j00 y29 y32 a.2.2.2) (Nat.le_trans (@j00 y29 y33 a.2.2) (Nat.le_trans (@j00 y1 y34 a.2) (Nat.le_trans (@j00 y27 y35 a) h)))))
 have h5:msr y31 a.2.2.2.2.2<=1048576:=(Nat.le_trans (@j00 y30 y31 a.2.2.2.2) (Nat.le_trans (@j00 y29 y32 a.2.2.2) (Nat.le_trans (@j00 y29 y33 a.2.2) (Nat.le_trans (@j00 y1 y34 a.2) (Nat.le_trans (@j00 y27 y35 a) h)))))
 unfold j11
 simp only [Z9o,Z8U,beq_self_eq_true,cond_false,Bool.not_true,jgL _ h0,jfl _ h1,jfk _ h2,jfk _ h3,jh9 _ h4,jgJ _ h5]
theorem jfA (a:(List (Int×Int×Int×ByteArray×qW×qW×Int×ByteArray×qE×List ByteArray×ByteArray×ByteArray))×List ByteArray×(qD×Int×Int)×(qD×Int×Int)×List (List Int)×List Int) (k:Int) (h:msr y36 a<=1048576) (h0:1<=k) (hk:k+(j0c y36 a:Int)<=4294967296) (K:Int->((List (Int×Int×Int×ByteArray×qW×qW×Int×ByteArray×qE×List ByteArray×ByteArray×ByteArray))×List ByteArray×(qD×Int×Int)×(qD×Int×Int)×List (List Int)×List Int)->Res):j20 a k K=K (k+(j0c y36 a:Int)) (mkT y36 a k):=by
 have h0:msr y27 a.1<=1048576:=(Nat.le_trans (@j06 y27 y35 a) h)
 have h1:msr y1 a.2.1<=1048576:=(Nat.le_trans (@j06 y1 y34 a.2) (Nat.le_trans (@j00 y27 y35 a) h))
 have h2:msr y29 a.2.2.1<=1048576:=(Nat.le_trans (@j06 y29 y33 a.2.2) (Nat.le_trans (@j00 y1 y34 a.2) (Nat.le_trans (@j00 y27 y35 a) h)))
 have h3:msr y29 a.2.2.2.1<=1048576:=(Nat.le_trans (@j06 y29 y32 a.2.2.2) (Nat.le_trans (@j00 y29 y33 a.2.2) (Nat.le_trans (@j00 y1 y34 a.2) (Nat.le_trans (@j00 y27 y35 a) h))))
 have h4:msr y30 a.2.2.2.2.1<=1048576:=(Nat.le_trans (@j06 y30 y31 a.2.2.2.2) (Nat.le_trans (@j00 y29 y32 a.2.2.2) (Nat.le_trans (@j00 y29 y33 a.2.2) (Nat.le_trans (@j00 y1 y34 a.2) (Nat.le_trans (@j00 y27 y35 a) h)))))
 have h5:msr y31 a.2.2.2.2.2<=1048576:=(Nat.le_trans (@j00 y30 y31 a.2.2.2.2) (Nat.le_trans (@j00 y29 y32 a.2.2.2) (Nat.le_trans (@j00 y29 y33 a.2.2) (Nat.le_trans (@j00 y1 y34 a.2) (Nat.le_trans (@j00 y27 y35 a) h)))))
 have g0:msr y27 a.1<=1048576:=(Nat.le_trans (@j06 y27 y35 a) h)
 have g1:msr y1 a.2.1<=1048576:=(Nat.le_trans (@j06 y1 y34 a.2) (Nat.le_trans (@j00 y27 y35 a) h))
 have g2:msr y23 a.2.2.1.1.1<=1048576:=(Nat.le_trans (@j06 y23 y25 a.2.2.1.1) (Nat.le_trans (@j06 y26 y28 a.2.2.1) (Nat.le_trans (@j06 y29 y33 a.2.2) (Nat.le_trans (@j00 y1 y34 a.2) (Nat.le_trans (@j00 y27 y35 a) h)))))
 have g3:msr y25 a.2.2.1.1.2<=1048576:=(Nat.le_trans (@j00 y23 y25 a.2.2.1.1) (Nat.le_trans (@j06 y26 y28 a.2.2.1) (Nat.le_trans (@j06 y29 y33 a.2.2) (Nat.le_trans (@j00 y1 y34 a.2) (Nat.le_trans (@j00 y27 y35 a) h)))))
 have g4:msr y23 a.2.2.2.1.1.1<=1048576:=(Nat.le_trans (@j06 y23 y25 a.2.2.2.1.1) (Nat.le_trans (@j06 y26 y28 a.2.2.2.1) (Nat.le_trans (@j06 y29 y32 a.2.2.2) (Nat.le_trans (@j00 y29 y33 a.2.2) (Nat.le_trans (@j00 y1 y34 a.2) (Nat.le_trans (@j00 y27 y35 a) h))))))
 have g5:msr y25 a.2.2.2.1.1.2<=1048576:=(Nat.le_trans (@j00 y23 y25 a.2.2.2.1.1) (Nat.le_trans (@j06 y26 y28 a.2.2.2.1) (Nat.le_trans (@j06 y29 y32 a.2.2.2) (Nat.le_trans (@j00 y29 y33 a.2.2) (Nat.le_trans (@j00 y1 y34 a.2) (Nat.le_trans (@j00 y27 y35 a) h))))))
 have g6:msr y30 a.2.2.2.2.1<=1048576:=(Nat.le_trans (@j06 y30 y31 a.2.2.2.2) (Nat.le_trans (@j00 y29 y32 a.2.2.2) (Nat.le_trans (@j00 y29 y33 a.2.2) (Nat.le_trans (@j00 y1 y34 a.2) (Nat.le_trans (@j00 y27 y35 a) h)))))
 have g7:msr y31 a.2.2.2.2.2<=1048576:=(Nat.le_trans (@j00 y30 y31 a.2.2.2.2) (Nat.le_trans (@j00 y29 y32 a.2.2.2) (Nat.le_trans (@j00 y29 y33 a.2.2) (Nat.le_trans (@j00 y1 y34 a.2) (Nat.le_trans (@j00 y27 y35 a) h)))))
 have w0:j0c y27 a.1=wgt y27 a.1:=rfl
 have w1:j0c y1 a.2.1=wgt y1 a.2.1:=rfl
 have w2:j0c y23 a.2.2.1.1.1=wgt y23 a.2.2.1.1.1:=rfl
 have w3:j0c y25 a.2.2.1.1.2=wgt y25 a.2.2.1.1.2:=rfl
 have w4:j0c y23 a.2.2.2.1.1.1=wgt y23 a.2.2.2.1.1.1:=rfl
 have w5:j0c y25 a.2.2.2.1.1.2=wgt y25 a.2.2.2.1.1.2:=rfl
 have w6:j0c y30 a.2.2.2.2.1=wgt y30 a.2.2.2.2.1:=rfl
 have w7:j0c y31 a.2.2.2.2.2=wgt y31 a.2.2.2.2.2:=rfl
 have hw:j0c y36 a=wgt y27 a.1+wgt y1 a.2.1+wgt y23 a.2.2.1.1.1+wgt y25 a.2.2.1.1.2+wgt y23 a.2.2.2.1.1.1+wgt y25 a.2.2.2.1.1.2+wgt y30 a.2.2.2.2.1+wgt y31 a.2.2.2.2.2:=by first | rfl | (simp only [j05,w0,w1,w2,w3,w4,w5,w6,w7,j08,j07,j09,Nat.zero_add,Nat.add_zero];done) | (simp only [j05,w0,w1,w2,w3,w4,w5,w6,w7,j08,j07,j09,Nat.zero_add,Nat.add_zero];omega)
 have v2:j0c y29 a.2.2.1=wgt y23 a.2.2.1.1.1+wgt y25 a.2.2.1.1.2:=by first | rfl | (simp only [j05,w0,w1,w2,w3,w4,w5,w6,w7,j08,j07,j09,Nat.zero_add,Nat.add_zero];done) | (simp only [j05,w0,w1,w2,w3,w4,w5,w6,w7,j08,j07,j09,Nat.zero_add,Nat.add_zero];omega)
 have v3:j0c y29 a.2.2.2.1=wgt y23 a.2.2.2.1.1.1+wgt y25 a.2.2.2.1.1.2:=by first | rfl | (simp only [j05,w0,w1,w2,w3,w4,w5,w6,w7,j08,j07,j09,Nat.zero_add,Nat.add_zero];done) | (simp only [j05,w0,w1,w2,w3,w4,w5,w6,w7,j08,j07,j09,Nat.zero_add,Nat.add_zero];omega)
 unfold j20
 simp (disch:=first | assumption | omega) only [jgu,jg3,jgv,jd2,jg4]
 first | rfl | (simp only [j0o y27 y35,j05 y27 y35,j0o y1 y34,j05 y1 y34,j0o y29 y33,j05 y29 y33,j0o y29 y32,j05 y29 y32,j0o y30 y31,j05 y30 y31,j0u,j0M,j0C,j0N,w0,w1,w2,w3,w4,w5,w6,w7,j08,j07,j09,Int.natCast_add,Int.natCast_zero,Int.cast_ofNat_Int,Nat.zero_add,Nat.add_zero,Int.add_zero,<-Int.add_assoc];done) | (simp only [j0o y27 y35,j05 y27 y35,j0o y1 y34,j05 y1 y34,j0o y29 y33,j05 y29 y33,j0o y29 y32,j05 y29 y32,j0o y30 y31,j05 y30 y31,j0u,j0M,j0C,j0N,w0,w1,w2,w3,w4,w5,w6,w7,j08,j07,j09,Int.natCast_add,Int.natCast_zero,Int.cast_ofNat_Int,Nat.zero_add,Nat.add_zero,Int.add_zero,<-Int.add_assoc];rfl)
theorem jbi (a:(List (Int×Int×Int×ByteArray×qW×qW×Int×ByteArray×qE×List ByteArray×ByteArray×ByteArray))×List ByteArray×(qD×Int×Int)×(qD×Int×Int)×List (List Int)×List Int) (k:Int) (h:msr y36 a<=1048576) (h0:1<=k) (hk:k+(j0c y36 a:Int)<=4294967296) (K:Int->Res):j1i (mkT y36 a k) k K=K (k+(j0c y36 a:Int)):=by
 have h0:msr y27 a.1<=1048576:=(Nat.le_trans (@j06 y27 y35 a) h)
 have h1:msr y1 a.2.1<=1048576:=(Nat.le_trans (@j06 y1 y34 a.2) (Nat.le_trans (@j00 y27 y35 a) h))
 have h2:msr y29 a.2.2.1<=1048576:=(Nat.le_trans (@j06 y29 y33 a.2.2) (Nat.le_trans (@j00 y1 y34 a.2) (Nat.le_trans (@j00 y27 y35 a) h)))
 have h3:msr y29 a.2.2.2.1<=1048576:=(Nat.le_trans (@j06 y29 y32 a.2.2.2) (Nat.le_trans (@j00 y29 y33 a.2.2) (Nat.le_trans (@j00 y1 y34 a.2) (Nat.le_trans (@j00 y27 y35 a) h))))
 have h4:msr y30 a.2.2.2.2.1<=1048576:=(Nat.le_trans (@j06 y30 y31 a.2.2.2.2) (Nat.le_trans (@j00 y29 y32 a.2.2.2) (Nat.le_trans (@j00 y29 y33 a.2.2) (Nat.le_trans (@j00 y1 y34 a.2) (Nat.le_trans (@j00 y27 y35 a) h)))))
 have h5:msr y31 a.2.2.2.2.2<=1048576:=(Nat.le_trans (@j00 y30 y31 a.2.2.2.2) (Nat.le_trans (@j00 y29 y32 a.2.2.2) (Nat.le_trans (@j00 y29 y33 a.2.2) (Nat.le_trans (@j00 y1 y34 a.2) (Nat.le_trans (@j00 y27 y35 a) h)))))
 have g0:msr y27 a.1<=1048576:=(Nat.le_trans (@j06 y27 y35 a) h)
 have g1:msr y1 a.2.1<=1048576:=(Nat.le_trans (@j06 y1 y34 a.2) (Nat.le_trans (@j00 y27 y35 a) h))
 have g2:msr y23 a.2.2.1.1.1<=1048576:=(Nat.le_trans (@j06 y23 y25 a.2.2.1.1) (Nat.le_trans (@j06 y26 y28 a.2.2.1) (Nat.le_trans (@j06 y29 y33 a.2.2) (Nat.le_trans (@j00 y1 y34 a.2) (Nat.le_trans (@j00 y27 y35 a) h)))))
 have g3:msr y25 a.2.2.1.1.2<=1048576:=(Nat.le_trans (@j00 y23 y25 a.2.2.1.1) (Nat.le_trans (@j06 y26 y28 a.2.2.1) (Nat.le_trans (@j06 y29 y33 a.2.2) (Nat.le_trans (@j00 y1 y34 a.2) (Nat.le_trans (@j00 y27 y35 a) h)))))
 have g4:msr y23 a.2.2.2.1.1.1<=1048576:=(Nat.le_trans (@j06 y23 y25 a.2.2.2.1.1) (Nat.le_trans (@j06 y26 y28 a.2.2.2.1) (Nat.le_trans (@j06 y29 y32 a.2.2.2) (Nat.le_trans (@j00 y29 y33 a.2.2) (Nat.le_trans (@j00 y1 y34 a.2) (Nat.le_trans (@j00 y27 y35 a) h))))))
 have g5:msr y25 a.2.2.2.1.1.2<=1048576:=(Nat.le_trans (@j00 y23 y25 a.2.2.2.1.1) (Nat.le_trans (@j06 y26 y28 a.2.2.2.1) (Nat.le_trans (@j06 y29 y32 a.2.2.2) (Nat.le_trans (@j00 y29 y33 a.2.2) (Nat.le_trans (@j00 y1 y34 a.2) (Nat.le_trans (@j00 y27 y35 a) h))))))
 have g6:msr y30 a.2.2.2.2.1<=1048576:=(Nat.le_trans (@j06 y30 y31 a.2.2.2.2) (Nat.le_trans (@j00 y29 y32 a.2.2.2) (Nat.le_trans (@j00 y29 y33 a.2.2) (Nat.le_trans (@j00 y1 y34 a.2) (Nat.le_trans (@j00 y27 y35 a) h)))))
 have g7:msr y31 a.2.2.2.2.2<=1048576:=(Nat.le_trans (@j00 y30 y31 a.2.2.2.2) (Nat.le_trans (@j00 y29 y32 a.2.2.2) (Nat.le_trans (@j00 y29 y33 a.2.2) (Nat.le_trans (@j00 y1 y34 a.2) (Nat.le_trans (@j00 y27 y35 a) h)))))
 have w0:j0c y27 a.1=wgt y27 a.1:=rfl
 have w1:j0c y1 a.2.1=wgt y1 a.2.1:=rfl
 have w2:j0c y23 a.2.2.1.1.1=wgt y23 a.2.2.1.1.1:=rfl
 have w3:j0c y25 a.2.2.1.1.2=wgt y25 a.2.2.1.1.2:=rfl
 have w4:j0c y23 a.2.2.2.1.1.1=wgt y23 a.2.2.2.1.1.1:=rfl
 have w5:j0c y25 a.2.2.2.1.1.2=wgt y25 a.2.2.2.1.1.2:=rfl
 have w6:j0c y30 a.2.2.2.2.1=wgt y30 a.2.2.2.2.1:=rfl
 have w7:j0c y31 a.2.2.2.2.2=wgt y31 a.2.2.2.2.2:=rfl
 have hw:j0c y36 a=wgt y27 a.1+wgt y1 a.2.1+wgt y23 a.2.2.1.1.1+wgt y25 a.2.2.1.1.2+wgt y23 a.2.2.2.1.1.1+wgt y25 a.2.2.2.1.1.2+wgt y30 a.2.2.2.2.1+wgt y31 a.2.2.2.2.2:=by first | rfl | (simp only [j05,w0,w1,w2,w3,w4,w5,w6,w7,j08,j07,j09,Nat.zero_add,Nat.add_zero];done) | (simp only [j05,w0,w1,w2,w3,w4,w5,w6,w7,j08,j07,j09,Nat.zero_add,Nat.add_zero];omega)
 have v2:j0c y29 a.2.2.1=wgt y23 a.2.2.1.1.1+wgt y25 a.2.2.1.1.2:=by first | rfl | (simp only [j05,w0,w1,w2,w3,w4,w5,w6,w7,j08,j07,j09,Nat.zero_add,Nat.add_zero];done) | (simp only [j05,w0,w1,w2,w3,w4,w5,w6,w7,j08,j07,j09,Nat.zero_add,Nat.add_zero];omega)
 have v3:j0c y29 a.2.2.2.1=wgt y23 a.2.2.2.1.1.1+wgt y25 a.2.2.2.1.1.2:=by first | rfl | (simp only [j05,w0,w1,w2,w3,w4,w5,w6,w7,j08,j07,j09,Nat.zero_add,Nat.add_zero];done) | (simp only [j05,w0,w1,w2,w3,w4,w5,w6,w7,j08,j07,j09,Nat.zero_add,Nat.add_zero];omega)
 unfold j1i
 simp (disch:=first | assumption | omega) only [j0o y27 y35,j05 y27 y35,j0o y1 y34,j05 y1 y34,j0o y29 y33,j05 y29 y33,j0o y29 y32,j05 y29 y32,j0o y30 y31,j05 y30 y31,j0u,j0M,j0C,j0N,w0,w1,w2,w3,w4,w5,w6,w7,j08,j07,j09,Int.natCast_add,Int.natCast_zero,Int.cast_ofNat_Int,Nat.zero_add,Nat.add_zero,Int.add_zero,<-Int.add_assoc,jgm,jfV,jgn,jgo,jfW,Z8I,cond_false]
 all_goals (repeat (show (bif decide (_<(0:Int)) then _ else _)=_;rw [Z8I (by omega),cond_false]))
 all_goals first | done | rfl | (congr 1;omega)
end Go.PI.G
namespace Go.PI.G
open Go Go.PI Go.Proofs
abbrev FT:=DB×Int×Int
abbrev WT:=List (Int×Int×ST)×List ByteArray×FT×FT×List (List Int)×List Int
abbrev zFT:FT:=(([],[]),0,0)
abbrev zWT:WT:=([],[],zFT,zFT,[],[])
abbrev yWT:Ty:= .pair (.slice (.pair (.int .i64) (.pair (.int .i64) yST))) (.pair (.slice .str) (.pair (.pair yDB (.pair (.int .i64) (.int .i64))) (.pair (.pair yDB (.pair (.int .i64) (.int .i64))) (.pair (.slice (.slice (.int .u8))) (.slice (.int .i64))))))
theorem jfN (c:List T) (h:msr (.slice yT) c<=1048576) (k:List T->Res):j4n c k=k c:=by
 have hl:=j0d h
 unfold j4n j6L
 have:=Z8x c (λi out=>(i,out)) (λx=>[x]) 1048576 [] (step:=j53 c (nI c.length)) (λout=>k out) (λout=>k out) (by unfold LIM;omega) (λi hi _=>by
  rw [j2A,List.nil_append,List.length_take];omega) (by simp) (λi out rec hi ho hB=>by
  show j1O _ _ _ _ _ _=_
  unfold j1O
  dsimp only
  rw [Z9q hi,cond_true,j03 hi,cond_true,Z9a _ _ _ hi,jfO _ (j0e h (List.getElem_mem hi)),Z9l (by unfold LIM;omega),cond_true,j04 (n:=(i:Int)+1) (by omega)]) (λout rec=>by
  show j1O _ _ _ _ _ _=_
  unfold j1O
  dsimp only
  rw [Z9p,cond_false])
 refine this.trans ?_
 rw [j2A,List.nil_append]
theorem jfs (c:List T) (h:msr (.slice yT) c<=1048576) (k:List T->Res):j3W c k=k c:=by
 have hl:=j0d h
 unfold j3W j6d
 have:=Z8x c (λi out=>(i,out)) (λx=>[x]) 1048576 [] (step:=j4S c (nI c.length)) (λout=>k out) (λout=>k out) (by unfold LIM;omega) (λi hi _=>by
  rw [j2A,List.nil_append,List.length_take];omega) (by simp) (λi out rec hi ho hB=>by
  show j1G _ _ _ _ _ _=_
  unfold j1G
  dsimp only
  rw [Z9q hi,cond_true,j03 hi,cond_true,Z9a _ _ _ hi,jft _ (j0e h (List.getElem_mem hi)),Z9l (by unfold LIM;omega),cond_true,j04 (n:=(i:Int)+1) (by omega)]) (λout rec=>by
  show j1G _ _ _ _ _ _=_
  unfold j1G
  dsimp only
  rw [Z9p,cond_false])
 refine this.trans ?_
 rw [j2A,List.nil_append]
theorem jbh {α β:Type} (c:α):(l a:List β)->l.foldl (λ(o:α×List β) x=>(o.1,o.2++[x])) (c,a)=(c,a++l)
 | [],a=>by rw [List.append_nil];rfl
 | x::l,a=>by rw [List.foldl_cons,jbh c l,List.append_assoc];rfl
theorem jb5 (d:DB) (h:msr yDB d<=1048576) (k:DB->Res):j2t d k=k d:=by
 obtain ⟨m1,m2,m3,m4,m5⟩:=ja8 h
 have h3:msr (.slice (.slice (.slice yV))) d.2<=1048576:=Nat.le_trans (@j00 (.slice yT) (.slice (.slice (.slice yV))) d) h
 have m6:∀ l∈d.2,∀ r∈l,r.length<=1048576:=λl hl r hr=>j0d (j0e (j0e h3 hl) hr)
 unfold j2t
 rw [jfN d.1 m1]
 unfold j3R
 have:=Z73 d.2 (λi o=>(i,o)) (λ(o:DB) x=>(o.1,o.2++[x])) (λi o=>o.2.length=i) (step:=j55 d.2 (nI d.2.length)) (λout=>k out) (λout=>k out) ((d.1,[]):DB) (by unfold LIM;omega) rfl (λi o hi ho=>by
  dsimp only
  rw [List.length_append,List.length_singleton,ho]) (λi o rec hi ho=>by
  show j1Q _ _ _ _ _ _=_
  unfold j1Q
  dsimp only
  rw [Z9q hi,cond_true,j03 hi,cond_true,Z9a _ _ _ hi,jg6 _ (m5 _ (List.getElem_mem hi)) (m6 _ (List.getElem_mem hi)),Z9l (by unfold LIM;omega),cond_true,j04 (n:=(i:Int)+1) (by omega)]) (λo rec ho=>by
  show j1Q _ _ _ _ _ _=_
  unfold j1Q
  dsimp only
  rw [Z9p,cond_false])
 refine this.trans ?_
 rw [jbh]
 rfl
theorem jaS (d:DB) (h:msr yDB d<=1048576) (k:DB->Res):j2Y d k=k d:=by
 obtain ⟨m1,m2,m3,m4,m5⟩:=ja8 h
 have h3:msr (.slice (.slice (.slice yV))) d.2<=1048576:=Nat.le_trans (@j00 (.slice yT) (.slice (.slice (.slice yV))) d) h
 have m6:∀ l∈d.2,∀ r∈l,r.length<=1048576:=λl hl r hr=>j0d (j0e (j0e h3 hl) hr)
 unfold j2Y
 rw [jfs d.1 m1]
 unfold j4w
 have:=Z73 d.2 (λi o=>(i,o)) (λ(o:DB) x=>(o.1,o.2++[x])) (λi o=>o.2.length=i) (step:=j5A d.2 (nI d.2.length)) (λout=>k out) (λout=>k out) ((d.1,[]):DB) (by unfold LIM;omega) rfl (λi o hi ho=>by
  dsimp only
  rw [List.length_append,List.length_singleton,ho]) (λi o rec hi ho=>by
  show j24 _ _ _ _ _ _=_
  unfold j24
  dsimp only
  rw [Z9q hi,cond_true,j03 hi,cond_true,Z9a _ _ _ hi,jfY _ (m5 _ (List.getElem_mem hi)) (m6 _ (List.getElem_mem hi)),Z9l (by unfold LIM;omega),cond_true,j04 (n:=(i:Int)+1) (by omega)]) (λo rec ho=>by
  show j24 _ _ _ _ _ _=_
  unfold j24
  dsimp only
  rw [Z9p,cond_false])
 refine this.trans ?_
 rw [jbh]
 rfl
noncomputable def jhy (l:List (List (List V))):Int:=l.foldl (λn x=>n+nI x.length) 0
noncomputable def j37 (d:DB):Int:=bif dbB d then jhy d.2 else -1
theorem jfP (d:DB) (h:msr yDB d<=1048576) (k:Int->Res):j4N d k=k (j37 d):=by
 obtain ⟨m1,m2,m3,m4,m5⟩:=ja8 h
 unfold j4N j37
 rw [jgU d h]
 cases dbB d
 ·rfl
 ·rw [Bool.not_true,cond_false,cond_true]
  unfold j5u
  exact Z73 d.2 (λi n=>(n,i)) (λn x=>n+nI x.length) (λi n=>0<=n/\n<=(i:Int) * 1048576) (step:=j6F d.2 (nI d.2.length)) (λn=>k n) (λn=>k n) 0 (by unfold LIM;omega) (by omega) (λi n hi hn=>by
   have:=m5 _ (List.getElem_mem hi)
   unfold nI
   omega) (λi n rec hi hn=>by
   have:=m5 _ (List.getElem_mem hi)
   show j2S _ _ _ _ _ _=_
   unfold j2S
   dsimp only
   rw [Z9q hi,cond_true,j03 hi,cond_true,Z9a _ _ _ hi,j04 (n:=n+nI d.2[i].length) (by unfold nI;omega),j04 (n:=(i:Int)+1) (by omega)]) (λn rec hn=>by
   show j2S _ _ _ _ _ _=_
   unfold j2S
   dsimp only
   rw [Z9p,cond_false])
theorem jfu (d:DB) (h:msr yDB d<=1048576) (k:Int->Res):j4t d k=k (j37 d):=by
 obtain ⟨m1,m2,m3,m4,m5⟩:=ja8 h
 unfold j4t j37
 rw [jgQ d h]
 cases dbB d
 ·rfl
 ·rw [Bool.not_true,cond_false,cond_true]
  unfold j5l
  exact Z73 d.2 (λi n=>(n,i)) (λn x=>n+nI x.length) (λi n=>0<=n/\n<=(i:Int) * 1048576) (step:=j68 d.2 (nI d.2.length)) (λn=>k n) (λn=>k n) 0 (by unfold LIM;omega) (by omega) (λi n hi hn=>by
   have:=m5 _ (List.getElem_mem hi)
   unfold nI
   omega) (λi n rec hi hn=>by
   have:=m5 _ (List.getElem_mem hi)
   show j2C _ _ _ _ _ _=_
   unfold j2C
   dsimp only
   rw [Z9q hi,cond_true,j03 hi,cond_true,Z9a _ _ _ hi,j04 (n:=n+nI d.2[i].length) (by unfold nI;omega),j04 (n:=(i:Int)+1) (by omega)]) (λn rec hn=>by
   show j2C _ _ _ _ _ _=_
   unfold j2C
   dsimp only
   rw [Z9p,cond_false])
noncomputable def jbg (d:DB):FT×Bool:=bif j37 d != 0 then (zFT,false) else ((d,0,0),true)
theorem jeX (d:DB) (h:msr yDB d<=1048576) (k:FT->Bool->Res):j3y d k=k (jbg d).1 (jbg d).2:=by
 unfold j3y jbg
 rw [jfP d h]
 cases j37 d != 0
 ·rw [cond_false,cond_false,jb5 d h]
 ·rfl
theorem jeC (d:DB) (h:msr yDB d<=1048576) (k:FT->Bool->Res):j3v d k=k (jbg d).1 (jbg d).2:=by
 unfold j3v jbg
 rw [jfu d h]
 cases j37 d != 0
 ·rw [cond_false,cond_false,jaS d h]
 ·rfl
noncomputable def wnV (p:List ByteArray) (d:DB):WT×Bool:=bif j8U p&& !(j37 d != 0) then (([],p,(d,0,0),(d,0,0),[],[]),true) else (zWT,false)
theorem jgV (p:List ByteArray) (d:DB) (hp:msr (.slice .str) p<=1048576) (h:msr yDB d<=1048576) (k:WT->Bool->Res):j0R p d k=k (wnV p d).1 (wnV p d).2:=by
 have hl:=j0d hp
 unfold j0R wnV
 rw [jeX d h]
 unfold jbg
 cases j37 d != 0
 ·rw [cond_false,Bool.not_true,cond_false,jgz p hp]
  cases j8U p
  ·rfl
  ·rw [Bool.not_true,cond_false,Z9l (by unfold LIM;omega),cond_true]
   unfold j5g
   dsimp only
   rw [jb5 d h,Z8u]
   rfl
 ·cases j8U p<;>rfl
theorem jef (p:List ByteArray) (d:DB) (hp:msr (.slice .str) p<=1048576) (h:msr yDB d<=1048576) (k:WT->Bool->Res):j0z p d k=k (wnV p d).1 (wnV p d).2:=by
 have hl:=j0d hp
 unfold j0z wnV
 rw [jeC d h,jgr p hp]
 cases j8U p
 ·rfl
 ·rw [Bool.not_true,cond_false]
  unfold jbg
  cases j37 d != 0
  ·rw [cond_false,Bool.not_true,cond_false]
   unfold j1Z j3X
   rw [Z9l (by unfold LIM;omega),cond_true]
   dsimp only
   rw [jaS d h,Z8u]
   rfl
  ·rfl
theorem jht {p:List ByteArray} (h:j8U p=true):msr (.slice .str) p<=54:=by
 unfold j8U at h
 rw [Bool.and_eq_true,decide_eq_true_eq,Bool.not_eq_true'] at h
 have hw:∀ w∈p,w.size<=8:=λw hw=>by
  obtain ⟨i,hi,rfl⟩:=List.getElem_of_mem hw
  have:=j8f p 0 h.1 i hi
  rw [Bool.or_eq_false_iff,Bool.not_eq_false'] at this
  exact (j8p this.1).2
 have:=j8q (e:= .str) 8 p hw
 omega
theorem jhb {c:List T} (h:j9N c=true):c.length<=6/\msr (.slice yT) c<=2358:=by
 unfold j9N at h
 rw [Bool.and_eq_true,decide_eq_true_eq,Bool.not_eq_true'] at h
 have ht:∀ t∈c,msr yT t<=392:=λt ht=>by
  obtain ⟨i,hi,rfl⟩:=List.getElem_of_mem ht
  have:=j8f c 0 h.2 i hi
  rw [Bool.or_eq_false_iff,Bool.not_eq_false'] at this
  have hm:=jhd (t:=c[i].1) (cs:=c[i].2.1) (ks:=c[i].2.2) this.1
  show c[i].1.size+(msr (.slice yC) c[i].2.1+msr (.slice .str) c[i].2.2)<=392
  omega
 have:=j8q (e:=yT) 392 c ht
 have h2:=Nat.mul_le_mul_right 393 h.1
 exact ⟨h.1,by omega⟩
theorem jfj:(l:List (List (List V)))->(n:Int)->0<=n->l.foldl (λn x=>n+nI x.length) n=0->∀ x∈l,x=[]
 | [],_,_,_,x,hx=>by cases hx
 | y::l,n,hn,h,x,hx=>by
  rw [List.foldl_cons] at h
  have hy:0<=n+nI y.length:=by unfold nI;omega
  have mono:∀ (l:List (List (List V))) (n:Int),n<=l.foldl (λn x=>n+nI x.length) n:=by
   intro l
   induction l with
   | nil=>intro n;exact Int.le_refl _
   | cons z l ih=>
    intro n
    rw [List.foldl_cons]
    refine Int.le_trans ?_ (ih _)
    unfold nI;omega
  have h1:=mono l (n+nI y.length)
  rcases List.mem_cons.1 hx with rfl | hx
  ·have:x.length=0:=by unfold nI at h1 hy h;omega
   exact List.length_eq_zero_iff.1 this
  ·exact jfj l _ hy h x hx
theorem jhv (p:List ByteArray) (d:DB):msr yWT (wnV p d).1<=1048576:=by
 unfold wnV
 cases hp:j8U p
 ·exact Nat.zero_le _
 ·cases hc:j37 d != 0
  ·rw [Bool.not_false,Bool.true_and,cond_true]
   have h1:=jht hp
   have hc0:j37 d=0:=by simpa using hc
   unfold j37 at hc0
   cases hd:dbB d
   ·rw [hd,cond_false] at hc0;omega
   ·rw [hd,cond_true] at hc0
    have hz:=jfj d.2 0 (by omega) hc0
    have hd2:j9N d.1=true/\d.2.length=d.1.length:=by
     unfold dbB at hd
     rw [Bool.and_eq_true,Bool.and_eq_true,decide_eq_true_eq] at hd
     exact ⟨hd.1,hd.2.1⟩
    have h2:=jhb hd2.1
    have h3:=j8q (e:= .slice (.slice yV)) 0 d.2 (λx hx=>by rw [hz x hx];exact Nat.le_refl _)
    have h4:msr yDB d=msr (.slice yT) d.1+msr (.slice (.slice (.slice yV))) d.2:=rfl
    show 0+(msr (.slice .str) p+((msr yDB d+(0+0))+((msr yDB d+(0+0))+(0+0))))<=1048576
    omega
  ·exact Nat.zero_le _
theorem jgF (x0:List ByteArray) (w0:Wf (.slice .str) x0) (x1:DB) (w1:Wf yDB x1) (k:Bool->Res):j10 x0 x1 k=k true:=by
 unfold j10
 rw [jhg x0 1048576 (by omega) (by omega) w0]
 by_cases hm:((msr (.slice .str) x0:Nat):Int)<=1048576
 rotate_left
 ·rw [Z9b hm];rfl
 have hm':msr (.slice .str) x0<=1048576:=by omega
 rw [Z9c hm,decide_eq_false (by omega),cond_false,jhu x1 (1048576-((msr (.slice .str) x0:Nat):Int)) (by omega) (by omega) w1]
 by_cases hn:((msr yDB x1:Nat):Int)<=1048576-((msr (.slice .str) x0:Nat):Int)
 rotate_left
 ·rw [Z9b hn];rfl
 have hn':msr yDB x1<=1048576:=by omega
 have hbb:∀ x:Bool,(x==x)=true:=by decide
 have e0:∀ K:Bool->WT->Res,j0x x0 x1 K=K (wnV x0 x1).2 (wnV x0 x1).1:=λK=>by
  unfold j0x
  simp only [Z8u]
  rw [jaD x0 hm',jbJ x1 hn',jgV x0 x1 hm' hn']
 have e1:∀ K:Bool->WT->Res,j0y x0 x1 K=K (wnV x0 x1).2 (wnV x0 x1).1:=λK=>by
  unfold j0y
  simp only [Z8u]
  rw [jaD x0 hm',jbJ x1 hn',jef x0 x1 hm' hn']
 rw [Z9c hn,decide_eq_false (by omega),cond_false,e0,jaD x0 hm',jbJ x1 hn',jef x0 x1 hm' hn']
 have hq:=jhv x0 x1
 rw [jax _ hq,Bool.not_true,cond_false,hbb,Bool.not_true,cond_false,jaD x0 hm',jfl x0 hm',Bool.not_true,cond_false,jbJ x1 hn',jge x1 hn',Bool.not_true,cond_false]
 have f0:=jbI (τ:= .slice .str) (by decide) hm'
 have f0':=j5h (.slice .str) x0
 have f1:=jbI (τ:=yDB) (by decide) hn'
 have f1':=j5h yDB x1
 have f2:=jbI (τ:=yWT) (by decide) hq
 have f2':=j5h yWT (wnV x0 x1).1
 have k0:(1:Int)+((j0c (.slice .str) x0:Nat):Int)<=4294967296:=by omega
 have k1:(1:Int)+((j0c (.slice .str) x0:Nat):Int)+((j0c yDB x1:Nat):Int)<=4294967296:=by omega
 have k2:(1:Int)+((j0c yWT (wnV x0 x1).1:Nat):Int)<=4294967296:=by omega
 unfold j0K
 rw [jd2 x0 1 hm' (by omega) k0,jeh x1 _ hn' (by omega) k1,decide_eq_false (by omega),cond_false,jax _ hq,Bool.not_true,cond_false,hbb,Bool.not_true,cond_false,jfA _ 1 hq (by omega) k2,jbi _ 1 hq (by omega) k2,decide_eq_false (by omega),cond_false,Z9o,cond_false,e1,jax _ hq,Bool.not_true,cond_false,hbb,Bool.not_true,cond_false,jbi _ 1 hq (by omega) k2,decide_eq_false (by omega),cond_false,Z9o,cond_false]
end Go.PI.G
