/-
  Program's code interpreted over typed values; printed texts; plain laws. No conditions.
-/
import Derived.Test.YtiieddiheadocaaGreatTo
import Derived.Test.YtiieddiheadocaaGreatTh
import Derived.Test.YtiieddiheadocaaGreatTi
set_option linter.unusedVariables false
set_option linter.unusedSimpArgs false
set_option maxRecDepth 10000
namespace Go.PI.G
open Go Go.PI Go.Proofs
theorem jsp (a:Int×Int×Int×ByteArray×(List (Int×Int×ByteArray))×(List (Int×Int×ByteArray))×Int×ByteArray×(List (ByteArray×Int×Bool×Bool×Int×Int×ByteArray))×List ByteArray×ByteArray×ByteArray) (h:msr y20 a<=1048576) (k:Bool->Res):jbS a a k=k true:=by
 have h2:msr y18 a.2.2<=1048576:=(Nat.le_trans (@j00 (.int .i64) y18 a.2) (Nat.le_trans (@j00 (.int .i64) y19 a) h))
 unfold jbS
 simp only [Z9g,Z8M,beq_self_eq_true,cond_false,Bool.not_true,jrM _ h2]
theorem jrp (a:Int×Int×Int×ByteArray×(List (Int×Int×ByteArray))×(List (Int×Int×ByteArray))×Int×ByteArray×(List (ByteArray×Int×Bool×Bool×Int×Int×ByteArray))×List ByteArray×ByteArray×ByteArray) (k:Int) (h:msr y20 a<=1048576) (h0:1<=k) (hk:k+(j0m y20 a:Int)<=4294967296) (K:Int->(Int×Int×Int×ByteArray×(List (Int×Int×ByteArray))×(List (Int×Int×ByteArray))×Int×ByteArray×(List (ByteArray×Int×Bool×Bool×Int×Int×ByteArray))×List ByteArray×ByteArray×ByteArray)->Res):j9C a k K=K (k+(j0m y20 a:Int)) (mkT y20 a k):=by
 have h2:msr y18 a.2.2<=1048576:=(Nat.le_trans (@j00 (.int .i64) y18 a.2) (Nat.le_trans (@j00 (.int .i64) y19 a) h))
 have g0:msr y3 a.2.2.2.2.1<=1048576:=(Nat.le_trans (@j0e y3 y15 a.2.2.2.2) (Nat.le_trans (@j00 .str y16 a.2.2.2) (Nat.le_trans (@j00 (.int .i64) y17 a.2.2) (Nat.le_trans (@j00 (.int .i64) y18 a.2) (Nat.le_trans (@j00 (.int .i64) y19 a) h)))))
 have g1:msr y3 a.2.2.2.2.2.1<=1048576:=(Nat.le_trans (@j0e y3 y14 a.2.2.2.2.2) (Nat.le_trans (@j00 y3 y15 a.2.2.2.2) (Nat.le_trans (@j00 .str y16 a.2.2.2) (Nat.le_trans (@j00 (.int .i64) y17 a.2.2) (Nat.le_trans (@j00 (.int .i64) y18 a.2) (Nat.le_trans (@j00 (.int .i64) y19 a) h))))))
 have g2:msr y8 a.2.2.2.2.2.2.2.2.1<=1048576:=(Nat.le_trans (@j0e y8 y11 a.2.2.2.2.2.2.2.2) (Nat.le_trans (@j00 .str y12 a.2.2.2.2.2.2.2) (Nat.le_trans (@j00 (.int .i64) y13 a.2.2.2.2.2.2) (Nat.le_trans (@j00 y3 y14 a.2.2.2.2.2) (Nat.le_trans (@j00 y3 y15 a.2.2.2.2) (Nat.le_trans (@j00 .str y16 a.2.2.2) (Nat.le_trans (@j00 (.int .i64) y17 a.2.2) (Nat.le_trans (@j00 (.int .i64) y18 a.2) (Nat.le_trans (@j00 (.int .i64) y19 a) h)))))))))
 have g3:msr y9 a.2.2.2.2.2.2.2.2.2.1<=1048576:=(Nat.le_trans (@j0e y9 y10 a.2.2.2.2.2.2.2.2.2) (Nat.le_trans (@j00 y8 y11 a.2.2.2.2.2.2.2.2) (Nat.le_trans (@j00 .str y12 a.2.2.2.2.2.2.2) (Nat.le_trans (@j00 (.int .i64) y13 a.2.2.2.2.2.2) (Nat.le_trans (@j00 y3 y14 a.2.2.2.2.2) (Nat.le_trans (@j00 y3 y15 a.2.2.2.2) (Nat.le_trans (@j00 .str y16 a.2.2.2) (Nat.le_trans (@j00 (.int .i64) y17 a.2.2) (Nat.le_trans (@j00 (.int .i64) y18 a.2) (Nat.le_trans (@j00 (.int .i64) y19 a) h))))))))))
 have w0:j0m y3 a.2.2.2.2.1=wgt y3 a.2.2.2.2.1:=rfl
 have w1:j0m y3 a.2.2.2.2.2.1=wgt y3 a.2.2.2.2.2.1:=rfl
 have w2:j0m y8 a.2.2.2.2.2.2.2.2.1=wgt y8 a.2.2.2.2.2.2.2.2.1:=rfl
 have w3:j0m y9 a.2.2.2.2.2.2.2.2.2.1=wgt y9 a.2.2.2.2.2.2.2.2.2.1:=rfl
 have hw:j0m y20 a=wgt y3 a.2.2.2.2.1+wgt y3 a.2.2.2.2.2.1+wgt y8 a.2.2.2.2.2.2.2.2.1+wgt y9 a.2.2.2.2.2.2.2.2.2.1:=by first | rfl | (simp only [j03,w0,w1,w2,w3,j0a,j08,j0b,Nat.zero_add,Nat.add_zero];done) | (simp only [j03,w0,w1,w2,w3,j0a,j08,j0b,Nat.zero_add,Nat.add_zero];omega)
 have v2:j0m y18 a.2.2=wgt y3 a.2.2.2.2.1+wgt y3 a.2.2.2.2.2.1+wgt y8 a.2.2.2.2.2.2.2.2.1+wgt y9 a.2.2.2.2.2.2.2.2.2.1:=by first | rfl | (simp only [j03,w0,w1,w2,w3,j0a,j08,j0b,Nat.zero_add,Nat.add_zero];done) | (simp only [j03,w0,w1,w2,w3,j0a,j08,j0b,Nat.zero_add,Nat.add_zero];omega)
 unfold j9C
 simp (disch:=first | assumption | omega) only [jqO]
 first | rfl | (simp only [j0d (.int .i64) y19,j03 (.int .i64) y19,j0d (.int .i64) y18,j03 (.int .i64) y18,j22,j3F,j2u,j3G,w0,w1,w2,w3,j0a,j08,j0b,Int.natCast_add,Int.natCast_zero,Int.cast_ofNat_Int,Nat.zero_add,Nat.add_zero,Int.add_zero,<-Int.add_assoc];done) | (simp only [j0d (.int .i64) y19,j03 (.int .i64) y19,j0d (.int .i64) y18,j03 (.int .i64) y18,j22,j3F,j2u,j3G,w0,w1,w2,w3,j0a,j08,j0b,Int.natCast_add,Int.natCast_zero,Int.cast_ofNat_Int,Nat.zero_add,Nat.add_zero,Int.add_zero,<-Int.add_assoc];rfl)
theorem jrh (a:Int×Int×Int×ByteArray×(List (Int×Int×ByteArray))×(List (Int×Int×ByteArray))×Int×ByteArray×(List (ByteArray×Int×Bool×Bool×Int×Int×ByteArray))×List ByteArray×ByteArray×ByteArray) (k:Int) (h:msr y20 a<=1048576) (h0:1<=k) (hk:k+(j0m y20 a:Int)<=4294967296) (K:Int->Res):j9z (mkT y20 a k) k K=K (k+(j0m y20 a:Int)):=by
 have h2:msr y18 a.2.2<=1048576:=(Nat.le_trans (@j00 (.int .i64) y18 a.2) (Nat.le_trans (@j00 (.int .i64) y19 a) h))
 have g0:msr y3 a.2.2.2.2.1<=1048576:=(Nat.le_trans (@j0e y3 y15 a.2.2.2.2) (Nat.le_trans (@j00 .str y16 a.2.2.2) (Nat.le_trans (@j00 (.int .i64) y17 a.2.2) (Nat.le_trans (@j00 (.int .i64) y18 a.2) (Nat.le_trans (@j00 (.int .i64) y19 a) h)))))
 have g1:msr y3 a.2.2.2.2.2.1<=1048576:=(Nat.le_trans (@j0e y3 y14 a.2.2.2.2.2) (Nat.le_trans (@j00 y3 y15 a.2.2.2.2) (Nat.le_trans (@j00 .str y16 a.2.2.2) (Nat.le_trans (@j00 (.int .i64) y17 a.2.2) (Nat.le_trans (@j00 (.int .i64) y18 a.2) (Nat.le_trans (@j00 (.int .i64) y19 a) h))))))
 have g2:msr y8 a.2.2.2.2.2.2.2.2.1<=1048576:=(Nat.le_trans (@j0e y8 y11 a.2.2.2.2.2.2.2.2) (Nat.le_trans (@j00 .str y12 a.2.2.2.2.2.2.2) (Nat.le_trans (@j00 (.int .i64) y13 a.2.2.2.2.2.2) (Nat.le_trans (@j00 y3 y14 a.2.2.2.2.2) (Nat.le_trans (@j00 y3 y15 a.2.2.2.2) (Nat.le_trans (@j00 .str y16 a.2.2.2) (Nat.le_trans (@j00 (.int .i64) y17 a.2.2) (Nat.le_trans (@j00 (.int .i64) y18 a.2) (Nat.le_trans (@j00 (.int .i64) y19 a) h)))))))))
 have g3:msr y9 a.2.2.2.2.2.2.2.2.2.1<=1048576:=(Nat.le_trans (@j0e y9 y10 a.2.2.2.2.2.2.2.2.2) (Nat.le_trans (@j00 y8 y11 a.2.2.2.2.2.2.2.2) (Nat.le_trans (@j00 .str y12 a.2.2.2.2.2.2.2) (Nat.le_trans (@j00 (.int .i64) y13 a.2.2.2.2.2.2) (Nat.le_trans (@j00 y3 y14 a.2.2.2.2.2) (Nat.le_trans (@j00 y3 y15 a.2.2.2.2) (Nat.le_trans (@j00 .str y16 a.2.2.2) (Nat.le_trans (@j00 (.int .i64) y17 a.2.2) (Nat.le_trans (@j00 (.int .i64) y18 a.2) (Nat.le_trans (@j00 (.int .i64) y19 a) h))))))))))
 have w0:j0m y3 a.2.2.2.2.1=wgt y3 a.2.2.2.2.1:=rfl
 have w1:j0m y3 a.2.2.2.2.2.1=wgt y3 a.2.2.2.2.2.1:=rfl
 have w2:j0m y8 a.2.2.2.2.2.2.2.2.1=wgt y8 a.2.2.2.2.2.2.2.2.1:=rfl
 have w3:j0m y9 a.2.2.2.2.2.2.2.2.2.1=wgt y9 a.2.2.2.2.2.2.2.2.2.1:=rfl
 have hw:j0m y20 a=wgt y3 a.2.2.2.2.1+wgt y3 a.2.2.2.2.2.1+wgt y8 a.2.2.2.2.2.2.2.2.1+wgt y9 a.2.2.2.2.2.2.2.2.2.1:=by first | rfl | (simp only [j03,w0,w1,w2,w3,j0a,j08,j0b,Nat.zero_add,Nat.add_zero];done) | (simp only [j03,w0,w1,w2,w3,j0a,j08,j0b,Nat.zero_add,Nat.add_zero];omega)
 have v2:j0m y18 a.2.2=wgt y3 a.2.2.2.2.1+wgt y3 a.2.2.2.2.2.1+wgt y8 a.2.2.2.2.2.2.2.2.1+wgt y9 a.2.2.2.2.2.2.2.2.2.1:=by first | rfl | (simp only [j03,w0,w1,w2,w3,j0a,j08,j0b,Nat.zero_add,Nat.add_zero];done) | (simp only [j03,w0,w1,w2,w3,j0a,j08,j0b,Nat.zero_add,Nat.add_zero];omega)
 unfold j9z
 simp (disch:=first | assumption | omega) only [j0d (.int .i64) y19,j03 (.int .i64) y19,j0d (.int .i64) y18,j03 (.int .i64) y18,j22,j3F,j2u,j3G,w0,w1,w2,w3,j0a,j08,j0b,Int.natCast_add,Int.natCast_zero,Int.cast_ofNat_Int,Nat.zero_add,Nat.add_zero,Int.add_zero,<-Int.add_assoc,jqF,Z8A,cond_false]
 all_goals (repeat (show (bif decide (_<(0:Int)) then _ else _)=_;rw [Z8A (by omega),cond_false]))
 all_goals first | done | rfl | (congr 1;omega)
end Go.PI.G
namespace Go.PI.G
open Go Go.PI Go.Proofs
theorem joy (a:Int×(Int×Int×Int×ByteArray×(List (Int×Int×ByteArray))×(List (Int×Int×ByteArray))×Int×ByteArray×(List (ByteArray×Int×Bool×Bool×Int×Int×ByteArray))×List ByteArray×ByteArray×ByteArray)×Int×Int×Int) (h:msr y24 a<=1048576) (k:Bool->Res):j8w a a k=k true:=by
 have h1:msr y20 a.2.1<=1048576:=(Nat.le_trans (@j0e y20 y22 a.2) (Nat.le_trans (@j00 (.int .i64) y23 a) h))
 unfold j8w
 simp only [Z9g,Z8M,beq_self_eq_true,cond_false,Bool.not_true,jsp _ h1]
theorem jqN (a:Int×(Int×Int×Int×ByteArray×(List (Int×Int×ByteArray))×(List (Int×Int×ByteArray))×Int×ByteArray×(List (ByteArray×Int×Bool×Bool×Int×Int×ByteArray))×List ByteArray×ByteArray×ByteArray)×Int×Int×Int) (k:Int) (h:msr y24 a<=1048576) (h0:1<=k) (hk:k+(j0m y24 a:Int)<=4294967296) (K:Int->(Int×(Int×Int×Int×ByteArray×(List (Int×Int×ByteArray))×(List (Int×Int×ByteArray))×Int×ByteArray×(List (ByteArray×Int×Bool×Bool×Int×Int×ByteArray))×List ByteArray×ByteArray×ByteArray)×Int×Int×Int)->Res):j8k a k K=K (k+(j0m y24 a:Int)) (mkT y24 a k):=by
 have h1:msr y20 a.2.1<=1048576:=(Nat.le_trans (@j0e y20 y22 a.2) (Nat.le_trans (@j00 (.int .i64) y23 a) h))
 have g0:msr y3 a.2.1.2.2.2.2.1<=1048576:=(Nat.le_trans (@j0e y3 y15 a.2.1.2.2.2.2) (Nat.le_trans (@j00 .str y16 a.2.1.2.2.2) (Nat.le_trans (@j00 (.int .i64) y17 a.2.1.2.2) (Nat.le_trans (@j00 (.int .i64) y18 a.2.1.2) (Nat.le_trans (@j00 (.int .i64) y19 a.2.1) (Nat.le_trans (@j0e y20 y22 a.2) (Nat.le_trans (@j00 (.int .i64) y23 a) h)))))))
 have g1:msr y3 a.2.1.2.2.2.2.2.1<=1048576:=(Nat.le_trans (@j0e y3 y14 a.2.1.2.2.2.2.2) (Nat.le_trans (@j00 y3 y15 a.2.1.2.2.2.2) (Nat.le_trans (@j00 .str y16 a.2.1.2.2.2) (Nat.le_trans (@j00 (.int .i64) y17 a.2.1.2.2) (Nat.le_trans (@j00 (.int .i64) y18 a.2.1.2) (Nat.le_trans (@j00 (.int .i64) y19 a.2.1) (Nat.le_trans (@j0e y20 y22 a.2) (Nat.le_trans (@j00 (.int .i64) y23 a) h))))))))
 have g2:msr y8 a.2.1.2.2.2.2.2.2.2.2.1<=1048576:=(Nat.le_trans (@j0e y8 y11 a.2.1.2.2.2.2.2.2.2.2) (Nat.le_trans (@j00 .str y12 a.2.1.2.2.2.2.2.2.2) (Nat.le_trans (@j00 (.int .i64) y13 a.2.1.2.2.2.2.2.2) (Nat.le_trans (@j00 y3 y14 a.2.1.2.2.2.2.2) (Nat.le_trans (@j00 y3 y15 a.2.1.2.2.2.2) (Nat.le_trans (@j00 .str y16 a.2.1.2.2.2) (Nat.le_trans (@j00 (.int .i64) y17 a.2.1.2.2) (Nat.le_trans (@j00 (.int .i64) y18 a.2.1.2) (Nat.le_trans (@j00 (.int .i64) y19 a.2.1) (Nat.le_trans (@j0e y20 y22 a.2) (Nat.le_trans (@j00 (.int .i64) y23 a) h)))))))))))
 have g3:msr y9 a.2.1.2.2.2.2.2.2.2.2.2.1<=1048576:=(Nat.le_trans (@j0e y9 y10 a.2.1.2.2.2.2.2.2.2.2.2) (Nat.le_trans (@j00 y8 y11 a.2.1.2.2.2.2.2.2.2.2) (Nat.le_trans (@j00 .str y12 a.2.1.2.2.2.2.2.2.2) (Nat.le_trans (@j00 (.int .i64) y13 a.2.1.2.2.2.2.2.2) (Nat.le_trans (@j00 y3 y14 a.2.1.2.2.2.2.2) (Nat.le_trans (@j00 y3 y15 a.2.1.2.2.2.2) (Nat.le_trans (@j00 .str y16 a.2.1.2.2.2) (Nat.le_trans (@j00 (.int .i64) y17 a.2.1.2.2) (Nat.le_trans (@j00 (.int .i64) y18 a.2.1.2) (Nat.le_trans (@j00 (.int .i64) y19 a.2.1) (Nat.le_trans (@j0e y20 y22 a.2) (Nat.le_trans (@j00 (.int .i64) y23 a) h))))))))))))
 have w0:j0m y3 a.2.1.2.2.2.2.1=wgt y3 a.2.1.2.2.2.2.1:=rfl
 have w1:j0m y3 a.2.1.2.2.2.2.2.1=wgt y3 a.2.1.2.2.2.2.2.1:=rfl
 have w2:j0m y8 a.2.1.2.2.2.2.2.2.2.2.1=wgt y8 a.2.1.2.2.2.2.2.2.2.2.1:=rfl
 have w3:j0m y9 a.2.1.2.2.2.2.2.2.2.2.2.1=wgt y9 a.2.1.2.2.2.2.2.2.2.2.2.1:=rfl
 have hw:j0m y24 a=wgt y3 a.2.1.2.2.2.2.1+wgt y3 a.2.1.2.2.2.2.2.1+wgt y8 a.2.1.2.2.2.2.2.2.2.2.1+wgt y9 a.2.1.2.2.2.2.2.2.2.2.2.1:=by first | rfl | (simp only [j03,w0,w1,w2,w3,j0a,j08,j0b,Nat.zero_add,Nat.add_zero];done) | (simp only [j03,w0,w1,w2,w3,j0a,j08,j0b,Nat.zero_add,Nat.add_zero];omega)
 have v1:j0m y20 a.2.1=wgt y3 a.2.1.2.2.2.2.1+wgt y3 a.2.1.2.2.2.2.2.1+wgt y8 a.2.1.2.2.2.2.2.2.2.2.1+wgt y9 a.2.1.2.2.2.2.2.2.2.2.2.1:=by first | rfl | (simp only [j03,w0,w1,w2,w3,j0a,j08,j0b,Nat.zero_add,Nat.add_zero];done) | (simp only [j03,w0,w1,w2,w3,j0a,j08,j0b,Nat.zero_add,Nat.add_zero];omega)
 unfold j8k
 simp (disch:=first | assumption | omega) only [jrp]
 first | rfl | (simp only [j0d (.int .i64) y23,j03 (.int .i64) y23,j0d y20 y22,j03 y20 y22,j0d (.int .i64) y21,j03 (.int .i64) y21,j0d (.int .i64) (.int .i64),j03 (.int .i64) (.int .i64),j22,j3F,j2u,j3G,w0,w1,w2,w3,j0a,j08,j0b,Int.natCast_add,Int.natCast_zero,Int.cast_ofNat_Int,Nat.zero_add,Nat.add_zero,Int.add_zero,<-Int.add_assoc];done) | (simp only [j0d (.int .i64) y23,j03 (.int .i64) y23,j0d y20 y22,j03 y20 y22,j0d (.int .i64) y21,j03 (.int .i64) y21,j0d (.int .i64) (.int .i64),j03 (.int .i64) (.int .i64),j22,j3F,j2u,j3G,w0,w1,w2,w3,j0a,j08,j0b,Int.natCast_add,Int.natCast_zero,Int.cast_ofNat_Int,Nat.zero_add,Nat.add_zero,Int.add_zero,<-Int.add_assoc];rfl)
theorem jjq (a:Int×(Int×Int×Int×ByteArray×(List (Int×Int×ByteArray))×(List (Int×Int×ByteArray))×Int×ByteArray×(List (ByteArray×Int×Bool×Bool×Int×Int×ByteArray))×List ByteArray×ByteArray×ByteArray)×Int×Int×Int) (k:Int) (h:msr y24 a<=1048576) (h0:1<=k) (hk:k+(j0m y24 a:Int)<=4294967296) (K:Int->Res):j5G (mkT y24 a k) k K=K (k+(j0m y24 a:Int)):=by
 have h1:msr y20 a.2.1<=1048576:=(Nat.le_trans (@j0e y20 y22 a.2) (Nat.le_trans (@j00 (.int .i64) y23 a) h))
 have g0:msr y3 a.2.1.2.2.2.2.1<=1048576:=(Nat.le_trans (@j0e y3 y15 a.2.1.2.2.2.2) (Nat.le_trans (@j00 .str y16 a.2.1.2.2.2) (Nat.le_trans (@j00 (.int .i64) y17 a.2.1.2.2) (Nat.le_trans (@j00 (.int .i64) y18 a.2.1.2) (Nat.le_trans (@j00 (.int .i64) y19 a.2.1) (Nat.le_trans (@j0e y20 y22 a.2) (Nat.le_trans (@j00 (.int .i64) y23 a) h)))))))
 have g1:msr y3 a.2.1.2.2.2.2.2.1<=1048576:=(Nat.le_trans (@j0e y3 y14 a.2.1.2.2.2.2.2) (Nat.le_trans (@j00 y3 y15 a.2.1.2.2.2.2) (Nat.le_trans (@j00 .str y16 a.2.1.2.2.2) (Nat.le_trans (@j00 (.int .i64) y17 a.2.1.2.2) (Nat.le_trans (@j00 (.int .i64) y18 a.2.1.2) (Nat.le_trans (@j00 (.int .i64) y19 a.2.1) (Nat.le_trans (@j0e y20 y22 a.2) (Nat.le_trans (@j00 (.int .i64) y23 a) h))))))))
 have g2:msr y8 a.2.1.2.2.2.2.2.2.2.2.1<=1048576:=(Nat.le_trans (@j0e y8 y11 a.2.1.2.2.2.2.2.2.2.2) (Nat.le_trans (@j00 .str y12 a.2.1.2.2.2.2.2.2.2) (Nat.le_trans (@j00 (.int .i64) y13 a.2.1.2.2.2.2.2.2) (Nat.le_trans (@j00 y3 y14 a.2.1.2.2.2.2.2) (Nat.le_trans (@j00 y3 y15 a.2.1.2.2.2.2) (Nat.le_trans (@j00 .str y16 a.2.1.2.2.2) (Nat.le_trans (@j00 (.int .i64) y17 a.2.1.2.2) (Nat.le_trans (@j00 (.int .i64) y18 a.2.1.2) (Nat.le_trans (@j00 (.int .i64) y19 a.2.1) (Nat.le_trans (@j0e y20 y22 a.2) (Nat.le_trans (@j00 (.int .i64) y23 a) h)))))))))))
 have g3:msr y9 a.2.1.2.2.2.2.2.2.2.2.2.1<=1048576:=(Nat.le_trans (@j0e y9 y10 a.2.1.2.2.2.2.2.2.2.2.2) (Nat.le_trans (@j00 y8 y11 a.2.1.2.2.2.2.2.2.2.2) (Nat.le_trans (@j00 .str y12 a.2.1.2.2.2.2.2.2.2) (Nat.le_trans (@j00 (.int .i64) y13 a.2.1.2.2.2.2.2.2) (Nat.le_trans (@j00 y3 y14 a.2.1.2.2.2.2.2) (Nat.le_trans (@j00 y3 y15 a.2.1.2.2.2.2) (Nat.le_trans (@j00 .str y16 a.2.1.2.2.2) (Nat.le_trans (@j00 (.int .i64) y17 a.2.1.2.2) (Nat.le_trans (@j00 (.int .i64) y18 a.2.1.2) (Nat.le_trans (@j00 (.int .i64) y19 a.2.1) (Nat.le_trans (@j0e y20 y22 a.2) (Nat.le_trans (@j00 (.int .i64) y23 a) h))))))))))))
 have w0:j0m y3 a.2.1.2.2.2.2.1=wgt y3 a.2.1.2.2.2.2.1:=rfl
 have w1:j0m y3 a.2.1.2.2.2.2.2.1=wgt y3 a.2.1.2.2.2.2.2.1:=rfl
 have w2:j0m y8 a.2.1.2.2.2.2.2.2.2.2.1=wgt y8 a.2.1.2.2.2.2.2.2.2.2.1:=rfl
 have w3:j0m y9 a.2.1.2.2.2.2.2.2.2.2.2.1=wgt y9 a.2.1.2.2.2.2.2.2.2.2.2.1:=rfl
 have hw:j0m y24 a=wgt y3 a.2.1.2.2.2.2.1+wgt y3 a.2.1.2.2.2.2.2.1+wgt y8 a.2.1.2.2.2.2.2.2.2.2.1+wgt y9 a.2.1.2.2.2.2.2.2.2.2.2.1:=by first | rfl | (simp only [j03,w0,w1,w2,w3,j0a,j08,j0b,Nat.zero_add,Nat.add_zero];done) | (simp only [j03,w0,w1,w2,w3,j0a,j08,j0b,Nat.zero_add,Nat.add_zero];omega)
 have v1:j0m y20 a.2.1=wgt y3 a.2.1.2.2.2.2.1+wgt y3 a.2.1.2.2.2.2.2.1+wgt y8 a.2.1.2.2.2.2.2.2.2.2.1+wgt y9 a.2.1.2.2.2.2.2.2.2.2.2.1:=by first | rfl | (simp only [j03,w0,w1,w2,w3,j0a,j08,j0b,Nat.zero_add,Nat.add_zero];done) | (simp only [j03,w0,w1,w2,w3,j0a,j08,j0b,Nat.zero_add,Nat.add_zero];omega)
 unfold j5G
 simp (disch:=first | assumption | omega) only [j0d (.int .i64) y23,j03 (.int .i64) y23,j0d y20 y22,j03 y20 y22,j0d (.int .i64) y21,j03 (.int .i64) y21,j0d (.int .i64) (.int .i64),j03 (.int .i64) (.int .i64),j22,j3F,j2u,j3G,w0,w1,w2,w3,j0a,j08,j0b,Int.natCast_add,Int.natCast_zero,Int.cast_ofNat_Int,Nat.zero_add,Nat.add_zero,Int.add_zero,<-Int.add_assoc,jrh,Z8A,cond_false]
 all_goals (repeat (show (bif decide (_<(0:Int)) then _ else _)=_;rw [Z8A (by omega),cond_false]))
 all_goals first | done | rfl | (congr 1;omega)
end Go.PI.G
namespace Go.PI.G
open Go Go.PI Go.Proofs
theorem jsy {r:RC} (h:j23 r=true):msr yRC r<=1100:=by
 have e:msr yRC r=0+(0+msr yST r.2.2):=rfl
 obtain ⟨_,_,h | h⟩:=j6e h
 ·have:=jsV h.2
  omega
 ·have z:msr yST zST=0:=rfl
  rw [h.2] at e
  omega
theorem jrY {s:SP} (h:j6n s=true):msr ySP s<=1100:=by
 have e:∀ s:SP,msr ySP s=0+(msr yRC s.2.1+(0+(0+0))):=λ_=>rfl
 have z:msr yRC zRC=0:=rfl
 rw [e]
 rcases jaG h with ⟨r,rfl,hr⟩ | ⟨n,rfl,ho⟩ | ⟨n,rfl,ho⟩ | ⟨n,rfl,ho⟩ | ⟨n,rfl,ho⟩ | ⟨n,m,rfl,ho,hm⟩ | ⟨n,rfl,ho⟩ | rfl | rfl | rfl
 ·have:=jsy hr
  dsimp only at *
  omega
 all_goals (dsimp only at *;omega)
theorem jsg (s:ByteArray):msr ySP (jci s).1<=1100:=by
 cases h:(jci s).2
 ·have e:(jci s).1=zSP:=(jmR h).1
  rw [e]
  exact Nat.zero_le _
 ·exact jrY (ji8 h).1
theorem jrG (x0:ByteArray) (w0:Wf .str x0) (k:Bool->Res):j39 x0 k=k true:=by
 unfold j39
 by_cases hs:nI x0.size>1048576
 ·rw [decide_eq_true hs];rfl
 have hl:x0.size<=1048576:=by unfold nI at hs;omega
 rw [decide_eq_false hs,cond_false,jqy x0 hl,jhZ x0 hl]
 have hq:=jsg x0
 generalize hr:jci x0=r at hq
 obtain ⟨l,ok⟩:=r
 have hbb:∀ x:Bool,(x==x)=true:=by decide
 dsimp only at hq ⊢
 have hm:msr ySP l<=1048576:=by omega
 have e3:=jsl (τ:=ySP) (by decide) hm
 have e3':=jfs ySP l
 have k3:(1:Int)+((j0m ySP l:Nat):Int)<=4294967296:=by omega
 rw [joy _ hm,Bool.not_true,cond_false,hbb,Bool.not_true,cond_false,jqN l 1 hm (by omega) k3,jjq l 1 hm (by omega) k3]
 unfold j3t
 rw [decide_eq_false (by omega),cond_false,Z9g,cond_false,jhZ x0 hl,hr]
 dsimp only
 rw [joy _ hm,Bool.not_true,cond_false,hbb,Bool.not_true,cond_false,jjq l 1 hm (by omega) k3,decide_eq_false (by omega),cond_false,Z9g,cond_false]
end Go.PI.G
