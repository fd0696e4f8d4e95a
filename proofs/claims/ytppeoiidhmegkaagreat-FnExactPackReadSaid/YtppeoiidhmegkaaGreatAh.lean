/-
  Program's code interpreted over typed values; printed texts; plain laws. No conditions.
-/
import Derived.Test.YtppeoiidhmegkaaGreatAg
import Derived.Test.YtppeoiidhmegkaaGreatAc
import Derived.Test.YtppeoiidhmegkaaGreatAd
import Derived.Test.YtppeoiidhmegkaaGreatAe
set_option linter.unusedVariables false
set_option linter.unusedSimpArgs false
set_option maxRecDepth 10000
namespace Go.PI.G
open Go Go.PI Go.Proofs
theorem jfV (a:qE) (h:msr y8 a<=1048576) (k:Bool->Res):j6f a a k=k true:=by
 have hl:a.length<=1048576:=j1P h
 unfold j6f
 rw [Z9o,cond_false]
 unfold j7R
 rw [Z93 a _ (by unfold LIM;omega) (λi rec hi=> ?_) (λrec=> ?_)]
 ·show j2U a a _ _ _ _=_
  unfold j2U
  simp only [Z9q hi,cond_true,j08 hi,Z9a _ _ _ hi,j03 (n:=(i:Int)+1) (by omega),Z9o,Z8U,cond_false,Bool.not_true,jgo _ (j1Q h (List.getElem_mem hi))]
 ·show j2U a a _ _ _ _=_
  unfold j2U
  rw [Z9p,cond_false]
theorem jf5 (a:qE) (k:Int) (h:msr y8 a<=1048576) (h0:1<=k) (hk:k+(wgt y8 a:Int)<=4294967296) (K:Int->qE->Res):j4O a k K=K (k+(wgt y8 a:Int)) (mkL (wgt y7) (mk y7) a k):=by
 have hl:a.length<=1048576:=j1P h
 have hwg:wgt y8 a=(a.map (wgt y7)).sum:=rfl
 rw [hwg] at hk ⊢
 unfold j4O j6z
 have:=Z8D (wgt y7) (mk y7) a k (λl k i=>(l,k,i)) (step:=j3D) (λl k=>K k l) (λl k=>K k l) (by unfold LIM;omega) (λl i rec hi hll hli hla=>by
  have e1:=Z6s (wgt y7) a i hi
  have e2:=Z8p (wgt y7) a (i+1)
  generalize hκ:k+((((a.take i).map (wgt y7)).sum:Nat):Int)=κ
  have hκ1:1<=κ/\κ+(wgt y7 a[i]:Int)<=4294967296:=by omega
  have hw:(wgt y7 a[i]:Int)=1+1+1+1+1+1+1:=by
   have:wgt y7 a[i]=1+1+1+1+1+1+1:=by first | rfl | (simp only [wgt];done) | (simp only [wgt];omega)
   first | rfl | omega
  show j1d _ _ _ _ _=_
  dsimp only
  unfold j1d j2W j2X j2Y
  rw [<-hll] at hi
  have hi':i<a.length:=by omega
  simp (disch:=first | assumption | omega) only [show nI a.length=nI l.length by rw [hll],Z9q,j08,ja9,cond_true,ja5,jaa,Z9a,hla,j03,j1V,<-hll]
  rw [Z9h]
  congr 3<;>first | rfl | omega | (simp only [j2b,j1q,j3F,j57,j2a,j3G,j1u,j2e,j1t,j2f,Int.natCast_add,Int.natCast_one,<-Int.add_assoc];done) | (simp only [j2b,j1q,j3F,j57,j2a,j3G,j1u,j2e,j1t,j2f,Int.natCast_add,Int.natCast_one,<-Int.add_assoc];rfl) | skip) (λl k rec hll=>by
  show j1d _ _ _ _ _=_
  dsimp only
  unfold j1d j2W j2X j2Y
  rw [<-hll,Z9p,cond_false])
 exact this
theorem jf0 (a:qE) (k:Int) (h:msr y8 a<=1048576) (h0:1<=k) (hk:k+(wgt y8 a:Int)<=4294967296) (K:Int->Res):j4N (mkL (wgt y7) (mk y7) a k) k K=K (k+(wgt y8 a:Int)):=by
 have hl:a.length<=1048576:=j1P h
 have hwg:wgt y8 a=(a.map (wgt y7)).sum:=rfl
 rw [hwg] at hk ⊢
 have hll:=Z5t (wgt y7) (mk y7) a k
 have hg:=Z96 (wgt y7) (mk y7) a k
 generalize mkL (wgt y7) (mk y7) a k=l at hll hg
 unfold j4N j6x
 have:=Z8A (wgt y7) a k (λk i=>(k,i)) (step:=j3C l) ((λ(k_1:Int)=>K k_1),(λ(_:Unit)=>K (-1))) (λk=>K k) (by unfold LIM;omega) (λi rec hi=>by
  have e1:=Z6s (wgt y7) a i hi
  have e2:=Z8p (wgt y7) a (i+1)
  have hgi:=hg i hi (by omega)
  generalize hκ:k+((((a.take i).map (wgt y7)).sum:Nat):Int)=κ at hgi
  have hκ1:1<=κ/\κ+(wgt y7 a[i]:Int)<=4294967296:=by omega
  have hw:(wgt y7 a[i]:Int)=1+1+1+1+1+1+1:=by
   have:wgt y7 a[i]=1+1+1+1+1+1+1:=by first | rfl | (simp only [wgt];done) | (simp only [wgt];omega)
   first | rfl | omega
  show j1b _ _ _ _ _ _=_
  dsimp only
  unfold j1b
  have hi':i<l.length:=by omega
  simp (disch:=first | assumption | omega) only [Z9q,j08,cond_true,cond_false,Z9a,hgi,j2b,j1q,j3F,j57,j2a,j3G,j1u,j2e,j1t,j2f,Int.natCast_add,Int.natCast_one,<-Int.add_assoc,j03,j1V,Z9o,Z8U,beq_self_eq_true,Bool.not_true,Z8I]
  all_goals (congr 2;omega)) (λk rec=>by
  show j1b _ _ _ _ _ _=_
  dsimp only
  unfold j1b
  rw [<-hll,Z9p,cond_false])
 exact this
end Go.PI.G
namespace Go.PI.G
open Go Go.PI Go.Proofs
theorem j95 (a:(List ByteArray)) (h:msr y9 a<=1048576) (k:Bool->Res):j1a a a k=k true:=by
 have hl:a.length<=1048576:=j1P h
 unfold j1a
 rw [Z9o,cond_false]
 unfold j5Y
 rw [Z93 a _ (by unfold LIM;omega) (λi rec hi=> ?_) (λrec=> ?_)]
 ·show j1I a a _ _ _ _=_
  unfold j1I
  simp only [Z9q hi,cond_true,j08 hi,Z9a _ _ _ hi,j03 (n:=(i:Int)+1) (by omega),Z9o,Z8U,cond_false,Bool.not_true]
 ·show j1I a a _ _ _ _=_
  unfold j1I
  rw [Z9p,cond_false]
theorem jdu (a:(List ByteArray)) (k:Int) (h:msr y9 a<=1048576) (h0:1<=k) (hk:k+(wgt y9 a:Int)<=4294967296) (K:Int->(List ByteArray)->Res):j16 a k K=K (k+(wgt y9 a:Int)) (mkL (wgt .str) (mk .str) a k):=by
 have hl:a.length<=1048576:=j1P h
 have hwg:wgt y9 a=(a.map (wgt .str)).sum:=rfl
 rw [hwg] at hk ⊢
 unfold j16 j51
 have:=Z8D (wgt .str) (mk .str) a k (λl k i=>(l,k,i)) (step:=j4g) (λl k=>K k l) (λl k=>K k l) (by unfold LIM;omega) (λl i rec hi hll hli hla=>by
  have e1:=Z6s (wgt .str) a i hi
  have e2:=Z8p (wgt .str) a (i+1)
  generalize hκ:k+((((a.take i).map (wgt .str)).sum:Nat):Int)=κ
  have hκ1:1<=κ/\κ+(wgt .str a[i]:Int)<=4294967296:=by omega
  have hw:(wgt .str a[i]:Int)=1:=by
   have:wgt .str a[i]=1:=by first | rfl | (simp only [wgt];done) | (simp only [wgt];omega)
   first | rfl | omega
  show j1e _ _ _ _ _=_
  dsimp only
  unfold j1e
  rw [<-hll] at hi
  have hi':i<a.length:=by omega
  simp (disch:=first | assumption | omega) only [show nI a.length=nI l.length by rw [hll],Z9q,j08,ja9,cond_true,ja5,jaa,Z9a,hla,j03,j1V,<-hll]
  rw [Z9h]
  congr 3<;>first | rfl | omega | (simp only [j2b,j1q,j3F,j57,j2a,j3G,j1u,j2e,j1t,j2f,Int.natCast_add,Int.natCast_one,<-Int.add_assoc];done) | (simp only [j2b,j1q,j3F,j57,j2a,j3G,j1u,j2e,j1t,j2f,Int.natCast_add,Int.natCast_one,<-Int.add_assoc];rfl) | skip) (λl k rec hll=>by
  show j1e _ _ _ _ _=_
  dsimp only
  unfold j1e
  rw [<-hll,Z9p,cond_false])
 exact this
theorem jdt (a:(List ByteArray)) (k:Int) (h:msr y9 a<=1048576) (h0:1<=k) (hk:k+(wgt y9 a:Int)<=4294967296) (K:Int->Res):j15 (mkL (wgt .str) (mk .str) a k) k K=K (k+(wgt y9 a:Int)):=by
 have hl:a.length<=1048576:=j1P h
 have hwg:wgt y9 a=(a.map (wgt .str)).sum:=rfl
 rw [hwg] at hk ⊢
 have hll:=Z5t (wgt .str) (mk .str) a k
 have hg:=Z96 (wgt .str) (mk .str) a k
 generalize mkL (wgt .str) (mk .str) a k=l at hll hg
 unfold j15 j4Z
 have:=Z8A (wgt .str) a k (λk i=>(k,i)) (step:=j4e l) ((λ(k_1:Int)=>K k_1),(λ(_:Unit)=>K (-1))) (λk=>K k) (by unfold LIM;omega) (λi rec hi=>by
  have e1:=Z6s (wgt .str) a i hi
  have e2:=Z8p (wgt .str) a (i+1)
  have hgi:=hg i hi (by omega)
  generalize hκ:k+((((a.take i).map (wgt .str)).sum:Nat):Int)=κ at hgi
  have hκ1:1<=κ/\κ+(wgt .str a[i]:Int)<=4294967296:=by omega
  have hw:(wgt .str a[i]:Int)=1:=by
   have:wgt .str a[i]=1:=by first | rfl | (simp only [wgt];done) | (simp only [wgt];omega)
   first | rfl | omega
  show j1c _ _ _ _ _ _=_
  dsimp only
  unfold j1c
  have hi':i<l.length:=by omega
  simp (disch:=first | assumption | omega) only [Z9q,j08,cond_true,cond_false,Z9a,hgi,j2b,j1q,j3F,j57,j2a,j3G,j1u,j2e,j1t,j2f,Int.natCast_add,Int.natCast_one,<-Int.add_assoc,j03,j1V,Z9o,Z8U,beq_self_eq_true,Bool.not_true,Z8I]
  all_goals (congr 2;omega)) (λk rec=>by
  show j1c _ _ _ _ _ _=_
  dsimp only
  unfold j1c
  rw [<-hll,Z9p,cond_false])
 exact this
end Go.PI.G
namespace Go.PI.G
open Go Go.PI Go.Proofs
theorem jgp (a:Int×ByteArray×qE×List ByteArray×ByteArray×ByteArray) (h:msr y14 a<=1048576) (k:Bool->Res):j5J a a k=k true:=by
 have h2:msr y8 a.2.2.1<=1048576:=(Nat.le_trans (@j0u y8 y11 a.2.2) (Nat.le_trans (@j05 .str y12 a.2) (Nat.le_trans (@j05 (.int .i64) y13 a) h)))
 have h3:msr y9 a.2.2.2.1<=1048576:=(Nat.le_trans (@j0u y9 y10 a.2.2.2) (Nat.le_trans (@j05 y8 y11 a.2.2) (Nat.le_trans (@j05 .str y12 a.2) (Nat.le_trans (@j05 (.int .i64) y13 a) h))))
 unfold j5J
 simp only [Z9o,Z8U,beq_self_eq_true,cond_false,Bool.not_true,jfV _ h2,j95 _ h3]
end Go.PI.G
namespace Go.PI.G
open Go Go.PI Go.Proofs
theorem jdK (a:qW) (h:msr y3 a<=1048576) (k:Bool->Res):j4U a a k=k true:=by
 have hl:a.length<=1048576:=j1P h
 unfold j4U
 rw [Z9o,cond_false]
 unfold j7S
 rw [Z93 a _ (by unfold LIM;omega) (λi rec hi=> ?_) (λrec=> ?_)]
 ·show j2V a a _ _ _ _=_
  unfold j2V
  simp only [Z9q hi,cond_true,j08 hi,Z9a _ _ _ hi,j03 (n:=(i:Int)+1) (by omega),Z9o,Z8U,cond_false,Bool.not_true,jeA _ (j1Q h (List.getElem_mem hi))]
 ·show j2V a a _ _ _ _=_
  unfold j2V
  rw [Z9p,cond_false]
theorem jf7 (a:qW) (k:Int) (h:msr y3 a<=1048576) (h0:1<=k) (hk:k+(wgt y3 a:Int)<=4294967296) (K:Int->qW->Res):j3p a k K=K (k+(wgt y3 a:Int)) (mkL (wgt y2) (mk y2) a k):=by
 have hl:a.length<=1048576:=j1P h
 have hwg:wgt y3 a=(a.map (wgt y2)).sum:=rfl
 rw [hwg] at hk ⊢
 unfold j3p j6B
 have:=Z8D (wgt y2) (mk y2) a k (λl k i=>(l,k,i)) (step:=j5m) (λl k=>K k l) (λl k=>K k l) (by unfold LIM;omega) (λl i rec hi hll hli hla=>by
  have e1:=Z6s (wgt y2) a i hi
  have e2:=Z8p (wgt y2) a (i+1)
  generalize hκ:k+((((a.take i).map (wgt y2)).sum:Nat):Int)=κ
  have hκ1:1<=κ/\κ+(wgt y2 a[i]:Int)<=4294967296:=by omega
  have hw:(wgt y2 a[i]:Int)=1+1+1:=by
   have:wgt y2 a[i]=1+1+1:=by first | rfl | (simp only [wgt];done) | (simp only [wgt];omega)
   first | rfl | omega
  show j23 _ _ _ _ _=_
  dsimp only
  unfold j23
  rw [<-hll] at hi
  have hi':i<a.length:=by omega
  simp (disch:=first | assumption | omega) only [show nI a.length=nI l.length by rw [hll],Z9q,j08,ja9,cond_true,ja5,jaa,Z9a,hla,j03,j1V,<-hll]
  rw [Z9h]
  congr 3<;>first | rfl | omega | (simp only [j2b,j1q,j3F,j57,j2a,j3G,j1u,j2e,j1t,j2f,Int.natCast_add,Int.natCast_one,<-Int.add_assoc];done) | (simp only [j2b,j1q,j3F,j57,j2a,j3G,j1u,j2e,j1t,j2f,Int.natCast_add,Int.natCast_one,<-Int.add_assoc];rfl) | skip) (λl k rec hll=>by
  show j23 _ _ _ _ _=_
  dsimp only
  unfold j23
  rw [<-hll,Z9p,cond_false])
 exact this
theorem jf1 (a:qW) (k:Int) (h:msr y3 a<=1048576) (h0:1<=k) (hk:k+(wgt y3 a:Int)<=4294967296) (K:Int->Res):j3o (mkL (wgt y2) (mk y2) a k) k K=K (k+(wgt y3 a:Int)):=by
 have hl:a.length<=1048576:=j1P h
 have hwg:wgt y3 a=(a.map (wgt y2)).sum:=rfl
 rw [hwg] at hk ⊢
 have hll:=Z5t (wgt y2) (mk y2) a k
 have hg:=Z96 (wgt y2) (mk y2) a k
 generalize mkL (wgt y2) (mk y2) a k=l at hll hg
 unfold j3o j6y
 have:=Z8A (wgt y2) a k (λk i=>(k,i)) (step:=j5l l) ((λ(k_1:Int)=>K k_1),(λ(_:Unit)=>K (-1))) (λk=>K k) (by unfold LIM;omega) (λi rec hi=>by
  have e1:=Z6s (wgt y2) a i hi
  have e2:=Z8p (wgt y2) a (i+1)
  have hgi:=hg i hi (by omega)
  generalize hκ:k+((((a.take i).map (wgt y2)).sum:Nat):Int)=κ at hgi
  have hκ1:1<=κ/\κ+(wgt y2 a[i]:Int)<=4294967296:=by omega
  have hw:(wgt y2 a[i]:Int)=1+1+1:=by
   have:wgt y2 a[i]=1+1+1:=by first | rfl | (simp only [wgt];done) | (simp only [wgt];omega)
   first | rfl | omega
  show j21 _ _ _ _ _ _=_
  dsimp only
  unfold j21
  have hi':i<l.length:=by omega
  simp (disch:=first | assumption | omega) only [Z9q,j08,cond_true,cond_false,Z9a,hgi,j2b,j1q,j3F,j57,j2a,j3G,j1u,j2e,j1t,j2f,Int.natCast_add,Int.natCast_one,<-Int.add_assoc,j03,j1V,Z9o,Z8U,beq_self_eq_true,Bool.not_true,Z8I]
  all_goals (congr 2;omega)) (λk rec=>by
  show j21 _ _ _ _ _ _=_
  dsimp only
  unfold j21
  rw [<-hll,Z9p,cond_false])
 exact this
end Go.PI.G
namespace Go.PI.G
open Go Go.PI Go.Proofs
theorem jgq (a:List qV) (h:msr y3 a<=1048576) (k:Bool->Res):j77 a a k=k true:=by
 have h0:msr y3 a<=1048576:=h
 unfold j77
 simp only [Z9o,Z8U,beq_self_eq_true,cond_false,Bool.not_true,jdK _ h0]
end Go.PI.G
namespace Go.PI.G
open Go Go.PI Go.Proofs
theorem jfY (a:Int×ByteArray×qW×qW×Int×ByteArray×qE×List ByteArray×ByteArray×ByteArray) (h:msr y18 a<=1048576) (k:Bool->Res):j4T a a k=k true:=by
 have h2:msr y3 a.2.2.1<=1048576:=(Nat.le_trans (@j0u y3 y15 a.2.2) (Nat.le_trans (@j05 .str y16 a.2) (Nat.le_trans (@j05 (.int .i64) y17 a) h)))
 have h3:msr y3 a.2.2.2.1<=1048576:=(Nat.le_trans (@j0u y3 y14 a.2.2.2) (Nat.le_trans (@j05 y3 y15 a.2.2) (Nat.le_trans (@j05 .str y16 a.2) (Nat.le_trans (@j05 (.int .i64) y17 a) h))))
 have h4:msr y14 a.2.2.2.2<=1048576:=(Nat.le_trans (@j05 y3 y14 a.2.2.2) (Nat.le_trans (@j05 y3 y15 a.2.2) (Nat.le_trans (@j05 .str y16 a.2) (Nat.le_trans (@j05 (.int .i64) y17 a) h))))
 unfold j4T
 simp only [Z9o,Z8U,beq_self_eq_true,cond_false,Bool.not_true,jdK _ h2,jgq _ h3,jgp _ h4]
end Go.PI.G
namespace Go.PI.G
open Go Go.PI Go.Proofs
theorem jfX (a:qS×List ByteArray×List ByteArray) (h:msr y20 a<=1048576) (k:Bool->Res):j6h a a k=k true:=by
 have h0:msr y18 a.1<=1048576:=(Nat.le_trans (@j0u y18 y19 a) h)
 have h1:msr y9 a.2.1<=1048576:=(Nat.le_trans (@j0u y9 y9 a.2) (Nat.le_trans (@j05 y18 y19 a) h))
 have h2:msr y9 a.2.2<=1048576:=(Nat.le_trans (@j05 y9 y9 a.2) (Nat.le_trans (@j05 y18 y19 a) h))
 unfold j6h
 simp only [Z9o,Z8U,beq_self_eq_true,cond_false,Bool.not_true,jfY _ h0,j95 _ h1,j95 _ h2]
end Go.PI.G
namespace Go.PI.G
open Go Go.PI Go.Proofs
theorem jft (a:(List (qS×List ByteArray×List ByteArray))) (h:msr y21 a<=1048576) (k:Bool->Res):j75 a a k=k true:=by
 have hl:a.length<=1048576:=j1P h
 unfold j75
 rw [Z9o,cond_false]
 unfold j76
 rw [Z93 a _ (by unfold LIM;omega) (λi rec hi=> ?_) (λrec=> ?_)]
 ·show j2r a a _ _ _ _=_
  unfold j2r
  simp only [Z9q hi,cond_true,j08 hi,Z9a _ _ _ hi,j03 (n:=(i:Int)+1) (by omega),Z9o,Z8U,cond_false,Bool.not_true,jfX _ (j1Q h (List.getElem_mem hi))]
 ·show j2r a a _ _ _ _=_
  unfold j2r
  rw [Z9p,cond_false]
theorem jeI (a:(List (qS×List ByteArray×List ByteArray))) (k:Int) (h:msr y21 a<=1048576) (h0:1<=k) (hk:k+(wgt y21 a:Int)<=4294967296) (K:Int->(List (qS×List ByteArray×List ByteArray))->Res):j5M a k K=K (k+(wgt y21 a:Int)) (mkL (wgt y20) (mk y20) a k):=by
 have hl:a.length<=1048576:=j1P h
 have hwg:wgt y21 a=(a.map (wgt y20)).sum:=rfl
 rw [hwg] at hk ⊢
 unfold j5M j61
 have:=Z8D (wgt y20) (mk y20) a k (λl k i=>(l,k,i)) (step:=j3g) (λl k=>K k l) (λl k=>K k l) (by unfold LIM;omega) (λl i rec hi hll hli hla=>by
  have e1:=Z6s (wgt y20) a i hi
  have e2:=Z8p (wgt y20) a (i+1)
  generalize hκ:k+((((a.take i).map (wgt y20)).sum:Nat):Int)=κ
  have hκ1:1<=κ/\κ+(wgt y20 a[i]:Int)<=4294967296:=by omega
  have hw:(wgt y20 a[i]:Int)=1+1+(wgt y3 a[i].1.2.2.1:Int)+(wgt y3 a[i].1.2.2.2.1:Int)+1+1+(wgt y8 a[i].1.2.2.2.2.2.2.1:Int)+(wgt y9 a[i].1.2.2.2.2.2.2.2.1:Int)+1+1+(wgt y9 a[i].2.1:Int)+(wgt y9 a[i].2.2:Int):=by
   have:wgt y20 a[i]=1+1+(wgt y3 a[i].1.2.2.1)+(wgt y3 a[i].1.2.2.2.1)+1+1+(wgt y8 a[i].1.2.2.2.2.2.2.1)+(wgt y9 a[i].1.2.2.2.2.2.2.2.1)+1+1+(wgt y9 a[i].2.1)+(wgt y9 a[i].2.2):=by first | rfl | (simp only [wgt];done) | (simp only [wgt];omega)
   first | rfl | omega
  have hr0:msr y3 a[i].1.2.2.1<=1048576:=(Nat.le_trans (@j0u y3 y15 a[i].1.2.2) (Nat.le_trans (@j05 .str y16 a[i].1.2) (Nat.le_trans (@j05 (.int .i64) y17 a[i].1) (Nat.le_trans (@j0u y18 y19 a[i]) (j1Q h (List.getElem_mem hi))))))
  have hr1:msr y3 a[i].1.2.2.2.1<=1048576:=(Nat.le_trans (@j0u y3 y14 a[i].1.2.2.2) (Nat.le_trans (@j05 y3 y15 a[i].1.2.2) (Nat.le_trans (@j05 .str y16 a[i].1.2) (Nat.le_trans (@j05 (.int .i64) y17 a[i].1) (Nat.le_trans (@j0u y18 y19 a[i]) (j1Q h (List.getElem_mem hi)))))))
  have hr2:msr y8 a[i].1.2.2.2.2.2.2.1<=1048576:=(Nat.le_trans (@j0u y8 y11 a[i].1.2.2.2.2.2.2) (Nat.le_trans (@j05 .str y12 a[i].1.2.2.2.2.2) (Nat.le_trans (@j05 (.int .i64) y13 a[i].1.2.2.2.2) (Nat.le_trans (@j05 y3 y14 a[i].1.2.2.2) (Nat.le_trans (@j05 y3 y15 a[i].1.2.2) (Nat.le_trans (@j05 .str y16 a[i].1.2) (Nat.le_trans (@j05 (.int .i64) y17 a[i].1) (Nat.le_trans (@j0u y18 y19 a[i]) (j1Q h (List.getElem_mem hi))))))))))
  have hr3:msr y9 a[i].1.2.2.2.2.2.2.2.1<=1048576:=(Nat.le_trans (@j0u y9 y10 a[i].1.2.2.2.2.2.2.2) (Nat.le_trans (@j05 y8 y11 a[i].1.2.2.2.2.2.2) (Nat.le_trans (@j05 .str y12 a[i].1.2.2.2.2.2) (Nat.le_trans (@j05 (.int .i64) y13 a[i].1.2.2.2.2) (Nat.le_trans (@j05 y3 y14 a[i].1.2.2.2) (Nat.le_trans (@j05 y3 y15 a[i].1.2.2) (Nat.le_trans (@j05 .str y16 a[i].1.2) (Nat.le_trans (@j05 (.int .i64) y17 a[i].1) (Nat.le_trans (@j0u y18 y19 a[i]) (j1Q h (List.getElem_mem hi)))))))))))
  have hr4:msr y9 a[i].2.1<=1048576:=(Nat.le_trans (@j0u y9 y9 a[i].2) (Nat.le_trans (@j05 y18 y19 a[i]) (j1Q h (List.getElem_mem hi))))
  have hr5:msr y9 a[i].2.2<=1048576:=(Nat.le_trans (@j05 y9 y9 a[i].2) (Nat.le_trans (@j05 y18 y19 a[i]) (j1Q h (List.getElem_mem hi))))
  show j0Y _ _ _ _ _=_
  dsimp only
  unfold j0Y j2s j2t j2u j2v j2w j2x
  rw [<-hll] at hi
  have hi':i<a.length:=by omega
  simp (disch:=first | assumption | omega) only [show nI a.length=nI l.length by rw [hll],Z9q,j08,ja9,cond_true,ja5,jaa,Z9a,hla,j03,j1V,jf5,jdu,jf7,<-hll]
  rw [Z9h]
  congr 3<;>first | rfl | omega | (simp only [j2b,j1q,j3F,j57,j2a,j3G,j1u,j2e,j1t,j2f,Int.natCast_add,Int.natCast_one,<-Int.add_assoc];done) | (simp only [j2b,j1q,j3F,j57,j2a,j3G,j1u,j2e,j1t,j2f,Int.natCast_add,Int.natCast_one,<-Int.add_assoc];rfl) | skip) (λl k rec hll=>by
  show j0Y _ _ _ _ _=_
  dsimp only
  unfold j0Y j2s j2t j2u j2v j2w j2x
  rw [<-hll,Z9p,cond_false])
 exact this
theorem jeD (a:(List (qS×List ByteArray×List ByteArray))) (k:Int) (h:msr y21 a<=1048576) (h0:1<=k) (hk:k+(wgt y21 a:Int)<=4294967296) (K:Int->Res):j5K (mkL (wgt y20) (mk y20) a k) k K=K (k+(wgt y21 a:Int)):=by
 have hl:a.length<=1048576:=j1P h
 have hwg:wgt y21 a=(a.map (wgt y20)).sum:=rfl
 rw [hwg] at hk ⊢
 have hll:=Z5t (wgt y20) (mk y20) a k
 have hg:=Z96 (wgt y20) (mk y20) a k
 generalize mkL (wgt y20) (mk y20) a k=l at hll hg
 unfold j5K j5Z
 have:=Z8A (wgt y20) a k (λk i=>(k,i)) (step:=j3f l) ((λ(k_1:Int)=>K k_1),(λ(_:Unit)=>K (-1))) (λk=>K k) (by unfold LIM;omega) (λi rec hi=>by
  have e1:=Z6s (wgt y20) a i hi
  have e2:=Z8p (wgt y20) a (i+1)
  have hgi:=hg i hi (by omega)
  generalize hκ:k+((((a.take i).map (wgt y20)).sum:Nat):Int)=κ at hgi
  have hκ1:1<=κ/\κ+(wgt y20 a[i]:Int)<=4294967296:=by omega
  have hw:(wgt y20 a[i]:Int)=1+1+(wgt y3 a[i].1.2.2.1:Int)+(wgt y3 a[i].1.2.2.2.1:Int)+1+1+(wgt y8 a[i].1.2.2.2.2.2.2.1:Int)+(wgt y9 a[i].1.2.2.2.2.2.2.2.1:Int)+1+1+(wgt y9 a[i].2.1:Int)+(wgt y9 a[i].2.2:Int):=by
   have:wgt y20 a[i]=1+1+(wgt y3 a[i].1.2.2.1)+(wgt y3 a[i].1.2.2.2.1)+1+1+(wgt y8 a[i].1.2.2.2.2.2.2.1)+(wgt y9 a[i].1.2.2.2.2.2.2.2.1)+1+1+(wgt y9 a[i].2.1)+(wgt y9 a[i].2.2):=by first | rfl | (simp only [wgt];done) | (simp only [wgt];omega)
   first | rfl | omega
  have hr0:msr y3 a[i].1.2.2.1<=1048576:=(Nat.le_trans (@j0u y3 y15 a[i].1.2.2) (Nat.le_trans (@j05 .str y16 a[i].1.2) (Nat.le_trans (@j05 (.int .i64) y17 a[i].1) (Nat.le_trans (@j0u y18 y19 a[i]) (j1Q h (List.getElem_mem hi))))))
  have hr1:msr y3 a[i].1.2.2.2.1<=1048576:=(Nat.le_trans (@j0u y3 y14 a[i].1.2.2.2) (Nat.le_trans (@j05 y3 y15 a[i].1.2.2) (Nat.le_trans (@j05 .str y16 a[i].1.2) (Nat.le_trans (@j05 (.int .i64) y17 a[i].1) (Nat.le_trans (@j0u y18 y19 a[i]) (j1Q h (List.getElem_mem hi)))))))
  have hr2:msr y8 a[i].1.2.2.2.2.2.2.1<=1048576:=(Nat.le_trans (@j0u y8 y11 a[i].1.2.2.2.2.2.2) (Nat.le_trans (@j05 .str y12 a[i].1.2.2.2.2.2) (Nat.le_trans (@j05 (.int .i64) y13 a[i].1.2.2.2.2) (Nat.le_trans (@j05 y3 y14 a[i].1.2.2.2) (Nat.le_trans (@j05 y3 y15 a[i].1.2.2) (Nat.le_trans (@j05 .str y16 a[i].1.2) (Nat.le_trans (@j05 (.int .i64) y17 a[i].1) (Nat.le_trans (@j0u y18 y19 a[i]) (j1Q h (List.getElem_mem hi))))))))))
  have hr3:msr y9 a[i].1.2.2.2.2.2.2.2.1<=1048576:=(Nat.le_trans (@j0u y9 y10 a[i].1.2.2.2.2.2.2.2) (Nat.le_trans (@j05 y8 y11 a[i].1.2.2.2.2.2.2) (Nat.le_trans (@j05 .str y12 a[i].1.2.2.2.2.2) (Nat.le_trans (@j05 (.int .i64) y13 a[i].1.2.2.2.2) (Nat.le_trans (@j05 y3 y14 a[i].1.2.2.2) (Nat.le_trans (@j05 y3 y15 a[i].1.2.2) (Nat.le_trans (@j05 .str y16 a[i].1.2) (Nat.le_trans (@j05 (.int .i64) y17 a[i].1) (Nat.le_trans (@j0u y18 y19 a[i]) (j1Q h (List.getElem_mem hi)))))))))))
  have hr4:msr y9 a[i].2.1<=1048576:=(Nat.le_trans (@j0u y9 y9 a[i].2) (Nat.le_trans (@j05 y18 y19 a[i]) (j1Q h (List.getElem_mem hi))))
  have hr5:msr y9 a[i].2.2<=1048576:=(Nat.le_trans (@j05 y9 y9 a[i].2) (Nat.le_trans (@j05 y18 y19 a[i]) (j1Q h (List.getElem_mem hi))))
  show j0X _ _ _ _ _ _=_
  dsimp only
  unfold j0X
  have hi':i<l.length:=by omega
  simp (disch:=first | assumption | omega) only [Z9q,j08,cond_true,cond_false,Z9a,hgi,j2b,j1q,j3F,j57,j2a,j3G,j1u,j2e,j1t,j2f,Int.natCast_add,Int.natCast_one,<-Int.add_assoc,j03,j1V,Z9o,Z8U,beq_self_eq_true,Bool.not_true,Z8I,jf0,jdt,jf1]
  all_goals (congr 2;omega)) (λk rec=>by
  show j0X _ _ _ _ _ _=_
  dsimp only
  unfold j0X
  rw [<-hll,Z9p,cond_false])
 exact this
end Go.PI.G
namespace Go.PI.G
open Go Go.PI Go.Proofs
theorem jag (a:Int×Int×List (qS×List ByteArray×List ByteArray)) (h:msr y23 a<=1048576) (k:Bool->Res):j20 a a k=k true:=by
 have h2:msr y21 a.2.2<=1048576:=(Nat.le_trans (@j05 (.int .i64) y21 a.2) (Nat.le_trans (@j05 (.int .i64) y22 a) h))
 unfold j20
 simp only [Z9o,Z8U,beq_self_eq_true,cond_false,Bool.not_true,jft _ h2]
theorem jeG (a:Int×Int×List (qS×List ByteArray×List ByteArray)) (k:Int) (h:msr y23 a<=1048576) (h0:1<=k) (hk:k+(j2n y23 a:Int)<=4294967296) (K:Int->(Int×Int×List (qS×List ByteArray×List ByteArray))->Res):j4f a k K=K (k+(j2n y23 a:Int)) (mkT y23 a k):=by
 have h2:msr y21 a.2.2<=1048576:=(Nat.le_trans (@j05 (.int .i64) y21 a.2) (Nat.le_trans (@j05 (.int .i64) y22 a) h))
 have g0:msr y21 a.2.2<=1048576:=(Nat.le_trans (@j05 (.int .i64) y21 a.2) (Nat.le_trans (@j05 (.int .i64) y22 a) h))
 have w0:j2n y21 a.2.2=wgt y21 a.2.2:=rfl
 have hw:j2n y23 a=wgt y21 a.2.2:=by first | rfl | (simp only [j1E,w0,j39,j28,j3a,Nat.zero_add,Nat.add_zero];done) | (simp only [j1E,w0,j39,j28,j3a,Nat.zero_add,Nat.add_zero];omega)
 unfold j4f
 simp (disch:=first | assumption | omega) only [jeI]
 first | rfl | (simp only [j7T (.int .i64) y22,j1E (.int .i64) y22,j7T (.int .i64) y21,j1E (.int .i64) y21,j8h,ja3,j99,ja4,w0,j39,j28,j3a,Int.natCast_add,Int.natCast_zero,Int.cast_ofNat_Int,Nat.zero_add,Nat.add_zero,Int.add_zero,<-Int.add_assoc];done) | (simp only [j7T (.int .i64) y22,j1E (.int .i64) y22,j7T (.int .i64) y21,j1E (.int .i64) y21,j8h,ja3,j99,ja4,w0,j39,j28,j3a,Int.natCast_add,Int.natCast_zero,Int.cast_ofNat_Int,Nat.zero_add,Nat.add_zero,Int.add_zero,<-Int.add_assoc];rfl)
theorem jaV (a:Int×Int×List (qS×List ByteArray×List ByteArray)) (k:Int) (h:msr y23 a<=1048576) (h0:1<=k) (hk:k+(j2n y23 a:Int)<=4294967296) (K:Int->Res):j2P (mkT y23 a k) k K=K (k+(j2n y23 a:Int)):=by
 have h2:msr y21 a.2.2<=1048576:=(Nat.le_trans (@j05 (.int .i64) y21 a.2) (Nat.le_trans (@j05 (.int .i64) y22 a) h))
 have g0:msr y21 a.2.2<=1048576:=(Nat.le_trans (@j05 (.int .i64) y21 a.2) (Nat.le_trans (@j05 (.int .i64) y22 a) h))
 have w0:j2n y21 a.2.2=wgt y21 a.2.2:=rfl
 have hw:j2n y23 a=wgt y21 a.2.2:=by first | rfl | (simp only [j1E,w0,j39,j28,j3a,Nat.zero_add,Nat.add_zero];done) | (simp only [j1E,w0,j39,j28,j3a,Nat.zero_add,Nat.add_zero];omega)
 unfold j2P
 simp (disch:=first | assumption | omega) only [j7T (.int .i64) y22,j1E (.int .i64) y22,j7T (.int .i64) y21,j1E (.int .i64) y21,j8h,ja3,j99,ja4,w0,j39,j28,j3a,Int.natCast_add,Int.natCast_zero,Int.cast_ofNat_Int,Nat.zero_add,Nat.add_zero,Int.add_zero,<-Int.add_assoc,jeD,Z8I,cond_false]
 all_goals (repeat (show (bif decide (_<(0:Int)) then _ else _)=_;rw [Z8I (by omega),cond_false]))
 all_goals first | done | rfl | (congr 1;omega)
end Go.PI.G
namespace Go.PI.G
open Go Go.PI Go.Proofs
theorem jfN (a:(List Int)) (h:msr y0 a<=1048576) (k:(List Int)->Res):j7a a k=k a:=by
 have hl:a.length<=1048576:=j1P h
 unfold j7a
 rw [Z97 (by unfold LIM;omega),cond_true]
 have:=Z9e (0) a id (step:=j62 a) (λout=>k out) (by unfold LIM;omega) (λout i rec hi hlo=>by
  show j2y a _ _ _ _=_
  unfold j2y
  dsimp only
  simp only [Z9q hi,cond_true,j08 hi,j08 (show i<out.length by omega),Z9a _ _ _ hi,Z9h,j03 (n:=(i:Int)+1) (by omega)]
  rfl) (λout rec=>by
  show j2y a _ _ _ _=_
  unfold j2y
  dsimp only
  rw [Z9p,cond_false])
 rw [List.map_id] at this
 exact this
theorem jfM (a:(List Int)) (left:Int) (h0:0<=left) (h1:left<=1048576) (hw:Wf y0 a) (k:Int->Res):j79 a left k=k (szR left (msr y0 a)):=by
 have hl:a.length<=maxLen:=hw.1
 have hm:msr y0 a=a.length+0:=by
  have:∀ l:List Int,(l.map (msr (.int .u8))).sum=0:=λl=>by
   induction l with
   | nil=>rfl
   | cons x l ih=>simpa [msr] using ih
  rw [jdR,this]
 rw [hm]
 unfold j79
 exact jhd h0 h1 hl λhb=>jgh (by omega)
theorem jfr (a:(List Int)) (h:msr y0 a<=1048576) (k:Bool->Res):j73 a a k=k true:=by
 have hl:a.length<=1048576:=j1P h
 unfold j73
 rw [Z9o,cond_false]
 unfold j74
 rw [Z93 a _ (by unfold LIM;omega) (λi rec hi=> ?_) (λrec=> ?_)]
 ·show j2q a a _ _ _ _=_
  unfold j2q
  simp only [Z9q hi,cond_true,j08 hi,Z9a _ _ _ hi,j03 (n:=(i:Int)+1) (by omega),Z9o,Z8U,cond_false,Bool.not_true]
 ·show j2q a a _ _ _ _=_
  unfold j2q
  rw [Z9p,cond_false]
theorem jeH (a:(List Int)) (k:Int) (h:msr y0 a<=1048576) (h0:1<=k) (hk:k+(wgt y0 a:Int)<=4294967296) (K:Int->(List Int)->Res):j5L a k K=K (k+(wgt y0 a:Int)) (mkL (wgt (.int .u8)) (mk (.int .u8)) a k):=by
 have hl:a.length<=1048576:=j1P h
 have hwg:wgt y0 a=(a.map (wgt (.int .u8))).sum:=rfl
 rw [hwg] at hk ⊢
 unfold j5L j60
 have:=Z8D (wgt (.int .u8)) (mk (.int .u8)) a k (λl k i=>(l,k,i)) (step:=j50) (λl k=>K k l) (λl k=>K k l) (by unfold LIM;omega) (λl i rec hi hll hli hla=>by
  have e1:=Z6s (wgt (.int .u8)) a i hi
  have e2:=Z8p (wgt (.int .u8)) a (i+1)
  generalize hκ:k+((((a.take i).map (wgt (.int .u8))).sum:Nat):Int)=κ
  have hκ1:1<=κ/\κ+(wgt (.int .u8) a[i]:Int)<=4294967296:=by omega
  have hw:(wgt (.int .u8) a[i]:Int)=1:=by
   have:wgt (.int .u8) a[i]=1:=by first | rfl | (simp only [wgt];done) | (simp only [wgt];omega)
   first | rfl | omega
  show j1J _ _ _ _ _=_
  dsimp only
  unfold j1J
  rw [<-hll] at hi
  have hi':i<a.length:=by omega
  simp (disch:=first | assumption | omega) only [show nI a.length=nI l.length by rw [hll],Z9q,j08,ja9,cond_true,ja5,jaa,Z9a,hla,j03,j1V,<-hll]
  rw [Z9h]
  congr 3<;>first | rfl | omega | (simp only [j2b,j1q,j3F,j57,j2a,j3G,j1u,j2e,j1t,j2f,Int.natCast_add,Int.natCast_one,<-Int.add_assoc];done) | (simp only [j2b,j1q,j3F,j57,j2a,j3G,j1u,j2e,j1t,j2f,Int.natCast_add,Int.natCast_one,<-Int.add_assoc];rfl) | skip) (λl k rec hll=>by
  show j1J _ _ _ _ _=_
  dsimp only
  unfold j1J
  rw [<-hll,Z9p,cond_false])
 exact this
end Go.PI.G
namespace Go.PI.G
open Go Go.PI Go.Proofs
theorem j9B (a:List Int) (h:msr y0 a<=1048576) (k:(List Int)->Res):j1U a k=k a:=by
 have h0:msr y0 a<=1048576:=h
 unfold j1U
 simp only [jfN _ h0]
theorem jgg (a:List Int) (left:Int) (h0:0<=left) (h1:left<=1048576) (hw:Wf y0 a) (k:Int->Res):j6i a left k=k (szR left (msr y0 a)):=by
 have hm:msr y0 a=msr y0 a+0:=rfl
 rw [hm]
 unfold j6i
 rw [jfM _ _ (by omega) (by omega) hw]
 by_cases hb0:((msr y0 a:Nat):Int)<=left
 rotate_left
 ·rw [Z9b hb0,Z8X hb0,Z8J (by omega),cond_true]
 rw [Z9c hb0,Z8W hb0,Z8I (by omega),cond_false]
 exact jgh (by omega)
theorem jfW (a:List Int) (h:msr y0 a<=1048576) (k:Bool->Res):j6g a a k=k true:=by
 have h0:msr y0 a<=1048576:=h
 unfold j6g
 simp only [Z9o,Z8U,beq_self_eq_true,cond_false,Bool.not_true,jfr _ h0]
theorem jf6 (a:List Int) (k:Int) (h:msr y0 a<=1048576) (h0:1<=k) (hk:k+(j2n y0 a:Int)<=4294967296) (K:Int->(List Int)->Res):j4P a k K=K (k+(j2n y0 a:Int)) (mkT y0 a k):=by
 have h0:msr y0 a<=1048576:=h
 have g0:msr y0 a<=1048576:=h
 have w0:j2n y0 a=wgt y0 a:=rfl
 have hw:j2n y0 a=wgt y0 a:=by first | rfl | (simp only [j1E,w0,j39,j28,j3a,Nat.zero_add,Nat.add_zero];done) | (simp only [j1E,w0,j39,j28,j3a,Nat.zero_add,Nat.add_zero];omega)
 unfold j4P
 simp (disch:=first | assumption | omega) only [jeH]
 first | rfl | (simp only [j8h,ja3,j99,ja4,w0,j39,j28,j3a,Int.natCast_add,Int.natCast_zero,Int.cast_ofNat_Int,Nat.zero_add,Nat.add_zero,Int.add_zero,<-Int.add_assoc];done) | (simp only [j8h,ja3,j99,ja4,w0,j39,j28,j3a,Int.natCast_add,Int.natCast_zero,Int.cast_ofNat_Int,Nat.zero_add,Nat.add_zero,Int.add_zero,<-Int.add_assoc];rfl)
end Go.PI.G
namespace Go.PI.G
open Go Go.PI Go.Proofs
theorem jg2 (l:List Int):msr (.slice (.int .u8)) l=l.length:=by
 have h1:msr (.slice (.int .u8)) l=l.length+(l.map (msr (.int .u8))).sum:=rfl
 have h2:∀ l:List Int,(l.map (msr (.int .u8))).sum=0:=by
  intro l
  induction l with
  | nil=>rfl
  | cons x l ih=>
   simp only [List.map_cons,List.sum_cons]
   rw [ih];rfl
 rw [h1,h2];rfl
theorem jhe {l:List Int} (h:Wf (.slice (.int .u8)) l):isB l:=λx hx=>by
 have:=h.2 x hx
 have h2:IntKind.u8.min=0:=by decide
 have h3:IntKind.u8.max=255:=by decide
 simp only [Wf,Lit.wf,h2,h3,Bool.and_eq_true,decide_eq_true_eq] at this
 omega
theorem jg3 {l:List ByteArray} (h:j1v l=true):msr (.slice .str) l<=72:=by
 obtain ⟨h1,h2⟩:=j3b h
 have:=j7U (e:= .str) 8 l (λw hw=>(j0S (h2 w hw)).2)
 omega
theorem jgw {p:PT} (h:j3h p=true):msr yPT p<=1244:=by
 obtain ⟨h1,h2,h3⟩:=j1W h
 have a1:=jgW h1
 have a2:=jg3 h2
 have a3:=jg3 h3
 show msr yST p.1+(msr (.slice .str) p.2.1+msr (.slice .str) p.2.2)<=1244
 omega
theorem jgV {x:BT} (h:j1F x=true):msr yBT x<=74700:=by
 obtain ⟨h1,h2⟩:=j2F h
 have:=j7U (e:=yPT) 1244 x.2.2 (λp hp=>jgw (h2 p hp))
 have h3:=Nat.mul_le_mul_right 1245 h1.2.2.2.2
 show 0+(0+msr (.slice yPT) x.2.2)<=74700
 omega
theorem jh0 (b:List Int):msr yBT (prd b).1<=1048576:=by
 rcases jg8 b with h | h
 ·have:=jgV h.1;omega
 ·rw [h];exact Nat.zero_le _
theorem jfO (x0:List Int) (w0:Wf (.slice (.int .u8)) x0) (k:Bool->Res):j1p x0 k=k true:=by
 have hb:=jhe w0
 unfold j1p
 rw [jgg x0 1048576 (by omega) (by omega) w0]
 by_cases hn:((msr (.slice (.int .u8)) x0:Nat):Int)<=1048576
 rotate_left
 ·rw [Z9b hn];rfl
 have hm:msr (.slice (.int .u8)) x0<=1048576:=by omega
 have hl:x0.length<=1048576:=by rw [<-jg2 x0];exact hm
 rw [Z9c hn,decide_eq_false (by omega),cond_false,j9B x0 hm,jh4 x0 hb hl,j9B x0 hm,jfe x0 hb hl]
 have hq:=jh0 x0
 generalize hr:prd x0=r at hq
 obtain ⟨l,ok⟩:=r
 have hbb:∀ x:Bool,(x==x)=true:=by decide
 dsimp only at hq ⊢
 have e0:=je3 (τ:= .slice (.int .u8)) (by decide) hm
 have e0':=j8d (.slice (.int .u8)) x0
 have e3:=je3 (τ:=yBT) (by decide) hq
 have e3':=j8d yBT l
 have k0:(1:Int)+((j2n (.slice (.int .u8)) x0:Nat):Int)<=4294967296:=by omega
 have k3:(1:Int)+((j2n yBT l:Nat):Int)<=4294967296:=by omega
 rw [jag _ hq,Bool.not_true,cond_false,hbb,Bool.not_true,cond_false,j9B x0 hm,jfW x0 hm,Bool.not_true,cond_false,jf6 x0 1 hm (by omega) k0,decide_eq_false (by omega),cond_false,jag _ hq,Bool.not_true,cond_false,cond_false]
 unfold j0T
 rw [jeG _ 1 hq (by omega) k3,jaV _ 1 hq (by omega) k3,decide_eq_false (by omega),cond_false,Z9o,cond_false,j9B x0 hm,jfe x0 hb hl,hr]
 dsimp only
 rw [jag _ hq,Bool.not_true,cond_false,hbb,Bool.not_true,cond_false,jaV _ 1 hq (by omega) k3,decide_eq_false (by omega),cond_false,Z9o,cond_false]
end Go.PI.G
