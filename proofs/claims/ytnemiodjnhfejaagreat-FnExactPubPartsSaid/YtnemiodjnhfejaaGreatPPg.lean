/-
  Program's code interpreted over typed values; printed texts; plain laws. No conditions.
-/
import Derived.Test.YtnemiodjnhfejaaGreatPPf
import Derived.Test.YtnemiodjnhfejaaGreatPPd
import Derived.Test.YtnemiodjnhfejaaGreatPPe
set_option linter.unusedVariables false
set_option linter.unusedSimpArgs false
set_option maxRecDepth 10000
namespace Go.PI.G
open Go Go.PI Go.Proofs
theorem jaM (a:qW) (h:msr y3 a<=1048576) (k:qW->Res):j3m a k=k a:=by
 have hl:a.length<=1048576:=j0g h
 unfold j3m
 rw [Zaw (by unfold LIM;omega),cond_true]
 have:=ZaD ((0,0,eS)) a id (step:=j4D a) (λout=>k out) (by unfold LIM;omega) (λout i rec hi hlo=>by
  show j1X a _ _ _ _=_
  unfold j1X
  dsimp only
  simp only [ZaR hi,cond_true,j04 hi,j04 (show i<out.length by omega),Zaz _ _ _ hi,ZaG,j03 (n:=(i:Int)+1) (by omega),jbF _ (j0h h (List.getElem_mem hi))]
  rfl) (λout rec=>by
  show j1X a _ _ _ _=_
  unfold j1X
  dsimp only
  rw [ZaQ,cond_false])
 rw [List.map_id] at this
 exact this
theorem jaL (a:qW) (left:Int) (h0:0<=left) (h1:left<=1048576) (hw:Wf y3 a) (k:Int->Res):j3k a left k=k (szR left (msr y3 a)):=by
 have hl:a.length<=maxLen:=hw.1
 have hm:msr y3 a=a.length+(a.map (msr y2)).sum:=rfl
 rw [hm]
 unfold j3k
 refine ja6 (F:=λq=>j3Y a Z1d q 0 (λleft1=>k left1) (λ_=>k (-1))) (k:=k) h0 h1 hl λhb=> ?_
 unfold j3Y
 rw [ZaC (msr y2) a _ (by omega) (λleft i rec hi h0 h1=> ?_) (λleft rec=> ?_) _ (by omega) (by omega)]
 ·by_cases hb:(((a.map (msr y2)).sum:Nat):Int)<=left-a.length
  ·rw [if_pos hb,ZaB hb]
  ·rw [if_neg hb,ZaA hb]
 ·show j1V a _ _ _ _ _=_
  have hx:=hw.2 _ (List.getElem_mem hi)
  unfold j1V
  rw [ZaR hi,cond_true,j04 hi,cond_true,Zaz _ _ _ hi,jbE _ _ h0 h1 hx]
  have hi9:(i:Int)<4611686018427387904:=by unfold maxLen at hl;omega
  rw [j03 (n:=(i:Int)+1) (by omega)]
  by_cases hb:((msr y2 a[i]:Nat):Int)<=left
  ·rw [if_pos hb,ZaB hb,Za5 (by omega),cond_false]
  ·rw [if_neg hb,ZaA hb,Za6 (by omega),cond_true]
 ·show j1V a _ _ _ _ _=_
  unfold j1V
  rw [ZaQ,cond_false]
theorem jaD (a:qW) (h:msr y3 a<=1048576) (k:Bool->Res):j3i a a k=k true:=by
 have hl:a.length<=1048576:=j0g h
 unfold j3i
 rw [ZaP,cond_false]
 unfold j5G
 rw [Zas a _ (by unfold LIM;omega) (λi rec hi=> ?_) (λrec=> ?_)]
 ·show j1Q a a _ _ _ _=_
  unfold j1Q
  simp only [ZaR hi,cond_true,j04 hi,Zaz _ _ _ hi,j03 (n:=(i:Int)+1) (by omega),ZaP,Zaj,cond_false,Bool.not_true,jbr _ (j0h h (List.getElem_mem hi))]
 ·show j1Q a a _ _ _ _=_
  unfold j1Q
  rw [ZaQ,cond_false]
theorem jbO (a:qW) (k:Int) (h:msr y3 a<=1048576) (h0:1<=k) (hk:k+(wgt y3 a:Int)<=4294967296) (K:Int->qW->Res):j2f a k K=K (k+(wgt y3 a:Int)) (mkL (wgt y2) (mk y2) a k):=by
 have hl:a.length<=1048576:=j0g h
 have hwg:wgt y3 a=(a.map (wgt y2)).sum:=rfl
 rw [hwg] at hk ⊢
 unfold j2f j4B
 have:=Za0 (wgt y2) (mk y2) a k (λl k i=>(l,k,i)) (step:=j3C) (λl k=>K k l) (λl k=>K k l) (by unfold LIM;omega) (λl i rec hi hll hli hla=>by
  have e1:=Z7C (wgt y2) a i hi
  have e2:=Z9M (wgt y2) a (i+1)
  generalize hκ:k+((((a.take i).map (wgt y2)).sum:Nat):Int)=κ
  have hκ1:1<=κ/\κ+(wgt y2 a[i]:Int)<=4294967296:=by omega
  have hw:(wgt y2 a[i]:Int)=1+1+1:=by
   have:wgt y2 a[i]=1+1+1:=by first | rfl | (simp only [wgt];done) | (simp only [wgt];omega)
   first | rfl | omega
  show j1h _ _ _ _ _=_
  dsimp only
  unfold j1h
  rw [<-hll] at hi
  have hi':i<a.length:=by omega
  simp (disch:=first | assumption | omega) only [show nI a.length=nI l.length by rw [hll],ZaR,j04,j8Y,cond_true,j8X,j8Z,Zaz,hla,j03,j1L,<-hll]
  rw [ZaG]
  congr 3<;>first | rfl | omega | (simp only [j2h,j1p,j3d,j4r,j2g,j3e,j1v,j2j,j1u,j2k,Int.natCast_add,Int.natCast_one,<-Int.add_assoc];done) | (simp only [j2h,j1p,j3d,j4r,j2g,j3e,j1v,j2j,j1u,j2k,Int.natCast_add,Int.natCast_one,<-Int.add_assoc];rfl) | skip) (λl k rec hll=>by
  show j1h _ _ _ _ _=_
  dsimp only
  unfold j1h
  rw [<-hll,ZaQ,cond_false])
 exact this
theorem jbJ (a:qW) (k:Int) (h:msr y3 a<=1048576) (h0:1<=k) (hk:k+(wgt y3 a:Int)<=4294967296) (K:Int->Res):j2e (mkL (wgt y2) (mk y2) a k) k K=K (k+(wgt y3 a:Int)):=by
 have hl:a.length<=1048576:=j0g h
 have hwg:wgt y3 a=(a.map (wgt y2)).sum:=rfl
 rw [hwg] at hk ⊢
 have hll:=Z6t (wgt y2) (mk y2) a k
 have hg:=Zav (wgt y2) (mk y2) a k
 generalize mkL (wgt y2) (mk y2) a k=l at hll hg
 unfold j2e j4y
 have:=Z9X (wgt y2) a k (λk i=>(k,i)) (step:=j3A l) ((λ(k_1:Int)=>K k_1),(λ(_:Unit)=>K (-1))) (λk=>K k) (by unfold LIM;omega) (λi rec hi=>by
  have e1:=Z7C (wgt y2) a i hi
  have e2:=Z9M (wgt y2) a (i+1)
  have hgi:=hg i hi (by omega)
  generalize hκ:k+((((a.take i).map (wgt y2)).sum:Nat):Int)=κ at hgi
  have hκ1:1<=κ/\κ+(wgt y2 a[i]:Int)<=4294967296:=by omega
  have hw:(wgt y2 a[i]:Int)=1+1+1:=by
   have:wgt y2 a[i]=1+1+1:=by first | rfl | (simp only [wgt];done) | (simp only [wgt];omega)
   first | rfl | omega
  show j1f _ _ _ _ _ _=_
  dsimp only
  unfold j1f
  have hi':i<l.length:=by omega
  simp (disch:=first | assumption | omega) only [ZaR,j04,cond_true,cond_false,Zaz,hgi,j2h,j1p,j3d,j4r,j2g,j3e,j1v,j2j,j1u,j2k,Int.natCast_add,Int.natCast_one,<-Int.add_assoc,j03,j1L,ZaP,Zaj,beq_self_eq_true,Bool.not_true,Za5]
  all_goals (congr 2;omega)) (λk rec=>by
  show j1f _ _ _ _ _ _=_
  dsimp only
  unfold j1f
  rw [<-hll,ZaQ,cond_false])
 exact this
end Go.PI.G
namespace Go.PI.G
open Go Go.PI Go.Proofs
theorem jda (a:List qV) (h:msr y3 a<=1048576) (k:qW->Res):j57 a k=k a:=by
 have h0:msr y3 a<=1048576:=h
 unfold j57
 simp only [jaM _ h0]
theorem jd4 (a:List qV) (left:Int) (h0:0<=left) (h1:left<=1048576) (hw:Wf y3 a) (k:Int->Res):j54 a left k=k (szR left (msr y3 a)):=by
 have hm:msr y3 a=msr y3 a+0:=rfl
 rw [hm]
 unfold j54
 rw [jaL _ _ (by omega) (by omega) hw]
 by_cases hb0:((msr y3 a:Nat):Int)<=left
 rotate_left
 ·rw [ZaA hb0,Zam hb0,Za6 (by omega),cond_true]
 rw [ZaB hb0,Zal hb0,Za5 (by omega),cond_false]
 exact j60 (by omega)
theorem jcS (a:List qV) (h:msr y3 a<=1048576) (k:Bool->Res):j50 a a k=k true:=by
 have h0:msr y3 a<=1048576:=h
 unfold j50
 simp only [ZaP,Zaj,beq_self_eq_true,cond_false,Bool.not_true,jaD _ h0]
end Go.PI.G
namespace Go.PI.G
open Go Go.PI Go.Proofs
theorem jcK (a:Int×ByteArray×qW×qW×Int×ByteArray×qE×List ByteArray×ByteArray×ByteArray) (h:msr y17 a<=1048576) (k:qS->Res):j3l a k=k a:=by
 have h2:msr y3 a.2.2.1<=1048576:=(Nat.le_trans (@j09 y3 y14 a.2.2) (Nat.le_trans (@j01 .str y15 a.2) (Nat.le_trans (@j01 (.int .i64) y16 a) h)))
 have h3:msr y3 a.2.2.2.1<=1048576:=(Nat.le_trans (@j09 y3 y13 a.2.2.2) (Nat.le_trans (@j01 y3 y14 a.2.2) (Nat.le_trans (@j01 .str y15 a.2) (Nat.le_trans (@j01 (.int .i64) y16 a) h))))
 have h4:msr y13 a.2.2.2.2<=1048576:=(Nat.le_trans (@j01 y3 y13 a.2.2.2) (Nat.le_trans (@j01 y3 y14 a.2.2) (Nat.le_trans (@j01 .str y15 a.2) (Nat.le_trans (@j01 (.int .i64) y16 a) h))))
 unfold j3l
 simp only [jaM _ h2,jda _ h3,jd9 _ h4]
theorem jcH (a:Int×ByteArray×qW×qW×Int×ByteArray×qE×List ByteArray×ByteArray×ByteArray) (left:Int) (h0:0<=left) (h1:left<=1048576) (hw:Wf y17 a) (k:Int->Res):j3j a left k=k (szR left (msr y17 a)):=by
 have hm:msr y17 a=ByteArray.size a.2.1+(msr y3 a.2.2.1+(msr y3 a.2.2.2.1+(msr y13 a.2.2.2.2+0))):=by simp only [msr];omega
 rw [hm]
 unfold j3j
 have hx0:ByteArray.size a.2.1<=maxLen:=hw.2.1
 unfold maxLen at hx0
 rw [j03 (by unfold nI;omega)]
 by_cases hb0:((ByteArray.size a.2.1:Nat):Int)<=left
 rotate_left
 ·rw [Zam hb0,Za6 (by unfold nI;omega),cond_true]
 rw [Za5 (by unfold nI;omega),cond_false,Zal hb0,show left-nI (ByteArray.size a.2.1)=left-((ByteArray.size a.2.1:Nat):Int) from rfl]
 rw [jaL _ _ (by omega) (by omega) hw.2.2.1]
 by_cases hb1:((msr y3 a.2.2.1:Nat):Int)<=left-(ByteArray.size a.2.1:Nat)
 rotate_left
 ·rw [ZaA hb1,Zam hb1,Za6 (by omega),cond_true]
 rw [ZaB hb1,Zal hb1,Za5 (by omega),cond_false]
 rw [jd4 _ _ (by omega) (by omega) hw.2.2.2.1]
 by_cases hb2:((msr y3 a.2.2.2.1:Nat):Int)<=left-(ByteArray.size a.2.1:Nat)-(msr y3 a.2.2.1:Nat)
 rotate_left
 ·rw [ZaA hb2,Zam hb2,Za6 (by omega),cond_true]
 rw [ZaB hb2,Zal hb2,Za5 (by omega),cond_false]
 rw [jd1 _ _ (by omega) (by omega) hw.2.2.2.2]
 by_cases hb3:((msr y13 a.2.2.2.2:Nat):Int)<=left-(ByteArray.size a.2.1:Nat)-(msr y3 a.2.2.1:Nat)-(msr y3 a.2.2.2.1:Nat)
 rotate_left
 ·rw [ZaA hb3,Zam hb3,Za6 (by omega),cond_true]
 rw [ZaB hb3,Zal hb3,Za5 (by omega),cond_false]
 exact j60 (by omega)
theorem jcx (a:Int×ByteArray×qW×qW×Int×ByteArray×qE×List ByteArray×ByteArray×ByteArray) (h:msr y17 a<=1048576) (k:Bool->Res):j3h a a k=k true:=by
 have h2:msr y3 a.2.2.1<=1048576:=(Nat.le_trans (@j09 y3 y14 a.2.2) (Nat.le_trans (@j01 .str y15 a.2) (Nat.le_trans (@j01 (.int .i64) y16 a) h)))
 have h3:msr y3 a.2.2.2.1<=1048576:=(Nat.le_trans (@j09 y3 y13 a.2.2.2) (Nat.le_trans (@j01 y3 y14 a.2.2) (Nat.le_trans (@j01 .str y15 a.2) (Nat.le_trans (@j01 (.int .i64) y16 a) h))))
 have h4:msr y13 a.2.2.2.2<=1048576:=(Nat.le_trans (@j01 y3 y13 a.2.2.2) (Nat.le_trans (@j01 y3 y14 a.2.2) (Nat.le_trans (@j01 .str y15 a.2) (Nat.le_trans (@j01 (.int .i64) y16 a) h))))
 unfold j3h
 simp only [ZaP,Zaj,beq_self_eq_true,cond_false,Bool.not_true,jaD _ h2,jcS _ h3,jcQ _ h4]
end Go.PI.G
namespace Go.PI.G
open Go Go.PI Go.Proofs
theorem jcJ (a:qS×List ByteArray×List ByteArray) (h:msr y19 a<=1048576) (k:(qS×List ByteArray×List ByteArray)->Res):j4n a k=k a:=by
 have h0:msr y17 a.1<=1048576:=(Nat.le_trans (@j09 y17 y18 a) h)
 have h1:msr y0 a.2.1<=1048576:=(Nat.le_trans (@j09 y0 y0 a.2) (Nat.le_trans (@j01 y17 y18 a) h))
 have h2:msr y0 a.2.2<=1048576:=(Nat.le_trans (@j01 y0 y0 a.2) (Nat.le_trans (@j01 y17 y18 a) h))
 unfold j4n
 simp only [jcK _ h0,j5o _ h1,j5o _ h2]
theorem jcG (a:qS×List ByteArray×List ByteArray) (left:Int) (h0:0<=left) (h1:left<=1048576) (hw:Wf y19 a) (k:Int->Res):j4l a left k=k (szR left (msr y19 a)):=by
 have hm:msr y19 a=msr y17 a.1+(msr y0 a.2.1+(msr y0 a.2.2+0)):=by simp only [msr];omega
 rw [hm]
 unfold j4l
 rw [jcH _ _ (by omega) (by omega) hw.1]
 by_cases hb0:((msr y17 a.1:Nat):Int)<=left
 rotate_left
 ·rw [ZaA hb0,Zam hb0,Za6 (by omega),cond_true]
 rw [ZaB hb0,Zal hb0,Za5 (by omega),cond_false]
 rw [j5n _ _ (by omega) (by omega) hw.2.1]
 by_cases hb1:((msr y0 a.2.1:Nat):Int)<=left-(msr y17 a.1:Nat)
 rotate_left
 ·rw [ZaA hb1,Zam hb1,Za6 (by omega),cond_true]
 rw [ZaB hb1,Zal hb1,Za5 (by omega),cond_false]
 rw [j5n _ _ (by omega) (by omega) hw.2.2]
 by_cases hb2:((msr y0 a.2.2:Nat):Int)<=left-(msr y17 a.1:Nat)-(msr y0 a.2.1:Nat)
 rotate_left
 ·rw [ZaA hb2,Zam hb2,Za6 (by omega),cond_true]
 rw [ZaB hb2,Zal hb2,Za5 (by omega),cond_false]
 exact j60 (by omega)
theorem jcw (a:qS×List ByteArray×List ByteArray) (h:msr y19 a<=1048576) (k:Bool->Res):j4j a a k=k true:=by
 have h0:msr y17 a.1<=1048576:=(Nat.le_trans (@j09 y17 y18 a) h)
 have h1:msr y0 a.2.1<=1048576:=(Nat.le_trans (@j09 y0 y0 a.2) (Nat.le_trans (@j01 y17 y18 a) h))
 have h2:msr y0 a.2.2<=1048576:=(Nat.le_trans (@j01 y0 y0 a.2) (Nat.le_trans (@j01 y17 y18 a) h))
 unfold j4j
 simp only [ZaP,Zaj,beq_self_eq_true,cond_false,Bool.not_true,jcx _ h0,j4S _ h1,j4S _ h2]
end Go.PI.G
namespace Go.PI.G
open Go Go.PI Go.Proofs
theorem jcm (a:(List (qS×List ByteArray×List ByteArray))) (h:msr y20 a<=1048576) (k:(List (qS×List ByteArray×List ByteArray))->Res):j56 a k=k a:=by
 have hl:a.length<=1048576:=j0g h
 unfold j56
 rw [Zaw (by unfold LIM;omega),cond_true]
 have:=ZaD (((0,eS,[],[],0,eS,[],[],eS,eS),[],[])) a id (step:=j4d a) (λout=>k out) (by unfold LIM;omega) (λout i rec hi hlo=>by
  show j1F a _ _ _ _=_
  unfold j1F
  dsimp only
  simp only [ZaR hi,cond_true,j04 hi,j04 (show i<out.length by omega),Zaz _ _ _ hi,ZaG,j03 (n:=(i:Int)+1) (by omega),jcJ _ (j0h h (List.getElem_mem hi))]
  rfl) (λout rec=>by
  show j1F a _ _ _ _=_
  unfold j1F
  dsimp only
  rw [ZaQ,cond_false])
 rw [List.map_id] at this
 exact this
theorem jcl (a:(List (qS×List ByteArray×List ByteArray))) (left:Int) (h0:0<=left) (h1:left<=1048576) (hw:Wf y20 a) (k:Int->Res):j52 a left k=k (szR left (msr y20 a)):=by
 have hl:a.length<=maxLen:=hw.1
 have hm:msr y20 a=a.length+(a.map (msr y19)).sum:=rfl
 rw [hm]
 unfold j52
 refine ja6 (F:=λq=>j3u a Z1d q 0 (λleft1=>k left1) (λ_=>k (-1))) (k:=k) h0 h1 hl λhb=> ?_
 unfold j3u
 rw [ZaC (msr y19) a _ (by omega) (λleft i rec hi h0 h1=> ?_) (λleft rec=> ?_) _ (by omega) (by omega)]
 ·by_cases hb:(((a.map (msr y19)).sum:Nat):Int)<=left-a.length
  ·rw [if_pos hb,ZaB hb]
  ·rw [if_neg hb,ZaA hb]
 ·show j1E a _ _ _ _ _=_
  have hx:=hw.2 _ (List.getElem_mem hi)
  unfold j1E
  rw [ZaR hi,cond_true,j04 hi,cond_true,Zaz _ _ _ hi,jcG _ _ h0 h1 hx]
  have hi9:(i:Int)<4611686018427387904:=by unfold maxLen at hl;omega
  rw [j03 (n:=(i:Int)+1) (by omega)]
  by_cases hb:((msr y19 a[i]:Nat):Int)<=left
  ·rw [if_pos hb,ZaB hb,Za5 (by omega),cond_false]
  ·rw [if_neg hb,ZaA hb,Za6 (by omega),cond_true]
 ·show j1E a _ _ _ _ _=_
  unfold j1E
  rw [ZaQ,cond_false]
theorem jbY (a:(List (qS×List ByteArray×List ByteArray))) (h:msr y20 a<=1048576) (k:Bool->Res):j4X a a k=k true:=by
 have hl:a.length<=1048576:=j0g h
 unfold j4X
 rw [ZaP,cond_false]
 unfold j4Y
 rw [Zas a _ (by unfold LIM;omega) (λi rec hi=> ?_) (λrec=> ?_)]
 ·show j1x a a _ _ _ _=_
  unfold j1x
  simp only [ZaR hi,cond_true,j04 hi,Zaz _ _ _ hi,j03 (n:=(i:Int)+1) (by omega),ZaP,Zaj,cond_false,Bool.not_true,jcw _ (j0h h (List.getElem_mem hi))]
 ·show j1x a a _ _ _ _=_
  unfold j1x
  rw [ZaQ,cond_false]
theorem jbu (a:(List (qS×List ByteArray×List ByteArray))) (k:Int) (h:msr y20 a<=1048576) (h0:1<=k) (hk:k+(wgt y20 a:Int)<=4294967296) (K:Int->(List (qS×List ByteArray×List ByteArray))->Res):j3V a k K=K (k+(wgt y20 a:Int)) (mkL (wgt y19) (mk y19) a k):=by
 have hl:a.length<=1048576:=j0g h
 have hwg:wgt y20 a=(a.map (wgt y19)).sum:=rfl
 rw [hwg] at hk ⊢
 unfold j3V j4c
 have:=Za0 (wgt y19) (mk y19) a k (λl k i=>(l,k,i)) (step:=j26) (λl k=>K k l) (λl k=>K k l) (by unfold LIM;omega) (λl i rec hi hll hli hla=>by
  have e1:=Z7C (wgt y19) a i hi
  have e2:=Z9M (wgt y19) a (i+1)
  generalize hκ:k+((((a.take i).map (wgt y19)).sum:Nat):Int)=κ
  have hκ1:1<=κ/\κ+(wgt y19 a[i]:Int)<=4294967296:=by omega
  have hw:(wgt y19 a[i]:Int)=1+1+(wgt y3 a[i].1.2.2.1:Int)+(wgt y3 a[i].1.2.2.2.1:Int)+1+1+(wgt y8 a[i].1.2.2.2.2.2.2.1:Int)+(wgt y0 a[i].1.2.2.2.2.2.2.2.1:Int)+1+1+(wgt y0 a[i].2.1:Int)+(wgt y0 a[i].2.2:Int):=by
   have:wgt y19 a[i]=1+1+(wgt y3 a[i].1.2.2.1)+(wgt y3 a[i].1.2.2.2.1)+1+1+(wgt y8 a[i].1.2.2.2.2.2.2.1)+(wgt y0 a[i].1.2.2.2.2.2.2.2.1)+1+1+(wgt y0 a[i].2.1)+(wgt y0 a[i].2.2):=by first | rfl | (simp only [wgt];done) | (simp only [wgt];omega)
   first | rfl | omega
  have hr0:msr y3 a[i].1.2.2.1<=1048576:=(Nat.le_trans (@j09 y3 y14 a[i].1.2.2) (Nat.le_trans (@j01 .str y15 a[i].1.2) (Nat.le_trans (@j01 (.int .i64) y16 a[i].1) (Nat.le_trans (@j09 y17 y18 a[i]) (j0h h (List.getElem_mem hi))))))
  have hr1:msr y3 a[i].1.2.2.2.1<=1048576:=(Nat.le_trans (@j09 y3 y13 a[i].1.2.2.2) (Nat.le_trans (@j01 y3 y14 a[i].1.2.2) (Nat.le_trans (@j01 .str y15 a[i].1.2) (Nat.le_trans (@j01 (.int .i64) y16 a[i].1) (Nat.le_trans (@j09 y17 y18 a[i]) (j0h h (List.getElem_mem hi)))))))
  have hr2:msr y8 a[i].1.2.2.2.2.2.2.1<=1048576:=(Nat.le_trans (@j09 y8 y10 a[i].1.2.2.2.2.2.2) (Nat.le_trans (@j01 .str y11 a[i].1.2.2.2.2.2) (Nat.le_trans (@j01 (.int .i64) y12 a[i].1.2.2.2.2) (Nat.le_trans (@j01 y3 y13 a[i].1.2.2.2) (Nat.le_trans (@j01 y3 y14 a[i].1.2.2) (Nat.le_trans (@j01 .str y15 a[i].1.2) (Nat.le_trans (@j01 (.int .i64) y16 a[i].1) (Nat.le_trans (@j09 y17 y18 a[i]) (j0h h (List.getElem_mem hi))))))))))
  have hr3:msr y0 a[i].1.2.2.2.2.2.2.2.1<=1048576:=(Nat.le_trans (@j09 y0 y9 a[i].1.2.2.2.2.2.2.2) (Nat.le_trans (@j01 y8 y10 a[i].1.2.2.2.2.2.2) (Nat.le_trans (@j01 .str y11 a[i].1.2.2.2.2.2) (Nat.le_trans (@j01 (.int .i64) y12 a[i].1.2.2.2.2) (Nat.le_trans (@j01 y3 y13 a[i].1.2.2.2) (Nat.le_trans (@j01 y3 y14 a[i].1.2.2) (Nat.le_trans (@j01 .str y15 a[i].1.2) (Nat.le_trans (@j01 (.int .i64) y16 a[i].1) (Nat.le_trans (@j09 y17 y18 a[i]) (j0h h (List.getElem_mem hi)))))))))))
  have hr4:msr y0 a[i].2.1<=1048576:=(Nat.le_trans (@j09 y0 y0 a[i].2) (Nat.le_trans (@j01 y17 y18 a[i]) (j0h h (List.getElem_mem hi))))
  have hr5:msr y0 a[i].2.2<=1048576:=(Nat.le_trans (@j01 y0 y0 a[i].2) (Nat.le_trans (@j01 y17 y18 a[i]) (j0h h (List.getElem_mem hi))))
  show j0B _ _ _ _ _=_
  dsimp only
  unfold j0B j1y j1z j1A j1B j1C j1D
  rw [<-hll] at hi
  have hi':i<a.length:=by omega
  simp (disch:=first | assumption | omega) only [show nI a.length=nI l.length by rw [hll],ZaR,j04,j8Y,cond_true,j8X,j8Z,Zaz,hla,j03,j1L,jbN,j7F,jbO,<-hll]
  rw [ZaG]
  congr 3<;>first | rfl | omega | (simp only [j2h,j1p,j3d,j4r,j2g,j3e,j1v,j2j,j1u,j2k,Int.natCast_add,Int.natCast_one,<-Int.add_assoc];done) | (simp only [j2h,j1p,j3d,j4r,j2g,j3e,j1v,j2j,j1u,j2k,Int.natCast_add,Int.natCast_one,<-Int.add_assoc];rfl) | skip) (λl k rec hll=>by
  show j0B _ _ _ _ _=_
  dsimp only
  unfold j0B j1y j1z j1A j1B j1C j1D
  rw [<-hll,ZaQ,cond_false])
 exact this
theorem jbs (a:(List (qS×List ByteArray×List ByteArray))) (k:Int) (h:msr y20 a<=1048576) (h0:1<=k) (hk:k+(wgt y20 a:Int)<=4294967296) (K:Int->Res):j3U (mkL (wgt y19) (mk y19) a k) k K=K (k+(wgt y20 a:Int)):=by
 have hl:a.length<=1048576:=j0g h
 have hwg:wgt y20 a=(a.map (wgt y19)).sum:=rfl
 rw [hwg] at hk ⊢
 have hll:=Z6t (wgt y19) (mk y19) a k
 have hg:=Zav (wgt y19) (mk y19) a k
 generalize mkL (wgt y19) (mk y19) a k=l at hll hg
 unfold j3U j4b
 have:=Z9X (wgt y19) a k (λk i=>(k,i)) (step:=j25 l) ((λ(k_1:Int)=>K k_1),(λ(_:Unit)=>K (-1))) (λk=>K k) (by unfold LIM;omega) (λi rec hi=>by
  have e1:=Z7C (wgt y19) a i hi
  have e2:=Z9M (wgt y19) a (i+1)
  have hgi:=hg i hi (by omega)
  generalize hκ:k+((((a.take i).map (wgt y19)).sum:Nat):Int)=κ at hgi
  have hκ1:1<=κ/\κ+(wgt y19 a[i]:Int)<=4294967296:=by omega
  have hw:(wgt y19 a[i]:Int)=1+1+(wgt y3 a[i].1.2.2.1:Int)+(wgt y3 a[i].1.2.2.2.1:Int)+1+1+(wgt y8 a[i].1.2.2.2.2.2.2.1:Int)+(wgt y0 a[i].1.2.2.2.2.2.2.2.1:Int)+1+1+(wgt y0 a[i].2.1:Int)+(wgt y0 a[i].2.2:Int):=by
   have:wgt y19 a[i]=1+1+(wgt y3 a[i].1.2.2.1)+(wgt y3 a[i].1.2.2.2.1)+1+1+(wgt y8 a[i].1.2.2.2.2.2.2.1)+(wgt y0 a[i].1.2.2.2.2.2.2.2.1)+1+1+(wgt y0 a[i].2.1)+(wgt y0 a[i].2.2):=by first | rfl | (simp only [wgt];done) | (simp only [wgt];omega)
   first | rfl | omega
  have hr0:msr y3 a[i].1.2.2.1<=1048576:=(Nat.le_trans (@j09 y3 y14 a[i].1.2.2) (Nat.le_trans (@j01 .str y15 a[i].1.2) (Nat.le_trans (@j01 (.int .i64) y16 a[i].1) (Nat.le_trans (@j09 y17 y18 a[i]) (j0h h (List.getElem_mem hi))))))
  have hr1:msr y3 a[i].1.2.2.2.1<=1048576:=(Nat.le_trans (@j09 y3 y13 a[i].1.2.2.2) (Nat.le_trans (@j01 y3 y14 a[i].1.2.2) (Nat.le_trans (@j01 .str y15 a[i].1.2) (Nat.le_trans (@j01 (.int .i64) y16 a[i].1) (Nat.le_trans (@j09 y17 y18 a[i]) (j0h h (List.getElem_mem hi)))))))
  have hr2:msr y8 a[i].1.2.2.2.2.2.2.1<=1048576:=(Nat.le_trans (@j09 y8 y10 a[i].1.2.2.2.2.2.2) (Nat.le_trans (@j01 .str y11 a[i].1.2.2.2.2.2) (Nat.le_trans (@j01 (.int .i64) y12 a[i].1.2.2.2.2) (Nat.le_trans (@j01 y3 y13 a[i].1.2.2.2) (Nat.le_trans (@j01 y3 y14 a[i].1.2.2) (Nat.le_trans (@j01 .str y15 a[i].1.2) (Nat.le_trans (@j01 (.int .i64) y16 a[i].1) (Nat.le_trans (@j09 y17 y18 a[i]) (j0h h (List.getElem_mem hi))))))))))
  have hr3:msr y0 a[i].1.2.2.2.2.2.2.2.1<=1048576:=(Nat.le_trans (@j09 y0 y9 a[i].1.2.2.2.2.2.2.2) (Nat.le_trans (@j01 y8 y10 a[i].1.2.2.2.2.2.2) (Nat.le_trans (@j01 .str y11 a[i].1.2.2.2.2.2) (Nat.le_trans (@j01 (.int .i64) y12 a[i].1.2.2.2.2) (Nat.le_trans (@j01 y3 y13 a[i].1.2.2.2) (Nat.le_trans (@j01 y3 y14 a[i].1.2.2) (Nat.le_trans (@j01 .str y15 a[i].1.2) (Nat.le_trans (@j01 (.int .i64) y16 a[i].1) (Nat.le_trans (@j09 y17 y18 a[i]) (j0h h (List.getElem_mem hi)))))))))))
  have hr4:msr y0 a[i].2.1<=1048576:=(Nat.le_trans (@j09 y0 y0 a[i].2) (Nat.le_trans (@j01 y17 y18 a[i]) (j0h h (List.getElem_mem hi))))
  have hr5:msr y0 a[i].2.2<=1048576:=(Nat.le_trans (@j01 y0 y0 a[i].2) (Nat.le_trans (@j01 y17 y18 a[i]) (j0h h (List.getElem_mem hi))))
  show j0A _ _ _ _ _ _=_
  dsimp only
  unfold j0A
  have hi':i<l.length:=by omega
  simp (disch:=first | assumption | omega) only [ZaR,j04,cond_true,cond_false,Zaz,hgi,j2h,j1p,j3d,j4r,j2g,j3e,j1v,j2j,j1u,j2k,Int.natCast_add,Int.natCast_one,<-Int.add_assoc,j03,j1L,ZaP,Zaj,beq_self_eq_true,Bool.not_true,Za5,jbI,jaq,jbJ]
  all_goals (congr 2;omega)) (λk rec=>by
  show j0A _ _ _ _ _ _=_
  dsimp only
  unfold j0A
  rw [<-hll,ZaQ,cond_false])
 exact this
end Go.PI.G
namespace Go.PI.G
open Go Go.PI Go.Proofs
theorem j6w (a:Int×Int×List (qS×List ByteArray×List ByteArray)) (h:msr y22 a<=1048576) (k:(Int×Int×List (qS×List ByteArray×List ByteArray))->Res):j0e a k=k a:=by
 have h2:msr y20 a.2.2<=1048576:=(Nat.le_trans (@j01 (.int .i64) y20 a.2) (Nat.le_trans (@j01 (.int .i64) y21 a) h))
 unfold j0e
 simp only [jcm _ h2]
theorem jck (a:Int×Int×List (qS×List ByteArray×List ByteArray)) (left:Int) (h0:0<=left) (h1:left<=1048576) (hw:Wf y22 a) (k:Int->Res):j3D a left k=k (szR left (msr y22 a)):=by
 have hm:msr y22 a=msr y20 a.2.2+0:=by simp only [msr];omega
 rw [hm]
 unfold j3D
 rw [jcl _ _ (by omega) (by omega) hw.2.2]
 by_cases hb0:((msr y20 a.2.2:Nat):Int)<=left
 rotate_left
 ·rw [ZaA hb0,Zam hb0,Za6 (by omega),cond_true]
 rw [ZaB hb0,Zal hb0,Za5 (by omega),cond_false]
 exact j60 (by omega)
theorem j6q (a:Int×Int×List (qS×List ByteArray×List ByteArray)) (h:msr y22 a<=1048576) (k:Bool->Res):j0R a a k=k true:=by
 have h2:msr y20 a.2.2<=1048576:=(Nat.le_trans (@j01 (.int .i64) y20 a.2) (Nat.le_trans (@j01 (.int .i64) y21 a) h))
 unfold j0R
 simp only [ZaP,Zaj,beq_self_eq_true,cond_false,Bool.not_true,jbY _ h2]
theorem j8z (a:Int×Int×List (qS×List ByteArray×List ByteArray)) (k:Int) (h:msr y22 a<=1048576) (h0:1<=k) (hk:k+(j19 y22 a:Int)<=4294967296) (K:Int->(Int×Int×List (qS×List ByteArray×List ByteArray))->Res):j1N a k K=K (k+(j19 y22 a:Int)) (mkT y22 a k):=by
 have h2:msr y20 a.2.2<=1048576:=(Nat.le_trans (@j01 (.int .i64) y20 a.2) (Nat.le_trans (@j01 (.int .i64) y21 a) h))
 have g0:msr y20 a.2.2<=1048576:=(Nat.le_trans (@j01 (.int .i64) y20 a.2) (Nat.le_trans (@j01 (.int .i64) y21 a) h))
 have w0:j19 y20 a.2.2=wgt y20 a.2.2:=rfl
 have hw:j19 y22 a=wgt y20 a.2.2:=by first | rfl | (simp only [j11,w0,j21,j1k,j22,Nat.zero_add,Nat.add_zero];done) | (simp only [j11,w0,j21,j1k,j22,Nat.zero_add,Nat.add_zero];omega)
 unfold j1N
 simp (disch:=first | assumption | omega) only [jbu]
 first | rfl | (simp only [j5H (.int .i64) y21,j11 (.int .i64) y21,j5H (.int .i64) y20,j11 (.int .i64) y20,j5X,j7G,j6M,j7H,w0,j21,j1k,j22,Int.natCast_add,Int.natCast_zero,Int.cast_ofNat_Int,Nat.zero_add,Nat.add_zero,Int.add_zero,<-Int.add_assoc];done) | (simp only [j5H (.int .i64) y21,j11 (.int .i64) y21,j5H (.int .i64) y20,j11 (.int .i64) y20,j5X,j7G,j6M,j7H,w0,j21,j1k,j22,Int.natCast_add,Int.natCast_zero,Int.cast_ofNat_Int,Nat.zero_add,Nat.add_zero,Int.add_zero,<-Int.add_assoc];rfl)
theorem j8w (a:Int×Int×List (qS×List ByteArray×List ByteArray)) (k:Int) (h:msr y22 a<=1048576) (h0:1<=k) (hk:k+(j19 y22 a:Int)<=4294967296) (K:Int->Res):j1M (mkT y22 a k) k K=K (k+(j19 y22 a:Int)):=by
 have h2:msr y20 a.2.2<=1048576:=(Nat.le_trans (@j01 (.int .i64) y20 a.2) (Nat.le_trans (@j01 (.int .i64) y21 a) h))
 have g0:msr y20 a.2.2<=1048576:=(Nat.le_trans (@j01 (.int .i64) y20 a.2) (Nat.le_trans (@j01 (.int .i64) y21 a) h))
 have w0:j19 y20 a.2.2=wgt y20 a.2.2:=rfl
 have hw:j19 y22 a=wgt y20 a.2.2:=by first | rfl | (simp only [j11,w0,j21,j1k,j22,Nat.zero_add,Nat.add_zero];done) | (simp only [j11,w0,j21,j1k,j22,Nat.zero_add,Nat.add_zero];omega)
 unfold j1M
 simp (disch:=first | assumption | omega) only [j5H (.int .i64) y21,j11 (.int .i64) y21,j5H (.int .i64) y20,j11 (.int .i64) y20,j5X,j7G,j6M,j7H,w0,j21,j1k,j22,Int.natCast_add,Int.natCast_zero,Int.cast_ofNat_Int,Nat.zero_add,Nat.add_zero,Int.add_zero,<-Int.add_assoc,jbs,Za5,cond_false]
 all_goals (repeat (show (bif decide (_<(0:Int)) then _ else _)=_;rw [Za5 (by omega),cond_false]))
 all_goals first | done | rfl | (congr 1;omega)
end Go.PI.G
namespace Go.PI.G
open Go Go.PI Go.Proofs
theorem j80 (a:List ByteArray) (h:msr y0 a<=1048576) (k:(List ByteArray)->Res):j0D a k=k a:=by
 have h0:msr y0 a<=1048576:=h
 unfold j0D
 simp only [j5o _ h0]
theorem jd2 (a:List ByteArray) (left:Int) (h0:0<=left) (h1:left<=1048576) (hw:Wf y0 a) (k:Int->Res):j53 a left k=k (szR left (msr y0 a)):=by
 have hm:msr y0 a=msr y0 a+0:=rfl
 rw [hm]
 unfold j53
 rw [j5n _ _ (by omega) (by omega) hw]
 by_cases hb0:((msr y0 a:Nat):Int)<=left
 rotate_left
 ·rw [ZaA hb0,Zam hb0,Za6 (by omega),cond_true]
 rw [ZaB hb0,Zal hb0,Za5 (by omega),cond_false]
 exact j60 (by omega)
theorem jcR (a:List ByteArray) (h:msr y0 a<=1048576) (k:Bool->Res):j4Z a a k=k true:=by
 have h0:msr y0 a<=1048576:=h
 unfold j4Z
 simp only [ZaP,Zaj,beq_self_eq_true,cond_false,Bool.not_true,j4S _ h0]
theorem jc8 (a:List ByteArray) (k:Int) (h:msr y0 a<=1048576) (h0:1<=k) (hk:k+(j19 y0 a:Int)<=4294967296) (K:Int->(List ByteArray)->Res):j3B a k K=K (k+(j19 y0 a:Int)) (mkT y0 a k):=by
 have h0:msr y0 a<=1048576:=h
 have g0:msr y0 a<=1048576:=h
 have w0:j19 y0 a=wgt y0 a:=rfl
 have hw:j19 y0 a=wgt y0 a:=by first | rfl | (simp only [j11,w0,j21,j1k,j22,Nat.zero_add,Nat.add_zero];done) | (simp only [j11,w0,j21,j1k,j22,Nat.zero_add,Nat.add_zero];omega)
 unfold j3B
 simp (disch:=first | assumption | omega) only [j7F]
 first | rfl | (simp only [j5X,j7G,j6M,j7H,w0,j21,j1k,j22,Int.natCast_add,Int.natCast_zero,Int.cast_ofNat_Int,Nat.zero_add,Nat.add_zero,Int.add_zero,<-Int.add_assoc];done) | (simp only [j5X,j7G,j6M,j7H,w0,j21,j1k,j22,Int.natCast_add,Int.natCast_zero,Int.cast_ofNat_Int,Nat.zero_add,Nat.add_zero,Int.add_zero,<-Int.add_assoc];rfl)
end Go.PI.G
namespace Go.PI.G
open Go Go.PI Go.Proofs
noncomputable def j4o (p:List ByteArray) (x:BT):BT:=bif !j7Z p then (0,0,[]) else bif !j7S x then (0,0,[]) else (x.1,x.2.1,x.2.2.filter λq=>j6H p q.1.2.1)
theorem jc9 {e:Ty} (q:El e->Bool) (l:List (El e)):msr (.slice e) (l.filter q)<=msr (.slice e) l:=by
 have h:((l.filter q).map (msr e)).sum<=(l.map (msr e)).sum:=by
  induction l with
  | nil=>exact Nat.le_refl _
  | cons x l ih=>
   cases hx:q x
   ·rw [List.filter_cons_of_neg (by rw [hx];simp),List.map_cons,List.sum_cons]
    omega
   ·rw [List.filter_cons_of_pos hx,List.map_cons,List.map_cons,List.sum_cons,List.sum_cons]
    omega
 have h2:=List.length_filter_le q l
 rw [j8A,j8A]
 exact Nat.add_le_add h2 h
theorem jcc (p:List ByteArray) (x:BT) (h:msr yBT x<=1048576):msr yBT (j4o p x)<=1048576:=by
 have z:msr yBT ((0,0,[]):BT)<=1048576:=by
  show 0+(0+msr (.slice yPT) [])<=1048576
  rw [j8A]
  decide
 unfold j4o
 cases j7Z p
 ·exact z
 ·cases j7S x
  ·exact z
  ·have e1:msr yBT x=0+(0+msr (.slice yPT) x.2.2):=rfl
   have:=jc9 (e:=yPT) (λq=>j6H p q.1.2.1) x.2.2
   show 0+(0+msr (.slice yPT) (x.2.2.filter λq=>j6H p q.1.2.1))<=1048576
   omega
theorem j69 {n:Nat} (h:n<=1048576):lim (0+n)=true:=ZaM (by unfold LIM;omega)
theorem jcj (s:ST) (h:jaA s) (k:ST->Res):j0S s k=k s:=by
 obtain ⟨h1,h2,h3,h4⟩:=h
 unfold j0S j7y
 simp only [j69 h2,j69 h3,j69 h4.2.1,j69 h4.2.2.1,cond_true]
 try rfl
theorem jc7 (s:ST) (h:jaA s) (k:ST->Res):j2d s k=k s:=by
 obtain ⟨h1,h2,h3,h4⟩:=h
 unfold j2d j3a j4V j0v
 simp only [j69 h2,j69 h3,j69 h4.2.1,j69 h4.2.2.1,cond_true]
 try rfl
theorem jci (q:PT) (h:jcY q) (k:PT->Res):j2X q k=k q:=by
 obtain ⟨h1,h2,h3⟩:=h
 unfold j2X
 simp only [Z9R]
 simp only [jcj _ h1,j69 h2.1,j69 h3.1,cond_true]
 try rfl
theorem jc5 (q:PT) (h:jcY q) (k:PT->Res):j39 q k=k q:=by
 obtain ⟨h1,h2,h3⟩:=h
 unfold j39 j0v
 simp only [jc7 _ h1,j69 h2.1,j69 h3.1,cond_true]
 try rfl
theorem jbQ (p:List ByteArray) (t:ByteArray) (hp:msr (.slice .str) p<=1048576) (hb:j7Z p=true) (k:Bool->Res):j4R p t k=k (j6H p t):=by
 have hl:=(jba hp).1
 unfold j4R
 rw [ja3 p hp,hb,cond_true,jcg _ _ (by unfold LIM;omega)]
theorem jaE (q:PT->Bool) (l:List PT):l.flatMap (λx=>bif q x then [x] else [])=l.filter q:=by
 induction l with
 | nil=>rfl
 | cons x l ih=>
  rw [List.flatMap_cons,ih]
  cases hx:q x
  ·rw [List.filter_cons_of_neg (by rw [hx];simp)];rfl
  ·rw [List.filter_cons_of_pos hx];rfl
theorem jcT (q:PT->Bool) (l:List PT) (i:Nat):((l.take i).flatMap λx=>bif q x then [x] else []).length<=l.length:=by
 rw [jaE]
 exact Nat.le_trans (List.length_filter_le _ _) (by rw [List.length_take];exact Nat.min_le_right _ _)
theorem jaI (l:List PT):l.flatMap (λx=>[x])=l:=by
 induction l with
 | nil=>rfl
 | cons x l ih=>rw [List.flatMap_cons,ih];rfl
theorem jbD (p:List ByteArray) (x:BT) (hp:msr (.slice .str) p<=1048576) (hx:msr yBT x<=1048576) (k:BT->Res):j0F p x k=k (j4o p x):=by
 have hb:=jcA hx
 have hl:=hb.1
 unfold j0F j4o
 rw [ja3 p hp]
 cases hpb:j7Z p
 ·rfl
 rw [Bool.not_true,cond_false,cond_false,jce x hb]
 cases j7S x
 ·rfl
 rw [Bool.not_true,cond_false,cond_false]
 unfold j34
 have:=Z9U x.2.2 (λi out=>(i,(x.1,x.2.1,out))) (λq=>bif j6H p q.1.2.1 then [q] else []) 1048576 [] (step:=j2x x.2.2 (nI x.2.2.length) p) (λout=>k out) (λout=>k (x.1,x.2.1,out)) (by unfold LIM;omega) (λi hi hh=> ?_) (by simp) (λi out rec hi ho hB=>by
  show j0N _ _ _ _ _ _ _=_
  unfold j0N
  dsimp only
  rw [ZaR hi,cond_true,j04 hi,cond_true,Zaz _ _ _ hi,jbQ p _ hp hpb,j03 (n:=(i:Int)+1) (by omega)]
  cases j6H p x.2.2[i].1.2.1
  ·rw [cond_false,cond_false,List.append_nil]
  ·rw [cond_true,cond_true,jci _ (hb.2 _ (List.getElem_mem hi)),ZaM (by unfold LIM;omega),cond_true]) (λout rec=>by
  show j0N _ _ _ _ _ _ _=_
  unfold j0N
  dsimp only
  rw [ZaQ,cond_false])
 ·refine this.trans ?_
  rw [jaE,List.nil_append]
 ·rw [List.nil_append]
  exact Nat.le_trans (jcT _ _ _) hl
theorem jbK (x:BT) (hb:jbV x) (k:BT->Res):j2P x k=k x:=by
 have hl:=hb.1
 unfold j2P j49
 have:=Z9U x.2.2 (λi out=>(i,(x.1,x.2.1,out))) (λq=>[q]) 1048576 [] (step:=j3o x.2.2 (nI x.2.2.length)) (λout=>k out) (λout=>k (x.1,x.2.1,out)) (by unfold LIM;omega) (λi hi hh=> ?_) (by simp) (λi out rec hi ho hB=>by
  show j13 _ _ _ _ _ _=_
  unfold j13
  dsimp only
  rw [ZaR hi,cond_true,j04 hi,cond_true,Zaz _ _ _ hi,jc5 _ (hb.2 _ (List.getElem_mem hi)),ZaM (by unfold LIM;omega),cond_true,j03 (n:=(i:Int)+1) (by omega)]) (λout rec=>by
  show j13 _ _ _ _ _ _=_
  unfold j13
  dsimp only
  rw [ZaQ,cond_false])
 ·refine this.trans ?_
  rw [jaI,List.nil_append]
 ·rw [jaI,List.nil_append,List.length_take]
  omega
theorem jct {α:Type} {g:α->(Bool->Res)->Res} (q:α->Bool):(l:List α)->(∀ x∈l,∀ k,g x k=k (q x))->(acc:List α)->(k:List α->Res)->dgF g l acc k=k (acc++l.filter λx=> !q x)
 | [],_,acc,k=>by rw [List.filter_nil,List.append_nil];rfl
 | x::l,h,acc,k=>by
  show g x (λb=>dgF g l (bif b then acc else acc++[x]) k)=_
  rw [h x (by simp),jct q l λy hy=>h y (List.mem_cons_of_mem _ hy)]
  cases hx:q x
  ·rw [List.filter_cons_of_pos (by rw [hx];rfl),cond_false,List.append_assoc];rfl
  ·rw [List.filter_cons_of_neg (by rw [hx];simp),cond_true]
theorem j8x (p:List ByteArray) (x:BT) (hp:msr (.slice .str) p<=1048576) (hx:msr yBT x<=1048576) (k:BT->Res):j0m p x k=k (j4o p x):=by
 have hb:=jcA hx
 have hl:=hb.1
 have hpl:=(jba hp).1
 unfold j0m j4o
 rw [jc6 p hp]
 cases hpb:j7Z p
 ·rfl
 rw [Bool.not_true,cond_false,cond_false,jc1 x hb]
 cases j7S x
 ·rfl
 rw [Bool.not_true,cond_false,cond_false,jbK x hb]
 unfold j1d
 rw [ZaM (by unfold LIM;omega),cond_true,jct (λq:PT=> !j6H p q.1.2.1) x.2.2 (λq hq kk=>by
  unfold j5C
  rw [jc3 _ _ (by unfold LIM;omega)])]
 simp only [Bool.not_not,List.nil_append]
theorem jcq (x0:List ByteArray) (w0:Wf (.slice .str) x0) (x1:BT) (w1:Wf yBT x1) (k:Bool->Res):j0Q x0 x1 k=k true:=by
 unfold j0Q
 rw [jd2 x0 1048576 (by omega) (by omega) w0]
 by_cases hm:((msr (.slice .str) x0:Nat):Int)<=1048576
 rotate_left
 ·rw [ZaA hm];rfl
 have hm':msr (.slice .str) x0<=1048576:=by omega
 rw [ZaB hm,decide_eq_false (by omega),cond_false,jck x1 (1048576-((msr (.slice .str) x0:Nat):Int)) (by omega) (by omega) w1]
 by_cases hn:((msr yBT x1:Nat):Int)<=1048576-((msr (.slice .str) x0:Nat):Int)
 rotate_left
 ·rw [ZaA hn];rfl
 have hn':msr yBT x1<=1048576:=by omega
 have e0:∀ K:BT->Res,j0k x0 x1 K=K (j4o x0 x1):=λK=>by
  unfold j0k
  simp only [Z9R]
  rw [j80 x0 hm',j6w x1 hn',jbD x0 x1 hm' hn']
 have e1:∀ K:BT->Res,j0l x0 x1 K=K (j4o x0 x1):=λK=>by
  unfold j0l
  simp only [Z9R]
  rw [j80 x0 hm',j6w x1 hn',j8x x0 x1 hm' hn']
 rw [ZaB hn,decide_eq_false (by omega),cond_false,e0,j80 x0 hm',j6w x1 hn',j8x x0 x1 hm' hn']
 have hq:=jcc x0 x1 hn'
 rw [j6q _ hq,Bool.not_true,cond_false,j80 x0 hm',jcR x0 hm',Bool.not_true,cond_false,j6w x1 hn',j6q x1 hn',Bool.not_true,cond_false]
 have f0:=j8W (τ:= .slice .str) (by decide) hm'
 have f0':=j4q (.slice .str) x0
 have f1:=j8W (τ:=yBT) (by decide) hn'
 have f1':=j4q yBT x1
 have f2:=j8W (τ:=yBT) (by decide) hq
 have f2':=j4q yBT (j4o x0 x1)
 have k0:(1:Int)+((j19 (.slice .str) x0:Nat):Int)<=4294967296:=by omega
 have k1:(1:Int)+((j19 (.slice .str) x0:Nat):Int)+((j19 yBT x1:Nat):Int)<=4294967296:=by omega
 have k2:(1:Int)+((j19 yBT (j4o x0 x1):Nat):Int)<=4294967296:=by omega
 unfold j0z
 rw [jc8 x0 1 hm' (by omega) k0,j8z x1 _ hn' (by omega) k1,decide_eq_false (by omega),cond_false,j6q _ hq,Bool.not_true,cond_false,j8z _ 1 hq (by omega) k2,j8w _ 1 hq (by omega) k2,decide_eq_false (by omega),cond_false,ZaP,cond_false,e1,j6q _ hq,Bool.not_true,cond_false,j8w _ 1 hq (by omega) k2,decide_eq_false (by omega),cond_false,ZaP,cond_false]
end Go.PI.G
