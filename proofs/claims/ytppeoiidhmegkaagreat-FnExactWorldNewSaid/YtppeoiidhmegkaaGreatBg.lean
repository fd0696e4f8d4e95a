/-
  Program's code interpreted over typed values; printed texts; plain laws. No conditions.
-/
import Derived.Test.YtppeoiidhmegkaaGreatBf
import Derived.Test.YtppeoiidhmegkaaGreatBc
import Derived.Test.YtppeoiidhmegkaaGreatBd
import Derived.Test.YtppeoiidhmegkaaGreatBe
set_option linter.unusedVariables false
set_option linter.unusedSimpArgs false
set_option maxRecDepth 10000
namespace Go.PI.G
open Go Go.PI Go.Proofs
theorem jgc (a:qF) (h:msr y23 a<=1048576) (k:qF->Res):j5r a k=k a:=by
 have hl:a.length<=1048576:=j0d h
 unfold j5r
 rw [Z97 (by unfold LIM;omega),cond_true]
 have:=Z9e ((eS,[],[])) a id (step:=j4j a) (λout=>k out) (by unfold LIM;omega) (λout i rec hi hlo=>by
  show j1y a _ _ _ _=_
  unfold j1y
  dsimp only
  simp only [Z9q hi,cond_true,j03 hi,j03 (show i<out.length by omega),Z9a _ _ _ hi,Z9h,j04 (n:=(i:Int)+1) (by omega),jgE _ (j0e h (List.getElem_mem hi))]
  rfl) (λout rec=>by
  show j1y a _ _ _ _=_
  unfold j1y
  dsimp only
  rw [Z9p,cond_false])
 rw [List.map_id] at this
 exact this
theorem jgb (a:qF) (left:Int) (h0:0<=left) (h1:left<=1048576) (hw:Wf y23 a) (k:Int->Res):j5q a left k=k (szR left (msr y23 a)):=by
 have hl:a.length<=maxLen:=hw.1
 have hm:msr y23 a=a.length+(a.map (msr y22)).sum:=rfl
 rw [hm]
 unfold j5q
 refine jao (F:=λq=>j3k a Z12 q 0 (λleft1=>k left1) (λ_=>k (-1))) (k:=k) h0 h1 hl λhb=> ?_
 unfold j3k
 rw [Z9d (msr y22) a _ (by omega) (λleft i rec hi h0 h1=> ?_) (λleft rec=> ?_) _ (by omega) (by omega)]
 ·by_cases hb:(((a.map (msr y22)).sum:Nat):Int)<=left-a.length
  ·rw [if_pos hb,Z9c hb]
  ·rw [if_neg hb,Z9b hb]
 ·show j1x a _ _ _ _ _=_
  have hx:=hw.2 _ (List.getElem_mem hi)
  unfold j1x
  rw [Z9q hi,cond_true,j03 hi,cond_true,Z9a _ _ _ hi,jgC _ _ h0 h1 hx]
  have hi9:(i:Int)<4611686018427387904:=by unfold maxLen at hl;omega
  rw [j04 (n:=(i:Int)+1) (by omega)]
  by_cases hb:((msr y22 a[i]:Nat):Int)<=left
  ·rw [if_pos hb,Z9c hb,Z8I (by omega),cond_false]
  ·rw [if_neg hb,Z9b hb,Z8J (by omega),cond_true]
 ·show j1x a _ _ _ _ _=_
  unfold j1x
  rw [Z9p,cond_false]
theorem jfU (a:qF) (h:msr y23 a<=1048576) (k:Bool->Res):j5n a a k=k true:=by
 have hl:a.length<=1048576:=j0d h
 unfold j5n
 rw [Z9o,cond_false]
 unfold j5C
 rw [Z93 a _ (by unfold LIM;omega) (λi rec hi=> ?_) (λrec=> ?_)]
 ·show j1p a a _ _ _ _=_
  unfold j1p
  simp only [Z9q hi,cond_true,j03 hi,Z9a _ _ _ hi,j04 (n:=(i:Int)+1) (by omega),Z9o,Z8U,cond_false,Bool.not_true,jgk _ (j0e h (List.getElem_mem hi))]
 ·show j1p a a _ _ _ _=_
  unfold j1p
  rw [Z9p,cond_false]
theorem jeE (a:qF) (k:Int) (h:msr y23 a<=1048576) (h0:1<=k) (hk:k+(wgt y23 a:Int)<=4294967296) (K:Int->qF->Res):j3M a k K=K (k+(wgt y23 a:Int)) (mkL (wgt y22) (mk y22) a k):=by
 have hl:a.length<=1048576:=j0d h
 have hwg:wgt y23 a=(a.map (wgt y22)).sum:=rfl
 rw [hwg] at hk ⊢
 unfold j3M j4d
 have:=Z8D (wgt y22) (mk y22) a k (λl k i=>(l,k,i)) (step:=j1U) (λl k=>K k l) (λl k=>K k l) (by unfold LIM;omega) (λl i rec hi hll hli hla=>by
  have e1:=Z6s (wgt y22) a i hi
  have e2:=Z8p (wgt y22) a (i+1)
  generalize hκ:k+((((a.take i).map (wgt y22)).sum:Nat):Int)=κ
  have hκ1:1<=κ/\κ+(wgt y22 a[i]:Int)<=4294967296:=by omega
  have hw:(wgt y22 a[i]:Int)=1+(wgt y9 a[i].2.1:Int)+(wgt y1 a[i].2.2:Int):=by
   have:wgt y22 a[i]=1+(wgt y9 a[i].2.1)+(wgt y1 a[i].2.2):=by first | rfl | (simp only [wgt];done) | (simp only [wgt];omega)
   first | rfl | omega
  have hr0:msr y9 a[i].2.1<=1048576:=(Nat.le_trans (@j06 y9 y1 a[i].2) (Nat.le_trans (@j00 .str y21 a[i]) (j0e h (List.getElem_mem hi))))
  have hr1:msr y1 a[i].2.2<=1048576:=(Nat.le_trans (@j00 y9 y1 a[i].2) (Nat.le_trans (@j00 .str y21 a[i]) (j0e h (List.getElem_mem hi))))
  show j0J _ _ _ _ _=_
  dsimp only
  unfold j0J
  rw [<-hll] at hi
  have hi':i<a.length:=by omega
  simp (disch:=first | assumption | omega) only [show nI a.length=nI l.length by rw [hll],Z9q,j03,j3A,cond_true,j3x,j3B,Z9a,hla,j04,j0j,jck,j77,<-hll]
  rw [Z9h]
  congr 3<;>first | rfl | omega | (simp only [j0l,j0g,j0r,j0A,j0k,j0s,j0i,j0m,j0h,j0n,Int.natCast_add,Int.natCast_one,<-Int.add_assoc];done) | (simp only [j0l,j0g,j0r,j0A,j0k,j0s,j0i,j0m,j0h,j0n,Int.natCast_add,Int.natCast_one,<-Int.add_assoc];rfl) | skip) (λl k rec hll=>by
  show j0J _ _ _ _ _=_
  dsimp only
  unfold j0J
  rw [<-hll,Z9p,cond_false])
 exact this
theorem jeA (a:qF) (k:Int) (h:msr y23 a<=1048576) (h0:1<=k) (hk:k+(wgt y23 a:Int)<=4294967296) (K:Int->Res):j3L (mkL (wgt y22) (mk y22) a k) k K=K (k+(wgt y23 a:Int)):=by
 have hl:a.length<=1048576:=j0d h
 have hwg:wgt y23 a=(a.map (wgt y22)).sum:=rfl
 rw [hwg] at hk ⊢
 have hll:=Z5t (wgt y22) (mk y22) a k
 have hg:=Z96 (wgt y22) (mk y22) a k
 generalize mkL (wgt y22) (mk y22) a k=l at hll hg
 unfold j3L j47
 have:=Z8A (wgt y22) a k (λk i=>(k,i)) (step:=j1T l) ((λ(k_1:Int)=>K k_1),(λ(_:Unit)=>K (-1))) (λk=>K k) (by unfold LIM;omega) (λi rec hi=>by
  have e1:=Z6s (wgt y22) a i hi
  have e2:=Z8p (wgt y22) a (i+1)
  have hgi:=hg i hi (by omega)
  generalize hκ:k+((((a.take i).map (wgt y22)).sum:Nat):Int)=κ at hgi
  have hκ1:1<=κ/\κ+(wgt y22 a[i]:Int)<=4294967296:=by omega
  have hw:(wgt y22 a[i]:Int)=1+(wgt y9 a[i].2.1:Int)+(wgt y1 a[i].2.2:Int):=by
   have:wgt y22 a[i]=1+(wgt y9 a[i].2.1)+(wgt y1 a[i].2.2):=by first | rfl | (simp only [wgt];done) | (simp only [wgt];omega)
   first | rfl | omega
  have hr0:msr y9 a[i].2.1<=1048576:=(Nat.le_trans (@j06 y9 y1 a[i].2) (Nat.le_trans (@j00 .str y21 a[i]) (j0e h (List.getElem_mem hi))))
  have hr1:msr y1 a[i].2.2<=1048576:=(Nat.le_trans (@j00 y9 y1 a[i].2) (Nat.le_trans (@j00 .str y21 a[i]) (j0e h (List.getElem_mem hi))))
  show j0I _ _ _ _ _ _=_
  dsimp only
  unfold j0I
  have hi':i<l.length:=by omega
  simp (disch:=first | assumption | omega) only [Z9q,j03,cond_true,cond_false,Z9a,hgi,j0l,j0g,j0r,j0A,j0k,j0s,j0i,j0m,j0h,j0n,Int.natCast_add,Int.natCast_one,<-Int.add_assoc,j04,j0j,Z9o,Z8U,beq_self_eq_true,Bool.not_true,Z8I,jci,j70]
  all_goals (congr 2;omega)) (λk rec=>by
  show j0I _ _ _ _ _ _=_
  dsimp only
  unfold j0I
  rw [<-hll,Z9p,cond_false])
 exact this
end Go.PI.G
namespace Go.PI.G
open Go Go.PI Go.Proofs
theorem jhm (a:List qT) (h:msr y23 a<=1048576) (k:qF->Res):j6u a k=k a:=by
 have h0:msr y23 a<=1048576:=h
 unfold j6u
 simp only [jgc _ h0]
theorem jhe (a:List qT) (left:Int) (h0:0<=left) (h1:left<=1048576) (hw:Wf y23 a) (k:Int->Res):j6r a left k=k (szR left (msr y23 a)):=by
 have hm:msr y23 a=msr y23 a+0:=rfl
 rw [hm]
 unfold j6r
 rw [jgb _ _ (by omega) (by omega) hw]
 by_cases hb0:((msr y23 a:Nat):Int)<=left
 rotate_left
 ·rw [Z9b hb0,Z8X hb0,Z8J (by omega),cond_true]
 rw [Z9c hb0,Z8W hb0,Z8I (by omega),cond_false]
 exact j7w (by omega)
theorem jh6 (a:List qT) (h:msr y23 a<=1048576) (k:Bool->Res):j6l a a k=k true:=by
 have h0:msr y23 a<=1048576:=h
 unfold j6l
 simp only [Z9o,Z8U,beq_self_eq_true,cond_false,Bool.not_true,jfU _ h0]
theorem jgt (a:List qT) (k:Int) (h:msr y23 a<=1048576) (h0:1<=k) (hk:k+(j0c y23 a:Int)<=4294967296) (K:Int->qF->Res):j49 a k K=K (k+(j0c y23 a:Int)) (mkT y23 a k):=by
 have h0:msr y23 a<=1048576:=h
 have g0:msr y23 a<=1048576:=h
 have w0:j0c y23 a=wgt y23 a:=rfl
 have hw:j0c y23 a=wgt y23 a:=by first | rfl | (simp only [j05,w0,j08,j07,j09,Nat.zero_add,Nat.add_zero];done) | (simp only [j05,w0,j08,j07,j09,Nat.zero_add,Nat.add_zero];omega)
 unfold j49
 simp (disch:=first | assumption | omega) only [jeE]
 first | rfl | (simp only [j0u,j0M,j0C,j0N,w0,j08,j07,j09,Int.natCast_add,Int.natCast_zero,Int.cast_ofNat_Int,Nat.zero_add,Nat.add_zero,Int.add_zero,<-Int.add_assoc];done) | (simp only [j0u,j0M,j0C,j0N,w0,j08,j07,j09,Int.natCast_add,Int.natCast_zero,Int.cast_ofNat_Int,Nat.zero_add,Nat.add_zero,Int.add_zero,<-Int.add_assoc];rfl)
theorem jgl (a:List qT) (k:Int) (h:msr y23 a<=1048576) (h0:1<=k) (hk:k+(j0c y23 a:Int)<=4294967296) (K:Int->Res):j42 (mkL (wgt y22) (mk y22) a k) k K=K (k+(j0c y23 a:Int)):=by
 have h0:msr y23 a<=1048576:=h
 have g0:msr y23 a<=1048576:=h
 have w0:j0c y23 a=wgt y23 a:=rfl
 have hw:j0c y23 a=wgt y23 a:=by first | rfl | (simp only [j05,w0,j08,j07,j09,Nat.zero_add,Nat.add_zero];done) | (simp only [j05,w0,j08,j07,j09,Nat.zero_add,Nat.add_zero];omega)
 unfold j42
 simp (disch:=first | assumption | omega) only [j0u,j0M,j0C,j0N,w0,j08,j07,j09,Int.natCast_add,Int.natCast_zero,Int.cast_ofNat_Int,Nat.zero_add,Nat.add_zero,Int.add_zero,<-Int.add_assoc,jeA,Z8I,cond_false]
 all_goals (repeat (show (bif decide (_<(0:Int)) then _ else _)=_;rw [Z8I (by omega),cond_false]))
 all_goals first | done | rfl | (congr 1;omega)
end Go.PI.G
namespace Go.PI.G
open Go Go.PI Go.Proofs
theorem jh3 (a:qW) (h:msr y4 a<=1048576) (k:qW->Res):j7s a k=k a:=by
 have hl:a.length<=1048576:=j0d h
 unfold j7s
 rw [Z97 (by unfold LIM;omega),cond_true]
 have:=Z9e ((0,0,eS)) a id (step:=j5Q a) (λout=>k out) (by unfold LIM;omega) (λout i rec hi hlo=>by
  show j2q a _ _ _ _=_
  unfold j2q
  dsimp only
  simp only [Z9q hi,cond_true,j03 hi,j03 (show i<out.length by omega),Z9a _ _ _ hi,Z9h,j04 (n:=(i:Int)+1) (by omega),jfR _ (j0e h (List.getElem_mem hi))]
  rfl) (λout rec=>by
  show j2q a _ _ _ _=_
  unfold j2q
  dsimp only
  rw [Z9p,cond_false])
 rw [List.map_id] at this
 exact this
theorem jgZ (a:qW) (left:Int) (h0:0<=left) (h1:left<=1048576) (hw:Wf y4 a) (k:Int->Res):j7p a left k=k (szR left (msr y4 a)):=by
 have hl:a.length<=maxLen:=hw.1
 have hm:msr y4 a=a.length+(a.map (msr y3)).sum:=rfl
 rw [hm]
 unfold j7p
 refine jao (F:=λq=>j4J a Z12 q 0 (λleft1=>k left1) (λ_=>k (-1))) (k:=k) h0 h1 hl λhb=> ?_
 unfold j4J
 rw [Z9d (msr y3) a _ (by omega) (λleft i rec hi h0 h1=> ?_) (λleft rec=> ?_) _ (by omega) (by omega)]
 ·by_cases hb:(((a.map (msr y3)).sum:Nat):Int)<=left-a.length
  ·rw [if_pos hb,Z9c hb]
  ·rw [if_neg hb,Z9b hb]
 ·show j2n a _ _ _ _ _=_
  have hx:=hw.2 _ (List.getElem_mem hi)
  unfold j2n
  rw [Z9q hi,cond_true,j03 hi,cond_true,Z9a _ _ _ hi,jfQ _ _ h0 h1 hx]
  have hi9:(i:Int)<4611686018427387904:=by unfold maxLen at hl;omega
  rw [j04 (n:=(i:Int)+1) (by omega)]
  by_cases hb:((msr y3 a[i]:Nat):Int)<=left
  ·rw [if_pos hb,Z9c hb,Z8I (by omega),cond_false]
  ·rw [if_neg hb,Z9b hb,Z8J (by omega),cond_true]
 ·show j2n a _ _ _ _ _=_
  unfold j2n
  rw [Z9p,cond_false]
theorem jee (a:qW) (h:msr y4 a<=1048576) (k:Bool->Res):j3w a a k=k true:=by
 have hl:a.length<=1048576:=j0d h
 unfold j3w
 rw [Z9o,cond_false]
 unfold j76
 rw [Z93 a _ (by unfold LIM;omega) (λi rec hi=> ?_) (λrec=> ?_)]
 ·show j29 a a _ _ _ _=_
  unfold j29
  simp only [Z9q hi,cond_true,j03 hi,Z9a _ _ _ hi,j04 (n:=(i:Int)+1) (by omega),Z9o,Z8U,cond_false,Bool.not_true,jfn _ (j0e h (List.getElem_mem hi))]
 ·show j29 a a _ _ _ _=_
  unfold j29
  rw [Z9p,cond_false]
theorem jcl (a:qW) (k:Int) (h:msr y4 a<=1048576) (h0:1<=k) (hk:k+(wgt y4 a:Int)<=4294967296) (K:Int->qW->Res):j1C a k K=K (k+(wgt y4 a:Int)) (mkL (wgt y3) (mk y3) a k):=by
 have hl:a.length<=1048576:=j0d h
 have hwg:wgt y4 a=(a.map (wgt y3)).sum:=rfl
 rw [hwg] at hk ⊢
 unfold j1C j5N
 have:=Z8D (wgt y3) (mk y3) a k (λl k i=>(l,k,i)) (step:=j4e) (λl k=>K k l) (λl k=>K k l) (by unfold LIM;omega) (λl i rec hi hll hli hla=>by
  have e1:=Z6s (wgt y3) a i hi
  have e2:=Z8p (wgt y3) a (i+1)
  generalize hκ:k+((((a.take i).map (wgt y3)).sum:Nat):Int)=κ
  have hκ1:1<=κ/\κ+(wgt y3 a[i]:Int)<=4294967296:=by omega
  have hw:(wgt y3 a[i]:Int)=1+1+1:=by
   have:wgt y3 a[i]=1+1+1:=by first | rfl | (simp only [wgt];done) | (simp only [wgt];omega)
   first | rfl | omega
  show j1w _ _ _ _ _=_
  dsimp only
  unfold j1w
  rw [<-hll] at hi
  have hi':i<a.length:=by omega
  simp (disch:=first | assumption | omega) only [show nI a.length=nI l.length by rw [hll],Z9q,j03,j3A,cond_true,j3x,j3B,Z9a,hla,j04,j0j,<-hll]
  rw [Z9h]
  congr 3<;>first | rfl | omega | (simp only [j0l,j0g,j0r,j0A,j0k,j0s,j0i,j0m,j0h,j0n,Int.natCast_add,Int.natCast_one,<-Int.add_assoc];done) | (simp only [j0l,j0g,j0r,j0A,j0k,j0s,j0i,j0m,j0h,j0n,Int.natCast_add,Int.natCast_one,<-Int.add_assoc];rfl) | skip) (λl k rec hll=>by
  show j1w _ _ _ _ _=_
  dsimp only
  unfold j1w
  rw [<-hll,Z9p,cond_false])
 exact this
theorem jcj (a:qW) (k:Int) (h:msr y4 a<=1048576) (h0:1<=k) (hk:k+(wgt y4 a:Int)<=4294967296) (K:Int->Res):j1B (mkL (wgt y3) (mk y3) a k) k K=K (k+(wgt y4 a:Int)):=by
 have hl:a.length<=1048576:=j0d h
 have hwg:wgt y4 a=(a.map (wgt y3)).sum:=rfl
 rw [hwg] at hk ⊢
 have hll:=Z5t (wgt y3) (mk y3) a k
 have hg:=Z96 (wgt y3) (mk y3) a k
 generalize mkL (wgt y3) (mk y3) a k=l at hll hg
 unfold j1B j5H
 have:=Z8A (wgt y3) a k (λk i=>(k,i)) (step:=j48 l) ((λ(k_1:Int)=>K k_1),(λ(_:Unit)=>K (-1))) (λk=>K k) (by unfold LIM;omega) (λi rec hi=>by
  have e1:=Z6s (wgt y3) a i hi
  have e2:=Z8p (wgt y3) a (i+1)
  have hgi:=hg i hi (by omega)
  generalize hκ:k+((((a.take i).map (wgt y3)).sum:Nat):Int)=κ at hgi
  have hκ1:1<=κ/\κ+(wgt y3 a[i]:Int)<=4294967296:=by omega
  have hw:(wgt y3 a[i]:Int)=1+1+1:=by
   have:wgt y3 a[i]=1+1+1:=by first | rfl | (simp only [wgt];done) | (simp only [wgt];omega)
   first | rfl | omega
  show j1s _ _ _ _ _ _=_
  dsimp only
  unfold j1s
  have hi':i<l.length:=by omega
  simp (disch:=first | assumption | omega) only [Z9q,j03,cond_true,cond_false,Z9a,hgi,j0l,j0g,j0r,j0A,j0k,j0s,j0i,j0m,j0h,j0n,Int.natCast_add,Int.natCast_one,<-Int.add_assoc,j04,j0j,Z9o,Z8U,beq_self_eq_true,Bool.not_true,Z8I]
  all_goals (congr 2;omega)) (λk rec=>by
  show j1s _ _ _ _ _ _=_
  dsimp only
  unfold j1s
  rw [<-hll,Z9p,cond_false])
 exact this
end Go.PI.G
namespace Go.PI.G
open Go Go.PI Go.Proofs
theorem jho (a:List qV) (h:msr y4 a<=1048576) (k:qW->Res):j8m a k=k a:=by
 have h0:msr y4 a<=1048576:=h
 unfold j8m
 simp only [jh3 _ h0]
theorem jhi (a:List qV) (left:Int) (h0:0<=left) (h1:left<=1048576) (hw:Wf y4 a) (k:Int->Res):j8k a left k=k (szR left (msr y4 a)):=by
 have hm:msr y4 a=msr y4 a+0:=rfl
 rw [hm]
 unfold j8k
 rw [jgZ _ _ (by omega) (by omega) hw]
 by_cases hb0:((msr y4 a:Nat):Int)<=left
 rotate_left
 ·rw [Z9b hb0,Z8X hb0,Z8J (by omega),cond_true]
 rw [Z9c hb0,Z8W hb0,Z8I (by omega),cond_false]
 exact j7w (by omega)
theorem jfm (a:List qV) (h:msr y4 a<=1048576) (k:Bool->Res):j4C a a k=k true:=by
 have h0:msr y4 a<=1048576:=h
 unfold j4C
 simp only [Z9o,Z8U,beq_self_eq_true,cond_false,Bool.not_true,jee _ h0]
end Go.PI.G
namespace Go.PI.G
open Go Go.PI Go.Proofs
theorem jh1 (a:qR) (h:msr y24 a<=1048576) (k:qR->Res):j7q a k=k a:=by
 have hl:a.length<=1048576:=j0d h
 unfold j7q
 rw [Z97 (by unfold LIM;omega),cond_true]
 have:=Z9e ([]) a id (step:=j5P a) (λout=>k out) (by unfold LIM;omega) (λout i rec hi hlo=>by
  show j2p a _ _ _ _=_
  unfold j2p
  dsimp only
  simp only [Z9q hi,cond_true,j03 hi,j03 (show i<out.length by omega),Z9a _ _ _ hi,Z9h,j04 (n:=(i:Int)+1) (by omega),jho _ (j0e h (List.getElem_mem hi))]
  rfl) (λout rec=>by
  show j2p a _ _ _ _=_
  unfold j2p
  dsimp only
  rw [Z9p,cond_false])
 rw [List.map_id] at this
 exact this
theorem jgX (a:qR) (left:Int) (h0:0<=left) (h1:left<=1048576) (hw:Wf y24 a) (k:Int->Res):j7n a left k=k (szR left (msr y24 a)):=by
 have hl:a.length<=maxLen:=hw.1
 have hm:msr y24 a=a.length+(a.map (msr y4)).sum:=rfl
 rw [hm]
 unfold j7n
 refine jao (F:=λq=>j4I a Z12 q 0 (λleft1=>k left1) (λ_=>k (-1))) (k:=k) h0 h1 hl λhb=> ?_
 unfold j4I
 rw [Z9d (msr y4) a _ (by omega) (λleft i rec hi h0 h1=> ?_) (λleft rec=> ?_) _ (by omega) (by omega)]
 ·by_cases hb:(((a.map (msr y4)).sum:Nat):Int)<=left-a.length
  ·rw [if_pos hb,Z9c hb]
  ·rw [if_neg hb,Z9b hb]
 ·show j2m a _ _ _ _ _=_
  have hx:=hw.2 _ (List.getElem_mem hi)
  unfold j2m
  rw [Z9q hi,cond_true,j03 hi,cond_true,Z9a _ _ _ hi,jhi _ _ h0 h1 hx]
  have hi9:(i:Int)<4611686018427387904:=by unfold maxLen at hl;omega
  rw [j04 (n:=(i:Int)+1) (by omega)]
  by_cases hb:((msr y4 a[i]:Nat):Int)<=left
  ·rw [if_pos hb,Z9c hb,Z8I (by omega),cond_false]
  ·rw [if_neg hb,Z9b hb,Z8J (by omega),cond_true]
 ·show j2m a _ _ _ _ _=_
  unfold j2m
  rw [Z9p,cond_false]
theorem jgM (a:qR) (h:msr y24 a<=1048576) (k:Bool->Res):j7l a a k=k true:=by
 have hl:a.length<=1048576:=j0d h
 unfold j7l
 rw [Z9o,cond_false]
 unfold j75
 rw [Z93 a _ (by unfold LIM;omega) (λi rec hi=> ?_) (λrec=> ?_)]
 ·show j28 a a _ _ _ _=_
  unfold j28
  simp only [Z9q hi,cond_true,j03 hi,Z9a _ _ _ hi,j04 (n:=(i:Int)+1) (by omega),Z9o,Z8U,cond_false,Bool.not_true,jfm _ (j0e h (List.getElem_mem hi))]
 ·show j28 a a _ _ _ _=_
  unfold j28
  rw [Z9p,cond_false]
theorem jg5 (a:qR) (k:Int) (h:msr y24 a<=1048576) (h0:1<=k) (hk:k+(wgt y24 a:Int)<=4294967296) (K:Int->qR->Res):j5p a k K=K (k+(wgt y24 a:Int)) (mkL (wgt y4) (mk y4) a k):=by
 have hl:a.length<=1048576:=j0d h
 have hwg:wgt y24 a=(a.map (wgt y4)).sum:=rfl
 rw [hwg] at hk ⊢
 unfold j5p j5L
 have:=Z8D (wgt y4) (mk y4) a k (λl k i=>(l,k,i)) (step:=j4c) (λl k=>K k l) (λl k=>K k l) (by unfold LIM;omega) (λl i rec hi hll hli hla=>by
  have e1:=Z6s (wgt y4) a i hi
  have e2:=Z8p (wgt y4) a (i+1)
  generalize hκ:k+((((a.take i).map (wgt y4)).sum:Nat):Int)=κ
  have hκ1:1<=κ/\κ+(wgt y4 a[i]:Int)<=4294967296:=by omega
  have hw:(wgt y4 a[i]:Int)=(wgt y4 a[i]:Int):=by
   have:wgt y4 a[i]=(wgt y4 a[i]):=by first | rfl | (simp only [wgt];done) | (simp only [wgt];omega)
   first | rfl | omega
  have hr0:msr y4 a[i]<=1048576:=(j0e h (List.getElem_mem hi))
  show j1u _ _ _ _ _=_
  dsimp only
  unfold j1u
  rw [<-hll] at hi
  have hi':i<a.length:=by omega
  simp (disch:=first | assumption | omega) only [show nI a.length=nI l.length by rw [hll],Z9q,j03,j3A,cond_true,j3x,j3B,Z9a,hla,j04,j0j,jcl,<-hll]
  rw [Z9h]
  congr 3<;>first | rfl | omega | (simp only [j0l,j0g,j0r,j0A,j0k,j0s,j0i,j0m,j0h,j0n,Int.natCast_add,Int.natCast_one,<-Int.add_assoc];done) | (simp only [j0l,j0g,j0r,j0A,j0k,j0s,j0i,j0m,j0h,j0n,Int.natCast_add,Int.natCast_one,<-Int.add_assoc];rfl) | skip) (λl k rec hll=>by
  show j1u _ _ _ _ _=_
  dsimp only
  unfold j1u
  rw [<-hll,Z9p,cond_false])
 exact this
theorem jfX (a:qR) (k:Int) (h:msr y24 a<=1048576) (h0:1<=k) (hk:k+(wgt y24 a:Int)<=4294967296) (K:Int->Res):j5o (mkL (wgt y4) (mk y4) a k) k K=K (k+(wgt y24 a:Int)):=by
 have hl:a.length<=1048576:=j0d h
 have hwg:wgt y24 a=(a.map (wgt y4)).sum:=rfl
 rw [hwg] at hk ⊢
 have hll:=Z5t (wgt y4) (mk y4) a k
 have hg:=Z96 (wgt y4) (mk y4) a k
 generalize mkL (wgt y4) (mk y4) a k=l at hll hg
 unfold j5o j5G
 have:=Z8A (wgt y4) a k (λk i=>(k,i)) (step:=j46 l) ((λ(k_1:Int)=>K k_1),(λ(_:Unit)=>K (-1))) (λk=>K k) (by unfold LIM;omega) (λi rec hi=>by
  have e1:=Z6s (wgt y4) a i hi
  have e2:=Z8p (wgt y4) a (i+1)
  have hgi:=hg i hi (by omega)
  generalize hκ:k+((((a.take i).map (wgt y4)).sum:Nat):Int)=κ at hgi
  have hκ1:1<=κ/\κ+(wgt y4 a[i]:Int)<=4294967296:=by omega
  have hw:(wgt y4 a[i]:Int)=(wgt y4 a[i]:Int):=by
   have:wgt y4 a[i]=(wgt y4 a[i]):=by first | rfl | (simp only [wgt];done) | (simp only [wgt];omega)
   first | rfl | omega
  have hr0:msr y4 a[i]<=1048576:=(j0e h (List.getElem_mem hi))
  show j1r _ _ _ _ _ _=_
  dsimp only
  unfold j1r
  have hi':i<l.length:=by omega
  simp (disch:=first | assumption | omega) only [Z9q,j03,cond_true,cond_false,Z9a,hgi,j0l,j0g,j0r,j0A,j0k,j0s,j0i,j0m,j0h,j0n,Int.natCast_add,Int.natCast_one,<-Int.add_assoc,j04,j0j,Z9o,Z8U,beq_self_eq_true,Bool.not_true,Z8I,jcj]
  all_goals (congr 2;omega)) (λk rec=>by
  show j1r _ _ _ _ _ _=_
  dsimp only
  unfold j1r
  rw [<-hll,Z9p,cond_false])
 exact this
end Go.PI.G
namespace Go.PI.G
open Go Go.PI Go.Proofs
theorem jh2 (a:List qW) (h:msr y24 a<=1048576) (k:qR->Res):j7r a k=k a:=by
 have h0:msr y24 a<=1048576:=h
 unfold j7r
 simp only [jh1 _ h0]
theorem jgY (a:List qW) (left:Int) (h0:0<=left) (h1:left<=1048576) (hw:Wf y24 a) (k:Int->Res):j7o a left k=k (szR left (msr y24 a)):=by
 have hm:msr y24 a=msr y24 a+0:=rfl
 rw [hm]
 unfold j7o
 rw [jgX _ _ (by omega) (by omega) hw]
 by_cases hb0:((msr y24 a:Nat):Int)<=left
 rotate_left
 ·rw [Z9b hb0,Z8X hb0,Z8J (by omega),cond_true]
 rw [Z9c hb0,Z8W hb0,Z8I (by omega),cond_false]
 exact j7w (by omega)
theorem jgN (a:List qW) (h:msr y24 a<=1048576) (k:Bool->Res):j7m a a k=k true:=by
 have h0:msr y24 a<=1048576:=h
 unfold j7m
 simp only [Z9o,Z8U,beq_self_eq_true,cond_false,Bool.not_true,jgM _ h0]
end Go.PI.G
namespace Go.PI.G
open Go Go.PI Go.Proofs
theorem jgD (a:qX) (h:msr y25 a<=1048576) (k:qX->Res):j4h a k=k a:=by
 have hl:a.length<=1048576:=j0d h
 unfold j4h
 rw [Z97 (by unfold LIM;omega),cond_true]
 have:=Z9e ([]) a id (step:=j50 a) (λout=>k out) (by unfold LIM;omega) (λout i rec hi hlo=>by
  show j1L a _ _ _ _=_
  unfold j1L
  dsimp only
  simp only [Z9q hi,cond_true,j03 hi,j03 (show i<out.length by omega),Z9a _ _ _ hi,Z9h,j04 (n:=(i:Int)+1) (by omega),jh2 _ (j0e h (List.getElem_mem hi))]
  rfl) (λout rec=>by
  show j1L a _ _ _ _=_
  unfold j1L
  dsimp only
  rw [Z9p,cond_false])
 rw [List.map_id] at this
 exact this
theorem jgB (a:qX) (left:Int) (h0:0<=left) (h1:left<=1048576) (hw:Wf y25 a) (k:Int->Res):j4f a left k=k (szR left (msr y25 a)):=by
 have hl:a.length<=maxLen:=hw.1
 have hm:msr y25 a=a.length+(a.map (msr y24)).sum:=rfl
 rw [hm]
 unfold j4f
 refine jao (F:=λq=>j3N a Z12 q 0 (λleft1=>k left1) (λ_=>k (-1))) (k:=k) h0 h1 hl λhb=> ?_
 unfold j3N
 rw [Z9d (msr y24) a _ (by omega) (λleft i rec hi h0 h1=> ?_) (λleft rec=> ?_) _ (by omega) (by omega)]
 ·by_cases hb:(((a.map (msr y24)).sum:Nat):Int)<=left-a.length
  ·rw [if_pos hb,Z9c hb]
  ·rw [if_neg hb,Z9b hb]
 ·show j1K a _ _ _ _ _=_
  have hx:=hw.2 _ (List.getElem_mem hi)
  unfold j1K
  rw [Z9q hi,cond_true,j03 hi,cond_true,Z9a _ _ _ hi,jgY _ _ h0 h1 hx]
  have hi9:(i:Int)<4611686018427387904:=by unfold maxLen at hl;omega
  rw [j04 (n:=(i:Int)+1) (by omega)]
  by_cases hb:((msr y24 a[i]:Nat):Int)<=left
  ·rw [if_pos hb,Z9c hb,Z8I (by omega),cond_false]
  ·rw [if_neg hb,Z9b hb,Z8J (by omega),cond_true]
 ·show j1K a _ _ _ _ _=_
  unfold j1K
  rw [Z9p,cond_false]
theorem jgj (a:qX) (h:msr y25 a<=1048576) (k:Bool->Res):j40 a a k=k true:=by
 have hl:a.length<=1048576:=j0d h
 unfold j40
 rw [Z9o,cond_false]
 unfold j6p
 rw [Z93 a _ (by unfold LIM;omega) (λi rec hi=> ?_) (λrec=> ?_)]
 ·show j1J a a _ _ _ _=_
  unfold j1J
  simp only [Z9q hi,cond_true,j03 hi,Z9a _ _ _ hi,j04 (n:=(i:Int)+1) (by omega),Z9o,Z8U,cond_false,Bool.not_true,jgN _ (j0e h (List.getElem_mem hi))]
 ·show j1J a a _ _ _ _=_
  unfold j1J
  rw [Z9p,cond_false]
theorem jfz (a:qX) (k:Int) (h:msr y25 a<=1048576) (h0:1<=k) (hk:k+(wgt y25 a:Int)<=4294967296) (K:Int->qX->Res):j3d a k K=K (k+(wgt y25 a:Int)) (mkL (wgt y24) (mk y24) a k):=by
 have hl:a.length<=1048576:=j0d h
 have hwg:wgt y25 a=(a.map (wgt y24)).sum:=rfl
 rw [hwg] at hk ⊢
 unfold j3d j4Z
 have:=Z8D (wgt y24) (mk y24) a k (λl k i=>(l,k,i)) (step:=j3I) (λl k=>K k l) (λl k=>K k l) (by unfold LIM;omega) (λl i rec hi hll hli hla=>by
  have e1:=Z6s (wgt y24) a i hi
  have e2:=Z8p (wgt y24) a (i+1)
  generalize hκ:k+((((a.take i).map (wgt y24)).sum:Nat):Int)=κ
  have hκ1:1<=κ/\κ+(wgt y24 a[i]:Int)<=4294967296:=by omega
  have hw:(wgt y24 a[i]:Int)=(wgt y24 a[i]:Int):=by
   have:wgt y24 a[i]=(wgt y24 a[i]):=by first | rfl | (simp only [wgt];done) | (simp only [wgt];omega)
   first | rfl | omega
  have hr0:msr y24 a[i]<=1048576:=(j0e h (List.getElem_mem hi))
  show j1e _ _ _ _ _=_
  dsimp only
  unfold j1e
  rw [<-hll] at hi
  have hi':i<a.length:=by omega
  simp (disch:=first | assumption | omega) only [show nI a.length=nI l.length by rw [hll],Z9q,j03,j3A,cond_true,j3x,j3B,Z9a,hla,j04,j0j,jg5,<-hll]
  rw [Z9h]
  congr 3<;>first | rfl | omega | (simp only [j0l,j0g,j0r,j0A,j0k,j0s,j0i,j0m,j0h,j0n,Int.natCast_add,Int.natCast_one,<-Int.add_assoc];done) | (simp only [j0l,j0g,j0r,j0A,j0k,j0s,j0i,j0m,j0h,j0n,Int.natCast_add,Int.natCast_one,<-Int.add_assoc];rfl) | skip) (λl k rec hll=>by
  show j1e _ _ _ _ _=_
  dsimp only
  unfold j1e
  rw [<-hll,Z9p,cond_false])
 exact this
theorem jfq (a:qX) (k:Int) (h:msr y25 a<=1048576) (h0:1<=k) (hk:k+(wgt y25 a:Int)<=4294967296) (K:Int->Res):j3a (mkL (wgt y24) (mk y24) a k) k K=K (k+(wgt y25 a:Int)):=by
 have hl:a.length<=1048576:=j0d h
 have hwg:wgt y25 a=(a.map (wgt y24)).sum:=rfl
 rw [hwg] at hk ⊢
 have hll:=Z5t (wgt y24) (mk y24) a k
 have hg:=Z96 (wgt y24) (mk y24) a k
 generalize mkL (wgt y24) (mk y24) a k=l at hll hg
 unfold j3a j4W
 have:=Z8A (wgt y24) a k (λk i=>(k,i)) (step:=j3E l) ((λ(k_1:Int)=>K k_1),(λ(_:Unit)=>K (-1))) (λk=>K k) (by unfold LIM;omega) (λi rec hi=>by
  have e1:=Z6s (wgt y24) a i hi
  have e2:=Z8p (wgt y24) a (i+1)
  have hgi:=hg i hi (by omega)
  generalize hκ:k+((((a.take i).map (wgt y24)).sum:Nat):Int)=κ at hgi
  have hκ1:1<=κ/\κ+(wgt y24 a[i]:Int)<=4294967296:=by omega
  have hw:(wgt y24 a[i]:Int)=(wgt y24 a[i]:Int):=by
   have:wgt y24 a[i]=(wgt y24 a[i]):=by first | rfl | (simp only [wgt];done) | (simp only [wgt];omega)
   first | rfl | omega
  have hr0:msr y24 a[i]<=1048576:=(j0e h (List.getElem_mem hi))
  show j1b _ _ _ _ _ _=_
  dsimp only
  unfold j1b
  have hi':i<l.length:=by omega
  simp (disch:=first | assumption | omega) only [Z9q,j03,cond_true,cond_false,Z9a,hgi,j0l,j0g,j0r,j0A,j0k,j0s,j0i,j0m,j0h,j0n,Int.natCast_add,Int.natCast_one,<-Int.add_assoc,j04,j0j,Z9o,Z8U,beq_self_eq_true,Bool.not_true,Z8I,jfX]
  all_goals (congr 2;omega)) (λk rec=>by
  show j1b _ _ _ _ _ _=_
  dsimp only
  unfold j1b
  rw [<-hll,Z9p,cond_false])
 exact this
end Go.PI.G
namespace Go.PI.G
open Go Go.PI Go.Proofs
theorem jbJ (a:qF×List qR) (h:msr y26 a<=1048576) (k:qD->Res):j0G a k=k a:=by
 have h0:msr y23 a.1<=1048576:=(Nat.le_trans (@j06 y23 y25 a) h)
 have h1:msr y25 a.2<=1048576:=(Nat.le_trans (@j00 y23 y25 a) h)
 unfold j0G
 simp only [jhm _ h0,jgD _ h1]
theorem jhu (a:qF×List qR) (left:Int) (h0:0<=left) (h1:left<=1048576) (hw:Wf y26 a) (k:Int->Res):j61 a left k=k (szR left (msr y26 a)):=by
 have hm:msr y26 a=msr y23 a.1+(msr y25 a.2+0):=by simp only [msr];omega
 rw [hm]
 unfold j61
 rw [jhe _ _ (by omega) (by omega) hw.1]
 by_cases hb0:((msr y23 a.1:Nat):Int)<=left
 rotate_left
 ·rw [Z9b hb0,Z8X hb0,Z8J (by omega),cond_true]
 rw [Z9c hb0,Z8W hb0,Z8I (by omega),cond_false]
 rw [jgB _ _ (by omega) (by omega) hw.2]
 by_cases hb1:((msr y25 a.2:Nat):Int)<=left-(msr y23 a.1:Nat)
 rotate_left
 ·rw [Z9b hb1,Z8X hb1,Z8J (by omega),cond_true]
 rw [Z9c hb1,Z8W hb1,Z8I (by omega),cond_false]
 exact j7w (by omega)
theorem jge (a:qF×List qR) (h:msr y26 a<=1048576) (k:Bool->Res):j3Z a a k=k true:=by
 have h0:msr y23 a.1<=1048576:=(Nat.le_trans (@j06 y23 y25 a) h)
 have h1:msr y25 a.2<=1048576:=(Nat.le_trans (@j00 y23 y25 a) h)
 unfold j3Z
 simp only [Z9o,Z8U,beq_self_eq_true,cond_false,Bool.not_true,jh6 _ h0,jgj _ h1]
theorem jeh (a:qF×List qR) (k:Int) (h:msr y26 a<=1048576) (h0:1<=k) (hk:k+(j0c y26 a:Int)<=4294967296) (K:Int->qD->Res):j30 a k K=K (k+(j0c y26 a:Int)) (mkT y26 a k):=by
 have h0:msr y23 a.1<=1048576:=(Nat.le_trans (@j06 y23 y25 a) h)
 have h1:msr y25 a.2<=1048576:=(Nat.le_trans (@j00 y23 y25 a) h)
 have g0:msr y23 a.1<=1048576:=(Nat.le_trans (@j06 y23 y25 a) h)
 have g1:msr y25 a.2<=1048576:=(Nat.le_trans (@j00 y23 y25 a) h)
 have w0:j0c y23 a.1=wgt y23 a.1:=rfl
 have w1:j0c y25 a.2=wgt y25 a.2:=rfl
 have hw:j0c y26 a=wgt y23 a.1+wgt y25 a.2:=by first | rfl | (simp only [j05,w0,w1,j08,j07,j09,Nat.zero_add,Nat.add_zero];done) | (simp only [j05,w0,w1,j08,j07,j09,Nat.zero_add,Nat.add_zero];omega)
 unfold j30
 simp (disch:=first | assumption | omega) only [jgt,jfz]
 first | rfl | (simp only [j0o y23 y25,j05 y23 y25,j0u,j0M,j0C,j0N,w0,w1,j08,j07,j09,Int.natCast_add,Int.natCast_zero,Int.cast_ofNat_Int,Nat.zero_add,Nat.add_zero,Int.add_zero,<-Int.add_assoc];done) | (simp only [j0o y23 y25,j05 y23 y25,j0u,j0M,j0C,j0N,w0,w1,j08,j07,j09,Int.natCast_add,Int.natCast_zero,Int.cast_ofNat_Int,Nat.zero_add,Nat.add_zero,Int.add_zero,<-Int.add_assoc];rfl)
theorem jgP (a:qF×List qR) (k:Int) (h:msr y26 a<=1048576) (h0:1<=k) (hk:k+(j0c y26 a:Int)<=4294967296) (K:Int->Res):j5b (mkT y26 a k) k K=K (k+(j0c y26 a:Int)):=by
 have h0:msr y23 a.1<=1048576:=(Nat.le_trans (@j06 y23 y25 a) h)
 have h1:msr y25 a.2<=1048576:=(Nat.le_trans (@j00 y23 y25 a) h)
 have g0:msr y23 a.1<=1048576:=(Nat.le_trans (@j06 y23 y25 a) h)
 have g1:msr y25 a.2<=1048576:=(Nat.le_trans (@j00 y23 y25 a) h)
 have w0:j0c y23 a.1=wgt y23 a.1:=rfl
 have w1:j0c y25 a.2=wgt y25 a.2:=rfl
 have hw:j0c y26 a=wgt y23 a.1+wgt y25 a.2:=by first | rfl | (simp only [j05,w0,w1,j08,j07,j09,Nat.zero_add,Nat.add_zero];done) | (simp only [j05,w0,w1,j08,j07,j09,Nat.zero_add,Nat.add_zero];omega)
 unfold j5b
 simp (disch:=first | assumption | omega) only [j0o y23 y25,j05 y23 y25,j0u,j0M,j0C,j0N,w0,w1,j08,j07,j09,Int.natCast_add,Int.natCast_zero,Int.cast_ofNat_Int,Nat.zero_add,Nat.add_zero,Int.add_zero,<-Int.add_assoc,jgl,jfq,Z8I,cond_false]
 all_goals (repeat (show (bif decide (_<(0:Int)) then _ else _)=_;rw [Z8I (by omega),cond_false]))
 all_goals first | done | rfl | (congr 1;omega)
end Go.PI.G
namespace Go.PI.G
open Go Go.PI Go.Proofs
theorem jaD (a:List ByteArray) (h:msr y1 a<=1048576) (k:(List ByteArray)->Res):j0Q a k=k a:=by
 have h0:msr y1 a<=1048576:=h
 unfold j0Q
 simp only [jbH _ h0]
theorem jhg (a:List ByteArray) (left:Int) (h0:0<=left) (h1:left<=1048576) (hw:Wf y1 a) (k:Int->Res):j6s a left k=k (szR left (msr y1 a)):=by
 have hm:msr y1 a=msr y1 a+0:=rfl
 rw [hm]
 unfold j6s
 rw [jbG _ _ (by omega) (by omega) hw]
 by_cases hb0:((msr y1 a:Nat):Int)<=left
 rotate_left
 ·rw [Z9b hb0,Z8X hb0,Z8J (by omega),cond_true]
 rw [Z9c hb0,Z8W hb0,Z8I (by omega),cond_false]
 exact j7w (by omega)
theorem jfl (a:List ByteArray) (h:msr y1 a<=1048576) (k:Bool->Res):j3j a a k=k true:=by
 have h0:msr y1 a<=1048576:=h
 unfold j3j
 simp only [Z9o,Z8U,beq_self_eq_true,cond_false,Bool.not_true,j8G _ h0]
theorem jd2 (a:List ByteArray) (k:Int) (h:msr y1 a<=1048576) (h0:1<=k) (hk:k+(j0c y1 a:Int)<=4294967296) (K:Int->(List ByteArray)->Res):j2d a k K=K (k+(j0c y1 a:Int)) (mkT y1 a k):=by
 have h0:msr y1 a<=1048576:=h
 have g0:msr y1 a<=1048576:=h
 have w0:j0c y1 a=wgt y1 a:=rfl
 have hw:j0c y1 a=wgt y1 a:=by first | rfl | (simp only [j05,w0,j08,j07,j09,Nat.zero_add,Nat.add_zero];done) | (simp only [j05,w0,j08,j07,j09,Nat.zero_add,Nat.add_zero];omega)
 unfold j2d
 simp (disch:=first | assumption | omega) only [j77]
 first | rfl | (simp only [j0u,j0M,j0C,j0N,w0,j08,j07,j09,Int.natCast_add,Int.natCast_zero,Int.cast_ofNat_Int,Nat.zero_add,Nat.add_zero,Int.add_zero,<-Int.add_assoc];done) | (simp only [j0u,j0M,j0C,j0N,w0,j08,j07,j09,Int.natCast_add,Int.natCast_zero,Int.cast_ofNat_Int,Nat.zero_add,Nat.add_zero,Int.add_zero,<-Int.add_assoc];rfl)
theorem jgo (a:List ByteArray) (k:Int) (h:msr y1 a<=1048576) (h0:1<=k) (hk:k+(j0c y1 a:Int)<=4294967296) (K:Int->Res):j45 (mkL (wgt .str) (mk .str) a k) k K=K (k+(j0c y1 a:Int)):=by
 have h0:msr y1 a<=1048576:=h
 have g0:msr y1 a<=1048576:=h
 have w0:j0c y1 a=wgt y1 a:=rfl
 have hw:j0c y1 a=wgt y1 a:=by first | rfl | (simp only [j05,w0,j08,j07,j09,Nat.zero_add,Nat.add_zero];done) | (simp only [j05,w0,j08,j07,j09,Nat.zero_add,Nat.add_zero];omega)
 unfold j45
 simp (disch:=first | assumption | omega) only [j0u,j0M,j0C,j0N,w0,j08,j07,j09,Int.natCast_add,Int.natCast_zero,Int.cast_ofNat_Int,Nat.zero_add,Nat.add_zero,Int.add_zero,<-Int.add_assoc,j70,Z8I,cond_false]
 all_goals (repeat (show (bif decide (_<(0:Int)) then _ else _)=_;rw [Z8I (by omega),cond_false]))
 all_goals first | done | rfl | (congr 1;omega)
end Go.PI.G
namespace Go.PI.G
open Go Go.PI Go.Proofs
theorem jfk (a:qD×Int×Int) (h:msr y29 a<=1048576) (k:Bool->Res):j4B a a k=k true:=by
 have h0:msr y26 a.1<=1048576:=(Nat.le_trans (@j06 y26 y28 a) h)
 unfold j4B
 simp only [Z9o,Z8U,beq_self_eq_true,cond_false,Bool.not_true,jge _ h0]
theorem jgu (a:qD×Int×Int) (k:Int) (h:msr y29 a<=1048576) (h0:1<=k) (hk:k+(j0c y29 a:Int)<=4294967296) (K:Int->(qD×Int×Int)->Res):j3c a k K=K (k+(j0c y29 a:Int)) (mkT y29 a k):=by
 have h0:msr y26 a.1<=1048576:=(Nat.le_trans (@j06 y26 y28 a) h)
 have g0:msr y23 a.1.1<=1048576:=(Nat.le_trans (@j06 y23 y25 a.1) (Nat.le_trans (@j06 y26 y28 a) h))
 have g1:msr y25 a.1.2<=1048576:=(Nat.le_trans (@j00 y23 y25 a.1) (Nat.le_trans (@j06 y26 y28 a) h))
 have w0:j0c y23 a.1.1=wgt y23 a.1.1:=rfl
 have w1:j0c y25 a.1.2=wgt y25 a.1.2:=rfl
 have hw:j0c y29 a=wgt y23 a.1.1+wgt y25 a.1.2:=by first | rfl | (simp only [j05,w0,w1,j08,j07,j09,Nat.zero_add,Nat.add_zero];done) | (simp only [j05,w0,w1,j08,j07,j09,Nat.zero_add,Nat.add_zero];omega)
 have v0:j0c y26 a.1=wgt y23 a.1.1+wgt y25 a.1.2:=by first | rfl | (simp only [j05,w0,w1,j08,j07,j09,Nat.zero_add,Nat.add_zero];done) | (simp only [j05,w0,w1,j08,j07,j09,Nat.zero_add,Nat.add_zero];omega)
 unfold j3c
 simp (disch:=first | assumption | omega) only [jeh]
 first | rfl | (simp only [j0o y26 y28,j05 y26 y28,j0o (.int .i64) (.int .i64),j05 (.int .i64) (.int .i64),j0u,j0M,j0C,j0N,w0,w1,j08,j07,j09,Int.natCast_add,Int.natCast_zero,Int.cast_ofNat_Int,Nat.zero_add,Nat.add_zero,Int.add_zero,<-Int.add_assoc];done) | (simp only [j0o y26 y28,j05 y26 y28,j0o (.int .i64) (.int .i64),j05 (.int .i64) (.int .i64),j0u,j0M,j0C,j0N,w0,w1,j08,j07,j09,Int.natCast_add,Int.natCast_zero,Int.cast_ofNat_Int,Nat.zero_add,Nat.add_zero,Int.add_zero,<-Int.add_assoc];rfl)
theorem jgm (a:qD×Int×Int) (k:Int) (h:msr y29 a<=1048576) (h0:1<=k) (hk:k+(j0c y29 a:Int)<=4294967296) (K:Int->Res):j39 (mkT y29 a k) k K=K (k+(j0c y29 a:Int)):=by
 have h0:msr y26 a.1<=1048576:=(Nat.le_trans (@j06 y26 y28 a) h)
 have g0:msr y23 a.1.1<=1048576:=(Nat.le_trans (@j06 y23 y25 a.1) (Nat.le_trans (@j06 y26 y28 a) h))
 have g1:msr y25 a.1.2<=1048576:=(Nat.le_trans (@j00 y23 y25 a.1) (Nat.le_trans (@j06 y26 y28 a) h))
 have w0:j0c y23 a.1.1=wgt y23 a.1.1:=rfl
 have w1:j0c y25 a.1.2=wgt y25 a.1.2:=rfl
 have hw:j0c y29 a=wgt y23 a.1.1+wgt y25 a.1.2:=by first | rfl | (simp only [j05,w0,w1,j08,j07,j09,Nat.zero_add,Nat.add_zero];done) | (simp only [j05,w0,w1,j08,j07,j09,Nat.zero_add,Nat.add_zero];omega)
 have v0:j0c y26 a.1=wgt y23 a.1.1+wgt y25 a.1.2:=by first | rfl | (simp only [j05,w0,w1,j08,j07,j09,Nat.zero_add,Nat.add_zero];done) | (simp only [j05,w0,w1,j08,j07,j09,Nat.zero_add,Nat.add_zero];omega)
 unfold j39
 simp (disch:=first | assumption | omega) only [j0o y26 y28,j05 y26 y28,j0o (.int .i64) (.int .i64),j05 (.int .i64) (.int .i64),j0u,j0M,j0C,j0N,w0,w1,j08,j07,j09,Int.natCast_add,Int.natCast_zero,Int.cast_ofNat_Int,Nat.zero_add,Nat.add_zero,Int.add_zero,<-Int.add_assoc,jgP,Z8I,cond_false]
 all_goals (repeat (show (bif decide (_<(0:Int)) then _ else _)=_;rw [Z8I (by omega),cond_false]))
 all_goals first | done | rfl | (congr 1;omega)
end Go.PI.G
namespace Go.PI.G
open Go Go.PI Go.Proofs
theorem jgJ (a:(List Int)) (h:msr y31 a<=1048576) (k:Bool->Res):j58 a a k=k true:=by
 have hl:a.length<=1048576:=j0d h
 unfold j58
 rw [Z9o,cond_false]
 unfold j73
 rw [Z93 a _ (by unfold LIM;omega) (λi rec hi=> ?_) (λrec=> ?_)]
 ·show j26 a a _ _ _ _=_
  unfold j26
  simp only [Z9q hi,cond_true,j03 hi,Z9a _ _ _ hi,j04 (n:=(i:Int)+1) (by omega),Z9o,Z8U,cond_false,Bool.not_true]
 ·show j26 a a _ _ _ _=_
  unfold j26
  rw [Z9p,cond_false]
theorem jg3 (a:(List Int)) (k:Int) (h:msr y31 a<=1048576) (h0:1<=k) (hk:k+(wgt y31 a:Int)<=4294967296) (K:Int->(List Int)->Res):j3t a k K=K (k+(wgt y31 a:Int)) (mkL (wgt (.int .i64)) (mk (.int .i64)) a k):=by
 have hl:a.length<=1048576:=j0d h
 have hwg:wgt y31 a=(a.map (wgt (.int .i64))).sum:=rfl
 rw [hwg] at hk ⊢
 unfold j3t j5J
 have:=Z8D (wgt (.int .i64)) (mk (.int .i64)) a k (λl k i=>(l,k,i)) (step:=j4a) (λl k=>K k l) (λl k=>K k l) (by unfold LIM;omega) (λl i rec hi hll hli hla=>by
  have e1:=Z6s (wgt (.int .i64)) a i hi
  have e2:=Z8p (wgt (.int .i64)) a (i+1)
  generalize hκ:k+((((a.take i).map (wgt (.int .i64))).sum:Nat):Int)=κ
  have hκ1:1<=κ/\κ+(wgt (.int .i64) a[i]:Int)<=4294967296:=by omega
  have hw:(wgt (.int .i64) a[i]:Int)=1:=by
   have:wgt (.int .i64) a[i]=1:=by first | rfl | (simp only [wgt];done) | (simp only [wgt];omega)
   first | rfl | omega
  show j1t _ _ _ _ _=_
  dsimp only
  unfold j1t
  rw [<-hll] at hi
  have hi':i<a.length:=by omega
  simp (disch:=first | assumption | omega) only [show nI a.length=nI l.length by rw [hll],Z9q,j03,j3A,cond_true,j3x,j3B,Z9a,hla,j04,j0j,<-hll]
  rw [Z9h]
  congr 3<;>first | rfl | omega | (simp only [j0l,j0g,j0r,j0A,j0k,j0s,j0i,j0m,j0h,j0n,Int.natCast_add,Int.natCast_one,<-Int.add_assoc];done) | (simp only [j0l,j0g,j0r,j0A,j0k,j0s,j0i,j0m,j0h,j0n,Int.natCast_add,Int.natCast_one,<-Int.add_assoc];rfl) | skip) (λl k rec hll=>by
  show j1t _ _ _ _ _=_
  dsimp only
  unfold j1t
  rw [<-hll,Z9p,cond_false])
 exact this
theorem jfV (a:(List Int)) (k:Int) (h:msr y31 a<=1048576) (h0:1<=k) (hk:k+(wgt y31 a:Int)<=4294967296) (K:Int->Res):j3r (mkL (wgt (.int .i64)) (mk (.int .i64)) a k) k K=K (k+(wgt y31 a:Int)):=by
 have hl:a.length<=1048576:=j0d h
 have hwg:wgt y31 a=(a.map (wgt (.int .i64))).sum:=rfl
 rw [hwg] at hk ⊢
 have hll:=Z5t (wgt (.int .i64)) (mk (.int .i64)) a k
 have hg:=Z96 (wgt (.int .i64)) (mk (.int .i64)) a k
 generalize mkL (wgt (.int .i64)) (mk (.int .i64)) a k=l at hll hg
 unfold j3r j5E
 have:=Z8A (wgt (.int .i64)) a k (λk i=>(k,i)) (step:=j43 l) ((λ(k_1:Int)=>K k_1),(λ(_:Unit)=>K (-1))) (λk=>K k) (by unfold LIM;omega) (λi rec hi=>by
  have e1:=Z6s (wgt (.int .i64)) a i hi
  have e2:=Z8p (wgt (.int .i64)) a (i+1)
  have hgi:=hg i hi (by omega)
  generalize hκ:k+((((a.take i).map (wgt (.int .i64))).sum:Nat):Int)=κ at hgi
  have hκ1:1<=κ/\κ+(wgt (.int .i64) a[i]:Int)<=4294967296:=by omega
  have hw:(wgt (.int .i64) a[i]:Int)=1:=by
   have:wgt (.int .i64) a[i]=1:=by first | rfl | (simp only [wgt];done) | (simp only [wgt];omega)
   first | rfl | omega
  show j1q _ _ _ _ _ _=_
  dsimp only
  unfold j1q
  have hi':i<l.length:=by omega
  simp (disch:=first | assumption | omega) only [Z9q,j03,cond_true,cond_false,Z9a,hgi,j0l,j0g,j0r,j0A,j0k,j0s,j0i,j0m,j0h,j0n,Int.natCast_add,Int.natCast_one,<-Int.add_assoc,j04,j0j,Z9o,Z8U,beq_self_eq_true,Bool.not_true,Z8I]
  all_goals (congr 2;omega)) (λk rec=>by
  show j1q _ _ _ _ _ _=_
  dsimp only
  unfold j1q
  rw [<-hll,Z9p,cond_false])
 exact this
end Go.PI.G
namespace Go.PI.G
open Go Go.PI Go.Proofs
theorem jgh (a:(List Int)) (h:msr y0 a<=1048576) (k:Bool->Res):j6j a a k=k true:=by
 have hl:a.length<=1048576:=j0d h
 unfold j6j
 rw [Z9o,cond_false]
 unfold j6k
 rw [Z93 a _ (by unfold LIM;omega) (λi rec hi=> ?_) (λrec=> ?_)]
 ·show j1H a a _ _ _ _=_
  unfold j1H
  simp only [Z9q hi,cond_true,j03 hi,Z9a _ _ _ hi,j04 (n:=(i:Int)+1) (by omega),Z9o,Z8U,cond_false,Bool.not_true]
 ·show j1H a a _ _ _ _=_
  unfold j1H
  rw [Z9p,cond_false]
theorem jfx (a:(List Int)) (k:Int) (h:msr y0 a<=1048576) (h0:1<=k) (hk:k+(wgt y0 a:Int)<=4294967296) (K:Int->(List Int)->Res):j4F a k K=K (k+(wgt y0 a:Int)) (mkL (wgt (.int .u8)) (mk (.int .u8)) a k):=by
 have hl:a.length<=1048576:=j0d h
 have hwg:wgt y0 a=(a.map (wgt (.int .u8))).sum:=rfl
 rw [hwg] at hk ⊢
 unfold j4F j4X
 have:=Z8D (wgt (.int .u8)) (mk (.int .u8)) a k (λl k i=>(l,k,i)) (step:=j3G) (λl k=>K k l) (λl k=>K k l) (by unfold LIM;omega) (λl i rec hi hll hli hla=>by
  have e1:=Z6s (wgt (.int .u8)) a i hi
  have e2:=Z8p (wgt (.int .u8)) a (i+1)
  generalize hκ:k+((((a.take i).map (wgt (.int .u8))).sum:Nat):Int)=κ
  have hκ1:1<=κ/\κ+(wgt (.int .u8) a[i]:Int)<=4294967296:=by omega
  have hw:(wgt (.int .u8) a[i]:Int)=1:=by
   have:wgt (.int .u8) a[i]=1:=by first | rfl | (simp only [wgt];done) | (simp only [wgt];omega)
   first | rfl | omega
  show j1c _ _ _ _ _=_
  dsimp only
  unfold j1c
  rw [<-hll] at hi
  have hi':i<a.length:=by omega
  simp (disch:=first | assumption | omega) only [show nI a.length=nI l.length by rw [hll],Z9q,j03,j3A,cond_true,j3x,j3B,Z9a,hla,j04,j0j,<-hll]
  rw [Z9h]
  congr 3<;>first | rfl | omega | (simp only [j0l,j0g,j0r,j0A,j0k,j0s,j0i,j0m,j0h,j0n,Int.natCast_add,Int.natCast_one,<-Int.add_assoc];done) | (simp only [j0l,j0g,j0r,j0A,j0k,j0s,j0i,j0m,j0h,j0n,Int.natCast_add,Int.natCast_one,<-Int.add_assoc];rfl) | skip) (λl k rec hll=>by
  show j1c _ _ _ _ _=_
  dsimp only
  unfold j1c
  rw [<-hll,Z9p,cond_false])
 exact this
theorem jfo (a:(List Int)) (k:Int) (h:msr y0 a<=1048576) (h0:1<=k) (hk:k+(wgt y0 a:Int)<=4294967296) (K:Int->Res):j4D (mkL (wgt (.int .u8)) (mk (.int .u8)) a k) k K=K (k+(wgt y0 a:Int)):=by
 have hl:a.length<=1048576:=j0d h
 have hwg:wgt y0 a=(a.map (wgt (.int .u8))).sum:=rfl
 rw [hwg] at hk ⊢
 have hll:=Z5t (wgt (.int .u8)) (mk (.int .u8)) a k
 have hg:=Z96 (wgt (.int .u8)) (mk (.int .u8)) a k
 generalize mkL (wgt (.int .u8)) (mk (.int .u8)) a k=l at hll hg
 unfold j4D j4U
 have:=Z8A (wgt (.int .u8)) a k (λk i=>(k,i)) (step:=j3C l) ((λ(k_1:Int)=>K k_1),(λ(_:Unit)=>K (-1))) (λk=>K k) (by unfold LIM;omega) (λi rec hi=>by
  have e1:=Z6s (wgt (.int .u8)) a i hi
  have e2:=Z8p (wgt (.int .u8)) a (i+1)
  have hgi:=hg i hi (by omega)
  generalize hκ:k+((((a.take i).map (wgt (.int .u8))).sum:Nat):Int)=κ at hgi
  have hκ1:1<=κ/\κ+(wgt (.int .u8) a[i]:Int)<=4294967296:=by omega
  have hw:(wgt (.int .u8) a[i]:Int)=1:=by
   have:wgt (.int .u8) a[i]=1:=by first | rfl | (simp only [wgt];done) | (simp only [wgt];omega)
   first | rfl | omega
  show j19 _ _ _ _ _ _=_
  dsimp only
  unfold j19
  have hi':i<l.length:=by omega
  simp (disch:=first | assumption | omega) only [Z9q,j03,cond_true,cond_false,Z9a,hgi,j0l,j0g,j0r,j0A,j0k,j0s,j0i,j0m,j0h,j0n,Int.natCast_add,Int.natCast_one,<-Int.add_assoc,j04,j0j,Z9o,Z8U,beq_self_eq_true,Bool.not_true,Z8I]
  all_goals (congr 2;omega)) (λk rec=>by
  show j19 _ _ _ _ _ _=_
  dsimp only
  unfold j19
  rw [<-hll,Z9p,cond_false])
 exact this
end Go.PI.G
namespace Go.PI.G
open Go Go.PI Go.Proofs
theorem jgK (a:List Int) (h:msr y0 a<=1048576) (k:Bool->Res):j7k a a k=k true:=by
 have h0:msr y0 a<=1048576:=h
 unfold j7k
 simp only [Z9o,Z8U,beq_self_eq_true,cond_false,Bool.not_true,jgh _ h0]
end Go.PI.G
namespace Go.PI.G
open Go Go.PI Go.Proofs
theorem jgi (a:(List (List Int))) (h:msr y30 a<=1048576) (k:Bool->Res):j6n a a k=k true:=by
 have hl:a.length<=1048576:=j0d h
 unfold j6n
 rw [Z9o,cond_false]
 unfold j6o
 rw [Z93 a _ (by unfold LIM;omega) (λi rec hi=> ?_) (λrec=> ?_)]
 ·show j1I a a _ _ _ _=_
  unfold j1I
  simp only [Z9q hi,cond_true,j03 hi,Z9a _ _ _ hi,j04 (n:=(i:Int)+1) (by omega),Z9o,Z8U,cond_false,Bool.not_true,jgK _ (j0e h (List.getElem_mem hi))]
 ·show j1I a a _ _ _ _=_
  unfold j1I
  rw [Z9p,cond_false]
theorem jfy (a:(List (List Int))) (k:Int) (h:msr y30 a<=1048576) (h0:1<=k) (hk:k+(wgt y30 a:Int)<=4294967296) (K:Int->(List (List Int))->Res):j4G a k K=K (k+(wgt y30 a:Int)) (mkL (wgt y0) (mk y0) a k):=by
 have hl:a.length<=1048576:=j0d h
 have hwg:wgt y30 a=(a.map (wgt y0)).sum:=rfl
 rw [hwg] at hk ⊢
 unfold j4G j4Y
 have:=Z8D (wgt y0) (mk y0) a k (λl k i=>(l,k,i)) (step:=j3H) (λl k=>K k l) (λl k=>K k l) (by unfold LIM;omega) (λl i rec hi hll hli hla=>by
  have e1:=Z6s (wgt y0) a i hi
  have e2:=Z8p (wgt y0) a (i+1)
  generalize hκ:k+((((a.take i).map (wgt y0)).sum:Nat):Int)=κ
  have hκ1:1<=κ/\κ+(wgt y0 a[i]:Int)<=4294967296:=by omega
  have hw:(wgt y0 a[i]:Int)=(wgt y0 a[i]:Int):=by
   have:wgt y0 a[i]=(wgt y0 a[i]):=by first | rfl | (simp only [wgt];done) | (simp only [wgt];omega)
   first | rfl | omega
  have hr0:msr y0 a[i]<=1048576:=(j0e h (List.getElem_mem hi))
  show j1d _ _ _ _ _=_
  dsimp only
  unfold j1d
  rw [<-hll] at hi
  have hi':i<a.length:=by omega
  simp (disch:=first | assumption | omega) only [show nI a.length=nI l.length by rw [hll],Z9q,j03,j3A,cond_true,j3x,j3B,Z9a,hla,j04,j0j,jfx,<-hll]
  rw [Z9h]
  congr 3<;>first | rfl | omega | (simp only [j0l,j0g,j0r,j0A,j0k,j0s,j0i,j0m,j0h,j0n,Int.natCast_add,Int.natCast_one,<-Int.add_assoc];done) | (simp only [j0l,j0g,j0r,j0A,j0k,j0s,j0i,j0m,j0h,j0n,Int.natCast_add,Int.natCast_one,<-Int.add_assoc];rfl) | skip) (λl k rec hll=>by
  show j1d _ _ _ _ _=_
  dsimp only
  unfold j1d
  rw [<-hll,Z9p,cond_false])
 exact this
theorem jfp (a:(List (List Int))) (k:Int) (h:msr y30 a<=1048576) (h0:1<=k) (hk:k+(wgt y30 a:Int)<=4294967296) (K:Int->Res):j4E (mkL (wgt y0) (mk y0) a k) k K=K (k+(wgt y30 a:Int)):=by
 have hl:a.length<=1048576:=j0d h
 have hwg:wgt y30 a=(a.map (wgt y0)).sum:=rfl
 rw [hwg] at hk ⊢
 have hll:=Z5t (wgt y0) (mk y0) a k
 have hg:=Z96 (wgt y0) (mk y0) a k
 generalize mkL (wgt y0) (mk y0) a k=l at hll hg
 unfold j4E j4V
 have:=Z8A (wgt y0) a k (λk i=>(k,i)) (step:=j3D l) ((λ(k_1:Int)=>K k_1),(λ(_:Unit)=>K (-1))) (λk=>K k) (by unfold LIM;omega) (λi rec hi=>by
  have e1:=Z6s (wgt y0) a i hi
  have e2:=Z8p (wgt y0) a (i+1)
  have hgi:=hg i hi (by omega)
  generalize hκ:k+((((a.take i).map (wgt y0)).sum:Nat):Int)=κ at hgi
  have hκ1:1<=κ/\κ+(wgt y0 a[i]:Int)<=4294967296:=by omega
  have hw:(wgt y0 a[i]:Int)=(wgt y0 a[i]:Int):=by
   have:wgt y0 a[i]=(wgt y0 a[i]):=by first | rfl | (simp only [wgt];done) | (simp only [wgt];omega)
   first | rfl | omega
  have hr0:msr y0 a[i]<=1048576:=(j0e h (List.getElem_mem hi))
  show j1a _ _ _ _ _ _=_
  dsimp only
  unfold j1a
  have hi':i<l.length:=by omega
  simp (disch:=first | assumption | omega) only [Z9q,j03,cond_true,cond_false,Z9a,hgi,j0l,j0g,j0r,j0A,j0k,j0s,j0i,j0m,j0h,j0n,Int.natCast_add,Int.natCast_one,<-Int.add_assoc,j04,j0j,Z9o,Z8U,beq_self_eq_true,Bool.not_true,Z8I,jfo]
  all_goals (congr 2;omega)) (λk rec=>by
  show j1a _ _ _ _ _ _=_
  dsimp only
  unfold j1a
  rw [<-hll,Z9p,cond_false])
 exact this
end Go.PI.G
namespace Go.PI.G
open Go Go.PI Go.Proofs
theorem jh9 (a:List (List Int)) (h:msr y30 a<=1048576) (k:Bool->Res):j6m a a k=k true:=by
 have h0:msr y30 a<=1048576:=h
 unfold j6m
 simp only [Z9o,Z8U,beq_self_eq_true,cond_false,Bool.not_true,jgi _ h0]
theorem jgv (a:List (List Int)) (k:Int) (h:msr y30 a<=1048576) (h0:1<=k) (hk:k+(j0c y30 a:Int)<=4294967296) (K:Int->(List (List Int))->Res):j4b a k K=K (k+(j0c y30 a:Int)) (mkT y30 a k):=by
 have h0:msr y30 a<=1048576:=h
 have g0:msr y30 a<=1048576:=h
 have w0:j0c y30 a=wgt y30 a:=rfl
 have hw:j0c y30 a=wgt y30 a:=by first | rfl | (simp only [j05,w0,j08,j07,j09,Nat.zero_add,Nat.add_zero];done) | (simp only [j05,w0,j08,j07,j09,Nat.zero_add,Nat.add_zero];omega)
 unfold j4b
 simp (disch:=first | assumption | omega) only [jfy]
 first | rfl | (simp only [j0u,j0M,j0C,j0N,w0,j08,j07,j09,Int.natCast_add,Int.natCast_zero,Int.cast_ofNat_Int,Nat.zero_add,Nat.add_zero,Int.add_zero,<-Int.add_assoc];done) | (simp only [j0u,j0M,j0C,j0N,w0,j08,j07,j09,Int.natCast_add,Int.natCast_zero,Int.cast_ofNat_Int,Nat.zero_add,Nat.add_zero,Int.add_zero,<-Int.add_assoc];rfl)
theorem jgn (a:List (List Int)) (k:Int) (h:msr y30 a<=1048576) (h0:1<=k) (hk:k+(j0c y30 a:Int)<=4294967296) (K:Int->Res):j44 (mkL (wgt y0) (mk y0) a k) k K=K (k+(j0c y30 a:Int)):=by
 have h0:msr y30 a<=1048576:=h
 have g0:msr y30 a<=1048576:=h
 have w0:j0c y30 a=wgt y30 a:=rfl
 have hw:j0c y30 a=wgt y30 a:=by first | rfl | (simp only [j05,w0,j08,j07,j09,Nat.zero_add,Nat.add_zero];done) | (simp only [j05,w0,j08,j07,j09,Nat.zero_add,Nat.add_zero];omega)
 unfold j44
 simp (disch:=first | assumption | omega) only [j0u,j0M,j0C,j0N,w0,j08,j07,j09,Int.natCast_add,Int.natCast_zero,Int.cast_ofNat_Int,Nat.zero_add,Nat.add_zero,Int.add_zero,<-Int.add_assoc,jfp,Z8I,cond_false]
 all_goals (repeat (show (bif decide (_<(0:Int)) then _ else _)=_;rw [Z8I (by omega),cond_false]))
 all_goals first | done | rfl | (congr 1;omega)
end Go.PI.G
namespace Go.PI.G
open Go Go.PI Go.Proofs
theorem jh8 (a:Int×ByteArray×qE×List ByteArray×ByteArray×ByteArray) (h:msr y14 a<=1048576) (k:Bool->Res):j4A a a k=k true:=by
 have h2:msr y9 a.2.2.1<=1048576:=(Nat.le_trans (@j06 y9 y11 a.2.2) (Nat.le_trans (@j00 .str y12 a.2) (Nat.le_trans (@j00 (.int .i64) y13 a) h)))
 have h3:msr y1 a.2.2.2.1<=1048576:=(Nat.le_trans (@j06 y1 y10 a.2.2.2) (Nat.le_trans (@j00 y9 y11 a.2.2) (Nat.le_trans (@j00 .str y12 a.2) (Nat.le_trans (@j00 (.int .i64) y13 a) h))))
 unfold j4A
 simp only [Z9o,Z8U,beq_self_eq_true,cond_false,Bool.not_true,jed _ h2,j8G _ h3]
end Go.PI.G
namespace Go.PI.G
open Go Go.PI Go.Proofs
theorem jgO (a:Int×ByteArray×qW×qW×Int×ByteArray×qE×List ByteArray×ByteArray×ByteArray) (h:msr y18 a<=1048576) (k:Bool->Res):j5a a a k=k true:=by
 have h2:msr y4 a.2.2.1<=1048576:=(Nat.le_trans (@j06 y4 y15 a.2.2) (Nat.le_trans (@j00 .str y16 a.2) (Nat.le_trans (@j00 (.int .i64) y17 a) h)))
 have h3:msr y4 a.2.2.2.1<=1048576:=(Nat.le_trans (@j06 y4 y14 a.2.2.2) (Nat.le_trans (@j00 y4 y15 a.2.2) (Nat.le_trans (@j00 .str y16 a.2) (Nat.le_trans (@j00 (.int .i64) y17 a) h))))
 have h4:msr y14 a.2.2.2.2<=1048576:=(Nat.le_trans (@j00 y4 y14 a.2.2.2) (Nat.le_trans (@j00 y4 y15 a.2.2) (Nat.le_trans (@j00 .str y16 a.2) (Nat.le_trans (@j00 (.int .i64) y17 a) h))))
 unfold j5a
 simp only [Z9o,Z8U,beq_self_eq_true,cond_false,Bool.not_true,jee _ h2,jfm _ h3,jh8 _ h4]
end Go.PI.G
namespace Go.PI.G
open Go Go.PI Go.Proofs
theorem jha (a:Int×Int×Int×ByteArray×qW×qW×Int×ByteArray×qE×List ByteArray×ByteArray×ByteArray) (h:msr y20 a<=1048576) (k:Bool->Res):j8i a a k=k true:=by
 have h2:msr y18 a.2.2<=1048576:=(Nat.le_trans (@j00 (.int .i64) y18 a.2) (Nat.le_trans (@j00 (.int .i64) y19 a) h))
 unfold j8i
 simp only [Z9o,Z8U,beq_self_eq_true,cond_false,Bool.not_true,jgO _ h2]
end Go.PI.G
namespace Go.PI.G
open Go Go.PI Go.Proofs
theorem jgL (a:(List (Int×Int×Int×ByteArray×qW×qW×Int×ByteArray×qE×List ByteArray×ByteArray×ByteArray))) (h:msr y27 a<=1048576) (k:Bool->Res):j59 a a k=k true:=by
 have hl:a.length<=1048576:=j0d h
 unfold j59
 rw [Z9o,cond_false]
 unfold j74
 rw [Z93 a _ (by unfold LIM;omega) (λi rec hi=> ?_) (λrec=> ?_)]
 ·show j27 a a _ _ _ _=_
  unfold j27
  simp only [Z9q hi,cond_true,j03 hi,Z9a _ _ _ hi,j04 (n:=(i:Int)+1) (by omega),Z9o,Z8U,cond_false,Bool.not_true,jha _ (j0e h (List.getElem_mem hi))]
 ·show j27 a a _ _ _ _=_
  unfold j27
  rw [Z9p,cond_false]
theorem jg4 (a:(List (Int×Int×Int×ByteArray×qW×qW×Int×ByteArray×qE×List ByteArray×ByteArray×ByteArray))) (k:Int) (h:msr y27 a<=1048576) (h0:1<=k) (hk:k+(wgt y27 a:Int)<=4294967296) (K:Int->(List (Int×Int×Int×ByteArray×qW×qW×Int×ByteArray×qE×List ByteArray×ByteArray×ByteArray))->Res):j3u a k K=K (k+(wgt y27 a:Int)) (mkL (wgt y20) (mk y20) a k):=by
 have hl:a.length<=1048576:=j0d h
 have hwg:wgt y27 a=(a.map (wgt y20)).sum:=rfl
 rw [hwg] at hk ⊢
 unfold j3u j5K
 have:=Z8D (wgt y20) (mk y20) a k (λl k i=>(l,k,i)) (step:=j2M) (λl k=>K k l) (λl k=>K k l) (by unfold LIM;omega) (λl i rec hi hll hli hla=>by
  have e1:=Z6s (wgt y20) a i hi
  have e2:=Z8p (wgt y20) a (i+1)
  generalize hκ:k+((((a.take i).map (wgt y20)).sum:Nat):Int)=κ
  have hκ1:1<=κ/\κ+(wgt y20 a[i]:Int)<=4294967296:=by omega
  have hw:(wgt y20 a[i]:Int)=1+1+1+1+(wgt y4 a[i].2.2.2.2.1:Int)+(wgt y4 a[i].2.2.2.2.2.1:Int)+1+1+(wgt y9 a[i].2.2.2.2.2.2.2.2.1:Int)+(wgt y1 a[i].2.2.2.2.2.2.2.2.2.1:Int)+1+1:=by
   have:wgt y20 a[i]=1+1+1+1+(wgt y4 a[i].2.2.2.2.1)+(wgt y4 a[i].2.2.2.2.2.1)+1+1+(wgt y9 a[i].2.2.2.2.2.2.2.2.1)+(wgt y1 a[i].2.2.2.2.2.2.2.2.2.1)+1+1:=by first | rfl | (simp only [wgt];done) | (simp only [wgt];omega)
   first | rfl | omega
  have hr0:msr y4 a[i].2.2.2.2.1<=1048576:=(Nat.le_trans (@j06 y4 y15 a[i].2.2.2.2) (Nat.le_trans (@j00 .str y16 a[i].2.2.2) (Nat.le_trans (@j00 (.int .i64) y17 a[i].2.2) (Nat.le_trans (@j00 (.int .i64) y18 a[i].2) (Nat.le_trans (@j00 (.int .i64) y19 a[i]) (j0e h (List.getElem_mem hi)))))))
  have hr1:msr y4 a[i].2.2.2.2.2.1<=1048576:=(Nat.le_trans (@j06 y4 y14 a[i].2.2.2.2.2) (Nat.le_trans (@j00 y4 y15 a[i].2.2.2.2) (Nat.le_trans (@j00 .str y16 a[i].2.2.2) (Nat.le_trans (@j00 (.int .i64) y17 a[i].2.2) (Nat.le_trans (@j00 (.int .i64) y18 a[i].2) (Nat.le_trans (@j00 (.int .i64) y19 a[i]) (j0e h (List.getElem_mem hi))))))))
  have hr2:msr y9 a[i].2.2.2.2.2.2.2.2.1<=1048576:=(Nat.le_trans (@j06 y9 y11 a[i].2.2.2.2.2.2.2.2) (Nat.le_trans (@j00 .str y12 a[i].2.2.2.2.2.2.2) (Nat.le_trans (@j00 (.int .i64) y13 a[i].2.2.2.2.2.2) (Nat.le_trans (@j00 y4 y14 a[i].2.2.2.2.2) (Nat.le_trans (@j00 y4 y15 a[i].2.2.2.2) (Nat.le_trans (@j00 .str y16 a[i].2.2.2) (Nat.le_trans (@j00 (.int .i64) y17 a[i].2.2) (Nat.le_trans (@j00 (.int .i64) y18 a[i].2) (Nat.le_trans (@j00 (.int .i64) y19 a[i]) (j0e h (List.getElem_mem hi)))))))))))
  have hr3:msr y1 a[i].2.2.2.2.2.2.2.2.2.1<=1048576:=(Nat.le_trans (@j06 y1 y10 a[i].2.2.2.2.2.2.2.2.2) (Nat.le_trans (@j00 y9 y11 a[i].2.2.2.2.2.2.2.2) (Nat.le_trans (@j00 .str y12 a[i].2.2.2.2.2.2.2) (Nat.le_trans (@j00 (.int .i64) y13 a[i].2.2.2.2.2.2) (Nat.le_trans (@j00 y4 y14 a[i].2.2.2.2.2) (Nat.le_trans (@j00 y4 y15 a[i].2.2.2.2) (Nat.le_trans (@j00 .str y16 a[i].2.2.2) (Nat.le_trans (@j00 (.int .i64) y17 a[i].2.2) (Nat.le_trans (@j00 (.int .i64) y18 a[i].2) (Nat.le_trans (@j00 (.int .i64) y19 a[i]) (j0e h (List.getElem_mem hi))))))))))))
  show j0Y _ _ _ _ _=_
  dsimp only
  unfold j0Y j2e j2f j2g j2h j2i j2j j2k
  rw [<-hll] at hi
  have hi':i<a.length:=by omega
  simp (disch:=first | assumption | omega) only [show nI a.length=nI l.length by rw [hll],Z9q,j03,j3A,cond_true,j3x,j3B,Z9a,hla,j04,j0j,jck,j77,jcl,<-hll]
  rw [Z9h]
  congr 3<;>first | rfl | omega | (simp only [j0l,j0g,j0r,j0A,j0k,j0s,j0i,j0m,j0h,j0n,Int.natCast_add,Int.natCast_one,<-Int.add_assoc];done) | (simp only [j0l,j0g,j0r,j0A,j0k,j0s,j0i,j0m,j0h,j0n,Int.natCast_add,Int.natCast_one,<-Int.add_assoc];rfl) | skip) (λl k rec hll=>by
  show j0Y _ _ _ _ _=_
  dsimp only
  unfold j0Y j2e j2f j2g j2h j2i j2j j2k
  rw [<-hll,Z9p,cond_false])
 exact this
theorem jfW (a:(List (Int×Int×Int×ByteArray×qW×qW×Int×ByteArray×qE×List ByteArray×ByteArray×ByteArray))) (k:Int) (h:msr y27 a<=1048576) (h0:1<=k) (hk:k+(wgt y27 a:Int)<=4294967296) (K:Int->Res):j3s (mkL (wgt y20) (mk y20) a k) k K=K (k+(wgt y27 a:Int)):=by
 have hl:a.length<=1048576:=j0d h
 have hwg:wgt y27 a=(a.map (wgt y20)).sum:=rfl
 rw [hwg] at hk ⊢
 have hll:=Z5t (wgt y20) (mk y20) a k
 have hg:=Z96 (wgt y20) (mk y20) a k
 generalize mkL (wgt y20) (mk y20) a k=l at hll hg
 unfold j3s j5F
 have:=Z8A (wgt y20) a k (λk i=>(k,i)) (step:=j2K l) ((λ(k_1:Int)=>K k_1),(λ(_:Unit)=>K (-1))) (λk=>K k) (by unfold LIM;omega) (λi rec hi=>by
  have e1:=Z6s (wgt y20) a i hi
  have e2:=Z8p (wgt y20) a (i+1)
  have hgi:=hg i hi (by omega)
  generalize hκ:k+((((a.take i).map (wgt y20)).sum:Nat):Int)=κ at hgi
  have hκ1:1<=κ/\κ+(wgt y20 a[i]:Int)<=4294967296:=by omega
  have hw:(wgt y20 a[i]:Int)=1+1+1+1+(wgt y4 a[i].2.2.2.2.1:Int)+(wgt y4 a[i].2.2.2.2.2.1:Int)+1+1+(wgt y9 a[i].2.2.2.2.2.2.2.2.1:Int)+(wgt y1 a[i].2.2.2.2.2.2.2.2.2.1:Int)+1+1:=by
   have:wgt y20 a[i]=1+1+1+1+(wgt y4 a[i].2.2.2.2.1)+(wgt y4 a[i].2.2.2.2.2.1)+1+1+(wgt y9 a[i].2.2.2.2.2.2.2.2.1)+(wgt y1 a[i].2.2.2.2.2.2.2.2.2.1)+1+1:=by first | rfl | (simp only [wgt];done) | (simp only [wgt];omega)
   first | rfl | omega
  have hr0:msr y4 a[i].2.2.2.2.1<=1048576:=(Nat.le_trans (@j06 y4 y15 a[i].2.2.2.2) (Nat.le_trans (@j00 .str y16 a[i].2.2.2) (Nat.le_trans (@j00 (.int .i64) y17 a[i].2.2) (Nat.le_trans (@j00 (.int .i64) y18 a[i].2) (Nat.le_trans (@j00 (.int .i64) y19 a[i]) (j0e h (List.getElem_mem hi)))))))
  have hr1:msr y4 a[i].2.2.2.2.2.1<=1048576:=(Nat.le_trans (@j06 y4 y14 a[i].2.2.2.2.2) (Nat.le_trans (@j00 y4 y15 a[i].2.2.2.2) (Nat.le_trans (@j00 .str y16 a[i].2.2.2) (Nat.le_trans (@j00 (.int .i64) y17 a[i].2.2) (Nat.le_trans (@j00 (.int .i64) y18 a[i].2) (Nat.le_trans (@j00 (.int .i64) y19 a[i]) (j0e h (List.getElem_mem hi))))))))
  have hr2:msr y9 a[i].2.2.2.2.2.2.2.2.1<=1048576:=(Nat.le_trans (@j06 y9 y11 a[i].2.2.2.2.2.2.2.2) (Nat.le_trans (@j00 .str y12 a[i].2.2.2.2.2.2.2) (Nat.le_trans (@j00 (.int .i64) y13 a[i].2.2.2.2.2.2) (Nat.le_trans (@j00 y4 y14 a[i].2.2.2.2.2) (Nat.le_trans (@j00 y4 y15 a[i].2.2.2.2) (Nat.le_trans (@j00 .str y16 a[i].2.2.2) (Nat.le_trans (@j00 (.int .i64) y17 a[i].2.2) (Nat.le_trans (@j00 (.int .i64) y18 a[i].2) (Nat.le_trans (@j00 (.int .i64) y19 a[i]) (j0e h (List.getElem_mem hi)))))))))))
  have hr3:msr y1 a[i].2.2.2.2.2.2.2.2.2.1<=1048576:=(Nat.le_trans (@j06 y1 y10 a[i].2.2.2.2.2.2.2.2.2) (Nat.le_trans (@j00 y9 y11 a[i].2.2.2.2.2.2.2.2) (Nat.le_trans (@j00 .str y12 a[i].2.2.2.2.2.2.2) (Nat.le_trans (@j00 (.int .i64) y13 a[i].2.2.2.2.2.2) (Nat.le_trans (@j00 y4 y14 a[i].2.2.2.2.2) (Nat.le_trans (@j00 y4 y15 a[i].2.2.2.2) (Nat.le_trans (@j00 .str y16 a[i].2.2.2) (Nat.le_trans (@j00 (.int .i64) y17 a[i].2.2) (Nat.le_trans (@j00 (.int .i64) y18 a[i].2) (Nat.le_trans (@j00 (.int .i64) y19 a[i]) (j0e h (List.getElem_mem hi))))))))))))
  show j0V _ _ _ _ _ _=_
  dsimp only
  unfold j0V
  have hi':i<l.length:=by omega
  simp (disch:=first | assumption | omega) only [Z9q,j03,cond_true,cond_false,Z9a,hgi,j0l,j0g,j0r,j0A,j0k,j0s,j0i,j0m,j0h,j0n,Int.natCast_add,Int.natCast_one,<-Int.add_assoc,j04,j0j,Z9o,Z8U,beq_self_eq_true,Bool.not_true,Z8I,jci,j70,jcj]
  all_goals (congr 2;omega)) (λk rec=>by
  show j0V _ _ _ _ _ _=_
  dsimp only
  unfold j0V
  rw [<-hll,Z9p,cond_false])
 exact this
end Go.PI.G
