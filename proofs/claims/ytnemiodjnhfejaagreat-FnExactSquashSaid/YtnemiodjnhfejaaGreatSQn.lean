/-
  Program's code interpreted over typed values; printed texts; plain laws. No conditions.
-/
import Derived.Test.YtnemiodjnhfejaaGreatSQm
import Derived.Test.YtnemiodjnhfejaaGreatSQh
import Derived.Test.YtnemiodjnhfejaaGreatSQi
set_option linter.unusedVariables false
set_option linter.unusedSimpArgs false
set_option maxRecDepth 10000
namespace Go.PI.G
open Go Go.PI Go.Proofs
theorem jpR (a:qF) (h:msr y11 a<=1048576) (k:qF->Res):jaa a k=k a:=by
 have g:a.length<=1048576:=j0c h
 unfold jaa
 rw [Zav (by unfold LIM;omega),cond_true]
 have:=ZaC ((eS,[],[])) a id (step:=j8L a) (λb=>k b) (by unfold LIM;omega) (λb i rec d f=>by
  show j34 a _ _ _ _=_
  unfold j34
  dsimp only
  simp only [ZaQ d,cond_true,j00 d,j00 (show i<b.length by omega),Zay _ _ _ d,ZaF,j01 (n:=(i:Int)+1) (by omega),jqH _ (j0h h (List.getElem_mem d))]
  rfl) (λb rec=>by
  show j34 a _ _ _ _=_
  unfold j34
  dsimp only
  rw [ZaP,cond_false])
 rw [List.map_id] at this
 exact this
theorem jpQ (a:qF) (left:Int) (g:0<=left) (h:left<=1048576) (l:Wf y11 a) (k:Int->Res):ja9 a left k=k (szR left (msr y11 a)):=by
 have j:a.length<=maxLen:=l.1
 have p:msr y11 a=a.length+(a.map (msr y10)).sum:=rfl
 rw [p]
 unfold ja9
 refine jeV (F:=λq=>jak a Z1c q 0 (λd=>k d) (λ_=>k (-1))) (k:=k) g h j λb=> ?_
 unfold jak
 rw [ZaB (msr y10) a _ (by omega) (λleft i rec f g h=> ?_) (λleft rec=> ?_) _ (by omega) (by omega)]
 ·by_cases b:(((a.map (msr y10)).sum:Nat):Int)<=left-a.length
  ·rw [if_pos b,ZaA b]
  ·rw [if_neg b,Zaz b]
 ·show j32 a _ _ _ _ _=_
  have r:=l.2 _ (List.getElem_mem f)
  unfold j32
  rw [ZaQ f,cond_true,j00 f,cond_true,Zay _ _ _ f,jqF _ _ g h r]
  have m:(i:Int)<4611686018427387904:=by unfold maxLen at j;omega
  rw [j01 (n:=(i:Int)+1) (by omega)]
  by_cases b:((msr y10 a[i]:Nat):Int)<=left
  ·rw [if_pos b,ZaA b,Za4 (by omega),cond_false]
  ·rw [if_neg b,Zaz b,Za5 (by omega),cond_true]
 ·show j32 a _ _ _ _ _=_
  unfold j32
  rw [ZaP,cond_false]
theorem jpx (a:qF) (h:msr y11 a<=1048576) (k:Bool->Res):ja7 a a k=k true:=by
 have d:a.length<=1048576:=j0c h
 unfold ja7
 rw [ZaO,cond_false]
 unfold jey
 rw [Zar a _ (by unfold LIM;omega) (λi rec b=> ?_) (λrec=> ?_)]
 ·show j2X a a _ _ _ _=_
  unfold j2X
  simp only [ZaQ b,cond_true,j00 b,Zay _ _ _ b,j01 (n:=(i:Int)+1) (by omega),ZaO,Zai,cond_false,Bool.not_true,jqi _ (j0h h (List.getElem_mem b))]
 ·show j2X a a _ _ _ _=_
  unfold j2X
  rw [ZaP,cond_false]
theorem jnQ (a:qF) (k:Int) (h:msr y11 a<=1048576) (z:1<=k) (m:k+(wgt y11 a:Int)<=4294967296) (K:Int->qF->Res):j89 a k K=K (k+(wgt y11 a:Int)) (mkL (wgt y10) (mk y10) a k):=by
 have A:a.length<=1048576:=j0c h
 have g:wgt y11 a=(a.map (wgt y10)).sum:=rfl
 rw [g] at m ⊢
 unfold j89 jcR
 have:=Z9Z (wgt y10) (mk y10) a k (λl k i=>(l,k,i)) (step:=j4a) (λl k=>K k l) (λl k=>K k l) (by unfold LIM;omega) (λl i rec d b n f=>by
  have w:=Z7B (wgt y10) a i d
  have y:=Z9L (wgt y10) a (i+1)
  generalize C:k+((((a.take i).map (wgt y10)).sum:Nat):Int)=κ
  have r:1<=κ/\κ+(wgt y10 a[i]:Int)<=4294967296:=by omega
  have B:(wgt y10 a[i]:Int)=1+(wgt y8 a[i].2.1:Int)+(wgt y0 a[i].2.2:Int):=by
   have:wgt y10 a[i]=1+(wgt y8 a[i].2.1)+(wgt y0 a[i].2.2):=by first | rfl | (simp only [wgt];done) | (simp only [wgt];omega)
   first | rfl | omega
  have p:msr y8 a[i].2.1<=1048576:=(Nat.le_trans (@j0K y8 y0 a[i].2) (Nat.le_trans (@j03 .str y9 a[i]) (j0h h (List.getElem_mem d))))
  have q:msr y0 a[i].2.2<=1048576:=(Nat.le_trans (@j03 y8 y0 a[i].2) (Nat.le_trans (@j03 .str y9 a[i]) (j0h h (List.getElem_mem d))))
  show j1i _ _ _ _ _=_
  dsimp only
  unfold j1i
  rw [<-b] at d
  have j:i<a.length:=by omega
  simp (disch:=first | assumption | omega) only [show nI a.length=nI l.length by rw [b],ZaQ,j00,jcp,cond_true,jce,jcq,Zay,f,j01,j1z,jk0,jgE,<-b]
  rw [ZaF]
  congr 3<;>first | rfl | omega | (simp only [j1p,j0Z,j2u,j57,j1o,j2v,j12,j1s,j11,j1t,Int.natCast_add,Int.natCast_one,<-Int.add_assoc];done) | (simp only [j1p,j0Z,j2u,j57,j1o,j2v,j12,j1s,j11,j1t,Int.natCast_add,Int.natCast_one,<-Int.add_assoc];rfl) | skip) (λl k rec b=>by
  show j1i _ _ _ _ _=_
  dsimp only
  unfold j1i
  rw [<-b,ZaP,cond_false])
 exact this
end Go.PI.G
namespace Go.PI.G
open Go Go.PI Go.Proofs
theorem jsc (a:List qT) (h:msr y11 a<=1048576) (k:qF->Res):jbf a k=k a:=by
 have b:msr y11 a<=1048576:=h
 unfold jbf
 simp only [jpR _ b]
theorem js5 (a:List qT) (left:Int) (g:0<=left) (h:left<=1048576) (f:Wf y11 a) (k:Int->Res):jbb a left k=k (szR left (msr y11 a)):=by
 have d:msr y11 a=msr y11 a+0:=rfl
 rw [d]
 unfold jbb
 rw [jpQ _ _ (by omega) (by omega) f]
 by_cases b:((msr y11 a:Nat):Int)<=left
 rotate_left
 ·rw [Zaz b,Zal b,Za5 (by omega),cond_true]
 rw [ZaA b,Zak b,Za4 (by omega),cond_false]
 exact jbz (by omega)
theorem jrD (a:List qT) (h:msr y11 a<=1048576) (k:Bool->Res):jb9 a a k=k true:=by
 have b:msr y11 a<=1048576:=h
 unfold jb9
 simp only [ZaO,Zai,beq_self_eq_true,cond_false,Bool.not_true,jpx _ b]
theorem jqr (a:List qT) (k:Int) (h:msr y11 a<=1048576) (d:1<=k) (g:k+(j5h y11 a:Int)<=4294967296) (K:Int->qF->Res):j8D a k K=K (k+(j5h y11 a:Int)) (mkT y11 a k):=by
 have d:msr y11 a<=1048576:=h
 have f:msr y11 a<=1048576:=h
 have b:j5h y11 a=wgt y11 a:=rfl
 have i:j5h y11 a=wgt y11 a:=by first | rfl | (simp only [jaS,b,j8X,j7b,j8Y,Nat.zero_add,Nat.add_zero];done) | (simp only [jaS,b,j8X,j7b,j8Y,Nat.zero_add,Nat.add_zero];omega)
 unfold j8D
 simp (disch:=first | assumption | omega) only [jnQ]
 first | rfl | (simp only [jfs,jjf,jhe,jjg,b,j8X,j7b,j8Y,Int.natCast_add,Int.natCast_zero,Int.cast_ofNat_Int,Nat.zero_add,Nat.add_zero,Int.add_zero,<-Int.add_assoc];done) | (simp only [jfs,jjf,jhe,jjg,b,j8X,j7b,j8Y,Int.natCast_add,Int.natCast_zero,Int.cast_ofNat_Int,Nat.zero_add,Nat.add_zero,Int.add_zero,<-Int.add_assoc];rfl)
end Go.PI.G
namespace Go.PI.G
open Go Go.PI Go.Proofs
theorem jnq (a:qW) (h:msr y3 a<=1048576) (k:qW->Res):j7S a k=k a:=by
 have g:a.length<=1048576:=j0c h
 unfold j7S
 rw [Zav (by unfold LIM;omega),cond_true]
 have:=ZaC ((0,0,eS)) a id (step:=jan a) (λb=>k b) (by unfold LIM;omega) (λb i rec d f=>by
  show j4J a _ _ _ _=_
  unfold j4J
  dsimp only
  simp only [ZaQ d,cond_true,j00 d,j00 (show i<b.length by omega),Zay _ _ _ d,ZaF,j01 (n:=(i:Int)+1) (by omega),jpl _ (j0h h (List.getElem_mem d))]
  rfl) (λb rec=>by
  show j4J a _ _ _ _=_
  unfold j4J
  dsimp only
  rw [ZaP,cond_false])
 rw [List.map_id] at this
 exact this
theorem jno (a:qW) (left:Int) (g:0<=left) (h:left<=1048576) (l:Wf y3 a) (k:Int->Res):j7R a left k=k (szR left (msr y3 a)):=by
 have j:a.length<=maxLen:=l.1
 have p:msr y3 a=a.length+(a.map (msr y2)).sum:=rfl
 rw [p]
 unfold j7R
 refine jeV (F:=λq=>jcc a Z1c q 0 (λd=>k d) (λ_=>k (-1))) (k:=k) g h j λb=> ?_
 unfold jcc
 rw [ZaB (msr y2) a _ (by omega) (λleft i rec f g h=> ?_) (λleft rec=> ?_) _ (by omega) (by omega)]
 ·by_cases b:(((a.map (msr y2)).sum:Nat):Int)<=left-a.length
  ·rw [if_pos b,ZaA b]
  ·rw [if_neg b,Zaz b]
 ·show j4G a _ _ _ _ _=_
  have r:=l.2 _ (List.getElem_mem f)
  unfold j4G
  rw [ZaQ f,cond_true,j00 f,cond_true,Zay _ _ _ f,jpi _ _ g h r]
  have m:(i:Int)<4611686018427387904:=by unfold maxLen at j;omega
  rw [j01 (n:=(i:Int)+1) (by omega)]
  by_cases b:((msr y2 a[i]:Nat):Int)<=left
  ·rw [if_pos b,ZaA b,Za4 (by omega),cond_false]
  ·rw [if_neg b,Zaz b,Za5 (by omega),cond_true]
 ·show j4G a _ _ _ _ _=_
  unfold j4G
  rw [ZaP,cond_false]
theorem jn8 (a:qW) (h:msr y3 a<=1048576) (k:Bool->Res):j7P a a k=k true:=by
 have d:a.length<=1048576:=j0c h
 unfold j7P
 rw [ZaO,cond_false]
 unfold jgD
 rw [Zar a _ (by unfold LIM;omega) (λi rec b=> ?_) (λrec=> ?_)]
 ·show j4z a a _ _ _ _=_
  unfold j4z
  simp only [ZaQ b,cond_true,j00 b,Zay _ _ _ b,j01 (n:=(i:Int)+1) (by omega),ZaO,Zai,cond_false,Bool.not_true,joA _ (j0h h (List.getElem_mem b))]
 ·show j4z a a _ _ _ _=_
  unfold j4z
  rw [ZaP,cond_false]
theorem jk1 (a:qW) (k:Int) (h:msr y3 a<=1048576) (w:1<=k) (m:k+(wgt y3 a:Int)<=4294967296) (K:Int->qW->Res):j3v a k K=K (k+(wgt y3 a:Int)) (mkL (wgt y2) (mk y2) a k):=by
 have y:a.length<=1048576:=j0c h
 have f:wgt y3 a=(a.map (wgt y2)).sum:=rfl
 rw [f] at m ⊢
 unfold j3v jeF
 have:=Z9Z (wgt y2) (mk y2) a k (λl k i=>(l,k,i)) (step:=j8F) (λl k=>K k l) (λl k=>K k l) (by unfold LIM;omega) (λl i rec g b n d=>by
  have q:=Z7B (wgt y2) a i g
  have r:=Z9L (wgt y2) a (i+1)
  generalize A:k+((((a.take i).map (wgt y2)).sum:Nat):Int)=κ
  have p:1<=κ/\κ+(wgt y2 a[i]:Int)<=4294967296:=by omega
  have z:(wgt y2 a[i]:Int)=1+1+1:=by
   have:wgt y2 a[i]=1+1+1:=by first | rfl | (simp only [wgt];done) | (simp only [wgt];omega)
   first | rfl | omega
  show j31 _ _ _ _ _=_
  dsimp only
  unfold j31
  rw [<-b] at g
  have j:i<a.length:=by omega
  simp (disch:=first | assumption | omega) only [show nI a.length=nI l.length by rw [b],ZaQ,j00,jcp,cond_true,jce,jcq,Zay,d,j01,j1z,<-b]
  rw [ZaF]
  congr 3<;>first | rfl | omega | (simp only [j1p,j0Z,j2u,j57,j1o,j2v,j12,j1s,j11,j1t,Int.natCast_add,Int.natCast_one,<-Int.add_assoc];done) | (simp only [j1p,j0Z,j2u,j57,j1o,j2v,j12,j1s,j11,j1t,Int.natCast_add,Int.natCast_one,<-Int.add_assoc];rfl) | skip) (λl k rec b=>by
  show j31 _ _ _ _ _=_
  dsimp only
  unfold j31
  rw [<-b,ZaP,cond_false])
 exact this
theorem jpA (a:qW) (k:Int) (h:msr y3 a<=1048576) (y:1<=k) (p:k+(wgt y3 a:Int)<=4294967296) (K:Int->Res):j5m (mkL (wgt y2) (mk y2) a k) k K=K (k+(wgt y3 a:Int)):=by
 have z:a.length<=1048576:=j0c h
 have f:wgt y3 a=(a.map (wgt y2)).sum:=rfl
 rw [f] at p ⊢
 have d:=Z6s (wgt y2) (mk y2) a k
 have j:=Zau (wgt y2) (mk y2) a k
 generalize mkL (wgt y2) (mk y2) a k=l at d j
 unfold j5m jeB
 have:=Z9W (wgt y2) a k (λk i=>(k,i)) (step:=j8C l) ((λ(g:Int)=>K g),(λ(_:Unit)=>K (-1))) (λk=>K k) (by unfold LIM;omega) (λi rec m=>by
  have r:=Z7B (wgt y2) a i m
  have w:=Z9L (wgt y2) a (i+1)
  have b:=j i m (by omega)
  generalize B:k+((((a.take i).map (wgt y2)).sum:Nat):Int)=κ at b
  have q:1<=κ/\κ+(wgt y2 a[i]:Int)<=4294967296:=by omega
  have A:(wgt y2 a[i]:Int)=1+1+1:=by
   have:wgt y2 a[i]=1+1+1:=by first | rfl | (simp only [wgt];done) | (simp only [wgt];omega)
   first | rfl | omega
  show j2Y _ _ _ _ _ _=_
  dsimp only
  unfold j2Y
  have n:i<l.length:=by omega
  simp (disch:=first | assumption | omega) only [ZaQ,j00,cond_true,cond_false,Zay,b,j1p,j0Z,j2u,j57,j1o,j2v,j12,j1s,j11,j1t,Int.natCast_add,Int.natCast_one,<-Int.add_assoc,j01,j1z,ZaO,Zai,beq_self_eq_true,Bool.not_true,Za4]
  all_goals (congr 2;omega)) (λk rec=>by
  show j2Y _ _ _ _ _ _=_
  dsimp only
  unfold j2Y
  rw [<-d,ZaP,cond_false])
 exact this
end Go.PI.G
namespace Go.PI.G
open Go Go.PI Go.Proofs
theorem jpk (a:List qV) (h:msr y3 a<=1048576) (k:qW->Res):j9k a k=k a:=by
 have b:msr y3 a<=1048576:=h
 unfold j9k
 simp only [jnq _ b]
theorem jph (a:List qV) (left:Int) (g:0<=left) (h:left<=1048576) (f:Wf y3 a) (k:Int->Res):j9i a left k=k (szR left (msr y3 a)):=by
 have d:msr y3 a=msr y3 a+0:=rfl
 rw [d]
 unfold j9i
 rw [jno _ _ (by omega) (by omega) f]
 by_cases b:((msr y3 a:Nat):Int)<=left
 rotate_left
 ·rw [Zaz b,Zal b,Za5 (by omega),cond_true]
 rw [ZaA b,Zak b,Za4 (by omega),cond_false]
 exact jbz (by omega)
theorem joz (a:List qV) (h:msr y3 a<=1048576) (k:Bool->Res):j9g a a k=k true:=by
 have b:msr y3 a<=1048576:=h
 unfold j9g
 simp only [ZaO,Zai,beq_self_eq_true,cond_false,Bool.not_true,jn8 _ b]
end Go.PI.G
namespace Go.PI.G
open Go Go.PI Go.Proofs
theorem jrm (a:qR) (h:msr y12 a<=1048576) (k:qR->Res):jcF a k=k a:=by
 have g:a.length<=1048576:=j0c h
 unfold jcF
 rw [Zav (by unfold LIM;omega),cond_true]
 have:=ZaC ([]) a id (step:=jam a) (λb=>k b) (by unfold LIM;omega) (λb i rec d f=>by
  show j4I a _ _ _ _=_
  unfold j4I
  dsimp only
  simp only [ZaQ d,cond_true,j00 d,j00 (show i<b.length by omega),Zay _ _ _ d,ZaF,j01 (n:=(i:Int)+1) (by omega),jpk _ (j0h h (List.getElem_mem d))]
  rfl) (λb rec=>by
  show j4I a _ _ _ _=_
  unfold j4I
  dsimp only
  rw [ZaP,cond_false])
 rw [List.map_id] at this
 exact this
theorem jrj (a:qR) (left:Int) (g:0<=left) (h:left<=1048576) (l:Wf y12 a) (k:Int->Res):jcD a left k=k (szR left (msr y12 a)):=by
 have j:a.length<=maxLen:=l.1
 have p:msr y12 a=a.length+(a.map (msr y3)).sum:=rfl
 rw [p]
 unfold jcD
 refine jeV (F:=λq=>jcb a Z1c q 0 (λd=>k d) (λ_=>k (-1))) (k:=k) g h j λb=> ?_
 unfold jcb
 rw [ZaB (msr y3) a _ (by omega) (λleft i rec f g h=> ?_) (λleft rec=> ?_) _ (by omega) (by omega)]
 ·by_cases b:(((a.map (msr y3)).sum:Nat):Int)<=left-a.length
  ·rw [if_pos b,ZaA b]
  ·rw [if_neg b,Zaz b]
 ·show j4F a _ _ _ _ _=_
  have r:=l.2 _ (List.getElem_mem f)
  unfold j4F
  rw [ZaQ f,cond_true,j00 f,cond_true,Zay _ _ _ f,jph _ _ g h r]
  have m:(i:Int)<4611686018427387904:=by unfold maxLen at j;omega
  rw [j01 (n:=(i:Int)+1) (by omega)]
  by_cases b:((msr y3 a[i]:Nat):Int)<=left
  ·rw [if_pos b,ZaA b,Za4 (by omega),cond_false]
  ·rw [if_neg b,Zaz b,Za5 (by omega),cond_true]
 ·show j4F a _ _ _ _ _=_
  unfold j4F
  rw [ZaP,cond_false]
theorem jqX (a:qR) (h:msr y12 a<=1048576) (k:Bool->Res):jcB a a k=k true:=by
 have d:a.length<=1048576:=j0c h
 unfold jcB
 rw [ZaO,cond_false]
 unfold jgC
 rw [Zar a _ (by unfold LIM;omega) (λi rec b=> ?_) (λrec=> ?_)]
 ·show j4y a a _ _ _ _=_
  unfold j4y
  simp only [ZaQ b,cond_true,j00 b,Zay _ _ _ b,j01 (n:=(i:Int)+1) (by omega),ZaO,Zai,cond_false,Bool.not_true,joz _ (j0h h (List.getElem_mem b))]
 ·show j4y a a _ _ _ _=_
  unfold j4y
  rw [ZaP,cond_false]
theorem jpI (a:qR) (k:Int) (h:msr y12 a<=1048576) (y:1<=k) (m:k+(wgt y12 a:Int)<=4294967296) (K:Int->qR->Res):ja8 a k K=K (k+(wgt y12 a:Int)) (mkL (wgt y3) (mk y3) a k):=by
 have z:a.length<=1048576:=j0c h
 have g:wgt y12 a=(a.map (wgt y3)).sum:=rfl
 rw [g] at m ⊢
 unfold ja8 jeD
 have:=Z9Z (wgt y3) (mk y3) a k (λl k i=>(l,k,i)) (step:=j8E) (λl k=>K k l) (λl k=>K k l) (by unfold LIM;omega) (λl i rec d b n f=>by
  have r:=Z7B (wgt y3) a i d
  have w:=Z9L (wgt y3) a (i+1)
  generalize B:k+((((a.take i).map (wgt y3)).sum:Nat):Int)=κ
  have q:1<=κ/\κ+(wgt y3 a[i]:Int)<=4294967296:=by omega
  have A:(wgt y3 a[i]:Int)=(wgt y3 a[i]:Int):=by
   have:wgt y3 a[i]=(wgt y3 a[i]):=by first | rfl | (simp only [wgt];done) | (simp only [wgt];omega)
   first | rfl | omega
  have p:msr y3 a[i]<=1048576:=(j0h h (List.getElem_mem d))
  show j2Z _ _ _ _ _=_
  dsimp only
  unfold j2Z
  rw [<-b] at d
  have j:i<a.length:=by omega
  simp (disch:=first | assumption | omega) only [show nI a.length=nI l.length by rw [b],ZaQ,j00,jcp,cond_true,jce,jcq,Zay,f,j01,j1z,jk1,<-b]
  rw [ZaF]
  congr 3<;>first | rfl | omega | (simp only [j1p,j0Z,j2u,j57,j1o,j2v,j12,j1s,j11,j1t,Int.natCast_add,Int.natCast_one,<-Int.add_assoc];done) | (simp only [j1p,j0Z,j2u,j57,j1o,j2v,j12,j1s,j11,j1t,Int.natCast_add,Int.natCast_one,<-Int.add_assoc];rfl) | skip) (λl k rec b=>by
  show j2Z _ _ _ _ _=_
  dsimp only
  unfold j2Z
  rw [<-b,ZaP,cond_false])
 exact this
end Go.PI.G
namespace Go.PI.G
open Go Go.PI Go.Proofs
theorem jrn (a:List qW) (h:msr y12 a<=1048576) (k:qR->Res):jcG a k=k a:=by
 have b:msr y12 a<=1048576:=h
 unfold jcG
 simp only [jrm _ b]
theorem jrk (a:List qW) (left:Int) (g:0<=left) (h:left<=1048576) (f:Wf y12 a) (k:Int->Res):jcE a left k=k (szR left (msr y12 a)):=by
 have d:msr y12 a=msr y12 a+0:=rfl
 rw [d]
 unfold jcE
 rw [jrj _ _ (by omega) (by omega) f]
 by_cases b:((msr y12 a:Nat):Int)<=left
 rotate_left
 ·rw [Zaz b,Zal b,Za5 (by omega),cond_true]
 rw [ZaA b,Zak b,Za4 (by omega),cond_false]
 exact jbz (by omega)
theorem jqY (a:List qW) (h:msr y12 a<=1048576) (k:Bool->Res):jcC a a k=k true:=by
 have b:msr y12 a<=1048576:=h
 unfold jcC
 simp only [ZaO,Zai,beq_self_eq_true,cond_false,Bool.not_true,jqX _ b]
end Go.PI.G
namespace Go.PI.G
open Go Go.PI Go.Proofs
theorem jqG (a:qX) (h:msr y13 a<=1048576) (k:qX->Res):j8J a k=k a:=by
 have g:a.length<=1048576:=j0c h
 unfold j8J
 rw [Zav (by unfold LIM;omega),cond_true]
 have:=ZaC ([]) a id (step:=j9C a) (λb=>k b) (by unfold LIM;omega) (λb i rec d f=>by
  show j3P a _ _ _ _=_
  unfold j3P
  dsimp only
  simp only [ZaQ d,cond_true,j00 d,j00 (show i<b.length by omega),Zay _ _ _ d,ZaF,j01 (n:=(i:Int)+1) (by omega),jrn _ (j0h h (List.getElem_mem d))]
  rfl) (λb rec=>by
  show j3P a _ _ _ _=_
  unfold j3P
  dsimp only
  rw [ZaP,cond_false])
 rw [List.map_id] at this
 exact this
theorem jqD (a:qX) (left:Int) (g:0<=left) (h:left<=1048576) (l:Wf y13 a) (k:Int->Res):j8G a left k=k (szR left (msr y13 a)):=by
 have j:a.length<=maxLen:=l.1
 have p:msr y13 a=a.length+(a.map (msr y12)).sum:=rfl
 rw [p]
 unfold j8G
 refine jeV (F:=λq=>jbc a Z1c q 0 (λd=>k d) (λ_=>k (-1))) (k:=k) g h j λb=> ?_
 unfold jbc
 rw [ZaB (msr y12) a _ (by omega) (λleft i rec f g h=> ?_) (λleft rec=> ?_) _ (by omega) (by omega)]
 ·by_cases b:(((a.map (msr y12)).sum:Nat):Int)<=left-a.length
  ·rw [if_pos b,ZaA b]
  ·rw [if_neg b,Zaz b]
 ·show j3N a _ _ _ _ _=_
  have r:=l.2 _ (List.getElem_mem f)
  unfold j3N
  rw [ZaQ f,cond_true,j00 f,cond_true,Zay _ _ _ f,jrk _ _ g h r]
  have m:(i:Int)<4611686018427387904:=by unfold maxLen at j;omega
  rw [j01 (n:=(i:Int)+1) (by omega)]
  by_cases b:((msr y12 a[i]:Nat):Int)<=left
  ·rw [if_pos b,ZaA b,Za4 (by omega),cond_false]
  ·rw [if_neg b,Zaz b,Za5 (by omega),cond_true]
 ·show j3N a _ _ _ _ _=_
  unfold j3N
  rw [ZaP,cond_false]
theorem jqh (a:qX) (h:msr y13 a<=1048576) (k:Bool->Res):j8A a a k=k true:=by
 have d:a.length<=1048576:=j0c h
 unfold j8A
 rw [ZaO,cond_false]
 unfold jfq
 rw [Zar a _ (by unfold LIM;omega) (λi rec b=> ?_) (λrec=> ?_)]
 ·show j3H a a _ _ _ _=_
  unfold j3H
  simp only [ZaQ b,cond_true,j00 b,Zay _ _ _ b,j01 (n:=(i:Int)+1) (by omega),ZaO,Zai,cond_false,Bool.not_true,jqY _ (j0h h (List.getElem_mem b))]
 ·show j3H a a _ _ _ _=_
  unfold j3H
  rw [ZaP,cond_false]
theorem joT (a:qX) (k:Int) (h:msr y13 a<=1048576) (y:1<=k) (m:k+(wgt y13 a:Int)<=4294967296) (K:Int->qX->Res):j6G a k K=K (k+(wgt y13 a:Int)) (mkL (wgt y12) (mk y12) a k):=by
 have z:a.length<=1048576:=j0c h
 have g:wgt y13 a=(a.map (wgt y12)).sum:=rfl
 rw [g] at m ⊢
 unfold j6G jdF
 have:=Z9Z (wgt y12) (mk y12) a k (λl k i=>(l,k,i)) (step:=j7Y) (λl k=>K k l) (λl k=>K k l) (by unfold LIM;omega) (λl i rec d b n f=>by
  have r:=Z7B (wgt y12) a i d
  have w:=Z9L (wgt y12) a (i+1)
  generalize B:k+((((a.take i).map (wgt y12)).sum:Nat):Int)=κ
  have q:1<=κ/\κ+(wgt y12 a[i]:Int)<=4294967296:=by omega
  have A:(wgt y12 a[i]:Int)=(wgt y12 a[i]:Int):=by
   have:wgt y12 a[i]=(wgt y12 a[i]):=by first | rfl | (simp only [wgt];done) | (simp only [wgt];omega)
   first | rfl | omega
  have p:msr y12 a[i]<=1048576:=(j0h h (List.getElem_mem d))
  show j2r _ _ _ _ _=_
  dsimp only
  unfold j2r
  rw [<-b] at d
  have j:i<a.length:=by omega
  simp (disch:=first | assumption | omega) only [show nI a.length=nI l.length by rw [b],ZaQ,j00,jcp,cond_true,jce,jcq,Zay,f,j01,j1z,jpI,<-b]
  rw [ZaF]
  congr 3<;>first | rfl | omega | (simp only [j1p,j0Z,j2u,j57,j1o,j2v,j12,j1s,j11,j1t,Int.natCast_add,Int.natCast_one,<-Int.add_assoc];done) | (simp only [j1p,j0Z,j2u,j57,j1o,j2v,j12,j1s,j11,j1t,Int.natCast_add,Int.natCast_one,<-Int.add_assoc];rfl) | skip) (λl k rec b=>by
  show j2r _ _ _ _ _=_
  dsimp only
  unfold j2r
  rw [<-b,ZaP,cond_false])
 exact this
end Go.PI.G
namespace Go.PI.G
open Go Go.PI Go.Proofs
theorem jjk (a:qF×List qR) (h:msr y14 a<=1048576) (k:qD->Res):j33 a k=k a:=by
 have b:msr y11 a.1<=1048576:=(Nat.le_trans (@j0K y11 y13 a) h)
 have d:msr y13 a.2<=1048576:=(Nat.le_trans (@j03 y11 y13 a) h)
 unfold j33
 simp only [jsc _ b,jqG _ d]
theorem jsH (a:qF×List qR) (left:Int) (h:0<=left) (i:left<=1048576) (f:Wf y14 a) (k:Int->Res):jaQ a left k=k (szR left (msr y14 a)):=by
 have g:msr y14 a=msr y11 a.1+(msr y13 a.2+0):=by simp only [msr]<;>omega
 rw [g]
 unfold jaQ
 rw [js5 _ _ (by omega) (by omega) f.1]
 by_cases b:((msr y11 a.1:Nat):Int)<=left
 rotate_left
 ·rw [Zaz b,Zal b,Za5 (by omega),cond_true]
 rw [ZaA b,Zak b,Za4 (by omega),cond_false]
 rw [jqD _ _ (by omega) (by omega) f.2]
 by_cases d:((msr y13 a.2:Nat):Int)<=left-(msr y11 a.1:Nat)
 rotate_left
 ·rw [Zaz d,Zal d,Za5 (by omega),cond_true]
 rw [ZaA d,Zak d,Za4 (by omega),cond_false]
 exact jbz (by omega)
theorem jsw (a:qF×List qR) (h:msr y14 a<=1048576) (k:Bool->Res):jaP a a k=k true:=by
 have b:msr y11 a.1<=1048576:=(Nat.le_trans (@j0K y11 y13 a) h)
 have d:msr y13 a.2<=1048576:=(Nat.le_trans (@j03 y11 y13 a) h)
 unfold jaP
 simp only [ZaO,Zai,beq_self_eq_true,cond_false,Bool.not_true,jrD _ b,jqh _ d]
theorem jr9 (a:qF×List qR) (k:Int) (h:msr y14 a<=1048576) (d:1<=k) (j:k+(j5h y14 a:Int)<=4294967296) (K:Int->qD->Res):j7Q a k K=K (k+(j5h y14 a:Int)) (mkT y14 a k):=by
 have d:msr y11 a.1<=1048576:=(Nat.le_trans (@j0K y11 y13 a) h)
 have i:msr y13 a.2<=1048576:=(Nat.le_trans (@j03 y11 y13 a) h)
 have f:msr y11 a.1<=1048576:=(Nat.le_trans (@j0K y11 y13 a) h)
 have g:msr y13 a.2<=1048576:=(Nat.le_trans (@j03 y11 y13 a) h)
 have b:j5h y11 a.1=wgt y11 a.1:=rfl
 have w1:j5h y13 a.2=wgt y13 a.2:=rfl
 have l:j5h y14 a=wgt y11 a.1+wgt y13 a.2:=by first | rfl | (simp only [jaS,b,w1,j8X,j7b,j8Y,Nat.zero_add,Nat.add_zero];done) | (simp only [jaS,b,w1,j8X,j7b,j8Y,Nat.zero_add,Nat.add_zero];omega)
 unfold j7Q
 simp (disch:=first | assumption | omega) only [jqr,joT]
 first | rfl | (simp only [joU y11 y13,jaS y11 y13,jfs,jjf,jhe,jjg,b,w1,j8X,j7b,j8Y,Int.natCast_add,Int.natCast_zero,Int.cast_ofNat_Int,Nat.zero_add,Nat.add_zero,Int.add_zero,<-Int.add_assoc];done) | (simp only [joU y11 y13,jaS y11 y13,jfs,jjf,jhe,jjg,b,w1,j8X,j7b,j8Y,Int.natCast_add,Int.natCast_zero,Int.cast_ofNat_Int,Nat.zero_add,Nat.add_zero,Int.add_zero,<-Int.add_assoc];rfl)
end Go.PI.G
namespace Go.PI.G
open Go Go.PI Go.Proofs
theorem jse (a:Int×ByteArray×qE×List ByteArray×ByteArray×ByteArray) (h:msr y19 a<=1048576) (k:(Int×ByteArray×qE×List ByteArray×ByteArray×ByteArray)->Res):j9j a k=k a:=by
 have b:msr y8 a.2.2.1<=1048576:=(Nat.le_trans (@j0K y8 y16 a.2.2) (Nat.le_trans (@j03 .str y17 a.2) (Nat.le_trans (@j03 (.int .i64) y18 a) h)))
 have d:msr y0 a.2.2.2.1<=1048576:=(Nat.le_trans (@j0K y0 y15 a.2.2.2) (Nat.le_trans (@j03 y8 y16 a.2.2) (Nat.le_trans (@j03 .str y17 a.2) (Nat.le_trans (@j03 (.int .i64) y18 a) h))))
 unfold j9j
 simp only [jnp _ b,jjb _ d]
theorem js7 (a:Int×ByteArray×qE×List ByteArray×ByteArray×ByteArray) (left:Int) (p:0<=left) (q:left<=1048576) (i:Wf y19 a) (k:Int->Res):j9h a left k=k (szR left (msr y19 a)):=by
 have n:msr y19 a=ByteArray.size a.2.1+(msr y8 a.2.2.1+(msr y0 a.2.2.2.1+(ByteArray.size a.2.2.2.2.1+(ByteArray.size a.2.2.2.2.2+0)))):=by simp only [msr]<;>omega
 rw [n]
 unfold j9h
 have j:ByteArray.size a.2.1<=maxLen:=i.2.1
 unfold maxLen at j
 rw [j01 (by unfold nI;omega)]
 by_cases f:((ByteArray.size a.2.1:Nat):Int)<=left
 rotate_left
 ·rw [Zal f,Za5 (by unfold nI;omega),cond_true]
 rw [Za4 (by unfold nI;omega),cond_false,Zak f,show left-nI (ByteArray.size a.2.1)=left-((ByteArray.size a.2.1:Nat):Int) from rfl]
 rw [jnn _ _ (by omega) (by omega) i.2.2.1]
 by_cases b:((msr y8 a.2.2.1:Nat):Int)<=left-(ByteArray.size a.2.1:Nat)
 rotate_left
 ·rw [Zaz b,Zal b,Za5 (by omega),cond_true]
 rw [ZaA b,Zak b,Za4 (by omega),cond_false]
 rw [jja _ _ (by omega) (by omega) i.2.2.2.1]
 by_cases d:((msr y0 a.2.2.2.1:Nat):Int)<=left-(ByteArray.size a.2.1:Nat)-(msr y8 a.2.2.1:Nat)
 rotate_left
 ·rw [Zaz d,Zal d,Za5 (by omega),cond_true]
 rw [ZaA d,Zak d,Za4 (by omega),cond_false]
 have l:ByteArray.size a.2.2.2.2.1<=maxLen:=i.2.2.2.2.1
 unfold maxLen at l
 rw [j01 (by unfold nI;omega)]
 by_cases g:((ByteArray.size a.2.2.2.2.1:Nat):Int)<=left-(ByteArray.size a.2.1:Nat)-(msr y8 a.2.2.1:Nat)-(msr y0 a.2.2.2.1:Nat)
 rotate_left
 ·rw [Zal g,Za5 (by unfold nI;omega),cond_true]
 rw [Za4 (by unfold nI;omega),cond_false,Zak g,show left-(ByteArray.size a.2.1:Nat)-(msr y8 a.2.2.1:Nat)-(msr y0 a.2.2.2.1:Nat)-nI (ByteArray.size a.2.2.2.2.1)=left-(ByteArray.size a.2.1:Nat)-(msr y8 a.2.2.1:Nat)-(msr y0 a.2.2.2.1:Nat)-((ByteArray.size a.2.2.2.2.1:Nat):Int) from rfl]
 have m:ByteArray.size a.2.2.2.2.2<=maxLen:=i.2.2.2.2.2
 unfold maxLen at m
 rw [j01 (by unfold nI;omega)]
 by_cases h:((ByteArray.size a.2.2.2.2.2:Nat):Int)<=left-(ByteArray.size a.2.1:Nat)-(msr y8 a.2.2.1:Nat)-(msr y0 a.2.2.2.1:Nat)-(ByteArray.size a.2.2.2.2.1:Nat)
 rotate_left
 ·rw [Zal h,Za5 (by unfold nI;omega),cond_true]
 rw [Za4 (by unfold nI;omega),cond_false,Zak h,show left-(ByteArray.size a.2.1:Nat)-(msr y8 a.2.2.1:Nat)-(msr y0 a.2.2.2.1:Nat)-(ByteArray.size a.2.2.2.2.1:Nat)-nI (ByteArray.size a.2.2.2.2.2)=left-(ByteArray.size a.2.1:Nat)-(msr y8 a.2.2.1:Nat)-(msr y0 a.2.2.2.1:Nat)-(ByteArray.size a.2.2.2.2.1:Nat)-((ByteArray.size a.2.2.2.2.2:Nat):Int) from rfl]
 exact jbz (by omega)
theorem jrF (a:Int×ByteArray×qE×List ByteArray×ByteArray×ByteArray) (h:msr y19 a<=1048576) (k:Bool->Res):j9f a a k=k true:=by
 have b:msr y8 a.2.2.1<=1048576:=(Nat.le_trans (@j0K y8 y16 a.2.2) (Nat.le_trans (@j03 .str y17 a.2) (Nat.le_trans (@j03 (.int .i64) y18 a) h)))
 have d:msr y0 a.2.2.2.1<=1048576:=(Nat.le_trans (@j0K y0 y15 a.2.2.2) (Nat.le_trans (@j03 y8 y16 a.2.2) (Nat.le_trans (@j03 .str y17 a.2) (Nat.le_trans (@j03 (.int .i64) y18 a) h))))
 unfold j9f
 simp only [ZaO,Zai,beq_self_eq_true,cond_false,Bool.not_true,jn7 _ b,jip _ d]
end Go.PI.G
namespace Go.PI.G
open Go Go.PI Go.Proofs
theorem jro (a:Int×ByteArray×qW×qW×Int×ByteArray×qE×List ByteArray×ByteArray×ByteArray) (h:msr y23 a<=1048576) (k:qS->Res):j9X a k=k a:=by
 have b:msr y3 a.2.2.1<=1048576:=(Nat.le_trans (@j0K y3 y20 a.2.2) (Nat.le_trans (@j03 .str y21 a.2) (Nat.le_trans (@j03 (.int .i64) y22 a) h)))
 have d:msr y3 a.2.2.2.1<=1048576:=(Nat.le_trans (@j0K y3 y19 a.2.2.2) (Nat.le_trans (@j03 y3 y20 a.2.2) (Nat.le_trans (@j03 .str y21 a.2) (Nat.le_trans (@j03 (.int .i64) y22 a) h))))
 have f:msr y19 a.2.2.2.2<=1048576:=(Nat.le_trans (@j03 y3 y19 a.2.2.2) (Nat.le_trans (@j03 y3 y20 a.2.2) (Nat.le_trans (@j03 .str y21 a.2) (Nat.le_trans (@j03 (.int .i64) y22 a) h))))
 unfold j9X
 simp only [jnq _ b,jpk _ d,jse _ f]
theorem jrl (a:Int×ByteArray×qW×qW×Int×ByteArray×qE×List ByteArray×ByteArray×ByteArray) (left:Int) (l:0<=left) (m:left<=1048576) (h:Wf y23 a) (k:Int->Res):j9W a left k=k (szR left (msr y23 a)):=by
 have j:msr y23 a=ByteArray.size a.2.1+(msr y3 a.2.2.1+(msr y3 a.2.2.2.1+(msr y19 a.2.2.2.2+0))):=by simp only [msr]<;>omega
 rw [j]
 unfold j9W
 have i:ByteArray.size a.2.1<=maxLen:=h.2.1
 unfold maxLen at i
 rw [j01 (by unfold nI;omega)]
 by_cases g:((ByteArray.size a.2.1:Nat):Int)<=left
 rotate_left
 ·rw [Zal g,Za5 (by unfold nI;omega),cond_true]
 rw [Za4 (by unfold nI;omega),cond_false,Zak g,show left-nI (ByteArray.size a.2.1)=left-((ByteArray.size a.2.1:Nat):Int) from rfl]
 rw [jno _ _ (by omega) (by omega) h.2.2.1]
 by_cases b:((msr y3 a.2.2.1:Nat):Int)<=left-(ByteArray.size a.2.1:Nat)
 rotate_left
 ·rw [Zaz b,Zal b,Za5 (by omega),cond_true]
 rw [ZaA b,Zak b,Za4 (by omega),cond_false]
 rw [jph _ _ (by omega) (by omega) h.2.2.2.1]
 by_cases d:((msr y3 a.2.2.2.1:Nat):Int)<=left-(ByteArray.size a.2.1:Nat)-(msr y3 a.2.2.1:Nat)
 rotate_left
 ·rw [Zaz d,Zal d,Za5 (by omega),cond_true]
 rw [ZaA d,Zak d,Za4 (by omega),cond_false]
 rw [js7 _ _ (by omega) (by omega) h.2.2.2.2]
 by_cases f:((msr y19 a.2.2.2.2:Nat):Int)<=left-(ByteArray.size a.2.1:Nat)-(msr y3 a.2.2.1:Nat)-(msr y3 a.2.2.2.1:Nat)
 rotate_left
 ·rw [Zaz f,Zal f,Za5 (by omega),cond_true]
 rw [ZaA f,Zak f,Za4 (by omega),cond_false]
 exact jbz (by omega)
theorem jqZ (a:Int×ByteArray×qW×qW×Int×ByteArray×qE×List ByteArray×ByteArray×ByteArray) (h:msr y23 a<=1048576) (k:Bool->Res):j9V a a k=k true:=by
 have b:msr y3 a.2.2.1<=1048576:=(Nat.le_trans (@j0K y3 y20 a.2.2) (Nat.le_trans (@j03 .str y21 a.2) (Nat.le_trans (@j03 (.int .i64) y22 a) h)))
 have d:msr y3 a.2.2.2.1<=1048576:=(Nat.le_trans (@j0K y3 y19 a.2.2.2) (Nat.le_trans (@j03 y3 y20 a.2.2) (Nat.le_trans (@j03 .str y21 a.2) (Nat.le_trans (@j03 (.int .i64) y22 a) h))))
 have f:msr y19 a.2.2.2.2<=1048576:=(Nat.le_trans (@j03 y3 y19 a.2.2.2) (Nat.le_trans (@j03 y3 y20 a.2.2) (Nat.le_trans (@j03 .str y21 a.2) (Nat.le_trans (@j03 (.int .i64) y22 a) h))))
 unfold j9V
 simp only [ZaO,Zai,beq_self_eq_true,cond_false,Bool.not_true,jn8 _ b,joz _ d,jrF _ f]
end Go.PI.G
namespace Go.PI.G
open Go Go.PI Go.Proofs
theorem je2 (a:qU) (h:msr y24 a<=1048576) (k:qU->Res):j1y a k=k a:=by
 have g:a.length<=1048576:=j0c h
 unfold j1y
 rw [Zav (by unfold LIM;omega),cond_true]
 have:=ZaC ((0,eS,[],[],0,eS,[],[],eS,eS)) a id (step:=j9D a) (λb=>k b) (by unfold LIM;omega) (λb i rec d f=>by
  show j3Q a _ _ _ _=_
  unfold j3Q
  dsimp only
  simp only [ZaQ d,cond_true,j00 d,j00 (show i<b.length by omega),Zay _ _ _ d,ZaF,j01 (n:=(i:Int)+1) (by omega),jro _ (j0h h (List.getElem_mem d))]
  rfl) (λb rec=>by
  show j3Q a _ _ _ _=_
  unfold j3Q
  dsimp only
  rw [ZaP,cond_false])
 rw [List.map_id] at this
 exact this
theorem jqE (a:qU) (left:Int) (g:0<=left) (h:left<=1048576) (l:Wf y24 a) (k:Int->Res):j8H a left k=k (szR left (msr y24 a)):=by
 have j:a.length<=maxLen:=l.1
 have p:msr y24 a=a.length+(a.map (msr y23)).sum:=rfl
 rw [p]
 unfold j8H
 refine jeV (F:=λq=>jbd a Z1c q 0 (λd=>k d) (λ_=>k (-1))) (k:=k) g h j λb=> ?_
 unfold jbd
 rw [ZaB (msr y23) a _ (by omega) (λleft i rec f g h=> ?_) (λleft rec=> ?_) _ (by omega) (by omega)]
 ·by_cases b:(((a.map (msr y23)).sum:Nat):Int)<=left-a.length
  ·rw [if_pos b,ZaA b]
  ·rw [if_neg b,Zaz b]
 ·show j3O a _ _ _ _ _=_
  have r:=l.2 _ (List.getElem_mem f)
  unfold j3O
  rw [ZaQ f,cond_true,j00 f,cond_true,Zay _ _ _ f,jrl _ _ g h r]
  have m:(i:Int)<4611686018427387904:=by unfold maxLen at j;omega
  rw [j01 (n:=(i:Int)+1) (by omega)]
  by_cases b:((msr y23 a[i]:Nat):Int)<=left
  ·rw [if_pos b,ZaA b,Za4 (by omega),cond_false]
  ·rw [if_neg b,Zaz b,Za5 (by omega),cond_true]
 ·show j3O a _ _ _ _ _=_
  unfold j3O
  rw [ZaP,cond_false]
theorem jdU (a:qU) (h:msr y24 a<=1048576) (k:Bool->Res):j1x a a k=k true:=by
 have d:a.length<=1048576:=j0c h
 unfold j1x
 rw [ZaO,cond_false]
 unfold jfr
 rw [Zar a _ (by unfold LIM;omega) (λi rec b=> ?_) (λrec=> ?_)]
 ·show j3I a a _ _ _ _=_
  unfold j3I
  simp only [ZaQ b,cond_true,j00 b,Zay _ _ _ b,j01 (n:=(i:Int)+1) (by omega),ZaO,Zai,cond_false,Bool.not_true,jqZ _ (j0h h (List.getElem_mem b))]
 ·show j3I a a _ _ _ _=_
  unfold j3I
  rw [ZaP,cond_false]
theorem jiv (a:qU) (k:Int) (h:msr y24 a<=1048576) (B:1<=k) (m:k+(wgt y24 a:Int)<=4294967296) (K:Int->qU->Res):j4j a k K=K (k+(wgt y24 a:Int)) (mkL (wgt y23) (mk y23) a k):=by
 have C:a.length<=1048576:=j0c h
 have g:wgt y24 a=(a.map (wgt y23)).sum:=rfl
 rw [g] at m ⊢
 unfold j4j jdG
 have:=Z9Z (wgt y23) (mk y23) a k (λl k i=>(l,k,i)) (step:=j56) (λl k=>K k l) (λl k=>K k l) (by unfold LIM;omega) (λl i rec d b n f=>by
  have z:=Z7B (wgt y23) a i d
  have A:=Z9L (wgt y23) a (i+1)
  generalize E:k+((((a.take i).map (wgt y23)).sum:Nat):Int)=κ
  have y:1<=κ/\κ+(wgt y23 a[i]:Int)<=4294967296:=by omega
  have D:(wgt y23 a[i]:Int)=1+1+(wgt y3 a[i].2.2.1:Int)+(wgt y3 a[i].2.2.2.1:Int)+1+1+(wgt y8 a[i].2.2.2.2.2.2.1:Int)+(wgt y0 a[i].2.2.2.2.2.2.2.1:Int)+1+1:=by
   have:wgt y23 a[i]=1+1+(wgt y3 a[i].2.2.1)+(wgt y3 a[i].2.2.2.1)+1+1+(wgt y8 a[i].2.2.2.2.2.2.1)+(wgt y0 a[i].2.2.2.2.2.2.2.1)+1+1:=by first | rfl | (simp only [wgt];done) | (simp only [wgt];omega)
   first | rfl | omega
  have p:msr y3 a[i].2.2.1<=1048576:=(Nat.le_trans (@j0K y3 y20 a[i].2.2) (Nat.le_trans (@j03 .str y21 a[i].2) (Nat.le_trans (@j03 (.int .i64) y22 a[i]) (j0h h (List.getElem_mem d)))))
  have q:msr y3 a[i].2.2.2.1<=1048576:=(Nat.le_trans (@j0K y3 y19 a[i].2.2.2) (Nat.le_trans (@j03 y3 y20 a[i].2.2) (Nat.le_trans (@j03 .str y21 a[i].2) (Nat.le_trans (@j03 (.int .i64) y22 a[i]) (j0h h (List.getElem_mem d))))))
  have r:msr y8 a[i].2.2.2.2.2.2.1<=1048576:=(Nat.le_trans (@j0K y8 y16 a[i].2.2.2.2.2.2) (Nat.le_trans (@j03 .str y17 a[i].2.2.2.2.2) (Nat.le_trans (@j03 (.int .i64) y18 a[i].2.2.2.2) (Nat.le_trans (@j03 y3 y19 a[i].2.2.2) (Nat.le_trans (@j03 y3 y20 a[i].2.2) (Nat.le_trans (@j03 .str y21 a[i].2) (Nat.le_trans (@j03 (.int .i64) y22 a[i]) (j0h h (List.getElem_mem d)))))))))
  have w:msr y0 a[i].2.2.2.2.2.2.2.1<=1048576:=(Nat.le_trans (@j0K y0 y15 a[i].2.2.2.2.2.2.2) (Nat.le_trans (@j03 y8 y16 a[i].2.2.2.2.2.2) (Nat.le_trans (@j03 .str y17 a[i].2.2.2.2.2) (Nat.le_trans (@j03 (.int .i64) y18 a[i].2.2.2.2) (Nat.le_trans (@j03 y3 y19 a[i].2.2.2) (Nat.le_trans (@j03 y3 y20 a[i].2.2) (Nat.le_trans (@j03 .str y21 a[i].2) (Nat.le_trans (@j03 (.int .i64) y22 a[i]) (j0h h (List.getElem_mem d))))))))))
  show j1n _ _ _ _ _=_
  dsimp only
  unfold j1n j3J j3K j3L j3M
  rw [<-b] at d
  have j:i<a.length:=by omega
  simp (disch:=first | assumption | omega) only [show nI a.length=nI l.length by rw [b],ZaQ,j00,jcp,cond_true,jce,jcq,Zay,f,j01,j1z,jk0,jgE,jk1,<-b]
  rw [ZaF]
  congr 3<;>first | rfl | omega | (simp only [j1p,j0Z,j2u,j57,j1o,j2v,j12,j1s,j11,j1t,Int.natCast_add,Int.natCast_one,<-Int.add_assoc];done) | (simp only [j1p,j0Z,j2u,j57,j1o,j2v,j12,j1s,j11,j1t,Int.natCast_add,Int.natCast_one,<-Int.add_assoc];rfl) | skip) (λl k rec b=>by
  show j1n _ _ _ _ _=_
  dsimp only
  unfold j1n j3J j3K j3L j3M
  rw [<-b,ZaP,cond_false])
 exact this
theorem jiq (a:qU) (k:Int) (h:msr y24 a<=1048576) (C:1<=k) (p:k+(wgt y24 a:Int)<=4294967296) (K:Int->Res):j2E (mkL (wgt y23) (mk y23) a k) k K=K (k+(wgt y24 a:Int)):=by
 have D:a.length<=1048576:=j0c h
 have g:wgt y24 a=(a.map (wgt y23)).sum:=rfl
 rw [g] at p ⊢
 have f:=Z6s (wgt y23) (mk y23) a k
 have m:=Zau (wgt y23) (mk y23) a k
 generalize mkL (wgt y23) (mk y23) a k=l at f m
 unfold j2E jdE
 have:=Z9W (wgt y23) a k (λk i=>(k,i)) (step:=j55 l) ((λ(j:Int)=>K j),(λ(_:Unit)=>K (-1))) (λk=>K k) (by unfold LIM;omega) (λi rec b=>by
  have A:=Z7B (wgt y23) a i b
  have B:=Z9L (wgt y23) a (i+1)
  have d:=m i b (by omega)
  generalize F:k+((((a.take i).map (wgt y23)).sum:Nat):Int)=κ at d
  have z:1<=κ/\κ+(wgt y23 a[i]:Int)<=4294967296:=by omega
  have E:(wgt y23 a[i]:Int)=1+1+(wgt y3 a[i].2.2.1:Int)+(wgt y3 a[i].2.2.2.1:Int)+1+1+(wgt y8 a[i].2.2.2.2.2.2.1:Int)+(wgt y0 a[i].2.2.2.2.2.2.2.1:Int)+1+1:=by
   have:wgt y23 a[i]=1+1+(wgt y3 a[i].2.2.1)+(wgt y3 a[i].2.2.2.1)+1+1+(wgt y8 a[i].2.2.2.2.2.2.1)+(wgt y0 a[i].2.2.2.2.2.2.2.1)+1+1:=by first | rfl | (simp only [wgt];done) | (simp only [wgt];omega)
   first | rfl | omega
  have q:msr y3 a[i].2.2.1<=1048576:=(Nat.le_trans (@j0K y3 y20 a[i].2.2) (Nat.le_trans (@j03 .str y21 a[i].2) (Nat.le_trans (@j03 (.int .i64) y22 a[i]) (j0h h (List.getElem_mem b)))))
  have r:msr y3 a[i].2.2.2.1<=1048576:=(Nat.le_trans (@j0K y3 y19 a[i].2.2.2) (Nat.le_trans (@j03 y3 y20 a[i].2.2) (Nat.le_trans (@j03 .str y21 a[i].2) (Nat.le_trans (@j03 (.int .i64) y22 a[i]) (j0h h (List.getElem_mem b))))))
  have w:msr y8 a[i].2.2.2.2.2.2.1<=1048576:=(Nat.le_trans (@j0K y8 y16 a[i].2.2.2.2.2.2) (Nat.le_trans (@j03 .str y17 a[i].2.2.2.2.2) (Nat.le_trans (@j03 (.int .i64) y18 a[i].2.2.2.2) (Nat.le_trans (@j03 y3 y19 a[i].2.2.2) (Nat.le_trans (@j03 y3 y20 a[i].2.2) (Nat.le_trans (@j03 .str y21 a[i].2) (Nat.le_trans (@j03 (.int .i64) y22 a[i]) (j0h h (List.getElem_mem b)))))))))
  have y:msr y0 a[i].2.2.2.2.2.2.2.1<=1048576:=(Nat.le_trans (@j0K y0 y15 a[i].2.2.2.2.2.2.2) (Nat.le_trans (@j03 y8 y16 a[i].2.2.2.2.2.2) (Nat.le_trans (@j03 .str y17 a[i].2.2.2.2.2) (Nat.le_trans (@j03 (.int .i64) y18 a[i].2.2.2.2) (Nat.le_trans (@j03 y3 y19 a[i].2.2.2) (Nat.le_trans (@j03 y3 y20 a[i].2.2) (Nat.le_trans (@j03 .str y21 a[i].2) (Nat.le_trans (@j03 (.int .i64) y22 a[i]) (j0h h (List.getElem_mem b))))))))))
  show j1m _ _ _ _ _ _=_
  dsimp only
  unfold j1m
  have n:i<l.length:=by omega
  simp (disch:=first | assumption | omega) only [ZaQ,j00,cond_true,cond_false,Zay,d,j1p,j0Z,j2u,j57,j1o,j2v,j12,j1s,j11,j1t,Int.natCast_add,Int.natCast_one,<-Int.add_assoc,j01,j1z,ZaO,Zai,beq_self_eq_true,Bool.not_true,Za4,jpz,jmn,jpA]
  all_goals (congr 2;omega)) (λk rec=>by
  show j1m _ _ _ _ _ _=_
  dsimp only
  unfold j1m
  rw [<-f,ZaP,cond_false])
 exact this
end Go.PI.G
namespace Go.PI.G
open Go Go.PI Go.Proofs
noncomputable def j9s (d:DB) (l:List ST):List ST×Bool:=bif (j1k d l).2.1 != 0 then ([],false) else mdV d (j1k d l).1
theorem jsS (d:DB) (l:List ST) (f:msr yDB d<=1048576) (b:msr (.slice yST) l<=1048576) (k:List ST->Bool->Res):j7W d l k=k (j9s d l).1 (j9s d l).2:=by
 unfold j7W j9s
 rw [jmX d f l (j0c b) (λs h=>jra (j0h b h))]
 cases g:((j1k d l).2.1 != 0)
 ·rw [cond_false,cond_false,jsR _ _ f (jli (jjT (by simpa using g)))]
 ·rfl
theorem jr1 (d:DB) (l:List ST) (f:msr yDB d<=1048576) (b:msr (.slice yST) l<=1048576) (k:List ST->Bool->Res):j4f d l k=k (j9s d l).1 (j9s d l).2:=by
 unfold j4f j9s
 rw [jmp d f l (j0c b) (λs h=>jra (j0h b h))]
 cases g:((j1k d l).2.1 != 0)
 ·rw [cond_false,cond_false,jsO _ _ f (jli (jjT (by simpa using g)))]
 ·rfl
theorem jpP (d:DB) (l:List ST):msr (.slice yST) (j9s d l).1<=1048576:=by
 unfold j9s
 cases (j1k d l).2.1 != 0
 ·exact jsA _ _
 ·exact Nat.zero_le _
theorem jru (f:DB) (z:Wf yDB f) (g:List ST) (w1:Wf (.slice yST) g) (k:Bool->Res):j2W f g k=k true:=by
 unfold j2W
 rw [jsH f 1048576 (by omega) (by omega) z]
 by_cases m:((msr yDB f:Nat):Int)<=1048576
 rotate_left
 ·rw [Zaz m];rfl
 have b:msr yDB f<=1048576:=by omega
 rw [ZaA m,decide_eq_false (by omega),cond_false,jqE g (1048576-((msr yDB f:Nat):Int)) (by omega) (by omega) w1]
 by_cases n:((msr (.slice yST) g:Nat):Int)<=1048576-((msr yDB f:Nat):Int)
 rotate_left
 ·rw [Zaz n];rfl
 have d:msr (.slice yST) g<=1048576:=by omega
 rw [ZaA n,decide_eq_false (by omega),cond_false,jjk f b,je2 g d,jsS f g b d,jjk f b,je2 g d]
 have h:=jpP f g
 generalize p:j9s f g=r at h
 obtain ⟨l,ok⟩:=r
 have i:∀ x:Bool,(x==x)=true:=by decide
 unfold j1Q
 rw [jr1 f g b d,p]
 dsimp only at h ⊢
 rw [jdU _ h,Bool.not_true,cond_false,i,Bool.not_true,cond_false,jjk f b,jsw f b,Bool.not_true,cond_false,je2 g d,jdU g d,Bool.not_true,cond_false]
 have A:=jjc (τ:=yDB) (by decide) b
 have q:=jgc yDB f
 have B:=jjc (τ:= .slice yST) (by decide) d
 have C:=jjc (τ:= .slice yST) (by decide) h
 have w:(1:Int)+((j5h yDB f:Nat):Int)<=4294967296:=by omega
 have y:(1:Int)+((j5h yDB f:Nat):Int)+((wgt (.slice yST) g:Nat):Int)<=4294967296:=by omega
 have j:(1:Int)+((wgt (.slice yST) l:Nat):Int)<=4294967296:=by omega
 unfold j1P
 rw [jr9 f 1 b (by omega) w,jiv g _ d (by omega) y,decide_eq_false (by omega),cond_false,jdU _ h,Bool.not_true,cond_false,i,Bool.not_true,cond_false,jiv _ 1 h (by omega) j,jiq _ 1 h (by omega) j,decide_eq_false (by omega),cond_false]
 unfold j1O
 rw [ZaO,cond_false,jjk f b,je2 g d,jr1 f g b d,p]
 dsimp only
 rw [jdU _ h,Bool.not_true,cond_false,i,Bool.not_true,cond_false,jiq _ 1 h (by omega) j,decide_eq_false (by omega),cond_false,ZaO,cond_false]
end Go.PI.G
