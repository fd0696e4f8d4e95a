/-
  Program's code interpreted over typed values; printed texts; plain laws. No conditions.
-/
import Derived.Test.YtnemiodjnhfejaaGreatRWm
import Derived.Test.YtnemiodjnhfejaaGreatRWh
import Derived.Test.YtnemiodjnhfejaaGreatRWi
set_option linter.unusedVariables false
set_option linter.unusedSimpArgs false
set_option maxRecDepth 10000
namespace Go.PI.G
open Go Go.PI Go.Proofs
theorem joL (a:(List ByteArray)) (h:msr y0 a<=1048576) (k:(List ByteArray)->Res):j64 a k=k a:=by
 have g:a.length<=1048576:=j0v h
 unfold j64
 rw [Zav (by unfold LIM;omega),cond_true]
 have:=ZaC (eS) a id (step:=j7s a) (λb=>k b) (by unfold LIM;omega) (λb i rec d f=>by
  show j2i a _ _ _ _=_
  unfold j2i
  dsimp only
  simp only [ZaQ d,cond_true,j00 d,j00 (show i<b.length by omega),Zay _ _ _ d,ZaF,j01 (n:=(i:Int)+1) (by omega)]
  rfl) (λb rec=>by
  show j2i a _ _ _ _=_
  unfold j2i
  dsimp only
  rw [ZaP,cond_false])
 rw [List.map_id] at this
 exact this
theorem joI (a:(List ByteArray)) (left:Int) (j:0<=left) (l:left<=1048576) (p:Wf y0 a) (k:Int->Res):j63 a left k=k (szR left (msr y0 a)):=by
 have m:a.length<=maxLen:=p.1
 have r:msr y0 a=a.length+(a.map (msr .str)).sum:=rfl
 rw [r]
 unfold j63
 refine jlk (F:=λq=>j8U a Z1c q 0 (λd=>k d) (λ_=>k (-1))) (k:=k) j l m λb=> ?_
 unfold j8U
 rw [ZaB (msr .str) a _ (by omega) (λleft i rec f j l=> ?_) (λleft rec=> ?_) _ (by omega) (by omega)]
 ·by_cases b:(((a.map (msr .str)).sum:Nat):Int)<=left-a.length
  ·rw [if_pos b,ZaA b]
  ·rw [if_neg b,Zaz b]
 ·show j2h a _ _ _ _ _=_
  have h:=p.2 _ (List.getElem_mem f)
  unfold j2h
  have h:a[i].size<=maxLen:=h
  unfold maxLen at h m
  rw [ZaQ f,cond_true,j00 f,cond_true,Zay _ _ _ f,j01 (n:=left-nI a[i].size) (by unfold nI;omega),j01 (n:=(i:Int)+1) (by omega)]
  unfold nI
  by_cases b:((msr .str a[i]:Nat):Int)<=left
  ·have g:(a[i].size:Int)<=left:=b
   rw [if_pos b,Za4 (by omega),cond_false];rfl
  ·have g:¬ (a[i].size:Int)<=left:=b
   rw [if_neg b,Za5 (by omega),cond_true]
 ·show j2h a _ _ _ _ _=_
  unfold j2h
  rw [ZaP,cond_false]
theorem jnR (a:(List ByteArray)) (h:msr y0 a<=1048576) (k:Bool->Res):j61 a a k=k true:=by
 have d:a.length<=1048576:=j0v h
 unfold j61
 rw [ZaO,cond_false]
 unfold jcY
 rw [Zar a _ (by unfold LIM;omega) (λi rec b=> ?_) (λrec=> ?_)]
 ·show j2g a a _ _ _ _=_
  unfold j2g
  simp only [ZaQ b,cond_true,j00 b,Zay _ _ _ b,j01 (n:=(i:Int)+1) (by omega),ZaO,Zai,cond_false,Bool.not_true]
 ·show j2g a a _ _ _ _=_
  unfold j2g
  rw [ZaP,cond_false]
theorem jlK (a:(List ByteArray)) (k:Int) (h:msr y0 a<=1048576) (w:1<=k) (m:k+(wgt y0 a:Int)<=4294967296) (K:Int->(List ByteArray)->Res):j6K a k K=K (k+(wgt y0 a:Int)) (mkL (wgt .str) (mk .str) a k):=by
 have y:a.length<=1048576:=j0v h
 have f:wgt y0 a=(a.map (wgt .str)).sum:=rfl
 rw [f] at m ⊢
 unfold j6K jbn
 have:=Z9Z (wgt .str) (mk .str) a k (λl k i=>(l,k,i)) (step:=j62) (λl k=>K k l) (λl k=>K k l) (by unfold LIM;omega) (λl i rec g b n d=>by
  have q:=Z7B (wgt .str) a i g
  have r:=Z9L (wgt .str) a (i+1)
  generalize A:k+((((a.take i).map (wgt .str)).sum:Nat):Int)=κ
  have p:1<=κ/\κ+(wgt .str a[i]:Int)<=4294967296:=by omega
  have z:(wgt .str a[i]:Int)=1:=by
   have:wgt .str a[i]=1:=by first | rfl | (simp only [wgt];done) | (simp only [wgt];omega)
   first | rfl | omega
  show j1D _ _ _ _ _=_
  dsimp only
  unfold j1D
  rw [<-b] at g
  have j:i<a.length:=by omega
  simp (disch:=first | assumption | omega) only [show nI a.length=nI l.length by rw [b],ZaQ,j00,jiy,cond_true,jiv,jiz,Zay,d,j01,j9j,<-b]
  rw [ZaF]
  congr 3<;>first | rfl | omega | (simp only [j8z,j6L,jaK,jdf,j8y,jaL,j6Z,j8J,j6Y,j8K,Int.natCast_add,Int.natCast_one,<-Int.add_assoc];done) | (simp only [j8z,j6L,jaK,jdf,j8y,jaL,j6Z,j8J,j6Y,j8K,Int.natCast_add,Int.natCast_one,<-Int.add_assoc];rfl) | skip) (λl k rec b=>by
  show j1D _ _ _ _ _=_
  dsimp only
  unfold j1D
  rw [<-b,ZaP,cond_false])
 exact this
end Go.PI.G
namespace Go.PI.G
open Go Go.PI Go.Proofs
theorem jrJ (a:Int×ByteArray×qE×List ByteArray×ByteArray×ByteArray) (h:msr y13 a<=1048576) (k:(Int×ByteArray×qE×List ByteArray×ByteArray×ByteArray)->Res):j8x a k=k a:=by
 have b:msr y8 a.2.2.1<=1048576:=(Nat.le_trans (@j4G y8 y10 a.2.2) (Nat.le_trans (@j03 .str y11 a.2) (Nat.le_trans (@j03 (.int .i64) y12 a) h)))
 have d:msr y0 a.2.2.2.1<=1048576:=(Nat.le_trans (@j4G y0 y9 a.2.2.2) (Nat.le_trans (@j03 y8 y10 a.2.2) (Nat.le_trans (@j03 .str y11 a.2) (Nat.le_trans (@j03 (.int .i64) y12 a) h))))
 unfold j8x
 simp only [jqO _ b,joL _ d]
theorem jrB (a:Int×ByteArray×qE×List ByteArray×ByteArray×ByteArray) (left:Int) (p:0<=left) (q:left<=1048576) (i:Wf y13 a) (k:Int->Res):j8w a left k=k (szR left (msr y13 a)):=by
 have n:msr y13 a=ByteArray.size a.2.1+(msr y8 a.2.2.1+(msr y0 a.2.2.2.1+(ByteArray.size a.2.2.2.2.1+(ByteArray.size a.2.2.2.2.2+0)))):=by simp only [msr]<;>omega
 rw [n]
 unfold j8w
 have j:ByteArray.size a.2.1<=maxLen:=i.2.1
 unfold maxLen at j
 rw [j01 (by unfold nI;omega)]
 by_cases f:((ByteArray.size a.2.1:Nat):Int)<=left
 rotate_left
 ·rw [Zal f,Za5 (by unfold nI;omega),cond_true]
 rw [Za4 (by unfold nI;omega),cond_false,Zak f,show left-nI (ByteArray.size a.2.1)=left-((ByteArray.size a.2.1:Nat):Int) from rfl]
 rw [jqL _ _ (by omega) (by omega) i.2.2.1]
 by_cases b:((msr y8 a.2.2.1:Nat):Int)<=left-(ByteArray.size a.2.1:Nat)
 rotate_left
 ·rw [Zaz b,Zal b,Za5 (by omega),cond_true]
 rw [ZaA b,Zak b,Za4 (by omega),cond_false]
 rw [joI _ _ (by omega) (by omega) i.2.2.2.1]
 by_cases d:((msr y0 a.2.2.2.1:Nat):Int)<=left-(ByteArray.size a.2.1:Nat)-(msr y8 a.2.2.1:Nat)
 rotate_left
 ·rw [Zaz d,Zal d,Za5 (by omega),cond_true]
 rw [ZaA d,Zak d,Za4 (by omega),cond_false]
 have l:ByteArray.size a.2.2.2.2.1<=maxLen:=i.2.2.2.2.1
 unfold maxLen at l
 rw [j01 (by unfold nI;omega)]
 by_cases g:((ByteArray.size a.2.2.2.2.1:Nat):Int)<=left-(ByteArray.size a.2.1:Nat)-(msr y8 a.2.2.1:Nat)-(msr y0 a.2.2.2.1:Nat)
 rotate_left
 ·rw [Zal g,Za5 (by unfold nI;omega),cond_true]
 rw [Za4 (by unfold nI;omega),cond_false,Zak g,show left-(ByteArray.size a.2.1:Nat)-(msr y8 a.2.2.1:Nat)-(msr y0 a.2.2.2.1:Nat)-nI (ByteArray.size a.2.2.2.2.1)=left-(ByteArray.size a.2.1:Nat)-(msr y8 a.2.2.1:Nat)-(msr y0 a.2.2.2.1:Nat)-((ByteArray.size a.2.2.2.2.1:Nat):Int) from rfl]
 have m:ByteArray.size a.2.2.2.2.2<=maxLen:=i.2.2.2.2.2
 unfold maxLen at m
 rw [j01 (by unfold nI;omega)]
 by_cases h:((ByteArray.size a.2.2.2.2.2:Nat):Int)<=left-(ByteArray.size a.2.1:Nat)-(msr y8 a.2.2.1:Nat)-(msr y0 a.2.2.2.1:Nat)-(ByteArray.size a.2.2.2.2.1:Nat)
 rotate_left
 ·rw [Zal h,Za5 (by unfold nI;omega),cond_true]
 rw [Za4 (by unfold nI;omega),cond_false,Zak h,show left-(ByteArray.size a.2.1:Nat)-(msr y8 a.2.2.1:Nat)-(msr y0 a.2.2.2.1:Nat)-(ByteArray.size a.2.2.2.2.1:Nat)-nI (ByteArray.size a.2.2.2.2.2)=left-(ByteArray.size a.2.1:Nat)-(msr y8 a.2.2.1:Nat)-(msr y0 a.2.2.2.1:Nat)-(ByteArray.size a.2.2.2.2.1:Nat)-((ByteArray.size a.2.2.2.2.2:Nat):Int) from rfl]
 exact jgg (by omega)
theorem jr7 (a:Int×ByteArray×qE×List ByteArray×ByteArray×ByteArray) (h:msr y13 a<=1048576) (k:Bool->Res):j8v a a k=k true:=by
 have b:msr y8 a.2.2.1<=1048576:=(Nat.le_trans (@j4G y8 y10 a.2.2) (Nat.le_trans (@j03 .str y11 a.2) (Nat.le_trans (@j03 (.int .i64) y12 a) h)))
 have d:msr y0 a.2.2.2.1<=1048576:=(Nat.le_trans (@j4G y0 y9 a.2.2.2) (Nat.le_trans (@j03 y8 y10 a.2.2) (Nat.le_trans (@j03 .str y11 a.2) (Nat.le_trans (@j03 (.int .i64) y12 a) h))))
 unfold j8v
 simp only [ZaO,Zai,beq_self_eq_true,cond_false,Bool.not_true,jql _ b,jnR _ d]
end Go.PI.G
namespace Go.PI.G
open Go Go.PI Go.Proofs
theorem jal (a:qW) (h:msr y3 a<=1048576) (k:qW->Res):j0R a k=k a:=by
 have g:a.length<=1048576:=j0v h
 unfold j0R
 rw [Zav (by unfold LIM;omega),cond_true]
 have:=ZaC ((0,0,eS)) a id (step:=j9L a) (λb=>k b) (by unfold LIM;omega) (λb i rec d f=>by
  show j4a a _ _ _ _=_
  unfold j4a
  dsimp only
  simp only [ZaQ d,cond_true,j00 d,j00 (show i<b.length by omega),Zay _ _ _ d,ZaF,j01 (n:=(i:Int)+1) (by omega),joM _ (j0S h (List.getElem_mem d))]
  rfl) (λb rec=>by
  show j4a a _ _ _ _=_
  unfold j4a
  dsimp only
  rw [ZaP,cond_false])
 rw [List.map_id] at this
 exact this
theorem jiq (a:qW) (left:Int) (g:0<=left) (h:left<=1048576) (l:Wf y3 a) (k:Int->Res):j3v a left k=k (szR left (msr y3 a)):=by
 have j:a.length<=maxLen:=l.1
 have p:msr y3 a=a.length+(a.map (msr y2)).sum:=rfl
 rw [p]
 unfold j3v
 refine jlk (F:=λq=>jbJ a Z1c q 0 (λd=>k d) (λ_=>k (-1))) (k:=k) g h j λb=> ?_
 unfold jbJ
 rw [ZaB (msr y2) a _ (by omega) (λleft i rec f g h=> ?_) (λleft rec=> ?_) _ (by omega) (by omega)]
 ·by_cases b:(((a.map (msr y2)).sum:Nat):Int)<=left-a.length
  ·rw [if_pos b,ZaA b]
  ·rw [if_neg b,Zaz b]
 ·show j47 a _ _ _ _ _=_
  have r:=l.2 _ (List.getElem_mem f)
  unfold j47
  rw [ZaQ f,cond_true,j00 f,cond_true,Zay _ _ _ f,joJ _ _ g h r]
  have m:(i:Int)<4611686018427387904:=by unfold maxLen at j;omega
  rw [j01 (n:=(i:Int)+1) (by omega)]
  by_cases b:((msr y2 a[i]:Nat):Int)<=left
  ·rw [if_pos b,ZaA b,Za4 (by omega),cond_false]
  ·rw [if_neg b,Zaz b,Za5 (by omega),cond_true]
 ·show j47 a _ _ _ _ _=_
  unfold j47
  rw [ZaP,cond_false]
theorem jhQ (a:qW) (h:msr y3 a<=1048576) (k:Bool->Res):j3u a a k=k true:=by
 have d:a.length<=1048576:=j0v h
 unfold j3u
 rw [ZaO,cond_false]
 unfold jg3
 rw [Zar a _ (by unfold LIM;omega) (λi rec b=> ?_) (λrec=> ?_)]
 ·show j3T a a _ _ _ _=_
  unfold j3T
  simp only [ZaQ b,cond_true,j00 b,Zay _ _ _ b,j01 (n:=(i:Int)+1) (by omega),ZaO,Zai,cond_false,Bool.not_true,jnS _ (j0S h (List.getElem_mem b))]
 ·show j3T a a _ _ _ _=_
  unfold j3T
  rw [ZaP,cond_false]
theorem jfj (a:qW) (k:Int) (h:msr y3 a<=1048576) (w:1<=k) (m:k+(wgt y3 a:Int)<=4294967296) (K:Int->qW->Res):j1o a k K=K (k+(wgt y3 a:Int)) (mkL (wgt y2) (mk y2) a k):=by
 have y:a.length<=1048576:=j0v h
 have f:wgt y3 a=(a.map (wgt y2)).sum:=rfl
 rw [f] at m ⊢
 unfold j1o jdP
 have:=Z9Z (wgt y2) (mk y2) a k (λl k i=>(l,k,i)) (step:=j7Y) (λl k=>K k l) (λl k=>K k l) (by unfold LIM;omega) (λl i rec g b n d=>by
  have q:=Z7B (wgt y2) a i g
  have r:=Z9L (wgt y2) a (i+1)
  generalize A:k+((((a.take i).map (wgt y2)).sum:Nat):Int)=κ
  have p:1<=κ/\κ+(wgt y2 a[i]:Int)<=4294967296:=by omega
  have z:(wgt y2 a[i]:Int)=1+1+1:=by
   have:wgt y2 a[i]=1+1+1:=by first | rfl | (simp only [wgt];done) | (simp only [wgt];omega)
   first | rfl | omega
  show j2D _ _ _ _ _=_
  dsimp only
  unfold j2D
  rw [<-b] at g
  have j:i<a.length:=by omega
  simp (disch:=first | assumption | omega) only [show nI a.length=nI l.length by rw [b],ZaQ,j00,jiy,cond_true,jiv,jiz,Zay,d,j01,j9j,<-b]
  rw [ZaF]
  congr 3<;>first | rfl | omega | (simp only [j8z,j6L,jaK,jdf,j8y,jaL,j6Z,j8J,j6Y,j8K,Int.natCast_add,Int.natCast_one,<-Int.add_assoc];done) | (simp only [j8z,j6L,jaK,jdf,j8y,jaL,j6Z,j8J,j6Y,j8K,Int.natCast_add,Int.natCast_one,<-Int.add_assoc];rfl) | skip) (λl k rec b=>by
  show j2D _ _ _ _ _=_
  dsimp only
  unfold j2D
  rw [<-b,ZaP,cond_false])
 exact this
theorem jp2 (a:qW) (k:Int) (h:msr y3 a<=1048576) (y:1<=k) (p:k+(wgt y3 a:Int)<=4294967296) (K:Int->Res):j9r (mkL (wgt y2) (mk y2) a k) k K=K (k+(wgt y3 a:Int)):=by
 have z:a.length<=1048576:=j0v h
 have f:wgt y3 a=(a.map (wgt y2)).sum:=rfl
 rw [f] at p ⊢
 have d:=Z6s (wgt y2) (mk y2) a k
 have j:=Zau (wgt y2) (mk y2) a k
 generalize mkL (wgt y2) (mk y2) a k=l at d j
 unfold j9r jdL
 have:=Z9W (wgt y2) a k (λk i=>(k,i)) (step:=j7W l) ((λ(g:Int)=>K g),(λ(_:Unit)=>K (-1))) (λk=>K k) (by unfold LIM;omega) (λi rec m=>by
  have r:=Z7B (wgt y2) a i m
  have w:=Z9L (wgt y2) a (i+1)
  have b:=j i m (by omega)
  generalize B:k+((((a.take i).map (wgt y2)).sum:Nat):Int)=κ at b
  have q:1<=κ/\κ+(wgt y2 a[i]:Int)<=4294967296:=by omega
  have A:(wgt y2 a[i]:Int)=1+1+1:=by
   have:wgt y2 a[i]=1+1+1:=by first | rfl | (simp only [wgt];done) | (simp only [wgt];omega)
   first | rfl | omega
  show j2B _ _ _ _ _ _=_
  dsimp only
  unfold j2B
  have n:i<l.length:=by omega
  simp (disch:=first | assumption | omega) only [ZaQ,j00,cond_true,cond_false,Zay,b,j8z,j6L,jaK,jdf,j8y,jaL,j6Z,j8J,j6Y,j8K,Int.natCast_add,Int.natCast_one,<-Int.add_assoc,j01,j9j,ZaO,Zai,beq_self_eq_true,Bool.not_true,Za4]
  all_goals (congr 2;omega)) (λk rec=>by
  show j2B _ _ _ _ _ _=_
  dsimp only
  unfold j2B
  rw [<-d,ZaP,cond_false])
 exact this
end Go.PI.G
namespace Go.PI.G
open Go Go.PI Go.Proofs
theorem jrL (a:List qV) (h:msr y3 a<=1048576) (k:qW->Res):jaI a k=k a:=by
 have b:msr y3 a<=1048576:=h
 unfold jaI
 simp only [jal _ b]
theorem jrE (a:List qV) (left:Int) (g:0<=left) (h:left<=1048576) (f:Wf y3 a) (k:Int->Res):jaG a left k=k (szR left (msr y3 a)):=by
 have d:msr y3 a=msr y3 a+0:=rfl
 rw [d]
 unfold jaG
 rw [jiq _ _ (by omega) (by omega) f]
 by_cases b:((msr y3 a:Nat):Int)<=left
 rotate_left
 ·rw [Zaz b,Zal b,Za5 (by omega),cond_true]
 rw [ZaA b,Zak b,Za4 (by omega),cond_false]
 exact jgg (by omega)
theorem jgs (a:List qV) (h:msr y3 a<=1048576) (k:Bool->Res):j1S a a k=k true:=by
 have b:msr y3 a<=1048576:=h
 unfold j1S
 simp only [ZaO,Zai,beq_self_eq_true,cond_false,Bool.not_true,jhQ _ b]
theorem jpQ (a:List qV) (k:Int) (h:msr y3 a<=1048576) (d:1<=k) (g:k+(j6X y3 a:Int)<=4294967296) (K:Int->qW->Res):j7X a k K=K (k+(j6X y3 a:Int)) (mkT y3 a k):=by
 have d:msr y3 a<=1048576:=h
 have f:msr y3 a<=1048576:=h
 have b:j6X y3 a=wgt y3 a:=rfl
 have i:j6X y3 a=wgt y3 a:=by first | rfl | (simp only [jeQ,b,j9X,j8d,j9Y,Nat.zero_add,Nat.add_zero];done) | (simp only [jeQ,b,j9X,j8d,j9Y,Nat.zero_add,Nat.add_zero];omega)
 unfold j7X
 simp (disch:=first | assumption | omega) only [jfj]
 first | rfl | (simp only [jeC,jlM,jjA,jlN,b,j9X,j8d,j9Y,Int.natCast_add,Int.natCast_zero,Int.cast_ofNat_Int,Nat.zero_add,Nat.add_zero,Int.add_zero,<-Int.add_assoc];done) | (simp only [jeC,jlM,jjA,jlN,b,j9X,j8d,j9Y,Int.natCast_add,Int.natCast_zero,Int.cast_ofNat_Int,Nat.zero_add,Nat.add_zero,Int.add_zero,<-Int.add_assoc];rfl)
theorem jkq (a:List qV) (k:Int) (h:msr y3 a<=1048576) (d:1<=k) (g:k+(j6X y3 a:Int)<=4294967296) (K:Int->Res):j3U (mkL (wgt y2) (mk y2) a k) k K=K (k+(j6X y3 a:Int)):=by
 have d:msr y3 a<=1048576:=h
 have f:msr y3 a<=1048576:=h
 have b:j6X y3 a=wgt y3 a:=rfl
 have i:j6X y3 a=wgt y3 a:=by first | rfl | (simp only [jeQ,b,j9X,j8d,j9Y,Nat.zero_add,Nat.add_zero];done) | (simp only [jeQ,b,j9X,j8d,j9Y,Nat.zero_add,Nat.add_zero];omega)
 unfold j3U
 simp (disch:=first | assumption | omega) only [jeC,jlM,jjA,jlN,b,j9X,j8d,j9Y,Int.natCast_add,Int.natCast_zero,Int.cast_ofNat_Int,Nat.zero_add,Nat.add_zero,Int.add_zero,<-Int.add_assoc,jp2,Za4,cond_false]
 all_goals (repeat (show (bif decide (_<(0:Int)) then _ else _)=_;rw [Za4 (by omega),cond_false]))
 all_goals first | done | rfl | (congr 1;omega)
end Go.PI.G
namespace Go.PI.G
open Go Go.PI Go.Proofs
theorem jqP (a:Int×ByteArray×qW×qW×Int×ByteArray×qE×List ByteArray×ByteArray×ByteArray) (h:msr y17 a<=1048576) (k:qS->Res):j9i a k=k a:=by
 have b:msr y3 a.2.2.1<=1048576:=(Nat.le_trans (@j4G y3 y14 a.2.2) (Nat.le_trans (@j03 .str y15 a.2) (Nat.le_trans (@j03 (.int .i64) y16 a) h)))
 have d:msr y3 a.2.2.2.1<=1048576:=(Nat.le_trans (@j4G y3 y13 a.2.2.2) (Nat.le_trans (@j03 y3 y14 a.2.2) (Nat.le_trans (@j03 .str y15 a.2) (Nat.le_trans (@j03 (.int .i64) y16 a) h))))
 have f:msr y13 a.2.2.2.2<=1048576:=(Nat.le_trans (@j03 y3 y13 a.2.2.2) (Nat.le_trans (@j03 y3 y14 a.2.2) (Nat.le_trans (@j03 .str y15 a.2) (Nat.le_trans (@j03 (.int .i64) y16 a) h))))
 unfold j9i
 simp only [jal _ b,jrL _ d,jrJ _ f]
theorem jqN (a:Int×ByteArray×qW×qW×Int×ByteArray×qE×List ByteArray×ByteArray×ByteArray) (left:Int) (l:0<=left) (m:left<=1048576) (h:Wf y17 a) (k:Int->Res):j9g a left k=k (szR left (msr y17 a)):=by
 have j:msr y17 a=ByteArray.size a.2.1+(msr y3 a.2.2.1+(msr y3 a.2.2.2.1+(msr y13 a.2.2.2.2+0))):=by simp only [msr]<;>omega
 rw [j]
 unfold j9g
 have i:ByteArray.size a.2.1<=maxLen:=h.2.1
 unfold maxLen at i
 rw [j01 (by unfold nI;omega)]
 by_cases g:((ByteArray.size a.2.1:Nat):Int)<=left
 rotate_left
 ·rw [Zal g,Za5 (by unfold nI;omega),cond_true]
 rw [Za4 (by unfold nI;omega),cond_false,Zak g,show left-nI (ByteArray.size a.2.1)=left-((ByteArray.size a.2.1:Nat):Int) from rfl]
 rw [jiq _ _ (by omega) (by omega) h.2.2.1]
 by_cases b:((msr y3 a.2.2.1:Nat):Int)<=left-(ByteArray.size a.2.1:Nat)
 rotate_left
 ·rw [Zaz b,Zal b,Za5 (by omega),cond_true]
 rw [ZaA b,Zak b,Za4 (by omega),cond_false]
 rw [jrE _ _ (by omega) (by omega) h.2.2.2.1]
 by_cases d:((msr y3 a.2.2.2.1:Nat):Int)<=left-(ByteArray.size a.2.1:Nat)-(msr y3 a.2.2.1:Nat)
 rotate_left
 ·rw [Zaz d,Zal d,Za5 (by omega),cond_true]
 rw [ZaA d,Zak d,Za4 (by omega),cond_false]
 rw [jrB _ _ (by omega) (by omega) h.2.2.2.2]
 by_cases f:((msr y13 a.2.2.2.2:Nat):Int)<=left-(ByteArray.size a.2.1:Nat)-(msr y3 a.2.2.1:Nat)-(msr y3 a.2.2.2.1:Nat)
 rotate_left
 ·rw [Zaz f,Zal f,Za5 (by omega),cond_true]
 rw [ZaA f,Zak f,Za4 (by omega),cond_false]
 exact jgg (by omega)
theorem jqn (a:Int×ByteArray×qW×qW×Int×ByteArray×qE×List ByteArray×ByteArray×ByteArray) (h:msr y17 a<=1048576) (k:Bool->Res):j9d a a k=k true:=by
 have b:msr y3 a.2.2.1<=1048576:=(Nat.le_trans (@j4G y3 y14 a.2.2) (Nat.le_trans (@j03 .str y15 a.2) (Nat.le_trans (@j03 (.int .i64) y16 a) h)))
 have d:msr y3 a.2.2.2.1<=1048576:=(Nat.le_trans (@j4G y3 y13 a.2.2.2) (Nat.le_trans (@j03 y3 y14 a.2.2) (Nat.le_trans (@j03 .str y15 a.2) (Nat.le_trans (@j03 (.int .i64) y16 a) h))))
 have f:msr y13 a.2.2.2.2<=1048576:=(Nat.le_trans (@j03 y3 y13 a.2.2.2) (Nat.le_trans (@j03 y3 y14 a.2.2) (Nat.le_trans (@j03 .str y15 a.2) (Nat.le_trans (@j03 (.int .i64) y16 a) h))))
 unfold j9d
 simp only [ZaO,Zai,beq_self_eq_true,cond_false,Bool.not_true,jhQ _ b,jgs _ d,jr7 _ f]
end Go.PI.G
namespace Go.PI.G
open Go Go.PI Go.Proofs
theorem jrK (a:Int×Int×Int×ByteArray×qW×qW×Int×ByteArray×qE×List ByteArray×ByteArray×ByteArray) (h:msr y19 a<=1048576) (k:(Int×Int×Int×ByteArray×qW×qW×Int×ByteArray×qE×List ByteArray×ByteArray×ByteArray)->Res):jde a k=k a:=by
 have b:msr y17 a.2.2<=1048576:=(Nat.le_trans (@j03 (.int .i64) y17 a.2) (Nat.le_trans (@j03 (.int .i64) y18 a) h))
 unfold jde
 simp only [jqP _ b]
theorem jrD (a:Int×Int×Int×ByteArray×qW×qW×Int×ByteArray×qE×List ByteArray×ByteArray×ByteArray) (left:Int) (g:0<=left) (h:left<=1048576) (f:Wf y19 a) (k:Int->Res):jdc a left k=k (szR left (msr y19 a)):=by
 have d:msr y19 a=msr y17 a.2.2+0:=by simp only [msr]<;>omega
 rw [d]
 unfold jdc
 rw [jqN _ _ (by omega) (by omega) f.2.2]
 by_cases b:((msr y17 a.2.2:Nat):Int)<=left
 rotate_left
 ·rw [Zaz b,Zal b,Za5 (by omega),cond_true]
 rw [ZaA b,Zak b,Za4 (by omega),cond_false]
 exact jgg (by omega)
theorem jr8 (a:Int×Int×Int×ByteArray×qW×qW×Int×ByteArray×qE×List ByteArray×ByteArray×ByteArray) (h:msr y19 a<=1048576) (k:Bool->Res):jda a a k=k true:=by
 have b:msr y17 a.2.2<=1048576:=(Nat.le_trans (@j03 (.int .i64) y17 a.2) (Nat.le_trans (@j03 (.int .i64) y18 a) h))
 unfold jda
 simp only [ZaO,Zai,beq_self_eq_true,cond_false,Bool.not_true,jqn _ b]
end Go.PI.G
namespace Go.PI.G
open Go Go.PI Go.Proofs
theorem jeP (a:(List (Int×Int×Int×ByteArray×qW×qW×Int×ByteArray×qE×List ByteArray×ByteArray×ByteArray))) (h:msr y20 a<=1048576) (k:(List (Int×Int×Int×ByteArray×qW×qW×Int×ByteArray×qE×List ByteArray×ByteArray×ByteArray))->Res):j1O a k=k a:=by
 have g:a.length<=1048576:=j0v h
 unfold j1O
 rw [Zav (by unfold LIM;omega),cond_true]
 have:=ZaC ((0,0,0,eS,[],[],0,eS,[],[],eS,eS)) a id (step:=j9K a) (λb=>k b) (by unfold LIM;omega) (λb i rec d f=>by
  show j49 a _ _ _ _=_
  unfold j49
  dsimp only
  simp only [ZaQ d,cond_true,j00 d,j00 (show i<b.length by omega),Zay _ _ _ d,ZaF,j01 (n:=(i:Int)+1) (by omega),jrK _ (j0S h (List.getElem_mem d))]
  rfl) (λb rec=>by
  show j49 a _ _ _ _=_
  unfold j49
  dsimp only
  rw [ZaP,cond_false])
 rw [List.map_id] at this
 exact this
theorem jqM (a:(List (Int×Int×Int×ByteArray×qW×qW×Int×ByteArray×qE×List ByteArray×ByteArray×ByteArray))) (left:Int) (g:0<=left) (h:left<=1048576) (l:Wf y20 a) (k:Int->Res):j9f a left k=k (szR left (msr y20 a)):=by
 have j:a.length<=maxLen:=l.1
 have p:msr y20 a=a.length+(a.map (msr y19)).sum:=rfl
 rw [p]
 unfold j9f
 refine jlk (F:=λq=>jbI a Z1c q 0 (λd=>k d) (λ_=>k (-1))) (k:=k) g h j λb=> ?_
 unfold jbI
 rw [ZaB (msr y19) a _ (by omega) (λleft i rec f g h=> ?_) (λleft rec=> ?_) _ (by omega) (by omega)]
 ·by_cases b:(((a.map (msr y19)).sum:Nat):Int)<=left-a.length
  ·rw [if_pos b,ZaA b]
  ·rw [if_neg b,Zaz b]
 ·show j46 a _ _ _ _ _=_
  have r:=l.2 _ (List.getElem_mem f)
  unfold j46
  rw [ZaQ f,cond_true,j00 f,cond_true,Zay _ _ _ f,jrD _ _ g h r]
  have m:(i:Int)<4611686018427387904:=by unfold maxLen at j;omega
  rw [j01 (n:=(i:Int)+1) (by omega)]
  by_cases b:((msr y19 a[i]:Nat):Int)<=left
  ·rw [if_pos b,ZaA b,Za4 (by omega),cond_false]
  ·rw [if_neg b,Zaz b,Za5 (by omega),cond_true]
 ·show j46 a _ _ _ _ _=_
  unfold j46
  rw [ZaP,cond_false]
theorem jqm (a:(List (Int×Int×Int×ByteArray×qW×qW×Int×ByteArray×qE×List ByteArray×ByteArray×ByteArray))) (h:msr y20 a<=1048576) (k:Bool->Res):j9c a a k=k true:=by
 have d:a.length<=1048576:=j0v h
 unfold j9c
 rw [ZaO,cond_false]
 unfold jg2
 rw [Zar a _ (by unfold LIM;omega) (λi rec b=> ?_) (λrec=> ?_)]
 ·show j3S a a _ _ _ _=_
  unfold j3S
  simp only [ZaQ b,cond_true,j00 b,Zay _ _ _ b,j01 (n:=(i:Int)+1) (by omega),ZaO,Zai,cond_false,Bool.not_true,jr8 _ (j0S h (List.getElem_mem b))]
 ·show j3S a a _ _ _ _=_
  unfold j3S
  rw [ZaP,cond_false]
theorem jpc (a:(List (Int×Int×Int×ByteArray×qW×qW×Int×ByteArray×qE×List ByteArray×ByteArray×ByteArray))) (k:Int) (h:msr y20 a<=1048576) (B:1<=k) (m:k+(wgt y20 a:Int)<=4294967296) (K:Int->(List (Int×Int×Int×ByteArray×qW×qW×Int×ByteArray×qE×List ByteArray×ByteArray×ByteArray))->Res):j7d a k K=K (k+(wgt y20 a:Int)) (mkL (wgt y19) (mk y19) a k):=by
 have C:a.length<=1048576:=j0v h
 have g:wgt y20 a=(a.map (wgt y19)).sum:=rfl
 rw [g] at m ⊢
 unfold j7d jdN
 have:=Z9Z (wgt y19) (mk y19) a k (λl k i=>(l,k,i)) (step:=j54) (λl k=>K k l) (λl k=>K k l) (by unfold LIM;omega) (λl i rec d b n f=>by
  have z:=Z7B (wgt y19) a i d
  have A:=Z9L (wgt y19) a (i+1)
  generalize E:k+((((a.take i).map (wgt y19)).sum:Nat):Int)=κ
  have y:1<=κ/\κ+(wgt y19 a[i]:Int)<=4294967296:=by omega
  have D:(wgt y19 a[i]:Int)=1+1+1+1+(wgt y3 a[i].2.2.2.2.1:Int)+(wgt y3 a[i].2.2.2.2.2.1:Int)+1+1+(wgt y8 a[i].2.2.2.2.2.2.2.2.1:Int)+(wgt y0 a[i].2.2.2.2.2.2.2.2.2.1:Int)+1+1:=by
   have:wgt y19 a[i]=1+1+1+1+(wgt y3 a[i].2.2.2.2.1)+(wgt y3 a[i].2.2.2.2.2.1)+1+1+(wgt y8 a[i].2.2.2.2.2.2.2.2.1)+(wgt y0 a[i].2.2.2.2.2.2.2.2.2.1)+1+1:=by first | rfl | (simp only [wgt];done) | (simp only [wgt];omega)
   first | rfl | omega
  have p:msr y3 a[i].2.2.2.2.1<=1048576:=(Nat.le_trans (@j4G y3 y14 a[i].2.2.2.2) (Nat.le_trans (@j03 .str y15 a[i].2.2.2) (Nat.le_trans (@j03 (.int .i64) y16 a[i].2.2) (Nat.le_trans (@j03 (.int .i64) y17 a[i].2) (Nat.le_trans (@j03 (.int .i64) y18 a[i]) (j0S h (List.getElem_mem d)))))))
  have q:msr y3 a[i].2.2.2.2.2.1<=1048576:=(Nat.le_trans (@j4G y3 y13 a[i].2.2.2.2.2) (Nat.le_trans (@j03 y3 y14 a[i].2.2.2.2) (Nat.le_trans (@j03 .str y15 a[i].2.2.2) (Nat.le_trans (@j03 (.int .i64) y16 a[i].2.2) (Nat.le_trans (@j03 (.int .i64) y17 a[i].2) (Nat.le_trans (@j03 (.int .i64) y18 a[i]) (j0S h (List.getElem_mem d))))))))
  have r:msr y8 a[i].2.2.2.2.2.2.2.2.1<=1048576:=(Nat.le_trans (@j4G y8 y10 a[i].2.2.2.2.2.2.2.2) (Nat.le_trans (@j03 .str y11 a[i].2.2.2.2.2.2.2) (Nat.le_trans (@j03 (.int .i64) y12 a[i].2.2.2.2.2.2) (Nat.le_trans (@j03 y3 y13 a[i].2.2.2.2.2) (Nat.le_trans (@j03 y3 y14 a[i].2.2.2.2) (Nat.le_trans (@j03 .str y15 a[i].2.2.2) (Nat.le_trans (@j03 (.int .i64) y16 a[i].2.2) (Nat.le_trans (@j03 (.int .i64) y17 a[i].2) (Nat.le_trans (@j03 (.int .i64) y18 a[i]) (j0S h (List.getElem_mem d)))))))))))
  have w:msr y0 a[i].2.2.2.2.2.2.2.2.2.1<=1048576:=(Nat.le_trans (@j4G y0 y9 a[i].2.2.2.2.2.2.2.2.2) (Nat.le_trans (@j03 y8 y10 a[i].2.2.2.2.2.2.2.2) (Nat.le_trans (@j03 .str y11 a[i].2.2.2.2.2.2.2) (Nat.le_trans (@j03 (.int .i64) y12 a[i].2.2.2.2.2.2) (Nat.le_trans (@j03 y3 y13 a[i].2.2.2.2.2) (Nat.le_trans (@j03 y3 y14 a[i].2.2.2.2) (Nat.le_trans (@j03 .str y15 a[i].2.2.2) (Nat.le_trans (@j03 (.int .i64) y16 a[i].2.2) (Nat.le_trans (@j03 (.int .i64) y17 a[i].2) (Nat.le_trans (@j03 (.int .i64) y18 a[i]) (j0S h (List.getElem_mem d))))))))))))
  show j1C _ _ _ _ _=_
  dsimp only
  unfold j1C j3Y j3Z j40 j41 j42 j43 j44
  rw [<-b] at d
  have j:i<a.length:=by omega
  simp (disch:=first | assumption | omega) only [show nI a.length=nI l.length by rw [b],ZaQ,j00,jiy,cond_true,jiv,jiz,Zay,f,j01,j9j,jpb,jlK,jfj,<-b]
  rw [ZaF]
  congr 3<;>first | rfl | omega | (simp only [j8z,j6L,jaK,jdf,j8y,jaL,j6Z,j8J,j6Y,j8K,Int.natCast_add,Int.natCast_one,<-Int.add_assoc];done) | (simp only [j8z,j6L,jaK,jdf,j8y,jaL,j6Z,j8J,j6Y,j8K,Int.natCast_add,Int.natCast_one,<-Int.add_assoc];rfl) | skip) (λl k rec b=>by
  show j1C _ _ _ _ _=_
  dsimp only
  unfold j1C j3Y j3Z j40 j41 j42 j43 j44
  rw [<-b,ZaP,cond_false])
 exact this
end Go.PI.G
namespace Go.PI.G
open Go Go.PI Go.Proofs
theorem jpT {d:DB} (h:dbB d=true) (t:ByteArray) (b:List V):msr (.slice yV) (jck d t b).1<=1048576:=by
 rcases jdW h t b with ⟨_,e⟩ | ⟨i,p,f,_,_,_,⟨_,e⟩ | ⟨j,l,_,e⟩⟩
 ·rw [e];exact Nat.zero_le _
 ·rw [e];exact Nat.zero_le _
 ·rw [e]
  have m:msr yDB d=msr (.slice yT) d.1+msr (.slice (.slice (.slice yV))) d.2:=rfl
  have n:=jfS h
  have g:msr (.slice (.slice (.slice yV))) d.2<=1048576:=by omega
  have k:=j0S (e:= .slice (.slice yV)) g (List.getElem_mem f)
  exact j0S (e:= .slice yV) k (List.getElem_mem l)
theorem joo (l:List RC) (t:ByteArray) (b:List V) (p:Int):msr (.slice yV) (j6M l t b p).1<=1048576:=by
 unfold j6M
 rcases j99 l p with ⟨d,h⟩ | ⟨m,rfl,g,f,d⟩
 ·rw [d];exact Nat.zero_le _
 ·rw [d,cond_true]
  exact jpT (jdn f g).2 t b
theorem jqF (b:List RC) (D:Wf (.slice yRC) b) (j:ByteArray) (w1:Wf .str j) (h:List V) (w2:Wf (.slice yV) h) (l:Int) (H:Wf (.int .i64) l) (k:Bool->Res):j2f b j h l k=k true:=by
 unfold j2f
 by_cases ht:nI j.size>1048576
 ·rw [decide_eq_true ht];rfl
 rw [decide_eq_false ht,cond_false,jqM b 1048576 (by omega) (by omega) D]
 by_cases w:((msr (.slice yRC) b:Nat):Int)<=1048576
 rotate_left
 ·rw [Zaz w];rfl
 have d:msr (.slice yRC) b<=1048576:=by omega
 obtain ⟨n,p⟩:=jri d
 rw [ZaA w,decide_eq_false (by omega),cond_false,jiq h (1048576-((msr (.slice yRC) b:Nat):Int)) (by omega) (by omega) w2]
 by_cases y:((msr (.slice yV) h:Nat):Int)<=1048576-((msr (.slice yRC) b:Nat):Int)
 rotate_left
 ·rw [Zaz y];rfl
 have f:msr (.slice yV) h<=1048576:=by omega
 rw [ZaA y,decide_eq_false (by omega),cond_false,jeP b d,jal h f,jpm b n p,jeP b d,jal h f]
 have i:=joo b j h l
 generalize z:j6M b j h l=r at i
 obtain ⟨g,ok⟩:=r
 have m:∀ x:Bool,(x==x)=true:=by decide
 have E:=jir (τ:= .slice yRC) (by decide) d
 have F:=jir (τ:= .slice yV) (by decide) f
 have A:=jir (τ:= .slice yV) (by decide) i
 have G:=jft (.slice yV) g
 dsimp only at i A ⊢
 have B:(1:Int)+((wgt (.slice yRC) b:Nat):Int)<=4294967296:=by omega
 have C:(1:Int)+((wgt (.slice yRC) b:Nat):Int)+((wgt (.slice yV) h:Nat):Int)<=4294967296:=by omega
 have q:(1:Int)+((j6X (.slice yV) g:Nat):Int)<=4294967296:=by omega
 unfold j1l
 rw [jj8 b n p,z]
 dsimp only
 rw [jgs _ i,Bool.not_true,cond_false,m,Bool.not_true,cond_false,jeP b d,jqm b d,Bool.not_true,cond_false,jal h f,jhQ h f,Bool.not_true,cond_false]
 unfold j1k
 rw [jpc b 1 d (by omega) B,jfj h _ f (by omega) C,decide_eq_false (by omega),cond_false,jgs _ i,Bool.not_true,cond_false,m,Bool.not_true,cond_false,jpQ _ 1 i (by omega) q,jeC,jkq _ 1 i (by omega) q,decide_eq_false (by omega),cond_false,ZaO,cond_false]
 unfold j1j
 rw [jeP b d,jal h f,jj8 b n p,z]
 dsimp only
 rw [jgs _ i,Bool.not_true,cond_false,m,Bool.not_true,cond_false,jkq _ 1 i (by omega) q,decide_eq_false (by omega),cond_false,ZaO,cond_false]
end Go.PI.G
