/-
  Program's code interpreted over typed values; printed texts; plain laws. No conditions.
-/
import Derived.Test.YtnemiodjnhfejaaGreatDAn
import Derived.Test.YtnemiodjnhfejaaGreatDAi
set_option linter.unusedVariables false
set_option linter.unusedSimpArgs false
set_option maxRecDepth 10000
namespace Go.PI.G
open Go Go.PI Go.Proofs
theorem jga (a:(List (Int×Int×Int×ByteArray×qW×qW×Int×ByteArray×qE×List ByteArray×ByteArray×ByteArray))) (h:msr y20 a<=1048576) (k:(List (Int×Int×Int×ByteArray×qW×qW×Int×ByteArray×qE×List ByteArray×ByteArray×ByteArray))->Res):j1V a k=k a:=by
 have g:a.length<=1048576:=j0p h
 unfold j1V
 rw [Zav (by unfold LIM;omega),cond_true]
 have:=ZaC ((0,0,0,eS,[],[],0,eS,[],[],eS,eS)) a id (step:=jaF a) (λb=>k b) (by unfold LIM;omega) (λb i rec d f=>by
  show j4E a _ _ _ _=_
  unfold j4E
  dsimp only
  simp only [ZaQ d,cond_true,j01 d,j01 (show i<b.length by omega),Zay _ _ _ d,ZaF,j02 (n:=(i:Int)+1) (by omega),jfp _ (j0O h (List.getElem_mem d))]
  rfl) (λb rec=>by
  show j4E a _ _ _ _=_
  unfold j4E
  dsimp only
  rw [ZaP,cond_false])
 rw [List.map_id] at this
 exact this
theorem jsU (a:(List (Int×Int×Int×ByteArray×qW×qW×Int×ByteArray×qE×List ByteArray×ByteArray×ByteArray))) (left:Int) (g:0<=left) (h:left<=1048576) (l:Wf y20 a) (k:Int->Res):jaa a left k=k (szR left (msr y20 a)):=by
 have j:a.length<=maxLen:=l.1
 have p:msr y20 a=a.length+(a.map (msr y19)).sum:=rfl
 rw [p]
 unfold jaa
 refine jnc (F:=λq=>jcF a Z1c q 0 (λd=>k d) (λ_=>k (-1))) (k:=k) g h j λb=> ?_
 unfold jcF
 rw [ZaB (msr y19) a _ (by omega) (λleft i rec f g h=> ?_) (λleft rec=> ?_) _ (by omega) (by omega)]
 ·by_cases b:(((a.map (msr y19)).sum:Nat):Int)<=left-a.length
  ·rw [if_pos b,ZaA b]
  ·rw [if_neg b,Zaz b]
 ·show j4B a _ _ _ _ _=_
  have r:=l.2 _ (List.getElem_mem f)
  unfold j4B
  rw [ZaQ f,cond_true,j01 f,cond_true,Zay _ _ _ f,jqR _ _ g h r]
  have m:(i:Int)<4611686018427387904:=by unfold maxLen at j;omega
  rw [j02 (n:=(i:Int)+1) (by omega)]
  by_cases b:((msr y19 a[i]:Nat):Int)<=left
  ·rw [if_pos b,ZaA b,Za4 (by omega),cond_false]
  ·rw [if_neg b,Zaz b,Za5 (by omega),cond_true]
 ·show j4B a _ _ _ _ _=_
  unfold j4B
  rw [ZaP,cond_false]
theorem jfN (a:(List (Int×Int×Int×ByteArray×qW×qW×Int×ByteArray×qE×List ByteArray×ByteArray×ByteArray))) (h:msr y20 a<=1048576) (k:Bool->Res):j1U a a k=k true:=by
 have d:a.length<=1048576:=j0p h
 unfold j1U
 rw [ZaO,cond_false]
 unfold jhi
 rw [Zar a _ (by unfold LIM;omega) (λi rec b=> ?_) (λrec=> ?_)]
 ·show j4n a a _ _ _ _=_
  unfold j4n
  simp only [ZaQ b,cond_true,j01 b,Zay _ _ _ b,j02 (n:=(i:Int)+1) (by omega),ZaO,Zai,cond_false,Bool.not_true,jq1 _ (j0O h (List.getElem_mem b))]
 ·show j4n a a _ _ _ _=_
  unfold j4n
  rw [ZaP,cond_false]
theorem jkS (a:(List (Int×Int×Int×ByteArray×qW×qW×Int×ByteArray×qE×List ByteArray×ByteArray×ByteArray))) (k:Int) (h:msr y20 a<=1048576) (B:1<=k) (m:k+(wgt y20 a:Int)<=4294967296) (K:Int->(List (Int×Int×Int×ByteArray×qW×qW×Int×ByteArray×qE×List ByteArray×ByteArray×ByteArray))->Res):j5h a k K=K (k+(wgt y20 a:Int)) (mkL (wgt y19) (mk y19) a k):=by
 have C:a.length<=1048576:=j0p h
 have g:wgt y20 a=(a.map (wgt y19)).sum:=rfl
 rw [g] at m ⊢
 unfold j5h jf0
 have:=Z9Z (wgt y19) (mk y19) a k (λl k i=>(l,k,i)) (step:=j5K) (λl k=>K k l) (λl k=>K k l) (by unfold LIM;omega) (λl i rec d b n f=>by
  have z:=Z7B (wgt y19) a i d
  have A:=Z9L (wgt y19) a (i+1)
  generalize E:k+((((a.take i).map (wgt y19)).sum:Nat):Int)=κ
  have y:1<=κ/\κ+(wgt y19 a[i]:Int)<=4294967296:=by omega
  have D:(wgt y19 a[i]:Int)=1+1+1+1+(wgt y3 a[i].2.2.2.2.1:Int)+(wgt y3 a[i].2.2.2.2.2.1:Int)+1+1+(wgt y8 a[i].2.2.2.2.2.2.2.2.1:Int)+(wgt y0 a[i].2.2.2.2.2.2.2.2.2.1:Int)+1+1:=by
   have:wgt y19 a[i]=1+1+1+1+(wgt y3 a[i].2.2.2.2.1)+(wgt y3 a[i].2.2.2.2.2.1)+1+1+(wgt y8 a[i].2.2.2.2.2.2.2.2.1)+(wgt y0 a[i].2.2.2.2.2.2.2.2.2.1)+1+1:=by first | rfl | (simp only [wgt];done) | (simp only [wgt];omega)
   first | rfl | omega
  have p:msr y3 a[i].2.2.2.2.1<=1048576:=(Nat.le_trans (@j0l y3 y14 a[i].2.2.2.2) (Nat.le_trans (@j00 .str y15 a[i].2.2.2) (Nat.le_trans (@j00 (.int .i64) y16 a[i].2.2) (Nat.le_trans (@j00 (.int .i64) y17 a[i].2) (Nat.le_trans (@j00 (.int .i64) y18 a[i]) (j0O h (List.getElem_mem d)))))))
  have q:msr y3 a[i].2.2.2.2.2.1<=1048576:=(Nat.le_trans (@j0l y3 y13 a[i].2.2.2.2.2) (Nat.le_trans (@j00 y3 y14 a[i].2.2.2.2) (Nat.le_trans (@j00 .str y15 a[i].2.2.2) (Nat.le_trans (@j00 (.int .i64) y16 a[i].2.2) (Nat.le_trans (@j00 (.int .i64) y17 a[i].2) (Nat.le_trans (@j00 (.int .i64) y18 a[i]) (j0O h (List.getElem_mem d))))))))
  have r:msr y8 a[i].2.2.2.2.2.2.2.2.1<=1048576:=(Nat.le_trans (@j0l y8 y10 a[i].2.2.2.2.2.2.2.2) (Nat.le_trans (@j00 .str y11 a[i].2.2.2.2.2.2.2) (Nat.le_trans (@j00 (.int .i64) y12 a[i].2.2.2.2.2.2) (Nat.le_trans (@j00 y3 y13 a[i].2.2.2.2.2) (Nat.le_trans (@j00 y3 y14 a[i].2.2.2.2) (Nat.le_trans (@j00 .str y15 a[i].2.2.2) (Nat.le_trans (@j00 (.int .i64) y16 a[i].2.2) (Nat.le_trans (@j00 (.int .i64) y17 a[i].2) (Nat.le_trans (@j00 (.int .i64) y18 a[i]) (j0O h (List.getElem_mem d)))))))))))
  have w:msr y0 a[i].2.2.2.2.2.2.2.2.2.1<=1048576:=(Nat.le_trans (@j0l y0 y9 a[i].2.2.2.2.2.2.2.2.2) (Nat.le_trans (@j00 y8 y10 a[i].2.2.2.2.2.2.2.2) (Nat.le_trans (@j00 .str y11 a[i].2.2.2.2.2.2.2) (Nat.le_trans (@j00 (.int .i64) y12 a[i].2.2.2.2.2.2) (Nat.le_trans (@j00 y3 y13 a[i].2.2.2.2.2) (Nat.le_trans (@j00 y3 y14 a[i].2.2.2.2) (Nat.le_trans (@j00 .str y15 a[i].2.2.2) (Nat.le_trans (@j00 (.int .i64) y16 a[i].2.2) (Nat.le_trans (@j00 (.int .i64) y17 a[i].2) (Nat.le_trans (@j00 (.int .i64) y18 a[i]) (j0O h (List.getElem_mem d))))))))))))
  show j1J _ _ _ _ _=_
  dsimp only
  unfold j1J j4t j4u j4v j4w j4x j4y j4z
  rw [<-b] at d
  have j:i<a.length:=by omega
  simp (disch:=first | assumption | omega) only [show nI a.length=nI l.length by rw [b],ZaQ,j01,jkb,cond_true,jk8,jkc,Zay,f,j02,j3W,jkR,jhk,jgD,<-b]
  rw [ZaF]
  congr 3<;>first | rfl | omega | (simp only [j5j,j3j,j7S,jaq,j5i,j7T,j3o,j5n,j3n,j5o,Int.natCast_add,Int.natCast_one,<-Int.add_assoc];done) | (simp only [j5j,j3j,j7S,jaq,j5i,j7T,j3o,j5n,j3n,j5o,Int.natCast_add,Int.natCast_one,<-Int.add_assoc];rfl) | skip) (λl k rec b=>by
  show j1J _ _ _ _ _=_
  dsimp only
  unfold j1J j4t j4u j4v j4w j4x j4y j4z
  rw [<-b,ZaP,cond_false])
 exact this
theorem jkL (a:(List (Int×Int×Int×ByteArray×qW×qW×Int×ByteArray×qE×List ByteArray×ByteArray×ByteArray))) (k:Int) (h:msr y20 a<=1048576) (C:1<=k) (p:k+(wgt y20 a:Int)<=4294967296) (K:Int->Res):j3i (mkL (wgt y19) (mk y19) a k) k K=K (k+(wgt y20 a:Int)):=by
 have D:a.length<=1048576:=j0p h
 have g:wgt y20 a=(a.map (wgt y19)).sum:=rfl
 rw [g] at p ⊢
 have f:=Z6s (wgt y19) (mk y19) a k
 have m:=Zau (wgt y19) (mk y19) a k
 generalize mkL (wgt y19) (mk y19) a k=l at f m
 unfold j3i jeX
 have:=Z9W (wgt y19) a k (λk i=>(k,i)) (step:=j5I l) ((λ(j:Int)=>K j),(λ(_:Unit)=>K (-1))) (λk=>K k) (by unfold LIM;omega) (λi rec b=>by
  have A:=Z7B (wgt y19) a i b
  have B:=Z9L (wgt y19) a (i+1)
  have d:=m i b (by omega)
  generalize F:k+((((a.take i).map (wgt y19)).sum:Nat):Int)=κ at d
  have z:1<=κ/\κ+(wgt y19 a[i]:Int)<=4294967296:=by omega
  have E:(wgt y19 a[i]:Int)=1+1+1+1+(wgt y3 a[i].2.2.2.2.1:Int)+(wgt y3 a[i].2.2.2.2.2.1:Int)+1+1+(wgt y8 a[i].2.2.2.2.2.2.2.2.1:Int)+(wgt y0 a[i].2.2.2.2.2.2.2.2.2.1:Int)+1+1:=by
   have:wgt y19 a[i]=1+1+1+1+(wgt y3 a[i].2.2.2.2.1)+(wgt y3 a[i].2.2.2.2.2.1)+1+1+(wgt y8 a[i].2.2.2.2.2.2.2.2.1)+(wgt y0 a[i].2.2.2.2.2.2.2.2.2.1)+1+1:=by first | rfl | (simp only [wgt];done) | (simp only [wgt];omega)
   first | rfl | omega
  have q:msr y3 a[i].2.2.2.2.1<=1048576:=(Nat.le_trans (@j0l y3 y14 a[i].2.2.2.2) (Nat.le_trans (@j00 .str y15 a[i].2.2.2) (Nat.le_trans (@j00 (.int .i64) y16 a[i].2.2) (Nat.le_trans (@j00 (.int .i64) y17 a[i].2) (Nat.le_trans (@j00 (.int .i64) y18 a[i]) (j0O h (List.getElem_mem b)))))))
  have r:msr y3 a[i].2.2.2.2.2.1<=1048576:=(Nat.le_trans (@j0l y3 y13 a[i].2.2.2.2.2) (Nat.le_trans (@j00 y3 y14 a[i].2.2.2.2) (Nat.le_trans (@j00 .str y15 a[i].2.2.2) (Nat.le_trans (@j00 (.int .i64) y16 a[i].2.2) (Nat.le_trans (@j00 (.int .i64) y17 a[i].2) (Nat.le_trans (@j00 (.int .i64) y18 a[i]) (j0O h (List.getElem_mem b))))))))
  have w:msr y8 a[i].2.2.2.2.2.2.2.2.1<=1048576:=(Nat.le_trans (@j0l y8 y10 a[i].2.2.2.2.2.2.2.2) (Nat.le_trans (@j00 .str y11 a[i].2.2.2.2.2.2.2) (Nat.le_trans (@j00 (.int .i64) y12 a[i].2.2.2.2.2.2) (Nat.le_trans (@j00 y3 y13 a[i].2.2.2.2.2) (Nat.le_trans (@j00 y3 y14 a[i].2.2.2.2) (Nat.le_trans (@j00 .str y15 a[i].2.2.2) (Nat.le_trans (@j00 (.int .i64) y16 a[i].2.2) (Nat.le_trans (@j00 (.int .i64) y17 a[i].2) (Nat.le_trans (@j00 (.int .i64) y18 a[i]) (j0O h (List.getElem_mem b)))))))))))
  have y:msr y0 a[i].2.2.2.2.2.2.2.2.2.1<=1048576:=(Nat.le_trans (@j0l y0 y9 a[i].2.2.2.2.2.2.2.2.2) (Nat.le_trans (@j00 y8 y10 a[i].2.2.2.2.2.2.2.2) (Nat.le_trans (@j00 .str y11 a[i].2.2.2.2.2.2.2) (Nat.le_trans (@j00 (.int .i64) y12 a[i].2.2.2.2.2.2) (Nat.le_trans (@j00 y3 y13 a[i].2.2.2.2.2) (Nat.le_trans (@j00 y3 y14 a[i].2.2.2.2) (Nat.le_trans (@j00 .str y15 a[i].2.2.2) (Nat.le_trans (@j00 (.int .i64) y16 a[i].2.2) (Nat.le_trans (@j00 (.int .i64) y17 a[i].2) (Nat.le_trans (@j00 (.int .i64) y18 a[i]) (j0O h (List.getElem_mem b))))))))))))
  show j1G _ _ _ _ _ _=_
  dsimp only
  unfold j1G
  have n:i<l.length:=by omega
  simp (disch:=first | assumption | omega) only [ZaQ,j01,cond_true,cond_false,Zay,d,j5j,j3j,j7S,jaq,j5i,j7T,j3o,j5n,j3n,j5o,Int.natCast_add,Int.natCast_one,<-Int.add_assoc,j02,j3W,ZaO,Zai,beq_self_eq_true,Bool.not_true,Za4,jra,jnv,jrb]
  all_goals (congr 2;omega)) (λk rec=>by
  show j1G _ _ _ _ _ _=_
  dsimp only
  unfold j1G
  rw [<-f,ZaP,cond_false])
 exact this
end Go.PI.G
namespace Go.PI.G
open Go Go.PI Go.Proofs
theorem jtH (d:List RC) (A:Wf (.slice yRC) d) (b:RC) (w1:Wf yRC b) (k:Bool->Res):j3x d b k=k true:=by
 unfold j3x
 rw [jsU d 1048576 (by omega) (by omega) A]
 by_cases p:((msr (.slice yRC) d:Nat):Int)<=1048576
 rotate_left
 ·rw [Zaz p];rfl
 have f:msr (.slice yRC) d<=1048576:=by omega
 obtain ⟨l,m⟩:=jtt f
 rw [ZaA p,decide_eq_false (by omega),cond_false,jqR b (1048576-((msr (.slice yRC) d:Nat):Int)) (by omega) (by omega) w1]
 by_cases q:((msr yRC b:Nat):Int)<=1048576-((msr (.slice yRC) d:Nat):Int)
 rotate_left
 ·rw [Zaz q];rfl
 have h:msr yRC b<=1048576:=by omega
 have j:j0t b.2.2:=by
  have e:msr yRC b=0+(0+msr yST b.2.2):=rfl
  exact jsJ (by omega)
 rw [ZaA q,decide_eq_false (by omega),cond_false,jga d f,jfp b h,js8 d l m b j,jga d f,jfp b h]
 have i:msr (.slice yRC) (jdx d b).1<=1048576:=jt5 _ _
 generalize w:jdx d b=r at i
 obtain ⟨g,code⟩:=r
 dsimp only at i ⊢
 have B:=jk4 (τ:= .slice yRC) (by decide) f
 have C:=jk4 (τ:=yRC) (by decide) h
 have D:=jgP yRC b
 have E:=jk4 (τ:= .slice yRC) (by decide) i
 have y:(1:Int)+((wgt (.slice yRC) d:Nat):Int)<=4294967296:=by omega
 have z:(1:Int)+((wgt (.slice yRC) d:Nat):Int)+((j14 yRC b:Nat):Int)<=4294967296:=by omega
 have n:(1:Int)+((wgt (.slice yRC) g:Nat):Int)<=4294967296:=by omega
 unfold j20
 rw [jmf d l m b j,w]
 dsimp only
 rw [jfN _ i,Bool.not_true,cond_false,ZaO,cond_false,jga d f,jfN d f,Bool.not_true,cond_false,jfp b h,jq1 b h,Bool.not_true,cond_false]
 unfold j1Z
 rw [jkS d 1 f (by omega) y,js0 b _ h (by omega) z,decide_eq_false (by omega),cond_false,jfN _ i,Bool.not_true,cond_false,ZaO,cond_false,jkS _ 1 i (by omega) n,jkL _ 1 i (by omega) n,decide_eq_false (by omega),cond_false]
 unfold j1Y
 rw [ZaO,cond_false,jga d f,jfp b h,jmf d l m b j,w]
 dsimp only
 rw [jfN _ i,Bool.not_true,cond_false,ZaO,cond_false,jkL _ 1 i (by omega) n,decide_eq_false (by omega),cond_false,ZaO,cond_false]
end Go.PI.G
