/-
  Program's code interpreted over typed values; printed texts; plain laws. No conditions.
-/
import Derived.Test.YtnemiodjnhfejaaGreatWTh
import Derived.Test.YtnemiodjnhfejaaGreatWTm
import Derived.Test.YtnemiodjnhfejaaGreatWTi
import Derived.Test.YtnemiodjnhfejaaGreatWTj
set_option linter.unusedVariables false
set_option linter.unusedSimpArgs false
namespace Go.PI.G
open Go Go.PI Go.Proofs
theorem jpp (l:List RC) (h:l.length<=1048576) (f:∀ r∈l,j1x r.2.2) (k:List Int->Res):j6d l k=k (j3u l):=by
 unfold j6d j3u
 rw [jpr l h f]
 cases jhz l
 ·rfl
 unfold jaE
 refine Za3 l jj5 (λi b=>(b,i)) (step:=j5m l (nI l.length)) (λb=>k b) k (by unfold LIM;omega) jj6 (λb i rec d g=>by
  show j2T _ _ _ _ _ _=_
  unfold j2T jj5
  dsimp only
  rw [ZaQ d,cond_true,j00 d,cond_true,Zay _ _ _ d,j01 (n:=(i:Int)+1) (by omega),ZaL (by unfold LIM;omega),cond_true]
  cases l[i].1==3
  ·show _=rec (b++[],_)
   rw [List.append_nil]
   rfl
  ·rfl) (λb rec=>by
  show j2T _ _ _ _ _ _=_
  unfold j2T
  dsimp only
  rw [ZaP,cond_false])
end Go.PI.G
namespace Go.PI.G
open Go Go.PI Go.Proofs
theorem jpa (l:List RC) (h:l.length<=1048576) (f:∀ r∈l,j1x r.2.2) (k:List Int->Res):j5F l k=k (j3u l):=by
 unfold j5F j3u
 rw [jpc l h f]
 cases jhz l
 ·rfl
 unfold ja7
 refine Za3 l jj5 (λi b=>(b,i)) (step:=j5g l (nI l.length)) (λb=>k b) k (by unfold LIM;omega) jj6 (λb i rec d g=>by
  show j2J _ _ _ _ _ _=_
  unfold j2J jj5
  dsimp only
  rw [ZaQ d,cond_true,j00 d,cond_true,Zay _ _ _ d,j01 (n:=(i:Int)+1) (by omega),ZaL (by unfold LIM;omega),cond_true]
  cases l[i].1==3
  ·show _=rec (b++[],_)
   rw [List.append_nil]
   rfl
  ·rfl) (λb rec=>by
  show j2J _ _ _ _ _ _=_
  unfold j2J
  dsimp only
  rw [ZaP,cond_false])
end Go.PI.G
namespace Go.PI.G
open Go Go.PI Go.Proofs
theorem joM (l:List RC) (h:l.length<=1048576) (g:∀ r∈l,j1x r.2.2) (a:Int) (k:List Int->Res):j6j l a k=k (j9D l a):=by
 unfold j6j j9D
 rw [jpp l h g]
 have f:(j3u l).length<=1048576:=Nat.le_trans (jda l) h
 generalize j3u l=c at f
 unfold jaI
 refine Za3 c (jgl a) (λi b=>(b,i)) (step:=j5p a c (nI c.length)) (λb=>k b) k (by unfold LIM;omega) (ji5 a) (λb i rec d j=>by
  show j31 _ _ _ _ _ _ _=_
  unfold j31 jgl
  dsimp only
  rw [ZaQ d,cond_true,j00 d,cond_true,Zay _ _ _ d,j01 (n:=(i:Int)+1) (by omega),ZaL (by unfold LIM;omega),cond_true]
  cases decide (c[i]>a)
  ·show _=rec (b++[],_)
   rw [List.append_nil]
   rfl
  ·rfl) (λb rec=>by
  show j31 _ _ _ _ _ _ _=_
  unfold j31
  dsimp only
  rw [ZaP,cond_false])
theorem jiK (l:List RC) (h:l.length<=1048576) (g:∀ r∈l,j1x r.2.2) (a:Int) (k:List Int->Res):j2h l a k=k (j9D l a):=by
 unfold j2h j9D
 rw [jpa l h g]
 have f:(j3u l).length<=1048576:=Nat.le_trans (jda l) h
 generalize j3u l=c at f
 unfold jaa
 refine Za3 c (jgl a) (λi b=>(b,i)) (step:=j5k a c (nI c.length)) (λb=>k b) k (by unfold LIM;omega) (ji5 a) (λb i rec d j=>by
  show j2R _ _ _ _ _ _ _=_
  unfold j2R jgl
  dsimp only
  rw [ZaQ d,cond_true,j00 d,cond_true,Zay _ _ _ d,j01 (n:=(i:Int)+1) (by omega),ZaL (by unfold LIM;omega),cond_true]
  cases decide (c[i]>a)
  ·show _=rec (b++[],_)
   rw [List.append_nil]
   rfl
  ·rfl) (λb rec=>by
  show j2R _ _ _ _ _ _ _=_
  unfold j2R
  dsimp only
  rw [ZaP,cond_false])
end Go.PI.G
namespace Go.PI.G
open Go Go.PI Go.Proofs
theorem jgJ (k:ByteArray->Res):∀ (m n d:Nat) (s:ByteArray),n<m->0<n->n<=4294967296->n<10 ^ (d+1)->s.size+d<=1000 ->
  Z1f j4V m ((n:Int),s) k=k (jfZ n++s)
 | 0,n,d,s,h,_,_,_,_=>by omega
 | m+1,n,d,s,h,q,p,i,r=>by
  rw [Z9Y]
  show j2m _ _ _ _=_
  unfold j2m
  have l:decide ((n:Int)>0)=true:=decide_eq_true (by omega)
  rw [l,cond_true,jr9,jra,ZaH (n:=((n / 10:Nat):Int)) (by omega) (by omega)]
  show (bif lim ((dgt ((n % 10:Nat):Int)).size+s.size) then Z1f j4V m (((n / 10:Nat):Int),dgt ((n % 10:Nat):Int)++s) k else none)=_
  rw [jdb,ZaL (by unfold LIM;omega),cond_true]
  by_cases b:n<10
  ·have f:n / 10=0:=by omega
   have g:n % 10=n:=by omega
   rw [f,g,jl8 b]
   obtain ⟨m,rfl⟩:∃ e,m=e+1:=⟨m-1,by omega⟩
   rw [Z9Y]
   show j2m _ _ _ _=_
   unfold j2m
   have j:decide (((0:Nat):Int)>0)=false:=decide_eq_false (by omega)
   rw [j,cond_false]
  ·obtain ⟨d,rfl⟩:∃ e,d=e+1:=by
    cases d with
    | zero=>exact absurd (by simpa using i) b
    | succ d=>exact ⟨d,rfl⟩
   rw [jgJ k m (n / 10) d _ (by omega) (by omega) (by omega) (Nat.div_lt_of_lt_mul (by rw [Nat.pow_succ] at i;omega)) (by rw [ByteArray.size_append,jdb];omega),joR b,ByteArray.append_assoc]
theorem j7b (k:Int) (h:1<=k/\k<=4294967296) (K:ByteArray->Res):j0p k K=K (mT k):=by
 unfold j0p jdo
 have d:decide (k<=0)=false:=decide_eq_false (by omega)
 have:=jgJ (λ(b:ByteArray)=>bif lim (1+(ByteArray.size b)) then K (z_m++b) else none) Z1c k.toNat 12 eS (Z2b (by omega)) (by omega) (by omega) (by omega) (by show 0+12<=1000;omega)
 rw [show ((k.toNat:Nat):Int)=k by omega,jrJ] at this
 rw [d,cond_false]
 refine this.trans ?_
 have f:=jlT 12 k.toNat (by omega)
 rw [ZaL (by unfold LIM;omega),cond_true]
 rfl
end Go.PI.G
set_option maxRecDepth 10000
namespace Go.PI.G
open Go Go.PI Go.Proofs
theorem jod (a:Int×Int×ByteArray) (h:msr y2 a<=1048576) (k:qV->Res):jal a k=k a:=by
 unfold jal
 rfl
theorem joa (a:Int×Int×ByteArray) (left:Int) (h:0<=left) (i:left<=1048576) (g:Wf y2 a) (k:Int->Res):jaj a left k=k (szR left (msr y2 a)):=by
 have f:msr y2 a=ByteArray.size a.2.2+0:=by simp only [msr]<;>omega
 rw [f]
 unfold jaj
 have d:ByteArray.size a.2.2<=maxLen:=g.2.2
 unfold maxLen at d
 rw [j01 (by unfold nI;omega)]
 by_cases b:((ByteArray.size a.2.2:Nat):Int)<=left
 rotate_left
 ·rw [Zal b,Za5 (by unfold nI;omega),cond_true]
 rw [Za4 (by unfold nI;omega),cond_false,Zak b,show left-nI (ByteArray.size a.2.2)=left-((ByteArray.size a.2.2:Nat):Int) from rfl]
 exact jfL (by omega)
theorem jnp (a:Int×Int×ByteArray) (h:msr y2 a<=1048576) (k:Bool->Res):jah a a k=k true:=by
 unfold jah
 simp only [ZaO,Zai,beq_self_eq_true,cond_false,Bool.not_true]
end Go.PI.G
namespace Go.PI.G
open Go Go.PI Go.Proofs
theorem jrb (a:ByteArray×Int×Bool×Bool×Int×Int×ByteArray) (h:msr y7 a<=1048576) (k:qC->Res):jcK a k=k a:=by
 have b:msr y2 a.2.2.2.2<=1048576:=(Nat.le_trans (@j03 .bool y2 a.2.2.2) (Nat.le_trans (@j03 .bool y4 a.2.2) (Nat.le_trans (@j03 (.int .i64) y5 a.2) (Nat.le_trans (@j03 .str y6 a) h))))
 unfold jcK
 simp only [jod _ b]
theorem jr3 (a:ByteArray×Int×Bool×Bool×Int×Int×ByteArray) (left:Int) (i:0<=left) (j:left<=1048576) (g:Wf y7 a) (k:Int->Res):jcI a left k=k (szR left (msr y7 a)):=by
 have h:msr y7 a=ByteArray.size a.1+(msr y2 a.2.2.2.2+0):=by simp only [msr]<;>omega
 rw [h]
 unfold jcI
 have f:ByteArray.size a.1<=maxLen:=g.1
 unfold maxLen at f
 rw [j01 (by unfold nI;omega)]
 by_cases d:((ByteArray.size a.1:Nat):Int)<=left
 rotate_left
 ·rw [Zal d,Za5 (by unfold nI;omega),cond_true]
 rw [Za4 (by unfold nI;omega),cond_false,Zak d,show left-nI (ByteArray.size a.1)=left-((ByteArray.size a.1:Nat):Int) from rfl]
 rw [joa _ _ (by omega) (by omega) g.2.2.2.2]
 by_cases b:((msr y2 a.2.2.2.2:Nat):Int)<=left-(ByteArray.size a.1:Nat)
 rotate_left
 ·rw [Zaz b,Zal b,Za5 (by omega),cond_true]
 rw [ZaA b,Zak b,Za4 (by omega),cond_false]
 exact jfL (by omega)
theorem jqA (a:ByteArray×Int×Bool×Bool×Int×Int×ByteArray) (h:msr y7 a<=1048576) (k:Bool->Res):jcG a a k=k true:=by
 have b:msr y2 a.2.2.2.2<=1048576:=(Nat.le_trans (@j03 .bool y2 a.2.2.2) (Nat.le_trans (@j03 .bool y4 a.2.2) (Nat.le_trans (@j03 (.int .i64) y5 a.2) (Nat.le_trans (@j03 .str y6 a) h))))
 unfold jcG
 simp only [ZaO,Zai,beq_self_eq_true,cond_false,Bool.not_true,jnp _ b]
end Go.PI.G
namespace Go.PI.G
open Go Go.PI Go.Proofs
theorem jqg (a:qE) (h:msr y8 a<=1048576) (k:qE->Res):j8Y a k=k a:=by
 have g:a.length<=1048576:=j0h h
 unfold j8Y
 rw [Zav (by unfold LIM;omega),cond_true]
 have:=ZaC ((eS,0,false,false,0,0,eS)) a id (step:=j9p a) (λb=>k b) (by unfold LIM;omega) (λb i rec d f=>by
  show j3V a _ _ _ _=_
  unfold j3V
  dsimp only
  simp only [ZaQ d,cond_true,j00 d,j00 (show i<b.length by omega),Zay _ _ _ d,ZaF,j01 (n:=(i:Int)+1) (by omega),jrb _ (j11 h (List.getElem_mem d))]
  rfl) (λb rec=>by
  show j3V a _ _ _ _=_
  unfold j3V
  dsimp only
  rw [ZaP,cond_false])
 rw [List.map_id] at this
 exact this
theorem jqd (a:qE) (left:Int) (g:0<=left) (h:left<=1048576) (l:Wf y8 a) (k:Int->Res):j8V a left k=k (szR left (msr y8 a)):=by
 have j:a.length<=maxLen:=l.1
 have p:msr y8 a=a.length+(a.map (msr y7)).sum:=rfl
 rw [p]
 unfold j8V
 refine jkS (F:=λq=>jbl a Z1c q 0 (λd=>k d) (λ_=>k (-1))) (k:=k) g h j λb=> ?_
 unfold jbl
 rw [ZaB (msr y7) a _ (by omega) (λleft i rec f g h=> ?_) (λleft rec=> ?_) _ (by omega) (by omega)]
 ·by_cases b:(((a.map (msr y7)).sum:Nat):Int)<=left-a.length
  ·rw [if_pos b,ZaA b]
  ·rw [if_neg b,Zaz b]
 ·show j3S a _ _ _ _ _=_
  have r:=l.2 _ (List.getElem_mem f)
  unfold j3S
  rw [ZaQ f,cond_true,j00 f,cond_true,Zay _ _ _ f,jr3 _ _ g h r]
  have m:(i:Int)<4611686018427387904:=by unfold maxLen at j;omega
  rw [j01 (n:=(i:Int)+1) (by omega)]
  by_cases b:((msr y7 a[i]:Nat):Int)<=left
  ·rw [if_pos b,ZaA b,Za4 (by omega),cond_false]
  ·rw [if_neg b,Zaz b,Za5 (by omega),cond_true]
 ·show j3S a _ _ _ _ _=_
  unfold j3S
  rw [ZaP,cond_false]
theorem jpN (a:qE) (h:msr y8 a<=1048576) (k:Bool->Res):j8S a a k=k true:=by
 have d:a.length<=1048576:=j0h h
 unfold j8S
 rw [ZaO,cond_false]
 unfold jfs
 rw [Zar a _ (by unfold LIM;omega) (λi rec b=> ?_) (λrec=> ?_)]
 ·show j3E a a _ _ _ _=_
  unfold j3E
  simp only [ZaQ b,cond_true,j00 b,Zay _ _ _ b,j01 (n:=(i:Int)+1) (by omega),ZaO,Zai,cond_false,Bool.not_true,jqA _ (j11 h (List.getElem_mem b))]
 ·show j3E a a _ _ _ _=_
  unfold j3E
  rw [ZaP,cond_false]
theorem joz (a:qE) (k:Int) (h:msr y8 a<=1048576) (w:1<=k) (m:k+(wgt y8 a:Int)<=4294967296) (K:Int->qE->Res):j97 a k K=K (k+(wgt y8 a:Int)) (mkL (wgt y7) (mk y7) a k):=by
 have y:a.length<=1048576:=j0h h
 have f:wgt y8 a=(a.map (wgt y7)).sum:=rfl
 rw [f] at m ⊢
 unfold j97 jdl
 have:=Z9Z (wgt y7) (mk y7) a k (λl k i=>(l,k,i)) (step:=j4T) (λl k=>K k l) (λl k=>K k l) (by unfold LIM;omega) (λl i rec g b n d=>by
  have q:=Z7B (wgt y7) a i g
  have r:=Z9L (wgt y7) a (i+1)
  generalize A:k+((((a.take i).map (wgt y7)).sum:Nat):Int)=κ
  have p:1<=κ/\κ+(wgt y7 a[i]:Int)<=4294967296:=by omega
  have z:(wgt y7 a[i]:Int)=1+1+1+1+1+1+1:=by
   have:wgt y7 a[i]=1+1+1+1+1+1+1:=by first | rfl | (simp only [wgt];done) | (simp only [wgt];omega)
   first | rfl | omega
  show j1l _ _ _ _ _=_
  dsimp only
  unfold j1l j3I j3J j3K
  rw [<-b] at g
  have j:i<a.length:=by omega
  simp (disch:=first | assumption | omega) only [show nI a.length=nI l.length by rw [b],ZaQ,j00,jfM,cond_true,jfx,jfN,Zay,d,j01,j7b,<-b]
  rw [ZaF]
  congr 3<;>first | rfl | omega | (simp only [j5T,j3Y,j7R,jam,j5S,j7S,j4h,j6o,j4g,j6p,Int.natCast_add,Int.natCast_one,<-Int.add_assoc];done) | (simp only [j5T,j3Y,j7R,jam,j5S,j7S,j4h,j6o,j4g,j6p,Int.natCast_add,Int.natCast_one,<-Int.add_assoc];rfl) | skip) (λl k rec b=>by
  show j1l _ _ _ _ _=_
  dsimp only
  unfold j1l j3I j3J j3K
  rw [<-b,ZaP,cond_false])
 exact this
end Go.PI.G
namespace Go.PI.G
open Go Go.PI Go.Proofs
theorem joc (a:(List ByteArray)) (h:msr y0 a<=1048576) (k:(List ByteArray)->Res):j5R a k=k a:=by
 have g:a.length<=1048576:=j0h h
 unfold j5R
 rw [Zav (by unfold LIM;omega),cond_true]
 have:=ZaC (eS) a id (step:=j7h a) (λb=>k b) (by unfold LIM;omega) (λb i rec d f=>by
  show j1Y a _ _ _ _=_
  unfold j1Y
  dsimp only
  simp only [ZaQ d,cond_true,j00 d,j00 (show i<b.length by omega),Zay _ _ _ d,ZaF,j01 (n:=(i:Int)+1) (by omega)]
  rfl) (λb rec=>by
  show j1Y a _ _ _ _=_
  unfold j1Y
  dsimp only
  rw [ZaP,cond_false])
 rw [List.map_id] at this
 exact this
theorem jo9 (a:(List ByteArray)) (left:Int) (j:0<=left) (l:left<=1048576) (p:Wf y0 a) (k:Int->Res):j5Q a left k=k (szR left (msr y0 a)):=by
 have m:a.length<=maxLen:=p.1
 have r:msr y0 a=a.length+(a.map (msr .str)).sum:=rfl
 rw [r]
 unfold j5Q
 refine jkS (F:=λq=>j8C a Z1c q 0 (λd=>k d) (λ_=>k (-1))) (k:=k) j l m λb=> ?_
 unfold j8C
 rw [ZaB (msr .str) a _ (by omega) (λleft i rec f j l=> ?_) (λleft rec=> ?_) _ (by omega) (by omega)]
 ·by_cases b:(((a.map (msr .str)).sum:Nat):Int)<=left-a.length
  ·rw [if_pos b,ZaA b]
  ·rw [if_neg b,Zaz b]
 ·show j1X a _ _ _ _ _=_
  have h:=p.2 _ (List.getElem_mem f)
  unfold j1X
  have h:a[i].size<=maxLen:=h
  unfold maxLen at h m
  rw [ZaQ f,cond_true,j00 f,cond_true,Zay _ _ _ f,j01 (n:=left-nI a[i].size) (by unfold nI;omega),j01 (n:=(i:Int)+1) (by omega)]
  unfold nI
  by_cases b:((msr .str a[i]:Nat):Int)<=left
  ·have g:(a[i].size:Int)<=left:=b
   rw [if_pos b,Za4 (by omega),cond_false];rfl
  ·have g:¬ (a[i].size:Int)<=left:=b
   rw [if_neg b,Za5 (by omega),cond_true]
 ·show j1X a _ _ _ _ _=_
  unfold j1X
  rw [ZaP,cond_false]
theorem jno (a:(List ByteArray)) (h:msr y0 a<=1048576) (k:Bool->Res):j5O a a k=k true:=by
 have d:a.length<=1048576:=j0h h
 unfold j5O
 rw [ZaO,cond_false]
 unfold jcv
 rw [Zar a _ (by unfold LIM;omega) (λi rec b=> ?_) (λrec=> ?_)]
 ·show j1W a a _ _ _ _=_
  unfold j1W
  simp only [ZaQ b,cond_true,j00 b,Zay _ _ _ b,j01 (n:=(i:Int)+1) (by omega),ZaO,Zai,cond_false,Bool.not_true]
 ·show j1W a a _ _ _ _=_
  unfold j1W
  rw [ZaP,cond_false]
theorem jlk (a:(List ByteArray)) (k:Int) (h:msr y0 a<=1048576) (w:1<=k) (m:k+(wgt y0 a:Int)<=4294967296) (K:Int->(List ByteArray)->Res):j6z a k K=K (k+(wgt y0 a:Int)) (mkL (wgt .str) (mk .str) a k):=by
 have y:a.length<=1048576:=j0h h
 have f:wgt y0 a=(a.map (wgt .str)).sum:=rfl
 rw [f] at m ⊢
 unfold j6z jb5
 have:=Z9Z (wgt .str) (mk .str) a k (λl k i=>(l,k,i)) (step:=j5P) (λl k=>K k l) (λl k=>K k l) (by unfold LIM;omega) (λl i rec g b n d=>by
  have q:=Z7B (wgt .str) a i g
  have r:=Z9L (wgt .str) a (i+1)
  generalize A:k+((((a.take i).map (wgt .str)).sum:Nat):Int)=κ
  have p:1<=κ/\κ+(wgt .str a[i]:Int)<=4294967296:=by omega
  have z:(wgt .str a[i]:Int)=1:=by
   have:wgt .str a[i]=1:=by first | rfl | (simp only [wgt];done) | (simp only [wgt];omega)
   first | rfl | omega
  show j1n _ _ _ _ _=_
  dsimp only
  unfold j1n
  rw [<-b] at g
  have j:i<a.length:=by omega
  simp (disch:=first | assumption | omega) only [show nI a.length=nI l.length by rw [b],ZaQ,j00,jfM,cond_true,jfx,jfN,Zay,d,j01,j7b,<-b]
  rw [ZaF]
  congr 3<;>first | rfl | omega | (simp only [j5T,j3Y,j7R,jam,j5S,j7S,j4h,j6o,j4g,j6p,Int.natCast_add,Int.natCast_one,<-Int.add_assoc];done) | (simp only [j5T,j3Y,j7R,jam,j5S,j7S,j4h,j6o,j4g,j6p,Int.natCast_add,Int.natCast_one,<-Int.add_assoc];rfl) | skip) (λl k rec b=>by
  show j1n _ _ _ _ _=_
  dsimp only
  unfold j1n
  rw [<-b,ZaP,cond_false])
 exact this
end Go.PI.G
namespace Go.PI.G
open Go Go.PI Go.Proofs
theorem jrc (a:Int×ByteArray×qE×List ByteArray×ByteArray×ByteArray) (h:msr y13 a<=1048576) (k:(Int×ByteArray×qE×List ByteArray×ByteArray×ByteArray)->Res):j8l a k=k a:=by
 have b:msr y8 a.2.2.1<=1048576:=(Nat.le_trans (@j4A y8 y10 a.2.2) (Nat.le_trans (@j03 .str y11 a.2) (Nat.le_trans (@j03 (.int .i64) y12 a) h)))
 have d:msr y0 a.2.2.2.1<=1048576:=(Nat.le_trans (@j4A y0 y9 a.2.2.2) (Nat.le_trans (@j03 y8 y10 a.2.2) (Nat.le_trans (@j03 .str y11 a.2) (Nat.le_trans (@j03 (.int .i64) y12 a) h))))
 unfold j8l
 simp only [jqg _ b,joc _ d]
theorem jr4 (a:Int×ByteArray×qE×List ByteArray×ByteArray×ByteArray) (left:Int) (p:0<=left) (q:left<=1048576) (i:Wf y13 a) (k:Int->Res):j8k a left k=k (szR left (msr y13 a)):=by
 have n:msr y13 a=ByteArray.size a.2.1+(msr y8 a.2.2.1+(msr y0 a.2.2.2.1+(ByteArray.size a.2.2.2.2.1+(ByteArray.size a.2.2.2.2.2+0)))):=by simp only [msr]<;>omega
 rw [n]
 unfold j8k
 have j:ByteArray.size a.2.1<=maxLen:=i.2.1
 unfold maxLen at j
 rw [j01 (by unfold nI;omega)]
 by_cases f:((ByteArray.size a.2.1:Nat):Int)<=left
 rotate_left
 ·rw [Zal f,Za5 (by unfold nI;omega),cond_true]
 rw [Za4 (by unfold nI;omega),cond_false,Zak f,show left-nI (ByteArray.size a.2.1)=left-((ByteArray.size a.2.1:Nat):Int) from rfl]
 rw [jqd _ _ (by omega) (by omega) i.2.2.1]
 by_cases b:((msr y8 a.2.2.1:Nat):Int)<=left-(ByteArray.size a.2.1:Nat)
 rotate_left
 ·rw [Zaz b,Zal b,Za5 (by omega),cond_true]
 rw [ZaA b,Zak b,Za4 (by omega),cond_false]
 rw [jo9 _ _ (by omega) (by omega) i.2.2.2.1]
 by_cases d:((msr y0 a.2.2.2.1:Nat):Int)<=left-(ByteArray.size a.2.1:Nat)-(msr y8 a.2.2.1:Nat)
 rotate_left
 ·rw [Zaz d,Zal d,Za5 (by omega),cond_true]
 rw [ZaA d,Zak d,Za4 (by omega),cond_false]
 have l:ByteArray.size a.2.2.2.2.1<=maxLen:=i.2.2.2.2.1
 unfold maxLen at l
 rw [j01 (by unfold nI;omega)]
 by_cases g:((ByteArray.size a.2.2.2.2.1:Nat):Int)<=left-(ByteArray.size a.2.1:Nat)-(msr y8 a.2.2.1:Nat)-(msr y0 a.2.2.2.1:Nat)
 rotate_left
 ·rw [Zal g,Za5 (by unfold nI;omega),cond_true]
 rw [Za4 (by unfold nI;omega),cond_false,Zak g,show left-(ByteArray.size a.2.1:Nat)-(msr y8 a.2.2.1:Nat)-(msr y0 a.2.2.2.1:Nat)-nI (ByteArray.size a.2.2.2.2.1)=left-(ByteArray.size a.2.1:Nat)-(msr y8 a.2.2.1:Nat)-(msr y0 a.2.2.2.1:Nat)-((ByteArray.size a.2.2.2.2.1:Nat):Int) from rfl]
 have m:ByteArray.size a.2.2.2.2.2<=maxLen:=i.2.2.2.2.2
 unfold maxLen at m
 rw [j01 (by unfold nI;omega)]
 by_cases h:((ByteArray.size a.2.2.2.2.2:Nat):Int)<=left-(ByteArray.size a.2.1:Nat)-(msr y8 a.2.2.1:Nat)-(msr y0 a.2.2.2.1:Nat)-(ByteArray.size a.2.2.2.2.1:Nat)
 rotate_left
 ·rw [Zal h,Za5 (by unfold nI;omega),cond_true]
 rw [Za4 (by unfold nI;omega),cond_false,Zak h,show left-(ByteArray.size a.2.1:Nat)-(msr y8 a.2.2.1:Nat)-(msr y0 a.2.2.2.1:Nat)-(ByteArray.size a.2.2.2.2.1:Nat)-nI (ByteArray.size a.2.2.2.2.2)=left-(ByteArray.size a.2.1:Nat)-(msr y8 a.2.2.1:Nat)-(msr y0 a.2.2.2.1:Nat)-(ByteArray.size a.2.2.2.2.1:Nat)-((ByteArray.size a.2.2.2.2.2:Nat):Int) from rfl]
 exact jfL (by omega)
theorem jqB (a:Int×ByteArray×qE×List ByteArray×ByteArray×ByteArray) (h:msr y13 a<=1048576) (k:Bool->Res):j8j a a k=k true:=by
 have b:msr y8 a.2.2.1<=1048576:=(Nat.le_trans (@j4A y8 y10 a.2.2) (Nat.le_trans (@j03 .str y11 a.2) (Nat.le_trans (@j03 (.int .i64) y12 a) h)))
 have d:msr y0 a.2.2.2.1<=1048576:=(Nat.le_trans (@j4A y0 y9 a.2.2.2) (Nat.le_trans (@j03 y8 y10 a.2.2) (Nat.le_trans (@j03 .str y11 a.2) (Nat.le_trans (@j03 (.int .i64) y12 a) h))))
 unfold j8j
 simp only [ZaO,Zai,beq_self_eq_true,cond_false,Bool.not_true,jpN _ b,jno _ d]
end Go.PI.G
namespace Go.PI.G
open Go Go.PI Go.Proofs
theorem jmb (a:qW) (h:msr y3 a<=1048576) (k:qW->Res):j7a a k=k a:=by
 have g:a.length<=1048576:=j0h h
 unfold j7a
 rw [Zav (by unfold LIM;omega),cond_true]
 have:=ZaC ((0,0,eS)) a id (step:=j9r a) (λb=>k b) (by unfold LIM;omega) (λb i rec d f=>by
  show j3X a _ _ _ _=_
  unfold j3X
  dsimp only
  simp only [ZaQ d,cond_true,j00 d,j00 (show i<b.length by omega),Zay _ _ _ d,ZaF,j01 (n:=(i:Int)+1) (by omega),jod _ (j11 h (List.getElem_mem d))]
  rfl) (λb rec=>by
  show j3X a _ _ _ _=_
  unfold j3X
  dsimp only
  rw [ZaP,cond_false])
 rw [List.map_id] at this
 exact this
theorem jma (a:qW) (left:Int) (g:0<=left) (h:left<=1048576) (l:Wf y3 a) (k:Int->Res):j79 a left k=k (szR left (msr y3 a)):=by
 have j:a.length<=maxLen:=l.1
 have p:msr y3 a=a.length+(a.map (msr y2)).sum:=rfl
 rw [p]
 unfold j79
 refine jkS (F:=λq=>jbn a Z1c q 0 (λd=>k d) (λ_=>k (-1))) (k:=k) g h j λb=> ?_
 unfold jbn
 rw [ZaB (msr y2) a _ (by omega) (λleft i rec f g h=> ?_) (λleft rec=> ?_) _ (by omega) (by omega)]
 ·by_cases b:(((a.map (msr y2)).sum:Nat):Int)<=left-a.length
  ·rw [if_pos b,ZaA b]
  ·rw [if_neg b,Zaz b]
 ·show j3U a _ _ _ _ _=_
  have r:=l.2 _ (List.getElem_mem f)
  unfold j3U
  rw [ZaQ f,cond_true,j00 f,cond_true,Zay _ _ _ f,joa _ _ g h r]
  have m:(i:Int)<4611686018427387904:=by unfold maxLen at j;omega
  rw [j01 (n:=(i:Int)+1) (by omega)]
  by_cases b:((msr y2 a[i]:Nat):Int)<=left
  ·rw [if_pos b,ZaA b,Za4 (by omega),cond_false]
  ·rw [if_neg b,Zaz b,Za5 (by omega),cond_true]
 ·show j3U a _ _ _ _ _=_
  unfold j3U
  rw [ZaP,cond_false]
theorem jlU (a:qW) (h:msr y3 a<=1048576) (k:Bool->Res):j78 a a k=k true:=by
 have d:a.length<=1048576:=j0h h
 unfold j78
 rw [ZaO,cond_false]
 unfold jfv
 rw [Zar a _ (by unfold LIM;omega) (λi rec b=> ?_) (λrec=> ?_)]
 ·show j3H a a _ _ _ _=_
  unfold j3H
  simp only [ZaQ b,cond_true,j00 b,Zay _ _ _ b,j01 (n:=(i:Int)+1) (by omega),ZaO,Zai,cond_false,Bool.not_true,jnp _ (j11 h (List.getElem_mem b))]
 ·show j3H a a _ _ _ _=_
  unfold j3H
  rw [ZaP,cond_false]
theorem joC (a:qW) (k:Int) (h:msr y3 a<=1048576) (w:1<=k) (m:k+(wgt y3 a:Int)<=4294967296) (K:Int->qW->Res):j4z a k K=K (k+(wgt y3 a:Int)) (mkL (wgt y2) (mk y2) a k):=by
 have y:a.length<=1048576:=j0h h
 have f:wgt y3 a=(a.map (wgt y2)).sum:=rfl
 rw [f] at m ⊢
 unfold j4z jdp
 have:=Z9Z (wgt y2) (mk y2) a k (λl k i=>(l,k,i)) (step:=j7Q) (λl k=>K k l) (λl k=>K k l) (by unfold LIM;omega) (λl i rec g b n d=>by
  have q:=Z7B (wgt y2) a i g
  have r:=Z9L (wgt y2) a (i+1)
  generalize A:k+((((a.take i).map (wgt y2)).sum:Nat):Int)=κ
  have p:1<=κ/\κ+(wgt y2 a[i]:Int)<=4294967296:=by omega
  have z:(wgt y2 a[i]:Int)=1+1+1:=by
   have:wgt y2 a[i]=1+1+1:=by first | rfl | (simp only [wgt];done) | (simp only [wgt];omega)
   first | rfl | omega
  show j2n _ _ _ _ _=_
  dsimp only
  unfold j2n
  rw [<-b] at g
  have j:i<a.length:=by omega
  simp (disch:=first | assumption | omega) only [show nI a.length=nI l.length by rw [b],ZaQ,j00,jfM,cond_true,jfx,jfN,Zay,d,j01,j7b,<-b]
  rw [ZaF]
  congr 3<;>first | rfl | omega | (simp only [j5T,j3Y,j7R,jam,j5S,j7S,j4h,j6o,j4g,j6p,Int.natCast_add,Int.natCast_one,<-Int.add_assoc];done) | (simp only [j5T,j3Y,j7R,jam,j5S,j7S,j4h,j6o,j4g,j6p,Int.natCast_add,Int.natCast_one,<-Int.add_assoc];rfl) | skip) (λl k rec b=>by
  show j2n _ _ _ _ _=_
  dsimp only
  unfold j2n
  rw [<-b,ZaP,cond_false])
 exact this
end Go.PI.G
namespace Go.PI.G
open Go Go.PI Go.Proofs
theorem jre (a:List qV) (h:msr y3 a<=1048576) (k:qW->Res):jak a k=k a:=by
 have b:msr y3 a<=1048576:=h
 unfold jak
 simp only [jmb _ b]
theorem jr7 (a:List qV) (left:Int) (g:0<=left) (h:left<=1048576) (f:Wf y3 a) (k:Int->Res):jai a left k=k (szR left (msr y3 a)):=by
 have d:msr y3 a=msr y3 a+0:=rfl
 rw [d]
 unfold jai
 rw [jma _ _ (by omega) (by omega) f]
 by_cases b:((msr y3 a:Nat):Int)<=left
 rotate_left
 ·rw [Zaz b,Zal b,Za5 (by omega),cond_true]
 rw [ZaA b,Zak b,Za4 (by omega),cond_false]
 exact jfL (by omega)
theorem jqD (a:List qV) (h:msr y3 a<=1048576) (k:Bool->Res):jag a a k=k true:=by
 have b:msr y3 a<=1048576:=h
 unfold jag
 simp only [ZaO,Zai,beq_self_eq_true,cond_false,Bool.not_true,jlU _ b]
end Go.PI.G
namespace Go.PI.G
open Go Go.PI Go.Proofs
theorem jqh (a:Int×ByteArray×qW×qW×Int×ByteArray×qE×List ByteArray×ByteArray×ByteArray) (h:msr y17 a<=1048576) (k:qS->Res):j8Z a k=k a:=by
 have b:msr y3 a.2.2.1<=1048576:=(Nat.le_trans (@j4A y3 y14 a.2.2) (Nat.le_trans (@j03 .str y15 a.2) (Nat.le_trans (@j03 (.int .i64) y16 a) h)))
 have d:msr y3 a.2.2.2.1<=1048576:=(Nat.le_trans (@j4A y3 y13 a.2.2.2) (Nat.le_trans (@j03 y3 y14 a.2.2) (Nat.le_trans (@j03 .str y15 a.2) (Nat.le_trans (@j03 (.int .i64) y16 a) h))))
 have f:msr y13 a.2.2.2.2<=1048576:=(Nat.le_trans (@j03 y3 y13 a.2.2.2) (Nat.le_trans (@j03 y3 y14 a.2.2) (Nat.le_trans (@j03 .str y15 a.2) (Nat.le_trans (@j03 (.int .i64) y16 a) h))))
 unfold j8Z
 simp only [jmb _ b,jre _ d,jrc _ f]
theorem jqf (a:Int×ByteArray×qW×qW×Int×ByteArray×qE×List ByteArray×ByteArray×ByteArray) (left:Int) (l:0<=left) (m:left<=1048576) (h:Wf y17 a) (k:Int->Res):j8X a left k=k (szR left (msr y17 a)):=by
 have j:msr y17 a=ByteArray.size a.2.1+(msr y3 a.2.2.1+(msr y3 a.2.2.2.1+(msr y13 a.2.2.2.2+0))):=by simp only [msr]<;>omega
 rw [j]
 unfold j8X
 have i:ByteArray.size a.2.1<=maxLen:=h.2.1
 unfold maxLen at i
 rw [j01 (by unfold nI;omega)]
 by_cases g:((ByteArray.size a.2.1:Nat):Int)<=left
 rotate_left
 ·rw [Zal g,Za5 (by unfold nI;omega),cond_true]
 rw [Za4 (by unfold nI;omega),cond_false,Zak g,show left-nI (ByteArray.size a.2.1)=left-((ByteArray.size a.2.1:Nat):Int) from rfl]
 rw [jma _ _ (by omega) (by omega) h.2.2.1]
 by_cases b:((msr y3 a.2.2.1:Nat):Int)<=left-(ByteArray.size a.2.1:Nat)
 rotate_left
 ·rw [Zaz b,Zal b,Za5 (by omega),cond_true]
 rw [ZaA b,Zak b,Za4 (by omega),cond_false]
 rw [jr7 _ _ (by omega) (by omega) h.2.2.2.1]
 by_cases d:((msr y3 a.2.2.2.1:Nat):Int)<=left-(ByteArray.size a.2.1:Nat)-(msr y3 a.2.2.1:Nat)
 rotate_left
 ·rw [Zaz d,Zal d,Za5 (by omega),cond_true]
 rw [ZaA d,Zak d,Za4 (by omega),cond_false]
 rw [jr4 _ _ (by omega) (by omega) h.2.2.2.2]
 by_cases f:((msr y13 a.2.2.2.2:Nat):Int)<=left-(ByteArray.size a.2.1:Nat)-(msr y3 a.2.2.1:Nat)-(msr y3 a.2.2.2.1:Nat)
 rotate_left
 ·rw [Zaz f,Zal f,Za5 (by omega),cond_true]
 rw [ZaA f,Zak f,Za4 (by omega),cond_false]
 exact jfL (by omega)
theorem jpP (a:Int×ByteArray×qW×qW×Int×ByteArray×qE×List ByteArray×ByteArray×ByteArray) (h:msr y17 a<=1048576) (k:Bool->Res):j8U a a k=k true:=by
 have b:msr y3 a.2.2.1<=1048576:=(Nat.le_trans (@j4A y3 y14 a.2.2) (Nat.le_trans (@j03 .str y15 a.2) (Nat.le_trans (@j03 (.int .i64) y16 a) h)))
 have d:msr y3 a.2.2.2.1<=1048576:=(Nat.le_trans (@j4A y3 y13 a.2.2.2) (Nat.le_trans (@j03 y3 y14 a.2.2) (Nat.le_trans (@j03 .str y15 a.2) (Nat.le_trans (@j03 (.int .i64) y16 a) h))))
 have f:msr y13 a.2.2.2.2<=1048576:=(Nat.le_trans (@j03 y3 y13 a.2.2.2) (Nat.le_trans (@j03 y3 y14 a.2.2) (Nat.le_trans (@j03 .str y15 a.2) (Nat.le_trans (@j03 (.int .i64) y16 a) h))))
 unfold j8U
 simp only [ZaO,Zai,beq_self_eq_true,cond_false,Bool.not_true,jlU _ b,jqD _ d,jqB _ f]
end Go.PI.G
namespace Go.PI.G
open Go Go.PI Go.Proofs
theorem jrd (a:Int×Int×Int×ByteArray×qW×qW×Int×ByteArray×qE×List ByteArray×ByteArray×ByteArray) (h:msr y19 a<=1048576) (k:(Int×Int×Int×ByteArray×qW×qW×Int×ByteArray×qE×List ByteArray×ByteArray×ByteArray)->Res):jcL a k=k a:=by
 have b:msr y17 a.2.2<=1048576:=(Nat.le_trans (@j03 (.int .i64) y17 a.2) (Nat.le_trans (@j03 (.int .i64) y18 a) h))
 unfold jcL
 simp only [jqh _ b]
theorem jr6 (a:Int×Int×Int×ByteArray×qW×qW×Int×ByteArray×qE×List ByteArray×ByteArray×ByteArray) (left:Int) (g:0<=left) (h:left<=1048576) (f:Wf y19 a) (k:Int->Res):jcJ a left k=k (szR left (msr y19 a)):=by
 have d:msr y19 a=msr y17 a.2.2+0:=by simp only [msr]<;>omega
 rw [d]
 unfold jcJ
 rw [jqf _ _ (by omega) (by omega) f.2.2]
 by_cases b:((msr y17 a.2.2:Nat):Int)<=left
 rotate_left
 ·rw [Zaz b,Zal b,Za5 (by omega),cond_true]
 rw [ZaA b,Zak b,Za4 (by omega),cond_false]
 exact jfL (by omega)
theorem jqC (a:Int×Int×Int×ByteArray×qW×qW×Int×ByteArray×qE×List ByteArray×ByteArray×ByteArray) (h:msr y19 a<=1048576) (k:Bool->Res):jcH a a k=k true:=by
 have b:msr y17 a.2.2<=1048576:=(Nat.le_trans (@j03 (.int .i64) y17 a.2) (Nat.le_trans (@j03 (.int .i64) y18 a) h))
 unfold jcH
 simp only [ZaO,Zai,beq_self_eq_true,cond_false,Bool.not_true,jpP _ b]
end Go.PI.G
namespace Go.PI.G
open Go Go.PI Go.Proofs
theorem jeo (a:(List (Int×Int×Int×ByteArray×qW×qW×Int×ByteArray×qE×List ByteArray×ByteArray×ByteArray))) (h:msr y20 a<=1048576) (k:(List (Int×Int×Int×ByteArray×qW×qW×Int×ByteArray×qE×List ByteArray×ByteArray×ByteArray))->Res):j2a a k=k a:=by
 have g:a.length<=1048576:=j0h h
 unfold j2a
 rw [Zav (by unfold LIM;omega),cond_true]
 have:=ZaC ((0,0,0,eS,[],[],0,eS,[],[],eS,eS)) a id (step:=j9q a) (λb=>k b) (by unfold LIM;omega) (λb i rec d f=>by
  show j3W a _ _ _ _=_
  unfold j3W
  dsimp only
  simp only [ZaQ d,cond_true,j00 d,j00 (show i<b.length by omega),Zay _ _ _ d,ZaF,j01 (n:=(i:Int)+1) (by omega),jrd _ (j11 h (List.getElem_mem d))]
  rfl) (λb rec=>by
  show j3W a _ _ _ _=_
  unfold j3W
  dsimp only
  rw [ZaP,cond_false])
 rw [List.map_id] at this
 exact this
theorem jqe (a:(List (Int×Int×Int×ByteArray×qW×qW×Int×ByteArray×qE×List ByteArray×ByteArray×ByteArray))) (left:Int) (g:0<=left) (h:left<=1048576) (l:Wf y20 a) (k:Int->Res):j8W a left k=k (szR left (msr y20 a)):=by
 have j:a.length<=maxLen:=l.1
 have p:msr y20 a=a.length+(a.map (msr y19)).sum:=rfl
 rw [p]
 unfold j8W
 refine jkS (F:=λq=>jbm a Z1c q 0 (λd=>k d) (λ_=>k (-1))) (k:=k) g h j λb=> ?_
 unfold jbm
 rw [ZaB (msr y19) a _ (by omega) (λleft i rec f g h=> ?_) (λleft rec=> ?_) _ (by omega) (by omega)]
 ·by_cases b:(((a.map (msr y19)).sum:Nat):Int)<=left-a.length
  ·rw [if_pos b,ZaA b]
  ·rw [if_neg b,Zaz b]
 ·show j3T a _ _ _ _ _=_
  have r:=l.2 _ (List.getElem_mem f)
  unfold j3T
  rw [ZaQ f,cond_true,j00 f,cond_true,Zay _ _ _ f,jr6 _ _ g h r]
  have m:(i:Int)<4611686018427387904:=by unfold maxLen at j;omega
  rw [j01 (n:=(i:Int)+1) (by omega)]
  by_cases b:((msr y19 a[i]:Nat):Int)<=left
  ·rw [if_pos b,ZaA b,Za4 (by omega),cond_false]
  ·rw [if_neg b,Zaz b,Za5 (by omega),cond_true]
 ·show j3T a _ _ _ _ _=_
  unfold j3T
  rw [ZaP,cond_false]
theorem jpO (a:(List (Int×Int×Int×ByteArray×qW×qW×Int×ByteArray×qE×List ByteArray×ByteArray×ByteArray))) (h:msr y20 a<=1048576) (k:Bool->Res):j8T a a k=k true:=by
 have d:a.length<=1048576:=j0h h
 unfold j8T
 rw [ZaO,cond_false]
 unfold jfu
 rw [Zar a _ (by unfold LIM;omega) (λi rec b=> ?_) (λrec=> ?_)]
 ·show j3G a a _ _ _ _=_
  unfold j3G
  simp only [ZaQ b,cond_true,j00 b,Zay _ _ _ b,j01 (n:=(i:Int)+1) (by omega),ZaO,Zai,cond_false,Bool.not_true,jqC _ (j11 h (List.getElem_mem b))]
 ·show j3G a a _ _ _ _=_
  unfold j3G
  rw [ZaP,cond_false]
theorem joB (a:(List (Int×Int×Int×ByteArray×qW×qW×Int×ByteArray×qE×List ByteArray×ByteArray×ByteArray))) (k:Int) (h:msr y20 a<=1048576) (B:1<=k) (m:k+(wgt y20 a:Int)<=4294967296) (K:Int->(List (Int×Int×Int×ByteArray×qW×qW×Int×ByteArray×qE×List ByteArray×ByteArray×ByteArray))->Res):j6Y a k K=K (k+(wgt y20 a:Int)) (mkL (wgt y19) (mk y19) a k):=by
 have C:a.length<=1048576:=j0h h
 have g:wgt y20 a=(a.map (wgt y19)).sum:=rfl
 rw [g] at m ⊢
 unfold j6Y jdn
 have:=Z9Z (wgt y19) (mk y19) a k (λl k i=>(l,k,i)) (step:=j4U) (λl k=>K k l) (λl k=>K k l) (by unfold LIM;omega) (λl i rec d b n f=>by
  have z:=Z7B (wgt y19) a i d
  have A:=Z9L (wgt y19) a (i+1)
  generalize E:k+((((a.take i).map (wgt y19)).sum:Nat):Int)=κ
  have y:1<=κ/\κ+(wgt y19 a[i]:Int)<=4294967296:=by omega
  have D:(wgt y19 a[i]:Int)=1+1+1+1+(wgt y3 a[i].2.2.2.2.1:Int)+(wgt y3 a[i].2.2.2.2.2.1:Int)+1+1+(wgt y8 a[i].2.2.2.2.2.2.2.2.1:Int)+(wgt y0 a[i].2.2.2.2.2.2.2.2.2.1:Int)+1+1:=by
   have:wgt y19 a[i]=1+1+1+1+(wgt y3 a[i].2.2.2.2.1)+(wgt y3 a[i].2.2.2.2.2.1)+1+1+(wgt y8 a[i].2.2.2.2.2.2.2.2.1)+(wgt y0 a[i].2.2.2.2.2.2.2.2.2.1)+1+1:=by first | rfl | (simp only [wgt];done) | (simp only [wgt];omega)
   first | rfl | omega
  have p:msr y3 a[i].2.2.2.2.1<=1048576:=(Nat.le_trans (@j4A y3 y14 a[i].2.2.2.2) (Nat.le_trans (@j03 .str y15 a[i].2.2.2) (Nat.le_trans (@j03 (.int .i64) y16 a[i].2.2) (Nat.le_trans (@j03 (.int .i64) y17 a[i].2) (Nat.le_trans (@j03 (.int .i64) y18 a[i]) (j11 h (List.getElem_mem d)))))))
  have q:msr y3 a[i].2.2.2.2.2.1<=1048576:=(Nat.le_trans (@j4A y3 y13 a[i].2.2.2.2.2) (Nat.le_trans (@j03 y3 y14 a[i].2.2.2.2) (Nat.le_trans (@j03 .str y15 a[i].2.2.2) (Nat.le_trans (@j03 (.int .i64) y16 a[i].2.2) (Nat.le_trans (@j03 (.int .i64) y17 a[i].2) (Nat.le_trans (@j03 (.int .i64) y18 a[i]) (j11 h (List.getElem_mem d))))))))
  have r:msr y8 a[i].2.2.2.2.2.2.2.2.1<=1048576:=(Nat.le_trans (@j4A y8 y10 a[i].2.2.2.2.2.2.2.2) (Nat.le_trans (@j03 .str y11 a[i].2.2.2.2.2.2.2) (Nat.le_trans (@j03 (.int .i64) y12 a[i].2.2.2.2.2.2) (Nat.le_trans (@j03 y3 y13 a[i].2.2.2.2.2) (Nat.le_trans (@j03 y3 y14 a[i].2.2.2.2) (Nat.le_trans (@j03 .str y15 a[i].2.2.2) (Nat.le_trans (@j03 (.int .i64) y16 a[i].2.2) (Nat.le_trans (@j03 (.int .i64) y17 a[i].2) (Nat.le_trans (@j03 (.int .i64) y18 a[i]) (j11 h (List.getElem_mem d)))))))))))
  have w:msr y0 a[i].2.2.2.2.2.2.2.2.2.1<=1048576:=(Nat.le_trans (@j4A y0 y9 a[i].2.2.2.2.2.2.2.2.2) (Nat.le_trans (@j03 y8 y10 a[i].2.2.2.2.2.2.2.2) (Nat.le_trans (@j03 .str y11 a[i].2.2.2.2.2.2.2) (Nat.le_trans (@j03 (.int .i64) y12 a[i].2.2.2.2.2.2) (Nat.le_trans (@j03 y3 y13 a[i].2.2.2.2.2) (Nat.le_trans (@j03 y3 y14 a[i].2.2.2.2) (Nat.le_trans (@j03 .str y15 a[i].2.2.2) (Nat.le_trans (@j03 (.int .i64) y16 a[i].2.2) (Nat.le_trans (@j03 (.int .i64) y17 a[i].2) (Nat.le_trans (@j03 (.int .i64) y18 a[i]) (j11 h (List.getElem_mem d))))))))))))
  show j1m _ _ _ _ _=_
  dsimp only
  unfold j1m j3L j3M j3N j3O j3P j3Q j3R
  rw [<-b] at d
  have j:i<a.length:=by omega
  simp (disch:=first | assumption | omega) only [show nI a.length=nI l.length by rw [b],ZaQ,j00,jfM,cond_true,jfx,jfN,Zay,f,j01,j7b,joz,jlk,joC,<-b]
  rw [ZaF]
  congr 3<;>first | rfl | omega | (simp only [j5T,j3Y,j7R,jam,j5S,j7S,j4h,j6o,j4g,j6p,Int.natCast_add,Int.natCast_one,<-Int.add_assoc];done) | (simp only [j5T,j3Y,j7R,jam,j5S,j7S,j4h,j6o,j4g,j6p,Int.natCast_add,Int.natCast_one,<-Int.add_assoc];rfl) | skip) (λl k rec b=>by
  show j1m _ _ _ _ _=_
  dsimp only
  unfold j1m j3L j3M j3N j3O j3P j3Q j3R
  rw [<-b,ZaP,cond_false])
 exact this
end Go.PI.G
namespace Go.PI.G
open Go Go.PI Go.Proofs
theorem jht (a:(List Int)) (h:msr y21 a<=1048576) (k:Bool->Res):j3g a a k=k true:=by
 have d:a.length<=1048576:=j0h h
 unfold j3g
 rw [ZaO,cond_false]
 unfold jft
 rw [Zar a _ (by unfold LIM;omega) (λi rec b=> ?_) (λrec=> ?_)]
 ·show j3F a a _ _ _ _=_
  unfold j3F
  simp only [ZaQ b,cond_true,j00 b,Zay _ _ _ b,j01 (n:=(i:Int)+1) (by omega),ZaO,Zai,cond_false,Bool.not_true]
 ·show j3F a a _ _ _ _=_
  unfold j3F
  rw [ZaP,cond_false]
theorem joA (a:(List Int)) (k:Int) (h:msr y21 a<=1048576) (w:1<=k) (m:k+(wgt y21 a:Int)<=4294967296) (K:Int->(List Int)->Res):j6X a k K=K (k+(wgt y21 a:Int)) (mkL (wgt (.int .i64)) (mk (.int .i64)) a k):=by
 have y:a.length<=1048576:=j0h h
 have f:wgt y21 a=(a.map (wgt (.int .i64))).sum:=rfl
 rw [f] at m ⊢
 unfold j6X jdm
 have:=Z9Z (wgt (.int .i64)) (mk (.int .i64)) a k (λl k i=>(l,k,i)) (step:=j7P) (λl k=>K k l) (λl k=>K k l) (by unfold LIM;omega) (λl i rec g b n d=>by
  have q:=Z7B (wgt (.int .i64)) a i g
  have r:=Z9L (wgt (.int .i64)) a (i+1)
  generalize A:k+((((a.take i).map (wgt (.int .i64))).sum:Nat):Int)=κ
  have p:1<=κ/\κ+(wgt (.int .i64) a[i]:Int)<=4294967296:=by omega
  have z:(wgt (.int .i64) a[i]:Int)=1:=by
   have:wgt (.int .i64) a[i]=1:=by first | rfl | (simp only [wgt];done) | (simp only [wgt];omega)
   first | rfl | omega
  show j2l _ _ _ _ _=_
  dsimp only
  unfold j2l
  rw [<-b] at g
  have j:i<a.length:=by omega
  simp (disch:=first | assumption | omega) only [show nI a.length=nI l.length by rw [b],ZaQ,j00,jfM,cond_true,jfx,jfN,Zay,d,j01,j7b,<-b]
  rw [ZaF]
  congr 3<;>first | rfl | omega | (simp only [j5T,j3Y,j7R,jam,j5S,j7S,j4h,j6o,j4g,j6p,Int.natCast_add,Int.natCast_one,<-Int.add_assoc];done) | (simp only [j5T,j3Y,j7R,jam,j5S,j7S,j4h,j6o,j4g,j6p,Int.natCast_add,Int.natCast_one,<-Int.add_assoc];rfl) | skip) (λl k rec b=>by
  show j2l _ _ _ _ _=_
  dsimp only
  unfold j2l
  rw [<-b,ZaP,cond_false])
 exact this
theorem jiD (a:(List Int)) (k:Int) (h:msr y21 a<=1048576) (y:1<=k) (p:k+(wgt y21 a:Int)<=4294967296) (K:Int->Res):j4y (mkL (wgt (.int .i64)) (mk (.int .i64)) a k) k K=K (k+(wgt y21 a:Int)):=by
 have z:a.length<=1048576:=j0h h
 have f:wgt y21 a=(a.map (wgt (.int .i64))).sum:=rfl
 rw [f] at p ⊢
 have d:=Z6s (wgt (.int .i64)) (mk (.int .i64)) a k
 have j:=Zau (wgt (.int .i64)) (mk (.int .i64)) a k
 generalize mkL (wgt (.int .i64)) (mk (.int .i64)) a k=l at d j
 unfold j4y jdk
 have:=Z9W (wgt (.int .i64)) a k (λk i=>(k,i)) (step:=j7O l) ((λ(g:Int)=>K g),(λ(_:Unit)=>K (-1))) (λk=>K k) (by unfold LIM;omega) (λi rec m=>by
  have r:=Z7B (wgt (.int .i64)) a i m
  have w:=Z9L (wgt (.int .i64)) a (i+1)
  have b:=j i m (by omega)
  generalize B:k+((((a.take i).map (wgt (.int .i64))).sum:Nat):Int)=κ at b
  have q:1<=κ/\κ+(wgt (.int .i64) a[i]:Int)<=4294967296:=by omega
  have A:(wgt (.int .i64) a[i]:Int)=1:=by
   have:wgt (.int .i64) a[i]=1:=by first | rfl | (simp only [wgt];done) | (simp only [wgt];omega)
   first | rfl | omega
  show j2k _ _ _ _ _ _=_
  dsimp only
  unfold j2k
  have n:i<l.length:=by omega
  simp (disch:=first | assumption | omega) only [ZaQ,j00,cond_true,cond_false,Zay,b,j5T,j3Y,j7R,jam,j5S,j7S,j4h,j6o,j4g,j6p,Int.natCast_add,Int.natCast_one,<-Int.add_assoc,j01,j7b,ZaO,Zai,beq_self_eq_true,Bool.not_true,Za4]
  all_goals (congr 2;omega)) (λk rec=>by
  show j2k _ _ _ _ _ _=_
  dsimp only
  unfold j2k
  rw [<-d,ZaP,cond_false])
 exact this
end Go.PI.G
namespace Go.PI.G
open Go Go.PI Go.Proofs
theorem jqL (l:List Int):msr (.slice (.int .i64)) l=l.length:=by
 rw [jhA]
 have:(l.map (msr (.int .i64))).sum=0:=by
  induction l with
  | nil=>rfl
  | cons x l b=>rw [List.map_cons,List.sum_cons,b];rfl
 omega
theorem jq6 (d:List RC) (n:Wf (.slice yRC) d) (h:Int) (w1:Wf (.int .i64) h) (k:Bool->Res):j1V d h k=k true:=by
 unfold j1V
 rw [jqe d 1048576 (by omega) (by omega) n]
 by_cases l:((msr (.slice yRC) d:Nat):Int)<=1048576
 rotate_left
 ·rw [Zaz l];rfl
 have b:msr (.slice yRC) d<=1048576:=by omega
 obtain ⟨g,i⟩:=jqM b
 have f:msr (.slice (.int .i64)) (j9D d h)<=1048576:=by
  rw [jqL]
  exact Nat.le_trans (joh _ _) g
 rw [ZaA l,decide_eq_false (by omega),cond_false,jeo d b,joM d g i,jeo d b,jiK d g i,jht _ f,Bool.not_true,cond_false,jeo d b,jpO d b,Bool.not_true,cond_false]
 have p:=jmc (τ:= .slice yRC) (by decide) b
 have q:=jmc (τ:= .slice (.int .i64)) (by decide) f
 have m:(1:Int)+((wgt (.slice yRC) d:Nat):Int)<=4294967296:=by omega
 have j:(1:Int)+((wgt (.slice (.int .i64)) (j9D d h):Nat):Int)<=4294967296:=by omega
 rw [joB d 1 b (by omega) m,decide_eq_false (by omega),cond_false,jht _ f,Bool.not_true,cond_false]
 unfold j1b
 rw [joA _ 1 f (by omega) j,jiD _ 1 f (by omega) j,decide_eq_false (by omega),cond_false,ZaO,cond_false,jeo d b,jiK d g i,jht _ f,Bool.not_true,cond_false,jiD _ 1 f (by omega) j,decide_eq_false (by omega),cond_false,ZaO,cond_false]
end Go.PI.G
