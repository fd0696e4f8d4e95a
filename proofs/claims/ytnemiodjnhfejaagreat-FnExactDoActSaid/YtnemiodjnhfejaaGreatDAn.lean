/-
  Program's code interpreted over typed values; printed texts; plain laws. No conditions.
-/
import Derived.Test.YtnemiodjnhfejaaGreatDAm
import Derived.Test.YtnemiodjnhfejaaGreatDAh
import Derived.Test.YtnemiodjnhfejaaGreatDAj
import Derived.Test.YtnemiodjnhfejaaGreatDAi
set_option linter.unusedVariables false
set_option linter.unusedSimpArgs false
namespace Go.PI.G
open Go Go.PI Go.Proofs
theorem jrz (o:List Int) (r:RC) (h:o.length<=1048576) (k:List Int->RC->Res):j0P o r k=k (o.filter λy=> !(y==r.2.1)) r:=by
 unfold j0P
 rw [ZaL (by unfold LIM;omega),cond_true,jmc (g:=λe k=>jhY e r k) (λy=>y==r.2.1) o (λy b k=>rfl) [],List.nil_append]
noncomputable def jnd (l:List RC) (i:Int) (d:DB):List Int×List Int×Int×DB:=(j0o (l.take i.toNat),j60 (l.take i.toNat),i,d)
theorem jl7 (l:List RC) (i:Nat) (b:i<l.length) (d:DB):jnd l ((i:Int)+1) d=(j6c (j0o (l.take i)) l[i],(bif l[i].1==1 then j60 (l.take i)++[l[i].2.1] else j60 (l.take i)),(i:Int)+1,d):=by
 unfold jnd
 rw [show ((i:Int)+1).toNat=i+1 by omega,List.take_succ_eq_append_getElem b,jmI,jse]
theorem jrm (d:DB) (B:dbB d=true) (l:List RC) (h:l.length<=1048576) (p:∀ r∈l,j0t r.2.2) (k:DB->Bool->Res) :
  jfV d l k=match j1T d l with | .ok d=>k d true | .error _=>k ([],[]) false:=by
 unfold jfV jeS jjr
 refine (Z3Z l (jnd l) (λi d r=>j37 (l.take i) d r) (λ_ a=>dbB a=true) (step:=j9r l l (nI l.length)) ((λ(f:DB)=>k f true),(λ(_:Unit)=>k ([],[]) false)) (λa=>k a true) (λ_=>k ([],[]) false) d (by unfold LIM;omega) B (λi a F b m p=>ji9 m p) (λi a rec b m=>by
  show j45 l l (nI l.length) (j0o (l.take (i:Int).toNat)) (j60 (l.take (i:Int).toNat)) (i:Int) a (λo u j d=>rec (o,u,j,d)) (λf=>k f true) (λ_=>k ([],[]) false)=_
  have y:=p _ (List.getElem_mem b)
  have A:(j0o (l.take i)).length<=1048576:=Nat.le_trans (jdk _) (j2a h i)
  have D:(j60 (l.take i)).length<=1048576:=Nat.le_trans (joD _) (j2a h i)
  unfold j45 j8P j37
  simp only [jl7 l i b]
  rw [Int.toNat_natCast,ZaQ b,cond_true,j01 b,cond_true,Zay _ _ _ b,jhR _ y,j82 _ _ D,j82 _ _ A,joC,j02 (n:=(i:Int)+1) (by omega),ZaL (by unfold LIM;omega),ZaL (by unfold LIM;omega),cond_true,cond_true]
  simp only [jqd l h p i (by omega) a m,jrz _ _ A]
  generalize l[i]=r
  cases C:j3P r
  ·rfl
  rw [Bool.not_true,cond_false,cond_false]
  cases q:r.1==1
  ·rw [cond_false,cond_false]
   cases j1i (j0o (l.take i)) r.2.1
   ·rfl
   rw [Bool.not_true,cond_false,cond_false]
   unfold j6c
   rw [q,cond_false,cond_false]
   cases z:r.1==3
   ·rw [cond_false,cond_false,Bool.false_or]
    unfold bne
    cases g:r.1==2
    ·have K:=(jia C).1
     have w:(r.1==4)=true:=by
      rw [beq_iff_eq]
      have G:r.1≠1:=by simpa using q
      have H:r.1≠2:=by simpa using g
      have I:r.1≠3:=by simpa using z
      omega
     rw [w]
     rfl
    ·have w:(r.1==4)=false:=by
      have:r.1=2:=by simpa using g
      rw [this];rfl
     rw [w]
     rfl
   ·have g:(r.1 != 2)=true:=by
     have:r.1=3:=by simpa using z
     rw [this];rfl
    rw [cond_true,cond_true,Bool.true_or]
    cases J:(j0b a (j0D (l.take i) r.2.1)).2.1 != 0
    ·rw [cond_false,cond_false,g]
     rfl
    ·rfl
  ·rw [cond_true,cond_true]
   cases E:j1b (l.take i) r.2.1
   ·unfold j6c
    rw [q,cond_true,cond_true,jmJ E]
    rfl
   ·rfl) (λa rec m=>by
  show j45 l l (nI l.length) (j0o (l.take ((l.length:Nat):Int).toNat)) (j60 (l.take ((l.length:Nat):Int).toNat)) (l.length:Int) a (λo u j d=>rec (o,u,j,d)) (λf=>k f true) (λ_=>k ([],[]) false)=_
  unfold j45
  rw [ZaP,cond_false])).trans ?_
 unfold j1T
 cases Z1S (λi d r=>j37 (l.take i) d r) 0 l d<;>rfl
theorem jn5 (l:List RC) (h:l.length<=1048576) (d:∀ r∈l,j0t r.2.2) (k:Bool->Res):j7A l k=k (j2p l):=by
 unfold j7A j2p
 rw [ju0]
 cases b:decide (l.length<=400)
 ·rfl
 rw [Bool.not_true,cond_false,jru l h d,b]
 cases j1T zDB l<;>rfl
theorem jrV (l:List RC) (h:l.length<=1048576) (d:∀ r∈l,j0t r.2.2) (k:Bool->Res):jbk l k=k (j2p l):=by
 unfold jbk j2p
 rw [ju0]
 cases b:decide (l.length<=400)
 ·rfl
 rw [Bool.not_true,cond_false,jrm _ jcs l h d]
 cases j1T zDB l<;>rfl
end Go.PI.G
namespace Go.PI.G
open Go Go.PI Go.Proofs
theorem jp3 (l:List RC) (h:l.length<=1048576) (b:∀ r∈l,j0t r.2.2) (i:Nat) (g:i<=l.length) (d:DB) (f:dbB d=true) (r:RC) (k:Int->DB->Res) :
  j44 l (i:Int) d r k=k (j0b d (j0D (l.take i) r.2.1)).2.1 (j0b d (j0D (l.take i) r.2.1)).1:=by
 unfold j44
 rw [jeM g,cond_true]
 simp only [Z9Q]
 rw [jhC,jcx _ _ (j2a h i) (jcX b i),jcv d (jha f) _ (Nat.le_trans (jeo _ _) (j2a h i)) (jna (jcX b i) _)]
theorem jqg (d:DB) (B:dbB d=true) (l:List RC) (h:l.length<=1048576) (p:∀ r∈l,j0t r.2.2) (k:DB->Bool->Res) :
  jdb d l k=match j1T d l with | .ok d=>k d true | .error _=>k ([],[]) false:=by
 unfold jdb jcD jhf
 refine (Z3Z l (jnd l) (λi d r=>j37 (l.take i) d r) (λ_ a=>dbB a=true) (step:=j7q l l (nI l.length)) ((λ(f:DB)=>k f true),(λ(_:Unit)=>k ([],[]) false)) (λa=>k a true) (λ_=>k ([],[]) false) d (by unfold LIM;omega) B (λi a F b m p=>ji9 m p) (λi a rec b m=>by
  show j2C l l (nI l.length) (j0o (l.take (i:Int).toNat)) (j60 (l.take (i:Int).toNat)) (i:Int) a (λo u j d=>rec (o,u,j,d)) (λf=>k f true) (λ_=>k ([],[]) false)=_
  have y:=p _ (List.getElem_mem b)
  have A:(j0o (l.take i)).length<=1048576:=Nat.le_trans (jdk _) (j2a h i)
  have D:(j60 (l.take i)).length<=1048576:=Nat.le_trans (joD _) (j2a h i)
  unfold j2C j6B j37
  simp only [jl7 l i b]
  rw [Int.toNat_natCast,ZaQ b,cond_true,j01 b,cond_true,Zay _ _ _ b,jhR _ y,j82 _ _ D,j82 _ _ A,joC,j02 (n:=(i:Int)+1) (by omega),ZaL (by unfold LIM;omega),ZaL (by unfold LIM;omega),cond_true,cond_true]
  simp only [jp3 l h p i (by omega) a m,jrz _ _ A]
  generalize l[i]=r
  cases C:j3P r
  ·rfl
  rw [Bool.not_true,cond_false,cond_false]
  cases q:r.1==1
  ·rw [cond_false,cond_false]
   cases j1i (j0o (l.take i)) r.2.1
   ·rfl
   rw [Bool.not_true,cond_false,cond_false]
   unfold j6c
   rw [q,cond_false,cond_false]
   cases z:r.1==3
   ·rw [cond_false,cond_false,Bool.false_or]
    unfold bne
    cases g:r.1==2
    ·have K:=(jia C).1
     have w:(r.1==4)=true:=by
      rw [beq_iff_eq]
      have G:r.1≠1:=by simpa using q
      have H:r.1≠2:=by simpa using g
      have I:r.1≠3:=by simpa using z
      omega
     rw [w]
     rfl
    ·have w:(r.1==4)=false:=by
      have:r.1=2:=by simpa using g
      rw [this];rfl
     rw [w]
     rfl
   ·have g:(r.1 != 2)=true:=by
     have:r.1=3:=by simpa using z
     rw [this];rfl
    rw [cond_true,cond_true,Bool.true_or]
    cases J:(j0b a (j0D (l.take i) r.2.1)).2.1 != 0
    ·rw [cond_false,cond_false,g]
     rfl
    ·rfl
  ·rw [cond_true,cond_true]
   cases E:j1b (l.take i) r.2.1
   ·unfold j6c
    rw [q,cond_true,cond_true,jmJ E]
    rfl
   ·rfl) (λa rec m=>by
  show j2C l l (nI l.length) (j0o (l.take ((l.length:Nat):Int).toNat)) (j60 (l.take ((l.length:Nat):Int).toNat)) (l.length:Int) a (λo u j d=>rec (o,u,j,d)) (λf=>k f true) (λ_=>k ([],[]) false)=_
  unfold j2C
  rw [ZaP,cond_false])).trans ?_
 unfold j1T
 cases Z1S (λi d r=>j37 (l.take i) d r) 0 l d<;>rfl
theorem jqb (l:List RC) (h:l.length<=1048576) (f:∀ r∈l,j0t r.2.2) (d:j2p l=true) (m:Nat) (b:m<=l.length) (k:DB->Res):jb4 l (m:Int) k=k (j1W l m):=by
 unfold jb4
 rw [jeM b,cond_true,jhC,jqg _ jcs _ (j2a h m) (jcX f m),(jh9 d b).1]
end Go.PI.G
namespace Go.PI.G
open Go Go.PI Go.Proofs
theorem jrl (l:List RC) (x:Int) (h:l.length<=1048576) (k:Bool->Res):jfT l x k=k (j1b l x):=by
 unfold jfT j5a j7u j9I j1b
 have:=Z9S l (λi=>i) (λr:RC=>(r.1==1)&&(r.2.1==x)) (step:=j3S l x (nI l.length)) ((λ(_:Unit)=>k (decide ((-1:Int)>=0))),(λ(t:Int)=>k (decide (t>=0)))) (λr=>k (decide (r>=0))) (by unfold LIM;omega) (λi rec b=>by
  show j18 _ _ _ _ _ _ _=_
  unfold j18 jhW
  rw [ZaQ b,cond_true,j01 b,cond_true,Zay _ _ _ b,j02 (n:=(i:Int)+1) (by omega)]
  cases l[i].1==1<;>rfl) (λrec=>by
  show j18 _ _ _ _ _ _ _=_
  unfold j18
  rw [ZaP,cond_false])
 refine this.trans ?_
 rw [jlj]
theorem jtb (o:List Int) (r:RC) (h:o.length<=1048576) (k:List Int->RC->Res):j0U o r k=k (o.filter λy=> !(y==r.2.1)) r:=by
 unfold j0U
 rw [ZaL (by unfold LIM;omega),cond_true,jmc (g:=λe k=>jhV e r k) (λy=>y==r.2.1) o (λy b k=>rfl) [],List.nil_append]
theorem jrj (l:List RC) (h:l.length<=1048576) (k:List Int->Res):jdj l k=k (j0o l):=by
 unfold jdj jjq j0o
 refine Z8i l (λi b=>(b,i)) j6c (λi a=>a.length<=i) (step:=j9o l (nI l.length)) (λb=>k b) k [] (by unfold LIM;omega) (by simp) (λi a d f=>Nat.le_trans (jjz _ _) (by omega)) (λi a rec d f=>by
  show j41 _ _ _ _ _ _=_
  unfold j41
  dsimp only
  rw [ZaQ d,cond_true,j01 d,cond_true,Zay _ _ _ d,j02 (n:=(i:Int)+1) (by omega),j82 _ _ (by omega),ZaL (by unfold LIM;omega),cond_true,jtb _ _ (by omega)]
  generalize l[i]=r
  unfold j6c
  cases g:r.1==1
  ·rw [cond_false,cond_false]
   cases r.1==3
   ·rw [cond_false,Bool.false_or]
    cases r.1==4<;>rfl
   ·rfl
  ·rw [cond_true,cond_true]
   cases j1i a r.2.1<;>rfl) (λa rec f=>by
  show j41 _ _ _ _ _ _=_
  unfold j41
  dsimp only
  rw [ZaP,cond_false])
theorem jl0 (r:RC) (h:j0t r.2.2) (k:RC->Res):j8e r k=k r:=by
 unfold j8e
 rw [jn9 _ h]
theorem jjl {α:Type}:(j:Nat)->(l:List α)->Z4r (λ_ x=>[x]) j l=l
 | _,[]=>rfl
 | j,x::l=>by
  show [x]++Z4r _ (j+1) l=_
  rw [jjl (j+1) l];rfl
theorem jqP (l:List RC) (h:l.length<=1048576) (f:∀ r∈l,j0t r.2.2) (k:List RC->Res):j99 l k=k l:=by
 unfold j99 jg8
 refine (Za3 l (λ_ x=>[x]) (λi b=>(b,i)) (step:=j9Z l (nI l.length)) (λb=>k b) k (by unfold LIM;omega) (λ_ _=>Nat.le_refl _) (λb i rec d g=>by
  show j3K _ _ _ _ _ _=_
  unfold j3K
  dsimp only
  rw [ZaQ d,cond_true,j01 d,cond_true,Zay _ _ _ d,jl0 _ (f _ (List.getElem_mem d)),j02 (n:=(i:Int)+1) (by omega),ZaL (by unfold LIM;omega),cond_true]) (λb rec=>by
  show j3K _ _ _ _ _ _=_
  unfold j3K
  dsimp only
  rw [ZaP,cond_false])).trans ?_
 rw [jjl]
theorem jqe (l:List RC) (h:l.length<=1048576) (f:∀ r∈l,j0t r.2.2) (k:List RC->Res):j5e l k=k l:=by
 unfold j5e jeQ
 refine (Za3 l (λ_ x=>[x]) (λi b=>(b,i)) (step:=j8M l (nI l.length)) (λb=>k b) k (by unfold LIM;omega) (λ_ _=>Nat.le_refl _) (λb i rec d g=>by
  show j2R _ _ _ _ _ _=_
  unfold j2R
  dsimp only
  rw [ZaQ d,cond_true,j01 d,cond_true,Zay _ _ _ d,jhT _ (f _ (List.getElem_mem d)),j02 (n:=(i:Int)+1) (by omega),ZaL (by unfold LIM;omega),cond_true]) (λb rec=>by
  show j2R _ _ _ _ _ _=_
  unfold j2R
  dsimp only
  rw [ZaP,cond_false])).trans ?_
 rw [jjl]
theorem juB (n:Nat):(nI n==400)=decide (n=400):=by
 by_cases h:n=400
 ·rw [h];rfl
 ·rw [decide_eq_false h]
  unfold nI
  simp
  omega
theorem jek (l:List RC) (h:l.length<=1048576) (m:∀ r∈l,j0t r.2.2) (r:RC) (j:j0t r.2.2) (k:List RC->Int->Res):j3Z l r k=k (j8H l r).1 (j8H l r).2:=by
 unfold j3Z j8H
 rw [jn5 l h m]
 cases n:j2p l
 ·rfl
 rw [Bool.not_true,cond_false,cond_false,jn7 _ j]
 cases w:j3P r
 ·rfl
 rw [Bool.not_true,cond_false,cond_false]
 unfold j9E j7a
 have y:(j0o l).length<=1048576:=Nat.le_trans (jdk _) h
 rw [jl3 _ _ h,jkZ _ h,jgM _ _ y,jqP l h m,jl0 _ j,ZaL (by unfold LIM;omega),cond_true,juB]
 have g:j7A (l++[r])=λk=>k (j2p (l++[r])):=by
  funext k
  have i:=((jf6 l).1 n).1
  exact jn5 _ (by rw [List.length_append];show l.length+1<=1048576;omega) (λx f=>by
   rcases List.mem_append.1 f with f | f
   ·exact m x f
   ·rw [List.mem_singleton] at f
    rw [f];exact j) k
 rw [g]
 dsimp only
 cases b:(r.1==1)&&j1b l r.2.1
 ·cases d:(r.1 != 1)&& !j1i (j0o l) r.2.1
  ·have z:(bif r.1==1 then (bif j1b l r.2.1 then k [] 2 else k [] 9) else k [] 9)=k [] 9:=by
    cases e:r.1==1
    ·rfl
    ·rw [e,Bool.true_and] at b
     rw [b];rfl
   rw [cond_false,cond_false]
   have p:∀ (A B:Res),(bif r.1==1 then (bif j1b l r.2.1 then B else A) else A)=A:=by
    intro A B
    cases e:r.1==1
    ·rfl
    ·rw [e,Bool.true_and] at b
     rw [b];rfl
   have q:∀ (A B:Res),(bif r.1 != 1 then (bif !j1i (j0o l) r.2.1 then B else A) else A)=A:=by
    intro A B
    cases e:r.1 != 1
    ·rfl
    ·rw [e,Bool.true_and] at d
     rw [d];rfl
   rw [p,q]
   by_cases i:l.length=400
   ·rw [decide_eq_true i];rfl
   ·rw [decide_eq_false i,cond_false,cond_false,juf n w b d i]
    cases (r.1==3)&&((j0b (j1W l l.length) (j0D l r.2.1)).2.1 != 0)<;>rfl
  ·rw [Bool.and_eq_true] at d
   rw [d.1,d.2,cond_false,cond_true,cond_true,cond_true]
   have e:(r.1==1)=false:=by
    have:=d.1
    unfold bne at this
    simpa using this
   rw [e]
   rfl
 ·rw [Bool.and_eq_true] at b
  rw [b.1,b.2]
  rfl
theorem jrd (l:List RC) (h:l.length<=1048576) (b:∀ r∈l,j0t r.2.2) (d:j2p l=true) (r:RC) (k:Int->Res):j7N l r k=k (j0b (j1W l l.length) (j0D l r.2.1)).2.1:=by
 unfold j7N
 simp only [Z9Q]
 rw [show nI l.length=((l.length:Nat):Int) from rfl,jqb l h b d l.length (Nat.le_refl _),jcx _ _ h b,jcv _ (jha (jh9 d (Nat.le_refl _)).2) _ (Nat.le_trans (jeo _ _) h) (jna b _)]
theorem juw {n:Nat} (h:n<=400):decide (nI n>=400)=decide (n=400):=decide_eq_decide.2 (by unfold nI;omega)
theorem jmg (l:List RC) (h:l.length<=1048576) (i:∀ r∈l,j0t r.2.2) (f:j2p l=true) (r:RC) (g:j0t r.2.2) (k:List RC->Int->Res):j9p l r k=k (j8H l r).1 (j8H l r).2:=by
 unfold j9p j8H
 rw [f,Bool.not_true,cond_false,jhR _ g]
 cases q:j3P r
 ·rfl
 rw [Bool.not_true,cond_false,cond_false]
 unfold jan j7M jao
 have n:(j0o l).length<=1048576:=Nat.le_trans (jdk _) h
 simp only [Z9Q]
 rw [jrl _ _ h,jrj _ h,j82 _ _ n,jrd l h i f,jhT _ g,jqe l h i,ZaL (by unfold LIM;omega),cond_true,juw ((jf6 l).1 f).1]
 cases d:(r.1==1)&&j1b l r.2.1
 ·cases b:(r.1 != 1)&& !j1i (j0o l) r.2.1
  ·rw [cond_false,cond_false]
   have j:∀ (A B:Res),(bif r.1==1 then (bif j1b l r.2.1 then B else A) else A)=A:=by
    intro A B
    cases e:r.1==1
    ·rfl
    ·rw [e,Bool.true_and] at d
     rw [d];rfl
   have m:∀ (A B:Res),(bif r.1 != 1 then (bif !j1i (j0o l) r.2.1 then B else A) else A)=A:=by
    intro A B
    cases e:r.1 != 1
    ·rfl
    ·rw [e,Bool.true_and] at b
     rw [b];rfl
   rw [j,m]
   cases decide (l.length=400)
   ·rw [cond_false,cond_false]
    cases p:r.1==3
    ·rfl
    ·rw [cond_true,Bool.true_and]
     cases (j0b (j1W l l.length) (j0D l r.2.1)).2.1 != 0<;>rfl
   ·rfl
  ·rw [Bool.and_eq_true] at b
   rw [b.1,b.2,cond_false,cond_true,cond_true]
   have e:(r.1==1)=false:=by
    have:=b.1
    unfold bne at this
    simpa using this
   rw [e]
   rfl
 ·rw [Bool.and_eq_true] at d
  rw [d.1,d.2]
  rfl
theorem juD {k x:Int} (h:¬ (1<=k/\k<=4)) (s:ST):j3P (k,x,s)=false:=by
 unfold j3P
 rw [decide_eq_false h]
 rfl
theorem jsk (l:List RC) (r:RC):jdx l r=bif !j2p l then ([],1) else bif r.1==1 then j8H l (1,r.2.1,zST) else bif r.1==2 then j8H l (2,r.2.1,r.2.2) else bif r.1==3 then j8H l (3,r.2.1,zST) else bif r.1==4 then j8H l (4,r.2.1,zST) else ([],1):=by
 unfold jdx
 cases h:j2p l
 ·unfold j8H
  rw [h]
  rfl
 ·rw [Bool.not_true,cond_false]
  obtain ⟨a,x,s⟩:=r
  dsimp only
  cases b:a==1
  ·cases d:a==2
   ·cases f:a==3
    ·cases g:a==4
     ·have i:a≠1:=by simpa using b
      have j:a≠2:=by simpa using d
      have k:a≠3:=by simpa using f
      have m:a≠4:=by simpa using g
      rw [cond_false,cond_false,cond_false,cond_false,cond_false]
      unfold j8H
      rw [h,juD (by omega)]
      rfl
     ·have:a=4:=by simpa using g
      subst this;rfl
    ·have:a=3:=by simpa using f
     subst this;rfl
   ·have:a=2:=by simpa using d
    subst this;rfl
  ·have:a=1:=by simpa using b
   subst this;rfl
theorem jpU {l:List RC} (b:j2p l=false) (r:RC):j8H l r=([],1):=by
 unfold j8H
 rw [b]
 rfl
theorem js8 (l:List RC) (h:l.length<=1048576) (b:∀ r∈l,j0t r.2.2) (r:RC) (f:j0t r.2.2) (k:List RC->Int->Res):j9C l r k=k (jdx l r).1 (jdx l r).2:=by
 rw [jsk]
 unfold j9C jen jka jde jem
 have z:j0t zST:=joz
 rw [jek l h b (1,r.2.1,zST) z,jek l h b (2,r.2.1,r.2.2) f,jek l h b (3,r.2.1,zST) z,jek l h b (4,r.2.1,zST) z]
 cases d:j2p l
 ·simp only [jpU d]
  cases r.1==1
  ·cases r.1==2
   ·cases r.1==3
    ·cases r.1==4<;>rfl
    ·rfl
   ·rfl
  ·rfl
 ·cases r.1==1
  ·cases r.1==2
   ·cases r.1==3
    ·cases r.1==4<;>rfl
    ·rfl
   ·rfl
  ·rfl
theorem jrc (l:List RC) (h:l.length<=1048576) (d:∀ r∈l,j0t r.2.2) (b:j2p l=true) (r:RC) (f:j0t r.2.2) (k:List RC->Int->Res):j9q l r k=k (jdx l r).1 (jdx l r).2:=by
 unfold j9q jap jdx
 dsimp only
 cases e:r.1==2
 ·rw [cond_false,cond_false,jmg l h d b _ joz]
 ·rw [cond_true,cond_true,jmg l h d b _ f]
theorem jmf (l:List RC) (h:l.length<=1048576) (d:∀ r∈l,j0t r.2.2) (r:RC) (f:j0t r.2.2) (k:List RC->Int->Res):j5y l r k=k (jdx l r).1 (jdx l r).2:=by
 unfold j5y
 rw [jrV l h d]
 cases b:j2p l
 ·unfold jdx
  rw [jpU b]
  rfl
 ·rw [Bool.not_true,cond_false,jrc l h d b r f]
end Go.PI.G
namespace Go.PI.G
open Go Go.PI
theorem jrY {l:List RC} (h:j2p l=true) (i:Nat) (j:i<l.length):j3P l[i]=true /\
  ((l[i].1=1/\j1b (l.take i) l[i].2.1=false/\j1W l ((i:Int)+1)=j1W l i) \/
   (l[i].1≠1/\j1i (j0o (l.take i)) l[i].2.1=true /\
    ((l[i].1=3/\(j0b (j1W l i) (j0D (l.take i) l[i].2.1)).2.1=0/\j1W l ((i:Int)+1)=(j0b (j1W l i) (j0D (l.take i) l[i].2.1)).1) \/
    (l[i].1≠3/\j1W l ((i:Int)+1)=j1W l i)))):=by
 have m:=(jh9 h (Nat.le_of_lt j)).1
 have b:=(jh9 (n:=i+1) h j).1
 rw [joo _ _ _ j,m] at b
 have e:((i+1:Nat):Int)=(i:Int)+1:=by omega
 rw [e] at b
 have b:j37 (l.take i) (j1W l i) l[i]= .ok (j1W l ((i:Int)+1)):=b
 generalize j1W l ((i:Int)+1)=y at b
 generalize j1W l i=d at b
 generalize l[i]=r at b
 unfold j37 at b
 cases p:j3P r<;>rw [p] at b
 ·cases b
 rw [Bool.not_true,cond_false] at b
 refine ⟨rfl,?_⟩
 cases f:r.1==1<;>rw [f] at b
 ·right
  rw [cond_false] at b
  cases q:j1i (j0o (l.take i)) r.2.1<;>rw [q] at b
  ·cases b
  rw [Bool.not_true,cond_false] at b
  refine ⟨by simpa using f,rfl,?_⟩
  cases g:r.1==3<;>rw [g] at b
  ·right
   cases b
   exact ⟨by simpa using g,rfl⟩
  ·left
   rw [cond_true] at b
   cases k:(j0b d (j0D (l.take i) r.2.1)).2.1 != 0<;>rw [k] at b
   ·cases b
    exact ⟨by simpa using g,by simpa using k,rfl⟩
   ·cases b
 ·left
  rw [cond_true] at b
  cases w:j1b (l.take i) r.2.1<;>rw [w] at b
  ·cases b
   exact ⟨by simpa using f,rfl,rfl⟩
  ·cases b
theorem jsH {l:List RC} (h:j2p l=true) {r:RC} (d:r∈l):j3P r=true:=by
 obtain ⟨i,b,rfl⟩:=List.getElem_of_mem d
 exact (jrY h i b).1
theorem jqr {r:RC} (h:j3P r=true):msr yRC r<=1100:=by
 have e:msr yRC r=0+(0+msr yST r.2.2):=rfl
 obtain ⟨_,_,h | h⟩:=jia h
 ·have:=juh h.2
  omega
 ·have z:msr yST zST=0:=rfl
  rw [h.2] at e
  omega
theorem jug {l:List RC} (h:j2p l=true):msr (.slice yRC) l<=440400:=by
 have b:=((jf6 l).1 h).1
 have f:=j6J (e:=yRC) 1100 l (λr d=>jqr (jsH h d))
 have g:l.length * 1101<=400 * 1101:=Nat.mul_le_mul_right _ b
 omega
theorem jt5 (l:List RC) (r:RC):msr (.slice yRC) (j8H l r).1<=1048576:=by
 have z:msr (.slice yRC) ([]:List RC)<=1048576:=Nat.zero_le _
 unfold j8H
 cases f:j2p l
 ·exact z
 cases d:j3P r
 ·exact z
 cases (r.1==1)&&j1b l r.2.1
 ·cases (r.1 != 1)&& !j1i (j0o l) r.2.1
  ·cases decide (l.length=400)
   ·cases (r.1==3)&&((j0b (j1W l l.length) (j0D l r.2.1)).2.1 != 0)
    ·have b:=jug f
     have g:=jqr d
     show msr (.slice yRC) (l++[r])<=1048576
     rw [jju] at b ⊢
     rw [List.length_append,List.map_append,List.sum_append]
     have:([r].map (msr yRC)).sum=msr yRC r:=by simp
     have h:[r].length=1:=rfl
     omega
    ·exact z
   ·exact z
  ·exact z
 ·exact z
end Go.PI.G
namespace Go.PI.G
open Go Go.PI Go.Proofs
theorem jiC (k:ByteArray->Res):∀ (m n d:Nat) (s:ByteArray),n<m->0<n->n<=4294967296->n<10 ^ (d+1)->s.size+d<=1000 ->
  Z1f j5L m ((n:Int),s) k=k (jhO n++s)
 | 0,n,d,s,h,_,_,_,_=>by omega
 | m+1,n,d,s,h,q,p,i,r=>by
  rw [Z9Y]
  show j2V _ _ _ _=_
  unfold j2V
  have l:decide ((n:Int)>0)=true:=decide_eq_true (by omega)
  rw [l,cond_true,jtQ,jtR,ZaH (n:=((n / 10:Nat):Int)) (by omega) (by omega)]
  show (bif lim ((dgt ((n % 10:Nat):Int)).size+s.size) then Z1f j5L m (((n / 10:Nat):Int),dgt ((n % 10:Nat):Int)++s) k else none)=_
  rw [jeN,ZaL (by unfold LIM;omega),cond_true]
  by_cases b:n<10
  ·have f:n / 10=0:=by omega
   have g:n % 10=n:=by omega
   rw [f,g,jnt b]
   obtain ⟨m,rfl⟩:∃ e,m=e+1:=⟨m-1,by omega⟩
   rw [Z9Y]
   show j2V _ _ _ _=_
   unfold j2V
   have j:decide (((0:Nat):Int)>0)=false:=decide_eq_false (by omega)
   rw [j,cond_false]
  ·obtain ⟨d,rfl⟩:∃ e,d=e+1:=by
    cases d with
    | zero=>exact absurd (by simpa using i) b
    | succ d=>exact ⟨d,rfl⟩
   rw [jiC k m (n / 10) d _ (by omega) (by omega) (by omega) (Nat.div_lt_of_lt_mul (by rw [Nat.pow_succ] at i;omega)) (by rw [ByteArray.size_append,jeN];omega),jrA b,ByteArray.append_assoc]
theorem j3W (k:Int) (h:1<=k/\k<=4294967296) (K:ByteArray->Res):j06 k K=K (mT k):=by
 unfold j06 jf1
 have d:decide (k<=0)=false:=decide_eq_false (by omega)
 have:=jiC (λ(b:ByteArray)=>bif lim (1+(ByteArray.size b)) then K (z_m++b) else none) Z1c k.toNat 12 eS (Z2b (by omega)) (by omega) (by omega) (by omega) (by show 0+12<=1000;omega)
 rw [show ((k.toNat:Nat):Int)=k by omega,jus] at this
 rw [d,cond_false]
 refine this.trans ?_
 have f:=jog 12 k.toNat (by omega)
 rw [ZaL (by unfold LIM;omega),cond_true]
 rfl
end Go.PI.G
set_option maxRecDepth 10000
namespace Go.PI.G
open Go Go.PI Go.Proofs
theorem jqW (a:Int×Int×ByteArray) (h:msr y2 a<=1048576) (k:qV->Res):jbv a k=k a:=by
 unfold jbv
 rfl
theorem jqT (a:Int×Int×ByteArray) (left:Int) (h:0<=left) (i:left<=1048576) (g:Wf y2 a) (k:Int->Res):jbt a left k=k (szR left (msr y2 a)):=by
 have f:msr y2 a=ByteArray.size a.2.2+0:=by simp only [msr]<;>omega
 rw [f]
 unfold jbt
 have d:ByteArray.size a.2.2<=maxLen:=g.2.2
 unfold maxLen at d
 rw [j02 (by unfold nI;omega)]
 by_cases b:((ByteArray.size a.2.2:Nat):Int)<=left
 rotate_left
 ·rw [Zal b,Za5 (by unfold nI;omega),cond_true]
 rw [Za4 (by unfold nI;omega),cond_false,Zak b,show left-nI (ByteArray.size a.2.2)=left-((ByteArray.size a.2.2:Nat):Int) from rfl]
 exact jhD (by omega)
theorem jq3 (a:Int×Int×ByteArray) (h:msr y2 a<=1048576) (k:Bool->Res):jbr a a k=k true:=by
 unfold jbr
 simp only [ZaO,Zai,beq_self_eq_true,cond_false,Bool.not_true]
end Go.PI.G
namespace Go.PI.G
open Go Go.PI Go.Proofs
theorem jtS (a:ByteArray×Int×Bool×Bool×Int×Int×ByteArray) (h:msr y7 a<=1048576) (k:qC->Res):jef a k=k a:=by
 have b:msr y2 a.2.2.2.2<=1048576:=(Nat.le_trans (@j00 .bool y2 a.2.2.2) (Nat.le_trans (@j00 .bool y4 a.2.2) (Nat.le_trans (@j00 (.int .i64) y5 a.2) (Nat.le_trans (@j00 .str y6 a) h))))
 unfold jef
 simp only [jqW _ b]
theorem jtL (a:ByteArray×Int×Bool×Bool×Int×Int×ByteArray) (left:Int) (i:0<=left) (j:left<=1048576) (g:Wf y7 a) (k:Int->Res):jee a left k=k (szR left (msr y7 a)):=by
 have h:msr y7 a=ByteArray.size a.1+(msr y2 a.2.2.2.2+0):=by simp only [msr]<;>omega
 rw [h]
 unfold jee
 have f:ByteArray.size a.1<=maxLen:=g.1
 unfold maxLen at f
 rw [j02 (by unfold nI;omega)]
 by_cases d:((ByteArray.size a.1:Nat):Int)<=left
 rotate_left
 ·rw [Zal d,Za5 (by unfold nI;omega),cond_true]
 rw [Za4 (by unfold nI;omega),cond_false,Zak d,show left-nI (ByteArray.size a.1)=left-((ByteArray.size a.1:Nat):Int) from rfl]
 rw [jqT _ _ (by omega) (by omega) g.2.2.2.2]
 by_cases b:((msr y2 a.2.2.2.2:Nat):Int)<=left-(ByteArray.size a.1:Nat)
 rotate_left
 ·rw [Zaz b,Zal b,Za5 (by omega),cond_true]
 rw [ZaA b,Zak b,Za4 (by omega),cond_false]
 exact jhD (by omega)
theorem jth (a:ByteArray×Int×Bool×Bool×Int×Int×ByteArray) (h:msr y7 a<=1048576) (k:Bool->Res):jed a a k=k true:=by
 have b:msr y2 a.2.2.2.2<=1048576:=(Nat.le_trans (@j00 .bool y2 a.2.2.2) (Nat.le_trans (@j00 .bool y4 a.2.2) (Nat.le_trans (@j00 (.int .i64) y5 a.2) (Nat.le_trans (@j00 .str y6 a) h))))
 unfold jed
 simp only [ZaO,Zai,beq_self_eq_true,cond_false,Bool.not_true,jq3 _ b]
end Go.PI.G
namespace Go.PI.G
open Go Go.PI Go.Proofs
theorem jsW (a:qE) (h:msr y8 a<=1048576) (k:qE->Res):jac a k=k a:=by
 have g:a.length<=1048576:=j0p h
 unfold jac
 rw [Zav (by unfold LIM;omega),cond_true]
 have:=ZaC ((eS,0,false,false,0,0,eS)) a id (step:=jaE a) (λb=>k b) (by unfold LIM;omega) (λb i rec d f=>by
  show j4D a _ _ _ _=_
  unfold j4D
  dsimp only
  simp only [ZaQ d,cond_true,j01 d,j01 (show i<b.length by omega),Zay _ _ _ d,ZaF,j02 (n:=(i:Int)+1) (by omega),jtS _ (j0O h (List.getElem_mem d))]
  rfl) (λb rec=>by
  show j4D a _ _ _ _=_
  unfold j4D
  dsimp only
  rw [ZaP,cond_false])
 rw [List.map_id] at this
 exact this
theorem jsT (a:qE) (left:Int) (g:0<=left) (h:left<=1048576) (l:Wf y8 a) (k:Int->Res):ja9 a left k=k (szR left (msr y8 a)):=by
 have j:a.length<=maxLen:=l.1
 have p:msr y8 a=a.length+(a.map (msr y7)).sum:=rfl
 rw [p]
 unfold ja9
 refine jnc (F:=λq=>jcE a Z1c q 0 (λd=>k d) (λ_=>k (-1))) (k:=k) g h j λb=> ?_
 unfold jcE
 rw [ZaB (msr y7) a _ (by omega) (λleft i rec f g h=> ?_) (λleft rec=> ?_) _ (by omega) (by omega)]
 ·by_cases b:(((a.map (msr y7)).sum:Nat):Int)<=left-a.length
  ·rw [if_pos b,ZaA b]
  ·rw [if_neg b,Zaz b]
 ·show j4A a _ _ _ _ _=_
  have r:=l.2 _ (List.getElem_mem f)
  unfold j4A
  rw [ZaQ f,cond_true,j01 f,cond_true,Zay _ _ _ f,jtL _ _ g h r]
  have m:(i:Int)<4611686018427387904:=by unfold maxLen at j;omega
  rw [j02 (n:=(i:Int)+1) (by omega)]
  by_cases b:((msr y7 a[i]:Nat):Int)<=left
  ·rw [if_pos b,ZaA b,Za4 (by omega),cond_false]
  ·rw [if_neg b,Zaz b,Za5 (by omega),cond_true]
 ·show j4A a _ _ _ _ _=_
  unfold j4A
  rw [ZaP,cond_false]
theorem jsw (a:qE) (h:msr y8 a<=1048576) (k:Bool->Res):ja7 a a k=k true:=by
 have d:a.length<=1048576:=j0p h
 unfold ja7
 rw [ZaO,cond_false]
 unfold jhh
 rw [Zar a _ (by unfold LIM;omega) (λi rec b=> ?_) (λrec=> ?_)]
 ·show j4m a a _ _ _ _=_
  unfold j4m
  simp only [ZaQ b,cond_true,j01 b,Zay _ _ _ b,j02 (n:=(i:Int)+1) (by omega),ZaO,Zai,cond_false,Bool.not_true,jth _ (j0O h (List.getElem_mem b))]
 ·show j4m a a _ _ _ _=_
  unfold j4m
  rw [ZaP,cond_false]
theorem jkR (a:qE) (k:Int) (h:msr y8 a<=1048576) (w:1<=k) (m:k+(wgt y8 a:Int)<=4294967296) (K:Int->qE->Res):j5g a k K=K (k+(wgt y8 a:Int)) (mkL (wgt y7) (mk y7) a k):=by
 have y:a.length<=1048576:=j0p h
 have f:wgt y8 a=(a.map (wgt y7)).sum:=rfl
 rw [f] at m ⊢
 unfold j5g jeZ
 have:=Z9Z (wgt y7) (mk y7) a k (λl k i=>(l,k,i)) (step:=j5J) (λl k=>K k l) (λl k=>K k l) (by unfold LIM;omega) (λl i rec g b n d=>by
  have q:=Z7B (wgt y7) a i g
  have r:=Z9L (wgt y7) a (i+1)
  generalize A:k+((((a.take i).map (wgt y7)).sum:Nat):Int)=κ
  have p:1<=κ/\κ+(wgt y7 a[i]:Int)<=4294967296:=by omega
  have z:(wgt y7 a[i]:Int)=1+1+1+1+1+1+1:=by
   have:wgt y7 a[i]=1+1+1+1+1+1+1:=by first | rfl | (simp only [wgt];done) | (simp only [wgt];omega)
   first | rfl | omega
  show j1I _ _ _ _ _=_
  dsimp only
  unfold j1I j4q j4r j4s
  rw [<-b] at g
  have j:i<a.length:=by omega
  simp (disch:=first | assumption | omega) only [show nI a.length=nI l.length by rw [b],ZaQ,j01,jkb,cond_true,jk8,jkc,Zay,d,j02,j3W,<-b]
  rw [ZaF]
  congr 3<;>first | rfl | omega | (simp only [j5j,j3j,j7S,jaq,j5i,j7T,j3o,j5n,j3n,j5o,Int.natCast_add,Int.natCast_one,<-Int.add_assoc];done) | (simp only [j5j,j3j,j7S,jaq,j5i,j7T,j3o,j5n,j3n,j5o,Int.natCast_add,Int.natCast_one,<-Int.add_assoc];rfl) | skip) (λl k rec b=>by
  show j1I _ _ _ _ _=_
  dsimp only
  unfold j1I j4q j4r j4s
  rw [<-b,ZaP,cond_false])
 exact this
theorem jra (a:qE) (k:Int) (h:msr y8 a<=1048576) (y:1<=k) (p:k+(wgt y8 a:Int)<=4294967296) (K:Int->Res):j7Q (mkL (wgt y7) (mk y7) a k) k K=K (k+(wgt y8 a:Int)):=by
 have z:a.length<=1048576:=j0p h
 have f:wgt y8 a=(a.map (wgt y7)).sum:=rfl
 rw [f] at p ⊢
 have d:=Z6s (wgt y7) (mk y7) a k
 have j:=Zau (wgt y7) (mk y7) a k
 generalize mkL (wgt y7) (mk y7) a k=l at d j
 unfold j7Q jeW
 have:=Z9W (wgt y7) a k (λk i=>(k,i)) (step:=j5H l) ((λ(g:Int)=>K g),(λ(_:Unit)=>K (-1))) (λk=>K k) (by unfold LIM;omega) (λi rec m=>by
  have r:=Z7B (wgt y7) a i m
  have w:=Z9L (wgt y7) a (i+1)
  have b:=j i m (by omega)
  generalize B:k+((((a.take i).map (wgt y7)).sum:Nat):Int)=κ at b
  have q:1<=κ/\κ+(wgt y7 a[i]:Int)<=4294967296:=by omega
  have A:(wgt y7 a[i]:Int)=1+1+1+1+1+1+1:=by
   have:wgt y7 a[i]=1+1+1+1+1+1+1:=by first | rfl | (simp only [wgt];done) | (simp only [wgt];omega)
   first | rfl | omega
  show j1F _ _ _ _ _ _=_
  dsimp only
  unfold j1F
  have n:i<l.length:=by omega
  simp (disch:=first | assumption | omega) only [ZaQ,j01,cond_true,cond_false,Zay,b,j5j,j3j,j7S,jaq,j5i,j7T,j3o,j5n,j3n,j5o,Int.natCast_add,Int.natCast_one,<-Int.add_assoc,j02,j3W,ZaO,Zai,beq_self_eq_true,Bool.not_true,Za4]
  all_goals (congr 2;omega)) (λk rec=>by
  show j1F _ _ _ _ _ _=_
  dsimp only
  unfold j1F
  rw [<-d,ZaP,cond_false])
 exact this
end Go.PI.G
namespace Go.PI.G
open Go Go.PI Go.Proofs
theorem jqV (a:(List ByteArray)) (h:msr y0 a<=1048576) (k:(List ByteArray)->Res):j6I a k=k a:=by
 have g:a.length<=1048576:=j0p h
 unfold j6I
 rw [Zav (by unfold LIM;omega),cond_true]
 have:=ZaC (eS) a id (step:=j8f a) (λb=>k b) (by unfold LIM;omega) (λb i rec d f=>by
  show j2u a _ _ _ _=_
  unfold j2u
  dsimp only
  simp only [ZaQ d,cond_true,j01 d,j01 (show i<b.length by omega),Zay _ _ _ d,ZaF,j02 (n:=(i:Int)+1) (by omega)]
  rfl) (λb rec=>by
  show j2u a _ _ _ _=_
  unfold j2u
  dsimp only
  rw [ZaP,cond_false])
 rw [List.map_id] at this
 exact this
theorem jqS (a:(List ByteArray)) (left:Int) (j:0<=left) (l:left<=1048576) (p:Wf y0 a) (k:Int->Res):j6H a left k=k (szR left (msr y0 a)):=by
 have m:a.length<=maxLen:=p.1
 have r:msr y0 a=a.length+(a.map (msr .str)).sum:=rfl
 rw [r]
 unfold j6H
 refine jnc (F:=λq=>j9Q a Z1c q 0 (λd=>k d) (λ_=>k (-1))) (k:=k) j l m λb=> ?_
 unfold j9Q
 rw [ZaB (msr .str) a _ (by omega) (λleft i rec f j l=> ?_) (λleft rec=> ?_) _ (by omega) (by omega)]
 ·by_cases b:(((a.map (msr .str)).sum:Nat):Int)<=left-a.length
  ·rw [if_pos b,ZaA b]
  ·rw [if_neg b,Zaz b]
 ·show j2t a _ _ _ _ _=_
  have h:=p.2 _ (List.getElem_mem f)
  unfold j2t
  have h:a[i].size<=maxLen:=h
  unfold maxLen at h m
  rw [ZaQ f,cond_true,j01 f,cond_true,Zay _ _ _ f,j02 (n:=left-nI a[i].size) (by unfold nI;omega),j02 (n:=(i:Int)+1) (by omega)]
  unfold nI
  by_cases b:((msr .str a[i]:Nat):Int)<=left
  ·have g:(a[i].size:Int)<=left:=b
   rw [if_pos b,Za4 (by omega),cond_false];rfl
  ·have g:¬ (a[i].size:Int)<=left:=b
   rw [if_neg b,Za5 (by omega),cond_true]
 ·show j2t a _ _ _ _ _=_
  unfold j2t
  rw [ZaP,cond_false]
theorem jq2 (a:(List ByteArray)) (h:msr y0 a<=1048576) (k:Bool->Res):j6D a a k=k true:=by
 have d:a.length<=1048576:=j0p h
 unfold j6D
 rw [ZaO,cond_false]
 unfold jdY
 rw [Zar a _ (by unfold LIM;omega) (λi rec b=> ?_) (λrec=> ?_)]
 ·show j2s a a _ _ _ _=_
  unfold j2s
  simp only [ZaQ b,cond_true,j01 b,Zay _ _ _ b,j02 (n:=(i:Int)+1) (by omega),ZaO,Zai,cond_false,Bool.not_true]
 ·show j2s a a _ _ _ _=_
  unfold j2s
  rw [ZaP,cond_false]
theorem jhk (a:(List ByteArray)) (k:Int) (h:msr y0 a<=1048576) (w:1<=k) (m:k+(wgt y0 a:Int)<=4294967296) (K:Int->(List ByteArray)->Res):j2D a k K=K (k+(wgt y0 a:Int)) (mkL (wgt .str) (mk .str) a k):=by
 have y:a.length<=1048576:=j0p h
 have f:wgt y0 a=(a.map (wgt .str)).sum:=rfl
 rw [f] at m ⊢
 unfold j2D jch
 have:=Z9Z (wgt .str) (mk .str) a k (λl k i=>(l,k,i)) (step:=j6G) (λl k=>K k l) (λl k=>K k l) (by unfold LIM;omega) (λl i rec g b n d=>by
  have q:=Z7B (wgt .str) a i g
  have r:=Z9L (wgt .str) a (i+1)
  generalize A:k+((((a.take i).map (wgt .str)).sum:Nat):Int)=κ
  have p:1<=κ/\κ+(wgt .str a[i]:Int)<=4294967296:=by omega
  have z:(wgt .str a[i]:Int)=1:=by
   have:wgt .str a[i]=1:=by first | rfl | (simp only [wgt];done) | (simp only [wgt];omega)
   first | rfl | omega
  show j1K _ _ _ _ _=_
  dsimp only
  unfold j1K
  rw [<-b] at g
  have j:i<a.length:=by omega
  simp (disch:=first | assumption | omega) only [show nI a.length=nI l.length by rw [b],ZaQ,j01,jkb,cond_true,jk8,jkc,Zay,d,j02,j3W,<-b]
  rw [ZaF]
  congr 3<;>first | rfl | omega | (simp only [j5j,j3j,j7S,jaq,j5i,j7T,j3o,j5n,j3n,j5o,Int.natCast_add,Int.natCast_one,<-Int.add_assoc];done) | (simp only [j5j,j3j,j7S,jaq,j5i,j7T,j3o,j5n,j3n,j5o,Int.natCast_add,Int.natCast_one,<-Int.add_assoc];rfl) | skip) (λl k rec b=>by
  show j1K _ _ _ _ _=_
  dsimp only
  unfold j1K
  rw [<-b,ZaP,cond_false])
 exact this
theorem jnv (a:(List ByteArray)) (k:Int) (h:msr y0 a<=1048576) (y:1<=k) (p:k+(wgt y0 a:Int)<=4294967296) (K:Int->Res):j4p (mkL (wgt .str) (mk .str) a k) k K=K (k+(wgt y0 a:Int)):=by
 have z:a.length<=1048576:=j0p h
 have f:wgt y0 a=(a.map (wgt .str)).sum:=rfl
 rw [f] at p ⊢
 have d:=Z6s (wgt .str) (mk .str) a k
 have j:=Zau (wgt .str) (mk .str) a k
 generalize mkL (wgt .str) (mk .str) a k=l at d j
 unfold j4p jcg
 have:=Z9W (wgt .str) a k (λk i=>(k,i)) (step:=j6E l) ((λ(g:Int)=>K g),(λ(_:Unit)=>K (-1))) (λk=>K k) (by unfold LIM;omega) (λi rec m=>by
  have r:=Z7B (wgt .str) a i m
  have w:=Z9L (wgt .str) a (i+1)
  have b:=j i m (by omega)
  generalize B:k+((((a.take i).map (wgt .str)).sum:Nat):Int)=κ at b
  have q:1<=κ/\κ+(wgt .str a[i]:Int)<=4294967296:=by omega
  have A:(wgt .str a[i]:Int)=1:=by
   have:wgt .str a[i]=1:=by first | rfl | (simp only [wgt];done) | (simp only [wgt];omega)
   first | rfl | omega
  show j1H _ _ _ _ _ _=_
  dsimp only
  unfold j1H
  have n:i<l.length:=by omega
  simp (disch:=first | assumption | omega) only [ZaQ,j01,cond_true,cond_false,Zay,b,j5j,j3j,j7S,jaq,j5i,j7T,j3o,j5n,j3n,j5o,Int.natCast_add,Int.natCast_one,<-Int.add_assoc,j02,j3W,ZaO,Zai,beq_self_eq_true,Bool.not_true,Za4]
  all_goals (congr 2;omega)) (λk rec=>by
  show j1H _ _ _ _ _ _=_
  dsimp only
  unfold j1H
  rw [<-d,ZaP,cond_false])
 exact this
end Go.PI.G
namespace Go.PI.G
open Go Go.PI Go.Proofs
theorem jtT (a:Int×ByteArray×qE×List ByteArray×ByteArray×ByteArray) (h:msr y13 a<=1048576) (k:(Int×ByteArray×qE×List ByteArray×ByteArray×ByteArray)->Res):j9x a k=k a:=by
 have b:msr y8 a.2.2.1<=1048576:=(Nat.le_trans (@j0l y8 y10 a.2.2) (Nat.le_trans (@j00 .str y11 a.2) (Nat.le_trans (@j00 (.int .i64) y12 a) h)))
 have d:msr y0 a.2.2.2.1<=1048576:=(Nat.le_trans (@j0l y0 y9 a.2.2.2) (Nat.le_trans (@j00 y8 y10 a.2.2) (Nat.le_trans (@j00 .str y11 a.2) (Nat.le_trans (@j00 (.int .i64) y12 a) h))))
 unfold j9x
 simp only [jsW _ b,jqV _ d]
theorem jtM (a:Int×ByteArray×qE×List ByteArray×ByteArray×ByteArray) (left:Int) (p:0<=left) (q:left<=1048576) (i:Wf y13 a) (k:Int->Res):j9v a left k=k (szR left (msr y13 a)):=by
 have n:msr y13 a=ByteArray.size a.2.1+(msr y8 a.2.2.1+(msr y0 a.2.2.2.1+(ByteArray.size a.2.2.2.2.1+(ByteArray.size a.2.2.2.2.2+0)))):=by simp only [msr]<;>omega
 rw [n]
 unfold j9v
 have j:ByteArray.size a.2.1<=maxLen:=i.2.1
 unfold maxLen at j
 rw [j02 (by unfold nI;omega)]
 by_cases f:((ByteArray.size a.2.1:Nat):Int)<=left
 rotate_left
 ·rw [Zal f,Za5 (by unfold nI;omega),cond_true]
 rw [Za4 (by unfold nI;omega),cond_false,Zak f,show left-nI (ByteArray.size a.2.1)=left-((ByteArray.size a.2.1:Nat):Int) from rfl]
 rw [jsT _ _ (by omega) (by omega) i.2.2.1]
 by_cases b:((msr y8 a.2.2.1:Nat):Int)<=left-(ByteArray.size a.2.1:Nat)
 rotate_left
 ·rw [Zaz b,Zal b,Za5 (by omega),cond_true]
 rw [ZaA b,Zak b,Za4 (by omega),cond_false]
 rw [jqS _ _ (by omega) (by omega) i.2.2.2.1]
 by_cases d:((msr y0 a.2.2.2.1:Nat):Int)<=left-(ByteArray.size a.2.1:Nat)-(msr y8 a.2.2.1:Nat)
 rotate_left
 ·rw [Zaz d,Zal d,Za5 (by omega),cond_true]
 rw [ZaA d,Zak d,Za4 (by omega),cond_false]
 have l:ByteArray.size a.2.2.2.2.1<=maxLen:=i.2.2.2.2.1
 unfold maxLen at l
 rw [j02 (by unfold nI;omega)]
 by_cases g:((ByteArray.size a.2.2.2.2.1:Nat):Int)<=left-(ByteArray.size a.2.1:Nat)-(msr y8 a.2.2.1:Nat)-(msr y0 a.2.2.2.1:Nat)
 rotate_left
 ·rw [Zal g,Za5 (by unfold nI;omega),cond_true]
 rw [Za4 (by unfold nI;omega),cond_false,Zak g,show left-(ByteArray.size a.2.1:Nat)-(msr y8 a.2.2.1:Nat)-(msr y0 a.2.2.2.1:Nat)-nI (ByteArray.size a.2.2.2.2.1)=left-(ByteArray.size a.2.1:Nat)-(msr y8 a.2.2.1:Nat)-(msr y0 a.2.2.2.1:Nat)-((ByteArray.size a.2.2.2.2.1:Nat):Int) from rfl]
 have m:ByteArray.size a.2.2.2.2.2<=maxLen:=i.2.2.2.2.2
 unfold maxLen at m
 rw [j02 (by unfold nI;omega)]
 by_cases h:((ByteArray.size a.2.2.2.2.2:Nat):Int)<=left-(ByteArray.size a.2.1:Nat)-(msr y8 a.2.2.1:Nat)-(msr y0 a.2.2.2.1:Nat)-(ByteArray.size a.2.2.2.2.1:Nat)
 rotate_left
 ·rw [Zal h,Za5 (by unfold nI;omega),cond_true]
 rw [Za4 (by unfold nI;omega),cond_false,Zak h,show left-(ByteArray.size a.2.1:Nat)-(msr y8 a.2.2.1:Nat)-(msr y0 a.2.2.2.1:Nat)-(ByteArray.size a.2.2.2.2.1:Nat)-nI (ByteArray.size a.2.2.2.2.2)=left-(ByteArray.size a.2.1:Nat)-(msr y8 a.2.2.1:Nat)-(msr y0 a.2.2.2.1:Nat)-(ByteArray.size a.2.2.2.2.1:Nat)-((ByteArray.size a.2.2.2.2.2:Nat):Int) from rfl]
 exact jhD (by omega)
theorem jti (a:Int×ByteArray×qE×List ByteArray×ByteArray×ByteArray) (h:msr y13 a<=1048576) (k:Bool->Res):j9t a a k=k true:=by
 have b:msr y8 a.2.2.1<=1048576:=(Nat.le_trans (@j0l y8 y10 a.2.2) (Nat.le_trans (@j00 .str y11 a.2) (Nat.le_trans (@j00 (.int .i64) y12 a) h)))
 have d:msr y0 a.2.2.2.1<=1048576:=(Nat.le_trans (@j0l y0 y9 a.2.2.2) (Nat.le_trans (@j00 y8 y10 a.2.2) (Nat.le_trans (@j00 .str y11 a.2) (Nat.le_trans (@j00 (.int .i64) y12 a) h))))
 unfold j9t
 simp only [ZaO,Zai,beq_self_eq_true,cond_false,Bool.not_true,jsw _ b,jq2 _ d]
theorem jrZ (a:Int×ByteArray×qE×List ByteArray×ByteArray×ByteArray) (k:Int) (h:msr y13 a<=1048576) (g:1<=k) (l:k+(j14 y13 a:Int)<=4294967296) (K:Int->(Int×ByteArray×qE×List ByteArray×ByteArray×ByteArray)->Res):j6F a k K=K (k+(j14 y13 a:Int)) (mkT y13 a k):=by
 have i:msr y8 a.2.2.1<=1048576:=(Nat.le_trans (@j0l y8 y10 a.2.2) (Nat.le_trans (@j00 .str y11 a.2) (Nat.le_trans (@j00 (.int .i64) y12 a) h)))
 have j:msr y0 a.2.2.2.1<=1048576:=(Nat.le_trans (@j0l y0 y9 a.2.2.2) (Nat.le_trans (@j00 y8 y10 a.2.2) (Nat.le_trans (@j00 .str y11 a.2) (Nat.le_trans (@j00 (.int .i64) y12 a) h))))
 have d:msr y8 a.2.2.1<=1048576:=(Nat.le_trans (@j0l y8 y10 a.2.2) (Nat.le_trans (@j00 .str y11 a.2) (Nat.le_trans (@j00 (.int .i64) y12 a) h)))
 have f:msr y0 a.2.2.2.1<=1048576:=(Nat.le_trans (@j0l y0 y9 a.2.2.2) (Nat.le_trans (@j00 y8 y10 a.2.2) (Nat.le_trans (@j00 .str y11 a.2) (Nat.le_trans (@j00 (.int .i64) y12 a) h))))
 have b:j14 y8 a.2.2.1=wgt y8 a.2.2.1:=rfl
 have w1:j14 y0 a.2.2.2.1=wgt y0 a.2.2.2.1:=rfl
 have m:j14 y13 a=wgt y8 a.2.2.1+wgt y0 a.2.2.2.1:=by first | rfl | (simp only [j05,b,w1,j0Q,j0s,j0R,Nat.zero_add,Nat.add_zero];done) | (simp only [j05,b,w1,j0Q,j0s,j0R,Nat.zero_add,Nat.add_zero];omega)
 unfold j6F
 simp (disch:=first | assumption | omega) only [jkR,jhk]
 first | rfl | (simp only [j0y (.int .i64) y12,j05 (.int .i64) y12,j0y .str y11,j05 .str y11,j0y y8 y10,j05 y8 y10,j0y y0 y9,j05 y0 y9,j0y .str .str,j05 .str .str,j7f,jb7,j8U,jb8,b,w1,j0Q,j0s,j0R,Int.natCast_add,Int.natCast_zero,Int.cast_ofNat_Int,Nat.zero_add,Nat.add_zero,Int.add_zero,<-Int.add_assoc];done) | (simp only [j0y (.int .i64) y12,j05 (.int .i64) y12,j0y .str y11,j05 .str y11,j0y y8 y10,j05 y8 y10,j0y y0 y9,j05 y0 y9,j0y .str .str,j05 .str .str,j7f,jb7,j8U,jb8,b,w1,j0Q,j0s,j0R,Int.natCast_add,Int.natCast_zero,Int.cast_ofNat_Int,Nat.zero_add,Nat.add_zero,Int.add_zero,<-Int.add_assoc];rfl)
end Go.PI.G
namespace Go.PI.G
open Go Go.PI Go.Proofs
theorem joB (a:qW) (h:msr y3 a<=1048576) (k:qW->Res):j88 a k=k a:=by
 have g:a.length<=1048576:=j0p h
 unfold j88
 rw [Zav (by unfold LIM;omega),cond_true]
 have:=ZaC ((0,0,eS)) a id (step:=jaG a) (λb=>k b) (by unfold LIM;omega) (λb i rec d f=>by
  show j4F a _ _ _ _=_
  unfold j4F
  dsimp only
  simp only [ZaQ d,cond_true,j01 d,j01 (show i<b.length by omega),Zay _ _ _ d,ZaF,j02 (n:=(i:Int)+1) (by omega),jqW _ (j0O h (List.getElem_mem d))]
  rfl) (λb rec=>by
  show j4F a _ _ _ _=_
  unfold j4F
  dsimp only
  rw [ZaP,cond_false])
 rw [List.map_id] at this
 exact this
theorem joA (a:qW) (left:Int) (g:0<=left) (h:left<=1048576) (l:Wf y3 a) (k:Int->Res):j87 a left k=k (szR left (msr y3 a)):=by
 have j:a.length<=maxLen:=l.1
 have p:msr y3 a=a.length+(a.map (msr y2)).sum:=rfl
 rw [p]
 unfold j87
 refine jnc (F:=λq=>jcG a Z1c q 0 (λd=>k d) (λ_=>k (-1))) (k:=k) g h j λb=> ?_
 unfold jcG
 rw [ZaB (msr y2) a _ (by omega) (λleft i rec f g h=> ?_) (λleft rec=> ?_) _ (by omega) (by omega)]
 ·by_cases b:(((a.map (msr y2)).sum:Nat):Int)<=left-a.length
  ·rw [if_pos b,ZaA b]
  ·rw [if_neg b,Zaz b]
 ·show j4C a _ _ _ _ _=_
  have r:=l.2 _ (List.getElem_mem f)
  unfold j4C
  rw [ZaQ f,cond_true,j01 f,cond_true,Zay _ _ _ f,jqT _ _ g h r]
  have m:(i:Int)<4611686018427387904:=by unfold maxLen at j;omega
  rw [j02 (n:=(i:Int)+1) (by omega)]
  by_cases b:((msr y2 a[i]:Nat):Int)<=left
  ·rw [if_pos b,ZaA b,Za4 (by omega),cond_false]
  ·rw [if_neg b,Zaz b,Za5 (by omega),cond_true]
 ·show j4C a _ _ _ _ _=_
  unfold j4C
  rw [ZaP,cond_false]
theorem joh (a:qW) (h:msr y3 a<=1048576) (k:Bool->Res):j86 a a k=k true:=by
 have d:a.length<=1048576:=j0p h
 unfold j86
 rw [ZaO,cond_false]
 unfold jhj
 rw [Zar a _ (by unfold LIM;omega) (λi rec b=> ?_) (λrec=> ?_)]
 ·show j4o a a _ _ _ _=_
  unfold j4o
  simp only [ZaQ b,cond_true,j01 b,Zay _ _ _ b,j02 (n:=(i:Int)+1) (by omega),ZaO,Zai,cond_false,Bool.not_true,jq3 _ (j0O h (List.getElem_mem b))]
 ·show j4o a a _ _ _ _=_
  unfold j4o
  rw [ZaP,cond_false]
theorem jgD (a:qW) (k:Int) (h:msr y3 a<=1048576) (w:1<=k) (m:k+(wgt y3 a:Int)<=4294967296) (K:Int->qW->Res):j1x a k K=K (k+(wgt y3 a:Int)) (mkL (wgt y2) (mk y2) a k):=by
 have y:a.length<=1048576:=j0p h
 have f:wgt y3 a=(a.map (wgt y2)).sum:=rfl
 rw [f] at m ⊢
 unfold j1x jf2
 have:=Z9Z (wgt y2) (mk y2) a k (λl k i=>(l,k,i)) (step:=j8T) (λl k=>K k l) (λl k=>K k l) (by unfold LIM;omega) (λl i rec g b n d=>by
  have q:=Z7B (wgt y2) a i g
  have r:=Z9L (wgt y2) a (i+1)
  generalize A:k+((((a.take i).map (wgt y2)).sum:Nat):Int)=κ
  have p:1<=κ/\κ+(wgt y2 a[i]:Int)<=4294967296:=by omega
  have z:(wgt y2 a[i]:Int)=1+1+1:=by
   have:wgt y2 a[i]=1+1+1:=by first | rfl | (simp only [wgt];done) | (simp only [wgt];omega)
   first | rfl | omega
  show j2W _ _ _ _ _=_
  dsimp only
  unfold j2W
  rw [<-b] at g
  have j:i<a.length:=by omega
  simp (disch:=first | assumption | omega) only [show nI a.length=nI l.length by rw [b],ZaQ,j01,jkb,cond_true,jk8,jkc,Zay,d,j02,j3W,<-b]
  rw [ZaF]
  congr 3<;>first | rfl | omega | (simp only [j5j,j3j,j7S,jaq,j5i,j7T,j3o,j5n,j3n,j5o,Int.natCast_add,Int.natCast_one,<-Int.add_assoc];done) | (simp only [j5j,j3j,j7S,jaq,j5i,j7T,j3o,j5n,j3n,j5o,Int.natCast_add,Int.natCast_one,<-Int.add_assoc];rfl) | skip) (λl k rec b=>by
  show j2W _ _ _ _ _=_
  dsimp only
  unfold j2W
  rw [<-b,ZaP,cond_false])
 exact this
theorem jrb (a:qW) (k:Int) (h:msr y3 a<=1048576) (y:1<=k) (p:k+(wgt y3 a:Int)<=4294967296) (K:Int->Res):j5f (mkL (wgt y2) (mk y2) a k) k K=K (k+(wgt y3 a:Int)):=by
 have z:a.length<=1048576:=j0p h
 have f:wgt y3 a=(a.map (wgt y2)).sum:=rfl
 rw [f] at p ⊢
 have d:=Z6s (wgt y2) (mk y2) a k
 have j:=Zau (wgt y2) (mk y2) a k
 generalize mkL (wgt y2) (mk y2) a k=l at d j
 unfold j5f jeY
 have:=Z9W (wgt y2) a k (λk i=>(k,i)) (step:=j8Q l) ((λ(g:Int)=>K g),(λ(_:Unit)=>K (-1))) (λk=>K k) (by unfold LIM;omega) (λi rec m=>by
  have r:=Z7B (wgt y2) a i m
  have w:=Z9L (wgt y2) a (i+1)
  have b:=j i m (by omega)
  generalize B:k+((((a.take i).map (wgt y2)).sum:Nat):Int)=κ at b
  have q:1<=κ/\κ+(wgt y2 a[i]:Int)<=4294967296:=by omega
  have A:(wgt y2 a[i]:Int)=1+1+1:=by
   have:wgt y2 a[i]=1+1+1:=by first | rfl | (simp only [wgt];done) | (simp only [wgt];omega)
   first | rfl | omega
  show j2U _ _ _ _ _ _=_
  dsimp only
  unfold j2U
  have n:i<l.length:=by omega
  simp (disch:=first | assumption | omega) only [ZaQ,j01,cond_true,cond_false,Zay,b,j5j,j3j,j7S,jaq,j5i,j7T,j3o,j5n,j3n,j5o,Int.natCast_add,Int.natCast_one,<-Int.add_assoc,j02,j3W,ZaO,Zai,beq_self_eq_true,Bool.not_true,Za4]
  all_goals (congr 2;omega)) (λk rec=>by
  show j2U _ _ _ _ _ _=_
  dsimp only
  unfold j2U
  rw [<-d,ZaP,cond_false])
 exact this
end Go.PI.G
namespace Go.PI.G
open Go Go.PI Go.Proofs
theorem jtU (a:List qV) (h:msr y3 a<=1048576) (k:qW->Res):jbu a k=k a:=by
 have b:msr y3 a<=1048576:=h
 unfold jbu
 simp only [joB _ b]
theorem jtO (a:List qV) (left:Int) (g:0<=left) (h:left<=1048576) (f:Wf y3 a) (k:Int->Res):jbs a left k=k (szR left (msr y3 a)):=by
 have d:msr y3 a=msr y3 a+0:=rfl
 rw [d]
 unfold jbs
 rw [joA _ _ (by omega) (by omega) f]
 by_cases b:((msr y3 a:Nat):Int)<=left
 rotate_left
 ·rw [Zaz b,Zal b,Za5 (by omega),cond_true]
 rw [ZaA b,Zak b,Za4 (by omega),cond_false]
 exact jhD (by omega)
theorem jtj (a:List qV) (h:msr y3 a<=1048576) (k:Bool->Res):jbq a a k=k true:=by
 have b:msr y3 a<=1048576:=h
 unfold jbq
 simp only [ZaO,Zai,beq_self_eq_true,cond_false,Bool.not_true,joh _ b]
theorem js1 (a:List qV) (k:Int) (h:msr y3 a<=1048576) (d:1<=k) (g:k+(j14 y3 a:Int)<=4294967296) (K:Int->qW->Res):j8S a k K=K (k+(j14 y3 a:Int)) (mkT y3 a k):=by
 have d:msr y3 a<=1048576:=h
 have f:msr y3 a<=1048576:=h
 have b:j14 y3 a=wgt y3 a:=rfl
 have i:j14 y3 a=wgt y3 a:=by first | rfl | (simp only [j05,b,j0Q,j0s,j0R,Nat.zero_add,Nat.add_zero];done) | (simp only [j05,b,j0Q,j0s,j0R,Nat.zero_add,Nat.add_zero];omega)
 unfold j8S
 simp (disch:=first | assumption | omega) only [jgD]
 first | rfl | (simp only [j7f,jb7,j8U,jb8,b,j0Q,j0s,j0R,Int.natCast_add,Int.natCast_zero,Int.cast_ofNat_Int,Nat.zero_add,Nat.add_zero,Int.add_zero,<-Int.add_assoc];done) | (simp only [j7f,jb7,j8U,jb8,b,j0Q,j0s,j0R,Int.natCast_add,Int.natCast_zero,Int.cast_ofNat_Int,Nat.zero_add,Nat.add_zero,Int.add_zero,<-Int.add_assoc];rfl)
end Go.PI.G
namespace Go.PI.G
open Go Go.PI Go.Proofs
theorem jsX (a:Int×ByteArray×qW×qW×Int×ByteArray×qE×List ByteArray×ByteArray×ByteArray) (h:msr y17 a<=1048576) (k:qS->Res):jad a k=k a:=by
 have b:msr y3 a.2.2.1<=1048576:=(Nat.le_trans (@j0l y3 y14 a.2.2) (Nat.le_trans (@j00 .str y15 a.2) (Nat.le_trans (@j00 (.int .i64) y16 a) h)))
 have d:msr y3 a.2.2.2.1<=1048576:=(Nat.le_trans (@j0l y3 y13 a.2.2.2) (Nat.le_trans (@j00 y3 y14 a.2.2) (Nat.le_trans (@j00 .str y15 a.2) (Nat.le_trans (@j00 (.int .i64) y16 a) h))))
 have f:msr y13 a.2.2.2.2<=1048576:=(Nat.le_trans (@j00 y3 y13 a.2.2.2) (Nat.le_trans (@j00 y3 y14 a.2.2) (Nat.le_trans (@j00 .str y15 a.2) (Nat.le_trans (@j00 (.int .i64) y16 a) h))))
 unfold jad
 simp only [joB _ b,jtU _ d,jtT _ f]
theorem jsV (a:Int×ByteArray×qW×qW×Int×ByteArray×qE×List ByteArray×ByteArray×ByteArray) (left:Int) (l:0<=left) (m:left<=1048576) (h:Wf y17 a) (k:Int->Res):jab a left k=k (szR left (msr y17 a)):=by
 have j:msr y17 a=ByteArray.size a.2.1+(msr y3 a.2.2.1+(msr y3 a.2.2.2.1+(msr y13 a.2.2.2.2+0))):=by simp only [msr]<;>omega
 rw [j]
 unfold jab
 have i:ByteArray.size a.2.1<=maxLen:=h.2.1
 unfold maxLen at i
 rw [j02 (by unfold nI;omega)]
 by_cases g:((ByteArray.size a.2.1:Nat):Int)<=left
 rotate_left
 ·rw [Zal g,Za5 (by unfold nI;omega),cond_true]
 rw [Za4 (by unfold nI;omega),cond_false,Zak g,show left-nI (ByteArray.size a.2.1)=left-((ByteArray.size a.2.1:Nat):Int) from rfl]
 rw [joA _ _ (by omega) (by omega) h.2.2.1]
 by_cases b:((msr y3 a.2.2.1:Nat):Int)<=left-(ByteArray.size a.2.1:Nat)
 rotate_left
 ·rw [Zaz b,Zal b,Za5 (by omega),cond_true]
 rw [ZaA b,Zak b,Za4 (by omega),cond_false]
 rw [jtO _ _ (by omega) (by omega) h.2.2.2.1]
 by_cases d:((msr y3 a.2.2.2.1:Nat):Int)<=left-(ByteArray.size a.2.1:Nat)-(msr y3 a.2.2.1:Nat)
 rotate_left
 ·rw [Zaz d,Zal d,Za5 (by omega),cond_true]
 rw [ZaA d,Zak d,Za4 (by omega),cond_false]
 rw [jtM _ _ (by omega) (by omega) h.2.2.2.2]
 by_cases f:((msr y13 a.2.2.2.2:Nat):Int)<=left-(ByteArray.size a.2.1:Nat)-(msr y3 a.2.2.1:Nat)-(msr y3 a.2.2.2.1:Nat)
 rotate_left
 ·rw [Zaz f,Zal f,Za5 (by omega),cond_true]
 rw [ZaA f,Zak f,Za4 (by omega),cond_false]
 exact jhD (by omega)
theorem jsx (a:Int×ByteArray×qW×qW×Int×ByteArray×qE×List ByteArray×ByteArray×ByteArray) (h:msr y17 a<=1048576) (k:Bool->Res):ja8 a a k=k true:=by
 have b:msr y3 a.2.2.1<=1048576:=(Nat.le_trans (@j0l y3 y14 a.2.2) (Nat.le_trans (@j00 .str y15 a.2) (Nat.le_trans (@j00 (.int .i64) y16 a) h)))
 have d:msr y3 a.2.2.2.1<=1048576:=(Nat.le_trans (@j0l y3 y13 a.2.2.2) (Nat.le_trans (@j00 y3 y14 a.2.2) (Nat.le_trans (@j00 .str y15 a.2) (Nat.le_trans (@j00 (.int .i64) y16 a) h))))
 have f:msr y13 a.2.2.2.2<=1048576:=(Nat.le_trans (@j00 y3 y13 a.2.2.2) (Nat.le_trans (@j00 y3 y14 a.2.2) (Nat.le_trans (@j00 .str y15 a.2) (Nat.le_trans (@j00 (.int .i64) y16 a) h))))
 unfold ja8
 simp only [ZaO,Zai,beq_self_eq_true,cond_false,Bool.not_true,joh _ b,jtj _ d,jti _ f]
theorem jrn (a:Int×ByteArray×qW×qW×Int×ByteArray×qE×List ByteArray×ByteArray×ByteArray) (k:Int) (h:msr y17 a<=1048576) (l:1<=k) (q:k+(j14 y17 a:Int)<=4294967296) (K:Int->qS->Res):j7R a k K=K (k+(j14 y17 a:Int)) (mkT y17 a k):=by
 have m:msr y3 a.2.2.1<=1048576:=(Nat.le_trans (@j0l y3 y14 a.2.2) (Nat.le_trans (@j00 .str y15 a.2) (Nat.le_trans (@j00 (.int .i64) y16 a) h)))
 have n:msr y3 a.2.2.2.1<=1048576:=(Nat.le_trans (@j0l y3 y13 a.2.2.2) (Nat.le_trans (@j00 y3 y14 a.2.2) (Nat.le_trans (@j00 .str y15 a.2) (Nat.le_trans (@j00 (.int .i64) y16 a) h))))
 have p:msr y13 a.2.2.2.2<=1048576:=(Nat.le_trans (@j00 y3 y13 a.2.2.2) (Nat.le_trans (@j00 y3 y14 a.2.2) (Nat.le_trans (@j00 .str y15 a.2) (Nat.le_trans (@j00 (.int .i64) y16 a) h))))
 have f:msr y3 a.2.2.1<=1048576:=(Nat.le_trans (@j0l y3 y14 a.2.2) (Nat.le_trans (@j00 .str y15 a.2) (Nat.le_trans (@j00 (.int .i64) y16 a) h)))
 have g:msr y3 a.2.2.2.1<=1048576:=(Nat.le_trans (@j0l y3 y13 a.2.2.2) (Nat.le_trans (@j00 y3 y14 a.2.2) (Nat.le_trans (@j00 .str y15 a.2) (Nat.le_trans (@j00 (.int .i64) y16 a) h))))
 have i:msr y8 a.2.2.2.2.2.2.1<=1048576:=(Nat.le_trans (@j0l y8 y10 a.2.2.2.2.2.2) (Nat.le_trans (@j00 .str y11 a.2.2.2.2.2) (Nat.le_trans (@j00 (.int .i64) y12 a.2.2.2.2) (Nat.le_trans (@j00 y3 y13 a.2.2.2) (Nat.le_trans (@j00 y3 y14 a.2.2) (Nat.le_trans (@j00 .str y15 a.2) (Nat.le_trans (@j00 (.int .i64) y16 a) h)))))))
 have j:msr y0 a.2.2.2.2.2.2.2.1<=1048576:=(Nat.le_trans (@j0l y0 y9 a.2.2.2.2.2.2.2) (Nat.le_trans (@j00 y8 y10 a.2.2.2.2.2.2) (Nat.le_trans (@j00 .str y11 a.2.2.2.2.2) (Nat.le_trans (@j00 (.int .i64) y12 a.2.2.2.2) (Nat.le_trans (@j00 y3 y13 a.2.2.2) (Nat.le_trans (@j00 y3 y14 a.2.2) (Nat.le_trans (@j00 .str y15 a.2) (Nat.le_trans (@j00 (.int .i64) y16 a) h))))))))
 have b:j14 y3 a.2.2.1=wgt y3 a.2.2.1:=rfl
 have w1:j14 y3 a.2.2.2.1=wgt y3 a.2.2.2.1:=rfl
 have w2:j14 y8 a.2.2.2.2.2.2.1=wgt y8 a.2.2.2.2.2.2.1:=rfl
 have d:j14 y0 a.2.2.2.2.2.2.2.1=wgt y0 a.2.2.2.2.2.2.2.1:=rfl
 have r:j14 y17 a=wgt y3 a.2.2.1+wgt y3 a.2.2.2.1+wgt y8 a.2.2.2.2.2.2.1+wgt y0 a.2.2.2.2.2.2.2.1:=by first | rfl | (simp only [j05,b,w1,w2,d,j0Q,j0s,j0R,Nat.zero_add,Nat.add_zero];done) | (simp only [j05,b,w1,w2,d,j0Q,j0s,j0R,Nat.zero_add,Nat.add_zero];omega)
 have w:j14 y13 a.2.2.2.2=wgt y8 a.2.2.2.2.2.2.1+wgt y0 a.2.2.2.2.2.2.2.1:=by first | rfl | (simp only [j05,b,w1,w2,d,j0Q,j0s,j0R,Nat.zero_add,Nat.add_zero];done) | (simp only [j05,b,w1,w2,d,j0Q,j0s,j0R,Nat.zero_add,Nat.add_zero];omega)
 unfold j7R
 simp (disch:=first | assumption | omega) only [jrZ,js1,jgD]
 first | rfl | (simp only [j0y (.int .i64) y16,j05 (.int .i64) y16,j0y .str y15,j05 .str y15,j0y y3 y14,j05 y3 y14,j0y y3 y13,j05 y3 y13,j7f,jb7,j8U,jb8,b,w1,w2,d,j0Q,j0s,j0R,Int.natCast_add,Int.natCast_zero,Int.cast_ofNat_Int,Nat.zero_add,Nat.add_zero,Int.add_zero,<-Int.add_assoc];done) | (simp only [j0y (.int .i64) y16,j05 (.int .i64) y16,j0y .str y15,j05 .str y15,j0y y3 y14,j05 y3 y14,j0y y3 y13,j05 y3 y13,j7f,jb7,j8U,jb8,b,w1,w2,d,j0Q,j0s,j0R,Int.natCast_add,Int.natCast_zero,Int.cast_ofNat_Int,Nat.zero_add,Nat.add_zero,Int.add_zero,<-Int.add_assoc];rfl)
end Go.PI.G
namespace Go.PI.G
open Go Go.PI Go.Proofs
theorem jfp (a:Int×Int×Int×ByteArray×qW×qW×Int×ByteArray×qE×List ByteArray×ByteArray×ByteArray) (h:msr y19 a<=1048576) (k:(Int×Int×Int×ByteArray×qW×qW×Int×ByteArray×qE×List ByteArray×ByteArray×ByteArray)->Res):j21 a k=k a:=by
 have b:msr y17 a.2.2<=1048576:=(Nat.le_trans (@j00 (.int .i64) y17 a.2) (Nat.le_trans (@j00 (.int .i64) y18 a) h))
 unfold j21
 simp only [jsX _ b]
theorem jqR (a:Int×Int×Int×ByteArray×qW×qW×Int×ByteArray×qE×List ByteArray×ByteArray×ByteArray) (left:Int) (g:0<=left) (h:left<=1048576) (f:Wf y19 a) (k:Int->Res):j9w a left k=k (szR left (msr y19 a)):=by
 have d:msr y19 a=msr y17 a.2.2+0:=by simp only [msr]<;>omega
 rw [d]
 unfold j9w
 rw [jsV _ _ (by omega) (by omega) f.2.2]
 by_cases b:((msr y17 a.2.2:Nat):Int)<=left
 rotate_left
 ·rw [Zaz b,Zal b,Za5 (by omega),cond_true]
 rw [ZaA b,Zak b,Za4 (by omega),cond_false]
 exact jhD (by omega)
theorem jq1 (a:Int×Int×Int×ByteArray×qW×qW×Int×ByteArray×qE×List ByteArray×ByteArray×ByteArray) (h:msr y19 a<=1048576) (k:Bool->Res):j9u a a k=k true:=by
 have b:msr y17 a.2.2<=1048576:=(Nat.le_trans (@j00 (.int .i64) y17 a.2) (Nat.le_trans (@j00 (.int .i64) y18 a) h))
 unfold j9u
 simp only [ZaO,Zai,beq_self_eq_true,cond_false,Bool.not_true,jsx _ b]
theorem js0 (a:Int×Int×Int×ByteArray×qW×qW×Int×ByteArray×qE×List ByteArray×ByteArray×ByteArray) (k:Int) (h:msr y19 a<=1048576) (l:1<=k) (n:k+(j14 y19 a:Int)<=4294967296) (K:Int->(Int×Int×Int×ByteArray×qW×qW×Int×ByteArray×qE×List ByteArray×ByteArray×ByteArray)->Res):j8R a k K=K (k+(j14 y19 a:Int)) (mkT y19 a k):=by
 have m:msr y17 a.2.2<=1048576:=(Nat.le_trans (@j00 (.int .i64) y17 a.2) (Nat.le_trans (@j00 (.int .i64) y18 a) h))
 have f:msr y3 a.2.2.2.2.1<=1048576:=(Nat.le_trans (@j0l y3 y14 a.2.2.2.2) (Nat.le_trans (@j00 .str y15 a.2.2.2) (Nat.le_trans (@j00 (.int .i64) y16 a.2.2) (Nat.le_trans (@j00 (.int .i64) y17 a.2) (Nat.le_trans (@j00 (.int .i64) y18 a) h)))))
 have g:msr y3 a.2.2.2.2.2.1<=1048576:=(Nat.le_trans (@j0l y3 y13 a.2.2.2.2.2) (Nat.le_trans (@j00 y3 y14 a.2.2.2.2) (Nat.le_trans (@j00 .str y15 a.2.2.2) (Nat.le_trans (@j00 (.int .i64) y16 a.2.2) (Nat.le_trans (@j00 (.int .i64) y17 a.2) (Nat.le_trans (@j00 (.int .i64) y18 a) h))))))
 have i:msr y8 a.2.2.2.2.2.2.2.2.1<=1048576:=(Nat.le_trans (@j0l y8 y10 a.2.2.2.2.2.2.2.2) (Nat.le_trans (@j00 .str y11 a.2.2.2.2.2.2.2) (Nat.le_trans (@j00 (.int .i64) y12 a.2.2.2.2.2.2) (Nat.le_trans (@j00 y3 y13 a.2.2.2.2.2) (Nat.le_trans (@j00 y3 y14 a.2.2.2.2) (Nat.le_trans (@j00 .str y15 a.2.2.2) (Nat.le_trans (@j00 (.int .i64) y16 a.2.2) (Nat.le_trans (@j00 (.int .i64) y17 a.2) (Nat.le_trans (@j00 (.int .i64) y18 a) h)))))))))
 have j:msr y0 a.2.2.2.2.2.2.2.2.2.1<=1048576:=(Nat.le_trans (@j0l y0 y9 a.2.2.2.2.2.2.2.2.2) (Nat.le_trans (@j00 y8 y10 a.2.2.2.2.2.2.2.2) (Nat.le_trans (@j00 .str y11 a.2.2.2.2.2.2.2) (Nat.le_trans (@j00 (.int .i64) y12 a.2.2.2.2.2.2) (Nat.le_trans (@j00 y3 y13 a.2.2.2.2.2) (Nat.le_trans (@j00 y3 y14 a.2.2.2.2) (Nat.le_trans (@j00 .str y15 a.2.2.2) (Nat.le_trans (@j00 (.int .i64) y16 a.2.2) (Nat.le_trans (@j00 (.int .i64) y17 a.2) (Nat.le_trans (@j00 (.int .i64) y18 a) h))))))))))
 have b:j14 y3 a.2.2.2.2.1=wgt y3 a.2.2.2.2.1:=rfl
 have w1:j14 y3 a.2.2.2.2.2.1=wgt y3 a.2.2.2.2.2.1:=rfl
 have w2:j14 y8 a.2.2.2.2.2.2.2.2.1=wgt y8 a.2.2.2.2.2.2.2.2.1:=rfl
 have d:j14 y0 a.2.2.2.2.2.2.2.2.2.1=wgt y0 a.2.2.2.2.2.2.2.2.2.1:=rfl
 have p:j14 y19 a=wgt y3 a.2.2.2.2.1+wgt y3 a.2.2.2.2.2.1+wgt y8 a.2.2.2.2.2.2.2.2.1+wgt y0 a.2.2.2.2.2.2.2.2.2.1:=by first | rfl | (simp only [j05,b,w1,w2,d,j0Q,j0s,j0R,Nat.zero_add,Nat.add_zero];done) | (simp only [j05,b,w1,w2,d,j0Q,j0s,j0R,Nat.zero_add,Nat.add_zero];omega)
 have q:j14 y17 a.2.2=wgt y3 a.2.2.2.2.1+wgt y3 a.2.2.2.2.2.1+wgt y8 a.2.2.2.2.2.2.2.2.1+wgt y0 a.2.2.2.2.2.2.2.2.2.1:=by first | rfl | (simp only [j05,b,w1,w2,d,j0Q,j0s,j0R,Nat.zero_add,Nat.add_zero];done) | (simp only [j05,b,w1,w2,d,j0Q,j0s,j0R,Nat.zero_add,Nat.add_zero];omega)
 unfold j8R
 simp (disch:=first | assumption | omega) only [jrn]
 first | rfl | (simp only [j0y (.int .i64) y18,j05 (.int .i64) y18,j0y (.int .i64) y17,j05 (.int .i64) y17,j7f,jb7,j8U,jb8,b,w1,w2,d,j0Q,j0s,j0R,Int.natCast_add,Int.natCast_zero,Int.cast_ofNat_Int,Nat.zero_add,Nat.add_zero,Int.add_zero,<-Int.add_assoc];done) | (simp only [j0y (.int .i64) y18,j05 (.int .i64) y18,j0y (.int .i64) y17,j05 (.int .i64) y17,j7f,jb7,j8U,jb8,b,w1,w2,d,j0Q,j0s,j0R,Int.natCast_add,Int.natCast_zero,Int.cast_ofNat_Int,Nat.zero_add,Nat.add_zero,Int.add_zero,<-Int.add_assoc];rfl)
end Go.PI.G
