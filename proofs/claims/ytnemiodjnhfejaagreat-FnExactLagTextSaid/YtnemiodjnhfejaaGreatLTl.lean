/-
  Program's code interpreted over typed values; printed texts; plain laws. No conditions.
-/
import Derived.Test.YtnemiodjnhfejaaGreatLTf
import Derived.Test.YtnemiodjnhfejaaGreatLTk
import Derived.Test.YtnemiodjnhfejaaGreatLTj
import Derived.Test.YtnemiodjnhfejaaGreatLTe
import Derived.Test.YtnemiodjnhfejaaGreatLTi
import Derived.Test.YtnemiodjnhfejaaGreatLTh
set_option linter.unusedVariables false
set_option linter.unusedSimpArgs false
namespace Go.PI.G
open Go Go.PI Go.Proofs
theorem jbB {n:Nat} (h:n<=1048576):lim (0+n)=true:=ZaL (by unfold LIM;omega)
theorem jis (t:T) (b:t.2.1.length<=1048576) (d:t.2.2.length<=1048576) (k:T->Res):j4h t k=k t:=by
 unfold j4h
 simp only [Z9Q]
 rw [jbB b,cond_true,jbB d,cond_true]
theorem jcQ {c:List T} (b:msr (.slice yT) c<=1048576):c.length<=1048576/\∀ t∈c,tSm t:=⟨j0C b,λt ht=>j2p (j11 b ht)⟩
theorem j0K {α:Type}:(l:List α)->l.flatMap (λx=>[x])=l
 | []=>rfl
 | x::l=>by rw [List.flatMap_cons,j0K l];rfl
theorem jio (c:List T) (f:msr (.slice yT) c<=1048576) (k:List T->Res):j3T c k=k c:=by
 obtain ⟨h,ht⟩:=jcQ f
 unfold j3T je4
 have:=Z9T c (λi b=>(i,b)) (λx=>[x]) 1048576 [] (step:=j8o c (nI c.length)) (λb=>k b) (λb=>k b) (by unfold LIM;omega) (λi d _=>by
  rw [j0K,List.nil_append,List.length_take];omega) (by simp) (λi b rec d j g=>by
  show j2Y _ _ _ _ _ _=_
  unfold j2Y
  obtain ⟨l,m,p,q,r⟩:=ht _ (List.getElem_mem d)
  dsimp only
  rw [ZaQ d,cond_true,j00 d,cond_true,Zay _ _ _ d,jis _ (by omega) (by omega),ZaL (by unfold LIM;omega),cond_true,j01 (n:=(i:Int)+1) (by omega)]) (λb rec=>by
  show j2Y _ _ _ _ _ _=_
  unfold j2Y
  dsimp only
  rw [ZaP,cond_false])
 refine this.trans ?_
 rw [j0K,List.nil_append]
noncomputable def ja7 (t:T) (a:Bool×List T) (x:T):Bool×List T:=bif !a.1&&tR t x then (true,a.2++[t]++[x]) else (a.1,a.2++[x])
theorem jlT (t:T):(l:List T)->(b:List T)->l.foldl (ja7 t) (true,b)=(true,b++l)
 | [],b=>by simp
 | x::l,b=>by
  rw [List.foldl_cons]
  show l.foldl (ja7 t) (true,b++[x])=_
  rw [jlT t l,List.append_assoc];rfl
theorem jnN (t:T):(l:List T)->(b:List T)->(bif !(l.foldl (ja7 t) (false,b)).1 then (l.foldl (ja7 t) (false,b)).2++[t] else (l.foldl (ja7 t) (false,b)).2)=b++lay tR t l
 | [],b=>rfl
 | x::l,b=>by
  rw [List.foldl_cons]
  unfold lay
  cases d:tR t x
  ·have:ja7 t (false,b) x=(false,b++[x]):=by unfold ja7;rw [d];rfl
   rw [this,jnN t l,List.takeWhile_cons_of_pos (by rw [d];rfl),List.dropWhile_cons_of_pos (by rw [d];rfl)]
   unfold lay
   simp
  ·have:ja7 t (false,b) x=(true,b++[t]++[x]):=by unfold ja7;rw [d];rfl
   rw [this,jlT,List.takeWhile_cons_of_neg (by rw [d];simp),List.dropWhile_cons_of_neg (by rw [d];simp)]
   simp
theorem jqZ (t:T) (a:Bool×List T) (x:T):(ja7 t a x).2.length<=a.2.length+2:=by
 unfold ja7
 cases !a.1&&tR t x<;>simp
theorem jpw (c:List T) (t:T) (j:c.length<=1048576) (k:List T->Res):j8L c t k=k (lay tR t c):=by
 unfold j8L jbk
 have:=Z8i c (λi (a:Bool×List T)=>(a.1,i,a.2)) (ja7 t) (λi a=>a.2.length<=2 * i) (step:=j9c c (nI c.length) t) (λdone b=>bif !done then bif lim (b.length+1) then k (b++[t]) else none else k b)
  (λa=>bif !a.1 then k (a.2++[t]) else k a.2) (false,[]) (by unfold LIM;omega) (by simp) (λi a f h=>by have:=jqZ t a c[i];omega) (λi a rec f h=>by
  show j3V _ _ _ _ _ _ _ _=_
  unfold j3V jbl
  dsimp only
  rw [ZaQ f,cond_true,j00 f,cond_true,Zay _ _ _ f]
  have g:lim (a.2.length+1)=true:=ZaL (by unfold LIM;omega)
  have d:lim ((a.2++[t]).length+1)=true:=ZaL (by unfold LIM;simp;omega)
  unfold ja7 tR
  cases a.1
  ·rw [Bool.not_false,cond_true,Bool.true_and]
   cases sLt t.1 c[i].1
   ·rw [cond_false,cond_false,g,cond_true,j01 (n:=(i:Int)+1) (by omega)]
   ·rw [cond_true,cond_true,g,cond_true,d,cond_true,j01 (n:=(i:Int)+1) (by omega)]
  ·rw [Bool.not_true,cond_false,Bool.false_and,cond_false,g,cond_true,j01 (n:=(i:Int)+1) (by omega)]) (λa rec h=>by
  show j3V _ _ _ _ _ _ _ _=_
  unfold j3V
  dsimp only
  rw [ZaP,cond_false]
  cases a.1
  ·rw [Bool.not_false,cond_true,cond_true,ZaL (by unfold LIM;omega),cond_true]
  ·rfl)
 refine this.trans ?_
 have d:=jnN t c []
 rw [List.nil_append] at d
 rw [<-d]
 cases (c.foldl (ja7 t) (false,[])).1<;>rfl
theorem jfM (l:List C) (n:ByteArray):decide (j02 l n>=0)= !decide (j02 l n<0):=by
 by_cases h:j02 l n<0
 ·rw [decide_eq_true h,decide_eq_false (by omega)];rfl
 ·rw [decide_eq_false h,decide_eq_true (by omega)];rfl
theorem jo5 (t:T) (d:D) (l:t.2.1.length<=1048576) (m:t.2.2.length<=1048576) (b:d.1=3->0<d.2.2.1.length) (k:Int->Res):j4g t d k=k (j0r t d):=by
 unfold j4g j0r
 rw [j62 _ _ (by unfold LIM;omega)]
 cases f:(d.1==3)
 ·rw [cond_false,cond_false]
  cases h:(d.1==4)
  ·rw [cond_false,cond_false]
   cases j:(d.1==5)
   ·rfl
   ·rw [cond_true,cond_true,j62 _ _ (by unfold LIM;omega),jfM]
    cases !decide (j02 t.2.1 d.2.2.2.2.2<0)
    ·cases decide (j02 t.2.1 d.2.2.2.2.1<0)<;>rfl
    ·rfl
  ·rw [cond_true,cond_true]
   cases decide (j02 t.2.1 d.2.2.2.2.1<0)
   ·rw [cond_false,cond_false,jps _ _ (by unfold LIM;omega)]
    show (bif jev t.2.2 d.2.2.2.2.1 then k 8 else k 0)=k (bif jev t.2.2 d.2.2.2.2.1 then 8 else 0)
    cases jev t.2.2 d.2.2.2.2.1<;>rfl
   ·rfl
 ·rw [cond_true,cond_true]
  have b:=b (by simpa using f)
  have g:inb 0 d.2.2.1.length=true:=j00 (i:=0) b
  rw [g,cond_true,j62 _ _ (by unfold LIM;omega),jfM]
  cases !decide (j02 t.2.1 (nth zC d.2.2.1 0).1<0)
  ·rw [cond_false,cond_false]
   have:(nI t.2.1.length==8)=(t.2.1.length==8):=by
    unfold nI
    rw [Bool.eq_iff_iff]
    simp only [beq_iff_eq]
    omega
   rw [this]
   cases (t.2.1.length==8)<;>rfl
  ·rfl
end Go.PI.G
namespace Go.PI.G
open Go Go.PI Go.Proofs
noncomputable def ja8 {α:Type} (R:α->α->Bool) (t:α) (a:Bool×List α) (x:α):Bool×List α:=bif !a.1&&R t x then (true,a.2++[t]++[x]) else (a.1,a.2++[x])
theorem jlU {α:Type} (R:α->α->Bool) (t:α):(l:List α)->(b:List α)->l.foldl (ja8 R t) (true,b)=(true,b++l)
 | [],b=>by simp
 | x::l,b=>by
  rw [List.foldl_cons]
  show l.foldl (ja8 R t) (true,b++[x])=_
  rw [jlU R t l,List.append_assoc];rfl
theorem jnO {α:Type} (R:α->α->Bool) (t:α):(l:List α)->(b:List α)->(bif !(l.foldl (ja8 R t) (false,b)).1 then (l.foldl (ja8 R t) (false,b)).2++[t] else (l.foldl (ja8 R t) (false,b)).2)=b++lay R t l
 | [],b=>rfl
 | x::l,b=>by
  rw [List.foldl_cons]
  unfold lay
  cases d:R t x
  ·have:ja8 R t (false,b) x=(false,b++[x]):=by unfold ja8;rw [d];rfl
   rw [this,jnO R t l,List.takeWhile_cons_of_pos (by rw [d];rfl),List.dropWhile_cons_of_pos (by rw [d];rfl)]
   unfold lay
   simp
  ·have:ja8 R t (false,b) x=(true,b++[t]++[x]):=by unfold ja8;rw [d];rfl
   rw [this,jlU,List.takeWhile_cons_of_neg (by rw [d];simp),List.dropWhile_cons_of_neg (by rw [d];simp)]
   simp
theorem jr0 {α:Type} (R:α->α->Bool) (t:α) (a:Bool×List α) (x:α):(ja8 R t a x).2.length<=a.2.length+2:=by
 unfold ja8
 cases !a.1&&R t x<;>simp
theorem jlq {t:T} (ht:j03 t=true) {r:List V} (h:r.length=t.2.1.length):lim (0+r.length)=true:=by
 have:=((j6h t).1 ht).2.2.1
 exact jbB (by omega)
theorem jkw (t:T) (h:msr yT t<=1048576) (ht:j03 t=true) (l:List (List V)) (r:List V) (z:∀ x∈l,x.length=t.2.1.length) (A:l.length<=60) (n:r.length=t.2.1.length) (k:List (List V)->Res):j3f t l r k=k (jfW t l r):=by
 have p:∀ x:List V,(j05 t x).length<=LIM:=λx=>by
  rw [j91]
  have:=(j2p h).2.2.1
  unfold LIM;omega
 unfold j3f jbm j0w
 have:=Z8i l (λi (a:Bool×List (List V))=>(a.2,a.1,i)) (ja8 (kR t) r) (λi a=>a.2.length<=2 * i) (step:=j3Y l (nI l.length) t r) (λb done=>bif !done then bif lim (0+r.length) then bif lim (b.length+1) then k (b++[r]) else none else none else k b)
  (λa=>bif !a.1 then k (a.2++[r]) else k a.2) (false,[]) (by unfold LIM;omega) (by simp) (λi a d p=>by have:=jr0 (kR t) r a l[i];omega) (λi a rec d y=>by
  show j26 _ _ _ _ _ _ _ _ _=_
  unfold j26 j5X j0w
  dsimp only
  have q:=z _ (List.getElem_mem d)
  rw [ZaQ d,cond_true,j00 d,cond_true,Zay _ _ _ d]
  have g:lim (a.2.length+1)=true:=ZaL (by unfold LIM;omega)
  have f:lim ((a.2++[r]).length+1)=true:=ZaL (by unfold LIM;simp;omega)
  have j:lim (0+(l[i]).length)=true:=jlq ht q
  have w:lim (0+r.length)=true:=jlq ht n
  have m:Z9K ((i:Int)+1)=(i:Int)+1:=j01 (by omega)
  unfold ja8
  cases a.1
  ·simp only [Bool.not_false,cond_true,Bool.true_and]
   rw [j6d t h ht r n,j6d t h ht _ q,jfv _ _ (p _)]
   unfold kR
   cases klt (j05 t r) (j05 t l[i])
   ·simp only [cond_false,cond_true,j,g,m]
   ·simp only [cond_true,w,g,j,f,m]
  ·simp only [Bool.not_true,cond_false,Bool.false_and,j,g,m,cond_true]) (λa rec y=>by
  show j26 _ _ _ _ _ _ _ _ _=_
  unfold j26
  dsimp only
  rw [ZaP,cond_false]
  cases a.1
  ·simp only [Bool.not_false,cond_true,jlq ht n]
   rw [ZaL (by unfold LIM;omega),cond_true]
  ·rfl)
 refine this.trans ?_
 have f:=jnO (kR t) r l []
 rw [List.nil_append] at f
 unfold jfW
 rw [<-f]
 cases (l.foldl (ja8 (kR t) r) (false,[])).1<;>rfl
theorem jjM {α:Type} (l:List α) (a i:Nat) (f:i<l.length):(l.take (i+1)).eraseIdx a=bif i==a then (l.take i).eraseIdx a else (l.take i).eraseIdx a++[l[i]]:=by
 have g:(l.take i).length=i:=by rw [List.length_take];omega
 rw [List.take_succ_eq_append_getElem f]
 by_cases h:a<i
 ·rw [List.eraseIdx_append_of_lt_length (by omega),show (i==a)=false from beq_eq_false_iff_ne.2 (by omega),cond_false]
 ·rw [List.eraseIdx_append_of_length_le (by omega),g]
  by_cases e:i=a
  ·subst e
   have b:[l[i]].eraseIdx (i-i)=[]:=by rw [Nat.sub_self];rfl
   have d:(l.take i).eraseIdx i=l.take i:=List.eraseIdx_of_length_le (by omega)
   rw [show (i==i)=true from beq_self_eq_true i,cond_true,b,d,List.append_nil]
  ·have b:[l[i]].eraseIdx (a-i)=[l[i]]:=List.eraseIdx_of_length_le (by simp only [List.length_cons,List.length_nil];omega)
   have d:(l.take i).eraseIdx a=l.take i:=List.eraseIdx_of_length_le (by omega)
   rw [show (i==a)=false from beq_eq_false_iff_ne.2 e,cond_false,b,d]
theorem jfw (l:List (List V)) (a:Nat) (j:l.length<=60) (h:∀ x∈l,x.length<=1048576) (k:List (List V)->Res):j1z l (a:Int) k=k (l.eraseIdx a):=by
 unfold j1z jbJ
 have:=Z3u (step:=j6g (a:Int) l (nI l.length)) (λi=>((l.take i).eraseIdx a,(i:Int))) l.length (λd=>k d) (k (l.eraseIdx a)) (λi b rec=> ?_) (λrec=> ?_) Z1c (Z2b (by omega))
 ·refine Eq.trans ?_ this
  rw [List.take_zero,List.eraseIdx_nil]
  rfl
 ·show j1A _ _ _ _ _ _ _=_
  unfold j1A j0w
  dsimp only
  have g:((l.take i).eraseIdx a).length<=60:=Nat.le_trans (List.eraseIdx_sublist _ _).length_le (by rw [List.length_take];omega)
  rw [ZaQ b,cond_true,j00 b,cond_true,Zay _ _ _ b,j01 (n:=(i:Int)+1) (by omega),jjM l a i b]
  have f:((i:Int) != (a:Int))= !(i==a):=by
   rw [Bool.eq_iff_iff]
   simp only [bne_iff_ne,Bool.not_eq_true',beq_eq_false_iff_ne,ne_eq,Int.natCast_inj]
  rw [f]
  cases (i==a)
  ·rw [Bool.not_false,cond_true,jbB (h _ (List.getElem_mem b)),cond_true,ZaL (by unfold LIM;omega),cond_true,cond_false]
   rfl
  ·rw [Bool.not_true,cond_false,cond_true]
   rfl
 ·show j1A _ _ _ _ _ _ _=_
  unfold j1A
  dsimp only
  rw [ZaP,cond_false,List.take_length]
end Go.PI.G
namespace Go.PI.G
open Go Go.PI Go.Proofs
theorem jnG {t:T} (ht:j03 t=true) {n:ByteArray} (f:n∈t.2.2):∃ (j:Nat) (b:j<t.2.1.length),j02 t.2.1 n=(j:Int):=by
 have g:=(((j4x _ _ _).1 ((j6h t).1 ht).2.2.2.2.2).1 n f).1
 rcases j15 t.2.1 n with ⟨d,_⟩ | ⟨j,b,d,_⟩
 ·omega
 ·exact ⟨j,b,d⟩
theorem jrG {t:T} (ht:j03 t=true) {c:C} (b:c∈t.2.1):j0U c=true:=((j60 _).1 ((j6h t).1 ht).2.2.2.2.1).1 c b
theorem jhQ (t:T) (h:msr yT t<=1048576) (b:List V) (k:Bool->Res):j4E t b k=k (j9Y t b):=by
 unfold j4E j9Y
 obtain ⟨m,p,q,r,w⟩:=j2p h
 rw [jcw t h]
 cases ht:j03 t
 ·rfl
 rw [Bool.not_true,cond_false,Bool.true_and]
 by_cases f:b.length=t.2.2.length
 rotate_left
 ·rw [jjV f,cond_true,decide_eq_false f,Bool.false_and]
 rw [jjU f,cond_false,decide_eq_true f,Bool.true_and]
 unfold jc4
 have:=Z9P t.2.2 (λi=>i) (λi n=> !j3s (nth zC t.2.1 (j02 t.2.1 n)) (nth zV b (i:Int))) (step:=j4F b t.2.2 (nI t.2.2.length) t) ((λ(_:Unit)=>k true),(λ(_:Unit)=>k false)) (k true) (k false) (by unfold LIM;omega) (λi rec d=>by
  obtain ⟨j,g,l⟩:=jnG ht (List.getElem_mem d)
  show j2s _ _ _ _ _ _ _ _=_
  unfold j2s
  rw [ZaQ d,cond_true,j00 d,cond_true,j00 (f ▸ d),cond_true,Zay _ _ _ d,j62 _ _ (by unfold LIM;omega),l,j00 g,cond_true,Zay _ _ _ g,jiq _ (jrG ht (List.getElem_mem g)),j01 (n:=(i:Int)+1) (by omega)]) (λrec=>by
  show j2s _ _ _ _ _ _ _ _=_
  unfold j2s
  rw [ZaP,cond_false])
 refine this.trans ?_
 cases Z71 (λi n=> !j3s (nth zC t.2.1 (j02 t.2.1 n)) (nth zV b (i:Int))) 0 t.2.2<;>rfl
theorem jg3 (t:T) (l:List (List V)) (b:List V):decide (j06 t l b>=0)= !decide (j06 t l b<0):=by
 by_cases h:j06 t l b<0
 ·rw [decide_eq_true h,decide_eq_false (by omega)];rfl
 ·rw [decide_eq_false h,decide_eq_true (by omega)];rfl
theorem joV (n:Nat) (m:Nat):(nI n==(m:Int))=(n==m):=by
 unfold nI
 rw [Bool.eq_iff_iff]
 simp only [beq_iff_eq]
 omega
theorem jmY (t:T) (h:msr yT t<=1048576) (l:List (List V)) (r:List V) (k:List (List V)->Int->Res):j6N t l r k=k (j5v t l r).1 (j5v t l r).2:=by
 unfold j6N j5v
 rw [j6K t h]
 cases b:j08 t l
 ·rfl
 obtain ⟨ht,g,i⟩:=j0i b
 rw [Bool.not_true,cond_false,cond_false,jg8 t h,ht,Bool.true_and]
 cases d:j0n t.2.1 r
 ·rfl
 rw [Bool.not_true,cond_false,cond_false,j6d t h ht r (j0t d),jai t h l b,jg3]
 cases !decide (j06 t l (j05 t r)<0)
 rotate_left
 ·rfl
 rw [cond_false,cond_false,show (nI l.length==(60:Int))=(l.length==60) from joV _ 60]
 cases (l.length==60)
 ·rw [cond_false,cond_false,jkw t h ht l r (λx f=>j0t (i x f)) g (j0t d)]
 ·rfl
theorem jfj {t:T} (h:msr yT t<=1048576) {l:List (List V)} (b:j08 t l=true):∀ x∈l,x.length<=1048576:=λx d=>by
 have f:=j0t ((j0i b).2.2 x d)
 have g:=(j2p h).2.1
 omega
theorem jdX {t:T} {l:List (List V)} {b:List V} (h:¬ j06 t l b<0):∃ i:Nat,i<l.length/\j06 t l b=(i:Int):=by
 have:=jnP t l b
 exact ⟨(j06 t l b).toNat,by omega,by omega⟩
theorem jmZ (t:T) (h:msr yT t<=1048576) (l:List (List V)) (b r:List V) (k:List (List V)->Int->Res):j6O t l b r k=k (j5w t l b r).1 (j5w t l b r).2:=by
 unfold j6O j5w
 rw [j6K t h]
 cases g:j08 t l
 ·rfl
 obtain ⟨ht,w,z⟩:=j0i g
 rw [Bool.not_true,cond_false,cond_false,jg8 t h,ht,Bool.true_and]
 cases j:j0n t.2.1 r
 ·rfl
 rw [Bool.not_true,cond_false,cond_false,jai t h l g,jhQ t h]
 cases j9Y t b
 ·rfl
 rw [Bool.not_true,cond_false,Bool.false_or]
 by_cases d:j06 t l b<0
 ·rw [decide_eq_true d];rfl
 rw [decide_eq_false d,cond_false,cond_false]
 obtain ⟨i,y,m⟩:=jdX d
 have f:=jdK g i
 obtain ⟨_,p,q⟩:=j0i f
 rw [m,Int.toNat_natCast,jfw l i w (jfj h g),j6d t h ht r (j0t j),jai t h _ f,jg3]
 cases !decide (j06 t (l.eraseIdx i) (j05 t r)<0)
 ·rw [cond_false,cond_false,jkw t h ht _ r (λx n=>j0t (q x n)) p (j0t j)]
 ·rfl
theorem jmX (t:T) (h:msr yT t<=1048576) (l:List (List V)) (b:List V) (k:List (List V)->Int->Res):j6M t l b k=k (j5u t l b).1 (j5u t l b).2:=by
 unfold j6M j5u
 rw [j6K t h]
 cases f:j08 t l
 ·rfl
 obtain ⟨ht,j,n⟩:=j0i f
 rw [Bool.not_true,cond_false,cond_false,jai t h l f,jhQ t h]
 cases j9Y t b
 ·rfl
 rw [Bool.not_true,cond_false,Bool.false_or]
 by_cases d:j06 t l b<0
 ·rw [decide_eq_true d];rfl
 rw [decide_eq_false d,cond_false,cond_false]
 obtain ⟨i,m,g⟩:=jdX d
 rw [g,Int.toNat_natCast,jfw l i j (jfj h f)]
end Go.PI.G
namespace Go.PI.G
open Go Go.PI
def goL {α A E:Type} (f:A->α->Except E A):List α->A->Except E A
 | [],a=> .ok a
 | x::xs,a=>match f a x with
  | .ok b=>goL f xs b
  | .error e=> .error e
def jrX (x:Int):Bool:=decide (48<=x/\x<=57)
def dgF (n x:Int):Except Unit Int:=bif jrX x then .ok (n * 10+(x-48)) else .error ()
def rdN (l:List Int):Option Int:=bif l.headD 0==45 then (match goL dgF l.tail 0 with | .ok n=>some (-n) | .error _=>none) else match goL dgF l 0 with | .ok n=>some n | .error _=>none
theorem jr6 {α:Type} (l:List α) (i:Nat):sub l (i:Int) (nI l.length)=l.drop i:=by
 unfold sub nI
 rw [show ((l.length:Int)).toNat=l.length by omega,show ((i:Int)).toNat=i by omega,List.take_length]
theorem jp0 {α:Type} (l:List α) (i j:Nat):sub l (i:Int) (j:Int)=(l.take j).drop i:=by
 unfold sub
 rw [show ((j:Int)).toNat=j by omega,show ((i:Int)).toNat=i by omega]
theorem j8Y {i j n:Nat} (h:i<=j/\j<=n):Z8e (i:Int) (j:Int) n=true:=decide_eq_true (by omega)
end Go.PI.G
namespace Go.PI.G
open Go Go.PI Go.Proofs
theorem jfc {α:Type} (f:α->α) (l:List α) (i:Nat):((l.take i).map f++l.drop i).length=l.length:=by
 rw [List.length_append,List.length_map,List.length_take,List.length_drop];omega
theorem jnp {α:Type} (f:α->α) (z:α) (l:List α) (i:Nat) (b:i<l.length):nth z ((l.take i).map f++l.drop i) (i:Int)=l[i]:=by
 rw [Zay _ _ _ (by rw [jfc];exact b),List.getElem_append_right (by rw [List.length_map,List.length_take];omega),List.getElem_drop]
 congr 1
 rw [List.length_map,List.length_take];omega
theorem jnq {α:Type} (f:α->α) (l:List α) (i:Nat) (b:i<l.length):((l.take i).map f++l.drop i).set i (f l[i])=(l.take (i+1)).map f++l.drop (i+1):=by
 rw [List.set_append_right _ _ (by rw [List.length_map,List.length_take];omega),List.length_map,List.length_take,Nat.min_eq_left (by omega),Nat.sub_self,List.drop_eq_getElem_cons b,List.set_cons_zero,List.take_succ_eq_append_getElem b,List.map_append,List.append_assoc]
 rfl
theorem jrA {α:Type} (f:α->α) (l:List α) (i:Nat) (b:i<l.length) (h:f l[i]=l[i]):(l.take (i+1)).map f++l.drop (i+1)=(l.take i).map f++l.drop i:=by
 rw [List.take_succ_eq_append_getElem b,List.map_append,List.append_assoc,List.drop_eq_getElem_cons b]
 show (l.take i).map f++([f l[i]]++l.drop (i+1))=_
 rw [h]
 rfl
noncomputable def j8X (d:D) (c:C):List C:=bif (d.1==4)&&sEq c.1 d.2.2.2.2.1 then [] else [bif (d.1==5)&&sEq c.1 d.2.2.2.2.1 then (d.2.2.2.2.2,c.2) else c]
theorem jqy (d:D) (l:List C):(l.flatMap (j8X d)).length<=l.length:=by
 induction l with
 | nil=>exact Nat.le_refl _
 | cons c l b=>
  rw [List.flatMap_cons,List.length_append,List.length_cons]
  have:(j8X d c).length<=1:=by
   unfold j8X
   cases (d.1==4)&&sEq c.1 d.2.2.2.2.1<;>simp
  omega
theorem joC (d:D) (t:T) (l:t.2.1.length<=1048576) (k:T->Res):j52 t.2.1 (nI t.2.1.length) d Z1c 0 (t.1,[],t.2.2) k=k (t.1,t.2.1.flatMap (j8X d),t.2.2):=by
 unfold j52
 have:=Z9T t.2.1 (λi b=>(i,(t.1,b,t.2.2))) (j8X d) 1048576 [] (step:=j1Z t.2.1 (nI t.2.1.length) d) k (λb=>k (t.1,b,t.2.2)) (by unfold LIM;omega) (λi f _=>by
  rw [List.nil_append]
  exact Nat.le_trans (jqy _ _) (by rw [List.length_take];omega)) (by simp) (λi b rec f p m=>by
  show j13 _ _ _ _ _ _ _=_
  unfold j13 j55 j56
  dsimp only
  have g:lim (b.length+1)=true:=ZaL (by unfold LIM;omega)
  rw [ZaQ f,cond_true,j00 f,cond_true,Zay _ _ _ f,j01 (n:=(i:Int)+1) (by omega)]
  unfold j8X
  cases j:(d.1==4)
  ·rw [cond_false,Bool.false_and,cond_false]
   cases h:(d.1==5)
   ·rw [cond_false,g,cond_true,Bool.false_and,cond_false]
   ·rw [cond_true,Bool.true_and]
    cases sEq t.2.1[i].1 d.2.2.2.2.1
    ·rw [cond_false,g,cond_true,cond_false]
    ·rw [cond_true,g,cond_true,cond_true]
  ·rw [cond_true,Bool.true_and]
   cases sEq t.2.1[i].1 d.2.2.2.2.1
   ·rw [cond_false,cond_false]
    have h:(d.1==5)=false:=by
     have:d.1=4:=by simpa using j
     rw [this];rfl
    rw [h]
    simp only [cond_false,cond_true,g,Bool.false_and]
   ·rw [cond_true,cond_true,List.append_nil]) (λb rec=>by
  show j13 _ _ _ _ _ _ _=_
  unfold j13
  dsimp only
  rw [ZaP,cond_false])
 refine this.trans ?_
 rw [List.nil_append]
theorem joE (d:D) (a:ByteArray) (cs:List C) (ks:List ByteArray) (j:ks.length<=1048576) (k:T->Res):j53 (nI ks.length) d Z1c 0 (a,cs,ks) k=k (a,cs,bif d.1==5 then ks.map (ren d.2.2.2.2.1 d.2.2.2.2.2) else ks):=by
 unfold j53
 cases g:(d.1==5)
 ·refine Z3u (λi=>((i:Int),(a,cs,ks))) ks.length k (k (a,cs,ks)) (λi b rec=> ?_) (λrec=> ?_) Z1c (Z2b (by omega))
  ·show j0k _ _ _ _ _ _=_
   unfold j0k
   rw [ZaQ b,cond_true,g,cond_false,j01 (n:=(i:Int)+1) (by omega)]
   rfl
  ·show j0k _ _ _ _ _ _=_
   unfold j0k
   rw [ZaP,cond_false]
 ·have:=Z3u (step:=j4a (nI ks.length) d) (λi=>((i:Int),(a,cs,(ks.take i).map (ren d.2.2.2.2.1 d.2.2.2.2.2)++ks.drop i))) ks.length k (k (a,cs,ks.map (ren d.2.2.2.2.1 d.2.2.2.2.2))) (λi b rec=> ?_) (λrec=> ?_) Z1c (Z2b (by omega))
  ·refine Eq.trans ?_ this
   simp
  ·show j0k _ _ _ _ _ _=_
   unfold j0k
   dsimp only
   have f:inb (i:Int) ((ks.take i).map (ren d.2.2.2.2.1 d.2.2.2.2.2)++ks.drop i).length=true:=j00 (by rw [jfc];exact b)
   rw [ZaQ b,cond_true,g,cond_true,f,cond_true,jnp _ _ _ _ b,j01 (n:=(i:Int)+1) (by omega)]
   cases h:sEq ks[i] d.2.2.2.2.1
   ·rw [cond_false,jrA _ _ _ b (by unfold ren;rw [h];rfl)]
    rfl
   ·rw [cond_true,cond_true,ZaF]
    have:ren d.2.2.2.2.1 d.2.2.2.2.2 ks[i]=d.2.2.2.2.2:=by unfold ren;rw [h];rfl
    rw [<-jnq _ _ _ b,this]
    rfl
  ·show j0k _ _ _ _ _ _=_
   unfold j0k
   dsimp only
   rw [ZaP,cond_false,List.take_length,List.drop_length,List.append_nil]
theorem jnr (n:ByteArray) (l:List C):(l.flatMap λc=>bif sEq c.1 n then [] else [c])=l.filter λc=> !sEq c.1 n:=by
 induction l with
 | nil=>rfl
 | cons c l b=>
  rw [List.flatMap_cons,b]
  cases h:sEq c.1 n
  ·rw [List.filter_cons_of_pos (by rw [h];rfl)];rfl
  ·rw [List.filter_cons_of_neg (by rw [h];simp)];rfl
theorem jdL {α β:Type} (f:α->β) (l:List α):l.flatMap (λx=>[f x])=l.map f:=by
 induction l with
 | nil=>rfl
 | cons c l b=>rw [List.flatMap_cons,b];rfl
theorem jqx (d:D) (l:List C):(d.1=3->l.flatMap (j8X d)=l)/\(d.1=4->l.flatMap (j8X d)=l.filter λc=> !sEq c.1 d.2.2.2.2.1)/\(d.1=5->l.flatMap (j8X d)=l.map (j8i d.2.2.2.2.1 d.2.2.2.2.2)):=by
 refine ⟨λh=> ?_,λh=> ?_,λh=> ?_⟩
 ·have:j8X d=λc=>[c]:=by funext c;unfold j8X;rw [h];rfl
  rw [this,j0K]
 ·have:j8X d=λc=>bif sEq c.1 d.2.2.2.2.1 then [] else [c]:=by funext c;unfold j8X;rw [h];rfl
  rw [this,jnr]
 ·have:j8X d=λc=>[j8i d.2.2.2.2.1 d.2.2.2.2.2 c]:=by
   funext c
   unfold j8X j8i ren
   rw [h]
   cases sEq c.1 d.2.2.2.2.1<;>rfl
  rw [this,jdL]
theorem jmU (t:T) (d:D) (g:t.2.1.length<=1048576) (f:t.2.2.length<=1048576) (b:d.1=3->0<d.2.2.1.length) (j:d.1=3\/d.1=4\/d.1=5) (k:T->Res):j3n t d k=k (j9N t d):=by
 obtain ⟨m,n,p⟩:=jqx d t.2.1
 unfold j3n j54
 simp only [Z9Q]
 rw [jbB f,cond_true,joC _ _ g]
 dsimp only
 rw [joE _ _ _ _ f]
 dsimp only
 rcases j with h | h | h
 ·have b:=b h
  have l:inb 0 d.2.2.1.length=true:=j00 (i:=0) b
  rw [m h,show (d.1==3)=true by rw [h];rfl,show (d.1==5)=false by rw [h];rfl,cond_true,l,cond_true,ZaL (by unfold LIM;omega),cond_true,cond_false]
  unfold j9N jiD
  rw [h]
  rfl
 ·rw [n h,show (d.1==3)=false by rw [h];rfl,show (d.1==5)=false by rw [h];rfl,cond_false,cond_false]
  unfold j9N jg1
  rw [h]
  rfl
 ·rw [p h,show (d.1==3)=false by rw [h];rfl,show (d.1==5)=true by rw [h];rfl,cond_false,cond_true]
  unfold j9N jdV
  rw [h]
  rfl
theorem jfa {d:D} (b:j0V d=true):(d.1=1\/d.1=2\/d.1=3\/d.1=4\/d.1=5)/\(d.1=3->0<d.2.2.1.length):=by
 obtain ⟨_,⟨t,cs,ks,rfl,_⟩ | ⟨t,rfl⟩ | ⟨t,c,rfl,_⟩ | ⟨t,n,rfl,_⟩ | ⟨t,n,m,rfl,_⟩⟩:=j7P b<;>simp
theorem job (c:List T) (n:ByteArray):decide (j04 c n>=0)= !decide (j04 c n<0):=by
 by_cases h:j04 c n<0
 ·rw [decide_eq_true h,decide_eq_false (by omega)];rfl
 ·rw [decide_eq_false h,decide_eq_true (by omega)];rfl
theorem jl8 (n:Nat) (m:Nat):(nI n==(m:Int))=(n==m):=by
 unfold nI
 rw [Bool.eq_iff_iff]
 simp only [beq_iff_eq]
 omega
theorem jr7 {α:Type} (l:List α) (i:Nat):sub l 0 (i:Int)=l.take i:=by
 have:=jp0 l 0 i
 simpa using this
theorem jip (c:List T) (d:D) (j:msr (.slice yT) c<=1048576) (b:dSm d) (k:List T->Int->Res):j1Q c d k=k (jeu c d).1 (jeu c d).2:=by
 obtain ⟨y,m⟩:=jcQ j
 unfold j1Q jeu
 rw [jkt c j]
 cases w:j21 c
 ·rfl
 rw [Bool.not_true,cond_false,Bool.false_or,jg6 d b]
 cases f:j0V d
 ·rfl
 rw [Bool.not_true,cond_false,cond_false,jdf _ _ (by unfold LIM;omega),jio c j]
 obtain ⟨H,p⟩:=jfa f
 unfold j0b j0W
 cases q:(d.1==1)
 ·rw [cond_false,cond_false,cond_false]
  rcases j0x c d.2.1 with ⟨l,_⟩ | ⟨i,g,l,_⟩
  ·rw [l];rfl
  ·have h:decide (j04 c d.2.1<0)=false:=decide_eq_false (by omega)
   rw [h,cond_false,cond_false,l,j00 g,cond_true,Zay _ _ _ g]
   obtain ⟨I,J,K,L,M⟩:=m _ (List.getElem_mem g)
   rw [jo5 _ _ (by omega) (by omega) p]
   cases G:(j0r c[i] d != 0)
   ·rw [cond_false,cond_false]
    cases r:(d.1==2)
    ·rw [cond_false,cond_false,cond_true,jmU _ _ (by omega) (by omega) p (by
      have E:d.1≠1:=by simpa using q
      have F:d.1≠2:=by simpa using r
      omega),cond_true,ZaF,Int.toNat_natCast]
    ·rw [cond_true,cond_true,Int.toNat_natCast]
     unfold j6f
     have z:(sub c 0 (i:Int))=c.take i:=jr7 c i
     have A:(sub c (Z9K ((i:Int)+1)) (nI c.length))=c.drop (i+1):=by
      rw [j01 (n:=(i:Int)+1) (by omega)]
      exact jr6 c (i+1)
     have B:Z8e 0 (i:Int) c.length=true:=j8Y (i:=0) ⟨Nat.zero_le _,by omega⟩
     have C:Z8e (Z9K ((i:Int)+1)) (nI c.length) c.length=true:=by
      rw [j01 (n:=(i:Int)+1) (by omega)]
      exact j8Y (i:=i+1) ⟨by omega,Nat.le_refl _⟩
     rw [B,cond_true,C,cond_true,z,A,ZaL (by unfold LIM;simp;omega),cond_true,ZaL (by unfold LIM;simp;omega),cond_true,List.eraseIdx_eq_take_drop_succ]
   ·rfl
 ·rw [cond_true,cond_true,cond_true,job]
  cases decide (j04 c d.2.1<0)
  ·rfl
  ·rw [Bool.not_true,cond_false,cond_false,show (nI c.length==(6:Int))=(c.length==6) from jl8 _ 6]
   cases (c.length==6)
   ·rw [cond_false,cond_false]
    unfold j3P
    rw [jis _ b.2.1 b.2.2.1,jpw _ _ y]
    rfl
   ·rfl
end Go.PI.G
namespace Go.PI.G
open Go Go.PI Go.Proofs
theorem jb5 {t:T} (ht:j03 t=true):msr yT t<=400:=by
 obtain ⟨a,b,c⟩:=t
 obtain ⟨d,f,g⟩:=jqT ht
 have:msr yT (a,b,c)=a.size+(msr (.slice yC) b+msr (.slice .str) c):=rfl
 omega
theorem jkW {t:T} (ht:j03 t=true):j21 [t]=true/\msr (.slice yT) [t]<=1048576:=by
 refine ⟨(j0d _).2 ⟨by simp,by simpa using ht,by simp⟩,?_⟩
 have:=jb5 ht
 rw [jlP]
 simp
 omega
theorem jqA {t:T} (ht:j03 t=true) {d:D} (j:j0V d=true) (k:d.2.1=t.1) (f:d.1≠1):(jeu [t] d).2=j0r t d:=by
 have b:j04 [t] d.2.1=(0:Int):=by
  have:=je7 (c:=[t]) (by simp) (i:=0) (by simp)
  rw [k]
  exact this
 have g:j0b [t] d=j0r t d:=by
  unfold j0b
  rw [show (d.1==1)=false by simpa using f,cond_false,b]
  rfl
 unfold jeu
 rw [(jkW ht).1,j,g]
 show (bif (j0r t d != 0) then (([]:List T),j0r t d) else _).2=_
 cases h:(j0r t d != 0)
 ·have:j0r t d=0:=by simpa using h
  rw [this];rfl
 ·rfl
noncomputable def jhE (d:D) (j:Nat) (x:List V):List V:=bif d.1==3 then x++[(nth zC d.2.2.1 0).2.2.2.2] else bif d.1==4 then x.eraseIdx j else x
theorem jqz (t:T) (d:D) (l:List (List V)):jet t d l=l.map (jhE d (j02 t.2.1 d.2.2.2.2.1).toNat):=by
 unfold jet jhE
 cases (d.1==3)
 ·cases (d.1==4)
  ·simp
  ·rfl
 ·rfl
theorem jo2 (d:D) (b:Int) (x:List V) (r:x.length<=1048576) (j:d.1=4->0<=b) (k:List V->Res):j77 b x (nI x.length) d Z1c 0 [] k=k (bif d.1==4 then x.eraseIdx b.toNat else x):=by
 unfold j77
 cases h:(d.1==4)
 ·have:=Z9T x (λi g=>(i,g)) (λv=>[v]) 1048576 [] (step:=j2R b x (nI x.length) d) k k (by unfold LIM;omega) (λi f _=>by
   rw [j0K,List.nil_append,List.length_take];omega) (by simp) (λi g rec f q p=>by
   show j0z _ _ _ _ _ _ _ _=_
   unfold j0z
   dsimp only
   rw [ZaQ f,cond_true,j00 f,cond_true,show (d.1 != 4)=true by rw [bne,h];rfl,cond_true,Zay _ _ _ f,ZaL (by unfold LIM;omega),cond_true,j01 (n:=(i:Int)+1) (by omega)]) (λg rec=>by
   show j0z _ _ _ _ _ _ _ _=_
   unfold j0z
   rw [ZaP,cond_false])
  refine this.trans ?_
  rw [j0K,List.nil_append]
  rfl
 ·have j:=j (by simpa using h)
  obtain ⟨a,rfl⟩:∃ a:Nat,b=(a:Int):=⟨b.toNat,by omega⟩
  have:=Z3u (step:=j2R (a:Int) x (nI x.length) d) (λi=>((i:Int),(x.take i).eraseIdx a)) x.length k (k (x.eraseIdx a)) (λi f rec=> ?_) (λrec=> ?_) Z1c (Z2b (by omega))
  ·refine Eq.trans ?_ this
   rw [List.take_zero,List.eraseIdx_nil]
   rfl
  ·show j0z _ _ _ _ _ _ _ _=_
   unfold j0z
   dsimp only
   have m:((x.take i).eraseIdx a).length<=1048576:=Nat.le_trans (List.eraseIdx_sublist _ _).length_le (by rw [List.length_take];omega)
   rw [ZaQ f,cond_true,j00 f,cond_true,show (d.1 != 4)=false by rw [bne,h];rfl,cond_false,Zay _ _ _ f,j01 (n:=(i:Int)+1) (by omega),jjM x a i f]
   have l:((i:Int) != (a:Int))= !(i==a):=by
    rw [Bool.eq_iff_iff]
    simp only [bne_iff_ne,Bool.not_eq_true',beq_eq_false_iff_ne,ne_eq,Int.natCast_inj]
   rw [l]
   cases (i==a)
   ·rw [Bool.not_false,cond_true,ZaL (by unfold LIM;omega),cond_true,cond_false]
    rfl
   ·rw [Bool.not_true,cond_false,cond_true]
    rfl
  ·show j0z _ _ _ _ _ _ _ _=_
   unfold j0z
   dsimp only
   rw [ZaP,cond_false,List.take_length]
theorem jly (t:T) (h:msr yT t<=1048576) (l:List (List V)) (F:j08 t l=true) (d:D) (g:dSm d) (w:j0V d=true) (G:d.2.1=t.1) (E:d.1≠1) (k:List (List V)->Int->Res) :
  j5R t l d k=k (bif j0r t d != 0 then [] else bif d.1==2 then [] else jet t d l) (j0r t d):=by
 obtain ⟨ht,X,P⟩:=j0i F
 obtain ⟨H,J⟩:=jfa w
 unfold j5R j4I
 rw [j6K t h,F,Bool.not_true,cond_false,jg6 d g,w,Bool.not_true,cond_false]
 have B:sNe d.2.1 t.1=false:=by unfold sNe;rw [G];simp
 rw [B,cond_false,show (d.1==1)=false by simpa using E]
 dsimp only
 rw [cond_false,jip _ _ (jkW ht).2 g,jqA ht w G E]
 cases K:(j0r t d != 0)
 rotate_left
 ·rfl
 have f:j0r t d=0:=by simpa using K
 have M:=(j2p h).2.1
 rw [cond_false,cond_false,j62 _ _ (by unfold LIM;omega),f]
 have L:d.1=4->0<=j02 t.2.1 d.2.2.2.2.1:=λr=>by
  by_cases A:j02 t.2.1 d.2.2.2.2.1<0
  ·unfold j0r at f
   rw [r] at f
   simp only [show ((4:Int)==3)=false from rfl,show ((4:Int)==4)=true from rfl,cond_false,cond_true,decide_eq_true A] at f
   cases f
  ·omega
 unfold jao
 have:=Z9T l (λi b=>(b,i)) (λx=>bif d.1 != 2 then [jhE d (j02 t.2.1 d.2.2.2.2.1).toNat x] else []) 60 [] (step:=j2S (j02 t.2.1 d.2.2.2.2.1) l (nI l.length) d) (λb=>k b 0) (λb=>k b 0) (by unfold LIM;omega) (λi j _=> ?_) (by simp) (λi b rec j R Q=>by
  have U:l[i].length=t.2.1.length:=j0t (P _ (List.getElem_mem j))
  show j1L _ _ _ _ _ _ _ _=_
  unfold j1L j78
  dsimp only
  rw [ZaQ j,cond_true,j00 j,cond_true,Zay _ _ _ j,jo2 d _ _ (by omega) L,j01 (n:=(i:Int)+1) (by omega)]
  have p:lim (b.length+1)=true:=ZaL (by unfold LIM;omega)
  cases q:(d.1==3)
  ·rw [cond_false]
   cases (d.1 != 2)
   ·rw [cond_false,cond_false,List.append_nil]
   ·rw [cond_true,cond_true,p,cond_true]
    unfold jhE
    rw [q,cond_false]
  ·have e:d.1=3:=by simpa using q
   have z:inb 0 d.2.2.1.length=true:=j00 (i:=0) (J e)
   have r:(d.1==4)=false:=by rw [e];rfl
   have I:(d.1 != 2)=true:=by rw [e];rfl
   rw [cond_true,r,cond_false,z,cond_true,ZaL (by unfold LIM;omega),cond_true,I,cond_true,cond_true,p,cond_true]
   unfold jhE
   rw [q,cond_true]) (λb rec=>by
  show j1L _ _ _ _ _ _ _ _=_
  unfold j1L
  dsimp only
  rw [ZaP,cond_false])
 ·refine this.trans ?_
  rw [List.nil_append]
  congr 1
  cases C:(d.1==2)
  ·have:(d.1 != 2)=true:=by rw [bne,C];rfl
   rw [this,cond_false,jqz]
   show l.flatMap (λx=>[jhE d _ x])=_
   exact jdL _ _
  ·have:(d.1 != 2)=false:=by rw [bne,C];rfl
   rw [this,cond_true]
   show l.flatMap (λx=>[])=_
   simp
 ·rw [List.nil_append]
  have:∀ m:List (List V),(m.flatMap λx=>bif d.1 != 2 then [jhE d (j02 t.2.1 d.2.2.2.2.1).toNat x] else []).length<=m.length:=by
   intro m
   induction m with
   | nil=>exact Nat.le_refl _
   | cons y m W=>
    rw [List.flatMap_cons,List.length_append,List.length_cons]
    have:(bif d.1 != 2 then [jhE d (j02 t.2.1 d.2.2.2.2.1).toNat y] else []).length<=1:=by cases (d.1 != 2)<;>simp
    omega
  exact Nat.le_trans (this _) (by rw [List.length_take];omega)
end Go.PI.G
namespace Go.PI.G
open Go Go.PI Go.Proofs
theorem joy (t:T) (b:t.2.1.length<=1048576) (d:t.2.2.length<=1048576) (k:T->Res):j3h t k=k t:=by
 unfold j3h j3i
 rw [jbB b,cond_true,jbB d,cond_true]
theorem jig (c:List T) (f:msr (.slice yT) c<=1048576) (k:List T->Res):j3y c k=k c:=by
 obtain ⟨h,ht⟩:=jcQ f
 unfold j3y jdQ
 have:=Z9T c (λi b=>(i,b)) (λx=>[x]) 1048576 [] (step:=j8f c (nI c.length)) (λb=>k b) (λb=>k b) (by unfold LIM;omega) (λi d _=>by
  rw [j0K,List.nil_append,List.length_take];omega) (by simp) (λi b rec d j g=>by
  show j2J _ _ _ _ _ _=_
  unfold j2J
  obtain ⟨l,m,p,q,r⟩:=ht _ (List.getElem_mem d)
  dsimp only
  rw [ZaQ d,cond_true,j00 d,cond_true,Zay _ _ _ d,joy _ (by omega) (by omega),ZaL (by unfold LIM;omega),cond_true,j01 (n:=(i:Int)+1) (by omega)]) (λb rec=>by
  show j2J _ _ _ _ _ _=_
  unfold j2J
  dsimp only
  rw [ZaP,cond_false])
 refine this.trans ?_
 rw [j0K,List.nil_append]
theorem jih (c:List T) (d:D) (y:msr (.slice yT) c<=1048576) (f:j0V d=true) (k:Int->Res):j2g c d k=k (j0b c d):=by
 obtain ⟨A,p⟩:=jcQ y
 obtain ⟨z,w⟩:=jfa f
 unfold j2g j0b
 rw [j7j _ _ (by unfold LIM;omega)]
 cases q:(d.1==1)
 ·rw [cond_false,cond_false]
  rcases j0x c d.2.1 with ⟨m,_⟩ | ⟨i,g,m,_⟩
  ·rw [m];rfl
  ·have l:decide (j04 c d.2.1<0)=false:=decide_eq_false (by omega)
   rw [l,cond_false,cond_false,m,j00 g,cond_true,Zay _ _ _ g]
   obtain ⟨B,C,E,F,G⟩:=p _ (List.getElem_mem g)
   generalize c[i]=t at *
   have b:∀ n (K:Int->Res),j0f t n K=K (j02 t.2.1 n):=λn K=>j7h _ _ (by unfold LIM;omega) K
   unfold j4t j6Z j4u j0r
   have r:d.1≠1:=by simpa using q
   rcases z with h | h | h | h | h
   ·exact absurd h r
   ·rw [h];rfl
   ·have j:inb 0 d.2.2.1.length=true:=j00 (i:=0) (w h)
    rw [h]
    show (bif inb 0 d.2.2.1.length then _ else none)=_
    rw [j,cond_true,b,jfM]
    show _=k (bif !decide (j02 t.2.1 (nth zC d.2.2.1 0).1<0) then 5 else bif t.2.1.length==8 then 6 else 0)
    cases !decide (j02 t.2.1 (nth zC d.2.2.1 0).1<0)
    ·show (bif (nI t.2.1.length==(8:Int)) then k 6 else _)=_
     rw [show (nI t.2.1.length==(8:Int))=(t.2.1.length==8) from jl8 _ 8]
     cases (t.2.1.length==8)<;>rfl
    ·rfl
   ·rw [h]
    simp only [show ((4:Int)==3)=false from rfl,show ((4:Int)==4)=true from rfl,show ((4:Int)==5)=false from rfl,cond_false,cond_true,b]
    cases decide (j02 t.2.1 d.2.2.2.2.1<0)
    ·rw [cond_false,cond_false,jp9 _ _ (by unfold LIM;omega)]
     show (bif jev t.2.2 d.2.2.2.2.1 then k 8 else k 0)=k (bif jev t.2.2 d.2.2.2.2.1 then 8 else 0)
     cases jev t.2.2 d.2.2.2.2.1<;>rfl
    ·rfl
   ·rw [h]
    simp only [show ((5:Int)==3)=false from rfl,show ((5:Int)==4)=false from rfl,show ((5:Int)==5)=true from rfl,cond_false,cond_true,b,jfM]
    cases !decide (j02 t.2.1 d.2.2.2.2.2<0)
    ·simp only [cond_false]
     cases decide (j02 t.2.1 d.2.2.2.2.1<0)<;>rfl
    ·rfl
 ·rw [cond_true,cond_true,job]
  cases decide (j04 c d.2.1<0)
  ·rfl
  ·rw [Bool.not_true,cond_false,cond_false,show (nI c.length==(6:Int))=(c.length==6) from jl8 _ 6]
   cases (c.length==6)<;>rfl
theorem joh {α:Type} (p:α->Bool):(l:List α)->(i:Nat)->i<(l.takeWhile p).length->∃ h:i<l.length,p l[i]=true
 | [],i,h=>by simp at h
 | x::l,i,h=>by
  cases b:p x
  ·rw [List.takeWhile_cons_of_neg (by rw [b];simp)] at h;simp at h
  ·rw [List.takeWhile_cons_of_pos b,List.length_cons] at h
   cases i with
   | zero=>exact ⟨by simp,b⟩
   | succ i=>
    obtain ⟨f,d⟩:=joh p l i (by omega)
    exact ⟨by rw [List.length_cons];omega,d⟩
theorem jog {α:Type} (p:α->Bool):(l:List α)->(h:(l.takeWhile p).length<l.length)->p l[(l.takeWhile p).length]=false
 | [],h=>by simp at h
 | x::l,h=>by
  cases b:p x
  ·have e:(x::l).takeWhile p=[]:=List.takeWhile_cons_of_neg (by rw [b];simp)
   simp only [e,List.length_nil,List.getElem_cons_zero]
   exact b
  ·have e:(x::l).takeWhile p=x::l.takeWhile p:=List.takeWhile_cons_of_pos b
   simp only [e,List.length_cons,List.getElem_cons_succ] at h ⊢
   exact jog p l (by omega)
theorem jnx (d:D) (c:List T) (l:c.length<=1048576) (k:Int->Res):j90 d c Z1c 0 k=k (((c.takeWhile λy=>sLt y.1 d.2.1).length:Nat):Int):=by
 have j:(c.takeWhile λy=>sLt y.1 d.2.1).length<=c.length:=(List.takeWhile_sublist _).length_le
 refine Z3u (step:=j4p d c) (λi=>(i:Int)) (c.takeWhile λy=>sLt y.1 d.2.1).length k _ (λi g rec=> ?_) (λrec=> ?_) Z1c (Z2b (by omega))
 ·obtain ⟨b,f⟩:=joh _ c i g
  show j2d _ _ _ _ _=_
  unfold j2d
  rw [ZaQ b,cond_true,j00 b,cond_true,Zay _ _ _ b,f,cond_true,j01 (n:=(i:Int)+1) (by omega)]
  rfl
 ·show j2d _ _ _ _ _=_
  unfold j2d
  by_cases h:(c.takeWhile λy=>sLt y.1 d.2.1).length<c.length
  ·rw [ZaQ h,cond_true,j00 h,cond_true,Zay _ _ _ h,jog (λy:T=>sLt y.1 d.2.1) c h,cond_false]
  ·rw [decide_eq_false (show ¬ (((c.takeWhile λy=>sLt y.1 d.2.1).length:Nat):Int)<nI c.length by unfold nI;omega),cond_false]
end Go.PI.G
namespace Go.PI.G
open Go Go.PI Go.Proofs
theorem jrB (l:List ByteArray) (v:ByteArray) (h:l.length<=LIM) (k:Int->Res):j0M l v k=k (Z9F (λx=>sEq v x) l):=by
 unfold j0M j4P
 refine Z9S l (λi=>i) (λx=>sEq v x) (step:=j1x l v (nI l.length)) ((λ(_:Unit)=>k (-1)),(λ(t:Int)=>k t)) k h (λi rec b=> ?_) (λrec=> ?_)
 ·show j0c _ _ _ _ _ _ _=_
  unfold j0c
  unfold LIM at h
  rw [ZaQ b,cond_true,j00 b,cond_true,Zay _ _ _ b,j01 (n:=(i:Int)+1) (by omega)]
 ·show j0c _ _ _ _ _ _ _=_
  unfold j0c
  rw [ZaP,cond_false]
end Go.PI.G
namespace Go.PI.G
open Go Go.PI Go.Proofs
theorem jnl {α:Type} {g:α->(Bool->Res)->Res} (q:α->Bool):(l:List α)->(∀ x∈l,∀ k,g x k=k (q x))->(d:List α)->(k:List α->Res)->dgE g l d k=k (d++l.filter λx=> !q x)
 | [],_,d,k=>by rw [List.filter_nil,List.append_nil];rfl
 | x::l,h,d,k=>by
  show g x (λb=>dgE g l (bif b then d else d++[x]) k)=_
  rw [h x (by simp),jnl q l λy i=>h y (List.mem_cons_of_mem _ i)]
  cases f:q x
  ·rw [List.filter_cons_of_pos (by rw [f];rfl),cond_false,List.append_assoc];rfl
  ·rw [List.filter_cons_of_neg (by rw [f];simp),cond_true]
theorem joZ {α:Type} (p:α->Bool) (g:α->α) (l:List α) (i:Nat) (n:i<l.length) (d:p l[i]=true) (f:∀ j (b:j<l.length),j≠i->p l[j]=false):l.map (λx=>bif p x then g x else x)=l.set i (g l[i]):=by
 apply List.ext_getElem
 ·simp
 ·intro j k m
  have b:j<l.length:=by simpa using k
  rw [List.getElem_map,List.getElem_set]
  by_cases e:i=j
  ·subst e
   rw [if_pos rfl,d,cond_true]
  ·rw [if_neg e,f j b λh=>e h.symm,cond_false]
theorem map_none {α:Type} (p:α->Bool) (g:α->α) (l:List α) (h:∀ x∈l,p x=false):l.map (λx=>bif p x then g x else x)=l:=by
 induction l with
 | nil=>rfl
 | cons x l d=>rw [List.map_cons,h x (by simp),cond_false,d λy b=>h y (List.mem_cons_of_mem _ b)]
theorem jlo {α:Type} {R:α->α->Prop} {l:List α} (h:l.Pairwise R) {i j:Nat} (d:i<l.length) (f:j<l.length) (e:i≠j):R l[i] l[j]\/R l[j] l[i]:=by
 rcases Nat.lt_or_gt_of_ne e with b | b
 ·exact .inl (List.pairwise_iff_getElem.1 h i j d f b)
 ·exact .inr (List.pairwise_iff_getElem.1 h j i f d b)
theorem jcs (n:Nat):(Z9o n n&&true)=true:=by
 rw [Bool.and_true]
 exact Nat.beq_refl n
theorem jr3 {l:List C} (k:j4l l=true) (n m:ByteArray) {i:Nat} (f:i<l.length) (h:l[i].1=n):l.map (j8i n m)=l.set i (m,l[i].2):=by
 have p:=((j60 l).1 k).2
 have:j8i n m=λc:C=>bif sEq c.1 n then (m,c.2) else c:=by
  funext c
  unfold j8i ren
  cases sEq c.1 n<;>rfl
 rw [this]
 refine joZ (λc:C=>sEq c.1 n) (λc=>(m,c.2)) l i f ((j0a _ _).2 h) λj g e=> ?_
 have:l[j].1≠n:=λd=>by
  rcases jlo p f g e.symm with b | b
  ·exact b (h.trans d.symm)
  ·exact b (d.trans h.symm)
 cases q:sEq l[j].1 n
 ·rfl
 ·exact absurd ((j0a _ _).1 q) this
theorem jr4 {cs:List C} {ks:List ByteArray} (q:j17 cs (-1) ks=true) (n m:ByteArray):ks.map (ren n m)=bif decide (Z9F (λx=>sEq n x) ks>=0) then ks.set (Z9F (λx=>sEq n x) ks).toNat m else ks:=by
 have w:=((j4x cs ks (-1)).1 q).2
 have:ren n m=λs=>bif sEq s n then m else s:=by funext s;rfl
 rw [this]
 have d:∀ a b:ByteArray,sEq a b=sEq b a:=λa b=>by
  rw [Bool.eq_iff_iff,j0a,j0a]
  exact ⟨Eq.symm,Eq.symm⟩
 rcases j9O (λx=>sEq n x) ks with ⟨g,f⟩ | ⟨i,k,g,f,_⟩
 ·rw [g]
  exact map_none (λs=>sEq s n) (λ_=>m) ks λx z=>by rw [d];exact f x z
 ·rw [g,decide_eq_true (by omega),cond_true,Int.toNat_natCast]
  refine joZ (λs=>sEq s n) (λ_=>m) ks i k (by rw [d];exact f) λj p e=> ?_
  have r:n=ks[i]:=(j0a _ _).1 f
  cases y:sEq ks[j] n
  ·rfl
  ·have l:ks[j]=ks[i]:=((j0a _ _).1 y).trans r
   rcases jlo w k p e.symm with h | h<;>rw [l] at h<;>exact absurd h (Int.lt_irrefl _)
theorem jrH {α:Type} (z:α) (l:List α) (i:Nat) (b:i<l.length) (x:α):nth z (upd l (i:Int) x) (i:Int)=x:=by
 rw [ZaF,Zay _ _ _ (by simpa using b),List.getElem_set_self]
theorem jp7 (c:List T) (d:D) (i:Nat) (b:i<c.length) (Q:c.length<=1048576) (ht:j03 c[i]=true) (K:tSm c[i]) (l:j0r c[i] d=0) (I:d.1=2\/d.1=3\/d.1=4\/d.1=5) (w:d.1=3->0<d.2.2.1.length) (k:List T->Res) :
  j1i (i:Int) d.1 d c k=k (bif d.1==2 then c.eraseIdx i else c.set i (j9N c[i] d)):=by
 obtain ⟨V,W,X,Y,Z⟩:=K
 obtain ⟨_,t1,t2,t3,L,M⟩:=(j6h _).1 ht
 unfold j1i
 have f:inb (i:Int) c.length=true:=j00 b
 rcases I with h | h | h | h
 ·rw [h]
  simp only [show ((2:Int)==1)=false from rfl,show ((2:Int)==2)=true from rfl,cond_false,cond_true]
  unfold j48 jaT
  rw [j01 (n:=(i:Int)+1) (by omega),show Z8e (i:Int) ((i:Int)+1) c.length=true from j8Y (j:=i+1) ⟨by omega,by omega⟩,cond_true,List.eraseIdx_eq_take_drop_succ]
  rfl
 ·have w:=w h
  have m:∀ x:T,inb (i:Int) (c.set i x).length=true:=λx=>j00 (by simpa using b)
  have p:inb 0 d.2.2.1.length=true:=j00 (i:=0) w
  rw [h]
  simp only [show ((3:Int)==1)=false from rfl,show ((3:Int)==2)=false from rfl,show ((3:Int)==3)=true from rfl,cond_false,cond_true]
  rw [f,cond_true,p,cond_true,Zay _ _ _ b,ZaL (by unfold LIM;omega),cond_true,ZaF,m,cond_true,jcs,cond_true]
  unfold j9N jiD
  rw [h]
  rfl
 ·rw [h]
  simp only [show ((4:Int)==1)=false from rfl,show ((4:Int)==2)=false from rfl,show ((4:Int)==3)=false from rfl,show ((4:Int)==4)=true from rfl,cond_false,cond_true]
  rw [f,cond_true,Zay _ _ _ b]
  unfold j2r
  rw [ZaL (by unfold LIM;omega),cond_true,jnl (g:=λ(e:C) k=>jaX e d k) (λx:C=>sEq x.1 d.2.2.2.2.1) c[i].2.1 (λx R U=>rfl),List.nil_append]
  simp only [jcs,cond_true,ZaF]
  unfold j9N jg1
  rw [h]
  rfl
 ·have P:¬ j02 c[i].2.1 d.2.2.2.2.1<0:=λA=>by
   unfold j0r at l
   rw [h] at l
   simp only [show ((5:Int)==3)=false from rfl,show ((5:Int)==4)=false from rfl,show ((5:Int)==5)=true from rfl,cond_false,cond_true,decide_eq_true A] at l
   cases H: !decide (j02 c[i].2.1 d.2.2.2.2.2<0)<;>rw [H] at l<;>cases l
  rcases j15 c[i].2.1 d.2.2.2.2.1 with ⟨B,_⟩ | ⟨j,y,B,z,_⟩
  ·omega
  rw [h]
  simp only [show ((5:Int)==1)=false from rfl,show ((5:Int)==2)=false from rfl,show ((5:Int)==3)=false from rfl,show ((5:Int)==4)=false from rfl,show ((5:Int)==5)=true from rfl,cond_false,cond_true]
  rw [f,cond_true,j7h _ _ (by rw [Zay _ _ _ b];unfold LIM;omega)]
  simp only [Zay _ _ _ b,jrH _ _ _ b]
  rw [B]
  simp only [Zay _ _ _ y]
  rw [j00 y,cond_true,jrB _ _ (by unfold LIM;omega)]
  have E:=jr3 L d.2.2.2.2.1 d.2.2.2.2.2 y z
  have F:=jr4 M d.2.2.2.2.1 d.2.2.2.2.2
  have G:j9N c[i] d=(c[i].1,c[i].2.1.map (j8i d.2.2.2.2.1 d.2.2.2.2.2),c[i].2.2.map (ren d.2.2.2.2.1 d.2.2.2.2.2)):=by
   unfold j9N jdV
   rw [h]
   rfl
  rw [G,E,F]
  rcases j9O (λx=>sEq d.2.2.2.2.1 x) c[i].2.2 with ⟨r,_⟩ | ⟨q,J,r,_,_⟩
  ·rw [r,ZaF,ZaF]
   rfl
  ·rw [r,decide_eq_true (by omega),cond_true,cond_true,j00 J,cond_true]
   simp only [ZaF,Int.toNat_natCast]
   rw [List.set_set]
theorem jot (c:List T) (d:D) (z:msr (.slice yT) c<=1048576) (n:dSm d) (k:List T->Int->Res):j4f c d k=k (jeu c d).1 (jeu c d).2:=by
 obtain ⟨G,C⟩:=jcQ z
 unfold j4f jeu
 rw [jjO c z]
 cases A:j21 c
 ·rfl
 rw [Bool.not_true,cond_false,Bool.false_or,jfP d n]
 cases m:j0V d
 ·rfl
 rw [Bool.not_true,cond_false,cond_false,jih _ _ z m,jig c z,j7j _ _ (by unfold LIM;omega)]
 obtain ⟨L,H⟩:=jfa m
 cases f:(j0b c d != 0)
 rotate_left
 ·rfl
 rw [cond_false,cond_false]
 have f:j0b c d=0:=by simpa using f
 have B:=(j0d c).1 A
 by_cases F:d.1=1
 ·unfold j0b at f
  unfold j0W
  rw [F] at f ⊢
  simp only [show ((1:Int)==1)=true from rfl,cond_true] at f ⊢
  rcases j0x c d.2.1 with ⟨w,r⟩ | ⟨i,j,w,_⟩
  ·unfold j1i
   simp only [show ((1:Int)==1)=true from rfl,cond_true]
   rw [jnx _ _ G,jij _ n]
   unfold j49 jey
   obtain ⟨p,M,g,q⟩:=joU (R:=tR) (λa b h=>jqc h) (x:=((d.2.1,d.2.2.1,d.2.2.2.1):T)) (l:=c) (λy K=>jhG λe=>r y K e.symm)
   have g:p=(c.takeWhile λy=>sLt y.1 d.2.1).length:=g
   rw [<-g]
   have I:jiK (p:Int) c.length [((d.2.1,d.2.2.1,d.2.2.2.1):T)].length=true:=decide_eq_true ⟨by omega,by omega,by simp,by simp;unfold LIM;omega⟩
   rw [I,cond_true,q,Int.toNat_natCast,List.append_assoc]
   rfl
  ·rw [decide_eq_false (by omega)] at f
   cases f
 ·have J:d.1=2\/d.1=3\/d.1=4\/d.1=5:=by omega
  unfold j0b at f
  unfold j0W
  have E:(d.1==1)=false:=by simpa using F
  rw [E,cond_false] at f
  rw [E,cond_false]
  rcases j0x c d.2.1 with ⟨w,r⟩ | ⟨i,j,w,_⟩
  ·rw [decide_eq_true (by omega)] at f
   cases f
  ·rw [decide_eq_false (by omega),cond_false,w,Zay _ _ _ j] at f
   rw [w,Zay _ _ _ j,Int.toNat_natCast,jp7 c d i j G (B.2.1 _ (List.getElem_mem j)) (C _ (List.getElem_mem j)) f J H]
end Go.PI.G
namespace Go.PI.G
open Go Go.PI Go.Proofs
theorem j7i (l:List (List V)) (h:l.length<=1048576) (f:∀ x∈l,x.length<=1048576) (k:List (List V)->Res):j0q l k=k l:=by
 unfold j0q jcT
 have:=Z9T l (λi b=>(b,i)) (λx=>[x]) 1048576 [] (step:=j7m l (nI l.length)) (λb=>k b) (λb=>k b) (by unfold LIM;omega) (λi d _=>by
  rw [j0K,List.nil_append,List.length_take];omega) (by simp) (λi b rec d j g=>by
  show j2f _ _ _ _ _ _=_
  unfold j2f j0S
  dsimp only
  rw [ZaQ d,cond_true,j00 d,cond_true,Zay _ _ _ d,jbB (f _ (List.getElem_mem d)),cond_true,ZaL (by unfold LIM;omega),cond_true,j01 (n:=(i:Int)+1) (by omega)]) (λb rec=>by
  show j2f _ _ _ _ _ _=_
  unfold j2f
  dsimp only
  rw [ZaP,cond_false])
 refine this.trans ?_
 rw [j0K,List.nil_append]
theorem jjR (t:T) (h:msr yT t<=1048576) (ht:j03 t=true) (l:List (List V)) (r:List V) (g:∀ x∈l,x.length=t.2.1.length) (p:l.length<=60) (j:r.length=t.2.1.length) (k:Int->Res) :
  jb1 l t r Z1c 0 k=k (((l.takeWhile λy=>kR t y r).length:Nat):Int):=by
 have f:∀ x:List V,(j05 t x).length<=LIM:=λx=>by
  rw [j91]
  have:=(j2p h).2.2.1
  unfold LIM;omega
 have q:(l.takeWhile λy=>kR t y r).length<=l.length:=(List.takeWhile_sublist _).length_le
 refine Z3u (step:=j3A l t r) (λi=>(i:Int)) (l.takeWhile λy=>kR t y r).length k _ (λi m rec=> ?_) (λrec=> ?_) Z1c (Z2b (by omega))
 ·obtain ⟨b,d⟩:=joh _ l i m
  have d:klt (j05 t l[i]) (j05 t r)=true:=d
  show j23 _ _ _ _ _ _=_
  unfold j23
  rw [ZaQ b,cond_true,j00 b,cond_true,Zay _ _ _ b,j34 t h ht _ (g _ (List.getElem_mem b)),j34 t h ht r j,jaW _ _ (f _),d,cond_true,j01 (n:=(i:Int)+1) (by omega)]
  rfl
 ·show j23 _ _ _ _ _ _=_
  unfold j23
  by_cases b:(l.takeWhile λy=>kR t y r).length<l.length
  ·have d:klt (j05 t l[(l.takeWhile λy=>kR t y r).length]) (j05 t r)=false:=jog (λy=>kR t y r) l b
   rw [ZaQ b,cond_true,j00 b,cond_true,Zay _ _ _ b,j34 t h ht _ (g _ (List.getElem_mem b)),j34 t h ht r j,jaW _ _ (f _),d,cond_false]
  ·rw [decide_eq_false (show ¬ (((l.takeWhile λy=>kR t y r).length:Nat):Int)<nI l.length by unfold nI;omega),cond_false]
theorem jpf (t:T):∀ a b:List V,kR t a b=true->kR t b a=false:=λa b h=>jq1 h
theorem jgz (t:T) (h:msr yT t<=1048576) (ht:j03 t=true) (l:List (List V)) (r:List V) (n:∀ x∈l,j0n t.2.1 x=true) (f:l.length<=60) (q:j0n t.2.1 r=true) (g:∀ x∈l,j05 t x≠j05 t r) (k:List (List V)->Res) :
  j29 t l r k=k (jfW t l r):=by
 have A:=(j2p h).2.1
 have b:∀ x∈l,x.length=t.2.1.length:=λx m=>j0t (n x m)
 have j:=j0t q
 unfold j29
 rw [jjR t h ht l r b f j,j7i l (by omega) (λx m=>by rw [b x m];omega)]
 unfold j0S j4X jey
 rw [jbB (by omega),cond_true]
 obtain ⟨p,B,i,d⟩:=joU (R:=kR t) (jpf t) (x:=r) (l:=l) (λy w=>jnE ht q (n y w) (λe=>g y w e.symm))
 rw [<-i]
 have z:jiK (p:Int) l.length [r].length=true:=decide_eq_true ⟨by omega,by omega,by simp,by simp;unfold LIM;omega⟩
 dsimp only
 rw [z,cond_true,Int.toNat_natCast,List.append_assoc]
 unfold jfW
 rw [d]
 rfl
theorem jrn {t:T} {l:List (List V)} {b:List V} (h:j06 t l b<0):∀ x∈l,j05 t x≠b:=jnK h
theorem jmv (t:T) (h:msr yT t<=1048576) (l:List (List V)) (r:List V) (k:List (List V)->Int->Res):j6F t l r k=k (j5v t l r).1 (j5v t l r).2:=by
 unfold j6F j5v
 rw [j8y t h]
 cases d:j08 t l
 ·rfl
 obtain ⟨ht,g,i⟩:=j0i d
 rw [Bool.not_true,cond_false,cond_false,jfR t h]
 cases f:j0n t.2.1 r
 ·rfl
 rw [Bool.not_true,cond_false,cond_false,j34 t h ht r (j0t f),j3u t h l d,jg3]
 by_cases b:j06 t l (j05 t r)<0
 rotate_left
 ·rw [decide_eq_false b];rfl
 rw [decide_eq_true b,Bool.not_true,cond_false,cond_false,show (nI l.length==(60:Int))=(l.length==60) from joV _ 60]
 cases (l.length==60)
 ·rw [cond_false,cond_false,jgz t h ht l r i g f (jrn b)]
 ·rfl
theorem jq0 {t:T} (ht:j03 t=true) {n:ByteArray} (d:n∈t.2.2) (v:V):j3s (nth zC t.2.1 (j02 t.2.1 n)) v=(j0o v&&(v.1==(nth zC t.2.1 (j02 t.2.1 n)).2.1)):=by
 have b:=(((j4x _ _ _).1 ((j6h t).1 ht).2.2.2.2.2).1 n d).2
 unfold j3s
 rw [b,Bool.not_true,Bool.and_false,Bool.or_false]
theorem jho (t:T) (h:msr yT t<=1048576) (b:List V) (k:Bool->Res):j4q t b k=k (j9Y t b):=by
 unfold j4q j9Y
 obtain ⟨p,q,r,w,y⟩:=j2p h
 rw [jfS t h]
 cases ht:j03 t
 ·rfl
 rw [Bool.not_true,cond_false,Bool.true_and]
 by_cases f:b.length=t.2.2.length
 rotate_left
 ·rw [jjV f,cond_true,decide_eq_false f,Bool.false_and]
 rw [jjU f,cond_false,decide_eq_true f,Bool.true_and]
 unfold jbQ
 have:=Z9P t.2.2 (λi=>i) (λi n=> !j3s (nth zC t.2.1 (j02 t.2.1 n)) (nth zV b (i:Int))) (step:=j4r b t.2.2 (nI t.2.2.length) t) ((λ(_:Unit)=>k true),(λ(_:Unit)=>k false)) (k true) (k false) (by unfold LIM;omega) (λi rec d=>by
  have g:=jq0 ht (List.getElem_mem d) (nth zV b (i:Int))
  obtain ⟨j,l,m⟩:=jnG ht (List.getElem_mem d)
  show j2n _ _ _ _ _ _ _ _=_
  unfold j2n
  rw [g,ZaQ d,cond_true,j00 d,cond_true,j00 (f ▸ d),cond_true,j7Q,Zay _ _ _ d]
  cases j0o (nth zV b (i:Int))
  ·rfl
  ·rw [Bool.not_true,cond_false,cond_true,j7h _ _ (by unfold LIM;omega),m,j00 l,cond_true,j01 (n:=(i:Int)+1) (by omega),Bool.true_and]
   rfl) (λrec=>by
  show j2n _ _ _ _ _ _ _ _=_
  unfold j2n
  rw [ZaP,cond_false])
 refine this.trans ?_
 cases Z71 (λi n=> !j3s (nth zC t.2.1 (j02 t.2.1 n)) (nth zV b (i:Int))) 0 t.2.2<;>rfl
theorem jlI (l:List (List V)) (i:Nat) (b:i<l.length) (d:l.length<=60) (k:List (List V)->Res):j0L l (i:Int) (Z9K ((i:Int)+1)) k=k (l.eraseIdx i):=by
 unfold j0L jaT
 rw [j01 (n:=(i:Int)+1) (by omega),show Z8e (i:Int) ((i:Int)+1) l.length=true from j8Y (j:=i+1) ⟨by omega,by omega⟩,cond_true,List.eraseIdx_eq_take_drop_succ]
 rfl
theorem jmw (t:T) (h:msr yT t<=1048576) (l:List (List V)) (d r:List V) (k:List (List V)->Int->Res):j6G t l d r k=k (j5w t l d r).1 (j5w t l d r).2:=by
 unfold j6G j5w
 rw [j8y t h]
 cases g:j08 t l
 ·rfl
 obtain ⟨ht,D,H⟩:=j0i g
 rw [Bool.not_true,cond_false,cond_false,jfR t h]
 cases w:j0n t.2.1 r
 ·rfl
 rw [Bool.not_true,cond_false,cond_false,jho t h]
 cases j9Y t d
 ·rfl
 rw [Bool.not_true,cond_false,Bool.false_or,j3u t h l g]
 by_cases f:j06 t l d<0
 ·rw [decide_eq_true f];rfl
 rw [decide_eq_false f,cond_false,cond_false,j34 t h ht r (j0t w),jlZ g f]
 obtain ⟨i,A,m⟩:=jdX f
 have p:=jdK g i
 obtain ⟨_,B,C⟩:=j0i p
 have b:=jlZ g (now:=j05 t r) f
 rw [m,Int.toNat_natCast] at b
 have n:(j05 t r).length<=LIM:=by
  rw [j91]
  have:=(j2p h).2.2.1
  unfold LIM;omega
 unfold j5j
 rw [jdM _ _ n,m,Int.toNat_natCast,j3u t h l g,jg3]
 have j:decide (j06 t (l.eraseIdx i) (j05 t r)<0)=true->j0q l (λE=>j0L E (i:Int) (Z9K ((i:Int)+1)) λF=>j29 t F r λG=>k G 0)=k (jfW t (l.eraseIdx i) r) 0:=λz=>by
  rw [j7i l (by omega) (jfj h g),jlI l i A D,jgz t h ht _ r C B w (jrn (of_decide_eq_true z))]
 cases q:j1t zV veq (j05 t r) d
 ·rw [q] at b
  rw [Bool.not_false,cond_true,Bool.true_and]
  rw [Bool.not_false,Bool.true_and] at b
  cases y: !decide (j06 t l (j05 t r)<0)
  ·rw [y] at b
   rw [cond_false,cond_false,j3u t h l g,m]
   exact j (by simpa using b)
  ·rfl
 ·rw [q] at b
  rw [Bool.not_true,cond_false,Bool.false_and,cond_false,j3u t h l g,m]
  exact j (by simpa using b)
theorem jmu (t:T) (h:msr yT t<=1048576) (l:List (List V)) (b:List V) (k:List (List V)->Int->Res):j6E t l b k=k (j5u t l b).1 (j5u t l b).2:=by
 unfold j6E j5u
 rw [j8y t h]
 cases f:j08 t l
 ·rfl
 obtain ⟨ht,m,n⟩:=j0i f
 rw [Bool.not_true,cond_false,cond_false,jho t h]
 cases j9Y t b
 ·rfl
 rw [Bool.not_true,cond_false,Bool.false_or,j3u t h l f]
 by_cases d:j06 t l b<0
 ·rw [decide_eq_true d];rfl
 rw [decide_eq_false d,cond_false,cond_false]
 obtain ⟨i,j,g⟩:=jdX d
 rw [j3u t h l f,g,Int.toNat_natCast,j7i l (by omega) (jfj h f),jlI l i j m]
end Go.PI.G
namespace Go.PI.G
open Go Go.PI Go.Proofs
theorem jpJ {t:T} {d:D} (g:d.2.1=t.1) (f:d.1≠1):j0b [t] d=j0r t d:=by
 have b:j04 [t] d.2.1=(0:Int):=by
  have:=je7 (c:=[t]) (by simp) (i:=0) (by simp)
  rw [g]
  exact this
 unfold j0b
 rw [show (d.1==1)=false by simpa using f,cond_false,b]
 rfl
theorem jnt (d:D) (l:List (List V)) (m:l.length<=60) (j:∀ x∈l,x.length<=1048576) (h:0<d.2.2.1.length) (k:List (List V)->Res):j6V (nI l.length) d Z1c l 0 k=k (l.map λx=>x++[(nth zC d.2.2.1 0).2.2.2.2]):=by
 unfold j6V
 have:=Z3u (step:=j4S (nI l.length) d) (λi=>((l.take i).map (λx:List V=>x++[(nth zC d.2.2.1 0).2.2.2.2])++l.drop i,(i:Int))) l.length k (k (l.map λx=>x++[(nth zC d.2.2.1 0).2.2.2.2])) (λi b rec=> ?_) (λrec=> ?_) Z1c (Z2b (by omega))
 ·refine Eq.trans ?_ this
  simp
 ·show j2D _ _ _ _ _ _=_
  unfold j2D
  dsimp only
  have p:=j _ (List.getElem_mem b)
  have g:inb (i:Int) ((l.take i).map (λx:List V=>x++[(nth zC d.2.2.1 0).2.2.2.2])++l.drop i).length=true:=j00 (by rw [jfc];exact b)
  have f:∀ y:List V,inb (i:Int) (((l.take i).map (λx:List V=>x++[(nth zC d.2.2.1 0).2.2.2.2])++l.drop i).set i y).length=true:=λy=>j00 (by rw [List.length_set,jfc];exact b)
  rw [ZaQ b,cond_true,g,cond_true,show inb 0 d.2.2.1.length=true from j00 (i:=0) h,cond_true,jnp _ _ _ _ b,ZaL (by unfold LIM;omega),cond_true,ZaF,f,cond_true,jcs,cond_true,j01 (n:=(i:Int)+1) (by omega),<-jnq _ _ _ b]
  rfl
 ·show j2D _ _ _ _ _ _=_
  unfold j2D
  dsimp only
  rw [ZaP,cond_false,List.take_length,List.drop_length,List.append_nil]
theorem jnv (a:Nat) (l:List (List V)) (z:l.length<=60) (q:∀ x∈l,a<x.length/\x.length<=1048576) (k:List (List V)->Res):j6W (a:Int) (nI l.length) Z1c l 0 k=k (l.map λx=>x.eraseIdx a):=by
 unfold j6W
 have:=Z3u (step:=j4T (a:Int) (nI l.length)) (λi=>((l.take i).map (λx:List V=>x.eraseIdx a)++l.drop i,(i:Int))) l.length k (k (l.map λx=>x.eraseIdx a)) (λi b rec=> ?_) (λrec=> ?_) Z1c (Z2b (by omega))
 ·refine Eq.trans ?_ this
  simp
 ·show j2E _ _ _ _ _ _=_
  unfold j2E j8k jaT
  dsimp only
  obtain ⟨r,w⟩:=q _ (List.getElem_mem b)
  have f:inb (i:Int) ((l.take i).map (λx:List V=>x.eraseIdx a)++l.drop i).length=true:=j00 (by rw [jfc];exact b)
  have d:∀ y:List V,inb (i:Int) (((l.take i).map (λx:List V=>x.eraseIdx a)++l.drop i).set i y).length=true:=λy=>j00 (by rw [List.length_set,jfc];exact b)
  have p:l[i].take a++l[i].drop (a+1)=l[i].eraseIdx a:=(List.eraseIdx_eq_take_drop_succ _ _).symm
  have m:Z8e (a:Int) ((a:Int)+1) l[i].length=true:=j8Y (j:=a+1) ⟨by omega,by omega⟩
  have g:(a:Int).toNat=a:=Int.toNat_natCast a
  have h:((a:Int)+1).toNat=a+1:=by omega
  rw [ZaQ b,cond_true,f,cond_true,jnp _ _ _ _ b,j01 (n:=(a:Int)+1) (by omega),m,cond_true,g,h,p,ZaF,d,cond_true,jcs,cond_true,j01 (n:=(i:Int)+1) (by omega),<-jnq _ _ _ b]
  rfl
 ·show j2E _ _ _ _ _ _=_
  unfold j2E
  dsimp only
  rw [ZaP,cond_false,List.take_length,List.drop_length,List.append_nil]
theorem jl1 (t:T) (h:msr yT t<=1048576) (l:List (List V)) (g:j08 t l=true) (d:D) (n:dSm d) (m:j0V d=true) (w:d.2.1=t.1) (i:d.1≠1) (k:List (List V)->Int->Res) :
  j5k t l d k=k (bif j0r t d != 0 then [] else bif d.1==2 then [] else jet t d l) (j0r t d):=by
 obtain ⟨ht,z,F⟩:=j0i g
 obtain ⟨f,A⟩:=jfa m
 unfold j5k j4s
 rw [j8y t h,g,Bool.not_true,cond_false,jfP d n,m,Bool.not_true,cond_false]
 have r:sNe d.2.1 t.1=false:=by unfold sNe;rw [w];simp
 rw [r,cond_false,show (d.1==1)=false by simpa using i]
 dsimp only
 rw [cond_false,jih _ _ (jkW ht).2 m,jpJ w i]
 cases B:(j0r t d != 0)
 rotate_left
 ·rfl
 have b:j0r t d=0:=by simpa using B
 have q:=(j2p h).2.1
 rw [cond_false,cond_false,j7i l (by omega) (jfj h g),b]
 rcases f with e | e | e | e | e
 ·exact absurd e i
 ·rw [e];rfl
 ·unfold jet
  rw [e]
  simp only [show ((3:Int)==2)=false from rfl,show ((3:Int)==3)=true from rfl,cond_false,cond_true]
  rw [jnt d l z (jfj h g) (A e)]
 ·unfold jet
  have G:¬ j02 t.2.1 d.2.2.2.2.1<0:=λp=>by
   unfold j0r at b
   rw [e] at b
   simp only [show ((4:Int)==3)=false from rfl,show ((4:Int)==4)=true from rfl,cond_false,cond_true,decide_eq_true p] at b
   cases b
  rcases j15 t.2.1 d.2.2.2.2.1 with ⟨y,_⟩ | ⟨j,C,y,_,_⟩
  ·omega
  rw [e]
  simp only [show ((4:Int)==2)=false from rfl,show ((4:Int)==3)=false from rfl,show ((4:Int)==4)=true from rfl,cond_false,cond_true]
  rw [j7h _ _ (by unfold LIM;omega),y,jnv j l z (λx E=>by rw [j0t (F x E)];exact ⟨C,q⟩)]
  rfl
 ·unfold jet
  rw [e]
  rfl
end Go.PI.G
namespace Go.PI.G
open Go Go.PI Go.Proofs
theorem jcz {c:List T} (h:j21 c=true):msr (.slice yT) c<=1048576:=by
 obtain ⟨b,d,_⟩:=(j0d c).1 h
 have:=j9C (e:=yT) 400 c (λt ht=>jb5 (d t ht))
 have f:c.length * (400+1)<=6 * 401:=Nat.mul_le_mul b (Nat.le_refl _)
 omega
theorem jhR (l:List (List V)) (h:l.length<=1048576) (f:∀ x∈l,x.length<=1048576) (k:List (List V)->Res):j5W l k=k l:=by
 unfold j5W je5
 have:=Z9T l (λi b=>(b,i)) (λx=>[x]) 1048576 [] (step:=j8p l (nI l.length)) (λb=>k b) (λb=>k b) (by unfold LIM;omega) (λi d _=>by
  rw [j0K,List.nil_append,List.length_take];omega) (by simp) (λi b rec d j g=>by
  show j2Z _ _ _ _ _ _=_
  unfold j2Z j0w
  dsimp only
  rw [ZaQ d,cond_true,j00 d,cond_true,Zay _ _ _ d,jbB (f _ (List.getElem_mem d)),cond_true,ZaL (by unfold LIM;omega),cond_true,j01 (n:=(i:Int)+1) (by omega)]) (λb rec=>by
  show j2Z _ _ _ _ _ _=_
  unfold j2Z
  dsimp only
  rw [ZaP,cond_false])
 refine this.trans ?_
 rw [j0K,List.nil_append]
theorem jiJ {d:DB} (h:dbB d=true):j21 d.1=true/\d.1.length<=6/\d.2.length=d.1.length/\∀ x∈d.2,x.length<=60/\∀ r∈x,r.length<=1048576:=by
 obtain ⟨b,k,l⟩:=(j1E d).1 h
 have n:=jcz b
 refine ⟨b,((j0d _).1 b).1,k,λx p=> ?_⟩
 obtain ⟨i,m,rfl⟩:=List.mem_iff_getElem.1 p
 have g:=l i (by omega) m
 refine ⟨(j0i g).2.1,λr f=> ?_⟩
 have q:=j0t ((j0i g).2.2 r f)
 have j:=(jcQ n).2 _ (List.getElem_mem (show i<d.1.length by omega))
 have:=j.2.1
 omega
theorem jkv (d:DB) (h:dbB d=true) (k:DB->Res):j1B d k=k d:=by
 obtain ⟨g,m,p,j⟩:=jiJ h
 unfold j1B
 rw [jio _ (jcz g)]
 unfold jar
 have:=Z9T d.2 (λi b=>(i,(d.1,b))) (λx=>[x]) 1048576 [] (step:=j58 d.2 (nI d.2.length)) (λb=>k b) (λb=>k (d.1,b)) (by unfold LIM;omega) (λi f _=>by
  rw [j0K,List.nil_append,List.length_take];omega) (by simp) (λi b rec f r q=>by
  show j31 _ _ _ _ _ _=_
  unfold j31
  obtain ⟨w,l⟩:=j _ (List.getElem_mem f)
  dsimp only
  rw [ZaQ f,cond_true,j00 f,cond_true,Zay _ _ _ f,jhR _ (by omega) l,ZaL (by unfold LIM;omega),cond_true,j01 (n:=(i:Int)+1) (by omega)]) (λb rec=>by
  show j31 _ _ _ _ _ _=_
  unfold j31
  dsimp only
  rw [ZaP,cond_false])
 refine this.trans ?_
 rw [j0K,List.nil_append]
theorem jfO (d:DB) (h:dbB d=true) (k:DB->Res):j16 d k=k d:=by
 obtain ⟨g,m,p,j⟩:=jiJ h
 unfold j16
 rw [jig _ (jcz g)]
 unfold jb0
 have:=Z9T d.2 (λi b=>(i,(d.1,b))) (λx=>[x]) 1048576 [] (step:=j67 d.2 (nI d.2.length)) (λb=>k b) (λb=>k (d.1,b)) (by unfold LIM;omega) (λi f _=>by
  rw [j0K,List.nil_append,List.length_take];omega) (by simp) (λi b rec f r q=>by
  show j3z _ _ _ _ _ _=_
  unfold j3z
  obtain ⟨w,l⟩:=j _ (List.getElem_mem f)
  dsimp only
  rw [ZaQ f,cond_true,j00 f,cond_true,Zay _ _ _ f,j7i _ (by omega) l,ZaL (by unfold LIM;omega),cond_true,j01 (n:=(i:Int)+1) (by omega)]) (λb rec=>by
  show j3z _ _ _ _ _ _=_
  unfold j3z
  dsimp only
  rw [ZaP,cond_false])
 refine this.trans ?_
 rw [j0K,List.nil_append]
theorem jo7 (t:T) (h:msr yT t<=1048576) (l:List (List V)) (s:ST) (b:s.1≠5) (k:List (List V)->Int->Res):j1a t l s k=k (j2q t l s).1 (j2q t l s).2:=by
 unfold j1a j2q
 cases (s.1==1)
 ·rw [cond_false,cond_false]
  cases (s.1==2)
  ·rw [cond_false,cond_false]
   cases (s.1==3)
   ·rw [cond_false,cond_false,show (s.1==5)=false by simpa using b]
    rfl
   ·rw [cond_true,cond_true,jmX t h]
  ·rw [cond_true,cond_true,jmZ t h]
 ·rw [cond_true,cond_true,jmY t h]
end Go.PI.G
