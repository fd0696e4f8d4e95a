/-
  Program's code interpreted over typed values; printed texts; plain laws. No conditions.
-/
import Derived.Test.YtnemiodjnhfejaaGreatWTl
import Derived.Test.YtnemiodjnhfejaaGreatWTh
import Derived.Test.YtnemiodjnhfejaaGreatWTj
import Derived.Test.YtnemiodjnhfejaaGreatWTk
set_option linter.unusedVariables false
set_option linter.unusedSimpArgs false
namespace Go.PI.G
open Go Go.PI Go.Proofs
theorem jnn {α:Type} {g:α->(Bool->Res)->Res} (q:α->Bool):(l:List α)->(∀ x∈l,∀ k,g x k=k (q x))->(d:List α)->(k:List α->Res)->dgE g l d k=k (d++l.filter λx=> !q x)
 | [],_,d,k=>by rw [List.filter_nil,List.append_nil];rfl
 | x::l,h,d,k=>by
  show g x (λb=>dgE g l (bif b then d else d++[x]) k)=_
  rw [h x (by simp),jnn q l λy i=>h y (List.mem_cons_of_mem _ i)]
  cases f:q x
  ·rw [List.filter_cons_of_pos (by rw [f];rfl),cond_false,List.append_assoc];rfl
  ·rw [List.filter_cons_of_neg (by rw [f];simp),cond_true]
theorem jp2 {α:Type} (p:α->Bool) (g:α->α) (l:List α) (i:Nat) (n:i<l.length) (d:p l[i]=true) (f:∀ j (b:j<l.length),j≠i->p l[j]=false):l.map (λx=>bif p x then g x else x)=l.set i (g l[i]):=by
 apply List.ext_getElem
 ·simp
 ·intro j k m
  have b:j<l.length:=by simpa using k
  rw [List.getElem_map,List.getElem_set]
  by_cases e:i=j
  ·subst e
   rw [if_pos rfl,d,cond_true]
  ·rw [if_neg e,f j b λh=>e h.symm,cond_false]
theorem map_none {α:Type} (p:α->Bool) (g:α->α) (l:List α) (h:∀ x∈l,p x=false):l.map (λx=>bif p x then g x else x)=l:=by
 induction l with
 | nil=>rfl
 | cons x l d=>rw [List.map_cons,h x (by simp),cond_false,d λy b=>h y (List.mem_cons_of_mem _ b)]
theorem jlz {α:Type} {R:α->α->Prop} {l:List α} (h:l.Pairwise R) {i j:Nat} (d:i<l.length) (f:j<l.length) (e:i≠j):R l[i] l[j]\/R l[j] l[i]:=by
 rcases Nat.lt_or_gt_of_ne e with b | b
 ·exact .inl (List.pairwise_iff_getElem.1 h i j d f b)
 ·exact .inr (List.pairwise_iff_getElem.1 h j i f d b)
theorem jcM (n:Nat):(Z9o n n&&true)=true:=by
 rw [Bool.and_true]
 exact Nat.beq_refl n
theorem jqY {l:List C} (k:j4G l=true) (n m:ByteArray) {i:Nat} (f:i<l.length) (h:l[i].1=n):l.map (j8D n m)=l.set i (m,l[i].2):=by
 have p:=((j6q l).1 k).2
 have:j8D n m=λc:C=>bif sEq c.1 n then (m,c.2) else c:=by
  funext c
  unfold j8D ren
  cases sEq c.1 n<;>rfl
 rw [this]
 refine jp2 (λc:C=>sEq c.1 n) (λc=>(m,c.2)) l i f ((j09 _ _).2 h) λj g e=> ?_
 have:l[j].1≠n:=λd=>by
  rcases jlz p f g e.symm with b | b
  ·exact b (h.trans d.symm)
  ·exact b (d.trans h.symm)
 cases q:sEq l[j].1 n
 ·rfl
 ·exact absurd ((j09 _ _).1 q) this
theorem jqZ {cs:List C} {ks:List ByteArray} (q:j19 cs (-1) ks=true) (n m:ByteArray):ks.map (ren n m)=bif decide (Z9F (λx=>sEq n x) ks>=0) then ks.set (Z9F (λx=>sEq n x) ks).toNat m else ks:=by
 have w:=((j4S cs ks (-1)).1 q).2
 have:ren n m=λs=>bif sEq s n then m else s:=by funext s;rfl
 rw [this]
 have d:∀ a b:ByteArray,sEq a b=sEq b a:=λa b=>by
  rw [Bool.eq_iff_iff,j09,j09]
  exact ⟨Eq.symm,Eq.symm⟩
 rcases ja5 (λx=>sEq n x) ks with ⟨g,f⟩ | ⟨i,k,g,f,_⟩
 ·rw [g]
  exact map_none (λs=>sEq s n) (λ_=>m) ks λx z=>by rw [d];exact f x z
 ·rw [g,decide_eq_true (by omega),cond_true,Int.toNat_natCast]
  refine jp2 (λs=>sEq s n) (λ_=>m) ks i k (by rw [d];exact f) λj p e=> ?_
  have r:n=ks[i]:=(j09 _ _).1 f
  cases y:sEq ks[j] n
  ·rfl
  ·have l:ks[j]=ks[i]:=((j09 _ _).1 y).trans r
   rcases jlz w k p e.symm with h | h<;>rw [l] at h<;>exact absurd h (Int.lt_irrefl _)
theorem jrF {α:Type} (z:α) (l:List α) (i:Nat) (b:i<l.length) (x:α):nth z (upd l (i:Int) x) (i:Int)=x:=by
 rw [ZaF,Zay _ _ _ (by simpa using b),List.getElem_set_self]
theorem jp9 (c:List T) (d:D) (i:Nat) (b:i<c.length) (Q:c.length<=1048576) (ht:j04 c[i]=true) (K:tSm c[i]) (l:j0q c[i] d=0) (I:d.1=2\/d.1=3\/d.1=4\/d.1=5) (w:d.1=3->0<d.2.2.1.length) (k:List T->Res) :
  j1i (i:Int) d.1 d c k=k (bif d.1==2 then c.eraseIdx i else c.set i (ja4 c[i] d)):=by
 obtain ⟨V,W,X,Y,Z⟩:=K
 obtain ⟨_,t1,t2,t3,L,M⟩:=(j6J _).1 ht
 unfold j1i
 have f:inb (i:Int) c.length=true:=j00 b
 rcases I with h | h | h | h
 ·rw [h]
  simp only [show ((2:Int)==1)=false from rfl,show ((2:Int)==2)=true from rfl,cond_false,cond_true]
  unfold j4o jbd
  rw [j01 (n:=(i:Int)+1) (by omega),show Z8e (i:Int) ((i:Int)+1) c.length=true from j9l (j:=i+1) ⟨by omega,by omega⟩,cond_true,List.eraseIdx_eq_take_drop_succ]
  rfl
 ·have w:=w h
  have m:∀ x:T,inb (i:Int) (c.set i x).length=true:=λx=>j00 (by simpa using b)
  have p:inb 0 d.2.2.1.length=true:=j00 (i:=0) w
  rw [h]
  simp only [show ((3:Int)==1)=false from rfl,show ((3:Int)==2)=false from rfl,show ((3:Int)==3)=true from rfl,cond_false,cond_true]
  rw [f,cond_true,p,cond_true,Zay _ _ _ b,ZaL (by unfold LIM;omega),cond_true,ZaF,m,cond_true,jcM,cond_true]
  unfold ja4 jj2
  rw [h]
  rfl
 ·rw [h]
  simp only [show ((4:Int)==1)=false from rfl,show ((4:Int)==2)=false from rfl,show ((4:Int)==3)=false from rfl,show ((4:Int)==4)=true from rfl,cond_false,cond_true]
  rw [f,cond_true,Zay _ _ _ b]
  unfold j2y
  rw [ZaL (by unfold LIM;omega),cond_true,jnn (g:=λ(e:C) k=>jbg e d k) (λx:C=>sEq x.1 d.2.2.2.2.1) c[i].2.1 (λx R U=>rfl),List.nil_append]
  simp only [jcM,cond_true,ZaF]
  unfold ja4 jgd
  rw [h]
  rfl
 ·have P:¬ j02 c[i].2.1 d.2.2.2.2.1<0:=λA=>by
   unfold j0q at l
   rw [h] at l
   simp only [show ((5:Int)==3)=false from rfl,show ((5:Int)==4)=false from rfl,show ((5:Int)==5)=true from rfl,cond_false,cond_true,decide_eq_true A] at l
   cases H: !decide (j02 c[i].2.1 d.2.2.2.2.2<0)<;>rw [H] at l<;>cases l
  rcases j17 c[i].2.1 d.2.2.2.2.1 with ⟨B,_⟩ | ⟨j,y,B,z,_⟩
  ·omega
  rw [h]
  simp only [show ((5:Int)==1)=false from rfl,show ((5:Int)==2)=false from rfl,show ((5:Int)==3)=false from rfl,show ((5:Int)==4)=false from rfl,show ((5:Int)==5)=true from rfl,cond_false,cond_true]
  rw [f,cond_true,j7H _ _ (by rw [Zay _ _ _ b];unfold LIM;omega)]
  simp only [Zay _ _ _ b,jrF _ _ _ b]
  rw [B]
  simp only [Zay _ _ _ y]
  rw [j00 y,cond_true,jrz _ _ (by unfold LIM;omega)]
  have E:=jqY L d.2.2.2.2.1 d.2.2.2.2.2 y z
  have F:=jqZ M d.2.2.2.2.1 d.2.2.2.2.2
  have G:ja4 c[i] d=(c[i].1,c[i].2.1.map (j8D d.2.2.2.2.1 d.2.2.2.2.2),c[i].2.2.map (ren d.2.2.2.2.1 d.2.2.2.2.2)):=by
   unfold ja4 jec
   rw [h]
   rfl
  rw [G,E,F]
  rcases ja5 (λx=>sEq d.2.2.2.2.1 x) c[i].2.2 with ⟨r,_⟩ | ⟨q,J,r,_,_⟩
  ·rw [r,ZaF,ZaF]
   rfl
  ·rw [r,decide_eq_true (by omega),cond_true,cond_true,j00 J,cond_true]
   simp only [ZaF,Int.toNat_natCast]
   rw [List.set_set]
theorem jos (c:List T) (d:D) (z:msr (.slice yT) c<=1048576) (n:dSm d) (k:List T->Int->Res):j4x c d k=k (jeL c d).1 (jeL c d).2:=by
 obtain ⟨G,C⟩:=jd9 z
 unfold j4x jeL
 rw [jk6 c z]
 cases A:j22 c
 ·rfl
 rw [Bool.not_true,cond_false,Bool.false_or,jg1 d n]
 cases m:j0X d
 ·rfl
 rw [Bool.not_true,cond_false,cond_false,jiF _ _ z m,jiE c z,j7J _ _ (by unfold LIM;omega)]
 obtain ⟨L,H⟩:=jfn m
 cases f:(j0a c d != 0)
 rotate_left
 ·rfl
 rw [cond_false,cond_false]
 have f:j0a c d=0:=by simpa using f
 have B:=(j0c c).1 A
 by_cases F:d.1=1
 ·unfold j0a at f
  unfold j0Y
  rw [F] at f ⊢
  simp only [show ((1:Int)==1)=true from rfl,cond_true] at f ⊢
  rcases j0x c d.2.1 with ⟨w,r⟩ | ⟨i,j,w,_⟩
  ·unfold j1i
   simp only [show ((1:Int)==1)=true from rfl,cond_true]
   rw [jny _ _ G,jiH _ n]
   unfold j4p jeP
   obtain ⟨p,M,g,q⟩:=joX (R:=tR) (λa b h=>jq8 h) (x:=((d.2.1,d.2.2.1,d.2.2.2.1):T)) (l:=c) (λy K=>jhO λe=>r y K e.symm)
   have g:p=(c.takeWhile λy=>sLt y.1 d.2.1).length:=g
   rw [<-g]
   have I:jj9 (p:Int) c.length [((d.2.1,d.2.2.1,d.2.2.2.1):T)].length=true:=decide_eq_true ⟨by omega,by omega,by simp,by simp;unfold LIM;omega⟩
   rw [I,cond_true,q,Int.toNat_natCast,List.append_assoc]
   rfl
  ·rw [decide_eq_false (by omega)] at f
   cases f
 ·have J:d.1=2\/d.1=3\/d.1=4\/d.1=5:=by omega
  unfold j0a at f
  unfold j0Y
  have E:(d.1==1)=false:=by simpa using F
  rw [E,cond_false] at f
  rw [E,cond_false]
  rcases j0x c d.2.1 with ⟨w,r⟩ | ⟨i,j,w,_⟩
  ·rw [decide_eq_true (by omega)] at f
   cases f
  ·rw [decide_eq_false (by omega),cond_false,w,Zay _ _ _ j] at f
   rw [w,Zay _ _ _ j,Int.toNat_natCast,jp9 c d i j G (B.2.1 _ (List.getElem_mem j)) (C _ (List.getElem_mem j)) f J H]
end Go.PI.G
namespace Go.PI.G
open Go Go.PI Go.Proofs
theorem j7I (l:List (List V)) (h:l.length<=1048576) (f:∀ x∈l,x.length<=1048576) (k:List (List V)->Res):j0o l k=k l:=by
 unfold j0o jde
 have:=Z9T l (λi b=>(b,i)) (λx=>[x]) 1048576 [] (step:=j7L l (nI l.length)) (λb=>k b) (λb=>k b) (by unfold LIM;omega) (λi d _=>by
  rw [j0K,List.nil_append,List.length_take];omega) (by simp) (λi b rec d j g=>by
  show j2i _ _ _ _ _ _=_
  unfold j2i j0U
  dsimp only
  rw [ZaQ d,cond_true,j00 d,cond_true,Zay _ _ _ d,jbP (f _ (List.getElem_mem d)),cond_true,ZaL (by unfold LIM;omega),cond_true,j01 (n:=(i:Int)+1) (by omega)]) (λb rec=>by
  show j2i _ _ _ _ _ _=_
  unfold j2i
  dsimp only
  rw [ZaP,cond_false])
 refine this.trans ?_
 rw [j0K,List.nil_append]
theorem jk9 (t:T) (h:msr yT t<=1048576) (ht:j04 t=true) (l:List (List V)) (r:List V) (g:∀ x∈l,x.length=t.2.1.length) (p:l.length<=60) (j:r.length=t.2.1.length) (k:Int->Res) :
  jbk l t r Z1c 0 k=k (((l.takeWhile λy=>kR t y r).length:Nat):Int):=by
 have f:∀ x:List V,(j06 t x).length<=LIM:=λx=>by
  rw [j9o]
  have:=(j2w h).2.2.1
  unfold LIM;omega
 have q:(l.takeWhile λy=>kR t y r).length<=l.length:=(List.takeWhile_sublist _).length_le
 refine Z3u (step:=j3D l t r) (λi=>(i:Int)) (l.takeWhile λy=>kR t y r).length k _ (λi m rec=> ?_) (λrec=> ?_) Z1c (Z2b (by omega))
 ·obtain ⟨b,d⟩:=jof _ l i m
  have d:klt (j06 t l[i]) (j06 t r)=true:=d
  show j24 _ _ _ _ _ _=_
  unfold j24
  rw [ZaQ b,cond_true,j00 b,cond_true,Zay _ _ _ b,j3a t h ht _ (g _ (List.getElem_mem b)),j3a t h ht r j,jbf _ _ (f _),d,cond_true,j01 (n:=(i:Int)+1) (by omega)]
  rfl
 ·show j24 _ _ _ _ _ _=_
  unfold j24
  by_cases b:(l.takeWhile λy=>kR t y r).length<l.length
  ·have d:klt (j06 t l[(l.takeWhile λy=>kR t y r).length]) (j06 t r)=false:=joe (λy=>kR t y r) l b
   rw [ZaQ b,cond_true,j00 b,cond_true,Zay _ _ _ b,j3a t h ht _ (g _ (List.getElem_mem b)),j3a t h ht r j,jbf _ _ (f _),d,cond_false]
  ·rw [decide_eq_false (show ¬ (((l.takeWhile λy=>kR t y r).length:Nat):Int)<nI l.length by unfold nI;omega),cond_false]
theorem jpg (t:T):∀ a b:List V,kR t a b=true->kR t b a=false:=λa b h=>jpW h
theorem jgG (t:T) (h:msr yT t<=1048576) (ht:j04 t=true) (l:List (List V)) (r:List V) (n:∀ x∈l,j0m t.2.1 x=true) (f:l.length<=60) (q:j0m t.2.1 r=true) (g:∀ x∈l,j06 t x≠j06 t r) (k:List (List V)->Res) :
  j29 t l r k=k (jg7 t l r):=by
 have A:=(j2w h).2.1
 have b:∀ x∈l,x.length=t.2.1.length:=λx m=>j0t (n x m)
 have j:=j0t q
 unfold j29
 rw [jk9 t h ht l r b f j,j7I l (by omega) (λx m=>by rw [b x m];omega)]
 unfold j0U j5l jeP
 rw [jbP (by omega),cond_true]
 obtain ⟨p,B,i,d⟩:=joX (R:=kR t) (jpg t) (x:=r) (l:=l) (λy w=>jnE ht q (n y w) (λe=>g y w e.symm))
 rw [<-i]
 have z:jj9 (p:Int) l.length [r].length=true:=decide_eq_true ⟨by omega,by omega,by simp,by simp;unfold LIM;omega⟩
 dsimp only
 rw [z,cond_true,Int.toNat_natCast,List.append_assoc]
 unfold jg7
 rw [d]
 rfl
theorem jrl {t:T} {l:List (List V)} {b:List V} (h:j07 t l b<0):∀ x∈l,j06 t x≠b:=jnK h
theorem jmB (t:T) (h:msr yT t<=1048576) (l:List (List V)) (r:List V) (k:List (List V)->Int->Res):j76 t l r k=k (j5V t l r).1 (j5V t l r).2:=by
 unfold j76 j5V
 rw [j8R t h]
 cases d:j08 t l
 ·rfl
 obtain ⟨ht,g,i⟩:=j0g d
 rw [Bool.not_true,cond_false,cond_false,jg2 t h]
 cases f:j0m t.2.1 r
 ·rfl
 rw [Bool.not_true,cond_false,cond_false,j3a t h ht r (j0t f),j3x t h l d,jgf]
 by_cases b:j07 t l (j06 t r)<0
 rotate_left
 ·rw [decide_eq_false b];rfl
 rw [decide_eq_true b,Bool.not_true,cond_false,cond_false,show (nI l.length==(60:Int))=(l.length==60) from joY _ 60]
 cases (l.length==60)
 ·rw [cond_false,cond_false,jgG t h ht l r i g f (jrl b)]
 ·rfl
theorem jpV {t:T} (ht:j04 t=true) {n:ByteArray} (d:n∈t.2.2) (v:V):j3v (nth zC t.2.1 (j02 t.2.1 n)) v=(j0n v&&(v.1==(nth zC t.2.1 (j02 t.2.1 n)).2.1)):=by
 have b:=(((j4S _ _ _).1 ((j6J t).1 ht).2.2.2.2.2).1 n d).2
 unfold j3v
 rw [b,Bool.not_true,Bool.and_false,Bool.or_false]
theorem jhv (t:T) (h:msr yT t<=1048576) (b:List V) (k:Bool->Res):j4L t b k=k (jaf t b):=by
 unfold j4L jaf
 obtain ⟨p,q,r,w,y⟩:=j2w h
 rw [jg3 t h]
 cases ht:j04 t
 ·rfl
 rw [Bool.not_true,cond_false,Bool.true_and]
 by_cases f:b.length=t.2.2.length
 rotate_left
 ·rw [jkc f,cond_true,decide_eq_false f,Bool.false_and]
 rw [jkb f,cond_false,decide_eq_true f,Bool.true_and]
 unfold jc5
 have:=Z9P t.2.2 (λi=>i) (λi n=> !j3v (nth zC t.2.1 (j02 t.2.1 n)) (nth zV b (i:Int))) (step:=j4M b t.2.2 (nI t.2.2.length) t) ((λ(_:Unit)=>k true),(λ(_:Unit)=>k false)) (k true) (k false) (by unfold LIM;omega) (λi rec d=>by
  have g:=jpV ht (List.getElem_mem d) (nth zV b (i:Int))
  obtain ⟨j,l,m⟩:=jnG ht (List.getElem_mem d)
  show j2u _ _ _ _ _ _ _ _=_
  unfold j2u
  rw [g,ZaQ d,cond_true,j00 d,cond_true,j00 (f ▸ d),cond_true,j8e,Zay _ _ _ d]
  cases j0n (nth zV b (i:Int))
  ·rfl
  ·rw [Bool.not_true,cond_false,cond_true,j7H _ _ (by unfold LIM;omega),m,j00 l,cond_true,j01 (n:=(i:Int)+1) (by omega),Bool.true_and]
   rfl) (λrec=>by
  show j2u _ _ _ _ _ _ _ _=_
  unfold j2u
  rw [ZaP,cond_false])
 refine this.trans ?_
 cases Z71 (λi n=> !j3v (nth zC t.2.1 (j02 t.2.1 n)) (nth zV b (i:Int))) 0 t.2.2<;>rfl
theorem jlS (l:List (List V)) (i:Nat) (b:i<l.length) (d:l.length<=60) (k:List (List V)->Res):j0L l (i:Int) (Z9K ((i:Int)+1)) k=k (l.eraseIdx i):=by
 unfold j0L jbd
 rw [j01 (n:=(i:Int)+1) (by omega),show Z8e (i:Int) ((i:Int)+1) l.length=true from j9l (j:=i+1) ⟨by omega,by omega⟩,cond_true,List.eraseIdx_eq_take_drop_succ]
 rfl
theorem jmC (t:T) (h:msr yT t<=1048576) (l:List (List V)) (d r:List V) (k:List (List V)->Int->Res):j77 t l d r k=k (j5W t l d r).1 (j5W t l d r).2:=by
 unfold j77 j5W
 rw [j8R t h]
 cases g:j08 t l
 ·rfl
 obtain ⟨ht,D,H⟩:=j0g g
 rw [Bool.not_true,cond_false,cond_false,jg2 t h]
 cases w:j0m t.2.1 r
 ·rfl
 rw [Bool.not_true,cond_false,cond_false,jhv t h]
 cases jaf t d
 ·rfl
 rw [Bool.not_true,cond_false,Bool.false_or,j3x t h l g]
 by_cases f:j07 t l d<0
 ·rw [decide_eq_true f];rfl
 rw [decide_eq_false f,cond_false,cond_false,j3a t h ht r (j0t w),jm8 g f]
 obtain ⟨i,A,m⟩:=jed f
 have p:=je4 g i
 obtain ⟨_,B,C⟩:=j0g p
 have b:=jm8 g (now:=j06 t r) f
 rw [m,Int.toNat_natCast] at b
 have n:(j06 t r).length<=LIM:=by
  rw [j9o]
  have:=(j2w h).2.2.1
  unfold LIM;omega
 unfold j5H
 rw [je6 _ _ n,m,Int.toNat_natCast,j3x t h l g,jgf]
 have j:decide (j07 t (l.eraseIdx i) (j06 t r)<0)=true->j0o l (λE=>j0L E (i:Int) (Z9K ((i:Int)+1)) λF=>j29 t F r λG=>k G 0)=k (jg7 t (l.eraseIdx i) r) 0:=λz=>by
  rw [j7I l (by omega) (jfy h g),jlS l i A D,jgG t h ht _ r C B w (jrl (of_decide_eq_true z))]
 cases q:j1w zV veq (j06 t r) d
 ·rw [q] at b
  rw [Bool.not_false,cond_true,Bool.true_and]
  rw [Bool.not_false,Bool.true_and] at b
  cases y: !decide (j07 t l (j06 t r)<0)
  ·rw [y] at b
   rw [cond_false,cond_false,j3x t h l g,m]
   exact j (by simpa using b)
  ·rfl
 ·rw [q] at b
  rw [Bool.not_true,cond_false,Bool.false_and,cond_false,j3x t h l g,m]
  exact j (by simpa using b)
theorem jmA (t:T) (h:msr yT t<=1048576) (l:List (List V)) (b:List V) (k:List (List V)->Int->Res):j75 t l b k=k (j5U t l b).1 (j5U t l b).2:=by
 unfold j75 j5U
 rw [j8R t h]
 cases f:j08 t l
 ·rfl
 obtain ⟨ht,m,n⟩:=j0g f
 rw [Bool.not_true,cond_false,cond_false,jhv t h]
 cases jaf t b
 ·rfl
 rw [Bool.not_true,cond_false,Bool.false_or,j3x t h l f]
 by_cases d:j07 t l b<0
 ·rw [decide_eq_true d];rfl
 rw [decide_eq_false d,cond_false,cond_false]
 obtain ⟨i,j,g⟩:=jed d
 rw [j3x t h l f,g,Int.toNat_natCast,j7I l (by omega) (jfy h f),jlS l i j m]
end Go.PI.G
namespace Go.PI.G
open Go Go.PI Go.Proofs
theorem jpF {t:T} {d:D} (g:d.2.1=t.1) (f:d.1≠1):j0a [t] d=j0q t d:=by
 have b:j05 [t] d.2.1=(0:Int):=by
  have:=jen (c:=[t]) (by simp) (i:=0) (by simp)
  rw [g]
  exact this
 unfold j0a
 rw [show (d.1==1)=false by simpa using f,cond_false,b]
 rfl
theorem jnv (d:D) (l:List (List V)) (m:l.length<=60) (j:∀ x∈l,x.length<=1048576) (h:0<d.2.2.1.length) (k:List (List V)->Res):j7l (nI l.length) d Z1c l 0 k=k (l.map λx=>x++[(nth zC d.2.2.1 0).2.2.2.2]):=by
 unfold j7l
 have:=Z3u (step:=j5h (nI l.length) d) (λi=>((l.take i).map (λx:List V=>x++[(nth zC d.2.2.1 0).2.2.2.2])++l.drop i,(i:Int))) l.length k (k (l.map λx=>x++[(nth zC d.2.2.1 0).2.2.2.2])) (λi b rec=> ?_) (λrec=> ?_) Z1c (Z2b (by omega))
 ·refine Eq.trans ?_ this
  simp
 ·show j2M _ _ _ _ _ _=_
  unfold j2M
  dsimp only
  have p:=j _ (List.getElem_mem b)
  have g:inb (i:Int) ((l.take i).map (λx:List V=>x++[(nth zC d.2.2.1 0).2.2.2.2])++l.drop i).length=true:=j00 (by rw [jfp];exact b)
  have f:∀ y:List V,inb (i:Int) (((l.take i).map (λx:List V=>x++[(nth zC d.2.2.1 0).2.2.2.2])++l.drop i).set i y).length=true:=λy=>j00 (by rw [List.length_set,jfp];exact b)
  rw [ZaQ b,cond_true,g,cond_true,show inb 0 d.2.2.1.length=true from j00 (i:=0) h,cond_true,jnr _ _ _ _ b,ZaL (by unfold LIM;omega),cond_true,ZaF,f,cond_true,jcM,cond_true,j01 (n:=(i:Int)+1) (by omega),<-jns _ _ _ b]
  rfl
 ·show j2M _ _ _ _ _ _=_
  unfold j2M
  dsimp only
  rw [ZaP,cond_false,List.take_length,List.drop_length,List.append_nil]
theorem jnx (a:Nat) (l:List (List V)) (z:l.length<=60) (q:∀ x∈l,a<x.length/\x.length<=1048576) (k:List (List V)->Res):j7m (a:Int) (nI l.length) Z1c l 0 k=k (l.map λx=>x.eraseIdx a):=by
 unfold j7m
 have:=Z3u (step:=j5i (a:Int) (nI l.length)) (λi=>((l.take i).map (λx:List V=>x.eraseIdx a)++l.drop i,(i:Int))) l.length k (k (l.map λx=>x.eraseIdx a)) (λi b rec=> ?_) (λrec=> ?_) Z1c (Z2b (by omega))
 ·refine Eq.trans ?_ this
  simp
 ·show j2N _ _ _ _ _ _=_
  unfold j2N j8F jbd
  dsimp only
  obtain ⟨r,w⟩:=q _ (List.getElem_mem b)
  have f:inb (i:Int) ((l.take i).map (λx:List V=>x.eraseIdx a)++l.drop i).length=true:=j00 (by rw [jfp];exact b)
  have d:∀ y:List V,inb (i:Int) (((l.take i).map (λx:List V=>x.eraseIdx a)++l.drop i).set i y).length=true:=λy=>j00 (by rw [List.length_set,jfp];exact b)
  have p:l[i].take a++l[i].drop (a+1)=l[i].eraseIdx a:=(List.eraseIdx_eq_take_drop_succ _ _).symm
  have m:Z8e (a:Int) ((a:Int)+1) l[i].length=true:=j9l (j:=a+1) ⟨by omega,by omega⟩
  have g:(a:Int).toNat=a:=Int.toNat_natCast a
  have h:((a:Int)+1).toNat=a+1:=by omega
  rw [ZaQ b,cond_true,f,cond_true,jnr _ _ _ _ b,j01 (n:=(a:Int)+1) (by omega),m,cond_true,g,h,p,ZaF,d,cond_true,jcM,cond_true,j01 (n:=(i:Int)+1) (by omega),<-jns _ _ _ b]
  rfl
 ·show j2N _ _ _ _ _ _=_
  unfold j2N
  dsimp only
  rw [ZaP,cond_false,List.take_length,List.drop_length,List.append_nil]
theorem jlc (t:T) (h:msr yT t<=1048576) (l:List (List V)) (g:j08 t l=true) (d:D) (n:dSm d) (m:j0X d=true) (w:d.2.1=t.1) (i:d.1≠1) (k:List (List V)->Int->Res) :
  j5I t l d k=k (bif j0q t d != 0 then [] else bif d.1==2 then [] else jeK t d l) (j0q t d):=by
 obtain ⟨ht,z,F⟩:=j0g g
 obtain ⟨f,A⟩:=jfn m
 unfold j5I j4N
 rw [j8R t h,g,Bool.not_true,cond_false,jg1 d n,m,Bool.not_true,cond_false]
 have r:sNe d.2.1 t.1=false:=by unfold sNe;rw [w];simp
 rw [r,cond_false,show (d.1==1)=false by simpa using i]
 dsimp only
 rw [cond_false,jiF _ _ (jl7 ht).2 m,jpF w i]
 cases B:(j0q t d != 0)
 rotate_left
 ·rfl
 have b:j0q t d=0:=by simpa using B
 have q:=(j2w h).2.1
 rw [cond_false,cond_false,j7I l (by omega) (jfy h g),b]
 rcases f with e | e | e | e | e
 ·exact absurd e i
 ·rw [e];rfl
 ·unfold jeK
  rw [e]
  simp only [show ((3:Int)==2)=false from rfl,show ((3:Int)==3)=true from rfl,cond_false,cond_true]
  rw [jnv d l z (jfy h g) (A e)]
 ·unfold jeK
  have G:¬ j02 t.2.1 d.2.2.2.2.1<0:=λp=>by
   unfold j0q at b
   rw [e] at b
   simp only [show ((4:Int)==3)=false from rfl,show ((4:Int)==4)=true from rfl,cond_false,cond_true,decide_eq_true p] at b
   cases b
  rcases j17 t.2.1 d.2.2.2.2.1 with ⟨y,_⟩ | ⟨j,C,y,_,_⟩
  ·omega
  rw [e]
  simp only [show ((4:Int)==2)=false from rfl,show ((4:Int)==3)=false from rfl,show ((4:Int)==4)=true from rfl,cond_false,cond_true]
  rw [j7H _ _ (by unfold LIM;omega),y,jnx j l z (λx E=>by rw [j0t (F x E)];exact ⟨C,q⟩)]
  rfl
 ·unfold jeK
  rw [e]
  rfl
end Go.PI.G
namespace Go.PI.G
open Go Go.PI Go.Proofs
theorem jcS {c:List T} (h:j22 c=true):msr (.slice yT) c<=1048576:=by
 obtain ⟨b,d,_⟩:=(j0c c).1 h
 have:=j9X (e:=yT) 400 c (λt ht=>jbo (d t ht))
 have f:c.length * (400+1)<=6 * 401:=Nat.mul_le_mul b (Nat.le_refl _)
 omega
theorem ji0 (l:List (List V)) (h:l.length<=1048576) (f:∀ x∈l,x.length<=1048576) (k:List (List V)->Res):j6k l k=k l:=by
 unfold j6k jel
 have:=Z9T l (λi b=>(b,i)) (λx=>[x]) 1048576 [] (step:=j8J l (nI l.length)) (λb=>k b) (λb=>k b) (by unfold LIM;omega) (λi d _=>by
  rw [j0K,List.nil_append,List.length_take];omega) (by simp) (λi b rec d j g=>by
  show j33 _ _ _ _ _ _=_
  unfold j33 j0w
  dsimp only
  rw [ZaQ d,cond_true,j00 d,cond_true,Zay _ _ _ d,jbP (f _ (List.getElem_mem d)),cond_true,ZaL (by unfold LIM;omega),cond_true,j01 (n:=(i:Int)+1) (by omega)]) (λb rec=>by
  show j33 _ _ _ _ _ _=_
  unfold j33
  dsimp only
  rw [ZaP,cond_false])
 refine this.trans ?_
 rw [j0K,List.nil_append]
theorem jj8 {d:DB} (h:dbB d=true):j22 d.1=true/\d.1.length<=6/\d.2.length=d.1.length/\∀ x∈d.2,x.length<=60/\∀ r∈x,r.length<=1048576:=by
 obtain ⟨b,k,l⟩:=(j1H d).1 h
 have n:=jcS b
 refine ⟨b,((j0c _).1 b).1,k,λx p=> ?_⟩
 obtain ⟨i,m,rfl⟩:=List.mem_iff_getElem.1 p
 have g:=l i (by omega) m
 refine ⟨(j0g g).2.1,λr f=> ?_⟩
 have q:=j0t ((j0g g).2.2 r f)
 have j:=(jd9 n).2 _ (List.getElem_mem (show i<d.1.length by omega))
 have:=j.2.1
 omega
theorem jkM (d:DB) (h:dbB d=true) (k:DB->Res):j1F d k=k d:=by
 obtain ⟨g,m,p,j⟩:=jj8 h
 unfold j1F
 rw [jiN _ (jcS g)]
 unfold jaK
 have:=Z9T d.2 (λi b=>(i,(d.1,b))) (λx=>[x]) 1048576 [] (step:=j5w d.2 (nI d.2.length)) (λb=>k b) (λb=>k (d.1,b)) (by unfold LIM;omega) (λi f _=>by
  rw [j0K,List.nil_append,List.length_take];omega) (by simp) (λi b rec f r q=>by
  show j35 _ _ _ _ _ _=_
  unfold j35
  obtain ⟨w,l⟩:=j _ (List.getElem_mem f)
  dsimp only
  rw [ZaQ f,cond_true,j00 f,cond_true,Zay _ _ _ f,ji0 _ (by omega) l,ZaL (by unfold LIM;omega),cond_true,j01 (n:=(i:Int)+1) (by omega)]) (λb rec=>by
  show j35 _ _ _ _ _ _=_
  unfold j35
  dsimp only
  rw [ZaP,cond_false])
 refine this.trans ?_
 rw [j0K,List.nil_append]
theorem jg0 (d:DB) (h:dbB d=true) (k:DB->Res):j18 d k=k d:=by
 obtain ⟨g,m,p,j⟩:=jj8 h
 unfold j18
 rw [jiE _ (jcS g)]
 unfold jbj
 have:=Z9T d.2 (λi b=>(i,(d.1,b))) (λx=>[x]) 1048576 [] (step:=j6y d.2 (nI d.2.length)) (λb=>k b) (λb=>k (d.1,b)) (by unfold LIM;omega) (λi f _=>by
  rw [j0K,List.nil_append,List.length_take];omega) (by simp) (λi b rec f r q=>by
  show j3C _ _ _ _ _ _=_
  unfold j3C
  obtain ⟨w,l⟩:=j _ (List.getElem_mem f)
  dsimp only
  rw [ZaQ f,cond_true,j00 f,cond_true,Zay _ _ _ f,j7I _ (by omega) l,ZaL (by unfold LIM;omega),cond_true,j01 (n:=(i:Int)+1) (by omega)]) (λb rec=>by
  show j3C _ _ _ _ _ _=_
  unfold j3C
  dsimp only
  rw [ZaP,cond_false])
 refine this.trans ?_
 rw [j0K,List.nil_append]
theorem jo8 (t:T) (h:msr yT t<=1048576) (l:List (List V)) (s:ST) (b:s.1≠5) (k:List (List V)->Int->Res):j1d t l s k=k (j2x t l s).1 (j2x t l s).2:=by
 unfold j1d j2x
 cases (s.1==1)
 ·rw [cond_false,cond_false]
  cases (s.1==2)
  ·rw [cond_false,cond_false]
   cases (s.1==3)
   ·rw [cond_false,cond_false,show (s.1==5)=false by simpa using b]
    rfl
   ·rw [cond_true,cond_true,jn0 t h]
  ·rw [cond_true,cond_true,jn2 t h]
 ·rw [cond_true,cond_true,jn1 t h]
end Go.PI.G
namespace Go.PI.G
open Go Go.PI Go.Proofs
theorem jrR (b:Int) (s:ST) (a z:Res):j81 b s (λ_=>a) (λ_=>z)=bif decide (b<0)&& !((s.1==5)&&(s.2.2.2.2.1==1)) then z else a:=by
 unfold j81
 cases decide (b<0)
 ·rfl
 ·rw [cond_true,Bool.true_and]
  unfold bne
  cases (s.1==5)
  ·rfl
  ·cases (s.2.2.2.2.1==1)<;>rfl
theorem joP {t:T} {l:List (List V)} {s:ST}:0<=(j2x t l s).2/\(j2x t l s).2<=5:=by
 unfold j2x j5V j5W j5U
 cases (s.1==1)
 ·cases (s.1==2)
  ·cases (s.1==3)
   ·simp
   ·simp only [cond_true,cond_false]
    cases j08 t l
    ·simp
    ·cases (!jaf t s.2.2.1||decide (j07 t l s.2.2.1<0))<;>simp
  ·simp only [cond_true,cond_false]
   cases j08 t l
   ·simp
   ·cases j0m t.2.1 s.2.2.2.1
    ·simp
    ·cases (!jaf t s.2.2.1||decide (j07 t l s.2.2.1<0))
     ·cases !decide (j07 t (l.eraseIdx (j07 t l s.2.2.1).toNat) (j06 t s.2.2.2.1)<0)<;>simp
     ·simp
 ·simp only [cond_true,cond_false]
  cases j08 t l
  ·simp
  ·cases j0m t.2.1 s.2.2.2.1
   ·simp
   ·cases !decide (j07 t l (j06 t s.2.2.2.1)<0)
    ·cases (l.length==60)<;>simp
    ·simp
theorem jo4 (d:DB) (h:dbB d=true) (s:ST) (q:s.1≠5) (i:Nat) (f:i<d.1.length) (g:j05 d.1 s.2.1=(i:Int)) (k:DB->Int->Res) :
  (bif inb (i:Int) d.1.length then
          bif inb (i:Int) d.2.length then
           j1d (nth zT d.1 (i:Int)) (nth [] d.2 (i:Int)) s λ(w:List (List V)) (r:Int)=>
            bif (r != 0) then
             k ([],[]) (Z9K (10+r))
            else
             j1F d λ(m:DB)=>
              bif inb (i:Int) (List.length m.2) then
               k (m.1,upd m.2 (i:Int) w) 0
              else none
          else none
         else none)=k (j1T d s).1 (j1T d s).2:=by
 obtain ⟨p,y,z⟩:=(j1H d).1 h
 have b:i<d.2.length:=by omega
 have B:=(jd9 (jcS p)).2 _ (List.getElem_mem f)
 have ht:j04 d.1[i]=true:=((j0c _).1 p).2.1 _ (List.getElem_mem f)
 have j:msr yT d.1[i]<=1048576:=Nat.le_trans (jbo ht) (by omega)
 rw [j00 f,cond_true,j00 b,cond_true,Zay _ _ _ f,Zay _ _ _ b,jo8 _ j _ _ q]
 unfold j1T
 rw [g,decide_eq_false (by omega),Bool.false_and,cond_false,show (s.1==5)=false by simpa using q,cond_false,Zay _ _ _ f,Zay _ _ _ b]
 have A:=joP (t:=d.1[i]) (l:=d.2[i]) (s:=s)
 cases C:((j2x d.1[i] d.2[i] s).2 != 0)
 ·rw [cond_false,cond_false,jkM d h,j00 b,cond_true,ZaF,Int.toNat_natCast]
 ·rw [cond_true,cond_true,j01 (n:=10+(j2x d.1[i] d.2[i] s).2) (by omega)]
end Go.PI.G
namespace Go.PI.G
open Go Go.PI Go.Proofs
noncomputable def j99 (d:DB) (x:D) (u:T):List (List V):=
 bif decide (j05 d.1 u.1>=0)&&sEq u.1 x.2.1 then (bif x.1==2 then [] else jeK (nth zT d.1 (j05 d.1 u.1)) x (nth [] d.2 (j05 d.1 u.1)))
 else bif decide (j05 d.1 u.1>=0) then nth [] d.2 (j05 d.1 u.1) else []
theorem jps (d:DB) (h:dbB d=true) (s:ST) (z:s.1=5) (B:s.2.2.2.2.2.1=s.2.1) (q:dSm s.2.2.2.2) (E:j0X s.2.2.2.2=true) (l:j0a d.1 s.2.2.2.2=0) (u:T) (k:List (List V)->Res) :
  (j2d d.1 u.1 λ(r:Int)=>j34 r s u λ(t:Bool)=>j1M r t d s [] k)=k (j99 d s.2.2.2.2 u):=by
 obtain ⟨C,J,D⟩:=(j1H d).1 h
 obtain ⟨_,G,_,g⟩:=jj8 h
 rw [jdF _ _ (by unfold LIM;omega)]
 unfold j34 j1M j99
 rw [B]
 rcases j0x d.1 u.1 with ⟨p,_⟩ | ⟨i,n,p,A⟩
 ·rw [p]
  rfl
 ·have w:decide (j05 d.1 u.1>=0)=true:=decide_eq_true (by omega)
  have f:i<d.2.length:=by omega
  rw [w,Bool.true_and,cond_true,p,j00 n,j00 f,Zay _ _ _ n,Zay _ _ _ f]
  cases H:sEq u.1 s.2.1
  ·obtain ⟨K,I⟩:=g _ (List.getElem_mem f)
   simp only [cond_false,cond_true]
   rw [ji0 _ (by omega) I]
  ·have b:u.1=s.2.1:=(j09 _ _).1 H
   have ht:j04 d.1[i]=true:=((j0c _).1 C).2.1 _ (List.getElem_mem n)
   have y:msr yT d.1[i]<=1048576:=Nat.le_trans (jbo ht) (by omega)
   have m:j05 d.1 s.2.2.2.2.2.1=(i:Int):=by rw [B,<-b];exact p
   have j:s.2.2.2.2.1≠1:=λe=>by
    unfold j0a at l
    rw [e,m] at l
    rw [decide_eq_false (show ¬ (i:Int)<0 by omega)] at l
    cases l
   have F:j0q d.1[i] s.2.2.2.2=0:=by
    unfold j0a at l
    rw [show (s.2.2.2.2.1==1)=false by simpa using j,cond_false,m,decide_eq_false (show ¬ (i:Int)<0 by omega),cond_false,Zay _ _ _ n] at l
    exact l
   simp only [cond_true]
   unfold j1d
   rw [z]
   simp only [show ((5:Int)==1)=false from rfl,show ((5:Int)==2)=false from rfl,show ((5:Int)==3)=false from rfl,show ((5:Int)==5)=true from rfl,cond_false,cond_true,Z9Q]
   rw [jlJ _ y _ (D i n f) _ q E (by rw [B,<-b];exact A.symm) j,F]
   rfl
theorem jnl {c:List T} {d:D} (b:j22 c=true) (f:j0X d=true):jeL c d=bif j0a c d != 0 then ([],j0a c d) else (j0Y c d,0):=by
 unfold jeL
 rw [b,f]
 rfl
theorem jk1 (c:List T) (d:D):0<=j0a c d/\j0a c d<=8:=by
 unfold j0a j0q
 cases (d.1==1)
 ·cases decide (j05 c d.2.1<0)
  ·generalize nth zT c (j05 c d.2.1)=t
   cases (d.1==3)
   ·cases (d.1==4)
    ·cases (d.1==5)
     ·simp
     ·cases decide (j02 t.2.1 d.2.2.2.2.2<0)
      ·simp
      ·cases decide (j02 t.2.1 d.2.2.2.2.1<0)<;>simp
    ·cases decide (j02 t.2.1 d.2.2.2.2.1<0)
     ·cases t.2.2.any (λx=>sEq x d.2.2.2.2.1)<;>simp
     ·simp
   ·cases decide (j02 t.2.1 (nth zC d.2.2.1 0).1<0)
    ·simp
    ·cases (t.2.1.length==8)<;>simp
  ·simp
 ·cases decide (j05 c d.2.1<0)
  ·simp
  ·cases (c.length==6)<;>simp
theorem jlH (d:DB) (h:dbB d=true) (s:ST) (q:s.1=5) (y:s.2.2.2.2.2.1=s.2.1) (j:dSm s.2.2.2.2) (p:j0X s.2.2.2.2=true) (k:DB->Int->Res) :
  j3r d s k=bif j0a d.1 s.2.2.2.2 != 0 then k ([],[]) (10+j0a d.1 s.2.2.2.2) else k (j0Y d.1 s.2.2.2.2,(j0Y d.1 s.2.2.2.2).map (j99 d s.2.2.2.2)) 0:=by
 obtain ⟨m,z,A⟩:=(j1H d).1 h
 have D:=jk1 d.1 s.2.2.2.2
 unfold j3r
 rw [jiO _ _ (jcS m) j,jnl m p]
 cases r:(j0a d.1 s.2.2.2.2 != 0)
 rotate_left
 ·rw [cond_true]
  dsimp only
  rw [r,cond_true,cond_true,j01 (n:=10+j0a d.1 s.2.2.2.2) (by omega)]
 have g:j0a d.1 s.2.2.2.2=0:=by simpa using r
 have f:=jl9 m p g
 have w:=((j0c _).1 f).1
 rw [cond_false,cond_false]
 show (j5v (j0Y d.1 s.2.2.2.2) (nI (j0Y d.1 s.2.2.2.2).length) d s Z1c 0 (j0Y d.1 s.2.2.2.2,[]) λb=>k b 0)=_
 generalize j0Y d.1 s.2.2.2.2=c' at *
 unfold j5v
 have:=Z9T c' (λi b=>(i,(c',b))) (λu=>[j99 d s.2.2.2.2 u]) 6 [] (step:=j21 c' (nI c'.length) d s) (λb=>k b 0) (λb=>k (c',b) 0) (by unfold LIM;omega) (λi l _=>by
  rw [je5,List.nil_append,List.length_map,List.length_take];omega) (by simp) (λi b rec l C B=>by
  show j16 _ _ _ _ _ _ _ _=_
  unfold j16
  dsimp only
  rw [ZaQ l,cond_true,j00 l,cond_true,Zay _ _ _ l,jps d h s q y j p g,ZaL (by unfold LIM;omega),cond_true,j01 (n:=(i:Int)+1) (by omega)]) (λb rec=>by
  show j16 _ _ _ _ _ _ _ _=_
  unfold j16
  dsimp only
  rw [ZaP,cond_false])
 refine this.trans ?_
 rw [je5,List.nil_append]
end Go.PI.G
namespace Go.PI.G
open Go Go.PI Go.Proofs
theorem jpZ {d:DB} (h:msr yDB d<=1048576):msr (.slice yT) d.1<=1048576/\d.1.length<=1048576/\d.2.length<=1048576/\(∀ t∈d.1,msr yT t<=1048576)/\∀ l∈d.2,l.length<=1048576:=by
 have i:msr yDB d=msr (.slice yT) d.1+msr (.slice (.slice (.slice yV))) d.2:=rfl
 have b:msr (.slice yT) d.1<=1048576:=by omega
 have f:msr (.slice (.slice (.slice yV))) d.2<=1048576:=by omega
 exact ⟨b,j0h b,j0h f,λt ht=>j11 b ht,λl g=>j0h (j11 f g)⟩
theorem jhY (d:DB) (h:msr yDB d<=1048576) (k:Bool->Res):j6t d k=k (dbB d):=by
 obtain ⟨j,m,p,l,q⟩:=jpZ h
 unfold j6t dbB
 rw [jkK _ j]
 cases j22 d.1
 ·rfl
 ·rw [Bool.not_true,cond_false,Bool.true_and]
  by_cases f:d.2.length=d.1.length
  ·have g:(nI d.2.length != nI d.1.length)=false:=by rw [f,ZaO]
   rw [g,cond_false,decide_eq_true f,Bool.true_and]
   unfold jdG
   have:=Z9P d.1 (λi=>i) (λi t=> !j08 t (nth [] d.2 (i:Int))) (step:=j8q d.1 (nI d.1.length) d) ((λ(_:Unit)=>k true),(λ(_:Unit)=>k false)) (k true) (k false) (by unfold LIM;omega) (λi rec b=>by
    show j6e _ _ d _ _ _ _=_
    unfold j6e
    rw [ZaQ b,cond_true,j00 b,cond_true,j00 (f ▸ b),cond_true,Zay _ _ _ b,j7c _ (l _ (List.getElem_mem b)),j01 (n:=(i:Int)+1) (by omega)]) (λrec=>by
    show j6e _ _ d _ _ _ _=_
    unfold j6e
    rw [ZaP,cond_false])
   refine this.trans ?_
   cases Z71 (λi t=> !j08 t (nth [] d.2 (i:Int))) 0 d.1<;>rfl
  ·have g:(nI d.2.length != nI d.1.length)=true:=by unfold nI;simp;omega
   rw [g,cond_true,decide_eq_false f,Bool.false_and]
theorem jpR (d:DB) (h:msr yDB d<=1048576) (k:Bool->Res):j9U d k=k (dbB d):=by
 obtain ⟨j,m,p,l,q⟩:=jpZ h
 unfold j9U dbB
 rw [jk6 _ j]
 cases j22 d.1
 ·rfl
 ·rw [Bool.not_true,cond_false,Bool.true_and]
  by_cases f:d.2.length=d.1.length
  ·have g:(nI d.2.length != nI d.1.length)=false:=by rw [f,ZaO]
   rw [g,cond_false,decide_eq_true f,Bool.true_and]
   unfold jdd
   have:=Z9P d.1 (λi=>i) (λi t=> !j08 t (nth [] d.2 (i:Int))) (step:=j8f d.1 (nI d.1.length) d) ((λ(_:Unit)=>k true),(λ(_:Unit)=>k false)) (k true) (k false) (by unfold LIM;omega) (λi rec b=>by
    show j5G _ _ d _ _ _ _=_
    unfold j5G
    rw [ZaQ b,cond_true,j00 b,cond_true,j00 (f ▸ b),cond_true,Zay _ _ _ b,j8R _ (l _ (List.getElem_mem b)),j01 (n:=(i:Int)+1) (by omega)]) (λrec=>by
    show j5G _ _ d _ _ _ _=_
    unfold j5G
    rw [ZaP,cond_false])
   refine this.trans ?_
   cases Z71 (λi t=> !j08 t (nth [] d.2 (i:Int))) 0 d.1<;>rfl
  ·have g:(nI d.2.length != nI d.1.length)=true:=by unfold nI;simp;omega
   rw [g,cond_true,decide_eq_false f,Bool.false_and]
end Go.PI.G
namespace Go.PI.G
open Go Go.PI Go.Proofs
theorem jiL {d:DB} (h:dbB d=true) (x:D) {j:Nat} (i:j<d.1.length) (b:j<d.2.length) (k:d.1[j].1≠x.2.1):j99 d x d.1[j]=d.2[j]:=by
 obtain ⟨g,l,m⟩:=(j1H d).1 h
 unfold j99
 have f:sEq d.1[j].1 x.2.1=false:=by
  cases f:sEq d.1[j].1 x.2.1
  ·rfl
  ·exact absurd ((j09 _ _).1 f) k
 rw [f,Bool.and_false,cond_false,jen ((j0c _).1 g).2.2 i,decide_eq_true (by omega),cond_true,Zay _ _ _ b]
theorem jq7 {d:DB} (h:dbB d=true) (x:D) {i:Nat} (n:i<d.1.length) (q:i<d.2.length) (r:d.1[i].1=x.2.1):d.1.map (j99 d x)=d.2.set i (j99 d x d.1[i]):=by
 obtain ⟨l,m,y⟩:=(j1H d).1 h
 apply List.ext_getElem
 ·simp [m]
 ·intro j w z
  have g:j<d.1.length:=by simpa using w
  rw [List.getElem_map,List.getElem_set]
  by_cases e:i=j
  ·subst e
   rw [if_pos rfl]
  ·rw [if_neg e]
   refine jiL h x g (by omega) λk=> ?_
   have p:=((j0c _).1 l).2.2
   have b:=jlz p n g e
   rw [r,k,jcP] at b
   rcases b with f | f<;>cases f
theorem jrt {d:DB} (h:dbB d=true) {x:D} (K:j0X x=true) (A:j0a d.1 x=0):(j0Y d.1 x).map (j99 d x)=ji6 d x:=by
 obtain ⟨F,J,P⟩:=(j1H d).1 h
 have C:=(j0c _).1 F
 unfold ji6
 cases r:(x.1==1)
 ·rw [cond_false]
  rcases j0x d.1 x.2.1 with ⟨l,_⟩ | ⟨i,B,l,z⟩
  ·unfold j0a at A
   rw [r,cond_false,decide_eq_true (by omega),cond_true] at A
   cases A
  ·have k:i<d.2.length:=by omega
   have g:=jq7 h x B k z
   unfold j0Y
   rw [r,cond_false,l,Zay _ _ _ B,Zay _ _ _ k,Int.toNat_natCast]
   cases I:(x.1==2)
   ·rw [cond_false,cond_false,List.map_set,g,List.set_set]
    congr 1
    unfold j99
    rw [jhr,z,Zah,Bool.and_true,l,decide_eq_true (by omega),cond_true,I,cond_false,Zay _ _ _ B,Zay _ _ _ k]
   ·rw [cond_true,cond_true,List.eraseIdx_eq_take_drop_succ,List.eraseIdx_eq_take_drop_succ,List.map_append,List.map_take,List.map_drop,g,List.take_set,List.set_eq_of_length_le (by rw [List.length_take];omega),List.drop_set_of_lt (by omega)]
 ·rw [cond_true]
  have e:x.1=1:=by simpa using r
  have b:=A
  unfold j0a at b
  rw [r,cond_true] at b
  rcases j0x d.1 x.2.1 with ⟨l,E⟩ | ⟨i,B,l,_⟩
  rotate_left
  ·rw [decide_eq_false (by omega)] at b
   cases b
  have ht:j04 (x.2.1,x.2.2.1,x.2.2.2.1)=true:=by
   obtain ⟨_,⟨t,cs,ks,rfl,ht⟩ | ⟨t,rfl⟩ | ⟨t,c,rfl,_⟩ | ⟨t,n,rfl,_⟩ | ⟨t,n,m,rfl,_⟩⟩:=j8d K
   ·exact ht
   all_goals exact absurd e (by simp)
  have G:d.1.length<6:=by
   rw [decide_eq_true (by omega),Bool.not_true,cond_false] at b
   have G:=C.1
   rcases Nat.lt_or_ge d.1.length 6 with q | q
   ·exact q
   ·rw [show (d.1.length==6)=true from beq_iff_eq.2 (by omega)] at b
    cases b
  obtain ⟨p,Q,f,y⟩:=jnH F ht (show j05 d.1 x.2.1<0 by omega) G
  have w:d.1.map (j99 d x)=d.2:=by
   apply List.ext_getElem
   ·simp [J]
   ·intro j L M
    have H:j<d.1.length:=by simpa using L
    rw [List.getElem_map]
    exact jiL h x H M (E _ (List.getElem_mem H))
  unfold j0Y
  rw [r,cond_true]
  have f:j05 (lay tR (x.2.1,x.2.2.1,x.2.2.2.1) d.1) x.2.1=(p:Int):=f
  rw [f,Int.toNat_natCast,y,List.map_append,List.map_cons,List.map_take,List.map_drop,w]
  congr 2
  unfold j99
  rw [l]
  rfl
theorem jqN {t:T} {l:List (List V)} (h:j08 t l=true) (n:t.2.1.length<=8):msr (.slice (.slice yV)) l<=14940:=by
 obtain ⟨ht,g,d⟩:=j0g h
 have:=j9X (e:= .slice yV) 248 l (λr b=>by
  have i:=j9X (e:=yV) 30 r (λv f=>jrk (jnR (d r b) v f))
  have j:=j0t (d r b)
  have k:r.length * (30+1)<=8 * 31:=Nat.mul_le_mul (by omega) (Nat.le_refl _)
  omega)
 have m:l.length * (248+1)<=60 * 249:=Nat.mul_le_mul g (Nat.le_refl _)
 omega
theorem jk2 {d:DB} (h:dbB d=true):msr yDB d<=1048576:=by
 obtain ⟨g,m,j⟩:=(j1H d).1 h
 have f:=((j0c _).1 g).1
 have q:=j9X (e:=yT) 400 d.1 (λt ht=>jbo (((j0c _).1 g).2.1 t ht))
 have n:d.1.length * (400+1)<=6 * 401:=Nat.mul_le_mul f (Nat.le_refl _)
 have r:=j9X (e:= .slice (.slice yV)) 14940 d.2 (λx l=>by
  obtain ⟨i,k,rfl⟩:=List.mem_iff_getElem.1 l
  have b:=j i (by omega) k
  exact jqN b ((j6J _).1 (j0g b).1).2.2.1)
 have p:d.2.length * (14940+1)<=6 * 14941:=Nat.mul_le_mul (by omega) (Nat.le_refl _)
 have e:msr yDB d=msr (.slice yT) d.1+msr (.slice (.slice (.slice yV))) d.2:=rfl
 omega
theorem jqb {s:ST} (d:stB s=true) (f:s.1=5):j0X s.2.2.2.2=true/\s.2.2.2.2.2.1=s.2.1:=by
 unfold stB at d
 rw [f,Bool.and_eq_true] at d
 have b:=d.2
 simp only [show ((5:Int)==1)=false from rfl,show ((5:Int)==2)=false from rfl,show ((5:Int)==3)=false from rfl,show ((5:Int)==4)=false from rfl,show ((5:Int)==5)=true from rfl,cond_false,cond_true,Bool.and_eq_true] at b
 exact ⟨b.2.2.1,(j09 _ _).1 b.2.2.2⟩
theorem joF (d:DB) (h:dbB d=true) (s:ST) (b:j1x s) (n:stB s=true) (k:DB->Int->Res):j80 d s k=k (j1T d s).1 (j1T d s).2:=by
 obtain ⟨p,A,B⟩:=(j1H d).1 h
 have y:=((j0c _).1 p).1
 unfold j80
 rw [jhY d (jk2 h),h,Bool.not_true,cond_false,ji1 s b,n,Bool.not_true,cond_false,jdF _ _ (by unfold LIM;omega),jrR]
 cases g:(decide (j05 d.1 s.2.1<0)&& !((s.1==5)&&(s.2.2.2.2.1==1)))
 rotate_left
 ·unfold j1T
  rw [g]
  rfl
 rw [cond_false]
 cases f:(s.1==5)
 ·rw [f,Bool.false_and,Bool.not_false,Bool.and_true] at g
  have r:¬ j05 d.1 s.2.1<0:=of_decide_eq_false g
  rcases j0x d.1 s.2.1 with ⟨j,_⟩ | ⟨i,w,j,_⟩
  ·omega
  rw [cond_false,j]
  exact jo4 d h s (by simpa using f) i w j k
 ·have l:s.1=5:=by simpa using f
  obtain ⟨m,z⟩:=jqb n l
  rw [cond_true,jlH d h s l z b.2.2.2 m]
  unfold j1T
  rw [g,f,cond_false,cond_true]
  cases q:(j0a d.1 s.2.2.2.2 != 0)
  ·rw [cond_false,cond_false,jrt h m (by simpa using q)]
  ·rfl
end Go.PI.G
namespace Go.PI.G
open Go Go.PI Go.Proofs
theorem jrK (b:Int) (s:ST) (a z:Res):j7M b s (λ_=>a) (λ_=>z)=bif decide (b<0)&& !((s.1==5)&&(s.2.2.2.2.1==1)) then z else a:=by
 unfold j7M
 cases decide (b<0)
 ·rfl
 ·rw [cond_true,Bool.true_and]
  unfold bne
  cases (s.1==5)
  ·rfl
  ·cases (s.2.2.2.2.1==1)<;>rfl
theorem jnA (t:T) (h:msr yT t<=1048576) (l:List (List V)) (s:ST) (k:List (List V)->Int->Res):j5M l 0 s.1 s t k=k (j2x t l s).1 (j2x t l s).2:=by
 unfold j5M j2x
 cases (s.1==1)
 ·rw [cond_false,cond_false]
  cases (s.1==2)
  ·rw [cond_false,cond_false]
   cases (s.1==3)
   ·rfl
   ·rw [cond_true,cond_true,jmA t h]
  ·rw [cond_true,cond_true,jmC t h]
 ·rw [cond_true,cond_true,jmB t h]
theorem jla (d:DB) (h:dbB d=true) (x:D) (A:dSm x) (E:j0X x=true) (k:DB->Int->Res) :
  j5L d x k=bif j0a d.1 x != 0 then k ([],[]) (j0a d.1 x) else k (j0Y d.1 x,ji6 d x) 0:=by
 obtain ⟨y,Y,K⟩:=(j1H d).1 h
 have R:=((j0c _).1 y).1
 unfold j5L
 rw [jos _ _ (jcS y) A,jnl y E]
 cases I:(j0a d.1 x != 0)
 rotate_left
 ·rw [cond_true]
  dsimp only
  rw [I,cond_true,cond_true]
 have f:j0a d.1 x=0:=by simpa using I
 have l:=jl9 y E f
 have P:=((j0c _).1 l).1
 rw [cond_false,cond_false]
 show (j18 d λW=>j0j d.1 x.2.1 λX=>j2v X x.1 d x (j0Y d.1 x) W λH=>k (j0Y d.1 x,H.2) 0)=_
 rw [jg0 d h,j7J _ _ (by unfold LIM;omega)]
 unfold j2v ji6
 cases w:(x.1==1)
 ·rw [cond_false,cond_false]
  rcases j0x d.1 x.2.1 with ⟨B,_⟩ | ⟨i,z,B,G⟩
  ·unfold j0a at f
   rw [w,cond_false,decide_eq_true (by omega),cond_true] at f
   cases f
  ·have r:i<d.2.length:=by omega
   rw [B,Int.toNat_natCast]
   cases J:(x.1==2)
   ·have ht:j04 d.1[i]=true:=((j0c _).1 y).2.1 _ (List.getElem_mem z)
    have F:msr yT d.1[i]<=1048576:=Nat.le_trans (jbo ht) (by omega)
    have Q:j0q d.1[i] x=0:=by
     unfold j0a at f
     rw [w,cond_false,B,decide_eq_false (show ¬ (i:Int)<0 by omega),cond_false,Zay _ _ _ z] at f
     exact f
    rw [cond_false,cond_false,j00 z,cond_true,j00 r,cond_true,Zay _ _ _ z,Zay _ _ _ r,jlc _ F _ (K i z r) _ A E G.symm (by simpa using w),Q,J,cond_true,ZaF]
    rfl
   ·rw [cond_true,cond_true]
    unfold j4Y jbd
    rw [j01 (n:=(i:Int)+1) (by omega),show Z8e (i:Int) ((i:Int)+1) d.2.length=true from j9l (j:=i+1) ⟨by omega,by omega⟩,cond_true,List.eraseIdx_eq_take_drop_succ]
    rfl
 ·rw [cond_true,cond_true]
  simp only [Z9Q]
  have C:∃ p:Nat,p<=d.2.length/\j05 (j0Y d.1 x) x.2.1=(p:Int):=by
   have e:x.1=1:=by simpa using w
   have b:=f
   unfold j0a at b
   rw [w,cond_true] at b
   rcases j0x d.1 x.2.1 with ⟨B,T⟩ | ⟨i,z,B,_⟩
   rotate_left
   ·rw [decide_eq_false (by omega)] at b
    cases b
   have ht:j04 (x.2.1,x.2.2.1,x.2.2.2.1)=true:=by
    obtain ⟨_,⟨t,cs,ks,rfl,ht⟩ | ⟨t,rfl⟩ | ⟨t,c,rfl,_⟩ | ⟨t,n,rfl,_⟩ | ⟨t,n,m,rfl,_⟩⟩:=j8d E
    ·exact ht
    all_goals exact absurd e (by simp)
   have L:d.1.length<6:=by
    rw [decide_eq_true (by omega),Bool.not_true,cond_false] at b
    rcases Nat.lt_or_ge d.1.length 6 with q | q
    ·exact q
    ·rw [show (d.1.length==6)=true from beq_iff_eq.2 (by omega)] at b
     cases b
   obtain ⟨p,U,g,_⟩:=jnH y ht (show j05 d.1 x.2.1<0 by omega) L
   refine ⟨p,by omega,?_⟩
   unfold j0Y
   rw [w,cond_true]
   exact g
  obtain ⟨p,U,g⟩:=C
  rw [j7J _ _ (by unfold LIM;omega),g]
  unfold j1t jeP
  have M:jj9 (p:Int) d.2.length [([]:List (List V))].length=true:=decide_eq_true ⟨by omega,by omega,by simp,by simp;unfold LIM;omega⟩
  rw [M,cond_true,Int.toNat_natCast,List.append_assoc]
  rfl
theorem jot (d:DB) (h:dbB d=true) (s:ST) (p:j1x s) (D:stB s=true) (k:DB->Int->Res):j9V d s k=k (j1T d s).1 (j1T d s).2:=by
 obtain ⟨q,E,F⟩:=(j1H d).1 h
 have B:=((j0c _).1 q).1
 unfold j9V
 rw [j7J _ _ (by unfold LIM;omega),jrK]
 cases f:(decide (j05 d.1 s.2.1<0)&& !((s.1==5)&&(s.2.2.2.2.1==1)))
 rotate_left
 ·unfold j1T
  rw [f]
  rfl
 rw [cond_false]
 cases g:(s.1==5)
 ·unfold j1T
  rw [f,g,cond_false,cond_false,cond_false]
  rw [g,Bool.false_and,Bool.not_false,Bool.and_true] at f
  have A:¬ j05 d.1 s.2.1<0:=of_decide_eq_false f
  rcases j0x d.1 s.2.1 with ⟨r,_⟩ | ⟨i,j,r,_⟩
  ·omega
  have b:i<d.2.length:=by omega
  have ht:j04 d.1[i]=true:=((j0c _).1 q).2.1 _ (List.getElem_mem j)
  have m:msr yT d.1[i]<=1048576:=Nat.le_trans (jbo ht) (by omega)
  have y:=joP (t:=d.1[i]) (l:=d.2[i]) (s:=s)
  unfold jac
  rw [r]
  simp only [j00 j,j00 b,cond_true,Z9Q]
  rw [Zay _ _ _ j,Zay _ _ _ b,jnA _ m]
  cases f:((j2x d.1[i] d.2[i] s).2 != 0)
  ·rw [cond_false,cond_false,jg0 d h,j00 b,cond_true,ZaF,Int.toNat_natCast]
  ·rw [cond_true,cond_true,j01 (n:=10+(j2x d.1[i] d.2[i] s).2) (by omega)]
 ·have w:s.1=5:=by simpa using g
  obtain ⟨z,G⟩:=jqb D w
  have C:=jk1 d.1 s.2.2.2.2
  rw [cond_true,jla d h _ p.2.2.2 z]
  unfold j1T
  rw [f,g,cond_false,cond_true]
  cases y:(j0a d.1 s.2.2.2.2 != 0)
  ·rfl
  ·rw [cond_true,cond_true,cond_true,j01 (n:=10+j0a d.1 s.2.2.2.2) (by omega)]
end Go.PI.G
namespace Go.PI.G
open Go Go.PI Go.Proofs
theorem jo5 (d:DB) (h:dbB d=true) (s:ST) (b:j1x s) (f:stB s=false) (k:DB->Int->Res):j80 d s k=k ([],[]) 1:=by
 unfold j80
 rw [jhY d (jk2 h),h,Bool.not_true,cond_false,ji1 s b,f]
 rfl
theorem jlI (d:DB) (p:msr yDB d<=1048576) (l:List ST) (z:l.length<=1048576) (j:∀ s∈l,j1x s) (k:DB->Int->Int->Res):j2q d l k=k (j0B d l).1 (j0B d l).2.1 (j0B d l).2.2:=by
 unfold j2q j0B
 rw [jhY d p]
 cases h:dbB d
 ·rfl
 rw [Bool.not_true,cond_false,cond_false,jkM d h]
 unfold j7w
 have:=Z3Z l (λi (a:DB)=>(i,a)) j8t (λ_ a=>dbB a=true) (step:=j5n l (nI l.length)) ((λ(now:DB)=>k now 0 0),(λ(t:Int) (r:Int)=>k ([],[]) t r)) (λa=>k a 0 0) (λe=>k ([],[]) e.1 e.2) d (by unfold LIM;omega) h (λi a w f b q=>jjN b q) (λi a rec f b=>by
  show j2U _ _ _ _ _ _ _=_
  unfold j2U j8t
  dsimp only
  have g:=j _ (List.getElem_mem f)
  rw [ZaQ f,cond_true,j00 f,cond_true,Zay _ _ _ f]
  cases m:stB l[i]
  ·rw [jo5 a b _ g m]
   rfl
  ·rw [joF a b _ g m,Bool.not_true,cond_false]
   cases y:((j1T a l[i]).2 != 0)
   ·rw [cond_false,cond_false,j01 (n:=(i:Int)+1) (by omega)]
   ·rfl) (λa rec b=>by
  show j2U _ _ _ _ _ _ _=_
  unfold j2U
  dsimp only
  rw [ZaP,cond_false])
 refine this.trans ?_
 cases Z1S j8t 0 l d<;>rfl
theorem jlb (d:DB) (p:msr yDB d<=1048576) (l:List ST) (z:l.length<=1048576) (j:∀ s∈l,j1x s) (k:DB->Int->Int->Res):j2g d l k=k (j0B d l).1 (j0B d l).2.1 (j0B d l).2.2:=by
 unfold j2g j0B
 rw [jpR d p]
 cases h:dbB d
 ·rfl
 rw [Bool.not_true,cond_false,cond_false,jg0 d h]
 unfold ja8
 have:=Z3Z l (λi (a:DB)=>(i,a)) j8t (λ_ a=>dbB a=true) (step:=j2K l (nI l.length)) ((λ(now:DB)=>k now 0 0),(λ(t:Int) (r:Int)=>k ([],[]) t r)) (λa=>k a 0 0) (λe=>k ([],[]) e.1 e.2) d (by unfold LIM;omega) h (λi a w b g q=>jjN g q) (λi a rec b g=>by
  show j1I _ _ _ _ _ _ _=_
  unfold j1I j8t
  dsimp only
  have f:=j _ (List.getElem_mem b)
  rw [ZaQ b,cond_true,j00 b,cond_true,Zay _ _ _ b,jlW _ f]
  cases m:stB l[i]
  ·rfl
  ·rw [Bool.not_true,cond_false,cond_false,jot a g _ f m]
   cases y:((j1T a l[i]).2 != 0)
   ·rw [cond_false,cond_false,j01 (n:=(i:Int)+1) (by omega)]
   ·rfl) (λa rec g=>by
  show j1I _ _ _ _ _ _ _=_
  unfold j1I
  dsimp only
  rw [ZaP,cond_false])
 refine this.trans ?_
 cases Z1S j8t 0 l d<;>rfl
end Go.PI.G
namespace Go.PI.G
open Go Go.PI
theorem jrQ {d:D} (h:msr yD d<=1048576):dSm d:=by
 have j:msr yD d=0+(d.2.1.size+(msr (.slice yC) d.2.2.1+(msr (.slice .str) d.2.2.2.1+(d.2.2.2.2.1.size+d.2.2.2.2.2.size)))):=rfl
 have b:msr (.slice yC) d.2.2.1<=1048576:=by omega
 have f:msr (.slice .str) d.2.2.2.1<=1048576:=by omega
 refine ⟨by omega,j0h b,j0h f,λc g=> ?_,λx i=>j11 f i,by omega,by omega⟩
 have:=j11 b g
 have k:msr yC c=c.1.size+msr (.pair (.int .i64) (.pair .bool (.pair .bool yV))) c.2:=rfl
 omega
theorem jrL {s:ST} (h:msr yST s<=1048576):j1x s:=by
 have f:msr yST s=0+(s.2.1.size+(msr (.slice yV) s.2.2.1+(msr (.slice yV) s.2.2.2.1+msr yD s.2.2.2.2))):=rfl
 have b:msr (.slice yV) s.2.2.1<=1048576:=by omega
 have d:msr (.slice yV) s.2.2.2.1<=1048576:=by omega
 exact ⟨by omega,j0h b,j0h d,jrQ (by omega)⟩
end Go.PI.G
namespace Go.PI.G
open Go Go.PI
end Go.PI.G
namespace Go.PI.G
open Go Go.PI Go.Proofs
theorem jqM {l:List RC} (h:msr (.slice yRC) l<=1048576):l.length<=1048576/\∀ r∈l,j1x r.2.2:=
 ⟨j0h h,λr b=>by
  have e:msr yRC r=0+(0+msr yST r.2.2):=rfl
  have:=j11 (e:=yRC) h b
  exact jrL (by omega)⟩
theorem jhy {n:Nat} (h:n<=1048576):lim (0+n)=true:=ZaL (by unfold LIM;omega)
theorem jpv (s:ST) (h:j1x s) (k:ST->Res):jaN s k=k s:=by
 obtain ⟨g,d,f,b⟩:=h
 unfold jaN j0w
 simp only [jhy d,jhy f,jhy b.2.1,jhy b.2.2.1,cond_true]
 try rfl
theorem jpe (s:ST) (h:j1x s) (k:ST->Res):j6U s k=k s:=by
 obtain ⟨g,d,f,b⟩:=h
 unfold j6U j0U jab j3l
 simp only [jhy d,jhy f,jhy b.2.1,jhy b.2.2.1,cond_true]
 try rfl
theorem jiQ (l:List Int) (n:Int) (h:l.length<=1048576) (k:Bool->Res):j5f l n k=k (j3w l n):=by
 unfold j5f jfJ j3w
 have:=Za2 l (λi=>i) (λx=>x==n) (step:=j9C n l (nI l.length)) ((λ(_:Unit)=>k false),(λ(_:Unit)=>k true)) (k false) (k true) (by unfold LIM;omega) (λi rec b=>by
  show j4f _ _ _ _ _ _ _=_
  unfold j4f
  rw [ZaQ b,cond_true,j00 b,cond_true,Zay _ _ _ b,j01 (n:=(i:Int)+1) (by omega)]) (λrec=>by
  show j4f _ _ _ _ _ _ _=_
  unfold j4f
  rw [ZaP,cond_false])
 refine this.trans ?_
 cases l.any λx=>x==n<;>rfl
theorem jiG (l:List Int) (n:Int) (h:l.length<=1048576) (k:Bool->Res):j14 l n k=k (j3w l n):=by
 unfold j14 j9w jb9 j3w
 have:=Z9S l (λi=>i) (λx=>n==x) (step:=j6c l n (nI l.length)) ((λ(_:Unit)=>k (decide ((-1:Int)>=0))),(λ(t:Int)=>k (decide (t>=0)))) (λr=>k (decide (r>=0))) (by unfold LIM;omega) (λi rec b=>by
  show j1s _ _ _ _ _ _ _=_
  unfold j1s
  rw [ZaQ b,cond_true,j00 b,cond_true,Zay _ _ _ b,j01 (n:=(i:Int)+1) (by omega)]) (λrec=>by
  show j1s _ _ _ _ _ _ _=_
  unfold j1s
  rw [ZaP,cond_false])
 refine this.trans ?_
 rw [jnu]
 have:(λx:Int=>n==x)=λx=>x==n:=by funext x;exact Bool.eq_iff_iff.2 (by rw [beq_iff_eq,beq_iff_eq];exact eq_comm)
 rw [this]
theorem jiC {α:Type} (p:α->Bool):(j:Nat)->(l:List α)->Z4r (λ_ x=>bif p x then [x] else []) j l=l.filter p
 | _,[]=>rfl
 | j,x::l=>by
  show (bif p x then [x] else [])++Z4r _ (j+1) l=_
  rw [jiC p (j+1) l]
  cases h:p x
  ·rw [List.filter_cons_of_neg (by rw [h];simp)];rfl
  ·rw [List.filter_cons_of_pos h];rfl
theorem jrq {α:Type} (b:Bool) (x:α):(bif b then [x] else []).length<=1:=by cases b<;>simp
theorem jpo (l:List Int) (n:Int) (h:l.length<=1048576) (k:List Int->Res):j7g l n k=k (l.filter λy=> !(y==n)):=by
 unfold j7g jfI
 have:=Za3 l (λ_ x=>bif !(x==n) then [x] else []) (λi b=>(b,i)) (step:=j9B n l (nI l.length)) (λb=>k b) k (by unfold LIM;omega) (λ_ x=>jrq _ _) (λb i rec d f=>by
  show j4e _ _ _ _ _ _ _=_
  unfold j4e
  dsimp only
  rw [ZaQ d,cond_true,j00 d,cond_true,Zay _ _ _ d,j01 (n:=(i:Int)+1) (by omega),ZaL (by unfold LIM;omega),cond_true]
  unfold bne
  cases l[i]==n
  ·rfl
  ·show _=rec (b++[],_)
   rw [List.append_nil]
   rfl) (λb rec=>by
  show j4e _ _ _ _ _ _ _=_
  unfold j4e
  dsimp only
  rw [ZaP,cond_false])
 refine this.trans ?_
 rw [jiC]
theorem joJ (l:List RC) (h:l.length<=1048576) (k:List Int->Res):j9Z l k=k (j1z l):=by
 unfold j9Z ji2 j1z
 refine Z8i l (λi b=>(b,i)) j98 (λi a=>a.length<=i) (step:=j8r l (nI l.length)) (λb=>k b) k [] (by unfold LIM;omega) (by simp) (λi a d f=>Nat.le_trans (jm0 _ _) (by omega)) (λi a rec d f=>by
  show j3p _ _ _ _ _ _=_
  unfold j3p jaG
  dsimp only
  rw [ZaQ d,cond_true,j00 d,cond_true,Zay _ _ _ d,j01 (n:=(i:Int)+1) (by omega),jiQ _ _ (by omega),ZaL (by unfold LIM;omega),cond_true]
  generalize l[i]=r
  unfold j98
  cases g:r.1==1
  ·rw [cond_false,cond_false,jpo _ _ (by omega)]
   cases r.1==3
   ·rw [cond_false,Bool.false_or]
    cases r.1==4<;>rfl
   ·rfl
  ·have e:r.1=1:=by simpa using g
   have j:(r.1==3)=false:=by rw [e];rfl
   have m:(r.1==4)=false:=by rw [e];rfl
   rw [cond_true,cond_true,j,m]
   cases j3w a r.2.1<;>rfl) (λa rec f=>by
  show j3p _ _ _ _ _ _=_
  unfold j3p
  dsimp only
  rw [ZaP,cond_false])
theorem joL (l:List RC) (x:Int) (h:l.length<=1048576) (k:Bool->Res):jbX l x k=k (j6L l x):=by
 unfold jbX ji3 j6L
 have:=Za2 l (λi=>i) (λr:RC=>(r.1==1)&&(r.2.1==x)) (step:=jbA x l (nI l.length)) ((λ(_:Unit)=>k false),(λ(_:Unit)=>k true)) (k false) (k true) (by unfold LIM;omega) (λi rec b=>by
  show j6i _ _ _ _ _ _ _=_
  unfold j6i
  rw [ZaQ b,cond_true,j00 b,cond_true,Zay _ _ _ b,j01 (n:=(i:Int)+1) (by omega)]
  cases l[i].1==1<;>rfl) (λrec=>by
  show j6i _ _ _ _ _ _ _=_
  unfold j6i
  rw [ZaP,cond_false])
 refine this.trans ?_
 cases l.any λr:RC=>(r.1==1)&&(r.2.1==x)<;>rfl
theorem jlK (l:List RC) (x:Int) (h:l.length<=1048576) (f:∀ r∈l,j1x r.2.2) (k:List ST->Res):j6h l x k=k (j37 l x):=by
 unfold j6h jej j37
 refine Za3 l (ji4 x) (λi b=>(b,i)) (step:=j8H x l (nI l.length)) (λb=>k b) k (by unfold LIM;omega) (jjO x) (λb i rec d g=>by
  show j2Y _ _ _ _ _ _ _=_
  unfold j2Y ji4
  dsimp only
  rw [ZaQ d,cond_true,j00 d,cond_true,Zay _ _ _ d,jpv _ (f _ (List.getElem_mem d)),j01 (n:=(i:Int)+1) (by omega),ZaL (by unfold LIM;omega),cond_true]
  cases l[i].1==2
  ·show _=rec (b++[],_)
   rw [List.append_nil]
   rfl
  ·cases l[i].2.1==x
   ·show _=rec (b++[],_)
    rw [List.append_nil]
    rfl
   ·rfl) (λb rec=>by
  show j2Y _ _ _ _ _ _ _=_
  unfold j2Y
  dsimp only
  rw [ZaP,cond_false])
theorem jld (l:List RC) (x:Int) (h:l.length<=1048576) (f:∀ r∈l,j1x r.2.2) (k:List ST->Res):j5K l x k=k (j37 l x):=by
 unfold j5K je8 j37
 refine Za3 l (ji4 x) (λi b=>(b,i)) (step:=j8A x l (nI l.length)) (λb=>k b) k (by unfold LIM;omega) (jjO x) (λb i rec d g=>by
  show j2O _ _ _ _ _ _ _=_
  unfold j2O ji4
  dsimp only
  rw [ZaQ d,cond_true,j00 d,cond_true,Zay _ _ _ d,jpe _ (f _ (List.getElem_mem d)),j01 (n:=(i:Int)+1) (by omega),ZaL (by unfold LIM;omega),cond_true]
  cases l[i].1==2
  ·show _=rec (b++[],_)
   rw [List.append_nil]
   rfl
  ·cases l[i].2.1==x
   ·show _=rec (b++[],_)
    rw [List.append_nil]
    rfl
   ·rfl) (λb rec=>by
  show j2O _ _ _ _ _ _ _=_
  unfold j2O
  dsimp only
  rw [ZaP,cond_false])
theorem jlL {α:Type} (l:List α) (i:Nat):sub l 0 (i:Int)=l.take i:=jp3 l 0 i
theorem jj7 {i n:Nat} (h:i<=n):Z8e 0 (i:Int) n=true:=j9l (i:=0) ⟨Nat.zero_le _,h⟩
theorem ji9 {l:List RC} (d:∀ r∈l,j1x r.2.2) (i:Nat):∀ r∈l.take i,j1x r.2.2:=λr b=>d r (List.mem_of_mem_take b)
theorem j6K {l:List RC} (h:l.length<=1048576) (i:Nat):(l.take i).length<=1048576:=by rw [List.length_take];omega
theorem jqc {l:List RC} (f:∀ r∈l,j1x r.2.2) (x:Int):∀ s∈j37 l x,j1x s:=λs b=>by
 obtain ⟨r,d,rfl⟩:=jpw b
 exact f r d
theorem jq5 (l:List RC) (h:l.length<=1048576) (i:Nat) (f:i<=l.length) (r:RC) (j:j1x r.2.2) (k:Bool->Res) :
  j2B l (i:Int) r k=k (!jc8 r||(bif r.1==1 then j6L (l.take i) r.2.1 else !j3w (j1z (l.take i)) r.2.1)):=by
 unfold j2B
 have g:(j1z (l.take i)).length<=1048576:=Nat.le_trans (jm1 _) (j6K h i)
 rw [jpu _ j,jj7 f,cond_true,cond_true,jlL,joL _ _ (j6K h i),joJ _ (j6K h i)]
 simp only [jiQ _ _ g]
 cases jc8 r
 ·rfl
 cases d:r.1==1
 ·have b:(r.1 != 1)=true:=by unfold bne;rw [d];rfl
  rw [b]
  rfl
 ·have b:(r.1 != 1)=false:=by unfold bne;rw [d];rfl
  rw [b]
  cases j6L (l.take i) r.2.1<;>rfl
theorem jo7 (l:List RC) (h:l.length<=1048576) (b:∀ r∈l,j1x r.2.2) (i:Nat) (g:i<=l.length) (d:DB) (f:dbB d=true) (r:RC) (k:Int->DB->Res) :
  j2C l (i:Int) d r k=k (j0B d (j37 (l.take i) r.2.1)).2.1 (j0B d (j37 (l.take i) r.2.1)).1:=by
 unfold j2C
 rw [jj7 g,cond_true]
 simp only [Z9Q]
 rw [jlL,jlK _ _ (j6K h i) (ji9 b i),jlI d (jk2 f) _ (Nat.le_trans (jkQ _ _) (j6K h i)) (jqc (ji9 b i) _)]
theorem jnz (l:List RC) (h:l.length<=1048576) (b:∀ r∈l,j1x r.2.2) (i:Nat) (g:i<=l.length) (d:DB) (f:dbB d=true) (r:RC) (k:Int->DB->Res) :
  j5N l (i:Int) d r k=k (j0B d (j37 (l.take i) r.2.1)).2.1 (j0B d (j37 (l.take i) r.2.1)).1:=by
 unfold j5N
 rw [jj7 g,cond_true]
 simp only [Z9Q]
 rw [jlL,jld _ _ (j6K h i) (ji9 b i),jlb d (jk2 f) _ (Nat.le_trans (jkQ _ _) (j6K h i)) (jqc (ji9 b i) _)]
theorem jrP (n:Nat):decide (nI n<=400)=decide (n<=400):=decide_eq_decide.2 (by unfold nI;omega)
theorem jrj (n:Nat):decide (nI n>400)= !decide (n<=400):=by
 by_cases h:n<=400
 ·rw [decide_eq_true h,decide_eq_false (by unfold nI;omega)];rfl
 ·rw [decide_eq_false h,decide_eq_true (by unfold nI;omega)];rfl
theorem joK (l:List RC) (h:l.length<=1048576) (g:∀ r∈l,j1x r.2.2) (k:DB->Bool->Res) :
  jaL l k=match jge zDB l with | .ok d=>k d (decide (l.length<=400)) | .error _=>k ([],[]) false:=by
 unfold jaL jaM
 rw [jrP]
 refine (Z3Z l (λi (a:DB)=>(i,a)) (λi d r=>jcN (l.take i) d r) (λ_ a=>dbB a=true) (step:=j5x l l (nI l.length)) ((λ(d:DB)=>k d (decide (l.length<=400))),(λ(_:Unit)=>k ([],[]) false)) (λa=>k a (decide (l.length<=400))) (λ_=>k ([],[]) false) zDB (by unfold LIM;omega) jfY (λi a q b f g=>jnN f g) (λi a rec b f=>by
  show j1N _ _ _ _ _ _ _ _=_
  unfold j1N jcN
  dsimp only
  have j:=g _ (List.getElem_mem b)
  rw [ZaQ b,cond_true,j00 b,cond_true,Zay _ _ _ b,jq5 l h i (by omega) _ j,jo7 l h g i (by omega) a f,j01 (n:=(i:Int)+1) (by omega)]
  generalize l[i]=r
  cases jc8 r
  ·rfl
  cases p:r.1==1
  ·cases j3w (j1z (l.take i)) r.2.1
   ·rfl
   ·cases r.1==3
    ·rfl
    ·cases m:(j0B a (j37 (l.take i) r.2.1)).2.1 != 0
     ·simp only [cond_true,cond_false,Bool.not_true,Bool.or_false,m]
     ·simp only [cond_true,cond_false,Bool.not_true,Bool.or_false,m]
  ·cases j6L (l.take i) r.2.1
   ·have e:r.1=1:=by simpa using p
    rw [e]
    rfl
   ·rfl) (λa rec f=>by
  show j1N _ _ _ _ _ _ _ _=_
  unfold j1N
  dsimp only
  rw [ZaP,cond_false])).trans ?_
 unfold jge
 cases Z1S (λi d r=>jcN (l.take i) d r) 0 l zDB<;>rfl
end Go.PI.G
namespace Go.PI.G
open Go Go.PI Go.Proofs
theorem jrv (o:List Int) (r:RC) (h:o.length<=1048576) (k:List Int->RC->Res):j1p o r k=k (o.filter λy=> !(y==r.2.1)) r:=by
 unfold j1p
 rw [ZaL (by unfold LIM;omega),cond_true,jnn (g:=λe k=>jg4 e r k) (λy=>y==r.2.1) o (λy b k=>rfl) [],List.nil_append]
noncomputable def joi (l:List RC) (i:Int) (d:DB):List Int×List Int×Int×DB:=(j1z (l.take i.toNat),j7C (l.take i.toNat),i,d)
theorem joN (l:List RC) (i:Nat) (b:i<l.length) (d:DB):joi l ((i:Int)+1) d=(j98 (j1z (l.take i)) l[i],(bif l[i].1==1 then j7C (l.take i)++[l[i].2.1] else j7C (l.take i)),(i:Int)+1,d):=by
 unfold joi
 rw [show ((i:Int)+1).toNat=i+1 by omega,List.take_succ_eq_append_getElem b,jku,jpx]
theorem joy (d:DB) (B:dbB d=true) (l:List RC) (h:l.length<=1048576) (p:∀ r∈l,j1x r.2.2) (k:DB->Bool->Res) :
  jea d l k=match jge d l with | .ok d=>k d true | .error _=>k ([],[]) false:=by
 unfold jea jdf jhw
 refine (Z3Z l (joi l) (λi d r=>jcN (l.take i) d r) (λ_ a=>dbB a=true) (step:=j8h l l (nI l.length)) ((λ(f:DB)=>k f true),(λ(_:Unit)=>k ([],[]) false)) (λa=>k a true) (λ_=>k ([],[]) false) d (by unfold LIM;omega) B (λi a F b m p=>jnN m p) (λi a rec b m=>by
  show j3m l l (nI l.length) (j1z (l.take (i:Int).toNat)) (j7C (l.take (i:Int).toNat)) (i:Int) a (λo u j d=>rec (o,u,j,d)) (λf=>k f true) (λ_=>k ([],[]) false)=_
  have y:=p _ (List.getElem_mem b)
  have A:(j1z (l.take i)).length<=1048576:=Nat.le_trans (jm1 _) (j6K h i)
  have D:(j7C (l.take i)).length<=1048576:=Nat.le_trans (jqk _) (j6K h i)
  unfold j3m j7N jcN
  simp only [joN l i b]
  rw [Int.toNat_natCast,ZaQ b,cond_true,j00 b,cond_true,Zay _ _ _ b,jpd _ y,jiG _ _ D,jiG _ _ A,jqj,j01 (n:=(i:Int)+1) (by omega),ZaL (by unfold LIM;omega),ZaL (by unfold LIM;omega),cond_true,cond_true]
  simp only [jnz l h p i (by omega) a m,jrv _ _ A]
  generalize l[i]=r
  cases C:jc8 r
  ·rfl
  rw [Bool.not_true,cond_false,cond_false]
  cases q:r.1==1
  ·rw [cond_false,cond_false]
   cases j3w (j1z (l.take i)) r.2.1
   ·rfl
   rw [Bool.not_true,cond_false,cond_false]
   unfold j98
   rw [q,cond_false,cond_false]
   cases z:r.1==3
   ·rw [cond_false,cond_false,Bool.false_or]
    unfold bne
    cases g:r.1==2
    ·have K:=(jpk C).1
     have w:(r.1==4)=true:=by
      rw [beq_iff_eq]
      have G:r.1≠1:=by simpa using q
      have H:r.1≠2:=by simpa using g
      have I:r.1≠3:=by simpa using z
      omega
     rw [w]
     rfl
    ·have w:(r.1==4)=false:=by
      have:r.1=2:=by simpa using g
      rw [this];rfl
     rw [w]
     rfl
   ·have g:(r.1 != 2)=true:=by
     have:r.1=3:=by simpa using z
     rw [this];rfl
    rw [cond_true,cond_true,Bool.true_or]
    cases J:(j0B a (j37 (l.take i) r.2.1)).2.1 != 0
    ·rw [cond_false,cond_false,g]
     rfl
    ·rfl
  ·rw [cond_true,cond_true]
   cases E:j6L (l.take i) r.2.1
   ·unfold j98
    rw [q,cond_true,cond_true,jpj E]
    rfl
   ·rfl) (λa rec m=>by
  show j3m l l (nI l.length) (j1z (l.take ((l.length:Nat):Int).toNat)) (j7C (l.take ((l.length:Nat):Int).toNat)) (l.length:Int) a (λo u j d=>rec (o,u,j,d)) (λf=>k f true) (λ_=>k ([],[]) false)=_
  unfold j3m
  rw [ZaP,cond_false])).trans ?_
 unfold jge
 cases Z1S (λi d r=>jcN (l.take i) d r) 0 l d<;>rfl
theorem jpr (l:List RC) (h:l.length<=1048576) (d:∀ r∈l,j1x r.2.2) (k:Bool->Res):jaF l k=k (jhz l):=by
 unfold jaF jhz
 rw [jrj]
 cases b:decide (l.length<=400)
 ·rfl
 rw [Bool.not_true,cond_false,joK l h d,b]
 cases jge zDB l<;>rfl
theorem jpc (l:List RC) (h:l.length<=1048576) (d:∀ r∈l,j1x r.2.2) (k:Bool->Res):ja9 l k=k (jhz l):=by
 unfold ja9 jhz
 rw [jrj]
 cases b:decide (l.length<=400)
 ·rfl
 rw [Bool.not_true,cond_false,joy _ jfY l h d]
 cases jge zDB l<;>rfl
end Go.PI.G
