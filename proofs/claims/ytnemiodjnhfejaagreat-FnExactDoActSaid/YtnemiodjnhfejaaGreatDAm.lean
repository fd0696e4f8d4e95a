/-
  Program's code interpreted over typed values; printed texts; plain laws. No conditions.
-/
import Derived.Test.YtnemiodjnhfejaaGreatDAl
import Derived.Test.YtnemiodjnhfejaaGreatDAg
import Derived.Test.YtnemiodjnhfejaaGreatDAj
import Derived.Test.YtnemiodjnhfejaaGreatDAk
import Derived.Test.YtnemiodjnhfejaaGreatDAh
set_option linter.unusedVariables false
set_option linter.unusedSimpArgs false
namespace Go.PI.G
open Go Go.PI Go.Proofs
theorem jmc {α:Type} {g:α->(Bool->Res)->Res} (q:α->Bool):(l:List α)->(∀ x∈l,∀ k,g x k=k (q x))->(d:List α)->(k:List α->Res)->dgE g l d k=k (d++l.filter λx=> !q x)
 | [],_,d,k=>by rw [List.filter_nil,List.append_nil];rfl
 | x::l,h,d,k=>by
  show g x (λb=>dgE g l (bif b then d else d++[x]) k)=_
  rw [h x (by simp),jmc q l λy i=>h y (List.mem_cons_of_mem _ i)]
  cases f:q x
  ·rw [List.filter_cons_of_pos (by rw [f];rfl),cond_false,List.append_assoc];rfl
  ·rw [List.filter_cons_of_neg (by rw [f];simp),cond_true]
theorem jrL {α:Type} (p:α->Bool) (g:α->α) (l:List α) (i:Nat) (n:i<l.length) (d:p l[i]=true) (f:∀ j (b:j<l.length),j≠i->p l[j]=false):l.map (λx=>bif p x then g x else x)=l.set i (g l[i]):=by
 apply List.ext_getElem
 ·simp
 ·intro j k m
  have b:j<l.length:=by simpa using k
  rw [List.getElem_map,List.getElem_set]
  by_cases e:i=j
  ·subst e
   rw [if_pos rfl,d,cond_true]
  ·rw [if_neg e,f j b λh=>e h.symm,cond_false]
theorem map_none {α:Type} (p:α->Bool) (g:α->α) (l:List α) (h:∀ x∈l,p x=false):l.map (λx=>bif p x then g x else x)=l:=by
 induction l with
 | nil=>rfl
 | cons x l d=>rw [List.map_cons,h x (by simp),cond_false,d λy b=>h y (List.mem_cons_of_mem _ b)]
theorem jnX {α:Type} {R:α->α->Prop} {l:List α} (h:l.Pairwise R) {i j:Nat} (d:i<l.length) (f:j<l.length) (e:i≠j):R l[i] l[j]\/R l[j] l[i]:=by
 rcases Nat.lt_or_gt_of_ne e with b | b
 ·exact .inl (List.pairwise_iff_getElem.1 h i j d f b)
 ·exact .inr (List.pairwise_iff_getElem.1 h j i f d b)
theorem jeg (n:Nat):(Z9o n n&&true)=true:=by
 rw [Bool.and_true]
 exact Nat.beq_refl n
theorem jtF {l:List C} (k:j5t l=true) (n m:ByteArray) {i:Nat} (f:i<l.length) (h:l[i].1=n):l.map (j9R n m)=l.set i (m,l[i].2):=by
 have p:=((j7e l).1 k).2
 have:j9R n m=λc:C=>bif sEq c.1 n then (m,c.2) else c:=by
  funext c
  unfold j9R ren
  cases sEq c.1 n<;>rfl
 rw [this]
 refine jrL (λc:C=>sEq c.1 n) (λc=>(m,c.2)) l i f ((j0e _ _).2 h) λj g e=> ?_
 have:l[j].1≠n:=λd=>by
  rcases jnX p f g e.symm with b | b
  ·exact b (h.trans d.symm)
  ·exact b (d.trans h.symm)
 cases q:sEq l[j].1 n
 ·rfl
 ·exact absurd ((j0e _ _).1 q) this
theorem jtG {cs:List C} {ks:List ByteArray} (q:j1t cs (-1) ks=true) (n m:ByteArray):ks.map (ren n m)=bif decide (Z9F (λx=>sEq n x) ks>=0) then ks.set (Z9F (λx=>sEq n x) ks).toNat m else ks:=by
 have w:=((j5G cs ks (-1)).1 q).2
 have:ren n m=λs=>bif sEq s n then m else s:=by funext s;rfl
 rw [this]
 have d:∀ a b:ByteArray,sEq a b=sEq b a:=λa b=>by
  rw [Bool.eq_iff_iff,j0e,j0e]
  exact ⟨Eq.symm,Eq.symm⟩
 rcases jbh (λx=>sEq n x) ks with ⟨g,f⟩ | ⟨i,k,g,f,_⟩
 ·rw [g]
  exact map_none (λs=>sEq s n) (λ_=>m) ks λx z=>by rw [d];exact f x z
 ·rw [g,decide_eq_true (by omega),cond_true,Int.toNat_natCast]
  refine jrL (λs=>sEq s n) (λ_=>m) ks i k (by rw [d];exact f) λj p e=> ?_
  have r:n=ks[i]:=(j0e _ _).1 f
  cases y:sEq ks[j] n
  ·rfl
  ·have l:ks[j]=ks[i]:=((j0e _ _).1 y).trans r
   rcases jnX w k p e.symm with h | h<;>rw [l] at h<;>exact absurd h (Int.lt_irrefl _)
theorem juo {α:Type} (z:α) (l:List α) (i:Nat) (b:i<l.length) (x:α):nth z (upd l (i:Int) x) (i:Int)=x:=by
 rw [ZaF,Zay _ _ _ (by simpa using b),List.getElem_set_self]
theorem jrT (c:List T) (d:D) (i:Nat) (b:i<c.length) (Q:c.length<=1048576) (ht:j04 c[i]=true) (K:tSm c[i]) (l:j0B c[i] d=0) (I:d.1=2\/d.1=3\/d.1=4\/d.1=5) (w:d.1=3->0<d.2.2.1.length) (k:List T->Res) :
  j1C (i:Int) d.1 d c k=k (bif d.1==2 then c.eraseIdx i else c.set i (jbg c[i] d)):=by
 obtain ⟨V,W,X,Y,Z⟩:=K
 obtain ⟨_,t1,t2,t3,L,M⟩:=(j7C _).1 ht
 unfold j1C
 have f:inb (i:Int) c.length=true:=j01 b
 rcases I with h | h | h | h
 ·rw [h]
  simp only [show ((2:Int)==1)=false from rfl,show ((2:Int)==2)=true from rfl,cond_false,cond_true]
  unfold j55 jct
  rw [j02 (n:=(i:Int)+1) (by omega),show Z8e (i:Int) ((i:Int)+1) c.length=true from jaA (j:=i+1) ⟨by omega,by omega⟩,cond_true,List.eraseIdx_eq_take_drop_succ]
  rfl
 ·have w:=w h
  have m:∀ x:T,inb (i:Int) (c.set i x).length=true:=λx=>j01 (by simpa using b)
  have p:inb 0 d.2.2.1.length=true:=j01 (i:=0) w
  rw [h]
  simp only [show ((3:Int)==1)=false from rfl,show ((3:Int)==2)=false from rfl,show ((3:Int)==3)=true from rfl,cond_false,cond_true]
  rw [f,cond_true,p,cond_true,Zay _ _ _ b,ZaL (by unfold LIM;omega),cond_true,ZaF,m,cond_true,jeg,cond_true]
  unfold jbg jlf
  rw [h]
  rfl
 ·rw [h]
  simp only [show ((4:Int)==1)=false from rfl,show ((4:Int)==2)=false from rfl,show ((4:Int)==3)=false from rfl,show ((4:Int)==4)=true from rfl,cond_false,cond_true]
  rw [f,cond_true,Zay _ _ _ b]
  unfold j39
  rw [ZaL (by unfold LIM;omega),cond_true,jmc (g:=λ(e:C) k=>jcy e d k) (λx:C=>sEq x.1 d.2.2.2.2.1) c[i].2.1 (λx R U=>rfl),List.nil_append]
  simp only [jeg,cond_true,ZaF]
  unfold jbg ji8
  rw [h]
  rfl
 ·have P:¬ j03 c[i].2.1 d.2.2.2.2.1<0:=λA=>by
   unfold j0B at l
   rw [h] at l
   simp only [show ((5:Int)==3)=false from rfl,show ((5:Int)==4)=false from rfl,show ((5:Int)==5)=true from rfl,cond_false,cond_true,decide_eq_true A] at l
   cases H: !decide (j03 c[i].2.1 d.2.2.2.2.2<0)<;>rw [H] at l<;>cases l
  rcases j1r c[i].2.1 d.2.2.2.2.1 with ⟨B,_⟩ | ⟨j,y,B,z,_⟩
  ·omega
  rw [h]
  simp only [show ((5:Int)==1)=false from rfl,show ((5:Int)==2)=false from rfl,show ((5:Int)==3)=false from rfl,show ((5:Int)==4)=false from rfl,show ((5:Int)==5)=true from rfl,cond_false,cond_true]
  rw [f,cond_true,j8I _ _ (by rw [Zay _ _ _ b];unfold LIM;omega)]
  simp only [Zay _ _ _ b,juo _ _ _ b]
  rw [B]
  simp only [Zay _ _ _ y]
  rw [j01 y,cond_true,jue _ _ (by unfold LIM;omega)]
  have E:=jtF L d.2.2.2.2.1 d.2.2.2.2.2 y z
  have F:=jtG M d.2.2.2.2.1 d.2.2.2.2.2
  have G:jbg c[i] d=(c[i].1,c[i].2.1.map (j9R d.2.2.2.2.1 d.2.2.2.2.2),c[i].2.2.map (ren d.2.2.2.2.1 d.2.2.2.2.2)):=by
   unfold jbg jfY
   rw [h]
   rfl
  rw [G,E,F]
  rcases jbh (λx=>sEq d.2.2.2.2.1 x) c[i].2.2 with ⟨r,_⟩ | ⟨q,J,r,_,_⟩
  ·rw [r,ZaF,ZaF]
   rfl
  ·rw [r,decide_eq_true (by omega),cond_true,cond_true,j01 J,cond_true]
   simp only [ZaF,Int.toNat_natCast]
   rw [List.set_set]
theorem jre (c:List T) (d:D) (z:msr (.slice yT) c<=1048576) (n:dSm d) (k:List T->Int->Res):j5d c d k=k (jgy c d).1 (jgy c d).2:=by
 obtain ⟨G,C⟩:=jeL z
 unfold j5d jgy
 rw [jmh c z]
 cases A:j2z c
 ·rfl
 rw [Bool.not_true,cond_false,Bool.false_or,jhQ d n]
 cases m:j1c d
 ·rfl
 rw [Bool.not_true,cond_false,cond_false,jkN _ _ z m,jkM c z,j8K _ _ (by unfold LIM;omega)]
 obtain ⟨L,H⟩:=jhb m
 cases f:(j0f c d != 0)
 rotate_left
 ·rfl
 rw [cond_false,cond_false]
 have f:j0f c d=0:=by simpa using f
 have B:=(j0h c).1 A
 by_cases F:d.1=1
 ·unfold j0f at f
  unfold j1h
  rw [F] at f ⊢
  simp only [show ((1:Int)==1)=true from rfl,cond_true] at f ⊢
  rcases j0J c d.2.1 with ⟨w,r⟩ | ⟨i,j,w,_⟩
  ·unfold j1C
   simp only [show ((1:Int)==1)=true from rfl,cond_true]
   rw [jqc _ _ G,jkO _ n]
   unfold j56 jgC
   obtain ⟨p,M,g,q⟩:=jrG (R:=tR) (λa b h=>jsQ h) (x:=((d.2.1,d.2.2.1,d.2.2.2.1):T)) (l:=c) (λy K=>jjK λe=>r y K e.symm)
   have g:p=(c.takeWhile λy=>sLt y.1 d.2.1).length:=g
   rw [<-g]
   have I:jlk (p:Int) c.length [((d.2.1,d.2.2.1,d.2.2.2.1):T)].length=true:=decide_eq_true ⟨by omega,by omega,by simp,by simp;unfold LIM;omega⟩
   rw [I,cond_true,q,Int.toNat_natCast,List.append_assoc]
   rfl
  ·rw [decide_eq_false (by omega)] at f
   cases f
 ·have J:d.1=2\/d.1=3\/d.1=4\/d.1=5:=by omega
  unfold j0f at f
  unfold j1h
  have E:(d.1==1)=false:=by simpa using F
  rw [E,cond_false] at f
  rw [E,cond_false]
  rcases j0J c d.2.1 with ⟨w,r⟩ | ⟨i,j,w,_⟩
  ·rw [decide_eq_true (by omega)] at f
   cases f
  ·rw [decide_eq_false (by omega),cond_false,w,Zay _ _ _ j] at f
   rw [w,Zay _ _ _ j,Int.toNat_natCast,jrT c d i j G (B.2.1 _ (List.getElem_mem j)) (C _ (List.getElem_mem j)) f J H]
end Go.PI.G
namespace Go.PI.G
open Go Go.PI Go.Proofs
theorem j8J (l:List (List V)) (h:l.length<=1048576) (f:∀ x∈l,x.length<=1048576) (k:List (List V)->Res):j0A l k=k l:=by
 unfold j0A jeR
 have:=Z9T l (λi b=>(b,i)) (λx=>[x]) 1048576 [] (step:=j8N l (nI l.length)) (λb=>k b) (λb=>k b) (by unfold LIM;omega) (λi d _=>by
  rw [j10,List.nil_append,List.length_take];omega) (by simp) (λi b rec d j g=>by
  show j2S _ _ _ _ _ _=_
  unfold j2S j1e
  dsimp only
  rw [ZaQ d,cond_true,j01 d,cond_true,Zay _ _ _ d,jdc (f _ (List.getElem_mem d)),cond_true,ZaL (by unfold LIM;omega),cond_true,j02 (n:=(i:Int)+1) (by omega)]) (λb rec=>by
  show j2S _ _ _ _ _ _=_
  unfold j2S
  dsimp only
  rw [ZaP,cond_false])
 refine this.trans ?_
 rw [j10,List.nil_append]
theorem jmk (t:T) (h:msr yT t<=1048576) (ht:j04 t=true) (l:List (List V)) (r:List V) (g:∀ x∈l,x.length=t.2.1.length) (p:l.length<=60) (j:r.length=t.2.1.length) (k:Int->Res) :
  jcC l t r Z1c 0 k=k (((l.takeWhile λy=>kR t y r).length:Nat):Int):=by
 have f:∀ x:List V,(j08 t x).length<=LIM:=λx=>by
  rw [jaD]
  have:=(j36 h).2.2.1
  unfold LIM;omega
 have q:(l.takeWhile λy=>kR t y r).length<=l.length:=(List.takeWhile_sublist _).length_le
 refine Z3u (step:=j4l l t r) (λi=>(i:Int)) (l.takeWhile λy=>kR t y r).length k _ (λi m rec=> ?_) (λrec=> ?_) Z1c (Z2b (by omega))
 ·obtain ⟨b,d⟩:=jqY _ l i m
  have d:klt (j08 t l[i]) (j08 t r)=true:=d
  show j2B _ _ _ _ _ _=_
  unfold j2B
  rw [ZaQ b,cond_true,j01 b,cond_true,Zay _ _ _ b,j3N t h ht _ (g _ (List.getElem_mem b)),j3N t h ht r j,jcw _ _ (f _),d,cond_true,j02 (n:=(i:Int)+1) (by omega)]
  rfl
 ·show j2B _ _ _ _ _ _=_
  unfold j2B
  by_cases b:(l.takeWhile λy=>kR t y r).length<l.length
  ·have d:klt (j08 t l[(l.takeWhile λy=>kR t y r).length]) (j08 t r)=false:=jqX (λy=>kR t y r) l b
   rw [ZaQ b,cond_true,j01 b,cond_true,Zay _ _ _ b,j3N t h ht _ (g _ (List.getElem_mem b)),j3N t h ht r j,jcw _ _ (f _),d,cond_false]
  ·rw [decide_eq_false (show ¬ (((l.takeWhile λy=>kR t y r).length:Nat):Int)<nI l.length by unfold nI;omega),cond_false]
theorem jrX (t:T):∀ a b:List V,kR t a b=true->kR t b a=false:=λa b h=>jsE h
theorem jiz (t:T) (h:msr yT t<=1048576) (ht:j04 t=true) (l:List (List V)) (r:List V) (n:∀ x∈l,j0z t.2.1 x=true) (f:l.length<=60) (q:j0z t.2.1 r=true) (g:∀ x∈l,j08 t x≠j08 t r) (k:List (List V)->Res) :
  j2L t l r k=k (ji1 t l r):=by
 have A:=(j36 h).2.1
 have b:∀ x∈l,x.length=t.2.1.length:=λx m=>j0F (n x m)
 have j:=j0F q
 unfold j2L
 rw [jmk t h ht l r b f j,j8J l (by omega) (λx m=>by rw [b x m];omega)]
 unfold j1e j6d jgC
 rw [jdc (by omega),cond_true]
 obtain ⟨p,B,i,d⟩:=jrG (R:=kR t) (jrX t) (x:=r) (l:=l) (λy w=>jqk ht q (n y w) (λe=>g y w e.symm))
 rw [<-i]
 have z:jlk (p:Int) l.length [r].length=true:=decide_eq_true ⟨by omega,by omega,by simp,by simp;unfold LIM;omega⟩
 dsimp only
 rw [z,cond_true,Int.toNat_natCast,List.append_assoc]
 unfold ji1
 rw [d]
 rfl
theorem ju1 {t:T} {l:List (List V)} {b:List V} (h:j09 t l b<0):∀ x∈l,j08 t x≠b:=jqt h
theorem jp5 (t:T) (h:msr yT t<=1048576) (l:List (List V)) (r:List V) (k:List (List V)->Int->Res):j84 t l r k=k (j6L t l r).1 (j6L t l r).2:=by
 unfold j84 j6L
 rw [ja6 t h]
 cases d:j0a t l
 ·rfl
 obtain ⟨ht,g,i⟩:=j0q d
 rw [Bool.not_true,cond_false,cond_false,jhS t h]
 cases f:j0z t.2.1 r
 ·rfl
 rw [Bool.not_true,cond_false,cond_false,j3N t h ht r (j0F f),j4f t h l d,jib]
 by_cases b:j09 t l (j08 t r)<0
 rotate_left
 ·rw [decide_eq_false b];rfl
 rw [decide_eq_true b,Bool.not_true,cond_false,cond_false,show (nI l.length==(60:Int))=(l.length==60) from jrH _ 60]
 cases (l.length==60)
 ·rw [cond_false,cond_false,jiz t h ht l r i g f (ju1 b)]
 ·rfl
theorem jsD {t:T} (ht:j04 t=true) {n:ByteArray} (d:n∈t.2.2) (v:V):j4e (nth zC t.2.1 (j03 t.2.1 n)) v=(j0u v&&(v.1==(nth zC t.2.1 (j03 t.2.1 n)).2.1)):=by
 have b:=(((j5G _ _ _).1 ((j7C t).1 ht).2.2.2.2.2).1 n d).2
 unfold j4e
 rw [b,Bool.not_true,Bool.and_false,Bool.or_false]
theorem jjp (t:T) (h:msr yT t<=1048576) (b:List V) (k:Bool->Res):j5z t b k=k (jbp t b):=by
 unfold j5z jbp
 obtain ⟨p,q,r,w,y⟩:=j36 h
 rw [jhU t h]
 cases ht:j04 t
 ·rfl
 rw [Bool.not_true,cond_false,Bool.true_and]
 by_cases f:b.length=t.2.2.length
 rotate_left
 ·rw [jmn f,cond_true,decide_eq_false f,Bool.false_and]
 rw [jmm f,cond_false,decide_eq_true f,Bool.true_and]
 unfold jdz
 have:=Z9P t.2.2 (λi=>i) (λi n=> !j4e (nth zC t.2.1 (j03 t.2.1 n)) (nth zV b (i:Int))) (step:=j5A b t.2.2 (nI t.2.2.length) t) ((λ(_:Unit)=>k true),(λ(_:Unit)=>k false)) (k true) (k false) (by unfold LIM;omega) (λi rec d=>by
  have g:=jsD ht (List.getElem_mem d) (nth zV b (i:Int))
  obtain ⟨j,l,m⟩:=jqm ht (List.getElem_mem d)
  show j34 _ _ _ _ _ _ _ _=_
  unfold j34
  rw [g,ZaQ d,cond_true,j01 d,cond_true,j01 (f ▸ d),cond_true,j9m,Zay _ _ _ d]
  cases j0u (nth zV b (i:Int))
  ·rfl
  ·rw [Bool.not_true,cond_false,cond_true,j8I _ _ (by unfold LIM;omega),m,j01 l,cond_true,j02 (n:=(i:Int)+1) (by omega),Bool.true_and]
   rfl) (λrec=>by
  show j34 _ _ _ _ _ _ _ _=_
  unfold j34
  rw [ZaP,cond_false])
 refine this.trans ?_
 cases Z71 (λi n=> !j4e (nth zC t.2.1 (j03 t.2.1 n)) (nth zV b (i:Int))) 0 t.2.2<;>rfl
theorem jof (l:List (List V)) (i:Nat) (b:i<l.length) (d:l.length<=60) (k:List (List V)->Res):j11 l (i:Int) (Z9K ((i:Int)+1)) k=k (l.eraseIdx i):=by
 unfold j11 jct
 rw [j02 (n:=(i:Int)+1) (by omega),show Z8e (i:Int) ((i:Int)+1) l.length=true from jaA (j:=i+1) ⟨by omega,by omega⟩,cond_true,List.eraseIdx_eq_take_drop_succ]
 rfl
theorem jp6 (t:T) (h:msr yT t<=1048576) (l:List (List V)) (d r:List V) (k:List (List V)->Int->Res):j85 t l d r k=k (j6M t l d r).1 (j6M t l d r).2:=by
 unfold j85 j6M
 rw [ja6 t h]
 cases g:j0a t l
 ·rfl
 obtain ⟨ht,D,H⟩:=j0q g
 rw [Bool.not_true,cond_false,cond_false,jhS t h]
 cases w:j0z t.2.1 r
 ·rfl
 rw [Bool.not_true,cond_false,cond_false,jjp t h]
 cases jbp t d
 ·rfl
 rw [Bool.not_true,cond_false,Bool.false_or,j4f t h l g]
 by_cases f:j09 t l d<0
 ·rw [decide_eq_true f];rfl
 rw [decide_eq_false f,cond_false,cond_false,j3N t h ht r (j0F w),jow g f]
 obtain ⟨i,A,m⟩:=jfZ f
 have p:=jfO g i
 obtain ⟨_,B,C⟩:=j0q p
 have b:=jow g (now:=j08 t r) f
 rw [m,Int.toNat_natCast] at b
 have n:(j08 t r).length<=LIM:=by
  rw [jaD]
  have:=(j36 h).2.2.1
  unfold LIM;omega
 unfold j6w
 rw [jfQ _ _ n,m,Int.toNat_natCast,j4f t h l g,jib]
 have j:decide (j09 t (l.eraseIdx i) (j08 t r)<0)=true->j0A l (λE=>j11 E (i:Int) (Z9K ((i:Int)+1)) λF=>j2L t F r λG=>k G 0)=k (ji1 t (l.eraseIdx i) r) 0:=λz=>by
  rw [j8J l (by omega) (jhp h g),jof l i A D,jiz t h ht _ r C B w (ju1 (of_decide_eq_true z))]
 cases q:j1S zV veq (j08 t r) d
 ·rw [q] at b
  rw [Bool.not_false,cond_true,Bool.true_and]
  rw [Bool.not_false,Bool.true_and] at b
  cases y: !decide (j09 t l (j08 t r)<0)
  ·rw [y] at b
   rw [cond_false,cond_false,j4f t h l g,m]
   exact j (by simpa using b)
  ·rfl
 ·rw [q] at b
  rw [Bool.not_true,cond_false,Bool.false_and,cond_false,j4f t h l g,m]
  exact j (by simpa using b)
theorem jp4 (t:T) (h:msr yT t<=1048576) (l:List (List V)) (b:List V) (k:List (List V)->Int->Res):j83 t l b k=k (j6K t l b).1 (j6K t l b).2:=by
 unfold j83 j6K
 rw [ja6 t h]
 cases f:j0a t l
 ·rfl
 obtain ⟨ht,m,n⟩:=j0q f
 rw [Bool.not_true,cond_false,cond_false,jjp t h]
 cases jbp t b
 ·rfl
 rw [Bool.not_true,cond_false,Bool.false_or,j4f t h l f]
 by_cases d:j09 t l b<0
 ·rw [decide_eq_true d];rfl
 rw [decide_eq_false d,cond_false,cond_false]
 obtain ⟨i,j,g⟩:=jfZ d
 rw [j4f t h l f,g,Int.toNat_natCast,j8J l (by omega) (jhp h f),jof l i j m]
end Go.PI.G
namespace Go.PI.G
open Go Go.PI Go.Proofs
theorem jso {t:T} {d:D} (g:d.2.1=t.1) (f:d.1≠1):j0f [t] d=j0B t d:=by
 have b:j07 [t] d.2.1=(0:Int):=by
  have:=jg9 (c:=[t]) (by simp) (i:=0) (by simp)
  rw [g]
  exact this
 unfold j0f
 rw [show (d.1==1)=false by simpa using f,cond_false,b]
 rfl
theorem jq8 (d:D) (l:List (List V)) (m:l.length<=60) (j:∀ x∈l,x.length<=1048576) (h:0<d.2.2.1.length) (k:List (List V)->Res):j8j (nI l.length) d Z1c l 0 k=k (l.map λx=>x++[(nth zC d.2.2.1 0).2.2.2.2]):=by
 unfold j8j
 have:=Z3u (step:=j69 (nI l.length) d) (λi=>((l.take i).map (λx:List V=>x++[(nth zC d.2.2.1 0).2.2.2.2])++l.drop i,(i:Int))) l.length k (k (l.map λx=>x++[(nth zC d.2.2.1 0).2.2.2.2])) (λi b rec=> ?_) (λrec=> ?_) Z1c (Z2b (by omega))
 ·refine Eq.trans ?_ this
  simp
 ·show j3r _ _ _ _ _ _=_
  unfold j3r
  dsimp only
  have p:=j _ (List.getElem_mem b)
  have g:inb (i:Int) ((l.take i).map (λx:List V=>x++[(nth zC d.2.2.1 0).2.2.2.2])++l.drop i).length=true:=j01 (by rw [jhd];exact b)
  have f:∀ y:List V,inb (i:Int) (((l.take i).map (λx:List V=>x++[(nth zC d.2.2.1 0).2.2.2.2])++l.drop i).set i y).length=true:=λy=>j01 (by rw [List.length_set,jhd];exact b)
  rw [ZaQ b,cond_true,g,cond_true,show inb 0 d.2.2.1.length=true from j01 (i:=0) h,cond_true,jq5 _ _ _ _ b,ZaL (by unfold LIM;omega),cond_true,ZaF,f,cond_true,jeg,cond_true,j02 (n:=(i:Int)+1) (by omega),<-jq6 _ _ _ b]
  rfl
 ·show j3r _ _ _ _ _ _=_
  unfold j3r
  dsimp only
  rw [ZaP,cond_false,List.take_length,List.drop_length,List.append_nil]
theorem jqa (a:Nat) (l:List (List V)) (z:l.length<=60) (q:∀ x∈l,a<x.length/\x.length<=1048576) (k:List (List V)->Res):j8k (a:Int) (nI l.length) Z1c l 0 k=k (l.map λx=>x.eraseIdx a):=by
 unfold j8k
 have:=Z3u (step:=j6a (a:Int) (nI l.length)) (λi=>((l.take i).map (λx:List V=>x.eraseIdx a)++l.drop i,(i:Int))) l.length k (k (l.map λx=>x.eraseIdx a)) (λi b rec=> ?_) (λrec=> ?_) Z1c (Z2b (by omega))
 ·refine Eq.trans ?_ this
  simp
 ·show j3s _ _ _ _ _ _=_
  unfold j3s j9T jct
  dsimp only
  obtain ⟨r,w⟩:=q _ (List.getElem_mem b)
  have f:inb (i:Int) ((l.take i).map (λx:List V=>x.eraseIdx a)++l.drop i).length=true:=j01 (by rw [jhd];exact b)
  have d:∀ y:List V,inb (i:Int) (((l.take i).map (λx:List V=>x.eraseIdx a)++l.drop i).set i y).length=true:=λy=>j01 (by rw [List.length_set,jhd];exact b)
  have p:l[i].take a++l[i].drop (a+1)=l[i].eraseIdx a:=(List.eraseIdx_eq_take_drop_succ _ _).symm
  have m:Z8e (a:Int) ((a:Int)+1) l[i].length=true:=jaA (j:=a+1) ⟨by omega,by omega⟩
  have g:(a:Int).toNat=a:=Int.toNat_natCast a
  have h:((a:Int)+1).toNat=a+1:=by omega
  rw [ZaQ b,cond_true,f,cond_true,jq5 _ _ _ _ b,j02 (n:=(a:Int)+1) (by omega),m,cond_true,g,h,p,ZaF,d,cond_true,jeg,cond_true,j02 (n:=(i:Int)+1) (by omega),<-jq6 _ _ _ b]
  rfl
 ·show j3s _ _ _ _ _ _=_
  unfold j3s
  dsimp only
  rw [ZaP,cond_false,List.take_length,List.drop_length,List.append_nil]
theorem jnx (t:T) (h:msr yT t<=1048576) (l:List (List V)) (g:j0a t l=true) (d:D) (n:dSm d) (m:j1c d=true) (w:d.2.1=t.1) (i:d.1≠1) (k:List (List V)->Int->Res) :
  j6x t l d k=k (bif j0B t d != 0 then [] else bif d.1==2 then [] else jgx t d l) (j0B t d):=by
 obtain ⟨ht,z,F⟩:=j0q g
 obtain ⟨f,A⟩:=jhb m
 unfold j6x j5B
 rw [ja6 t h,g,Bool.not_true,cond_false,jhQ d n,m,Bool.not_true,cond_false]
 have r:sNe d.2.1 t.1=false:=by unfold sNe;rw [w];simp
 rw [r,cond_false,show (d.1==1)=false by simpa using i]
 dsimp only
 rw [cond_false,jkN _ _ (jns ht).2 m,jso w i]
 cases B:(j0B t d != 0)
 rotate_left
 ·rfl
 have b:j0B t d=0:=by simpa using B
 have q:=(j36 h).2.1
 rw [cond_false,cond_false,j8J l (by omega) (jhp h g),b]
 rcases f with e | e | e | e | e
 ·exact absurd e i
 ·rw [e];rfl
 ·unfold jgx
  rw [e]
  simp only [show ((3:Int)==2)=false from rfl,show ((3:Int)==3)=true from rfl,cond_false,cond_true]
  rw [jq8 d l z (jhp h g) (A e)]
 ·unfold jgx
  have G:¬ j03 t.2.1 d.2.2.2.2.1<0:=λp=>by
   unfold j0B at b
   rw [e] at b
   simp only [show ((4:Int)==3)=false from rfl,show ((4:Int)==4)=true from rfl,cond_false,cond_true,decide_eq_true p] at b
   cases b
  rcases j1r t.2.1 d.2.2.2.2.1 with ⟨y,_⟩ | ⟨j,C,y,_,_⟩
  ·omega
  rw [e]
  simp only [show ((4:Int)==2)=false from rfl,show ((4:Int)==3)=false from rfl,show ((4:Int)==4)=true from rfl,cond_false,cond_true]
  rw [j8I _ _ (by unfold LIM;omega),y,jqa j l z (λx E=>by rw [j0F (F x E)];exact ⟨C,q⟩)]
  rfl
 ·unfold jgx
  rw [e]
  rfl
end Go.PI.G
namespace Go.PI.G
open Go Go.PI Go.Proofs
theorem jeq {c:List T} (h:j2z c=true):msr (.slice yT) c<=1048576:=by
 obtain ⟨b,d,_⟩:=(j0h c).1 h
 have:=j6J (e:=yT) 400 c (λt ht=>jcH (d t ht))
 have f:c.length * (400+1)<=6 * 401:=Nat.mul_le_mul b (Nat.le_refl _)
 omega
theorem jjZ (l:List (List V)) (h:l.length<=1048576) (f:∀ x∈l,x.length<=1048576) (k:List (List V)->Res):j77 l k=k l:=by
 unfold j77 jg6
 have:=Z9T l (λi b=>(b,i)) (λx=>[x]) 1048576 [] (step:=j9X l (nI l.length)) (λb=>k b) (λb=>k b) (by unfold LIM;omega) (λi d _=>by
  rw [j10,List.nil_append,List.length_take];omega) (by simp) (λi b rec d j g=>by
  show j3G _ _ _ _ _ _=_
  unfold j3G j0I
  dsimp only
  rw [ZaQ d,cond_true,j01 d,cond_true,Zay _ _ _ d,jdc (f _ (List.getElem_mem d)),cond_true,ZaL (by unfold LIM;omega),cond_true,j02 (n:=(i:Int)+1) (by omega)]) (λb rec=>by
  show j3G _ _ _ _ _ _=_
  unfold j3G
  dsimp only
  rw [ZaP,cond_false])
 refine this.trans ?_
 rw [j10,List.nil_append]
theorem jli {d:DB} (h:dbB d=true):j2z d.1=true/\d.1.length<=6/\d.2.length=d.1.length/\∀ x∈d.2,x.length<=60/\∀ r∈x,r.length<=1048576:=by
 obtain ⟨b,k,l⟩:=(j2c d).1 h
 have n:=jeq b
 refine ⟨b,((j0h _).1 b).1,k,λx p=> ?_⟩
 obtain ⟨i,m,rfl⟩:=List.mem_iff_getElem.1 p
 have g:=l i (by omega) m
 refine ⟨(j0q g).2.1,λr f=> ?_⟩
 have q:=j0F ((j0q g).2.2 r f)
 have j:=(jeL n).2 _ (List.getElem_mem (show i<d.1.length by omega))
 have:=j.2.1
 omega
theorem jn3 (d:DB) (h:dbB d=true) (k:DB->Res):j28 d k=k d:=by
 obtain ⟨g,m,p,j⟩:=jli h
 unfold j28
 rw [jkW _ (jeq g)]
 unfold jbT
 have:=Z9T d.2 (λi b=>(i,(d.1,b))) (λx=>[x]) 1048576 [] (step:=j6m d.2 (nI d.2.length)) (λb=>k b) (λb=>k (d.1,b)) (by unfold LIM;omega) (λi f _=>by
  rw [j10,List.nil_append,List.length_take];omega) (by simp) (λi b rec f r q=>by
  show j3I _ _ _ _ _ _=_
  unfold j3I
  obtain ⟨w,l⟩:=j _ (List.getElem_mem f)
  dsimp only
  rw [ZaQ f,cond_true,j01 f,cond_true,Zay _ _ _ f,jjZ _ (by omega) l,ZaL (by unfold LIM;omega),cond_true,j02 (n:=(i:Int)+1) (by omega)]) (λb rec=>by
  show j3I _ _ _ _ _ _=_
  unfold j3I
  dsimp only
  rw [ZaP,cond_false])
 refine this.trans ?_
 rw [j10,List.nil_append]
theorem jhP (d:DB) (h:dbB d=true) (k:DB->Res):j1s d k=k d:=by
 obtain ⟨g,m,p,j⟩:=jli h
 unfold j1s
 rw [jkM _ (jeq g)]
 unfold jcB
 have:=Z9T d.2 (λi b=>(i,(d.1,b))) (λx=>[x]) 1048576 [] (step:=j7p d.2 (nI d.2.length)) (λb=>k b) (λb=>k (d.1,b)) (by unfold LIM;omega) (λi f _=>by
  rw [j10,List.nil_append,List.length_take];omega) (by simp) (λi b rec f r q=>by
  show j4k _ _ _ _ _ _=_
  unfold j4k
  obtain ⟨w,l⟩:=j _ (List.getElem_mem f)
  dsimp only
  rw [ZaQ f,cond_true,j01 f,cond_true,Zay _ _ _ f,j8J _ (by omega) l,ZaL (by unfold LIM;omega),cond_true,j02 (n:=(i:Int)+1) (by omega)]) (λb rec=>by
  show j4k _ _ _ _ _ _=_
  unfold j4k
  dsimp only
  rw [ZaP,cond_false])
 refine this.trans ?_
 rw [j10,List.nil_append]
theorem jqQ (t:T) (h:msr yT t<=1048576) (l:List (List V)) (s:ST) (b:s.1≠5) (k:List (List V)->Int->Res):j1w t l s k=k (j38 t l s).1 (j38 t l s).2:=by
 unfold j1w j38
 cases (s.1==1)
 ·rw [cond_false,cond_false]
  cases (s.1==2)
  ·rw [cond_false,cond_false]
   cases (s.1==3)
   ·rw [cond_false,cond_false,show (s.1==5)=false by simpa using b]
    rfl
   ·rw [cond_true,cond_true,jpx t h]
  ·rw [cond_true,cond_true,jpz t h]
 ·rw [cond_true,cond_true,jpy t h]
end Go.PI.G
namespace Go.PI.G
open Go Go.PI Go.Proofs
theorem juA (b:Int) (s:ST) (a z:Res):j97 b s (λ_=>a) (λ_=>z)=bif decide (b<0)&& !((s.1==5)&&(s.2.2.2.2.1==1)) then z else a:=by
 unfold j97
 cases decide (b<0)
 ·rfl
 ·rw [cond_true,Bool.true_and]
  unfold bne
  cases (s.1==5)
  ·rfl
  ·cases (s.2.2.2.2.1==1)<;>rfl
theorem jrx {t:T} {l:List (List V)} {s:ST}:0<=(j38 t l s).2/\(j38 t l s).2<=5:=by
 unfold j38 j6L j6M j6K
 cases (s.1==1)
 ·cases (s.1==2)
  ·cases (s.1==3)
   ·simp
   ·simp only [cond_true,cond_false]
    cases j0a t l
    ·simp
    ·cases (!jbp t s.2.2.1||decide (j09 t l s.2.2.1<0))<;>simp
  ·simp only [cond_true,cond_false]
   cases j0a t l
   ·simp
   ·cases j0z t.2.1 s.2.2.2.1
    ·simp
    ·cases (!jbp t s.2.2.1||decide (j09 t l s.2.2.1<0))
     ·cases !decide (j09 t (l.eraseIdx (j09 t l s.2.2.1).toNat) (j08 t s.2.2.2.1)<0)<;>simp
     ·simp
 ·simp only [cond_true,cond_false]
  cases j0a t l
  ·simp
  ·cases j0z t.2.1 s.2.2.2.1
   ·simp
   ·cases !decide (j09 t l (j08 t s.2.2.2.1)<0)
    ·cases (l.length==60)<;>simp
    ·simp
theorem jqL (d:DB) (h:dbB d=true) (s:ST) (q:s.1≠5) (i:Nat) (f:i<d.1.length) (g:j07 d.1 s.2.1=(i:Int)) (k:DB->Int->Res) :
  (bif inb (i:Int) d.1.length then
          bif inb (i:Int) d.2.length then
           j1w (nth zT d.1 (i:Int)) (nth [] d.2 (i:Int)) s λ(w:List (List V)) (r:Int)=>
            bif (r != 0) then
             k ([],[]) (Z9K (10+r))
            else
             j28 d λ(m:DB)=>
              bif inb (i:Int) (List.length m.2) then
               k (m.1,upd m.2 (i:Int) w) 0
              else none
          else none
         else none)=k (j2q d s).1 (j2q d s).2:=by
 obtain ⟨p,y,z⟩:=(j2c d).1 h
 have b:i<d.2.length:=by omega
 have B:=(jeL (jeq p)).2 _ (List.getElem_mem f)
 have ht:j04 d.1[i]=true:=((j0h _).1 p).2.1 _ (List.getElem_mem f)
 have j:msr yT d.1[i]<=1048576:=Nat.le_trans (jcH ht) (by omega)
 rw [j01 f,cond_true,j01 b,cond_true,Zay _ _ _ f,Zay _ _ _ b,jqQ _ j _ _ q]
 unfold j2q
 rw [g,decide_eq_false (by omega),Bool.false_and,cond_false,show (s.1==5)=false by simpa using q,cond_false,Zay _ _ _ f,Zay _ _ _ b]
 have A:=jrx (t:=d.1[i]) (l:=d.2[i]) (s:=s)
 cases C:((j38 d.1[i] d.2[i] s).2 != 0)
 ·rw [cond_false,cond_false,jn3 d h,j01 b,cond_true,ZaF,Int.toNat_natCast]
 ·rw [cond_true,cond_true,j02 (n:=10+(j38 d.1[i] d.2[i] s).2) (by omega)]
end Go.PI.G
namespace Go.PI.G
open Go Go.PI Go.Proofs
noncomputable def jar (d:DB) (x:D) (u:T):List (List V):=
 bif decide (j07 d.1 u.1>=0)&&sEq u.1 x.2.1 then (bif x.1==2 then [] else jgx (nth zT d.1 (j07 d.1 u.1)) x (nth [] d.2 (j07 d.1 u.1)))
 else bif decide (j07 d.1 u.1>=0) then nth [] d.2 (j07 d.1 u.1) else []
theorem jsb (d:DB) (h:dbB d=true) (s:ST) (z:s.1=5) (B:s.2.2.2.2.2.1=s.2.1) (q:dSm s.2.2.2.2) (E:j1c s.2.2.2.2=true) (l:j0f d.1 s.2.2.2.2=0) (u:T) (k:List (List V)->Res) :
  (j2O d.1 u.1 λ(r:Int)=>j3H r s u λ(t:Bool)=>j2h r t d s [] k)=k (jar d s.2.2.2.2 u):=by
 obtain ⟨C,J,D⟩:=(j2c d).1 h
 obtain ⟨_,G,_,g⟩:=jli h
 rw [jfn _ _ (by unfold LIM;omega)]
 unfold j3H j2h jar
 rw [B]
 rcases j0J d.1 u.1 with ⟨p,_⟩ | ⟨i,n,p,A⟩
 ·rw [p]
  rfl
 ·have w:decide (j07 d.1 u.1>=0)=true:=decide_eq_true (by omega)
  have f:i<d.2.length:=by omega
  rw [w,Bool.true_and,cond_true,p,j01 n,j01 f,Zay _ _ _ n,Zay _ _ _ f]
  cases H:sEq u.1 s.2.1
  ·obtain ⟨K,I⟩:=g _ (List.getElem_mem f)
   simp only [cond_false,cond_true]
   rw [jjZ _ (by omega) I]
  ·have b:u.1=s.2.1:=(j0e _ _).1 H
   have ht:j04 d.1[i]=true:=((j0h _).1 C).2.1 _ (List.getElem_mem n)
   have y:msr yT d.1[i]<=1048576:=Nat.le_trans (jcH ht) (by omega)
   have m:j07 d.1 s.2.2.2.2.2.1=(i:Int):=by rw [B,<-b];exact p
   have j:s.2.2.2.2.1≠1:=λe=>by
    unfold j0f at l
    rw [e,m] at l
    rw [decide_eq_false (show ¬ (i:Int)<0 by omega)] at l
    cases l
   have F:j0B d.1[i] s.2.2.2.2=0:=by
    unfold j0f at l
    rw [show (s.2.2.2.2.1==1)=false by simpa using j,cond_false,m,decide_eq_false (show ¬ (i:Int)<0 by omega),cond_false,Zay _ _ _ n] at l
    exact l
   simp only [cond_true]
   unfold j1w
   rw [z]
   simp only [show ((5:Int)==1)=false from rfl,show ((5:Int)==2)=false from rfl,show ((5:Int)==3)=false from rfl,show ((5:Int)==5)=true from rfl,cond_false,cond_true,Z9Q]
   rw [jo7 _ y _ (D i n f) _ q E (by rw [B,<-b];exact A.symm) j,F]
   rfl
theorem jpZ {c:List T} {d:D} (b:j2z c=true) (f:j1c d=true):jgy c d=bif j0f c d != 0 then ([],j0f c d) else (j1h c d,0):=by
 unfold jgy
 rw [b,f]
 rfl
theorem jma (c:List T) (d:D):0<=j0f c d/\j0f c d<=8:=by
 unfold j0f j0B
 cases (d.1==1)
 ·cases decide (j07 c d.2.1<0)
  ·generalize nth zT c (j07 c d.2.1)=t
   cases (d.1==3)
   ·cases (d.1==4)
    ·cases (d.1==5)
     ·simp
     ·cases decide (j03 t.2.1 d.2.2.2.2.2<0)
      ·simp
      ·cases decide (j03 t.2.1 d.2.2.2.2.1<0)<;>simp
    ·cases decide (j03 t.2.1 d.2.2.2.2.1<0)
     ·cases t.2.2.any (λx=>sEq x d.2.2.2.2.1)<;>simp
     ·simp
   ·cases decide (j03 t.2.1 (nth zC d.2.2.1 0).1<0)
    ·simp
    ·cases (t.2.1.length==8)<;>simp
  ·simp
 ·cases decide (j07 c d.2.1<0)
  ·simp
  ·cases (c.length==6)<;>simp
theorem jo5 (d:DB) (h:dbB d=true) (s:ST) (q:s.1=5) (y:s.2.2.2.2.2.1=s.2.1) (j:dSm s.2.2.2.2) (p:j1c s.2.2.2.2=true) (k:DB->Int->Res) :
  j4a d s k=bif j0f d.1 s.2.2.2.2 != 0 then k ([],[]) (10+j0f d.1 s.2.2.2.2) else k (j1h d.1 s.2.2.2.2,(j1h d.1 s.2.2.2.2).map (jar d s.2.2.2.2)) 0:=by
 obtain ⟨m,z,A⟩:=(j2c d).1 h
 have D:=jma d.1 s.2.2.2.2
 unfold j4a
 rw [jkX _ _ (jeq m) j,jpZ m p]
 cases r:(j0f d.1 s.2.2.2.2 != 0)
 rotate_left
 ·rw [cond_true]
  dsimp only
  rw [r,cond_true,cond_true,j02 (n:=10+j0f d.1 s.2.2.2.2) (by omega)]
 have g:j0f d.1 s.2.2.2.2=0:=by simpa using r
 have f:=jnu m p g
 have w:=((j0h _).1 f).1
 rw [cond_false,cond_false]
 show (j6l (j1h d.1 s.2.2.2.2) (nI (j1h d.1 s.2.2.2.2).length) d s Z1c 0 (j1h d.1 s.2.2.2.2,[]) λb=>k b 0)=_
 generalize j1h d.1 s.2.2.2.2=c' at *
 unfold j6l
 have:=Z9T c' (λi b=>(i,(c',b))) (λu=>[jar d s.2.2.2.2 u]) 6 [] (step:=j2y c' (nI c'.length) d s) (λb=>k b 0) (λb=>k (c',b) 0) (by unfold LIM;omega) (λi l _=>by
  rw [jfP,List.nil_append,List.length_map,List.length_take];omega) (by simp) (λi b rec l C B=>by
  show j1q _ _ _ _ _ _ _ _=_
  unfold j1q
  dsimp only
  rw [ZaQ l,cond_true,j01 l,cond_true,Zay _ _ _ l,jsb d h s q y j p g,ZaL (by unfold LIM;omega),cond_true,j02 (n:=(i:Int)+1) (by omega)]) (λb rec=>by
  show j1q _ _ _ _ _ _ _ _=_
  unfold j1q
  dsimp only
  rw [ZaP,cond_false])
 refine this.trans ?_
 rw [jfP,List.nil_append]
end Go.PI.G
namespace Go.PI.G
open Go Go.PI Go.Proofs
theorem jsI {d:DB} (h:msr yDB d<=1048576):msr (.slice yT) d.1<=1048576/\d.1.length<=1048576/\d.2.length<=1048576/\(∀ t∈d.1,msr yT t<=1048576)/\∀ l∈d.2,l.length<=1048576:=by
 have i:msr yDB d=msr (.slice yT) d.1+msr (.slice (.slice (.slice yV))) d.2:=rfl
 have b:msr (.slice yT) d.1<=1048576:=by omega
 have f:msr (.slice (.slice (.slice yV))) d.2<=1048576:=by omega
 exact ⟨b,j0p b,j0p f,λt ht=>j0O b ht,λl g=>j0p (j0O f g)⟩
theorem jjX (d:DB) (h:msr yDB d<=1048576) (k:Bool->Res):j7i d k=k (dbB d):=by
 obtain ⟨j,m,p,l,q⟩:=jsI h
 unfold j7i dbB
 rw [jn1 _ j]
 cases j2z d.1
 ·rfl
 ·rw [Bool.not_true,cond_false,Bool.true_and]
  by_cases f:d.2.length=d.1.length
  ·have g:(nI d.2.length != nI d.1.length)=false:=by rw [f,ZaO]
   rw [g,cond_false,decide_eq_true f,Bool.true_and]
   unfold jfo
   have:=Z9P d.1 (λi=>i) (λi t=> !j0a t (nth [] d.2 (i:Int))) (step:=j9B d.1 (nI d.1.length) d) ((λ(_:Unit)=>k true),(λ(_:Unit)=>k false)) (k true) (k false) (by unfold LIM;omega) (λi rec b=>by
    show j72 _ _ d _ _ _ _=_
    unfold j72
    rw [ZaQ b,cond_true,j01 b,cond_true,j01 (f ▸ b),cond_true,Zay _ _ _ b,j89 _ (l _ (List.getElem_mem b)),j02 (n:=(i:Int)+1) (by omega)]) (λrec=>by
    show j72 _ _ d _ _ _ _=_
    unfold j72
    rw [ZaP,cond_false])
   refine this.trans ?_
   cases Z71 (λi t=> !j0a t (nth [] d.2 (i:Int))) 0 d.1<;>rfl
  ·have g:(nI d.2.length != nI d.1.length)=true:=by unfold nI;simp;omega
   rw [g,cond_true,decide_eq_false f,Bool.false_and]
theorem jsz (d:DB) (h:msr yDB d<=1048576) (k:Bool->Res):jb3 d k=k (dbB d):=by
 obtain ⟨j,m,p,l,q⟩:=jsI h
 unfold jb3 dbB
 rw [jmh _ j]
 cases j2z d.1
 ·rfl
 ·rw [Bool.not_true,cond_false,Bool.true_and]
  by_cases f:d.2.length=d.1.length
  ·have g:(nI d.2.length != nI d.1.length)=false:=by rw [f,ZaO]
   rw [g,cond_false,decide_eq_true f,Bool.true_and]
   unfold jeP
   have:=Z9P d.1 (λi=>i) (λi t=> !j0a t (nth [] d.2 (i:Int))) (step:=j9n d.1 (nI d.1.length) d) ((λ(_:Unit)=>k true),(λ(_:Unit)=>k false)) (k true) (k false) (by unfold LIM;omega) (λi rec b=>by
    show j6v _ _ d _ _ _ _=_
    unfold j6v
    rw [ZaQ b,cond_true,j01 b,cond_true,j01 (f ▸ b),cond_true,Zay _ _ _ b,ja6 _ (l _ (List.getElem_mem b)),j02 (n:=(i:Int)+1) (by omega)]) (λrec=>by
    show j6v _ _ d _ _ _ _=_
    unfold j6v
    rw [ZaP,cond_false])
   refine this.trans ?_
   cases Z71 (λi t=> !j0a t (nth [] d.2 (i:Int))) 0 d.1<;>rfl
  ·have g:(nI d.2.length != nI d.1.length)=true:=by unfold nI;simp;omega
   rw [g,cond_true,decide_eq_false f,Bool.false_and]
end Go.PI.G
namespace Go.PI.G
open Go Go.PI Go.Proofs
theorem jkT {d:DB} (h:dbB d=true) (x:D) {j:Nat} (i:j<d.1.length) (b:j<d.2.length) (k:d.1[j].1≠x.2.1):jar d x d.1[j]=d.2[j]:=by
 obtain ⟨g,l,m⟩:=(j2c d).1 h
 unfold jar
 have f:sEq d.1[j].1 x.2.1=false:=by
  cases f:sEq d.1[j].1 x.2.1
  ·rfl
  ·exact absurd ((j0e _ _).1 f) k
 rw [f,Bool.and_false,cond_false,jg9 ((j0h _).1 g).2.2 i,decide_eq_true (by omega),cond_true,Zay _ _ _ b]
theorem jsP {d:DB} (h:dbB d=true) (x:D) {i:Nat} (n:i<d.1.length) (q:i<d.2.length) (r:d.1[i].1=x.2.1):d.1.map (jar d x)=d.2.set i (jar d x d.1[i]):=by
 obtain ⟨l,m,y⟩:=(j2c d).1 h
 apply List.ext_getElem
 ·simp [m]
 ·intro j w z
  have g:j<d.1.length:=by simpa using w
  rw [List.getElem_map,List.getElem_set]
  by_cases e:i=j
  ·subst e
   rw [if_pos rfl]
  ·rw [if_neg e]
   refine jkT h x g (by omega) λk=> ?_
   have p:=((j0h _).1 l).2.2
   have b:=jnX p n g e
   rw [r,k,jei] at b
   rcases b with f | f<;>cases f
theorem ju9 {d:DB} (h:dbB d=true) {x:D} (K:j1c x=true) (A:j0f d.1 x=0):(j1h d.1 x).map (jar d x)=jk5 d x:=by
 obtain ⟨F,J,P⟩:=(j2c d).1 h
 have C:=(j0h _).1 F
 unfold jk5
 cases r:(x.1==1)
 ·rw [cond_false]
  rcases j0J d.1 x.2.1 with ⟨l,_⟩ | ⟨i,B,l,z⟩
  ·unfold j0f at A
   rw [r,cond_false,decide_eq_true (by omega),cond_true] at A
   cases A
  ·have k:i<d.2.length:=by omega
   have g:=jsP h x B k z
   unfold j1h
   rw [r,cond_false,l,Zay _ _ _ B,Zay _ _ _ k,Int.toNat_natCast]
   cases I:(x.1==2)
   ·rw [cond_false,cond_false,List.map_set,g,List.set_set]
    congr 1
    unfold jar
    rw [jjm,z,Zah,Bool.and_true,l,decide_eq_true (by omega),cond_true,I,cond_false,Zay _ _ _ B,Zay _ _ _ k]
   ·rw [cond_true,cond_true,List.eraseIdx_eq_take_drop_succ,List.eraseIdx_eq_take_drop_succ,List.map_append,List.map_take,List.map_drop,g,List.take_set,List.set_eq_of_length_le (by rw [List.length_take];omega),List.drop_set_of_lt (by omega)]
 ·rw [cond_true]
  have e:x.1=1:=by simpa using r
  have b:=A
  unfold j0f at b
  rw [r,cond_true] at b
  rcases j0J d.1 x.2.1 with ⟨l,E⟩ | ⟨i,B,l,_⟩
  rotate_left
  ·rw [decide_eq_false (by omega)] at b
   cases b
  have ht:j04 (x.2.1,x.2.2.1,x.2.2.2.1)=true:=by
   obtain ⟨_,⟨t,cs,ks,rfl,ht⟩ | ⟨t,rfl⟩ | ⟨t,c,rfl,_⟩ | ⟨t,n,rfl,_⟩ | ⟨t,n,m,rfl,_⟩⟩:=j7m K
   ·exact ht
   all_goals exact absurd e (by simp)
  have G:d.1.length<6:=by
   rw [decide_eq_true (by omega),Bool.not_true,cond_false] at b
   have G:=C.1
   rcases Nat.lt_or_ge d.1.length 6 with q | q
   ·exact q
   ·rw [show (d.1.length==6)=true from beq_iff_eq.2 (by omega)] at b
    cases b
  obtain ⟨p,Q,f,y⟩:=jqn F ht (show j07 d.1 x.2.1<0 by omega) G
  have w:d.1.map (jar d x)=d.2:=by
   apply List.ext_getElem
   ·simp [J]
   ·intro j L M
    have H:j<d.1.length:=by simpa using L
    rw [List.getElem_map]
    exact jkT h x H M (E _ (List.getElem_mem H))
  unfold j1h
  rw [r,cond_true]
  have f:j07 (lay tR (x.2.1,x.2.2.1,x.2.2.2.1) d.1) x.2.1=(p:Int):=f
  rw [f,Int.toNat_natCast,y,List.map_append,List.map_cons,List.map_take,List.map_drop,w]
  congr 2
  unfold jar
  rw [l]
  rfl
theorem jtu {t:T} {l:List (List V)} (h:j0a t l=true) (n:t.2.1.length<=8):msr (.slice (.slice yV)) l<=14940:=by
 obtain ⟨ht,g,d⟩:=j0q h
 have:=j6J (e:= .slice yV) 248 l (λr b=>by
  have i:=j6J (e:=yV) 30 r (λv f=>js2 (jqz (d r b) v f))
  have j:=j0F (d r b)
  have k:r.length * (30+1)<=8 * 31:=Nat.mul_le_mul (by omega) (Nat.le_refl _)
  omega)
 have m:l.length * (248+1)<=60 * 249:=Nat.mul_le_mul g (Nat.le_refl _)
 omega
theorem jha {d:DB} (h:dbB d=true):msr yDB d<=1048576:=by
 obtain ⟨g,m,j⟩:=(j2c d).1 h
 have f:=((j0h _).1 g).1
 have q:=j6J (e:=yT) 400 d.1 (λt ht=>jcH (((j0h _).1 g).2.1 t ht))
 have n:d.1.length * (400+1)<=6 * 401:=Nat.mul_le_mul f (Nat.le_refl _)
 have r:=j6J (e:= .slice (.slice yV)) 14940 d.2 (λx l=>by
  obtain ⟨i,k,rfl⟩:=List.mem_iff_getElem.1 l
  have b:=j i (by omega) k
  exact jtu b ((j7C _).1 (j0q b).1).2.2.1)
 have p:d.2.length * (14940+1)<=6 * 14941:=Nat.mul_le_mul (by omega) (Nat.le_refl _)
 have e:msr yDB d=msr (.slice yT) d.1+msr (.slice (.slice (.slice yV))) d.2:=rfl
 omega
theorem jsS {s:ST} (d:stB s=true) (f:s.1=5):j1c s.2.2.2.2=true/\s.2.2.2.2.2.1=s.2.1:=by
 unfold stB at d
 rw [f,Bool.and_eq_true] at d
 have b:=d.2
 simp only [show ((5:Int)==1)=false from rfl,show ((5:Int)==2)=false from rfl,show ((5:Int)==3)=false from rfl,show ((5:Int)==4)=false from rfl,show ((5:Int)==5)=true from rfl,cond_false,cond_true,Bool.and_eq_true] at b
 exact ⟨b.2.2.1,(j0e _ _).1 b.2.2.2⟩
theorem jrq (d:DB) (h:dbB d=true) (s:ST) (b:j0t s) (n:stB s=true) (k:DB->Int->Res):j96 d s k=k (j2q d s).1 (j2q d s).2:=by
 obtain ⟨p,A,B⟩:=(j2c d).1 h
 have y:=((j0h _).1 p).1
 unfold j96
 rw [jjX d (jha h),h,Bool.not_true,cond_false,jk0 s b,n,Bool.not_true,cond_false,jfn _ _ (by unfold LIM;omega),juA]
 cases g:(decide (j07 d.1 s.2.1<0)&& !((s.1==5)&&(s.2.2.2.2.1==1)))
 rotate_left
 ·unfold j2q
  rw [g]
  rfl
 rw [cond_false]
 cases f:(s.1==5)
 ·rw [f,Bool.false_and,Bool.not_false,Bool.and_true] at g
  have r:¬ j07 d.1 s.2.1<0:=of_decide_eq_false g
  rcases j0J d.1 s.2.1 with ⟨j,_⟩ | ⟨i,w,j,_⟩
  ·omega
  rw [cond_false,j]
  exact jqL d h s (by simpa using f) i w j k
 ·have l:s.1=5:=by simpa using f
  obtain ⟨m,z⟩:=jsS n l
  rw [cond_true,jo5 d h s l z b.2.2.2 m]
  unfold j2q
  rw [g,f,cond_false,cond_true]
  cases q:(j0f d.1 s.2.2.2.2 != 0)
  ·rw [cond_false,cond_false,ju9 h m (by simpa using q)]
  ·rfl
end Go.PI.G
namespace Go.PI.G
open Go Go.PI Go.Proofs
theorem jut (b:Int) (s:ST) (a z:Res):j8O b s (λ_=>a) (λ_=>z)=bif decide (b<0)&& !((s.1==5)&&(s.2.2.2.2.1==1)) then z else a:=by
 unfold j8O
 cases decide (b<0)
 ·rfl
 ·rw [cond_true,Bool.true_and]
  unfold bne
  cases (s.1==5)
  ·rfl
  ·cases (s.2.2.2.2.1==1)<;>rfl
theorem jqf (t:T) (h:msr yT t<=1048576) (l:List (List V)) (s:ST) (k:List (List V)->Int->Res):j6A l 0 s.1 s t k=k (j38 t l s).1 (j38 t l s).2:=by
 unfold j6A j38
 cases (s.1==1)
 ·rw [cond_false,cond_false]
  cases (s.1==2)
  ·rw [cond_false,cond_false]
   cases (s.1==3)
   ·rfl
   ·rw [cond_true,cond_true,jp4 t h]
  ·rw [cond_true,cond_true,jp6 t h]
 ·rw [cond_true,cond_true,jp5 t h]
theorem jnw (d:DB) (h:dbB d=true) (x:D) (A:dSm x) (E:j1c x=true) (k:DB->Int->Res) :
  j6z d x k=bif j0f d.1 x != 0 then k ([],[]) (j0f d.1 x) else k (j1h d.1 x,jk5 d x) 0:=by
 obtain ⟨y,Y,K⟩:=(j2c d).1 h
 have R:=((j0h _).1 y).1
 unfold j6z
 rw [jre _ _ (jeq y) A,jpZ y E]
 cases I:(j0f d.1 x != 0)
 rotate_left
 ·rw [cond_true]
  dsimp only
  rw [I,cond_true,cond_true]
 have f:j0f d.1 x=0:=by simpa using I
 have l:=jnu y E f
 have P:=((j0h _).1 l).1
 rw [cond_false,cond_false]
 show (j1s d λW=>j0v d.1 x.2.1 λX=>j35 X x.1 d x (j1h d.1 x) W λH=>k (j1h d.1 x,H.2) 0)=_
 rw [jhP d h,j8K _ _ (by unfold LIM;omega)]
 unfold j35 jk5
 cases w:(x.1==1)
 ·rw [cond_false,cond_false]
  rcases j0J d.1 x.2.1 with ⟨B,_⟩ | ⟨i,z,B,G⟩
  ·unfold j0f at f
   rw [w,cond_false,decide_eq_true (by omega),cond_true] at f
   cases f
  ·have r:i<d.2.length:=by omega
   rw [B,Int.toNat_natCast]
   cases J:(x.1==2)
   ·have ht:j04 d.1[i]=true:=((j0h _).1 y).2.1 _ (List.getElem_mem z)
    have F:msr yT d.1[i]<=1048576:=Nat.le_trans (jcH ht) (by omega)
    have Q:j0B d.1[i] x=0:=by
     unfold j0f at f
     rw [w,cond_false,B,decide_eq_false (show ¬ (i:Int)<0 by omega),cond_false,Zay _ _ _ z] at f
     exact f
    rw [cond_false,cond_false,j01 z,cond_true,j01 r,cond_true,Zay _ _ _ z,Zay _ _ _ r,jnx _ F _ (K i z r) _ A E G.symm (by simpa using w),Q,J,cond_true,ZaF]
    rfl
   ·rw [cond_true,cond_true]
    unfold j5O jct
    rw [j02 (n:=(i:Int)+1) (by omega),show Z8e (i:Int) ((i:Int)+1) d.2.length=true from jaA (j:=i+1) ⟨by omega,by omega⟩,cond_true,List.eraseIdx_eq_take_drop_succ]
    rfl
 ·rw [cond_true,cond_true]
  simp only [Z9Q]
  have C:∃ p:Nat,p<=d.2.length/\j07 (j1h d.1 x) x.2.1=(p:Int):=by
   have e:x.1=1:=by simpa using w
   have b:=f
   unfold j0f at b
   rw [w,cond_true] at b
   rcases j0J d.1 x.2.1 with ⟨B,T⟩ | ⟨i,z,B,_⟩
   rotate_left
   ·rw [decide_eq_false (by omega)] at b
    cases b
   have ht:j04 (x.2.1,x.2.2.1,x.2.2.2.1)=true:=by
    obtain ⟨_,⟨t,cs,ks,rfl,ht⟩ | ⟨t,rfl⟩ | ⟨t,c,rfl,_⟩ | ⟨t,n,rfl,_⟩ | ⟨t,n,m,rfl,_⟩⟩:=j7m E
    ·exact ht
    all_goals exact absurd e (by simp)
   have L:d.1.length<6:=by
    rw [decide_eq_true (by omega),Bool.not_true,cond_false] at b
    rcases Nat.lt_or_ge d.1.length 6 with q | q
    ·exact q
    ·rw [show (d.1.length==6)=true from beq_iff_eq.2 (by omega)] at b
     cases b
   obtain ⟨p,U,g,_⟩:=jqn y ht (show j07 d.1 x.2.1<0 by omega) L
   refine ⟨p,by omega,?_⟩
   unfold j1h
   rw [w,cond_true]
   exact g
  obtain ⟨p,U,g⟩:=C
  rw [j8K _ _ (by unfold LIM;omega),g]
  unfold j1O jgC
  have M:jlk (p:Int) d.2.length [([]:List (List V))].length=true:=decide_eq_true ⟨by omega,by omega,by simp,by simp;unfold LIM;omega⟩
  rw [M,cond_true,Int.toNat_natCast,List.append_assoc]
  rfl
theorem jrf (d:DB) (h:dbB d=true) (s:ST) (p:j0t s) (D:stB s=true) (k:DB->Int->Res):jb5 d s k=k (j2q d s).1 (j2q d s).2:=by
 obtain ⟨q,E,F⟩:=(j2c d).1 h
 have B:=((j0h _).1 q).1
 unfold jb5
 rw [j8K _ _ (by unfold LIM;omega),jut]
 cases f:(decide (j07 d.1 s.2.1<0)&& !((s.1==5)&&(s.2.2.2.2.1==1)))
 rotate_left
 ·unfold j2q
  rw [f]
  rfl
 rw [cond_false]
 cases g:(s.1==5)
 ·unfold j2q
  rw [f,g,cond_false,cond_false,cond_false]
  rw [g,Bool.false_and,Bool.not_false,Bool.and_true] at f
  have A:¬ j07 d.1 s.2.1<0:=of_decide_eq_false f
  rcases j0J d.1 s.2.1 with ⟨r,_⟩ | ⟨i,j,r,_⟩
  ·omega
  have b:i<d.2.length:=by omega
  have ht:j04 d.1[i]=true:=((j0h _).1 q).2.1 _ (List.getElem_mem j)
  have m:msr yT d.1[i]<=1048576:=Nat.le_trans (jcH ht) (by omega)
  have y:=jrx (t:=d.1[i]) (l:=d.2[i]) (s:=s)
  unfold jbm
  rw [r]
  simp only [j01 j,j01 b,cond_true,Z9Q]
  rw [Zay _ _ _ j,Zay _ _ _ b,jqf _ m]
  cases f:((j38 d.1[i] d.2[i] s).2 != 0)
  ·rw [cond_false,cond_false,jhP d h,j01 b,cond_true,ZaF,Int.toNat_natCast]
  ·rw [cond_true,cond_true,j02 (n:=10+(j38 d.1[i] d.2[i] s).2) (by omega)]
 ·have w:s.1=5:=by simpa using g
  obtain ⟨z,G⟩:=jsS D w
  have C:=jma d.1 s.2.2.2.2
  rw [cond_true,jnw d h _ p.2.2.2 z]
  unfold j2q
  rw [f,g,cond_false,cond_true]
  cases y:(j0f d.1 s.2.2.2.2 != 0)
  ·rfl
  ·rw [cond_true,cond_true,cond_true,j02 (n:=10+j0f d.1 s.2.2.2.2) (by omega)]
end Go.PI.G
namespace Go.PI.G
open Go Go.PI Go.Proofs
theorem jqM (d:DB) (h:dbB d=true) (s:ST) (b:j0t s) (f:stB s=false) (k:DB->Int->Res):j96 d s k=k ([],[]) 1:=by
 unfold j96
 rw [jjX d (jha h),h,Bool.not_true,cond_false,jk0 s b,f]
 rfl
theorem jo6 (d:DB) (p:msr yDB d<=1048576) (l:List ST) (z:l.length<=1048576) (j:∀ s∈l,j0t s) (k:DB->Int->Int->Res):j2Z d l k=k (j0b d l).1 (j0b d l).2.1 (j0b d l).2.2:=by
 unfold j2Z j0b
 rw [jjX d p]
 cases h:dbB d
 ·rfl
 rw [Bool.not_true,cond_false,cond_false,jn3 d h]
 unfold j8v
 have:=Z3Z l (λi (a:DB)=>(i,a)) j9F (λ_ a=>dbB a=true) (step:=j6e l (nI l.length)) ((λ(now:DB)=>k now 0 0),(λ(t:Int) (r:Int)=>k ([],[]) t r)) (λa=>k a 0 0) (λe=>k ([],[]) e.1 e.2) d (by unfold LIM;omega) h (λi a w f b q=>jlV b q) (λi a rec f b=>by
  show j3y _ _ _ _ _ _ _=_
  unfold j3y j9F
  dsimp only
  have g:=j _ (List.getElem_mem f)
  rw [ZaQ f,cond_true,j01 f,cond_true,Zay _ _ _ f]
  cases m:stB l[i]
  ·rw [jqM a b _ g m]
   rfl
  ·rw [jrq a b _ g m,Bool.not_true,cond_false]
   cases y:((j2q a l[i]).2 != 0)
   ·rw [cond_false,cond_false,j02 (n:=(i:Int)+1) (by omega)]
   ·rfl) (λa rec b=>by
  show j3y _ _ _ _ _ _ _=_
  unfold j3y
  dsimp only
  rw [ZaP,cond_false])
 refine this.trans ?_
 cases Z1S j9F 0 l d<;>rfl
theorem jcv (d:DB) (p:msr yDB d<=1048576) (l:List ST) (z:l.length<=1048576) (j:∀ s∈l,j0t s) (k:DB->Int->Int->Res):j0m d l k=k (j0b d l).1 (j0b d l).2.1 (j0b d l).2.2:=by
 unfold j0m j0b
 rw [jsz d p]
 cases h:dbB d
 ·rfl
 rw [Bool.not_true,cond_false,cond_false,jhP d h]
 unfold jbj
 have:=Z3Z l (λi (a:DB)=>(i,a)) j9F (λ_ a=>dbB a=true) (step:=j3p l (nI l.length)) ((λ(now:DB)=>k now 0 0),(λ(t:Int) (r:Int)=>k ([],[]) t r)) (λa=>k a 0 0) (λe=>k ([],[]) e.1 e.2) d (by unfold LIM;omega) h (λi a w b g q=>jlV g q) (λi a rec b g=>by
  show j2d _ _ _ _ _ _ _=_
  unfold j2d j9F
  dsimp only
  have f:=j _ (List.getElem_mem b)
  rw [ZaQ b,cond_true,j01 b,cond_true,Zay _ _ _ b,joj _ f]
  cases m:stB l[i]
  ·rfl
  ·rw [Bool.not_true,cond_false,cond_false,jrf a g _ f m]
   cases y:((j2q a l[i]).2 != 0)
   ·rw [cond_false,cond_false,j02 (n:=(i:Int)+1) (by omega)]
   ·rfl) (λa rec g=>by
  show j2d _ _ _ _ _ _ _=_
  unfold j2d
  dsimp only
  rw [ZaP,cond_false])
 refine this.trans ?_
 cases Z1S j9F 0 l d<;>rfl
end Go.PI.G
namespace Go.PI.G
open Go Go.PI
theorem juz {d:D} (h:msr yD d<=1048576):dSm d:=by
 have j:msr yD d=0+(d.2.1.size+(msr (.slice yC) d.2.2.1+(msr (.slice .str) d.2.2.2.1+(d.2.2.2.2.1.size+d.2.2.2.2.2.size)))):=rfl
 have b:msr (.slice yC) d.2.2.1<=1048576:=by omega
 have f:msr (.slice .str) d.2.2.2.1<=1048576:=by omega
 refine ⟨by omega,j0p b,j0p f,λc g=> ?_,λx i=>j0O f i,by omega,by omega⟩
 have:=j0O b g
 have k:msr yC c=c.1.size+msr (.pair (.int .i64) (.pair .bool (.pair .bool yV))) c.2:=rfl
 omega
theorem jsJ {s:ST} (h:msr yST s<=1048576):j0t s:=by
 have f:msr yST s=0+(s.2.1.size+(msr (.slice yV) s.2.2.1+(msr (.slice yV) s.2.2.2.1+msr yD s.2.2.2.2))):=rfl
 have b:msr (.slice yV) s.2.2.1<=1048576:=by omega
 have d:msr (.slice yV) s.2.2.2.1<=1048576:=by omega
 exact ⟨by omega,j0p b,j0p d,juz (by omega)⟩
end Go.PI.G
namespace Go.PI.G
noncomputable section
open Go Go.PI
def jrR (l:List RC) (n:Int):Bool:=j2p l&&decide (0<=n/\n<=(l.length:Int))
def j1W (l:List RC) (n:Int):DB:=bif jrR l n then jux (j1T zDB (l.take n.toNat)) else zDB
theorem jh9 {l:List RC} {n:Nat} (h:j2p l=true) (i:n<=l.length):j1T zDB (l.take n)= .ok (j1W l n)/\dbB (j1W l n)=true:=by
 obtain ⟨d,b,f⟩:=jtr h n
 have g:jrR l n=true:=by
  unfold jrR
  rw [h,decide_eq_true (by omega)]
  rfl
 have:j1W l n=d:=by
  unfold j1W
  rw [g,cond_true,Int.toNat_natCast,b]
  rfl
 rw [this]
 exact ⟨b,f⟩
def j8H (l:List RC) (r:RC):List RC×Int:=
 bif !j2p l then ([],1) else bif !j3P r then ([],1) else
 bif (r.1==1)&&j1b l r.2.1 then ([],2) else
 bif (r.1 != 1)&& !j1i (j0o l) r.2.1 then ([],3) else
 bif decide (l.length=400) then ([],4) else
 bif (r.1==3)&&((j0b (j1W l l.length) (j0D l r.2.1)).2.1 != 0) then ([],5) else (l++[r],0)
def jdx (l:List RC) (r:RC):List RC×Int:=j8H l (r.1,r.2.1,bif r.1==2 then r.2.2 else zST)
theorem juf {l:List RC} {r:RC} (h:j2p l=true) (m:j3P r=true) (i:((r.1==1)&&j1b l r.2.1)=false) (j:((r.1 != 1)&& !j1i (j0o l) r.2.1)=false) (n:l.length≠400) :
  j2p (l++[r])= !((r.1==3)&&((j0b (j1W l l.length) (j0D l r.2.1)).2.1 != 0)):=by
 obtain ⟨p,_⟩:=(jf6 l).1 h
 obtain ⟨g,k⟩:=jh9 h (Nat.le_refl _)
 rw [List.take_length] at g
 unfold j2p
 rw [jon,g,decide_eq_true (by rw [List.length_append];show l.length+1<=400;omega),Bool.true_and]
 generalize j1W l l.length=d at g k ⊢
 dsimp only
 unfold j37
 rw [m,Bool.not_true,cond_false]
 cases b:r.1==1
 ·rw [cond_false]
  have f:(r.1 != 1)=true:=by unfold bne;rw [b];rfl
  rw [f,Bool.true_and,Bool.not_eq_false'] at j
  rw [j,Bool.not_true,cond_false]
  cases r.1==3
  ·rfl
  ·rw [cond_true,Bool.true_and]
   cases (j0b d (j0D l r.2.1)).2.1 != 0<;>rfl
 ·have f:(r.1==3)=false:=by
   have:r.1=1:=by simpa using b
   rw [this];rfl
  rw [b,Bool.true_and] at i
  rw [i,f]
  rfl
end
end Go.PI.G
namespace Go.PI.G
open Go Go.PI Go.Proofs
theorem jtt {l:List RC} (h:msr (.slice yRC) l<=1048576):l.length<=1048576/\∀ r∈l,j0t r.2.2:=
 ⟨j0p h,λr b=>by
  have e:msr yRC r=0+(0+msr yST r.2.2):=rfl
  have:=j0O (e:=yRC) h b
  exact jsJ (by omega)⟩
theorem jjt {n:Nat} (h:n<=1048576):lim (0+n)=true:=ZaL (by unfold LIM;omega)
theorem jn9 (s:ST) (h:j0t s) (k:ST->Res):j9a s k=k s:=by
 obtain ⟨g,d,f,b⟩:=h
 unfold j9a j0I
 simp only [jjt d,jjt f,jjt b.2.1,jjt b.2.2.1,cond_true]
 try rfl
theorem jhT (s:ST) (h:j0t s) (k:ST->Res):j2l s k=k s:=by
 obtain ⟨g,d,f,b⟩:=h
 unfold j2l j1e jbl j43
 simp only [jjt d,jjt f,jjt b.2.1,jjt b.2.2.1,cond_true]
 try rfl
theorem jgM (l:List Int) (n:Int) (h:l.length<=1048576) (k:Bool->Res):j2P l n k=k (j1i l n):=by
 unfold j2P jhA j1i
 have:=Za2 l (λi=>i) (λx=>x==n) (step:=jaR n l (nI l.length)) ((λ(_:Unit)=>k false),(λ(_:Unit)=>k true)) (k false) (k true) (by unfold LIM;omega) (λi rec b=>by
  show j4X _ _ _ _ _ _ _=_
  unfold j4X
  rw [ZaQ b,cond_true,j01 b,cond_true,Zay _ _ _ b,j02 (n:=(i:Int)+1) (by omega)]) (λrec=>by
  show j4X _ _ _ _ _ _ _=_
  unfold j4X
  rw [ZaP,cond_false])
 refine this.trans ?_
 cases l.any λx=>x==n<;>rfl
theorem j82 (l:List Int) (n:Int) (h:l.length<=1048576) (k:Bool->Res):j0d l n k=k (j1i l n):=by
 unfold j0d jaL jcl j1i
 have:=Z9S l (λi=>i) (λx=>n==x) (step:=j71 l n (nI l.length)) ((λ(_:Unit)=>k (decide ((-1:Int)>=0))),(λ(t:Int)=>k (decide (t>=0)))) (λr=>k (decide (r>=0))) (by unfold LIM;omega) (λi rec b=>by
  show j1N _ _ _ _ _ _ _=_
  unfold j1N
  rw [ZaQ b,cond_true,j01 b,cond_true,Zay _ _ _ b,j02 (n:=(i:Int)+1) (by omega)]) (λrec=>by
  show j1N _ _ _ _ _ _ _=_
  unfold j1N
  rw [ZaP,cond_false])
 refine this.trans ?_
 rw [jlj]
 have:(λx:Int=>n==x)=λx=>x==n:=by funext x;exact Bool.eq_iff_iff.2 (by rw [beq_iff_eq,beq_iff_eq];exact eq_comm)
 rw [this]
theorem jkK {α:Type} (p:α->Bool):(j:Nat)->(l:List α)->Z4r (λ_ x=>bif p x then [x] else []) j l=l.filter p
 | _,[]=>rfl
 | j,x::l=>by
  show (bif p x then [x] else [])++Z4r _ (j+1) l=_
  rw [jkK p (j+1) l]
  cases h:p x
  ·rw [List.filter_cons_of_neg (by rw [h];simp)];rfl
  ·rw [List.filter_cons_of_pos h];rfl
theorem ju6 {α:Type} (b:Bool) (x:α):(bif b then [x] else []).length<=1:=by cases b<;>simp
theorem js9 (l:List Int) (n:Int) (h:l.length<=1048576) (k:List Int->Res):j8d l n k=k (l.filter λy=> !(y==n)):=by
 unfold j8d jhz
 have:=Za3 l (λ_ x=>bif !(x==n) then [x] else []) (λi b=>(b,i)) (step:=jaQ n l (nI l.length)) (λb=>k b) k (by unfold LIM;omega) (λ_ x=>ju6 _ _) (λb i rec d f=>by
  show j4W _ _ _ _ _ _ _=_
  unfold j4W
  dsimp only
  rw [ZaQ d,cond_true,j01 d,cond_true,Zay _ _ _ d,j02 (n:=(i:Int)+1) (by omega),ZaL (by unfold LIM;omega),cond_true]
  unfold bne
  cases l[i]==n
  ·rfl
  ·show _=rec (b++[],_)
   rw [List.append_nil]
   rfl) (λb rec=>by
  show j4W _ _ _ _ _ _ _=_
  unfold j4W
  dsimp only
  rw [ZaP,cond_false])
 refine this.trans ?_
 rw [jkK]
theorem jkZ (l:List RC) (h:l.length<=1048576) (k:List Int->Res):j7j l k=k (j0o l):=by
 unfold j7j jk1 j0o
 refine Z8i l (λi b=>(b,i)) j6c (λi a=>a.length<=i) (step:=j9D l (nI l.length)) (λb=>k b) k [] (by unfold LIM;omega) (by simp) (λi a d f=>Nat.le_trans (jjz _ _) (by omega)) (λi a rec d f=>by
  show j48 _ _ _ _ _ _=_
  unfold j48 jbQ
  dsimp only
  rw [ZaQ d,cond_true,j01 d,cond_true,Zay _ _ _ d,j02 (n:=(i:Int)+1) (by omega),jgM _ _ (by omega),ZaL (by unfold LIM;omega),cond_true]
  generalize l[i]=r
  unfold j6c
  cases g:r.1==1
  ·rw [cond_false,cond_false,js9 _ _ (by omega)]
   cases r.1==3
   ·rw [cond_false,Bool.false_or]
    cases r.1==4<;>rfl
   ·rfl
  ·have e:r.1=1:=by simpa using g
   have j:(r.1==3)=false:=by rw [e];rfl
   have m:(r.1==4)=false:=by rw [e];rfl
   rw [cond_true,cond_true,j,m]
   cases j1i a r.2.1<;>rfl) (λa rec f=>by
  show j48 _ _ _ _ _ _=_
  unfold j48
  dsimp only
  rw [ZaP,cond_false])
theorem jl3 (l:List RC) (x:Int) (h:l.length<=1048576) (k:Bool->Res):jba l x k=k (j1b l x):=by
 unfold jba jk2 j1b
 have:=Za2 l (λi=>i) (λr:RC=>(r.1==1)&&(r.2.1==x)) (step:=jcS x l (nI l.length)) ((λ(_:Unit)=>k false),(λ(_:Unit)=>k true)) (k false) (k true) (by unfold LIM;omega) (λi rec b=>by
  show j76 _ _ _ _ _ _ _=_
  unfold j76
  rw [ZaQ b,cond_true,j01 b,cond_true,Zay _ _ _ b,j02 (n:=(i:Int)+1) (by omega)]
  cases l[i].1==1<;>rfl) (λrec=>by
  show j76 _ _ _ _ _ _ _=_
  unfold j76
  rw [ZaP,cond_false])
 refine this.trans ?_
 cases l.any λr:RC=>(r.1==1)&&(r.2.1==x)<;>rfl
theorem jo8 (l:List RC) (x:Int) (h:l.length<=1048576) (f:∀ r∈l,j0t r.2.2) (k:List ST->Res):j75 l x k=k (j0D l x):=by
 unfold j75 jg4 j0D
 refine Za3 l (jk3 x) (λi b=>(b,i)) (step:=j9V x l (nI l.length)) (λb=>k b) k (by unfold LIM;omega) (jlW x) (λb i rec d g=>by
  show j3C _ _ _ _ _ _ _=_
  unfold j3C jk3
  dsimp only
  rw [ZaQ d,cond_true,j01 d,cond_true,Zay _ _ _ d,jn9 _ (f _ (List.getElem_mem d)),j02 (n:=(i:Int)+1) (by omega),ZaL (by unfold LIM;omega),cond_true]
  cases l[i].1==2
  ·show _=rec (b++[],_)
   rw [List.append_nil]
   rfl
  ·cases l[i].2.1==x
   ·show _=rec (b++[],_)
    rw [List.append_nil]
    rfl
   ·rfl) (λb rec=>by
  show j3C _ _ _ _ _ _ _=_
  unfold j3C
  dsimp only
  rw [ZaP,cond_false])
theorem jcx (l:List RC) (x:Int) (h:l.length<=1048576) (f:∀ r∈l,j0t r.2.2) (k:List ST->Res):j0N l x k=k (j0D l x):=by
 unfold j0N jfS j0D
 refine Za3 l (jk3 x) (λi b=>(b,i)) (step:=j9O x l (nI l.length)) (λb=>k b) k (by unfold LIM;omega) (jlW x) (λb i rec d g=>by
  show j3t _ _ _ _ _ _ _=_
  unfold j3t jk3
  dsimp only
  rw [ZaQ d,cond_true,j01 d,cond_true,Zay _ _ _ d,jhT _ (f _ (List.getElem_mem d)),j02 (n:=(i:Int)+1) (by omega),ZaL (by unfold LIM;omega),cond_true]
  cases l[i].1==2
  ·show _=rec (b++[],_)
   rw [List.append_nil]
   rfl
  ·cases l[i].2.1==x
   ·show _=rec (b++[],_)
    rw [List.append_nil]
    rfl
   ·rfl) (λb rec=>by
  show j3t _ _ _ _ _ _ _=_
  unfold j3t
  dsimp only
  rw [ZaP,cond_false])
theorem jhC {α:Type} (l:List α) (i:Nat):sub l 0 (i:Int)=l.take i:=jrM l 0 i
theorem jeM {i n:Nat} (h:i<=n):Z8e 0 (i:Int) n=true:=jaA (i:=0) ⟨Nat.zero_le _,h⟩
theorem jcX {l:List RC} (d:∀ r∈l,j0t r.2.2) (i:Nat):∀ r∈l.take i,j0t r.2.2:=λr b=>d r (List.mem_of_mem_take b)
theorem j2a {l:List RC} (h:l.length<=1048576) (i:Nat):(l.take i).length<=1048576:=by rw [List.length_take];omega
theorem jna {l:List RC} (f:∀ r∈l,j0t r.2.2) (x:Int):∀ s∈j0D l x,j0t s:=λs b=>by
 obtain ⟨r,d,rfl⟩:=jsd b
 exact f r d
theorem jsO (l:List RC) (h:l.length<=1048576) (i:Nat) (f:i<=l.length) (r:RC) (j:j0t r.2.2) (k:Bool->Res) :
  j3c l (i:Int) r k=k (!j3P r||(bif r.1==1 then j1b (l.take i) r.2.1 else !j1i (j0o (l.take i)) r.2.1)):=by
 unfold j3c
 have g:(j0o (l.take i)).length<=1048576:=Nat.le_trans (jdk _) (j2a h i)
 rw [jn7 _ j,jeM f,cond_true,cond_true,jhC,jl3 _ _ (j2a h i),jkZ _ (j2a h i)]
 simp only [jgM _ _ g]
 cases j3P r
 ·rfl
 cases d:r.1==1
 ·have b:(r.1 != 1)=true:=by unfold bne;rw [d];rfl
  rw [b]
  rfl
 ·have b:(r.1 != 1)=false:=by unfold bne;rw [d];rfl
  rw [b]
  cases j1b (l.take i) r.2.1<;>rfl
theorem jqO (l:List RC) (h:l.length<=1048576) (b:∀ r∈l,j0t r.2.2) (i:Nat) (g:i<=l.length) (d:DB) (f:dbB d=true) (r:RC) (k:Int->DB->Res) :
  j3d l (i:Int) d r k=k (j0b d (j0D (l.take i) r.2.1)).2.1 (j0b d (j0D (l.take i) r.2.1)).1:=by
 unfold j3d
 rw [jeM g,cond_true]
 simp only [Z9Q]
 rw [jhC,jo8 _ _ (j2a h i) (jcX b i),jo6 d (jha f) _ (Nat.le_trans (jeo _ _) (j2a h i)) (jna (jcX b i) _)]
theorem jqd (l:List RC) (h:l.length<=1048576) (b:∀ r∈l,j0t r.2.2) (i:Nat) (g:i<=l.length) (d:DB) (f:dbB d=true) (r:RC) (k:Int->DB->Res) :
  j6C l (i:Int) d r k=k (j0b d (j0D (l.take i) r.2.1)).2.1 (j0b d (j0D (l.take i) r.2.1)).1:=by
 unfold j6C
 rw [jeM g,cond_true]
 simp only [Z9Q]
 rw [jhC,jcx _ _ (j2a h i) (jcX b i),jcv d (jha f) _ (Nat.le_trans (jeo _ _) (j2a h i)) (jna (jcX b i) _)]
theorem juy (n:Nat):decide (nI n<=400)=decide (n<=400):=decide_eq_decide.2 (by unfold nI;omega)
theorem ju0 (n:Nat):decide (nI n>400)= !decide (n<=400):=by
 by_cases h:n<=400
 ·rw [decide_eq_true h,decide_eq_false (by unfold nI;omega)];rfl
 ·rw [decide_eq_false h,decide_eq_true (by unfold nI;omega)];rfl
theorem jru (l:List RC) (h:l.length<=1048576) (g:∀ r∈l,j0t r.2.2) (k:DB->Bool->Res) :
  jbU l k=match j1T zDB l with | .ok d=>k d (decide (l.length<=400)) | .error _=>k ([],[]) false:=by
 unfold jbU jbV
 rw [juy]
 refine (Z3Z l (λi (a:DB)=>(i,a)) (λi d r=>j37 (l.take i) d r) (λ_ a=>dbB a=true) (step:=j6n l l (nI l.length)) ((λ(d:DB)=>k d (decide (l.length<=400))),(λ(_:Unit)=>k ([],[]) false)) (λa=>k a (decide (l.length<=400))) (λ_=>k ([],[]) false) zDB (by unfold LIM;omega) jcs (λi a q b f g=>ji9 f g) (λi a rec b f=>by
  show j2i _ _ _ _ _ _ _ _=_
  unfold j2i j37
  dsimp only
  have j:=g _ (List.getElem_mem b)
  rw [ZaQ b,cond_true,j01 b,cond_true,Zay _ _ _ b,jsO l h i (by omega) _ j,jqO l h g i (by omega) a f,j02 (n:=(i:Int)+1) (by omega)]
  generalize l[i]=r
  cases j3P r
  ·rfl
  cases p:r.1==1
  ·cases j1i (j0o (l.take i)) r.2.1
   ·rfl
   ·cases r.1==3
    ·rfl
    ·cases m:(j0b a (j0D (l.take i) r.2.1)).2.1 != 0
     ·simp only [cond_true,cond_false,Bool.not_true,Bool.or_false,m]
     ·simp only [cond_true,cond_false,Bool.not_true,Bool.or_false,m]
  ·cases j1b (l.take i) r.2.1
   ·have e:r.1=1:=by simpa using p
    rw [e]
    rfl
   ·rfl) (λa rec f=>by
  show j2i _ _ _ _ _ _ _ _=_
  unfold j2i
  dsimp only
  rw [ZaP,cond_false])).trans ?_
 unfold j1T
 cases Z1S (λi d r=>j37 (l.take i) d r) 0 l zDB<;>rfl
end Go.PI.G
