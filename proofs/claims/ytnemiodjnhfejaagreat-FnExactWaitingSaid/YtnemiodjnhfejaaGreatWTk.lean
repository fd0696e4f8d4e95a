/-
  Program's code interpreted over typed values; printed texts; plain laws. No conditions.
-/
import Derived.Test.YtnemiodjnhfejaaGreatWTj
import Derived.Test.YtnemiodjnhfejaaGreatWTh
set_option linter.unusedVariables false
namespace Go.PI.G
open Go Go.PI
theorem jhs {l:List C} (h:l.Pairwise λa b=>a.1≠b.1) {i:Nat} (g:i<l.length):j02 l l[i].1=(i:Int):=by
 unfold j02
 refine joT g (Zah _) λj k f=> ?_
 have f:=(j09 _ _).1 f
 rw [List.pairwise_iff_getElem] at h
 rcases Nat.lt_trichotomy i j with d | d | d
 ·exact absurd f.symm (h i j g k d)
 ·exact d.symm
 ·exact absurd f (h j i k g d)
theorem j6q (l:List C):j4G l=true↔(∀ c∈l,j0W c=true)/\l.Pairwise λa b=>a.1≠b.1:=by
 unfold j4G
 rw [Bool.not_eq_true',j9j]
 constructor
 ·intro h
  refine ⟨λc k=> ?_,List.pairwise_iff_getElem.2 λi j n d p m=> ?_⟩
  ·obtain ⟨j,d,rfl⟩:=List.getElem_of_mem k
   have:=h j d
   simp only [Bool.or_eq_false_iff,Bool.not_eq_false'] at this
   exact this.1
  ·have f:=h i n
   have g:=h j d
   simp only [Bool.or_eq_false_iff,Nat.zero_add,bne_eq_false_iff_eq] at f g
   rw [m] at f
   omega
 ·rintro ⟨f,g⟩ j d
  rw [f _ (List.getElem_mem d),Nat.zero_add,jhs g d]
  simp
theorem j4S (l:List C):(ks:List ByteArray)->(d:Int)->(j19 l d ks=true↔(∀ k∈ks,d<j02 l k/\(nth zC l (j02 l k)).2.2.1=true)/\ks.Pairwise λa b=>j02 l a<j02 l b)
 | [],_=>by simp [j19]
 | k::ks,d=>by
  simp only [j19,Bool.and_eq_true,Bool.not_eq_true',decide_eq_false_iff_not,j4S l ks,List.pairwise_cons,List.mem_cons,forall_eq_or_imp]
  constructor
  ·rintro ⟨j,h,g,i⟩
   exact ⟨⟨⟨by omega,h⟩,λq f=>⟨by have:=(g q f).1;omega,(g q f).2⟩⟩,λq f=>(g q f).1,i⟩
  ·rintro ⟨⟨⟨j,h⟩,g⟩,i,m⟩
   exact ⟨by omega,h,λq f=>⟨i q f,(g q f).2⟩,m⟩
theorem j6J (t:T):j04 t=true↔j0l t.1=true/\1<=t.2.1.length/\t.2.1.length<=8/\1<=t.2.2.length/\j4G t.2.1=true/\j19 t.2.1 (-1) t.2.2=true:=by
 unfold j04
 simp only [Bool.and_eq_true,decide_eq_true_eq,and_assoc]
theorem jp7 {l:List C} {n:ByteArray} (h:∀ c∈l,c.1≠n):j02 l n= -1:=
 jpQ λc b=>by
  cases d:sEq c.1 n with
  | false=>rfl
  | true=>exact absurd ((j09 _ _).1 d) (h c b)
theorem j17 (l:List C) (n:ByteArray):(j02 l n= -1/\∀ c∈l,c.1≠n)\/∃ (i:Nat) (f:i<l.length),j02 l n=(i:Int)/\l[i].1=n/\∀ (j:Nat) (g:j<i),(l[j]'(by omega)).1≠n:=by
 rcases ja5 (λc:C=>sEq c.1 n) l with ⟨b,d⟩ | ⟨i,f,b,d,h⟩
 ·exact .inl ⟨b,λc k e=>by have:=d c k;rw [e,Zah] at this;cases this⟩
 ·exact .inr ⟨i,f,b,(j09 _ _).1 d,λj g e=>by have:=h j g;rw [e,Zah] at this;cases this⟩
theorem jg5 {l l':List C} {ks:List ByteArray} (g:ByteArray->ByteArray) (h:j19 l (-1) ks=true) (f:∀ k∈ks,0<=j02 l' (g k)/\(nth zC l' (j02 l' (g k))).2.2.1=true)
  (i:∀ a∈ks,∀ b∈ks,j02 l a<j02 l b->j02 l' (g a)<j02 l' (g b)):j19 l' (-1) (ks.map g)=true:=by
 rw [j4S] at h ⊢
 refine ⟨λk n=> ?_,?_⟩
 ·obtain ⟨q,p,rfl⟩:=List.mem_map.1 n
  have:=f q p
  exact ⟨by omega,this.2⟩
 ·rw [List.pairwise_map]
  exact h.2.imp_of_mem λj m d=>i _ j _ m d
theorem j9s (l:List C) (r:List V):j0m l r=true↔r.length=l.length/\∀ (i:Nat) (b:i<l.length) (d:i<r.length),j3v l[i] r[i]=true:=by
 unfold j0m
 rw [Bool.and_eq_true,decide_eq_true_eq,Bool.not_eq_true',j9j]
 refine and_congr_right λf=> ?_
 constructor
 ·intro h i b d
  have:=h i b
  rw [Nat.zero_add,Zay _ _ _ d,Bool.not_eq_false'] at this
  exact this
 ·intro h i b
  rw [Nat.zero_add,Zay _ _ _ (f ▸ b),h i b (f ▸ b)]
  rfl
def jj2 (t:T) (c:C):T:=(t.1,t.2.1++[c],t.2.2)
theorem jkd {α:Type} (z:α) (l m:List α) {i:Int} (h:0<=i/\i<(l.length:Int)):nth z (l++m) i=nth z l i:=by
 obtain ⟨n,rfl⟩:∃ n:Nat,i=(n:Int):=⟨i.toNat,by omega⟩
 rw [Zay _ _ _ (by rw [List.length_append];omega),Zay _ _ _ (by omega),List.getElem_append_left (by omega)]
theorem je1 {l:List C} {c:C} {n:ByteArray} (h:0<=j02 l n):j02 (l++[c]) n=j02 l n:=by
 rcases j17 l n with ⟨b,_⟩ | ⟨i,g,b,d,f⟩
 ·omega
 ·rw [b]
  refine jhu (by rw [List.length_append];omega) ?_ λj k=> ?_
  ·rw [List.getElem_append_left g,d];exact Zah _
  ·rw [List.getElem_append_left (by omega)]
   cases m:sEq (l[j]'(by omega)).1 n with
   | false=>rfl
   | true=>exact absurd ((j09 _ _).1 m) (f j k)
theorem jrp {t:T} {c:C} (ht:j04 t=true) (z:j0W c=true) (F:j02 t.2.1 c.1<0) (E:t.2.1.length<8):j04 (jj2 t c)=true:=by
 rw [j6J] at ht ⊢
 obtain ⟨r,A,B,w,g,j⟩:=ht
 have q:=j1a t.2.2 (-1) (by omega) j
 refine ⟨r,?_,?_,w,?_,?_⟩
 ·show 1<=(t.2.1++[c]).length;rw [List.length_append];omega
 ·show (t.2.1++[c]).length<=8;rw [List.length_append];simp;omega
 ·rw [j6q] at g ⊢
  refine ⟨λx f=> ?_,?_⟩
  ·rcases List.mem_append.1 f with f | f
   ·exact g.1 x f
   ·rw [List.mem_singleton.1 f];exact z
  ·show (t.2.1++[c]).Pairwise _
   rw [List.pairwise_append]
   refine ⟨g.2,List.pairwise_singleton _ _,λa m b p=> ?_⟩
   rw [List.mem_singleton.1 p]
   rcases j17 t.2.1 c.1 with ⟨_,h⟩ | ⟨i,D,h,_⟩
   ·exact h a m
   ·omega
 ·have:=jg5 (l':=t.2.1++[c]) id j (λk d=>by
   have l:=q k d
   have y:j02 (t.2.1++[c]) k=j02 t.2.1 k:=je1 l.1
   simp only [id]
   rw [y,jkd _ _ _ l]
   exact ⟨l.1,((j4S _ _ _).1 j).1 k d |>.2⟩) (λa m b p n=>by
   simp only [id]
   rw [je1 (q a m).1,je1 (q b p).1]
   exact n)
  rw [List.map_id] at this
  exact this
theorem jqq {t:T} {c:C} (ht:j04 t=true) {r:List V} (f:r.length=t.2.1.length) (v:V):j06 (jj2 t c) (r++[v])=j06 t r:=by
 have d:=j1a t.2.2 (-1) (by omega) (j1G ht).2.2.2.2.2
 refine List.map_congr_left λk b=> ?_
 have:=d k b
 show nth zV (r++[v]) (j02 (t.2.1++[c]) k)=_
 rw [je1 this.1,jkd _ _ _ ⟨this.1,by omega⟩]
theorem jro {l:List C} {c:C} {r:List V} (b:j0m l r=true) {v:V} (g:j3v c v=true):j0m (l++[c]) (r++[v])=true:=by
 rw [j9s] at b ⊢
 refine ⟨by rw [List.length_append,List.length_append,b.1];rfl,λi d f=> ?_⟩
 by_cases h:i<l.length
 ·rw [List.getElem_append_left h,List.getElem_append_left (b.1 ▸ h)]
  exact b.2 i h _
 ·rw [List.length_append] at d
  simp only [List.length_cons,List.length_nil] at d
  have:i=l.length:=by omega
  subst this
  rw [List.getElem_append_right (Nat.le_refl _),List.getElem_append_right (by omega)]
  simpa using g
theorem jqE {c:C} (d:j0W c=true) (h:(c.2.2.2.1|| !c.2.2.1)=true):j3v c c.2.2.2.2=true:=by
 unfold j0W at d
 simp only [Bool.and_eq_true] at d
 obtain ⟨_,_,g,b⟩:=d
 unfold j3v
 rw [g,Bool.true_and]
 cases f:c.2.2.2.1
 ·rw [f] at h b
  rw [cond_false] at b
  unfold ji8 at b
  rw [Bool.and_eq_true] at b
  rw [Bool.false_or] at h
  rw [b.1,h,Bool.and_self,Bool.or_true]
 ·rw [f,cond_true] at b
  exact b
def jgd (t:T) (n:ByteArray):T:=(t.1,t.2.1.filter λc=> !sEq c.1 n,t.2.2)
theorem jnq {l:List C} (h:l.Pairwise λa b=>a.1≠b.1) {i:Nat} (g:i<l.length):(l.filter λc=> !sEq c.1 l[i].1)=l.eraseIdx i:=by
 induction l generalizing i with
 | nil=>simp at g
 | cons a l m=>
  rw [List.pairwise_cons] at h
  cases i with
  | zero=>
   simp only [List.getElem_cons_zero,List.filter_cons,Zah,Bool.not_true,List.eraseIdx_zero,List.tail_cons]
   rw [if_neg (by simp),List.filter_eq_self]
   intro c k
   have:=h.1 c k
   cases f:sEq c.1 a.1 with
   | false=>rfl
   | true=>exact absurd ((j09 _ _).1 f).symm this
  | succ i=>
   simp only [List.length_cons] at g
   have d:i<l.length:=by omega
   have j:sEq a.1 l[i].1=false:=by
    cases f:sEq a.1 l[i].1 with
    | false=>rfl
    | true=>exact absurd ((j09 _ _).1 f) (h.1 _ (List.getElem_mem d))
   simp only [List.getElem_cons_succ,List.filter_cons,j,Bool.not_false,if_true,List.eraseIdx_cons_succ]
   rw [m h.2 d]
theorem jbM {l:List C} (h:l.Pairwise λa b=>a.1≠b.1) {i:Nat} (n:i<l.length) {j:Nat} (q:j<l.length) (p:j≠i) :
  j02 (l.eraseIdx i) l[j].1=if j<i then (j:Int) else (j:Int)-1:=by
 have k:(l.eraseIdx i).Pairwise λa b=>a.1≠b.1:=h.sublist (List.eraseIdx_sublist _ _)
 have g:(l.eraseIdx i).length=l.length-1:=List.length_eraseIdx_of_lt n
 by_cases d:j<i
 ·rw [if_pos d]
  have f:(l.eraseIdx i)[j]'(by omega)=l[j]:=by rw [List.getElem_eraseIdx,dif_pos d]
  rw [<-f]
  exact jhs k _
 ·rw [if_neg d]
  obtain ⟨m,rfl⟩:∃ m,j=m+1:=⟨j-1,by omega⟩
  have f:(l.eraseIdx i)[m]'(by omega)=l[m+1]:=by rw [List.getElem_eraseIdx,dif_neg (by omega)]
  rw [<-f,jhs k]
  omega
theorem jlZ {α:Type} (z:α) (l:List α) {i j:Nat} (f:i<l.length) (h:j<l.length) (g:j≠i):nth z (l.eraseIdx i) (if j<i then (j:Int) else (j:Int)-1)=l[j]:=by
 have d:(l.eraseIdx i).length=l.length-1:=List.length_eraseIdx_of_lt f
 by_cases b:j<i
 ·rw [if_pos b,Zay _ _ _ (by omega),List.getElem_eraseIdx,dif_pos b]
 ·rw [if_neg b]
  obtain ⟨m,rfl⟩:∃ m,j=m+1:=⟨j-1,by omega⟩
  rw [show ((m+1:Nat):Int)-1=(m:Int) by omega,Zay _ _ _ (by omega),List.getElem_eraseIdx,dif_neg (by omega)]
theorem jfr {t:T} (ht:j04 t=true) {n k:ByteArray} (g:k∈t.2.2) (h:(t.2.2.any λx=>sEq x n)=false) {i:Nat} (r:j02 t.2.1 n=(i:Int)):∃ (j:Nat) (f:j<t.2.1.length),j02 t.2.1 k=(j:Int)/\t.2.1[j].1=k/\j≠i:=by
 have w:=j1a t.2.2 (-1) (by omega) (j1G ht).2.2.2.2.2 k g
 rcases j17 t.2.1 k with ⟨b,_⟩ | ⟨j,f,b,d,_⟩
 ·omega
 ·refine ⟨j,f,b,d,λe=> ?_⟩
  rcases j17 t.2.1 n with ⟨l,_⟩ | ⟨q,p,l,m,_⟩
  ·omega
  ·have:j=q:=by omega
   subst this
   rw [List.any_eq_false] at h
   exact h k g (by rw [<-d,m];exact Zah _)
theorem jly {t:T} (ht:j04 t=true) {n:ByteArray} {i:Nat} (j:j02 t.2.1 n=(i:Int)):i<t.2.1.length/\jgd t n=(t.1,t.2.1.eraseIdx i,t.2.2):=by
 have g:=((j6q _).1 (j1G ht).2.2.2.2.1).2
 rcases j17 t.2.1 n with ⟨d,_⟩ | ⟨h,b,d,f,_⟩
 ·omega
 ·have:i=h:=by omega
  subst this
  refine ⟨b,?_⟩
  unfold jgd
  rw [<-f,jnq g b]
theorem jrC {t:T} (ht:j04 t=true) {n:ByteArray} {i:Nat} (q:j02 t.2.1 n=(i:Int)) (y:(t.2.2.any λx=>sEq x n)=false):j04 (jgd t n)=true:=by
 obtain ⟨d,M⟩:=jly ht q
 have g:=ht
 rw [M]
 rw [j6J] at ht ⊢
 obtain ⟨H,P,Q,I,h,F⟩:=ht
 rw [j6q] at h
 have G:(t.2.1.eraseIdx i).length=t.2.1.length-1:=List.length_eraseIdx_of_lt d
 refine ⟨H,?_,?_,I,?_,?_⟩
 ·show 1<=(t.2.1.eraseIdx i).length
  obtain ⟨k,w⟩:∃ k,k∈t.2.2:=⟨t.2.2[0]'(by omega),List.getElem_mem _⟩
  obtain ⟨j,l,_,_,f⟩:=jfr g w y q
  omega
 ·show (t.2.1.eraseIdx i).length<=8
  omega
 ·show j4G (t.2.1.eraseIdx i)=true
  rw [j6q]
  exact ⟨λc L=>h.1 c (List.mem_of_mem_eraseIdx L),h.2.sublist (List.eraseIdx_sublist _ _)⟩
 ·have:=jg5 (l':=t.2.1.eraseIdx i) id F (λk w=>by
   obtain ⟨j,l,z,B,f⟩:=jfr g w y q
   simp only [id]
   have m:=jbM h.2 d l f
   rw [B] at m
   rw [m]
   refine ⟨by split<;>omega,?_⟩
   rw [jlZ zC t.2.1 d l f]
   have:=((j4S _ _ _).1 F).1 k w |>.2
   rw [z,Zay _ _ _ l] at this
   exact this) (λa J b K D=>by
   obtain ⟨j,l,z,B,f⟩:=jfr g J y q
   obtain ⟨R,E,A,C,r⟩:=jfr g K y q
   simp only [id]
   have m:=jbM h.2 d l f
   have p:=jbM h.2 d E r
   rw [B] at m
   rw [C] at p
   rw [m,p]
   rw [z,A] at D
   split<;>split<;>omega)
  rw [List.map_id] at this
  exact this
theorem jqT {t:T} (ht:j04 t=true) {n:ByteArray} {i:Nat} (g:j02 t.2.1 n=(i:Int)) (w:(t.2.2.any λx=>sEq x n)=false) {r:List V} (z:r.length=t.2.1.length):j06 (jgd t n) (r.eraseIdx i)=j06 t r:=by
 obtain ⟨d,m⟩:=jly ht g
 have y:=((j6q _).1 (j1G ht).2.2.2.2.1).2
 rw [m]
 refine List.map_congr_left λk q=> ?_
 obtain ⟨j,p,h,l,b⟩:=jfr ht q w g
 show nth zV (r.eraseIdx i) (j02 (t.2.1.eraseIdx i) k)=_
 have f:=jbM y d p b
 rw [l] at f
 rw [f,jlZ zV r (by omega) (by omega) b,h,Zay _ _ _ (by omega)]
theorem jrB {l:List C} {r:List V} (d:j0m l r=true) (i:Nat):j0m (l.eraseIdx i) (r.eraseIdx i)=true:=by
 rw [j9s] at d ⊢
 refine ⟨by rw [List.length_eraseIdx,List.length_eraseIdx,d.1],λj b f=> ?_⟩
 have g:j+1<=l.length:=by
  rw [List.length_eraseIdx] at b
  split at b<;>omega
 rw [List.getElem_eraseIdx,List.getElem_eraseIdx]
 by_cases h:j<i
 ·rw [dif_pos h,dif_pos h];exact d.2 _ _ _
 ·rw [dif_neg h,dif_neg h]
  have:j+1<l.length:=by
   rw [List.length_eraseIdx] at b
   split at b<;>omega
  exact d.2 _ this _
def ren (n m s:ByteArray):ByteArray:=bif sEq s n then m else s
def j8D (n m:ByteArray) (c:C):C:=(ren n m c.1,c.2)
def jec (t:T) (n m:ByteArray):T:=(t.1,t.2.1.map (j8D n m),t.2.2.map (ren n m))
theorem jlA {n m a b:ByteArray} (g:a≠m) (i:b≠m) (h:ren n m a=ren n m b):a=b:=by
 unfold ren at h
 cases d:sEq a n<;>cases f:sEq b n<;>rw [d,f] at h<;>simp only [cond_true,cond_false] at h
 ·exact h
 ·exact absurd h g
 ·exact absurd h.symm i
 ·rw [(j09 _ _).1 d,(j09 _ _).1 f]
theorem je2 {l:List C} {n m:ByteArray} (f:∀ c∈l,c.1≠m) {s:ByteArray} (g:s≠m):j02 (l.map (j8D n m)) (ren n m s)=j02 l s:=by
 rcases j17 l s with ⟨b,d⟩ | ⟨i,q,b,d,k⟩
 ·rw [b]
  refine jp7 λc p=> ?_
  obtain ⟨x,h,rfl⟩:=List.mem_map.1 p
  exact λe=>d x h (jlA (f x h) g e)
 ·rw [b]
  refine jhu (by rw [List.length_map];exact q) ?_ λj r=> ?_
  ·rw [List.getElem_map]
   show sEq (ren n m l[i].1) (ren n m s)=true
   rw [d];exact Zah _
  ·rw [List.getElem_map]
   show sEq (ren n m (l[j]'(by omega)).1) (ren n m s)=false
   cases w:sEq (ren n m (l[j]'(by omega)).1) (ren n m s) with
   | false=>rfl
   | true=>exact absurd (jlA (f _ (List.getElem_mem _)) g ((j09 _ _).1 w)) (k j r)
theorem jrD {n m:ByteArray} (d:j0l m=true) {c:C} (b:j0W c=true):j0W (j8D n m c)=true:=by
 unfold j0W j8D at *
 simp only [Bool.and_eq_true] at b ⊢
 refine ⟨?_,b.2⟩
 unfold ren
 cases sEq c.1 n
 ·exact b.1
 ·exact d
theorem jqQ {t:T} (ht:j04 t=true) {n m:ByteArray} (H:j0l m=true) (J:j02 t.2.1 m<0):j04 (jec t n m)=true:=by
 rw [j6J] at ht ⊢
 obtain ⟨B,C,D,E,p,q⟩:=ht
 have A:=j1a t.2.2 (-1) (by omega) q
 have f:∀ c∈t.2.1,c.1≠m:=by
  rcases j17 t.2.1 m with ⟨_,h⟩ | ⟨i,_,h,_⟩
  ·exact h
  ·omega
 have l:∀ k∈t.2.2,k≠m:=λk d e=>by
  have:=(A k d).1
  rw [e] at this
  omega
 refine ⟨B,?_,?_,?_,?_,?_⟩
 ·show 1<=(t.2.1.map _).length;rw [List.length_map];exact C
 ·show (t.2.1.map _).length<=8;rw [List.length_map];exact D
 ·show 1<=(t.2.2.map _).length;rw [List.length_map];exact E
 ·show j4G (t.2.1.map (j8D n m))=true
  rw [j6q] at p ⊢
  refine ⟨λc F=> ?_,?_⟩
  ·obtain ⟨x,I,rfl⟩:=List.mem_map.1 F
   exact jrD H (p.1 x I)
  ·rw [List.pairwise_map]
   exact p.2.imp_of_mem λw y g e=>g (jlA (f _ w) (f _ y) e)
 ·refine jg5 (l':=t.2.1.map (j8D n m)) (ren n m) q (λk d=> ?_) (λa w b y g=> ?_)
  ·rw [je2 f (l k d)]
   have z:=A k d
   refine ⟨z.1,?_⟩
   have r:=((j4S _ _ _).1 q).1 k d |>.2
   obtain ⟨j,G⟩:∃ j:Nat,j02 t.2.1 k=(j:Int):=⟨(j02 t.2.1 k).toNat,by omega⟩
   rw [G] at z r ⊢
   rw [Zay _ _ _ (by omega)] at r
   rw [Zay _ _ _ (by rw [List.length_map];omega),List.getElem_map]
   exact r
  ·rw [je2 f (l a w),je2 f (l b y)]
   exact g
theorem jq1 {t:T} (ht:j04 t=true) {n m:ByteArray} (g:j02 t.2.1 m<0) (r:List V):j06 (jec t n m) r=j06 t r:=by
 have f:=j1a t.2.2 (-1) (by omega) (j1G ht).2.2.2.2.2
 have d:∀ c∈t.2.1,c.1≠m:=by
  rcases j17 t.2.1 m with ⟨_,h⟩ | ⟨i,_,h,_⟩
  ·exact h
  ·omega
 show ((t.2.2.map (ren n m)).map λk=>nth zV r (j02 (t.2.1.map (j8D n m)) k))=_
 rw [List.map_map]
 refine List.map_congr_left λk b=> ?_
 simp only [Function.comp]
 rw [je2 d λe=>by have:=(f k b).1;rw [e] at this;omega]
theorem jqF {n m:ByteArray} (c:C) (v:V):j3v (j8D n m c) v=j3v c v:=rfl
theorem jqP {l:List C} {r:List V} (d:j0m l r=true) (n m:ByteArray):j0m (l.map (j8D n m)) r=true:=by
 rw [j9s] at d ⊢
 refine ⟨by rw [List.length_map];exact d.1,λi f b=> ?_⟩
 rw [List.getElem_map,jqF]
 exact d.2 i (by rw [List.length_map] at f;exact f) b
theorem jhN {t t':T} {l:List (List V)} (f:List V->List V) (h:j08 t l=true) (ht:j04 t'=true) (p:∀ r,j0m t.2.1 r=true->j0m t'.2.1 (f r)=true) (i:∀ r,j0m t.2.1 r=true->j06 t' (f r)=j06 t r):j08 t' (l.map f)=true:=by
 rw [j6r] at h ⊢
 obtain ⟨_,j,b,k⟩:=h
 refine ⟨ht,by rw [List.length_map];exact j,λr g=> ?_,?_⟩
 ·obtain ⟨x,q,rfl⟩:=List.mem_map.1 g
  exact p x (b x q)
 ·rw [List.pairwise_map]
  refine k.imp_of_mem λm n d=> ?_
  rw [i _ (b _ m),i _ (b _ n)]
  exact d
end Go.PI.G
namespace Go.PI.G
noncomputable section
open Go Go.PI
def j1w {α:Type} (z:α) (f:α->α->Bool) (a b:List α):Bool:=decide (a.length=b.length)&& !Z71 (λi x=> !f x (nth z b (i:Int))) 0 a
theorem jp4 {α:Type} {z:α} {f:α->α->Bool} (d:∀ x y,f x y=true↔x=y) (a b:List α):j1w z f a b=true↔a=b:=by
 unfold j1w
 rw [Bool.and_eq_true,decide_eq_true_eq,Bool.not_eq_true',j9j]
 constructor
 ·rintro ⟨m,h⟩
  refine List.ext_getElem m λi g k=> ?_
  have:=h i g
  rw [Nat.zero_add,Zay _ _ _ k,Bool.not_eq_false'] at this
  exact (d _ _).1 this
 ·rintro rfl
  refine ⟨rfl,λj l=> ?_⟩
  rw [Nat.zero_add,Zay _ _ _ l,(d _ _).2 rfl];rfl
theorem j4F (a b:List V):j1w zV veq a b=true↔a=b:=jp4 jfO a b
def j07 (t:T) (l:List (List V)) (b:List V):Int:=Z9F (λr=>j1w zV veq (j06 t r) b) l
theorem jdw (t:T) (l:List (List V)) (b:List V):(j07 t l b= -1/\∀ r∈l,j06 t r≠b)\/∃ (i:Nat) (g:i<l.length),j07 t l b=(i:Int)/\j06 t l[i]=b:=by
 rcases ja5 (λr=>j1w zV veq (j06 t r) b) l with ⟨d,f⟩ | ⟨i,g,d,f,j⟩
 ·refine .inl ⟨d,λr h e=> ?_⟩
  have:=f r h
  rw [(j4F _ _).2 e] at this
  cases this
 ·exact .inr ⟨i,g,d,(j4F _ _).1 f⟩
theorem jkG (t:T) (l:List (List V)) (b:List V):decide (j07 t l b<0)= !l.any λr=>j1w zV veq (j06 t r) b:=by
 rcases jdw t l b with ⟨f,d⟩ | ⟨i,j,f,d⟩
 ·rw [decide_eq_true (by omega)]
  have:(l.any λr=>j1w zV veq (j06 t r) b)=false:=by
   rw [List.any_eq_false]
   intro r g h
   exact d r g ((j4F _ _).1 h)
  rw [this];rfl
 ·rw [decide_eq_false (by omega)]
  have:(l.any λr=>j1w zV veq (j06 t r) b)=true:=by
   rw [List.any_eq_true]
   exact ⟨l[i],List.getElem_mem _,(j4F _ _).2 d⟩
  rw [this];rfl
def lay {α:Type} (R:α->α->Bool) (x:α) (l:List α):List α:=l.takeWhile (λy=> !R x y)++x::l.dropWhile (λy=> !R x y)
theorem jll {α:Type} {R:α->α->Bool} {x z:α} {l:List α}:z∈lay R x l↔z=x\/z∈l:=by
 unfold lay
 rw [List.mem_append,List.mem_cons]
 have:z∈l↔z∈l.takeWhile (λy=> !R x y)\/z∈l.dropWhile (λy=> !R x y):=by
  rw [<-List.mem_append,List.takeWhile_append_dropWhile]
 rw [this]
 constructor
 ·rintro (h | h | h)
  ·exact .inr (.inl h)
  ·exact .inl h
  ·exact .inr (.inr h)
 ·rintro (h | h | h)
  ·exact .inr (.inl h)
  ·exact .inl h
  ·exact .inr (.inr h)
theorem jli {α:Type} (R:α->α->Bool) (x:α) (l:List α):(lay R x l).length=l.length+1:=by
 unfold lay
 have:=congrArg List.length (List.takeWhile_append_dropWhile (p:=λy=> !R x y) (l:=l))
 rw [List.length_append] at this
 rw [List.length_append,List.length_cons]
 omega
theorem jnI {α:Type} {R:α->α->Bool} (i:∀ a b c,R a b=true->R b c=true->R a c=true) (x:α):(l:List α)->(l.Pairwise λa b=>R a b=true)->(∀ y∈l,R x y=true\/R y x=true)->(lay R x l).Pairwise λa b=>R a b=true
 | [],_,_=>List.pairwise_singleton _ _
 | y::l,h,ht=>by
  rw [List.pairwise_cons] at h
  cases d:R x y
  ·have e:lay R x (y::l)=y::lay R x l:=by
    unfold lay
    rw [List.takeWhile_cons,List.dropWhile_cons,d]
    rfl
   rw [e,List.pairwise_cons]
   refine ⟨λz f=> ?_,jnI i x l h.2 λz f=>ht z (List.mem_cons_of_mem _ f)⟩
   rcases jll.1 f with rfl | f
   ·rcases ht y (by simp) with g | g
    ·rw [d] at g;cases g
    ·exact g
   ·exact h.1 z f
  ·have e:lay R x (y::l)=x::y::l:=by
    unfold lay
    rw [List.takeWhile_cons,List.dropWhile_cons,d]
    rfl
   rw [e,List.pairwise_cons]
   refine ⟨λz f=> ?_,List.pairwise_cons.2 h⟩
   rcases List.mem_cons.1 f with rfl | f
   ·exact d
   ·exact i _ _ _ d (h.1 z f)
theorem joX {α:Type} {R:α->α->Bool} (g:∀ a b,R a b=true->R b a=false) {x:α} {l:List α} (ht:∀ y∈l,R x y=true\/R y x=true) :
  ∃ i,i<=l.length/\i=(l.takeWhile λy=>R y x).length/\lay R x l=l.take i++x::l.drop i:=by
 have f:∀ (l:List α),(∀ y∈l,R x y=true\/R y x=true)->l.takeWhile (λy=> !R x y)=l.takeWhile λy=>R y x:=by
  intro l
  induction l with
  | nil=>intro _;rfl
  | cons y l m=>
   intro h
   have e:(!R x y)=R y x:=by
    rcases h y (by simp) with d | d
    ·rw [d,g _ _ d];rfl
    ·rw [d,g _ _ d];rfl
   rw [List.takeWhile_cons,List.takeWhile_cons,e,m λz k=>h z (List.mem_cons_of_mem _ k)]
 have d:=List.takeWhile_append_dropWhile (p:=λy=> !R x y) (l:=l)
 have j:=f l ht
 refine ⟨(l.takeWhile λy=>R y x).length,?_,rfl,?_⟩
 ·have:=congrArg List.length d
  rw [List.length_append,j] at this
  omega
 ·unfold lay
  rw [j] at d ⊢
  generalize l.takeWhile (λy=>R y x)=a at d ⊢
  generalize l.dropWhile (λy=> !R x y)=b at d ⊢
  rw [<-d]
  simp
def kR (t:T) (a b:List V):Bool:=klt (j06 t a) (j06 t b)
def jg7 (t:T) (l:List (List V)) (r:List V):List (List V):=lay (kR t) r l
def jaf (t:T) (b:List V):Bool:=j04 t&&(decide (b.length=t.2.2.length)&& !Z71 (λi k=> !j3v (nth zC t.2.1 (j02 t.2.1 k)) (nth zV b (i:Int))) 0 t.2.2)
def j5V (t:T) (l:List (List V)) (r:List V):List (List V)×Int:=
 bif !j08 t l then ([],1) else bif !j0m t.2.1 r then ([],2) else bif !decide (j07 t l (j06 t r)<0) then ([],3) else bif l.length==60 then ([],4) else (jg7 t l r,0)
def j5W (t:T) (l:List (List V)) (b r:List V):List (List V)×Int:=
 bif !j08 t l then ([],1) else bif !j0m t.2.1 r then ([],2) else bif !jaf t b||decide (j07 t l b<0) then ([],5) else
 bif !decide (j07 t (l.eraseIdx (j07 t l b).toNat) (j06 t r)<0) then ([],3) else (jg7 t (l.eraseIdx (j07 t l b).toNat) r,0)
def j5U (t:T) (l:List (List V)) (b:List V):List (List V)×Int:=
 bif !j08 t l then ([],1) else bif !jaf t b||decide (j07 t l b<0) then ([],5) else (l.eraseIdx (j07 t l b).toNat,0)
theorem jnR {l:List C} {r:List V} (h:j0m l r=true):∀ v∈r,j0n v=true:=by
 intro v d
 obtain ⟨i,b,rfl⟩:=List.getElem_of_mem d
 rw [j9s] at h
 have:=h.2 i (by omega) b
 unfold j3v at this
 rw [Bool.and_eq_true] at this
 exact this.1
theorem jnF {t:T} (ht:j04 t=true) {r:List V} (h:j0m t.2.1 r=true):∀ v∈j06 t r,j0n v=true:=by
 intro v f
 obtain ⟨k,b,rfl⟩:=List.mem_map.1 f
 have:=j1a t.2.2 (-1) (by omega) (j1G ht).2.2.2.2.2 k b
 obtain ⟨n,d⟩:∃ n:Nat,j02 t.2.1 k=(n:Int):=⟨(j02 t.2.1 k).toNat,by omega⟩
 have g:=((j9s _ _).1 h).1
 rw [d,Zay _ _ _ (by omega)]
 exact jnR h _ (List.getElem_mem _)
theorem jnE {t:T} (ht:j04 t=true) {a b:List V} (d:j0m t.2.1 a=true) (f:j0m t.2.1 b=true) (h:j06 t a≠j06 t b):kR t a b=true\/kR t b a=true:=
 jlY _ _ (jnF ht d) (jnF ht f) h
theorem joW {t:T} {l:List (List V)} {r:List V} (h:j08 t l=true) (i:j0m t.2.1 r=true) (n:∀ x∈l,j06 t x≠j06 t r) (m:l.length<60):j08 t (jg7 t l r)=true:=by
 rw [j6r] at h ⊢
 obtain ⟨f,p,g,k⟩:=h
 refine ⟨f,by unfold jg7;rw [jli];omega,λx d=> ?_,?_⟩
 ·rcases jll.1 d with rfl | d
  ·exact i
  ·exact g x d
 ·exact jnI (R:=kR t) (λa b c=>jeb _ _ _) r l k λy j=>jnE f i (g y j) λe=>n y j e.symm
theorem je4 {t:T} {l:List (List V)} (b:j08 t l=true) (i:Nat):j08 t (l.eraseIdx i)=true:=by
 rw [j6r] at b ⊢
 obtain ⟨d,j,f,g⟩:=b
 refine ⟨d,?_,λx h=>f x (List.mem_of_mem_eraseIdx h),g.sublist (List.eraseIdx_sublist _ _)⟩
 rw [List.length_eraseIdx]
 split<;>omega
theorem jpf {t:T} {l:List (List V)} (k:j08 t l=true) {i j:Nat} (f:i<l.length) (g:j<l.length) (h:j06 t l[i]=j06 t l[j]):i=j:=by
 have d:=((j6r _ _).1 k).2.2.2
 rw [List.pairwise_iff_getElem] at d
 rcases Nat.lt_trichotomy i j with b | b | b
 ·exact absurd h (jpX (d i j f g b))
 ·exact b
 ·exact absurd h.symm (jpX (d j i g f b))
theorem jm8 {t:T} {l:List (List V)} (y:j08 t l=true) {b now:List V} (h:¬ j07 t l b<0) :
  (!decide (j07 t (l.eraseIdx (j07 t l b).toNat) now<0))=(!j1w zV veq now b&& !decide (j07 t l now<0)):=by
 rcases jdw t l b with ⟨n,_⟩ | ⟨i,w,n,p⟩
 ·omega
 rw [n,Int.toNat_natCast,jkG,jkG,Bool.not_not,Bool.not_not]
 by_cases g:now=b
 ·subst g
  rw [(j4F _ _).2 rfl,Bool.not_true,Bool.false_and,List.any_eq_false]
  intro r f h
  obtain ⟨j,k,m,rfl⟩:=List.mem_eraseIdx_iff_getElem.1 f
  exact m (jpf y k w (((j4F _ _).1 h).trans p.symm))
 ·have:j1w zV veq now b=false:=by
   cases d:j1w zV veq now b with
   | false=>rfl
   | true=>exact absurd ((j4F _ _).1 d) g
  rw [this,Bool.not_false,Bool.true_and]
  cases d:l.any λr=>j1w zV veq (j06 t r) now with
  | false=>
   rw [List.any_eq_false] at d ⊢
   exact λr f=>d r (List.mem_of_mem_eraseIdx f)
  | true=>
   rw [List.any_eq_true] at d ⊢
   obtain ⟨r,f,q⟩:=d
   refine ⟨r,List.mem_eraseIdx_iff_getElem.2 ?_,q⟩
   obtain ⟨j,k,rfl⟩:=List.getElem_of_mem f
   exact ⟨j,k,λe=>g (by subst e;rw [<-(j4F _ _).1 q,p]),rfl⟩
theorem jnK {t:T} {l:List (List V)} {b:List V} (h:j07 t l b<0):∀ x∈l,j06 t x≠b:=by
 rcases jdw t l b with ⟨_,d⟩ | ⟨i,g,f,_⟩
 ·exact d
 ·omega
def j2x (t:T) (l:List (List V)) (s:ST):List (List V)×Int:=
 bif s.1==1 then j5V t l s.2.2.2.1 else bif s.1==2 then j5W t l s.2.2.1 s.2.2.2.1 else bif s.1==3 then j5U t l s.2.2.1 else ([],0)
theorem jpm {t:T} {l:List (List V)} {r:List V} (h:(j5V t l r).2=0):j08 t (j5V t l r).1=true:=by
 unfold j5V at h ⊢
 cases b:j08 t l<;>rw [b] at h
 ·cases h
 cases d:j0m t.2.1 r<;>rw [d] at h
 ·cases h
 cases f:decide (j07 t l (j06 t r)<0)<;>rw [f] at h
 ·cases h
 cases g:l.length==60<;>rw [g] at h
 ·refine joW b d (jnK (of_decide_eq_true f)) ?_
  have:=((j6r _ _).1 b).2.1
  have i:l.length≠60:=by simpa using g
  omega
 ·cases h
theorem jpn {t:T} {l:List (List V)} {b r:List V} (h:(j5W t l b r).2=0):j08 t (j5W t l b r).1=true:=by
 unfold j5W at h ⊢
 cases d:j08 t l<;>rw [d] at h
 ·cases h
 cases f:j0m t.2.1 r<;>rw [f] at h
 ·cases h
 cases g: !jaf t b||decide (j07 t l b<0)<;>rw [g] at h
 ·cases i:decide (j07 t (l.eraseIdx (j07 t l b).toNat) (j06 t r)<0)<;>rw [i] at h
  ·cases h
  ·refine joW (je4 d _) f (jnK (of_decide_eq_true i)) ?_
   rw [Bool.or_eq_false_iff,decide_eq_false_iff_not] at g
   have m:=((j6r _ _).1 d).2.1
   have j:=(jcF (λr=>j1w zV veq (j06 t r) b) l).2
   have k:(j07 t l b).toNat<l.length:=by
    have:j07 t l b<(l.length:Int):=j
    omega
   rw [List.length_eraseIdx_of_lt k]
   omega
 ·cases h
theorem jpl {t:T} {l:List (List V)} {b:List V} (h:(j5U t l b).2=0):j08 t (j5U t l b).1=true:=by
 unfold j5U at h ⊢
 cases d:j08 t l<;>rw [d] at h
 ·cases h
 cases f: !jaf t b||decide (j07 t l b<0)<;>rw [f] at h
 ·exact je4 d _
 ·cases h
theorem jm7 {t:T} (h:j04 t=true):j08 t []=true:=(j6r _ _).2 ⟨h,by simp,by simp,List.Pairwise.nil⟩
theorem jr0 {t:T} (ht:j04 t=true) {l:List (List V)} {s:ST} (h:(j2x t l s).2=0):j08 t (j2x t l s).1=true:=by
 unfold j2x at h ⊢
 cases b:s.1==1<;>rw [b] at h
 ·cases d:s.1==2<;>rw [d] at h
  ·cases f:s.1==3<;>rw [f] at h
   ·exact jm7 ht
   ·exact jpl h
  ·exact jpn h
 ·exact jpm h
def tR (a b:T):Bool:=sLt a.1 b.1
def j0q (t:T) (d:D):Int:=
 bif d.1==3 then (bif !decide (j02 t.2.1 (nth zC d.2.2.1 0).1<0) then 5 else bif t.2.1.length==8 then 6 else 0)
 else bif d.1==4 then (bif decide (j02 t.2.1 d.2.2.2.2.1<0) then 7 else bif t.2.2.any (λx=>sEq x d.2.2.2.2.1) then 8 else 0)
 else bif d.1==5 then (bif !decide (j02 t.2.1 d.2.2.2.2.2<0) then 5 else bif decide (j02 t.2.1 d.2.2.2.2.1<0) then 7 else 0)
 else 0
def ja4 (t:T) (d:D):T:=bif d.1==3 then jj2 t (nth zC d.2.2.1 0) else bif d.1==4 then jgd t d.2.2.2.2.1 else jec t d.2.2.2.2.1 d.2.2.2.2.2
def j0a (c:List T) (d:D):Int:=
 bif d.1==1 then (bif !decide (j05 c d.2.1<0) then 2 else bif c.length==6 then 3 else 0)
 else bif decide (j05 c d.2.1<0) then 4 else j0q (nth zT c (j05 c d.2.1)) d
def j0Y (c:List T) (d:D):List T:=
 bif d.1==1 then lay tR (d.2.1,d.2.2.1,d.2.2.2.1) c
 else bif d.1==2 then c.eraseIdx (j05 c d.2.1).toNat
 else c.set (j05 c d.2.1).toNat (ja4 (nth zT c (j05 c d.2.1)) d)
def jeL (c:List T) (d:D):List T×Int:=
 bif !j22 c|| !j0X d then ([],1) else bif j0a c d != 0 then ([],j0a c d) else (j0Y c d,0)
theorem j0x (c:List T) (n:ByteArray):(j05 c n= -1/\∀ t∈c,t.1≠n)\/∃ (i:Nat) (f:i<c.length),j05 c n=(i:Int)/\c[i].1=n:=by
 rcases ja5 (λt:T=>sEq t.1 n) c with ⟨b,d⟩ | ⟨i,f,b,d,g⟩
 ·exact .inl ⟨b,λt ht e=>by have:=d t ht;rw [e,Zah] at this;cases this⟩
 ·exact .inr ⟨i,f,b,(j09 _ _).1 d⟩
theorem jen {c:List T} (h:c.Pairwise λa b=>sLt a.1 b.1=true) {i:Nat} (g:i<c.length):j05 c c[i].1=(i:Int):=by
 refine joT g (Zah _) λj k f=> ?_
 have f:=(j09 _ _).1 f
 rw [List.pairwise_iff_getElem] at h
 rcases Nat.lt_trichotomy i j with d | d | d
 ·exact absurd f.symm (jq9 (h i j g k d))
 ·exact d.symm
 ·exact absurd f (jq9 (h j i k g d))
theorem jhr (t:T) (d:D):(ja4 t d).1=t.1:=by
 unfold ja4
 cases d.1==3
 ·cases d.1==4<;>rfl
 ·rfl
theorem jpE {t:T} (ht:j04 t=true) {d:D} (q:j0X d=true) (j:3<=d.1) (b:j0q t d=0):j04 (ja4 t d)=true:=by
 obtain ⟨_,h⟩:=j8d q
 rcases h with ⟨n,cs,ks,rfl,_⟩ | ⟨n,rfl⟩ | ⟨n,c,rfl,l⟩ | ⟨n,m,rfl,r⟩ | ⟨n,m,p,rfl,r,w⟩
 ·simp at j
 ·simp at j
 ·show j04 (jj2 t c)=true
  change (bif !decide (j02 t.2.1 c.1<0) then (5:Int) else bif t.2.1.length==8 then 6 else 0)=0 at b
  cases f:decide (j02 t.2.1 c.1<0)<;>rw [f] at b
  ·cases b
  ·cases g:t.2.1.length==8<;>rw [g] at b
   ·have k:t.2.1.length≠8:=by simpa using g
    have:=(j1G ht).2.2.1
    exact jrp ht l (of_decide_eq_true f) (by omega)
   ·cases b
 ·show j04 (jgd t m)=true
  change (bif decide (j02 t.2.1 m<0) then (7:Int) else bif t.2.2.any (λx=>sEq x m) then 8 else 0)=0 at b
  cases f:decide (j02 t.2.1 m<0)<;>rw [f] at b
  ·cases g:t.2.2.any λx=>sEq x m<;>rw [g] at b
   ·have k:=of_decide_eq_false f
    exact jrC ht (i:=(j02 t.2.1 m).toNat) (by omega) g
   ·cases b
  ·cases b
 ·show j04 (jec t m p)=true
  change (bif !decide (j02 t.2.1 p<0) then (5:Int) else bif decide (j02 t.2.1 m<0) then 7 else 0)=0 at b
  cases f:decide (j02 t.2.1 p<0)<;>rw [f] at b
  ·cases b
  ·exact jqQ ht w (of_decide_eq_true f)
theorem jlR {c:List T} (f:j22 c=true) {t:T} (ht:j04 t=true) (p:j05 c t.1<0) (m:c.length<6):j22 (lay tR t c)=true:=by
 rw [j0c] at f ⊢
 obtain ⟨l,g,j⟩:=f
 refine ⟨by rw [jli];omega,λx d=> ?_,?_⟩
 ·rcases jll.1 d with rfl | d
  ·exact ht
  ·exact g x d
 ·refine jnI (R:=tR) (λa b c=>jef) t c j λy k=>jhO λe=> ?_
  rcases j0x c t.1 with ⟨_,h⟩ | ⟨i,n,h,_⟩
  ·exact h y k e.symm
  ·omega
theorem jnM {α:Type} {R:α->α->Prop} {l:List α} (h:l.Pairwise R) {i:Nat} {x:α} (m:i<l.length) (j:∀ y,R y l[i]->R y x) (k:∀ y,R l[i] y->R x y):(l.set i x).Pairwise R:=by
 rw [List.pairwise_iff_getElem] at h ⊢
 intro a b f g d
 rw [List.length_set] at f g
 rw [List.getElem_set,List.getElem_set]
 split
 ·rename_i e
  subst e
  split
  ·omega
  ·exact k _ (h _ _ f g d)
 ·split
  ·rename_i e
   subst e
   exact j _ (h _ _ f g d)
  ·exact h _ _ f g d
theorem jp1 {c:List T} (d:j22 c=true) {i:Nat} (l:i<c.length) {t:T} (ht:j04 t=true) (f:t.1=c[i].1):j22 (c.set i t)=true:=by
 rw [j0c] at d ⊢
 obtain ⟨g,j,k⟩:=d
 refine ⟨by rw [List.length_set];exact g,λx b=> ?_,?_⟩
 ·rcases List.mem_or_eq_of_mem_set b with b | rfl
  ·exact j x b
  ·exact ht
 ·refine jnM k l (λy h=> ?_) (λy h=> ?_)
  ·rw [f];exact h
  ·rw [f];exact h
theorem jlV {c:List T} (b:j22 c=true) (i:Nat):j22 (c.eraseIdx i)=true:=by
 rw [j0c] at b ⊢
 obtain ⟨h,d,f⟩:=b
 refine ⟨?_,λx g=>d x (List.mem_of_mem_eraseIdx g),f.sublist (List.eraseIdx_sublist _ _)⟩
 rw [List.length_eraseIdx]
 split<;>omega
theorem jnm {d:D} (b:j0X d=true):d.1=1\/d.1=2\/3<=d.1:=by
 obtain ⟨_,h⟩:=j8d b
 rcases h with ⟨n,cs,ks,rfl,_⟩ | ⟨n,rfl⟩ | ⟨n,c,rfl,g⟩ | ⟨n,m,rfl,f⟩ | ⟨n,m,p,rfl,f,i⟩<;>simp
theorem jl9 {c:List T} {d:D} (k:j22 c=true) (j:j0X d=true) (h:j0a c d=0):j22 (j0Y c d)=true:=by
 have l:=(j0c c).1 k
 unfold j0a at h
 unfold j0Y
 rcases jnm j with f | f | f
 ·rw [f] at h ⊢
  rw [show ((1:Int)==1)=true from rfl,cond_true] at h ⊢
  cases g:decide (j05 c d.2.1<0)<;>rw [g] at h
  ·cases h
  ·cases b:c.length==6<;>rw [b] at h
   ·have p:c.length≠6:=by simpa using b
    have n:j04 (d.2.1,d.2.2.1,d.2.2.2.1)=true:=by
     unfold j0X at j
     rw [f] at j
     simp only [Bool.and_eq_true,beq_self_eq_true,cond_true] at j
     exact j.2.2.2
    exact jlR k n (of_decide_eq_true g) (by omega)
   ·cases h
 ·rw [f] at h ⊢
  rw [show ((2:Int)==1)=false from rfl,show ((2:Int)==2)=true from rfl,cond_false,cond_true]
  exact jlV k _
 ·rw [show (d.1==1)=false by simp;omega,cond_false] at h
  rw [show (d.1==1)=false by simp;omega,show (d.1==2)=false by simp;omega,cond_false,cond_false]
  cases g:decide (j05 c d.2.1<0)<;>rw [g] at h
  ·rcases j0x c d.2.1 with ⟨b,_⟩ | ⟨i,m,b,p⟩
   ·rw [b] at g;cases g
   ·rw [cond_false] at h
    rw [b,Zay _ _ _ m] at h
    rw [b,Zay _ _ _ m,Int.toNat_natCast]
    exact jp1 k m (jpE (l.2.1 _ (List.getElem_mem _)) j f h) (jhr _ _)
  ·cases h
def jeK (t:T) (d:D) (l:List (List V)):List (List V):=
 bif d.1==3 then l.map (λr=>r++[(nth zC d.2.2.1 0).2.2.2.2]) else bif d.1==4 then l.map (λr=>r.eraseIdx (j02 t.2.1 d.2.2.2.2.1).toNat) else l
def ji6 (d:DB) (x:D):List (List (List V)):=
 bif x.1==1 then d.2.take (j05 (j0Y d.1 x) x.2.1).toNat++[]::d.2.drop (j05 (j0Y d.1 x) x.2.1).toNat
 else bif x.1==2 then d.2.eraseIdx (j05 d.1 x.2.1).toNat
 else d.2.set (j05 d.1 x.2.1).toNat (jeK (nth zT d.1 (j05 d.1 x.2.1)) x (nth [] d.2 (j05 d.1 x.2.1)))
abbrev zDB:DB:=([],[])
def j1T (d:DB) (s:ST):DB×Int:=
 bif decide (j05 d.1 s.2.1<0)&& !((s.1==5)&&(s.2.2.2.2.1==1)) then (zDB,4)
 else bif s.1==5 then (bif j0a d.1 s.2.2.2.2 != 0 then (zDB,10+j0a d.1 s.2.2.2.2) else ((j0Y d.1 s.2.2.2.2,ji6 d s.2.2.2.2),0))
 else bif (j2x (nth zT d.1 (j05 d.1 s.2.1)) (nth [] d.2 (j05 d.1 s.2.1)) s).2 != 0 then (zDB,10+(j2x (nth zT d.1 (j05 d.1 s.2.1)) (nth [] d.2 (j05 d.1 s.2.1)) s).2)
 else ((d.1,d.2.set (j05 d.1 s.2.1).toNat (j2x (nth zT d.1 (j05 d.1 s.2.1)) (nth [] d.2 (j05 d.1 s.2.1)) s).1),0)
theorem jrr {t:T} (ht:j04 t=true) {d:D} (j:j0X d=true) (k:3<=d.1) (f:j0q t d=0) {l:List (List V)} (w:j08 t l=true):j08 (ja4 t d) (jeK t d l)=true:=by
 have g:=jpE ht j k f
 obtain ⟨_,h⟩:=j8d j
 rcases h with ⟨n,cs,ks,rfl,_⟩ | ⟨n,rfl⟩ | ⟨n,c,rfl,A⟩ | ⟨n,m,rfl,B⟩ | ⟨n,m,p,rfl,B,E⟩
 ·simp at k
 ·simp at k
 ·have q:(c.2.2.2.1|| !c.2.2.1)=true:=by
   unfold j0X at j
   rw [Bool.and_eq_true] at j
   have:=j.2
   simp only [show ((3:Int)==1)=false from rfl,show ((3:Int)==2)=false from rfl,show ((3:Int)==3)=true from rfl,cond_false,cond_true,Bool.and_eq_true] at this
   exact this.2.2.1
  show j08 (jj2 t c) (l.map λr=>r++[c.2.2.2.2])=true
  exact jhN _ w g (λr b=>jro b (jqE A q)) (λr b=>jqq ht ((j9s _ _).1 b).1 _)
 ·change (bif decide (j02 t.2.1 m<0) then (7:Int) else bif t.2.2.any (λx=>sEq x m) then 8 else 0)=0 at f
  show j08 (jgd t m) (l.map λr=>r.eraseIdx (j02 t.2.1 m).toNat)=true
  cases i:decide (j02 t.2.1 m<0)<;>rw [i] at f
  ·cases y:t.2.2.any λx=>sEq x m<;>rw [y] at f
   ·have C:=of_decide_eq_false i
    have z:j02 t.2.1 m=(((j02 t.2.1 m).toNat:Nat):Int):=by omega
    refine jhN _ w g (λr b=> ?_) (λr b=>jqT ht z y ((j9s _ _).1 b).1)
    rw [(jly ht z).2]
    exact jrB b _
   ·cases f
  ·cases f
 ·change (bif !decide (j02 t.2.1 p<0) then (5:Int) else bif decide (j02 t.2.1 m<0) then 7 else 0)=0 at f
  show j08 (jec t m p) l=true
  cases i:decide (j02 t.2.1 p<0)<;>rw [i] at f
  ·cases f
  ·have:=jhN (t':=jec t m p) id w g (λr b=>jqP b m p) (λr b=>jq1 ht (of_decide_eq_true i) r)
   rw [List.map_id] at this
   exact this
theorem joQ {c:List T} {l:List (List (List V))} (h:dbB (c,l)=true) {i:Nat} (n:i<c.length) {t:T} (p:t.1=c[i].1) {r:List (List V)} (m:j08 t r=true):dbB (c.set i t,l.set i r)=true:=by
 rw [j1H] at h ⊢
 obtain ⟨d,f,g⟩:=h
 dsimp only at d f g ⊢
 refine ⟨jp1 d n ((j6r _ _).1 m).1 p,by rw [List.length_set,List.length_set];exact f,λj k b=> ?_⟩
 rw [List.getElem_set,List.getElem_set]
 split
 ·exact m
 ·rw [List.length_set] at k b
  exact g j k b
theorem jpI {c:List T} {l:List (List (List V))} (h:dbB (c,l)=true) (i:Nat):dbB (c.eraseIdx i,l.eraseIdx i)=true:=by
 rw [j1H] at h ⊢
 obtain ⟨d,f,b⟩:=h
 dsimp only at d f b ⊢
 refine ⟨jlV d i,by rw [List.length_eraseIdx,List.length_eraseIdx,f],λj k g=> ?_⟩
 rw [List.getElem_eraseIdx,List.getElem_eraseIdx]
 split
 ·exact b _ _ _
 ·exact b _ _ _
theorem jqI (c:List T) (t:T):∃ i,i<=c.length/\lay tR t c=c.take i++t::c.drop i:=by
 refine ⟨(c.takeWhile λy=> !tR t y).length,?_,?_⟩
 ·have:=congrArg List.length (List.takeWhile_append_dropWhile (p:=λy=> !tR t y) (l:=c))
  rw [List.length_append] at this
  omega
 ·have d:=List.takeWhile_append_dropWhile (p:=λy=> !tR t y) (l:=c)
  unfold lay
  generalize c.takeWhile (λy=> !tR t y)=a at d ⊢
  generalize c.dropWhile (λy=> !tR t y)=b at d ⊢
  rw [<-d]
  simp
theorem jnH {c:List T} (h:j22 c=true) {t:T} (ht:j04 t=true) (k:j05 c t.1<0) (g:c.length<6):∃ i:Nat,i<=c.length/\j05 (lay tR t c) t.1=(i:Int)/\lay tR t c=c.take i++t::c.drop i:=by
 obtain ⟨i,f,d⟩:=jqI c t
 refine ⟨i,f,?_,d⟩
 have l:=((j0c _).1 (jlR h ht k g)).2.2
 have b:i<(lay tR t c).length:=by rw [jli];omega
 have j:(lay tR t c)[i]=t:=by
  simp only [d]
  rw [List.getElem_append_right (by rw [List.length_take];omega)]
  simp [List.length_take,Nat.min_eq_left f]
 have:=jen l b
 rw [j] at this
 exact this
theorem joS {α:Type} (l:List α) {i:Nat} (g:i<=l.length) (x:α) (j:Nat) (f:j<(l.take i++x::l.drop i).length):(l.take i++x::l.drop i)[j]=if h:j<i then l[j] else if b:j=i then x else l[j-1]'(by simp at f;omega):=by
 have d:(l.take i).length=i:=by rw [List.length_take];omega
 by_cases h:j<i
 ·rw [dif_pos h,List.getElem_append_left (by omega),List.getElem_take]
 ·rw [dif_neg h]
  by_cases b:j=i
  ·subst b
   rw [dif_pos rfl,List.getElem_append_right (by omega)]
   simp [d]
  ·rw [dif_neg b]
   obtain ⟨m,rfl⟩:∃ m,j=i+1+m:=⟨j-i-1,by omega⟩
   rw [List.getElem_append_right (by omega)]
   simp only [d,show i+1+m-i=m+1 by omega,List.getElem_cons_succ,List.getElem_drop]
   congr 1
   omega
theorem jru {c:List T} {l:List (List (List V))} (h:dbB (c,l)=true) {i:Nat} (q:i<=c.length) {t:T} (ht:j04 t=true) (p:j22 (c.take i++t::c.drop i)=true):dbB (c.take i++t::c.drop i,l.take i++[]::l.drop i)=true:=by
 rw [j1H] at h ⊢
 obtain ⟨m,n,f⟩:=h
 dsimp only at m n f ⊢
 refine ⟨p,by simp only [List.length_append,List.length_cons,List.length_take,List.length_drop];omega,λj k g=> ?_⟩
 rw [joS c q t j k,joS l (by omega) [] j g]
 have r:j<c.length+1:=by
  simp only [List.length_append,List.length_cons,List.length_take,List.length_drop] at k
  omega
 by_cases b:j<i
 ·rw [dif_pos b,dif_pos b];exact f j (by omega) (by omega)
 ·rw [dif_neg b,dif_neg b]
  by_cases d:j=i
  ·rw [dif_pos d,dif_pos d];exact jm7 ht
  ·rw [dif_neg d,dif_neg d];exact f (j-1) (by omega) (by omega)
theorem jfY:dbB zDB=true:=(j1H _).2 ⟨(j0c _).2 ⟨by simp,by simp,List.Pairwise.nil⟩,rfl,λi b=>by simp at b⟩
theorem jrx {d:DB} (h:dbB d=true) {s:ST} (I:stB s=true) (g:(j1T d s).2=0):dbB (j1T d s).1=true:=by
 obtain ⟨c,l⟩:=d
 have A:=(j1H _).1 h
 obtain ⟨p,E,B⟩:=A
 dsimp only at p E B
 unfold j1T at g ⊢
 dsimp only at g ⊢
 cases D:decide (j05 c s.2.1<0)&& !((s.1==5)&&(s.2.2.2.2.1==1))<;>rw [D] at g
 ·rw [cond_false] at g ⊢
  cases y:s.1==5<;>rw [y] at g
  ·rw [cond_false] at g ⊢
   rw [y,Bool.false_and,Bool.not_false,Bool.and_true,decide_eq_false_iff_not] at D
   rcases j0x c s.2.1 with ⟨e,_⟩ | ⟨i,k,e,C⟩
   ·omega
   rw [e,Zay _ _ _ k,Zay _ _ _ (by omega),Int.toNat_natCast] at g ⊢
   cases b:(j2x c[i] (l[i]'(by omega)) s).2 != 0<;>rw [b] at g
   ·rw [cond_false]
    have H:=jr0 (t:=c[i]) (l:=l[i]'(by omega)) (s:=s) (((j0c _).1 p).2.1 _ (List.getElem_mem _)) (by simpa using b)
    have:=joQ h k (t:=c[i]) rfl H
    rw [List.set_getElem_self] at this
    exact this
   ·exact jfY
  ·rw [cond_true] at g ⊢
   cases b:j0a c s.2.2.2.2 != 0<;>rw [b] at g
   ·rw [cond_false]
    have b:j0a c s.2.2.2.2=0:=by simpa using b
    have f:j0X s.2.2.2.2=true:=by
     obtain ⟨_,h⟩:=jqa I
     rcases h with ⟨t,r,rfl,_⟩ | ⟨t,q,r,rfl,_⟩ | ⟨t,q,rfl,_⟩ | ⟨t,rfl⟩ | ⟨d,rfl,A⟩
     ·cases y
     ·cases y
     ·cases y
     ·cases y
     ·exact A
    have j:=jl9 p f b
    generalize s.2.2.2.2=x at b f j ⊢
    unfold ji6
    dsimp only
    rcases jnm f with m | m | m
    ·rw [m,show ((1:Int)==1)=true from rfl,cond_true]
     unfold j0a at b
     unfold j0Y at j ⊢
     rw [m,show ((1:Int)==1)=true from rfl,cond_true] at b j ⊢
     cases w:decide (j05 c x.2.1<0)<;>rw [w] at b
     ·cases b
     ·cases n:c.length==6<;>rw [n] at b
      ·have G:c.length≠6:=by simpa using n
       have z:j04 (x.2.1,x.2.2.1,x.2.2.2.1)=true:=by
        unfold j0X at f
        rw [m] at f
        simp only [Bool.and_eq_true,beq_self_eq_true,cond_true] at f
        exact f.2.2.2
       have J:=((j0c _).1 p).1
       obtain ⟨i,k,F,C⟩:=jnH p z (of_decide_eq_true w) (by omega)
       rw [F,Int.toNat_natCast]
       rw [C] at j ⊢
       exact jru h k z j
      ·cases b
    ·rw [m,show ((2:Int)==1)=false from rfl,show ((2:Int)==2)=true from rfl,cond_false,cond_true]
     unfold j0Y
     rw [m,show ((2:Int)==1)=false from rfl,show ((2:Int)==2)=true from rfl,cond_false,cond_true]
     exact jpI h _
    ·rw [show (x.1==1)=false by simp;omega,show (x.1==2)=false by simp;omega,cond_false,cond_false]
     unfold j0a at b
     rw [show (x.1==1)=false by simp;omega,cond_false] at b
     unfold j0Y
     rw [show (x.1==1)=false by simp;omega,show (x.1==2)=false by simp;omega,cond_false,cond_false]
     cases w:decide (j05 c x.2.1<0)<;>rw [w] at b
     ·rcases j0x c x.2.1 with ⟨n,_⟩ | ⟨i,k,n,G⟩
      ·rw [n] at w;cases w
      ·rw [cond_false,n,Zay _ _ _ k] at b
       rw [n,Zay _ _ _ k,Zay _ _ _ (by omega),Int.toNat_natCast]
       exact joQ h k (jhr _ _) (jrr (((j0c _).1 p).2.1 _ (List.getElem_mem _)) f m b (B i k (by omega)))
     ·cases b
   ·exact jfY
 ·cases g
end
end Go.PI.G
namespace Go.PI.G
noncomputable section
open Go Go.PI
def j8t (i:Nat) (d:DB) (s:ST):Except (Int×Int) DB:=bif !stB s then .error (1,(i:Int)) else bif (j1T d s).2 != 0 then .error ((j1T d s).2,(i:Int)) else .ok (j1T d s).1
def j0B (d:DB) (l:List ST):DB×Int×Int:=bif !dbB d then (([],[]),1,0) else match Z1S j8t 0 l d with | .ok b=>(b,0,0) | .error e=>(([],[]),e.1,e.2)
theorem jjN {i:Nat} {d j:DB} {s:ST} (h:dbB d=true) (b:j8t i d s= .ok j):dbB j=true:=by
 unfold j8t at b
 cases f:stB s
 ·rw [f] at b;cases b
 ·rw [f,Bool.not_true,cond_false] at b
  cases g:((j1T d s).2 != 0)
  ·rw [g,cond_false] at b
   cases b
   exact jrx h f (by simpa using g)
  ·rw [g,cond_true] at b;cases b
theorem joq {d:DB} {l:List ST} (h:(j0B d l).2.1=0):dbB (j0B d l).1=true:=by
 unfold j0B at h ⊢
 cases g:dbB d
 ·rw [g] at h;cases h
 rw [g,Bool.not_true,cond_false] at h
 rw [Bool.not_true,cond_false]
 cases k:Z1S j8t 0 l d with
 | ok q=>exact Z91 (λ_ a=>dbB a=true) l 0 d q g (λj x a p _ r b=>jjN r b) k
 | error e=>
  rw [k] at h
  exfalso
  have h:e.1=0:=h
  have m:∀ (l:List ST) (i:Nat) (a:DB) (e:Int×Int),Z1S j8t i l a= .error e->e.1≠0:=by
   intro l
   induction l with
   | nil=>intro i a e h;simp [Z1S] at h
   | cons x l y=>
    intro i a e h
    simp only [Z1S] at h
    cases b:j8t i a x with
    | ok p=>rw [b] at h;exact y _ _ _ h
    | error z=>
     rw [b] at h
     cases h
     unfold j8t at b
     cases n:stB x
     ·rw [n] at b;cases b;exact λw=>absurd (show (1:Int)=0 from w) (by decide)
     ·rw [n,Bool.not_true,cond_false] at b
      cases f:((j1T a x).2 != 0)
      ·rw [f] at b;cases b
      ·rw [f] at b
       cases b
       simpa using f
  exact m l 0 d e k h
abbrev RC:=Int×Int×ST
abbrev yRC:Ty:= .pair (.int .i64) (.pair (.int .i64) yST)
def jja (s:ST):Bool:=(s.1==0)&&(sEq s.2.1 eS&&((s.2.2.1.length==0)&&((s.2.2.2.1.length==0)&&noD s.2.2.2.2)))
theorem jqR (s:ST):jja s=true↔s=zST:=by
 obtain ⟨a,b,c,e,d⟩:=s
 unfold jja
 simp only [Bool.and_eq_true,beq_iff_eq,j09,Prod.mk.injEq,List.length_eq_zero_iff,jfw]
def jc8 (r:RC):Bool:=decide (1<=r.1/\r.1<=4)&&(decide (1<=r.2.1/\r.2.1<=1000000)&&(bif r.1==2 then stB r.2.2 else jja r.2.2))
theorem jpk {r:RC} (h:jc8 r=true):(1<=r.1/\r.1<=4)/\(1<=r.2.1/\r.2.1<=1000000)/\((r.1=2/\stB r.2.2=true)\/(r.1≠2/\r.2.2=zST)):=by
 unfold jc8 at h
 rw [Bool.and_eq_true,Bool.and_eq_true,decide_eq_true_eq,decide_eq_true_eq] at h
 refine ⟨h.1,h.2.1,?_⟩
 have b:=h.2.2
 cases d:r.1==2
 ·rw [d,cond_false] at b
  exact .inr ⟨by simpa using d,(jqR _).1 b⟩
 ·rw [d,cond_true] at b
  exact .inl ⟨by simpa using d,b⟩
def j6L (l:List RC) (x:Int):Bool:=l.any λr=>(r.1==1)&&(r.2.1==x)
def j3w (l:List Int) (n:Int):Bool:=l.any λx=>x==n
def j98 (o:List Int) (r:RC):List Int:=
 bif r.1==1 then (bif j3w o r.2.1 then o else o++[r.2.1]) else bif (r.1==3)||(r.1==4) then o.filter (λy=> !(y==r.2.1)) else o
def j1z (l:List RC):List Int:=l.foldl j98 []
def j7C (l:List RC):List Int:=(l.filter λr=>r.1==1).map λr=>r.2.1
def ji4 (x:Int) (_:Int) (r:RC):List ST:=bif (r.1==2)&&(r.2.1==x) then [r.2.2] else []
def j37 (l:List RC) (x:Int):List ST:=Z4r (ji4 x) 0 l
def jcN (p:List RC) (d:DB) (r:RC):Except Unit DB:=
 bif !jc8 r then .error () else
 bif r.1==1 then (bif j6L p r.2.1 then .error () else .ok d) else
 bif !j3w (j1z p) r.2.1 then .error () else
 bif r.1==3 then (bif (j0B d (j37 p r.2.1)).2.1 != 0 then .error () else .ok (j0B d (j37 p r.2.1)).1) else .ok d
def jge (d:DB) (l:List RC):Except Unit DB:=Z1S (λi d r=>jcN (l.take i) d r) 0 l d
def jrT {A E:Type} (r:Except E A):Bool:=match r with
 | .ok _=>true
 | .error _=>false
def jhz (l:List RC):Bool:=decide (l.length<=400)&&jrT (jge zDB l)
theorem jnN {p:List RC} {d f:DB} {r:RC} (i:dbB d=true) (h:jcN p d r= .ok f):dbB f=true:=by
 unfold jcN at h
 cases j:jc8 r<;>rw [j] at h
 ·cases h
 rw [Bool.not_true,cond_false] at h
 cases k:r.1==1<;>rw [k] at h
 ·rw [cond_false] at h
  cases b:j3w (j1z p) r.2.1<;>rw [b] at h
  ·cases h
  rw [Bool.not_true,cond_false] at h
  cases l:r.1==3<;>rw [l] at h
  ·cases h;exact i
  ·rw [cond_true] at h
   cases g:(j0B d (j37 p r.2.1)).2.1 != 0<;>rw [g] at h
   ·cases h;exact joq (by simpa using g)
   ·cases h
 ·rw [cond_true] at h
  cases b:j6L p r.2.1<;>rw [b] at h
  ·cases h;exact i
  ·cases h
theorem jku (l:List RC) (r:RC):j1z (l++[r])=j98 (j1z l) r:=by
 unfold j1z
 rw [List.foldl_append]
 rfl
theorem jpy (l:List RC) (r:RC) (x:Int):j6L (l++[r]) x=(j6L l x||((r.1==1)&&(r.2.1==x))):=by
 unfold j6L
 rw [List.any_append]
 simp
theorem jpx (l:List RC) (r:RC):j7C (l++[r])=bif r.1==1 then j7C l++[r.2.1] else j7C l:=by
 unfold j7C
 rw [List.filter_append,List.map_append]
 cases h:r.1==1
 ·rw [List.filter_cons_of_neg (by rw [h];simp),List.filter_nil,List.map_nil,List.append_nil,cond_false]
 ·rw [List.filter_cons_of_pos (p:=λr:RC=>r.1==1) h,List.filter_nil,cond_true]
  rfl
theorem jqj (l:List RC) (x:Int):j3w (j7C l) x=j6L l x:=by
 unfold j3w j7C j6L
 rw [List.any_map,List.any_filter]
 rfl
theorem jqk (l:List RC):(j7C l).length<=l.length:=by
 unfold j7C
 rw [List.length_map]
 exact List.length_filter_le _ _
theorem jqG (a:List Int) (y x:Int):j3w (a++[y]) x=(j3w a x||(y==x)):=by
 unfold j3w
 rw [List.any_append]
 simp
theorem jq3 (x:Int):(n:Nat)->(l:List RC)->l.length=n->j3w (j1z l) x=true->j6L l x=true:=by
 intro n
 induction n with
 | zero=>
  intro l f h
  have:l=[]:=List.length_eq_zero_iff.1 f
  subst this
  exact absurd h (by unfold j1z j3w;simp)
 | succ n i=>
  intro l f h
  have d:l≠[]:=λe=>by rw [e] at f;simp at f
  have e:l=l.dropLast++[l.getLast d]:=(List.dropLast_concat_getLast d).symm
  generalize p:l.dropLast=m at e
  generalize l.getLast d=r at e
  have b:m.length=n:=by rw [<-p,List.length_dropLast];omega
  subst e
  rw [jku] at h
  rw [jpy,Bool.or_eq_true]
  unfold j98 at h
  cases k:r.1==1<;>rw [k] at h
  ·rw [cond_false] at h
   refine .inl (i m b ?_)
   cases g:(r.1==3)||(r.1==4)<;>rw [g] at h
   ·exact h
   ·rw [cond_true] at h
    unfold j3w at h ⊢
    rw [List.any_filter] at h
    obtain ⟨y,q,j⟩:=List.any_eq_true.1 h
    exact List.any_eq_true.2 ⟨y,q,(by rw [Bool.and_eq_true] at j;exact j.2)⟩
  ·rw [cond_true] at h
   cases g:j3w (j1z m) r.2.1<;>rw [g] at h
   ·rw [cond_false,jqG,Bool.or_eq_true] at h
    rcases h with h | h
    ·exact .inl (i m b h)
    ·exact .inr (by rw [h];rfl)
   ·exact .inl (i m b h)
theorem jpj {l:List RC} {x:Int} (h:j6L l x=false):j3w (j1z l) x=false:=by
 cases b:j3w (j1z l) x
 ·rfl
 ·rw [jq3 x _ l rfl b] at h;cases h
theorem jm0 (o:List Int) (r:RC):(j98 o r).length<=o.length+1:=by
 unfold j98
 cases r.1==1
 ·cases (r.1==3)||(r.1==4)
  ·exact Nat.le_succ _
  ·exact Nat.le_succ_of_le (List.length_filter_le _ _)
 ·cases j3w o r.2.1
  ·show (o++[r.2.1]).length<=_;simp
  ·exact Nat.le_succ _
theorem jfq:(l:List RC)->(o:List Int)->(l.foldl j98 o).length<=o.length+l.length
 | [],o=>Nat.le_refl _
 | r::l,o=>by
  have b:=jfq l (j98 o r)
  have d:=jm0 o r
  rw [List.foldl_cons,List.length_cons]
  omega
theorem jm1 (l:List RC):(j1z l).length<=l.length:=by
 have:=jfq l []
 simpa [j1z] using this
theorem jjO (x i:Int) (r:RC):(ji4 x i r).length<=1:=by
 unfold ji4
 cases (r.1==2)&&(r.2.1==x)
 ·exact Nat.zero_le _
 ·exact Nat.le_refl _
theorem jkQ (l:List RC) (x:Int):(j37 l x).length<=l.length:=Z94 _ (jjO x) 0 l
theorem jlN {α β:Type} {g:Int->α->List β} {P:β->Prop}:(j:Nat)->(l:List α)->(h:∀ i,∀ x∈l,∀ y∈g i x,P y)->∀ y∈Z4r g j l,P y
 | _,[],h,y,b=>by cases b
 | j,x::l,h,y,b=>by
  rcases List.mem_append.1 b with b | b
  ·exact h _ x (by simp) y b
  ·exact jlN (j+1) l (λi x d=>h i x (List.mem_cons_of_mem _ d)) y b
theorem jpw {l:List RC} {x:Int} {s:ST} (f:s∈j37 l x):∃ r∈l,s=r.2.2:=
 jlN (P:=λs=>∃ r∈l,s=r.2.2) 0 l (λi r d y b=>by
  unfold ji4 at b
  cases h:(r.1==2)&&(r.2.1==x)<;>rw [h] at b
  ·cases b
  ·exact ⟨r,d,by simpa using b⟩) s f
def jj5 (i:Int) (r:RC):List Int:=bif r.1==3 then [i+1] else []
def j3u (l:List RC):List Int:=bif jhz l then Z4r jj5 0 l else []
def jgl (b:Int) (_:Int) (c:Int):List Int:=bif decide (c>b) then [c] else []
def j9D (l:List RC) (b:Int):List Int:=Z4r (jgl b) 0 (j3u l)
theorem jj6 (i:Int) (r:RC):(jj5 i r).length<=1:=by
 unfold jj5
 cases r.1==3
 ·exact Nat.zero_le _
 ·exact Nat.le_refl _
theorem ji5 (a i c:Int):(jgl a i c).length<=1:=by
 unfold jgl
 cases decide (c>a)
 ·exact Nat.zero_le _
 ·exact Nat.le_refl _
theorem jda (l:List RC):(j3u l).length<=l.length:=by
 unfold j3u
 cases jhz l
 ·exact Nat.zero_le _
 ·exact Z94 _ jj6 0 l
theorem joh (l:List RC) (a:Int):(j9D l a).length<=l.length:=Nat.le_trans (Z94 _ (ji5 a) 0 _) (jda l)
end
end Go.PI.G
set_option linter.unusedSimpArgs false
namespace Go.PI.G
open Go Go.PI Go.Proofs
theorem joI (s:ST) (k:Bool->Res):j6n s k=k (jja s):=by
 unfold j6n jja
 rw [j3n,j3n,jkO]
 cases s.1==0
 ·rfl
 ·cases sEq s.2.1 eS
  ·rfl
  ·cases s.2.2.1.length==0
   ·rfl
   ·cases s.2.2.2.1.length==0<;>rfl
theorem jow (s:ST) (k:Bool->Res):j6V s k=k (jja s):=by
 unfold j6V jja
 rw [j3n,j3n,jk8]
 cases s.1==0
 ·rfl
 ·cases sEq s.2.1 eS
  ·rfl
  ·cases s.2.2.1.length==0
   ·rfl
   ·cases s.2.2.2.1.length==0<;>rfl
theorem jpu (r:RC) (h:j1x r.2.2) (k:Bool->Res):j8s r k=k (jc8 r):=by
 unfold j8s j9f jc8
 by_cases d:1<=r.1/\r.1<=4
 ·rw [decide_eq_false (show ¬ r.1<1 by omega),cond_false,decide_eq_false (show ¬ r.1>4 by omega),cond_false,decide_eq_true d,Bool.true_and]
  by_cases f:1<=r.2.1/\r.2.1<=1000000
  ·rw [decide_eq_false (show ¬ r.2.1<1 by omega),cond_false,decide_eq_false (show ¬ r.2.1>1000000 by omega),decide_eq_true f,Bool.true_and]
   dsimp only
   rw [cond_false,ji1 _ h,joI]
   cases r.1==2<;>rfl
  ·rw [decide_eq_false f]
   by_cases b:r.2.1<1
   ·rw [decide_eq_true b];rfl
   ·rw [decide_eq_false b,decide_eq_true (show r.2.1>1000000 by omega)];rfl
 ·rw [decide_eq_false d]
  by_cases b:r.1<1
  ·rw [decide_eq_true b];rfl
  ·rw [decide_eq_false b,decide_eq_true (show r.1>4 by omega)];rfl
theorem jpd (r:RC) (h:j1x r.2.2) (k:Bool->Res):j8g r k=k (jc8 r):=by
 unfold j8g jc8
 rw [j6u,j6u]
 cases decide (1<=r.1/\r.1<=4)
 ·rfl
 ·cases decide (1<=r.2.1/\r.2.1<=1000000)
  ·rfl
  ·rw [Bool.not_true,cond_false,cond_false,jlW _ h,jow]
   cases r.1==2<;>rfl
end Go.PI.G
namespace Go.PI.G
open Go Go.PI Go.Proofs
theorem joH (a b:V) (k:Bool->Res):j82 a b k=k (vlt a b):=by
 unfold j82 vlt
 rw [j8p,j8p]
 cases j0n a
 ·rfl
 ·cases j0n b
  ·rfl
  ·rw [Bool.not_true,cond_false,cond_false,Bool.true_and,Bool.true_and]
   cases a.1 != b.1
   ·rw [cond_false,cond_false]
    by_cases h:a.2.1=b.2.1
    ·rw [h,ZaO,cond_false,decide_eq_false (by omega),cond_false,beq_self_eq_true,cond_true]
    ·have d:(a.2.1 != b.2.1)=true:=by simp [h]
     have f:(a.2.1==b.2.1)=false:=by simp [h]
     rw [d,f,cond_true,cond_false]
     cases decide (a.2.1<b.2.1)<;>rfl
   ·rfl
theorem jov (a b:V) (k:Bool->Res):j7K a b k=k (vlt a b):=by
 unfold j7K vlt
 rw [j8e,j8e]
 cases j0n a
 ·rfl
 ·cases j0n b
  ·rfl
  ·rw [Bool.not_true,cond_false,cond_false,Bool.true_and,Bool.true_and]
   cases a.1 != b.1
   ·rw [cond_false,cond_false]
    cases a.2.1 != b.2.1<;>rfl
   ·rfl
end Go.PI.G
