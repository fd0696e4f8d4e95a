/-
  Program's code interpreted over typed values; printed texts; plain laws. No conditions.
-/
import Derived.Test.YtnemiodjnhfejaaGreatDAj
import Derived.Test.YtnemiodjnhfejaaGreatDAh
set_option linter.unusedVariables false
namespace Go.PI.G
open Go Go.PI
theorem jjn {l:List C} (h:l.Pairwise λa b=>a.1≠b.1) {i:Nat} (g:i<l.length):j03 l l[i].1=(i:Int):=by
 unfold j03
 refine jrC g (Zah _) λj k f=> ?_
 have f:=(j0e _ _).1 f
 rw [List.pairwise_iff_getElem] at h
 rcases Nat.lt_trichotomy i j with d | d | d
 ·exact absurd f.symm (h i j g k d)
 ·exact d.symm
 ·exact absurd f (h j i k g d)
theorem j7e (l:List C):j5t l=true↔(∀ c∈l,j1g c=true)/\l.Pairwise λa b=>a.1≠b.1:=by
 unfold j5t
 rw [Bool.not_eq_true',jay]
 constructor
 ·intro h
  refine ⟨λc k=> ?_,List.pairwise_iff_getElem.2 λi j n d p m=> ?_⟩
  ·obtain ⟨j,d,rfl⟩:=List.getElem_of_mem k
   have:=h j d
   simp only [Bool.or_eq_false_iff,Bool.not_eq_false'] at this
   exact this.1
  ·have f:=h i n
   have g:=h j d
   simp only [Bool.or_eq_false_iff,Nat.zero_add,bne_eq_false_iff_eq] at f g
   rw [m] at f
   omega
 ·rintro ⟨f,g⟩ j d
  rw [f _ (List.getElem_mem d),Nat.zero_add,jjn g d]
  simp
theorem j5G (l:List C):(ks:List ByteArray)->(d:Int)->(j1t l d ks=true↔(∀ k∈ks,d<j03 l k/\(nth zC l (j03 l k)).2.2.1=true)/\ks.Pairwise λa b=>j03 l a<j03 l b)
 | [],_=>by simp [j1t]
 | k::ks,d=>by
  simp only [j1t,Bool.and_eq_true,Bool.not_eq_true',decide_eq_false_iff_not,j5G l ks,List.pairwise_cons,List.mem_cons,forall_eq_or_imp]
  constructor
  ·rintro ⟨j,h,g,i⟩
   exact ⟨⟨⟨by omega,h⟩,λq f=>⟨by have:=(g q f).1;omega,(g q f).2⟩⟩,λq f=>(g q f).1,i⟩
  ·rintro ⟨⟨⟨j,h⟩,g⟩,i,m⟩
   exact ⟨by omega,h,λq f=>⟨i q f,(g q f).2⟩,m⟩
theorem j7C (t:T):j04 t=true↔j0x t.1=true/\1<=t.2.1.length/\t.2.1.length<=8/\1<=t.2.2.length/\j5t t.2.1=true/\j1t t.2.1 (-1) t.2.2=true:=by
 unfold j04
 simp only [Bool.and_eq_true,decide_eq_true_eq,and_assoc]
theorem jrQ {l:List C} {n:ByteArray} (h:∀ c∈l,c.1≠n):j03 l n= -1:=
 jsy λc b=>by
  cases d:sEq c.1 n with
  | false=>rfl
  | true=>exact absurd ((j0e _ _).1 d) (h c b)
theorem j1r (l:List C) (n:ByteArray):(j03 l n= -1/\∀ c∈l,c.1≠n)\/∃ (i:Nat) (f:i<l.length),j03 l n=(i:Int)/\l[i].1=n/\∀ (j:Nat) (g:j<i),(l[j]'(by omega)).1≠n:=by
 rcases jbh (λc:C=>sEq c.1 n) l with ⟨b,d⟩ | ⟨i,f,b,d,h⟩
 ·exact .inl ⟨b,λc k e=>by have:=d c k;rw [e,Zah] at this;cases this⟩
 ·exact .inr ⟨i,f,b,(j0e _ _).1 d,λj g e=>by have:=h j g;rw [e,Zah] at this;cases this⟩
theorem jhZ {l l':List C} {ks:List ByteArray} (g:ByteArray->ByteArray) (h:j1t l (-1) ks=true) (f:∀ k∈ks,0<=j03 l' (g k)/\(nth zC l' (j03 l' (g k))).2.2.1=true)
  (i:∀ a∈ks,∀ b∈ks,j03 l a<j03 l b->j03 l' (g a)<j03 l' (g b)):j1t l' (-1) (ks.map g)=true:=by
 rw [j5G] at h ⊢
 refine ⟨λk n=> ?_,?_⟩
 ·obtain ⟨q,p,rfl⟩:=List.mem_map.1 n
  have:=f q p
  exact ⟨by omega,this.2⟩
 ·rw [List.pairwise_map]
  exact h.2.imp_of_mem λj m d=>i _ j _ m d
theorem jaH (l:List C) (r:List V):j0z l r=true↔r.length=l.length/\∀ (i:Nat) (b:i<l.length) (d:i<r.length),j4e l[i] r[i]=true:=by
 unfold j0z
 rw [Bool.and_eq_true,decide_eq_true_eq,Bool.not_eq_true',jay]
 refine and_congr_right λf=> ?_
 constructor
 ·intro h i b d
  have:=h i b
  rw [Nat.zero_add,Zay _ _ _ d,Bool.not_eq_false'] at this
  exact this
 ·intro h i b
  rw [Nat.zero_add,Zay _ _ _ (f ▸ b),h i b (f ▸ b)]
  rfl
def jlf (t:T) (c:C):T:=(t.1,t.2.1++[c],t.2.2)
theorem jmo {α:Type} (z:α) (l m:List α) {i:Int} (h:0<=i/\i<(l.length:Int)):nth z (l++m) i=nth z l i:=by
 obtain ⟨n,rfl⟩:∃ n:Nat,i=(n:Int):=⟨i.toNat,by omega⟩
 rw [Zay _ _ _ (by rw [List.length_append];omega),Zay _ _ _ (by omega),List.getElem_append_left (by omega)]
theorem jfK {l:List C} {c:C} {n:ByteArray} (h:0<=j03 l n):j03 (l++[c]) n=j03 l n:=by
 rcases j1r l n with ⟨b,_⟩ | ⟨i,g,b,d,f⟩
 ·omega
 ·rw [b]
  refine jjo (by rw [List.length_append];omega) ?_ λj k=> ?_
  ·rw [List.getElem_append_left g,d];exact Zah _
  ·rw [List.getElem_append_left (by omega)]
   cases m:sEq (l[j]'(by omega)).1 n with
   | false=>rfl
   | true=>exact absurd ((j0e _ _).1 m) (f j k)
theorem ju5 {t:T} {c:C} (ht:j04 t=true) (z:j1g c=true) (F:j03 t.2.1 c.1<0) (E:t.2.1.length<8):j04 (jlf t c)=true:=by
 rw [j7C] at ht ⊢
 obtain ⟨r,A,B,w,g,j⟩:=ht
 have q:=j1u t.2.2 (-1) (by omega) j
 refine ⟨r,?_,?_,w,?_,?_⟩
 ·show 1<=(t.2.1++[c]).length;rw [List.length_append];omega
 ·show (t.2.1++[c]).length<=8;rw [List.length_append];simp;omega
 ·rw [j7e] at g ⊢
  refine ⟨λx f=> ?_,?_⟩
  ·rcases List.mem_append.1 f with f | f
   ·exact g.1 x f
   ·rw [List.mem_singleton.1 f];exact z
  ·show (t.2.1++[c]).Pairwise _
   rw [List.pairwise_append]
   refine ⟨g.2,List.pairwise_singleton _ _,λa m b p=> ?_⟩
   rw [List.mem_singleton.1 p]
   rcases j1r t.2.1 c.1 with ⟨_,h⟩ | ⟨i,D,h,_⟩
   ·exact h a m
   ·omega
 ·have:=jhZ (l':=t.2.1++[c]) id j (λk d=>by
   have l:=q k d
   have y:j03 (t.2.1++[c]) k=j03 t.2.1 k:=jfK l.1
   simp only [id]
   rw [y,jmo _ _ _ l]
   exact ⟨l.1,((j5G _ _ _).1 j).1 k d |>.2⟩) (λa m b p n=>by
   simp only [id]
   rw [jfK (q a m).1,jfK (q b p).1]
   exact n)
  rw [List.map_id] at this
  exact this
theorem jt4 {t:T} {c:C} (ht:j04 t=true) {r:List V} (f:r.length=t.2.1.length) (v:V):j08 (jlf t c) (r++[v])=j08 t r:=by
 have d:=j1u t.2.2 (-1) (by omega) (j29 ht).2.2.2.2.2
 refine List.map_congr_left λk b=> ?_
 have:=d k b
 show nth zV (r++[v]) (j03 (t.2.1++[c]) k)=_
 rw [jfK this.1,jmo _ _ _ ⟨this.1,by omega⟩]
theorem ju4 {l:List C} {c:C} {r:List V} (b:j0z l r=true) {v:V} (g:j4e c v=true):j0z (l++[c]) (r++[v])=true:=by
 rw [jaH] at b ⊢
 refine ⟨by rw [List.length_append,List.length_append,b.1];rfl,λi d f=> ?_⟩
 by_cases h:i<l.length
 ·rw [List.getElem_append_left h,List.getElem_append_left (b.1 ▸ h)]
  exact b.2 i h _
 ·rw [List.length_append] at d
  simp only [List.length_cons,List.length_nil] at d
  have:i=l.length:=by omega
  subst this
  rw [List.getElem_append_right (Nat.le_refl _),List.getElem_append_right (by omega)]
  simpa using g
theorem jtk {c:C} (d:j1g c=true) (h:(c.2.2.2.1|| !c.2.2.1)=true):j4e c c.2.2.2.2=true:=by
 unfold j1g at d
 simp only [Bool.and_eq_true] at d
 obtain ⟨_,_,g,b⟩:=d
 unfold j4e
 rw [g,Bool.true_and]
 cases f:c.2.2.2.1
 ·rw [f] at h b
  rw [cond_false] at b
  unfold jk9 at b
  rw [Bool.and_eq_true] at b
  rw [Bool.false_or] at h
  rw [b.1,h,Bool.and_self,Bool.or_true]
 ·rw [f,cond_true] at b
  exact b
def ji8 (t:T) (n:ByteArray):T:=(t.1,t.2.1.filter λc=> !sEq c.1 n,t.2.2)
theorem jq4 {l:List C} (h:l.Pairwise λa b=>a.1≠b.1) {i:Nat} (g:i<l.length):(l.filter λc=> !sEq c.1 l[i].1)=l.eraseIdx i:=by
 induction l generalizing i with
 | nil=>simp at g
 | cons a l m=>
  rw [List.pairwise_cons] at h
  cases i with
  | zero=>
   simp only [List.getElem_cons_zero,List.filter_cons,Zah,Bool.not_true,List.eraseIdx_zero,List.tail_cons]
   rw [if_neg (by simp),List.filter_eq_self]
   intro c k
   have:=h.1 c k
   cases f:sEq c.1 a.1 with
   | false=>rfl
   | true=>exact absurd ((j0e _ _).1 f).symm this
  | succ i=>
   simp only [List.length_cons] at g
   have d:i<l.length:=by omega
   have j:sEq a.1 l[i].1=false:=by
    cases f:sEq a.1 l[i].1 with
    | false=>rfl
    | true=>exact absurd ((j0e _ _).1 f) (h.1 _ (List.getElem_mem d))
   simp only [List.getElem_cons_succ,List.filter_cons,j,Bool.not_false,if_true,List.eraseIdx_cons_succ]
   rw [m h.2 d]
theorem jd8 {l:List C} (h:l.Pairwise λa b=>a.1≠b.1) {i:Nat} (n:i<l.length) {j:Nat} (q:j<l.length) (p:j≠i) :
  j03 (l.eraseIdx i) l[j].1=if j<i then (j:Int) else (j:Int)-1:=by
 have k:(l.eraseIdx i).Pairwise λa b=>a.1≠b.1:=h.sublist (List.eraseIdx_sublist _ _)
 have g:(l.eraseIdx i).length=l.length-1:=List.length_eraseIdx_of_lt n
 by_cases d:j<i
 ·rw [if_pos d]
  have f:(l.eraseIdx i)[j]'(by omega)=l[j]:=by rw [List.getElem_eraseIdx,dif_pos d]
  rw [<-f]
  exact jjn k _
 ·rw [if_neg d]
  obtain ⟨m,rfl⟩:∃ m,j=m+1:=⟨j-1,by omega⟩
  have f:(l.eraseIdx i)[m]'(by omega)=l[m+1]:=by rw [List.getElem_eraseIdx,dif_neg (by omega)]
  rw [<-f,jjn k]
  omega
theorem jom {α:Type} (z:α) (l:List α) {i j:Nat} (f:i<l.length) (h:j<l.length) (g:j≠i):nth z (l.eraseIdx i) (if j<i then (j:Int) else (j:Int)-1)=l[j]:=by
 have d:(l.eraseIdx i).length=l.length-1:=List.length_eraseIdx_of_lt f
 by_cases b:j<i
 ·rw [if_pos b,Zay _ _ _ (by omega),List.getElem_eraseIdx,dif_pos b]
 ·rw [if_neg b]
  obtain ⟨m,rfl⟩:∃ m,j=m+1:=⟨j-1,by omega⟩
  rw [show ((m+1:Nat):Int)-1=(m:Int) by omega,Zay _ _ _ (by omega),List.getElem_eraseIdx,dif_neg (by omega)]
theorem jhg {t:T} (ht:j04 t=true) {n k:ByteArray} (g:k∈t.2.2) (h:(t.2.2.any λx=>sEq x n)=false) {i:Nat} (r:j03 t.2.1 n=(i:Int)):∃ (j:Nat) (f:j<t.2.1.length),j03 t.2.1 k=(j:Int)/\t.2.1[j].1=k/\j≠i:=by
 have w:=j1u t.2.2 (-1) (by omega) (j29 ht).2.2.2.2.2 k g
 rcases j1r t.2.1 k with ⟨b,_⟩ | ⟨j,f,b,d,_⟩
 ·omega
 ·refine ⟨j,f,b,d,λe=> ?_⟩
  rcases j1r t.2.1 n with ⟨l,_⟩ | ⟨q,p,l,m,_⟩
  ·omega
  ·have:j=q:=by omega
   subst this
   rw [List.any_eq_false] at h
   exact h k g (by rw [<-d,m];exact Zah _)
theorem jnW {t:T} (ht:j04 t=true) {n:ByteArray} {i:Nat} (j:j03 t.2.1 n=(i:Int)):i<t.2.1.length/\ji8 t n=(t.1,t.2.1.eraseIdx i,t.2.2):=by
 have g:=((j7e _).1 (j29 ht).2.2.2.2.1).2
 rcases j1r t.2.1 n with ⟨d,_⟩ | ⟨h,b,d,f,_⟩
 ·omega
 ·have:i=h:=by omega
  subst this
  refine ⟨b,?_⟩
  unfold ji8
  rw [<-f,jq4 g b]
theorem juk {t:T} (ht:j04 t=true) {n:ByteArray} {i:Nat} (q:j03 t.2.1 n=(i:Int)) (y:(t.2.2.any λx=>sEq x n)=false):j04 (ji8 t n)=true:=by
 obtain ⟨d,M⟩:=jnW ht q
 have g:=ht
 rw [M]
 rw [j7C] at ht ⊢
 obtain ⟨H,P,Q,I,h,F⟩:=ht
 rw [j7e] at h
 have G:(t.2.1.eraseIdx i).length=t.2.1.length-1:=List.length_eraseIdx_of_lt d
 refine ⟨H,?_,?_,I,?_,?_⟩
 ·show 1<=(t.2.1.eraseIdx i).length
  obtain ⟨k,w⟩:∃ k,k∈t.2.2:=⟨t.2.2[0]'(by omega),List.getElem_mem _⟩
  obtain ⟨j,l,_,_,f⟩:=jhg g w y q
  omega
 ·show (t.2.1.eraseIdx i).length<=8
  omega
 ·show j5t (t.2.1.eraseIdx i)=true
  rw [j7e]
  exact ⟨λc L=>h.1 c (List.mem_of_mem_eraseIdx L),h.2.sublist (List.eraseIdx_sublist _ _)⟩
 ·have:=jhZ (l':=t.2.1.eraseIdx i) id F (λk w=>by
   obtain ⟨j,l,z,B,f⟩:=jhg g w y q
   simp only [id]
   have m:=jd8 h.2 d l f
   rw [B] at m
   rw [m]
   refine ⟨by split<;>omega,?_⟩
   rw [jom zC t.2.1 d l f]
   have:=((j5G _ _ _).1 F).1 k w |>.2
   rw [z,Zay _ _ _ l] at this
   exact this) (λa J b K D=>by
   obtain ⟨j,l,z,B,f⟩:=jhg g J y q
   obtain ⟨R,E,A,C,r⟩:=jhg g K y q
   simp only [id]
   have m:=jd8 h.2 d l f
   have p:=jd8 h.2 d E r
   rw [B] at m
   rw [C] at p
   rw [m,p]
   rw [z,A] at D
   split<;>split<;>omega)
  rw [List.map_id] at this
  exact this
theorem jtz {t:T} (ht:j04 t=true) {n:ByteArray} {i:Nat} (g:j03 t.2.1 n=(i:Int)) (w:(t.2.2.any λx=>sEq x n)=false) {r:List V} (z:r.length=t.2.1.length):j08 (ji8 t n) (r.eraseIdx i)=j08 t r:=by
 obtain ⟨d,m⟩:=jnW ht g
 have y:=((j7e _).1 (j29 ht).2.2.2.2.1).2
 rw [m]
 refine List.map_congr_left λk q=> ?_
 obtain ⟨j,p,h,l,b⟩:=jhg ht q w g
 show nth zV (r.eraseIdx i) (j03 (t.2.1.eraseIdx i) k)=_
 have f:=jd8 y d p b
 rw [l] at f
 rw [f,jom zV r (by omega) (by omega) b,h,Zay _ _ _ (by omega)]
theorem juj {l:List C} {r:List V} (d:j0z l r=true) (i:Nat):j0z (l.eraseIdx i) (r.eraseIdx i)=true:=by
 rw [jaH] at d ⊢
 refine ⟨by rw [List.length_eraseIdx,List.length_eraseIdx,d.1],λj b f=> ?_⟩
 have g:j+1<=l.length:=by
  rw [List.length_eraseIdx] at b
  split at b<;>omega
 rw [List.getElem_eraseIdx,List.getElem_eraseIdx]
 by_cases h:j<i
 ·rw [dif_pos h,dif_pos h];exact d.2 _ _ _
 ·rw [dif_neg h,dif_neg h]
  have:j+1<l.length:=by
   rw [List.length_eraseIdx] at b
   split at b<;>omega
  exact d.2 _ this _
def ren (n m s:ByteArray):ByteArray:=bif sEq s n then m else s
def j9R (n m:ByteArray) (c:C):C:=(ren n m c.1,c.2)
def jfY (t:T) (n m:ByteArray):T:=(t.1,t.2.1.map (j9R n m),t.2.2.map (ren n m))
theorem jnY {n m a b:ByteArray} (g:a≠m) (i:b≠m) (h:ren n m a=ren n m b):a=b:=by
 unfold ren at h
 cases d:sEq a n<;>cases f:sEq b n<;>rw [d,f] at h<;>simp only [cond_true,cond_false] at h
 ·exact h
 ·exact absurd h g
 ·exact absurd h.symm i
 ·rw [(j0e _ _).1 d,(j0e _ _).1 f]
theorem jfL {l:List C} {n m:ByteArray} (f:∀ c∈l,c.1≠m) {s:ByteArray} (g:s≠m):j03 (l.map (j9R n m)) (ren n m s)=j03 l s:=by
 rcases j1r l s with ⟨b,d⟩ | ⟨i,q,b,d,k⟩
 ·rw [b]
  refine jrQ λc p=> ?_
  obtain ⟨x,h,rfl⟩:=List.mem_map.1 p
  exact λe=>d x h (jnY (f x h) g e)
 ·rw [b]
  refine jjo (by rw [List.length_map];exact q) ?_ λj r=> ?_
  ·rw [List.getElem_map]
   show sEq (ren n m l[i].1) (ren n m s)=true
   rw [d];exact Zah _
  ·rw [List.getElem_map]
   show sEq (ren n m (l[j]'(by omega)).1) (ren n m s)=false
   cases w:sEq (ren n m (l[j]'(by omega)).1) (ren n m s) with
   | false=>rfl
   | true=>exact absurd (jnY (f _ (List.getElem_mem _)) g ((j0e _ _).1 w)) (k j r)
theorem jum {n m:ByteArray} (d:j0x m=true) {c:C} (b:j1g c=true):j1g (j9R n m c)=true:=by
 unfold j1g j9R at *
 simp only [Bool.and_eq_true] at b ⊢
 refine ⟨?_,b.2⟩
 unfold ren
 cases sEq c.1 n
 ·exact b.1
 ·exact d
theorem jtw {t:T} (ht:j04 t=true) {n m:ByteArray} (H:j0x m=true) (J:j03 t.2.1 m<0):j04 (jfY t n m)=true:=by
 rw [j7C] at ht ⊢
 obtain ⟨B,C,D,E,p,q⟩:=ht
 have A:=j1u t.2.2 (-1) (by omega) q
 have f:∀ c∈t.2.1,c.1≠m:=by
  rcases j1r t.2.1 m with ⟨_,h⟩ | ⟨i,_,h,_⟩
  ·exact h
  ·omega
 have l:∀ k∈t.2.2,k≠m:=λk d e=>by
  have:=(A k d).1
  rw [e] at this
  omega
 refine ⟨B,?_,?_,?_,?_,?_⟩
 ·show 1<=(t.2.1.map _).length;rw [List.length_map];exact C
 ·show (t.2.1.map _).length<=8;rw [List.length_map];exact D
 ·show 1<=(t.2.2.map _).length;rw [List.length_map];exact E
 ·show j5t (t.2.1.map (j9R n m))=true
  rw [j7e] at p ⊢
  refine ⟨λc F=> ?_,?_⟩
  ·obtain ⟨x,I,rfl⟩:=List.mem_map.1 F
   exact jum H (p.1 x I)
  ·rw [List.pairwise_map]
   exact p.2.imp_of_mem λw y g e=>g (jnY (f _ w) (f _ y) e)
 ·refine jhZ (l':=t.2.1.map (j9R n m)) (ren n m) q (λk d=> ?_) (λa w b y g=> ?_)
  ·rw [jfL f (l k d)]
   have z:=A k d
   refine ⟨z.1,?_⟩
   have r:=((j5G _ _ _).1 q).1 k d |>.2
   obtain ⟨j,G⟩:∃ j:Nat,j03 t.2.1 k=(j:Int):=⟨(j03 t.2.1 k).toNat,by omega⟩
   rw [G] at z r ⊢
   rw [Zay _ _ _ (by omega)] at r
   rw [Zay _ _ _ (by rw [List.length_map];omega),List.getElem_map]
   exact r
  ·rw [jfL f (l a w),jfL f (l b y)]
   exact g
theorem jsL {t:T} (ht:j04 t=true) {n m:ByteArray} (g:j03 t.2.1 m<0) (r:List V):j08 (jfY t n m) r=j08 t r:=by
 have f:=j1u t.2.2 (-1) (by omega) (j29 ht).2.2.2.2.2
 have d:∀ c∈t.2.1,c.1≠m:=by
  rcases j1r t.2.1 m with ⟨_,h⟩ | ⟨i,_,h,_⟩
  ·exact h
  ·omega
 show ((t.2.2.map (ren n m)).map λk=>nth zV r (j03 (t.2.1.map (j9R n m)) k))=_
 rw [List.map_map]
 refine List.map_congr_left λk b=> ?_
 simp only [Function.comp]
 rw [jfL d λe=>by have:=(f k b).1;rw [e] at this;omega]
theorem jtl {n m:ByteArray} (c:C) (v:V):j4e (j9R n m c) v=j4e c v:=rfl
theorem jtv {l:List C} {r:List V} (d:j0z l r=true) (n m:ByteArray):j0z (l.map (j9R n m)) r=true:=by
 rw [jaH] at d ⊢
 refine ⟨by rw [List.length_map];exact d.1,λi f b=> ?_⟩
 rw [List.getElem_map,jtl]
 exact d.2 i (by rw [List.length_map] at f;exact f) b
theorem jjJ {t t':T} {l:List (List V)} (f:List V->List V) (h:j0a t l=true) (ht:j04 t'=true) (p:∀ r,j0z t.2.1 r=true->j0z t'.2.1 (f r)=true) (i:∀ r,j0z t.2.1 r=true->j08 t' (f r)=j08 t r):j0a t' (l.map f)=true:=by
 rw [j7g] at h ⊢
 obtain ⟨_,j,b,k⟩:=h
 refine ⟨ht,by rw [List.length_map];exact j,λr g=> ?_,?_⟩
 ·obtain ⟨x,q,rfl⟩:=List.mem_map.1 g
  exact p x (b x q)
 ·rw [List.pairwise_map]
  refine k.imp_of_mem λm n d=> ?_
  rw [i _ (b _ m),i _ (b _ n)]
  exact d
end Go.PI.G
namespace Go.PI.G
noncomputable section
open Go Go.PI
def j1S {α:Type} (z:α) (f:α->α->Bool) (a b:List α):Bool:=decide (a.length=b.length)&& !Z71 (λi x=> !f x (nth z b (i:Int))) 0 a
theorem jrN {α:Type} {z:α} {f:α->α->Bool} (d:∀ x y,f x y=true↔x=y) (a b:List α):j1S z f a b=true↔a=b:=by
 unfold j1S
 rw [Bool.and_eq_true,decide_eq_true_eq,Bool.not_eq_true',jay]
 constructor
 ·rintro ⟨m,h⟩
  refine List.ext_getElem m λi g k=> ?_
  have:=h i g
  rw [Nat.zero_add,Zay _ _ _ k,Bool.not_eq_false'] at this
  exact (d _ _).1 this
 ·rintro rfl
  refine ⟨rfl,λj l=> ?_⟩
  rw [Nat.zero_add,Zay _ _ _ l,(d _ _).2 rfl];rfl
theorem j5s (a b:List V):j1S zV veq a b=true↔a=b:=jrN jhE a b
def j09 (t:T) (l:List (List V)) (b:List V):Int:=Z9F (λr=>j1S zV veq (j08 t r) b) l
theorem jfb (t:T) (l:List (List V)) (b:List V):(j09 t l b= -1/\∀ r∈l,j08 t r≠b)\/∃ (i:Nat) (g:i<l.length),j09 t l b=(i:Int)/\j08 t l[i]=b:=by
 rcases jbh (λr=>j1S zV veq (j08 t r) b) l with ⟨d,f⟩ | ⟨i,g,d,f,j⟩
 ·refine .inl ⟨d,λr h e=> ?_⟩
  have:=f r h
  rw [(j5s _ _).2 e] at this
  cases this
 ·exact .inr ⟨i,g,d,(j5s _ _).1 f⟩
theorem jmX (t:T) (l:List (List V)) (b:List V):decide (j09 t l b<0)= !l.any λr=>j1S zV veq (j08 t r) b:=by
 rcases jfb t l b with ⟨f,d⟩ | ⟨i,j,f,d⟩
 ·rw [decide_eq_true (by omega)]
  have:(l.any λr=>j1S zV veq (j08 t r) b)=false:=by
   rw [List.any_eq_false]
   intro r g h
   exact d r g ((j5s _ _).1 h)
  rw [this];rfl
 ·rw [decide_eq_false (by omega)]
  have:(l.any λr=>j1S zV veq (j08 t r) b)=true:=by
   rw [List.any_eq_true]
   exact ⟨l[i],List.getElem_mem _,(j5s _ _).2 d⟩
  rw [this];rfl
def lay {α:Type} (R:α->α->Bool) (x:α) (l:List α):List α:=l.takeWhile (λy=> !R x y)++x::l.dropWhile (λy=> !R x y)
theorem jnE {α:Type} {R:α->α->Bool} {x z:α} {l:List α}:z∈lay R x l↔z=x\/z∈l:=by
 unfold lay
 rw [List.mem_append,List.mem_cons]
 have:z∈l↔z∈l.takeWhile (λy=> !R x y)\/z∈l.dropWhile (λy=> !R x y):=by
  rw [<-List.mem_append,List.takeWhile_append_dropWhile]
 rw [this]
 constructor
 ·rintro (h | h | h)
  ·exact .inr (.inl h)
  ·exact .inl h
  ·exact .inr (.inr h)
 ·rintro (h | h | h)
  ·exact .inr (.inl h)
  ·exact .inl h
  ·exact .inr (.inr h)
theorem jnC {α:Type} (R:α->α->Bool) (x:α) (l:List α):(lay R x l).length=l.length+1:=by
 unfold lay
 have:=congrArg List.length (List.takeWhile_append_dropWhile (p:=λy=> !R x y) (l:=l))
 rw [List.length_append] at this
 rw [List.length_append,List.length_cons]
 omega
theorem jqo {α:Type} {R:α->α->Bool} (i:∀ a b c,R a b=true->R b c=true->R a c=true) (x:α):(l:List α)->(l.Pairwise λa b=>R a b=true)->(∀ y∈l,R x y=true\/R y x=true)->(lay R x l).Pairwise λa b=>R a b=true
 | [],_,_=>List.pairwise_singleton _ _
 | y::l,h,ht=>by
  rw [List.pairwise_cons] at h
  cases d:R x y
  ·have e:lay R x (y::l)=y::lay R x l:=by
    unfold lay
    rw [List.takeWhile_cons,List.dropWhile_cons,d]
    rfl
   rw [e,List.pairwise_cons]
   refine ⟨λz f=> ?_,jqo i x l h.2 λz f=>ht z (List.mem_cons_of_mem _ f)⟩
   rcases jnE.1 f with rfl | f
   ·rcases ht y (by simp) with g | g
    ·rw [d] at g;cases g
    ·exact g
   ·exact h.1 z f
  ·have e:lay R x (y::l)=x::y::l:=by
    unfold lay
    rw [List.takeWhile_cons,List.dropWhile_cons,d]
    rfl
   rw [e,List.pairwise_cons]
   refine ⟨λz f=> ?_,List.pairwise_cons.2 h⟩
   rcases List.mem_cons.1 f with rfl | f
   ·exact d
   ·exact i _ _ _ d (h.1 z f)
theorem jrG {α:Type} {R:α->α->Bool} (g:∀ a b,R a b=true->R b a=false) {x:α} {l:List α} (ht:∀ y∈l,R x y=true\/R y x=true) :
  ∃ i,i<=l.length/\i=(l.takeWhile λy=>R y x).length/\lay R x l=l.take i++x::l.drop i:=by
 have f:∀ (l:List α),(∀ y∈l,R x y=true\/R y x=true)->l.takeWhile (λy=> !R x y)=l.takeWhile λy=>R y x:=by
  intro l
  induction l with
  | nil=>intro _;rfl
  | cons y l m=>
   intro h
   have e:(!R x y)=R y x:=by
    rcases h y (by simp) with d | d
    ·rw [d,g _ _ d];rfl
    ·rw [d,g _ _ d];rfl
   rw [List.takeWhile_cons,List.takeWhile_cons,e,m λz k=>h z (List.mem_cons_of_mem _ k)]
 have d:=List.takeWhile_append_dropWhile (p:=λy=> !R x y) (l:=l)
 have j:=f l ht
 refine ⟨(l.takeWhile λy=>R y x).length,?_,rfl,?_⟩
 ·have:=congrArg List.length d
  rw [List.length_append,j] at this
  omega
 ·unfold lay
  rw [j] at d ⊢
  generalize l.takeWhile (λy=>R y x)=a at d ⊢
  generalize l.dropWhile (λy=> !R x y)=b at d ⊢
  rw [<-d]
  simp
def kR (t:T) (a b:List V):Bool:=klt (j08 t a) (j08 t b)
def ji1 (t:T) (l:List (List V)) (r:List V):List (List V):=lay (kR t) r l
def jbp (t:T) (b:List V):Bool:=j04 t&&(decide (b.length=t.2.2.length)&& !Z71 (λi k=> !j4e (nth zC t.2.1 (j03 t.2.1 k)) (nth zV b (i:Int))) 0 t.2.2)
def j6L (t:T) (l:List (List V)) (r:List V):List (List V)×Int:=
 bif !j0a t l then ([],1) else bif !j0z t.2.1 r then ([],2) else bif !decide (j09 t l (j08 t r)<0) then ([],3) else bif l.length==60 then ([],4) else (ji1 t l r,0)
def j6M (t:T) (l:List (List V)) (b r:List V):List (List V)×Int:=
 bif !j0a t l then ([],1) else bif !j0z t.2.1 r then ([],2) else bif !jbp t b||decide (j09 t l b<0) then ([],5) else
 bif !decide (j09 t (l.eraseIdx (j09 t l b).toNat) (j08 t r)<0) then ([],3) else (ji1 t (l.eraseIdx (j09 t l b).toNat) r,0)
def j6K (t:T) (l:List (List V)) (b:List V):List (List V)×Int:=
 bif !j0a t l then ([],1) else bif !jbp t b||decide (j09 t l b<0) then ([],5) else (l.eraseIdx (j09 t l b).toNat,0)
theorem jqz {l:List C} {r:List V} (h:j0z l r=true):∀ v∈r,j0u v=true:=by
 intro v d
 obtain ⟨i,b,rfl⟩:=List.getElem_of_mem d
 rw [jaH] at h
 have:=h.2 i (by omega) b
 unfold j4e at this
 rw [Bool.and_eq_true] at this
 exact this.1
theorem jql {t:T} (ht:j04 t=true) {r:List V} (h:j0z t.2.1 r=true):∀ v∈j08 t r,j0u v=true:=by
 intro v f
 obtain ⟨k,b,rfl⟩:=List.mem_map.1 f
 have:=j1u t.2.2 (-1) (by omega) (j29 ht).2.2.2.2.2 k b
 obtain ⟨n,d⟩:∃ n:Nat,j03 t.2.1 k=(n:Int):=⟨(j03 t.2.1 k).toNat,by omega⟩
 have g:=((jaH _ _).1 h).1
 rw [d,Zay _ _ _ (by omega)]
 exact jqz h _ (List.getElem_mem _)
theorem jqk {t:T} (ht:j04 t=true) {a b:List V} (d:j0z t.2.1 a=true) (f:j0z t.2.1 b=true) (h:j08 t a≠j08 t b):kR t a b=true\/kR t b a=true:=
 jol _ _ (jql ht d) (jql ht f) h
theorem jrF {t:T} {l:List (List V)} {r:List V} (h:j0a t l=true) (i:j0z t.2.1 r=true) (n:∀ x∈l,j08 t x≠j08 t r) (m:l.length<60):j0a t (ji1 t l r)=true:=by
 rw [j7g] at h ⊢
 obtain ⟨f,p,g,k⟩:=h
 refine ⟨f,by unfold ji1;rw [jnC];omega,λx d=> ?_,?_⟩
 ·rcases jnE.1 d with rfl | d
  ·exact i
  ·exact g x d
 ·exact jqo (R:=kR t) (λa b c=>jfW _ _ _) r l k λy j=>jqk f i (g y j) λe=>n y j e.symm
theorem jfO {t:T} {l:List (List V)} (b:j0a t l=true) (i:Nat):j0a t (l.eraseIdx i)=true:=by
 rw [j7g] at b ⊢
 obtain ⟨d,j,f,g⟩:=b
 refine ⟨d,?_,λx h=>f x (List.mem_of_mem_eraseIdx h),g.sublist (List.eraseIdx_sublist _ _)⟩
 rw [List.length_eraseIdx]
 split<;>omega
theorem jrW {t:T} {l:List (List V)} (k:j0a t l=true) {i j:Nat} (f:i<l.length) (g:j<l.length) (h:j08 t l[i]=j08 t l[j]):i=j:=by
 have d:=((j7g _ _).1 k).2.2.2
 rw [List.pairwise_iff_getElem] at d
 rcases Nat.lt_trichotomy i j with b | b | b
 ·exact absurd h (jsF (d i j f g b))
 ·exact b
 ·exact absurd h.symm (jsF (d j i g f b))
theorem jow {t:T} {l:List (List V)} (y:j0a t l=true) {b now:List V} (h:¬ j09 t l b<0) :
  (!decide (j09 t (l.eraseIdx (j09 t l b).toNat) now<0))=(!j1S zV veq now b&& !decide (j09 t l now<0)):=by
 rcases jfb t l b with ⟨n,_⟩ | ⟨i,w,n,p⟩
 ·omega
 rw [n,Int.toNat_natCast,jmX,jmX,Bool.not_not,Bool.not_not]
 by_cases g:now=b
 ·subst g
  rw [(j5s _ _).2 rfl,Bool.not_true,Bool.false_and,List.any_eq_false]
  intro r f h
  obtain ⟨j,k,m,rfl⟩:=List.mem_eraseIdx_iff_getElem.1 f
  exact m (jrW y k w (((j5s _ _).1 h).trans p.symm))
 ·have:j1S zV veq now b=false:=by
   cases d:j1S zV veq now b with
   | false=>rfl
   | true=>exact absurd ((j5s _ _).1 d) g
  rw [this,Bool.not_false,Bool.true_and]
  cases d:l.any λr=>j1S zV veq (j08 t r) now with
  | false=>
   rw [List.any_eq_false] at d ⊢
   exact λr f=>d r (List.mem_of_mem_eraseIdx f)
  | true=>
   rw [List.any_eq_true] at d ⊢
   obtain ⟨r,f,q⟩:=d
   refine ⟨r,List.mem_eraseIdx_iff_getElem.2 ?_,q⟩
   obtain ⟨j,k,rfl⟩:=List.getElem_of_mem f
   exact ⟨j,k,λe=>g (by subst e;rw [<-(j5s _ _).1 q,p]),rfl⟩
theorem jqt {t:T} {l:List (List V)} {b:List V} (h:j09 t l b<0):∀ x∈l,j08 t x≠b:=by
 rcases jfb t l b with ⟨_,d⟩ | ⟨i,g,f,_⟩
 ·exact d
 ·omega
def j38 (t:T) (l:List (List V)) (s:ST):List (List V)×Int:=
 bif s.1==1 then j6L t l s.2.2.2.1 else bif s.1==2 then j6M t l s.2.2.1 s.2.2.2.1 else bif s.1==3 then j6K t l s.2.2.1 else ([],0)
theorem js6 {t:T} {l:List (List V)} {r:List V} (h:(j6L t l r).2=0):j0a t (j6L t l r).1=true:=by
 unfold j6L at h ⊢
 cases b:j0a t l<;>rw [b] at h
 ·cases h
 cases d:j0z t.2.1 r<;>rw [d] at h
 ·cases h
 cases f:decide (j09 t l (j08 t r)<0)<;>rw [f] at h
 ·cases h
 cases g:l.length==60<;>rw [g] at h
 ·refine jrF b d (jqt (of_decide_eq_true f)) ?_
  have:=((j7g _ _).1 b).2.1
  have i:l.length≠60:=by simpa using g
  omega
 ·cases h
theorem js7 {t:T} {l:List (List V)} {b r:List V} (h:(j6M t l b r).2=0):j0a t (j6M t l b r).1=true:=by
 unfold j6M at h ⊢
 cases d:j0a t l<;>rw [d] at h
 ·cases h
 cases f:j0z t.2.1 r<;>rw [f] at h
 ·cases h
 cases g: !jbp t b||decide (j09 t l b<0)<;>rw [g] at h
 ·cases i:decide (j09 t (l.eraseIdx (j09 t l b).toNat) (j08 t r)<0)<;>rw [i] at h
  ·cases h
  ·refine jrF (jfO d _) f (jqt (of_decide_eq_true i)) ?_
   rw [Bool.or_eq_false_iff,decide_eq_false_iff_not] at g
   have m:=((j7g _ _).1 d).2.1
   have j:=(jec (λr=>j1S zV veq (j08 t r) b) l).2
   have k:(j09 t l b).toNat<l.length:=by
    have:j09 t l b<(l.length:Int):=j
    omega
   rw [List.length_eraseIdx_of_lt k]
   omega
 ·cases h
theorem js5 {t:T} {l:List (List V)} {b:List V} (h:(j6K t l b).2=0):j0a t (j6K t l b).1=true:=by
 unfold j6K at h ⊢
 cases d:j0a t l<;>rw [d] at h
 ·cases h
 cases f: !jbp t b||decide (j09 t l b<0)<;>rw [f] at h
 ·exact jfO d _
 ·cases h
theorem jou {t:T} (h:j04 t=true):j0a t []=true:=(j7g _ _).2 ⟨h,by simp,by simp,List.Pairwise.nil⟩
theorem jtI {t:T} (ht:j04 t=true) {l:List (List V)} {s:ST} (h:(j38 t l s).2=0):j0a t (j38 t l s).1=true:=by
 unfold j38 at h ⊢
 cases b:s.1==1<;>rw [b] at h
 ·cases d:s.1==2<;>rw [d] at h
  ·cases f:s.1==3<;>rw [f] at h
   ·exact jou ht
   ·exact js5 h
  ·exact js7 h
 ·exact js6 h
def tR (a b:T):Bool:=sLt a.1 b.1
def j0B (t:T) (d:D):Int:=
 bif d.1==3 then (bif !decide (j03 t.2.1 (nth zC d.2.2.1 0).1<0) then 5 else bif t.2.1.length==8 then 6 else 0)
 else bif d.1==4 then (bif decide (j03 t.2.1 d.2.2.2.2.1<0) then 7 else bif t.2.2.any (λx=>sEq x d.2.2.2.2.1) then 8 else 0)
 else bif d.1==5 then (bif !decide (j03 t.2.1 d.2.2.2.2.2<0) then 5 else bif decide (j03 t.2.1 d.2.2.2.2.1<0) then 7 else 0)
 else 0
def jbg (t:T) (d:D):T:=bif d.1==3 then jlf t (nth zC d.2.2.1 0) else bif d.1==4 then ji8 t d.2.2.2.2.1 else jfY t d.2.2.2.2.1 d.2.2.2.2.2
def j0f (c:List T) (d:D):Int:=
 bif d.1==1 then (bif !decide (j07 c d.2.1<0) then 2 else bif c.length==6 then 3 else 0)
 else bif decide (j07 c d.2.1<0) then 4 else j0B (nth zT c (j07 c d.2.1)) d
def j1h (c:List T) (d:D):List T:=
 bif d.1==1 then lay tR (d.2.1,d.2.2.1,d.2.2.2.1) c
 else bif d.1==2 then c.eraseIdx (j07 c d.2.1).toNat
 else c.set (j07 c d.2.1).toNat (jbg (nth zT c (j07 c d.2.1)) d)
def jgy (c:List T) (d:D):List T×Int:=
 bif !j2z c|| !j1c d then ([],1) else bif j0f c d != 0 then ([],j0f c d) else (j1h c d,0)
theorem j0J (c:List T) (n:ByteArray):(j07 c n= -1/\∀ t∈c,t.1≠n)\/∃ (i:Nat) (f:i<c.length),j07 c n=(i:Int)/\c[i].1=n:=by
 rcases jbh (λt:T=>sEq t.1 n) c with ⟨b,d⟩ | ⟨i,f,b,d,g⟩
 ·exact .inl ⟨b,λt ht e=>by have:=d t ht;rw [e,Zah] at this;cases this⟩
 ·exact .inr ⟨i,f,b,(j0e _ _).1 d⟩
theorem jg9 {c:List T} (h:c.Pairwise λa b=>sLt a.1 b.1=true) {i:Nat} (g:i<c.length):j07 c c[i].1=(i:Int):=by
 refine jrC g (Zah _) λj k f=> ?_
 have f:=(j0e _ _).1 f
 rw [List.pairwise_iff_getElem] at h
 rcases Nat.lt_trichotomy i j with d | d | d
 ·exact absurd f.symm (jsR (h i j g k d))
 ·exact d.symm
 ·exact absurd f (jsR (h j i k g d))
theorem jjm (t:T) (d:D):(jbg t d).1=t.1:=by
 unfold jbg
 cases d.1==3
 ·cases d.1==4<;>rfl
 ·rfl
theorem jsn {t:T} (ht:j04 t=true) {d:D} (q:j1c d=true) (j:3<=d.1) (b:j0B t d=0):j04 (jbg t d)=true:=by
 obtain ⟨_,h⟩:=j7m q
 rcases h with ⟨n,cs,ks,rfl,_⟩ | ⟨n,rfl⟩ | ⟨n,c,rfl,l⟩ | ⟨n,m,rfl,r⟩ | ⟨n,m,p,rfl,r,w⟩
 ·simp at j
 ·simp at j
 ·show j04 (jlf t c)=true
  change (bif !decide (j03 t.2.1 c.1<0) then (5:Int) else bif t.2.1.length==8 then 6 else 0)=0 at b
  cases f:decide (j03 t.2.1 c.1<0)<;>rw [f] at b
  ·cases b
  ·cases g:t.2.1.length==8<;>rw [g] at b
   ·have k:t.2.1.length≠8:=by simpa using g
    have:=(j29 ht).2.2.1
    exact ju5 ht l (of_decide_eq_true f) (by omega)
   ·cases b
 ·show j04 (ji8 t m)=true
  change (bif decide (j03 t.2.1 m<0) then (7:Int) else bif t.2.2.any (λx=>sEq x m) then 8 else 0)=0 at b
  cases f:decide (j03 t.2.1 m<0)<;>rw [f] at b
  ·cases g:t.2.2.any λx=>sEq x m<;>rw [g] at b
   ·have k:=of_decide_eq_false f
    exact juk ht (i:=(j03 t.2.1 m).toNat) (by omega) g
   ·cases b
  ·cases b
 ·show j04 (jfY t m p)=true
  change (bif !decide (j03 t.2.1 p<0) then (5:Int) else bif decide (j03 t.2.1 m<0) then 7 else 0)=0 at b
  cases f:decide (j03 t.2.1 p<0)<;>rw [f] at b
  ·cases b
  ·exact jtw ht w (of_decide_eq_true f)
theorem joe {c:List T} (f:j2z c=true) {t:T} (ht:j04 t=true) (p:j07 c t.1<0) (m:c.length<6):j2z (lay tR t c)=true:=by
 rw [j0h] at f ⊢
 obtain ⟨l,g,j⟩:=f
 refine ⟨by rw [jnC];omega,λx d=> ?_,?_⟩
 ·rcases jnE.1 d with rfl | d
  ·exact ht
  ·exact g x d
 ·refine jqo (R:=tR) (λa b c=>jg1) t c j λy k=>jjK λe=> ?_
  rcases j0J c t.1 with ⟨_,h⟩ | ⟨i,n,h,_⟩
  ·exact h y k e.symm
  ·omega
theorem jqv {α:Type} {R:α->α->Prop} {l:List α} (h:l.Pairwise R) {i:Nat} {x:α} (m:i<l.length) (j:∀ y,R y l[i]->R y x) (k:∀ y,R l[i] y->R x y):(l.set i x).Pairwise R:=by
 rw [List.pairwise_iff_getElem] at h ⊢
 intro a b f g d
 rw [List.length_set] at f g
 rw [List.getElem_set,List.getElem_set]
 split
 ·rename_i e
  subst e
  split
  ·omega
  ·exact k _ (h _ _ f g d)
 ·split
  ·rename_i e
   subst e
   exact j _ (h _ _ f g d)
  ·exact h _ _ f g d
theorem jrK {c:List T} (d:j2z c=true) {i:Nat} (l:i<c.length) {t:T} (ht:j04 t=true) (f:t.1=c[i].1):j2z (c.set i t)=true:=by
 rw [j0h] at d ⊢
 obtain ⟨g,j,k⟩:=d
 refine ⟨by rw [List.length_set];exact g,λx b=> ?_,?_⟩
 ·rcases List.mem_or_eq_of_mem_set b with b | rfl
  ·exact j x b
  ·exact ht
 ·refine jqv k l (λy h=> ?_) (λy h=> ?_)
  ·rw [f];exact h
  ·rw [f];exact h
theorem joi {c:List T} (b:j2z c=true) (i:Nat):j2z (c.eraseIdx i)=true:=by
 rw [j0h] at b ⊢
 obtain ⟨h,d,f⟩:=b
 refine ⟨?_,λx g=>d x (List.mem_of_mem_eraseIdx g),f.sublist (List.eraseIdx_sublist _ _)⟩
 rw [List.length_eraseIdx]
 split<;>omega
theorem jq0 {d:D} (b:j1c d=true):d.1=1\/d.1=2\/3<=d.1:=by
 obtain ⟨_,h⟩:=j7m b
 rcases h with ⟨n,cs,ks,rfl,_⟩ | ⟨n,rfl⟩ | ⟨n,c,rfl,g⟩ | ⟨n,m,rfl,f⟩ | ⟨n,m,p,rfl,f,i⟩<;>simp
theorem jnu {c:List T} {d:D} (k:j2z c=true) (j:j1c d=true) (h:j0f c d=0):j2z (j1h c d)=true:=by
 have l:=(j0h c).1 k
 unfold j0f at h
 unfold j1h
 rcases jq0 j with f | f | f
 ·rw [f] at h ⊢
  rw [show ((1:Int)==1)=true from rfl,cond_true] at h ⊢
  cases g:decide (j07 c d.2.1<0)<;>rw [g] at h
  ·cases h
  ·cases b:c.length==6<;>rw [b] at h
   ·have p:c.length≠6:=by simpa using b
    have n:j04 (d.2.1,d.2.2.1,d.2.2.2.1)=true:=by
     unfold j1c at j
     rw [f] at j
     simp only [Bool.and_eq_true,beq_self_eq_true,cond_true] at j
     exact j.2.2.2
    exact joe k n (of_decide_eq_true g) (by omega)
   ·cases h
 ·rw [f] at h ⊢
  rw [show ((2:Int)==1)=false from rfl,show ((2:Int)==2)=true from rfl,cond_false,cond_true]
  exact joi k _
 ·rw [show (d.1==1)=false by simp;omega,cond_false] at h
  rw [show (d.1==1)=false by simp;omega,show (d.1==2)=false by simp;omega,cond_false,cond_false]
  cases g:decide (j07 c d.2.1<0)<;>rw [g] at h
  ·rcases j0J c d.2.1 with ⟨b,_⟩ | ⟨i,m,b,p⟩
   ·rw [b] at g;cases g
   ·rw [cond_false] at h
    rw [b,Zay _ _ _ m] at h
    rw [b,Zay _ _ _ m,Int.toNat_natCast]
    exact jrK k m (jsn (l.2.1 _ (List.getElem_mem _)) j f h) (jjm _ _)
  ·cases h
def jgx (t:T) (d:D) (l:List (List V)):List (List V):=
 bif d.1==3 then l.map (λr=>r++[(nth zC d.2.2.1 0).2.2.2.2]) else bif d.1==4 then l.map (λr=>r.eraseIdx (j03 t.2.1 d.2.2.2.2.1).toNat) else l
def jk5 (d:DB) (x:D):List (List (List V)):=
 bif x.1==1 then d.2.take (j07 (j1h d.1 x) x.2.1).toNat++[]::d.2.drop (j07 (j1h d.1 x) x.2.1).toNat
 else bif x.1==2 then d.2.eraseIdx (j07 d.1 x.2.1).toNat
 else d.2.set (j07 d.1 x.2.1).toNat (jgx (nth zT d.1 (j07 d.1 x.2.1)) x (nth [] d.2 (j07 d.1 x.2.1)))
abbrev zDB:DB:=([],[])
def j2q (d:DB) (s:ST):DB×Int:=
 bif decide (j07 d.1 s.2.1<0)&& !((s.1==5)&&(s.2.2.2.2.1==1)) then (zDB,4)
 else bif s.1==5 then (bif j0f d.1 s.2.2.2.2 != 0 then (zDB,10+j0f d.1 s.2.2.2.2) else ((j1h d.1 s.2.2.2.2,jk5 d s.2.2.2.2),0))
 else bif (j38 (nth zT d.1 (j07 d.1 s.2.1)) (nth [] d.2 (j07 d.1 s.2.1)) s).2 != 0 then (zDB,10+(j38 (nth zT d.1 (j07 d.1 s.2.1)) (nth [] d.2 (j07 d.1 s.2.1)) s).2)
 else ((d.1,d.2.set (j07 d.1 s.2.1).toNat (j38 (nth zT d.1 (j07 d.1 s.2.1)) (nth [] d.2 (j07 d.1 s.2.1)) s).1),0)
theorem ju7 {t:T} (ht:j04 t=true) {d:D} (j:j1c d=true) (k:3<=d.1) (f:j0B t d=0) {l:List (List V)} (w:j0a t l=true):j0a (jbg t d) (jgx t d l)=true:=by
 have g:=jsn ht j k f
 obtain ⟨_,h⟩:=j7m j
 rcases h with ⟨n,cs,ks,rfl,_⟩ | ⟨n,rfl⟩ | ⟨n,c,rfl,A⟩ | ⟨n,m,rfl,B⟩ | ⟨n,m,p,rfl,B,E⟩
 ·simp at k
 ·simp at k
 ·have q:(c.2.2.2.1|| !c.2.2.1)=true:=by
   unfold j1c at j
   rw [Bool.and_eq_true] at j
   have:=j.2
   simp only [show ((3:Int)==1)=false from rfl,show ((3:Int)==2)=false from rfl,show ((3:Int)==3)=true from rfl,cond_false,cond_true,Bool.and_eq_true] at this
   exact this.2.2.1
  show j0a (jlf t c) (l.map λr=>r++[c.2.2.2.2])=true
  exact jjJ _ w g (λr b=>ju4 b (jtk A q)) (λr b=>jt4 ht ((jaH _ _).1 b).1 _)
 ·change (bif decide (j03 t.2.1 m<0) then (7:Int) else bif t.2.2.any (λx=>sEq x m) then 8 else 0)=0 at f
  show j0a (ji8 t m) (l.map λr=>r.eraseIdx (j03 t.2.1 m).toNat)=true
  cases i:decide (j03 t.2.1 m<0)<;>rw [i] at f
  ·cases y:t.2.2.any λx=>sEq x m<;>rw [y] at f
   ·have C:=of_decide_eq_false i
    have z:j03 t.2.1 m=(((j03 t.2.1 m).toNat:Nat):Int):=by omega
    refine jjJ _ w g (λr b=> ?_) (λr b=>jtz ht z y ((jaH _ _).1 b).1)
    rw [(jnW ht z).2]
    exact juj b _
   ·cases f
  ·cases f
 ·change (bif !decide (j03 t.2.1 p<0) then (5:Int) else bif decide (j03 t.2.1 m<0) then 7 else 0)=0 at f
  show j0a (jfY t m p) l=true
  cases i:decide (j03 t.2.1 p<0)<;>rw [i] at f
  ·cases f
  ·have:=jjJ (t':=jfY t m p) id w g (λr b=>jtv b m p) (λr b=>jsL ht (of_decide_eq_true i) r)
   rw [List.map_id] at this
   exact this
theorem jry {c:List T} {l:List (List (List V))} (h:dbB (c,l)=true) {i:Nat} (n:i<c.length) {t:T} (p:t.1=c[i].1) {r:List (List V)} (m:j0a t r=true):dbB (c.set i t,l.set i r)=true:=by
 rw [j2c] at h ⊢
 obtain ⟨d,f,g⟩:=h
 dsimp only at d f g ⊢
 refine ⟨jrK d n ((j7g _ _).1 m).1 p,by rw [List.length_set,List.length_set];exact f,λj k b=> ?_⟩
 rw [List.getElem_set,List.getElem_set]
 split
 ·exact m
 ·rw [List.length_set] at k b
  exact g j k b
theorem jsr {c:List T} {l:List (List (List V))} (h:dbB (c,l)=true) (i:Nat):dbB (c.eraseIdx i,l.eraseIdx i)=true:=by
 rw [j2c] at h ⊢
 obtain ⟨d,f,b⟩:=h
 dsimp only at d f b ⊢
 refine ⟨joi d i,by rw [List.length_eraseIdx,List.length_eraseIdx,f],λj k g=> ?_⟩
 rw [List.getElem_eraseIdx,List.getElem_eraseIdx]
 split
 ·exact b _ _ _
 ·exact b _ _ _
theorem jtp (c:List T) (t:T):∃ i,i<=c.length/\lay tR t c=c.take i++t::c.drop i:=by
 refine ⟨(c.takeWhile λy=> !tR t y).length,?_,?_⟩
 ·have:=congrArg List.length (List.takeWhile_append_dropWhile (p:=λy=> !tR t y) (l:=c))
  rw [List.length_append] at this
  omega
 ·have d:=List.takeWhile_append_dropWhile (p:=λy=> !tR t y) (l:=c)
  unfold lay
  generalize c.takeWhile (λy=> !tR t y)=a at d ⊢
  generalize c.dropWhile (λy=> !tR t y)=b at d ⊢
  rw [<-d]
  simp
theorem jqn {c:List T} (h:j2z c=true) {t:T} (ht:j04 t=true) (k:j07 c t.1<0) (g:c.length<6):∃ i:Nat,i<=c.length/\j07 (lay tR t c) t.1=(i:Int)/\lay tR t c=c.take i++t::c.drop i:=by
 obtain ⟨i,f,d⟩:=jtp c t
 refine ⟨i,f,?_,d⟩
 have l:=((j0h _).1 (joe h ht k g)).2.2
 have b:i<(lay tR t c).length:=by rw [jnC];omega
 have j:(lay tR t c)[i]=t:=by
  simp only [d]
  rw [List.getElem_append_right (by rw [List.length_take];omega)]
  simp [List.length_take,Nat.min_eq_left f]
 have:=jg9 l b
 rw [j] at this
 exact this
theorem jrB {α:Type} (l:List α) {i:Nat} (g:i<=l.length) (x:α) (j:Nat) (f:j<(l.take i++x::l.drop i).length):(l.take i++x::l.drop i)[j]=if h:j<i then l[j] else if b:j=i then x else l[j-1]'(by simp at f;omega):=by
 have d:(l.take i).length=i:=by rw [List.length_take];omega
 by_cases h:j<i
 ·rw [dif_pos h,List.getElem_append_left (by omega),List.getElem_take]
 ·rw [dif_neg h]
  by_cases b:j=i
  ·subst b
   rw [dif_pos rfl,List.getElem_append_right (by omega)]
   simp [d]
  ·rw [dif_neg b]
   obtain ⟨m,rfl⟩:∃ m,j=i+1+m:=⟨j-i-1,by omega⟩
   rw [List.getElem_append_right (by omega)]
   simp only [d,show i+1+m-i=m+1 by omega,List.getElem_cons_succ,List.getElem_drop]
   congr 1
   omega
theorem jua {c:List T} {l:List (List (List V))} (h:dbB (c,l)=true) {i:Nat} (q:i<=c.length) {t:T} (ht:j04 t=true) (p:j2z (c.take i++t::c.drop i)=true):dbB (c.take i++t::c.drop i,l.take i++[]::l.drop i)=true:=by
 rw [j2c] at h ⊢
 obtain ⟨m,n,f⟩:=h
 dsimp only at m n f ⊢
 refine ⟨p,by simp only [List.length_append,List.length_cons,List.length_take,List.length_drop];omega,λj k g=> ?_⟩
 rw [jrB c q t j k,jrB l (by omega) [] j g]
 have r:j<c.length+1:=by
  simp only [List.length_append,List.length_cons,List.length_take,List.length_drop] at k
  omega
 by_cases b:j<i
 ·rw [dif_pos b,dif_pos b];exact f j (by omega) (by omega)
 ·rw [dif_neg b,dif_neg b]
  by_cases d:j=i
  ·rw [dif_pos d,dif_pos d];exact jou ht
  ·rw [dif_neg d,dif_neg d];exact f (j-1) (by omega) (by omega)
theorem jcs:dbB zDB=true:=(j2c _).2 ⟨(j0h _).2 ⟨by simp,by simp,List.Pairwise.nil⟩,rfl,λi b=>by simp at b⟩
theorem juc {d:DB} (h:dbB d=true) {s:ST} (I:stB s=true) (g:(j2q d s).2=0):dbB (j2q d s).1=true:=by
 obtain ⟨c,l⟩:=d
 have A:=(j2c _).1 h
 obtain ⟨p,E,B⟩:=A
 dsimp only at p E B
 unfold j2q at g ⊢
 dsimp only at g ⊢
 cases D:decide (j07 c s.2.1<0)&& !((s.1==5)&&(s.2.2.2.2.1==1))<;>rw [D] at g
 ·rw [cond_false] at g ⊢
  cases y:s.1==5<;>rw [y] at g
  ·rw [cond_false] at g ⊢
   rw [y,Bool.false_and,Bool.not_false,Bool.and_true,decide_eq_false_iff_not] at D
   rcases j0J c s.2.1 with ⟨e,_⟩ | ⟨i,k,e,C⟩
   ·omega
   rw [e,Zay _ _ _ k,Zay _ _ _ (by omega),Int.toNat_natCast] at g ⊢
   cases b:(j38 c[i] (l[i]'(by omega)) s).2 != 0<;>rw [b] at g
   ·rw [cond_false]
    have H:=jtI (t:=c[i]) (l:=l[i]'(by omega)) (s:=s) (((j0h _).1 p).2.1 _ (List.getElem_mem _)) (by simpa using b)
    have:=jry h k (t:=c[i]) rfl H
    rw [List.set_getElem_self] at this
    exact this
   ·exact jcs
  ·rw [cond_true] at g ⊢
   cases b:j0f c s.2.2.2.2 != 0<;>rw [b] at g
   ·rw [cond_false]
    have b:j0f c s.2.2.2.2=0:=by simpa using b
    have f:j1c s.2.2.2.2=true:=by
     obtain ⟨_,h⟩:=joy I
     rcases h with ⟨t,r,rfl,_⟩ | ⟨t,q,r,rfl,_⟩ | ⟨t,q,rfl,_⟩ | ⟨t,rfl⟩ | ⟨d,rfl,A⟩
     ·cases y
     ·cases y
     ·cases y
     ·cases y
     ·exact A
    have j:=jnu p f b
    generalize s.2.2.2.2=x at b f j ⊢
    unfold jk5
    dsimp only
    rcases jq0 f with m | m | m
    ·rw [m,show ((1:Int)==1)=true from rfl,cond_true]
     unfold j0f at b
     unfold j1h at j ⊢
     rw [m,show ((1:Int)==1)=true from rfl,cond_true] at b j ⊢
     cases w:decide (j07 c x.2.1<0)<;>rw [w] at b
     ·cases b
     ·cases n:c.length==6<;>rw [n] at b
      ·have G:c.length≠6:=by simpa using n
       have z:j04 (x.2.1,x.2.2.1,x.2.2.2.1)=true:=by
        unfold j1c at f
        rw [m] at f
        simp only [Bool.and_eq_true,beq_self_eq_true,cond_true] at f
        exact f.2.2.2
       have J:=((j0h _).1 p).1
       obtain ⟨i,k,F,C⟩:=jqn p z (of_decide_eq_true w) (by omega)
       rw [F,Int.toNat_natCast]
       rw [C] at j ⊢
       exact jua h k z j
      ·cases b
    ·rw [m,show ((2:Int)==1)=false from rfl,show ((2:Int)==2)=true from rfl,cond_false,cond_true]
     unfold j1h
     rw [m,show ((2:Int)==1)=false from rfl,show ((2:Int)==2)=true from rfl,cond_false,cond_true]
     exact jsr h _
    ·rw [show (x.1==1)=false by simp;omega,show (x.1==2)=false by simp;omega,cond_false,cond_false]
     unfold j0f at b
     rw [show (x.1==1)=false by simp;omega,cond_false] at b
     unfold j1h
     rw [show (x.1==1)=false by simp;omega,show (x.1==2)=false by simp;omega,cond_false,cond_false]
     cases w:decide (j07 c x.2.1<0)<;>rw [w] at b
     ·rcases j0J c x.2.1 with ⟨n,_⟩ | ⟨i,k,n,G⟩
      ·rw [n] at w;cases w
      ·rw [cond_false,n,Zay _ _ _ k] at b
       rw [n,Zay _ _ _ k,Zay _ _ _ (by omega),Int.toNat_natCast]
       exact jry h k (jjm _ _) (ju7 (((j0h _).1 p).2.1 _ (List.getElem_mem _)) f m b (B i k (by omega)))
     ·cases b
   ·exact jcs
 ·cases g
end
end Go.PI.G
namespace Go.PI.G
noncomputable section
open Go Go.PI
def j9F (i:Nat) (d:DB) (s:ST):Except (Int×Int) DB:=bif !stB s then .error (1,(i:Int)) else bif (j2q d s).2 != 0 then .error ((j2q d s).2,(i:Int)) else .ok (j2q d s).1
def j0b (d:DB) (l:List ST):DB×Int×Int:=bif !dbB d then (([],[]),1,0) else match Z1S j9F 0 l d with | .ok b=>(b,0,0) | .error e=>(([],[]),e.1,e.2)
theorem jlV {i:Nat} {d j:DB} {s:ST} (h:dbB d=true) (b:j9F i d s= .ok j):dbB j=true:=by
 unfold j9F at b
 cases f:stB s
 ·rw [f] at b;cases b
 ·rw [f,Bool.not_true,cond_false] at b
  cases g:((j2q d s).2 != 0)
  ·rw [g,cond_false] at b
   cases b
   exact juc h f (by simpa using g)
  ·rw [g,cond_true] at b;cases b
theorem jr8 {d:DB} {l:List ST} (h:(j0b d l).2.1=0):dbB (j0b d l).1=true:=by
 unfold j0b at h ⊢
 cases g:dbB d
 ·rw [g] at h;cases h
 rw [g,Bool.not_true,cond_false] at h
 rw [Bool.not_true,cond_false]
 cases k:Z1S j9F 0 l d with
 | ok q=>exact Z91 (λ_ a=>dbB a=true) l 0 d q g (λj x a p _ r b=>jlV r b) k
 | error e=>
  rw [k] at h
  exfalso
  have h:e.1=0:=h
  have m:∀ (l:List ST) (i:Nat) (a:DB) (e:Int×Int),Z1S j9F i l a= .error e->e.1≠0:=by
   intro l
   induction l with
   | nil=>intro i a e h;simp [Z1S] at h
   | cons x l y=>
    intro i a e h
    simp only [Z1S] at h
    cases b:j9F i a x with
    | ok p=>rw [b] at h;exact y _ _ _ h
    | error z=>
     rw [b] at h
     cases h
     unfold j9F at b
     cases n:stB x
     ·rw [n] at b;cases b;exact λw=>absurd (show (1:Int)=0 from w) (by decide)
     ·rw [n,Bool.not_true,cond_false] at b
      cases f:((j2q a x).2 != 0)
      ·rw [f] at b;cases b
      ·rw [f] at b
       cases b
       simpa using f
  exact m l 0 d e k h
abbrev RC:=Int×Int×ST
abbrev yRC:Ty:= .pair (.int .i64) (.pair (.int .i64) yST)
def jll (s:ST):Bool:=(s.1==0)&&(sEq s.2.1 eS&&((s.2.2.1.length==0)&&((s.2.2.2.1.length==0)&&noD s.2.2.2.2)))
theorem jtx (s:ST):jll s=true↔s=zST:=by
 obtain ⟨a,b,c,e,d⟩:=s
 unfold jll
 simp only [Bool.and_eq_true,beq_iff_eq,j0e,Prod.mk.injEq,List.length_eq_zero_iff,jhl]
def j3P (r:RC):Bool:=decide (1<=r.1/\r.1<=4)&&(decide (1<=r.2.1/\r.2.1<=1000000)&&(bif r.1==2 then stB r.2.2 else jll r.2.2))
theorem jia {r:RC} (h:j3P r=true):(1<=r.1/\r.1<=4)/\(1<=r.2.1/\r.2.1<=1000000)/\((r.1=2/\stB r.2.2=true)\/(r.1≠2/\r.2.2=zST)):=by
 unfold j3P at h
 rw [Bool.and_eq_true,Bool.and_eq_true,decide_eq_true_eq,decide_eq_true_eq] at h
 refine ⟨h.1,h.2.1,?_⟩
 have b:=h.2.2
 cases d:r.1==2
 ·rw [d,cond_false] at b
  exact .inr ⟨by simpa using d,(jtx _).1 b⟩
 ·rw [d,cond_true] at b
  exact .inl ⟨by simpa using d,b⟩
def j1b (l:List RC) (x:Int):Bool:=l.any λr=>(r.1==1)&&(r.2.1==x)
def j1i (l:List Int) (n:Int):Bool:=l.any λx=>x==n
def j6c (o:List Int) (r:RC):List Int:=
 bif r.1==1 then (bif j1i o r.2.1 then o else o++[r.2.1]) else bif (r.1==3)||(r.1==4) then o.filter (λy=> !(y==r.2.1)) else o
def j0o (l:List RC):List Int:=l.foldl j6c []
def j60 (l:List RC):List Int:=(l.filter λr=>r.1==1).map λr=>r.2.1
def jk3 (x:Int) (_:Int) (r:RC):List ST:=bif (r.1==2)&&(r.2.1==x) then [r.2.2] else []
def j0D (l:List RC) (x:Int):List ST:=Z4r (jk3 x) 0 l
def j37 (p:List RC) (d:DB) (r:RC):Except Unit DB:=
 bif !j3P r then .error () else
 bif r.1==1 then (bif j1b p r.2.1 then .error () else .ok d) else
 bif !j1i (j0o p) r.2.1 then .error () else
 bif r.1==3 then (bif (j0b d (j0D p r.2.1)).2.1 != 0 then .error () else .ok (j0b d (j0D p r.2.1)).1) else .ok d
def j1T (d:DB) (l:List RC):Except Unit DB:=Z1S (λi d r=>j37 (l.take i) d r) 0 l d
def jto {A E:Type} (r:Except E A):Bool:=match r with
 | .ok _=>true
 | .error _=>false
def jux (r:Except Unit DB):DB:=match r with
 | .ok d=>d
 | .error _=>zDB
def j2p (l:List RC):Bool:=decide (l.length<=400)&&jto (j1T zDB l)
theorem joE {α A E:Type} (f:Nat->A->α->Except E A):(l m:List α)->(i:Nat)->(a:A)->Z1S f i (l++m) a=match Z1S f i l a with | .ok b=>Z1S f (i+l.length) m b | .error e=> .error e
 | [],m,i,a=>rfl
 | x::l,m,i,a=>by
  simp only [List.cons_append,Z1S]
  cases f i a x with
  | ok b=>
   dsimp only
   rw [joE f l m (i+1) b,List.length_cons,show i+1+l.length=i+(l.length+1) by omega]
  | error e=>rfl
theorem jl6 {α A E:Type} {f g:Nat->A->α->Except E A}:(l:List α)->(i:Nat)->(∀ j a,(h:j<l.length)->f (i+j) a l[j]=g (i+j) a l[j])->∀ a,Z1S f i l a=Z1S g i l a
 | [],i,h,a=>rfl
 | x::l,i,h,a=>by
  have k:=h 0 a (Nat.succ_pos _)
  simp only [Z1S]
  rw [show f i a x=g i a x from k]
  cases g i a x with
  | ok d=>
   refine jl6 l (i+1) (λj b m=> ?_) d
   have:=h (j+1) b (Nat.succ_lt_succ m)
   rw [show i+(j+1)=i+1+j by omega] at this
   exact this
  | error e=>rfl
theorem jon (d:DB) (l:List RC) (r:RC):j1T d (l++[r])=match j1T d l with | .ok b=>j37 l b r | .error e=> .error e:=by
 unfold j1T
 rw [joE,jl6 (g:=λi d r=>j37 (l.take i) d r) l 0 (λj a h=>by
  rw [Nat.zero_add,List.take_append_of_le_length (Nat.le_of_lt h)])]
 cases Z1S (λi d r=>j37 (l.take i) d r) 0 l d with
 | error e=>rfl
 | ok b=>
  simp only [Z1S,Nat.zero_add]
  rw [List.take_left' rfl]
  cases j37 l b r<;>rfl
theorem joo (d:DB) (l:List RC) (i:Nat) (f:i<l.length):j1T d (l.take (i+1))=match j1T d (l.take i) with | .ok b=>j37 (l.take i) b l[i] | .error e=> .error e:=by
 rw [List.take_succ_eq_append_getElem f,jon]
theorem jtA {d i:DB} {l:List RC} (h:j1T d l= .ok i) (n:Nat):∃ b,j1T d (l.take n)= .ok b:=by
 have g:∀ (m k:Nat),k+m=l.length->∃ b,j1T d (l.take k)= .ok b:=by
  intro m
  induction m with
  | zero=>intro k q;rw [List.take_of_length_le (by omega)];exact ⟨i,h⟩
  | succ m w=>
   intro k q
   obtain ⟨b,f⟩:=w (k+1) (by omega)
   rw [joo d l k (by omega)] at f
   cases r:j1T d (l.take k) with
   | ok p=>exact ⟨p,rfl⟩
   | error e=>rw [r] at f;cases f
 rcases Nat.lt_or_ge n l.length with j | j
 ·exact g (l.length-n) n (by omega)
 ·exact g 0 l.length (by omega) |>.elim λb f=>⟨b,by rw [List.take_of_length_le j];rw [List.take_of_length_le (Nat.le_refl _)] at f;exact f⟩
theorem ji9 {p:List RC} {d f:DB} {r:RC} (i:dbB d=true) (h:j37 p d r= .ok f):dbB f=true:=by
 unfold j37 at h
 cases j:j3P r<;>rw [j] at h
 ·cases h
 rw [Bool.not_true,cond_false] at h
 cases k:r.1==1<;>rw [k] at h
 ·rw [cond_false] at h
  cases b:j1i (j0o p) r.2.1<;>rw [b] at h
  ·cases h
  rw [Bool.not_true,cond_false] at h
  cases l:r.1==3<;>rw [l] at h
  ·cases h;exact i
  ·rw [cond_true] at h
   cases g:(j0b d (j0D p r.2.1)).2.1 != 0<;>rw [g] at h
   ·cases h;exact jr8 (by simpa using g)
   ·cases h
 ·rw [cond_true] at h
  cases b:j1b p r.2.1<;>rw [b] at h
  ·cases h;exact i
  ·cases h
theorem jul {d b:DB} {l:List RC} (g:dbB d=true) (h:j1T d l= .ok b):dbB b=true:=
 Z91 (λ_ a=>dbB a=true) l 0 d b g (λj x a k _ f i=>ji9 f i) h
theorem jf6 (l:List RC):j2p l=true↔l.length<=400/\∃ d,j1T zDB l= .ok d:=by
 unfold j2p
 rw [Bool.and_eq_true,decide_eq_true_eq]
 cases j1T zDB l with
 | ok d=>simp [jto]
 | error e=>simp [jto]
theorem jtr {l:List RC} (h:j2p l=true) (n:Nat):∃ d,j1T zDB (l.take n)= .ok d/\dbB d=true:=by
 obtain ⟨_,d,g⟩:=(jf6 l).1 h
 obtain ⟨f,b⟩:=jtA g n
 exact ⟨f,b,jul jcs b⟩
theorem jmI (l:List RC) (r:RC):j0o (l++[r])=j6c (j0o l) r:=by
 unfold j0o
 rw [List.foldl_append]
 rfl
theorem jsf (l:List RC) (r:RC) (x:Int):j1b (l++[r]) x=(j1b l x||((r.1==1)&&(r.2.1==x))):=by
 unfold j1b
 rw [List.any_append]
 simp
theorem jse (l:List RC) (r:RC):j60 (l++[r])=bif r.1==1 then j60 l++[r.2.1] else j60 l:=by
 unfold j60
 rw [List.filter_append,List.map_append]
 cases h:r.1==1
 ·rw [List.filter_cons_of_neg (by rw [h];simp),List.filter_nil,List.map_nil,List.append_nil,cond_false]
 ·rw [List.filter_cons_of_pos (p:=λr:RC=>r.1==1) h,List.filter_nil,cond_true]
  rfl
theorem joC (l:List RC) (x:Int):j1i (j60 l) x=j1b l x:=by
 unfold j1i j60 j1b
 rw [List.any_map,List.any_filter]
 rfl
theorem joD (l:List RC):(j60 l).length<=l.length:=by
 unfold j60
 rw [List.length_map]
 exact List.length_filter_le _ _
theorem jtm (a:List Int) (y x:Int):j1i (a++[y]) x=(j1i a x||(y==x)):=by
 unfold j1i
 rw [List.any_append]
 simp
theorem jsM (x:Int):(n:Nat)->(l:List RC)->l.length=n->j1i (j0o l) x=true->j1b l x=true:=by
 intro n
 induction n with
 | zero=>
  intro l f h
  have:l=[]:=List.length_eq_zero_iff.1 f
  subst this
  exact absurd h (by unfold j0o j1i;simp)
 | succ n i=>
  intro l f h
  have d:l≠[]:=λe=>by rw [e] at f;simp at f
  have e:l=l.dropLast++[l.getLast d]:=(List.dropLast_concat_getLast d).symm
  generalize p:l.dropLast=m at e
  generalize l.getLast d=r at e
  have b:m.length=n:=by rw [<-p,List.length_dropLast];omega
  subst e
  rw [jmI] at h
  rw [jsf,Bool.or_eq_true]
  unfold j6c at h
  cases k:r.1==1<;>rw [k] at h
  ·rw [cond_false] at h
   refine .inl (i m b ?_)
   cases g:(r.1==3)||(r.1==4)<;>rw [g] at h
   ·exact h
   ·rw [cond_true] at h
    unfold j1i at h ⊢
    rw [List.any_filter] at h
    obtain ⟨y,q,j⟩:=List.any_eq_true.1 h
    exact List.any_eq_true.2 ⟨y,q,(by rw [Bool.and_eq_true] at j;exact j.2)⟩
  ·rw [cond_true] at h
   cases g:j1i (j0o m) r.2.1<;>rw [g] at h
   ·rw [cond_false,jtm,Bool.or_eq_true] at h
    rcases h with h | h
    ·exact .inl (i m b h)
    ·exact .inr (by rw [h];rfl)
   ·exact .inl (i m b h)
theorem jmJ {l:List RC} {x:Int} (h:j1b l x=false):j1i (j0o l) x=false:=by
 cases b:j1i (j0o l) x
 ·rfl
 ·rw [jsM x _ l rfl b] at h;cases h
theorem jjz (o:List Int) (r:RC):(j6c o r).length<=o.length+1:=by
 unfold j6c
 cases r.1==1
 ·cases (r.1==3)||(r.1==4)
  ·exact Nat.le_succ _
  ·exact Nat.le_succ_of_le (List.length_filter_le _ _)
 ·cases j1i o r.2.1
  ·show (o++[r.2.1]).length<=_;simp
  ·exact Nat.le_succ _
theorem jhe:(l:List RC)->(o:List Int)->(l.foldl j6c o).length<=o.length+l.length
 | [],o=>Nat.le_refl _
 | r::l,o=>by
  have b:=jhe l (j6c o r)
  have d:=jjz o r
  rw [List.foldl_cons,List.length_cons]
  omega
theorem jdk (l:List RC):(j0o l).length<=l.length:=by
 have:=jhe l []
 simpa [j0o] using this
theorem jlW (x i:Int) (r:RC):(jk3 x i r).length<=1:=by
 unfold jk3
 cases (r.1==2)&&(r.2.1==x)
 ·exact Nat.zero_le _
 ·exact Nat.le_refl _
theorem jeo (l:List RC) (x:Int):(j0D l x).length<=l.length:=Z94 _ (jlW x) 0 l
theorem joa {α β:Type} {g:Int->α->List β} {P:β->Prop}:(j:Nat)->(l:List α)->(h:∀ i,∀ x∈l,∀ y∈g i x,P y)->∀ y∈Z4r g j l,P y
 | _,[],h,y,b=>by cases b
 | j,x::l,h,y,b=>by
  rcases List.mem_append.1 b with b | b
  ·exact h _ x (by simp) y b
  ·exact joa (j+1) l (λi x d=>h i x (List.mem_cons_of_mem _ d)) y b
theorem jsd {l:List RC} {x:Int} {s:ST} (f:s∈j0D l x):∃ r∈l,s=r.2.2:=
 joa (P:=λs=>∃ r∈l,s=r.2.2) 0 l (λi r d y b=>by
  unfold jk3 at b
  cases h:(r.1==2)&&(r.2.1==x)<;>rw [h] at b
  ·cases b
  ·exact ⟨r,d,by simpa using b⟩) s f
end
end Go.PI.G
set_option linter.unusedSimpArgs false
namespace Go.PI.G
open Go Go.PI Go.Proofs
theorem jrt (s:ST) (k:Bool->Res):j7b s k=k (jll s):=by
 unfold j7b jll
 rw [j46,j46,jn6]
 cases s.1==0
 ·rfl
 ·cases sEq s.2.1 eS
  ·rfl
  ·cases s.2.2.1.length==0
   ·rfl
   ·cases s.2.2.2.1.length==0<;>rfl
theorem jri (s:ST) (k:Bool->Res):j7O s k=k (jll s):=by
 unfold j7O jll
 rw [j46,j46,jmj]
 cases s.1==0
 ·rfl
 ·cases sEq s.2.1 eS
  ·rfl
  ·cases s.2.2.1.length==0
   ·rfl
   ·cases s.2.2.2.1.length==0<;>rfl
theorem jn7 (r:RC) (h:j0t r.2.2) (k:Bool->Res):j5U r k=k (j3P r):=by
 unfold j5U jau j3P
 by_cases d:1<=r.1/\r.1<=4
 ·rw [decide_eq_false (show ¬ r.1<1 by omega),cond_false,decide_eq_false (show ¬ r.1>4 by omega),cond_false,decide_eq_true d,Bool.true_and]
  by_cases f:1<=r.2.1/\r.2.1<=1000000
  ·rw [decide_eq_false (show ¬ r.2.1<1 by omega),cond_false,decide_eq_false (show ¬ r.2.1>1000000 by omega),decide_eq_true f,Bool.true_and]
   dsimp only
   rw [cond_false,jk0 _ h,jrt]
   cases r.1==2<;>rfl
  ·rw [decide_eq_false f]
   by_cases b:r.2.1<1
   ·rw [decide_eq_true b];rfl
   ·rw [decide_eq_false b,decide_eq_true (show r.2.1>1000000 by omega)];rfl
 ·rw [decide_eq_false d]
  by_cases b:r.1<1
  ·rw [decide_eq_true b];rfl
  ·rw [decide_eq_false b,decide_eq_true (show r.1>4 by omega)];rfl
theorem jhR (r:RC) (h:j0t r.2.2) (k:Bool->Res):j2K r k=k (j3P r):=by
 unfold j2K j3P
 rw [j7k,j7k]
 cases decide (1<=r.1/\r.1<=4)
 ·rfl
 ·cases decide (1<=r.2.1/\r.2.1<=1000000)
  ·rfl
  ·rw [Bool.not_true,cond_false,cond_false,joj _ h,jri]
   cases r.1==2<;>rfl
end Go.PI.G
namespace Go.PI.G
open Go Go.PI Go.Proofs
theorem jrs (a b:V) (k:Bool->Res):j98 a b k=k (vlt a b):=by
 unfold j98 vlt
 rw [j9A,j9A]
 cases j0u a
 ·rfl
 ·cases j0u b
  ·rfl
  ·rw [Bool.not_true,cond_false,cond_false,Bool.true_and,Bool.true_and]
   cases a.1 != b.1
   ·rw [cond_false,cond_false]
    by_cases h:a.2.1=b.2.1
    ·rw [h,ZaO,cond_false,decide_eq_false (by omega),cond_false,beq_self_eq_true,cond_true]
    ·have d:(a.2.1 != b.2.1)=true:=by simp [h]
     have f:(a.2.1==b.2.1)=false:=by simp [h]
     rw [d,f,cond_true,cond_false]
     cases decide (a.2.1<b.2.1)<;>rfl
   ·rfl
theorem jrh (a b:V) (k:Bool->Res):j8L a b k=k (vlt a b):=by
 unfold j8L vlt
 rw [j9m,j9m]
 cases j0u a
 ·rfl
 ·cases j0u b
  ·rfl
  ·rw [Bool.not_true,cond_false,cond_false,Bool.true_and,Bool.true_and]
   cases a.1 != b.1
   ·rw [cond_false,cond_false]
    cases a.2.1 != b.2.1<;>rfl
   ·rfl
end Go.PI.G
