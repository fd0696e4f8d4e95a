/-
  Program's code interpreted over typed values; printed texts; plain laws. No conditions.
-/
import Derived.Test.YtiieddiheadocaaGreatUi
import Derived.Test.YtiieddiheadocaaGreatUe
import Derived.Test.YtiieddiheadocaaGreatUb
import Derived.Test.YtiieddiheadocaaGreatUc
set_option linter.unusedVariables false
namespace Go.PI.G
open Go Go.PI
def j39 (b:Int):List Int->List Int->List (List Int)
 | pre,[]=>[pre]
 | pre,x::xs=>if x=b then pre::j39 b [] xs else j39 b (pre++[x]) xs
def tlJ (b:Int):List (List Int)->List Int
 | []=>[]
 | w::ws=>b::(w++tlJ b ws)
def jjp (b:Int):List (List Int)->List Int
 | []=>[]
 | w::ws=>w++tlJ b ws
theorem jik (b:Int):(l pre:List Int)->∃ w ws,j39 b pre l=w::ws
 | [],pre=>⟨pre,[],rfl⟩
 | x::xs,pre=>by
  simp only [j39]
  by_cases h:x=b
  ·rw [if_pos h];exact ⟨_,_,rfl⟩
  ·rw [if_neg h];exact jik b xs _
theorem jlO (b:Int):(l pre:List Int)->jjp b (j39 b pre l)=pre++l
 | [],pre=>by simp [j39,jjp,tlJ]
 | x::xs,pre=>by
  simp only [j39]
  by_cases h:x=b
  ·rw [if_pos h]
   have ih:=jlO b xs []
   obtain ⟨w,ws,hw⟩:=jik b xs []
   rw [hw] at ih ⊢
   simp only [jjp,tlJ,List.nil_append] at ih ⊢
   rw [ih,h]
  ·rw [if_neg h,jlO b xs];simp
theorem joE (b:Int) (r:List Int):(w pre:List Int)->b ∉ w->j39 b pre (w++r)=j39 b (pre++w) r
 | [],pre,_=>by simp
 | x::w,pre,h=>by
  have hx:x≠b:=λe=>h (by rw [e];simp)
  simp only [List.cons_append,j39]
  rw [if_neg hx,joE b r w _ λhm=>h (List.mem_cons_of_mem _ hm)]
  simp
theorem jqM (b:Int):(ws:List (List Int))->(w pre:List Int)->b ∉ w->(∀ v∈ws,b ∉ v)->j39 b pre (w++tlJ b ws)=(pre++w)::ws
 | [],w,pre,h,_=>by
  have:=joE b [] w pre h
  simp only [List.append_nil] at this
  simp only [tlJ,List.append_nil,this,j39]
 | v::vs,w,pre,h,hv=>by
  rw [joE b _ w pre h]
  simp only [tlJ,j39,if_pos]
  rw [jqM b vs v [] (hv v (by simp)) λu hu=>hv u (List.mem_cons_of_mem _ hu)]
  simp
theorem joD (b:Int):(l pre:List Int)->(j39 b pre l).length<=l.length+1
 | [],pre=>by simp [j39]
 | x::xs,pre=>by
  simp only [j39]
  by_cases hx:x=b
  ·rw [if_pos hx]
   have:=joD b xs []
   simp only [List.length_cons];omega
  ·rw [if_neg hx]
   have:=joD b xs (pre++[x])
   simp only [List.length_cons];omega
theorem jl0 (b:Int):(l pre:List Int)->∀ w∈j39 b pre l,w.length<=pre.length+l.length
 | [],pre,w,hw=>by
  simp only [j39,List.mem_singleton] at hw
  subst hw;simp
 | x::xs,pre,w,hw=>by
  simp only [j39] at hw
  by_cases hx:x=b
  ·rw [if_pos hx] at hw
   rcases List.mem_cons.1 hw with rfl | hw
   ·simp
   ·have:=jl0 b xs [] w hw
    simp only [List.length_nil,List.length_cons] at this ⊢;omega
  ·rw [if_neg hx] at hw
   have:=jl0 b xs (pre++[x]) w hw
   rw [List.length_append] at this
   simp only [List.length_cons,List.length_nil] at this ⊢;omega
theorem joC (b:Int):(l pre:List Int)->isB pre->isB l->∀ w∈j39 b pre l,isB w
 | [],pre,h,_,w,hw=>by
  simp only [j39,List.mem_singleton] at hw
  subst hw;exact h
 | x::xs,pre,h,hl,w,hw=>by
  simp only [j39] at hw
  have hx':isB xs:=λy hy=>hl y (List.mem_cons_of_mem _ hy)
  by_cases hx:x=b
  ·rw [if_pos hx] at hw
   rcases List.mem_cons.1 hw with rfl | hw
   ·exact h
   ·exact joC b xs [] jc3 hx' w hw
  ·rw [if_neg hx] at hw
   exact joC b xs _ (jh7 h (jae (hl x (by simp)) jc3)) hx' w hw
theorem j0l (a b:ByteArray):Z19 (a++b)=Z19 a++Z19 b:=by
 unfold Z19
 have:(a++b).data=a.data++b.data:=ByteArray.data_append
 rw [this]
 simp
theorem j0R {a b:ByteArray} (h:Z19 a=Z19 b):a=b:=by
 rw [<-j4q a,h,j4q]
def spB:ByteArray:=⟨#[32]⟩
def tlB:List ByteArray->ByteArray
 | []=>eS
 | w::ws=>spB++(w++tlB ws)
def j02:List ByteArray->ByteArray
 | []=>eS
 | w::ws=>w++tlB ws
theorem jkK:(ws:List ByteArray)->Z19 (tlB ws)=tlJ 32 (ws.map Z19)
 | []=>rfl
 | w::ws=>by
  simp only [tlB,List.map_cons,tlJ]
  rw [j0l,j0l,jkK ws];rfl
theorem ji0 (ws:List ByteArray):Z19 (j02 ws)=jjp 32 (ws.map Z19):=by
 cases ws with
 | nil=>rfl
 | cons w ws=>
  simp only [j02,List.map_cons,jjp]
  rw [j0l,jkK]
theorem j89:(u v:List ByteArray)->tlB (u++v)=tlB u++tlB v
 | [],v=>(jn9 _).symm
 | w::u,v=>by
  simp only [List.cons_append,tlB]
  rw [j89 u v,ByteArray.append_assoc,ByteArray.append_assoc]
theorem jph (w:ByteArray) (u v:List ByteArray):j02 (w::(u++v))=j02 (w::u)++tlB v:=by
 simp only [j02]
 rw [j89,ByteArray.append_assoc]
theorem jaN {u:List ByteArray} (h:u≠[]):spB++j02 u=tlB u:=by
 cases u with
 | nil=>exact absurd rfl h
 | cons w u=>rfl
def j08 (b:Int) (s:ByteArray):List ByteArray:=(j39 b [] (Z19 s)).map Z2X
def free (b:Int) (s:ByteArray):Prop:=b ∉ Z19 s
theorem jhe (b:Int) (s:ByteArray):∃ w ws,j08 b s=w::ws:=by
 obtain ⟨w,ws,h⟩:=jik b (Z19 s) []
 exact ⟨Z2X w,ws.map Z2X,by unfold j08;rw [h];rfl⟩
theorem jrm {l:List (List Int)} (h:∀ w∈l,isB w):(l.map Z2X).map Z19=l:=by
 rw [List.map_map]
 have:l.map (Z19 ∘ Z2X)=l.map id:=List.map_congr_left λw hw=>by
  simp only [Function.comp,id]
  exact j9S (h w hw)
 rw [this,List.map_id]
theorem jrl (l:List ByteArray):(l.map Z19).map Z2X=l:=by
 rw [List.map_map]
 have:l.map (Z2X ∘ Z19)=l.map id:=List.map_congr_left λw _=>by
  simp only [Function.comp,id]
  exact j4q w
 rw [this,List.map_id]
theorem jq3 (b:Int) (s:ByteArray):(j08 b s).map Z19=j39 b [] (Z19 s):=
 jrm (joC b _ _ jc3 (j9h s))
theorem jaG (s:ByteArray):j02 (j08 32 s)=s:=by
 apply j0R
 rw [ji0,jq3,jlO]
 rfl
theorem js0 {w:ByteArray} {ws:List ByteArray} (h:∀ v∈w::ws,free 32 v):j08 32 (j02 (w::ws))=w::ws:=by
 unfold j08
 rw [ji0]
 simp only [List.map_cons,jjp]
 rw [jqM 32 (ws.map Z19) (Z19 w) [] (h w (by simp)) λv hv=>by
  obtain ⟨u,hu,rfl⟩:=List.mem_map.1 hv
  exact h u (List.mem_cons_of_mem _ hu)]
 rw [List.nil_append,List.map_cons,jrl,j4q]
theorem j4d (b:Int) (s:ByteArray):(j08 b s).length<=s.size+1:=by
 unfold j08
 rw [List.length_map]
 have:=joD b (Z19 s) []
 rw [j0d] at this
 exact this
theorem j3k (b:Int) (s:ByteArray):∀ w∈j08 b s,w.size<=s.size:=λw hw=>by
 obtain ⟨u,hu,rfl⟩:=List.mem_map.1 hw
 rw [jiW]
 have:=jl0 b (Z19 s) [] u hu
 rw [j0d] at this
 simpa using this
theorem jjq {w:ByteArray} {ws:List ByteArray} (h:∀ v∈w::ws,free 32 v) (s:ByteArray):j02 (w::ws)=s↔j08 32 s=w::ws:=by
 constructor
 ·rintro rfl;exact js0 h
 ·intro hp
  rw [<-hp,jaG]
theorem j9a (b:Int) (s:ByteArray) (h:(Z19 s).all (λx=>x != b)=true):free b s:=λhm=>by
 have:=List.all_eq_true.1 h b hm
 simp at this
theorem jsV {b:Int} {s t:ByteArray} (hs:free b s) (ht:free b t):free b (s++t):=by
 unfold free at *
 rw [j0l,List.mem_append,not_or]
 exact ⟨hs,ht⟩
theorem jhs {s:ByteArray} (h:j0Y s=true) {b:Int} (hb:b<97):free b s:=λhm=>by
 unfold j0Y at h
 rw [Bool.and_eq_true,Bool.not_eq_true',List.any_eq_false] at h
 have:=h.1 b hm
 simp only [Bool.or_eq_true,decide_eq_true_eq,not_or] at this
 omega
theorem j0n {s:ByteArray} (h:j0Y s=true):1<=s.size/\s.size<=8:=by
 unfold j0Y at h
 simp only [Bool.and_eq_true,decide_eq_true_eq] at h
 exact h.2
theorem jg1 (s:ByteArray) (i j:Nat):Z19 (s.extract i j)=((Z19 s).take j).drop i:=by
 unfold Z19
 rw [ByteArray.data_extract,Array.toList_extract]
 simp only [List.extract_eq_take_drop,List.map_take,List.map_drop]
 rw [List.drop_take]
theorem jr3 {l:List Int} {from_ i:Nat} (h:from_<=i) (hi:i<l.length):(l.take (i+1)).drop from_=(l.take i).drop from_++[l[i]]:=by
 rw [List.take_succ_eq_append_getElem hi,List.drop_append_of_le_length (by rw [List.length_take];omega)]
theorem jrB (l:List Int) (i:Nat):(l.take i).drop i=[]:=by
 rw [List.drop_eq_nil_of_le];rw [List.length_take];omega
end Go.PI.G
namespace Go.PI.G
open Go Go.PI
abbrev D:=Int×ByteArray×List C×List ByteArray×ByteArray×ByteArray
abbrev ST:=Int×ByteArray×List V×List V×D
abbrev yD:Ty:= .pair (.int .i64) (.pair .str (.pair (.slice yC) (.pair (.slice .str) (.pair .str .str))))
abbrev yST:Ty:= .pair (.int .i64) (.pair .str (.pair (.slice yV) (.pair (.slice yV) yD)))
abbrev zD:D:=(0,eS,[],[],eS,eS)
abbrev zST:ST:=(0,eS,[],[],0,eS,[],[],eS,eS)
theorem jkS:∃ m,Z0Y=m+1:=⟨Z0Y-1,by have:=Z1O (n:=1) (by omega);omega⟩
theorem j5q (n:Nat):(nI n==0)=(n==0):=by
 unfold nI
 cases n with
 | zero=>rfl
 | succ n=>show ((((n+1:Nat):Int))==0)=false;simp;omega
theorem jss (n:Nat):(nI n==1)=(n==1):=by
 unfold nI
 by_cases h:n=1
 ·subst h;rfl
 ·have h1:(n==1)=false:=by simp [h]
  have h2:((n:Int)==1)=false:=by simp;omega
  rw [h1,h2]
theorem jrV (m n:Nat):(nI m != nI n)= !(m==n):=by
 unfold nI
 by_cases h:m=n
 ·subst h;simp
 ·have h1:(m==n)=false:=by simp [h]
  have h2:((m:Int) != n)=true:=by simp;omega
  rw [h1,h2];rfl
def noD (d:D):Bool:=(d.1==0)&&(sEq d.2.1 eS&&((d.2.2.1.length==0)&&((d.2.2.2.1.length==0)&&(sEq d.2.2.2.2.1 eS&&sEq d.2.2.2.2.2 eS))))
def jdU (d:D):Bool:=(d.2.2.1.length==0)&&(d.2.2.2.1.length==0)
def j26 (d:D):Bool:=j0Y d.2.1 &&
 (bif d.1==1 then sEq d.2.2.2.2.1 eS&&(sEq d.2.2.2.2.2 eS&&jfa (d.2.1,d.2.2.1,d.2.2.2.1))
  else bif d.1==2 then jdU d&&(sEq d.2.2.2.2.1 eS&&sEq d.2.2.2.2.2 eS)
  else bif d.1==3 then (d.2.2.1.length==1)&&(j1G (nth zC d.2.2.1 0)&&(((nth zC d.2.2.1 0).2.2.2.1|| !(nth zC d.2.2.1 0).2.2.1)&&((d.2.2.2.1.length==0)&&(sEq d.2.2.2.2.1 eS&&sEq d.2.2.2.2.2 eS))))
  else bif d.1==4 then jdU d&&(j0Y d.2.2.2.2.1&&sEq d.2.2.2.2.2 eS)
  else bif d.1==5 then jdU d&&(j0Y d.2.2.2.2.1&&j0Y d.2.2.2.2.2)
  else false)
def j1Z (l:List V):Bool:=l.all j0w&&(decide (1<=l.length)&&decide (l.length<=8))
def stB (s:ST):Bool:=j0Y s.2.1 &&
 (bif s.1==1 then (s.2.2.1.length==0)&&(j1Z s.2.2.2.1&&noD s.2.2.2.2)
  else bif s.1==2 then j1Z s.2.2.1&&(j1Z s.2.2.2.1&&noD s.2.2.2.2)
  else bif s.1==3 then j1Z s.2.2.1&&((s.2.2.2.1.length==0)&&noD s.2.2.2.2)
  else bif s.1==4 then (s.2.2.1.length==0)&&((s.2.2.2.1.length==0)&&noD s.2.2.2.2)
  else bif s.1==5 then (s.2.2.1.length==0)&&((s.2.2.2.1.length==0)&&(j26 s.2.2.2.2&&sEq s.2.2.2.2.2.1 s.2.1))
  else false)
def dSm (d:D):Prop:=d.2.1.size<=1048576/\d.2.2.1.length<=1048576/\d.2.2.2.1.length<=1048576/\(∀ c∈d.2.2.1,c.1.size<=1048576)/\(∀ x∈d.2.2.2.1,x.size<=1048576)/\d.2.2.2.2.1.size<=1048576/\d.2.2.2.2.2.size<=1048576
def j2G (s:ST):Prop:=s.2.1.size<=1048576/\s.2.2.1.length<=1048576/\s.2.2.2.1.length<=1048576/\dSm s.2.2.2.2
theorem j25:dSm zD:=by
 refine ⟨?_,?_,?_,?_,?_,?_,?_⟩
 all_goals first | (intro _ h;cases h) | exact Nat.zero_le _
theorem j8d:j2G zST:=⟨Nat.zero_le _,Nat.zero_le _,Nat.zero_le _,j25⟩
theorem jgy (d:D):noD d=true↔d=zD:=by
 obtain ⟨a,b,c,e,f,g⟩:=d
 unfold noD
 simp only [Bool.and_eq_true,beq_iff_eq,j0t,Prod.mk.injEq,List.length_eq_zero_iff]
theorem j59 {d:D} (h:j26 d=true):j0Y d.2.1=true /\
  ((∃ t cs ks,d=(1,t,cs,ks,eS,eS)/\jfa (t,cs,ks)=true)\/(∃ t,d=(2,t,[],[],eS,eS))\/(∃ t c,d=(3,t,[c],[],eS,eS)/\j1G c=true) \/
   (∃ t n,d=(4,t,[],[],n,eS)/\j0Y n=true)\/∃ t n m,d=(5,t,[],[],n,m)/\j0Y n=true/\j0Y m=true):=by
 obtain ⟨k,t,cs,ks,n,m⟩:=d
 unfold j26 jdU at h
 dsimp only at h ⊢
 rw [Bool.and_eq_true] at h
 refine ⟨h.1,?_⟩
 have h:=h.2
 cases h1:k==1
 ·cases h2:k==2
  ·cases h3:k==3
   ·cases h4:k==4
    ·cases h5:k==5
     ·rw [h1,h2,h3,h4,h5] at h;cases h
     ·rw [h1,h2,h3,h4,h5] at h
      simp only [cond_false,cond_true,Bool.and_eq_true,beq_iff_eq] at h h5
      obtain ⟨⟨a,b⟩,c,e⟩:=h
      rw [List.length_eq_zero_iff] at a b
      subst a;subst b;subst h5
      exact .inr (.inr (.inr (.inr ⟨t,n,m,rfl,c,e⟩)))
    ·rw [h1,h2,h3,h4] at h
     simp only [cond_false,cond_true,Bool.and_eq_true,beq_iff_eq,j0t] at h h4
     obtain ⟨⟨a,b⟩,c,e⟩:=h
     rw [List.length_eq_zero_iff] at a b
     subst a;subst b;subst h4;subst e
     exact .inr (.inr (.inr (.inl ⟨t,n,rfl,c⟩)))
   ·rw [h1,h2,h3] at h
    simp only [cond_false,cond_true,Bool.and_eq_true,beq_iff_eq,j0t] at h h3
    obtain ⟨a,b,_,c,e,f⟩:=h
    obtain ⟨c0,rfl⟩:=List.length_eq_one_iff.1 a
    rw [List.length_eq_zero_iff] at c
    subst c;subst h3;subst e;subst f
    exact .inr (.inr (.inl ⟨t,c0,rfl,b⟩))
  ·rw [h1,h2] at h
   simp only [cond_false,cond_true,Bool.and_eq_true,beq_iff_eq,j0t] at h h2
   obtain ⟨⟨a,b⟩,e,f⟩:=h
   rw [List.length_eq_zero_iff] at a b
   subst a;subst b;subst h2;subst e;subst f
   exact .inr (.inl ⟨t,rfl⟩)
 ·rw [h1] at h
  simp only [cond_true,Bool.and_eq_true,beq_iff_eq,j0t] at h h1
  obtain ⟨e,f,a⟩:=h
  subst h1;subst e;subst f
  exact .inl ⟨t,cs,ks,rfl,a⟩
theorem jan {s:ST} (h:stB s=true):j0Y s.2.1=true /\
  ((∃ t r,s=(1,t,[],r,zD)/\j1Z r=true)\/(∃ t q r,s=(2,t,q,r,zD)/\j1Z q=true/\j1Z r=true)\/(∃ t q,s=(3,t,q,[],zD)/\j1Z q=true) \/
   (∃ t,s=(4,t,[],[],zD))\/∃ d:D,s=(5,d.2.1,[],[],d)/\j26 d=true):=by
 obtain ⟨k,t,q,r,d⟩:=s
 unfold stB at h
 dsimp only at h ⊢
 rw [Bool.and_eq_true] at h
 refine ⟨h.1,?_⟩
 have h:=h.2
 cases h1:k==1
 ·cases h2:k==2
  ·cases h3:k==3
   ·cases h4:k==4
    ·cases h5:k==5
     ·rw [h1,h2,h3,h4,h5] at h;cases h
     ·rw [h1,h2,h3,h4,h5] at h
      simp only [cond_false,cond_true,Bool.and_eq_true,beq_iff_eq,j0t] at h h5
      obtain ⟨a,b,c,e⟩:=h
      rw [List.length_eq_zero_iff] at a b
      subst a;subst b;subst h5;subst e
      exact .inr (.inr (.inr (.inr ⟨d,rfl,c⟩)))
    ·rw [h1,h2,h3,h4] at h
     simp only [cond_false,cond_true,Bool.and_eq_true,beq_iff_eq,jgy] at h h4
     obtain ⟨a,b,c⟩:=h
     rw [List.length_eq_zero_iff] at a b
     subst a;subst b;subst h4;subst c
     exact .inr (.inr (.inr (.inl ⟨t,rfl⟩)))
   ·rw [h1,h2,h3] at h
    simp only [cond_false,cond_true,Bool.and_eq_true,beq_iff_eq,jgy] at h h3
    obtain ⟨a,b,c⟩:=h
    rw [List.length_eq_zero_iff] at b
    subst b;subst h3;subst c
    exact .inr (.inr (.inl ⟨t,q,rfl,a⟩))
  ·rw [h1,h2] at h
   simp only [cond_false,cond_true,Bool.and_eq_true,beq_iff_eq,jgy] at h h2
   obtain ⟨a,b,c⟩:=h
   subst h2;subst c
   exact .inr (.inl ⟨t,q,r,rfl,a,b⟩)
 ·rw [h1] at h
  simp only [cond_true,Bool.and_eq_true,beq_iff_eq,jgy] at h h1
  obtain ⟨a,b,c⟩:=h
  rw [List.length_eq_zero_iff] at a
  subst a;subst h1;subst c
  exact .inl ⟨t,r,rfl,b⟩
theorem j0x {l:List V} (h:j1Z l=true):1<=l.length/\l.length<=8/\∀ v∈l,j0w v=true:=by
 unfold j1Z at h
 simp only [Bool.and_eq_true,decide_eq_true_eq,List.all_eq_true] at h
 exact ⟨h.2.1,h.2.2,h.1⟩
end Go.PI.G
namespace Go.PI.G
open Go Go.PI
def goL {α A E:Type} (f:A->α->Except E A):List α->A->Except E A
 | [],a=> .ok a
 | x::xs,a=>match f a x with
  | .ok a'=>goL f xs a'
  | .error e=> .error e
def exR {A E:Type} (r:Except E A) (f:A->Res) (g:E->Res):Res:=match r with
 | .ok a=>f a
 | .error e=>g e
def opR {A:Type} (r:Option A) (f:A->Res) (g:Res):Res:=match r with
 | some a=>f a
 | none=>g
theorem jsg {α A E:Type} (f:A->α->Except E A):(l m:List α)->(a:A)->goL f (l++m) a=match goL f l a with | .ok a'=>goL f m a' | .error e=> .error e
 | [],m,a=>rfl
 | x::l,m,a=>by
  simp only [List.cons_append,goL]
  cases f a x with
  | ok a'=>exact jsg f l m a'
  | error e=>rfl
theorem joO {α A E V K:Type} (l:List α) (st:Int->A->V) (f:A->α->Except E A) (p:Nat->A->Prop) {step:V->(V->Res)->K->Res} (q:K) (fin:A->Res) (ex:E->Res)
  (hp:∀ (i:Nat) a a',(hi:i<l.length)->p i a->f a l[i]= .ok a'->p (i+1) a')
  (hs:∀ (i:Nat) a rec,(hi:i<l.length)->p i a->step (st i a) rec q=exR (f a l[i]) (λa'=>rec (st ((i:Int)+1) a')) ex)
  (he:∀ a rec,p l.length a->step (st (l.length:Int) a) rec q=fin a) :
  ∀ (d i m:Nat) (a:A),i+d=l.length->d<m->p i a->Z10 step m (st (i:Int) a) q=exR (goL f (l.drop i) a) fin ex:=by
 intro d
 induction d with
 | zero=>
  intro i m a hi hm ha
  obtain ⟨m,rfl⟩:∃ e,m=e+1:=⟨m-1,by omega⟩
  have hil:i=l.length:=by omega
  subst hil
  rw [Z8u,he a _ ha,List.drop_length]
  rfl
 | succ d ih=>
  intro i m a hi hm ha
  obtain ⟨m,rfl⟩:∃ e,m=e+1:=⟨m-1,by omega⟩
  have hil:i<l.length:=by omega
  rw [Z8u,hs i a _ hil ha,List.drop_eq_getElem_cons hil]
  simp only [goL]
  cases hf:f a l[i] with
  | error e=>rfl
  | ok a'=>
   have:=ih (i+1) m a' (by omega) (by omega) (hp i a a' hil ha hf)
   rw [show ((i+1:Nat):Int)=(i:Int)+1 by omega] at this
   exact this
theorem j23 (s:ByteArray) (i:Nat) (h:i<(Z19 s).length):bt s (i:Int)=(Z19 s)[i]:=by
 have hl:=j0d s
 have h':i<s.data.size:=by
  have:i<s.size:=by omega
  exact this
 have e1:(Z19 s)[i]=((s.data.toList.map λb:UInt8=>(b.toNat:Int))[i]'(by simpa using h')):=rfl
 rw [e1,List.getElem_map]
 unfold bt
 simp [Array.getElem?_eq_getElem h']
theorem jda {s:ByteArray} {x:Int} {l:List Int} (h:Z19 s=x::l):bt s 0=x:=by
 have:=j23 s 0 (by rw [h];simp)
 rw [show ((0:Nat):Int)=0 from rfl] at this
 rw [this]
 simp [h]
theorem j01 {a b:ByteArray} (h:Z19 a≠Z19 b):sEq a b=false:=by
 cases hq:sEq a b with
 | false=>rfl
 | true=>exact absurd (by rw [(j0t _ _).1 hq]) h
theorem jtR {a b:ByteArray} (h:Z19 a≠Z19 b):sNe a b=true:=by
 cases hq:sNe a b with
 | true=>rfl
 | false=>exact absurd (by rw [(jex _ _).1 hq]) h
def jlN (x:Int):Bool:=decide (48<=x/\x<=57)
def dgF (n x:Int):Except Unit Int:=bif jlN x then .ok (n * 10+(x-48)) else .error ()
theorem jnl {n x:Int} (h:48<=x/\x<=57):dgF n x= .ok (n * 10+(x-48)):=by unfold dgF jlN;rw [decide_eq_true h];rfl
theorem jqN {n x m:Int} (h:dgF n x= .ok m):(48<=x/\x<=57)/\m=n * 10+(x-48):=by
 unfold dgF jlN at h
 by_cases hx:48<=x/\x<=57
 ·rw [decide_eq_true hx] at h;cases h;exact ⟨hx,rfl⟩
 ·rw [decide_eq_false hx] at h;cases h
def rdN (l:List Int):Option Int:=bif l.headD 0==45 then (match goL dgF l.tail 0 with | .ok n=>some (-n) | .error _=>none) else match goL dgF l 0 with | .ok n=>some n | .error _=>none
theorem jtQ {i:Nat} (h:i<=13):((10 ^ i:Nat):Int)<=10000000000000:=by
 have:10 ^ i<=10 ^ 13:=Nat.pow_le_pow_right (by omega) h
 omega
theorem jgp {i:Nat} {n x:Int} (hi:i<=13) (hn:0<=n/\n<((10 ^ i:Nat):Int)) (hx:48<=x/\x<=57) :
  Z8g (n * 10)=n * 10/\Z8g (wu8 (x-48))=x-48/\Z8g (n * 10+(x-48))=n * 10+(x-48)/\0<=n * 10+(x-48)/\n * 10+(x-48)<((10 ^ (i+1):Nat):Int):=by
 have h1:=jtQ hi
 have e:((10 ^ (i+1):Nat):Int)=((10 ^ i:Nat):Int) * 10:=by rw [Nat.pow_succ];omega
 refine ⟨j03 (by omega),?_,j03 (by omega),by omega,by omega⟩
 rw [jg4 (by omega),j03 (by omega)]
theorem j1S {α:Type} {l:List α} {i:Nat} {x:α} {r:List α} (h:l.drop i=x::r):∃ hi:i<l.length,l[i]=x/\l.drop (i+1)=r:=by
 have hl:=congrArg List.length h
 rw [List.length_drop,List.length_cons] at hl
 have hi:i<l.length:=by omega
 rw [List.drop_eq_getElem_cons hi] at h
 exact ⟨hi,(List.cons.inj h).1,(List.cons.inj h).2⟩
theorem jrO (s:ByteArray) (g:Int->List Int):∀ (d i:Nat) (out:List Int),i+d=s.size->Z4T (λi out=>out++g (bt s (i:Int))) i d out=out++((Z19 s).drop i).flatMap g:=by
 have hl:=j0d s
 intro d
 induction d with
 | zero=>
  intro i out h
  rw [List.drop_eq_nil_of_le (by omega)]
  simp [Z4T]
 | succ d ih=>
  intro i out h
  have hi:i<(Z19 s).length:=by omega
  simp only [Z4T]
  rw [ih (i+1) _ (by omega),j23 s i hi,List.drop_eq_getElem_cons hi,List.flatMap_cons,List.append_assoc]
noncomputable def rdX {α:Type} (ok:α->Bool) (T:α->ByteArray) (z:α) (s:ByteArray):α×Bool:=by
 classical
 exact if h:∃ x,ok x=true/\T x=s then (h.choose,true) else (z,false)
theorem jeU {α:Type} {ok:α->Bool} {T:α->ByteArray} {z:α} {s:ByteArray} (h:∀ x,ok x=true->T x≠s):rdX ok T z s=(z,false):=by
 unfold rdX
 rw [dif_neg λ⟨n,h1,h2⟩=>h n h1 h2]
theorem jhg {α:Type} {ok:α->Bool} {T:α->ByteArray} {z:α} {s:ByteArray} {x:α} (hx:ok x=true) (h:T x=s) (hu:∀ y,ok y=true->T y=s->y=x):rdX ok T z s=(x,true):=by
 unfold rdX
 have he:∃ x,ok x=true/\T x=s:=⟨x,hx,h⟩
 rw [dif_pos he,hu _ he.choose_spec.1 he.choose_spec.2]
theorem jjb {α:Type} {ok:α->Bool} {T:α->ByteArray} {z:α} {s:ByteArray} (h:(rdX ok T z s).2=true):ok (rdX ok T z s).1=true/\T (rdX ok T z s).1=s:=by
 unfold rdX at h ⊢
 by_cases he:∃ x,ok x=true/\T x=s
 ·rw [dif_pos he];exact he.choose_spec
 ·rw [dif_neg he] at h;cases h
theorem jnR {α:Type} {ok:α->Bool} {T:α->ByteArray} {z:α} {s:ByteArray} (h:(rdX ok T z s).2=false):(rdX ok T z s).1=z/\∀ x,ok x=true->T x≠s:=by
 unfold rdX at h ⊢
 by_cases he:∃ x,ok x=true/\T x=s
 ·rw [dif_pos he] at h;cases h
 ·rw [dif_neg he];exact ⟨rfl,λx h1 h2=>he ⟨x,h1,h2⟩⟩
theorem jdx {α:Type} {ok:α->Bool} {T:α->ByteArray} {z:α} {s:ByteArray} (raw:α) (hraw:∀ x,ok x=true->T x=s->raw=x) (hne:T raw=s->ok raw=true) (k:α->Bool->Res) :
  (bif sNe (T raw) s then k z false else k raw true)=k (rdX ok T z s).1 (rdX ok T z s).2:=by
 by_cases h:∃ x,ok x=true/\T x=s
 ·obtain ⟨x,hx,he⟩:=h
  rw [jhg hx he λy hy hye=>(hraw y hy hye).symm.trans (hraw x hx he),hraw x hx he,he,Z8M,cond_false]
 ·rw [jeU λx hx he=>h ⟨x,hx,he⟩]
  cases hn:sNe (T raw) s
  ·have he:=(jex _ _).1 hn
   exact absurd ⟨raw,hne he,he⟩ h
  ·rfl
theorem j8z {α:Type} (l:List α) (i:Nat):sub l (i:Int) (nI l.length)=l.drop i:=by
 unfold sub nI
 rw [show ((l.length:Int)).toNat=l.length by omega,show ((i:Int)).toNat=i by omega,List.take_length]
theorem jgQ {α:Type} (l:List α) (i j:Nat):sub l (i:Int) (j:Int)=(l.take j).drop i:=by
 unfold sub
 rw [show ((j:Int)).toNat=j by omega,show ((i:Int)).toNat=i by omega]
theorem jl1 {i j n:Nat} (h:i<=j/\j<=n):Z6R (i:Int) (j:Int) n=true:=decide_eq_true (by omega)
theorem j4x {i n:Nat} (h:i<=n):Z6R (i:Int) (nI n) n=true:=decide_eq_true (by unfold nI;omega)
theorem jgW {n:Nat} (h:2<=n):Z6R 2 (nI n) n=true:=decide_eq_true (by unfold nI;omega)
theorem jjy {α:Type} (l:List α):sub l 2 (nI l.length)=l.drop 2:=j8z l 2
end Go.PI.G
set_option linter.unusedSimpArgs false
namespace Go.PI.G
open Go Go.PI Go.Proofs
theorem jfC (l:List ByteArray):j02 (l.take 0)=eS:=rfl
theorem jnD (l:List ByteArray) (i:Nat) (hi:i<l.length):j02 (l.take (i+1))=if i=0 then l[i] else j02 (l.take i)++spB++l[i]:=by
 cases l with
 | nil=>simp at hi
 | cons w ws=>
  cases i with
  | zero=>
   rw [if_pos rfl]
   show w++eS=w
   rw [j3b]
  | succ i=>
   rw [if_neg (by omega)]
   have hi':i<ws.length:=by simpa using hi
   rw [List.take_succ_cons,List.take_succ_cons,List.take_succ_eq_append_getElem hi',jph,List.getElem_cons_succ]
   show j02 (w::ws.take i)++(spB++(ws[i]++eS))=_
   rw [j3b,ByteArray.append_assoc]
theorem jnC (l:List ByteArray) (i:Nat):(j02 (l.take i)).size<=(j02 l).size:=by
 cases l with
 | nil=>simp
 | cons w ws=>
  cases i with
  | zero=>show (0:Nat)<=_;omega
  | succ i=>
   rw [List.take_succ_cons]
   have:j02 (w::ws)=j02 (w::ws.take i)++tlB (ws.drop i):=by
    rw [<-jph,List.take_append_drop]
   rw [this,ByteArray.size_append]
   omega
theorem jdO (l:List ByteArray) (h:l.length<=1000000000) (hs:(j02 l).size<=LIM) (k:ByteArray->Res):j1v l k=k (j02 l):=by
 unfold j1v jcW
 have:=Z8q l.length (λi out=>(out,i)) (λi _=>j02 (l.take (i+1))) (λi out=>out=j02 (l.take i)) (step:=j7s l (nI l.length)) (λout=>k out) (λ_=>k (j02 l)) eS (by unfold LIM;omega) rfl (λi out hi ho=>rfl) (λi out rec hi ho=>by
  show j51 _ _ _ _ _ _=_
  unfold j51
  dsimp only
  have e:=jnD l i hi
  have m:=jnC l (i+1)
  rw [Z9i hi,cond_true,j0i hi,cond_true,Z92 _ _ _ hi,j03 (n:=(i:Int)+1) (by omega)]
  subst ho
  cases i with
  | zero=>
   rw [if_pos rfl] at e
   rw [decide_eq_false (show ¬ ((0:Nat):Int)>0 by omega),cond_false,jfC,Z9d (by rw [<-e];show (0:Nat)+_<=_;omega),cond_true,jn9,e]
  | succ i=>
   rw [if_neg (by omega)] at e
   have e2:(j02 (l.take (i+1))).size+1+(l[i+1]).size<=LIM:=by
    have:=congrArg ByteArray.size e
    rw [ByteArray.size_append,ByteArray.size_append] at this
    have h1:spB.size=1:=rfl
    omega
   rw [decide_eq_true (show ((i+1:Nat):Int)>0 by omega),cond_true,Z9d (by omega),cond_true,Z9d (by rw [ByteArray.size_append];exact e2),cond_true,e]
   rfl) (λout rec ho=>by
  show j51 _ _ _ _ _ _=_
  unfold j51
  dsimp only
  rw [Z9h,cond_false,ho,List.take_length])
 exact this.1
theorem j3Z (l:List ByteArray) (h:l.length<=1000000000) (hs:(j02 l).size<=LIM) (k:ByteArray->Res):j1h l k=k (j02 l):=by
 unfold j1h jeb
 have:=Z8q l.length (λi out=>(out,i)) (λi _=>j02 (l.take (i+1))) (λi out=>out=j02 (l.take i)) (step:=j9G l (nI l.length)) (λout=>k out) (λ_=>k (j02 l)) eS (by unfold LIM;omega) rfl (λi out hi ho=>rfl) (λi out rec hi ho=>by
  show j6I _ _ _ _ _ _=_
  unfold j6I
  dsimp only
  have e:=jnD l i hi
  have m:=jnC l (i+1)
  rw [Z9i hi,cond_true,j0i hi,cond_true,Z92 _ _ _ hi,j03 (n:=(i:Int)+1) (by omega)]
  subst ho
  cases i with
  | zero=>
   rw [if_pos rfl] at e
   rw [decide_eq_false (show ¬ ((0:Nat):Int)>0 by omega),cond_false,jfC,Z9d (by rw [<-e];show (0:Nat)+_<=_;omega),cond_true,jn9,e]
  | succ i=>
   rw [if_neg (by omega)] at e
   have e2:(j02 (l.take (i+1))).size+1+(l[i+1]).size<=LIM:=by
    have:=congrArg ByteArray.size e
    rw [ByteArray.size_append,ByteArray.size_append] at this
    have h1:spB.size=1:=rfl
    omega
   rw [decide_eq_true (show ((i+1:Nat):Int)>0 by omega),cond_true,Z9d (by omega),cond_true,Z9d (by rw [ByteArray.size_append];exact e2),cond_true,e]
   rfl) (λout rec ho=>by
  show j6I _ _ _ _ _ _=_
  unfold j6I
  dsimp only
  rw [Z9h,cond_false,ho,List.take_length])
 exact this.1
end Go.PI.G
namespace Go.PI.G
open Go Go.PI Go.Proofs
theorem j1P (x lo hi:Int) (k:Bool->Res):j0O x lo hi k=k (decide (lo<=x/\x<=hi)):=by
 unfold j0O
 by_cases h:x>=lo
 ·rw [decide_eq_true h,cond_true]
  congr 1
  exact decide_eq_decide.2 (by omega)
 ·rw [decide_eq_false h,cond_false]
  congr 1
  exact (decide_eq_false (by omega)).symm
theorem jfE (n:Int) (k:Bool->Res):jbk n k=k (j1C n):=j1P n _ _ k
theorem jhj (v:V) (k:Bool->Res):j8w v k=k (j0w v):=by
 unfold j8w j0w
 cases v.1==0
 ·cases v.1==1
  ·cases v.1==2
   ·cases v.1==3
    ·rfl
    ·cases v.2.1==0<;>rfl
   ·rw [cond_false,cond_false,cond_true,jfE]
    cases j1C v.2.1<;>rfl
  ·cases v.2.1==0
   ·cases v.2.1==1<;>rfl
   ·rfl
 ·cases v.2.1==0<;>rfl
theorem jh6 (v:V) (k:Bool->Res):j8m v k=k (j0w v):=by
 unfold j8m j0w
 simp only [j1P,jsu]
 cases v.1==0
 ·cases v.1==1
  ·cases v.1==2
   ·cases v.1==3
    ·rfl
    ·cases v.2.1==0<;>rfl
   ·rw [cond_false,cond_false,cond_true,cond_false,cond_false,cond_true]
    show (bif j1C v.2.1 then _ else _)=_
    cases j1C v.2.1<;>rfl
  ·cases v.2.1==0
   ·cases v.2.1==1<;>rfl
   ·rfl
 ·cases v.2.1==0<;>rfl
end Go.PI.G
namespace Go.PI.G
open Go Go.PI Go.Proofs
def dg (x:Int):ByteArray:=Z2X [wu8 (Z8g (48+x))]
theorem jdd (x:Int):(dg x).size=1:=rfl
def j5a (n:Nat):ByteArray:=if h:n<10 then dg n else j5a (n / 10)++dg ((n % 10:Nat):Int)
termination_by n
decreasing_by omega
theorem jeu {n:Nat} (h:n<10):j5a n=dg n:=by rw [j5a,dif_pos h]
theorem jgr {n:Nat} (h:¬ n<10):j5a n=j5a (n / 10)++dg ((n % 10:Nat):Int):=by rw [j5a,dif_neg h]
theorem jp8:∀ (d n:Nat),n<10 ^ (d+1)->(j5a n).size<=d+1
 | 0,n,h=>by rw [jeu (by omega),jdd];exact Nat.le_refl _
 | d+1,n,h=>by
  by_cases h1:n<10
  ·rw [jeu h1,jdd];omega
  ·rw [jgr h1,ByteArray.size_append,jdd]
   have:n / 10<10 ^ (d+1):=Nat.div_lt_of_lt_mul (by rw [Nat.pow_succ] at h;omega)
   have:=jp8 d (n / 10) this
   omega
theorem j75 {n:Nat} (h:n<=1099511627775):(j5a n).size<=13:=jp8 12 n (by omega)
def j04 (n:Int):ByteArray:=bif j1C n then (if n<0 then z__++j5a (-n).toNat else j5a n.toNat) else eS
theorem j2X (n:Int):(j04 n).size<=14:=by
 unfold j04
 by_cases h: -1099511627775<=n/\n<=1099511627775
 ·have hb:j1C n=true:=decide_eq_true h
  rw [hb,cond_true]
  split
  ·rw [ByteArray.size_append]
   have:=j75 (n:=(-n).toNat) (by omega)
   have:z__.size=1:=rfl
   omega
  ·have:=j75 (n:=n.toNat) (by omega)
   omega
 ·have hb:j1C n=false:=decide_eq_false h
  rw [hb,cond_false]
  show (0:Nat)<=14
  omega
theorem jgc:∀ (m n:Nat),n<m->n<=1099511627775->∀ k,Z8f (λ_ _=>none) j12 m (n:Int) k=k (j5a n)
 | 0,n,h,_,k=>by omega
 | m+1,n,h,hn,k=>by
  show j12 (Z8f (λ_ _=>none) j12 m) (n:Int) k=_
  have ih:=jgc m
  generalize Z8f (λ_ _=>none) j12 m=self at ih ⊢
  unfold j12
  have hb:j1C (n:Int)=true:=decide_eq_true (by omega)
  rw [jfE,hb,Bool.not_true,cond_false,Z8A (by omega),cond_false]
  by_cases h1:n<10
  ·rw [Z8B (by omega),cond_true,jeu h1];rfl
  ·rw [Z8A (by omega),cond_false,Z8m,jmB,jmC,Z9b (n:=((n / 10:Nat):Int)) (by omega) (by omega),ih (n / 10) (by omega) (by omega),jgr h1]
   have h2:=j75 (n:=n / 10) (by omega)
   show (bif lim ((j5a (n / 10)).size+(dg ((n % 10:Nat):Int)).size) then k (j5a (n / 10)++dg ((n % 10:Nat):Int)) else none)=_
   rw [jdd,Z9d (by unfold LIM;omega),cond_true]
theorem jp4:∃ m,Z0Y=m+1/\1099511627775<m:=by
 have h:=Z1O (n:=1099511627777) (by omega)
 exact ⟨Z0Y-1,by omega,by omega⟩
theorem jcP (n:Int) (k:ByteArray->Res):j0U n k=k (j04 n):=by
 unfold j0U
 obtain ⟨m,hm,hm2⟩:=jp4
 rw [hm]
 show j12 (Z8f (λ_ _=>none) j12 m) n k=_
 by_cases h: -1099511627775<=n/\n<=1099511627775
 ·have hb:j1C n=true:=decide_eq_true h
  by_cases h0:n<0
  ·have ih:=jgc m
   generalize Z8f (λ_ _=>none) j12 m=self at ih ⊢
   unfold j12 j04
   have hsz:=j75 (n:=(-n).toNat) (by omega)
   have hw:Z8g (0-n)=(((-n).toNat:Nat):Int):=by rw [Z9b (by omega) (by omega)];omega
   rw [jfE,hb,Bool.not_true,cond_false,Z8B h0,cond_true,hw,ih _ (by omega) (by omega),Z9d (by unfold LIM;omega),cond_true,cond_true,if_pos h0]
  ·have:=jgc (m+1) n.toNat (by omega) (by omega) k
   rw [show ((n.toNat:Nat):Int)=n by omega] at this
   unfold j04
   rw [hb,cond_true,if_neg h0]
   exact this
 ·have hb:j1C n=false:=decide_eq_false h
  unfold j12 j04
  rw [jfE,hb,Bool.not_false,cond_true,cond_false]
theorem jqV (self:Int->(ByteArray->Res)->Res) (n:Int) (s:ByteArray) (rec:Int×ByteArray->Res) (q:Int->ByteArray->Res):j3y self (n,s) rec q=jb0 self n s (λn s=>rec (n,s)) q:=rfl
theorem jiP (self:Int->(ByteArray->Res)->Res) (k:ByteArray->Res):∀ (m n d:Nat) (s:ByteArray),n<m->n<=1099511627775->n<10 ^ (d+1)->s.size+d<=1000 ->
  Z10 (j3y self) m ((n:Int),s) (λ(n_1:Int) (s:ByteArray)=>bif lim ((ByteArray.size (Z2X [wu8 (Z8g (48+n_1))]))+(ByteArray.size s)) then k ((Z2X [wu8 (Z8g (48+n_1))])++s) else none)=k (j5a n++s)
 | 0,n,d,s,h,_,_,_=>by omega
 | m+1,n,d,s,h,hn,hd,hs=>by
  rw [Z8u,jqV]
  unfold jb0
  by_cases h1:n<10
  ·have:decide ((n:Int)>9)=false:=decide_eq_false (by omega)
   rw [this,cond_false,jeu h1]
   show (bif lim ((dg (n:Int)).size+s.size) then k (dg (n:Int)++s) else none)=_
   rw [jdd,Z9d (by unfold LIM;omega),cond_true]
  ·have:decide ((n:Int)>9)=true:=decide_eq_true (by omega)
   obtain ⟨d,rfl⟩:∃ e,d=e+1:=by
    cases d with
    | zero=>exact absurd (by simpa using hd) h1
    | succ d=>exact ⟨d,rfl⟩
   rw [this,cond_true,jmB,jmC,Z9b (n:=((n / 10:Nat):Int)) (by omega) (by omega)]
   show (bif lim ((dg ((n % 10:Nat):Int)).size+s.size) then Z10 (j3y self) m (((n / 10:Nat):Int),dg ((n % 10:Nat):Int)++s) _ else none)=_
   rw [jdd,Z9d (by unfold LIM;omega),cond_true,jiP self k m (n / 10) d _ (by omega) (by omega) (Nat.div_lt_of_lt_mul (by rw [Nat.pow_succ] at hd;omega)) (by rw [ByteArray.size_append,jdd];omega),jgr h1,ByteArray.append_assoc]
theorem jcs (n:Int) (k:ByteArray->Res):j0T n k=k (j04 n):=by
 unfold j0T
 obtain ⟨m,hm,hm2⟩:=jp4
 rw [hm]
 obtain ⟨m,rfl⟩:∃ e,m=e+1:=⟨m-1,by omega⟩
 have pos:∀ (self:Int->(ByteArray->Res)->Res) (n:Nat) (k:ByteArray->Res),n<=1099511627775->j1e self (n:Int) k=k (j5a n):=by
  intro self n k hn
  unfold j1e jcv
  rw [j1P,decide_eq_true (by omega),Bool.not_true,cond_false,Z8A (by omega),cond_false]
  have:=jiP self k Z0Y n 12 eS (Z1O (by omega)) hn (by omega) (by show 0+12<=1000;omega)
  rw [j3b] at this
  exact this
 show j1e (Z8f (λ_ _=>none) j1e (m+1)) n k=_
 have ih:∀ (n:Nat) (k:ByteArray->Res),n<=1099511627775->Z8f (λ_ _=>none) j1e (m+1) (n:Int) k=k (j5a n):=λn k hn=>pos (Z8f (λ_ _=>none) j1e m) n k hn
 generalize Z8f (λ_ _=>none) j1e (m+1)=self at ih ⊢
 by_cases h: -1099511627775<=n/\n<=1099511627775
 ·have hb:j1C n=true:=decide_eq_true h
  by_cases h0:n<0
  ·unfold j1e j04
   have hsz:=j75 (n:=(-n).toNat) (by omega)
   have hw:Z8g (0-n)=(((-n).toNat:Nat):Int):=by rw [Z9b (by omega) (by omega)];omega
   rw [j1P,decide_eq_true h,Bool.not_true,cond_false,Z8B h0,cond_true,hw]
   rw [ih _ _ (by omega),Z9d (by unfold LIM;omega),cond_true,hb,cond_true,if_pos h0]
  ·have:=pos self n.toNat k (by omega)
   rw [show ((n.toNat:Nat):Int)=n by omega] at this
   unfold j04
   rw [hb,cond_true,if_neg h0]
   exact this
 ·have hb:j1C n=false:=decide_eq_false h
  unfold j1e j04
  rw [j1P,decide_eq_false h,Bool.not_false,cond_true,hb,cond_false]
def pB (b:Int):Bool:=bif decide (33<=b/\b<=126) then (bif (b != 39) then (b != 37) else false) else false
theorem jtc (b:Int) (k:Bool->Res):j6W b k=k (pB b):=by
 unfold j6W pB
 by_cases h:33<=b
 ·rw [decide_eq_true (show b>=33 from h),cond_true]
  have:decide (b<=126)=decide (33<=b/\b<=126):=decide_eq_decide.2 (by omega)
  rw [this]
  cases decide (33<=b/\b<=126)
  ·rfl
  ·cases b != 39<;>rfl
 ·rw [decide_eq_false (show ¬ b>=33 from h),decide_eq_false (show ¬ (33<=b/\b<=126) by omega)]
  rfl
theorem jsZ (b:Int) (h:0<=b/\b<256) (k:Bool->Res):j6F b k=k (pB b):=by
 unfold j6F pB
 rw [Z9b (by omega) (by omega),j1P]
 cases decide (33<=b/\b<=126)
 ·rfl
 ·cases b != 39<;>rfl
def h1 (b:Int):Int:=bt j0k (Int.tmod (Z8g (Int.tdiv (Z8g b) 16)) 16)
def h2 (b:Int):Int:=bt j0k (Int.tmod (Int.tmod (Z8g b) 16) 16)
theorem jtO:∀ b:Fin 256,(inb (Z9n .u8 ((b.val:Nat):Int) 4) 16&&inb (Z9j .u8 ((b.val:Nat):Int) 15) 16&&(bt j0k (Z9n .u8 ((b.val:Nat):Int) 4)==h1 ((b.val:Nat):Int))&&(bt j0k (Z9j .u8 ((b.val:Nat):Int) 15)==h2 ((b.val:Nat):Int)) &&
  inb (Int.tmod (Z8g (Int.tdiv (Z8g ((b.val:Nat):Int)) 16)) 16) 16&&inb (Int.tmod (Int.tmod (Z8g ((b.val:Nat):Int)) 16) 16) 16)=true:=by decide +kernel
theorem jsh {b:Int} (h:0<=b/\b<256):inb (Z9n .u8 b 4) 16=true/\inb (Z9j .u8 b 15) 16=true/\bt j0k (Z9n .u8 b 4)=h1 b/\bt j0k (Z9j .u8 b 15)=h2 b /\
  inb (Int.tmod (Z8g (Int.tdiv (Z8g b) 16)) 16) 16=true/\inb (Int.tmod (Int.tmod (Z8g b) 16) 16) 16=true:=by
 have:=jtO ⟨b.toNat,by omega⟩
 simp only [Bool.and_eq_true,beq_iff_eq] at this
 rw [show ((b.toNat:Nat):Int)=b by omega] at this
 obtain ⟨⟨⟨⟨⟨a1,a2⟩,a3⟩,a4⟩,a5⟩,a6⟩:=this
 exact ⟨a1,a2,a3,a4,a5,a6⟩
theorem jij (s:ByteArray) (i:Int):0<=bt s i/\bt s i<256:=by
 unfold bt
 have:=UInt8.toNat_lt (s.data.toList.getD i.toNat 0)
 omega
def gB (b:Int):List Int:=bif pB b then [b] else [37,h1 b,h2 b]
theorem jqT (b:Int):(gB b).length<=3:=by unfold gB;cases pB b<;>simp
def jhd (s:ByteArray):List Int:=Z4T (λi out=>out++gB (bt s (i:Int))) 0 s.size [39]
theorem jej (v:V) (h:v.2.2.size<=LIM / 4) (K:List Int->Res):j9Q v Z0Y [39] 0 K=K (jhd v.2.2)/\(jhd v.2.2).length<=1+3 * v.2.2.size:=by
 unfold j9Q jhd
 unfold LIM at h
 exact Z8q v.2.2.size (λi out=>(out,i)) (λi out=>out++gB (bt v.2.2 (i:Int))) (λi out=>out.length<=1+3 * i) (step:=j7p v) K K [39] (by unfold LIM;omega) (by simp) (λi out hi ho=>by
  have:=jqT (bt v.2.2 (i:Int));simp only [List.length_append];omega) (λi out rec hi ho=>by
  show j4Y v _ _ _ _=_
  dsimp only
  unfold j4Y j7e
  obtain ⟨a1,a2,a3,a4,a5,a6⟩:=jsh (jij v.2.2 (i:Int))
  rw [Z9i hi,cond_true,Z9c (by omega) (by omega),cond_true,jtc,Z9b (n:=(i:Int)+1) (by omega) (by omega)]
  unfold gB
  cases pB (bt v.2.2 (i:Int))
  ·dsimp only
   rw [cond_false,a5,cond_true,a6,cond_true,Z9d (by unfold LIM;omega),cond_true,cond_false]
   rfl
  ·dsimp only
   rw [cond_true,Z9d (by unfold LIM;omega),cond_true,cond_true]) (λout rec ho=>by
  show j4Y v _ _ _ _=_
  dsimp only
  unfold j4Y
  rw [Z9h,cond_false])
theorem jq2 (v:V) (h:v.2.2.size<=LIM / 4) (K:List Int->Res):j9E v Z0Y [39] 0 K=K (jhd v.2.2):=by
 unfold j9E jhd
 unfold LIM at h
 exact (Z8q v.2.2.size (λi out=>(out,i)) (λi out=>out++gB (bt v.2.2 (i:Int))) (λi out=>out.length<=1+3 * i) (step:=j7k v) K K [39] (by unfold LIM;omega) (by simp) (λi out hi ho=>by
  have:=jqT (bt v.2.2 (i:Int));simp only [List.length_append];omega) (λi out rec hi ho=>by
  show j4J v _ _ _ _=_
  dsimp only
  unfold j4J
  obtain ⟨a1,a2,a3,a4,a5,a6⟩:=jsh (jij v.2.2 (i:Int))
  rw [Z9i hi,cond_true,Z9c (by omega) (by omega),cond_true,jsZ _ (jij _ _),Z9b (n:=(i:Int)+1) (by omega) (by omega)]
  unfold gB
  cases pB (bt v.2.2 (i:Int))
  ·dsimp only
   rw [cond_false,a1,cond_true,a2,cond_true,Z9d (by unfold LIM;omega),cond_true,cond_false,a3,a4]
  ·dsimp only
   rw [cond_true,Z9d (by unfold LIM;omega),cond_true,cond_true]) (λout rec ho=>by
  show j4J v _ _ _ _=_
  dsimp only
  unfold j4J
  rw [Z9h,cond_false])).1
def j07 (v:V):ByteArray:=bif j0w v then (bif v.1==0 then j73 else bif v.1==1 then (bif v.2.1==1 then j1x else j1f) else bif v.1==2 then j04 v.2.1 else Z2X (jhd v.2.2++[39])) else eS
theorem jhp {v:V} (hb:j0w v=true) (h0:(v.1==0)=false) (h1:(v.1==1)=false) (h2:(v.1==2)=false):v.2.2.size<=30:=by
 unfold j0w at hb
 rw [h0,h1,h2,cond_false,cond_false,cond_false] at hb
 cases h3:v.1==3
 ·rw [h3,cond_false] at hb;cases hb
 ·rw [h3,cond_true,Bool.and_eq_true,decide_eq_true_eq] at hb
  have:=hb.2
  unfold nI at this
  omega
theorem jc5 (v:V):(j07 v).size<=100:=by
 unfold j07
 cases hb:j0w v
 ·show (0:Nat)<=100;omega
 ·rw [cond_true]
  cases h0:v.1==0
  ·cases h1:v.1==1
   ·cases h2:v.1==2
    ·rw [cond_false,cond_false,cond_false,jiW]
     have hs:=jhp hb h0 h1 h2
     have:=(jej v (by unfold LIM;omega) (λ_=>none)).2
     simp only [List.length_append,List.length_cons,List.length_nil]
     omega
    ·rw [cond_false,cond_false,cond_true]
     have:=j2X v.2.1
     omega
   ·rw [cond_false,cond_true]
    cases v.2.1==1
    ·show (5:Nat)<=100;omega
    ·show (4:Nat)<=100;omega
  ·show (4:Nat)<=100;omega
theorem jf8 (v:V) (k:ByteArray->Res):j5M v k=k (j07 v):=by
 unfold j5M j07
 rw [jhj]
 cases hb:j0w v
 ·rfl
 ·rw [Bool.not_true,cond_false,cond_true]
  cases h0:v.1==0
  ·cases h1:v.1==1
   ·cases h2:v.1==2
    ·have hs:=jhp hb h0 h1 h2
     obtain ⟨e1,e2⟩:=jej v (by unfold LIM;omega) (λ(out:List Int)=>bif lim ((List.length out)+1) then k (Z2X (out++[39])) else none)
     rw [cond_false,cond_false,cond_false,e1,Z9d (by unfold LIM;omega),cond_true,cond_false,cond_false,cond_false]
    ·rw [cond_false,cond_false,cond_true,jcP,cond_false,cond_false,cond_true]
   ·unfold jcT
    cases v.2.1==1<;>rfl
  ·rfl
theorem jh5 (v:V) (k:ByteArray->Res):j5y v k=k (j07 v):=by
 unfold j5y j07
 rw [jh6]
 cases hb:j0w v
 ·rfl
 ·rw [Bool.not_true,cond_false,cond_true]
  cases h0:v.1==0
  ·cases h1:v.1==1
   ·cases h2:v.1==2
    ·have hs:=jhp hb h0 h1 h2
     have e1:=jq2 v (by unfold LIM;omega) (λ(out:List Int)=>bif lim ((List.length out)+1) then k (Z2X (out++[39])) else none)
     have e2:=(jej v (by unfold LIM;omega) (λ_=>none)).2
     rw [cond_false,cond_false,cond_false,e1,Z9d (by unfold LIM;omega),cond_true,cond_false,cond_false,cond_false]
    ·rw [cond_false,cond_false,cond_true,jcs,cond_false,cond_false,cond_true]
   ·unfold jbv
    cases v.2.1==1<;>rfl
  ·rfl
end Go.PI.G
namespace Go.PI.G
open Go Go.PI Go.Proofs
theorem jet (x:Int) (h:0<=x/\x<10):Z19 (dg x)=[48+x]:=by
 unfold dg
 rw [j03 (by omega),jg4 (by omega),j9S (jae (by omega) jc3)]
theorem jgq:(n:Nat)->goL dgF (Z19 (j5a n)) 0= .ok (n:Int)/\∃ x xs,Z19 (j5a n)=x::xs/\48<=x/\x<=57:=by
 intro n
 induction n using Nat.strongRecOn with
 | _ n ih=>
  by_cases h:n<10
  ·rw [jeu h,jet _ (by omega)]
   refine ⟨?_,_,_,rfl,by omega,by omega⟩
   simp only [goL]
   rw [jnl (by omega)]
   dsimp only
   congr 1;omega
  ·obtain ⟨i1,x,xs,i2,i3⟩:=ih (n / 10) (by omega)
   rw [jgr h,j0l,jet _ (by omega),jsg,i1]
   refine ⟨?_,x,xs++[48+((n % 10:Nat):Int)],by rw [i2];rfl,i3⟩
   simp only [goL]
   rw [jnl (by omega)]
   dsimp only
   congr 1;omega
theorem jcE {n:Int} (h:j1C n=true):(n<0/\Z19 (j04 n)=45::Z19 (j5a (-n).toNat))\/(0<=n/\Z19 (j04 n)=Z19 (j5a n.toNat)):=by
 unfold j04
 rw [h,cond_true]
 by_cases h0:n<0
 ·rw [if_pos h0,j0l];exact .inl ⟨h0,rfl⟩
 ·rw [if_neg h0];exact .inr ⟨by omega,rfl⟩
theorem jgz {n:Int} (h:j1C n=true):rdN (Z19 (j04 n))=some n:=by
 unfold rdN
 rcases jcE h with ⟨h0,e⟩ | ⟨h0,e⟩
 ·rw [e]
  simp only [List.headD_cons,List.tail_cons]
  rw [show ((45:Int)==45)=true from rfl,cond_true,(jgq _).1]
  dsimp only
  congr 1;omega
 ·obtain ⟨i1,x,xs,i2,i3⟩:=jgq n.toNat
  rw [e,i1]
  have:((Z19 (j5a n.toNat)).headD 0==45)=false:=by rw [i2];simp;omega
  rw [this,cond_false]
  dsimp only
  congr 1;omega
theorem jt6 {m n:Int} (hm:j1C m=true) (hn:j1C n=true) (h:j04 m=j04 n):m=n:=by
 have:=jgz hm
 rw [h,jgz hn] at this
 exact (Option.some.inj this).symm
theorem j8c {n:Int} (h:j1C n=true):∃ x xs,Z19 (j04 n)=x::xs/\(x=45\/(48<=x/\x<=57)):=by
 rcases jcE h with ⟨h0,e⟩ | ⟨h0,e⟩
 ·exact ⟨_,_,e,.inl rfl⟩
 ·obtain ⟨i1,x,xs,i2,i3⟩:=jgq n.toNat
  exact ⟨x,xs,by rw [e,i2],.inr i3⟩
theorem jr0 {n:Int} (h:j1C n=false):j04 n=eS:=by unfold j04;rw [h];rfl
end Go.PI.G
namespace Go.PI.G
open Go Go.PI Go.Proofs
def esc (l:List Int):List Int:=l.flatMap gB
theorem jtD (b:Int):0<=h1 b/\h1 b<256:=jij _ _
theorem jtE (b:Int):0<=h2 b/\h2 b<256:=jij _ _
theorem jtC {b:Int} (h:0<=b/\b<256):isB (gB b):=by
 unfold gB
 cases pB b
 ·exact jae (by omega) (jae (jtD b) (jae (jtE b) jc3))
 ·exact jae h jc3
theorem jrx:(l:List Int)->isB l->isB (esc l)
 | [],_=>jc3
 | x::l,h=>jh7 (jtC (h x (by simp))) (jrx l λy hy=>h y (List.mem_cons_of_mem _ hy))
theorem jtr (s:ByteArray):jhd s=39::esc (Z19 s):=by
 unfold jhd
 rw [jrO s gB s.size 0 [39] (by omega),List.drop_zero]
 rfl
theorem jrt (s:ByteArray):Z19 (Z2X (jhd s++[39]))=39::(esc (Z19 s)++[39]):=by
 rw [jtr,j9S]
 ·rfl
 ·exact jh7 (jae (by omega) (jrx _ (j9h s))) (jae (by omega) jc3)
theorem jew {b:Int} (h:pB b=true):(33<=b/\b<=126)/\b≠39/\b≠37:=by
 unfold pB at h
 by_cases hb:33<=b/\b<=126
 ·rw [decide_eq_true hb,cond_true] at h
  cases h1:b != 39
  ·rw [h1] at h;cases h
  ·rw [h1,cond_true] at h
   exact ⟨hb,by simpa using h1,by simpa using h⟩
 ·rw [decide_eq_false hb] at h;cases h
theorem jpr:j07 (0,0,eS)=j73:=by
 unfold j07
 rw [jg3];rfl
theorem jdZ {v:V} (h:j0w v=true):(v=(0,0,eS)/\j07 v=j73)\/(v=(1,1,eS)/\j07 v=j1x)\/(v=(1,0,eS)/\j07 v=j1f)\/(∃ n,v=(2,n,eS)/\j1C n=true/\j07 v=j04 n) \/
  ∃ s:ByteArray,v=(3,0,s)/\s.size<=30/\Z19 (j07 v)=39::(esc (Z19 s)++[39]):=by
 rcases jho h with rfl | ⟨n,hn,rfl⟩ | ⟨n,hn,rfl⟩ | ⟨s,hs,rfl⟩
 ·exact .inl ⟨rfl,jpr⟩
 ·rcases hn with rfl | rfl
  ·refine .inr (.inr (.inl ⟨rfl,?_⟩))
   unfold j07;rw [h];rfl
  ·refine .inr (.inl ⟨rfl,?_⟩)
   unfold j07;rw [h];rfl
 ·refine .inr (.inr (.inr (.inl ⟨n,rfl,decide_eq_true hn,?_⟩)))
  unfold j07;rw [h];rfl
 ·refine .inr (.inr (.inr (.inr ⟨s,rfl,hs,?_⟩)))
  rw [<-jrt]
  unfold j07;rw [h];rfl
theorem jrd {v:V} (h:j0w v=false):j07 v=eS:=by unfold j07;rw [h];rfl
theorem jhq {v:V} (h:j0w v=true):∃ x xs,Z19 (j07 v)=x::xs/\(x=39->∃ s:ByteArray,v=(3,0,s)/\s.size<=30/\Z19 (j07 v)=39::(esc (Z19 s)++[39])):=by
 rcases jdZ h with ⟨rfl,e⟩ | ⟨rfl,e⟩ | ⟨rfl,e⟩ | ⟨n,rfl,hn,e⟩ | ⟨s,rfl,hs,e⟩
 ·exact ⟨110,[117,108,108],by rw [e];rfl,λhx=>by omega⟩
 ·exact ⟨116,[114,117,101],by rw [e];rfl,λhx=>by omega⟩
 ·exact ⟨102,[97,108,115,101],by rw [e];rfl,λhx=>by omega⟩
 ·obtain ⟨x,xs,h1,h2⟩:=j8c hn
  exact ⟨x,xs,by rw [e,h1],λhx=>by omega⟩
 ·exact ⟨39,_,e,λ_=>⟨s,rfl,hs,e⟩⟩
theorem jry:(l:List Int)->(esc l).length<=3 * l.length
 | []=>by simp [esc]
 | x::l=>by
  have h1:=jqT x
  have h2:=jry l
  have e:esc (x::l)=gB x++esc l:=rfl
  rw [e,List.length_append,List.length_cons]
  omega
theorem jtz {v:V} (h:j0w v=true):j07 v≠eS:=λhe=>by
 obtain ⟨x,xs,h1,_⟩:=jhq h
 rw [he] at h1
 cases h1
end Go.PI.G
namespace Go.PI.G
open Go Go.PI Go.Proofs
theorem jsa (s:ByteArray) (i:Nat) (h:i<(Z19 s).length):bt s (i:Int)=(Z19 s)[i]:=by
 have hl:=j0d s
 have h':i<s.data.size:=by
  have:i<s.size:=by omega
  exact this
 have e1:(Z19 s)[i]=((s.data.toList.map λb:UInt8=>(b.toNat:Int))[i]'(by simpa using h')):=rfl
 rw [e1,List.getElem_map]
 unfold bt
 simp [Array.getElem?_eq_getElem h']
theorem jtk (s:ByteArray) (x:Bool) (k:Bool->Res):(bif x then k false else (bif decide ((nI (ByteArray.size s))>=1) then k (decide ((nI (ByteArray.size s))<=8)) else k false))=k (!x&&(decide (1<=s.size)&&decide (s.size<=8))):=by
 cases x
 ·unfold nI
  by_cases h1:1<=s.size
  ·rw [cond_false,decide_eq_true (show (s.size:Int)>=1 by omega),cond_true,decide_eq_true h1]
   congr 1
   by_cases h2:s.size<=8
   ·rw [decide_eq_true (show (s.size:Int)<=8 by omega),decide_eq_true h2];rfl
   ·rw [decide_eq_false (show ¬ (s.size:Int)<=8 by omega),decide_eq_false h2];rfl
  ·rw [cond_false,decide_eq_false (show ¬ (s.size:Int)>=1 by omega),cond_false,decide_eq_false h1];rfl
 ·rfl
theorem j7d (s:ByteArray) (h:s.size<=LIM) (k:Bool->Res):j2f s k=k (j0Y s):=by
 unfold j2f jdF
 have hl:=j0d s
 have:=Z8y (Z19 s) (λi=>i) (λb=>decide (b<97)||decide (b>122)) (step:=j8x s) ((λ(_:Unit)=>bif decide ((nI (ByteArray.size s))>=1) then k (decide ((nI (ByteArray.size s))<=8)) else k false),(λ(_:Unit)=>k false)) (bif decide ((nI (ByteArray.size s))>=1) then k (decide ((nI (ByteArray.size s))<=8)) else k false) (k false) (by omega) (λi rec hi=>by
  show j5N s _ _ _ _=_
  unfold j5N
  unfold LIM at h
  have hi':i<s.size:=by omega
  rw [Z9i hi',cond_true,j0i hi',cond_true,cond_true,jsa s i hi,j03 (n:=(i:Int)+1) (by omega)]
  cases decide ((Z19 s)[i]<97)
  ·cases decide ((Z19 s)[i]>122)<;>rfl
  ·rfl) (λrec=>by
  show j5N s _ _ _ _=_
  unfold j5N
  rw [hl,Z9h,cond_false])
 refine this.trans ?_
 exact jtk s _ k
theorem j79 (s:ByteArray) (h:s.size<=LIM) (k:Bool->Res):j2y s k=k (j0Y s):=by
 unfold j2y jdr
 have hl:=j0d s
 have:=Z8y (Z19 s) (λi=>i) (λb=>decide (b<97)||decide (b>122)) (step:=j8n s) ((λ(_:Unit)=>j0O (nI (ByteArray.size s)) 1 8 λ(r:Bool)=>k r),(λ(_:Unit)=>k false)) (j0O (nI (ByteArray.size s)) 1 8 λ(r:Bool)=>k r) (k false) (by omega) (λi rec hi=>by
  show j5z s _ _ _ _=_
  unfold j5z
  unfold LIM at h
  have hi':i<s.size:=by omega
  rw [Z9i hi',cond_true,j0i hi',cond_true,cond_true,jsa s i hi,j03 (n:=(i:Int)+1) (by omega)]
  cases decide ((Z19 s)[i]<97)
  ·cases decide ((Z19 s)[i]>122)<;>rfl
  ·rfl) (λrec=>by
  show j5z s _ _ _ _=_
  unfold j5z
  rw [hl,Z9h,cond_false])
 refine this.trans ?_
 rw [j1P]
 have hd:decide (1<=nI s.size/\nI s.size<=8)=(decide (1<=s.size)&&decide (s.size<=8)):=by
  rw [<-Bool.decide_and]
  exact decide_eq_decide.2 (by unfold nI;omega)
 rw [hd]
 unfold j0Y
 cases (Z19 s).any λb=>decide (b<97)||decide (b>122)<;>rfl
theorem jnT (c:C) (h:c.1.size<=LIM) (k:Bool->Res):jaP c k=k (j1G c):=by
 obtain ⟨n,ty,nt,hs,df⟩:=c
 unfold jaP j1G
 dsimp only at h ⊢
 rw [j7d n h,jhj]
 cases j0Y n
 ·rfl
 ·rw [Bool.not_true,cond_false,Bool.true_and]
  by_cases h1:1<=ty/\ty<=3
  ·rw [decide_eq_false (show ¬ ty<1 by omega),cond_false,decide_eq_false (show ¬ ty>3 by omega),cond_false,decide_eq_true h1,Bool.true_and]
   cases hs
   ·rw [Bool.not_false,cond_true,cond_false]
    have:j0w df=false->jh9 df=false:=λhv=>by
     cases hn:jh9 df with
     | false=>rfl
     | true=>
      unfold jh9 at hn
      simp only [Bool.and_eq_true,beq_iff_eq,j0t] at hn
      have:df=(0,0,eS):=by
       obtain ⟨a,b,c⟩:=df
       simp only at hn
       rw [hn.1,hn.2.1,hn.2.2]
      rw [this,jg3] at hv
      cases hv
    cases hv:j0w df
    ·rw [Bool.false_and]
     exact congrArg k (this hv)
    ·rfl
   ·rw [Bool.not_true,cond_false,cond_true]
    cases hv:j0w df
    ·rfl
    ·rw [cond_true,Bool.true_and]
     have hnull:(df.1==0)=true->((df.1==0)&&((df.2.1==0)&&sEq df.2.2 eS))=true:=λh0=>by
      rcases jho hv with rfl | ⟨m,_,rfl⟩ | ⟨m,_,rfl⟩ | ⟨m,_,rfl⟩
      ·exact jrW
      ·cases h0
      ·cases h0
      ·cases h0
     cases h0:df.1==0
     ·rw [Bool.false_and,cond_false]
      cases df.1==ty<;>rfl
     ·have:=hnull h0
      rw [h0] at this
      rw [this,cond_true,cond_true]
      have hty:(df.1==ty)=false:=by
       simp only [beq_iff_eq] at h0
       rw [h0];simp;omega
      rw [hty,Bool.false_or,Bool.true_and]
  ·rw [decide_eq_false h1]
   by_cases h2:ty<1
   ·rw [decide_eq_true h2];rfl
   ·rw [decide_eq_false h2,cond_false,decide_eq_true (show ty>3 by omega)];rfl
theorem jh4 (c:C) (h:c.1.size<=LIM) (k:Bool->Res):j8i c k=k (j1G c):=by
 obtain ⟨n,ty,nt,hs,df⟩:=c
 unfold j8i j1G
 dsimp only at h ⊢
 rw [j79 n h,j1P,jh6]
 cases j0Y n
 ·rfl
 ·cases decide (1<=ty/\ty<=3)
  ·rfl
  ·cases j0w df
   ·rfl
   ·cases hs
    ·rfl
    ·cases df.1==ty
     ·cases df.1==0<;>rfl
     ·rfl
theorem jpl (t:T) (n:ByteArray) (h:t.2.1.length<=LIM) (k:Int->Res):jaO t n k=k (j19 t.2.1 n):=by
 unfold jaO jek
 refine Z8o t.2.1 (λi=>i) (λc=>sEq c.1 n) (step:=j9K n t.2.1 (nI t.2.1.length)) _ k h (λi rec hi=> ?_) (λrec=> ?_)
 ·show j6Q n _ _ _ _ _ _=_
  unfold j6Q
  unfold LIM at h
  rw [Z9i hi,cond_true,j0i hi,cond_true,Z92 _ _ _ hi,j03 (n:=(i:Int)+1) (by omega)]
 ·show j6Q n _ _ _ _ _ _=_
  unfold j6Q
  rw [Z9h,cond_false]
theorem jpc (t:T) (n:ByteArray) (h:t.2.1.length<=LIM) (k:Int->Res):jaC t n k=k (j19 t.2.1 n):=by
 unfold jaC j5c j63
 refine Z8o t.2.1 (λi=>i) (λc=>sEq c.1 n) (step:=j37 t.2.1 n (nI t.2.1.length)) _ k h (λi rec hi=> ?_) (λrec=> ?_)
 ·show j1X _ n _ _ _ _ _=_
  unfold j1X jdL
  unfold LIM at h
  rw [Z9i hi,cond_true,j0i hi,cond_true,Z92 _ _ _ hi,j03 (n:=(i:Int)+1) (by omega)]
 ·show j1X _ n _ _ _ _ _=_
  unfold j1X
  rw [Z9h,cond_false]
def tSm (t:T):Prop:=t.1.size<=1048576/\t.2.1.length<=1048576/\t.2.2.length<=1048576/\(∀ c∈t.2.1,c.1.size<=1048576)/\∀ x∈t.2.2,x.size<=1048576
theorem jq4 (t:T) (h:tSm t) (a b:Unit->Res):j9L t.2.1 (nI t.2.1.length) t Z0Y 0 a b=bif jch t.2.1 then a () else b ():=by
 have hh:=h
 obtain ⟨m1,m2,m3,m4,m5⟩:=hh
 unfold j9L
 have:=Z8l t.2.1 (λi=>i) (λi c=> !j1G c||(j19 t.2.1 c.1 != (i:Int))) (step:=j7m t.2.1 (nI t.2.1.length) t) (a,b) (a ()) (b ()) (by unfold LIM;omega) (λi rec hi=>by
  show j4V _ _ t _ _ _ _=_
  unfold j4V
  rw [Z9i hi,cond_true,j0i hi,cond_true,Z92 _ _ _ hi,jnT _ (by have:=m4 _ (List.getElem_mem hi);unfold LIM;omega),jpl t _ (by unfold LIM;omega),j03 (n:=(i:Int)+1) (by omega)]
  cases j1G t.2.1[i]
  ·rfl
  ·cases j19 t.2.1 t.2.1[i].1 != (i:Int)<;>rfl) (λrec=>by
  show j4V _ _ t _ _ _ _=_
  unfold j4V
  rw [Z9h,cond_false])
 refine this.trans ?_
 unfold jch
 cases Z5P (λi c=> !j1G c||(j19 t.2.1 c.1 != (i:Int))) 0 t.2.1<;>rfl
theorem jq0 (t:T) (h:tSm t) (a b:Unit->Res):j9y t.2.1 (nI t.2.1.length) t Z0Y 0 a b=bif jch t.2.1 then a () else b ():=by
 have hh:=h
 obtain ⟨m1,m2,m3,m4,m5⟩:=hh
 unfold j9y
 have:=Z8l t.2.1 (λi=>i) (λi c=> !j1G c||(j19 t.2.1 c.1 != (i:Int))) (step:=j7i t.2.1 (nI t.2.1.length) t) (a,b) (a ()) (b ()) (by unfold LIM;omega) (λi rec hi=>by
  show j4F _ _ t _ _ _ _=_
  unfold j4F
  rw [Z9i hi,cond_true,j0i hi,cond_true,Z92 _ _ _ hi,jh4 _ (by have:=m4 _ (List.getElem_mem hi);unfold LIM;omega),jpc t _ (by unfold LIM;omega),j03 (n:=(i:Int)+1) (by omega)]
  cases j1G t.2.1[i]
  ·rfl
  ·cases j19 t.2.1 t.2.1[i].1 != (i:Int)<;>rfl) (λrec=>by
  show j4F _ _ t _ _ _ _=_
  unfold j4F
  rw [Z9h,cond_false])
 refine this.trans ?_
 unfold jch
 cases Z5P (λi c=> !j1G c||(j19 t.2.1 c.1 != (i:Int))) 0 t.2.1<;>rfl
def jaH (l:List C) (last:Int) (k:ByteArray):Except Unit Int:=bif decide (j19 l k<=last) then .error () else bif !(nth zC l (j19 l k)).2.2.1 then .error () else .ok (j19 l k)
theorem jiS (l:List C):(ks:List ByteArray)->(i:Nat)->(last:Int)->(∃ z,Z1t (λ_ last k=>jaH l last k) i ks last= .ok z/\j6K l last ks=true)\/(Z1t (λ_ last k=>jaH l last k) i ks last= .error ()/\j6K l last ks=false)
 | [],_,last=> .inl ⟨last,rfl,rfl⟩
 | k::ks,i,last=>by
  have ih:=jiS l ks (i+1) (j19 l k)
  simp only [Z1t,j6K,jaH] at ih ⊢
  cases decide (j19 l k<=last)
  ·cases (nth zC l (j19 l k)).2.2.1
   ·exact .inr ⟨rfl,rfl⟩
   ·exact ih
  ·exact .inr ⟨rfl,rfl⟩
theorem jq5 (t:T) (h:tSm t) (a b:Unit->Res):j9M t.2.2 (nI t.2.2.length) t Z0Y (-1) 0 a b=bif j6K t.2.1 (-1) t.2.2 then a () else b ():=by
 have hh:=h
 obtain ⟨m1,m2,m3,m4,m5⟩:=hh
 unfold j9M
 have:=Z3m t.2.2 (λi last=>(last,i)) (λ_ last k=>jaH t.2.1 last k) (λ_ last=> -1<=last) (step:=j7n t.2.2 (nI t.2.2.length) t) (a,b) (λ_=>a ()) (λ_=>b ()) (-1) (by unfold LIM;omega) (by omega) (λi last last' hi h0 hk=>by
  unfold jaH at hk
  have:=(jbe t.2.1 t.2.2[i]).1
  cases h1:decide (j19 t.2.1 t.2.2[i]<=last)
  ·rw [h1,cond_false] at hk
   cases h2:(nth zC t.2.1 (j19 t.2.1 t.2.2[i])).2.2.1
   ·rw [h2] at hk;cases hk
   ·rw [h2] at hk
    cases hk
    exact this
  ·rw [h1] at hk;cases hk) (λi last rec hi h0=>by
  show j4W _ _ t _ _ _ _ _=_
  unfold j4W
  dsimp only
  rw [Z9i hi,cond_true,j0i hi,cond_true,Z92 _ _ _ hi,jpl t _ (by unfold LIM;omega),j03 (n:=(i:Int)+1) (by omega)]
  unfold jaH
  by_cases h1:j19 t.2.1 t.2.2[i]<=last
  ·rw [decide_eq_true h1];rfl
  ·have hr:=(jbe t.2.1 t.2.2[i]).2
   rw [decide_eq_false h1,cond_false,cond_false,Z9c (by omega) hr,cond_true]
   cases (nth zC t.2.1 (j19 t.2.1 t.2.2[i])).2.2.1<;>rfl) (λlast rec _=>by
  show j4W _ _ t _ _ _ _ _=_
  unfold j4W
  dsimp only
  rw [Z9h,cond_false])
 refine this.trans ?_
 rcases jiS t.2.1 t.2.2 0 (-1) with ⟨z,h1,h2⟩ | ⟨h1,h2⟩<;>rw [h1,h2]<;>rfl
theorem jq1 (t:T) (h:tSm t) (a b:Unit->Res):j9z t.2.2 (nI t.2.2.length) t Z0Y (-1) 0 a b=bif j6K t.2.1 (-1) t.2.2 then a () else b ():=by
 have hh:=h
 obtain ⟨m1,m2,m3,m4,m5⟩:=hh
 unfold j9z
 have:=Z3m t.2.2 (λi last=>(last,i)) (λ_ last k=>jaH t.2.1 last k) (λ_ last=> -1<=last) (step:=j7j t.2.2 (nI t.2.2.length) t) (a,b) (λ_=>a ()) (λ_=>b ()) (-1) (by unfold LIM;omega) (by omega) (λi last last' hi h0 hk=>by
  unfold jaH at hk
  have:=(jbe t.2.1 t.2.2[i]).1
  cases h1:decide (j19 t.2.1 t.2.2[i]<=last)
  ·rw [h1,cond_false] at hk
   cases h2:(nth zC t.2.1 (j19 t.2.1 t.2.2[i])).2.2.1
   ·rw [h2] at hk;cases hk
   ·rw [h2] at hk
    cases hk
    exact this
  ·rw [h1] at hk;cases hk) (λi last rec hi h0=>by
  show j4G _ _ t _ _ _ _ _=_
  unfold j4G
  dsimp only
  rw [Z9i hi,cond_true,j0i hi,cond_true,Z92 _ _ _ hi,jpc t _ (by unfold LIM;omega),j03 (n:=(i:Int)+1) (by omega)]
  unfold jaH
  by_cases h1:j19 t.2.1 t.2.2[i]<=last
  ·rw [decide_eq_true h1];rfl
  ·have hr:=(jbe t.2.1 t.2.2[i]).2
   rw [decide_eq_false h1,cond_false,cond_false,Z9c (by omega) hr,cond_true]
   cases (nth zC t.2.1 (j19 t.2.1 t.2.2[i])).2.2.1<;>rfl) (λlast rec _=>by
  show j4G _ _ t _ _ _ _ _=_
  unfold j4G
  dsimp only
  rw [Z9h,cond_false])
 refine this.trans ?_
 rcases jiS t.2.1 t.2.2 0 (-1) with ⟨z,h1,h2⟩ | ⟨h1,h2⟩<;>rw [h1,h2]<;>rfl
theorem jth (t:T) (k:Bool->Res):j6T t k=j2f t.1 λw=>k (!(w&&(decide (1<=t.2.1.length)&&(decide (t.2.1.length<=8)&&decide (1<=t.2.2.length))))):=by
 unfold j6T
 congr 1
 funext w
 unfold nI
 cases w
 ·rfl
 ·rw [Bool.not_true,cond_false,Bool.true_and]
  by_cases h1:1<=t.2.1.length
  ·rw [decide_eq_false (show ¬ (t.2.1.length:Int)<1 by omega),cond_false,decide_eq_true h1,Bool.true_and]
   by_cases h2:t.2.1.length<=8
   ·rw [decide_eq_false (show ¬ (t.2.1.length:Int)>8 by omega),cond_false,decide_eq_true h2,Bool.true_and]
    congr 1
    by_cases h3:1<=t.2.2.length
    ·rw [decide_eq_false (show ¬ (t.2.2.length:Int)<1 by omega),decide_eq_true h3];rfl
    ·rw [decide_eq_true (show (t.2.2.length:Int)<1 by omega),decide_eq_false h3];rfl
   ·rw [decide_eq_true (show (t.2.1.length:Int)>8 by omega),decide_eq_false h2];rfl
  ·rw [decide_eq_true (show (t.2.1.length:Int)<1 by omega),decide_eq_false h1];rfl
theorem jrr (t:T) (h:tSm t) (k:Bool->Res):jal t k=k (jfa t):=by
 have hh:=h
 obtain ⟨m1,m2,m3,m4,m5⟩:=hh
 unfold jal jfa
 rw [jth,j7d _ (by unfold LIM;omega),jq4 t h,jq5 t h]
 cases j0Y t.1&&(decide (1<=t.2.1.length)&&(decide (t.2.1.length<=8)&&decide (1<=t.2.2.length)))
 ·rfl
 ·cases jch t.2.1
  ·rfl
  ·cases j6K t.2.1 (-1) t.2.2<;>rfl
theorem jrj (t:T) (h:tSm t) (k:Bool->Res):jaa t k=k (jfa t):=by
 have hh:=h
 obtain ⟨m1,m2,m3,m4,m5⟩:=hh
 unfold jaa jfa
 rw [j79 _ (by unfold LIM;omega),j1P,jq0 t h,jq1 t h]
 have hd:decide (1<=nI t.2.1.length/\nI t.2.1.length<=8)=(decide (1<=t.2.1.length)&&decide (t.2.1.length<=8)):=by
  rw [<-Bool.decide_and]
  exact decide_eq_decide.2 (by unfold nI;omega)
 have hk:decide (nI t.2.2.length>0)=decide (1<=t.2.2.length):=decide_eq_decide.2 (by unfold nI;omega)
 rw [hd,hk]
 cases jch t.2.1
 ·rw [Bool.false_and,Bool.and_false];rfl
 ·cases j6K t.2.1 (-1) t.2.2
  ·rw [Bool.and_false,Bool.and_false];rfl
  ·cases j0Y t.1
   ·rfl
   ·cases decide (1<=t.2.1.length)
    ·rfl
    ·cases decide (t.2.1.length<=8)
     ·rfl
     ·cases decide (1<=t.2.2.length)<;>rfl
end Go.PI.G
