/-
  Program's code interpreted over typed values; printed texts; plain laws. No conditions.
-/
import Derived.Test.YtnemiodjnhfejaaGreatPTl
import Derived.Test.YtnemiodjnhfejaaGreatPTg
import Derived.Test.YtnemiodjnhfejaaGreatPTj
import Derived.Test.YtnemiodjnhfejaaGreatPTk
import Derived.Test.YtnemiodjnhfejaaGreatPTh
set_option linter.unusedVariables false
set_option linter.unusedSimpArgs false
namespace Go.PI.G
open Go Go.PI Go.Proofs
theorem jrw {t:T} {d:D} (g:d.2.1=t.1) (f:d.1≠1):j0c [t] d=j0A t d:=by
 have b:j04 [t] d.2.1=(0:Int):=by
  have:=jfz (c:=[t]) (by simp) (i:=0) (by simp)
  rw [g]
  exact this
 unfold j0c
 rw [show (d.1==1)=false by simpa using f,cond_false,b]
 rfl
theorem jp8 (d:D) (l:List (List V)) (m:l.length<=60) (j:∀ x∈l,x.length<=1048576) (h:0<d.2.2.1.length) (k:List (List V)->Res):j7V (nI l.length) d Z1c l 0 k=k (l.map λx=>x++[(nth zC d.2.2.1 0).2.2.2.2]):=by
 unfold j7V
 have:=Z3u (step:=j5L (nI l.length) d) (λi=>((l.take i).map (λx:List V=>x++[(nth zC d.2.2.1 0).2.2.2.2])++l.drop i,(i:Int))) l.length k (k (l.map λx=>x++[(nth zC d.2.2.1 0).2.2.2.2])) (λi b rec=> ?_) (λrec=> ?_) Z1c (Z2b (by omega))
 ·refine Eq.trans ?_ this
  simp
 ·show j3e _ _ _ _ _ _=_
  unfold j3e
  dsimp only
  have p:=j _ (List.getElem_mem b)
  have g:inb (i:Int) ((l.take i).map (λx:List V=>x++[(nth zC d.2.2.1 0).2.2.2.2])++l.drop i).length=true:=j00 (by rw [jgH];exact b)
  have f:∀ y:List V,inb (i:Int) (((l.take i).map (λx:List V=>x++[(nth zC d.2.2.1 0).2.2.2.2])++l.drop i).set i y).length=true:=λy=>j00 (by rw [List.length_set,jgH];exact b)
  rw [ZaQ b,cond_true,g,cond_true,show inb 0 d.2.2.1.length=true from j00 (i:=0) h,cond_true,jp3 _ _ _ _ b,ZaL (by unfold LIM;omega),cond_true,ZaF,f,cond_true,jdV,cond_true,j01 (n:=(i:Int)+1) (by omega),<-jp4 _ _ _ b]
  rfl
 ·show j3e _ _ _ _ _ _=_
  unfold j3e
  dsimp only
  rw [ZaP,cond_false,List.take_length,List.drop_length,List.append_nil]
theorem jpa (a:Nat) (l:List (List V)) (z:l.length<=60) (q:∀ x∈l,a<x.length/\x.length<=1048576) (k:List (List V)->Res):j7W (a:Int) (nI l.length) Z1c l 0 k=k (l.map λx=>x.eraseIdx a):=by
 unfold j7W
 have:=Z3u (step:=j5M (a:Int) (nI l.length)) (λi=>((l.take i).map (λx:List V=>x.eraseIdx a)++l.drop i,(i:Int))) l.length k (k (l.map λx=>x.eraseIdx a)) (λi b rec=> ?_) (λrec=> ?_) Z1c (Z2b (by omega))
 ·refine Eq.trans ?_ this
  simp
 ·show j3f _ _ _ _ _ _=_
  unfold j3f j9k jc1
  dsimp only
  obtain ⟨r,w⟩:=q _ (List.getElem_mem b)
  have f:inb (i:Int) ((l.take i).map (λx:List V=>x.eraseIdx a)++l.drop i).length=true:=j00 (by rw [jgH];exact b)
  have d:∀ y:List V,inb (i:Int) (((l.take i).map (λx:List V=>x.eraseIdx a)++l.drop i).set i y).length=true:=λy=>j00 (by rw [List.length_set,jgH];exact b)
  have p:l[i].take a++l[i].drop (a+1)=l[i].eraseIdx a:=(List.eraseIdx_eq_take_drop_succ _ _).symm
  have m:Z8e (a:Int) ((a:Int)+1) l[i].length=true:=ja8 (j:=a+1) ⟨by omega,by omega⟩
  have g:(a:Int).toNat=a:=Int.toNat_natCast a
  have h:((a:Int)+1).toNat=a+1:=by omega
  rw [ZaQ b,cond_true,f,cond_true,jp3 _ _ _ _ b,j01 (n:=(a:Int)+1) (by omega),m,cond_true,g,h,p,ZaF,d,cond_true,jdV,cond_true,j01 (n:=(i:Int)+1) (by omega),<-jp4 _ _ _ b]
  rfl
 ·show j3f _ _ _ _ _ _=_
  unfold j3f
  dsimp only
  rw [ZaP,cond_false,List.take_length,List.drop_length,List.append_nil]
theorem jmF (t:T) (h:msr yT t<=1048576) (l:List (List V)) (g:j09 t l=true) (d:D) (n:dSm d) (m:j1b d=true) (w:d.2.1=t.1) (i:d.1≠1) (k:List (List V)->Int->Res) :
  j6e t l d k=k (bif j0A t d != 0 then [] else bif d.1==2 then [] else jg0 t d l) (j0A t d):=by
 obtain ⟨ht,z,F⟩:=j0m g
 obtain ⟨f,A⟩:=jgF m
 unfold j6e j5b
 rw [j9w t h,g,Bool.not_true,cond_false,jhl d n,m,Bool.not_true,cond_false]
 have r:sNe d.2.1 t.1=false:=by unfold sNe;rw [w];simp
 rw [r,cond_false,show (d.1==1)=false by simpa using i]
 dsimp only
 rw [cond_false,jjW _ _ (jmB ht).2 m,jrw w i]
 cases B:(j0A t d != 0)
 rotate_left
 ·rfl
 have b:j0A t d=0:=by simpa using B
 have q:=(j2U h).2.1
 rw [cond_false,cond_false,j8h l (by omega) (jgS h g),b]
 rcases f with e | e | e | e | e
 ·exact absurd e i
 ·rw [e];rfl
 ·unfold jg0
  rw [e]
  simp only [show ((3:Int)==2)=false from rfl,show ((3:Int)==3)=true from rfl,cond_false,cond_true]
  rw [jp8 d l z (jgS h g) (A e)]
 ·unfold jg0
  have G:¬ j02 t.2.1 d.2.2.2.2.1<0:=λp=>by
   unfold j0A at b
   rw [e] at b
   simp only [show ((4:Int)==3)=false from rfl,show ((4:Int)==4)=true from rfl,cond_false,cond_true,decide_eq_true p] at b
   cases b
  rcases j1k t.2.1 d.2.2.2.2.1 with ⟨y,_⟩ | ⟨j,C,y,_,_⟩
  ·omega
  rw [e]
  simp only [show ((4:Int)==2)=false from rfl,show ((4:Int)==3)=false from rfl,show ((4:Int)==4)=true from rfl,cond_false,cond_true]
  rw [j8g _ _ (by unfold LIM;omega),y,jpa j l z (λx E=>by rw [j0D (F x E)];exact ⟨C,q⟩)]
  rfl
 ·unfold jg0
  rw [e]
  rfl
end Go.PI.G
namespace Go.PI.G
open Go Go.PI Go.Proofs
theorem je0 {c:List T} (h:j2m c=true):msr (.slice yT) c<=1048576:=by
 obtain ⟨b,d,_⟩:=(j0e c).1 h
 have:=j7I (e:=yT) 400 c (λt ht=>jaI (d t ht))
 have f:c.length * (400+1)<=6 * 401:=Nat.mul_le_mul b (Nat.le_refl _)
 omega
theorem jjh (l:List (List V)) (h:l.length<=1048576) (f:∀ x∈l,x.length<=1048576) (k:List (List V)->Res):j6R l k=k l:=by
 unfold j6R jfx
 have:=Z9T l (λi b=>(b,i)) (λx=>[x]) 1048576 [] (step:=j9o l (nI l.length)) (λb=>k b) (λb=>k b) (by unfold LIM;omega) (λi d _=>by
  rw [j0W,List.nil_append,List.length_take];omega) (by simp) (λi b rec d j g=>by
  show j3u _ _ _ _ _ _=_
  unfold j3u j0b
  dsimp only
  rw [ZaQ d,cond_true,j00 d,cond_true,Zay _ _ _ d,jcL (f _ (List.getElem_mem d)),cond_true,ZaL (by unfold LIM;omega),cond_true,j01 (n:=(i:Int)+1) (by omega)]) (λb rec=>by
  show j3u _ _ _ _ _ _=_
  unfold j3u
  dsimp only
  rw [ZaP,cond_false])
 refine this.trans ?_
 rw [j0W,List.nil_append]
theorem jc0 {d:DB} (h:dbB d=true):j2m d.1=true/\d.1.length<=6/\d.2.length=d.1.length/\∀ x∈d.2,x.length<=60/\∀ r∈x,r.length<=1048576:=by
 obtain ⟨b,k,l⟩:=(j1B d).1 h
 have n:=je0 b
 refine ⟨b,((j0e _).1 b).1,k,λx p=> ?_⟩
 obtain ⟨i,m,rfl⟩:=List.mem_iff_getElem.1 p
 have g:=l i (by omega) m
 refine ⟨(j0m g).2.1,λr f=> ?_⟩
 have q:=j0D ((j0m g).2.2 r f)
 have j:=(jeh n).2 _ (List.getElem_mem (show i<d.1.length by omega))
 have:=j.2.1
 omega
theorem jmg (d:DB) (h:dbB d=true) (k:DB->Res):j1U d k=k d:=by
 obtain ⟨g,m,p,j⟩:=jc0 h
 unfold j1U
 rw [jk4 _ (je0 g)]
 unfold jbx
 have:=Z9T d.2 (λi b=>(i,(d.1,b))) (λx=>[x]) 1048576 [] (step:=j60 d.2 (nI d.2.length)) (λb=>k b) (λb=>k (d.1,b)) (by unfold LIM;omega) (λi f _=>by
  rw [j0W,List.nil_append,List.length_take];omega) (by simp) (λi b rec f r q=>by
  show j3w _ _ _ _ _ _=_
  unfold j3w
  obtain ⟨w,l⟩:=j _ (List.getElem_mem f)
  dsimp only
  rw [ZaQ f,cond_true,j00 f,cond_true,Zay _ _ _ f,jjh _ (by omega) l,ZaL (by unfold LIM;omega),cond_true,j01 (n:=(i:Int)+1) (by omega)]) (λb rec=>by
  show j3w _ _ _ _ _ _=_
  unfold j3w
  dsimp only
  rw [ZaP,cond_false])
 refine this.trans ?_
 rw [j0W,List.nil_append]
theorem jhk (d:DB) (h:dbB d=true) (k:DB->Res):j1l d k=k d:=by
 obtain ⟨g,m,p,j⟩:=jc0 h
 unfold j1l
 rw [jjV _ (je0 g)]
 unfold jc7
 have:=Z9T d.2 (λi b=>(i,(d.1,b))) (λx=>[x]) 1048576 [] (step:=j75 d.2 (nI d.2.length)) (λb=>k b) (λb=>k (d.1,b)) (by unfold LIM;omega) (λi f _=>by
  rw [j0W,List.nil_append,List.length_take];omega) (by simp) (λi b rec f r q=>by
  show j44 _ _ _ _ _ _=_
  unfold j44
  obtain ⟨w,l⟩:=j _ (List.getElem_mem f)
  dsimp only
  rw [ZaQ f,cond_true,j00 f,cond_true,Zay _ _ _ f,j8h _ (by omega) l,ZaL (by unfold LIM;omega),cond_true,j01 (n:=(i:Int)+1) (by omega)]) (λb rec=>by
  show j44 _ _ _ _ _ _=_
  unfold j44
  dsimp only
  rw [ZaP,cond_false])
 refine this.trans ?_
 rw [j0W,List.nil_append]
theorem jpR (t:T) (h:msr yT t<=1048576) (l:List (List V)) (s:ST) (b:s.1≠5) (k:List (List V)->Int->Res):j1p t l s k=k (j2V t l s).1 (j2V t l s).2:=by
 unfold j1p j2V
 cases (s.1==1)
 ·rw [cond_false,cond_false]
  cases (s.1==2)
  ·rw [cond_false,cond_false]
   cases (s.1==3)
   ·rw [cond_false,cond_false,show (s.1==5)=false by simpa using b]
    rfl
   ·rw [cond_true,cond_true,joE t h]
  ·rw [cond_true,cond_true,joG t h]
 ·rw [cond_true,cond_true,joF t h]
end Go.PI.G
namespace Go.PI.G
open Go Go.PI Go.Proofs
theorem jtP (b:Int) (s:ST) (a z:Res):j8B b s (λ_=>a) (λ_=>z)=bif decide (b<0)&& !((s.1==5)&&(s.2.2.2.2.1==1)) then z else a:=by
 unfold j8B
 cases decide (b<0)
 ·rfl
 ·rw [cond_true,Bool.true_and]
  unfold bne
  cases (s.1==5)
  ·rfl
  ·cases (s.2.2.2.2.1==1)<;>rfl
theorem jqE {t:T} {l:List (List V)} {s:ST}:0<=(j2V t l s).2/\(j2V t l s).2<=5:=by
 unfold j2V j6q j6r j6p
 cases (s.1==1)
 ·cases (s.1==2)
  ·cases (s.1==3)
   ·simp
   ·simp only [cond_true,cond_false]
    cases j09 t l
    ·simp
    ·cases (!jb7 t s.2.2.1||decide (j06 t l s.2.2.1<0))<;>simp
  ·simp only [cond_true,cond_false]
   cases j09 t l
   ·simp
   ·cases j0v t.2.1 s.2.2.2.1
    ·simp
    ·cases (!jb7 t s.2.2.1||decide (j06 t l s.2.2.1<0))
     ·cases !decide (j06 t (l.eraseIdx (j06 t l s.2.2.1).toNat) (j07 t s.2.2.2.1)<0)<;>simp
     ·simp
 ·simp only [cond_true,cond_false]
  cases j09 t l
  ·simp
  ·cases j0v t.2.1 s.2.2.2.1
   ·simp
   ·cases !decide (j06 t l (j07 t s.2.2.2.1)<0)
    ·cases (l.length==60)<;>simp
    ·simp
theorem jpM (d:DB) (h:dbB d=true) (s:ST) (q:s.1≠5) (i:Nat) (f:i<d.1.length) (g:j04 d.1 s.2.1=(i:Int)) (k:DB->Int->Res) :
  (bif inb (i:Int) d.1.length then
          bif inb (i:Int) d.2.length then
           j1p (nth zT d.1 (i:Int)) (nth [] d.2 (i:Int)) s λ(w:List (List V)) (r:Int)=>
            bif (r != 0) then
             k ([],[]) (Z9K (10+r))
            else
             j1U d λ(m:DB)=>
              bif inb (i:Int) (List.length m.2) then
               k (m.1,upd m.2 (i:Int) w) 0
              else none
          else none
         else none)=k (j2b d s).1 (j2b d s).2:=by
 obtain ⟨p,y,z⟩:=(j1B d).1 h
 have b:i<d.2.length:=by omega
 have B:=(jeh (je0 p)).2 _ (List.getElem_mem f)
 have ht:j05 d.1[i]=true:=((j0e _).1 p).2.1 _ (List.getElem_mem f)
 have j:msr yT d.1[i]<=1048576:=Nat.le_trans (jaI ht) (by omega)
 rw [j00 f,cond_true,j00 b,cond_true,Zay _ _ _ f,Zay _ _ _ b,jpR _ j _ _ q]
 unfold j2b
 rw [g,decide_eq_false (by omega),Bool.false_and,cond_false,show (s.1==5)=false by simpa using q,cond_false,Zay _ _ _ f,Zay _ _ _ b]
 have A:=jqE (t:=d.1[i]) (l:=d.2[i]) (s:=s)
 cases C:((j2V d.1[i] d.2[i] s).2 != 0)
 ·rw [cond_false,cond_false,jmg d h,j00 b,cond_true,ZaF,Int.toNat_natCast]
 ·rw [cond_true,cond_true,j01 (n:=10+(j2V d.1[i] d.2[i] s).2) (by omega)]
end Go.PI.G
namespace Go.PI.G
open Go Go.PI Go.Proofs
noncomputable def j9R (d:DB) (x:D) (u:T):List (List V):=
 bif decide (j04 d.1 u.1>=0)&&sEq u.1 x.2.1 then (bif x.1==2 then [] else jg0 (nth zT d.1 (j04 d.1 u.1)) x (nth [] d.2 (j04 d.1 u.1)))
 else bif decide (j04 d.1 u.1>=0) then nth [] d.2 (j04 d.1 u.1) else []
theorem jrh (d:DB) (h:dbB d=true) (s:ST) (z:s.1=5) (B:s.2.2.2.2.2.1=s.2.1) (q:dSm s.2.2.2.2) (E:j1b s.2.2.2.2=true) (l:j0c d.1 s.2.2.2.2=0) (u:T) (k:List (List V)->Res) :
  (j1v d.1 u.1 λ(r:Int)=>j3v r s u λ(t:Bool)=>j20 r t d s [] k)=k (j9R d s.2.2.2.2 u):=by
 obtain ⟨C,J,D⟩:=(j1B d).1 h
 obtain ⟨_,G,_,g⟩:=jc0 h
 rw [j8y _ _ (by unfold LIM;omega)]
 unfold j3v j20 j9R
 rw [B]
 rcases j0s d.1 u.1 with ⟨p,_⟩ | ⟨i,n,p,A⟩
 ·rw [p]
  rfl
 ·have w:decide (j04 d.1 u.1>=0)=true:=decide_eq_true (by omega)
  have f:i<d.2.length:=by omega
  rw [w,Bool.true_and,cond_true,p,j00 n,j00 f,Zay _ _ _ n,Zay _ _ _ f]
  cases H:sEq u.1 s.2.1
  ·obtain ⟨K,I⟩:=g _ (List.getElem_mem f)
   simp only [cond_false,cond_true]
   rw [jjh _ (by omega) I]
  ·have b:u.1=s.2.1:=(j0a _ _).1 H
   have ht:j05 d.1[i]=true:=((j0e _).1 C).2.1 _ (List.getElem_mem n)
   have y:msr yT d.1[i]<=1048576:=Nat.le_trans (jaI ht) (by omega)
   have m:j04 d.1 s.2.2.2.2.2.1=(i:Int):=by rw [B,<-b];exact p
   have j:s.2.2.2.2.1≠1:=λe=>by
    unfold j0c at l
    rw [e,m] at l
    rw [decide_eq_false (show ¬ (i:Int)<0 by omega)] at l
    cases l
   have F:j0A d.1[i] s.2.2.2.2=0:=by
    unfold j0c at l
    rw [show (s.2.2.2.2.1==1)=false by simpa using j,cond_false,m,decide_eq_false (show ¬ (i:Int)<0 by omega),cond_false,Zay _ _ _ n] at l
    exact l
   simp only [cond_true]
   unfold j1p
   rw [z]
   simp only [show ((5:Int)==1)=false from rfl,show ((5:Int)==2)=false from rfl,show ((5:Int)==3)=false from rfl,show ((5:Int)==5)=true from rfl,cond_false,cond_true,Z9Q]
   rw [jnb _ y _ (D i n f) _ q E (by rw [B,<-b];exact A.symm) j,F]
   rfl
theorem joW {c:List T} {d:D} (b:j2m c=true) (f:j1b d=true):jg1 c d=bif j0c c d != 0 then ([],j0c c d) else (j1c c d,0):=by
 unfold jg1
 rw [b,f]
 rfl
theorem jlk (c:List T) (d:D):0<=j0c c d/\j0c c d<=8:=by
 unfold j0c j0A
 cases (d.1==1)
 ·cases decide (j04 c d.2.1<0)
  ·generalize nth zT c (j04 c d.2.1)=t
   cases (d.1==3)
   ·cases (d.1==4)
    ·cases (d.1==5)
     ·simp
     ·cases decide (j02 t.2.1 d.2.2.2.2.2<0)
      ·simp
      ·cases decide (j02 t.2.1 d.2.2.2.2.1<0)<;>simp
    ·cases decide (j02 t.2.1 d.2.2.2.2.1<0)
     ·cases t.2.2.any (λx=>sEq x d.2.2.2.2.1)<;>simp
     ·simp
   ·cases decide (j02 t.2.1 (nth zC d.2.2.1 0).1<0)
    ·simp
    ·cases (t.2.1.length==8)<;>simp
  ·simp
 ·cases decide (j04 c d.2.1<0)
  ·simp
  ·cases (c.length==6)<;>simp
theorem jn9 (d:DB) (h:dbB d=true) (s:ST) (q:s.1=5) (y:s.2.2.2.2.2.1=s.2.1) (j:dSm s.2.2.2.2) (p:j1b s.2.2.2.2=true) (k:DB->Int->Res) :
  j3W d s k=bif j0c d.1 s.2.2.2.2 != 0 then k ([],[]) (10+j0c d.1 s.2.2.2.2) else k (j1c d.1 s.2.2.2.2,(j1c d.1 s.2.2.2.2).map (j9R d s.2.2.2.2)) 0:=by
 obtain ⟨m,z,A⟩:=(j1B d).1 h
 have D:=jlk d.1 s.2.2.2.2
 unfold j3W
 rw [jk5 _ _ (je0 m) j,joW m p]
 cases r:(j0c d.1 s.2.2.2.2 != 0)
 rotate_left
 ·rw [cond_true]
  dsimp only
  rw [r,cond_true,cond_true,j01 (n:=10+j0c d.1 s.2.2.2.2) (by omega)]
 have g:j0c d.1 s.2.2.2.2=0:=by simpa using r
 have f:=jmD m p g
 have w:=((j0e _).1 f).1
 rw [cond_false,cond_false]
 show (j5Z (j1c d.1 s.2.2.2.2) (nI (j1c d.1 s.2.2.2.2).length) d s Z1c 0 (j1c d.1 s.2.2.2.2,[]) λb=>k b 0)=_
 generalize j1c d.1 s.2.2.2.2=c' at *
 unfold j5Z
 have:=Z9T c' (λi b=>(i,(c',b))) (λu=>[j9R d s.2.2.2.2 u]) 6 [] (step:=j2l c' (nI c'.length) d s) (λb=>k b 0) (λb=>k (c',b) 0) (by unfold LIM;omega) (λi l _=>by
  rw [jff,List.nil_append,List.length_map,List.length_take];omega) (by simp) (λi b rec l C B=>by
  show j1j _ _ _ _ _ _ _ _=_
  unfold j1j
  dsimp only
  rw [ZaQ l,cond_true,j00 l,cond_true,Zay _ _ _ l,jrh d h s q y j p g,ZaL (by unfold LIM;omega),cond_true,j01 (n:=(i:Int)+1) (by omega)]) (λb rec=>by
  show j1j _ _ _ _ _ _ _ _=_
  unfold j1j
  dsimp only
  rw [ZaP,cond_false])
 refine this.trans ?_
 rw [jff,List.nil_append]
end Go.PI.G
namespace Go.PI.G
open Go Go.PI Go.Proofs
theorem jrR {d:DB} (h:msr yDB d<=1048576):msr (.slice yT) d.1<=1048576/\d.1.length<=1048576/\d.2.length<=1048576/\(∀ t∈d.1,msr yT t<=1048576)/\∀ l∈d.2,l.length<=1048576:=by
 have i:msr yDB d=msr (.slice yT) d.1+msr (.slice (.slice (.slice yV))) d.2:=rfl
 have b:msr (.slice yT) d.1<=1048576:=by omega
 have f:msr (.slice (.slice (.slice yV))) d.2<=1048576:=by omega
 exact ⟨b,j0l b,j0l f,λt ht=>j0M b ht,λl g=>j0l (j0M f g)⟩
theorem jjf (d:DB) (h:msr yDB d<=1048576) (k:Bool->Res):j6Z d k=k (dbB d):=by
 obtain ⟨j,m,p,l,q⟩:=jrR h
 unfold j6Z dbB
 rw [jme _ j]
 cases j2m d.1
 ·rfl
 ·rw [Bool.not_true,cond_false,Bool.true_and]
  by_cases f:d.2.length=d.1.length
  ·have g:(nI d.2.length != nI d.1.length)=false:=by rw [f,ZaO]
   rw [g,cond_false,decide_eq_true f,Bool.true_and]
   unfold jeP
   have:=Z9P d.1 (λi=>i) (λi t=> !j09 t (nth [] d.2 (i:Int))) (step:=j93 d.1 (nI d.1.length) d) ((λ(_:Unit)=>k true),(λ(_:Unit)=>k false)) (k true) (k false) (by unfold LIM;omega) (λi rec b=>by
    show j6K _ _ d _ _ _ _=_
    unfold j6K
    rw [ZaQ b,cond_true,j00 b,cond_true,j00 (f ▸ b),cond_true,Zay _ _ _ b,j7J _ (l _ (List.getElem_mem b)),j01 (n:=(i:Int)+1) (by omega)]) (λrec=>by
    show j6K _ _ d _ _ _ _=_
    unfold j6K
    rw [ZaP,cond_false])
   refine this.trans ?_
   cases Z71 (λi t=> !j09 t (nth [] d.2 (i:Int))) 0 d.1<;>rfl
  ·have g:(nI d.2.length != nI d.1.length)=true:=by unfold nI;simp;omega
   rw [g,cond_true,decide_eq_false f,Bool.false_and]
theorem jrJ (d:DB) (h:msr yDB d<=1048576) (k:Bool->Res):jaF d k=k (dbB d):=by
 obtain ⟨j,m,p,l,q⟩:=jrR h
 unfold jaF dbB
 rw [jlo _ j]
 cases j2m d.1
 ·rfl
 ·rw [Bool.not_true,cond_false,Bool.true_and]
  by_cases f:d.2.length=d.1.length
  ·have g:(nI d.2.length != nI d.1.length)=false:=by rw [f,ZaO]
   rw [g,cond_false,decide_eq_true f,Bool.true_and]
   unfold jen
   have:=Z9P d.1 (λi=>i) (λi t=> !j09 t (nth [] d.2 (i:Int))) (step:=j8R d.1 (nI d.1.length) d) ((λ(_:Unit)=>k true),(λ(_:Unit)=>k false)) (k true) (k false) (by unfold LIM;omega) (λi rec b=>by
    show j6b _ _ d _ _ _ _=_
    unfold j6b
    rw [ZaQ b,cond_true,j00 b,cond_true,j00 (f ▸ b),cond_true,Zay _ _ _ b,j9w _ (l _ (List.getElem_mem b)),j01 (n:=(i:Int)+1) (by omega)]) (λrec=>by
    show j6b _ _ d _ _ _ _=_
    unfold j6b
    rw [ZaP,cond_false])
   refine this.trans ?_
   cases Z71 (λi t=> !j09 t (nth [] d.2 (i:Int))) 0 d.1<;>rfl
  ·have g:(nI d.2.length != nI d.1.length)=true:=by unfold nI;simp;omega
   rw [g,cond_true,decide_eq_false f,Bool.false_and]
end Go.PI.G
namespace Go.PI.G
open Go Go.PI Go.Proofs
theorem jk1 {d:DB} (h:dbB d=true) (x:D) {j:Nat} (i:j<d.1.length) (b:j<d.2.length) (k:d.1[j].1≠x.2.1):j9R d x d.1[j]=d.2[j]:=by
 obtain ⟨g,l,m⟩:=(j1B d).1 h
 unfold j9R
 have f:sEq d.1[j].1 x.2.1=false:=by
  cases f:sEq d.1[j].1 x.2.1
  ·rfl
  ·exact absurd ((j0a _ _).1 f) k
 rw [f,Bool.and_false,cond_false,jfz ((j0e _).1 g).2.2 i,decide_eq_true (by omega),cond_true,Zay _ _ _ b]
theorem jrZ {d:DB} (h:dbB d=true) (x:D) {i:Nat} (n:i<d.1.length) (q:i<d.2.length) (r:d.1[i].1=x.2.1):d.1.map (j9R d x)=d.2.set i (j9R d x d.1[i]):=by
 obtain ⟨l,m,y⟩:=(j1B d).1 h
 apply List.ext_getElem
 ·simp [m]
 ·intro j w z
  have g:j<d.1.length:=by simpa using w
  rw [List.getElem_map,List.getElem_set]
  by_cases e:i=j
  ·subst e
   rw [if_pos rfl]
  ·rw [if_neg e]
   refine jk1 h x g (by omega) λk=> ?_
   have p:=((j0e _).1 l).2.2
   have b:=jn1 p n g e
   rw [r,k,jdX] at b
   rcases b with f | f<;>cases f
theorem jto {d:DB} (h:dbB d=true) {x:D} (K:j1b x=true) (A:j0c d.1 x=0):(j1c d.1 x).map (j9R d x)=jjo d x:=by
 obtain ⟨F,J,P⟩:=(j1B d).1 h
 have C:=(j0e _).1 F
 unfold jjo
 cases r:(x.1==1)
 ·rw [cond_false]
  rcases j0s d.1 x.2.1 with ⟨l,_⟩ | ⟨i,B,l,z⟩
  ·unfold j0c at A
   rw [r,cond_false,decide_eq_true (by omega),cond_true] at A
   cases A
  ·have k:i<d.2.length:=by omega
   have g:=jrZ h x B k z
   unfold j1c
   rw [r,cond_false,l,Zay _ _ _ B,Zay _ _ _ k,Int.toNat_natCast]
   cases I:(x.1==2)
   ·rw [cond_false,cond_false,List.map_set,g,List.set_set]
    congr 1
    unfold j9R
    rw [jiI,z,Zah,Bool.and_true,l,decide_eq_true (by omega),cond_true,I,cond_false,Zay _ _ _ B,Zay _ _ _ k]
   ·rw [cond_true,cond_true,List.eraseIdx_eq_take_drop_succ,List.eraseIdx_eq_take_drop_succ,List.map_append,List.map_take,List.map_drop,g,List.take_set,List.set_eq_of_length_le (by rw [List.length_take];omega),List.drop_set_of_lt (by omega)]
 ·rw [cond_true]
  have e:x.1=1:=by simpa using r
  have b:=A
  unfold j0c at b
  rw [r,cond_true] at b
  rcases j0s d.1 x.2.1 with ⟨l,E⟩ | ⟨i,B,l,_⟩
  rotate_left
  ·rw [decide_eq_false (by omega)] at b
   cases b
  have ht:j05 (x.2.1,x.2.2.1,x.2.2.2.1)=true:=by
   obtain ⟨_,⟨t,cs,ks,rfl,ht⟩ | ⟨t,rfl⟩ | ⟨t,c,rfl,_⟩ | ⟨t,n,rfl,_⟩ | ⟨t,n,m,rfl,_⟩⟩:=j8P K
   ·exact ht
   all_goals exact absurd e (by simp)
  have G:d.1.length<6:=by
   rw [decide_eq_true (by omega),Bool.not_true,cond_false] at b
   have G:=C.1
   rcases Nat.lt_or_ge d.1.length 6 with q | q
   ·exact q
   ·rw [show (d.1.length==6)=true from beq_iff_eq.2 (by omega)] at b
    cases b
  obtain ⟨p,Q,f,y⟩:=jpn F ht (show j04 d.1 x.2.1<0 by omega) G
  have w:d.1.map (j9R d x)=d.2:=by
   apply List.ext_getElem
   ·simp [J]
   ·intro j L M
    have H:j<d.1.length:=by simpa using L
    rw [List.getElem_map]
    exact jk1 h x H M (E _ (List.getElem_mem H))
  unfold j1c
  rw [r,cond_true]
  have f:j04 (lay tR (x.2.1,x.2.2.1,x.2.2.2.1) d.1) x.2.1=(p:Int):=f
  rw [f,Int.toNat_natCast,y,List.map_append,List.map_cons,List.map_take,List.map_drop,w]
  congr 2
  unfold j9R
  rw [l]
  rfl
theorem jsH {t:T} {l:List (List V)} (h:j09 t l=true) (n:t.2.1.length<=8):msr (.slice (.slice yV)) l<=14940:=by
 obtain ⟨ht,g,d⟩:=j0m h
 have:=j7I (e:= .slice yV) 248 l (λr b=>by
  have i:=j7I (e:=yV) 30 r (λv f=>jr6 (jl3 (d r b) v f))
  have j:=j0D (d r b)
  have k:r.length * (30+1)<=8 * 31:=Nat.mul_le_mul (by omega) (Nat.le_refl _)
  omega)
 have m:l.length * (248+1)<=60 * 249:=Nat.mul_le_mul g (Nat.le_refl _)
 omega
theorem jiK {d:DB} (h:dbB d=true):msr yDB d<=1048576:=by
 obtain ⟨g,m,j⟩:=(j1B d).1 h
 have f:=((j0e _).1 g).1
 have q:=j7I (e:=yT) 400 d.1 (λt ht=>jaI (((j0e _).1 g).2.1 t ht))
 have n:d.1.length * (400+1)<=6 * 401:=Nat.mul_le_mul f (Nat.le_refl _)
 have r:=j7I (e:= .slice (.slice yV)) 14940 d.2 (λx l=>by
  obtain ⟨i,k,rfl⟩:=List.mem_iff_getElem.1 l
  have b:=j i (by omega) k
  exact jsH b ((j7h _).1 (j0m b).1).2.2.1)
 have p:d.2.length * (14940+1)<=6 * 14941:=Nat.mul_le_mul (by omega) (Nat.le_refl _)
 have e:msr yDB d=msr (.slice yT) d.1+msr (.slice (.slice (.slice yV))) d.2:=rfl
 omega
theorem js4 {s:ST} (d:stB s=true) (f:s.1=5):j1b s.2.2.2.2=true/\s.2.2.2.2.2.1=s.2.1:=by
 unfold stB at d
 rw [f,Bool.and_eq_true] at d
 have b:=d.2
 simp only [show ((5:Int)==1)=false from rfl,show ((5:Int)==2)=false from rfl,show ((5:Int)==3)=false from rfl,show ((5:Int)==4)=false from rfl,show ((5:Int)==5)=true from rfl,cond_false,cond_true,Bool.and_eq_true] at b
 exact ⟨b.2.2.1,(j0a _ _).1 b.2.2.2⟩
theorem jqu (d:DB) (h:dbB d=true) (s:ST) (b:j15 s) (n:stB s=true) (k:DB->Int->Res):j8A d s k=k (j2b d s).1 (j2b d s).2:=by
 obtain ⟨p,A,B⟩:=(j1B d).1 h
 have y:=((j0e _).1 p).1
 unfold j8A
 rw [jjf d (jiK h),h,Bool.not_true,cond_false,jji s b,n,Bool.not_true,cond_false,j8y _ _ (by unfold LIM;omega),jtP]
 cases g:(decide (j04 d.1 s.2.1<0)&& !((s.1==5)&&(s.2.2.2.2.1==1)))
 rotate_left
 ·unfold j2b
  rw [g]
  rfl
 rw [cond_false]
 cases f:(s.1==5)
 ·rw [f,Bool.false_and,Bool.not_false,Bool.and_true] at g
  have r:¬ j04 d.1 s.2.1<0:=of_decide_eq_false g
  rcases j0s d.1 s.2.1 with ⟨j,_⟩ | ⟨i,w,j,_⟩
  ·omega
  rw [cond_false,j]
  exact jpM d h s (by simpa using f) i w j k
 ·have l:s.1=5:=by simpa using f
  obtain ⟨m,z⟩:=js4 n l
  rw [cond_true,jn9 d h s l z b.2.2.2 m]
  unfold j2b
  rw [g,f,cond_false,cond_true]
  cases q:(j0c d.1 s.2.2.2.2 != 0)
  ·rw [cond_false,cond_false,jto h m (by simpa using q)]
  ·rfl
end Go.PI.G
namespace Go.PI.G
open Go Go.PI Go.Proofs
theorem jtH (b:Int) (s:ST) (a z:Res):j8l b s (λ_=>a) (λ_=>z)=bif decide (b<0)&& !((s.1==5)&&(s.2.2.2.2.1==1)) then z else a:=by
 unfold j8l
 cases decide (b<0)
 ·rfl
 ·rw [cond_true,Bool.true_and]
  unfold bne
  cases (s.1==5)
  ·rfl
  ·cases (s.2.2.2.2.1==1)<;>rfl
theorem jpf (t:T) (h:msr yT t<=1048576) (l:List (List V)) (s:ST) (k:List (List V)->Int->Res):j6h l 0 s.1 s t k=k (j2V t l s).1 (j2V t l s).2:=by
 unfold j6h j2V
 cases (s.1==1)
 ·rw [cond_false,cond_false]
  cases (s.1==2)
  ·rw [cond_false,cond_false]
   cases (s.1==3)
   ·rfl
   ·rw [cond_true,cond_true,jo6 t h]
  ·rw [cond_true,cond_true,jo8 t h]
 ·rw [cond_true,cond_true,jo7 t h]
theorem jmE (d:DB) (h:dbB d=true) (x:D) (A:dSm x) (E:j1b x=true) (k:DB->Int->Res) :
  j6g d x k=bif j0c d.1 x != 0 then k ([],[]) (j0c d.1 x) else k (j1c d.1 x,jjo d x) 0:=by
 obtain ⟨y,Y,K⟩:=(j1B d).1 h
 have R:=((j0e _).1 y).1
 unfold j6g
 rw [jqi _ _ (je0 y) A,joW y E]
 cases I:(j0c d.1 x != 0)
 rotate_left
 ·rw [cond_true]
  dsimp only
  rw [I,cond_true,cond_true]
 have f:j0c d.1 x=0:=by simpa using I
 have l:=jmD y E f
 have P:=((j0e _).1 l).1
 rw [cond_false,cond_false]
 show (j1l d λW=>j0j d.1 x.2.1 λX=>j2T X x.1 d x (j1c d.1 x) W λH=>k (j1c d.1 x,H.2) 0)=_
 rw [jhk d h,j69 _ _ (by unfold LIM;omega)]
 unfold j2T jjo
 cases w:(x.1==1)
 ·rw [cond_false,cond_false]
  rcases j0s d.1 x.2.1 with ⟨B,_⟩ | ⟨i,z,B,G⟩
  ·unfold j0c at f
   rw [w,cond_false,decide_eq_true (by omega),cond_true] at f
   cases f
  ·have r:i<d.2.length:=by omega
   rw [B,Int.toNat_natCast]
   cases J:(x.1==2)
   ·have ht:j05 d.1[i]=true:=((j0e _).1 y).2.1 _ (List.getElem_mem z)
    have F:msr yT d.1[i]<=1048576:=Nat.le_trans (jaI ht) (by omega)
    have Q:j0A d.1[i] x=0:=by
     unfold j0c at f
     rw [w,cond_false,B,decide_eq_false (show ¬ (i:Int)<0 by omega),cond_false,Zay _ _ _ z] at f
     exact f
    rw [cond_false,cond_false,j00 z,cond_true,j00 r,cond_true,Zay _ _ _ z,Zay _ _ _ r,jmF _ F _ (K i z r) _ A E G.symm (by simpa using w),Q,J,cond_true,ZaF]
    rfl
   ·rw [cond_true,cond_true]
    unfold j5p jc1
    rw [j01 (n:=(i:Int)+1) (by omega),show Z8e (i:Int) ((i:Int)+1) d.2.length=true from ja8 (j:=i+1) ⟨by omega,by omega⟩,cond_true,List.eraseIdx_eq_take_drop_succ]
    rfl
 ·rw [cond_true,cond_true]
  simp only [Z9Q]
  have C:∃ p:Nat,p<=d.2.length/\j04 (j1c d.1 x) x.2.1=(p:Int):=by
   have e:x.1=1:=by simpa using w
   have b:=f
   unfold j0c at b
   rw [w,cond_true] at b
   rcases j0s d.1 x.2.1 with ⟨B,T⟩ | ⟨i,z,B,_⟩
   rotate_left
   ·rw [decide_eq_false (by omega)] at b
    cases b
   have ht:j05 (x.2.1,x.2.2.1,x.2.2.2.1)=true:=by
    obtain ⟨_,⟨t,cs,ks,rfl,ht⟩ | ⟨t,rfl⟩ | ⟨t,c,rfl,_⟩ | ⟨t,n,rfl,_⟩ | ⟨t,n,m,rfl,_⟩⟩:=j8P E
    ·exact ht
    all_goals exact absurd e (by simp)
   have L:d.1.length<6:=by
    rw [decide_eq_true (by omega),Bool.not_true,cond_false] at b
    rcases Nat.lt_or_ge d.1.length 6 with q | q
    ·exact q
    ·rw [show (d.1.length==6)=true from beq_iff_eq.2 (by omega)] at b
     cases b
   obtain ⟨p,U,g,_⟩:=jpn y ht (show j04 d.1 x.2.1<0 by omega) L
   refine ⟨p,by omega,?_⟩
   unfold j1c
   rw [w,cond_true]
   exact g
  obtain ⟨p,U,g⟩:=C
  rw [j69 _ _ (by unfold LIM;omega),g]
  unfold j1J jg5
  have M:jkr (p:Int) d.2.length [([]:List (List V))].length=true:=decide_eq_true ⟨by omega,by omega,by simp,by simp;unfold LIM;omega⟩
  rw [M,cond_true,Int.toNat_natCast,List.append_assoc]
  rfl
theorem jqj (d:DB) (h:dbB d=true) (s:ST) (p:j15 s) (D:stB s=true) (k:DB->Int->Res):jaG d s k=k (j2b d s).1 (j2b d s).2:=by
 obtain ⟨q,E,F⟩:=(j1B d).1 h
 have B:=((j0e _).1 q).1
 unfold jaG
 rw [j69 _ _ (by unfold LIM;omega),jtH]
 cases f:(decide (j04 d.1 s.2.1<0)&& !((s.1==5)&&(s.2.2.2.2.1==1)))
 rotate_left
 ·unfold j2b
  rw [f]
  rfl
 rw [cond_false]
 cases g:(s.1==5)
 ·unfold j2b
  rw [f,g,cond_false,cond_false,cond_false]
  rw [g,Bool.false_and,Bool.not_false,Bool.and_true] at f
  have A:¬ j04 d.1 s.2.1<0:=of_decide_eq_false f
  rcases j0s d.1 s.2.1 with ⟨r,_⟩ | ⟨i,j,r,_⟩
  ·omega
  have b:i<d.2.length:=by omega
  have ht:j05 d.1[i]=true:=((j0e _).1 q).2.1 _ (List.getElem_mem j)
  have m:msr yT d.1[i]<=1048576:=Nat.le_trans (jaI ht) (by omega)
  have y:=jqE (t:=d.1[i]) (l:=d.2[i]) (s:=s)
  unfold jb3
  rw [r]
  simp only [j00 j,j00 b,cond_true,Z9Q]
  rw [Zay _ _ _ j,Zay _ _ _ b,jpf _ m]
  cases f:((j2V d.1[i] d.2[i] s).2 != 0)
  ·rw [cond_false,cond_false,jhk d h,j00 b,cond_true,ZaF,Int.toNat_natCast]
  ·rw [cond_true,cond_true,j01 (n:=10+(j2V d.1[i] d.2[i] s).2) (by omega)]
 ·have w:s.1=5:=by simpa using g
  obtain ⟨z,G⟩:=js4 D w
  have C:=jlk d.1 s.2.2.2.2
  rw [cond_true,jmE d h _ p.2.2.2 z]
  unfold j2b
  rw [f,g,cond_false,cond_true]
  cases y:(j0c d.1 s.2.2.2.2 != 0)
  ·rfl
  ·rw [cond_true,cond_true,cond_true,j01 (n:=10+j0c d.1 s.2.2.2.2) (by omega)]
end Go.PI.G
namespace Go.PI.G
open Go Go.PI Go.Proofs
theorem jpN (d:DB) (h:dbB d=true) (s:ST) (b:j15 s) (f:stB s=false) (k:DB->Int->Res):j8A d s k=k ([],[]) 1:=by
 unfold j8A
 rw [jjf d (jiK h),h,Bool.not_true,cond_false,jji s b,f]
 rfl
theorem jna (d:DB) (p:msr yDB d<=1048576) (l:List ST) (z:l.length<=1048576) (j:∀ s∈l,j15 s) (k:DB->Int->Int->Res):j2O d l k=k (j0k d l).1 (j0k d l).2.1 (j0k d l).2.2:=by
 unfold j2O j0k
 rw [jjf d p]
 cases h:dbB d
 ·rfl
 rw [Bool.not_true,cond_false,cond_false,jmg d h]
 unfold j85
 have:=Z3Z l (λi (a:DB)=>(i,a)) j97 (λ_ a=>dbB a=true) (step:=j5S l (nI l.length)) ((λ(now:DB)=>k now 0 0),(λ(t:Int) (r:Int)=>k ([],[]) t r)) (λa=>k a 0 0) (λe=>k ([],[]) e.1 e.2) d (by unfold LIM;omega) h (λi a w f b q=>jl7 b q) (λi a rec f b=>by
  show j3m _ _ _ _ _ _ _=_
  unfold j3m j97
  dsimp only
  have g:=j _ (List.getElem_mem f)
  rw [ZaQ f,cond_true,j00 f,cond_true,Zay _ _ _ f]
  cases m:stB l[i]
  ·rw [jpN a b _ g m]
   rfl
  ·rw [jqu a b _ g m,Bool.not_true,cond_false]
   cases y:((j2b a l[i]).2 != 0)
   ·rw [cond_false,cond_false,j01 (n:=(i:Int)+1) (by omega)]
   ·rfl) (λa rec b=>by
  show j3m _ _ _ _ _ _ _=_
  unfold j3m
  dsimp only
  rw [ZaP,cond_false])
 refine this.trans ?_
 cases Z1S j97 0 l d<;>rfl
theorem jgJ (d:DB) (p:msr yDB d<=1048576) (l:List ST) (z:l.length<=1048576) (j:∀ s∈l,j15 s) (k:DB->Int->Int->Res):j0R d l k=k (j0k d l).1 (j0k d l).2.1 (j0k d l).2.2:=by
 unfold j0R j0k
 rw [jrJ d p]
 cases h:dbB d
 ·rfl
 rw [Bool.not_true,cond_false,cond_false,jhk d h]
 unfold jb0
 have:=Z3Z l (λi (a:DB)=>(i,a)) j97 (λ_ a=>dbB a=true) (step:=j3c l (nI l.length)) ((λ(now:DB)=>k now 0 0),(λ(t:Int) (r:Int)=>k ([],[]) t r)) (λa=>k a 0 0) (λe=>k ([],[]) e.1 e.2) d (by unfold LIM;omega) h (λi a w b g q=>jl7 g q) (λi a rec b g=>by
  show j1W _ _ _ _ _ _ _=_
  unfold j1W j97
  dsimp only
  have f:=j _ (List.getElem_mem b)
  rw [ZaQ b,cond_true,j00 b,cond_true,Zay _ _ _ b,jnp _ f]
  cases m:stB l[i]
  ·rfl
  ·rw [Bool.not_true,cond_false,cond_false,jqj a g _ f m]
   cases y:((j2b a l[i]).2 != 0)
   ·rw [cond_false,cond_false,j01 (n:=(i:Int)+1) (by omega)]
   ·rfl) (λa rec g=>by
  show j1W _ _ _ _ _ _ _=_
  unfold j1W
  dsimp only
  rw [ZaP,cond_false])
 refine this.trans ?_
 cases Z1S j97 0 l d<;>rfl
end Go.PI.G
namespace Go.PI.G
open Go Go.PI
theorem jtO {d:D} (h:msr yD d<=1048576):dSm d:=by
 have j:msr yD d=0+(d.2.1.size+(msr (.slice yC) d.2.2.1+(msr (.slice .str) d.2.2.2.1+(d.2.2.2.2.1.size+d.2.2.2.2.2.size)))):=rfl
 have b:msr (.slice yC) d.2.2.1<=1048576:=by omega
 have f:msr (.slice .str) d.2.2.2.1<=1048576:=by omega
 refine ⟨by omega,j0l b,j0l f,λc g=> ?_,λx i=>j0M f i,by omega,by omega⟩
 have:=j0M b g
 have k:msr yC c=c.1.size+msr (.pair (.int .i64) (.pair .bool (.pair .bool yV))) c.2:=rfl
 omega
theorem jtI {s:ST} (h:msr yST s<=1048576):j15 s:=by
 have f:msr yST s=0+(s.2.1.size+(msr (.slice yV) s.2.2.1+(msr (.slice yV) s.2.2.2.1+msr yD s.2.2.2.2))):=rfl
 have b:msr (.slice yV) s.2.2.1<=1048576:=by omega
 have d:msr (.slice yV) s.2.2.2.1<=1048576:=by omega
 exact ⟨by omega,j0l b,j0l d,jtO (by omega)⟩
end Go.PI.G
namespace Go.PI.G
noncomputable section
open Go Go.PI
theorem jp6 (l:List Int) (n:Int):j29 l n=true↔n∈l:=by
 unfold j29
 rw [List.any_eq_true]
 constructor
 ·rintro ⟨x,b,h⟩
  rw [beq_iff_eq] at h
  exact h ▸ b
 ·intro h
  exact ⟨n,h,by simp⟩
def j7U (l:List RC) (n:Int):Bool:=j2a l&&decide (0<=n/\n<=(l.length:Int))
def j0f (l:List RC) (n:Int):DB:=bif j7U l n then jtM (j1P zDB (l.take n.toNat)) else zDB
theorem j8O {l:List RC} {n:Nat} (h:j2a l=true) (i:n<=l.length):j1P zDB (l.take n)= .ok (j0f l n)/\dbB (j0f l n)=true:=by
 obtain ⟨d,b,f⟩:=jsE h n
 have g:j7U l n=true:=by
  unfold j7U
  rw [h,decide_eq_true (by omega)]
  rfl
 have:j0f l n=d:=by
  unfold j0f
  rw [g,cond_true,Int.toNat_natCast,b]
  rfl
 rw [this]
 exact ⟨b,f⟩
def jsk (l:List RC) (p:Int):Bool:=j29 (j0p l) p
theorem jsl (l:List RC) (p:Int):jsk l p=true↔j2a l=true/\∃ (i:Nat) (h:i<l.length),p=(i:Int)+1/\l[i].1=3:=by
 unfold jsk j0p
 rw [jp6]
 cases j2a l
 ·simp
 ·rw [cond_true,jqF l 0]
  simp
def j9G (d:DB) (t:ByteArray) (b:List V):List V×Bool:=
 bif decide (j04 d.1 t<0) then ([],false) else
 bif decide (j06 (nth zT d.1 (j04 d.1 t)) (nth [] d.2 (j04 d.1 t)) b<0) then ([],false) else
 (nth [] (nth [] d.2 (j04 d.1 t)) (j06 (nth zT d.1 (j04 d.1 t)) (nth [] d.2 (j04 d.1 t)) b),true)
def j08 (l:List RC) (t:ByteArray) (b:List V) (p:Int):List V×Bool:=bif j7U l p then j9G (j0f l p) t b else ([],false)
abbrev SN:=Int×List V×Bool
def j9Y (l:List RC) (t:ByteArray) (b:List V) (a:(List V×Bool)×List SN) (p:Int):(List V×Bool)×List SN:=
 (j08 l t b p,bif ((j08 l t b p).2 != a.1.2)|| !j0z zV veq (j08 l t b p).1 a.1.1 then a.2++[(p,j08 l t b p)] else a.2)
def j9Q (l:List RC) (t:ByteArray) (b:List V):List SN:=((j0p l).foldl (j9Y l t b) (([],false),[])).2
end
end Go.PI.G
namespace Go.PI.G
open Go Go.PI Go.Proofs
theorem jsG {l:List RC} (h:msr (.slice yRC) l<=1048576):l.length<=1048576/\∀ r∈l,j15 r.2.2:=
 ⟨j0l h,λr b=>by
  have e:msr yRC r=0+(0+msr yST r.2.2):=rfl
  have:=j0M (e:=yRC) h b
  exact jtI (by omega)⟩
theorem jeB {n:Nat} (h:n<=1048576):lim (0+n)=true:=ZaL (by unfold LIM;omega)
theorem jrk (s:ST) (h:j15 s) (k:ST->Res):jbz s k=k s:=by
 obtain ⟨g,d,f,b⟩:=h
 unfold jbz j0b
 simp only [jeB d,jeB f,jeB b.2.1,jeB b.2.2.1,cond_true]
 try rfl
theorem jr3 (s:ST) (h:j15 s) (k:ST->Res):j7t s k=k s:=by
 obtain ⟨g,d,f,b⟩:=h
 unfold j7t j0y jb2 j3N
 simp only [jeB d,jeB f,jeB b.2.1,jeB b.2.2.1,cond_true]
 try rfl
theorem jk7 (l:List Int) (n:Int) (h:l.length<=1048576) (k:Bool->Res):j5J l n k=k (j29 l n):=by
 unfold j5J jh1 j29
 have:=Za2 l (λi=>i) (λx=>x==n) (step:=jaq n l (nI l.length)) ((λ(_:Unit)=>k false),(λ(_:Unit)=>k true)) (k false) (k true) (by unfold LIM;omega) (λi rec b=>by
  show j4F _ _ _ _ _ _ _=_
  unfold j4F
  rw [ZaQ b,cond_true,j00 b,cond_true,Zay _ _ _ b,j01 (n:=(i:Int)+1) (by omega)]) (λrec=>by
  show j4F _ _ _ _ _ _ _=_
  unfold j4F
  rw [ZaP,cond_false])
 refine this.trans ?_
 cases l.any λx=>x==n<;>rfl
theorem jcG (l:List Int) (n:Int) (h:l.length<=1048576) (k:Bool->Res):j0q l n k=k (j29 l n):=by
 unfold j0q jak jbW j29
 have:=Z9S l (λi=>i) (λx=>n==x) (step:=j6H l n (nI l.length)) ((λ(_:Unit)=>k (decide ((-1:Int)>=0))),(λ(t:Int)=>k (decide (t>=0)))) (λr=>k (decide (r>=0))) (by unfold LIM;omega) (λi rec b=>by
  show j1I _ _ _ _ _ _ _=_
  unfold j1I
  rw [ZaQ b,cond_true,j00 b,cond_true,Zay _ _ _ b,j01 (n:=(i:Int)+1) (by omega)]) (λrec=>by
  show j1I _ _ _ _ _ _ _=_
  unfold j1I
  rw [ZaP,cond_false])
 refine this.trans ?_
 rw [jp7]
 have:(λx:Int=>n==x)=λx=>x==n:=by funext x;exact Bool.eq_iff_iff.2 (by rw [beq_iff_eq,beq_iff_eq];exact eq_comm)
 rw [this]
theorem jjU {α:Type} (p:α->Bool):(j:Nat)->(l:List α)->Z4r (λ_ x=>bif p x then [x] else []) j l=l.filter p
 | _,[]=>rfl
 | j,x::l=>by
  show (bif p x then [x] else [])++Z4r _ (j+1) l=_
  rw [jjU p (j+1) l]
  cases h:p x
  ·rw [List.filter_cons_of_neg (by rw [h];simp)];rfl
  ·rw [List.filter_cons_of_pos h];rfl
theorem jtl {α:Type} (b:Bool) (x:α):(bif b then [x] else []).length<=1:=by cases b<;>simp
theorem jre (l:List Int) (n:Int) (h:l.length<=1048576) (k:List Int->Res):j7N l n k=k (l.filter λy=> !(y==n)):=by
 unfold j7N jh0
 have:=Za3 l (λ_ x=>bif !(x==n) then [x] else []) (λi b=>(b,i)) (step:=jap n l (nI l.length)) (λb=>k b) k (by unfold LIM;omega) (λ_ x=>jtl _ _) (λb i rec d f=>by
  show j4E _ _ _ _ _ _ _=_
  unfold j4E
  dsimp only
  rw [ZaQ d,cond_true,j00 d,cond_true,Zay _ _ _ d,j01 (n:=(i:Int)+1) (by omega),ZaL (by unfold LIM;omega),cond_true]
  unfold bne
  cases l[i]==n
  ·rfl
  ·show _=rec (b++[],_)
   rw [List.append_nil]
   rfl) (λb rec=>by
  show j4E _ _ _ _ _ _ _=_
  unfold j4E
  dsimp only
  rw [ZaP,cond_false])
 refine this.trans ?_
 rw [jjU]
theorem jqy (l:List RC) (h:l.length<=1048576) (k:List Int->Res):jaL l k=k (j0P l):=by
 unfold jaL jjj j0P
 refine Z8i l (λi b=>(b,i)) j5O (λi a=>a.length<=i) (step:=j95 l (nI l.length)) (λb=>k b) k [] (by unfold LIM;omega) (by simp) (λi a d f=>Nat.le_trans (jnu _ _) (by omega)) (λi a rec d f=>by
  show j3T _ _ _ _ _ _=_
  unfold j3T jbu
  dsimp only
  rw [ZaQ d,cond_true,j00 d,cond_true,Zay _ _ _ d,j01 (n:=(i:Int)+1) (by omega),jk7 _ _ (by omega),ZaL (by unfold LIM;omega),cond_true]
  generalize l[i]=r
  unfold j5O
  cases g:r.1==1
  ·rw [cond_false,cond_false,jre _ _ (by omega)]
   cases r.1==3
   ·rw [cond_false,Bool.false_or]
    cases r.1==4<;>rfl
   ·rfl
  ·have e:r.1=1:=by simpa using g
   have j:(r.1==3)=false:=by rw [e];rfl
   have m:(r.1==4)=false:=by rw [e];rfl
   rw [cond_true,cond_true,j,m]
   cases j29 a r.2.1<;>rfl) (λa rec f=>by
  show j3T _ _ _ _ _ _=_
  unfold j3T
  dsimp only
  rw [ZaP,cond_false])
theorem jqA (l:List RC) (x:Int) (h:l.length<=1048576) (k:Bool->Res):jcV l x k=k (j5A l x):=by
 unfold jcV jjk j5A
 have:=Za2 l (λi=>i) (λr:RC=>(r.1==1)&&(r.2.1==x)) (step:=jcr x l (nI l.length)) ((λ(_:Unit)=>k false),(λ(_:Unit)=>k true)) (k false) (k true) (by unfold LIM;omega) (λi rec b=>by
  show j6Q _ _ _ _ _ _ _=_
  unfold j6Q
  rw [ZaQ b,cond_true,j00 b,cond_true,Zay _ _ _ b,j01 (n:=(i:Int)+1) (by omega)]
  cases l[i].1==1<;>rfl) (λrec=>by
  show j6Q _ _ _ _ _ _ _=_
  unfold j6Q
  rw [ZaP,cond_false])
 refine this.trans ?_
 cases l.any λr:RC=>(r.1==1)&&(r.2.1==x)<;>rfl
theorem jnc (l:List RC) (x:Int) (h:l.length<=1048576) (f:∀ r∈l,j15 r.2.2) (k:List ST->Res):j6P l x k=k (j1q l x):=by
 unfold j6P jfv j1q
 refine Za3 l (jjl x) (λi b=>(b,i)) (step:=j9m x l (nI l.length)) (λb=>k b) k (by unfold LIM;omega) (jl8 x) (λb i rec d g=>by
  show j3q _ _ _ _ _ _ _=_
  unfold j3q jjl
  dsimp only
  rw [ZaQ d,cond_true,j00 d,cond_true,Zay _ _ _ d,jrk _ (f _ (List.getElem_mem d)),j01 (n:=(i:Int)+1) (by omega),ZaL (by unfold LIM;omega),cond_true]
  cases l[i].1==2
  ·show _=rec (b++[],_)
   rw [List.append_nil]
   rfl
  ·cases l[i].2.1==x
   ·show _=rec (b++[],_)
    rw [List.append_nil]
    rfl
   ·rfl) (λb rec=>by
  show j3q _ _ _ _ _ _ _=_
  unfold j3q
  dsimp only
  rw [ZaP,cond_false])
theorem jgK (l:List RC) (x:Int) (h:l.length<=1048576) (f:∀ r∈l,j15 r.2.2) (k:List ST->Res):j1N l x k=k (j1q l x):=by
 unfold j1N jfh j1q
 refine Za3 l (jjl x) (λi b=>(b,i)) (step:=j9f x l (nI l.length)) (λb=>k b) k (by unfold LIM;omega) (jl8 x) (λb i rec d g=>by
  show j3g _ _ _ _ _ _ _=_
  unfold j3g jjl
  dsimp only
  rw [ZaQ d,cond_true,j00 d,cond_true,Zay _ _ _ d,jr3 _ (f _ (List.getElem_mem d)),j01 (n:=(i:Int)+1) (by omega),ZaL (by unfold LIM;omega),cond_true]
  cases l[i].1==2
  ·show _=rec (b++[],_)
   rw [List.append_nil]
   rfl
  ·cases l[i].2.1==x
   ·show _=rec (b++[],_)
    rw [List.append_nil]
    rfl
   ·rfl) (λb rec=>by
  show j3g _ _ _ _ _ _ _=_
  unfold j3g
  dsimp only
  rw [ZaP,cond_false])
theorem jh3 {α:Type} (l:List α) (i:Nat):sub l 0 (i:Int)=l.take i:=jqV l 0 i
theorem jej {i n:Nat} (h:i<=n):Z8e 0 (i:Int) n=true:=ja8 (i:=0) ⟨Nat.zero_le _,h⟩
theorem jcw {l:List RC} (d:∀ r∈l,j15 r.2.2) (i:Nat):∀ r∈l.take i,j15 r.2.2:=λr b=>d r (List.mem_of_mem_take b)
theorem j1V {l:List RC} (h:l.length<=1048576) (i:Nat):(l.take i).length<=1048576:=by rw [List.length_take];omega
theorem jpS {l:List RC} (f:∀ r∈l,j15 r.2.2) (x:Int):∀ s∈j1q l x,j15 s:=λs b=>by
 obtain ⟨r,d,rfl⟩:=jrl b
 exact f r d
theorem jrX (l:List RC) (h:l.length<=1048576) (i:Nat) (f:i<=l.length) (r:RC) (j:j15 r.2.2) (k:Bool->Res) :
  j2Z l (i:Int) r k=k (!jbf r||(bif r.1==1 then j5A (l.take i) r.2.1 else !j29 (j0P (l.take i)) r.2.1)):=by
 unfold j2Z
 have g:(j0P (l.take i)).length<=1048576:=Nat.le_trans (jiW _) (j1V h i)
 rw [jrj _ j,jej f,cond_true,cond_true,jh3,jqA _ _ (j1V h i),jqy _ (j1V h i)]
 simp only [jk7 _ _ g]
 cases jbf r
 ·rfl
 cases d:r.1==1
 ·have b:(r.1 != 1)=true:=by unfold bne;rw [d];rfl
  rw [b]
  rfl
 ·have b:(r.1 != 1)=false:=by unfold bne;rw [d];rfl
  rw [b]
  cases j5A (l.take i) r.2.1<;>rfl
theorem jpQ (l:List RC) (h:l.length<=1048576) (b:∀ r∈l,j15 r.2.2) (i:Nat) (g:i<=l.length) (d:DB) (f:dbB d=true) (r:RC) (k:Int->DB->Res) :
  j30 l (i:Int) d r k=k (j0k d (j1q (l.take i) r.2.1)).2.1 (j0k d (j1q (l.take i) r.2.1)).1:=by
 unfold j30
 rw [jej g,cond_true]
 simp only [Z9Q]
 rw [jh3,jnc _ _ (j1V h i) (jcw b i),jna d (jiK f) _ (Nat.le_trans (jhF _ _) (j1V h i)) (jpS (jcw b i) _)]
theorem jpd (l:List RC) (h:l.length<=1048576) (b:∀ r∈l,j15 r.2.2) (i:Nat) (g:i<=l.length) (d:DB) (f:dbB d=true) (r:RC) (k:Int->DB->Res) :
  j6j l (i:Int) d r k=k (j0k d (j1q (l.take i) r.2.1)).2.1 (j0k d (j1q (l.take i) r.2.1)).1:=by
 unfold j6j
 rw [jej g,cond_true]
 simp only [Z9Q]
 rw [jh3,jgK _ _ (j1V h i) (jcw b i),jgJ d (jiK f) _ (Nat.le_trans (jhF _ _) (j1V h i)) (jpS (jcw b i) _)]
theorem jtN (n:Nat):decide (nI n<=400)=decide (n<=400):=decide_eq_decide.2 (by unfold nI;omega)
theorem jte (n:Nat):decide (nI n>400)= !decide (n<=400):=by
 by_cases h:n<=400
 ·rw [decide_eq_true h,decide_eq_false (by unfold nI;omega)];rfl
 ·rw [decide_eq_false h,decide_eq_true (by unfold nI;omega)];rfl
theorem jk8 (l:List RC) (h:l.length<=1048576) (g:∀ r∈l,j15 r.2.2) (k:DB->Bool->Res) :
  j6V l k=match j1P zDB l with | .ok d=>k d (decide (l.length<=400)) | .error _=>k ([],[]) false:=by
 unfold j6V jby
 rw [jtN]
 refine (Z3Z l (λi (a:DB)=>(i,a)) (λi d r=>j5P (l.take i) d r) (λ_ a=>dbB a=true) (step:=j61 l l (nI l.length)) ((λ(d:DB)=>k d (decide (l.length<=400))),(λ(_:Unit)=>k ([],[]) false)) (λa=>k a (decide (l.length<=400))) (λ_=>k ([],[]) false) zDB (by unfold LIM;omega) jek (λi a q b f g=>jl1 f g) (λi a rec b f=>by
  show j21 _ _ _ _ _ _ _ _=_
  unfold j21 j5P
  dsimp only
  have j:=g _ (List.getElem_mem b)
  rw [ZaQ b,cond_true,j00 b,cond_true,Zay _ _ _ b,jrX l h i (by omega) _ j,jpQ l h g i (by omega) a f,j01 (n:=(i:Int)+1) (by omega)]
  generalize l[i]=r
  cases jbf r
  ·rfl
  cases p:r.1==1
  ·cases j29 (j0P (l.take i)) r.2.1
   ·rfl
   ·cases r.1==3
    ·rfl
    ·cases m:(j0k a (j1q (l.take i) r.2.1)).2.1 != 0
     ·simp only [cond_true,cond_false,Bool.not_true,Bool.or_false,m]
     ·simp only [cond_true,cond_false,Bool.not_true,Bool.or_false,m]
  ·cases j5A (l.take i) r.2.1
   ·have e:r.1=1:=by simpa using p
    rw [e]
    rfl
   ·rfl) (λa rec f=>by
  show j21 _ _ _ _ _ _ _ _=_
  unfold j21
  dsimp only
  rw [ZaP,cond_false])).trans ?_
 unfold j1P
 cases Z1S (λi d r=>j5P (l.take i) d r) 0 l zDB<;>rfl
end Go.PI.G
namespace Go.PI.G
open Go Go.PI Go.Proofs
theorem jqH (o:List Int) (r:RC) (h:o.length<=1048576) (k:List Int->RC->Res):j0J o r k=k (o.filter λy=> !(y==r.2.1)) r:=by
 unfold j0J
 rw [ZaL (by unfold LIM;omega),cond_true,joY (g:=λe k=>jho e r k) (λy=>y==r.2.1) o (λy b k=>rfl) [],List.nil_append]
noncomputable def jq2 (l:List RC) (i:Int) (d:DB):List Int×List Int×Int×DB:=(j0P (l.take i.toNat),j2B (l.take i.toNat),i,d)
theorem jqC (l:List RC) (i:Nat) (b:i<l.length) (d:DB):jq2 l ((i:Int)+1) d=(j5O (j0P (l.take i)) l[i],(bif l[i].1==1 then j2B (l.take i)++[l[i].2.1] else j2B (l.take i)),(i:Int)+1,d):=by
 unfold jq2
 rw [show ((i:Int)+1).toNat=i+1 by omega,List.take_succ_eq_append_getElem b,jhu,jmm]
theorem jqo (d:DB) (B:dbB d=true) (l:List RC) (h:l.length<=1048576) (p:∀ r∈l,j15 r.2.2) (k:DB->Bool->Res) :
  jfj d l k=match j1P d l with | .ok d=>k d true | .error _=>k ([],[]) false:=by
 unfold jfj jep jiP
 refine (Z3Z l (jq2 l) (λi d r=>j5P (l.take i) d r) (λ_ a=>dbB a=true) (step:=j8T l l (nI l.length)) ((λ(f:DB)=>k f true),(λ(_:Unit)=>k ([],[]) false)) (λa=>k a true) (λ_=>k ([],[]) false) d (by unfold LIM;omega) B (λi a F b m p=>jl1 m p) (λi a rec b m=>by
  show j3P l l (nI l.length) (j0P (l.take (i:Int).toNat)) (j2B (l.take (i:Int).toNat)) (i:Int) a (λo u j d=>rec (o,u,j,d)) (λf=>k f true) (λ_=>k ([],[]) false)=_
  have y:=p _ (List.getElem_mem b)
  have A:(j0P (l.take i)).length<=1048576:=Nat.le_trans (jiW _) (j1V h i)
  have D:(j2B (l.take i)).length<=1048576:=Nat.le_trans (jnG _) (j1V h i)
  unfold j3P j8m j5P
  simp only [jqC l i b]
  rw [Int.toNat_natCast,ZaQ b,cond_true,j00 b,cond_true,Zay _ _ _ b,jlt _ y,jcG _ _ D,jcG _ _ A,jnF,j01 (n:=(i:Int)+1) (by omega),ZaL (by unfold LIM;omega),ZaL (by unfold LIM;omega),cond_true,cond_true]
  simp only [jpd l h p i (by omega) a m,jqH _ _ A]
  generalize l[i]=r
  cases C:jbf r
  ·rfl
  rw [Bool.not_true,cond_false,cond_false]
  cases q:r.1==1
  ·rw [cond_false,cond_false]
   cases j29 (j0P (l.take i)) r.2.1
   ·rfl
   rw [Bool.not_true,cond_false,cond_false]
   unfold j5O
   rw [q,cond_false,cond_false]
   cases z:r.1==3
   ·rw [cond_false,cond_false,Bool.false_or]
    unfold bne
    cases g:r.1==2
    ·have K:=(jm8 C).1
     have w:(r.1==4)=true:=by
      rw [beq_iff_eq]
      have G:r.1≠1:=by simpa using q
      have H:r.1≠2:=by simpa using g
      have I:r.1≠3:=by simpa using z
      omega
     rw [w]
     rfl
    ·have w:(r.1==4)=false:=by
      have:r.1=2:=by simpa using g
      rw [this];rfl
     rw [w]
     rfl
   ·have g:(r.1 != 2)=true:=by
     have:r.1=3:=by simpa using z
     rw [this];rfl
    rw [cond_true,cond_true,Bool.true_or]
    cases J:(j0k a (j1q (l.take i) r.2.1)).2.1 != 0
    ·rw [cond_false,cond_false,g]
     rfl
    ·rfl
  ·rw [cond_true,cond_true]
   cases E:j5A (l.take i) r.2.1
   ·unfold j5O
    rw [q,cond_true,cond_true,jlW E]
    rfl
   ·rfl) (λa rec m=>by
  show j3P l l (nI l.length) (j0P (l.take ((l.length:Nat):Int).toNat)) (j2B (l.take ((l.length:Nat):Int).toNat)) (l.length:Int) a (λo u j d=>rec (o,u,j,d)) (λf=>k f true) (λ_=>k ([],[]) false)=_
  unfold j3P
  rw [ZaP,cond_false])).trans ?_
 unfold j1P
 cases Z1S (λi d r=>j5P (l.take i) d r) 0 l d<;>rfl
theorem jmi (l:List RC) (h:l.length<=1048576) (d:∀ r∈l,j15 r.2.2) (k:Bool->Res):j94 l k=k (j2a l):=by
 unfold j94 j2a
 rw [jte]
 cases b:decide (l.length<=400)
 ·rfl
 rw [Bool.not_true,cond_false,jk8 l h d,b]
 cases j1P zDB l<;>rfl
theorem jlq (l:List RC) (h:l.length<=1048576) (d:∀ r∈l,j15 r.2.2) (k:Bool->Res):j73 l k=k (j2a l):=by
 unfold j73 j2a
 rw [jte]
 cases b:decide (l.length<=400)
 ·rfl
 rw [Bool.not_true,cond_false,jqo _ jek l h d]
 cases j1P zDB l<;>rfl
end Go.PI.G
namespace Go.PI.G
noncomputable section
open Go Go.PI
theorem jlv {l:List RC} (h:j2a l=true) (i:Nat) (j:i<l.length):jbf l[i]=true /\
  ((l[i].1=1/\j5A (l.take i) l[i].2.1=false/\j0f l ((i:Int)+1)=j0f l i) \/
   (l[i].1≠1/\j29 (j0P (l.take i)) l[i].2.1=true /\
    ((l[i].1=3/\(j0k (j0f l i) (j1q (l.take i) l[i].2.1)).2.1=0/\j0f l ((i:Int)+1)=(j0k (j0f l i) (j1q (l.take i) l[i].2.1)).1) \/
    (l[i].1≠3/\j0f l ((i:Int)+1)=j0f l i)))):=by
 have m:=(j8O h (Nat.le_of_lt j)).1
 have b:=(j8O (n:=i+1) h j).1
 rw [jnv _ _ _ j,m] at b
 have e:((i+1:Nat):Int)=(i:Int)+1:=by omega
 rw [e] at b
 have b:j5P (l.take i) (j0f l i) l[i]= .ok (j0f l ((i:Int)+1)):=b
 generalize j0f l ((i:Int)+1)=y at b
 generalize j0f l i=d at b
 generalize l[i]=r at b
 unfold j5P at b
 cases p:jbf r<;>rw [p] at b
 ·cases b
 rw [Bool.not_true,cond_false] at b
 refine ⟨rfl,?_⟩
 cases f:r.1==1<;>rw [f] at b
 ·right
  rw [cond_false] at b
  cases q:j29 (j0P (l.take i)) r.2.1<;>rw [q] at b
  ·cases b
  rw [Bool.not_true,cond_false] at b
  refine ⟨by simpa using f,rfl,?_⟩
  cases g:r.1==3<;>rw [g] at b
  ·right
   cases b
   exact ⟨by simpa using g,rfl⟩
  ·left
   rw [cond_true] at b
   cases k:(j0k d (j1q (l.take i) r.2.1)).2.1 != 0<;>rw [k] at b
   ·cases b
    exact ⟨by simpa using g,by simpa using k,rfl⟩
   ·cases b
 ·left
  rw [cond_true] at b
  cases w:j5A (l.take i) r.2.1<;>rw [w] at b
  ·cases b
   exact ⟨by simpa using f,rfl,rfl⟩
  ·cases b
def j2u (l:List RC) (n:Nat):List DB:=(Z4r ja7 0 (l.take n)).map (j0f l)
def j19 (l:List RC) (n:Nat):List DB:=(zDB::j2u l n).dropLast
theorem jnf {α β:Type} (g:Int->α->List β):(j:Nat)->(l:List α)->(x:α)->Z4r g j (l++[x])=Z4r g j l++g ((j:Int)+l.length) x
 | j,[],x=>by simp [Z4r]
 | j,y::l,x=>by
  show g j y++Z4r g (j+1) (l++[x])=(g j y++Z4r g (j+1) l)++_
  rw [jnf g (j+1) l x,List.append_assoc,List.length_cons,show ((j+1:Nat):Int)+(l.length:Int)=(j:Int)+((l.length+1:Nat):Int) by omega]
theorem jkd (l:List RC) (n:Nat) (b:n<l.length):j2u l (n+1)=bif l[n].1==3 then j2u l n++[j0f l ((n:Int)+1)] else j2u l n:=by
 unfold j2u
 rw [List.take_succ_eq_append_getElem b,jnf,List.map_append,List.length_take,Nat.min_eq_left (Nat.le_of_lt b)]
 unfold ja7
 rw [show ((0:Nat):Int)+(n:Int)=(n:Int) by omega]
 cases l[n].1==3
 ·rw [cond_false,cond_false,List.map_nil,List.append_nil]
 ·rfl
theorem jnk {l:List RC} (h:j2a l=true):j0f l 0=zDB:=by
 have:=(j8O (n:=0) h (Nat.zero_le _)).1
 rw [List.take_zero] at this
 have b:j1P zDB ([]:List RC)= .ok zDB:=rfl
 rw [b] at this
 injection this with this
 exact this.symm
theorem jtC {α:Type} {L A:List α} {d:α} (h:L=A++[d]):L=L.dropLast++[d]:=by rw [h,List.dropLast_concat]
theorem jgg {l:List RC} (h:j2a l=true):(n:Nat)->n<=l.length->zDB::j2u l n=j19 l n++[j0f l n]
 | 0,_=>by
  show zDB::(Z4r ja7 0 (l.take 0)).map (j0f l)=_
  unfold j19 j2u
  rw [List.take_zero,show ((0:Nat):Int)=0 from rfl,jnk h]
  rfl
 | n+1,k=>by
  have i:=jgg h n (by omega)
  have e:((n+1:Nat):Int)=(n:Int)+1:=by omega
  have b:=jkd l n (by omega)
  have step:=(jlv h n (by omega)).2
  unfold j19
  rw [e]
  cases f:l[n].1==3<;>rw [f] at b
  ·rw [cond_false] at b
   have g:j0f l ((n:Int)+1)=j0f l n:=by
    have d:l[n].1≠3:=by simpa using f
    rcases step with ⟨_,_,q⟩ | ⟨_,_,⟨j,_⟩ | ⟨_,q⟩⟩
    ·exact q
    ·exact absurd j d
    ·exact q
   rw [g,b]
   exact jtC i
  ·rw [cond_true] at b
   rw [b]
   exact jtC (A:=zDB::j2u l n) rfl
theorem jqc {l:List RC} (h:j2a l=true) (n:Nat) (b:n<l.length):j19 l (n+1)=bif l[n].1==3 then j19 l n++[j0f l n] else j19 l n:=by
 have d:=jkd l n b
 unfold j19
 rw [d]
 cases l[n].1==3
 ·rfl
 ·rw [cond_true,cond_true]
  rw [show zDB::(j2u l n++[j0f l ((n:Int)+1)])=(zDB::j2u l n)++[j0f l ((n:Int)+1)] from rfl,List.dropLast_concat]
  exact jgg h n (Nat.le_of_lt b)
theorem jrn (l:List RC) (n:Nat):(j2u l n).length<=n:=by
 unfold j2u
 rw [List.length_map]
 exact Nat.le_trans (Z94 _ jhh 0 _) (by rw [List.length_take];omega)
theorem jle (l:List RC) (n:Nat):(j19 l n).length<=n:=by
 unfold j19
 rw [List.length_dropLast,List.length_cons]
 exact jrn l n
theorem jqd (l:List RC):j19 l 0=[]:=by
 unfold j19 j2u
 rw [List.take_zero]
 rfl
theorem jrm {l:List RC} (h:j2a l=true):j2u l l.length=(j0p l).map (j0f l):=by
 unfold j2u j0p
 rw [h,List.take_length]
 rfl
def jfs (l:List RC) (t:ByteArray) (b:List V) (a:SN×List SN) (p:Int):SN×List SN:=
 bif ((j08 l t b p).2 != a.1.2.2)|| !j0z zV veq (j08 l t b p).1 a.1.2.1 then ((p,j08 l t b p),a.2++[(p,j08 l t b p)]) else a
theorem jqS (l:List RC) (t:ByteArray) (d:List V):(c:List Int)->(a:SN×List SN)->(b:(List V×Bool)×List SN)->a.1.2=b.1->a.2=b.2->(c.foldl (jfs l t d) a).2=(c.foldl (j9Y l t d) b).2
 | [],a,b,g,f=>f
 | p::c,a,b,g,f=>by
  rw [List.foldl_cons,List.foldl_cons]
  refine jqS l t d c _ _ ?_ ?_
  ·unfold jfs j9Y
   rw [g,f]
   cases h:(((j08 l t d p).2 != b.1.2)|| !j0z zV veq (j08 l t d p).1 b.1.1)
   ·rw [Bool.or_eq_false_iff,Bool.not_eq_false'] at h
    have i:=(jlf (z:=zV) je3 _ _).1 h.2
    have j:(j08 l t d p).2=b.1.2:=by simpa using h.1
    rw [cond_false,g]
    exact (Prod.ext i j).symm
   ·rfl
  ·unfold jfs j9Y
   rw [g,f]
   cases (((j08 l t d p).2 != b.1.2)|| !j0z zV veq (j08 l t d p).1 b.1.1)
   ·exact f
   ·rfl
theorem jsO (l:List RC) (t:ByteArray) (b:List V):j9Q l t b=((j0p l).foldl (jfs l t b) ((0,[],false),[])).2:=by
 unfold j9Q
 exact (jqS l t b _ ((0,[],false),[]) (([],false),[]) rfl rfl).symm
end
end Go.PI.G
namespace Go.PI.G
open Go Go.PI Go.Proofs
theorem jrf (l:List RC) (h:l.length<=1048576) (f:∀ r∈l,j15 r.2.2) (k:List Int->Res):j6J l k=k (j0p l):=by
 unfold j6J j0p
 rw [jmi l h f]
 cases j2a l
 ·rfl
 unfold jbt
 refine Za3 l ja7 (λi b=>(b,i)) (step:=j5R l (nI l.length)) (λb=>k b) k (by unfold LIM;omega) jhh (λb i rec d g=>by
  show j3l _ _ _ _ _ _=_
  unfold j3l ja7
  dsimp only
  rw [ZaQ d,cond_true,j00 d,cond_true,Zay _ _ _ d,j01 (n:=(i:Int)+1) (by omega),ZaL (by unfold LIM;omega),cond_true]
  cases l[i].1==3
  ·show _=rec (b++[],_)
   rw [List.append_nil]
   rfl
  ·rfl) (λb rec=>by
  show j3l _ _ _ _ _ _=_
  unfold j3l
  dsimp only
  rw [ZaP,cond_false])
end Go.PI.G
namespace Go.PI.G
open Go Go.PI Go.Proofs
theorem jr1 (l:List RC) (h:l.length<=1048576) (f:∀ r∈l,j15 r.2.2) (k:List Int->Res):j6a l k=k (j0p l):=by
 unfold j6a j0p
 rw [jlq l h f]
 cases j2a l
 ·rfl
 unfold jaZ
 refine Za3 l ja7 (λi b=>(b,i)) (step:=j5K l (nI l.length)) (λb=>k b) k (by unfold LIM;omega) jhh (λb i rec d g=>by
  show j3b _ _ _ _ _ _=_
  unfold j3b ja7
  dsimp only
  rw [ZaQ d,cond_true,j00 d,cond_true,Zay _ _ _ d,j01 (n:=(i:Int)+1) (by omega),ZaL (by unfold LIM;omega),cond_true]
  cases l[i].1==3
  ·show _=rec (b++[],_)
   rw [List.append_nil]
   rfl
  ·rfl) (λb rec=>by
  show j3b _ _ _ _ _ _=_
  unfold j3b
  dsimp only
  rw [ZaP,cond_false])
end Go.PI.G
namespace Go.PI.G
open Go Go.PI Go.Proofs
theorem jo5 (l:List RC) (h:l.length<=1048576) (b:∀ r∈l,j15 r.2.2) (i:Nat) (g:i<=l.length) (d:DB) (f:dbB d=true) (r:RC) (k:Int->DB->Res) :
  j3O l (i:Int) d r k=k (j0k d (j1q (l.take i) r.2.1)).2.1 (j0k d (j1q (l.take i) r.2.1)).1:=by
 unfold j3O
 rw [jej g,cond_true]
 simp only [Z9Q]
 rw [jh3,jgK _ _ (j1V h i) (jcw b i),jgJ d (jiK f) _ (Nat.le_trans (jhF _ _) (j1V h i)) (jpS (jcw b i) _)]
noncomputable def jh7 (l:List RC) (i:Nat):List Int×List Int×Int×DB×List DB:=(j0P (l.take i),j2B (l.take i),(i:Int),j0f l i,j19 l i)
theorem jrr (l:List RC) (i:Nat) (b:i<l.length) (h:j2a l=true):jh7 l (i+1)=(j5O (j0P (l.take i)) l[i],(bif l[i].1==1 then j2B (l.take i)++[l[i].2.1] else j2B (l.take i)),(i:Int)+1,j0f l ((i:Int)+1),(bif l[i].1==3 then j19 l i++[j0f l i] else j19 l i)):=by
 unfold jh7
 rw [List.take_succ_eq_append_getElem b,jhu,jmm,jqc h i b,show ((i+1:Nat):Int)=(i:Int)+1 by omega]
theorem jpg (l:List RC) (h:l.length<=1048576) (G:∀ r∈l,j15 r.2.2) (b:j2a l=true) (k:DB->Bool->List DB->Res) :
  jcJ ([],[]) l [] k=k (j0f l l.length) true (j19 l l.length):=by
 unfold jcJ jca jgL
 have H:jh7 l 0=(([]:List Int),([]:List Int),(0:Int),(([],[]):DB),([]:List DB)):=by
  unfold jh7
  rw [List.take_zero,show ((0:Nat):Int)=0 from rfl,jnk b,jqd]
  rfl
 have:=Z3u (step:=j76 l l (nI l.length)) (jh7 l) l.length ((λ(q:DB) (e:List DB)=>k q true e),(λ(f:List DB)=>k ([],[]) false f)) (k (j0f l l.length) true (j19 l l.length)) (λi g rec=>by
  show j2p l l (nI l.length) (j0P (l.take i)) (j2B (l.take i)) (i:Int) (j0f l i) (j19 l i) (λo u j d e=>rec (o,u,j,d,e)) (λq e=>k q true e) (λf=>k ([],[]) false f)=_
  have C:=G _ (List.getElem_mem g)
  have I:=(j8O b (Nat.le_of_lt g)).2
  have F:(j0P (l.take i)).length<=1048576:=Nat.le_trans (jiW _) (j1V h i)
  have K:(j2B (l.take i)).length<=1048576:=Nat.le_trans (jnG _) (j1V h i)
  have M:=jle l i
  obtain ⟨B,step⟩:=jlv b i g
  unfold j2p j6i jb6
  rw [jrr l i g b,ZaQ g,cond_true,j00 g,cond_true,Zay _ _ _ g,jlt _ C,jcG _ _ K,jcG _ _ F,jnF,j01 (n:=(i:Int)+1) (by omega),ZaL (n:=(j2B (l.take i)).length+1) (by unfold LIM;omega),ZaL (n:=(j0P (l.take i)).length+1) (by unfold LIM;omega),ZaL (n:=(j19 l i).length+1) (by unfold LIM;omega),cond_true,cond_true]
  simp only [jo5 l h G i (Nat.le_of_lt g) _ I,jqH _ _ F,cond_true]
  generalize l[i]=r at B step
  rw [B,Bool.not_true,cond_false]
  rcases step with ⟨f,y,w⟩ | ⟨f,E,⟨z,J,w⟩ | ⟨z,w⟩⟩
  ·have m:(r.1==1)=true:=by simpa using f
   have p:(r.1==3)=false:=by rw [f];rfl
   rw [w,m,p,y]
   unfold j5O
   rw [m,jlW y]
   rfl
  ·have m:(r.1==1)=false:=by simpa using f
   have p:(r.1==3)=true:=by simpa using z
   have A:(r.1 != 2)=true:=by rw [z];rfl
   rw [w,m,p,E,A,J]
   unfold j5O
   rw [m,p]
   rfl
  ·have m:(r.1==1)=false:=by simpa using f
   have p:(r.1==3)=false:=by simpa using z
   rw [w,m,p,E]
   unfold j5O bne
   rw [m,p]
   cases A:r.1==2
   ·have P:=(jm8 B).1
    have L:r.1≠2:=by simpa using A
    have D:(r.1==4)=true:=by
     rw [beq_iff_eq]
     omega
    rw [D]
    rfl
   ·have D:(r.1==4)=false:=by
     have:r.1=2:=by simpa using A
     rw [this];rfl
    rw [D]
    rfl) (λrec=>by
  show j2p l l (nI l.length) (j0P (l.take l.length)) (j2B (l.take l.length)) (l.length:Int) (j0f l l.length) (j19 l l.length) (λo u j d e=>rec (o,u,j,d,e)) (λq e=>k q true e) (λf=>k ([],[]) false f)=_
  unfold j2p
  rw [ZaP,cond_false]) Z1c (Z2b (by omega))
 rw [H] at this
 exact this
theorem jo9 (l:List RC) (h:l.length<=1048576) (d:∀ r∈l,j15 r.2.2) (b:j2a l=true) (k:List DB->Res):j9x l k=k ((j0p l).map (j0f l)):=by
 unfold j9x jc9
 rw [jpg l h d b]
 have f:=jle l l.length
 rw [ZaL (by unfold LIM;omega),cond_true,<-jgg b l.length (Nat.le_refl _),jsn (by rw [List.length_cons];omega),cond_true,jtz,jrm b]
 rfl
end Go.PI.G
namespace Go.PI.G
open Go Go.PI Go.Proofs
theorem jcF (l:List RC) (n:Int):(j7U l n=false/\j0f l n=zDB)\/∃ m:Nat,n=(m:Int)/\m<=l.length/\j2a l=true/\j7U l n=true:=by
 cases h:j7U l n
 ·left
  unfold j0f
  rw [h]
  exact ⟨rfl,rfl⟩
 ·right
  unfold j7U at h
  rw [Bool.and_eq_true,decide_eq_true_eq] at h
  exact ⟨n.toNat,by omega,by omega,h.1,rfl⟩
theorem jpL (l:List RC) (h:l.length<=1048576) (d:∀ r∈l,j15 r.2.2) (n:Int) (k:Bool->Res):j8z l n k=k (!j7U l n):=by
 unfold j8z j7U
 rw [jmi l h d]
 cases j2a l
 ·rfl
 rw [Bool.not_true,cond_false,Bool.true_and]
 by_cases b:n<0
 ·rw [decide_eq_true b,decide_eq_false (show ¬ (0<=n/\n<=(l.length:Int)) by omega)];rfl
 ·rw [decide_eq_false b,cond_false]
  by_cases f:n<=(l.length:Int)
  ·rw [decide_eq_true (show 0<=n/\n<=(l.length:Int) by omega),decide_eq_false (show ¬ n>nI l.length by unfold nI;omega)];rfl
  ·rw [decide_eq_false (show ¬ (0<=n/\n<=(l.length:Int)) by omega),decide_eq_true (show n>nI l.length by unfold nI;omega)];rfl
theorem jqt (l:List RC) (h:l.length<=1048576) (g:∀ r∈l,j15 r.2.2) (n:Int) (k:DB->Bool->Res):jaK l n k=k (j0f l n) (j7U l n):=by
 unfold jaK
 rw [jpL l h g]
 rcases jcF l n with ⟨b,i⟩ | ⟨m,rfl,f,d,b⟩
 ·rw [b,i];rfl
 ·have j:=((jks l).1 d).1
  rw [b,Bool.not_true,cond_false,jej f,cond_true,jh3,jk8 _ (j1V h m) (jcw g m),(j8O d f).1]
  dsimp only
  rw [decide_eq_true (by rw [List.length_take];omega)]
end Go.PI.G
