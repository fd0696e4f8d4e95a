/-
  Program's code interpreted over typed values; printed texts; plain laws. No conditions.
-/
import Derived.Test.YtnemiodjnhfejaaGreatBOk
import Derived.Test.YtnemiodjnhfejaaGreatBOg
import Derived.Test.YtnemiodjnhfejaaGreatBOi
import Derived.Test.YtnemiodjnhfejaaGreatBOj
import Derived.Test.YtnemiodjnhfejaaGreatBOh
set_option linter.unusedVariables false
set_option linter.unusedSimpArgs false
namespace Go.PI.G
open Go Go.PI Go.Proofs
theorem jpg {t:T} {d:D} (g:d.2.1=t.1) (f:d.1≠1):j0b [t] d=j0u t d:=by
 have b:j03 [t] d.2.1=(0:Int):=by
  have:=jdZ (c:=[t]) (by simp) (i:=0) (by simp)
  rw [g]
  exact this
 unfold j0b
 rw [show (d.1==1)=false by simpa using f,cond_false,b]
 rfl
theorem jmS (d:D) (l:List (List V)) (m:l.length<=60) (j:∀ x∈l,x.length<=1048576) (h:0<d.2.2.1.length) (k:List (List V)->Res):j6U (nI l.length) d Z1c l 0 k=k (l.map λx=>x++[(nth zC d.2.2.1 0).2.2.2.2]):=by
 unfold j6U
 have:=Z3u (step:=j4Y (nI l.length) d) (λi=>((l.take i).map (λx:List V=>x++[(nth zC d.2.2.1 0).2.2.2.2])++l.drop i,(i:Int))) l.length k (k (l.map λx=>x++[(nth zC d.2.2.1 0).2.2.2.2])) (λi b rec=> ?_) (λrec=> ?_) Z1c (Z2b (by omega))
 ·refine Eq.trans ?_ this
  simp
 ·show j2P _ _ _ _ _ _=_
  unfold j2P
  dsimp only
  have p:=j _ (List.getElem_mem b)
  have g:inb (i:Int) ((l.take i).map (λx:List V=>x++[(nth zC d.2.2.1 0).2.2.2.2])++l.drop i).length=true:=j00 (by rw [jf5];exact b)
  have f:∀ y:List V,inb (i:Int) (((l.take i).map (λx:List V=>x++[(nth zC d.2.2.1 0).2.2.2.2])++l.drop i).set i y).length=true:=λy=>j00 (by rw [List.length_set,jf5];exact b)
  rw [ZaQ b,cond_true,g,cond_true,show inb 0 d.2.2.1.length=true from j00 (i:=0) h,cond_true,jmN _ _ _ _ b,ZaL (by unfold LIM;omega),cond_true,ZaF,f,cond_true,jct,cond_true,j01 (n:=(i:Int)+1) (by omega),<-jmO _ _ _ b]
  rfl
 ·show j2P _ _ _ _ _ _=_
  unfold j2P
  dsimp only
  rw [ZaP,cond_false,List.take_length,List.drop_length,List.append_nil]
theorem jmU (a:Nat) (l:List (List V)) (z:l.length<=60) (q:∀ x∈l,a<x.length/\x.length<=1048576) (k:List (List V)->Res):j6V (a:Int) (nI l.length) Z1c l 0 k=k (l.map λx=>x.eraseIdx a):=by
 unfold j6V
 have:=Z3u (step:=j4Z (a:Int) (nI l.length)) (λi=>((l.take i).map (λx:List V=>x.eraseIdx a)++l.drop i,(i:Int))) l.length k (k (l.map λx=>x.eraseIdx a)) (λi b rec=> ?_) (λrec=> ?_) Z1c (Z2b (by omega))
 ·refine Eq.trans ?_ this
  simp
 ·show j2Q _ _ _ _ _ _=_
  unfold j2Q j8c jaI
  dsimp only
  obtain ⟨r,w⟩:=q _ (List.getElem_mem b)
  have f:inb (i:Int) ((l.take i).map (λx:List V=>x.eraseIdx a)++l.drop i).length=true:=j00 (by rw [jf5];exact b)
  have d:∀ y:List V,inb (i:Int) (((l.take i).map (λx:List V=>x.eraseIdx a)++l.drop i).set i y).length=true:=λy=>j00 (by rw [List.length_set,jf5];exact b)
  have p:l[i].take a++l[i].drop (a+1)=l[i].eraseIdx a:=(List.eraseIdx_eq_take_drop_succ _ _).symm
  have m:Z8e (a:Int) ((a:Int)+1) l[i].length=true:=j8R (j:=a+1) ⟨by omega,by omega⟩
  have g:(a:Int).toNat=a:=Int.toNat_natCast a
  have h:((a:Int)+1).toNat=a+1:=by omega
  rw [ZaQ b,cond_true,f,cond_true,jmN _ _ _ _ b,j01 (n:=(a:Int)+1) (by omega),m,cond_true,g,h,p,ZaF,d,cond_true,jct,cond_true,j01 (n:=(i:Int)+1) (by omega),<-jmO _ _ _ b]
  rfl
 ·show j2Q _ _ _ _ _ _=_
  unfold j2Q
  dsimp only
  rw [ZaP,cond_false,List.take_length,List.drop_length,List.append_nil]
theorem jks (t:T) (h:msr yT t<=1048576) (l:List (List V)) (g:j08 t l=true) (d:D) (n:dSm d) (m:j13 d=true) (w:d.2.1=t.1) (i:d.1≠1) (k:List (List V)->Int->Res) :
  j5p t l d k=k (bif j0u t d != 0 then [] else bif d.1==2 then [] else jep t d l) (j0u t d):=by
 obtain ⟨ht,z,F⟩:=j0l g
 obtain ⟨f,A⟩:=jf3 m
 unfold j5p j4t
 rw [j8o t h,g,Bool.not_true,cond_false,jfE d n,m,Bool.not_true,cond_false]
 have r:sNe d.2.1 t.1=false:=by unfold sNe;rw [w];simp
 rw [r,cond_false,show (d.1==1)=false by simpa using i]
 dsimp only
 rw [cond_false,jhV _ _ (jkp ht).2 m,jpg w i]
 cases B:(j0u t d != 0)
 rotate_left
 ·rfl
 have b:j0u t d=0:=by simpa using B
 have q:=(j2y h).2.1
 rw [cond_false,cond_false,j7f l (by omega) (jff h g),b]
 rcases f with e | e | e | e | e
 ·exact absurd e i
 ·rw [e];rfl
 ·unfold jep
  rw [e]
  simp only [show ((3:Int)==2)=false from rfl,show ((3:Int)==3)=true from rfl,cond_false,cond_true]
  rw [jmS d l z (jff h g) (A e)]
 ·unfold jep
  have G:¬ j02 t.2.1 d.2.2.2.2.1<0:=λp=>by
   unfold j0u at b
   rw [e] at b
   simp only [show ((4:Int)==3)=false from rfl,show ((4:Int)==4)=true from rfl,cond_false,cond_true,decide_eq_true p] at b
   cases b
  rcases j1b t.2.1 d.2.2.2.2.1 with ⟨y,_⟩ | ⟨j,C,y,_,_⟩
  ·omega
  rw [e]
  simp only [show ((4:Int)==2)=false from rfl,show ((4:Int)==3)=false from rfl,show ((4:Int)==4)=true from rfl,cond_false,cond_true]
  rw [j7e _ _ (by unfold LIM;omega),y,jmU j l z (λx E=>by rw [j0x (F x E)];exact ⟨C,q⟩)]
  rfl
 ·unfold jep
  rw [e]
  rfl
end Go.PI.G
namespace Go.PI.G
open Go Go.PI Go.Proofs
theorem jcz {c:List T} (h:j24 c=true):msr (.slice yT) c<=1048576:=by
 obtain ⟨b,d,_⟩:=(j0d c).1 h
 have:=j9r (e:=yT) 400 c (λt ht=>j9t (d t ht))
 have f:c.length * (400+1)<=6 * 401:=Nat.mul_le_mul b (Nat.le_refl _)
 omega
theorem jhv (l:List (List V)) (h:l.length<=1048576) (f:∀ x∈l,x.length<=1048576) (k:List (List V)->Res):j60 l k=k l:=by
 unfold j60 jdX
 have:=Z9T l (λi b=>(b,i)) (λx=>[x]) 1048576 [] (step:=j8g l (nI l.length)) (λb=>k b) (λb=>k b) (by unfold LIM;omega) (λi d _=>by
  rw [j0R,List.nil_append,List.length_take];omega) (by simp) (λi b rec d j g=>by
  show j34 _ _ _ _ _ _=_
  unfold j34 j0a
  dsimp only
  rw [ZaQ d,cond_true,j00 d,cond_true,Zay _ _ _ d,jbq (f _ (List.getElem_mem d)),cond_true,ZaL (by unfold LIM;omega),cond_true,j01 (n:=(i:Int)+1) (by omega)]) (λb rec=>by
  show j34 _ _ _ _ _ _=_
  unfold j34
  dsimp only
  rw [ZaP,cond_false])
 refine this.trans ?_
 rw [j0R,List.nil_append]
theorem jaH {d:DB} (h:dbB d=true):j24 d.1=true/\d.1.length<=6/\d.2.length=d.1.length/\∀ x∈d.2,x.length<=60/\∀ r∈x,r.length<=1048576:=by
 obtain ⟨b,k,l⟩:=(j1p d).1 h
 have n:=jcz b
 refine ⟨b,((j0d _).1 b).1,k,λx p=> ?_⟩
 obtain ⟨i,m,rfl⟩:=List.mem_iff_getElem.1 p
 have g:=l i (by omega) m
 refine ⟨(j0l g).2.1,λr f=> ?_⟩
 have q:=j0x ((j0l g).2.2 r f)
 have j:=(jcQ n).2 _ (List.getElem_mem (show i<d.1.length by omega))
 have:=j.2.1
 omega
theorem jk7 (d:DB) (h:dbB d=true) (k:DB->Res):j1H d k=k d:=by
 obtain ⟨g,m,p,j⟩:=jaH h
 unfold j1H
 rw [ji4 _ (jcz g)]
 unfold jag
 have:=Z9T d.2 (λi b=>(i,(d.1,b))) (λx=>[x]) 1048576 [] (step:=j5d d.2 (nI d.2.length)) (λb=>k b) (λb=>k (d.1,b)) (by unfold LIM;omega) (λi f _=>by
  rw [j0R,List.nil_append,List.length_take];omega) (by simp) (λi b rec f r q=>by
  show j36 _ _ _ _ _ _=_
  unfold j36
  obtain ⟨w,l⟩:=j _ (List.getElem_mem f)
  dsimp only
  rw [ZaQ f,cond_true,j00 f,cond_true,Zay _ _ _ f,jhv _ (by omega) l,ZaL (by unfold LIM;omega),cond_true,j01 (n:=(i:Int)+1) (by omega)]) (λb rec=>by
  show j36 _ _ _ _ _ _=_
  unfold j36
  dsimp only
  rw [ZaP,cond_false])
 refine this.trans ?_
 rw [j0R,List.nil_append]
theorem jfD (d:DB) (h:dbB d=true) (k:DB->Res):j1c d k=k d:=by
 obtain ⟨g,m,p,j⟩:=jaH h
 unfold j1c
 rw [jhU _ (jcz g)]
 unfold jaO
 have:=Z9T d.2 (λi b=>(i,(d.1,b))) (λx=>[x]) 1048576 [] (step:=j6e d.2 (nI d.2.length)) (λb=>k b) (λb=>k (d.1,b)) (by unfold LIM;omega) (λi f _=>by
  rw [j0R,List.nil_append,List.length_take];omega) (by simp) (λi b rec f r q=>by
  show j3B _ _ _ _ _ _=_
  unfold j3B
  obtain ⟨w,l⟩:=j _ (List.getElem_mem f)
  dsimp only
  rw [ZaQ f,cond_true,j00 f,cond_true,Zay _ _ _ f,j7f _ (by omega) l,ZaL (by unfold LIM;omega),cond_true,j01 (n:=(i:Int)+1) (by omega)]) (λb rec=>by
  show j3B _ _ _ _ _ _=_
  unfold j3B
  dsimp only
  rw [ZaP,cond_false])
 refine this.trans ?_
 rw [j0R,List.nil_append]
theorem jnA (t:T) (h:msr yT t<=1048576) (l:List (List V)) (s:ST) (b:s.1≠5) (k:List (List V)->Int->Res):j1g t l s k=k (j2z t l s).1 (j2z t l s).2:=by
 unfold j1g j2z
 cases (s.1==1)
 ·rw [cond_false,cond_false]
  cases (s.1==2)
  ·rw [cond_false,cond_false]
   cases (s.1==3)
   ·rw [cond_false,cond_false,show (s.1==5)=false by simpa using b]
    rfl
   ·rw [cond_true,cond_true,jmm t h]
  ·rw [cond_true,cond_true,jmo t h]
 ·rw [cond_true,cond_true,jmn t h]
end Go.PI.G
namespace Go.PI.G
open Go Go.PI Go.Proofs
theorem jrz (b:Int) (s:ST) (a z:Res):j7w b s (λ_=>a) (λ_=>z)=bif decide (b<0)&& !((s.1==5)&&(s.2.2.2.2.1==1)) then z else a:=by
 unfold j7w
 cases decide (b<0)
 ·rfl
 ·rw [cond_true,Bool.true_and]
  unfold bne
  cases (s.1==5)
  ·rfl
  ·cases (s.2.2.2.2.1==1)<;>rfl
theorem jor {t:T} {l:List (List V)} {s:ST}:0<=(j2z t l s).2/\(j2z t l s).2<=5:=by
 unfold j2z j5z j5A j5y
 cases (s.1==1)
 ·cases (s.1==2)
  ·cases (s.1==3)
   ·simp
   ·simp only [cond_true,cond_false]
    cases j08 t l
    ·simp
    ·cases (!j9Q t s.2.2.1||decide (j05 t l s.2.2.1<0))<;>simp
  ·simp only [cond_true,cond_false]
   cases j08 t l
   ·simp
   ·cases j0q t.2.1 s.2.2.2.1
    ·simp
    ·cases (!j9Q t s.2.2.1||decide (j05 t l s.2.2.1<0))
     ·cases !decide (j05 t (l.eraseIdx (j05 t l s.2.2.1).toNat) (j06 t s.2.2.2.1)<0)<;>simp
     ·simp
 ·simp only [cond_true,cond_false]
  cases j08 t l
  ·simp
  ·cases j0q t.2.1 s.2.2.2.1
   ·simp
   ·cases !decide (j05 t l (j06 t s.2.2.2.1)<0)
    ·cases (l.length==60)<;>simp
    ·simp
theorem jnv (d:DB) (h:dbB d=true) (s:ST) (q:s.1≠5) (i:Nat) (f:i<d.1.length) (g:j03 d.1 s.2.1=(i:Int)) (k:DB->Int->Res) :
  (bif inb (i:Int) d.1.length then
          bif inb (i:Int) d.2.length then
           j1g (nth zT d.1 (i:Int)) (nth [] d.2 (i:Int)) s λ(w:List (List V)) (r:Int)=>
            bif (r != 0) then
             k ([],[]) (Z9K (10+r))
            else
             j1H d λ(m:DB)=>
              bif inb (i:Int) (List.length m.2) then
               k (m.1,upd m.2 (i:Int) w) 0
              else none
          else none
         else none)=k (j1W d s).1 (j1W d s).2:=by
 obtain ⟨p,y,z⟩:=(j1p d).1 h
 have b:i<d.2.length:=by omega
 have B:=(jcQ (jcz p)).2 _ (List.getElem_mem f)
 have ht:j04 d.1[i]=true:=((j0d _).1 p).2.1 _ (List.getElem_mem f)
 have j:msr yT d.1[i]<=1048576:=Nat.le_trans (j9t ht) (by omega)
 rw [j00 f,cond_true,j00 b,cond_true,Zay _ _ _ f,Zay _ _ _ b,jnA _ j _ _ q]
 unfold j1W
 rw [g,decide_eq_false (by omega),Bool.false_and,cond_false,show (s.1==5)=false by simpa using q,cond_false,Zay _ _ _ f,Zay _ _ _ b]
 have A:=jor (t:=d.1[i]) (l:=d.2[i]) (s:=s)
 cases C:((j2z d.1[i] d.2[i] s).2 != 0)
 ·rw [cond_false,cond_false,jk7 d h,j00 b,cond_true,ZaF,Int.toNat_natCast]
 ·rw [cond_true,cond_true,j01 (n:=10+(j2z d.1[i] d.2[i] s).2) (by omega)]
end Go.PI.G
namespace Go.PI.G
open Go Go.PI Go.Proofs
noncomputable def j8E (d:DB) (x:D) (u:T):List (List V):=
 bif decide (j03 d.1 u.1>=0)&&sEq u.1 x.2.1 then (bif x.1==2 then [] else jep (nth zT d.1 (j03 d.1 u.1)) x (nth [] d.2 (j03 d.1 u.1)))
 else bif decide (j03 d.1 u.1>=0) then nth [] d.2 (j03 d.1 u.1) else []
theorem jp1 (d:DB) (h:dbB d=true) (s:ST) (z:s.1=5) (B:s.2.2.2.2.2.1=s.2.1) (q:dSm s.2.2.2.2) (E:j13 s.2.2.2.2=true) (l:j0b d.1 s.2.2.2.2=0) (u:T) (k:List (List V)->Res) :
  (j1l d.1 u.1 λ(r:Int)=>j35 r s u λ(t:Bool)=>j1O r t d s [] k)=k (j8E d s.2.2.2.2 u):=by
 obtain ⟨C,J,D⟩:=(j1p d).1 h
 obtain ⟨_,G,_,g⟩:=jaH h
 rw [j7t _ _ (by unfold LIM;omega)]
 unfold j35 j1O j8E
 rw [B]
 rcases j0o d.1 u.1 with ⟨p,_⟩ | ⟨i,n,p,A⟩
 ·rw [p]
  rfl
 ·have w:decide (j03 d.1 u.1>=0)=true:=decide_eq_true (by omega)
  have f:i<d.2.length:=by omega
  rw [w,Bool.true_and,cond_true,p,j00 n,j00 f,Zay _ _ _ n,Zay _ _ _ f]
  cases H:sEq u.1 s.2.1
  ·obtain ⟨K,I⟩:=g _ (List.getElem_mem f)
   simp only [cond_false,cond_true]
   rw [jhv _ (by omega) I]
  ·have b:u.1=s.2.1:=(j09 _ _).1 H
   have ht:j04 d.1[i]=true:=((j0d _).1 C).2.1 _ (List.getElem_mem n)
   have y:msr yT d.1[i]<=1048576:=Nat.le_trans (j9t ht) (by omega)
   have m:j03 d.1 s.2.2.2.2.2.1=(i:Int):=by rw [B,<-b];exact p
   have j:s.2.2.2.2.1≠1:=λe=>by
    unfold j0b at l
    rw [e,m] at l
    rw [decide_eq_false (show ¬ (i:Int)<0 by omega)] at l
    cases l
   have F:j0u d.1[i] s.2.2.2.2=0:=by
    unfold j0b at l
    rw [show (s.2.2.2.2.1==1)=false by simpa using j,cond_false,m,decide_eq_false (show ¬ (i:Int)<0 by omega),cond_false,Zay _ _ _ n] at l
    exact l
   simp only [cond_true]
   unfold j1g
   rw [z]
   simp only [show ((5:Int)==1)=false from rfl,show ((5:Int)==2)=false from rfl,show ((5:Int)==3)=false from rfl,show ((5:Int)==5)=true from rfl,cond_false,cond_true,Z9Q]
   rw [jkX _ y _ (D i n f) _ q E (by rw [B,<-b];exact A.symm) j,F]
   rfl
theorem jmH {c:List T} {d:D} (b:j24 c=true) (f:j13 d=true):jer c d=bif j0b c d != 0 then ([],j0b c d) else (j14 c d,0):=by
 unfold jer
 rw [b,f]
 rfl
theorem jjd (c:List T) (d:D):0<=j0b c d/\j0b c d<=8:=by
 unfold j0b j0u
 cases (d.1==1)
 ·cases decide (j03 c d.2.1<0)
  ·generalize nth zT c (j03 c d.2.1)=t
   cases (d.1==3)
   ·cases (d.1==4)
    ·cases (d.1==5)
     ·simp
     ·cases decide (j02 t.2.1 d.2.2.2.2.2<0)
      ·simp
      ·cases decide (j02 t.2.1 d.2.2.2.2.1<0)<;>simp
    ·cases decide (j02 t.2.1 d.2.2.2.2.1<0)
     ·cases t.2.2.any (λx=>sEq x d.2.2.2.2.1)<;>simp
     ·simp
   ·cases decide (j02 t.2.1 (nth zC d.2.2.1 0).1<0)
    ·simp
    ·cases (t.2.1.length==8)<;>simp
  ·simp
 ·cases decide (j03 c d.2.1<0)
  ·simp
  ·cases (c.length==6)<;>simp
theorem jkV (d:DB) (h:dbB d=true) (s:ST) (q:s.1=5) (y:s.2.2.2.2.2.1=s.2.1) (j:dSm s.2.2.2.2) (p:j13 s.2.2.2.2=true) (k:DB->Int->Res) :
  j3t d s k=bif j0b d.1 s.2.2.2.2 != 0 then k ([],[]) (10+j0b d.1 s.2.2.2.2) else k (j14 d.1 s.2.2.2.2,(j14 d.1 s.2.2.2.2).map (j8E d s.2.2.2.2)) 0:=by
 obtain ⟨m,z,A⟩:=(j1p d).1 h
 have D:=jjd d.1 s.2.2.2.2
 unfold j3t
 rw [ji5 _ _ (jcz m) j,jmH m p]
 cases r:(j0b d.1 s.2.2.2.2 != 0)
 rotate_left
 ·rw [cond_true]
  dsimp only
  rw [r,cond_true,cond_true,j01 (n:=10+j0b d.1 s.2.2.2.2) (by omega)]
 have g:j0b d.1 s.2.2.2.2=0:=by simpa using r
 have f:=jkq m p g
 have w:=((j0d _).1 f).1
 rw [cond_false,cond_false]
 show (j5c (j14 d.1 s.2.2.2.2) (nI (j14 d.1 s.2.2.2.2).length) d s Z1c 0 (j14 d.1 s.2.2.2.2,[]) λb=>k b 0)=_
 generalize j14 d.1 s.2.2.2.2=c' at *
 unfold j5c
 have:=Z9T c' (λi b=>(i,(c',b))) (λu=>[j8E d s.2.2.2.2 u]) 6 [] (step:=j23 c' (nI c'.length) d s) (λb=>k b 0) (λb=>k (c',b) 0) (by unfold LIM;omega) (λi l _=>by
  rw [jdG,List.nil_append,List.length_map,List.length_take];omega) (by simp) (λi b rec l C B=>by
  show j1a _ _ _ _ _ _ _ _=_
  unfold j1a
  dsimp only
  rw [ZaQ l,cond_true,j00 l,cond_true,Zay _ _ _ l,jp1 d h s q y j p g,ZaL (by unfold LIM;omega),cond_true,j01 (n:=(i:Int)+1) (by omega)]) (λb rec=>by
  show j1a _ _ _ _ _ _ _ _=_
  unfold j1a
  dsimp only
  rw [ZaP,cond_false])
 refine this.trans ?_
 rw [jdG,List.nil_append]
end Go.PI.G
namespace Go.PI.G
open Go Go.PI Go.Proofs
theorem jpA {d:DB} (h:msr yDB d<=1048576):msr (.slice yT) d.1<=1048576/\d.1.length<=1048576/\d.2.length<=1048576/\(∀ t∈d.1,msr yT t<=1048576)/\∀ l∈d.2,l.length<=1048576:=by
 have i:msr yDB d=msr (.slice yT) d.1+msr (.slice (.slice (.slice yV))) d.2:=rfl
 have b:msr (.slice yT) d.1<=1048576:=by omega
 have f:msr (.slice (.slice (.slice yV))) d.2<=1048576:=by omega
 exact ⟨b,j0Y b,j0Y f,λt ht=>j29 b ht,λl g=>j0Y (j29 f g)⟩
theorem jht (d:DB) (h:msr yDB d<=1048576) (k:Bool->Res):j68 d k=k (dbB d):=by
 obtain ⟨j,m,p,l,q⟩:=jpA h
 unfold j68 dbB
 rw [jk5 _ j]
 cases j24 d.1
 ·rfl
 ·rw [Bool.not_true,cond_false,Bool.true_and]
  by_cases f:d.2.length=d.1.length
  ·have g:(nI d.2.length != nI d.1.length)=false:=by rw [f,ZaO]
   rw [g,cond_false,decide_eq_true f,Bool.true_and]
   unfold jdi
   have:=Z9P d.1 (λi=>i) (λi t=> !j08 t (nth [] d.2 (i:Int))) (step:=j7V d.1 (nI d.1.length) d) ((λ(_:Unit)=>k true),(λ(_:Unit)=>k false)) (k true) (k false) (by unfold LIM;omega) (λi rec b=>by
    show j5T _ _ d _ _ _ _=_
    unfold j5T
    rw [ZaQ b,cond_true,j00 b,cond_true,j00 (f ▸ b),cond_true,Zay _ _ _ b,j6L _ (l _ (List.getElem_mem b)),j01 (n:=(i:Int)+1) (by omega)]) (λrec=>by
    show j5T _ _ d _ _ _ _=_
    unfold j5T
    rw [ZaP,cond_false])
   refine this.trans ?_
   cases Z71 (λi t=> !j08 t (nth [] d.2 (i:Int))) 0 d.1<;>rfl
  ·have g:(nI d.2.length != nI d.1.length)=true:=by unfold nI;simp;omega
   rw [g,cond_true,decide_eq_false f,Bool.false_and]
theorem jps (d:DB) (h:msr yDB d<=1048576) (k:Bool->Res):j9o d k=k (dbB d):=by
 obtain ⟨j,m,p,l,q⟩:=jpA h
 unfold j9o dbB
 rw [jjh _ j]
 cases j24 d.1
 ·rfl
 ·rw [Bool.not_true,cond_false,Bool.true_and]
  by_cases f:d.2.length=d.1.length
  ·have g:(nI d.2.length != nI d.1.length)=false:=by rw [f,ZaO]
   rw [g,cond_false,decide_eq_true f,Bool.true_and]
   unfold jcU
   have:=Z9P d.1 (λi=>i) (λi t=> !j08 t (nth [] d.2 (i:Int))) (step:=j7L d.1 (nI d.1.length) d) ((λ(_:Unit)=>k true),(λ(_:Unit)=>k false)) (k true) (k false) (by unfold LIM;omega) (λi rec b=>by
    show j5m _ _ d _ _ _ _=_
    unfold j5m
    rw [ZaQ b,cond_true,j00 b,cond_true,j00 (f ▸ b),cond_true,Zay _ _ _ b,j8o _ (l _ (List.getElem_mem b)),j01 (n:=(i:Int)+1) (by omega)]) (λrec=>by
    show j5m _ _ d _ _ _ _=_
    unfold j5m
    rw [ZaP,cond_false])
   refine this.trans ?_
   cases Z71 (λi t=> !j08 t (nth [] d.2 (i:Int))) 0 d.1<;>rfl
  ·have g:(nI d.2.length != nI d.1.length)=true:=by unfold nI;simp;omega
   rw [g,cond_true,decide_eq_false f,Bool.false_and]
end Go.PI.G
namespace Go.PI.G
open Go Go.PI Go.Proofs
theorem jhZ {d:DB} (h:dbB d=true) (x:D) {j:Nat} (i:j<d.1.length) (b:j<d.2.length) (k:d.1[j].1≠x.2.1):j8E d x d.1[j]=d.2[j]:=by
 obtain ⟨g,l,m⟩:=(j1p d).1 h
 unfold j8E
 have f:sEq d.1[j].1 x.2.1=false:=by
  cases f:sEq d.1[j].1 x.2.1
  ·rfl
  ·exact absurd ((j09 _ _).1 f) k
 rw [f,Bool.and_false,cond_false,jdZ ((j0d _).1 g).2.2 i,decide_eq_true (by omega),cond_true,Zay _ _ _ b]
theorem jpH {d:DB} (h:dbB d=true) (x:D) {i:Nat} (n:i<d.1.length) (q:i<d.2.length) (r:d.1[i].1=x.2.1):d.1.map (j8E d x)=d.2.set i (j8E d x d.1[i]):=by
 obtain ⟨l,m,y⟩:=(j1p d).1 h
 apply List.ext_getElem
 ·simp [m]
 ·intro j w z
  have g:j<d.1.length:=by simpa using w
  rw [List.getElem_map,List.getElem_set]
  by_cases e:i=j
  ·subst e
   rw [if_pos rfl]
  ·rw [if_neg e]
   refine jhZ h x g (by omega) λk=> ?_
   have p:=((j0d _).1 l).2.2
   have b:=jkN p n g e
   rw [r,k,jcw] at b
   rcases b with f | f<;>cases f
theorem jr7 {d:DB} (h:dbB d=true) {x:D} (K:j13 x=true) (A:j0b d.1 x=0):(j14 d.1 x).map (j8E d x)=jhC d x:=by
 obtain ⟨F,J,P⟩:=(j1p d).1 h
 have C:=(j0d _).1 F
 unfold jhC
 cases r:(x.1==1)
 ·rw [cond_false]
  rcases j0o d.1 x.2.1 with ⟨l,_⟩ | ⟨i,B,l,z⟩
  ·unfold j0b at A
   rw [r,cond_false,decide_eq_true (by omega),cond_true] at A
   cases A
  ·have k:i<d.2.length:=by omega
   have g:=jpH h x B k z
   unfold j14
   rw [r,cond_false,l,Zay _ _ _ B,Zay _ _ _ k,Int.toNat_natCast]
   cases I:(x.1==2)
   ·rw [cond_false,cond_false,List.map_set,g,List.set_set]
    congr 1
    unfold j8E
    rw [jgY,z,Zah,Bool.and_true,l,decide_eq_true (by omega),cond_true,I,cond_false,Zay _ _ _ B,Zay _ _ _ k]
   ·rw [cond_true,cond_true,List.eraseIdx_eq_take_drop_succ,List.eraseIdx_eq_take_drop_succ,List.map_append,List.map_take,List.map_drop,g,List.take_set,List.set_eq_of_length_le (by rw [List.length_take];omega),List.drop_set_of_lt (by omega)]
 ·rw [cond_true]
  have e:x.1=1:=by simpa using r
  have b:=A
  unfold j0b at b
  rw [r,cond_true] at b
  rcases j0o d.1 x.2.1 with ⟨l,E⟩ | ⟨i,B,l,_⟩
  rotate_left
  ·rw [decide_eq_false (by omega)] at b
   cases b
  have ht:j04 (x.2.1,x.2.2.1,x.2.2.2.1)=true:=by
   obtain ⟨_,⟨t,cs,ks,rfl,ht⟩ | ⟨t,rfl⟩ | ⟨t,c,rfl,_⟩ | ⟨t,n,rfl,_⟩ | ⟨t,n,m,rfl,_⟩⟩:=j7J K
   ·exact ht
   all_goals exact absurd e (by simp)
  have G:d.1.length<6:=by
   rw [decide_eq_true (by omega),Bool.not_true,cond_false] at b
   have G:=C.1
   rcases Nat.lt_or_ge d.1.length 6 with q | q
   ·exact q
   ·rw [show (d.1.length==6)=true from beq_iff_eq.2 (by omega)] at b
    cases b
  obtain ⟨p,Q,f,y⟩:=jn7 F ht (show j03 d.1 x.2.1<0 by omega) G
  have w:d.1.map (j8E d x)=d.2:=by
   apply List.ext_getElem
   ·simp [J]
   ·intro j L M
    have H:j<d.1.length:=by simpa using L
    rw [List.getElem_map]
    exact jhZ h x H M (E _ (List.getElem_mem H))
  unfold j14
  rw [r,cond_true]
  have f:j03 (lay tR (x.2.1,x.2.2.1,x.2.2.2.1) d.1) x.2.1=(p:Int):=f
  rw [f,Int.toNat_natCast,y,List.map_append,List.map_cons,List.map_take,List.map_drop,w]
  congr 2
  unfold j8E
  rw [l]
  rfl
theorem jqr {t:T} {l:List (List V)} (h:j08 t l=true) (n:t.2.1.length<=8):msr (.slice (.slice yV)) l<=14940:=by
 obtain ⟨ht,g,d⟩:=j0l h
 have:=j9r (e:= .slice yV) 248 l (λr b=>by
  have i:=j9r (e:=yV) 30 r (λv f=>jqX (jnh (d r b) v f))
  have j:=j0x (d r b)
  have k:r.length * (30+1)<=8 * 31:=Nat.mul_le_mul (by omega) (Nat.le_refl _)
  omega)
 have m:l.length * (248+1)<=60 * 249:=Nat.mul_le_mul g (Nat.le_refl _)
 omega
theorem jh1 {d:DB} (h:dbB d=true):msr yDB d<=1048576:=by
 obtain ⟨g,m,j⟩:=(j1p d).1 h
 have f:=((j0d _).1 g).1
 have q:=j9r (e:=yT) 400 d.1 (λt ht=>j9t (((j0d _).1 g).2.1 t ht))
 have n:d.1.length * (400+1)<=6 * 401:=Nat.mul_le_mul f (Nat.le_refl _)
 have r:=j9r (e:= .slice (.slice yV)) 14940 d.2 (λx l=>by
  obtain ⟨i,k,rfl⟩:=List.mem_iff_getElem.1 l
  have b:=j i (by omega) k
  exact jqr b ((j6p _).1 (j0l b).1).2.2.1)
 have p:d.2.length * (14940+1)<=6 * 14941:=Nat.mul_le_mul (by omega) (Nat.le_refl _)
 have e:msr yDB d=msr (.slice yT) d.1+msr (.slice (.slice (.slice yV))) d.2:=rfl
 omega
theorem jpN {s:ST} (d:stB s=true) (f:s.1=5):j13 s.2.2.2.2=true/\s.2.2.2.2.2.1=s.2.1:=by
 unfold stB at d
 rw [f,Bool.and_eq_true] at d
 have b:=d.2
 simp only [show ((5:Int)==1)=false from rfl,show ((5:Int)==2)=false from rfl,show ((5:Int)==3)=false from rfl,show ((5:Int)==4)=false from rfl,show ((5:Int)==5)=true from rfl,cond_false,cond_true,Bool.and_eq_true] at b
 exact ⟨b.2.2.1,(j09 _ _).1 b.2.2.2⟩
theorem joh (d:DB) (h:dbB d=true) (s:ST) (b:j0P s) (n:stB s=true) (k:DB->Int->Res):j7v d s k=k (j1W d s).1 (j1W d s).2:=by
 obtain ⟨p,A,B⟩:=(j1p d).1 h
 have y:=((j0d _).1 p).1
 unfold j7v
 rw [jht d (jh1 h),h,Bool.not_true,cond_false,jhw s b,n,Bool.not_true,cond_false,j7t _ _ (by unfold LIM;omega),jrz]
 cases g:(decide (j03 d.1 s.2.1<0)&& !((s.1==5)&&(s.2.2.2.2.1==1)))
 rotate_left
 ·unfold j1W
  rw [g]
  rfl
 rw [cond_false]
 cases f:(s.1==5)
 ·rw [f,Bool.false_and,Bool.not_false,Bool.and_true] at g
  have r:¬ j03 d.1 s.2.1<0:=of_decide_eq_false g
  rcases j0o d.1 s.2.1 with ⟨j,_⟩ | ⟨i,w,j,_⟩
  ·omega
  rw [cond_false,j]
  exact jnv d h s (by simpa using f) i w j k
 ·have l:s.1=5:=by simpa using f
  obtain ⟨m,z⟩:=jpN n l
  rw [cond_true,jkV d h s l z b.2.2.2 m]
  unfold j1W
  rw [g,f,cond_false,cond_true]
  cases q:(j0b d.1 s.2.2.2.2 != 0)
  ·rw [cond_false,cond_false,jr7 h m (by simpa using q)]
  ·rfl
end Go.PI.G
namespace Go.PI.G
open Go Go.PI Go.Proofs
theorem jrr (b:Int) (s:ST) (a z:Res):j7j b s (λ_=>a) (λ_=>z)=bif decide (b<0)&& !((s.1==5)&&(s.2.2.2.2.1==1)) then z else a:=by
 unfold j7j
 cases decide (b<0)
 ·rfl
 ·rw [cond_true,Bool.true_and]
  unfold bne
  cases (s.1==5)
  ·rfl
  ·cases (s.2.2.2.2.1==1)<;>rfl
theorem jmZ (t:T) (h:msr yT t<=1048576) (l:List (List V)) (s:ST) (k:List (List V)->Int->Res):j5s l 0 s.1 s t k=k (j2z t l s).1 (j2z t l s).2:=by
 unfold j5s j2z
 cases (s.1==1)
 ·rw [cond_false,cond_false]
  cases (s.1==2)
  ·rw [cond_false,cond_false]
   cases (s.1==3)
   ·rfl
   ·rw [cond_true,cond_true,jlP t h]
  ·rw [cond_true,cond_true,jlR t h]
 ·rw [cond_true,cond_true,jlQ t h]
theorem jkr (d:DB) (h:dbB d=true) (x:D) (A:dSm x) (E:j13 x=true) (k:DB->Int->Res) :
  j5r d x k=bif j0b d.1 x != 0 then k ([],[]) (j0b d.1 x) else k (j14 d.1 x,jhC d x) 0:=by
 obtain ⟨y,Y,K⟩:=(j1p d).1 h
 have R:=((j0d _).1 y).1
 unfold j5r
 rw [jo3 _ _ (jcz y) A,jmH y E]
 cases I:(j0b d.1 x != 0)
 rotate_left
 ·rw [cond_true]
  dsimp only
  rw [I,cond_true,cond_true]
 have f:j0b d.1 x=0:=by simpa using I
 have l:=jkq y E f
 have P:=((j0d _).1 l).1
 rw [cond_false,cond_false]
 show (j1c d λW=>j0j d.1 x.2.1 λX=>j2x X x.1 d x (j14 d.1 x) W λH=>k (j14 d.1 x,H.2) 0)=_
 rw [jfD d h,j5k _ _ (by unfold LIM;omega)]
 unfold j2x jhC
 cases w:(x.1==1)
 ·rw [cond_false,cond_false]
  rcases j0o d.1 x.2.1 with ⟨B,_⟩ | ⟨i,z,B,G⟩
  ·unfold j0b at f
   rw [w,cond_false,decide_eq_true (by omega),cond_true] at f
   cases f
  ·have r:i<d.2.length:=by omega
   rw [B,Int.toNat_natCast]
   cases J:(x.1==2)
   ·have ht:j04 d.1[i]=true:=((j0d _).1 y).2.1 _ (List.getElem_mem z)
    have F:msr yT d.1[i]<=1048576:=Nat.le_trans (j9t ht) (by omega)
    have Q:j0u d.1[i] x=0:=by
     unfold j0b at f
     rw [w,cond_false,B,decide_eq_false (show ¬ (i:Int)<0 by omega),cond_false,Zay _ _ _ z] at f
     exact f
    rw [cond_false,cond_false,j00 z,cond_true,j00 r,cond_true,Zay _ _ _ z,Zay _ _ _ r,jks _ F _ (K i z r) _ A E G.symm (by simpa using w),Q,J,cond_true,ZaF]
    rfl
   ·rw [cond_true,cond_true]
    unfold j4C jaI
    rw [j01 (n:=(i:Int)+1) (by omega),show Z8e (i:Int) ((i:Int)+1) d.2.length=true from j8R (j:=i+1) ⟨by omega,by omega⟩,cond_true,List.eraseIdx_eq_take_drop_succ]
    rfl
 ·rw [cond_true,cond_true]
  simp only [Z9Q]
  have C:∃ p:Nat,p<=d.2.length/\j03 (j14 d.1 x) x.2.1=(p:Int):=by
   have e:x.1=1:=by simpa using w
   have b:=f
   unfold j0b at b
   rw [w,cond_true] at b
   rcases j0o d.1 x.2.1 with ⟨B,T⟩ | ⟨i,z,B,_⟩
   rotate_left
   ·rw [decide_eq_false (by omega)] at b
    cases b
   have ht:j04 (x.2.1,x.2.2.1,x.2.2.2.1)=true:=by
    obtain ⟨_,⟨t,cs,ks,rfl,ht⟩ | ⟨t,rfl⟩ | ⟨t,c,rfl,_⟩ | ⟨t,n,rfl,_⟩ | ⟨t,n,m,rfl,_⟩⟩:=j7J E
    ·exact ht
    all_goals exact absurd e (by simp)
   have L:d.1.length<6:=by
    rw [decide_eq_true (by omega),Bool.not_true,cond_false] at b
    rcases Nat.lt_or_ge d.1.length 6 with q | q
    ·exact q
    ·rw [show (d.1.length==6)=true from beq_iff_eq.2 (by omega)] at b
     cases b
   obtain ⟨p,U,g,_⟩:=jn7 y ht (show j03 d.1 x.2.1<0 by omega) L
   refine ⟨p,by omega,?_⟩
   unfold j14
   rw [w,cond_true]
   exact g
  obtain ⟨p,U,g⟩:=C
  rw [j5k _ _ (by unfold LIM;omega),g]
  unfold j1u jev
  have M:jip (p:Int) d.2.length [([]:List (List V))].length=true:=decide_eq_true ⟨by omega,by omega,by simp,by simp;unfold LIM;omega⟩
  rw [M,cond_true,Int.toNat_natCast,List.append_assoc]
  rfl
theorem jo4 (d:DB) (h:dbB d=true) (s:ST) (p:j0P s) (D:stB s=true) (k:DB->Int->Res):j9p d s k=k (j1W d s).1 (j1W d s).2:=by
 obtain ⟨q,E,F⟩:=(j1p d).1 h
 have B:=((j0d _).1 q).1
 unfold j9p
 rw [j5k _ _ (by unfold LIM;omega),jrr]
 cases f:(decide (j03 d.1 s.2.1<0)&& !((s.1==5)&&(s.2.2.2.2.1==1)))
 rotate_left
 ·unfold j1W
  rw [f]
  rfl
 rw [cond_false]
 cases g:(s.1==5)
 ·unfold j1W
  rw [f,g,cond_false,cond_false,cond_false]
  rw [g,Bool.false_and,Bool.not_false,Bool.and_true] at f
  have A:¬ j03 d.1 s.2.1<0:=of_decide_eq_false f
  rcases j0o d.1 s.2.1 with ⟨r,_⟩ | ⟨i,j,r,_⟩
  ·omega
  have b:i<d.2.length:=by omega
  have ht:j04 d.1[i]=true:=((j0d _).1 q).2.1 _ (List.getElem_mem j)
  have m:msr yT d.1[i]<=1048576:=Nat.le_trans (j9t ht) (by omega)
  have y:=jor (t:=d.1[i]) (l:=d.2[i]) (s:=s)
  unfold j9M
  rw [r]
  simp only [j00 j,j00 b,cond_true,Z9Q]
  rw [Zay _ _ _ j,Zay _ _ _ b,jmZ _ m]
  cases f:((j2z d.1[i] d.2[i] s).2 != 0)
  ·rw [cond_false,cond_false,jfD d h,j00 b,cond_true,ZaF,Int.toNat_natCast]
  ·rw [cond_true,cond_true,j01 (n:=10+(j2z d.1[i] d.2[i] s).2) (by omega)]
 ·have w:s.1=5:=by simpa using g
  obtain ⟨z,G⟩:=jpN D w
  have C:=jjd d.1 s.2.2.2.2
  rw [cond_true,jkr d h _ p.2.2.2 z]
  unfold j1W
  rw [f,g,cond_false,cond_true]
  cases y:(j0b d.1 s.2.2.2.2 != 0)
  ·rfl
  ·rw [cond_true,cond_true,cond_true,j01 (n:=10+j0b d.1 s.2.2.2.2) (by omega)]
end Go.PI.G
namespace Go.PI.G
open Go Go.PI Go.Proofs
theorem jnw (d:DB) (h:dbB d=true) (s:ST) (b:j0P s) (f:stB s=false) (k:DB->Int->Res):j7v d s k=k ([],[]) 1:=by
 unfold j7v
 rw [jht d (jh1 h),h,Bool.not_true,cond_false,jhw s b,f]
 rfl
theorem jkW (d:DB) (p:msr yDB d<=1048576) (l:List ST) (z:l.length<=1048576) (j:∀ s∈l,j0P s) (k:DB->Int->Int->Res):j2s d l k=k (j0k d l).1 (j0k d l).2.1 (j0k d l).2.2:=by
 unfold j2s j0k
 rw [jht d p]
 cases h:dbB d
 ·rfl
 rw [Bool.not_true,cond_false,cond_false,jk7 d h]
 unfold j73
 have:=Z3Z l (λi (a:DB)=>(i,a)) j7Z (λ_ a=>dbB a=true) (step:=j55 l (nI l.length)) ((λ(now:DB)=>k now 0 0),(λ(t:Int) (r:Int)=>k ([],[]) t r)) (λa=>k a 0 0) (λe=>k ([],[]) e.1 e.2) d (by unfold LIM;omega) h (λi a w f b q=>jj2 b q) (λi a rec f b=>by
  show j2W _ _ _ _ _ _ _=_
  unfold j2W j7Z
  dsimp only
  have g:=j _ (List.getElem_mem f)
  rw [ZaQ f,cond_true,j00 f,cond_true,Zay _ _ _ f]
  cases m:stB l[i]
  ·rw [jnw a b _ g m]
   rfl
  ·rw [joh a b _ g m,Bool.not_true,cond_false]
   cases y:((j1W a l[i]).2 != 0)
   ·rw [cond_false,cond_false,j01 (n:=(i:Int)+1) (by omega)]
   ·rfl) (λa rec b=>by
  show j2W _ _ _ _ _ _ _=_
  unfold j2W
  dsimp only
  rw [ZaP,cond_false])
 refine this.trans ?_
 cases Z1S j7Z 0 l d<;>rfl
theorem jf7 (d:DB) (p:msr yDB d<=1048576) (l:List ST) (z:l.length<=1048576) (j:∀ s∈l,j0P s) (k:DB->Int->Int->Res):j0L d l k=k (j0k d l).1 (j0k d l).2.1 (j0k d l).2.2:=by
 unfold j0L j0k
 rw [jps d p]
 cases h:dbB d
 ·rfl
 rw [Bool.not_true,cond_false,cond_false,jfD d h]
 unfold j9J
 have:=Z3Z l (λi (a:DB)=>(i,a)) j7Z (λ_ a=>dbB a=true) (step:=j2N l (nI l.length)) ((λ(now:DB)=>k now 0 0),(λ(t:Int) (r:Int)=>k ([],[]) t r)) (λa=>k a 0 0) (λe=>k ([],[]) e.1 e.2) d (by unfold LIM;omega) h (λi a w b g q=>jj2 g q) (λi a rec b g=>by
  show j1K _ _ _ _ _ _ _=_
  unfold j1K j7Z
  dsimp only
  have f:=j _ (List.getElem_mem b)
  rw [ZaQ b,cond_true,j00 b,cond_true,Zay _ _ _ b,jl9 _ f]
  cases m:stB l[i]
  ·rfl
  ·rw [Bool.not_true,cond_false,cond_false,jo4 a g _ f m]
   cases y:((j1W a l[i]).2 != 0)
   ·rw [cond_false,cond_false,j01 (n:=(i:Int)+1) (by omega)]
   ·rfl) (λa rec g=>by
  show j1K _ _ _ _ _ _ _=_
  unfold j1K
  dsimp only
  rw [ZaP,cond_false])
 refine this.trans ?_
 cases Z1S j7Z 0 l d<;>rfl
end Go.PI.G
namespace Go.PI.G
open Go Go.PI
theorem jry {d:D} (h:msr yD d<=1048576):dSm d:=by
 have j:msr yD d=0+(d.2.1.size+(msr (.slice yC) d.2.2.1+(msr (.slice .str) d.2.2.2.1+(d.2.2.2.2.1.size+d.2.2.2.2.2.size)))):=rfl
 have b:msr (.slice yC) d.2.2.1<=1048576:=by omega
 have f:msr (.slice .str) d.2.2.2.1<=1048576:=by omega
 refine ⟨by omega,j0Y b,j0Y f,λc g=> ?_,λx i=>j29 f i,by omega,by omega⟩
 have:=j29 b g
 have k:msr yC c=c.1.size+msr (.pair (.int .i64) (.pair .bool (.pair .bool yV))) c.2:=rfl
 omega
theorem jrs {s:ST} (h:msr yST s<=1048576):j0P s:=by
 have f:msr yST s=0+(s.2.1.size+(msr (.slice yV) s.2.2.1+(msr (.slice yV) s.2.2.2.1+msr yD s.2.2.2.2))):=rfl
 have b:msr (.slice yV) s.2.2.1<=1048576:=by omega
 have d:msr (.slice yV) s.2.2.2.1<=1048576:=by omega
 exact ⟨by omega,j0Y b,j0Y d,jry (by omega)⟩
end Go.PI.G
namespace Go.PI.G
noncomputable section
open Go Go.PI
theorem jmQ (l:List Int) (n:Int):j1V l n=true↔n∈l:=by
 unfold j1V
 rw [List.any_eq_true]
 constructor
 ·rintro ⟨x,b,h⟩
  rw [beq_iff_eq] at h
  exact h ▸ b
 ·intro h
  exact ⟨n,h,by simp⟩
def j6T (l:List RC) (n:Int):Bool:=j28 l&&decide (0<=n/\n<=(l.length:Int))
def j0f (l:List RC) (n:Int):DB:=bif j6T l n then jrw (j1C zDB (l.take n.toNat)) else zDB
theorem j9n {l:List RC} {n:Nat} (h:j28 l=true) (i:n<=l.length):j1C zDB (l.take n)= .ok (j0f l n)/\dbB (j0f l n)=true:=by
 obtain ⟨d,b,f⟩:=jqo h n
 have g:j6T l n=true:=by
  unfold j6T
  rw [h,decide_eq_true (by omega)]
  rfl
 have:j0f l n=d:=by
  unfold j0f
  rw [g,cond_true,Int.toNat_natCast,b]
  rfl
 rw [this]
 exact ⟨b,f⟩
def jq3 (l:List RC) (p:Int):Bool:=j1V (j0D l) p
theorem jq4 (l:List RC) (p:Int):jq3 l p=true↔j28 l=true/\∃ (i:Nat) (h:i<l.length),p=(i:Int)+1/\l[i].1=3:=by
 unfold jq3 j0D
 rw [jmQ]
 cases j28 l
 ·simp
 ·rw [cond_true,jos l 0]
  simp
def ja1 (d:DB) (t:ByteArray) (b:List V):List V×Bool:=
 bif decide (j03 d.1 t<0) then ([],false) else
 bif decide (j05 (nth zT d.1 (j03 d.1 t)) (nth [] d.2 (j03 d.1 t)) b<0) then ([],false) else
 (nth [] (nth [] d.2 (j03 d.1 t)) (j05 (nth zT d.1 (j03 d.1 t)) (nth [] d.2 (j03 d.1 t)) b),true)
def j0e (l:List RC) (t:ByteArray) (b:List V) (p:Int):List V×Bool:=bif j6T l p then ja1 (j0f l p) t b else ([],false)
abbrev SN:=Int×List V×Bool
def jdR (l:List RC) (t:ByteArray) (b:List V) (a:(List V×Bool)×List SN) (p:Int):(List V×Bool)×List SN:=
 (j0e l t b p,bif ((j0e l t b p).2 != a.1.2)|| !j0A zV veq (j0e l t b p).1 a.1.1 then a.2++[(p,j0e l t b p)] else a.2)
def jcu (l:List RC) (t:ByteArray) (b:List V):List SN:=((j0D l).foldl (jdR l t b) (([],false),[])).2
def jmq (l:List RC) (t:ByteArray) (b:List V):Int:=bif (nI (jcu l t b).length)==0 then 0 else (nth (0,[],false) (jcu l t b) 0).1
end
end Go.PI.G
namespace Go.PI.G
open Go Go.PI Go.Proofs
theorem jqq {l:List RC} (h:msr (.slice yRC) l<=1048576):l.length<=1048576/\∀ r∈l,j0P r.2.2:=
 ⟨j0Y h,λr b=>by
  have e:msr yRC r=0+(0+msr yST r.2.2):=rfl
  have:=j29 (e:=yRC) h b
  exact jrs (by omega)⟩
theorem jd3 {n:Nat} (h:n<=1048576):lim (0+n)=true:=ZaL (by unfold LIM;omega)
theorem jp4 (s:ST) (h:j0P s) (k:ST->Res):jai s k=k s:=by
 obtain ⟨g,d,f,b⟩:=h
 unfold jai j0a
 simp only [jd3 d,jd3 f,jd3 b.2.1,jd3 b.2.2.1,cond_true]
 try rfl
theorem joP (s:ST) (h:j0P s) (k:ST->Res):j6A s k=k s:=by
 obtain ⟨g,d,f,b⟩:=h
 unfold j6A j0t j9L j3l
 simp only [jd3 d,jd3 f,jd3 b.2.1,jd3 b.2.2.1,cond_true]
 try rfl
theorem ji7 (l:List Int) (n:Int) (h:l.length<=1048576) (k:Bool->Res):j4W l n k=k (j1V l n):=by
 unfold j4W jfo j1V
 have:=Za2 l (λi=>i) (λx=>x==n) (step:=j98 n l (nI l.length)) ((λ(_:Unit)=>k false),(λ(_:Unit)=>k true)) (k false) (k true) (by unfold LIM;omega) (λi rec b=>by
  show j42 _ _ _ _ _ _ _=_
  unfold j42
  rw [ZaQ b,cond_true,j00 b,cond_true,Zay _ _ _ b,j01 (n:=(i:Int)+1) (by omega)]) (λrec=>by
  show j42 _ _ _ _ _ _ _=_
  unfold j42
  rw [ZaP,cond_false])
 refine this.trans ?_
 cases l.any λx=>x==n<;>rfl
theorem jbm (l:List Int) (n:Int) (h:l.length<=1048576) (k:Bool->Res):j0m l n k=k (j1V l n):=by
 unfold j0m j92 jaD j1V
 have:=Z9S l (λi=>i) (λx=>n==x) (step:=j5Q l n (nI l.length)) ((λ(_:Unit)=>k (decide ((-1:Int)>=0))),(λ(t:Int)=>k (decide (t>=0)))) (λr=>k (decide (r>=0))) (by unfold LIM;omega) (λi rec b=>by
  show j1t _ _ _ _ _ _ _=_
  unfold j1t
  rw [ZaQ b,cond_true,j00 b,cond_true,Zay _ _ _ b,j01 (n:=(i:Int)+1) (by omega)]) (λrec=>by
  show j1t _ _ _ _ _ _ _=_
  unfold j1t
  rw [ZaP,cond_false])
 refine this.trans ?_
 rw [jmR]
 have:(λx:Int=>n==x)=λx=>x==n:=by funext x;exact Bool.eq_iff_iff.2 (by rw [beq_iff_eq,beq_iff_eq];exact eq_comm)
 rw [this]
theorem jhT {α:Type} (p:α->Bool):(j:Nat)->(l:List α)->Z4r (λ_ x=>bif p x then [x] else []) j l=l.filter p
 | _,[]=>rfl
 | j,x::l=>by
  show (bif p x then [x] else [])++Z4r _ (j+1) l=_
  rw [jhT p (j+1) l]
  cases h:p x
  ·rw [List.filter_cons_of_neg (by rw [h];simp)];rfl
  ·rw [List.filter_cons_of_pos h];rfl
theorem jr4 {α:Type} (b:Bool) (x:α):(bif b then [x] else []).length<=1:=by cases b<;>simp
theorem joY (l:List Int) (n:Int) (h:l.length<=1048576) (k:List Int->Res):j6P l n k=k (l.filter λy=> !(y==n)):=by
 unfold j6P jfn
 have:=Za3 l (λ_ x=>bif !(x==n) then [x] else []) (λi b=>(b,i)) (step:=j97 n l (nI l.length)) (λb=>k b) k (by unfold LIM;omega) (λ_ x=>jr4 _ _) (λb i rec d f=>by
  show j41 _ _ _ _ _ _ _=_
  unfold j41
  dsimp only
  rw [ZaQ d,cond_true,j00 d,cond_true,Zay _ _ _ d,j01 (n:=(i:Int)+1) (by omega),ZaL (by unfold LIM;omega),cond_true]
  unfold bne
  cases l[i]==n
  ·rfl
  ·show _=rec (b++[],_)
   rw [List.append_nil]
   rfl) (λb rec=>by
  show j41 _ _ _ _ _ _ _=_
  unfold j41
  dsimp only
  rw [ZaP,cond_false])
 refine this.trans ?_
 rw [jhT]
theorem jol (l:List RC) (h:l.length<=1048576) (k:List Int->Res):j9w l k=k (j0J l):=by
 unfold j9w jhx j0J
 refine Z8i l (λi b=>(b,i)) j51 (λi a=>a.length<=i) (step:=j7X l (nI l.length)) (λb=>k b) k [] (by unfold LIM;omega) (by simp) (λi a d f=>Nat.le_trans (jle _ _) (by omega)) (λi a rec d f=>by
  show j3q _ _ _ _ _ _=_
  unfold j3q jad
  dsimp only
  rw [ZaQ d,cond_true,j00 d,cond_true,Zay _ _ _ d,j01 (n:=(i:Int)+1) (by omega),ji7 _ _ (by omega),ZaL (by unfold LIM;omega),cond_true]
  generalize l[i]=r
  unfold j51
  cases g:r.1==1
  ·rw [cond_false,cond_false,joY _ _ (by omega)]
   cases r.1==3
   ·rw [cond_false,Bool.false_or]
    cases r.1==4<;>rfl
   ·rfl
  ·have e:r.1=1:=by simpa using g
   have j:(r.1==3)=false:=by rw [e];rfl
   have m:(r.1==4)=false:=by rw [e];rfl
   rw [cond_true,cond_true,j,m]
   cases j1V a r.2.1<;>rfl) (λa rec f=>by
  show j3q _ _ _ _ _ _=_
  unfold j3q
  dsimp only
  rw [ZaP,cond_false])
theorem jon (l:List RC) (x:Int) (h:l.length<=1048576) (k:Bool->Res):jbB l x k=k (j4N l x):=by
 unfold jbB jhy j4N
 have:=Za2 l (λi=>i) (λr:RC=>(r.1==1)&&(r.2.1==x)) (step:=jb8 x l (nI l.length)) ((λ(_:Unit)=>k false),(λ(_:Unit)=>k true)) (k false) (k true) (by unfold LIM;omega) (λi rec b=>by
  show j5Z _ _ _ _ _ _ _=_
  unfold j5Z
  rw [ZaQ b,cond_true,j00 b,cond_true,Zay _ _ _ b,j01 (n:=(i:Int)+1) (by omega)]
  cases l[i].1==1<;>rfl) (λrec=>by
  show j5Z _ _ _ _ _ _ _=_
  unfold j5Z
  rw [ZaP,cond_false])
 refine this.trans ?_
 cases l.any λr:RC=>(r.1==1)&&(r.2.1==x)<;>rfl
theorem jkY (l:List RC) (x:Int) (h:l.length<=1048576) (f:∀ r∈l,j0P r.2.2) (k:List ST->Res):j5Y l x k=k (j1h l x):=by
 unfold j5Y jdV j1h
 refine Za3 l (jhz x) (λi b=>(b,i)) (step:=j8e x l (nI l.length)) (λb=>k b) k (by unfold LIM;omega) (jj3 x) (λb i rec d g=>by
  show j30 _ _ _ _ _ _ _=_
  unfold j30 jhz
  dsimp only
  rw [ZaQ d,cond_true,j00 d,cond_true,Zay _ _ _ d,jp4 _ (f _ (List.getElem_mem d)),j01 (n:=(i:Int)+1) (by omega),ZaL (by unfold LIM;omega),cond_true]
  cases l[i].1==2
  ·show _=rec (b++[],_)
   rw [List.append_nil]
   rfl
  ·cases l[i].2.1==x
   ·show _=rec (b++[],_)
    rw [List.append_nil]
    rfl
   ·rfl) (λb rec=>by
  show j30 _ _ _ _ _ _ _=_
  unfold j30
  dsimp only
  rw [ZaP,cond_false])
theorem jf8 (l:List RC) (x:Int) (h:l.length<=1048576) (f:∀ r∈l,j0P r.2.2) (k:List ST->Res):j1A l x k=k (j1h l x):=by
 unfold j1A jdI j1h
 refine Za3 l (jhz x) (λi b=>(b,i)) (step:=j87 x l (nI l.length)) (λb=>k b) k (by unfold LIM;omega) (jj3 x) (λb i rec d g=>by
  show j2R _ _ _ _ _ _ _=_
  unfold j2R jhz
  dsimp only
  rw [ZaQ d,cond_true,j00 d,cond_true,Zay _ _ _ d,joP _ (f _ (List.getElem_mem d)),j01 (n:=(i:Int)+1) (by omega),ZaL (by unfold LIM;omega),cond_true]
  cases l[i].1==2
  ·show _=rec (b++[],_)
   rw [List.append_nil]
   rfl
  ·cases l[i].2.1==x
   ·show _=rec (b++[],_)
    rw [List.append_nil]
    rfl
   ·rfl) (λb rec=>by
  show j2R _ _ _ _ _ _ _=_
  unfold j2R
  dsimp only
  rw [ZaP,cond_false])
theorem jfq {α:Type} (l:List α) (i:Nat):sub l 0 (i:Int)=l.take i:=joH l 0 i
theorem jcR {i n:Nat} (h:i<=n):Z8e 0 (i:Int) n=true:=j8R (i:=0) ⟨Nat.zero_le _,h⟩
theorem jbd {l:List RC} (d:∀ r∈l,j0P r.2.2) (i:Nat):∀ r∈l.take i,j0P r.2.2:=λr b=>d r (List.mem_of_mem_take b)
theorem j1J {l:List RC} (h:l.length<=1048576) (i:Nat):(l.take i).length<=1048576:=by rw [List.length_take];omega
theorem jnB {l:List RC} (f:∀ r∈l,j0P r.2.2) (x:Int):∀ s∈j1h l x,j0P s:=λs b=>by
 obtain ⟨r,d,rfl⟩:=jp5 b
 exact f r d
theorem jpF (l:List RC) (h:l.length<=1048576) (i:Nat) (f:i<=l.length) (r:RC) (j:j0P r.2.2) (k:Bool->Res) :
  j2D l (i:Int) r k=k (!j9Z r||(bif r.1==1 then j4N (l.take i) r.2.1 else !j1V (j0J (l.take i)) r.2.1)):=by
 unfold j2D
 have g:(j0J (l.take i)).length<=1048576:=Nat.le_trans (jha _) (j1J h i)
 rw [jp3 _ j,jcR f,cond_true,cond_true,jfq,jon _ _ (j1J h i),jol _ (j1J h i)]
 simp only [ji7 _ _ g]
 cases j9Z r
 ·rfl
 cases d:r.1==1
 ·have b:(r.1 != 1)=true:=by unfold bne;rw [d];rfl
  rw [b]
  rfl
 ·have b:(r.1 != 1)=false:=by unfold bne;rw [d];rfl
  rw [b]
  cases j4N (l.take i) r.2.1<;>rfl
theorem jnz (l:List RC) (h:l.length<=1048576) (b:∀ r∈l,j0P r.2.2) (i:Nat) (g:i<=l.length) (d:DB) (f:dbB d=true) (r:RC) (k:Int->DB->Res) :
  j2E l (i:Int) d r k=k (j0k d (j1h (l.take i) r.2.1)).2.1 (j0k d (j1h (l.take i) r.2.1)).1:=by
 unfold j2E
 rw [jcR g,cond_true]
 simp only [Z9Q]
 rw [jfq,jkY _ _ (j1J h i) (jbd b i),jkW d (jh1 f) _ (Nat.le_trans (jfW _ _) (j1J h i)) (jnB (jbd b i) _)]
theorem jmX (l:List RC) (h:l.length<=1048576) (b:∀ r∈l,j0P r.2.2) (i:Nat) (g:i<=l.length) (d:DB) (f:dbB d=true) (r:RC) (k:Int->DB->Res) :
  j5u l (i:Int) d r k=k (j0k d (j1h (l.take i) r.2.1)).2.1 (j0k d (j1h (l.take i) r.2.1)).1:=by
 unfold j5u
 rw [jcR g,cond_true]
 simp only [Z9Q]
 rw [jfq,jf8 _ _ (j1J h i) (jbd b i),jf7 d (jh1 f) _ (Nat.le_trans (jfW _ _) (j1J h i)) (jnB (jbd b i) _)]
theorem jrx (n:Nat):decide (nI n<=400)=decide (n<=400):=decide_eq_decide.2 (by unfold nI;omega)
theorem jqW (n:Nat):decide (nI n>400)= !decide (n<=400):=by
 by_cases h:n<=400
 ·rw [decide_eq_true h,decide_eq_false (by unfold nI;omega)];rfl
 ·rw [decide_eq_false h,decide_eq_true (by unfold nI;omega)];rfl
theorem ji8 (l:List RC) (h:l.length<=1048576) (g:∀ r∈l,j0P r.2.2) (k:DB->Bool->Res) :
  j64 l k=match j1C zDB l with | .ok d=>k d (decide (l.length<=400)) | .error _=>k ([],[]) false:=by
 unfold j64 jah
 rw [jrx]
 refine (Z3Z l (λi (a:DB)=>(i,a)) (λi d r=>j52 (l.take i) d r) (λ_ a=>dbB a=true) (step:=j5e l l (nI l.length)) ((λ(d:DB)=>k d (decide (l.length<=400))),(λ(_:Unit)=>k ([],[]) false)) (λa=>k a (decide (l.length<=400))) (λ_=>k ([],[]) false) zDB (by unfold LIM;omega) jcS (λi a q b f g=>jiX f g) (λi a rec b f=>by
  show j1P _ _ _ _ _ _ _ _=_
  unfold j1P j52
  dsimp only
  have j:=g _ (List.getElem_mem b)
  rw [ZaQ b,cond_true,j00 b,cond_true,Zay _ _ _ b,jpF l h i (by omega) _ j,jnz l h g i (by omega) a f,j01 (n:=(i:Int)+1) (by omega)]
  generalize l[i]=r
  cases j9Z r
  ·rfl
  cases p:r.1==1
  ·cases j1V (j0J (l.take i)) r.2.1
   ·rfl
   ·cases r.1==3
    ·rfl
    ·cases m:(j0k a (j1h (l.take i) r.2.1)).2.1 != 0
     ·simp only [cond_true,cond_false,Bool.not_true,Bool.or_false,m]
     ·simp only [cond_true,cond_false,Bool.not_true,Bool.or_false,m]
  ·cases j4N (l.take i) r.2.1
   ·have e:r.1=1:=by simpa using p
    rw [e]
    rfl
   ·rfl) (λa rec f=>by
  show j1P _ _ _ _ _ _ _ _=_
  unfold j1P
  dsimp only
  rw [ZaP,cond_false])).trans ?_
 unfold j1C
 cases Z1S (λi d r=>j52 (l.take i) d r) 0 l zDB<;>rfl
end Go.PI.G
namespace Go.PI.G
open Go Go.PI Go.Proofs
theorem jou (o:List Int) (r:RC) (h:o.length<=1048576) (k:List Int->RC->Res):j0E o r k=k (o.filter λy=> !(y==r.2.1)) r:=by
 unfold j0E
 rw [ZaL (by unfold LIM;omega),cond_true,jmJ (g:=λe k=>jfH e r k) (λy=>y==r.2.1) o (λy b k=>rfl) [],List.nil_append]
noncomputable def jnL (l:List RC) (i:Int) (d:DB):List Int×List Int×Int×DB:=(j0J (l.take i.toNat),j2j (l.take i.toNat),i,d)
theorem jop (l:List RC) (i:Nat) (b:i<l.length) (d:DB):jnL l ((i:Int)+1) d=(j51 (j0J (l.take i)) l[i],(bif l[i].1==1 then j2j (l.take i)++[l[i].2.1] else j2j (l.take i)),(i:Int)+1,d):=by
 unfold jnL
 rw [show ((i:Int)+1).toNat=i+1 by omega,List.take_succ_eq_append_getElem b,jfL,jkc]
theorem joa (d:DB) (B:dbB d=true) (l:List RC) (h:l.length<=1048576) (p:∀ r∈l,j0P r.2.2) (k:DB->Bool->Res) :
  jdK d l k=match j1C d l with | .ok d=>k d true | .error _=>k ([],[]) false:=by
 unfold jdK jcW jh5
 refine (Z3Z l (jnL l) (λi d r=>j52 (l.take i) d r) (λ_ a=>dbB a=true) (step:=j7N l l (nI l.length)) ((λ(f:DB)=>k f true),(λ(_:Unit)=>k ([],[]) false)) (λa=>k a true) (λ_=>k ([],[]) false) d (by unfold LIM;omega) B (λi a F b m p=>jiX m p) (λi a rec b m=>by
  show j3n l l (nI l.length) (j0J (l.take (i:Int).toNat)) (j2j (l.take (i:Int).toNat)) (i:Int) a (λo u j d=>rec (o,u,j,d)) (λf=>k f true) (λ_=>k ([],[]) false)=_
  have y:=p _ (List.getElem_mem b)
  have A:(j0J (l.take i)).length<=1048576:=Nat.le_trans (jha _) (j1J h i)
  have D:(j2j (l.take i)).length<=1048576:=Nat.le_trans (jlp _) (j1J h i)
  unfold j3n j7k j52
  simp only [jop l i b]
  rw [Int.toNat_natCast,ZaQ b,cond_true,j00 b,cond_true,Zay _ _ _ b,jjm _ y,jbm _ _ D,jbm _ _ A,jlo,j01 (n:=(i:Int)+1) (by omega),ZaL (by unfold LIM;omega),ZaL (by unfold LIM;omega),cond_true,cond_true]
  simp only [jmX l h p i (by omega) a m,jou _ _ A]
  generalize l[i]=r
  cases C:j9Z r
  ·rfl
  rw [Bool.not_true,cond_false,cond_false]
  cases q:r.1==1
  ·rw [cond_false,cond_false]
   cases j1V (j0J (l.take i)) r.2.1
   ·rfl
   rw [Bool.not_true,cond_false,cond_false]
   unfold j51
   rw [q,cond_false,cond_false]
   cases z:r.1==3
   ·rw [cond_false,cond_false,Bool.false_or]
    unfold bne
    cases g:r.1==2
    ·have K:=(jk0 C).1
     have w:(r.1==4)=true:=by
      rw [beq_iff_eq]
      have G:r.1≠1:=by simpa using q
      have H:r.1≠2:=by simpa using g
      have I:r.1≠3:=by simpa using z
      omega
     rw [w]
     rfl
    ·have w:(r.1==4)=false:=by
      have:r.1=2:=by simpa using g
      rw [this];rfl
     rw [w]
     rfl
   ·have g:(r.1 != 2)=true:=by
     have:r.1=3:=by simpa using z
     rw [this];rfl
    rw [cond_true,cond_true,Bool.true_or]
    cases J:(j0k a (j1h (l.take i) r.2.1)).2.1 != 0
    ·rw [cond_false,cond_false,g]
     rfl
    ·rfl
  ·rw [cond_true,cond_true]
   cases E:j4N (l.take i) r.2.1
   ·unfold j51
    rw [q,cond_true,cond_true,jjO E]
    rfl
   ·rfl) (λa rec m=>by
  show j3n l l (nI l.length) (j0J (l.take ((l.length:Nat):Int).toNat)) (j2j (l.take ((l.length:Nat):Int).toNat)) (l.length:Int) a (λo u j d=>rec (o,u,j,d)) (λf=>k f true) (λ_=>k ([],[]) false)=_
  unfold j3n
  rw [ZaP,cond_false])).trans ?_
 unfold j1C
 cases Z1S (λi d r=>j52 (l.take i) d r) 0 l d<;>rfl
theorem jk9 (l:List RC) (h:l.length<=1048576) (d:∀ r∈l,j0P r.2.2) (k:Bool->Res):j7W l k=k (j28 l):=by
 unfold j7W j28
 rw [jqW]
 cases b:decide (l.length<=400)
 ·rfl
 rw [Bool.not_true,cond_false,ji8 l h d,b]
 cases j1C zDB l<;>rfl
theorem jjj (l:List RC) (h:l.length<=1048576) (d:∀ r∈l,j0P r.2.2) (k:Bool->Res):j6c l k=k (j28 l):=by
 unfold j6c j28
 rw [jqW]
 cases b:decide (l.length<=400)
 ·rfl
 rw [Bool.not_true,cond_false,joa _ jcS l h d]
 cases j1C zDB l<;>rfl
end Go.PI.G
namespace Go.PI.G
noncomputable section
open Go Go.PI
theorem jjo {l:List RC} (h:j28 l=true) (i:Nat) (j:i<l.length):j9Z l[i]=true /\
  ((l[i].1=1/\j4N (l.take i) l[i].2.1=false/\j0f l ((i:Int)+1)=j0f l i) \/
   (l[i].1≠1/\j1V (j0J (l.take i)) l[i].2.1=true /\
    ((l[i].1=3/\(j0k (j0f l i) (j1h (l.take i) l[i].2.1)).2.1=0/\j0f l ((i:Int)+1)=(j0k (j0f l i) (j1h (l.take i) l[i].2.1)).1) \/
    (l[i].1≠3/\j0f l ((i:Int)+1)=j0f l i)))):=by
 have m:=(j9n h (Nat.le_of_lt j)).1
 have b:=(j9n (n:=i+1) h j).1
 rw [jlf _ _ _ j,m] at b
 have e:((i+1:Nat):Int)=(i:Int)+1:=by omega
 rw [e] at b
 have b:j52 (l.take i) (j0f l i) l[i]= .ok (j0f l ((i:Int)+1)):=b
 generalize j0f l ((i:Int)+1)=y at b
 generalize j0f l i=d at b
 generalize l[i]=r at b
 unfold j52 at b
 cases p:j9Z r<;>rw [p] at b
 ·cases b
 rw [Bool.not_true,cond_false] at b
 refine ⟨rfl,?_⟩
 cases f:r.1==1<;>rw [f] at b
 ·right
  rw [cond_false] at b
  cases q:j1V (j0J (l.take i)) r.2.1<;>rw [q] at b
  ·cases b
  rw [Bool.not_true,cond_false] at b
  refine ⟨by simpa using f,rfl,?_⟩
  cases g:r.1==3<;>rw [g] at b
  ·right
   cases b
   exact ⟨by simpa using g,rfl⟩
  ·left
   rw [cond_true] at b
   cases k:(j0k d (j1h (l.take i) r.2.1)).2.1 != 0<;>rw [k] at b
   ·cases b
    exact ⟨by simpa using g,by simpa using k,rfl⟩
   ·cases b
 ·left
  rw [cond_true] at b
  cases w:j4N (l.take i) r.2.1<;>rw [w] at b
  ·cases b
   exact ⟨by simpa using f,rfl,rfl⟩
  ·cases b
def j2d (l:List RC) (n:Nat):List DB:=(Z4r j8Q 0 (l.take n)).map (j0f l)
def j11 (l:List RC) (n:Nat):List DB:=(zDB::j2d l n).dropLast
theorem jl1 {α β:Type} (g:Int->α->List β):(j:Nat)->(l:List α)->(x:α)->Z4r g j (l++[x])=Z4r g j l++g ((j:Int)+l.length) x
 | j,[],x=>by simp [Z4r]
 | j,y::l,x=>by
  show g j y++Z4r g (j+1) (l++[x])=(g j y++Z4r g (j+1) l)++_
  rw [jl1 g (j+1) l x,List.append_assoc,List.length_cons,show ((j+1:Nat):Int)+(l.length:Int)=(j:Int)+((l.length+1:Nat):Int) by omega]
theorem jid (l:List RC) (n:Nat) (b:n<l.length):j2d l (n+1)=bif l[n].1==3 then j2d l n++[j0f l ((n:Int)+1)] else j2d l n:=by
 unfold j2d
 rw [List.take_succ_eq_append_getElem b,jl1,List.map_append,List.length_take,Nat.min_eq_left (Nat.le_of_lt b)]
 unfold j8Q
 rw [show ((0:Nat):Int)+(n:Int)=(n:Int) by omega]
 cases l[n].1==3
 ·rw [cond_false,cond_false,List.map_nil,List.append_nil]
 ·rfl
theorem jl6 {l:List RC} (h:j28 l=true):j0f l 0=zDB:=by
 have:=(j9n (n:=0) h (Nat.zero_le _)).1
 rw [List.take_zero] at this
 have b:j1C zDB ([]:List RC)= .ok zDB:=rfl
 rw [b] at this
 injection this with this
 exact this.symm
theorem jrl {α:Type} {L A:List α} {d:α} (h:L=A++[d]):L=L.dropLast++[d]:=by rw [h,List.dropLast_concat]
theorem jeE {l:List RC} (h:j28 l=true):(n:Nat)->n<=l.length->zDB::j2d l n=j11 l n++[j0f l n]
 | 0,_=>by
  show zDB::(Z4r j8Q 0 (l.take 0)).map (j0f l)=_
  unfold j11 j2d
  rw [List.take_zero,show ((0:Nat):Int)=0 from rfl,jl6 h]
  rfl
 | n+1,k=>by
  have i:=jeE h n (by omega)
  have e:((n+1:Nat):Int)=(n:Int)+1:=by omega
  have b:=jid l n (by omega)
  have step:=(jjo h n (by omega)).2
  unfold j11
  rw [e]
  cases f:l[n].1==3<;>rw [f] at b
  ·rw [cond_false] at b
   have g:j0f l ((n:Int)+1)=j0f l n:=by
    have d:l[n].1≠3:=by simpa using f
    rcases step with ⟨_,_,q⟩ | ⟨_,_,⟨j,_⟩ | ⟨_,q⟩⟩
    ·exact q
    ·exact absurd j d
    ·exact q
   rw [g,b]
   exact jrl i
  ·rw [cond_true] at b
   rw [b]
   exact jrl (A:=zDB::j2d l n) rfl
theorem jnX {l:List RC} (h:j28 l=true) (n:Nat) (b:n<l.length):j11 l (n+1)=bif l[n].1==3 then j11 l n++[j0f l n] else j11 l n:=by
 have d:=jid l n b
 unfold j11
 rw [d]
 cases l[n].1==3
 ·rfl
 ·rw [cond_true,cond_true]
  rw [show zDB::(j2d l n++[j0f l ((n:Int)+1)])=(zDB::j2d l n)++[j0f l ((n:Int)+1)] from rfl,List.dropLast_concat]
  exact jeE h n (Nat.le_of_lt b)
theorem jp7 (l:List RC) (n:Nat):(j2d l n).length<=n:=by
 unfold j2d
 rw [List.length_map]
 exact Nat.le_trans (Z94 _ jfC 0 _) (by rw [List.length_take];omega)
theorem jj7 (l:List RC) (n:Nat):(j11 l n).length<=n:=by
 unfold j11
 rw [List.length_dropLast,List.length_cons]
 exact jp7 l n
theorem jnY (l:List RC):j11 l 0=[]:=by
 unfold j11 j2d
 rw [List.take_zero]
 rfl
theorem jp6 {l:List RC} (h:j28 l=true):j2d l l.length=(j0D l).map (j0f l):=by
 unfold j2d j0D
 rw [h,List.take_length]
 rfl
def jdS (l:List RC) (t:ByteArray) (b:List V) (a:SN×List SN) (p:Int):SN×List SN:=
 bif ((j0e l t b p).2 != a.1.2.2)|| !j0A zV veq (j0e l t b p).1 a.1.2.1 then ((p,j0e l t b p),a.2++[(p,j0e l t b p)]) else a
theorem joE (l:List RC) (t:ByteArray) (d:List V):(c:List Int)->(a:SN×List SN)->(b:(List V×Bool)×List SN)->a.1.2=b.1->a.2=b.2->(c.foldl (jdS l t d) a).2=(c.foldl (jdR l t d) b).2
 | [],a,b,g,f=>f
 | p::c,a,b,g,f=>by
  rw [List.foldl_cons,List.foldl_cons]
  refine joE l t d c _ _ ?_ ?_
  ·unfold jdS jdR
   rw [g,f]
   cases h:(((j0e l t d p).2 != b.1.2)|| !j0A zV veq (j0e l t d p).1 b.1.1)
   ·rw [Bool.or_eq_false_iff,Bool.not_eq_false'] at h
    have i:=(jj8 (z:=zV) jcC _ _).1 h.2
    have j:(j0e l t d p).2=b.1.2:=by simpa using h.1
    rw [cond_false,g]
    exact (Prod.ext i j).symm
   ·rfl
  ·unfold jdS jdR
   rw [g,f]
   cases (((j0e l t d p).2 != b.1.2)|| !j0A zV veq (j0e l t d p).1 b.1.1)
   ·exact f
   ·rfl
theorem jqy (l:List RC) (t:ByteArray) (b:List V):jcu l t b=((j0D l).foldl (jdS l t b) ((0,[],false),[])).2:=by
 unfold jcu
 exact (joE l t b _ ((0,[],false),[]) (([],false),[]) rfl rfl).symm
end
end Go.PI.G
namespace Go.PI.G
open Go Go.PI Go.Proofs
theorem joZ (l:List RC) (h:l.length<=1048576) (f:∀ r∈l,j0P r.2.2) (k:List Int->Res):j5S l k=k (j0D l):=by
 unfold j5S j0D
 rw [jk9 l h f]
 cases j28 l
 ·rfl
 unfold jac
 refine Za3 l j8Q (λi b=>(b,i)) (step:=j54 l (nI l.length)) (λb=>k b) k (by unfold LIM;omega) jfC (λb i rec d g=>by
  show j2V _ _ _ _ _ _=_
  unfold j2V j8Q
  dsimp only
  rw [ZaQ d,cond_true,j00 d,cond_true,Zay _ _ _ d,j01 (n:=(i:Int)+1) (by omega),ZaL (by unfold LIM;omega),cond_true]
  cases l[i].1==3
  ·show _=rec (b++[],_)
   rw [List.append_nil]
   rfl
  ·rfl) (λb rec=>by
  show j2V _ _ _ _ _ _=_
  unfold j2V
  dsimp only
  rw [ZaP,cond_false])
end Go.PI.G
namespace Go.PI.G
open Go Go.PI Go.Proofs
theorem joN (l:List RC) (h:l.length<=1048576) (f:∀ r∈l,j0P r.2.2) (k:List Int->Res):j5l l k=k (j0D l):=by
 unfold j5l j0D
 rw [jjj l h f]
 cases j28 l
 ·rfl
 unfold j9I
 refine Za3 l j8Q (λi b=>(b,i)) (step:=j4X l (nI l.length)) (λb=>k b) k (by unfold LIM;omega) jfC (λb i rec d g=>by
  show j2M _ _ _ _ _ _=_
  unfold j2M j8Q
  dsimp only
  rw [ZaQ d,cond_true,j00 d,cond_true,Zay _ _ _ d,j01 (n:=(i:Int)+1) (by omega),ZaL (by unfold LIM;omega),cond_true]
  cases l[i].1==3
  ·show _=rec (b++[],_)
   rw [List.append_nil]
   rfl
  ·rfl) (λb rec=>by
  show j2M _ _ _ _ _ _=_
  unfold j2M
  dsimp only
  rw [ZaP,cond_false])
end Go.PI.G
namespace Go.PI.G
open Go Go.PI Go.Proofs
theorem jlO (l:List RC) (h:l.length<=1048576) (b:∀ r∈l,j0P r.2.2) (i:Nat) (g:i<=l.length) (d:DB) (f:dbB d=true) (r:RC) (k:Int->DB->Res) :
  j3m l (i:Int) d r k=k (j0k d (j1h (l.take i) r.2.1)).2.1 (j0k d (j1h (l.take i) r.2.1)).1:=by
 unfold j3m
 rw [jcR g,cond_true]
 simp only [Z9Q]
 rw [jfq,jf8 _ _ (j1J h i) (jbd b i),jf7 d (jh1 f) _ (Nat.le_trans (jfW _ _) (j1J h i)) (jnB (jbd b i) _)]
noncomputable def jfs (l:List RC) (i:Nat):List Int×List Int×Int×DB×List DB:=(j0J (l.take i),j2j (l.take i),(i:Int),j0f l i,j11 l i)
theorem jpb (l:List RC) (i:Nat) (b:i<l.length) (h:j28 l=true):jfs l (i+1)=(j51 (j0J (l.take i)) l[i],(bif l[i].1==1 then j2j (l.take i)++[l[i].2.1] else j2j (l.take i)),(i:Int)+1,j0f l ((i:Int)+1),(bif l[i].1==3 then j11 l i++[j0f l i] else j11 l i)):=by
 unfold jfs
 rw [List.take_succ_eq_append_getElem b,jfL,jkc,jnX h i b,show ((i+1:Nat):Int)=(i:Int)+1 by omega]
theorem jn0 (l:List RC) (h:l.length<=1048576) (G:∀ r∈l,j0P r.2.2) (b:j28 l=true) (k:DB->Bool->List DB->Res) :
  jbp ([],[]) l [] k=k (j0f l l.length) true (j11 l l.length):=by
 unfold jbp jaR jf9
 have H:jfs l 0=(([]:List Int),([]:List Int),(0:Int),(([],[]):DB),([]:List DB)):=by
  unfold jfs
  rw [List.take_zero,show ((0:Nat):Int)=0 from rfl,jl6 b,jnY]
  rfl
 have:=Z3u (step:=j6f l l (nI l.length)) (jfs l) l.length ((λ(q:DB) (e:List DB)=>k q true e),(λ(f:List DB)=>k ([],[]) false f)) (k (j0f l l.length) true (j11 l l.length)) (λi g rec=>by
  show j27 l l (nI l.length) (j0J (l.take i)) (j2j (l.take i)) (i:Int) (j0f l i) (j11 l i) (λo u j d e=>rec (o,u,j,d,e)) (λq e=>k q true e) (λf=>k ([],[]) false f)=_
  have C:=G _ (List.getElem_mem g)
  have I:=(j9n b (Nat.le_of_lt g)).2
  have F:(j0J (l.take i)).length<=1048576:=Nat.le_trans (jha _) (j1J h i)
  have K:(j2j (l.take i)).length<=1048576:=Nat.le_trans (jlp _) (j1J h i)
  have M:=jj7 l i
  obtain ⟨B,step⟩:=jjo b i g
  unfold j27 j5t j9P
  rw [jpb l i g b,ZaQ g,cond_true,j00 g,cond_true,Zay _ _ _ g,jjm _ C,jbm _ _ K,jbm _ _ F,jlo,j01 (n:=(i:Int)+1) (by omega),ZaL (n:=(j2j (l.take i)).length+1) (by unfold LIM;omega),ZaL (n:=(j0J (l.take i)).length+1) (by unfold LIM;omega),ZaL (n:=(j11 l i).length+1) (by unfold LIM;omega),cond_true,cond_true]
  simp only [jlO l h G i (Nat.le_of_lt g) _ I,jou _ _ F,cond_true]
  generalize l[i]=r at B step
  rw [B,Bool.not_true,cond_false]
  rcases step with ⟨f,y,w⟩ | ⟨f,E,⟨z,J,w⟩ | ⟨z,w⟩⟩
  ·have m:(r.1==1)=true:=by simpa using f
   have p:(r.1==3)=false:=by rw [f];rfl
   rw [w,m,p,y]
   unfold j51
   rw [m,jjO y]
   rfl
  ·have m:(r.1==1)=false:=by simpa using f
   have p:(r.1==3)=true:=by simpa using z
   have A:(r.1 != 2)=true:=by rw [z];rfl
   rw [w,m,p,E,A,J]
   unfold j51
   rw [m,p]
   rfl
  ·have m:(r.1==1)=false:=by simpa using f
   have p:(r.1==3)=false:=by simpa using z
   rw [w,m,p,E]
   unfold j51 bne
   rw [m,p]
   cases A:r.1==2
   ·have P:=(jk0 B).1
    have L:r.1≠2:=by simpa using A
    have D:(r.1==4)=true:=by
     rw [beq_iff_eq]
     omega
    rw [D]
    rfl
   ·have D:(r.1==4)=false:=by
     have:r.1=2:=by simpa using A
     rw [this];rfl
    rw [D]
    rfl) (λrec=>by
  show j27 l l (nI l.length) (j0J (l.take l.length)) (j2j (l.take l.length)) (l.length:Int) (j0f l l.length) (j11 l l.length) (λo u j d e=>rec (o,u,j,d,e)) (λq e=>k q true e) (λf=>k ([],[]) false f)=_
  unfold j27
  rw [ZaP,cond_false]) Z1c (Z2b (by omega))
 rw [H] at this
 exact this
theorem jlS (l:List RC) (h:l.length<=1048576) (d:∀ r∈l,j0P r.2.2) (b:j28 l=true) (k:List DB->Res):j8p l k=k ((j0D l).map (j0f l)):=by
 unfold j8p jaQ
 rw [jn0 l h d b]
 have f:=jj7 l l.length
 rw [ZaL (by unfold LIM;omega),cond_true,<-jeE b l.length (Nat.le_refl _),jq6 (by rw [List.length_cons];omega),cond_true,jri,jp6 b]
 rfl
end Go.PI.G
namespace Go.PI.G
open Go Go.PI Go.Proofs
theorem jeq (l:List RC) (n:Int):(j6T l n=false/\j0f l n=zDB)\/∃ m:Nat,n=(m:Int)/\m<=l.length/\j28 l=true/\j6T l n=true:=by
 cases h:j6T l n
 ·left
  unfold j0f
  rw [h]
  exact ⟨rfl,rfl⟩
 ·right
  unfold j6T at h
  rw [Bool.and_eq_true,decide_eq_true_eq] at h
  exact ⟨n.toNat,by omega,by omega,h.1,rfl⟩
theorem jnu (l:List RC) (h:l.length<=1048576) (d:∀ r∈l,j0P r.2.2) (n:Int) (k:Bool->Res):j7u l n k=k (!j6T l n):=by
 unfold j7u j6T
 rw [jk9 l h d]
 cases j28 l
 ·rfl
 rw [Bool.not_true,cond_false,Bool.true_and]
 by_cases b:n<0
 ·rw [decide_eq_true b,decide_eq_false (show ¬ (0<=n/\n<=(l.length:Int)) by omega)];rfl
 ·rw [decide_eq_false b,cond_false]
  by_cases f:n<=(l.length:Int)
  ·rw [decide_eq_true (show 0<=n/\n<=(l.length:Int) by omega),decide_eq_false (show ¬ n>nI l.length by unfold nI;omega)];rfl
  ·rw [decide_eq_false (show ¬ (0<=n/\n<=(l.length:Int)) by omega),decide_eq_true (show n>nI l.length by unfold nI;omega)];rfl
theorem jog (l:List RC) (h:l.length<=1048576) (g:∀ r∈l,j0P r.2.2) (n:Int) (k:DB->Bool->Res):j9v l n k=k (j0f l n) (j6T l n):=by
 unfold j9v
 rw [jnu l h g]
 rcases jeq l n with ⟨b,i⟩ | ⟨m,rfl,f,d,b⟩
 ·rw [b,i];rfl
 ·have j:=((jna l).1 d).1
  rw [b,Bool.not_true,cond_false,jcR f,cond_true,jfq,ji8 _ (j1J h m) (jbd g m),(j9n d f).1]
  dsimp only
  rw [decide_eq_true (by rw [List.length_take];omega)]
end Go.PI.G
