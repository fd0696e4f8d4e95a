/-
  Program's code interpreted over typed values; printed texts; plain laws. No conditions.
-/
import Derived.Test.YtiieddiheadocaaGreatPc
import Derived.Test.YtiieddiheadocaaGreatTa
import Derived.Test.YtiieddiheadocaaGreatTh
import Derived.Test.YtiieddiheadocaaGreatTg
import Derived.Test.YtiieddiheadocaaGreatTe
import Derived.Test.YtiieddiheadocaaGreatTb
set_option linter.unusedVariables false
set_option maxRecDepth 100000
namespace Go.PI.G
open Go Go.PI Go.Proofs
open Go.Code (pl pr)
noncomputable def jpi:Code:=(Tryz.f34.body).getD .skip
noncomputable def jh4:Env Unit:=⟨tys,[(112,jif)],0⟩
noncomputable def j8w (a:qQ) (b:qQ) (k0:Bool->Res):Res:=
 bif (a.1 != b.1) then
  k0 false
 else
  jbS a.2.1 b.2.1 λ(r:Bool)=>
   bif !r then
    k0 false
   else
    bif (a.2.2.1 != b.2.2.1) then
     k0 false
    else
     bif (a.2.2.2.1 != b.2.2.2.1) then
      k0 false
     else
      bif (a.2.2.2.2 != b.2.2.2.2) then
       k0 false
      else
       k0 true
noncomputable def jhi:Sig Unit:=⟨[.look y24 true,.look y24 true],[false],λvals ext k=>av vals y24 λa vals=>av vals y24 λb vals=>nl vals<|nl ext<|j8w a b (λ(r0:Bool)=>k [⟨.bool,false,r0,[]⟩] [] [])⟩
theorem jp0 (a:qQ) (a_a:Bool) (t_a:List Tag) (b:qQ) (a_b:Bool) (t_b:List Tag) (k:qK):Z6X jh4 [] .o false Tryz.f34 [.look y24 true,.look y24 true] [false] [⟨y24,a_a,a,t_a⟩,⟨y24,a_b,b,t_b⟩] [] k=j8w a b (λ(r0:Bool)=>k [⟨.bool,false,r0,[]⟩] [] []):=by kernel_rfl
theorem jgX:Z1k Tryz.prog 34 jhi:=Z8N (Γ:=jh4) (X:=[]) (ht:= .o) (fz:=false) (c:=jpi) follows j01 (Z8C jpS Z8W) trivial Tryz.func34 (by kernel_rfl) (by kernel_rfl) (by decide) (by
 intro vals ext k r h
 obtain ⟨a,a_a,t_a,vals,rfl,h1⟩:=Z8T h
 obtain ⟨b,a_b,t_b,vals,rfl,h2⟩:=Z8T h1
 obtain ⟨rfl,h3⟩:=Z90 h2
 obtain ⟨rfl,h4⟩:=Z90 h3
 exact (jp0 a a_a t_a b a_b t_b k).trans h4)
noncomputable def jmg:Code:=(Tryz.f35.body).getD .skip
noncomputable def jeH:Env Unit:=⟨tys,[(113,jg7)],1⟩
noncomputable def j8k (a:qQ) (k_:Int) (k0:Int->qQ->Res):Res:=
 j9C a.2.1 k_ λ(r:Int) (a1:Int×Int×qS)=>
  k0 r (a.1,a1,a.2.2)
noncomputable def jf5:Sig Unit:=⟨[.inout y24 true,.borrow (.int .i64) false],[false],λvals ext k=>ao vals y24 [.O,.O,.O,.O] λa vals=>av vals (.int .i64) λk_ vals=>nl vals<|nl ext<|j8k a k_ (λ(r0:Int) (i0:qQ)=>k [⟨(.int .i64),false,r0,[]⟩] [⟨y24,true,i0,[.O,.O,.O,.O]⟩] [])⟩
theorem jlL (a_a:Bool) (a:qQ) (k_:Int) (a_k_:Bool) (t_k_:List Tag) (k:qK):Z6X jeH [] .o false Tryz.f35 [.inout y24 true,.borrow (.int .i64) false] [false] [⟨y24,a_a,a,[.O,.O,.O,.O]⟩,⟨(.int .i64),a_k_,k_,t_k_⟩] [] k=j8k a k_ (λ(r0:Int) (i0:qQ)=>k [⟨(.int .i64),false,r0,[]⟩] [⟨y24,true,i0,[.O,.O,.O,.O]⟩] []):=by kernel_rfl
theorem jeu:Z1k Tryz.prog 35 jf5:=Z8N (Γ:=jeH) (X:=[]) (ht:= .o) (fz:=false) (c:=jmg) follows j01 (Z8C jnH Z8W) trivial Tryz.func35 (by kernel_rfl) (by kernel_rfl) (by decide) (by
 intro vals ext k r h
 obtain ⟨a_a,a,vals,rfl,h1⟩:=Z8S h
 obtain ⟨k_,a_k_,t_k_,vals,rfl,h2⟩:=Z8T h1
 obtain ⟨rfl,h3⟩:=Z90 h2
 obtain ⟨rfl,h4⟩:=Z90 h3
 exact (jlL a_a a k_ a_k_ t_k_ k).trans h4)
noncomputable def jme:Code:=(Tryz.f36.body).getD .skip
noncomputable def jeF:Env Unit:=⟨tys,[(114,jg4)],0⟩
noncomputable def j5G (a:qQ) (k_:Int) (k0:Int->Res):Res:=
 j9z a.2.1 k_ λ(r:Int)=>
  bif decide (r<0) then
   k0 (-1)
  else
   k0 r
noncomputable def jf2:Sig Unit:=⟨[.look y24 true,.look (.int .i64) false],[false],λvals ext k=>av vals y24 λa vals=>av vals (.int .i64) λk_ vals=>nl vals<|nl ext<|j5G a k_ (λ(r0:Int)=>k [⟨(.int .i64),false,r0,[]⟩] [] [])⟩
theorem jlH (a:qQ) (a_a:Bool) (t_a:List Tag) (k_:Int) (a_k_:Bool) (t_k_:List Tag) (k:qK):Z6X jeF [] .o false Tryz.f36 [.look y24 true,.look (.int .i64) false] [false] [⟨y24,a_a,a,t_a⟩,⟨(.int .i64),a_k_,k_,t_k_⟩] [] k=j5G a k_ (λ(r0:Int)=>k [⟨(.int .i64),false,r0,[]⟩] [] []):=by kernel_rfl
theorem jes:Z1k Tryz.prog 36 jf2:=Z8N (Γ:=jeF) (X:=[]) (ht:= .o) (fz:=false) (c:=jme) follows j01 (Z8C jnE Z8W) trivial Tryz.func36 (by kernel_rfl) (by kernel_rfl) (by decide) (by
 intro vals ext k r h
 obtain ⟨a,a_a,t_a,vals,rfl,h1⟩:=Z8T h
 obtain ⟨k_,a_k_,t_k_,vals,rfl,h2⟩:=Z8T h1
 obtain ⟨rfl,h3⟩:=Z90 h2
 obtain ⟨rfl,h4⟩:=Z90 h3
 exact (jlH a a_a t_a k_ a_k_ t_k_ k).trans h4)
end Go.PI.G
namespace Go.PI.G
open Go Go.PI Go.Proofs
open Go.Code (pl pr)
noncomputable def j3P:Code:=(Tryz.f6.body).getD .skip
noncomputable def j6t:Env Unit:=⟨tys,[(32,jeU),(33,jf8),(34,jhi),(35,jf5),(36,jf2)],0⟩
noncomputable def j3t (aS:qB) (w1:Bool) (m:Int) (q_:Int) (w0:qQ) (g0:qQ) (k0:Bool->Res):Res:=
 bif decide (q_<0) then
  k0 false
 else
  bif (q_ != m) then
   k0 false
  else
   j5A aS λ(r:qQ) (r1:Bool)=>
    j8w r w0 λ(r2:Bool)=>
     bif !r2 then
      k0 false
     else
      bif !(r1==w1) then
       k0 false
      else
       j5G g0 1 λ(r3:Int)=>
        bif decide (r3<0) then
         k0 false
        else
         bif (r3 != m) then
          k0 false
         else
          k0 true
noncomputable def j5n:Z1l Unit:=λσ k=>rdN σ 66<|rdV σ 0 .str false [] λaS=>rdT σ 3 (.ptr ⟨true,3,[]⟩)<|rdV σ 4 .bool false [] λw1=>rdT σ 5 (.ptr ⟨true,5,[]⟩)<|rdV σ 7 (.int .i64) false [] λm=>rdV σ 8 (.int .i64) false [] λq_=>rdB σ 3 y24 [.O,.O,.O,.O] λa w0=>rdB σ 5 y24 [.O,.O,.O,.O] λa1 g0=>j3t aS w1 m q_ w0 g0 (λ(t2:Bool)=>k .ret (mkS 66 66 [(2,.val ⟨.bool,false,t2,[]⟩)] []))
theorem jdO (aS:qB) (w1:Bool) (m:Int) (q_:Int) (a:Bool) (w0:qQ) (a1:Bool) (g0:qQ) (k:Z6G Unit):Z0R j6t [] .o (pr (pr (pr (pr (pr (pr (pr (pr (pr j3P))))))))) (mkS 66 66 [(0,.val ⟨.str,false,aS,[]⟩),(3,.ptr ⟨true,3,[]⟩),(4,.val ⟨.bool,false,w1,[]⟩),(5,.ptr ⟨true,5,[]⟩),(7,.val ⟨(.int .i64),false,m,[]⟩),(8,.val ⟨(.int .i64),false,q_,[]⟩)] [(3,⟨y24,a,w0,[.O,.O,.O,.O]⟩),(5,⟨y24,a1,g0,[.O,.O,.O,.O]⟩)]) (λe σ=>k e ((Z8a ([],[]) [] ([2],[])) e σ))=j3t aS w1 m q_ w0 g0 (λ(t2:Bool)=>k .ret (mkS 66 66 [(2,.val ⟨.bool,false,t2,[]⟩)] [])):=by kernel_rfl
theorem je1 {W0:Base} {M:Nat->Prop} (hnp:W0.np<=0):Z1W Tryz.prog W0 M (pr (pr (pr (pr (pr (pr (pr (pr (pr j3P))))))))) j5n:=Z91 (Z6Q follows j01 (Z7K (Z8C jep (Z8C jew (Z8C jgX (Z8C jeu (Z8C jes Z8W)))))) hnp [] ((pr (pr (pr (pr (pr (pr (pr (pr (pr j3P)))))))))) .o trivial) (fg:=(Z8a ([],[]) [] ([2],[]))) (Z8U _ _ _) (by
 intro σ k r h
 obtain ⟨hn,h1⟩:=Z8G h
 obtain ⟨aS,hs0,h2⟩:=Z8J h1
 obtain ⟨hs3,h3⟩:=Z8H h2
 obtain ⟨w1,hs4,h4⟩:=Z8J h3
 obtain ⟨hs5,h5⟩:=Z8H h4
 obtain ⟨m,hs7,h6⟩:=Z8J h5
 obtain ⟨q_,hs8,h7⟩:=Z8J h6
 obtain ⟨a,w0,hb3,h8⟩:=Z8D h7
 obtain ⟨a1,g0,hb5,h9⟩:=Z8D h8
 refine ⟨_,?_,(jdO aS w1 m q_ a w0 a1 g0 k).trans h9⟩
 exact Z9e hn ⟨hs0,hs3,hs4,hs5,hs7,hs8,trivial⟩ ⟨hb3,hb5,trivial⟩)
noncomputable def j39 (aS:qB) (k0:Bool->Res):Res:=
 bif decide ((nI (ByteArray.size aS))>1048576) then
  k0 true
 else
  j8q aS λ(r:qQ) (r1:Bool)=>
   j5A aS λ(r2:qQ) (r3:Bool)=>
    j8w r2 r λ(r4:Bool)=>
     bif !r4 then
      k0 false
     else
      bif !(r3==r1) then
       k0 false
      else
       j8k r2 1 λ(r5:Int) (a:qQ)=>
        j5G a 1 λ(r6:Int)=>
         j3t aS r1 r5 r6 r a λ(t:Bool)=>
          k0 t
noncomputable def j2q:Sig Unit:=⟨[.borrow .str false],[false],λvals ext k=>av vals .str λaS vals=>nl vals<|nl ext<|j39 aS (λ(r0:Bool)=>k [⟨.bool,false,r0,[]⟩] [] [])⟩
theorem jfj (aS:qB) (a_aS:Bool) (t_aS:List Tag) (k:qK):Z6X j6t [j5n] (.t .o (.t .o (.t .o (.t .o (.t .o (.t .o (.t .o (.t .o (.t .o (.x 0)))))))))) false Tryz.f6 [.borrow .str false] [false] [⟨.str,a_aS,aS,t_aS⟩] [] k=j39 aS (λ(r0:Bool)=>k [⟨.bool,false,r0,[]⟩] [] []):=by kernel_rfl
theorem jfm:Z1k Tryz.prog 6 j2q:=Z8N (Γ:=j6t) (X:=[j5n]) (ht:=(.t .o (.t .o (.t .o (.t .o (.t .o (.t .o (.t .o (.t .o (.t .o (.x 0))))))))))) (fz:=false) (c:=j3P) follows j01 (Z8C jep (Z8C jew (Z8C jgX (Z8C jeu (Z8C jes Z8W))))) (Z1A.mk trivial ((Z1A.mk trivial ((Z1A.mk trivial ((Z1A.mk trivial ((Z1A.mk trivial ((Z1A.mk trivial ((Z1A.mk trivial ((Z1A.mk trivial ((Z1A.mk trivial (Z1A.x_mk (λW0 M hnp=>je1 (W0:=W0) (M:=M) hnp))))))))))))))))))) Tryz.func6 (by kernel_rfl) (by kernel_rfl) (by decide) (by
 intro vals ext k r h
 obtain ⟨aS,a_aS,t_aS,vals,rfl,h1⟩:=Z8T h
 obtain ⟨rfl,h2⟩:=Z90 h1
 obtain ⟨rfl,h3⟩:=Z90 h2
 exact (jfj aS a_aS t_aS k).trans h3)
end Go.PI.G
namespace Go.PI.G
open Go Go.PI
abbrev V:=Int×Int×ByteArray
theorem jtg (n:Int):wu8 n=n % 256:=by
 unfold wu8 IntKind.wrap
 simp [IntKind.bits,IntKind.signed]
theorem jfh {n:Int} (h:0<=n/\n<256):wu8 n=n:=by rw [jtg];omega
theorem j0f (s:ByteArray):(Z19 s).length=s.size:=by unfold Z19;simp
theorem ji4 (l:List Int):(Z2X l).size=l.length:=by
 show ((l.map λn=>UInt8.ofNat n.toNat).toArray).size=_
 simp
def isB (l:List Int):Prop:=∀ x∈l,0<=x/\x<256
theorem j8B (s:ByteArray):isB (Z19 s):=by
 intro x hx
 unfold Z19 at hx
 obtain ⟨b,_,rfl⟩:=List.mem_map.1 hx
 have:=UInt8.toNat_lt b
 omega
theorem j4e (s:ByteArray):Z2X (Z19 s)=s:=by
 unfold Z2X Z19
 rw [List.map_map]
 have:(λb:UInt8=>b)=(λn:Int=>UInt8.ofNat n.toNat) ∘ λb:UInt8=>(b.toNat:Int):=by
  funext b;simp
 rw [<-this]
 simp
theorem j9c {l:List Int} (h:isB l):Z19 (Z2X l)=l:=by
 unfold Z2X Z19
 simp only [List.map_map]
 have:l.map ((λb:UInt8=>(b.toNat:Int)) ∘ λn:Int=>UInt8.ofNat n.toNat)=l.map id:=by
  refine List.map_congr_left λx hx=> ?_
  have:=h x hx
  simp only [Function.comp,id]
  rw [UInt8.toNat_ofNat']
  omega
 rw [this,List.map_id]
theorem j0t (a b:ByteArray):sEq a b=true↔a=b:=by
 unfold sEq
 rw [beq_iff_eq]
 constructor
 ·intro h
  rw [ByteArray.ext_iff]
  have h1:a.toList=a.data.toList:=by rw [ByteArray.toList_eq]
  have h2:b.toList=b.data.toList:=by rw [ByteArray.toList_eq]
  rw [h1,h2] at h
  exact Array.toList_inj.1 h
 ·rintro rfl;rfl
theorem jdH (a b:ByteArray):sNe a b=false↔a=b:=by
 unfold sNe
 rw [Bool.not_eq_false']
 exact j0t a b
def j1w (n:Int):Bool:=decide (-1099511627775<=n/\n<=1099511627775)
def j0u (v:V):Bool:=
 bif v.1==0 then (v.2.1==0)&&sEq v.2.2 eS
 else bif v.1==1 then ((v.2.1==0)||(v.2.1==1))&&sEq v.2.2 eS
 else bif v.1==2 then j1w v.2.1&&sEq v.2.2 eS
 else bif v.1==3 then (v.2.1==0)&&decide (nI v.2.2.size<=30)
 else false
theorem js1 (x:Int):decide (0<=x/\x<=1)=((x==0)||(x==1)):=by
 by_cases h:0<=x/\x<=1
 ·rw [decide_eq_true h]
  have:x=0\/x=1:=by omega
  rcases this with rfl | rfl<;>rfl
 ·rw [decide_eq_false h]
  have h1:(x==0)=false:=by simp;omega
  have h2:(x==1)=false:=by simp;omega
  rw [h1,h2];rfl
theorem jgM {v:V} (h:j0u v=true):v=(0,0,eS)\/(∃ n,(n=0\/n=1)/\v=(1,n,eS))\/(∃ n,(-1099511627775<=n/\n<=1099511627775)/\v=(2,n,eS))\/∃ s:ByteArray,s.size<=30/\v=(3,0,s):=by
 obtain ⟨t,n,s⟩:=v
 unfold j0u at h
 simp only at h
 cases h0:t==0
 ·cases h1:t==1
  ·cases h2:t==2
   ·cases h3:t==3
    ·rw [h0,h1,h2,h3] at h;cases h
    ·rw [h0,h1,h2,h3] at h
     simp only [cond_false,cond_true,Bool.and_eq_true,beq_iff_eq,decide_eq_true_eq] at h h3
     obtain ⟨rfl,h⟩:=h
     subst h3
     exact .inr (.inr (.inr ⟨s,by unfold nI at h;omega,rfl⟩))
   ·rw [h0,h1,h2] at h
    simp only [cond_false,cond_true,Bool.and_eq_true,beq_iff_eq] at h h2
    obtain ⟨h,hs⟩:=h
    rw [j0t] at hs
    subst hs;subst h2
    exact .inr (.inr (.inl ⟨n,of_decide_eq_true h,rfl⟩))
  ·rw [h0,h1] at h
   simp only [cond_false,cond_true,Bool.and_eq_true,Bool.or_eq_true,beq_iff_eq] at h h1
   obtain ⟨h,hs⟩:=h
   rw [j0t] at hs
   subst hs;subst h1
   exact .inr (.inl ⟨n,h,rfl⟩)
 ·rw [h0] at h
  simp only [cond_true,Bool.and_eq_true,beq_iff_eq] at h h0
  obtain ⟨h,hs⟩:=h
  rw [j0t] at hs
  subst hs;subst h0;subst h
  exact .inl rfl
theorem jsk {v:V} (h:j0u v=true):v.2.2.size<=30:=by
 rcases jgM h with rfl | ⟨n,_,rfl⟩ | ⟨n,_,rfl⟩ | ⟨s,hs,rfl⟩
 ·show (0:Nat)<=30;omega
 ·show (0:Nat)<=30;omega
 ·show (0:Nat)<=30;omega
 ·exact hs
theorem jgx {l m:List Int} (hl:isB l) (hm:isB m):isB (l++m):=λx hx=>(List.mem_append.1 hx).elim (hl x) (hm x)
theorem j9x {x:Int} {l:List Int} (hx:0<=x/\x<256) (hl:isB l):isB (x::l):=λy hy=>(List.mem_cons.1 hy).elim (λh=>h ▸ hx) (hl y)
theorem jbk:isB []:=λ_ h=>by cases h
end Go.PI.G
namespace Go.PI.G
open Go Go.PI
def msr:(τ:Ty)->El τ->Nat
 | .str,s=>ByteArray.size s
 | .slice e,l=>List.length (α:=El e) l+(List.map (msr e) l).sum
 | .pair a b,x=>msr a x.1+msr b x.2
 | .int _,_=>0
 | .bool,_=>0
 | .unit,_=>0
def wgt:(τ:Ty)->El τ->Nat
 | .str,_=>1
 | .slice e,l=>(List.map (wgt e) l).sum
 | .pair a b,x=>wgt a x.1+wgt b x.2
 | .int _,_=>1
 | .bool,_=>1
 | .unit,_=>0
def j0m:(τ:Ty)->El τ->Nat
 | .slice e,l=>(List.map (wgt e) l).sum
 | .pair a b,x=>j0m a x.1+j0m b x.2
 | .str,_=>0
 | .int _,_=>0
 | .bool,_=>0
 | .unit,_=>0
def j5s:Ty->Nat
 | .slice e=>j5s e
 | .pair a b=>j5s a+j5s b
 | .unit=>0
 | _=>1
theorem jmZ {α:Type} (f g:α->Nat) (c:Nat) (h:∀ x,f x<=(g x+1) * c):(l:List α)->(l.map f).sum<=(l.length+(l.map g).sum) * c
 | []=>by simp
 | x::l=>by
  have h1:=h x
  have h2:=jmZ f g c h l
  simp only [List.map_cons,List.sum_cons,List.length_cons]
  have:(l.length+1+(g x+(l.map g).sum)) * c=(g x+1) * c+(l.length+(l.map g).sum) * c:=by
   rw [<-Nat.add_mul];congr 1;omega
  omega
theorem jn3:(τ:Ty)->(x:El τ)->wgt τ x<=(msr τ x+1) * j5s τ
 | .str,_=>by simp [wgt,j5s]
 | .int _,_=>by simp [wgt,j5s]
 | .bool,_=>by simp [wgt,j5s]
 | .unit,_=>by simp [wgt]
 | .pair a b,x=>by
  have h1:=jn3 a x.1
  have h2:=jn3 b x.2
  simp only [wgt,msr,j5s,Nat.mul_add]
  have e1:(msr a x.1+1) * j5s a<=(msr a x.1+msr b x.2+1) * j5s a:=Nat.mul_le_mul_right _ (by omega)
  have e2:(msr b x.2+1) * j5s b<=(msr a x.1+msr b x.2+1) * j5s b:=Nat.mul_le_mul_right _ (by omega)
  omega
 | .slice e,l=>by
  have h1:=jmZ (wgt e) (msr e) (j5s e) (jn3 e) l
  simp only [wgt,msr,j5s]
  have e1:(List.length (α:=El e) l+(List.map (msr e) l).sum) * j5s e<=(List.length (α:=El e) l+(List.map (msr e) l).sum+1) * j5s e:=Nat.mul_le_mul_right _ (by omega)
  exact Nat.le_trans h1 e1
theorem jfs:(τ:Ty)->(x:El τ)->j0m τ x<=wgt τ x
 | .str,_=>Nat.zero_le _
 | .int _,_=>Nat.zero_le _
 | .bool,_=>Nat.zero_le _
 | .unit,_=>Nat.le_refl _
 | .pair a b,x=>Nat.add_le_add (jfs a x.1) (jfs b x.2)
 | .slice e,l=>Nat.le_refl _
theorem j0e {a b:Ty} {x:El (.pair a b)}:msr a x.1<=msr (.pair a b) x:=Nat.le_add_right _ _
theorem j00 {a b:Ty} {x:El (.pair a b)}:msr b x.2<=msr (.pair a b) x:=Nat.le_add_left _ _
def dgt (x:Int):ByteArray:=Z2X [wu8 (Z8g (48+x))]
theorem jdN (x:Int):(dgt x).size=1:=rfl
def jgo (n:Nat):ByteArray:=if h:n<10 then dgt n else jgo (n / 10)++dgt ((n % 10:Nat):Int)
termination_by n
decreasing_by omega
def mT (k:Int):ByteArray:=(⟨#[109]⟩:ByteArray)++jgo k.toNat
def mk:(τ:Ty)->El τ->Int->El τ
 | .str,_,k=>mT k
 | .slice e,l,k=>mkL (wgt e) (mk e) l k
 | .pair a b,x,k=>(mk a x.1 k,mk b x.2 (k+(wgt a x.1:Int)))
 | .int .u8,_,k=>wu8 k
 | .int _,_,k=>k
 | .bool,_,k=>(Int.tmod k 3==0)
 | .unit,x,_=>x
def mkT:(τ:Ty)->El τ->Int->El τ
 | .slice e,l,k=>mkL (wgt e) (mk e) l k
 | .pair a b,x,k=>(mkT a x.1 k,mkT b x.2 (k+(j0m a x.1:Int)))
 | .str,x,_=>x
 | .int _,x,_=>x
 | .bool,x,_=>x
 | .unit,x,_=>x
theorem jrX (e:Ty) (l:List (El e)):msr (.slice e) l=l.length+(l.map (msr e)).sum:=rfl
theorem ja6 {e:Ty} {l:List (El e)} {n:Nat} (h:msr (.slice e) l<=n):l.length<=n:=by
 have:msr (.slice e) l=l.length+(l.map (msr e)).sum:=rfl
 omega
theorem jr0 {e:Ty} {l:List (El e)} {n:Nat} (h:msr (.slice e) l<=n) {x:El e} (hx:x∈l):msr e x<=n:=by
 have h1:msr (.slice e) l=l.length+(l.map (msr e)).sum:=rfl
 have:=Z8d (msr e) l x hx
 omega
theorem jsl {τ:Ty} {x:El τ} (hw:j5s τ<=200) (h:msr τ x<=1048576):wgt τ x<=209715400:=by
 have h1:=jn3 τ x
 have h2:(msr τ x+1) * j5s τ<=1048577 * 200:=Nat.mul_le_mul (by omega) hw
 omega
theorem jlt (a b:Ty) (x:El (.pair a b)):wgt (.pair a b) x=wgt a x.1+wgt b x.2:=rfl
theorem joq (k:IntKind) (x:El (.int k)):wgt (.int k) x=1:=rfl
theorem jls (x:El .bool):wgt .bool x=1:=rfl
theorem jor (x:El .str):wgt .str x=1:=rfl
theorem joa (a b:Ty) (x:El (.pair a b)) (k:Int):mk (.pair a b) x k=(mk a x.1 k,mk b x.2 (k+(wgt a x.1:Int))):=rfl
theorem jkE (e:Ty) (l:El (.slice e)) (k:Int):mk (.slice e) l k=mkL (wgt e) (mk e) l k:=rfl
theorem jqm (x:El (.int .i64)) (k:Int):mk (.int .i64) x k=k:=rfl
theorem jrr (x:El (.int .u8)) (k:Int):mk (.int .u8) x k=wu8 k:=rfl
theorem jo9 (x:El .bool) (k:Int):mk .bool x k=(Int.tmod k 3==0):=rfl
theorem jqn (x:El .str) (k:Int):mk .str x k=mT k:=rfl
theorem j0d (a b:Ty) (x:El (.pair a b)) (k:Int):mkT (.pair a b) x k=(mkT a x.1 k,mkT b x.2 (k+(j0m a x.1:Int))):=rfl
theorem j22 (e:Ty) (l:El (.slice e)) (k:Int):mkT (.slice e) l k=mkL (wgt e) (mk e) l k:=rfl
theorem j3F (i:IntKind) (x:El (.int i)) (k:Int):mkT (.int i) x k=x:=rfl
theorem j2u (x:El .bool) (k:Int):mkT .bool x k=x:=rfl
theorem j3G (x:El .str) (k:Int):mkT .str x k=x:=rfl
theorem j03 (a b:Ty) (x:El (.pair a b)):j0m (.pair a b) x=j0m a x.1+j0m b x.2:=rfl
theorem j0a (i:IntKind) (x:El (.int i)):j0m (.int i) x=0:=rfl
theorem j08 (x:El .bool):j0m .bool x=0:=rfl
theorem j0b (x:El .str):j0m .str x=0:=rfl
theorem job {α:Type} (z:α) (l:List α) (i:Nat) (v:α) (h:i<l.length):nth z (upd l (i:Int) v) (i:Int)=v:=by
 rw [Z99,Z92 _ _ _ (by simpa using h)];simp
theorem jop {α:Type} (l:List α) (i:Int) (u v:α):upd (upd l i u) i v=upd l i v:=by
 unfold upd;simp
theorem joo {α:Type} (l:List α) (i:Int) (v:α):(upd l i v).length=l.length:=by unfold upd;simp
end Go.PI.G
namespace Go.PI.G
open Go Go.PI
theorem j0n {i n:Nat} (h:i<n):inb (i:Int) n=true:=Z9c (by omega) (by omega)
theorem j05 {n:Int} (h: -9223372036854775808<=n/\n<9223372036854775808):Z8g n=n:=Z9b h.1 h.2
theorem jlo (n:Nat):Int.tdiv (n:Int) 10=((n / 10:Nat):Int):=by
 rw [Int.tdiv_eq_ediv_of_nonneg (by omega)];omega
theorem jlp (n:Nat):Int.tmod (n:Int) 10=((n % 10:Nat):Int):=by
 rw [Int.tmod_eq_emod_of_nonneg (by omega)];omega
theorem jnW {n:Nat} (h:n<10):jgo n=dgt n:=by rw [jgo,dif_pos h]
theorem jqW {n:Nat} (h:¬ n<10):jgo n=jgo (n / 10)++dgt ((n % 10:Nat):Int):=by rw [jgo,dif_neg h]
theorem jox:∀ (d n:Nat),n<10 ^ (d+1)->(jgo n).size<=d+1
 | 0,n,h=>by rw [jnW (by omega),jdN];exact Nat.le_refl _
 | d+1,n,h=>by
  by_cases h1:n<10
  ·rw [jnW h1,jdN];omega
  ·rw [jqW h1,ByteArray.size_append,jdN]
   have:n / 10<10 ^ (d+1):=Nat.div_lt_of_lt_mul (by rw [Nat.pow_succ] at h;omega)
   have:=jox d (n / 10) this
   omega
theorem j33 (s:ByteArray):s++eS=s:=by
 show s++ByteArray.empty=s
 simp
theorem jm6 (s:ByteArray):eS++s=s:=by
 show ByteArray.empty++s=s
 simp
end Go.PI.G
namespace Go.PI.G
open Go Go.PI
abbrev C:=ByteArray×Int×Bool×Bool×V
abbrev T:=ByteArray×List C×List ByteArray
abbrev yV:Ty:= .pair (.int .i64) (.pair (.int .i64) .str)
abbrev yC:Ty:= .pair .str (.pair (.int .i64) (.pair .bool (.pair .bool yV)))
abbrev zV:V:=(0,0,eS)
abbrev zC:C:=(eS,0,false,false,0,0,eS)
theorem jgt {α:Type} (p:α->Bool) (l:List α): -1<=Z8b p l/\Z8b p l<(l.length:Int):=by
 unfold Z8b
 cases h:l.findIdx? p with
 | none=>simp only [];omega
 | some i=>
  have:=(List.findIdx?_eq_some_iff_findIdx_eq.1 h).1
  simp only [];omega
theorem jm5 {α:Type} {f:Nat->α->Bool}:(l:List α)->(i:Nat)->Z5P f i l=false->∀ (j:Nat) (h:j<l.length),f (i+j) l[j]=false
 | [],_,_,j,h=>by simp at h
 | x::l,i,h,j,hj=>by
  simp only [Z5P,Bool.or_eq_false_iff] at h
  cases j with
  | zero=>simpa using h.1
  | succ j=>
   have:=jm5 l (i+1) h.2 j (by simpa using hj)
   rw [show i+(j+1)=i+1+j by omega]
   simpa using this
def j0T (s:ByteArray):Bool:= !((Z19 s).any λb=>decide (b<97)||decide (b>122))&&(decide (1<=s.size)&&decide (s.size<=8))
def jgz (v:V):Bool:=(v.1==0)&&((v.2.1==0)&&sEq v.2.2 eS)
def j1A (c:C):Bool:=j0T c.1&&(decide (1<=c.2.1/\c.2.1<=3)&&(j0u c.2.2.2.2&&(bif c.2.2.2.1 then (c.2.2.2.2.1==c.2.1)||((c.2.2.2.2.1==0)&& !c.2.2.1) else jgz c.2.2.2.2)))
def j13 (l:List C) (n:ByteArray):Int:=Z8b (λc=>sEq c.1 n) l
theorem jay (l:List C) (n:ByteArray): -1<=j13 l n/\j13 l n<(l.length:Int):=jgt _ _
theorem jfg:j0u (0,0,eS)=true:=by
 show (((0:Int)==0)&&sEq eS eS)=true
 rw [Z8L];rfl
theorem jrt:jgz (0,0,eS)=true:=by
 show (((0:Int)==0)&&(((0:Int)==0)&&sEq eS eS))=true
 rw [Z8L];rfl
def j68 (l:List C):Int->List ByteArray->Bool
 | _,[]=>true
 | last,k::ks=> !decide (j13 l k<=last)&&((nth zC l (j13 l k)).2.2.1&&j68 l (j13 l k) ks)
def jby (l:List C):Bool:= !Z5P (λi c=> !j1A c||(j13 l c.1 != (i:Int))) 0 l
def jei (t:T):Bool:=(j0T t.1&&(decide (1<=t.2.1.length)&&(decide (t.2.1.length<=8)&&decide (1<=t.2.2.length))))&&(jby t.2.1&&j68 t.2.1 (-1) t.2.2)
theorem j2t {t:T} (h:jei t=true):j0T t.1=true/\1<=t.2.1.length/\t.2.1.length<=8/\1<=t.2.2.length/\jby t.2.1=true/\j68 t.2.1 (-1) t.2.2=true:=by
 unfold jei at h
 simp only [Bool.and_eq_true,decide_eq_true_eq] at h
 exact ⟨h.1.1,h.1.2.1,h.1.2.2.1,h.1.2.2.2,h.2.1,h.2.2⟩
theorem je0 {l:List C}:(ks:List ByteArray)->(last:Int)-> -1<=last->j68 l last ks=true->∀ k∈ks,0<=j13 l k/\j13 l k<(l.length:Int)
 | [],_,_,_,k,hk=>by cases hk
 | q::ks,last,h0,h,k,hk=>by
  simp only [j68,Bool.and_eq_true,Bool.not_eq_true',decide_eq_false_iff_not] at h
  have h1:=(jgt (λc:C=>sEq c.1 q) l).2
  have h2:0<=j13 l q:=by omega
  rcases List.mem_cons.1 hk with rfl | hk
  ·exact ⟨h2,h1⟩
  ·exact je0 ks (j13 l q) (by omega) h.2.2 k hk
theorem j7u {l:List C} (h:jby l=true) (i:Nat) (hi:i<l.length):j1A l[i]=true:=by
 unfold jby at h
 have:=jm5 l 0 (by simpa using h) i hi
 simp only [Bool.or_eq_false_iff,Bool.not_eq_false'] at this
 exact this.1
end Go.PI.G
namespace Go.PI.G
open Go Go.PI
def j31 (b:Int):List Int->List Int->List (List Int)
 | pre,[]=>[pre]
 | pre,x::xs=>if x=b then pre::j31 b [] xs else j31 b (pre++[x]) xs
def tlJ (b:Int):List (List Int)->List Int
 | []=>[]
 | w::ws=>b::(w++tlJ b ws)
def jil (b:Int):List (List Int)->List Int
 | []=>[]
 | w::ws=>w++tlJ b ws
theorem jhE (b:Int):(l pre:List Int)->∃ w ws,j31 b pre l=w::ws
 | [],pre=>⟨pre,[],rfl⟩
 | x::xs,pre=>by
  simp only [j31]
  by_cases h:x=b
  ·rw [if_pos h];exact ⟨_,_,rfl⟩
  ·rw [if_neg h];exact jhE b xs _
theorem jkB (b:Int):(l pre:List Int)->jil b (j31 b pre l)=pre++l
 | [],pre=>by simp [j31,jil,tlJ]
 | x::xs,pre=>by
  simp only [j31]
  by_cases h:x=b
  ·rw [if_pos h]
   have ih:=jkB b xs []
   obtain ⟨w,ws,hw⟩:=jhE b xs []
   rw [hw] at ih ⊢
   simp only [jil,tlJ,List.nil_append] at ih ⊢
   rw [ih,h]
  ·rw [if_neg h,jkB b xs];simp
theorem jnV (b:Int) (r:List Int):(w pre:List Int)->b ∉ w->j31 b pre (w++r)=j31 b (pre++w) r
 | [],pre,_=>by simp
 | x::w,pre,h=>by
  have hx:x≠b:=λe=>h (by rw [e];simp)
  simp only [List.cons_append,j31]
  rw [if_neg hx,jnV b r w _ λhm=>h (List.mem_cons_of_mem _ hm)]
  simp
theorem jqa (b:Int):(ws:List (List Int))->(w pre:List Int)->b ∉ w->(∀ v∈ws,b ∉ v)->j31 b pre (w++tlJ b ws)=(pre++w)::ws
 | [],w,pre,h,_=>by
  have:=jnV b [] w pre h
  simp only [List.append_nil] at this
  simp only [tlJ,List.append_nil,this,j31]
 | v::vs,w,pre,h,hv=>by
  rw [jnV b _ w pre h]
  simp only [tlJ,j31,if_pos]
  rw [jqa b vs v [] (hv v (by simp)) λu hu=>hv u (List.mem_cons_of_mem _ hu)]
  simp
theorem jnU (b:Int):(l pre:List Int)->(j31 b pre l).length<=l.length+1
 | [],pre=>by simp [j31]
 | x::xs,pre=>by
  simp only [j31]
  by_cases hx:x=b
  ·rw [if_pos hx]
   have:=jnU b xs []
   simp only [List.length_cons];omega
  ·rw [if_neg hx]
   have:=jnU b xs (pre++[x])
   simp only [List.length_cons];omega
theorem jjP (b:Int):(l pre:List Int)->∀ w∈j31 b pre l,w.length<=pre.length+l.length
 | [],pre,w,hw=>by
  simp only [j31,List.mem_singleton] at hw
  subst hw;simp
 | x::xs,pre,w,hw=>by
  simp only [j31] at hw
  by_cases hx:x=b
  ·rw [if_pos hx] at hw
   rcases List.mem_cons.1 hw with rfl | hw
   ·simp
   ·have:=jjP b xs [] w hw
    simp only [List.length_nil,List.length_cons] at this ⊢;omega
  ·rw [if_neg hx] at hw
   have:=jjP b xs (pre++[x]) w hw
   rw [List.length_append] at this
   simp only [List.length_cons,List.length_nil] at this ⊢;omega
theorem jnT (b:Int):(l pre:List Int)->isB pre->isB l->∀ w∈j31 b pre l,isB w
 | [],pre,h,_,w,hw=>by
  simp only [j31,List.mem_singleton] at hw
  subst hw;exact h
 | x::xs,pre,h,hl,w,hw=>by
  simp only [j31] at hw
  have hx':isB xs:=λy hy=>hl y (List.mem_cons_of_mem _ hy)
  by_cases hx:x=b
  ·rw [if_pos hx] at hw
   rcases List.mem_cons.1 hw with rfl | hw
   ·exact h
   ·exact jnT b xs [] jbk hx' w hw
  ·rw [if_neg hx] at hw
   exact jnT b xs _ (jgx h (j9x (hl x (by simp)) jbk)) hx' w hw
theorem j0l (a b:ByteArray):Z19 (a++b)=Z19 a++Z19 b:=by
 unfold Z19
 have:(a++b).data=a.data++b.data:=ByteArray.data_append
 rw [this]
 simp
theorem j11 {a b:ByteArray} (h:Z19 a=Z19 b):a=b:=by
 rw [<-j4e a,h,j4e]
def spB:ByteArray:=⟨#[32]⟩
def tlB:List ByteArray->ByteArray
 | []=>eS
 | w::ws=>spB++(w++tlB ws)
def j04:List ByteArray->ByteArray
 | []=>eS
 | w::ws=>w++tlB ws
theorem jjD:(ws:List ByteArray)->Z19 (tlB ws)=tlJ 32 (ws.map Z19)
 | []=>rfl
 | w::ws=>by
  simp only [tlB,List.map_cons,tlJ]
  rw [j0l,j0l,jjD ws];rfl
theorem jho (ws:List ByteArray):Z19 (j04 ws)=jil 32 (ws.map Z19):=by
 cases ws with
 | nil=>rfl
 | cons w ws=>
  simp only [j04,List.map_cons,jil]
  rw [j0l,jjD]
theorem j7s:(u v:List ByteArray)->tlB (u++v)=tlB u++tlB v
 | [],v=>(jm6 _).symm
 | w::u,v=>by
  simp only [List.cons_append,tlB]
  rw [j7s u v,ByteArray.append_assoc,ByteArray.append_assoc]
theorem joF (w:ByteArray) (u v:List ByteArray):j04 (w::(u++v))=j04 (w::u)++tlB v:=by
 simp only [j04]
 rw [j7s,ByteArray.append_assoc]
theorem jab {u:List ByteArray} (h:u≠[]):spB++j04 u=tlB u:=by
 cases u with
 | nil=>exact absurd rfl h
 | cons w u=>rfl
def j0g (b:Int) (s:ByteArray):List ByteArray:=(j31 b [] (Z19 s)).map Z2X
def free (b:Int) (s:ByteArray):Prop:=b ∉ Z19 s
theorem jmQ (b:Int) (s:ByteArray):∃ w ws,j0g b s=w::ws:=by
 obtain ⟨w,ws,h⟩:=jhE b (Z19 s) []
 exact ⟨Z2X w,ws.map Z2X,by unfold j0g;rw [h];rfl⟩
theorem jqL {l:List (List Int)} (h:∀ w∈l,isB w):(l.map Z2X).map Z19=l:=by
 rw [List.map_map]
 have:l.map (Z19 ∘ Z2X)=l.map id:=List.map_congr_left λw hw=>by
  simp only [Function.comp,id]
  exact j9c (h w hw)
 rw [this,List.map_id]
theorem jqK (l:List ByteArray):(l.map Z19).map Z2X=l:=by
 rw [List.map_map]
 have:l.map (Z2X ∘ Z19)=l.map id:=List.map_congr_left λw _=>by
  simp only [Function.comp,id]
  exact j4e w
 rw [this,List.map_id]
theorem jpr (b:Int) (s:ByteArray):(j0g b s).map Z19=j31 b [] (Z19 s):=
 jqL (jnT b _ _ jbk (j8B s))
theorem ja3 (s:ByteArray):j04 (j0g 32 s)=s:=by
 apply j11
 rw [jho,jpr,jkB]
 rfl
theorem jrx {w:ByteArray} {ws:List ByteArray} (h:∀ v∈w::ws,free 32 v):j0g 32 (j04 (w::ws))=w::ws:=by
 unfold j0g
 rw [jho]
 simp only [List.map_cons,jil]
 rw [jqa 32 (ws.map Z19) (Z19 w) [] (h w (by simp)) λv hv=>by
  obtain ⟨u,hu,rfl⟩:=List.mem_map.1 hv
  exact h u (List.mem_cons_of_mem _ hu)]
 rw [List.nil_append,List.map_cons,jqK,j4e]
theorem j6d (b:Int) (s:ByteArray):(j0g b s).length<=s.size+1:=by
 unfold j0g
 rw [List.length_map]
 have:=jnU b (Z19 s) []
 rw [j0f] at this
 exact this
theorem j4J (b:Int) (s:ByteArray):∀ w∈j0g b s,w.size<=s.size:=λw hw=>by
 obtain ⟨u,hu,rfl⟩:=List.mem_map.1 hw
 rw [ji4]
 have:=jjP b (Z19 s) [] u hu
 rw [j0f] at this
 simpa using this
theorem jim {w:ByteArray} {ws:List ByteArray} (h:∀ v∈w::ws,free 32 v) (s:ByteArray):j04 (w::ws)=s↔j0g 32 s=w::ws:=by
 constructor
 ·rintro rfl;exact jrx h
 ·intro hp
  rw [<-hp,ja3]
theorem j8s (b:Int) (s:ByteArray) (h:(Z19 s).all (λx=>x != b)=true):free b s:=λhm=>by
 have:=List.all_eq_true.1 h b hm
 simp at this
theorem jsr {b:Int} {s t:ByteArray} (hs:free b s) (ht:free b t):free b (s++t):=by
 unfold free at *
 rw [j0l,List.mem_append,not_or]
 exact ⟨hs,ht⟩
theorem jgQ {s:ByteArray} (h:j0T s=true) {b:Int} (hb:b<97):free b s:=λhm=>by
 unfold j0T at h
 rw [Bool.and_eq_true,Bool.not_eq_true',List.any_eq_false] at h
 have:=h.1 b hm
 simp only [Bool.or_eq_true,decide_eq_true_eq,not_or] at this
 omega
theorem j0o {s:ByteArray} (h:j0T s=true):1<=s.size/\s.size<=8:=by
 unfold j0T at h
 simp only [Bool.and_eq_true,decide_eq_true_eq] at h
 exact h.2
theorem jfe (s:ByteArray) (i j:Nat):Z19 (s.extract i j)=((Z19 s).take j).drop i:=by
 unfold Z19
 rw [ByteArray.data_extract,Array.toList_extract]
 simp only [List.extract_eq_take_drop,List.map_take,List.map_drop]
 rw [List.drop_take]
theorem jqt {l:List Int} {from_ i:Nat} (h:from_<=i) (hi:i<l.length):(l.take (i+1)).drop from_=(l.take i).drop from_++[l[i]]:=by
 rw [List.take_succ_eq_append_getElem hi,List.drop_append_of_le_length (by rw [List.length_take];omega)]
theorem jr2 (l:List Int) (i:Nat):(l.take i).drop i=[]:=by
 rw [List.drop_eq_nil_of_le];rw [List.length_take];omega
end Go.PI.G
namespace Go.PI.G
open Go Go.PI
abbrev D:=Int×ByteArray×List C×List ByteArray×ByteArray×ByteArray
abbrev ST:=Int×ByteArray×List V×List V×D
abbrev yD:Ty:= .pair (.int .i64) (.pair .str (.pair (.slice yC) (.pair (.slice .str) (.pair .str .str))))
abbrev yST:Ty:= .pair (.int .i64) (.pair .str (.pair (.slice yV) (.pair (.slice yV) yD)))
abbrev zD:D:=(0,eS,[],[],eS,eS)
abbrev zST:ST:=(0,eS,[],[],0,eS,[],[],eS,eS)
theorem jjJ:∃ m,Z0Y=m+1:=⟨Z0Y-1,by have:=Z1O (n:=1) (by omega);omega⟩
theorem j4W (n:Nat):(nI n==0)=(n==0):=by
 unfold nI
 cases n with
 | zero=>rfl
 | succ n=>show ((((n+1:Nat):Int))==0)=false;simp;omega
theorem jrZ (n:Nat):(nI n==1)=(n==1):=by
 unfold nI
 by_cases h:n=1
 ·subst h;rfl
 ·have h1:(n==1)=false:=by simp [h]
  have h2:((n:Int)==1)=false:=by simp;omega
  rw [h1,h2]
theorem jrs (m n:Nat):(nI m != nI n)= !(m==n):=by
 unfold nI
 by_cases h:m=n
 ·subst h;simp
 ·have h1:(m==n)=false:=by simp [h]
  have h2:((m:Int) != n)=true:=by simp;omega
  rw [h1,h2];rfl
def noD (d:D):Bool:=(d.1==0)&&(sEq d.2.1 eS&&((d.2.2.1.length==0)&&((d.2.2.2.1.length==0)&&(sEq d.2.2.2.2.1 eS&&sEq d.2.2.2.2.2 eS))))
def jd8 (d:D):Bool:=(d.2.2.1.length==0)&&(d.2.2.2.1.length==0)
def j1Y (d:D):Bool:=j0T d.2.1 &&
 (bif d.1==1 then sEq d.2.2.2.2.1 eS&&(sEq d.2.2.2.2.2 eS&&jei (d.2.1,d.2.2.1,d.2.2.2.1))
  else bif d.1==2 then jd8 d&&(sEq d.2.2.2.2.1 eS&&sEq d.2.2.2.2.2 eS)
  else bif d.1==3 then (d.2.2.1.length==1)&&(j1A (nth zC d.2.2.1 0)&&(((nth zC d.2.2.1 0).2.2.2.1|| !(nth zC d.2.2.1 0).2.2.1)&&((d.2.2.2.1.length==0)&&(sEq d.2.2.2.2.1 eS&&sEq d.2.2.2.2.2 eS))))
  else bif d.1==4 then jd8 d&&(j0T d.2.2.2.2.1&&sEq d.2.2.2.2.2 eS)
  else bif d.1==5 then jd8 d&&(j0T d.2.2.2.2.1&&j0T d.2.2.2.2.2)
  else false)
def j1R (l:List V):Bool:=l.all j0u&&(decide (1<=l.length)&&decide (l.length<=8))
def stB (s:ST):Bool:=j0T s.2.1 &&
 (bif s.1==1 then (s.2.2.1.length==0)&&(j1R s.2.2.2.1&&noD s.2.2.2.2)
  else bif s.1==2 then j1R s.2.2.1&&(j1R s.2.2.2.1&&noD s.2.2.2.2)
  else bif s.1==3 then j1R s.2.2.1&&((s.2.2.2.1.length==0)&&noD s.2.2.2.2)
  else bif s.1==4 then (s.2.2.1.length==0)&&((s.2.2.2.1.length==0)&&noD s.2.2.2.2)
  else bif s.1==5 then (s.2.2.1.length==0)&&((s.2.2.2.1.length==0)&&(j1Y s.2.2.2.2&&sEq s.2.2.2.2.2.1 s.2.1))
  else false)
def dSm (d:D):Prop:=d.2.1.size<=1048576/\d.2.2.1.length<=1048576/\d.2.2.2.1.length<=1048576/\(∀ c∈d.2.2.1,c.1.size<=1048576)/\(∀ x∈d.2.2.2.1,x.size<=1048576)/\d.2.2.2.2.1.size<=1048576/\d.2.2.2.2.2.size<=1048576
def j2y (s:ST):Prop:=s.2.1.size<=1048576/\s.2.2.1.length<=1048576/\s.2.2.2.1.length<=1048576/\dSm s.2.2.2.2
theorem j1X:dSm zD:=by
 refine ⟨?_,?_,?_,?_,?_,?_,?_⟩
 all_goals first | (intro _ h;cases h) | exact Nat.zero_le _
theorem j7w:j2y zST:=⟨Nat.zero_le _,Nat.zero_le _,Nat.zero_le _,j1X⟩
theorem jfV (d:D):noD d=true↔d=zD:=by
 obtain ⟨a,b,c,e,f,g⟩:=d
 unfold noD
 simp only [Bool.and_eq_true,beq_iff_eq,j0t,Prod.mk.injEq,List.length_eq_zero_iff]
theorem j4H {d:D} (h:j1Y d=true):j0T d.2.1=true /\
  ((∃ t cs ks,d=(1,t,cs,ks,eS,eS)/\jei (t,cs,ks)=true)\/(∃ t,d=(2,t,[],[],eS,eS))\/(∃ t c,d=(3,t,[c],[],eS,eS)/\j1A c=true) \/
   (∃ t n,d=(4,t,[],[],n,eS)/\j0T n=true)\/∃ t n m,d=(5,t,[],[],n,m)/\j0T n=true/\j0T m=true):=by
 obtain ⟨k,t,cs,ks,n,m⟩:=d
 unfold j1Y jd8 at h
 dsimp only at h ⊢
 rw [Bool.and_eq_true] at h
 refine ⟨h.1,?_⟩
 have h:=h.2
 cases h1:k==1
 ·cases h2:k==2
  ·cases h3:k==3
   ·cases h4:k==4
    ·cases h5:k==5
     ·rw [h1,h2,h3,h4,h5] at h;cases h
     ·rw [h1,h2,h3,h4,h5] at h
      simp only [cond_false,cond_true,Bool.and_eq_true,beq_iff_eq] at h h5
      obtain ⟨⟨a,b⟩,c,e⟩:=h
      rw [List.length_eq_zero_iff] at a b
      subst a;subst b;subst h5
      exact .inr (.inr (.inr (.inr ⟨t,n,m,rfl,c,e⟩)))
    ·rw [h1,h2,h3,h4] at h
     simp only [cond_false,cond_true,Bool.and_eq_true,beq_iff_eq,j0t] at h h4
     obtain ⟨⟨a,b⟩,c,e⟩:=h
     rw [List.length_eq_zero_iff] at a b
     subst a;subst b;subst h4;subst e
     exact .inr (.inr (.inr (.inl ⟨t,n,rfl,c⟩)))
   ·rw [h1,h2,h3] at h
    simp only [cond_false,cond_true,Bool.and_eq_true,beq_iff_eq,j0t] at h h3
    obtain ⟨a,b,_,c,e,f⟩:=h
    obtain ⟨c0,rfl⟩:=List.length_eq_one_iff.1 a
    rw [List.length_eq_zero_iff] at c
    subst c;subst h3;subst e;subst f
    exact .inr (.inr (.inl ⟨t,c0,rfl,b⟩))
  ·rw [h1,h2] at h
   simp only [cond_false,cond_true,Bool.and_eq_true,beq_iff_eq,j0t] at h h2
   obtain ⟨⟨a,b⟩,e,f⟩:=h
   rw [List.length_eq_zero_iff] at a b
   subst a;subst b;subst h2;subst e;subst f
   exact .inr (.inl ⟨t,rfl⟩)
 ·rw [h1] at h
  simp only [cond_true,Bool.and_eq_true,beq_iff_eq,j0t] at h h1
  obtain ⟨e,f,a⟩:=h
  subst h1;subst e;subst f
  exact .inl ⟨t,cs,ks,rfl,a⟩
theorem j9K {s:ST} (h:stB s=true):j0T s.2.1=true /\
  ((∃ t r,s=(1,t,[],r,zD)/\j1R r=true)\/(∃ t q r,s=(2,t,q,r,zD)/\j1R q=true/\j1R r=true)\/(∃ t q,s=(3,t,q,[],zD)/\j1R q=true) \/
   (∃ t,s=(4,t,[],[],zD))\/∃ d:D,s=(5,d.2.1,[],[],d)/\j1Y d=true):=by
 obtain ⟨k,t,q,r,d⟩:=s
 unfold stB at h
 dsimp only at h ⊢
 rw [Bool.and_eq_true] at h
 refine ⟨h.1,?_⟩
 have h:=h.2
 cases h1:k==1
 ·cases h2:k==2
  ·cases h3:k==3
   ·cases h4:k==4
    ·cases h5:k==5
     ·rw [h1,h2,h3,h4,h5] at h;cases h
     ·rw [h1,h2,h3,h4,h5] at h
      simp only [cond_false,cond_true,Bool.and_eq_true,beq_iff_eq,j0t] at h h5
      obtain ⟨a,b,c,e⟩:=h
      rw [List.length_eq_zero_iff] at a b
      subst a;subst b;subst h5;subst e
      exact .inr (.inr (.inr (.inr ⟨d,rfl,c⟩)))
    ·rw [h1,h2,h3,h4] at h
     simp only [cond_false,cond_true,Bool.and_eq_true,beq_iff_eq,jfV] at h h4
     obtain ⟨a,b,c⟩:=h
     rw [List.length_eq_zero_iff] at a b
     subst a;subst b;subst h4;subst c
     exact .inr (.inr (.inr (.inl ⟨t,rfl⟩)))
   ·rw [h1,h2,h3] at h
    simp only [cond_false,cond_true,Bool.and_eq_true,beq_iff_eq,jfV] at h h3
    obtain ⟨a,b,c⟩:=h
    rw [List.length_eq_zero_iff] at b
    subst b;subst h3;subst c
    exact .inr (.inr (.inl ⟨t,q,rfl,a⟩))
  ·rw [h1,h2] at h
   simp only [cond_false,cond_true,Bool.and_eq_true,beq_iff_eq,jfV] at h h2
   obtain ⟨a,b,c⟩:=h
   subst h2;subst c
   exact .inr (.inl ⟨t,q,r,rfl,a,b⟩)
 ·rw [h1] at h
  simp only [cond_true,Bool.and_eq_true,beq_iff_eq,jfV] at h h1
  obtain ⟨a,b,c⟩:=h
  rw [List.length_eq_zero_iff] at a
  subst a;subst h1;subst c
  exact .inl ⟨t,r,rfl,b⟩
theorem j0v {l:List V} (h:j1R l=true):1<=l.length/\l.length<=8/\∀ v∈l,j0u v=true:=by
 unfold j1R at h
 simp only [Bool.and_eq_true,decide_eq_true_eq,List.all_eq_true] at h
 exact ⟨h.2.1,h.2.2,h.1⟩
end Go.PI.G
namespace Go.PI.G
open Go Go.PI
def goL {α A E:Type} (f:A->α->Except E A):List α->A->Except E A
 | [],a=> .ok a
 | x::xs,a=>match f a x with
  | .ok a'=>goL f xs a'
  | .error e=> .error e
def exR {A E:Type} (r:Except E A) (f:A->Res) (g:E->Res):Res:=match r with
 | .ok a=>f a
 | .error e=>g e
def opR {A:Type} (r:Option A) (f:A->Res) (g:Res):Res:=match r with
 | some a=>f a
 | none=>g
theorem jrN {α A E:Type} (f:A->α->Except E A):(l m:List α)->(a:A)->goL f (l++m) a=match goL f l a with | .ok a'=>goL f m a' | .error e=> .error e
 | [],m,a=>rfl
 | x::l,m,a=>by
  simp only [List.cons_append,goL]
  cases f a x with
  | ok a'=>exact jrN f l m a'
  | error e=>rfl
theorem jo5 {α A E V K:Type} (l:List α) (st:Int->A->V) (f:A->α->Except E A) (p:Nat->A->Prop) {step:V->(V->Res)->K->Res} (q:K) (fin:A->Res) (ex:E->Res)
  (hp:∀ (i:Nat) a a',(hi:i<l.length)->p i a->f a l[i]= .ok a'->p (i+1) a')
  (hs:∀ (i:Nat) a rec,(hi:i<l.length)->p i a->step (st i a) rec q=exR (f a l[i]) (λa'=>rec (st ((i:Int)+1) a')) ex)
  (he:∀ a rec,p l.length a->step (st (l.length:Int) a) rec q=fin a) :
  ∀ (d i m:Nat) (a:A),i+d=l.length->d<m->p i a->Z10 step m (st (i:Int) a) q=exR (goL f (l.drop i) a) fin ex:=by
 intro d
 induction d with
 | zero=>
  intro i m a hi hm ha
  obtain ⟨m,rfl⟩:∃ e,m=e+1:=⟨m-1,by omega⟩
  have hil:i=l.length:=by omega
  subst hil
  rw [Z8u,he a _ ha,List.drop_length]
  rfl
 | succ d ih=>
  intro i m a hi hm ha
  obtain ⟨m,rfl⟩:∃ e,m=e+1:=⟨m-1,by omega⟩
  have hil:i<l.length:=by omega
  rw [Z8u,hs i a _ hil ha,List.drop_eq_getElem_cons hil]
  simp only [goL]
  cases hf:f a l[i] with
  | error e=>rfl
  | ok a'=>
   have:=ih (i+1) m a' (by omega) (by omega) (hp i a a' hil ha hf)
   rw [show ((i+1:Nat):Int)=(i:Int)+1 by omega] at this
   exact this
theorem j1V (s:ByteArray) (i:Nat) (h:i<(Z19 s).length):bt s (i:Int)=(Z19 s)[i]:=by
 have hl:=j0f s
 have h':i<s.data.size:=by
  have:i<s.size:=by omega
  exact this
 have e1:(Z19 s)[i]=((s.data.toList.map λb:UInt8=>(b.toNat:Int))[i]'(by simpa using h')):=rfl
 rw [e1,List.getElem_map]
 unfold bt
 simp [Array.getElem?_eq_getElem h']
theorem jcs {s:ByteArray} {x:Int} {l:List Int} (h:Z19 s=x::l):bt s 0=x:=by
 have:=j1V s 0 (by rw [h];simp)
 rw [show ((0:Nat):Int)=0 from rfl] at this
 rw [this]
 simp [h]
theorem j02 {a b:ByteArray} (h:Z19 a≠Z19 b):sEq a b=false:=by
 cases hq:sEq a b with
 | false=>rfl
 | true=>exact absurd (by rw [(j0t _ _).1 hq]) h
theorem jtk {a b:ByteArray} (h:Z19 a≠Z19 b):sNe a b=true:=by
 cases hq:sNe a b with
 | true=>rfl
 | false=>exact absurd (by rw [(jdH _ _).1 hq]) h
def jkA (x:Int):Bool:=decide (48<=x/\x<=57)
def dgF (n x:Int):Except Unit Int:=bif jkA x then .ok (n * 10+(x-48)) else .error ()
theorem jml {n x:Int} (h:48<=x/\x<=57):dgF n x= .ok (n * 10+(x-48)):=by unfold dgF jkA;rw [decide_eq_true h];rfl
theorem jqc {n x m:Int} (h:dgF n x= .ok m):(48<=x/\x<=57)/\m=n * 10+(x-48):=by
 unfold dgF jkA at h
 by_cases hx:48<=x/\x<=57
 ·rw [decide_eq_true hx] at h;cases h;exact ⟨hx,rfl⟩
 ·rw [decide_eq_false hx] at h;cases h
def rdN (l:List Int):Option Int:=bif l.headD 0==45 then (match goL dgF l.tail 0 with | .ok n=>some (-n) | .error _=>none) else match goL dgF l 0 with | .ok n=>some n | .error _=>none
theorem jtj {i:Nat} (h:i<=13):((10 ^ i:Nat):Int)<=10000000000000:=by
 have:10 ^ i<=10 ^ 13:=Nat.pow_le_pow_right (by omega) h
 omega
theorem jfF {i:Nat} {n x:Int} (hi:i<=13) (hn:0<=n/\n<((10 ^ i:Nat):Int)) (hx:48<=x/\x<=57) :
  Z8g (n * 10)=n * 10/\Z8g (wu8 (x-48))=x-48/\Z8g (n * 10+(x-48))=n * 10+(x-48)/\0<=n * 10+(x-48)/\n * 10+(x-48)<((10 ^ (i+1):Nat):Int):=by
 have h1:=jtj hi
 have e:((10 ^ (i+1):Nat):Int)=((10 ^ i:Nat):Int) * 10:=by rw [Nat.pow_succ];omega
 refine ⟨j05 (by omega),?_,j05 (by omega),by omega,by omega⟩
 rw [jfh (by omega),j05 (by omega)]
theorem j1L {α:Type} {l:List α} {i:Nat} {x:α} {r:List α} (h:l.drop i=x::r):∃ hi:i<l.length,l[i]=x/\l.drop (i+1)=r:=by
 have hl:=congrArg List.length h
 rw [List.length_drop,List.length_cons] at hl
 have hi:i<l.length:=by omega
 rw [List.drop_eq_getElem_cons hi] at h
 exact ⟨hi,(List.cons.inj h).1,(List.cons.inj h).2⟩
theorem jre (s:ByteArray) (g:Int->List Int):∀ (d i:Nat) (out:List Int),i+d=s.size->Z4T (λi out=>out++g (bt s (i:Int))) i d out=out++((Z19 s).drop i).flatMap g:=by
 have hl:=j0f s
 intro d
 induction d with
 | zero=>
  intro i out h
  rw [List.drop_eq_nil_of_le (by omega)]
  simp [Z4T]
 | succ d ih=>
  intro i out h
  have hi:i<(Z19 s).length:=by omega
  simp only [Z4T]
  rw [ih (i+1) _ (by omega),j1V s i hi,List.drop_eq_getElem_cons hi,List.flatMap_cons,List.append_assoc]
noncomputable def rdX {α:Type} (ok:α->Bool) (T:α->ByteArray) (z:α) (s:ByteArray):α×Bool:=by
 classical
 exact if h:∃ x,ok x=true/\T x=s then (h.choose,true) else (z,false)
theorem je4 {α:Type} {ok:α->Bool} {T:α->ByteArray} {z:α} {s:ByteArray} (h:∀ x,ok x=true->T x≠s):rdX ok T z s=(z,false):=by
 unfold rdX
 rw [dif_neg λ⟨n,h1,h2⟩=>h n h1 h2]
theorem jgF {α:Type} {ok:α->Bool} {T:α->ByteArray} {z:α} {s:ByteArray} {x:α} (hx:ok x=true) (h:T x=s) (hu:∀ y,ok y=true->T y=s->y=x):rdX ok T z s=(x,true):=by
 unfold rdX
 have he:∃ x,ok x=true/\T x=s:=⟨x,hx,h⟩
 rw [dif_pos he,hu _ he.choose_spec.1 he.choose_spec.2]
theorem ji8 {α:Type} {ok:α->Bool} {T:α->ByteArray} {z:α} {s:ByteArray} (h:(rdX ok T z s).2=true):ok (rdX ok T z s).1=true/\T (rdX ok T z s).1=s:=by
 unfold rdX at h ⊢
 by_cases he:∃ x,ok x=true/\T x=s
 ·rw [dif_pos he];exact he.choose_spec
 ·rw [dif_neg he] at h;cases h
theorem jmR {α:Type} {ok:α->Bool} {T:α->ByteArray} {z:α} {s:ByteArray} (h:(rdX ok T z s).2=false):(rdX ok T z s).1=z/\∀ x,ok x=true->T x≠s:=by
 unfold rdX at h ⊢
 by_cases he:∃ x,ok x=true/\T x=s
 ·rw [dif_pos he] at h;cases h
 ·rw [dif_neg he];exact ⟨rfl,λx h1 h2=>he ⟨x,h1,h2⟩⟩
theorem jcN {α:Type} {ok:α->Bool} {T:α->ByteArray} {z:α} {s:ByteArray} (raw:α) (hraw:∀ x,ok x=true->T x=s->raw=x) (hne:T raw=s->ok raw=true) (k:α->Bool->Res) :
  (bif sNe (T raw) s then k z false else k raw true)=k (rdX ok T z s).1 (rdX ok T z s).2:=by
 by_cases h:∃ x,ok x=true/\T x=s
 ·obtain ⟨x,hx,he⟩:=h
  rw [jgF hx he λy hy hye=>(hraw y hy hye).symm.trans (hraw x hx he),hraw x hx he,he,Z8M,cond_false]
 ·rw [je4 λx hx he=>h ⟨x,hx,he⟩]
  cases hn:sNe (T raw) s
  ·have he:=(jdH _ _).1 hn
   exact absurd ⟨raw,hne he,he⟩ h
  ·rfl
theorem j7S {α:Type} (l:List α) (i:Nat):sub l (i:Int) (nI l.length)=l.drop i:=by
 unfold sub nI
 rw [show ((l.length:Int)).toNat=l.length by omega,show ((i:Int)).toNat=i by omega,List.take_length]
theorem jit {α:Type} (l:List α) (i j:Nat):sub l (i:Int) (j:Int)=(l.take j).drop i:=by
 unfold sub
 rw [show ((j:Int)).toNat=j by omega,show ((i:Int)).toNat=i by omega]
theorem jqb {i j n:Nat} (h:i<=j/\j<=n):Z6R (i:Int) (j:Int) n=true:=decide_eq_true (by omega)
theorem j4l {i n:Nat} (h:i<=n):Z6R (i:Int) (nI n) n=true:=decide_eq_true (by unfold nI;omega)
theorem jgm {n:Nat} (h:2<=n):Z6R 2 (nI n) n=true:=decide_eq_true (by unfold nI;omega)
theorem jiu {α:Type} (l:List α):sub l 2 (nI l.length)=l.drop 2:=j7S l 2
end Go.PI.G
set_option linter.unusedSimpArgs false
namespace Go.PI.G
open Go Go.PI Go.Proofs
theorem jeN (l:List ByteArray):j04 (l.take 0)=eS:=rfl
theorem jmC (l:List ByteArray) (i:Nat) (hi:i<l.length):j04 (l.take (i+1))=if i=0 then l[i] else j04 (l.take i)++spB++l[i]:=by
 cases l with
 | nil=>simp at hi
 | cons w ws=>
  cases i with
  | zero=>
   rw [if_pos rfl]
   show w++eS=w
   rw [j33]
  | succ i=>
   rw [if_neg (by omega)]
   have hi':i<ws.length:=by simpa using hi
   rw [List.take_succ_cons,List.take_succ_cons,List.take_succ_eq_append_getElem hi',joF,List.getElem_cons_succ]
   show j04 (w::ws.take i)++(spB++(ws[i]++eS))=_
   rw [j33,ByteArray.append_assoc]
theorem jmB (l:List ByteArray) (i:Nat):(j04 (l.take i)).size<=(j04 l).size:=by
 cases l with
 | nil=>simp
 | cons w ws=>
  cases i with
  | zero=>show (0:Nat)<=_;omega
  | succ i=>
   rw [List.take_succ_cons]
   have:j04 (w::ws)=j04 (w::ws.take i)++tlB (ws.drop i):=by
    rw [<-joF,List.take_append_drop]
   rw [this,ByteArray.size_append]
   omega
theorem jd4 (l:List ByteArray) (h:l.length<=1000000000) (hs:(j04 l).size<=LIM) (k:ByteArray->Res):j1p l k=k (j04 l):=by
 unfold j1p jcd
 have:=Z8q l.length (λi out=>(out,i)) (λi _=>j04 (l.take (i+1))) (λi out=>out=j04 (l.take i)) (step:=j6Q l (nI l.length)) (λout=>k out) (λ_=>k (j04 l)) eS (by unfold LIM;omega) rfl (λi out hi ho=>rfl) (λi out rec hi ho=>by
  show j4z _ _ _ _ _ _=_
  unfold j4z
  dsimp only
  have e:=jmC l i hi
  have m:=jmB l (i+1)
  rw [Z9i hi,cond_true,j0n hi,cond_true,Z92 _ _ _ hi,j05 (n:=(i:Int)+1) (by omega)]
  subst ho
  cases i with
  | zero=>
   rw [if_pos rfl] at e
   rw [decide_eq_false (show ¬ ((0:Nat):Int)>0 by omega),cond_false,jeN,Z9d (by rw [<-e];show (0:Nat)+_<=_;omega),cond_true,jm6,e]
  | succ i=>
   rw [if_neg (by omega)] at e
   have e2:(j04 (l.take (i+1))).size+1+(l[i+1]).size<=LIM:=by
    have:=congrArg ByteArray.size e
    rw [ByteArray.size_append,ByteArray.size_append] at this
    have h1:spB.size=1:=rfl
    omega
   rw [decide_eq_true (show ((i+1:Nat):Int)>0 by omega),cond_true,Z9d (by omega),cond_true,Z9d (by rw [ByteArray.size_append];exact e2),cond_true,e]
   rfl) (λout rec ho=>by
  show j4z _ _ _ _ _ _=_
  unfold j4z
  dsimp only
  rw [Z9h,cond_false,ho,List.take_length])
 exact this.1
theorem j3Q (l:List ByteArray) (h:l.length<=1000000000) (hs:(j04 l).size<=LIM) (k:ByteArray->Res):j1b l k=k (j04 l):=by
 unfold j1b jdp
 have:=Z8q l.length (λi out=>(out,i)) (λi _=>j04 (l.take (i+1))) (λi out=>out=j04 (l.take i)) (step:=j90 l (nI l.length)) (λout=>k out) (λ_=>k (j04 l)) eS (by unfold LIM;omega) rfl (λi out hi ho=>rfl) (λi out rec hi ho=>by
  show j66 _ _ _ _ _ _=_
  unfold j66
  dsimp only
  have e:=jmC l i hi
  have m:=jmB l (i+1)
  rw [Z9i hi,cond_true,j0n hi,cond_true,Z92 _ _ _ hi,j05 (n:=(i:Int)+1) (by omega)]
  subst ho
  cases i with
  | zero=>
   rw [if_pos rfl] at e
   rw [decide_eq_false (show ¬ ((0:Nat):Int)>0 by omega),cond_false,jeN,Z9d (by rw [<-e];show (0:Nat)+_<=_;omega),cond_true,jm6,e]
  | succ i=>
   rw [if_neg (by omega)] at e
   have e2:(j04 (l.take (i+1))).size+1+(l[i+1]).size<=LIM:=by
    have:=congrArg ByteArray.size e
    rw [ByteArray.size_append,ByteArray.size_append] at this
    have h1:spB.size=1:=rfl
    omega
   rw [decide_eq_true (show ((i+1:Nat):Int)>0 by omega),cond_true,Z9d (by omega),cond_true,Z9d (by rw [ByteArray.size_append];exact e2),cond_true,e]
   rfl) (λout rec ho=>by
  show j66 _ _ _ _ _ _=_
  unfold j66
  dsimp only
  rw [Z9h,cond_false,ho,List.take_length])
 exact this.1
end Go.PI.G
namespace Go.PI.G
open Go Go.PI Go.Proofs
theorem j1I (x lo hi:Int) (k:Bool->Res):j0K x lo hi k=k (decide (lo<=x/\x<=hi)):=by
 unfold j0K
 by_cases h:x>=lo
 ·rw [decide_eq_true h,cond_true]
  congr 1
  exact decide_eq_decide.2 (by omega)
 ·rw [decide_eq_false h,cond_false]
  congr 1
  exact (decide_eq_false (by omega)).symm
theorem jeP (n:Int) (k:Bool->Res):jaD n k=k (j1w n):=j1I n _ _ k
theorem jgH (v:V) (k:Bool->Res):j7P v k=k (j0u v):=by
 unfold j7P j0u
 cases v.1==0
 ·cases v.1==1
  ·cases v.1==2
   ·cases v.1==3
    ·rfl
    ·cases v.2.1==0<;>rfl
   ·rw [cond_false,cond_false,cond_true,jeP]
    cases j1w v.2.1<;>rfl
  ·cases v.2.1==0
   ·cases v.2.1==1<;>rfl
   ·rfl
 ·cases v.2.1==0<;>rfl
theorem jgw (v:V) (k:Bool->Res):j7F v k=k (j0u v):=by
 unfold j7F j0u
 simp only [j1I,js1]
 cases v.1==0
 ·cases v.1==1
  ·cases v.1==2
   ·cases v.1==3
    ·rfl
    ·cases v.2.1==0<;>rfl
   ·rw [cond_false,cond_false,cond_true,cond_false,cond_false,cond_true]
    show (bif j1w v.2.1 then _ else _)=_
    cases j1w v.2.1<;>rfl
  ·cases v.2.1==0
   ·cases v.2.1==1<;>rfl
   ·rfl
 ·cases v.2.1==0<;>rfl
end Go.PI.G
namespace Go.PI.G
open Go Go.PI Go.Proofs
def dg (x:Int):ByteArray:=Z2X [wu8 (Z8g (48+x))]
theorem jcv (x:Int):(dg x).size=1:=rfl
def j4I (n:Nat):ByteArray:=if h:n<10 then dg n else j4I (n / 10)++dg ((n % 10:Nat):Int)
termination_by n
decreasing_by omega
theorem jdF {n:Nat} (h:n<10):j4I n=dg n:=by rw [j4I,dif_pos h]
theorem jfH {n:Nat} (h:¬ n<10):j4I n=j4I (n / 10)++dg ((n % 10:Nat):Int):=by rw [j4I,dif_neg h]
theorem jow:∀ (d n:Nat),n<10 ^ (d+1)->(j4I n).size<=d+1
 | 0,n,h=>by rw [jdF (by omega),jcv];exact Nat.le_refl _
 | d+1,n,h=>by
  by_cases h1:n<10
  ·rw [jdF h1,jcv];omega
  ·rw [jfH h1,ByteArray.size_append,jcv]
   have:n / 10<10 ^ (d+1):=Nat.div_lt_of_lt_mul (by rw [Nat.pow_succ] at h;omega)
   have:=jow d (n / 10) this
   omega
theorem j6s {n:Nat} (h:n<=1099511627775):(j4I n).size<=13:=jow 12 n (by omega)
def j06 (n:Int):ByteArray:=bif j1w n then (if n<0 then z__++j4I (-n).toNat else j4I n.toNat) else eS
theorem j2P (n:Int):(j06 n).size<=14:=by
 unfold j06
 by_cases h: -1099511627775<=n/\n<=1099511627775
 ·have hb:j1w n=true:=decide_eq_true h
  rw [hb,cond_true]
  split
  ·rw [ByteArray.size_append]
   have:=j6s (n:=(-n).toNat) (by omega)
   have:z__.size=1:=rfl
   omega
  ·have:=j6s (n:=n.toNat) (by omega)
   omega
 ·have hb:j1w n=false:=decide_eq_false h
  rw [hb,cond_false]
  show (0:Nat)<=14
  omega
theorem jfr:∀ (m n:Nat),n<m->n<=1099511627775->∀ k,Z8f (λ_ _=>none) j0X m (n:Int) k=k (j4I n)
 | 0,n,h,_,k=>by omega
 | m+1,n,h,hn,k=>by
  show j0X (Z8f (λ_ _=>none) j0X m) (n:Int) k=_
  have ih:=jfr m
  generalize Z8f (λ_ _=>none) j0X m=self at ih ⊢
  unfold j0X
  have hb:j1w (n:Int)=true:=decide_eq_true (by omega)
  rw [jeP,hb,Bool.not_true,cond_false,Z8A (by omega),cond_false]
  by_cases h1:n<10
  ·rw [Z8B (by omega),cond_true,jdF h1];rfl
  ·rw [Z8A (by omega),cond_false,Z8m,jlo,jlp,Z9b (n:=((n / 10:Nat):Int)) (by omega) (by omega),ih (n / 10) (by omega) (by omega),jfH h1]
   have h2:=j6s (n:=n / 10) (by omega)
   show (bif lim ((j4I (n / 10)).size+(dg ((n % 10:Nat):Int)).size) then k (j4I (n / 10)++dg ((n % 10:Nat):Int)) else none)=_
   rw [jcv,Z9d (by unfold LIM;omega),cond_true]
theorem jos:∃ m,Z0Y=m+1/\1099511627775<m:=by
 have h:=Z1O (n:=1099511627777) (by omega)
 exact ⟨Z0Y-1,by omega,by omega⟩
theorem jc6 (n:Int) (k:ByteArray->Res):j0P n k=k (j06 n):=by
 unfold j0P
 obtain ⟨m,hm,hm2⟩:=jos
 rw [hm]
 show j0X (Z8f (λ_ _=>none) j0X m) n k=_
 by_cases h: -1099511627775<=n/\n<=1099511627775
 ·have hb:j1w n=true:=decide_eq_true h
  by_cases h0:n<0
  ·have ih:=jfr m
   generalize Z8f (λ_ _=>none) j0X m=self at ih ⊢
   unfold j0X j06
   have hsz:=j6s (n:=(-n).toNat) (by omega)
   have hw:Z8g (0-n)=(((-n).toNat:Nat):Int):=by rw [Z9b (by omega) (by omega)];omega
   rw [jeP,hb,Bool.not_true,cond_false,Z8B h0,cond_true,hw,ih _ (by omega) (by omega),Z9d (by unfold LIM;omega),cond_true,cond_true,if_pos h0]
  ·have:=jfr (m+1) n.toNat (by omega) (by omega) k
   rw [show ((n.toNat:Nat):Int)=n by omega] at this
   unfold j06
   rw [hb,cond_true,if_neg h0]
   exact this
 ·have hb:j1w n=false:=decide_eq_false h
  unfold j0X j06
  rw [jeP,hb,Bool.not_false,cond_true,cond_false]
theorem jqk (self:Int->(ByteArray->Res)->Res) (n:Int) (s:ByteArray) (rec:Int×ByteArray->Res) (q:Int->ByteArray->Res):j3m self (n,s) rec q=jam self n s (λn s=>rec (n,s)) q:=rfl
theorem jhX (self:Int->(ByteArray->Res)->Res) (k:ByteArray->Res):∀ (m n d:Nat) (s:ByteArray),n<m->n<=1099511627775->n<10 ^ (d+1)->s.size+d<=1000 ->
  Z10 (j3m self) m ((n:Int),s) (λ(n_1:Int) (s:ByteArray)=>bif lim ((ByteArray.size (Z2X [wu8 (Z8g (48+n_1))]))+(ByteArray.size s)) then k ((Z2X [wu8 (Z8g (48+n_1))])++s) else none)=k (j4I n++s)
 | 0,n,d,s,h,_,_,_=>by omega
 | m+1,n,d,s,h,hn,hd,hs=>by
  rw [Z8u,jqk]
  unfold jam
  by_cases h1:n<10
  ·have:decide ((n:Int)>9)=false:=decide_eq_false (by omega)
   rw [this,cond_false,jdF h1]
   show (bif lim ((dg (n:Int)).size+s.size) then k (dg (n:Int)++s) else none)=_
   rw [jcv,Z9d (by unfold LIM;omega),cond_true]
  ·have:decide ((n:Int)>9)=true:=decide_eq_true (by omega)
   obtain ⟨d,rfl⟩:∃ e,d=e+1:=by
    cases d with
    | zero=>exact absurd (by simpa using hd) h1
    | succ d=>exact ⟨d,rfl⟩
   rw [this,cond_true,jlo,jlp,Z9b (n:=((n / 10:Nat):Int)) (by omega) (by omega)]
   show (bif lim ((dg ((n % 10:Nat):Int)).size+s.size) then Z10 (j3m self) m (((n / 10:Nat):Int),dg ((n % 10:Nat):Int)++s) _ else none)=_
   rw [jcv,Z9d (by unfold LIM;omega),cond_true,jhX self k m (n / 10) d _ (by omega) (by omega) (Nat.div_lt_of_lt_mul (by rw [Nat.pow_succ] at hd;omega)) (by rw [ByteArray.size_append,jcv];omega),jfH h1,ByteArray.append_assoc]
theorem jbJ (n:Int) (k:ByteArray->Res):j0O n k=k (j06 n):=by
 unfold j0O
 obtain ⟨m,hm,hm2⟩:=jos
 rw [hm]
 obtain ⟨m,rfl⟩:∃ e,m=e+1:=⟨m-1,by omega⟩
 have pos:∀ (self:Int->(ByteArray->Res)->Res) (n:Nat) (k:ByteArray->Res),n<=1099511627775->j18 self (n:Int) k=k (j4I n):=by
  intro self n k hn
  unfold j18 jbM
  rw [j1I,decide_eq_true (by omega),Bool.not_true,cond_false,Z8A (by omega),cond_false]
  have:=jhX self k Z0Y n 12 eS (Z1O (by omega)) hn (by omega) (by show 0+12<=1000;omega)
  rw [j33] at this
  exact this
 show j18 (Z8f (λ_ _=>none) j18 (m+1)) n k=_
 have ih:∀ (n:Nat) (k:ByteArray->Res),n<=1099511627775->Z8f (λ_ _=>none) j18 (m+1) (n:Int) k=k (j4I n):=λn k hn=>pos (Z8f (λ_ _=>none) j18 m) n k hn
 generalize Z8f (λ_ _=>none) j18 (m+1)=self at ih ⊢
 by_cases h: -1099511627775<=n/\n<=1099511627775
 ·have hb:j1w n=true:=decide_eq_true h
  by_cases h0:n<0
  ·unfold j18 j06
   have hsz:=j6s (n:=(-n).toNat) (by omega)
   have hw:Z8g (0-n)=(((-n).toNat:Nat):Int):=by rw [Z9b (by omega) (by omega)];omega
   rw [j1I,decide_eq_true h,Bool.not_true,cond_false,Z8B h0,cond_true,hw]
   rw [ih _ _ (by omega),Z9d (by unfold LIM;omega),cond_true,hb,cond_true,if_pos h0]
  ·have:=pos self n.toNat k (by omega)
   rw [show ((n.toNat:Nat):Int)=n by omega] at this
   unfold j06
   rw [hb,cond_true,if_neg h0]
   exact this
 ·have hb:j1w n=false:=decide_eq_false h
  unfold j18 j06
  rw [j1I,decide_eq_false h,Bool.not_false,cond_true,hb,cond_false]
def pB (b:Int):Bool:=bif decide (33<=b/\b<=126) then (bif (b != 39) then (b != 37) else false) else false
theorem jsI (b:Int) (k:Bool->Res):j6k b k=k (pB b):=by
 unfold j6k pB
 by_cases h:33<=b
 ·rw [decide_eq_true (show b>=33 from h),cond_true]
  have:decide (b<=126)=decide (33<=b/\b<=126):=decide_eq_decide.2 (by omega)
  rw [this]
  cases decide (33<=b/\b<=126)
  ·rfl
  ·cases b != 39<;>rfl
 ·rw [decide_eq_false (show ¬ b>=33 from h),decide_eq_false (show ¬ (33<=b/\b<=126) by omega)]
  rfl
theorem jsv (b:Int) (h:0<=b/\b<256) (k:Bool->Res):j63 b k=k (pB b):=by
 unfold j63 pB
 rw [Z9b (by omega) (by omega),j1I]
 cases decide (33<=b/\b<=126)
 ·rfl
 ·cases b != 39<;>rfl
def h1 (b:Int):Int:=bt j0k (Int.tmod (Z8g (Int.tdiv (Z8g b) 16)) 16)
def h2 (b:Int):Int:=bt j0k (Int.tmod (Int.tmod (Z8g b) 16) 16)
theorem jth:∀ b:Fin 256,(inb (Z9n .u8 ((b.val:Nat):Int) 4) 16&&inb (Z9j .u8 ((b.val:Nat):Int) 15) 16&&(bt j0k (Z9n .u8 ((b.val:Nat):Int) 4)==h1 ((b.val:Nat):Int))&&(bt j0k (Z9j .u8 ((b.val:Nat):Int) 15)==h2 ((b.val:Nat):Int)) &&
  inb (Int.tmod (Z8g (Int.tdiv (Z8g ((b.val:Nat):Int)) 16)) 16) 16&&inb (Int.tmod (Int.tmod (Z8g ((b.val:Nat):Int)) 16) 16) 16)=true:=by decide +kernel
theorem jrO {b:Int} (h:0<=b/\b<256):inb (Z9n .u8 b 4) 16=true/\inb (Z9j .u8 b 15) 16=true/\bt j0k (Z9n .u8 b 4)=h1 b/\bt j0k (Z9j .u8 b 15)=h2 b /\
  inb (Int.tmod (Z8g (Int.tdiv (Z8g b) 16)) 16) 16=true/\inb (Int.tmod (Int.tmod (Z8g b) 16) 16) 16=true:=by
 have:=jth ⟨b.toNat,by omega⟩
 simp only [Bool.and_eq_true,beq_iff_eq] at this
 rw [show ((b.toNat:Nat):Int)=b by omega] at this
 obtain ⟨⟨⟨⟨⟨a1,a2⟩,a3⟩,a4⟩,a5⟩,a6⟩:=this
 exact ⟨a1,a2,a3,a4,a5,a6⟩
theorem jhD (s:ByteArray) (i:Int):0<=bt s i/\bt s i<256:=by
 unfold bt
 have:=UInt8.toNat_lt (s.data.toList.getD i.toNat 0)
 omega
def gB (b:Int):List Int:=bif pB b then [b] else [37,h1 b,h2 b]
theorem jqi (b:Int):(gB b).length<=3:=by unfold gB;cases pB b<;>simp
def jgD (s:ByteArray):List Int:=Z4T (λi out=>out++gB (bt s (i:Int))) 0 s.size [39]
theorem jdw (v:V) (h:v.2.2.size<=LIM / 4) (K:List Int->Res):j9a v Z0Y [39] 0 K=K (jgD v.2.2)/\(jgD v.2.2).length<=1+3 * v.2.2.size:=by
 unfold j9a jgD
 unfold LIM at h
 exact Z8q v.2.2.size (λi out=>(out,i)) (λi out=>out++gB (bt v.2.2 (i:Int))) (λi out=>out.length<=1+3 * i) (step:=j6N v) K K [39] (by unfold LIM;omega) (by simp) (λi out hi ho=>by
  have:=jqi (bt v.2.2 (i:Int));simp only [List.length_append];omega) (λi out rec hi ho=>by
  show j4w v _ _ _ _=_
  dsimp only
  unfold j4w j6C
  obtain ⟨a1,a2,a3,a4,a5,a6⟩:=jrO (jhD v.2.2 (i:Int))
  rw [Z9i hi,cond_true,Z9c (by omega) (by omega),cond_true,jsI,Z9b (n:=(i:Int)+1) (by omega) (by omega)]
  unfold gB
  cases pB (bt v.2.2 (i:Int))
  ·dsimp only
   rw [cond_false,a5,cond_true,a6,cond_true,Z9d (by unfold LIM;omega),cond_true,cond_false]
   rfl
  ·dsimp only
   rw [cond_true,Z9d (by unfold LIM;omega),cond_true,cond_true]) (λout rec ho=>by
  show j4w v _ _ _ _=_
  dsimp only
  unfold j4w
  rw [Z9h,cond_false])
theorem jpq (v:V) (h:v.2.2.size<=LIM / 4) (K:List Int->Res):j8Y v Z0Y [39] 0 K=K (jgD v.2.2):=by
 unfold j8Y jgD
 unfold LIM at h
 exact (Z8q v.2.2.size (λi out=>(out,i)) (λi out=>out++gB (bt v.2.2 (i:Int))) (λi out=>out.length<=1+3 * i) (step:=j6I v) K K [39] (by unfold LIM;omega) (by simp) (λi out hi ho=>by
  have:=jqi (bt v.2.2 (i:Int));simp only [List.length_append];omega) (λi out rec hi ho=>by
  show j4s v _ _ _ _=_
  dsimp only
  unfold j4s
  obtain ⟨a1,a2,a3,a4,a5,a6⟩:=jrO (jhD v.2.2 (i:Int))
  rw [Z9i hi,cond_true,Z9c (by omega) (by omega),cond_true,jsv _ (jhD _ _),Z9b (n:=(i:Int)+1) (by omega) (by omega)]
  unfold gB
  cases pB (bt v.2.2 (i:Int))
  ·dsimp only
   rw [cond_false,a1,cond_true,a2,cond_true,Z9d (by unfold LIM;omega),cond_true,cond_false,a3,a4]
  ·dsimp only
   rw [cond_true,Z9d (by unfold LIM;omega),cond_true,cond_true]) (λout rec ho=>by
  show j4s v _ _ _ _=_
  dsimp only
  unfold j4s
  rw [Z9h,cond_false])).1
def j07 (v:V):ByteArray:=bif j0u v then (bif v.1==0 then j6q else bif v.1==1 then (bif v.2.1==1 then j1r else j19) else bif v.1==2 then j06 v.2.1 else Z2X (jgD v.2.2++[39])) else eS
theorem jgN {v:V} (hb:j0u v=true) (h0:(v.1==0)=false) (h1:(v.1==1)=false) (h2:(v.1==2)=false):v.2.2.size<=30:=by
 unfold j0u at hb
 rw [h0,h1,h2,cond_false,cond_false,cond_false] at hb
 cases h3:v.1==3
 ·rw [h3,cond_false] at hb;cases hb
 ·rw [h3,cond_true,Bool.and_eq_true,decide_eq_true_eq] at hb
  have:=hb.2
  unfold nI at this
  omega
theorem jbm (v:V):(j07 v).size<=100:=by
 unfold j07
 cases hb:j0u v
 ·show (0:Nat)<=100;omega
 ·rw [cond_true]
  cases h0:v.1==0
  ·cases h1:v.1==1
   ·cases h2:v.1==2
    ·rw [cond_false,cond_false,cond_false,ji4]
     have hs:=jgN hb h0 h1 h2
     have:=(jdw v (by unfold LIM;omega) (λ_=>none)).2
     simp only [List.length_append,List.length_cons,List.length_nil]
     omega
    ·rw [cond_false,cond_false,cond_true]
     have:=j2P v.2.1
     omega
   ·rw [cond_false,cond_true]
    cases v.2.1==1
    ·show (5:Nat)<=100;omega
    ·show (4:Nat)<=100;omega
  ·show (4:Nat)<=100;omega
theorem jeg (v:V) (k:ByteArray->Res):j5h v k=k (j07 v):=by
 unfold j5h j07
 rw [jgH]
 cases hb:j0u v
 ·rfl
 ·rw [Bool.not_true,cond_false,cond_true]
  cases h0:v.1==0
  ·cases h1:v.1==1
   ·cases h2:v.1==2
    ·have hs:=jgN hb h0 h1 h2
     obtain ⟨e1,e2⟩:=jdw v (by unfold LIM;omega) (λ(out:List Int)=>bif lim ((List.length out)+1) then k (Z2X (out++[39])) else none)
     rw [cond_false,cond_false,cond_false,e1,Z9d (by unfold LIM;omega),cond_true,cond_false,cond_false,cond_false]
    ·rw [cond_false,cond_false,cond_true,jc6,cond_false,cond_false,cond_true]
   ·unfold jca
    cases v.2.1==1<;>rfl
  ·rfl
theorem jgv (v:V) (k:ByteArray->Res):j53 v k=k (j07 v):=by
 unfold j53 j07
 rw [jgw]
 cases hb:j0u v
 ·rfl
 ·rw [Bool.not_true,cond_false,cond_true]
  cases h0:v.1==0
  ·cases h1:v.1==1
   ·cases h2:v.1==2
    ·have hs:=jgN hb h0 h1 h2
     have e1:=jpq v (by unfold LIM;omega) (λ(out:List Int)=>bif lim ((List.length out)+1) then k (Z2X (out++[39])) else none)
     have e2:=(jdw v (by unfold LIM;omega) (λ_=>none)).2
     rw [cond_false,cond_false,cond_false,e1,Z9d (by unfold LIM;omega),cond_true,cond_false,cond_false,cond_false]
    ·rw [cond_false,cond_false,cond_true,jbJ,cond_false,cond_false,cond_true]
   ·unfold jaO
    cases v.2.1==1<;>rfl
  ·rfl
end Go.PI.G
