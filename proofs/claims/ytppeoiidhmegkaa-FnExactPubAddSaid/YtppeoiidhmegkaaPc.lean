/-
  Program's code interpreted over typed values; printed texts; plain laws. No conditions.
-/
import Derived.Test.YtppeoiidhmegkaaPb
import Derived.KernelRfl
import Derived.WalkKit
import Derived.ProofKit
import Derived.OpenShut
import Derived.Below
import Derived.Carry
import Derived.WideShapes
import Derived.ShutString
import Derived.ChangeOld
set_option linter.unusedVariables false
set_option linter.unusedSimpArgs false
namespace Go.PI
section
variable {W0:Base} {M:Nat->Prop} {σ:State} {a:Act} {w w':World} {G:Ghost} {P:Program} {R:Type} {Γ:Env R} {r:R}
theorem Z37:(ms:List Mode)->(os:List Operand)->(σ:State)->(A:Args)->(k:Args->State->Option R)->ms.all Mode.isBorrow=true->Z0l ms os σ A k=some r ->
  Z0l ms os σ A (λA' σ'=>if A'.writes=A.writes then k A' σ' else none)=some r
 | [],[],σ,A,k,_,h=>by simpa [Z0l] using h
 | [],_::_,σ,A,k,_,h=>by simp [Z0l] at h
 | .borrow τ ag::ms,[],σ,A,k,_,h=>by simp [Z0l] at h
 | .borrow τ ag::ms,o::os,σ,A,k,hb,h=>by
  simp only [Z0l] at h ⊢
  have hb':ms.all Mode.isBorrow=true:=by simpa [Mode.isBorrow] using hb
  split at h
  ·split at h
   ·rename_i hc
    rw [if_pos hc]
    exact Z37 ms os _ _ k hb' h
   ·cases h
  ·split at h
   ·split at h
    ·rename_i hc
     rw [if_pos hc]
     exact Z37 ms os _ _ k hb' h
    ·cases h
   ·cases h
 | .consume τ ag::ms,os,σ,A,k,hb,h=>by simp [Mode.isBorrow] at hb
 | .eat τ ag::ms,os,σ,A,k,hb,h=>by simp [Mode.isBorrow] at hb
 | .inout τ ag::ms,os,σ,A,k,hb,h=>by simp [Mode.isBorrow] at hb
 | .look τ ag::ms,os,σ,A,k,hb,h=>by simp [Mode.isBorrow] at hb
 | .rptr τ::ms,os,σ,A,k,hb,h=>by simp [Mode.isBorrow] at hb
 | .rclos g τs::ms,os,σ,A,k,hb,h=>by simp [Mode.isBorrow] at hb
 | .ptr τ::ms,os,σ,A,k,hb,h=>by simp [Mode.isBorrow] at hb
 | .clos f τs::ms,os,σ,A,k,hb,h=>by simp [Mode.isBorrow] at hb
theorem Z2l:(ms:List Mode)->(os:List Operand)->(σ:State)->(A:Args)->(k:Args->State->Option R)->ms.all Mode.noLend=true->Z0l ms os σ A k=some r ->
  Z0l ms os σ A (λA' σ'=>if A'.lent=A.lent then k A' σ' else none)=some r
 | [],[],σ,A,k,_,h=>by simpa [Z0l] using h
 | [],_::_,σ,A,k,_,h=>by simp [Z0l] at h
 | .borrow τ ag::ms,[],σ,A,k,_,h=>by simp [Z0l] at h
 | .borrow τ ag::ms,o::os,σ,A,k,hb,h=>by
  simp only [Z0l] at h ⊢
  have hb':ms.all Mode.noLend=true:=by simpa [Mode.noLend] using hb
  split at h
  ·split at h
   ·rename_i hc
    rw [if_pos hc]
    exact Z2l ms os _ _ k hb' h
   ·cases h
  ·split at h
   ·split at h
    ·rename_i hc
     rw [if_pos hc]
     exact Z2l ms os _ _ k hb' h
    ·cases h
   ·cases h
 | .consume τ ag::ms,[],σ,A,k,hb,h=>by simp [Z0l] at h
 | .consume τ ag::ms,o::os,σ,A,k,hb,h=>by
  simp only [Z0l] at h ⊢
  have hb':ms.all Mode.noLend=true:=by simpa [Mode.noLend] using hb
  split at h
  ·split at h
   ·rename_i hc
    rw [if_pos hc]
    exact Z2l ms os _ _ k hb' h
   ·cases h
  ·cases h
 | .eat τ ag::ms,[],σ,A,k,hb,h=>by simp [Z0l] at h
 | .eat τ ag::ms,o::os,σ,A,k,hb,h=>by
  simp only [Z0l] at h ⊢
  have hb':ms.all Mode.noLend=true:=by simpa [Mode.noLend] using hb
  split at h
  ·split at h
   ·rename_i hc
    rw [if_pos hc]
    exact Z2l ms os _ _ k hb' h
   ·cases h
  ·cases h
 | .inout τ ag::ms,os,σ,A,k,hb,h=>by simp [Mode.noLend] at hb
 | .look τ ag::ms,os,σ,A,k,hb,h=>by simp [Mode.noLend] at hb
 | .rptr τ::ms,os,σ,A,k,hb,h=>by simp [Mode.noLend] at hb
 | .rclos g τs::ms,os,σ,A,k,hb,h=>by simp [Mode.noLend] at hb
 | .ptr τ::ms,os,σ,A,k,hb,h=>by simp [Mode.noLend] at hb
 | .clos f τs::ms,os,σ,A,k,hb,h=>by simp [Mode.noLend] at hb
theorem Z6W {g:FuncId} {sig:Sig R} (hs:Z1p P g sig) {vals:List TVal} {fps:List (List Nat)} {args:List Value}
  {kk:List TVal->List TVal->List TVal->Option R} (I:Inv W0 M σ a w G []) (hargs:Z0q w G sig.modes args vals fps []) (hf0:fps.flatten=[]) (hrd:sig.modes.all Mode.reads=true)
  (hrun:sig.run vals [] kk=some r) :
  Calls P g args.toArray w λe w'=>∃ v res G' fs,e= .returned v/\kk res [] []=some r/\Inv W0 M σ a w' G' (fs.flatten++[])/\Calmer w G w' G' /\
   ∃ vs,v=Z1z vs/\Z0i w' G' (res.map (TVal.back (vals.all TVal.noN))) vs fs:=by
 have hlt:∀ b,G.Al b->b<w.heap.size:=λb hb=>by
  cases hz:G.who b with
  | none=>exact (I.st b (hb.2 hz)).2
  | some z=>exact (I.lt b z hz).1
 have main:∀ (Sc:Nat->Prop),(∀ b,G.St b->Sc b)->(∀ b,Sc b->G.Al b)->Z0o w G.F Sc sig.modes vals args fps [] ->
   Calls P g args.toArray w λe w'=>∃ v res G' fs F' St' vs,e= .returned v/\kk res [] []=some r/\Inv W0 M σ a w' G' (fs.flatten++[])/\Calmer w G w' G' /\
    v=Z1z vs/\Z2L w' F' St' res vs fs/\G'.F=F'/\(∀ b,St' b->G'.Al b)/\((∀ b,Sc b->G.St b)->∀ b,St' b->G'.St b)/\(∀ b∈fs.flatten,G'.Al b):=by
  intro Sc hc1 hc2 hA
  refine (hs.2 vals [] kk r hrun w G.F Sc args [] fps [] hA trivial (by simp [hf0]) (λb hb=>⟨hlt b (hc2 b hb),by simp [hf0]⟩) (by simp [hf0])).mono λe w'=> ?_
  rintro ⟨v,res,ios,ext',rfl,hk,⟨hty,_,_⟩,hexn,F',St',vs,rfps,efps',⟨rfl,hil,_⟩,hres,hbox,hE,hF,hS1,hS2,hndr,hR⟩
  rw [Z0q.noIo _ _ _ _ _ hargs] at hil hres
  have hios:ios=[]:=List.length_eq_zero_iff.1 hil
  subst hios
  rw [List.append_nil,List.append_nil] at hres
  obtain ⟨rfl,rfl⟩:=Z11.nils hbox
  simp only [hf0,List.flatten_nil,List.append_nil,List.nil_append] at hE hF hS2 hndr hR
  obtain ⟨G4,I4,gF,gad,gS,gA,gSs,gR,gads,gC,_⟩:=Z3Q (R:=rfps.flatten) (ads:=[]) (gs:=[]) (ks:=[]) I (by simp) (.inr rfl) (Sc:=Sc) hc1 hc2 (by simpa using hE) (λb hb hm=>hF b hb (by simp)) hS1
   (λb hb=>by simpa using hS2 b hb) (by simpa using hndr) (λb hb=>by simpa using hR b (by simpa using hb))
  exact ⟨_,res,G4,rfps,F',St',vs,rfl,hk,by simpa using I4,gC rfl,rfl,hres,gF,gA,gSs,gR⟩
 by_cases hn:vals.all TVal.noN=true
 ·refine (main G.St (λ_ h=>h) (Ghost.St_Al I) ?_).mono λe w'=> ?_
  ·exact Z29 I _ _ _ _ [] hargs (by simpa [List.all_eq_true] using hn) (by intro q hq;cases hq)
  ·rintro ⟨v,res,G',fs,F',St',vs,he,hk,I',hC,hv,hres,gF,gA,gS,gR⟩
   refine ⟨v,res,G',fs,he,hk,I',hC,vs,hv,?_⟩
   rw [hn,Z4h]
   exact Z32 gF (gS λ_ h=>h) res vs fs hres gR
 ·refine (main G.Al (Ghost.St_Al I) (λ_ h=>h) ?_).mono λe w'=> ?_
  ·exact Z3S I _ _ _ _ [] hargs hrd (by intro q hq;cases hq)
  ·rintro ⟨v,res,G',fs,F',St',vs,he,hk,I',hC,hv,hres,gF,gA,gS,gR⟩
   refine ⟨v,res,G',fs,he,hk,I',hC,vs,hv,?_⟩
   have:vals.all TVal.noN=false:=by simpa using hn
   rw [this]
   exact Z4v gF gA res vs fs hres gR
theorem Z8f {α β:Type} (l:List α) (m:List β) (h:l.length=m.length):(l.zip m).map (·.1)=l:=List.map_fst_zip (by omega)
theorem Z8g {α β:Type} (l:List α) (m:List β) (h:l.length=m.length):(l.zip m).map (·.2)=m:=List.map_snd_zip (by omega)
theorem Z6h (res:List TVal) (k:TV->State->Option R) (σ4:State):(match res with
  | []=>k .dead σ4
  | [r]=>k (.val r) σ4
  | rs=>k (.tup (Z27 rs) (rs.map (·.ag))) σ4)=k (Z5U res) σ4:=by
 match res with
 | []=>rfl
 | [r]=>rfl
 | _::_::_=>rfl
theorem Z7S (hS:∀ g sig,Z0s Γ.fns g=some sig->Z1p P g sig):Z1T P Γ:=by
 intro W0 M σ a w G o c f k r K Q I hop hcal h hK
 rw [hop] at h
 simp only [Z0G,hcal] at h
 split at h
 ·rename_i g ps hpk
  split at h
  ·rename_i sig hsig
   have hs:=hS g sig hsig
   obtain ⟨fn,cd,hf1,hf2,hf3⟩:=hs.1
   have hpe:=Z0B I f (by rw [hpk];intro v ags hh;cases hh)
   rw [hpk] at hpe
   obtain ⟨_,us,hev,husz,hus⟩:=hpe
   have hrunc:=Z6l (P:=P) (a:=a) (w:=w) hop hcal hev hf1 hf2 hf3
   split at h
   ·rename_i hlook
    simp only [Bool.and_eq_true] at hlook
    split at h
    ·rename_i cvs hcv
     obtain ⟨j1,_,j3⟩:=Z2U I ps us.toList cvs hcv (by simpa using husz) (λi hi=>by
      have:=(hus i hi).2.2
      rwa [Array.getD_eq_getD_getElem?,<-Array.getElem?_toList,<-List.getD_eq_getElem?_getD] at this)
     have hargs:(c.args.map a.eval++us)=(c.args.toList.map a.eval++us.toList).toArray:=by
      apply Array.ext'
      simp
     unfold Oper.wp
     rw [hrunc,hargs,Oper.upon_enter]
     refine (Z5D hs I hlook.1 (by rw [j1];simpa using husz) j3 h).mono λe w'=> ?_
     rintro ⟨res,G',fs,vs,rfl,hk,I',ho,hC⟩
     exact hK _ _ _ _ _ _ hk I' (Z3K _ vs fs ho) hC.all
    ·cases h
   rename_i hnl
   have hnl':(sig.modes.all Mode.isSee&& !sig.modes.isEmpty)=false:=by
    cases hx:(sig.modes.all Mode.isSee&& !sig.modes.isEmpty) with
    | false=>rfl
    | true=>
     rw [Bool.and_eq_true] at hx
     refine absurd ?_ hnl
     rw [Bool.and_eq_true]
     refine ⟨List.all_eq_true.2 λm hm=> ?_,hx.2⟩
     have:=List.all_eq_true.1 hx.1 m hm
     cases m<;>first | rfl | cases this
   have hcases:(∃ τ ag ms o1 os,sig.modes= .inout τ ag::ms/\c.args.toList=o1::os/\ps=[]/\Z4Y sig τ ag ms o1 os σ k=some r)\/Z6V sig c.args.toList ps σ k=some r:=by
    clear husz hus hpk
    split at h
    ·rename_i τ ag ms o1 os e1 e2
     exact .inl ⟨τ,ag,ms,o1,os,e1,e2,rfl,h⟩
    ·exact .inr h
   clear h
   rcases hcases with ⟨τ,ag,ms,o1,os,e1,e2,rfl,h⟩ | h
   ·have hnt:¬ Z1E Γ o.op=true:=by
     intro ht
     rw [hop] at ht
     simp only [Z1E,hcal] at ht
     cases f with
     | func fg=>
      simp only [State.peek,TV.clos.injEq] at hpk
      obtain ⟨rfl,_⟩:=hpk
      simp only [hsig,hnl',Bool.or_false] at ht
      rw [e1] at ht
      simp [Mode.isBorrow] at ht
     | _=>simp at ht
    have hnh:¬ Z2E Γ o.op=true:=by
     intro ht
     rw [hop] at ht
     simp only [Z2E,hcal] at ht
     cases f with
     | func fg=>
      simp only [State.peek,TV.clos.injEq] at hpk
      obtain ⟨rfl,_⟩:=hpk
      simp only [hsig,hnl',Bool.or_false] at ht
      rw [e1] at ht
      simp [Mode.noLend] at ht
     | _=>simp at ht
    have hus0:us= #[]:=Array.eq_empty_of_size_eq_zero (by rw [husz];rfl)
    have hargs:(c.args.map a.eval++us)=((o1::os).map a.eval).toArray:=by
     apply Array.ext'
     rw [hus0]
     simp [e2]
    unfold Oper.wp
    rw [hrunc,hargs,Oper.upon_enter]
    refine (Z85 hs I e1 h).mono λe w'=> ?_
    rintro ⟨res,σ',G',fs,vs,rfl,hk,I',ho⟩
    exact hK _ _ _ _ _ _ hk I' (Z3K _ vs fs ho) ⟨λht=>absurd ht hnt,λht=>absurd ht hnh⟩
   unfold Z6V at h
   split at h
   ·rename_i hc
    simp only [Bool.and_eq_true,beq_iff_eq] at hc
    obtain ⟨⟨hl',hip⟩,hwh⟩:=hc
    have htame:Z1E Γ o.op=true->sig.modes.all Mode.isBorrow=true/\ps=[]:=by
     intro ht
     rw [hop] at ht
     simp only [Z1E,hcal] at ht
     cases f with
     | func fg=>
      simp only [State.peek,TV.clos.injEq] at hpk
      obtain ⟨rfl,rfl⟩:=hpk
      simp only [hsig,hnl',Bool.or_false] at ht
      exact ⟨ht,rfl⟩
     | _=>simp at ht
    have hhalf:Z2E Γ o.op=true->sig.modes.all Mode.noLend=true/\ps=[]:=by
     intro ht
     rw [hop] at ht
     simp only [Z2E,hcal] at ht
     cases f with
     | func fg=>
      simp only [State.peek,TV.clos.injEq] at hpk
      obtain ⟨rfl,rfl⟩:=hpk
      simp only [hsig,hnl',Bool.or_false] at ht
      exact ⟨ht,rfl⟩
     | _=>simp at ht
    let kk:Args->State->Option R:=λA σ1=>
     let lent:=A.lent++ps.map (·.root)
     if Z4q lent&&(!A.writes||A.vals.all λv=>v.noN) then
      match σ1.boxesAt lent with
      | some ext=>if ext.all TVal.noN then sig.run A.vals ext λres ios ext'=>
        let stable:=A.writes||A.vals.all TVal.noN
        let σ2:=if A.writes then σ1.renil.kill else σ1
        let σ4:=σ2.putBoxes lent ext'
        if ios.isEmpty then
         (match res.map (TVal.back stable) with
          | []=>k .dead σ4
          | [r]=>k (.val r) σ4
          | rs=>k (.tup (Z27 rs) (rs.map (·.ag))) σ4) else none
       else none
      | none=>none
     else none
    have h:Z0l (sig.modes.take c.args.toList.length) c.args.toList σ ⟨[],[],!ps.isEmpty⟩ kk=some r:=h
    have h:Z0l (sig.modes.take c.args.toList.length) c.args.toList σ ⟨[],[],!ps.isEmpty⟩ (λA σ1=>if Z1E Γ o.op=true->A.writes=false then kk A σ1 else none)=some r:=by
     by_cases ht:Z1E Γ o.op=true
     ·obtain ⟨hb1,hb2⟩:=htame ht
      have:=Z37 _ _ _ _ _ (List.all_eq_true.2 λm hm=>List.all_eq_true.1 hb1 m (List.mem_of_mem_take hm)) h
      subst hb2
      simpa [ht] using this
     ·simpa [ht] using h
    have h:Z0l (sig.modes.take c.args.toList.length) c.args.toList σ ⟨[],[],!ps.isEmpty⟩ (λA σ1=>if Z2E Γ o.op=true->A.lent=[] then (if Z1E Γ o.op=true->A.writes=false then kk A σ1 else none) else none)=some r:=by
     by_cases ht:Z2E Γ o.op=true
     ·obtain ⟨hb1,hb2⟩:=hhalf ht
      have:=Z2l _ _ _ _ _ (List.all_eq_true.2 λm hm=>List.all_eq_true.1 hb1 m (List.mem_of_mem_take hm)) h
      subst hb2
      simpa [ht] using this
     ·simpa [ht] using h
    obtain ⟨vs,fps,ls,A,σ1,G1,h1,h2,h3,h4,I1,hup,hct,hlen,hAr,hpt⟩:=Z1G _ _ _ _ _ _ _ h I
    split at h1
    rotate_left
    ·cases h1
    rename_i hhw
    split at h1
    ·rename_i htw
     have h2:A.vals=vs:=by simpa using h2
     have h3:A.lent=ls.map (·.1):=by simpa using h3
     let ls':List (Nat×Value):=(ps.map (·.root)).zip us.toList
     have hl1:ls'.map (·.1)=ps.map (·.root):=Z8f _ _ (by simp [husz])
     have hl2:ls'.map (·.2)=us.toList:=Z8g _ _ (by simp [husz])
     have hll:ls'.length=ps.length:=by simp [ls',husz]
     have hAr':=Z0q.append_ptr hip (by rw [hl',hll]) _ _ _ _ _ hAr
     rw [List.take_append_drop,hl2] at hAr'
     have hlent:A.lent++ps.map (·.root)=(ls++ls').map (·.1):=by rw [h3,List.map_append,hl1]
     have hpt':∀ q∈ls++ls',Z0u σ G a w ⟨true,q.1,[]⟩ q.2:=by
      intro q hq
      rcases List.mem_append.1 hq with hq | hq
      ·exact hpt q hq
      ·obtain ⟨i,hi,rfl⟩:=List.mem_iff_getElem.1 hq
       have hips:i<ps.length:=by omega
       obtain ⟨q1,q2,q3⟩:=hus i hips
       have hw:=List.all_eq_true.1 hwh ps[i] (List.getElem_mem _)
       simp only [Place.whole,Bool.and_eq_true,List.isEmpty_iff] at hw
       have hq1:ls'[i].1=ps[i].root:=by simp [ls']
       have hq2:ls'[i].2=us.getD i undef:=by
        have:i<us.size:=by rw [husz];exact hips
        simp [ls',this]
       rw [hq1,hq2]
       have:ps[i]=⟨true,ps[i].root,[]⟩:=by
        have e1:=hw.1
        have e2:=hw.2
        cases hpi:ps[i] with
        | mk b r p=>rw [hpi] at e1 e2;simp only at e1 e2;subst e1;subst e2;rfl
       rw [this] at q3
       exact q3
     have hargs:(c.args.map a.eval++us)=(c.args.toList.map a.eval++us.toList).toArray:=by
      apply Array.ext'
      simp
     simp only [kk] at h1
     rw [hlent,h2] at h1
     split at h1
     ·rename_i hcc
      simp only [Bool.and_eq_true,Bool.or_eq_true,Bool.not_eq_true'] at hcc
      obtain ⟨hnd,hwn⟩:=hcc
      split at h1
      ·rename_i ext hext
       split at h1
       ·rename_i hexn
        have hlp:Z3D G1 (ls++ls'):=by
         intro q hq
         have hq1:q.1∈(ls++ls').map (·.1):=List.mem_map_of_mem hq
         obtain ⟨v,hv⟩:=Z4i _ _ hext q.1 hq1
         exact Z7L I1 ((hpt' q hq).sim hct hup.ad) hv
        unfold Oper.wp
        rw [hrunc,hargs,Oper.upon_enter]
        cases hwr:A.writes with
        | true=>
         have hnt:¬ Z1E Γ o.op=true:=λht=>by
          have:=htw ht
          rw [hwr] at this;cases this
         rw [hwr] at h1 hwn
         simp only [Bool.true_eq_false,false_or,Bool.true_or,if_true] at h1 hwn
         have I1':Inv W0 M σ1 a w G1 fps.flatten:=by simpa using I1
         obtain ⟨fb,I2⟩:=I1'.renil
         have hsb:=Sim.fb G1 fb
         refine (Z6A hs I2 (Z0q.up hsb.up _ _ _ _ _ hAr') (by simpa [List.all_eq_true] using hwn) (λq hq=>hlp q hq) (Z59 _ hnd) (Z4a _ _ hext (by simpa [List.all_eq_true] using hexn)) (by simpa [List.all_eq_true] using hexn) h1).mono λe w'=> ?_
         rintro ⟨v,res,ext',G',fs,rfl,hk,I',⟨vs',rfl,hout⟩,hBc⟩
         simp only [List.isEmpty_nil,if_true] at hk
         rw [Z6h,Z4h] at hk
         refine hK _ _ _ _ _ _ hk I' (Z3K res vs' fs hout) ⟨λht=>absurd ht hnt,λht=> ?_⟩
         have hl0:ls++ls'=[]:=by
          have e1:=hhw ht
          rw [h3] at e1
          have e2:ls'=[]:=by
           have:=(hhalf ht).2
           subst this
           simpa using hll
          rw [e2,List.append_nil]
          exact List.map_eq_nil_iff.1 e1
         exact λw2 hc2=>(hup.trans hsb.up).calmer.b w2 (hBc hl0 w2 hc2)
        | false=>
         rw [hwr] at h1
         simp only [Bool.false_or,Bool.false_eq_true,if_false] at h1
         obtain ⟨p1,p2,p3,p4⟩:=h4 hwr
         have hps:ps=[]:=by simpa using p1
         subst hps
         subst p3
         have hls':ls'=[]:=by simpa using hll
         rw [hls'] at hAr' h1 hext
         simp only [List.append_nil,List.map_nil,State.boxesAt,Option.some.injEq] at hAr' hext h1
         subst hext
         have hmod:sig.modes.all Mode.reads=true:=by
          have hd:sig.modes.drop c.args.toList.length=[]:=List.length_eq_zero_iff.1 (by simpa using hl')
          rw [<-List.take_append_drop c.args.toList.length sig.modes,hd,List.append_nil]
          exact p4
         have I1':Inv W0 M σ1 a w G1 []:=by simpa [p2] using I1
         refine (Z6W hs I1' hAr' p2 hmod h1).mono λe w'=> ?_
         rintro ⟨v,res,G',fs,rfl,hk,I',hC,vs',rfl,hout⟩
         simp only [List.isEmpty_nil,if_true] at hk
         rw [Z6h] at hk
         have hpb:σ1.putBoxes [] []=σ1:=rfl
         rw [hpb] at hk
         exact hK _ _ _ _ _ _ hk I' (Z3K _ vs' fs hout) ⟨λ_=>hup.calmer.trans hC,λ_=>(hup.calmer.trans hC).b⟩
       ·cases h1
      ·cases h1
     ·cases h1
    ·cases h1
   ·cases h
  ·cases h
 ·rename_i g τs u hpk
  split at h
  ·rename_i sig cvs hsig hsv
   split at h
   ·rename_i hlook
    simp only [Bool.and_eq_true] at hlook
    have hs:=hS g sig hsig
    obtain ⟨fn,cd,hf1,hf2,hf3⟩:=hs.1
    have hpe:=Z0B I f (by rw [hpk];intro v ags hh;cases hh)
    rw [hpk] at hpe
    obtain ⟨_,us,hev,hsp⟩:=hpe
    have hrunc:=Z6l (P:=P) (a:=a) (w:=w) hop hcal hev hf1 hf2 hf3
    have hup:SPs w G.F (Old w) (Old w) τs u.τ u.x us.toList:=SPs.pres (λb hb=>(I.st b hb).2) (λb _ hb=>I.Al_old b hb) (λb _=>Z08.refl _ _ _) _ _ _ _ hsp
    have hup2:SPs w (Z2e w G.F) (Old w) (Old w) τs u.τ u.x us.toList:=SPs.pres (λ_ h=>h) (λ_ _ h=>h) (λb _=>Z08.of_block rfl (Z5x _ _ _)) _ _ _ _ hup
    obtain ⟨j1,j3⟩:=Z5i _ _ _ _ _ hsv hup2
    have hargs:(c.args.map a.eval++us)=(c.args.toList.map a.eval++us.toList).toArray:=by
     apply Array.ext'
     simp
    unfold Oper.wp
    rw [hrunc,hargs,Oper.upon_enter]
    refine (Z5D hs I hlook.1 j1 j3 h).mono λe w'=> ?_
    rintro ⟨res,G',fs,vs,rfl,hk,I',ho,hC⟩
    exact hK _ _ _ _ _ _ hk I' (Z3K _ vs fs ho) hC.all
   ·cases h
  ·cases h
 ·cases h
end
end Go.PI
namespace Go.PI
def Z2R (σ' σ:State):Prop:=σ'.slots.length=σ.slots.length/\(∀ i,σ'.slot i=σ.slot i\/σ'.slot i= .dead)/\∀ i,σ'.boxAt i=σ.boxAt i\/σ'.boxAt i=none
theorem Z2R.refl (σ:State):Z2R σ σ:=⟨rfl,λ_=> .inl rfl,λ_=> .inl rfl⟩
theorem Z3n (σ:State) (ks bs:List Nat):Z2R (σ.forget ks bs) σ:=
 ⟨Z2S _ _ _,λi=>Z2u ks σ.slots 0 i,λi=>Z2t bs σ.boxes 0 i⟩
noncomputable def Z8i (n:List Nat×List Nat) (x:List (Nat×List Nat×List Nat)) (r:List Nat×List Nat):Ex->State->State
 | .normal,σ=>σ.forget n.1 n.2
 | .exit j,σ=>match Z0s x j with
  | some q=>σ.forget q.1 q.2
  | none=>σ
 | .ret,σ=>σ.forget r.1 r.2
theorem Z92 (n:List Nat×List Nat) (x:List (Nat×List Nat×List Nat)) (r:List Nat×List Nat) (e:Ex) (σ:State):Z2R (Z8i n x r e σ) σ:=by
 cases e with
 | normal=>exact Z3n _ _ _
 | ret=>exact Z3n _ _ _
 | exit j=>
  unfold Z8i
  simp only []
  split
  ·exact Z3n _ _ _
  ·exact Z2R.refl _
def Z24:Nat->Nat->List (Nat×TV)->List TV
 | 0,_,_=>[]
 | n+1,i,[]=> .dead::Z24 n (i+1) []
 | n+1,i,(j,v)::l=>bif i==j then v::Z24 n (i+1) l else .dead::Z24 n (i+1) ((j,v)::l)
def Z3k:Nat->Nat->List (Nat×TVal)->List (Option TVal)
 | 0,_,_=>[]
 | n+1,i,[]=>none::Z3k n (i+1) []
 | n+1,i,(j,v)::l=>bif i==j then some v::Z3k n (i+1) l else none::Z3k n (i+1) ((j,v)::l)
def mkS (n m:Nat) (ss:List (Nat×TV)) (bs:List (Nat×TVal)):State:=⟨Z24 n 0 ss,Z3k m 0 bs⟩
theorem Z4k:(n i:Nat)->(l:List (Nat×TV))->(Z24 n i l).length=n
 | 0,_,_=>by simp [Z24]
 | n+1,i,[]=>by simp [Z24,Z4k n]
 | n+1,i,(j,v)::l=>by
  unfold Z24
  cases i==j<;>simp [Z4k n]
theorem Z3m:(n i:Nat)->(l:List (Nat×TV))->(q:Nat)->Z0t .dead (Z24 n i l) q= .dead\/(i+q,Z0t .dead (Z24 n i l) q)∈l
 | 0,_,_,_=> .inl rfl
 | n+1,i,[],0=> .inl rfl
 | n+1,i,[],q+1=>by
  have:=Z3m n (i+1) [] q
  rcases this with h | h
  ·exact .inl h
  ·cases h
 | n+1,i,(j,v)::l,0=>by
  unfold Z24
  cases h:i==j with
  | true=>right;simp at h;subst h;simp [Z0x,Z0r,Z0n]
  | false=>left;rfl
 | n+1,i,(j,v)::l,q+1=>by
  unfold Z24
  cases h:i==j with
  | true=>
   rcases Z3m n (i+1) l q with h2 | h2
   ·exact .inl h2
   ·right
    rw [show i+(q+1)=i+1+q by omega]
    exact List.mem_cons_of_mem _ h2
  | false=>
   rcases Z3m n (i+1) ((j,v)::l) q with h2 | h2
   ·exact .inl h2
   ·right
    rw [show i+(q+1)=i+1+q by omega]
    exact h2
theorem Z3l:(n i:Nat)->(l:List (Nat×TVal))->(q:Nat)->Z0t none (Z3k n i l) q=none\/∃ v,Z0t none (Z3k n i l) q=some v/\(i+q,v)∈l
 | 0,_,_,_=> .inl rfl
 | n+1,i,[],0=> .inl rfl
 | n+1,i,[],q+1=>by
  rcases Z3l n (i+1) [] q with h | ⟨v,_,h⟩
  ·exact .inl h
  ·cases h
 | n+1,i,(j,v)::l,0=>by
  unfold Z3k
  cases h:i==j with
  | true=>right;simp at h;subst h;exact ⟨v,by simp [Z0x,Z0r,Z0n]⟩
  | false=>left;rfl
 | n+1,i,(j,v)::l,q+1=>by
  unfold Z3k
  cases h:i==j with
  | true=>
   rcases Z3l n (i+1) l q with h2 | ⟨u,h1,h2⟩
   ·exact .inl h2
   ·right
    refine ⟨u,h1,?_⟩
    rw [show i+(q+1)=i+1+q by omega]
    exact List.mem_cons_of_mem _ h2
  | false=>
   rcases Z3l n (i+1) ((j,v)::l) q with h2 | ⟨u,h1,h2⟩
   ·exact .inl h2
   ·right
    refine ⟨u,h1,?_⟩
    rw [show i+(q+1)=i+1+q by omega]
    exact h2
def Z3E (σ:State):List (Nat×TV)->Prop
 | []=>True
 | (i,v)::l=>σ.slot i=v/\Z3E σ l
def Z3C (σ:State):List (Nat×TVal)->Prop
 | []=>True
 | (i,v)::l=>σ.boxAt i=some v/\Z3C σ l
theorem Z3E.mem {σ:State}:{l:List (Nat×TV)}->Z3E σ l->{i:Nat}->{v:TV}->(i,v)∈l->σ.slot i=v
 | (j,u)::l,h,i,v,hm=>by
  rcases List.mem_cons.1 hm with hm | hm
  ·cases hm;exact h.1
  ·exact Z3E.mem h.2 hm
theorem Z3C.mem {σ:State}:{l:List (Nat×TVal)}->Z3C σ l->{i:Nat}->{v:TVal}->(i,v)∈l->σ.boxAt i=some v
 | (j,u)::l,h,i,v,hm=>by
  rcases List.mem_cons.1 hm with hm | hm
  ·cases hm;exact h.1
  ·exact Z3C.mem h.2 hm
theorem Z9m {σ:State} {n m:Nat} {ss:List (Nat×TV)} {bs:List (Nat×TVal)} (hn:σ.slots.length=n) (hs:Z3E σ ss) (hb:Z3C σ bs):Z2R (mkS n m ss bs) σ:=by
 refine ⟨(Z4k _ _ _).trans hn.symm,λi=> ?_,λi=> ?_⟩
 ·rcases Z3m n 0 ss i with h | h
  ·exact .inr h
  ·rw [Nat.zero_add] at h
   exact .inl (hs.mem h).symm
 ·rcases Z3l m 0 bs i with h | ⟨v,h1,h⟩
  ·exact .inr h
  ·rw [Nat.zero_add] at h
   exact .inl (h1.trans (hb.mem h).symm)
section
variable {R:Type} {r:R}
def rdN (σ:State) (n:Nat) (f:Option R):Option R:=if σ.slots.length=n then f else none
def asV (v:TVal) (τ:Ty) (ag:Bool) (tg:List Tag) (f:El τ->Option R):Option R:=
 if v.ag=ag/\v.tg=tg then (if h:v.τ=τ then f (h ▸ v.x) else none) else none
noncomputable def rdV (σ:State) (i:Nat) (τ:Ty) (ag:Bool) (tg:List Tag) (f:El τ->Option R):Option R:=
 match σ.slot i with
 | .val v=>asV v τ ag tg f
 | _=>none
noncomputable def rdU (σ:State) (i:Nat) (τ:Ty) (ag:Bool) (tg:List Tag) (ags:List Bool) (f:El τ->Option R):Option R:=
 match σ.slot i with
 | .tup v l=>if l=ags then asV v τ ag tg f else none
 | _=>none
noncomputable def rdE (σ:State) (i:Nat) (τ:Ty) (ag:Bool) (tg:List Tag) (t:Tag) (f:El τ->Option R):Option R:=
 match σ.slot i with
 | .eptr v s=>if s=t then asV v τ ag tg f else none
 | _=>none
noncomputable def rdC (σ:State) (i:Nat) (f:FuncId) (τs:List Ty) (τ:Ty) (tg:List Tag) (k:El τ->Option R):Option R:=
 match σ.slot i with
 | .sclos g τs' v=>if g=f/\τs'=τs then asV v τ false tg k else none
 | _=>none
def Z4N (v:TVal) (τ:Ty) (tg:List Tag) (f:Bool->El τ->Option R):Option R:=
 if v.tg=tg then (if h:v.τ=τ then f v.ag (h ▸ v.x) else none) else none
def Z6S (v:TVal) (τ:Ty) (f:El τ->Option R):Option R:=if h:v.τ=τ then f (h ▸ v.x) else none
noncomputable def rdB (σ:State) (i:Nat) (τ:Ty) (tg:List Tag) (f:Bool->El τ->Option R):Option R:=
 match σ.boxAt i with
 | some v=>Z4N v τ tg f
 | none=>none
def TV.same:TV->TV->Bool
 | .nil,.nil=>true
 | .ref p a,.ref q b=>decide (p=q/\a=b)
 | .ptr p,.ptr q=>decide (p=q)
 | .eref p,.eref q=>decide (p=q)
 | .clos f ps,.clos g qs=>decide (f=g/\ps=qs)
 | _,_=>false
noncomputable def rdT (σ:State) (i:Nat) (p:TV) (f:Option R):Option R:=bif (σ.slot i).same p then f else none
theorem Z8O {σ:State} {n:Nat} {f:Option R} (h:rdN σ n f=some r):σ.slots.length=n/\f=some r:=by
 unfold rdN at h
 split at h
 ·rename_i hn;exact ⟨hn,h⟩
 ·cases h
theorem Z3T {v:TVal} {τ:Ty} {ag:Bool} {tg:List Tag} {f:El τ->Option R} (h:asV v τ ag tg f=some r):∃ x,v=⟨τ,ag,x,tg⟩/\f x=some r:=by
 unfold asV at h
 split at h
 ·rename_i hc
  split at h
  ·rename_i hτ
   obtain ⟨τ',ag',x,tg'⟩:=v
   obtain ⟨h1,h2⟩:=hc
   simp only at hτ h1 h2
   subst hτ;subst h1;subst h2
   exact ⟨x,rfl,h⟩
  ·cases h
 ·cases h
theorem Z8R {σ:State} {i:Nat} {τ:Ty} {ag:Bool} {tg:List Tag} {f:El τ->Option R} (h:rdV σ i τ ag tg f=some r):∃ x,σ.slot i= .val ⟨τ,ag,x,tg⟩/\f x=some r:=by
 unfold rdV at h
 split at h
 ·rename_i v hv
  obtain ⟨x,rfl,hf⟩:=Z3T h
  exact ⟨x,hv,hf⟩
 ·cases h
theorem Z8Q {σ:State} {i:Nat} {τ:Ty} {ag:Bool} {tg:List Tag} {ags:List Bool} {f:El τ->Option R} (h:rdU σ i τ ag tg ags f=some r):∃ x,σ.slot i= .tup ⟨τ,ag,x,tg⟩ ags/\f x=some r:=by
 unfold rdU at h
 split at h
 ·rename_i v l hv
  split at h
  ·rename_i hl
   subst hl
   obtain ⟨x,rfl,hf⟩:=Z3T h
   exact ⟨x,hv,hf⟩
  ·cases h
 ·cases h
theorem Z8N {σ:State} {i:Nat} {τ:Ty} {ag:Bool} {tg:List Tag} {t:Tag} {f:El τ->Option R} (h:rdE σ i τ ag tg t f=some r):∃ x,σ.slot i= .eptr ⟨τ,ag,x,tg⟩ t/\f x=some r:=by
 unfold rdE at h
 split at h
 ·rename_i v l hv
  split at h
  ·rename_i hl
   subst hl
   obtain ⟨x,rfl,hf⟩:=Z3T h
   exact ⟨x,hv,hf⟩
  ·cases h
 ·cases h
theorem Z8M {σ:State} {i:Nat} {f:FuncId} {τs:List Ty} {τ:Ty} {tg:List Tag} {k:El τ->Option R} (h:rdC σ i f τs τ tg k=some r):∃ x,σ.slot i= .sclos f τs ⟨τ,false,x,tg⟩/\k x=some r:=by
 unfold rdC at h
 split at h
 ·rename_i g τs' v hv
  split at h
  ·rename_i hl
   obtain ⟨rfl,rfl⟩:=hl
   obtain ⟨x,rfl,hf⟩:=Z3T h
   exact ⟨x,hv,hf⟩
  ·cases h
 ·cases h
theorem Z4g {v:TVal} {τ:Ty} {tg:List Tag} {f:Bool->El τ->Option R} (h:Z4N v τ tg f=some r):∃ a x,v=⟨τ,a,x,tg⟩/\f a x=some r:=by
 unfold Z4N at h
 split at h
 ·rename_i hc
  split at h
  ·rename_i hτ
   obtain ⟨τ',ag',x,tg'⟩:=v
   simp only at hτ hc
   subst hτ;subst hc
   exact ⟨ag',x,rfl,h⟩
  ·cases h
 ·cases h
theorem Z7n {v:TVal} {τ:Ty} {f:El τ->Option R} (h:Z6S v τ f=some r):∃ a x t,v=⟨τ,a,x,t⟩/\f x=some r:=by
 unfold Z6S at h
 split at h
 ·rename_i hτ
  obtain ⟨τ',ag',x,tg'⟩:=v
  simp only at hτ
  subst hτ
  exact ⟨ag',x,tg',rfl,h⟩
 ·cases h
theorem Z8L {σ:State} {i:Nat} {τ:Ty} {tg:List Tag} {f:Bool->El τ->Option R} (h:rdB σ i τ tg f=some r):∃ a x,σ.boxAt i=some ⟨τ,a,x,tg⟩/\f a x=some r:=by
 unfold rdB at h
 split at h
 ·rename_i v hv
  obtain ⟨a,x,rfl,hf⟩:=Z4g h
  exact ⟨a,x,hv,hf⟩
 ·cases h
theorem Z8P {σ:State} {i:Nat} {p:TV} {f:Option R} (h:rdT σ i p f=some r):σ.slot i=p/\f=some r:=by
 unfold rdT at h
 rw [cond_eq_ite] at h
 split at h
 ·rename_i hc
  refine ⟨?_,h⟩
  cases hs:σ.slot i<;>cases p<;>rw [hs] at hc<;>simp only [TV.same,decide_eq_true_eq,Bool.false_eq_true] at hc<;>simp [hc]
 ·cases h
end
section
variable {P:Program} {R:Type} {r:R} {W0:Base} {M:Nat->Prop}
theorem Z2R.inv {σ σ':State} {a:Act} {w:World} {G:Ghost} {xs:List Nat} (h:Z2R σ' σ) (I:Inv W0 M σ a w G xs):∃ G',Inv W0 M σ' a w G' xs:=by
 obtain ⟨fs,I',_⟩:=I.drop (σ':=σ') h.1 h.2.1 h.2.2
 exact ⟨_,I'⟩
theorem Z99 {c:Code} {run:Z1q R} (hc:Z22 P W0 M c run) {fg:Ex->State->State} (hfg:∀ e σ,Z2R (fg e σ) σ) {x:Z1q R}
  (h:∀ σ k r,x σ k=some r->∃ σ',Z2R σ' σ/\run σ' (λe σ''=>k e (fg e σ''))=some r):Z22 P W0 M c x:=by
 intro σ a w G k r Q hQ I hr hk
 obtain ⟨σ',hle,hrun⟩:=h σ k r hr
 obtain ⟨G',I'⟩:=hle.inv I
 refine hc σ' a w G' _ r Q hQ I' hrun λe σ'' a' w' G'' he I''=> ?_
 obtain ⟨G3,I3⟩:=(hfg e σ'').inv I''
 exact hk e _ a' w' G3 he I3
theorem Z95 {c:Code} {run:Z1q R} (hc:Z22 P W0 M c run) {ks bs:List Nat} {fX:Ex->State->State} (hfX:∀ e σ,Z2R (fX e σ) σ) (n:Nat) {x:Z1q R}
  (h:∀ σ k r,x σ k=some r->∃ σ',Z2R σ' σ/\Z44 run (λσ=>σ.forget ks bs) fX n σ' k=some r):Z22 P W0 M (.loop c) x:=by
 have h1:Z22 P W0 M (.loop c) (Z44 run (λσ=>σ.forget ks bs) fX n):=Z7e hc (λσ a w G I=>(Z3n σ ks bs).inv I) (λe σ a w G I=>(hfX e σ).inv I) n
 intro σ a w G k r Q hQ I hr hk
 obtain ⟨σ',hle,hrun⟩:=h σ k r hr
 obtain ⟨G',I'⟩:=hle.inv I
 exact h1 σ' a w G' k r Q hQ I' hrun hk
def Z14 {V K:Type} (step:V->(V->Option R)->K->Option R):Nat->V->K->Option R
 | 0,_,_=>none
 | n+1,v,q=>step v (λv'=>Z14 step n v' q) q
theorem Z88 {V K:Type} (st:V->State) (step:V->(V->Option R)->K->Option R) (mk:Z6O R->K) {body:Z1q R} {fN:State->State} {fX:Ex->State->State}
  (h:∀ (v:V) (rec:State->Option R) (k:Z6O R),body (st v) (λe σ'=>match e with | .normal=>rec (fN σ') | e=>k e (fX e σ'))=step v (λv'=>rec (st v')) (mk k)) :
  (n:Nat)->(v:V)->(k:Z6O R)->Z44 body fN fX n (st v) k=Z14 step n v (mk k)
 | 0,v,k=>rfl
 | n+1,v,k=>by
  have h1:=h v (λσ=>Z44 body fN fX n σ k) k
  simp only [Z88 st step mk h n] at h1
  exact h1
noncomputable def Z12:Nat:=Classical.choose (⟨4611686018427387904,rfl⟩:∃ n:Nat,n=4611686018427387904)
theorem Z84:Z12=4611686018427387904:=Classical.choose_spec (⟨4611686018427387904,rfl⟩:∃ n:Nat,n=4611686018427387904)
theorem Z8V [Subsingleton R] {Γ:Env R} (hm:P.follows .mixedOrders=true) (hT:Z0d P Γ.tys) (hS:∀ g sig,Z0s Γ.fns g=some sig->Z1p P g sig) {f:FuncId} {fn:Func} {c:Code} {X:List (Z1q R)} {ht:HT} {fz:Bool} {modes:List Mode} {ags:List Bool}
  (hO : Z1F P Γ.np X ht c) (hf : P.funcs[f]? = some fn) (hname : (fn.name == "runtime.NumGoroutine") = false) (hb : fn.body = some c) (hn : modes.length ≤ fn.ntmps)
  {run:List TVal->List TVal->(List TVal->List TVal->List TVal->Option R)->Option R}
  (h:∀ vals ext k r,run vals ext k=some r->Z75 Γ X ht fz fn modes ags vals ext k=some r):Z1p P f (⟨modes,ags,run⟩:Sig R):=by
 have h0:=Z7t (Γ:=Γ) (X:=X) (ht:=ht) (fz:=fz) (modes:=modes) (ags:=ags) hm hT (Z7S hS) hO hf hname hb hn
 exact ⟨h0.1,λvals ext k r hr=>h0.2 vals ext k r (h vals ext k r hr)⟩
end
end Go.PI
namespace Go.PI
abbrev Res:=Option Unit
def Z8o (n:Int):Int:=IntKind.i64.wrap n
def wu8 (n:Int):Int:=IntKind.u8.wrap n
def Z9w (n:Int):Int:=IntKind.i32.wrap n
def Z9x (n:Int):Int:=IntKind.u32.wrap n
def Z9y (n:Int):Int:=IntKind.u64.wrap n
def nI (n:Nat):Int:=(n:Int)
def eS:ByteArray:=⟨#[]⟩
def sEq (a b:ByteArray):Bool:=a.toList==b.toList
def sNe (a b:ByteArray):Bool:= !(a.toList==b.toList)
def sLt (a b:ByteArray):Bool:=Op.bytesLess a.toList b.toList
def sLe (a b:ByteArray):Bool:=Op.bytesLess a.toList b.toList||a.toList==b.toList
def sGt (a b:ByteArray):Bool:= !(Op.bytesLess a.toList b.toList||a.toList==b.toList)
def sGe (a b:ByteArray):Bool:= !(Op.bytesLess a.toList b.toList)
def nth {α:Type} (z:α) (l:List α) (i:Int):α:=l.getD i.toNat z
def upd {α:Type} (l:List α) (i:Int) (v:α):List α:=l.set i.toNat v
def Z7Y {α:Type} (n:Int) (z:α):List α:=List.replicate n.toNat z
def Z9s (s:ByteArray) (i j:Int):ByteArray:=s.extract i.toNat j.toNat
noncomputable def Z8m (m c:Int):Bool:=decide (0<=m/\m<=c/\c<=(LIM:Int))
def Z9u (k:IntKind) (m n:Int):Int:=k.wrap (m * 2 ^ min n.toNat k.bits)
def Z9v (k:IntKind) (m n:Int):Int:=Int.fdiv m (2 ^ min n.toNat k.bits)
def Z9r (k:IntKind) (a b:Int):Int:=k.wrap ((BitVec.ofInt k.bits a &&& BitVec.ofInt k.bits b).toNat)
def orI (k:IntKind) (a b:Int):Int:=k.wrap ((BitVec.ofInt k.bits a ||| BitVec.ofInt k.bits b).toNat)
def Z9z (k:IntKind) (a b:Int):Int:=k.wrap ((BitVec.ofInt k.bits a ^^^ BitVec.ofInt k.bits b).toNat)
section
variable {R:Type} {r:R}
def av (l:List TVal) (τ:Ty) (f:El τ->List TVal->Option R):Option R:=match l with | v::l=>Z6S v τ λx=>f x l | []=>none
def ab (l:List TVal) (τ:Ty) (tg:List Tag) (f:Bool->El τ->List TVal->Option R):Option R:=match l with | v::l=>Z4N v τ tg λa x=>f a x l | []=>none
def ao (l:List TVal) (τ:Ty) (tg:List Tag) (f:El τ->List TVal->Option R):Option R:=match l with | v::l=>Z4N v τ tg λ_ x=>f x l | []=>none
def nl (l:List TVal) (f:Option R):Option R:=match l with | []=>f | _::_=>none
theorem Z91 {l:List TVal} {τ:Ty} {f:El τ->List TVal->Option R} (h:av l τ f=some r):∃ x a t l',l=⟨τ,a,x,t⟩::l'/\f x l'=some r:=by
 cases l with
 | nil=>cases h
 | cons v l=>
  have h:Z6S v τ (λx=>f x l)=some r:=h
  obtain ⟨a,x,t,rfl,h2⟩:=Z7n h
  exact ⟨x,a,t,l,rfl,h2⟩
theorem Z8Z {l:List TVal} {τ:Ty} {tg:List Tag} {f:Bool->El τ->List TVal->Option R} (h:ab l τ tg f=some r):∃ a x l',l=⟨τ,a,x,tg⟩::l'/\f a x l'=some r:=by
 cases l with
 | nil=>cases h
 | cons v l=>
  have h:Z4N v τ tg (λa x=>f a x l)=some r:=h
  obtain ⟨a,x,rfl,h2⟩:=Z4g h
  exact ⟨a,x,l,rfl,h2⟩
theorem Z90 {l:List TVal} {τ:Ty} {tg:List Tag} {f:El τ->List TVal->Option R} (h:ao l τ tg f=some r):∃ a x l',l=⟨τ,a,x,tg⟩::l'/\f x l'=some r:=by
 cases l with
 | nil=>cases h
 | cons v l=>
  have h:Z4N v τ tg (λ_ x=>f x l)=some r:=h
  obtain ⟨a,x,rfl,h2⟩:=Z4g h
  exact ⟨a,x,l,rfl,h2⟩
theorem Z98 {l:List TVal} {f:Option R} (h:nl l f=some r):l=[]/\f=some r:=by
 cases l with
 | nil=>exact ⟨rfl,h⟩
 | cons v l=>cases h
theorem Z1F.mk {P:Program} {np:Nat} {X:List (Z1q R)} {a b:HT} {c:Code} (h1:Z1F P np X a c.pl) (h2:Z1F P np X b c.pr):Z1F P np X (.t a b) c:=⟨h1,h2⟩
theorem Z1F.x_mk {P:Program} {np:Nat} {X:List (Z1q R)} {i:Nat} {c:Code} (h:∀ (W0:Base) (M:Nat->Prop),W0.np<=np->Z22 P W0 M c (Z0t (λ_ _=>none) X i)):Z1F P np X (.x i) c:=h
theorem Z94 {P:Program}:∀ (g:Nat) (sig:Sig R),Z0s [] g=some sig->Z1p P g sig:=λ_ _ h=>by cases h
theorem Z8K {P:Program} {g:Nat} {s:Sig R} {l:List (FuncId×Sig R)} (h:Z1p P g s) (hl:∀ (g:Nat) (sig:Sig R),Z0s l g=some sig->Z1p P g sig) :
  ∀ (g':Nat) (sig:Sig R),Z0s ((g,s)::l) g'=some sig->Z1p P g' sig:=by
 intro g' sig hh
 simp only [Z0s] at hh
 split at hh
 ·rename_i he
  simp at he
  subst he
  cases hh
  exact h
 ·exact hl g' sig hh
end
def Z8n {T:Type} (bot:T) (b:T->T):Nat->T
 | 0=>bot
 | n+1=>b (Z8n bot b n)
theorem Z7W {T:Type} {C:T->Prop} {bot:T} {b:T->T} (h0:C bot) (h:∀ t,C t->C (b t)):∀ n,C (Z8n bot b n)
 | 0=>h0
 | n+1=>h _ (Z7W h0 h n)
theorem Z8r {R : Type} {P : Program} {f : FuncId} {fn : Func} {c : Code} {sig : Sig R} (hf : P.funcs[f]? = some fn) (hname : (fn.name == "runtime.NumGoroutine") = false) (hb : fn.body = some c)
  (h:∀ vals ext k r,sig.run vals ext k=some r->False):Z1p P f sig:=
 ⟨⟨fn,c,hf,hname,hb⟩,λvals ext k r hr=>(h vals ext k r hr).elim⟩
theorem Z8u (x:Res):Z6T x x=x:=by cases x<;>rfl
end Go.PI
namespace Go.PI
def Wf:(τ:Ty)->El τ->Prop
 | .int k,n=>(Lit.int k n).wf=true
 | .bool,_=>True
 | .str,s=>ByteArray.size s<=maxLen
 | .unit,_=>True
 | .slice e,l=>List.length (α:=El e) l<=maxLen/\∀ x∈(l:List (El e)),Wf e x
 | .pair a b,x=>Wf a x.1/\Wf b x.2
theorem Z25 {α β:Type} {f:α->Option β}:(l:List α)->(ys:List β)->l.mapM f=some ys->ys.length=l.length/\∀ (k:Nat) (h:k<l.length),∃ y,f l[k]=some y/\ys[k]? = some y
 | [],ys,h=>by
  simp only [List.mapM_nil,Option.pure_def,Option.some.injEq] at h
  subst h
  exact ⟨rfl,λk h=>absurd h (by simp)⟩
 | a::l,ys,h=>by
  rw [List.mapM_cons] at h
  cases hf:f a with
  | none=>rw [hf] at h;simp at h
  | some y=>
   rw [hf] at h
   cases hl:l.mapM f with
   | none=>rw [hl] at h;simp at h
   | some zs=>
    rw [hl] at h
    simp at h
    subst h
    obtain ⟨h1,h2⟩:=Z25 l zs hl
    refine ⟨by simp [h1],λk hk=> ?_⟩
    cases k with
    | zero=>exact ⟨y,hf,rfl⟩
    | succ k=>exact h2 k (by simpa using hk)
def Z2m (w:World) (b:Nat):Nat:=match w.heap[b]? with | some (.cells c _ _)=>c.size | _=>0
theorem Z60 {w:World} {a:Addr} {n:Nat} {l:List Value} (h:w.cells? 0 a n=some l) (hn:n≠0) :
  ∃ b o,a=⟨b,o,none⟩/\Z04 w b o n=some l/\o+n<=Z2m w b/\b<w.heap.size:=by
 obtain ⟨b,o,sp⟩:=a
 unfold World.cells? at h
 rw [if_pos (Nat.zero_le _)] at h
 obtain ⟨hlen,hget⟩:=Z25 _ _ h
 simp only [List.length_range] at hlen hget
 obtain ⟨v0,hv0,_⟩:=hget 0 (by omega)
 have hx:w.cell? ⟨b,o,sp⟩=some v0:=by simpa [Addr.add] using hv0
 have hb:sp=none/\∃ c T fr,w.heap[b]? = some (.cells c T fr):=by
  unfold World.cell? at hx
  cases hb:w.heap[b]? with
  | none=>simp [hb] at hx
  | some ob=>
   cases ob with
   | cells c T fr=>
    cases sp with
    | none=>exact ⟨rfl,c,T,fr,rfl⟩
    | some x=>simp [hb] at hx
   | _=>simp [hb] at hx
 obtain ⟨rfl,hb⟩:=hb
 obtain ⟨c,T,fr,hc⟩:=hb
 have hcell:∀ k,k<n->c[o+k]? = l[k]? := by
  intro k hk
  obtain ⟨v,hv,hl⟩:=hget k hk
  rw [hl]
  simp only [List.getElem_range] at hv
  have:w.cell? (Addr.add ⟨b,o,none⟩ k)=c[o+k]? := by
   unfold Addr.add
   by_cases h0:k=0
   ·subst h0;simp [World.cell?,hc]
   ·simp [h0,World.cell?,hc]
  rw [this] at hv
  exact hv
 have hsz:o+n<=c.size:=by
  have h1:=hcell (n-1) (by omega)
  have h2:(n-1)<l.length:=by omega
  rw [List.getElem?_eq_getElem h2] at h1
  have:=(Array.getElem?_eq_some_iff.1 h1).1
  omega
 refine ⟨b,o,rfl,?_,by unfold Z2m;rw [hc];exact hsz,(Array.getElem?_eq_some_iff.1 hc).1⟩
 unfold Z04
 rw [hc]
 simp only []
 rw [if_pos hsz]
 congr 1
 refine List.ext_getElem? λk=> ?_
 by_cases hk:k<n
 ·rw [List.getElem?_take_of_lt hk,List.getElem?_drop,Array.getElem?_toList,hcell k hk]
 ·rw [List.getElem?_eq_none (by simp;omega),List.getElem?_eq_none (by omega)]
section
variable {P:Program} {tys:List (TypeId×Ty×List TypeId)}
theorem TyF.cells {t:TypeId} {τ:Ty} {l:List TypeId} (h:TyF P tys t τ l):P.cellsOf t=size τ:=by
 obtain ⟨i,z,h1,h2,_⟩:=h.info
 unfold Program.cellsOf
 rw [h1]
 simp [h2]
theorem Z6t {τ τf:Ty} (h:Z09 τ [.fst]=some τf):∃ b,τ= .pair τf b:=by
 cases τ with
 | pair a b=>simp only [Z09,Option.some.injEq] at h;subst h;exact ⟨b,rfl⟩
 | _=>simp [Z09] at h
theorem Z81 {τ τf:Ty} {p:List Step} (h:Z09 τ (.snd::p)=some τf):∃ a b,τ= .pair a b/\Z09 b p=some τf:=by
 cases τ with
 | pair a b=>exact ⟨a,b,rfl,by simpa [Z09] using h⟩
 | _=>simp [Z09] at h
theorem TyF.pos {t:TypeId} {τ:Ty} {l:List TypeId} (h:TyF P tys t τ l):size τ≠0:=by
 by_cases hl:l=[]
 ·obtain ⟨_,_,_,_,h5,h6⟩:=h.und hl
  cases τ with
  | unit=>exact absurd rfl h5
  | pair a b=>exact absurd rfl (h6 a b)
  | _=>simp [size]
 ·obtain ⟨fs,_,_,h3,_⟩:=h.str hl
  obtain ⟨f,τf,lf,_,_,_,h4,_,h5,_⟩:=(h3 0 (List.length_pos_iff.2 hl)).out
  match hn:l.length with
  | 0=>exact absurd (List.length_eq_zero_iff.1 hn) hl
  | 1=>
   rw [hn] at h4
   simp only [Z07,Z09] at h4
   cases τ<;>simp only [Z09,Option.some.injEq] at h4<;>subst h4<;>exact h5
  | n+2=>
   rw [hn] at h4
   simp only [Z07] at h4
   obtain ⟨b,rfl⟩:=Z6t h4
   simp only [size]
   omega
theorem Z86 {cs:List Value} {a o n:Nat}:((cs.drop a).drop o).take n=(cs.drop (a+o)).take n:=by rw [List.drop_drop]
theorem Z5F {w:World} {F:Nat->Nat} {St Al:Nat->Prop}:(n:Nat)->(τ:Ty)->(cs:List Value)->n≠0->cs.length=size τ ->
  (∀ i,i<n->∃ τf,Z09 τ (Z07 n i)=some τf/\∃ x:El τf,Rp w F St Al τf (List.replicate (Z06 τf) .S) ((cs.drop (Z0b τ (Z07 n i))).take (size τf)) x []/\Wf τf x) ->
  ∃ x:El τ,Rp w F St Al τ (List.replicate (Z06 τ) .S) cs x []/\Wf τ x
 | 0,τ,cs,h,_,_=>absurd rfl h
 | 1,τ,cs,_,hl,h=>by
  obtain ⟨τf,h1,x,h2,h3⟩:=h 0 (by omega)
  have hoff:Z0b τ (Z07 1 0)=0:=by cases τ<;>rfl
  have hτ:τf=τ:=by
   simp only [Z07] at h1
   cases τ<;>simp only [Z09,Option.some.injEq] at h1<;>exact h1.symm
  subst hτ
  rw [hoff,List.drop_zero,List.take_of_length_le (by omega)] at h2
  exact ⟨x,h2,h3⟩
 | n+2,τ,cs,_,hl,h=>by
  obtain ⟨τf,h1,x,h2,h3⟩:=h 0 (by omega)
  simp only [Z07] at h1
  obtain ⟨b,rfl⟩:=Z6t h1
  have hoff:Z0b (.pair τf b) (Z07 (n+2) 0)=0:=by simp only [Z07];cases τf<;>rfl
  rw [hoff,List.drop_zero] at h2
  simp only [size] at hl
  obtain ⟨y,h4,h5⟩:=Z5F (n+1) b (cs.drop (size τf)) (by omega) (by rw [List.length_drop];omega) λi hi=>by
   obtain ⟨τg,g1,z,g2,g3⟩:=h (i+1) (by omega)
   simp only [Z07] at g1
   obtain ⟨a',b',he,g4⟩:=Z81 g1
   cases he
   refine ⟨τg,g4,z,?_,g3⟩
   have:Z0b (.pair τf b) (Z07 (n+2) (i+1))=size τf+Z0b b (Z07 (n+1) i):=by simp only [Z07,Z0b]
   rw [this] at g2
   rw [List.drop_drop]
   exact g2
  refine ⟨(x,y),⟨_,_,_,_,[],[],?_,(List.take_append_drop (size τf) cs).symm,rfl,h2,h4⟩,h3,h5⟩
  simp only [Z06,List.replicate_append_replicate]
theorem Z4P (hT:Z0d P tys) {H:Type} {enc:TypeId×Value->H} {w:World} {Al:Nat->Prop}:(fuel:Nat)->(t:TypeId)->(τ:Ty)->(l:List TypeId)->(cs:List Value)->(d:DataW H×List MemPlace) ->
  Z0s tys t=some (τ,l)->DataW.trod enc P w 0 (λ_=>true) true fuel t cs=some d->∃ x:El τ,Rp w (Z2m w) (·< w.heap.size) Al τ (List.replicate (Z06 τ) .S) cs x []/\Wf τ x
 | 0,t,τ,l,cs,d,ha,h=>by cases h
 | fuel+1,t,τ,l,cs,d,ha,h=>by
  have hF:=hT t τ l ha
  by_cases hl:l=[]
  ·obtain ⟨u1,u2,u3,u4,u5,u6⟩:=hF.und hl
   cases τ with
   | unit=>exact absurd rfl u5
   | pair a b=>exact absurd rfl (u6 a b)
   | int k=>
    have hu:=u1 k rfl
    simp only [DataW.trod,hu] at h
    split at h<;>first | (cases h;done) | skip
    all_goals (first | (rename_i heq;cases heq;done) | skip)
    rename_i k0 k' n heq
    cases heq
    split at h
    ·rename_i hc
     obtain ⟨rfl,hw⟩:=hc
     exact ⟨n,⟨rfl,rfl,rfl⟩,hw⟩
    ·cases h
   | bool=>
    have hu:=u2 rfl
    simp only [DataW.trod,hu] at h
    split at h<;>first | (cases h;done) | skip
    all_goals (first | (rename_i heq;cases heq;done) | skip)
    rename_i b heq
    exact ⟨b,⟨rfl,rfl,rfl⟩,trivial⟩
   | str=>
    have hu:=u3 rfl
    simp only [DataW.trod,hu] at h
    split at h<;>first | (cases h;done) | skip
    all_goals (first | (rename_i heq;cases heq;done) | skip)
    rename_i s heq
    split at h
    ·rename_i hs
     exact ⟨s,⟨rfl,rfl,rfl⟩,hs⟩
    ·cases h
   | slice e=>
    obtain ⟨et,hu,he,_⟩:=u4 e rfl
    have hae:∃ le,Z0s tys et=some (e,le):=by
     unfold Z0A at he
     cases hx:Z0s tys et with
     | none=>rw [hx] at he;cases he
     | some p=>rw [hx] at he;simp at he;exact ⟨p.2,by rw [<-he]⟩
    obtain ⟨le,hae⟩:=hae
    have hFe:=hT et e le hae
    simp only [DataW.trod,hu] at h
    split at h<;>first | (cases h;done) | skip
    all_goals (first | (rename_i heq;cases heq;done) | skip)
    ·rename_i e0 heq
     exact ⟨[],⟨.S,none,0,rfl,rfl,Nat.le_refl _,.inr (.inr ⟨rfl,rfl,.inl rfl⟩)⟩,Nat.zero_le _,by simp⟩
    ·rename_i e0 a len cap heq
     cases heq
     split at h
     ·rename_i hc
      obtain ⟨_,hlc,hcm⟩:=hc
      cases hm:(List.range len).mapM λi=>(w.cells? 0 (a.add (i * P.cellsOf et)) (P.cellsOf et)).bind (DataW.trod enc P w 0 (λ_=>true) true fuel et) with
      | none=>rw [hm] at h;cases h
      | some ys=>
       obtain ⟨hyl,hget⟩:=Z25 _ _ hm
       simp only [List.length_range,List.getElem_range] at hget hyl
       rw [hFe.cells] at hget
       have hpos:=hFe.pos
       have hx:∀ k:Fin len,∃ x:El e,(∃ b o,a=⟨b,o,none⟩/\b<w.heap.size/\o+k.1 * size e+size e<=Z2m w b/\∃ cs',Z04 w b (o+k.1 * size e) (size e)=some cs'/\Rp w (Z2m w) (·< w.heap.size) Al e (List.replicate (Z06 e) .S) cs' x [])/\Wf e x:=by
        intro k
        obtain ⟨y,hy,_⟩:=hget k.1 k.2
        cases hcs:w.cells? 0 (a.add (k.1 * size e)) (size e) with
        | none=>rw [hcs] at hy;cases hy
        | some cs'=>
         rw [hcs] at hy
         have hy:DataW.trod enc P w 0 (λ_=>true) true fuel et cs'=some y:=hy
         obtain ⟨x,hx1,hx2⟩:=Z4P hT fuel et e le cs' y hae hy
         obtain ⟨b,o,ha1,ha2,ha3,ha4⟩:=Z60 hcs hpos
         obtain ⟨y0,hy0,_⟩:=hget 0 (by have:=k.2;omega)
         cases hcs0:w.cells? 0 (a.add (0 * size e)) (size e) with
         | none=>rw [hcs0] at hy0;cases hy0
         | some cs0=>
          obtain ⟨b0,o0,hb1,_,_,_⟩:=Z60 hcs0 hpos
          rw [Nat.zero_mul] at hb1
          have hb1:a=⟨b0,o0,none⟩:=by simpa [Addr.add] using hb1
          subst hb1
          have:b=b0/\o=o0+k.1 * size e:=by
           unfold Addr.add at ha1
           split at ha1
           ·rename_i hz;cases ha1;exact ⟨rfl,by omega⟩
           ·cases ha1;exact ⟨rfl,rfl⟩
          obtain ⟨rfl,rfl⟩:=this
          exact ⟨x,⟨b,o0,rfl,ha4,ha3,cs',ha2,hx1⟩,hx2⟩
       let xs:List (El e):=List.ofFn λk:Fin len=>Classical.choose (hx k)
       have hxl:xs.length=len:=by simp [xs]
       have hxg:∀ (k:Nat) (h:k<xs.length),(∃ b o,a=⟨b,o,none⟩/\b<w.heap.size/\o+k * size e+size e<=Z2m w b/\∃ cs',Z04 w b (o+k * size e) (size e)=some cs'/\Rp w (Z2m w) (·< w.heap.size) Al e (List.replicate (Z06 e) .S) cs' xs[k] [])/\Wf e xs[k]:=by
        intro k hk
        have:=Classical.choose_spec (hx ⟨k,by omega⟩)
        simpa [xs] using this
       refine ⟨xs,⟨.S,some a,cap,rfl,by rw [hxl],by rw [hxl];exact hlc,.inr (.inr ⟨rfl,rfl,?_⟩)⟩,by show xs.length<=_;omega,?_⟩
       ·by_cases h0:len=0
        ·left;exact List.length_eq_zero_iff.1 (by omega)
        ·right
         obtain ⟨⟨b,o,rfl,hb,hend,_⟩,_⟩:=hxg (len-1) (by omega)
         refine ⟨b,o,rfl,hb,?_,λk hk=> ?_⟩
         ·rw [hxl]
          have:o+(len-1) * size e+size e=o+len * size e:=by
           have:len=(len-1)+1:=by omega
           rw [this,Nat.add_mul];simp;omega
          omega
         ·obtain ⟨⟨b',o',he',_,_,cs',h1,h2⟩,_⟩:=hxg k hk
          cases he'
          exact ⟨cs',h1,h2⟩
       ·intro x hx
        obtain ⟨k,hk,rfl⟩:=List.mem_iff_getElem.1 hx
        exact (hxg k hk).2
     ·cases h
  ·obtain ⟨fs,hu,hfl,hfs,_⟩:=hF.str hl
   simp only [DataW.trod,hu] at h
   split at h
   ·rename_i hlen
    rw [hF.cells] at hlen
    cases hm:fs.toList.mapM λf=>DataW.trod enc P w 0 (λ_=>true) true fuel f.type ((cs.drop f.offset).take (P.cellsOf f.type)) with
    | none=>rw [hm] at h;cases h
    | some ys=>
     obtain ⟨_,hget⟩:=Z25 _ _ hm
     refine Z5F l.length τ cs (by simpa using hl) hlen λi hi=> ?_
     obtain ⟨f,τf,lf,h1,h2,h3,h4,h5,_,_⟩:=(hfs i hi).out
     have hif:i<fs.toList.length:=by simp;omega
     obtain ⟨y,hy,_⟩:=hget i hif
     have hfi:fs.toList[i]=f:=by
      have:fs.toList[i]? = some f:=by rw [Array.getElem?_toList];exact h1
      rw [List.getElem?_eq_getElem hif] at this
      simpa using this
     rw [hfi] at hy
     have hFf:=hT f.type τf lf h5
     rw [hFf.cells,h3] at hy
     obtain ⟨x,hx1,hx2⟩:=Z4P hT fuel f.type τf lf _ y h5 hy
     exact ⟨τf,h4,x,hx1,hx2⟩
   ·cases h
end
end Go.PI
namespace Go.PI
open Go.ChangeShapes Go.WideShapes Go.ChangeAt Go.RowKit
noncomputable def Z1Y (tys:List (TypeId×Ty×List TypeId)):List TypeId->Option (List Mode)
 | []=>some []
 | t::ts=>match Z0s tys t,Z1Y tys ts with | some (τ,l),some ms=>some (.borrow τ (!l.isEmpty)::ms) | _,_=>none
def Z3P:List Mode->List TVal->Prop
 | [],[]=>True
 | .borrow τ ag::ms,v::vs=>(∃ x t,v=⟨τ,ag,x,t⟩/\Wf τ x)/\Z3P ms vs
 | _,_=>False
theorem Z3P.none {vals:List TVal} (h:Z3P [] vals):vals=[]:=by
 cases vals with
 | nil=>rfl
 | cons v vs=>exact h.elim
theorem Z3P.one {τ:Ty} {ag:Bool} {ms:List Mode} {vals:List TVal} (h:Z3P (.borrow τ ag::ms) vals):∃ x t vs,vals=⟨τ,ag,x,t⟩::vs/\Wf τ x/\Z3P ms vs:=by
 cases vals with
 | nil=>exact h.elim
 | cons v vs=>
  obtain ⟨⟨x,t,rfl,w⟩,h⟩:=h
  exact ⟨x,t,vs,rfl,w,h⟩
section
variable {P:Program} {tys:List (TypeId×Ty×List TypeId)} {H:Type} {enc:TypeId×Value->H} {W:World} {base:Nat}
theorem Z7A {t:TypeId} {τ:Ty} {l:List TypeId} {v:Value} (h:TyF P tys t τ l) (hv:Value.okWide P W .any base t v):Z0e (!l.isEmpty) v:=by
 by_cases hl:l=[]
 ·subst hl
  obtain ⟨u1,u2,u3,u4,u5,u6⟩:=h.und rfl
  show one v=true
  cases τ with
  | unit=>exact absurd rfl u5
  | pair a b=>exact absurd rfl (u6 a b)
  | int k=>obtain ⟨n,rfl⟩:=okWide_int (u1 k rfl) hv;rfl
  | bool=>obtain ⟨n,rfl⟩:=okWide_bool (u2 rfl) hv;rfl
  | str=>obtain ⟨n,rfl⟩:=okWide_string (u3 rfl) hv;rfl
  | slice e=>obtain ⟨et,hu,_⟩:=u4 e rfl;obtain ⟨a,n,c,rfl⟩:=okWide_slice hu hv;rfl
 ·obtain ⟨fs,hu,_⟩:=h.str hl
  obtain ⟨cs,rfl,_⟩:=okWide_struct hu hv
  have:(!l.isEmpty)=true:=by cases l<;>simp_all
  rw [this]
  exact ⟨cs,rfl⟩
theorem Z4r (hT:Z0d P tys):(ts:List TypeId)->(vs:List Value)->(ds:List (DataW H))->(p:List MemPlace)->(ms:List Mode)->DataW.TrodAll enc P W 0 (λ_=>true) true ts vs ds p ->
  (∀ (j:Nat) t v,ts[j]? = some t->vs[j]? = some v->Value.okWide P W .any base t v)->Z1Y tys ts=some ms ->
  ds.length=ts.length/\∃ vals:List TVal,Z3P ms vals/\Z0o W (Z2m W) (·< W.heap.size) ms vals vs (vals.map λ_=>[]) []
 | [],vs,ds,p,ms,h,_,hm=>by
  obtain ⟨rfl,rfl,rfl⟩:=trodAll_nil h
  simp only [Z1Y,Option.some.injEq] at hm
  subst hm
  exact ⟨rfl,[],trivial,trivial⟩
 | t::ts,vs,ds,p,ms,h,hv,hm=>by
  obtain ⟨v,vs1,d,ds1,a,b,rfl,rfl,rfl,h1,h2⟩:=trodAll_cons h
  simp only [Z1Y] at hm
  split at hm
  ·rename_i τ l ms' ha hms
   cases hm
   obtain ⟨hlen,vals,q1,q2⟩:=Z4r hT ts vs1 ds1 b ms' h2 (λj t v ht hv'=>hv (j+1) t v (by simpa using ht) (by simpa using hv')) hms
   obtain ⟨fuel,hf⟩:=h1
   obtain ⟨x,hx,hw⟩:=Z4P hT (Al:=(·< W.heap.size)) fuel t τ l _ _ ha hf
   have hsh:=Z7A (hT t τ l ha) (hv 0 t v rfl rfl)
   refine ⟨by simp [hlen],⟨τ,!l.isEmpty,x,List.replicate (Z06 τ) .S⟩::vals,⟨⟨x,_,rfl,hw⟩,q1⟩,rfl,hsh,?_,q2⟩
   rw [hsh.cells]
   exact hx
  ·cases hm
def Z53:List TVal->List TVal->List TVal->Option Unit
 | [⟨.bool,false,true,_⟩],_,_=>some ()
 | _,_,_=>none
theorem Z7b {res ios ext:List TVal} (h:Z53 res ios ext=some ()):∃ tg,res=[⟨.bool,false,true,tg⟩]:=by
 unfold Z53 at h
 split at h
 ·exact ⟨_,rfl⟩
 ·cases h
theorem Z57:(ts:List TypeId)->(ms:List Mode)->(xs:List Value)->Z1Y tys ts=some ms->Z0R ms xs=[]
 | [],ms,xs,h=>by
  simp only [Z1Y,Option.some.injEq] at h
  subst h
  cases xs<;>rfl
 | t::ts,ms,xs,h=>by
  simp only [Z1Y] at h
  split at h
  ·rename_i hx
   cases h
   cases xs with
   | nil=>rfl
   | cons x xs=>exact Z57 ts _ xs hx
  ·cases h
theorem Z7u (hT:Z0d P tys) {f:FuncId} {sig:Sig Unit} (hs:Z1p P f sig) {ts:List TypeId} {args:Array Value} {ds:List (DataW H)} {p:List MemPlace} (hm:Z1Y tys ts=some sig.modes)
  (hpure:∀ vals,Z3P sig.modes vals->sig.run vals [] Z53=some ()) (h:DataW.TrodAll enc P W 0 (λ_=>true) true ts args.toList ds p)
  (hv:∀ (j:Nat) t v,ts[j]? = some t->args[j]? = some v->Value.okWide P W .any base t v) :
  Calls P f args W λe W'=>e= .returned (.bool true)/\Below W.heap.size W W':=by
 obtain ⟨_,vals,hvals,hA⟩:=Z4r hT ts args.toList ds p _ h (λj t v ht hv'=>hv j t v ht (by rwa [Array.getElem?_toList] at hv')) hm
 have hfl:(vals.map λ_=>([]:List Nat)).flatten=[]:=by induction vals<;>simp_all
 have hc:=hs.2 vals [] Z53 () (hpure vals hvals) W (Z2m W) (·< W.heap.size) args.toList [] (vals.map λ_=>[]) [] hA trivial (by rw [hfl];simp) (λb hb=>⟨hb,by rw [hfl];simp⟩) (by rw [hfl];simp)
 have:args.toList.toArray=args:=by simp
 rw [this] at hc
 refine hc.mono λe W'=> ?_
 rintro ⟨v,res,ios,ext',rfl,hk,hty,hexn,F',St',vs,fps,efps,⟨rfl,hil,_⟩,hres,hbox,hE,_⟩
 obtain ⟨tg,rfl⟩:=Z7b hk
 have hio:=Z57 ts _ args.toList hm
 rw [hio] at hil hres
 have hi0:ios=[]:=List.length_eq_zero_iff.1 hil
 subst hi0
 rw [List.append_nil,List.append_nil] at hres
 have hE':Below W.heap.size W W':=⟨hE.os,hE.tape,hE.output,hE.size,λb hb=>hE.block b hb (by rw [hfl];simp)⟩
 refine ⟨?_,hE'⟩
 cases vs with
 | nil=>exact hres.elim
 | cons v vs=>
  cases fps with
  | nil=>exact hres.elim
  | cons f fps=>
   obtain ⟨⟨h1,_,h3⟩,h4⟩:=hres
   have:v= .bool true:=Z4R h1 h3
   subst this
   cases vs with
   | nil=>rfl
   | cons u vs=>cases fps<;>exact h4.elim
theorem Z5C {W':World} (hl:laidOutB P=true) (hb:Below W.heap.size W W'):(ts:List TypeId)->(vs:List Value)->(ds:List (DataW H))->(p:List MemPlace)->ts.all (λt=>P.readableRec t&&decide (t<P.types.size))=true ->
  DataW.TrodAll enc P W 0 (λ_=>true) true ts vs ds p->DataW.TrodAll enc P W' 0 (λb=>decide (b<W.heap.size)) true ts vs ds p
 | [],vs,ds,p,_,h=>by
  obtain ⟨rfl,rfl,rfl⟩:=trodAll_nil h
  exact trodAll_mk0
 | t::ts,vs,ds,p,ht,h=>by
  obtain ⟨v,vs1,d,ds1,a,b,rfl,rfl,rfl,h1,h2⟩:=trodAll_cons h
  simp only [List.all_cons,Bool.and_eq_true,decide_eq_true_eq] at ht
  refine trodAll_cons_mk ?_ (Z5C hl hb ts vs1 ds1 b ht.2 h2)
  refine Below.trod hl ht.1.1 ht.1.2 h1 hb λx hx=> ?_
  obtain ⟨m,hm⟩:=h1
  exact DataW.trod_lt m _ _ _ hm x hx
theorem Z8k (hT:Z0d P tys) (hl:laidOutB P=true) {f:FuncId} {fn:Func} {sig:Sig Unit} (hs:Z1p P f sig) {s:ChangeSpec} (hvars:s.vars=[]) {tb:TypeId} (hrt:fn.resultTypes= #[tb]) (hbool:P.underlying tb=some .bool)
  (hm:Z1Y tys fn.params.toList=some sig.modes) (hread:fn.params.toList.all (λt=>P.readableRec t&&decide (t<P.types.size))=true)
  (hfn:∀ ds:List (DataW H),ds.length=fn.params.toList.length->s.fn H ds={ results:=[.lit (.bool true)],args:=ds })
  (hpure:∀ vals,Z3P sig.modes vals->sig.run vals [] Z53=some ()) {args:Array Value} {ds gs:List (DataW H)} {before:List MemPlace}
  (hval:∀ (j:Nat) t v,fn.params[j]? = some t->args[j]? = some v->Value.okWide P W .any base t v) (hW:DataW.Whole enc P fn.params.toList s.vars false W args.toList ds gs before) :
  Calls P f args W λe W'=>∃ v,e= .returned v/\s.post enc P fn false true false false W args v W':=by
 have hW':=hW
 obtain ⟨p,q,hA,hV,rfl,hfz,hnd⟩:=hW
 rw [hvars] at hV
 obtain ⟨rfl,rfl⟩:=trodVars_none hV
 have hlen:ds.length=fn.params.toList.length:=(Z4r hT _ _ _ _ _ hA (λj t v ht hv'=>hval j t v (by rwa [Array.getElem?_toList] at ht) (by rwa [Array.getElem?_toList] at hv')) hm).1
 refine (Z7u hT hs hm hpure hA λj t v ht hv'=>hval j t v (by rwa [Array.getElem?_toList] at ht) hv').mono λe W'=> ?_
 rintro ⟨rfl,bel⟩
 have hf:=hfn ds hlen
 refine ⟨_,rfl,ds,[],_,[],p,[],hW',?_,?_,?_,bel.frame _,λh=>by cases h⟩
 ·rw [List.append_nil,hf,hrt]
  exact trodAll_mk1 (shut_bool hbool _)
 ·rw [List.append_nil,hf]
  exact Z5C hl bel _ _ _ _ hread hA
 ·rw [hvars,List.append_nil,hf]
  exact rfl
end
end Go.PI
namespace Go.PI
theorem Z9j {n:Int} (h1: -9223372036854775808<=n) (h2:n<9223372036854775808):Z8o n=n:=by
 unfold Z8o IntKind.wrap
 simp only [IntKind.bits,IntKind.signed,Bool.true_and]
 by_cases h:n % 2 ^ 64>=2 ^ (64-1)
 ·rw [if_pos (by simpa using h)];omega
 ·rw [if_neg (by simpa using h)];omega
theorem Z9k {i:Int} {n:Nat} (h1:0<=i) (h2:i<(n:Int)):inb i n=true:=by
 unfold inb;exact decide_eq_true ⟨h1,h2⟩
theorem Z9l {n:Nat} (h:n<=LIM):lim n=true:=decide_eq_true h
theorem Z97 {n:Nat} (h:n<=LIM):Z8m (nI n) (nI n)=true:=by
 unfold Z8m nI;exact decide_eq_true ⟨by omega,by omega,by omega⟩
theorem Z8J {a b:Int} (h:a<b):decide (a<b)=true:=decide_eq_true h
theorem Z8I {a b:Int} (h:¬ a<b):decide (a<b)=false:=decide_eq_false h
theorem Z9a {α:Type} (z:α) (l:List α) (i:Nat) (h:i<l.length):nth z l (i:Int)=l[i]:=by
 unfold nth;simp [h]
theorem Z9h {α:Type} (l:List α) (i:Nat) (v:α):upd l (i:Int) v=l.set i v:=by unfold upd;simp
theorem Z2Y {V K:Type} {step:V->(V->Res)->K->Res} (st:Nat->V) (N:Nat) (q:K) (fin:Res)
  (hs:∀ i,i<N->∀ rec,step (st i) rec q=rec (st (i+1))) (he:∀ rec,step (st N) rec q=fin) (n:Nat) (hn:N<n):Z14 step n (st 0) q=fin:=by
 have:∀ d i n,i+d=N->d<n->Z14 step n (st i) q=fin:=by
  intro d
  induction d with
  | zero=>
   intro i n hi hn
   obtain ⟨n,rfl⟩:∃ m,n=m+1:=⟨n-1,by omega⟩
   have:i=N:=by omega
   subst this
   exact he _
  | succ d ih=>
   intro i n hi hn
   obtain ⟨n,rfl⟩:∃ m,n=m+1:=⟨n-1,by omega⟩
   show step (st i) _ q=fin
   rw [hs i (by omega)]
   exact ih (i+1) n (by omega) (by omega)
 exact this N 0 n (by omega) (by omega)
theorem Z1U {n:Nat} (h:n<4611686018427387904):n<Z12:=by rw [Z84];exact h
def Z1I {α β:Type} (a:List α) (f:α->β) (z:β) (i:Nat):List β:=(a.take i).map f++List.replicate (a.length-i) z
theorem Z71 {α β:Type} (a:List α) (f:α->β) (z:β) (i:Nat) (h:i<=a.length):(Z1I a f z i).length=a.length:=by
 unfold Z1I;simp;omega
theorem Z70 {α β:Type} (a:List α) (f:α->β) (z:β):Z1I a f z a.length=a.map f:=by
 unfold Z1I;simp
theorem Z6B {α β:Type} (a:List α) (f:α->β) (z:β):Z1I a f z 0=List.replicate a.length z:=by
 unfold Z1I;simp
theorem Z72 {α β:Type} (a:List α) (f:α->β) (z:β) (i:Nat) (h:i<a.length):(Z1I a f z i).set i (f a[i])=Z1I a f z (i+1):=by
 unfold Z1I
 rw [List.set_append_right _ _ (by simp;omega)]
 have h1:a.length-i=(a.length-(i+1))+1:=by omega
 have h2:i-((a.take i).map f).length=0:=by simp;omega
 rw [h2,h1,List.replicate_succ,List.set_cons_zero,List.take_succ_eq_append_getElem h,List.map_append,List.append_assoc]
 rfl
theorem Z9q {n:Nat} {i:Nat} (h:i<n):decide ((i:Int)<nI n)=true:=decide_eq_true (by unfold nI;omega)
theorem Z9p {n:Nat}:decide ((n:Int)<nI n)=false:=decide_eq_false (by unfold nI;omega)
theorem Z9e {α β:Type} (z:β) (a:List α) (f:α->β) {step:(List β×Int)->(List β×Int->Res)->(List β->Res)->Res} (q:List β->Res) (hlen:a.length<=LIM)
  (hs:∀ (out:List β) (i:Nat) rec,(hi:i<a.length)->out.length=a.length->step (out,(i:Int)) rec q=rec (out.set i (f a[i]),(i:Int)+1))
  (he:∀ out rec,step (out,(a.length:Int)) rec q=q out):Z14 step Z12 (Z7Y (nI a.length) z,0) q=q (a.map f):=by
 have h0:Z7Y (nI a.length) z=Z1I a f z 0:=by rw [Z6B];unfold Z7Y nI;simp
 rw [h0]
 refine Z2Y (λi=>(Z1I a f z i,(i:Int))) a.length q _ (λi hi rec=> ?_) (λrec=> ?_) Z12 (Z1U (by unfold LIM at hlen;omega))
 ·rw [hs _ i rec hi (Z71 _ _ _ _ (by omega)),Z72 a f z i hi];rfl
 ·rw [he,Z70]
def szR (left:Int) (n:Nat):Int:=if (n:Int)<=left then left-n else -1
theorem Z9c {left:Int} {n:Nat} (h:(n:Int)<=left):szR left n=left-n:=if_pos h
theorem Z9b {left:Int} {n:Nat} (h:¬ (n:Int)<=left):szR left n= -1:=if_neg h
theorem Z8W {left:Int} {a b:Nat} (h:(a:Int)<=left):szR left (a+b)=szR (left-a) b:=by
 unfold szR
 by_cases hc:((b:Nat):Int)<=left-a
 ·rw [if_pos hc,if_pos (show ((a+b:Nat):Int)<=left by omega)];omega
 ·rw [if_neg hc,if_neg (show ¬ ((a+b:Nat):Int)<=left by omega)]
theorem Z8X {left:Int} {a b:Nat} (h:¬ (a:Int)<=left):szR left (a+b)= -1:=if_neg (show ¬ ((a+b:Nat):Int)<=left by omega)
theorem Z9n {left:Int} {n:Nat} (h:0<=left):szR left n<=left:=by unfold szR;split<;>omega
theorem Z9d {α:Type} (b:α->Nat) (a:List α) {step:(Int×Int)->(Int×Int->Res)->((Int->Res)×(Unit->Res))->Res} (q:(Int->Res)×(Unit->Res)) (hlen:a.length<=1048576)
  (hs:∀ (left:Int) (i:Nat) rec,(hi:i<a.length)->0<=left->left<=1048576->step (left,(i:Int)) rec q=if (b a[i]:Int)<=left then rec (left-b a[i],(i:Int)+1) else q.2 ())
  (he:∀ left rec,step (left,(a.length:Int)) rec q=q.1 left) (left:Int) (h0:0<=left) (h1:left<=1048576) :
  Z14 step Z12 (left,0) q=if (((a.map b).sum:Nat):Int)<=left then q.1 (left-((a.map b).sum:Nat)) else q.2 ():=by
 have key:∀ (d i n:Nat) (left:Int),i+d=a.length->d<n->0<=left->left<=1048576 ->
   Z14 step n (left,(i:Int)) q=if ((((a.drop i).map b).sum:Nat):Int)<=left then q.1 (left-(((a.drop i).map b).sum:Nat)) else q.2 ():=by
  intro d
  induction d with
  | zero=>
   intro i n left hi hn h0 h1
   obtain ⟨n,rfl⟩:∃ m,n=m+1:=⟨n-1,by omega⟩
   have:i=a.length:=by omega
   subst this
   show step _ _ q=_
   rw [he]
   simp [h0]
  | succ d ih=>
   intro i n left hi hn h0 h1
   obtain ⟨n,rfl⟩:∃ m,n=m+1:=⟨n-1,by omega⟩
   have hlt:i<a.length:=by omega
   show step _ _ q=_
   rw [hs left i _ hlt h0 h1,List.drop_eq_getElem_cons hlt,List.map_cons,List.sum_cons]
   by_cases hb:(b a[i]:Int)<=left
   ·rw [if_pos hb]
    have:=ih (i+1) n (left-b a[i]) (by omega) (by omega) (by omega) (by omega)
    rw [show ((i:Int)+1)=((i+1:Nat):Int) by omega,this]
    by_cases hc:((((a.drop (i+1)).map b).sum:Nat):Int)<=left-b a[i]
    ·have hc2:((b a[i]+((a.drop (i+1)).map b).sum:Nat):Int)<=left:=by omega
     rw [if_pos hc,if_pos hc2]
     have:left-(b a[i]:Int)-((((a.drop (i+1)).map b).sum:Nat):Int)=left-((b a[i]+((a.drop (i+1)).map b).sum:Nat):Int):=by omega
     rw [this]
    ·have hc2:¬ ((b a[i]+((a.drop (i+1)).map b).sum:Nat):Int)<=left:=by omega
     rw [if_neg hc,if_neg hc2]
   ·have hc2:¬ ((b a[i]+((a.drop (i+1)).map b).sum:Nat):Int)<=left:=by omega
    rw [if_neg hb,if_neg hc2]
 have:=key a.length 0 Z12 left (by omega) (Z1U (by omega)) h0 h1
 simpa using this
theorem Z93 {α:Type} (a:List α) {step:Int->(Int->Res)->((Unit->Res)×(Unit->Res))->Res} (q:(Unit->Res)×(Unit->Res)) (hlen:a.length<=LIM)
  (hs:∀ (i:Nat) rec,(hi:i<a.length)->step (i:Int) rec q=rec ((i:Int)+1)) (he:∀ rec,step (a.length:Int) rec q=q.1 ()):Z14 step Z12 (0:Int) q=q.1 ():=
 Z2Y (λi=>(i:Int)) a.length q _ (λi hi rec=>by rw [hs i rec hi];rfl) he Z12 (Z1U (by unfold LIM at hlen;omega))
end Go.PI
namespace Go.PI
theorem Z8l {α:Type} (b:α->Nat):(l:List α)->∀ x∈l,b x<=(l.map b).sum
 | y::l,x,h=>by
  rcases List.mem_cons.1 h with rfl | h
  ·simp
  ·have:=Z8l b l x h
   simp;omega
def Z3R {α β:Type} (g:Int->α->List β):Nat->List α->List β
 | _,[]=>[]
 | j,x::l=>g j x++Z3R g (j+1) l
theorem Z7O {α β:Type} (g:Int->α->List β) (b:α->Nat) (b':β->Nat) (h:∀ i x,((g i x).map b').sum<=b x):(j:Nat)->(l:List α)->((Z3R g j l).map b').sum<=(l.map b).sum
 | _,[]=>Nat.le_refl _
 | j,x::l=>by
  have:=Z7O g b b' h (j+1) l
  have:=h j x
  simp only [Z3R,List.map_append,List.sum_append,List.map_cons,List.sum_cons]
  omega
theorem Z7N {α β:Type} (g:Int->α->List β) (h:∀ i x,(g i x).length<=1):(j:Nat)->(l:List α)->(Z3R g j l).length<=l.length
 | _,[]=>Nat.le_refl _
 | j,x::l=>by
  have:=Z7N g h (j+1) l
  have:=h j x
  simp only [Z3R,List.length_append,List.length_cons]
  omega
theorem Z8H {α β:Type} (a:List α) (g:Int->α->List β) {V K:Type} (st:Int->List β->V) {step:V->(V->Res)->K->Res} (q:K) (fin:List β->Res) (hlen:a.length<=LIM) (hg:∀ i x,(g i x).length<=1)
  (hs:∀ (out:List β) (i:Nat) rec,(hi:i<a.length)->out.length<=i->step (st i out) rec q=rec (st (i+1) (out++g i a[i])))
  (he:∀ out rec,step (st (a.length:Int) out) rec q=fin out):Z14 step Z12 (st 0 []) q=fin (Z3R g 0 a):=by
 have key:∀ (d i n:Nat) (out:List β),i+d=a.length->d<n->out.length<=i->Z14 step n (st i out) q=fin (out++Z3R g i (a.drop i)):=by
  intro d
  induction d with
  | zero=>
   intro i n out hi hn ho
   obtain ⟨n,rfl⟩:∃ m,n=m+1:=⟨n-1,by omega⟩
   have:i=a.length:=by omega
   subst this
   show step _ _ q=_
   rw [he]
   simp [Z3R]
  | succ d ih=>
   intro i n out hi hn ho
   obtain ⟨n,rfl⟩:∃ m,n=m+1:=⟨n-1,by omega⟩
   have hlt:i<a.length:=by omega
   show step _ _ q=_
   rw [hs out i _ hlt ho,List.drop_eq_getElem_cons hlt]
   have:=ih (i+1) n (out++g i a[i]) (by omega) (by omega) (by have:=hg i a[i];simp;omega)
   rw [show ((i:Int)+1)=((i+1:Nat):Int) by omega,this]
   simp [Z3R,List.append_assoc]
 have:=key a.length 0 Z12 [] (by omega) (Z1U (by unfold LIM at hlen;omega)) (by simp)
 simpa using this
def mkL {α:Type} (w:α->Nat) (mk:α->Int->α):List α->Int->List α
 | [],_=>[]
 | x::l,k=>mk x k::mkL w mk l (k+w x)
theorem Z5t {α:Type} (w:α->Nat) (mk:α->Int->α):(l:List α)->(k:Int)->(mkL w mk l k).length=l.length
 | [],_=>rfl
 | x::l,k=>by simp [mkL,Z5t w mk l]
theorem Z56 {α:Type} (w:α->Nat) (mk:α->Int->α):(l m:List α)->(k:Int)->mkL w mk (l++m) k=mkL w mk l k++mkL w mk m (k+((l.map w).sum:Nat))
 | [],m,k=>by simp [mkL]
 | x::l,m,k=>by
  simp only [List.cons_append,mkL,List.map_cons,List.sum_cons]
  rw [Z56 w mk l m]
  congr 3
  omega
theorem Z89 {α:Type} (w:α->Nat) (mk:α->Int->α) (b:α->Nat) (h:∀ x k,b (mk x k)=b x):(l:List α)->(k:Int)->((mkL w mk l k).map b).sum=(l.map b).sum
 | [],_=>rfl
 | x::l,k=>by simp only [mkL,List.map_cons,List.sum_cons,h,Z89 w mk b h l]
theorem Z6s {α:Type} (w:α->Nat) (a:List α) (i:Nat) (h:i<a.length):((a.take (i+1)).map w).sum=((a.take i).map w).sum+w a[i]:=by
 rw [List.take_succ_eq_append_getElem h,List.map_append,List.sum_append,List.map_cons,List.map_nil,List.sum_cons,List.sum_nil,Nat.add_zero]
theorem Z8p {α:Type} (w:α->Nat) (a:List α) (i:Nat):((a.take i).map w).sum<=(a.map w).sum:=by
 have:(a.map w).sum=((a.take i).map w).sum+((a.drop i).map w).sum:=by
  rw [<-List.sum_append,<-List.map_append,List.take_append_drop]
 omega
theorem Z8D {α:Type} (w:α->Nat) (mk:α->Int->α) (a:List α) (k:Int) {V K:Type} (st:List α->Int->Int->V) {step:V->(V->Res)->K->Res} (q:K) (fin:List α->Int->Res)
  (hlen:a.length<=LIM)
  (hs:∀ (l:List α) (i:Nat) rec,(hi:i<a.length)->l.length=a.length->(hl:i<l.length)->l[i]=a[i]->step (st l (k+(((a.take i).map w).sum:Nat)) i) rec q=rec (st (l.set i (mk a[i] (k+(((a.take i).map w).sum:Nat)))) (k+(((a.take i).map w).sum:Nat)+w a[i]) (i+1)))
  (he:∀ l k rec,l.length=a.length->step (st l k (a.length:Int)) rec q=fin l k):Z14 step Z12 (st a k 0) q=fin (mkL w mk a k) (k+((a.map w).sum:Nat)):=by
 have:=Z2Y (step:=step) (λi=>st (mkL w mk (a.take i) k++a.drop i) (k+(((a.take i).map w).sum:Nat)) i) a.length q (fin (mkL w mk a k) (k+((a.map w).sum:Nat))) (λi hi rec=>by
  have hlm:(mkL w mk (a.take i) k).length=i:=by rw [Z5t];simp;omega
  have hl:(mkL w mk (a.take i) k++a.drop i).length=a.length:=by simp [hlm];omega
  rw [hs _ i rec hi hl (by omega) (by rw [List.getElem_append_right (by omega)];simp [hlm])]
  have h1:(mkL w mk (a.take i) k++a.drop i).set i (mk a[i] (k+(((a.take i).map w).sum:Nat)))=mkL w mk (a.take (i+1)) k++a.drop (i+1):=by
   rw [List.set_append_right _ _ (by omega),hlm,Nat.sub_self,List.drop_eq_getElem_cons hi,List.set_cons_zero,List.take_succ_eq_append_getElem hi,Z56]
   simp [mkL]
  rw [h1,Z6s w a i hi]
  have h2:k+(((a.take i).map w).sum:Nat)+(w a[i]:Int)=k+((((a.take i).map w).sum+w a[i]:Nat):Int):=by omega
  rw [h2]
  rfl) (λrec=>by
  rw [he _ _ _ (by simp [Z5t])]
  simp) Z12 (Z1U (by unfold LIM at hlen;omega))
 simpa [mkL] using this
theorem Z96 {α:Type} (w:α->Nat) (mk:α->Int->α) (a:List α) (k:Int) (i:Nat) (h:i<a.length) (h':i<(mkL w mk a k).length):(mkL w mk a k)[i]=mk a[i] (k+(((a.take i).map w).sum:Nat)):=by
 induction a generalizing k i with
 | nil=>simp at h
 | cons x l ih=>
  cases i with
  | zero=>simp [mkL]
  | succ i=>
   simp only [mkL,List.getElem_cons_succ,List.take_succ_cons,List.map_cons,List.sum_cons]
   rw [ih _ _ (by simpa using h)]
   congr 1
   omega
theorem Z8A {α:Type} (w:α->Nat) (a:List α) (k:Int) {V K:Type} (st:Int->Int->V) {step:V->(V->Res)->K->Res} (q:K) (fin:Int->Res) (hlen:a.length<=LIM)
  (hs:∀ (i:Nat) rec,(hi:i<a.length)->step (st (k+(((a.take i).map w).sum:Nat)) i) rec q=rec (st (k+(((a.take i).map w).sum:Nat)+w a[i]) (i+1)))
  (he:∀ k rec,step (st k (a.length:Int)) rec q=fin k):Z14 step Z12 (st k 0) q=fin (k+((a.map w).sum:Nat)):=by
 have:=Z2Y (step:=step) (λi=>st (k+(((a.take i).map w).sum:Nat)) i) a.length q (fin (k+((a.map w).sum:Nat))) (λi hi rec=>by
  rw [hs i rec hi,Z6s w a i hi]
  have h2:k+(((a.take i).map w).sum:Nat)+(w a[i]:Int)=k+((((a.take i).map w).sum+w a[i]:Nat):Int):=by omega
  rw [h2]
  rfl) (λrec=>by
  rw [he]
  simp) Z12 (Z1U (by unfold LIM at hlen;omega))
 simpa using this
theorem Z8E {V K:Type} (N:Nat) (st:Int->V) (bad:Nat->Bool) {step:V->(V->Res)->K->Res} (q:K) (fin:Res) (ex:Nat->Res) (hN:N<=LIM)
  (hs:∀ (i:Nat) rec,i<N->step (st i) rec q=bif bad i then ex i else rec (st ((i:Int)+1))) (he:∀ rec,step (st (N:Int)) rec q=fin) :
  Z14 step Z12 (st 0) q=match (List.range N).find? bad with | none=>fin | some i=>ex i:=by
 have key:∀ (d i n:Nat),i+d=N->d<n->Z14 step n (st i) q=match (List.range' i d).find? bad with | none=>fin | some i=>ex i:=by
  intro d
  induction d with
  | zero=>
   intro i n hi hn
   obtain ⟨n,rfl⟩:∃ m,n=m+1:=⟨n-1,by omega⟩
   have:i=N:=by omega
   subst this
   show step _ _ q=_
   rw [he]
   rfl
  | succ d ih=>
   intro i n hi hn
   obtain ⟨n,rfl⟩:∃ m,n=m+1:=⟨n-1,by omega⟩
   show step _ _ q=_
   rw [hs i _ (by omega),List.range'_succ,List.find?_cons]
   cases bad i with
   | true=>rfl
   | false=>
    have:=ih (i+1) n (by omega) (by omega)
    rw [show ((i:Int)+1)=((i+1:Nat):Int) by omega,cond_false]
    exact this
 have:=key N 0 Z12 (by omega) (Z1U (by unfold LIM at hN;omega))
 rw [List.range_eq_range']
 exact this
theorem Z8q {bad:Nat->Bool} {l:List Nat} {a b:Res}:(match l.find? bad with | none=>a | some _=>b)=bif l.any bad then b else a:=by
 induction l with
 | nil=>rfl
 | cons x l ih=>
  rw [List.find?_cons,List.any_cons]
  cases bad x with
  | true=>rfl
  | false=>exact ih
theorem Z8v {bad:Nat->Bool} {l:List Nat} {k:Bool->Res} {u v:Bool}:(bif l.any bad then k u else k v)=k (bif l.any bad then u else v):=by
 cases l.any bad<;>rfl
theorem Z8S (a b:ByteArray):sEq a b=sEq b a:=by
 unfold sEq;exact BEq.comm
theorem Z8T (a:ByteArray):sEq a a=true:=by unfold sEq;simp
theorem Z8U (a:ByteArray):sNe a a=false:=by unfold sNe;simp
theorem Z9o {α:Type} [BEq α] [LawfulBEq α] (n:α):(n != n)=false:=by simp
def Z51 {A:Type} (f:Nat->A->A):Nat->Nat->A->A
 | _,0,a=>a
 | i,d+1,a=>Z51 f (i+1) d (f i a)
theorem Z8y {A V K:Type} (N:Nat) (st:Int->A->V) (f:Nat->A->A) (p:Nat->A->Prop) {step:V->(V->Res)->K->Res} (q:K) (fin:A->Res) (a0:A) (hN:N<=LIM) (h0:p 0 a0)
  (hp:∀ (i:Nat) a,i<N->p i a->p (i+1) (f i a)) (hs:∀ (i:Nat) a rec,i<N->p i a->step (st i a) rec q=rec (st ((i:Int)+1) (f i a)))
  (he:∀ a rec,p N a->step (st (N:Int) a) rec q=fin a):Z14 step Z12 (st 0 a0) q=fin (Z51 f 0 N a0)/\p N (Z51 f 0 N a0):=by
 have key:∀ (d i n:Nat) (a:A),i+d=N->d<n->p i a->Z14 step n (st i a) q=fin (Z51 f i d a)/\p N (Z51 f i d a):=by
  intro d
  induction d with
  | zero=>
   intro i n a hi hn ha
   obtain ⟨n,rfl⟩:∃ m,n=m+1:=⟨n-1,by omega⟩
   have:i=N:=by omega
   subst this
   exact ⟨he a _ ha,ha⟩
  | succ d ih=>
   intro i n a hi hn ha
   obtain ⟨n,rfl⟩:∃ m,n=m+1:=⟨n-1,by omega⟩
   have:=ih (i+1) n (f i a) (by omega) (by omega) (hp i a (by omega) ha)
   refine ⟨?_,this.2⟩
   show step _ _ q=_
   rw [hs i a _ (by omega) ha,show ((i:Int)+1)=((i+1:Nat):Int) by omega]
   exact this.1
 exact key N 0 Z12 a0 (by omega) (Z1U (by unfold LIM at hN;omega)) h0
theorem Z8C {V K:Type} (step:V->(V->Res)->K->Res) (m:Nat) (v:V) (q:K):Z14 step (m+1) v q=step v (λv'=>Z14 step m v' q) q:=rfl
end Go.PI
namespace Go.PI
def Z1y {α A E:Type} (f:Nat->A->α->Except E A):Nat->List α->A->Except E A
 | _,[],a=> .ok a
 | i,x::l,a=>match f i a x with
  | .ok a'=>Z1y f (i+1) l a'
  | .error e=> .error e
theorem Z3t {α A E V K:Type} (l:List α) (st:Int->A->V) (f:Nat->A->α->Except E A) (p:Nat->A->Prop) {step:V->(V->Res)->K->Res} (q:K) (fin:A->Res) (ex:E->Res) (a0:A) (hN:l.length<=LIM) (h0:p 0 a0)
  (hp:∀ (i:Nat) a a',(hi:i<l.length)->p i a->f i a l[i]= .ok a'->p (i+1) a')
  (hs:∀ (i:Nat) a rec,(hi:i<l.length)->p i a->step (st i a) rec q=match f i a l[i] with | .ok a'=>rec (st ((i:Int)+1) a') | .error e=>ex e)
  (he:∀ a rec,p l.length a->step (st (l.length:Int) a) rec q=fin a):Z14 step Z12 (st 0 a0) q=match Z1y f 0 l a0 with | .ok a=>fin a | .error e=>ex e:=by
 have key:∀ (d i n:Nat) (a:A),i+d=l.length->d<n->p i a->Z14 step n (st i a) q=match Z1y f i (l.drop i) a with | .ok a=>fin a | .error e=>ex e:=by
  intro d
  induction d with
  | zero=>
   intro i n a hi hn ha
   obtain ⟨n,rfl⟩:∃ m,n=m+1:=⟨n-1,by omega⟩
   have:i=l.length:=by omega
   subst this
   rw [List.drop_length]
   exact he a _ ha
  | succ d ih=>
   intro i n a hi hn ha
   obtain ⟨n,rfl⟩:∃ m,n=m+1:=⟨n-1,by omega⟩
   have hlt:i<l.length:=by omega
   show step _ _ q=_
   rw [hs i a _ hlt ha,List.drop_eq_getElem_cons hlt]
   simp only [Z1y]
   cases hf:f i a l[i] with
   | error e=>rfl
   | ok a'=>
    have:=ih (i+1) n a' (by omega) (by omega) (hp i a a' hlt ha hf)
    rw [show ((i:Int)+1)=((i+1:Nat):Int) by omega]
    exact this
 have:=key l.length 0 Z12 a0 (by omega) (Z1U (by unfold LIM at hN;omega)) h0
 simpa using this
theorem Z7K {α A E:Type} {f:Nat->A->α->Except E A} (p:Nat->A->Prop):(l:List α)->(i:Nat)->(a b:A)->p i a->(∀ (j:Nat) x a a',x∈l->p j a->f j a x= .ok a'->p (j+1) a')->Z1y f i l a= .ok b->p (i+l.length) b
 | [],i,a,b,h0,_,h=>by
  simp only [Z1y,Except.ok.injEq] at h
  subst h;exact h0
 | x::l,i,a,b,h0,hp,h=>by
  simp only [Z1y] at h
  split at h
  ·rename_i a' hf
   have:=Z7K p l (i+1) a' b (hp i x a a' (by simp) h0 hf) (λj y a a' hy=>hp j y a a' (List.mem_cons_of_mem _ hy)) h
   rw [List.length_cons]
   rw [show i+(l.length+1)=i+1+l.length by omega]
   exact this
  ·cases h
theorem Z73 {α A V K:Type} (l:List α) (st:Int->A->V) (f:A->α->A) (p:Nat->A->Prop) {step:V->(V->Res)->K->Res} (q:K) (fin:A->Res) (a0:A) (hN:l.length<=LIM) (h0:p 0 a0)
  (hp:∀ (i:Nat) a,(hi:i<l.length)->p i a->p (i+1) (f a l[i]))
  (hs:∀ (i:Nat) a rec,(hi:i<l.length)->p i a->step (st i a) rec q=rec (st ((i:Int)+1) (f a l[i])))
  (he:∀ a rec,p l.length a->step (st (l.length:Int) a) rec q=fin a):Z14 step Z12 (st 0 a0) q=fin (l.foldl f a0):=by
 have h:=Z3t l st (λ_ a x=>(.ok (f a x):Except Empty A)) p q fin (λe=>e.elim) a0 hN h0 (λi a a' hi ha h=>by cases h;exact hp i a hi ha) (λi a rec hi ha=>hs i a rec hi ha) he
 rw [h]
 have:∀ (l:List α) (i:Nat) (a:A),Z1y (λ_ a x=>(.ok (f a x):Except Empty A)) i l a= .ok (l.foldl f a):=by
  intro l
  induction l with
  | nil=>intro i a;rfl
  | cons x l ih=>intro i a;simp only [Z1y,List.foldl_cons];exact ih _ _
 rw [this]
theorem Z8x {α β V K:Type} (l:List α) (st:Int->List β->V) (g:α->List β) (B:Nat) (pre:List β) {step:V->(V->Res)->K->Res} (q:K) (fin:List β->Res) (hN:l.length<=LIM)
  (hg:∀ (i:Nat) (hi:i<l.length),(pre++(l.take i).flatMap g).length<=B->(pre++(l.take (i+1)).flatMap g).length<=B) (h0:pre.length<=B)
  (hs:∀ (i:Nat) (out:List β) rec,(hi:i<l.length)->out=pre++(l.take i).flatMap g->out.length<=B->step (st i out) rec q=rec (st ((i:Int)+1) (out++g l[i])))
  (he:∀ out rec,step (st (l.length:Int) out) rec q=fin out):Z14 step Z12 (st 0 pre) q=fin (pre++l.flatMap g):=by
 have ht:∀ (i:Nat) (hi:i<l.length),(l.take (i+1)).flatMap g=(l.take i).flatMap g++g l[i]:=λi hi=>by
  rw [List.take_succ_eq_append_getElem hi,List.flatMap_append,List.flatMap_cons,List.flatMap_nil,List.append_nil]
 have:=Z73 l st (λout x=>out++g x) (λi out=>out=pre++(l.take i).flatMap g/\out.length<=B) q fin pre hN ⟨by simp,h0⟩
  (λi a hi ha=>by
   have h1:a++g l[i]=pre++(l.take (i+1)).flatMap g:=by rw [ht i hi,<-List.append_assoc,<-ha.1]
   exact ⟨h1,by rw [h1];exact hg i hi (by rw [<-ha.1];exact ha.2)⟩)
  (λi a rec hi ha=>hs i a rec hi ha.1 ha.2) (λa rec _=>he a rec)
 rw [this]
 congr 1
 have:∀ (l:List α) (acc:List β),l.foldl (λout x=>out++g x) acc=acc++l.flatMap g:=by
  intro l
  induction l with
  | nil=>intro acc;simp
  | cons x l ih=>intro acc;simp [ih,List.append_assoc]
 rw [this]
theorem Z8G {α V K:Type} (l:List α) (st:Int->V) (bad:α->Bool) {step:V->(V->Res)->K->Res} (q:K) (fin ex:Res) (hN:l.length<=LIM)
  (hs:∀ (i:Nat) rec,(hi:i<l.length)->step (st i) rec q=bif bad l[i] then ex else rec (st ((i:Int)+1))) (he:∀ rec,step (st (l.length:Int)) rec q=fin) :
  Z14 step Z12 (st 0) q=bif l.any bad then ex else fin:=by
 have h:=Z3t l (λi (_:Unit)=>st i) (λ_ _ x=>if bad x then .error () else (.ok ():Except Unit Unit)) (λ_ _=>True) q (λ_=>fin) (λ_=>ex) () hN trivial (λ_ _ _ _ _ _=>trivial)
  (λi a rec hi _=>by
   rw [hs i rec hi]
   cases bad l[i]<;>rfl) (λa rec _=>he rec)
 rw [h]
 have:∀ (l:List α) (i:Nat),Z1y (λ_ _ x=>if bad x then .error () else (.ok ():Except Unit Unit)) i l ()=bif l.any bad then .error () else .ok ():=by
  intro l
  induction l with
  | nil=>intro i;rfl
  | cons x l ih=>
   intro i
   simp only [Z1y,List.any_cons]
   cases bad x with
   | true=>rfl
   | false=>exact ih _
 rw [this]
 cases l.any bad<;>rfl
def Z5X {α:Type} (bad:Nat->α->Bool):Nat->List α->Bool
 | _,[]=>false
 | i,x::l=>bad i x||Z5X bad (i+1) l
theorem Z8t {α V K:Type} (l:List α) (st:Int->V) (bad:Nat->α->Bool) {step:V->(V->Res)->K->Res} (q:K) (fin ex:Res) (hN:l.length<=LIM)
  (hs:∀ (i:Nat) rec,(hi:i<l.length)->step (st i) rec q=bif bad i l[i] then ex else rec (st ((i:Int)+1))) (he:∀ rec,step (st (l.length:Int)) rec q=fin) :
  Z14 step Z12 (st 0) q=bif Z5X bad 0 l then ex else fin:=by
 have h:=Z3t l (λi (_:Unit)=>st i) (λi _ x=>if bad i x then .error () else (.ok ():Except Unit Unit)) (λ_ _=>True) q (λ_=>fin) (λ_=>ex) () hN trivial (λ_ _ _ _ _ _=>trivial)
  (λi a rec hi _=>by
   rw [hs i rec hi]
   cases bad i l[i]<;>rfl) (λa rec _=>he rec)
 rw [h]
 have:∀ (l:List α) (i:Nat),Z1y (λi _ x=>if bad i x then .error () else (.ok ():Except Unit Unit)) i l ()=bif Z5X bad i l then .error () else .ok ():=by
  intro l
  induction l with
  | nil=>intro i;rfl
  | cons x l ih=>
   intro i
   simp only [Z1y,Z5X]
   cases bad i x with
   | true=>rfl
   | false=>exact ih _
 rw [this]
 cases Z5X bad 0 l<;>rfl
def Z8j {α:Type} (p:α->Bool) (l:List α):Int:=match l.findIdx? p with | some i=>(i:Int) | none=> -1
theorem Z8w {α V K:Type} (l:List α) (st:Int->V) (p:α->Bool) {step:V->(V->Res)->K->Res} (q:K) (k:Int->Res) (hN:l.length<=LIM)
  (hs:∀ (i:Nat) rec,(hi:i<l.length)->step (st i) rec q=bif p l[i] then k i else rec (st ((i:Int)+1))) (he:∀ rec,step (st (l.length:Int)) rec q=k (-1)) :
  Z14 step Z12 (st 0) q=k (Z8j p l):=by
 have h:=Z3t l (λi (_:Unit)=>st i) (λi _ x=>if p x then .error i else (.ok ():Except Nat Unit)) (λ_ _=>True) q (λ_=>k (-1)) (λi=>k i) () hN trivial (λ_ _ _ _ _ _=>trivial)
  (λi a rec hi _=>by
   rw [hs i rec hi]
   cases p l[i]<;>rfl) (λa rec _=>he rec)
 rw [h]
 have:∀ (l:List α) (i:Nat),Z1y (λi _ x=>if p x then .error i else (.ok ():Except Nat Unit)) i l ()=match l.findIdx? p with | some j=> .error (i+j) | none=> .ok ():=by
  intro l
  induction l with
  | nil=>intro i;rfl
  | cons x l ih=>
   intro i
   simp only [Z1y,List.findIdx?_cons]
   cases hx:p x with
   | true=>rfl
   | false=>
    simp only [Bool.false_eq_true,if_false]
    rw [ih]
    cases l.findIdx? p with
    | none=>rfl
    | some j=>simp only [Option.map_some];congr 1;omega
 rw [this]
 unfold Z8j
 cases l.findIdx? p with
 | none=>rfl
 | some j=>simp
end Go.PI
