/-
  Program's code interpreted over typed values; printed texts; plain laws. No conditions.
-/
import Derived.Test.YtnemiodjnhfejaaGreatPb
import Derived.KernelRfl
import Derived.WalkKit
import Derived.ProofKit
import Derived.OpenShut
import Derived.Below
import Derived.Carry
import Derived.WideShapes
import Derived.ShutString
import Derived.ChangeOld
set_option linter.unusedVariables false
set_option linter.unusedSimpArgs false
namespace Go.PI
section
variable {W0:Base} {M:Nat->Prop} {σ:State} {a:Act} {w w':World} {G:Ghost} {xs:List Nat} {P:Program} {R:Type} {Γ:Env R} {r:R}
theorem Rp.leafless {F F':Nat->Nat} {St Al St' Al':Nat->Prop} {τ:Ty} {tg:List Tag} {cs:List Value} {x:El τ} {fp:List Nat} (h:Rp w F St Al τ tg cs x fp) (hl:Z06 τ=0):tg=[]/\fp=[]/\Rp w' F' St' Al' τ [] cs x []:=by
 have h0:tg=[]:=List.length_eq_zero_iff.1 (by rw [h.len.2,hl])
 subst h0
 have h1:=h.fp_nil (by simp)
 subst h1
 exact ⟨rfl,rfl,h.presO (by simp) (by simp)⟩
theorem Z6L (I:Inv W0 M σ a w G xs) {F:Nat->Nat} {St:Nat->Prop}:(ms:List Mode)->(os:List Operand)->(vs:List TVal)->Z1s ms os σ=some vs ->
  Z0u w F St ms vs (os.map a.eval) (vs.map λ_=>[]) []/\Z0Z ms (os.map a.eval)=[]/\Z2L ms=[]
 | [],[],vs,h=>by
  simp only [Z1s,Option.some.injEq] at h
  subst h
  exact ⟨trivial,rfl,rfl⟩
 | [],_::_,vs,h=>by simp [Z1s] at h
 | .borrow τ ag::ms,[],vs,h=>by simp [Z1s] at h
 | .borrow τ ag::ms,o::os,vs,h=>by
  simp only [Z1s] at h
  split at h
  ·rename_i v hv
   split at h
   ·rename_i hc
    simp only [Bool.and_eq_true,decide_eq_true_eq,beq_iff_eq] at hc
    obtain ⟨l,hl,rfl⟩:=Option.map_eq_some_iff.1 h
    obtain ⟨i1,i2,i3⟩:=Z6L I ms os l hl
    obtain ⟨h1,h2⟩:=Z1r I hv
    have h3:Z06 v.τ=0:=by rw [hc.1.1];exact hc.2
    refine ⟨⟨rfl,by rw [<-hc.1.2];exact h2,?_,i1⟩,i2,i3⟩
    rw [h3]
    exact (h1.leafless (w':=w) (F':=F) (St':=St) (Al':=St) h3).2.2
   ·cases h
  ·cases h
 | .consume τ ag::ms,os,vs,h=>by cases os<;>simp [Z1s] at h
 | .eat τ ag::ms,os,vs,h=>by cases os<;>simp [Z1s] at h
 | .inout τ ag::ms,os,vs,h=>by cases os<;>simp [Z1s] at h
 | .look τ ag::ms,os,vs,h=>by cases os<;>simp [Z1s] at h
 | .rptr τ::ms,os,vs,h=>by cases os<;>simp [Z1s] at h
 | .rclos g τs::ms,os,vs,h=>by cases os<;>simp [Z1s] at h
 | .ptr τ::ms,os,vs,h=>by cases os<;>simp [Z1s] at h
 | .clos g τs::ms,os,vs,h=>by cases os<;>simp [Z1s] at h
theorem Z8v {b o:Nat} {cs:List Value} (h:Z05 w b o cs.length=some cs) (z:Nat):(Z0m w b o cs).heap[z]? = w.heap[z]? := by
 by_cases hz:z=b
 ·subst hz
  unfold Z05 at h
  split at h
  ·rename_i c T fr hb
   split at h
   ·rename_i hle
    have hcs:(c.toList.drop o).take cs.length=cs:=by simpa using h
    simp only [Z0m]
    rw [Array.getElem?_modify,hb]
    simp only [if_true,Option.map_some,Option.some.injEq]
    have:Z0c c.toList o cs=c.toList:=by
     have:=Z39 (cs:=c.toList) (o:=o) (n:=cs.length) (by simpa using hle)
     rw [hcs] at this
     exact this
    rw [this]
   ·cases h
  ·cases h
 ·exact Z16 hz
theorem Z1c.nils {F:Nat->Nat} {St:Nat->Prop} {ext:List TVal} {efps:List (List Nat)} (h:Z1c w F St ext [] efps):ext=[]/\efps=[]:=by
 cases ext<;>cases efps<;>first | exact ⟨rfl,rfl⟩ | exact h.elim
theorem Z9u {g:FuncId} {sig:Sig R} (hs:Z18 P g sig) {fpi fpo:List Nat} (I:Inv W0 M σ a w G (fpi++fpo)) (hN:σ.noN) {vals:List TVal} {fps:List (List Nat)} {args:List Value}
  {kk:List TVal->List TVal->List TVal->Option R} (hA:Z0u w G.F G.St sig.modes vals args fps []) (hf:fps.flatten=fpi) (hrun:sig.run vals [] kk=some r) :
  Calls P g args.toArray w λe w'=>∃ vs res ios G' fs,e= .returned (Z1I vs)/\kk res ios []=some r/\(ios.map (·.τ)=Z2L sig.modes/\ios.all TVal.allO=true)/\(ios.length=(Z0Z sig.modes args).length/\vs.length=res.length) /\
   Inv W0 M σ a w' G' (fs.flatten++fpo)/\Z0j w' G' (res++ios) (vs++Z0Z sig.modes args) fs/\G'.ad=G.ad/\(∀ b z,G.who b=some z->z≠ .x->G'.who b=some z) /\
   (∀ b,b<w.heap.size->b ∉ fpi->G'.F b=G.F b/\w'.heap[b]? = w.heap[b]?)/\∀ b,b<w.heap.size->G.Al b->G'.Al b:=by
 have hxx:∀ b∈fpi,G.who b=some .x:=λb hb=>I.whoX b (List.mem_append_left _ hb)
 have hnd:fpi.Nodup:=(List.nodup_append.1 I.nodX).1
 refine (hs.2 vals [] kk r hrun w G.F G.St args [] fps [] hA trivial (by simpa [hf] using hnd) (λb hb=> ?_) (λb hb=> ?_)).mono λe w'=> ?_
 ·have h1:=I.st b hb
  refine ⟨h1.2,λhm=> ?_⟩
  have hm:b∈fpi:=by simpa [hf] using hm
  rw [hxx b hm] at h1;cases h1.1
 ·have hb:b∈fpi:=by simpa [hf] using hb
  exact (I.lt b _ (hxx b hb)).1
 ·rintro ⟨v,res,ios,ext',rfl,hk,⟨hty,hit,hio⟩,hexn,F',St',vs,rfps,efps',⟨rfl,hil,hvl⟩,hres,hbox,hE,hF,hS1,hS2,hndr,hR⟩
  obtain ⟨rfl,rfl⟩:=Z1c.nils hbox
  simp only [hf,List.flatten_nil,List.append_nil,List.nil_append] at hE hF hS2 hndr hR
  obtain ⟨G4,I4,gF,gad,gS,gA,gSs,gR,gads,gC,_,gAl,gW⟩:=Z3s (R:=rfps.flatten) (ads:=[]) (gs:=fpi) (ks:=fpo) (F':=F') (St':=St') I (by simp) (.inl hN) (Sc:=G.St) (λ_ h=>h) (Ghost.St_Al I) (by simpa using hE)
   (λb hb hm=>hF b hb (by simpa using hm)) hS1 (λb hb=>by simpa using hS2 b hb) (by simpa using hndr) (λb hb=>by simpa using hR b (by simpa using hb))
  refine ⟨vs,res,ios,G4,rfps,rfl,hk,⟨hit,hio⟩,⟨hil,hvl⟩,I4,Z3A gF (gSs λ_ h=>h) _ _ rfps hres gR,gad,gW,λb hb hm=>⟨by rw [gF,hF b hb hm],hE.block b hb hm⟩,gAl⟩
theorem Z56:(us:List TVal)->(vs:List Value)->(fs:List (List Nat))->{us':List TVal}->{vs':List Value}->vs.length=us.length->Z0j w G (us++us') (vs++vs') fs->∃ f1 f2,fs=f1++f2/\Z0j w G us vs f1/\Z0j w G us' vs' f2
 | [],[],fs,us',vs',_,h=>⟨[],fs,rfl,trivial,h⟩
 | [],_::_,fs,us',vs',h,_=>by simp at h
 | _::_,[],fs,us',vs',h,_=>by simp at h
 | u::us,v::vs,[],us',vs',hl,h=>h.elim
 | u::us,v::vs,f::fs,us',vs',hl,h=>by
  obtain ⟨h1,h2⟩:=h
  obtain ⟨f1,f2,rfl,h3,h4⟩:=Z56 us vs fs (by simpa using hl) h2
  exact ⟨f::f1,f2,rfl,⟨h1,h3⟩,h4⟩
theorem Z9s {g:FuncId} {sig:Sig R} (hs:Z18 P g sig) (I:Inv W0 M σ a w G []) {τ:Ty} {ag:Bool} {ms:List Mode} {o:Operand} {os:List Operand} (hm:sig.modes= .inout τ ag::ms)
  {k:TV->State->Option R} (h:Z5T sig τ ag ms o os σ k=some r) :
  Calls P g ((o::os).map a.eval).toArray w λe w'=>∃ res σ' G' fs vs,e= .returned (Z1I vs)/\k (Z70 res) σ'=some r/\Inv W0 M σ' a w' G' (fs.flatten++[])/\Z0j w' G' res vs fs:=by
 unfold Z5T at h
 split at h
 ·rename_i p ag' hp
  split at h
  ·rename_i c u vs hc hu hlk
   split at h
   ·rename_i hcond
    simp only [Bool.and_eq_true,decide_eq_true_eq,beq_iff_eq,Bool.or_eq_true] at hcond
    obtain ⟨⟨⟨⟨hτ,hag⟩,hcO⟩,huO⟩,hwh⟩:=hcond
    subst hτ
    subst hag
    have hpr:=Z0w I o (by rw [hp];intro v ags hh;cases hh)
    rw [hp] at hpr
    obtain ⟨_,hpr⟩:=hpr
    have hpl:∃ cs base,Z0C σ G a w p cs base/\Z02 (a.eval o)=cs/\Z0f ag' (a.eval o):=by
     rcases hpr with h1 | h1
     ·rw [State.ct,hc] at h1;cases h1
     ·exact h1
    obtain ⟨cs,base,hplace,hcs,hsh⟩:=hpl
    obtain ⟨τc,l,bs,hct,hrl,hloc⟩:=id hplace
    have:τc=c.τ:=by rw [State.ct,hc] at hct;simpa using hct.symm
    subst this
    obtain ⟨l',bs',fpc,hrl',hRc,hwc⟩:=Z0H I hc
    rw [hrl] at hrl'
    cases hrl'
    obtain ⟨c',hc',hgp⟩:=Z0D hu
    rw [hc] at hc'
    cases hc'
    have hfpw:∀ z∈fpc,G.who z=some (if p.box then .c p.root else .s p.root):=by
     intro z hz
     rcases hwc with ⟨hb,_,rfl,_⟩ | ⟨hb,_,rfl,_⟩
     ·rw [hb];exact I.whoC _ z hz
     ·rw [hb];exact I.whoS _ z hz
    have hnod:fpc.Nodup:=by
     rcases hwc with ⟨_,_,rfl,_⟩ | ⟨_,_,rfl,_⟩
     ·exact I.nodC _
     ·exact I.nodS _
    obtain ⟨fpo,fpi,L⟩:=Rp.lens (base:=bs) hRc (Z1C.1 hcO) hnod (λz hz hm=>by
     rcases hwc with ⟨hb,hbx,_,hbs⟩ | ⟨_,_,_,hbs,_⟩
     ·rw [hbs] at hz;cases hz
      have h1:=hfpw _ hm
      rw [(I.box _ _ hbx).2,hb] at h1
      cases h1
     ·rw [hbs] at hz;cases hz) hloc hgp
    have hltc:∀ z∈fpc,z<w.heap.size:=λz hz=>(I.lt z _ (hfpw z hz)).1
    have hold:∃ G2,Inv W0 M (σ.hold p).kill a w G2 (fpi++fpo)/\Sim G G2/\(∀ z∈fpc,G2.Al z):=by
     have:∃ G1,Inv W0 M (σ.hold p) a w G1 (fpc++[])/\Sim G G1:=by
      obtain ⟨bx,root,path⟩:=p
      rcases hwc with ⟨hb,hbx,rfl,_⟩ | ⟨hb,hlt,rfl,_,hsl⟩
      ·simp only at hb hbx
       subst hb
       obtain ⟨G1,I1,h1,_⟩:=I.takeBox hbx
       exact ⟨G1,I1,h1⟩
      ·simp only at hb hsl
       subst hb
       have hv:σ.slot root= .val c:=by
        rcases hsl with h1 | ⟨ags,h1⟩
        ·exact h1
        ·rcases hwh with h2 | h2
         ·cases h2
         ·simp only at h2;rw [h1] at h2;cases h2
       obtain ⟨G1,I1,h1,_⟩:=I.takeSlot hv
       exact ⟨G1,I1,h1⟩
     obtain ⟨G1,I1,h1⟩:=this
     obtain ⟨fs,I2,_⟩:=I1.kill
     have I3:=I2.perm (ys:=fpi++fpo) (by
      rw [List.append_nil]
      exact L.perm.trans List.perm_append_comm)
     have hx:∀ z∈fpc,({ G1 with fs:=fs }:Ghost).Al z:=λz hz=>by
      have:=I2.whoX z (by simpa using hz)
      exact ⟨λi h=>(by rw [this] at h;cases h),λh=>(by rw [this] at h;cases h)⟩
     exact ⟨_,I3,h1.trans (Sim.fs _ fs),hx⟩
    obtain ⟨G2,I2,hsim,hAl2⟩:=hold
    have hnoN:(σ.hold p).kill.noN:=Z2u _
    obtain ⟨hl1,hl2,hl3⟩:=Z6L I (F:=G2.F) (St:=G2.St) ms os vs hlk
    have hvsf:(vs.map λ_=>([]:List Nat)).flatten=[]:=by
     clear hlk hl1 h
     induction vs with
     | nil=>rfl
     | cons v vs ih=>simp
    have hA:Z0u w G2.F G2.St sig.modes ({ u with ag:=ag' }::vs) ((o::os).map a.eval) (fpi::vs.map λ_=>[]) []:=by
     rw [hm]
     refine ⟨⟨hsh,rfl⟩,?_,hl1⟩
     have h1:Rp w G2.F G2.St G2.Al u.τ u.tg cs u.x fpi:=by rw [hsim.F,hsim.St,hsim.Al];exact L.part
     rw [hcs]
     exact h1.narrow (λt ht=>by rw [L.tags t ht];rfl) λb hb=>hb
    refine (Z9u hs I2 hnoN hA (by simp [hvsf]) h).mono λe w'=> ?_
    rintro ⟨vs',res,ios,G',fs,rfl,hk,⟨hit,hio⟩,⟨hil,hvl⟩,I',hout,gad,gW,gF,gAl⟩
    split at hk
    ·rename_i u'
     split at hk
     ·rename_i rr hset
      rw [hm] at hout hit
      simp only [List.map_cons,Z0Z,hl2] at hout
      simp only [List.map_cons,List.map_nil,Z2L,hl3,List.cons.injEq,and_true] at hit
      obtain ⟨f1,f2,rfl,ho1,ho2⟩:=Z56 res vs' fs hvl hout
      obtain ⟨fpv,rfl,hsv,hRv⟩:∃ fpv,f2=[fpv]/\Z0f u'.ag (a.eval o)/\Rp w' G'.F G'.St G'.Al u'.τ u'.tg (Z02 (a.eval o)) u'.x fpv:=by
       cases f2 with
       | nil=>exact ho2.elim
       | cons f f2=>
        obtain ⟨h1,h2⟩:=ho2
        cases f2 with
        | nil=>exact ⟨f,rfl,h1⟩
        | cons _ _=>exact h2.elim
      rw [hcs] at hRv
      have hu'O:u'.allO=true:=by simpa using hio
      have hdisj:∀ z∈fpo,z ∉ fpi:=λz hz hi=>by
       have h1:=(L.perm.nodup_iff).1 hnod
       exact (List.nodup_append.1 h1).2.2 z hz z hi rfl
      have hsubo:∀ z∈fpo,z∈fpc:=λz hz=>L.perm.symm.subset (List.mem_append_left _ hz)
      have hput:∀ z∈fpo,Put w G.F G.Al w' G'.F G'.Al base cs z:=by
       intro z hz
       have hzc:=hsubo z hz
       obtain ⟨q1,q2⟩:=gF z (hltc z hzc) (hdisj z hz)
       refine ⟨by rw [q1,hsim.F],λ_=>gAl z (hltc z hzc) (hAl2 z hzc),?_⟩
       rw [q2]
       cases hbase:base with
       | none=>rfl
       | some y=>
        obtain ⟨b,o'⟩:=y
        rw [hbase] at hplace
        have:=Z1F I hplace (w2:=w) ⟨λ_ _ _ _ _ _ _ h=>h,λ_ _ _=>rfl⟩
        exact (Z8v this z).symm
      obtain ⟨fpn,hpn,htg,hRn⟩:=L.put w' G'.F G'.St G'.Al u' cs fpv rr.1 rr.2 hset hit (Z1C.1 hu'O) hRv hput
      have hRn':Rp w' G'.F G'.St G'.Al c.τ rr.2 l rr.1 fpn:=by
       split at hRn
       ·rename_i hflat
        obtain ⟨τf,hτf⟩:=Z2b hflat hgp
        obtain ⟨h1,h2⟩:=Z0V (w:=w) (base:=bs) hτf hRc.len.1
        rw [hloc] at h1
        simp only [Option.some.injEq,Prod.mk.injEq] at h1
        rw [h1.1,Z39 (by rw [hRc.len.1];exact h2)] at hRn
        exact hRn
       ·exact hRn
      have I3:Inv W0 M (σ.hold p).kill a w' G' (fpn++f1.flatten):=I'.perm (by
       refine List.perm_iff_count.2 λz=> ?_
       have h1:=(List.perm_iff_count.1 hpn) z
       simp only [List.flatten_append,List.flatten_cons,List.flatten_nil,List.append_nil,List.count_append] at h1 ⊢
       omega)
      have hfin:∃ G5,Inv W0 M ((σ.hold p).kill.refill p ⟨c.τ,c.ag,rr.1,rr.2⟩) a w' G5 f1.flatten/\Sim G' G5:=by
       obtain ⟨bx,root,path⟩:=p
       rcases hwc with ⟨hb,hbx,hfb,hbs⟩ | ⟨hb,hlt,hfb,hbs,hsl⟩
       ·simp only at hb hbx hfb hbs
        subst hb
        obtain ⟨_,_,_,hwho,⟨cc,T,hcc,_⟩,hptr⟩:=I.takeBox hbx
        have hnf:G.ad root ∉ fpi:=λhmm=>by
         have h1:=hfpw _ (L.perm.symm.subset (List.mem_append_right _ hmm))
         rw [hwho] at h1;cases h1
        have hadl:=(I.lt _ _ hwho).1
        have hcc':w'.heap[G.ad root]? = some (.cells cc T (0,0)):=by rw [(gF _ hadl hnf).2];exact hcc
        have hlcc:l=cc.toList:=by
         simp only [Z09,hcc,Option.some.injEq,Prod.mk.injEq] at hrl
         exact hrl.1.symm
        obtain ⟨fs3,I4,_⟩:=I3.loosen true root
        have hR4:Rp w' G'.F G'.St G'.Al c.τ rr.2 cc.toList rr.1 fpn:=by rw [<-hlcc];exact hRn'
        have had:G'.ad root=G.ad root:=by rw [gad,hsim.ad]
        have hw2:G2.who (G.ad root)=some (.a root):=(hsim.bx _ _).2 hwho
        obtain ⟨G5,I5,e1,e2,e3,e4,e5⟩:=Inv.addBox I4 (i:=root) (g:=G.ad root) (c:=cc) (T:=T) (v:=⟨c.τ,c.ag,rr.1,rr.2⟩) (by
         have:=Z1D hbx
         simpa [State.hold,State.kill,Z0b,State.putBox,State.loosen,Z0b,Z0G] using this) hcc' (gW _ _ hw2 (by simp)) hR4 (λj hj=>by
         have hj':j<σ.slots.length:=by simpa [State.hold,State.kill,Z0b,State.putBox,State.loosen,Z0b] using hj
         refine (hptr j hj').or_dead ?_
         rw [Z0i,Z1y]
         have h0:(σ.hold ⟨true,root,path⟩).slot j=(σ.loosen true root).slot j:=rfl
         rw [h0]
         rcases TV.kill_or ((σ.loosen true root).slot j) with h | h
         ·rw [h];exact TV.loosen_or _ _ _
         ·rw [h];exact .inr rfl) (.inr had)
        refine ⟨G5,I5,e1,e2,?_,e3,e4⟩
        rw [e5]
        funext j
        split
        ·rename_i h;subst h;exact had.symm
        ·rfl
       ·simp only at hb hlt hfb hbs hsl
        subst hb
        have hll:l=Z02 (a.tmps.getD root undef):=by
         simp only [Z09,Option.some.injEq,Prod.mk.injEq] at hrl
         exact hrl.1.symm
        have hv:σ.slot root= .val c:=by
         rcases hsl with h1 | ⟨ags,h1⟩
         ·exact h1
         ·rcases hwh with h2 | h2
          ·cases h2
          ·simp only at h2;rw [h1] at h2;cases h2
        have hsh3:Z0f c.ag (a.tmps.getD root undef):=by
         have:=I.slot root hlt
         rw [hv] at this
         exact this.1
        rw [hll] at hRn'
        obtain ⟨G5,I5,hs5⟩:=I3.put (i:=root) (tv:= .val ⟨c.τ,c.ag,rr.1,rr.2⟩) (v:=a.tmps.getD root undef) ⟨hsh3,hRn'⟩ (λhi=>I.pin root hi) (.inr rfl)
        have hact:a.put (some root) (a.tmps.getD root undef)=a:=by
         have hlt:root<a.tmps.size:=by rw [I.len];exact hlt
         simp only [Act.put]
         have:a.tmps.setIfInBounds root (a.tmps.getD root undef)=a.tmps:=by
          apply Array.ext
          ·simp
          ·intro i h1 h2
           simp only [Array.getElem_setIfInBounds h2]
           split
           ·rename_i h;subst h;rfl
           ·rfl
         rw [this]
        rw [hact] at I5
        exact ⟨G5,I5,hs5⟩
      obtain ⟨G5,I5,hs5⟩:=hfin
      refine ⟨res,_,G5,f1,vs',rfl,?_,by simpa using I5,Z0j.sim hs5 _ _ _ ho1⟩
      rw [<-hk]
      match res with
      | []=>rfl
      | [_]=>rfl
      | _::_::_=>rfl
     ·cases hk
    ·cases hk
   ·cases h
  ·cases h
 ·cases h
end
end Go.PI
namespace Go.PI
section
variable {W0:Base} {M:Nat->Prop} {σ:State} {a:Act} {w w':World} {G:Ghost} {xs:List Nat} {P:Program} {R:Type} {Γ:Env R} {r:R}
def Z2x (w:World) (F:Nat->Nat) (b:Nat):Nat:=match w.heap[b]? with | some (.cells c _ _)=>max (F b) c.size | _=>F b
theorem Z6w (w:World) (F:Nat->Nat) (b:Nat):F b<=Z2x w F b:=by
 unfold Z2x
 split
 ·exact Nat.le_max_left _ _
 ·exact Nat.le_refl _
theorem Z4w {F:Nat->Nat} {b o n:Nat} {cs:List Value} (h:Z05 w b o n=some cs):o+n<=Z2x w F b:=by
 unfold Z05 at h
 unfold Z2x
 split at h
 ·rename_i c T fr hb
  split at h
  ·rw [hb];simp only []
   exact Nat.le_trans (by assumption) (Nat.le_max_right _ _)
  ·cases h
 ·cases h
def Old (w:World) (b:Nat):Prop:=b<w.heap.size
theorem Inv.Al_old (I:Inv W0 M σ a w G xs):∀ b,G.Al b->Old w b:=λb hb=>by
 cases hz:G.who b with
 | none=>exact (I.st b (hb.2 hz)).2
 | some z=>exact (I.lt b z hz).1
theorem Rp.whole (I:Inv W0 M σ a w G xs) {τ:Ty} {tg:List Tag} {cs:List Value} {x:El τ} {fp:List Nat} (h:Rp w G.F G.St G.Al τ tg cs x fp) :
  Rp w (Z2x w G.F) (Old w) (Old w) τ (List.replicate (Z06 τ) .S) cs x []:=by
 have h1:Rp w G.F (Old w) (Old w) τ (List.replicate (Z06 τ) .S) cs x []:=h.toS I.Al_old λb hb=>(I.st b hb).2
 exact h1.pres (λ_ h=>h) (λ_ _ h=>h) (λb _=>Z07.of_block rfl (Z6w _ _ _)) (by simp) (.inl λt ht=>by rw [(List.mem_replicate.1 ht).2];rfl)
theorem Z8y (I:Inv W0 M σ a w G xs) {o:Operand} {v:TVal} (h:σ.ptrVal o=some v):Z2F w (Z2x w G.F) (Old w) (Old w) v.τ v.x (a.eval o):=by
 unfold State.ptrVal at h
 have hp:=Z0w I o
 have hpl:∀ {p:Place} {u:TVal} {z:Value},Z0x σ G a w p z->σ.getAt p=some u->Z2F w (Z2x w G.F) (Old w) (Old w) u.τ u.x z:=by
  intro p u z hr hg
  obtain ⟨cs,b,hpl,rfl⟩:=hr.some hg
  obtain ⟨fp,hrp⟩:=Z2v I hg hpl
  have hc:=Z1F I hpl (w2:=w) ⟨λ_ _ _ _ _ _ _ h=>h,λ_ _ _=>rfl⟩
  rw [hrp.len.1] at hc
  exact ⟨b.1,b.2,cs,rfl,hc,Z0Y hc,Z4w hc,hrp.whole I⟩
 split at h
 ·rename_i p hpk
  rw [hpk] at hp
  exact hpl (hp (by simp)).2.2.2 h
 ·rename_i p hpk
  rw [hpk] at hp
  exact hpl (hp (by simp)).2 h
 ·rename_i u t hpk
  cases h
  rw [hpk] at hp
  obtain ⟨_,_,b,o',cs,q1,q2,q3,q4,q5,q6⟩:=hp (by simp)
  exact ⟨b,o',cs,q1,q2,Z0Y q2,Z4w q2,q6.whole I⟩
 ·cases h
theorem Z3o (I:Inv W0 M σ a w G xs):(ps:List Place)->(us:List Value)->(vs:List TVal)->σ.placesVal ps=some vs->us.length=ps.length->(∀ i (h:i<ps.length),Z0x σ G a w ps[i] (us.getD i undef)) ->
  vs.length=ps.length/\SPs w (Z2x w G.F) (Old w) (Old w) (vs.map (·.τ)) (Z6Z vs).τ (Z6Z vs).x us/\∀ i (h:i<vs.length),Z2F w (Z2x w G.F) (Old w) (Old w) vs[i].τ vs[i].x (us.getD i undef)
 | [],us,vs,h,hl,_=>by
  simp only [State.placesVal,Option.some.injEq] at h
  subst h
  exact ⟨rfl,List.length_eq_zero_iff.1 hl,λi h=>by simp at h⟩
 | p::ps,[],vs,h,hl,_=>by simp at hl
 | p::ps,u::us,vs,h,hl,hp=>by
  simp only [State.placesVal] at h
  split at h
  ·rename_i v l hv hl'
   cases h
   obtain ⟨i1,i2,i3⟩:=Z3o I ps us l hl' (by simpa using hl) λi hi=>hp (i+1) (by simpa using hi)
   have h0:Z2F w (Z2x w G.F) (Old w) (Old w) v.τ v.x u:=by
    obtain ⟨cs,b,hpl,hz⟩:=(hp 0 (by simp)).some hv
    obtain ⟨fp,hrp⟩:=Z2v I hv hpl
    have hc:=Z1F I hpl (w2:=w) ⟨λ_ _ _ _ _ _ _ h=>h,λ_ _ _=>rfl⟩
    rw [hrp.len.1] at hc
    exact ⟨b.1,b.2,cs,hz,hc,Z0Y hc,Z4w hc,hrp.whole I⟩
   refine ⟨by simp [i1],?_,λi hi=> ?_⟩
   ·cases l with
    | nil=>
     have:us=[]:=by
      have h1:ps.length=0:=by simpa using i1.symm
      exact List.length_eq_zero_iff.1 (by simp only [List.length_cons] at hl;omega)
     subst this
     exact ⟨rfl,u,rfl,h0⟩
    | cons v2 l=>exact ⟨rfl,u,us,rfl,h0,i2⟩
   ·cases i with
    | zero=>exact h0
    | succ i=>exact i3 i (by simpa using hi)
  ·cases h
theorem Z3c (I:Inv W0 M σ a w G xs):(ms:List Mode)->(os:List Operand)->(vs:List TVal)->Z1a ms os σ=some vs ->
  Z0u w (Z2x w G.F) (Old w) ms vs (os.map a.eval) (vs.map λ_=>[]) []/\ms.length=os.length
 | [],[],vs,h=>by
  simp only [Z1a,Option.some.injEq] at h
  subst h
  exact ⟨trivial,rfl⟩
 | [],_::_,vs,h=>by simp [Z1a] at h
 | .look τ ag::ms,[],vs,h=>by simp [Z1a] at h
 | .look τ ag::ms,o::os,vs,h=>by
  simp only [Z1a] at h
  split at h
  ·rename_i v hv
   split at h
   ·rename_i hc
    obtain ⟨l,hl,rfl⟩:=Option.map_eq_some_iff.1 h
    obtain ⟨i1,i2⟩:=Z3c I ms os l hl
    obtain ⟨q1,q2⟩:=Z63 I hv
    exact ⟨⟨rfl,by rw [<-hc.2];exact q2,q1.whole I,i1⟩,by simp [i2]⟩
   ·cases h
  ·cases h
 | .rptr τ::ms,[],vs,h=>by simp [Z1a] at h
 | .rptr τ::ms,o::os,vs,h=>by
  simp only [Z1a] at h
  split at h
  ·rename_i v hv
   split at h
   ·obtain ⟨l,hl,rfl⟩:=Option.map_eq_some_iff.1 h
    obtain ⟨i1,i2⟩:=Z3c I ms os l hl
    exact ⟨⟨rfl,Z8y I hv,i1⟩,by simp [i2]⟩
   ·cases h
  ·cases h
 | .rclos f τs::ms,[],vs,h=>by simp [Z1a] at h
 | .rclos f τs::ms,o::os,vs,h=>by
  simp only [Z1a] at h
  have hp:=Z0w I o
  split at h
  ·rename_i g ps hpk
   rw [hpk] at hp
   obtain ⟨_,us,q1,q2,q3⟩:=hp (by simp)
   split at h
   ·rename_i vs' hvs
    split at h
    ·rename_i hc
     simp only [Bool.and_eq_true,beq_iff_eq,decide_eq_true_eq] at hc
     obtain ⟨rfl,hτs⟩:=hc
     obtain ⟨l,hl,rfl⟩:=Option.map_eq_some_iff.1 h
     obtain ⟨i1,i2⟩:=Z3c I ms os l hl
     obtain ⟨_,j2,_⟩:=Z3o I ps us.toList vs' hvs (by simpa using q2) λi hi=>by
      have:=(q3 i hi).2.2
      rwa [Array.getD_eq_getD_getElem?,<-Array.getElem?_toList,<-List.getD_eq_getElem?_getD] at this
     rw [hτs] at j2
     exact ⟨⟨rfl,⟨us,q1,j2⟩,i1⟩,by simp [i2]⟩
    ·cases h
   ·cases h
  ·rename_i g τs' v hpk
   rw [hpk] at hp
   obtain ⟨_,us,q1,q2⟩:=hp (by simp)
   split at h
   ·rename_i hc
    simp only [Bool.and_eq_true,beq_iff_eq,decide_eq_true_eq] at hc
    obtain ⟨rfl,rfl⟩:=hc
    obtain ⟨l,hl,rfl⟩:=Option.map_eq_some_iff.1 h
    obtain ⟨i1,i2⟩:=Z3c I ms os l hl
    refine ⟨⟨rfl,⟨us,q1,?_⟩,i1⟩,by simp [i2]⟩
    have hup:SPs w G.F (Old w) (Old w) τs' v.τ v.x us.toList:=SPs.pres (λb hb=>(I.st b hb).2) (λb _ hb=>I.Al_old b hb) (λb _=>Z07.refl _ _ _) _ _ _ _ q2
    exact SPs.pres (λ_ h=>h) (λ_ _ h=>h) (λb _=>Z07.of_block rfl (Z6w _ _ _)) _ _ _ _ hup
   ·cases h
  ·cases h
 | .borrow τ ag::ms,os,vs,h=>by cases os<;>simp [Z1a] at h
 | .consume τ ag::ms,os,vs,h=>by cases os<;>simp [Z1a] at h
 | .eat τ ag::ms,os,vs,h=>by cases os<;>simp [Z1a] at h
 | .inout τ ag::ms,os,vs,h=>by cases os<;>simp [Z1a] at h
 | .ptr τ::ms,os,vs,h=>by cases os<;>simp [Z1a] at h
 | .clos g τs::ms,os,vs,h=>by cases os<;>simp [Z1a] at h
theorem Z5S {F:Nat->Nat} {St:Nat->Prop}:(ms':List Mode)->(cvs:List TVal)->(us:List Value)->Z1v ms' cvs=true->us.length=cvs.length->(∀ i (h:i<cvs.length),Z2F w F St St cvs[i].τ cvs[i].x (us.getD i undef)) ->
  Z0u w F St ms' cvs us (cvs.map λ_=>[]) []
 | [],[],us,_,hl,_=>by
  have:us=[]:=List.length_eq_zero_iff.1 hl
  subst this
  trivial
 | [],_::_,_,h,_,_=>by simp [Z1v] at h
 | .rptr τ::ms',[],_,h,_,_=>by simp [Z1v] at h
 | .rptr τ::ms',v::cvs,[],h,hl,_=>by simp at hl
 | .rptr τ::ms',v::cvs,u::us,h,hl,hp=>by
  simp only [Z1v,Bool.and_eq_true] at h
  exact ⟨rfl,hp 0 (by simp),Z5S ms' cvs us h.2 (by simpa using hl) λi hi=>hp (i+1) (by simpa using hi)⟩
 | .borrow τ ag::ms,vs,_,h,_,_=>by cases vs<;>simp [Z1v] at h
 | .consume τ ag::ms,vs,_,h,_,_=>by cases vs<;>simp [Z1v] at h
 | .eat τ ag::ms,vs,_,h,_,_=>by cases vs<;>simp [Z1v] at h
 | .inout τ ag::ms,vs,_,h,_,_=>by cases vs<;>simp [Z1v] at h
 | .ptr τ::ms,vs,_,h,_,_=>by cases vs<;>simp [Z1v] at h
 | .clos g τs::ms,vs,_,h,_,_=>by cases vs<;>simp [Z1v] at h
 | .look τ ag::ms,vs,_,h,_,_=>by cases vs<;>simp [Z1v] at h
 | .rclos g τs::ms,vs,_,h,_,_=>by cases vs<;>simp [Z1v] at h
theorem Z2e {F:Nat->Nat} {St:Nat->Prop} {ms':List Mode} {vs':List TVal} {xs':List Value} {fs':List (List Nat)} (h':Z0u w F St ms' vs' xs' fs' []) :
  (ms:List Mode)->(vs:List TVal)->(xs:List Value)->(fs:List (List Nat))->ms.all Mode.isLook=true->Z0u w F St ms vs xs fs []->Z0u w F St (ms++ms') (vs++vs') (xs++xs') (fs++fs') []
 | [],vs,xs,fs,_,h=>by
  cases vs<;>cases xs<;>cases fs<;>first | exact h' | exact h.elim
 | .look τ ag::ms,vs,xs,fs,hk,h=>by
  cases vs<;>cases xs<;>cases fs<;>first | exact h.elim | skip
  obtain ⟨h1,h2,h3,h4⟩:=h
  exact ⟨h1,h2,h3,Z2e h' ms _ _ _ (by simpa [Mode.isLook] using hk) h4⟩
 | .rptr τ::ms,vs,xs,fs,hk,h=>by
  cases vs<;>cases xs<;>cases fs<;>first | exact h.elim | skip
  obtain ⟨h1,h2,h4⟩:=h
  exact ⟨h1,h2,Z2e h' ms _ _ _ (by simpa [Mode.isLook] using hk) h4⟩
 | .rclos g τs::ms,vs,xs,fs,hk,h=>by
  cases vs<;>cases xs<;>cases fs<;>first | exact h.elim | skip
  obtain ⟨h1,h2,h4⟩:=h
  exact ⟨h1,h2,Z2e h' ms _ _ _ (by simpa [Mode.isLook] using hk) h4⟩
 | .borrow τ ag::ms,_,_,_,h,_=>by simp [Mode.isLook] at h
 | .consume τ ag::ms,_,_,_,h,_=>by simp [Mode.isLook] at h
 | .eat τ ag::ms,_,_,_,h,_=>by simp [Mode.isLook] at h
 | .inout τ ag::ms,_,_,_,h,_=>by simp [Mode.isLook] at h
 | .ptr τ::ms,_,_,_,h,_=>by simp [Mode.isLook] at h
 | .clos g τs::ms,_,_,_,h,_=>by simp [Mode.isLook] at h
theorem Z34:(ms:List Mode)->(xs:List Value)->ms.all Mode.isLook=true->Z0Z ms xs=[]
 | [],xs,_=>by cases xs<;>rfl
 | .look τ ag::ms,xs,h=>by
  cases xs with
  | nil=>rfl
  | cons x xs=>exact Z34 ms xs (by simpa [Mode.isLook] using h)
 | .rptr τ::ms,xs,h=>by
  cases xs with
  | nil=>rfl
  | cons x xs=>exact Z34 ms xs (by simpa [Mode.isLook] using h)
 | .rclos g τs::ms,xs,h=>by
  cases xs with
  | nil=>rfl
  | cons x xs=>exact Z34 ms xs (by simpa [Mode.isLook] using h)
 | .borrow τ ag::ms,_,h=>by simp [Mode.isLook] at h
 | .consume τ ag::ms,_,h=>by simp [Mode.isLook] at h
 | .eat τ ag::ms,_,h=>by simp [Mode.isLook] at h
 | .inout τ ag::ms,_,h=>by simp [Mode.isLook] at h
 | .ptr τ::ms,_,h=>by simp [Mode.isLook] at h
 | .clos g τs::ms,_,h=>by simp [Mode.isLook] at h
theorem Z7m (l:List TVal):(l.map λ_=>([]:List Nat)).flatten=[]:=by
 induction l with
 | nil=>rfl
 | cons v l ih=>simp
theorem Z5a {F:Nat->Nat} {St:Nat->Prop} {G':Ghost}:(rs:List TVal)->(vs:List Value)->(fs:List (List Nat))->Z3b w' F St rs vs fs->(∀ v∈rs,Z06 v.τ=0)->fs.flatten=[]/\Z0j w' G' rs vs fs
 | [],vs,fs,h,_=>by cases vs<;>cases fs<;>first | exact ⟨rfl,trivial⟩ | exact h.elim
 | u::rs,vs,fs,h,hl=>by
  cases vs<;>cases fs<;>first | exact h.elim | skip
  obtain ⟨⟨h1,_,h2⟩,h3⟩:=h
  obtain ⟨i1,i2⟩:=Z5a rs _ _ h3 λv hv=>hl v (List.mem_cons_of_mem _ hv)
  obtain ⟨q1,q2,q3⟩:=h2.leafless (F':=G'.F) (St':=G'.St) (Al':=G'.Al) (hl u (by simp))
  subst q2
  exact ⟨by simpa using i1,⟨h1,by rw [q1];exact q3⟩,i2⟩
theorem Inv.newer (I:Inv W0 M σ a w G []) {F':Nat->Nat} (hE:Ext (·∈ ([]:List Nat)) w w') :
  ∃ G',Inv W0 M σ a w' G' []/\Calmer w G w' G':=by
 let G':Ghost:={ G with F:=λb=>if b<w.heap.size then G.F b else F' b }
 have hk:∀ b,b<w.heap.size->Z07 w G.F w' G'.F b/\G'.F b=G.F b:=by
  intro b hb
  have h1:G'.F b=G.F b:=if_pos hb
  exact ⟨Z07.of_block (hE.block b hb (by simp)) (by rw [h1];exact Nat.le_refl _),h1⟩
 have hlt:∀ b z,G.who b=some z->b<w.heap.size:=λb z h=>(I.lt b z h).1
 have hS:Same σ w G w' G':=⟨rfl,rfl,rfl,λ_ _ h _=>h,λ_ _ h=>h,λ_ h=>h,λb h=>(hk b (I.st b h).2).1,λb z h _ _=>hk b (hlt b z h),λi v h=>hE.block _ (hlt _ _ (I.box i v h).2) (by simp),.inr λb hb _=>(hk b hb).1⟩
 refine ⟨G',I.world hS (λb hb=>⟨(I.st b hb).1,by have:=(I.st b hb).2;have:=hE.size;omega⟩) (λb z hb=>⟨by have:=hlt b z hb;have:=hE.size;omega,(I.lt b z hb).2⟩) ?_ (λb hb=>by cases hb) List.nodup_nil ⟨λb hb hM=> ?_,I.org.St,I.org.St'⟩,⟨λw2 hc=>⟨λb hb ha o n cs hn h1=> ?_,λi b hb=> ?_⟩,λw2 hc i b hb=> ?_⟩⟩
 ·refine ⟨hE.os.trans I.ext.os,hE.tape.trans I.ext.tape,hE.output.trans I.ext.output,by have:=I.ext.size;have:=hE.size;omega,λb hb hM=> ?_⟩
  rw [hE.block b (by have:=I.ext.size;omega) (by simp)]
  exact I.ext.block b hb hM
 ·rw [(hk b (by have:=I.ext.size;omega)).2]
  exact I.org.F b hb hM
 ·refine hc.1 b (by have:=hE.size;omega) ha o n cs (by rw [(hk b hb).2];exact hn) ?_
  rw [Z11 (hE.block b hb (by simp))];exact h1
 ·rw [hc.2 i b hb]
  exact hE.block b (hlt b _ hb) (by simp)
 ·rw [hc i b hb]
  exact hE.block b (hlt b _ hb) (by simp)
theorem Z6C {g:FuncId} {sig:Sig R} (hs:Z18 P g sig) (I:Inv W0 M σ a w G []) (hm:sig.modes.all Mode.isLook=true) {os:List Operand} {cvs:List TVal} {us:List Value} (hul:us.length=cvs.length)
  (hus:∀ i (h:i<cvs.length),Z2F w (Z2x w G.F) (Old w) (Old w) cvs[i].τ cvs[i].x (us.getD i undef)) {k:TV->State->Option R} (h:Z6X sig os cvs σ k=some r) :
  Calls P g (os.map a.eval++us).toArray w λe w'=>∃ res G' fs vs,e= .returned (Z1I vs)/\k (Z70 res) σ=some r/\Inv W0 M σ a w' G' (fs.flatten++[])/\Z0j w' G' res vs fs/\Calmer w G w' G':=by
 unfold Z6X at h
 split at h
 ·rename_i vals hvals
  split at h
  ·rename_i hcap
   obtain ⟨q1,q2⟩:=Z3c I _ _ _ hvals
   have q3:=Z5S (w:=w) (F:=Z2x w G.F) (St:=Old w) _ _ us hcap hul hus
   have hlook:(sig.modes.take os.length).all Mode.isLook=true:=List.all_eq_true.2 λm hmm=>List.all_eq_true.1 hm m (List.mem_of_mem_take hmm)
   have hA:=Z2e q3 _ _ _ _ hlook q1
   rw [List.take_append_drop,<-List.map_append] at hA
   have hfl:((vals++cvs).map λ_=>([]:List Nat)).flatten=[]:=Z7m _
   generalize ((vals++cvs).map λ_=>([]:List Nat))=fps at hA hfl
   refine (hs.2 _ [] _ r h w (Z2x w G.F) (Old w) _ [] _ [] hA trivial (by simp [hfl]) (λb hb=>⟨hb,by simp [hfl]⟩) (by simp [hfl])).mono λe w'=> ?_
   rintro ⟨v,res,ios,ext',rfl,hk,⟨hty,_,_⟩,hexn,F',St',vs,rfps,efps',⟨rfl,hil,hvl⟩,hres,hbox,hE,hF,hS1,hS2,hndr,hR⟩
   rw [Z34 _ _ hm] at hil hres
   have hios:ios=[]:=List.length_eq_zero_iff.1 hil
   subst hios
   rw [List.append_nil,List.append_nil] at hres
   obtain ⟨rfl,rfl⟩:=Z1c.nils hbox
   simp only [hfl,List.flatten_nil,List.append_nil] at hE
   simp only [List.isEmpty_nil,Bool.true_and] at hk
   rw [Z1R] at hk
   obtain ⟨hlf,hk⟩:=hk
   obtain ⟨G',I',hC⟩:=I.newer (F':=F') hE
   obtain ⟨e1,e2⟩:=Z5a (G':=G') res vs rfps hres λv hv=>by
    have:=List.all_eq_true.1 hlf v hv
    simpa using this
   refine ⟨res,G',rfps,vs,rfl,?_,by rw [e1];exact I',e2,hC⟩
   match res,hk with
   | [],hk=>exact hk
   | [_],hk=>exact hk
   | _::_::_,hk=>exact hk
  ·cases h
 ·cases h
theorem Z6h {F:Nat->Nat} {St Al:Nat->Prop}:(τs:List Ty)->(τ:Ty)->(x:El τ)->(us:List Value)->(vs:List TVal)->Z4o τs τ x=some vs->SPs w F St Al τs τ x us ->
  us.length=vs.length/\∀ i (h:i<vs.length),Z2F w F St Al vs[i].τ vs[i].x (us.getD i undef)
 | [],_,_,us,vs,h,hs=>by
  simp only [Z4o,Option.some.injEq] at h
  subst h
  have:us=[]:=hs
  subst this
  exact ⟨rfl,λi h=>by simp at h⟩
 | [τ'],τ,x,us,vs,h,hs=>by
  simp only [Z4o] at h
  split at h
  ·cases h
   obtain ⟨_,u,rfl,h2⟩:=hs
   refine ⟨rfl,λi hi=> ?_⟩
   cases i with
   | zero=>exact h2
   | succ i=>simp at hi
  ·cases h
 | τ'::τ''::τs,.pair a b,x,us,vs,h,hs=>by
  simp only [Z4o] at h
  split at h
  ·obtain ⟨l,hl,rfl⟩:=Option.map_eq_some_iff.1 h
   obtain ⟨_,u,us',rfl,h2,h3⟩:=hs
   obtain ⟨i1,i2⟩:=Z6h (τ''::τs) b x.2 us' l hl h3
   refine ⟨by simp [i1],λi hi=> ?_⟩
   cases i with
   | zero=>exact h2
   | succ i=>exact i2 i (by simpa using hi)
  ·cases h
 | _::_::_,.int _,_,_,_,_,h=>h.elim
 | _::_::_,.bool,_,_,_,_,h=>h.elim
 | _::_::_,.str,_,_,_,_,h=>h.elim
 | _::_::_,.unit,_,_,_,_,h=>h.elim
 | _::_::_,.slice _,_,_,_,_,h=>h.elim
end
end Go.PI
namespace Go.PI
theorem Z7k {w:World} {F:Nat->Nat} {St Al:Nat->Prop}:{τ:Ty}->{tg:List Tag}->{cs:List Value}->{x:El τ}->{fp:List Nat}->Rp w F St Al τ tg cs x fp->Z54 τ x=true->Rp w F St Al τ (List.replicate (Z06 τ) .S) cs x []
 | .int _,_,_,_,_,h,_=>⟨h.1,rfl,rfl⟩
 | .bool,_,_,_,_,h,_=>⟨h.1,rfl,rfl⟩
 | .str,_,_,_,_,h,_=>⟨h.1,rfl,rfl⟩
 | .unit,_,_,_,_,h,_=>⟨h.1,rfl,rfl⟩
 | .slice e,_,_,x,_,h,hn=>by
  obtain ⟨t,a,cap,rfl,rfl,hlc,_⟩:=h
  have hx:x=([]:List (El e)):=List.isEmpty_iff.1 hn
  exact ⟨.S,a,cap,rfl,rfl,hlc,.inr (.inr ⟨rfl,rfl,.inl hx⟩)⟩
 | .pair a b,_,_,_,_,h,hn=>by
  obtain ⟨t1,t2,c1,c2,f1,f2,rfl,rfl,rfl,h1,h2⟩:=h
  simp only [Z54,Bool.and_eq_true] at hn
  exact ⟨_,_,c1,c2,[],[],by simp [Z06],rfl,rfl,Z7k h1 hn.1,Z7k h2 hn.2⟩
section
variable {W0:Base} {M:Nat->Prop} {σ:State} {a:Act} {w:World} {G:Ghost} {xs:List Nat}
theorem Z3g (σ:State) (i:Nat):σ.renil.boxAt i=Z4j (σ.boxAt i):=Z2t _ rfl _ _
theorem Sim.fb (G:Ghost) (fb:Nat->List Nat):Sim G { G with fb:=fb }:=⟨rfl,rfl,rfl,rfl,λ_ _=>Iff.rfl⟩
theorem Z7T {b:Option TVal} {v:TVal} (h:Z4j b=some v):∃ u,b=some u/\(v=u\/(Z54 u.τ u.x=true/\v={ u with tg:=u.tg.map λ_=> .S })):=by
 cases b with
 | none=>cases h
 | some u=>
  simp only [Z4j] at h
  cases hn:u.noN
  ·cases hb:Z54 u.τ u.x
   ·rw [hn,hb] at h;cases h;exact ⟨_,rfl,.inl rfl⟩
   ·rw [hn,hb] at h;cases h;exact ⟨_,rfl,.inr ⟨hb,rfl⟩⟩
  ·rw [hn] at h;cases h;exact ⟨_,rfl,.inl rfl⟩
theorem Z9h (σ:State) (p:Place):σ.renil.ct p=σ.ct p:=by
 obtain ⟨box,root,path⟩:=p
 cases box with
 | true=>
  simp only [State.ct,State.content]
  rw [Z3g]
  cases σ.boxAt root with
  | none=>rfl
  | some u=>
   simp only [Z4j]
   cases u.noN
   ·cases Z54 u.τ u.x<;>rfl
   ·rfl
 | false=>rfl
theorem Inv.renil (I:Inv W0 M σ a w G xs):∃ fb,Inv W0 M σ.renil a w { G with fb:=fb } xs:=by
 classical
 have hL:Z85 σ σ.renil:=λp=> .inl (Z9h σ p)
 refine ⟨λi=>if σ.renil.boxAt i=σ.boxAt i then G.fb i else [],⟨I.defers,I.len,λi hi=> ?_,λi v hv=> ?_,I.whoS,λi b hm=> ?_,I.whoX,I.nodS,λi=> ?_,I.nodX,I.st,I.lt,I.ext,I.adx,⟨I.org.F,I.org.St,I.org.St'⟩,I.pin⟩⟩
 ·have h:Z01 σ G a w (σ.slot i) (a.tmps.getD i undef) (G.fs i):=I.slot i hi
  exact Z01.ghost rfl rfl (λ_=>rfl) rfl (h.less hL)
 ·by_cases he:σ.renil.boxAt i=σ.boxAt i
  ·have h:(∃ c T,w.heap[G.ad i]? = some (.cells c T (0,0))/\Rp w G.F G.St G.Al v.τ v.tg c.toList v.x (G.fb i))/\G.who (G.ad i)=some (.a i):=I.box i v (he ▸ hv)
   simp only [he,if_true]
   exact h
  ·rw [Z3g] at hv
   obtain ⟨u,hu,h⟩:=Z7T hv
   rcases h with rfl | ⟨hn,rfl⟩
   ·exact absurd (by rw [Z3g,hv,hu]) he
   ·obtain ⟨⟨c,T,hc,hR⟩,hw⟩:=I.box i u hu
    simp only [he,if_false]
    refine ⟨⟨c,T,hc,?_⟩,hw⟩
    have:=Z7k hR hn
    have e:(u.tg.map λ_=>Tag.S)=List.replicate (Z06 u.τ) .S:=by
     rw [<-hR.len.2,List.map_const']
    rw [e]
    exact this
 ·simp only [] at hm
  split at hm
  ·exact I.whoC i b hm
  ·simp at hm
 ·simp only []
  split
  ·exact I.nodC i
  ·simp
theorem Z3k:(rs:List Nat)->(l:List TVal)->σ.boxesAt rs=some l->(∀ v∈l,v.noN=true)->σ.renil.boxesAt rs=some l
 | [],l,h,_=>h
 | x::rs,l,h,hn=>by
  simp only [State.boxesAt] at h ⊢
  split at h
  ·rename_i v l' hv hl'
   cases h
   rw [Z3g,hv,Z3k rs l' hl' λu hu=>hn u (List.mem_cons_of_mem _ hu)]
   simp [Z4j,hn v (by simp)]
  ·cases h
end
end Go.PI
namespace Go.PI
section
variable {W0:Base} {M:Nat->Prop} {σ σ3:State} {a:Act} {w w' w3:World} {G G3:Ghost} {xs:List Nat} {P:Program} {R:Type} {Γ:Env R} {r:R} {tys:List (TypeId×Ty×List TypeId)}
theorem Z5c {p:Place} (h:Z08 p.path=true):(l:List TV)->(i:Nat)->(σ:State)->Z0X p l i σ=σ
 | [],_,_=>rfl
 | t::l,i,σ=>by
  have hk:Z4h p t=false:=by cases t<;>simp [Z4h,h]
  simp only [Z0X,hk,Bool.false_eq_true,if_false]
  split<;>exact Z5c h l (i+1) σ
theorem Z4L:{p:List Step}->{τ:Ty}->{x:El τ}->{tg:List Tag}->{u:TVal}->Z08 p=true->Z04 τ x tg p=some u->Z0d τ p=some u.τ
 | [],τ,x,tg,u,_,h=>by
  cases τ<;>(simp only [Z04,Option.some.injEq] at h;subst h;rw [Z1H])
 | .fst::p,.pair a b,x,tg,u,hf,h=>by
  simp only [Z04] at h
  simp only [Z0d]
  exact Z4L (p:=p) hf h
 | .snd::p,.pair a b,x,tg,u,hf,h=>by
  simp only [Z04] at h
  simp only [Z0d]
  exact Z4L (p:=p) hf h
 | .idx _::_,_,_,_,_,hf,_=>by cases hf
 | .fst::_,.int _,_,_,_,_,h=>by simp [Z04] at h
 | .fst::_,.bool,_,_,_,_,h=>by simp [Z04] at h
 | .fst::_,.str,_,_,_,_,h=>by simp [Z04] at h
 | .fst::_,.unit,_,_,_,_,h=>by simp [Z04] at h
 | .fst::_,.slice _,_,_,_,_,h=>by simp [Z04] at h
 | .snd::_,.int _,_,_,_,_,h=>by simp [Z04] at h
 | .snd::_,.bool,_,_,_,_,h=>by simp [Z04] at h
 | .snd::_,.str,_,_,_,_,h=>by simp [Z04] at h
 | .snd::_,.unit,_,_,_,_,h=>by simp [Z04] at h
 | .snd::_,.slice _,_,_,_,_,h=>by simp [Z04] at h
theorem Z0C.sim {σ':State} {G':Ghost} {p:Place} {cs:List Value} {base:Option (Nat×Nat)} (hct:σ'.ct p=σ.ct p) (had:G'.ad=G.ad) (h:Z0C σ G a w p cs base):Z0C σ' G' a w p cs base:=by
 obtain ⟨τ,l,b,h1,h2,h3⟩:=h
 exact ⟨τ,l,b,hct.trans h1,by unfold Z09 at h2 ⊢;rw [had];exact h2,h3⟩
structure Held (σ:State) (a:Act) (w:World) (G:Ghost) (p:Place) (c u:TVal) (l:List Value) (bs:Option (Nat×Nat)) (cs:List Value) (b off:Nat) (fpc fpo fpi:List Nat):Prop where
 con:σ.content p=some c
 loc:Z09 G a w p=some (l,bs)
 at_:Z00 w c.τ l bs p.path=some (cs,some (b,off))
 lens:Lens w G.F G.St G.Al c.τ c.tg l c.x fpc bs p.path cs (some (b,off)) u fpo fpi
 cell:∃ C T fr,w.heap[b]? = some (.cells C T fr)/\off+size u.τ<=C.size/\Z41 C fr
 box:p.box=true->((∃ cc T,w.heap[G.ad p.root]? = some (.cells cc T (0,0))/\l=cc.toList)/\bs=some (G.ad p.root,0)/\G.who (G.ad p.root)=some (.a p.root)/\p.root<σ.boxes.length /\
  ∀ j,j<σ.slots.length->Z1u p.root ((σ.loosen true p.root).slot j) (a.tmps.getD j undef) (Z2m (G.ad p.root) c.τ))
 slot:p.box=false->σ.slot p.root= .val c/\p.root<σ.slots.length/\l=Z02 (a.tmps.getD p.root undef)/\Z0f c.ag (a.tmps.getD p.root undef)
 flat:Z08 p.path=true->p.box=true/\b=G.ad p.root/\off=Z0g c.τ p.path
 deep:Z08 p.path=false->b∈fpo
theorem Z6I (I:Inv W0 M σ a w G xs) {p:Place} {c u:TVal} (hc:σ.content p=some c) (hu:σ.getAt p=some u) (hcO:c.allO=true) (hwh:Z5d σ p=true) (hfl:Z08 p.path=true->p.box=true)
  {cs:List Value} {base:Option (Nat×Nat)} (hplace:Z0C σ G a w p cs base) :
  ∃ l bs b off fpc fpo fpi G1,Held σ a w G p c u l bs cs b off fpc fpo fpi/\Inv W0 M (σ.hold p) a w G1 (fpi++(fpo++xs))/\Sim G G1:=by
 obtain ⟨τc,l,bs,hct,hrl,hloc⟩:=id hplace
 have:τc=c.τ:=by rw [State.ct,hc] at hct;simpa using hct.symm
 subst this
 obtain ⟨l',bs',fpc,hrl',hRc,hwc⟩:=Z0H I hc
 rw [hrl] at hrl'
 cases hrl'
 obtain ⟨c',hc',hgp⟩:=Z0D hu
 rw [hc] at hc'
 cases hc'
 have hfpw:∀ z∈fpc,G.who z=some (if p.box then .c p.root else .s p.root):=by
  intro z hz
  rcases hwc with ⟨hb,_,rfl,_⟩ | ⟨hb,_,rfl,_⟩
  ·rw [hb];exact I.whoC _ z hz
  ·rw [hb];exact I.whoS _ z hz
 have hnod:fpc.Nodup:=by
  rcases hwc with ⟨_,_,rfl,_⟩ | ⟨_,_,rfl,_⟩
  ·exact I.nodC _
  ·exact I.nodS _
 obtain ⟨fpo,fpi,L⟩:=Rp.lens (base:=bs) hRc (Z1C.1 hcO) hnod (λz hz hm=>by
  rcases hwc with ⟨hb,hbx,_,hbs⟩ | ⟨_,_,_,hbs,_⟩
  ·rw [hbs] at hz;cases hz
   have h1:=hfpw _ hm
   rw [(I.box _ _ hbx).2,hb] at h1
   cases h1
  ·rw [hbs] at hz;cases hz) hloc hgp
 have hsl:p.box=false->σ.slot p.root= .val c:=by
  intro hb
  rcases hwc with ⟨hb',_⟩ | ⟨_,_,_,_,hsl⟩
  ·rw [hb] at hb';cases hb'
  ·rcases hsl with h1 | ⟨ags,h1⟩
   ·exact h1
   ·simp only [Z5d,hb,Bool.false_or] at hwh
    rw [h1] at hwh
    cases hwh
 have hbase:∃ b off,base=some (b,off)/\(Z08 p.path=true->p.box=true/\b=G.ad p.root/\off=Z0g c.τ p.path)/\(Z08 p.path=false->b∈fpo)/\∃ C T fr,w.heap[b]? = some (.cells C T fr)/\off+size u.τ<=C.size/\Z41 C fr:=by
  cases hf:Z08 p.path with
  | false=>
   obtain ⟨b',o',m,h1,h2,h3,⟨C,T,fr,h4,h5,h6⟩⟩:=L.deep hf
   exact ⟨b',o',h1,λh=>(by cases h),λ_=>h2,C,T,fr,h4,by omega,h6⟩
  | true=>
   have hb:=hfl hf
   have h1:=L.flat hf
   rcases hwc with ⟨_,hbx,_,hbs⟩ | ⟨hb',_⟩
   ·rw [hbs] at h1
    obtain ⟨⟨cc,T,hcc,hRcc⟩,_⟩:=I.box _ _ hbx
    refine ⟨_,_,h1,λ_=>⟨hb,rfl,by simp⟩,λh=>(by cases h),cc,T,(0,0),hcc,?_,λj _ h=>by simp at h⟩
    have hτf:=Z4L hf hgp
    have h2:=(Z0V (w:=w) (base:=bs) hτf hRc.len.1).2
    have hcl:cc.toList.length=size c.τ:=hRcc.len.1
    simp only [Array.length_toList] at hcl
    omega
   ·rw [hb] at hb';cases hb'
 obtain ⟨b,off,rfl,hb1,hb2,hcell⟩:=hbase
 have hold:∃ G1,Inv W0 M (σ.hold p) a w G1 (fpc++xs)/\Sim G G1:=by
  obtain ⟨bx,root,path⟩:=p
  rcases hwc with ⟨hb,hbx,rfl,_⟩ | ⟨hb,hlt,rfl,_,_⟩
  ·simp only at hb hbx
   subst hb
   obtain ⟨G1,I1,h1,_⟩:=I.takeBox hbx
   exact ⟨G1,I1,h1⟩
  ·simp only at hb
   subst hb
   obtain ⟨G1,I1,h1,_⟩:=I.takeSlot (hsl rfl)
   exact ⟨G1,I1,h1⟩
 obtain ⟨G1,I1,h1⟩:=hold
 refine ⟨l,bs,b,off,fpc,fpo,fpi,G1,⟨hc,hrl,hloc,L,hcell,λhb=> ?_,λhb=> ?_,hb1,hb2⟩,I1.perm ?_,h1⟩
 ·rcases hwc with ⟨_,hbx,_,hbs⟩ | ⟨hb',_⟩
  ·obtain ⟨_,_,_,hwho,⟨cc,T,hcc,_⟩,hptr⟩:=I.takeBox hbx
   refine ⟨⟨cc,T,hcc,?_⟩,hbs,hwho,Z1D hbx,hptr⟩
   obtain ⟨bx,root,path⟩:=p
   simp only at hb
   subst hb
   simp only [Z09,hcc,Option.some.injEq,Prod.mk.injEq] at hrl
   exact hrl.1.symm
  ·rw [hb] at hb';cases hb'
 ·rcases hwc with ⟨hb',_⟩ | ⟨_,hlt,_,_,_⟩
  ·rw [hb] at hb';cases hb'
  ·have h2:=hsl hb
   have h3:=I.slot p.root hlt
   rw [h2] at h3
   refine ⟨h2,hlt,?_,h3.1⟩
   obtain ⟨bx,root,path⟩:=p
   simp only at hb
   subst hb
   simp only [Z09,Option.some.injEq,Prod.mk.injEq] at hrl
   exact hrl.1.symm
 ·have:=L.perm
  rw [<-List.append_assoc]
  exact List.Perm.append_right _ (this.trans List.perm_append_comm)
theorem Z6H {p:Place} {c u v:TVal} {l cs:List Value} {bs:Option (Nat×Nat)} {b off:Nat} {fpc fpo fpi fpv:List Nat} (H:Held σ a w G p c u l bs cs b off fpc fpo fpi) (I3:Inv W0 M σ3 a w3 G3 (fpv++fpo)) (hN3:σ3.noN) (had:G3.ad=G.ad)
  (hk:∀ z∈fpo,G3.F z=G.F z/\w3.heap[z]? = w.heap[z]? /\ (G.Al z->G3.Al z))
  (hbx:p.box=true->G3.who (G.ad p.root)=some (.a p.root)/\w3.heap[G.ad p.root]? = w.heap[G.ad p.root]? /\ σ3.boxAt p.root=none/\σ3.boxes.length=σ.boxes.length/\∀ j,σ3.slot j=(σ.loosen true p.root).slot j\/σ3.slot j= .dead)
  (hlen:σ3.slots.length=σ.slots.length) (hu1:size u.τ=1) (hvu:v.τ=u.τ) (hvO:∀ t∈v.tg,t= .O) {v1:Value} (h1:one v1=true) (hRv:Rp w3 G3.F G3.St G3.Al v.τ v.tg [v1] v.x fpv)
  {rr:El c.τ×List Tag} (hset:Z0K c.τ c.x c.tg p.path v=some rr) :
  ∃ G5,Inv W0 M (σ3.refill p ⟨c.τ,c.ag,rr.1,rr.2⟩) a (Z0m w3 b off [v1]) G5 []/\(σ3.refill p ⟨c.τ,c.ag,rr.1,rr.2⟩).content p=some ⟨c.τ,c.ag,rr.1,rr.2⟩ /\
   (∃ l',Z09 G5 a (Z0m w3 b off [v1]) p=some (l',bs)/\(Z08 p.path=false->l'=l))/\∃ C T fr,w3.heap[b]? = some (.cells C T fr)/\off<C.size/\Z41 C fr:=by
 obtain ⟨C,T,fr,hC,hoff,hth⟩:=H.cell
 rw [hu1] at hoff
 have hC3:w3.heap[b]? = some (.cells C T fr):=by
  cases hf:Z08 p.path with
  | false=>rw [(hk b (H.deep hf)).2.1];exact hC
  | true=>
   obtain ⟨hb,rfl,_⟩:=H.flat hf
   rw [(hbx hb).2.1];exact hC
 have hpw:w3.setRow b (Z0c C.toList off [v1]).toArray=Z0m w3 b off [v1]:=Z3X hC3
 obtain ⟨z,hz,hzc,hzb⟩:∃ z,G3.who b=some z/\(z= .x\/∃ i,z= .a i/\σ3.boxAt i=none)/\(b ∉ fpv):=by
  cases hf:Z08 p.path with
  | false=>
   refine ⟨.x,I3.whoX b (List.mem_append_right _ (H.deep hf)),.inl rfl,λhm=> ?_⟩
   exact (List.nodup_append.1 I3.nodX).2.2 b hm b (H.deep hf) rfl
  | true=>
   obtain ⟨hb,rfl,_⟩:=H.flat hf
   refine ⟨_,(hbx hb).1,.inr ⟨_,rfl,(hbx hb).2.2.1⟩,λhm=> ?_⟩
   have:=I3.whoX _ (List.mem_append_left fpo hm)
   rw [(hbx hb).1] at this
   cases this
 have hW:Wrote w3 (Z0m w3 b off [v1]) b:=by rw [<-hpw];exact Wrote.setRow w3 b _
 obtain ⟨I4,_,hl4⟩:=I3.patch hz hzc hW (G3.F b) (.inl hN3)
 have hF4:(λq=>if q=b then G3.F b else G3.F q)=G3.F:=by funext q;split<;>simp_all
 have hvN:∀ t∈v.tg,t.isN=false:=λt ht=>by rw [hvO t ht];rfl
 have hR4:=hl4 _ _ _ _ _ hRv hzb (.inl hvN)
 have hG4:({ G3 with F:=λq=>if q=b then G3.F b else G3.F q }:Ghost)=G3:=by rw [hF4]
 rw [hG4] at I4 hR4
 have hput:∀ q∈fpo,Put w G.F G.Al (Z0m w3 b off [v1]) G3.F G3.Al (some (b,off)) [v1] q:=by
  intro q hq
  obtain ⟨k1,k2,k3⟩:=hk q hq
  refine ⟨k1,k3,?_⟩
  by_cases hqb:q=b
  ·subst hqb
   simp only [Z7p,Z0m]
   rw [Array.getElem?_modify,Array.getElem?_modify,k2]
  ·rw [Z16 hqb,k2]
   exact (Z16 hqb).symm
 obtain ⟨fpn,hpn,htg,hRn⟩:=H.lens.put _ _ _ _ v _ fpv rr.1 rr.2 hset hvu hvO hR4 hput
 have I4':Inv W0 M σ3 a (Z0m w3 b off [v1]) G3 (fpn++[]):=I4.perm (by
  rw [List.append_nil]
  exact (hpn.trans List.perm_append_comm).symm)
 obtain ⟨bx,root,path⟩:=p
 cases bx with
 | true=>
  obtain ⟨⟨⟨cc,Tc,hcc,hlcc⟩,hbs,hwho,hrl,hptr⟩,⟨k1,k2,k3,k4,k5⟩⟩:=And.intro (H.box rfl) (hbx rfl)
  simp only at hcc hbs hwho hrl hptr k1 k2 k3 k4 k5
  obtain ⟨fs,I5,_⟩:=I4'.loosen true root
  obtain ⟨C',hC',hC'l⟩:∃ C':Array Value,(Z0m w3 b off [v1]).heap[G.ad root]? = some (.cells C' Tc (0,0))/\C'.toList=(if Z08 path then Z0c l (Z0g c.τ path) [v1] else l):=by
   cases hf:Z08 path with
   | false=>
    have hne:G.ad root≠b:=λh=>by
     have h2:=I3.whoX b (List.mem_append_right _ (H.deep hf))
     rw [<-h,k1] at h2
     cases h2
    refine ⟨cc,by rw [Z16 hne,k2];exact hcc,?_⟩
    simp only [Bool.false_eq_true,if_false]
    exact hlcc.symm
   | true=>
    obtain ⟨_,hb,ho⟩:=H.flat hf
    simp only at hb ho
    subst hb
    rw [hcc] at hC
    cases hC
    refine ⟨(Z0c C.toList off [v1]).toArray,?_,?_⟩
    ·simp only [Z0m]
     rw [Array.getElem?_modify,hC3]
     simp
    ·simp only [if_true]
     rw [hlcc,ho]
  have hR5:Rp (Z0m w3 b off [v1]) G3.F G3.St G3.Al c.τ rr.2 C'.toList rr.1 fpn:=by rw [hC'l];exact hRn
  obtain ⟨G5,J,e1,e2,e3,e4,e5⟩:=Inv.addBox (xs:=[]) I5 (i:=root) (g:=G.ad root) (c:=C') (T:=Tc) (v:=⟨c.τ,c.ag,rr.1,rr.2⟩) (by
   show root<σ3.boxes.length
   rw [k4];exact hrl) hC' k1 hR5 (λj hj=>by
   have hj':j<σ.slots.length:=by
    have:j<σ3.slots.length:=by simpa [State.loosen,Z0b] using hj
    omega
   refine (hptr j hj').or_dead ?_
   rw [Z0i]
   rcases k5 j with h | h
   ·rw [h];exact TV.loosen_or _ _ _
   ·rw [h];exact .inr rfl) (.inr (by show G3.ad root=_;rw [had]))
  refine ⟨G5,J,?_,?_,C,T,fr,hC3,by omega,hth⟩
  ·show ((σ3.loosen true root).putBox root _).boxAt root=_
   rw [Z0E,if_pos ⟨rfl,by
    show root<σ3.boxes.length
    rw [k4];exact hrl⟩]
  ·refine ⟨C'.toList,?_,λhf=> ?_⟩
   ·have:G5.ad root=G.ad root:=by rw [e5];exact if_pos rfl
    simp only [Z09]
    rw [this,hC',hbs]
   ·simp only at hf
    rw [hC'l,hf];rfl
 | false=>
  obtain ⟨hsl,hrl,hll,hsh⟩:=H.slot rfl
  simp only at hsl hrl hll hsh
  have hf:Z08 path=false:=by
   cases hf:Z08 path with
   | false=>rfl
   | true=>have:=(H.flat hf).1;cases this
  simp only [hf,Bool.false_eq_true,if_false] at hRn
  have hR5:Rp (Z0m w3 b off [v1]) G3.F G3.St G3.Al c.τ rr.2 (Z02 (a.tmps.getD root undef)) rr.1 fpn:=by rw [<-hll];exact hRn
  obtain ⟨G5,J,hs5⟩:=I4'.put (i:=root) (tv:= .val ⟨c.τ,c.ag,rr.1,rr.2⟩) (v:=a.tmps.getD root undef) ⟨hsh,hR5⟩ (λhi=>I3.pin root hi) (.inr rfl)
  rw [Z4R] at J
  have hbsn:bs=none:=by
   have:=H.loc
   simp only [Z09,Option.some.injEq,Prod.mk.injEq] at this
   exact this.2.symm
  refine ⟨G5,J,?_,⟨l,?_,λ_=>rfl⟩,C,T,fr,hC3,by omega,hth⟩
  ·show (match ((σ3.put root (.val ⟨c.τ,c.ag,rr.1,rr.2⟩))).slot root with | .val v=>some v | .tup v _=>some v | _=>none)=_
   rw [Z4J,if_pos ⟨rfl,by omega⟩]
  ·simp only [Z09]
   rw [hll,hbsn]
end
end Go.PI
namespace Go.PI
section
variable {W0:Base} {M:Nat->Prop} {σ σ3:State} {a:Act} {w w' w3:World} {G G3:Ghost} {xs:List Nat} {P:Program} {R:Type} {Γ:Env R} {r:R} {tys:List (TypeId×Ty×List TypeId)}
theorem Z5A (I:Inv W0 M σ a w G xs) {p:Place} {c u cv:TVal} {l cs:List Value} {bs:Option (Nat×Nat)} {b off:Nat} {fpc fpo fpi:List Nat} (H:Held σ a w G p c u l bs cs b off fpc fpo fpi) {σ':State} {G5:Ghost} {v1:Value} {d:Nat}
  (I5:Inv W0 M σ' a (Z0m w3 b off [v1]) G5 []) (hcv:σ'.content p=some cv) (hcτ:cv.τ=c.τ) (hloc:∃ l',Z09 G5 a (Z0m w3 b off [v1]) p=some (l',bs)/\(Z08 p.path=false->l'=l)) (hcell:∃ C T fr,w3.heap[b]? = some (.cells C T fr)/\off<C.size/\Z41 C fr)
  (h1:one v1=true) (hnd:W0.np<=d) (hdl:d<σ.slots.length) (hdr:p.box=true\/d≠p.root) (h1i:Z2M p.path=true) :
  ∃ G6,HoleSt W0 M ((Z0X p σ.slots 0 σ').puto (some d) .dead) (a.put (some d) v1) w3 d p (Z0m w3 b off [v1]) G6 b off v1:=by
 obtain ⟨l',hl1,hl2⟩:=hloc
 have hres:∃ G6,Inv W0 M (Z0X p σ.slots 0 σ') a (Z0m w3 b off [v1]) G6 []/\(Z0X p σ.slots 0 σ').ct p=some c.τ/\Z09 G6 a (Z0m w3 b off [v1]) p=some (l',bs):=by
  cases hf:Z08 p.path with
  | true=>
   rw [Z5c hf]
   exact ⟨G5,I5,by rw [State.ct,hcv,<-hcτ];rfl,hl1⟩
  | false=>
   have hll:=hl2 hf
   subst hll
   obtain ⟨G6,J,RA,hs⟩:=Inv.restore (σ:=σ) (G:=G) (w:=w) (p:=p) (λi hi=>⟨_,I.slot i hi⟩) I.pin σ.slots 0 σ' G5 (λj=>by rw [Nat.zero_add];rfl) I5 ⟨by
     have h2:σ.ct ⟨p.box,p.root,[]⟩=some c.τ:=by
      have:σ.content ⟨p.box,p.root,[]⟩=some c:=H.con
      rw [State.ct,this];rfl
     have h3:σ'.ct ⟨p.box,p.root,[]⟩=some c.τ:=by
      have:σ'.content ⟨p.box,p.root,[]⟩=some cv:=hcv
      rw [State.ct,this,<-hcτ];rfl
     rw [h2,h3],⟨cv,hcv⟩,by
     have h2:Z09 G a w ⟨p.box,p.root,[]⟩=some (l',bs):=H.loc
     have h3:Z09 G5 a (Z0m w3 b off [v1]) ⟨p.box,p.root,[]⟩=some (l',bs):=hl1
     rw [h2,h3]⟩
   refine ⟨G6,J,?_,?_⟩
   ·have h2:σ.ct ⟨p.box,p.root,[]⟩=some c.τ:=by
     have:σ.content ⟨p.box,p.root,[]⟩=some c:=H.con
     rw [State.ct,this];rfl
    exact RA.ct.trans h2
   ·exact RA.loc.trans H.loc
 obtain ⟨G6,J,hct,hrl⟩:=hres
 have hq3:∃ cs',Z00 (Z0m w3 b off [v1]) c.τ l' bs p.path=some (cs',some (b,off)):=by
  cases hf:Z08 p.path with
  | true=>exact Z2h hf H.at_
  | false=>
   have hll:=hl2 hf
   subst hll
   obtain ⟨c',hc'⟩:∃ c',(Z0X p σ.slots 0 σ').content p=some c':=by
    cases hcc:(Z0X p σ.slots 0 σ').content p with
    | none=>rw [State.ct,hcc] at hct;cases hct
    | some c'=>exact ⟨c',rfl⟩
   obtain ⟨l'',bs'',fp'',hrl',hR',_⟩:=Z0H J hc'
   rw [hrl] at hrl'
   cases hrl'
   have hτ:c'.τ=c.τ:=by rw [State.ct,hc'] at hct;simpa using hct
   obtain ⟨cτ,cag,cx,ctg⟩:=c'
   simp only at hτ hR'
   subst hτ
   exact Z3W hR' h1i H.at_
 obtain ⟨cs',hq3⟩:=hq3
 obtain ⟨G7,J7,hs7⟩:=Inv.puto (fp:=[]) (xs:=[]) J (d:=some d) (tv:= .dead) (v:=v1) rfl (λi hi hlt=>by
  simp only [Option.some.injEq] at hi
  omega)
 refine ⟨G7,J7,rfl,?_,h1,⟨c.τ,l',bs,cs',?_,?_,hq3⟩,hcell⟩
 ·simp only [Act.put]
  rw [Array.getD_eq_getD_getElem?,Array.getElem?_setIfInBounds_self_of_lt (by rw [I.len];exact hdl)]
  rfl
 ·rw [Z59 (hdr.imp id λh e=>h (by simpa using e))]
  exact hct
 ·rw [<-hrl]
  obtain ⟨bx,root,path⟩:=p
  cases bx with
  | true=>simp only [Z09];rw [hs7.ad]
  | false=>
   simp only [Z09]
   rw [Z58 (by
    rcases hdr with h | h
    ·cases h
    ·exact λe=>h (by simpa using e))]
theorem Z73 (hT:Z0e P tys) {e:Ty} {sT xT ty et et2:TypeId} {le:List TypeId} (hu:P.underlying sT=some (.slice et)) (hux:P.underlying xT=some (.slice et2)) (hea:Z0o tys et=some (e,le))
  {fp1 fp2:List Nat} (I:Inv W0 M σ a w G (fp2++(fp1++xs))) (hN:σ.noN) {t':Tag} (ht':t'.isN=false) {ad ad':Option Addr} {n cap n' cap':Nat} {l m:List (El e)}
  (hR1:Rp w G.F G.St G.Al (.slice e) [.O] [.slice ad n cap] l fp1) (hR2:Rp w G.F G.St G.Al (.slice e) [t'] [.slice ad' n' cap'] m fp2) (hlim:lim (l.length+m.length)=true) (ht0:t'.isO=true\/Z06 e=0) :
  ∃ v w' G' fp,(Builtin.append_ #[sT,xT] ty #[.slice ad n cap,.slice ad' n' cap']).run P w= .ok v w'/\Inv W0 M σ a w' G' (fp++xs)/\Z0f false v/\Rp w' G'.F G'.St G'.Al (.slice e) [.O] (Z02 v) (l++m) fp/\(∃ G1,Calmer w G w' G1) /\
   G'.ad=G.ad/\(∀ z∈xs,G'.F z=G.F z/\w'.heap[z]? = w.heap[z]? /\ (G.Al z->G'.Al z))/\∀ b i,G.who b=some (.a i)->G'.who b=some (.a i)/\w'.heap[b]? = w.heap[b]? := by
 classical
 have htag:(.O:Tag)=(if Z06 e==0 then Tag.O else Tag.O.inner.meet t'.inner).over:=by
  rcases ht0 with h | h
  ·cases t'<;>first | (cases h;done) | skip
   split<;>rfl
  ·simp [h];rfl
 obtain ⟨v,w',Gp,fpp,hrun,_,hsh,_,hcalm⟩:=Z4r (ty:=ty) hT hu hux hea I rfl hR1 hR2 hlim rfl
 have hnod:(fp2++fp1).Nodup:=by
  have:=I.nodX
  rw [<-List.append_assoc] at this
  exact (List.nodup_append.1 this).1
 have hgx:∀ b∈fp2++fp1,G.who b=some .x:=λb hb=>I.whoX b (by
  rcases List.mem_append.1 hb with h | h
  ·exact List.mem_append_left _ h
  ·exact List.mem_append_right _ (List.mem_append_left _ h))
 let W1:Base:={ toWorld:=w,ad0:=λ_=>0,F0:=G.F,St0:=G.St,np:=0,arg:=λ_=>undef }
 let G1:Ghost:={ F:=G.F,St:=G.St,who:=λb=>if b∈fp2++fp1 then some .x else none,fs:=λ_=>[],fb:=λ_=>[],ad:=λ_=>0 }
 have hw1:∀ b∈fp2++fp1,G1.who b=some .x:=λb hb=>if_pos hb
 have hAl:∀ b∈fp2++fp1,G1.Al b:=λb hb=>⟨λi h=>(by rw [hw1 b hb] at h;cases h),λh=>(by rw [hw1 b hb] at h;cases h)⟩
 have J:Inv W1 (·∈ fp2++fp1) ⟨[],[]⟩ { a with tmps:= #[] } w G1 (fp2++(fp1++[])):=by
  refine ⟨I.defers,rfl,λi hi=>(by simp at hi),λi v hv=> ?_,λi b hb=>(by cases hb),λi b hb=>(by cases hb),λb hb=>hw1 b (by simpa using hb),λi=>List.nodup_nil,λi=>List.nodup_nil,by simpa using hnod,λb hb=> ?_,λb z hz=> ?_,Ext.refl _ _,λi _=>rfl,⟨λ_ _ _=>rfl,λb hb=>hb,λb hb=> .inl hb⟩,λi hi=>(by simp [W1] at hi)⟩
  ·simp [State.boxAt,Z0y] at hv
  ·have h2:=I.st b hb
   refine ⟨if_neg λhm=> ?_,h2.2⟩
   rw [hgx b hm] at h2
   cases h2.1
  ·have hm:b∈fp2++fp1:=by
    by_cases hm:b∈fp2++fp1
    ·exact hm
    ·have:G1.who b=none:=if_neg hm
     rw [this] at hz;cases hz
   exact ⟨(I.lt b _ (hgx b hm)).1,.inr hm⟩
 have hR1':Rp w G1.F G1.St G1.Al (.slice e) [.O] [.slice ad n cap] l fp1:=hR1.narrow (by simp [Tag.isN]) λb hb=>hAl b (List.mem_append_right _ hb)
 have hR2':Rp w G1.F G1.St G1.Al (.slice e) [t'] [.slice ad' n' cap'] m fp2:=hR2.narrow (by simpa using ht') λb hb=>hAl b (List.mem_append_left _ hb)
 obtain ⟨v2,w2,G2,fp,hrun2,J2,_,hRr,_⟩:=Z4r (ty:=ty) hT hu hux hea J rfl hR1' hR2' hlim rfl
 rw [hrun] at hrun2
 simp only [Result.ok.injEq] at hrun2
 obtain ⟨rfl,rfl⟩:=hrun2
 rw [<-htag] at hRr
 have I':Inv W0 M σ a w G ((fp2++fp1)++xs):=by rw [List.append_assoc];exact I
 rw [List.append_nil] at J2
 have hfpx:∀ b∈fp,G2.who b=some .x:=J2.whoX
 obtain ⟨G',I5,gF,gad,gS,gA,gSs,gR,_,_,_,gAl,gW⟩:=Z3s (R:=fp) (ads:=[]) (gs:=fp2++fp1) (ks:=xs) (F':=G2.F) (St':=G2.St) I' (by simp) (.inl hN) (Sc:=G.St) (λ_ h=>h) (Ghost.St_Al I) (by simpa using J2.ext)
  (λb hb hm=>J2.org.F b hb (by simpa using hm)) J2.org.St (λb hb=>⟨by simpa using J2.org.St' b hb,(J2.st b hb).2⟩) (by simpa using J2.nodX) (λb hb=>by
   have hb:b∈fp:=by simpa using hb
   have h2:=J2.lt b _ (hfpx b hb)
   refine ⟨by simpa using h2.2,h2.1,λh=> ?_⟩
   have:=(J2.st b h).1
   rw [hfpx b hb] at this
   cases this)
 have hout:∀ b,b<w.heap.size->b ∉ fp2++fp1->G'.F b=G.F b/\w'.heap[b]? = w.heap[b]? := λb hb hm=>⟨by rw [gF];exact J2.org.F b hb hm,J2.ext.block b hb hm⟩
 refine ⟨v,w',G',fp,hrun,I5,hsh,?_,⟨_,hcalm⟩,gad,λz hz=> ?_,λb i hb=> ?_⟩
 ·rw [gF]
  exact (hRr.narrow (Al':=G'.Al) (by simp [Tag.isN]) λb hb=>gR b hb).pres (gSs λ_ h=>h) (λ_ _ h=>h) (λb _=>Z07.refl _ _ _) (λb _=>⟨Z07.refl _ _ _,rfl⟩) (.inr λb _ _=>Z07.refl _ _ _)
 ·have hzx:G.who z=some .x:=I.whoX z (List.mem_append_right _ (List.mem_append_right _ hz))
  have hlt:=(I.lt z _ hzx).1
  have hnm:z ∉ fp2++fp1:=λhm=>(List.nodup_append.1 I'.nodX).2.2 z hm z hz rfl
  obtain ⟨h1,h2⟩:=hout z hlt hnm
  exact ⟨h1,h2,gAl z hlt⟩
 ·have hlt:=(I.lt b _ hb).1
  have hnm:b ∉ fp2++fp1:=λhm=>by
   have:=hgx b hm
   rw [hb] at this
   cases this
  exact ⟨gW b _ hb (by simp),(hout b hlt hnm).2⟩
end
end Go.PI
namespace Go.PI
section
variable {W0:Base} {M:Nat->Prop} {σ:State} {a:Act} {w w':World} {G:Ghost} {P:Program} {R:Type} {Γ:Env R} {r:R}
theorem Z3F:(ms:List Mode)->(os:List Operand)->(σ:State)->(A:Args)->(k:Args->State->Option R)->ms.all Mode.isBorrow=true->Z0n ms os σ A k=some r ->
  Z0n ms os σ A (λA' σ'=>if A'.writes=A.writes then k A' σ' else none)=some r
 | [],[],σ,A,k,_,h=>by simpa [Z0n] using h
 | [],_::_,σ,A,k,_,h=>by simp [Z0n] at h
 | .borrow τ ag::ms,[],σ,A,k,_,h=>by simp [Z0n] at h
 | .borrow τ ag::ms,o::os,σ,A,k,hb,h=>by
  simp only [Z0n] at h ⊢
  have hb':ms.all Mode.isBorrow=true:=by simpa [Mode.isBorrow] using hb
  split at h
  ·split at h
   ·rename_i hc
    rw [if_pos hc]
    exact Z3F ms os _ _ k hb' h
   ·cases h
  ·split at h
   ·split at h
    ·rename_i hc
     rw [if_pos hc]
     exact Z3F ms os _ _ k hb' h
    ·cases h
   ·cases h
 | .consume τ ag::ms,os,σ,A,k,hb,h=>by simp [Mode.isBorrow] at hb
 | .eat τ ag::ms,os,σ,A,k,hb,h=>by simp [Mode.isBorrow] at hb
 | .inout τ ag::ms,os,σ,A,k,hb,h=>by simp [Mode.isBorrow] at hb
 | .look τ ag::ms,os,σ,A,k,hb,h=>by simp [Mode.isBorrow] at hb
 | .rptr τ::ms,os,σ,A,k,hb,h=>by simp [Mode.isBorrow] at hb
 | .rclos g τs::ms,os,σ,A,k,hb,h=>by simp [Mode.isBorrow] at hb
 | .ptr τ::ms,os,σ,A,k,hb,h=>by simp [Mode.isBorrow] at hb
 | .clos f τs::ms,os,σ,A,k,hb,h=>by simp [Mode.isBorrow] at hb
theorem Z2d:(ms:List Mode)->(os:List Operand)->(σ:State)->(A:Args)->(k:Args->State->Option R)->ms.all Mode.noLend=true->Z0n ms os σ A k=some r ->
  Z0n ms os σ A (λA' σ'=>if A'.lent=A.lent then k A' σ' else none)=some r
 | [],[],σ,A,k,_,h=>by simpa [Z0n] using h
 | [],_::_,σ,A,k,_,h=>by simp [Z0n] at h
 | .borrow τ ag::ms,[],σ,A,k,_,h=>by simp [Z0n] at h
 | .borrow τ ag::ms,o::os,σ,A,k,hb,h=>by
  simp only [Z0n] at h ⊢
  have hb':ms.all Mode.noLend=true:=by simpa [Mode.noLend] using hb
  split at h
  ·split at h
   ·rename_i hc
    rw [if_pos hc]
    exact Z2d ms os _ _ k hb' h
   ·cases h
  ·split at h
   ·split at h
    ·rename_i hc
     rw [if_pos hc]
     exact Z2d ms os _ _ k hb' h
    ·cases h
   ·cases h
 | .consume τ ag::ms,[],σ,A,k,hb,h=>by simp [Z0n] at h
 | .consume τ ag::ms,o::os,σ,A,k,hb,h=>by
  simp only [Z0n] at h ⊢
  have hb':ms.all Mode.noLend=true:=by simpa [Mode.noLend] using hb
  split at h
  ·split at h
   ·rename_i hc
    rw [if_pos hc]
    exact Z2d ms os _ _ k hb' h
   ·cases h
  ·cases h
 | .eat τ ag::ms,[],σ,A,k,hb,h=>by simp [Z0n] at h
 | .eat τ ag::ms,o::os,σ,A,k,hb,h=>by
  simp only [Z0n] at h ⊢
  have hb':ms.all Mode.noLend=true:=by simpa [Mode.noLend] using hb
  split at h
  ·split at h
   ·rename_i hc
    rw [if_pos hc]
    exact Z2d ms os _ _ k hb' h
   ·cases h
  ·cases h
 | .inout τ ag::ms,os,σ,A,k,hb,h=>by simp [Mode.noLend] at hb
 | .look τ ag::ms,os,σ,A,k,hb,h=>by simp [Mode.noLend] at hb
 | .rptr τ::ms,os,σ,A,k,hb,h=>by simp [Mode.noLend] at hb
 | .rclos g τs::ms,os,σ,A,k,hb,h=>by simp [Mode.noLend] at hb
 | .ptr τ::ms,os,σ,A,k,hb,h=>by simp [Mode.noLend] at hb
 | .clos f τs::ms,os,σ,A,k,hb,h=>by simp [Mode.noLend] at hb
theorem Z8c {g:FuncId} {sig:Sig R} (hs:Z18 P g sig) {vals:List TVal} {fps:List (List Nat)} {args:List Value}
  {kk:List TVal->List TVal->List TVal->Option R} (I:Inv W0 M σ a w G []) (hargs:Z0s w G sig.modes args vals fps []) (hf0:fps.flatten=[]) (hrd:sig.modes.all Mode.reads=true)
  (hrun:sig.run vals [] kk=some r) :
  Calls P g args.toArray w λe w'=>∃ v res G' fs,e= .returned v/\kk res [] []=some r/\Inv W0 M σ a w' G' (fs.flatten++[])/\Calmer w G w' G' /\
   ∃ vs,v=Z1I vs/\Z0j w' G' (res.map (TVal.back (vals.all TVal.noN))) vs fs:=by
 have hlt:∀ b,G.Al b->b<w.heap.size:=λb hb=>by
  cases hz:G.who b with
  | none=>exact (I.st b (hb.2 hz)).2
  | some z=>exact (I.lt b z hz).1
 have main:∀ (Sc:Nat->Prop),(∀ b,G.St b->Sc b)->(∀ b,Sc b->G.Al b)->Z0u w G.F Sc sig.modes vals args fps [] ->
   Calls P g args.toArray w λe w'=>∃ v res G' fs F' St' vs,e= .returned v/\kk res [] []=some r/\Inv W0 M σ a w' G' (fs.flatten++[])/\Calmer w G w' G' /\
    v=Z1I vs/\Z3b w' F' St' res vs fs/\G'.F=F'/\(∀ b,St' b->G'.Al b)/\((∀ b,Sc b->G.St b)->∀ b,St' b->G'.St b)/\(∀ b∈fs.flatten,G'.Al b):=by
  intro Sc hc1 hc2 hA
  refine (hs.2 vals [] kk r hrun w G.F Sc args [] fps [] hA trivial (by simp [hf0]) (λb hb=>⟨hlt b (hc2 b hb),by simp [hf0]⟩) (by simp [hf0])).mono λe w'=> ?_
  rintro ⟨v,res,ios,ext',rfl,hk,⟨hty,_,_⟩,hexn,F',St',vs,rfps,efps',⟨rfl,hil,_⟩,hres,hbox,hE,hF,hS1,hS2,hndr,hR⟩
  rw [Z0s.noIo _ _ _ _ _ hargs] at hil hres
  have hios:ios=[]:=List.length_eq_zero_iff.1 hil
  subst hios
  rw [List.append_nil,List.append_nil] at hres
  obtain ⟨rfl,rfl⟩:=Z1c.nils hbox
  simp only [hf0,List.flatten_nil,List.append_nil,List.nil_append] at hE hF hS2 hndr hR
  obtain ⟨G4,I4,gF,gad,gS,gA,gSs,gR,gads,gC,_⟩:=Z3s (R:=rfps.flatten) (ads:=[]) (gs:=[]) (ks:=[]) I (by simp) (.inr rfl) (Sc:=Sc) hc1 hc2 (by simpa using hE) (λb hb hm=>hF b hb (by simp)) hS1
   (λb hb=>by simpa using hS2 b hb) (by simpa using hndr) (λb hb=>by simpa using hR b (by simpa using hb))
  exact ⟨_,res,G4,rfps,F',St',vs,rfl,hk,by simpa using I4,gC rfl,rfl,hres,gF,gA,gSs,gR⟩
 by_cases hn:vals.all TVal.noN=true
 ·refine (main G.St (λ_ h=>h) (Ghost.St_Al I) ?_).mono λe w'=> ?_
  ·exact Z2s I _ _ _ _ [] hargs (by simpa [List.all_eq_true] using hn) (by intro q hq;cases hq)
  ·rintro ⟨v,res,G',fs,F',St',vs,he,hk,I',hC,hv,hres,gF,gA,gS,gR⟩
   refine ⟨v,res,G',fs,he,hk,I',hC,vs,hv,?_⟩
   rw [hn,Z4U]
   exact Z3A gF (gS λ_ h=>h) res vs fs hres gR
 ·refine (main G.Al (Ghost.St_Al I) (λ_ h=>h) ?_).mono λe w'=> ?_
  ·exact Z4t I _ _ _ _ [] hargs hrd (by intro q hq;cases hq)
  ·rintro ⟨v,res,G',fs,F',St',vs,he,hk,I',hC,hv,hres,gF,gA,gS,gR⟩
   refine ⟨v,res,G',fs,he,hk,I',hC,vs,hv,?_⟩
   have:vals.all TVal.noN=false:=by simpa using hn
   rw [this]
   exact Z5b gF gA res vs fs hres gR
theorem Z9C {α β:Type} (l:List α) (m:List β) (h:l.length=m.length):(l.zip m).map (·.1)=l:=List.map_fst_zip (by omega)
theorem Z9D {α β:Type} (l:List α) (m:List β) (h:l.length=m.length):(l.zip m).map (·.2)=m:=List.map_snd_zip (by omega)
theorem Z7s (res:List TVal) (k:TV->State->Option R) (σ4:State):(match res with
  | []=>k .dead σ4
  | [r]=>k (.val r) σ4
  | rs=>k (.tup (Z2r rs) (rs.map (·.ag))) σ4)=k (Z70 res) σ4:=by
 match res with
 | []=>rfl
 | [r]=>rfl
 | _::_::_=>rfl
theorem Z8H (hS:∀ g sig,Z0o Γ.fns g=some sig->Z18 P g sig):Z71 P Γ:=by
 intro W0 M σ a w G o c f k r K Q I hop hcal h hK
 rw [hop] at h
 simp only [Z0N,hcal] at h
 split at h
 ·rename_i g ps hpk
  split at h
  ·rename_i sig hsig
   have hs:=hS g sig hsig
   obtain ⟨fn,cd,hf1,hf2,hf3⟩:=hs.1
   have hpe:=Z0w I f (by rw [hpk];intro v ags hh;cases hh)
   rw [hpk] at hpe
   obtain ⟨_,us,hev,husz,hus⟩:=hpe
   have hrunc:=Z5L (P:=P) (a:=a) (w:=w) hop hcal hev hf1 hf2 hf3
   split at h
   ·rename_i hlook
    simp only [Bool.and_eq_true] at hlook
    split at h
    ·rename_i cvs hcv
     obtain ⟨j1,_,j3⟩:=Z3o I ps us.toList cvs hcv (by simpa using husz) (λi hi=>by
      have:=(hus i hi).2.2
      rwa [Array.getD_eq_getD_getElem?,<-Array.getElem?_toList,<-List.getD_eq_getElem?_getD] at this)
     have hargs:(c.args.map a.eval++us)=(c.args.toList.map a.eval++us.toList).toArray:=by
      apply Array.ext'
      simp
     unfold Oper.wp
     rw [hrunc,hargs,Oper.upon_enter]
     refine (Z6C hs I hlook.1 (by rw [j1];simpa using husz) j3 h).mono λe w'=> ?_
     rintro ⟨res,G',fs,vs,rfl,hk,I',ho,hC⟩
     exact hK _ _ _ _ _ _ hk I' (Z4m _ vs fs ho) hC.all
    ·cases h
   rename_i hnl
   have hnl':(sig.modes.all Mode.isSee&& !sig.modes.isEmpty)=false:=by
    cases hx:(sig.modes.all Mode.isSee&& !sig.modes.isEmpty) with
    | false=>rfl
    | true=>
     rw [Bool.and_eq_true] at hx
     refine absurd ?_ hnl
     rw [Bool.and_eq_true]
     refine ⟨List.all_eq_true.2 λm hm=> ?_,hx.2⟩
     have:=List.all_eq_true.1 hx.1 m hm
     cases m<;>first | rfl | cases this
   have hcases:(∃ τ ag ms o1 os,sig.modes= .inout τ ag::ms/\c.args.toList=o1::os/\ps=[]/\Z5T sig τ ag ms o1 os σ k=some r)\/Z8a sig c.args.toList ps σ k=some r:=by
    clear husz hus hpk
    split at h
    ·rename_i τ ag ms o1 os e1 e2
     exact .inl ⟨τ,ag,ms,o1,os,e1,e2,rfl,h⟩
    ·exact .inr h
   clear h
   rcases hcases with ⟨τ,ag,ms,o1,os,e1,e2,rfl,h⟩ | h
   ·have hnt:¬ Z1B Γ o.op=true:=by
     intro ht
     rw [hop] at ht
     simp only [Z1B,hcal] at ht
     cases f with
     | func fg=>
      simp only [State.peek,TV.clos.injEq] at hpk
      obtain ⟨rfl,_⟩:=hpk
      simp only [hsig,hnl',Bool.or_false] at ht
      rw [e1] at ht
      simp [Mode.isBorrow] at ht
     | _=>simp at ht
    have hnh:¬ Z1O Γ o.op=true:=by
     intro ht
     rw [hop] at ht
     simp only [Z1O,hcal] at ht
     cases f with
     | func fg=>
      simp only [State.peek,TV.clos.injEq] at hpk
      obtain ⟨rfl,_⟩:=hpk
      simp only [hsig,hnl',Bool.or_false] at ht
      rw [e1] at ht
      simp [Mode.noLend] at ht
     | _=>simp at ht
    have hus0:us= #[]:=Array.eq_empty_of_size_eq_zero (by rw [husz];rfl)
    have hargs:(c.args.map a.eval++us)=((o1::os).map a.eval).toArray:=by
     apply Array.ext'
     rw [hus0]
     simp [e2]
    unfold Oper.wp
    rw [hrunc,hargs,Oper.upon_enter]
    refine (Z9s hs I e1 h).mono λe w'=> ?_
    rintro ⟨res,σ',G',fs,vs,rfl,hk,I',ho⟩
    exact hK _ _ _ _ _ _ hk I' (Z4m _ vs fs ho) ⟨λht=>absurd ht hnt,λht=>absurd ht hnh⟩
   unfold Z8a at h
   split at h
   ·rename_i hc
    simp only [Bool.and_eq_true,beq_iff_eq] at hc
    obtain ⟨⟨hl',hip⟩,hwh⟩:=hc
    have htame:Z1B Γ o.op=true->sig.modes.all Mode.isBorrow=true/\ps=[]:=by
     intro ht
     rw [hop] at ht
     simp only [Z1B,hcal] at ht
     cases f with
     | func fg=>
      simp only [State.peek,TV.clos.injEq] at hpk
      obtain ⟨rfl,rfl⟩:=hpk
      simp only [hsig,hnl',Bool.or_false] at ht
      exact ⟨ht,rfl⟩
     | _=>simp at ht
    have hhalf:Z1O Γ o.op=true->sig.modes.all Mode.noLend=true/\ps=[]:=by
     intro ht
     rw [hop] at ht
     simp only [Z1O,hcal] at ht
     cases f with
     | func fg=>
      simp only [State.peek,TV.clos.injEq] at hpk
      obtain ⟨rfl,rfl⟩:=hpk
      simp only [hsig,hnl',Bool.or_false] at ht
      exact ⟨ht,rfl⟩
     | _=>simp at ht
    let kk:Args->State->Option R:=λA σ1=>
     let lent:=A.lent++ps.map (·.root)
     if Z4k lent&&(!A.writes||A.vals.all λv=>v.noN) then
      match σ1.boxesAt lent with
      | some ext=>if ext.all TVal.noN then sig.run A.vals ext λres ios ext'=>
        let stable:=A.writes||A.vals.all TVal.noN
        let σ2:=if A.writes then σ1.renil.kill else σ1
        let σ4:=σ2.putBoxes lent ext'
        if ios.isEmpty then
         (match res.map (TVal.back stable) with
          | []=>k .dead σ4
          | [r]=>k (.val r) σ4
          | rs=>k (.tup (Z2r rs) (rs.map (·.ag))) σ4) else none
       else none
      | none=>none
     else none
    have h:Z0n (sig.modes.take c.args.toList.length) c.args.toList σ ⟨[],[],!ps.isEmpty⟩ kk=some r:=h
    have h:Z0n (sig.modes.take c.args.toList.length) c.args.toList σ ⟨[],[],!ps.isEmpty⟩ (λA σ1=>if Z1B Γ o.op=true->A.writes=false then kk A σ1 else none)=some r:=by
     by_cases ht:Z1B Γ o.op=true
     ·obtain ⟨hb1,hb2⟩:=htame ht
      have:=Z3F _ _ _ _ _ (List.all_eq_true.2 λm hm=>List.all_eq_true.1 hb1 m (List.mem_of_mem_take hm)) h
      subst hb2
      simpa [ht] using this
     ·simpa [ht] using h
    have h:Z0n (sig.modes.take c.args.toList.length) c.args.toList σ ⟨[],[],!ps.isEmpty⟩ (λA σ1=>if Z1O Γ o.op=true->A.lent=[] then (if Z1B Γ o.op=true->A.writes=false then kk A σ1 else none) else none)=some r:=by
     by_cases ht:Z1O Γ o.op=true
     ·obtain ⟨hb1,hb2⟩:=hhalf ht
      have:=Z2d _ _ _ _ _ (List.all_eq_true.2 λm hm=>List.all_eq_true.1 hb1 m (List.mem_of_mem_take hm)) h
      subst hb2
      simpa [ht] using this
     ·simpa [ht] using h
    obtain ⟨vs,fps,ls,A,σ1,G1,h1,h2,h3,h4,I1,hup,hct,hlen,hAr,hpt⟩:=Z1K _ _ _ _ _ _ _ h I
    split at h1
    rotate_left
    ·cases h1
    rename_i hhw
    split at h1
    ·rename_i htw
     have h2:A.vals=vs:=by simpa using h2
     have h3:A.lent=ls.map (·.1):=by simpa using h3
     let ls':List (Nat×Value):=(ps.map (·.root)).zip us.toList
     have hl1:ls'.map (·.1)=ps.map (·.root):=Z9C _ _ (by simp [husz])
     have hl2:ls'.map (·.2)=us.toList:=Z9D _ _ (by simp [husz])
     have hll:ls'.length=ps.length:=by simp [ls',husz]
     have hAr':=Z0s.append_ptr hip (by rw [hl',hll]) _ _ _ _ _ hAr
     rw [List.take_append_drop,hl2] at hAr'
     have hlent:A.lent++ps.map (·.root)=(ls++ls').map (·.1):=by rw [h3,List.map_append,hl1]
     have hpt':∀ q∈ls++ls',Z0x σ G a w ⟨true,q.1,[]⟩ q.2:=by
      intro q hq
      rcases List.mem_append.1 hq with hq | hq
      ·exact hpt q hq
      ·obtain ⟨i,hi,rfl⟩:=List.mem_iff_getElem.1 hq
       have hips:i<ps.length:=by omega
       obtain ⟨q1,q2,q3⟩:=hus i hips
       have hw:=List.all_eq_true.1 hwh ps[i] (List.getElem_mem _)
       simp only [Place.whole,Bool.and_eq_true,List.isEmpty_iff] at hw
       have hq1:ls'[i].1=ps[i].root:=by simp [ls']
       have hq2:ls'[i].2=us.getD i undef:=by
        have:i<us.size:=by rw [husz];exact hips
        simp [ls',this]
       rw [hq1,hq2]
       have:ps[i]=⟨true,ps[i].root,[]⟩:=by
        have e1:=hw.1
        have e2:=hw.2
        cases hpi:ps[i] with
        | mk b r p=>rw [hpi] at e1 e2;simp only at e1 e2;subst e1;subst e2;rfl
       rw [this] at q3
       exact q3
     have hargs:(c.args.map a.eval++us)=(c.args.toList.map a.eval++us.toList).toArray:=by
      apply Array.ext'
      simp
     simp only [kk] at h1
     rw [hlent,h2] at h1
     split at h1
     ·rename_i hcc
      simp only [Bool.and_eq_true,Bool.or_eq_true,Bool.not_eq_true'] at hcc
      obtain ⟨hnd,hwn⟩:=hcc
      split at h1
      ·rename_i ext hext
       split at h1
       ·rename_i hexn
        have hlp:Z2P G1 (ls++ls'):=by
         intro q hq
         have hq1:q.1∈(ls++ls').map (·.1):=List.mem_map_of_mem hq
         obtain ⟨v,hv⟩:=Z3H _ _ hext q.1 hq1
         exact Z6S I1 ((hpt' q hq).sim hct hup.ad) hv
        unfold Oper.wp
        rw [hrunc,hargs,Oper.upon_enter]
        cases hwr:A.writes with
        | true=>
         have hnt:¬ Z1B Γ o.op=true:=λht=>by
          have:=htw ht
          rw [hwr] at this;cases this
         rw [hwr] at h1 hwn
         simp only [Bool.true_eq_false,false_or,Bool.true_or,if_true] at h1 hwn
         have I1':Inv W0 M σ1 a w G1 fps.flatten:=by simpa using I1
         obtain ⟨fb,I2⟩:=I1'.renil
         have hsb:=Sim.fb G1 fb
         refine (Z7N hs I2 (Z0s.up hsb.up _ _ _ _ _ hAr') (by simpa [List.all_eq_true] using hwn) (λq hq=>hlp q hq) (Z4C _ hnd) (Z3k _ _ hext (by simpa [List.all_eq_true] using hexn)) (by simpa [List.all_eq_true] using hexn) h1).mono λe w'=> ?_
         rintro ⟨v,res,ext',G',fs,rfl,hk,I',⟨vs',rfl,hout⟩,hBc⟩
         simp only [List.isEmpty_nil,if_true] at hk
         rw [Z7s,Z4U] at hk
         refine hK _ _ _ _ _ _ hk I' (Z4m res vs' fs hout) ⟨λht=>absurd ht hnt,λht=> ?_⟩
         have hl0:ls++ls'=[]:=by
          have e1:=hhw ht
          rw [h3] at e1
          have e2:ls'=[]:=by
           have:=(hhalf ht).2
           subst this
           simpa using hll
          rw [e2,List.append_nil]
          exact List.map_eq_nil_iff.1 e1
         exact λw2 hc2=>(hup.trans hsb.up).calmer.b w2 (hBc hl0 w2 hc2)
        | false=>
         rw [hwr] at h1
         simp only [Bool.false_or,Bool.false_eq_true,if_false] at h1
         obtain ⟨p1,p2,p3,p4⟩:=h4 hwr
         have hps:ps=[]:=by simpa using p1
         subst hps
         subst p3
         have hls':ls'=[]:=by simpa using hll
         rw [hls'] at hAr' h1 hext
         simp only [List.append_nil,List.map_nil,State.boxesAt,Option.some.injEq] at hAr' hext h1
         subst hext
         have hmod:sig.modes.all Mode.reads=true:=by
          have hd:sig.modes.drop c.args.toList.length=[]:=List.length_eq_zero_iff.1 (by simpa using hl')
          rw [<-List.take_append_drop c.args.toList.length sig.modes,hd,List.append_nil]
          exact p4
         have I1':Inv W0 M σ1 a w G1 []:=by simpa [p2] using I1
         refine (Z8c hs I1' hAr' p2 hmod h1).mono λe w'=> ?_
         rintro ⟨v,res,G',fs,rfl,hk,I',hC,vs',rfl,hout⟩
         simp only [List.isEmpty_nil,if_true] at hk
         rw [Z7s] at hk
         have hpb:σ1.putBoxes [] []=σ1:=rfl
         rw [hpb] at hk
         exact hK _ _ _ _ _ _ hk I' (Z4m _ vs' fs hout) ⟨λ_=>hup.calmer.trans hC,λ_=>(hup.calmer.trans hC).b⟩
       ·cases h1
      ·cases h1
     ·cases h1
    ·cases h1
   ·cases h
  ·cases h
 ·rename_i g τs u hpk
  split at h
  ·rename_i sig cvs hsig hsv
   split at h
   ·rename_i hlook
    simp only [Bool.and_eq_true] at hlook
    have hs:=hS g sig hsig
    obtain ⟨fn,cd,hf1,hf2,hf3⟩:=hs.1
    have hpe:=Z0w I f (by rw [hpk];intro v ags hh;cases hh)
    rw [hpk] at hpe
    obtain ⟨_,us,hev,hsp⟩:=hpe
    have hrunc:=Z5L (P:=P) (a:=a) (w:=w) hop hcal hev hf1 hf2 hf3
    have hup:SPs w G.F (Old w) (Old w) τs u.τ u.x us.toList:=SPs.pres (λb hb=>(I.st b hb).2) (λb _ hb=>I.Al_old b hb) (λb _=>Z07.refl _ _ _) _ _ _ _ hsp
    have hup2:SPs w (Z2x w G.F) (Old w) (Old w) τs u.τ u.x us.toList:=SPs.pres (λ_ h=>h) (λ_ _ h=>h) (λb _=>Z07.of_block rfl (Z6w _ _ _)) _ _ _ _ hup
    obtain ⟨j1,j3⟩:=Z6h _ _ _ _ _ hsv hup2
    have hargs:(c.args.map a.eval++us)=(c.args.toList.map a.eval++us.toList).toArray:=by
     apply Array.ext'
     simp
    unfold Oper.wp
    rw [hrunc,hargs,Oper.upon_enter]
    refine (Z6C hs I hlook.1 j1 j3 h).mono λe w'=> ?_
    rintro ⟨res,G',fs,vs,rfl,hk,I',ho,hC⟩
    exact hK _ _ _ _ _ _ hk I' (Z4m _ vs fs ho) hC.all
   ·cases h
  ·cases h
 ·cases h
end
end Go.PI
namespace Go.PI
section
variable {W0:Base} {M:Nat->Prop} {σ σ3:State} {a:Act} {w w' w3:World} {G G3:Ghost} {xs:List Nat} {P:Program} {R:Type} {Γ:Env R} {r:R} {tys:List (TypeId×Ty×List TypeId)} {o:Oper}
theorem Z4M (σ:State) (p:Place) (j:Nat):(σ.hold p).slot j=(σ.loosen p.box p.root).slot j\/(σ.hold p).slot j= .dead:=by
 obtain ⟨bx,root,path⟩:=p
 cases bx with
 | true=>exact .inl rfl
 | false=>
  show (σ.empty root).slot j=_\/(σ.empty root).slot j=_
  rw [Z3t]
  split
  ·exact .inr rfl
  ·exact .inl rfl
theorem Z4y (σ:State) (p:Place):(σ.hold p).slots.length=σ.slots.length/\(σ.hold p).boxes.length=σ.boxes.length:=by
 obtain ⟨bx,root,path⟩:=p
 cases bx with
 | true=>exact ⟨by simp [State.hold,State.putBox,State.loosen,Z0b],by simp [State.hold,State.putBox,State.loosen,Z0b,Z0G]⟩
 | false=>exact ⟨by show (σ.empty root).slots.length=_;rw [State.empty,Z5r],rfl⟩
theorem Z3l {σ:State} {p:Place} (hb:p.box=true):(σ.hold p).boxAt p.root=none:=by
 obtain ⟨bx,root,path⟩:=p
 simp only at hb
 subst hb
 show ((σ.loosen true root).putBox root none).boxAt root=none
 rw [Z0E]
 split
 ·rfl
 ·rename_i h
  simp only [true_and,Nat.not_lt] at h
  cases hq:(σ.loosen true root).boxAt root with
  | none=>rfl
  | some v=>
   have:=Z1D hq
   omega
theorem Z6r {σ:State} {p:Place} {i:Nat} {v:TVal} (h:(σ.hold p).boxAt i=some v):σ.boxAt i=some v/\(p.box=true->i≠p.root):=by
 obtain ⟨bx,root,path⟩:=p
 cases bx with
 | true=>
  have hn:=Z3l (σ:=σ) (p:=⟨true,root,path⟩) rfl
  have hne:i≠root:=λe=>by
   subst e
   simp only at hn
   rw [hn] at h
   cases h
  refine ⟨?_,λ_=>hne⟩
  have h:((σ.loosen true root).putBox root none).boxAt i=some v:=h
  rw [Z0E,if_neg (λe=>hne e.1.symm)] at h
  exact h
 | false=>exact ⟨h,λh=>by cases h⟩
theorem Z4l:(rs:List Nat)->(vs:List TVal)->(σ:State)->(∀ i,i ∉ rs->(σ.putBoxes rs vs).boxAt i=σ.boxAt i)/\(σ.putBoxes rs vs).boxes.length=σ.boxes.length/\(σ.putBoxes rs vs).slots.length=σ.slots.length /\
  (∀ j,(σ.putBoxes rs vs).slot j=σ.slot j\/(σ.putBoxes rs vs).slot j= .dead)/\(σ.noN->vs.all TVal.noN=true->(σ.putBoxes rs vs).noN)
 | [],vs,σ=>⟨λi _=>rfl,rfl,rfl,λj=> .inl rfl,λh _=>h⟩
 | r::rs,[],σ=>⟨λi _=>rfl,rfl,rfl,λj=> .inl rfl,λh _=>h⟩
 | r::rs,v::vs,σ=>by
  obtain ⟨h1,h2,h3,h4,h5⟩:=Z4l rs vs ((σ.loosen true r).putBox r (some v))
  refine ⟨λi hi=> ?_,?_,?_,λj=> ?_,λhn hv=> ?_⟩
  ·simp only [List.mem_cons,not_or] at hi
   have:=h1 i hi.2
   show (((σ.loosen true r).putBox r (some v)).putBoxes rs vs).boxAt i=_
   rw [this,Z0E,if_neg (λe=>hi.1 e.1.symm)]
   rfl
  ·show (((σ.loosen true r).putBox r (some v)).putBoxes rs vs).boxes.length=_
   rw [h2]
   simp [State.putBox,State.loosen,Z0b,Z0G]
  ·show (((σ.loosen true r).putBox r (some v)).putBoxes rs vs).slots.length=_
   rw [h3]
   simp [State.putBox,State.loosen,Z0b]
  ·show (((σ.loosen true r).putBox r (some v)).putBoxes rs vs).slot j=_\/(((σ.loosen true r).putBox r (some v)).putBoxes rs vs).slot j=_
   rcases h4 j with h | h
   ·rw [h,Z1G,Z0i]
    exact TV.loosen_or _ _ _
   ·exact .inr h
  ·simp only [List.all_cons,Bool.and_eq_true] at hv
   refine h5 ⟨λi=> ?_,λi u hu=> ?_⟩ hv.2
   ·rw [Z1G,Z0i]
    rcases TV.loosen_or true r (σ.slot i) with h | h
    ·rw [h];exact hn.1 i
    ·rw [h];rfl
   ·rw [Z0E] at hu
    split at hu
    ·cases hu;exact hv.1
    ·exact hn.2 i u hu
theorem Z7K (hT:Z0e P Γ.tys) (I:Inv W0 M σ a w G []) {d:Nat} {p:Place} {c0:Call} {s x:Operand} {sT xT:TypeId} {k:State->Option R} (hop:o.op= .call c0) (hcal:c0.callee= .builtin .append) (hargs:c0.args= #[s,x]) (hty:c0.argTypes= #[sT,xT])
  (hs:σ.peek s= .ref p false) (hnd:W0.np<=d) (hdl:d<σ.slots.length) (hdr:p.box=true\/d≠p.root) (h1i:Z2M p.path=true) (hfl:Z08 p.path=true->p.box=true)
  (h:Z6j Γ.tys sT xT p x σ (λσ'=>k (σ'.puto (some d) .dead))=some r) :
  ∃ σ' v w' w2 G' G1 b off,(execOp a.eval o).run P w= .ok (.value v) w'/\k σ'=some r/\HoleSt W0 M σ' (a.put (some d) v) w' d p w2 G' b off v/\Calmer w G w' G1:=by
 unfold Z6j at h
 split at h
 rotate_left
 ·cases h
 rename_i e e' hsT hxT
 split at h
 rotate_left
 ·cases h
 rename_i ux σ2 htk
 split at h
 rotate_left
 ·cases h
 rename_i m t' c u hm htx hc hu
 split at h
 rotate_left
 ·cases h
 rename_i l hl
 split at h
 rotate_left
 ·cases h
 rename_i hcond
 simp only [Bool.and_eq_true,Bool.or_eq_true,Bool.not_eq_true',beq_iff_eq] at hcond
 obtain ⟨⟨⟨⟨⟨hcO,hwh⟩,htag⟩,huag⟩,hsag⟩,hxag⟩:=hcond
 rw [cond_eq_ite,Z1R] at h
 obtain ⟨hlim,h⟩:=h
 split at h
 rotate_left
 ·cases h
 rename_i rr hset
 obtain ⟨ag1,tg1,rfl⟩:=Z1W hl
 obtain ⟨ag2,tg2,rfl⟩:=Z1W hm
 simp only at htx huag
 subst htx
 subst huag
 obtain ⟨fp2,G2,I2,hs2,_,hR2,hsh2⟩:=Z10 I htk
 have hpr:=Z0w I s (by rw [hs];intro v ags hh;cases hh)
 rw [hs] at hpr
 obtain ⟨_,hpr⟩:=hpr
 have hpl:∃ cs base,Z0C σ G a w p cs base/\Z02 (a.eval s)=cs/\Z0f false (a.eval s):=by
  rcases hpr with h1 | h1
  ·have h2:σ2.ct p=some c.τ:=by rw [State.ct,hc];rfl
   rw [Z2B htk p,h1] at h2
   cases h2
  ·exact h1
 obtain ⟨cs,base,hplace,hcs,hsh⟩:=hpl
 obtain ⟨lc,bs,b,off,fpc,fpo,fpi,G1,H,I3,hs3⟩:=Z6I I2 hc hu hcO hwh hfl (hplace.sim (Z2B htk p) hs2.ad)
 obtain ⟨fs,I4,_⟩:=I3.kill
 have hs4:Sim G2 { G1 with fs:=fs }:=hs3.trans (Sim.fs _ fs)
 generalize ({ G1 with fs:=fs }:Ghost)=Gk at I4 hs4
 have I5:Inv W0 M (σ2.hold p).kill a w Gk (fp2++(fpi++fpo)):=I4.perm (by
  refine List.perm_iff_count.2 λz=> ?_
  simp only [List.count_append,List.count_nil]
  omega)
 have hL:=H.lens.part
 have htO:=H.lens.tags
 have htg1:tg1=[.O]:=by
  have h2:=hL.len.2
  match tg1,h2 with
  | [t],_=>rw [htO t (by simp)]
 subst htg1
 rw [<-hcs] at hL
 have hL:Rp w G2.F G2.St G2.Al (.slice e) [.O] (Z02 (a.eval s)) l fpi:=hL
 obtain ⟨ad,cap,hv1,_⟩:=Z2C hsh hL
 have hR2:Rp w G2.F G2.St G2.Al (.slice e) [t'] (Z02 (a.eval x)) m fp2:=hR2
 obtain ⟨ad',cap',hv2,_⟩:=Z2C (show Z0f false (a.eval x) from hsh2) hR2
 rw [hv1,Z0r rfl] at hL
 rw [hv2,Z0r rfl] at hR2
 obtain ⟨et,le,hu',hea,_⟩:=Z12 hT hsT hsag
 obtain ⟨et2,le2,hux,_,_⟩:=Z12 hT hxT hxag
 have htN:t'.isN=false:=by
  rcases htag with h | h
  ·cases t'<;>first | rfl | cases h
  ·exact h.2
 obtain ⟨v,w',G5,fpv,hrun,I6,hshv,hRv,⟨Gc,hcalm⟩,had,hk5,hbx5⟩:=Z73 (ty:=o.type) hT hu' hux hea I5 (Z2u _) htN (by rw [hs4.F,hs4.St,hs4.Al];exact hL) (by rw [hs4.F,hs4.St,hs4.Al];exact hR2) hlim (htag.imp id λh=>h.1)
 have hone:one v=true:=hshv
 rw [Z0r hone] at hRv
 obtain ⟨G7,I7,hcon,hloc,hcell⟩:=Z6H (v:=⟨.slice e,false,l++m,[.O]⟩) (v1:=v) H I6 (Z2u _) (had.trans hs4.ad) (λz hz=>by
   obtain ⟨k1,k2,k3⟩:=hk5 z hz
   exact ⟨by rw [k1,hs4.F],k2,λh=>k3 (by rw [hs4.Al];exact h)⟩) (λhb=>by
   obtain ⟨_,_,hwho,_,_⟩:=H.box hb
   obtain ⟨k1,k2⟩:=hbx5 _ _ ((hs4.bx _ _).2 hwho)
   refine ⟨k1,k2,?_,?_,λj=> ?_⟩
   ·rw [Z2U,Z3l hb];rfl
   ·simp [State.kill,Z0b,(Z4y σ2 p).2]
   ·rw [Z1y]
    rcases TV.kill_or ((σ2.hold p).slot j) with h | h
    ·rw [h]
     rcases Z4M σ2 p j with h2 | h2
     ·rw [hb] at h2;exact .inl h2
     ·exact .inr h2
    ·exact .inr h) (by simp [State.kill,Z0b,(Z4y σ2 p).1]) rfl rfl (by simp) hone hRv hset
 obtain ⟨G8,H8⟩:=Z5A I2 H I7 hcon rfl hloc hcell hone hnd (by
  have:=I2.len
  have h2:=I.len
  omega) hdr h1i
 refine ⟨_,v,w',_,G8,Gc,b,off,?_,h,H8,(hs2.trans hs4).calmer.trans hcalm⟩
 rw [Z03 hop]
 simp only [execOp,resolve,hcal,hargs,hty,Sem.run_bind,Sem.run_pure,Result.andThen_ok,invoke,builtin]
 simp only [List.map_toArray,List.map_cons,List.map_nil,hv1,hv2]
 rw [hrun]
 rfl
theorem Z8G {g:FuncId} {sig:Sig R} (hs:Z18 P g sig) (I:Inv W0 M σ a w G []) {d:Nat} {p:Place} {c0:Call} {f s:Operand} {os:List Operand} {ms:List Mode} {τ:Ty} {k:State->Option R} (hop:o.op= .call c0) (hcal:c0.callee= .value f) (hpk:σ.peek f= .clos g []) (hsig:Z0o Γ.fns g=some sig)
  (hm:sig.modes= .eat τ false::ms) (hargs:c0.args.toList=s::os)
  (hsp:σ.peek s= .ref p false) (hnd:W0.np<=d) (hdl:d<σ.slots.length) (hdr:p.box=true\/d≠p.root) (h1i:Z2M p.path=true) (hfl:Z08 p.path=true->p.box=true) (hsl:∃ e,τ= .slice e)
  (h:Z8b sig τ ms p os σ (λσ'=>k (σ'.puto (some d) .dead))=some r) {K:Act->World->Prop} {Q:Exit->Act->World->Prop}
  (hK:∀ σ' v w' w2 G' G1 b off v1,k σ'=some r->HoleSt W0 M σ' (a.put (some d) v) w' d p w2 G' b off v1->Z17 Γ o.op w G w' G1->K (a.put o.dst v) w'):o.wp P a w K Q:=by
 obtain ⟨fn,cd,hf1,hf2,hf3⟩:=hs.1
 have hpe:=Z0w I f (by rw [hpk];intro v ags hh;cases hh)
 rw [hpk] at hpe
 obtain ⟨_,us,hev,husz,_⟩:=hpe
 have hrunc:=Z5L (P:=P) (a:=a) (w:=w) hop hcal hev hf1 hf2 hf3
 have hus0:us= #[]:=Array.eq_empty_of_size_eq_zero (by rw [husz];rfl)
 have hargs':(c0.args.map a.eval++us)=((s::os).map a.eval).toArray:=by
  apply Array.ext'
  rw [hus0]
  simp [hargs]
 have hnt:Z1B Γ o.op=false:=by
  rw [hop]
  simp only [Z1B,hcal]
  cases f with
  | func fg=>
   simp only [State.peek,TV.clos.injEq] at hpk
   obtain ⟨rfl,_⟩:=hpk
   simp only [hsig,hm]
   simp [Mode.isBorrow,Mode.isSee]
  | _=>rfl
 have hhalf:Z1O Γ o.op=true->ms.all Mode.noLend=true:=by
  intro ht
  rw [hop] at ht
  simp only [Z1O,hcal] at ht
  cases f with
  | func fg=>
   simp only [State.peek,TV.clos.injEq] at hpk
   obtain ⟨rfl,_⟩:=hpk
   simp only [hsig,hm,List.all_cons,Mode.noLend,Bool.true_and,Mode.isSee,Bool.false_and,Bool.or_false] at ht
   exact ht
  | _=>cases ht
 unfold Z8b at h
 have hx:∀ kk:Args->State->Option R,Z0n ms os σ ⟨[],[],true⟩ kk=some r->Z0n ms os σ ⟨[],[],true⟩ (λA σ1=>if Z1O Γ o.op=true->A.lent=[] then kk A σ1 else none)=some r:=by
  intro kk h
  by_cases ht:Z1O Γ o.op=true
  ·have:=Z2d _ _ _ _ _ (hhalf ht) h
   simpa [ht] using this
  ·simpa [ht] using h
 have h:=hx _ h
 obtain ⟨vs,fps,ls,A,σ1,G1,h1,h2,h3,_,I1,hup,hct,hlen,hAr,hpt⟩:=Z1K _ _ _ _ _ _ _ h I
 split at h1
 rotate_left
 ·cases h1
 rename_i hhw
 split at h1
 rotate_left
 ·cases h1
 rename_i c u hc hu
 split at h1
 rotate_left
 ·cases h1
 rename_i hcond
 simp only [Bool.and_eq_true,decide_eq_true_eq] at hcond
 obtain ⟨⟨⟨⟨⟨hτ,hcO⟩,huO⟩,hwh⟩,hndl⟩,hvN⟩:=hcond
 have h2:A.vals=vs:=by simpa using h2
 have h3:A.lent=ls.map (·.1):=by simpa using h3
 rw [h3,h2] at h1
 rw [h3] at hndl hhw
 rw [h2] at hvN
 split at h1
 rotate_left
 ·cases h1
 rename_i ext hext
 split at h1
 rotate_left
 ·cases h1
 rename_i hexn
 have hpr:=Z0w I s (by rw [hsp];intro v ags hh;cases hh)
 rw [hsp] at hpr
 obtain ⟨_,hpr⟩:=hpr
 have hpl:∃ cs base,Z0C σ G a w p cs base/\Z02 (a.eval s)=cs/\Z0f false (a.eval s):=by
  rcases hpr with h1 | h1
  ·have h2:σ1.ct p=some c.τ:=by rw [State.ct,hc];rfl
   rw [hct p,h1] at h2
   cases h2
  ·exact h1
 obtain ⟨cs,base,hplace,hcs,hsh⟩:=hpl
 obtain ⟨lc,bs,b,off,fpc,fpo,fpi,G2,H,I2,hs2⟩:=Z6I I1 hc hu hcO hwh hfl (hplace.sim (hct p) hup.ad)
 obtain ⟨fb,I3⟩:=I2.renil
 have hs3:Sim G1 { G2 with fb:=fb }:=hs2.trans (Sim.fb G2 fb)
 generalize ({ G2 with fb:=fb }:Ghost)=Gk at I3 hs3
 have I4:Inv W0 M (σ1.hold p).renil a w Gk ((fpi::fps).flatten++fpo):=I3.perm (by
  refine List.perm_iff_count.2 λz=> ?_
  simp only [List.count_append,List.count_nil,List.flatten_cons]
  omega)
 obtain ⟨e,rfl⟩:=hsl
 have hL:Rp w G1.F G1.St G1.Al u.τ u.tg (Z02 (a.eval s)) u.x fpi:=by rw [hcs];exact H.lens.part
 have hA:Z0s w Gk sig.modes (a.eval s::os.map a.eval) ({ u with ag:=false }::vs) (fpi::fps) ls:=by
  rw [hm]
  refine ⟨hsh,?_,Z0s.up hs3.up _ _ _ _ _ hAr⟩
  show Rp w Gk.F Gk.St Gk.Al u.τ u.tg (Z02 (a.eval s)) u.x fpi
  rw [hs3.F,hs3.St,hs3.Al]
  exact hL
 have hlive:∀ q∈ls,∃ v,σ1.boxAt q.1=some v/\(p.box=true->q.1≠p.root):=λq hq=>by
  obtain ⟨v,hv⟩:=Z3H _ _ hext q.1 (List.mem_map_of_mem hq)
  exact ⟨v,Z6r hv⟩
 have hlp:Z2P Gk ls:=λq hq=>by
  obtain ⟨v,hv,_⟩:=hlive q hq
  have:=Z6S I1 ((hpt q hq).sim hct hup.ad) hv
  rw [this,hs3.ad]
 have huN:u.noN=true:=by
  rw [TVal.noN_iff]
  intro t ht
  rw [Z1C.1 huO t ht]
  rfl
 have hexn':∀ v∈ext,v.noN=true:=by simpa [List.all_eq_true] using hexn
 unfold Oper.wp
 rw [hrunc,hargs',Oper.upon_enter]
 refine (Z4V (ks:=fpo) hs I4 hA (λv hv=>by
   rcases List.mem_cons.1 hv with rfl | hv
   ·exact huN
   ·rw [List.all_eq_true] at hvN
    exact hvN v hv) hlp (Z4C _ hndl) (Z3k _ _ hext hexn') hexn' h1).mono λe' w'=> ?_
 rintro ⟨v,res,ext',G5,fs,rfl,hk,I5,⟨vs',rfl,hout⟩,hBc,had,hkk,hbb,hexN⟩
 split at hk
 rotate_left
 ·cases hk
 rename_i v _
 split at hk
 rotate_left
 ·cases hk
 rename_i hcv
 simp only [Bool.and_eq_true,decide_eq_true_eq,beq_iff_eq] at hcv
 obtain ⟨⟨hvτ,hvag⟩,hvO⟩:=hcv
 split at hk
 rotate_left
 ·cases hk
 rename_i rr hset
 obtain ⟨x1,fpv,rfl,rfl,hshv,hRv⟩:∃ x1 fpv,vs'=[x1]/\fs=[fpv]/\Z0f v.ag x1/\Rp w' G5.F G5.St G5.Al v.τ v.tg (Z02 x1) v.x fpv:=by
  cases vs' with
  | nil=>exact hout.elim
  | cons x1 vs'=>
   cases fs with
   | nil=>exact hout.elim
   | cons f1 fs=>
    obtain ⟨⟨q1,q2⟩,q3⟩:=hout
    cases vs' with
    | cons=>cases fs<;>exact q3.elim
    | nil=>
     cases fs with
     | cons=>exact q3.elim
     | nil=>exact ⟨x1,f1,rfl,rfl,q1,q2⟩
 have hone:one x1=true:=by rw [hvag] at hshv;exact hshv
 rw [Z0r hone] at hRv
 have I6:Inv W0 M ((σ1.hold p).renil.kill.putBoxes (ls.map (·.1)) ext') a w' G5 (fpv++fpo):=by simpa using I5
 obtain ⟨f1,f2,f3,f4,f5⟩:=Z4l (ls.map (·.1)) ext' (σ1.hold p).renil.kill
 have hu1:size u.τ=1:=by rw [hτ];rfl
 have hb0:(σ1.hold p).renil.kill.boxes.length=σ1.boxes.length:=by simp [State.kill,State.renil,Z0b,(Z4y σ1 p).2]
 have hs0:(σ1.hold p).renil.kill.slots.length=σ1.slots.length:=by simp [State.kill,State.renil,Z0b,(Z4y σ1 p).1]
 obtain ⟨G7,I7,hcon,hloc,hcell⟩:=Z6H (v:=v) (v1:=x1) H I6 (f5 (Z2u _) hexN) (had.trans hs3.ad) (λz hz=>by
   obtain ⟨k1,k2,k3⟩:=hkk z hz
   exact ⟨by rw [k1,hs3.F],k2,λh=>k3 (by rw [hs3.Al];exact h)⟩) (λhb=>by
   obtain ⟨_,_,hwho,_,_⟩:=H.box hb
   have hni:p.root ∉ ls.map (·.1):=λhmem=>by
    obtain ⟨q,hq,hqe⟩:=List.mem_map.1 hmem
    obtain ⟨_,_,hne⟩:=hlive q hq
    exact hne hb hqe
   obtain ⟨k1,k2⟩:=hbb _ _ ((hs3.bx _ _).2 hwho) hni
   refine ⟨k1,k2,?_,by rw [f2,hb0],λj=> ?_⟩
   ·rw [f1 _ hni,Z2U,Z3g,Z3l hb];rfl
   ·rcases f4 j with h | h
    ·rw [h,Z1y]
     have hr:(σ1.hold p).renil.slot j=(σ1.hold p).slot j:=rfl
     rw [hr]
     rcases TV.kill_or ((σ1.hold p).slot j) with h | h
     ·rw [h]
      rcases Z4M σ1 p j with h2 | h2
      ·rw [hb] at h2;exact .inl h2
      ·exact .inr h2
     ·exact .inr h
    ·exact .inr h) (by rw [f3,hs0]) hu1 (hvτ.trans hτ.symm) (Z1C.1 hvO) hone hRv hset
 obtain ⟨G8,H8⟩:=Z5A I1 H I7 hcon rfl hloc hcell hone hnd (by omega) hdr h1i
 refine hK _ _ w' _ G8 G5 b off x1 hk H8 ⟨λht=>(by rw [hnt] at ht;cases ht),λht=> ?_⟩
 have hl0:ls=[]:=List.map_eq_nil_iff.1 (hhw ht)
 exact λw2 hc2=>(hup.trans hs3.up).calmer.b w2 (hBc hl0 w2 hc2)
theorem Z9e (hT:Z0e P Γ.tys) (hS:∀ g sig,Z0o Γ.fns g=some sig->Z18 P g sig):Z7Y P Γ:=by
 intro W0 M σ a w G o d p c s l k r K Q I hnp hnd hdl hdst hop hargs hpe hdr h1i hfl h hK
 have hwd:W0.np<=d:=Nat.le_trans hnp hnd
 unfold Z8q at h
 rw [hop] at h
 simp only at h
 split at h
 ·rename_i hcal
  split at h
  ·rename_i s' x sT xT ha hty
   have hs':s'=s:=by rw [ha] at hargs;simpa using (List.cons.inj hargs).1
   subst hs'
   obtain ⟨σ',v,w',w2,G',G1,b,off,hrun,hk,H,hC⟩:=Z7K hT I hop hcal (Array.toList_inj.1 (by simpa using ha)) (Array.toList_inj.1 (by simpa using hty)) hpe hwd hdl hdr h1i hfl h
   unfold Oper.wp
   rw [hrun,Oper.upon_value]
   exact hK σ' v w' w2 G' G1 b off v hk H hC.all
  ·cases h
 ·rename_i f hcal
  split at h
  ·rename_i g hpk
   split at h
   ·rename_i sig hsig
    split at h
    ·rename_i e ms s' os hm ha
     have hs':s'=s:=by rw [ha] at hargs;simpa using (List.cons.inj hargs).1
     subst hs'
     exact Z8G (hS g sig hsig) I hop hcal hpk hsig hm ha hpe hwd hdl hdr h1i hfl ⟨e,rfl⟩ h hK
    ·cases h
   ·cases h
  ·cases h
 ·cases h
theorem Z9a (hT:Z0e P Γ.tys) (hS:∀ g sig,Z0o Γ.fns g=some sig->Z18 P g sig):CallsOk P Γ:=⟨Z8H hS,Z9e hT hS⟩
end
end Go.PI
namespace Go.PI
def Z2G (σ' σ:State):Prop:=σ'.slots.length=σ.slots.length/\(∀ i,σ'.slot i=σ.slot i\/σ'.slot i= .dead)/\∀ i,σ'.boxAt i=σ.boxAt i\/σ'.boxAt i=none
theorem Z2G.refl (σ:State):Z2G σ σ:=⟨rfl,λ_=> .inl rfl,λ_=> .inl rfl⟩
theorem Z3V (σ:State) (ks bs:List Nat):Z2G (σ.forget ks bs) σ:=
 ⟨Z3m _ _ _,λi=>Z2S ks σ.slots 0 i,λi=>Z2R bs σ.boxes 0 i⟩
noncomputable def Z9F (n:List Nat×List Nat) (x:List (Nat×List Nat×List Nat)) (r:List Nat×List Nat):Ex->State->State
 | .normal,σ=>σ.forget n.1 n.2
 | .exit j,σ=>match Z0o x j with
  | some q=>σ.forget q.1 q.2
  | none=>σ
 | .ret,σ=>σ.forget r.1 r.2
theorem Zar (n:List Nat×List Nat) (x:List (Nat×List Nat×List Nat)) (r:List Nat×List Nat) (e:Ex) (σ:State):Z2G (Z9F n x r e σ) σ:=by
 cases e with
 | normal=>exact Z3V _ _ _
 | ret=>exact Z3V _ _ _
 | exit j=>
  unfold Z9F
  simp only []
  split
  ·exact Z3V _ _ _
  ·exact Z2G.refl _
def Z2p:Nat->Nat->List (Nat×TV)->List TV
 | 0,_,_=>[]
 | n+1,i,[]=> .dead::Z2p n (i+1) []
 | n+1,i,(j,v)::l=>bif i==j then v::Z2p n (i+1) l else .dead::Z2p n (i+1) ((j,v)::l)
def Z3S:Nat->Nat->List (Nat×TVal)->List (Option TVal)
 | 0,_,_=>[]
 | n+1,i,[]=>none::Z3S n (i+1) []
 | n+1,i,(j,v)::l=>bif i==j then some v::Z3S n (i+1) l else none::Z3S n (i+1) ((j,v)::l)
def mkS (n m:Nat) (ss:List (Nat×TV)) (bs:List (Nat×TVal)):State:=⟨Z2p n 0 ss,Z3S m 0 bs⟩
theorem Z4Z:(n i:Nat)->(l:List (Nat×TV))->(Z2p n i l).length=n
 | 0,_,_=>by simp [Z2p]
 | n+1,i,[]=>by simp [Z2p,Z4Z n]
 | n+1,i,(j,v)::l=>by
  unfold Z2p
  cases i==j<;>simp [Z4Z n]
theorem Z3U:(n i:Nat)->(l:List (Nat×TV))->(q:Nat)->Z0v .dead (Z2p n i l) q= .dead\/(i+q,Z0v .dead (Z2p n i l) q)∈l
 | 0,_,_,_=> .inl rfl
 | n+1,i,[],0=> .inl rfl
 | n+1,i,[],q+1=>by
  have:=Z3U n (i+1) [] q
  rcases this with h | h
  ·exact .inl h
  ·cases h
 | n+1,i,(j,v)::l,0=>by
  unfold Z2p
  cases h:i==j with
  | true=>right;simp at h;subst h;simp [Z0y,Z0t,Z0q]
  | false=>left;rfl
 | n+1,i,(j,v)::l,q+1=>by
  unfold Z2p
  cases h:i==j with
  | true=>
   rcases Z3U n (i+1) l q with h2 | h2
   ·exact .inl h2
   ·right
    rw [show i+(q+1)=i+1+q by omega]
    exact List.mem_cons_of_mem _ h2
  | false=>
   rcases Z3U n (i+1) ((j,v)::l) q with h2 | h2
   ·exact .inl h2
   ·right
    rw [show i+(q+1)=i+1+q by omega]
    exact h2
theorem Z3T:(n i:Nat)->(l:List (Nat×TVal))->(q:Nat)->Z0v none (Z3S n i l) q=none\/∃ v,Z0v none (Z3S n i l) q=some v/\(i+q,v)∈l
 | 0,_,_,_=> .inl rfl
 | n+1,i,[],0=> .inl rfl
 | n+1,i,[],q+1=>by
  rcases Z3T n (i+1) [] q with h | ⟨v,_,h⟩
  ·exact .inl h
  ·cases h
 | n+1,i,(j,v)::l,0=>by
  unfold Z3S
  cases h:i==j with
  | true=>right;simp at h;subst h;exact ⟨v,by simp [Z0y,Z0t,Z0q]⟩
  | false=>left;rfl
 | n+1,i,(j,v)::l,q+1=>by
  unfold Z3S
  cases h:i==j with
  | true=>
   rcases Z3T n (i+1) l q with h2 | ⟨u,h1,h2⟩
   ·exact .inl h2
   ·right
    refine ⟨u,h1,?_⟩
    rw [show i+(q+1)=i+1+q by omega]
    exact List.mem_cons_of_mem _ h2
  | false=>
   rcases Z3T n (i+1) ((j,v)::l) q with h2 | ⟨u,h1,h2⟩
   ·exact .inl h2
   ·right
    refine ⟨u,h1,?_⟩
    rw [show i+(q+1)=i+1+q by omega]
    exact h2
def Z4d (σ:State):List (Nat×TV)->Prop
 | []=>True
 | (i,v)::l=>σ.slot i=v/\Z4d σ l
def Z4c (σ:State):List (Nat×TVal)->Prop
 | []=>True
 | (i,v)::l=>σ.boxAt i=some v/\Z4c σ l
theorem Z4d.mem {σ:State}:{l:List (Nat×TV)}->Z4d σ l->{i:Nat}->{v:TV}->(i,v)∈l->σ.slot i=v
 | (j,u)::l,h,i,v,hm=>by
  rcases List.mem_cons.1 hm with hm | hm
  ·cases hm;exact h.1
  ·exact Z4d.mem h.2 hm
theorem Z4c.mem {σ:State}:{l:List (Nat×TVal)}->Z4c σ l->{i:Nat}->{v:TVal}->(i,v)∈l->σ.boxAt i=some v
 | (j,u)::l,h,i,v,hm=>by
  rcases List.mem_cons.1 hm with hm | hm
  ·cases hm;exact h.1
  ·exact Z4c.mem h.2 hm
theorem ZaN {σ:State} {n m:Nat} {ss:List (Nat×TV)} {bs:List (Nat×TVal)} (hn:σ.slots.length=n) (hs:Z4d σ ss) (hb:Z4c σ bs):Z2G (mkS n m ss bs) σ:=by
 refine ⟨(Z4Z _ _ _).trans hn.symm,λi=> ?_,λi=> ?_⟩
 ·rcases Z3U n 0 ss i with h | h
  ·exact .inr h
  ·rw [Nat.zero_add] at h
   exact .inl (hs.mem h).symm
 ·rcases Z3T m 0 bs i with h | ⟨v,h1,h⟩
  ·exact .inr h
  ·rw [Nat.zero_add] at h
   exact .inl (h1.trans (hb.mem h).symm)
section
variable {R:Type} {r:R}
def rdN (σ:State) (n:Nat) (f:Option R):Option R:=if σ.slots.length=n then f else none
def asV (v:TVal) (τ:Ty) (ag:Bool) (tg:List Tag) (f:El τ->Option R):Option R:=
 if v.ag=ag/\v.tg=tg then (if h:v.τ=τ then f (h ▸ v.x) else none) else none
noncomputable def rdV (σ:State) (i:Nat) (τ:Ty) (ag:Bool) (tg:List Tag) (f:El τ->Option R):Option R:=
 match σ.slot i with
 | .val v=>asV v τ ag tg f
 | _=>none
noncomputable def rdU (σ:State) (i:Nat) (τ:Ty) (ag:Bool) (tg:List Tag) (ags:List Bool) (f:El τ->Option R):Option R:=
 match σ.slot i with
 | .tup v l=>if l=ags then asV v τ ag tg f else none
 | _=>none
noncomputable def rdE (σ:State) (i:Nat) (τ:Ty) (ag:Bool) (tg:List Tag) (t:Tag) (f:El τ->Option R):Option R:=
 match σ.slot i with
 | .eptr v s=>if s=t then asV v τ ag tg f else none
 | _=>none
noncomputable def rdC (σ:State) (i:Nat) (f:FuncId) (τs:List Ty) (τ:Ty) (tg:List Tag) (k:El τ->Option R):Option R:=
 match σ.slot i with
 | .sclos g τs' v=>if g=f/\τs'=τs then asV v τ false tg k else none
 | _=>none
def Z5G (v:TVal) (τ:Ty) (tg:List Tag) (f:Bool->El τ->Option R):Option R:=
 if v.tg=tg then (if h:v.τ=τ then f v.ag (h ▸ v.x) else none) else none
def Z87 (v:TVal) (τ:Ty) (f:El τ->Option R):Option R:=if h:v.τ=τ then f (h ▸ v.x) else none
noncomputable def rdB (σ:State) (i:Nat) (τ:Ty) (tg:List Tag) (f:Bool->El τ->Option R):Option R:=
 match σ.boxAt i with
 | some v=>Z5G v τ tg f
 | none=>none
def TV.same:TV->TV->Bool
 | .nil,.nil=>true
 | .ref p a,.ref q b=>decide (p=q/\a=b)
 | .ptr p,.ptr q=>decide (p=q)
 | .eref p,.eref q=>decide (p=q)
 | .clos f ps,.clos g qs=>decide (f=g/\ps=qs)
 | _,_=>false
noncomputable def rdT (σ:State) (i:Nat) (p:TV) (f:Option R):Option R:=bif (σ.slot i).same p then f else none
theorem Zad {σ:State} {n:Nat} {f:Option R} (h:rdN σ n f=some r):σ.slots.length=n/\f=some r:=by
 unfold rdN at h
 split at h
 ·rename_i hn;exact ⟨hn,h⟩
 ·cases h
theorem Z4u {v:TVal} {τ:Ty} {ag:Bool} {tg:List Tag} {f:El τ->Option R} (h:asV v τ ag tg f=some r):∃ x,v=⟨τ,ag,x,tg⟩/\f x=some r:=by
 unfold asV at h
 split at h
 ·rename_i hc
  split at h
  ·rename_i hτ
   obtain ⟨τ',ag',x,tg'⟩:=v
   obtain ⟨h1,h2⟩:=hc
   simp only at hτ h1 h2
   subst hτ;subst h1;subst h2
   exact ⟨x,rfl,h⟩
  ·cases h
 ·cases h
theorem Zag {σ:State} {i:Nat} {τ:Ty} {ag:Bool} {tg:List Tag} {f:El τ->Option R} (h:rdV σ i τ ag tg f=some r):∃ x,σ.slot i= .val ⟨τ,ag,x,tg⟩/\f x=some r:=by
 unfold rdV at h
 split at h
 ·rename_i v hv
  obtain ⟨x,rfl,hf⟩:=Z4u h
  exact ⟨x,hv,hf⟩
 ·cases h
theorem Zaf {σ:State} {i:Nat} {τ:Ty} {ag:Bool} {tg:List Tag} {ags:List Bool} {f:El τ->Option R} (h:rdU σ i τ ag tg ags f=some r):∃ x,σ.slot i= .tup ⟨τ,ag,x,tg⟩ ags/\f x=some r:=by
 unfold rdU at h
 split at h
 ·rename_i v l hv
  split at h
  ·rename_i hl
   subst hl
   obtain ⟨x,rfl,hf⟩:=Z4u h
   exact ⟨x,hv,hf⟩
  ·cases h
 ·cases h
theorem Zac {σ:State} {i:Nat} {τ:Ty} {ag:Bool} {tg:List Tag} {t:Tag} {f:El τ->Option R} (h:rdE σ i τ ag tg t f=some r):∃ x,σ.slot i= .eptr ⟨τ,ag,x,tg⟩ t/\f x=some r:=by
 unfold rdE at h
 split at h
 ·rename_i v l hv
  split at h
  ·rename_i hl
   subst hl
   obtain ⟨x,rfl,hf⟩:=Z4u h
   exact ⟨x,hv,hf⟩
  ·cases h
 ·cases h
theorem Zab {σ:State} {i:Nat} {f:FuncId} {τs:List Ty} {τ:Ty} {tg:List Tag} {k:El τ->Option R} (h:rdC σ i f τs τ tg k=some r):∃ x,σ.slot i= .sclos f τs ⟨τ,false,x,tg⟩/\k x=some r:=by
 unfold rdC at h
 split at h
 ·rename_i g τs' v hv
  split at h
  ·rename_i hl
   obtain ⟨rfl,rfl⟩:=hl
   obtain ⟨x,rfl,hf⟩:=Z4u h
   exact ⟨x,hv,hf⟩
  ·cases h
 ·cases h
theorem Z4T {v:TVal} {τ:Ty} {tg:List Tag} {f:Bool->El τ->Option R} (h:Z5G v τ tg f=some r):∃ a x,v=⟨τ,a,x,tg⟩/\f a x=some r:=by
 unfold Z5G at h
 split at h
 ·rename_i hc
  split at h
  ·rename_i hτ
   obtain ⟨τ',ag',x,tg'⟩:=v
   simp only at hτ hc
   subst hτ;subst hc
   exact ⟨ag',x,rfl,h⟩
  ·cases h
 ·cases h
theorem Z8D {v:TVal} {τ:Ty} {f:El τ->Option R} (h:Z87 v τ f=some r):∃ a x t,v=⟨τ,a,x,t⟩/\f x=some r:=by
 unfold Z87 at h
 split at h
 ·rename_i hτ
  obtain ⟨τ',ag',x,tg'⟩:=v
  simp only at hτ
  subst hτ
  exact ⟨ag',x,tg',rfl,h⟩
 ·cases h
theorem Zaa {σ:State} {i:Nat} {τ:Ty} {tg:List Tag} {f:Bool->El τ->Option R} (h:rdB σ i τ tg f=some r):∃ a x,σ.boxAt i=some ⟨τ,a,x,tg⟩/\f a x=some r:=by
 unfold rdB at h
 split at h
 ·rename_i v hv
  obtain ⟨a,x,rfl,hf⟩:=Z4T h
  exact ⟨a,x,hv,hf⟩
 ·cases h
theorem Zae {σ:State} {i:Nat} {p:TV} {f:Option R} (h:rdT σ i p f=some r):σ.slot i=p/\f=some r:=by
 unfold rdT at h
 rw [cond_eq_ite] at h
 split at h
 ·rename_i hc
  refine ⟨?_,h⟩
  cases hs:σ.slot i<;>cases p<;>rw [hs] at hc<;>simp only [TV.same,decide_eq_true_eq,Bool.false_eq_true] at hc<;>simp [hc]
 ·cases h
end
section
variable {P:Program} {R:Type} {r:R} {W0:Base} {M:Nat->Prop}
theorem Z2G.inv {σ σ':State} {a:Act} {w:World} {G:Ghost} {xs:List Nat} (h:Z2G σ' σ) (I:Inv W0 M σ a w G xs):∃ G',Inv W0 M σ' a w G' xs:=by
 obtain ⟨fs,I',_⟩:=I.drop (σ':=σ') h.1 h.2.1 h.2.2
 exact ⟨_,I'⟩
theorem Zay {c:Code} {run:Z1e R} (hc:Z15 P W0 M c run) {fg:Ex->State->State} (hfg:∀ e σ,Z2G (fg e σ) σ) {x:Z1e R}
  (h:∀ σ k r,x σ k=some r->∃ σ',Z2G σ' σ/\run σ' (λe σ''=>k e (fg e σ''))=some r):Z15 P W0 M c x:=by
 intro σ a w G k r Q hQ I hr hk
 obtain ⟨σ',hle,hrun⟩:=h σ k r hr
 obtain ⟨G',I'⟩:=hle.inv I
 refine hc σ' a w G' _ r Q hQ I' hrun λe σ'' a' w' G'' he I''=> ?_
 obtain ⟨G3,I3⟩:=(hfg e σ'').inv I''
 exact hk e _ a' w' G3 he I3
theorem Zau {c:Code} {run:Z1e R} (hc:Z15 P W0 M c run) {ks bs:List Nat} {fX:Ex->State->State} (hfX:∀ e σ,Z2G (fX e σ) σ) (n:Nat) {x:Z1e R}
  (h:∀ σ k r,x σ k=some r->∃ σ',Z2G σ' σ/\Z3x run (λσ=>σ.forget ks bs) fX n σ' k=some r):Z15 P W0 M (.loop c) x:=by
 have h1:Z15 P W0 M (.loop c) (Z3x run (λσ=>σ.forget ks bs) fX n):=Z64 hc (λσ a w G I=>(Z3V σ ks bs).inv I) (λe σ a w G I=>(hfX e σ).inv I) n
 intro σ a w G k r Q hQ I hr hk
 obtain ⟨σ',hle,hrun⟩:=h σ k r hr
 obtain ⟨G',I'⟩:=hle.inv I
 exact h1 σ' a w G' k r Q hQ I' hrun hk
def Z1g {V K:Type} (step:V->(V->Option R)->K->Option R):Nat->V->K->Option R
 | 0,_,_=>none
 | n+1,v,q=>step v (λv'=>Z1g step n v' q) q
theorem Z9v {V K:Type} (st:V->State) (step:V->(V->Option R)->K->Option R) (mk:Z84 R->K) {body:Z1e R} {fN:State->State} {fX:Ex->State->State}
  (h:∀ (v:V) (rec:State->Option R) (k:Z84 R),body (st v) (λe σ'=>match e with | .normal=>rec (fN σ') | e=>k e (fX e σ'))=step v (λv'=>rec (st v')) (mk k)) :
  (n:Nat)->(v:V)->(k:Z84 R)->Z3x body fN fX n (st v) k=Z1g step n v (mk k)
 | 0,v,k=>rfl
 | n+1,v,k=>by
  have h1:=h v (λσ=>Z3x body fN fX n σ k) k
  simp only [Z9v st step mk h n] at h1
  exact h1
noncomputable def Z1d:Nat:=Classical.choose (⟨4611686018427387904,rfl⟩:∃ n:Nat,n=4611686018427387904)
theorem Z9r:Z1d=4611686018427387904:=Classical.choose_spec (⟨4611686018427387904,rfl⟩:∃ n:Nat,n=4611686018427387904)
theorem Zak [Subsingleton R] {Γ:Env R} (hm:P.follows .mixedOrders=true) (hT:Z0e P Γ.tys) (hS:∀ g sig,Z0o Γ.fns g=some sig->Z18 P g sig) {f:FuncId} {fn:Func} {c:Code} {X:List (Z1e R)} {ht:HT} {fz:Bool} {modes:List Mode} {ags:List Bool}
  (hO : Z21 P Γ.np X ht c) (hf : P.funcs[f]? = some fn) (hname : (fn.name == "runtime.NumGoroutine") = false) (hb : fn.body = some c) (hn : modes.length ≤ fn.ntmps)
  {run:List TVal->List TVal->(List TVal->List TVal->List TVal->Option R)->Option R}
  (h:∀ vals ext k r,run vals ext k=some r->Z8l Γ X ht fz fn modes ags vals ext k=some r):Z18 P f (⟨modes,ags,run⟩:Sig R):=by
 have h0:=Z8M (Γ:=Γ) (X:=X) (ht:=ht) (fz:=fz) (modes:=modes) (ags:=ags) hm hT (Z9a hT hS) hO hf hname hb hn
 exact ⟨h0.1,λvals ext k r hr=>h0.2 vals ext k r (h vals ext k r hr)⟩
end
end Go.PI
namespace Go.PI
noncomputable def wkT (nil:Bool) (t t':Tag):Bool:=decide (t=t')||(nil&&(t.own|| !t'.own))
noncomputable def Z14:(τ:Ty)->El τ->List Bool
 | .slice e,x=>[List.isEmpty (α:=El e) x]
 | .pair a b,x=>Z14 a x.1++Z14 b x.2
 | _,_=>[]
noncomputable def Z1t:List Bool->List Tag->List Tag->Bool
 | n::ns,t::ts,t'::ts'=>wkT n t t'&&Z1t ns ts ts'
 | [],[],[]=>true
 | _,_,_=>false
noncomputable def wk1 (v:TVal) (tg:List Tag):Option TVal:=
 if v.tg=tg then some v else if (v.tg.map Tag.freeze=tg) then some { v with tg:=tg } else if Z1t (Z14 v.τ v.x) v.tg tg then some { v with tg:=tg } else none
noncomputable def Z5w:List (Nat×List Tag)->State->State
 | [],σ=>σ
 | (i,tg)::l,σ=>Z5w l (match σ.slot i with
  | .val v=>(match wk1 v tg with | some u=>{ σ with slots:=Z0I σ.slots i (.val u) } | none=>σ)
  | _=>σ)
noncomputable def Z5v:List (Nat×List Tag)->State->State
 | [],σ=>σ
 | (i,tg)::l,σ=>Z5v l (match σ.boxAt i with
  | some v=>(match wk1 v tg with | some u=>{ σ with boxes:=Z0I σ.boxes i (some u) } | none=>σ)
  | none=>σ)
noncomputable def State.wk (σ:State) (ws wb:List (Nat×List Tag)):State:=Z5v wb (Z5w ws σ)
noncomputable def wkE (l:List (Nat×List (Nat×List Tag)×List (Nat×List Tag))) (e:Ex) (σ:State):State:=
 match Z0o l (match e with | .normal=>0 | .ret=>1 | .exit j=>j+2) with
 | some q=>σ.wk q.1 q.2
 | none=>σ
section
variable {w:World} {F:Nat->Nat} {St Al:Nat->Prop}
theorem Z5k:{n1 n2:List Bool}->{t1 t2 tg:List Tag}->n1.length=t1.length->Z1t (n1++n2) (t1++t2) tg=true->∃ u1 u2,tg=u1++u2/\Z1t n1 t1 u1=true/\Z1t n2 t2 u2=true
 | [],n2,[],t2,tg,_,h=>⟨[],tg,rfl,rfl,h⟩
 | n::n1,n2,t::t1,t2,[],hl,h=>by simp [Z1t] at h
 | n::n1,n2,t::t1,t2,u::tg,hl,h=>by
  simp only [List.cons_append,Z1t,Bool.and_eq_true] at h
  obtain ⟨u1,u2,rfl,h1,h2⟩:=Z5k (by simpa using hl) h.2
  exact ⟨u::u1,u2,rfl,by simp only [Z1t,Bool.and_eq_true];exact ⟨h.1,h1⟩,h2⟩
 | [],_,_::_,_,_,hl,_=>by simp at hl
 | _::_,_,[],_,_,hl,_=>by simp at hl
theorem Z47:(τ:Ty)->(x:El τ)->(Z14 τ x).length=Z06 τ
 | .int _,_=>rfl
 | .bool,_=>rfl
 | .str,_=>rfl
 | .unit,_=>rfl
 | .slice _,_=>rfl
 | .pair a b,x=>by simp [Z14,Z06,Z47 a,Z47 b]
theorem Z7l:{τ:Ty}->{tg tg':List Tag}->{cs:List Value}->{x:El τ}->{fp:List Nat}->Rp w F St Al τ tg cs x fp->Z1t (Z14 τ x) tg tg'=true->∃ f' fd,fp.Perm (f'++fd)/\Rp w F St Al τ tg' cs x f'
 | .int _,tg,tg',cs,x,fp,h,hw=>by
  obtain ⟨rfl,rfl,rfl⟩:=h
  cases tg' with
  | nil=>exact ⟨[],[],by simp,rfl,rfl,rfl⟩
  | cons=>simp [Z14,Z1t] at hw
 | .bool,tg,tg',cs,x,fp,h,hw=>by
  obtain ⟨rfl,rfl,rfl⟩:=h
  cases tg' with
  | nil=>exact ⟨[],[],by simp,rfl,rfl,rfl⟩
  | cons=>simp [Z14,Z1t] at hw
 | .str,tg,tg',cs,x,fp,h,hw=>by
  obtain ⟨rfl,rfl,rfl⟩:=h
  cases tg' with
  | nil=>exact ⟨[],[],by simp,rfl,rfl,rfl⟩
  | cons=>simp [Z14,Z1t] at hw
 | .unit,tg,tg',cs,x,fp,h,hw=>by
  obtain ⟨rfl,rfl,rfl⟩:=h
  cases tg' with
  | nil=>exact ⟨[],[],by simp,rfl,rfl,rfl⟩
  | cons=>simp [Z14,Z1t] at hw
 | .pair a b,tg,tg',cs,x,fp,h,hw=>by
  obtain ⟨t1,t2,c1,c2,f1,f2,rfl,rfl,rfl,h1,h2⟩:=h
  obtain ⟨u1,u2,rfl,k1,k2⟩:=Z5k (by rw [Z47,h1.len.2]) hw
  obtain ⟨f1',d1,p1,q1⟩:=Z7l h1 k1
  obtain ⟨f2',d2,p2,q2⟩:=Z7l h2 k2
  refine ⟨f1'++f2',d1++d2,?_,Rp.pair_mk q1 q2⟩
  refine List.perm_iff_count.2 λz=> ?_
  have e1:=(List.perm_iff_count.1 p1) z
  have e2:=(List.perm_iff_count.1 p2) z
  simp only [List.count_append] at e1 e2 ⊢
  omega
 | .slice e,tg,tg',cs,x,fp,h,hw=>by
  obtain ⟨t,a,cap,rfl,rfl,hlc,h⟩:=h
  obtain ⟨t',rfl⟩:∃ t',tg'=[t']:=by
   match tg',hw with
   | [t'],_=>exact ⟨t',rfl⟩
   | [],hw=>simp [Z14,Z1t] at hw
   | _::_::_,hw=>simp [Z14,Z1t] at hw
  simp only [Z14,Z1t,wkT,Bool.and_true,Bool.or_eq_true,decide_eq_true_eq,Bool.and_eq_true,Bool.not_eq_true'] at hw
  rcases hw with rfl | ⟨hx,ht⟩
  ·exact ⟨fp,[],by simp,t,a,cap,rfl,rfl,hlc,h⟩
  ·have hx:x=[]:=List.isEmpty_iff.1 hx
   subst hx
   cases hto:t'.own with
   | false=>
    refine ⟨[],fp,by simp,t',a,cap,rfl,rfl,hlc,.inr (.inr ⟨hto,rfl,.inl rfl⟩)⟩
   | true=>
    rw [hto] at ht
    have ht:t.own=true:=by rcases ht with h | h;exact h;cases h
    rcases h with ⟨_,h1,h2,h3,rfl⟩ | ⟨_,b,o,fps,rfl,hal,rfl,hfl,hrow,hF,hel⟩ | ⟨ho,_⟩
    ·exact ⟨[],[],by simp,t',a,cap,rfl,rfl,hlc,.inl ⟨hto,h1,h2,h3,rfl⟩⟩
    ·exact ⟨b::fps.flatten,[],by simp,t',_,cap,rfl,rfl,hlc,.inr (.inl ⟨hto,b,o,fps,rfl,hal,rfl,hfl,hrow,hF,λk hk=>by simp at hk⟩)⟩
    ·rw [ht] at ho;cases ho
end
section
variable {W0:Base} {M:Nat->Prop} {σ:State} {a:Act} {w:World} {G:Ghost} {xs:List Nat} {P:Program} {R:Type} {r:R}
theorem Z7t (I:Inv W0 M σ a w G xs) {p:Place} {c:TVal} {tg:List Tag} (hc:σ.content p=some c) (h:c.tg.map Tag.freeze=tg\/Z1t (Z14 c.τ c.x) c.tg tg=true) :
  ∃ G',Inv W0 M (σ.setContent p { c with tg:=tg }) a w G' xs:=by
 obtain ⟨l,b,fp,hrl,hR,hw⟩:=Z0H I hc
 have hfp:G.fpOf p=fp:=by
  rcases hw with ⟨hb,_,rfl,_⟩ | ⟨hb,_,rfl,_⟩<;>simp [Ghost.fpOf,hb]
 rcases h with rfl | h
 ·obtain ⟨G1,I1,hs1⟩:=I.recontent (p:=p) (c':=c.alias) hc rfl rfl (l:=l) (b:=b) (f':=[]) (fi:=fp) hrl (hR.alias (Ghost.St_Al I)) (by simp [hfp])
  obtain ⟨G2,I2,gF,gad,gA,gb,gS,hl⟩:=I1.freeze
  have hcon1:(σ.setContent p c.alias).content p=some c.alias:=by
   obtain ⟨bx,root,path⟩:=p
   cases bx with
   | true=>
    show Z0v none (Z0I σ.boxes root (some c.alias)) root=_
    rw [Z0U,if_pos ⟨rfl,Z1D (show σ.boxAt root=some c from hc)⟩]
   | false=>
    simp only [State.content]
    have hlt:root<σ.slots.length:=Z0W (by
     intro h0
     simp only [State.content,h0] at hc
     cases hc)
    rw [Z0O hc,if_pos ⟨rfl,hlt⟩]
    simp only [State.content] at hc
    cases hsl:σ.slot root<;>rw [hsl] at hc<;>first | (cases hc;done) | rfl
  have hrl2:Z09 G2 a w p=some (l,b):=by
   obtain ⟨bx,root,path⟩:=p
   cases bx with
   | true=>simp only [Z09] at hrl ⊢;rw [gad,hs1.ad];exact hrl
   | false=>exact hrl
  have hfz:Rp w G2.F G2.St G2.Al c.τ (c.tg.map Tag.freeze) l c.x []:=by
   rw [gF,gA,hs1.F,hs1.Al]
   exact hR.freeze (λb hb=>(gS b).2 (.inl (by rw [hs1.St];exact hb))) (Ghost.St_Al I) λb hb=>(gS b).2 (.inr hb)
  have hfs2:G2.fpOf p=[]:=by
   obtain ⟨l2,b2,fp2,_,hR2,hw2⟩:=Z0H I2 hcon1
   have:fp2=[]:=hR2.fp_nil (by
    intro s hs
    obtain ⟨s',_,rfl⟩:=List.mem_map.1 hs
    cases s'<;>rfl)
   rcases hw2 with ⟨hb,_,rfl,_⟩ | ⟨hb,_,rfl,_⟩<;>simp [Ghost.fpOf,hb,this]
  obtain ⟨G3,I3,hs3⟩:=I2.recontent (p:=p) (c':={ c with tg:=c.tg.map Tag.freeze }) hcon1 rfl rfl (l:=l) (b:=b) (f':=[]) (fi:=[]) hrl2 hfz (by simp [hfs2])
  have hst:(σ.setContent p c.alias).setContent p { c with tg:=c.tg.map Tag.freeze }=σ.setContent p { c with tg:=c.tg.map Tag.freeze }:=by
   obtain ⟨bx,root,path⟩:=p
   cases bx with
   | true=>simp only [State.setContent,Z1z]
   | false=>
    have hlt:root<σ.slots.length:=Z0W (by
     intro h0
     simp only [State.content,h0] at hc
     cases hc)
    have h1:=Z0O (c':=c.alias) hc root
    rw [if_pos ⟨rfl,hlt⟩] at h1
    simp only [State.content] at hc
    cases hsl:σ.slot root<;>rw [hsl] at hc h1<;>first | (cases hc;done) | skip
    ·simp only [State.setContent,hsl] at h1 ⊢
     rw [h1]
     simp only [Z1z]
    ·simp only [State.setContent,hsl] at h1 ⊢
     rw [h1]
     simp only [Z1z]
  rw [hst] at I3
  exact ⟨G3,by simpa using I3⟩
 ·obtain ⟨f',fd,hp,hR'⟩:=Z7l hR h
  obtain ⟨G1,I1,_⟩:=I.recontent (p:=p) (c':={ c with tg:=tg }) hc rfl rfl (l:=l) (b:=b) (f':=f') (fi:=fd) hrl hR' (by rw [hfp];exact hp)
  exact ⟨G1,I1.sub (λb hb=>List.mem_append_right _ hb) (List.nodup_append.1 I1.nodX).2.1⟩
theorem Z7H {v u:TVal} {tg:List Tag} (h:wk1 v tg=some u):u=v\/(u={ v with tg:=tg }/\(v.tg.map Tag.freeze=tg\/Z1t (Z14 v.τ v.x) v.tg tg=true)):=by
 unfold wk1 at h
 split at h
 ·cases h;exact .inl rfl
 ·split at h
  ·rename_i hf
   cases h;exact .inr ⟨rfl,.inl hf⟩
  ·split at h
   ·rename_i hf
    cases h;exact .inr ⟨rfl,.inr hf⟩
   ·cases h
theorem Z2o:(l:List (Nat×List Tag))->(σ:State)->(G:Ghost)->Inv W0 M σ a w G xs->∃ G',Inv W0 M (Z5w l σ) a w G' xs
 | [],σ,G,I=>⟨G,I⟩
 | (i,tg)::l,σ,G,I=>by
  simp only [Z5w]
  split
  ·rename_i v hv
   split
   ·rename_i u hu
    rcases Z7H hu with rfl | ⟨rfl,h⟩
    ·have:({ σ with slots:=Z0I σ.slots i (.val u) }:State)=σ:=by
      have hs:Z0I σ.slots i (.val u)=σ.slots:=by
       rw [<-hv]
       exact Z5e σ.slots i (Z0W (by rw [hv];simp))
      rw [hs]
     rw [this]
     exact Z2o l σ G I
    ·have hc:σ.content ⟨false,i,[]⟩=some v:=by simp [State.content,hv]
     obtain ⟨G1,I1⟩:=Z7t I hc h
     have he:σ.setContent ⟨false,i,[]⟩ { v with tg:=tg }={ σ with slots:=Z0I σ.slots i (.val { v with tg:=tg }) }:=by simp only [State.setContent,hv]
     rw [he] at I1
     exact Z2o l _ G1 I1
   ·exact Z2o l σ G I
  ·exact Z2o l σ G I
theorem Z2n:(l:List (Nat×List Tag))->(σ:State)->(G:Ghost)->Inv W0 M σ a w G xs->∃ G',Inv W0 M (Z5v l σ) a w G' xs
 | [],σ,G,I=>⟨G,I⟩
 | (i,tg)::l,σ,G,I=>by
  simp only [Z5v]
  split
  ·rename_i v hv
   split
   ·rename_i u hu
    rcases Z7H hu with rfl | ⟨rfl,h⟩
    ·have:({ σ with boxes:=Z0I σ.boxes i (some u) }:State)=σ:=by
      have hs:Z0I σ.boxes i (some u)=σ.boxes:=by
       rw [<-hv]
       exact Z5e σ.boxes i (Z1D hv)
      rw [hs]
     rw [this]
     exact Z2n l σ G I
    ·have hc:σ.content ⟨true,i,[]⟩=some v:=hv
     obtain ⟨G1,I1⟩:=Z7t I hc h
     exact Z2n l _ G1 I1
   ·exact Z2n l σ G I
  ·exact Z2n l σ G I
theorem Z93 (I:Inv W0 M σ a w G xs) (ws wb:List (Nat×List Tag)):∃ G',Inv W0 M (σ.wk ws wb) a w G' xs:=by
 obtain ⟨G1,I1⟩:=Z2o ws σ G I
 exact Z2n wb _ G1 I1
theorem ZaJ (I:Inv W0 M σ a w G xs) (l:List (Nat×List (Nat×List Tag)×List (Nat×List Tag))) (e:Ex):∃ G',Inv W0 M (wkE l e σ) a w G' xs:=by
 unfold wkE
 split
 ·exact Z93 I _ _
 ·exact ⟨G,I⟩
theorem ZaK {c:Code} {y:Z1e R} (ws wb:List (Nat×List Tag)) (hc:Z15 P W0 M c y):Z15 P W0 M c (λσ k=>y (σ.wk ws wb) k):=by
 intro σ a w G k r Q hQ I hr hk
 obtain ⟨G',I'⟩:=Z93 I ws wb
 exact hc _ a w G' k r Q hQ I' hr hk
theorem Za9 {c:Code} {run:Z1e R} (hc:Z15 P W0 M c run) {fg:Ex->State->State} (hfg:∀ e σ a w G,Inv W0 M σ a w G []->∃ G',Inv W0 M (fg e σ) a w G' []) {x:Z1e R}
  (h:∀ σ k r,x σ k=some r->∃ σ',Z2G σ' σ/\run σ' (λe σ''=>k e (fg e σ''))=some r):Z15 P W0 M c x:=by
 intro σ a w G k r Q hQ I hr hk
 obtain ⟨σ',hle,hrun⟩:=h σ k r hr
 obtain ⟨G',I'⟩:=hle.inv I
 refine hc σ' a w G' _ r Q hQ I' hrun λe σ'' a' w' G'' he I''=> ?_
 obtain ⟨G3,I3⟩:=hfg e σ'' a' w' G'' I''
 exact hk e _ a' w' G3 he I3
theorem Za8 {c:Code} {run:Z1e R} (hc:Z15 P W0 M c run) {fN:State->State} {fX:Ex->State->State} (hfN:∀ σ a w G,Inv W0 M σ a w G []->∃ G',Inv W0 M (fN σ) a w G' []) (hfX:∀ e σ a w G,Inv W0 M σ a w G []->∃ G',Inv W0 M (fX e σ) a w G' []) (n:Nat) {x:Z1e R}
  (h:∀ σ k r,x σ k=some r->∃ σ',Z2G σ' σ/\Z3x run fN fX n σ' k=some r):Z15 P W0 M (.loop c) x:=by
 have h1:Z15 P W0 M (.loop c) (Z3x run fN fX n):=Z64 hc hfN hfX n
 intro σ a w G k r Q hQ I hr hk
 obtain ⟨σ',hle,hrun⟩:=h σ k r hr
 obtain ⟨G',I'⟩:=hle.inv I
 exact h1 σ' a w G' k r Q hQ I' hrun hk
end
end Go.PI
namespace Go.PI
abbrev Res:=Option Unit
def Z9L (n:Int):Int:=IntKind.i64.wrap n
def wu8 (n:Int):Int:=IntKind.u8.wrap n
def ZaX (n:Int):Int:=IntKind.i32.wrap n
def ZaY (n:Int):Int:=IntKind.u32.wrap n
def ZaZ (n:Int):Int:=IntKind.u64.wrap n
def nI (n:Nat):Int:=(n:Int)
def eS:ByteArray:=⟨#[]⟩
def sEq (a b:ByteArray):Bool:=a.toList==b.toList
def sNe (a b:ByteArray):Bool:= !(a.toList==b.toList)
def sLt (a b:ByteArray):Bool:=Op.bytesLess a.toList b.toList
def sLe (a b:ByteArray):Bool:=Op.bytesLess a.toList b.toList||a.toList==b.toList
def sGt (a b:ByteArray):Bool:= !(Op.bytesLess a.toList b.toList||a.toList==b.toList)
def sGe (a b:ByteArray):Bool:= !(Op.bytesLess a.toList b.toList)
def nth {α:Type} (z:α) (l:List α) (i:Int):α:=l.getD i.toNat z
def upd {α:Type} (l:List α) (i:Int) (v:α):List α:=l.set i.toNat v
def Z9i {α:Type} (n:Int) (z:α):List α:=List.replicate n.toNat z
def ZaT (s:ByteArray) (i j:Int):ByteArray:=s.extract i.toNat j.toNat
noncomputable def Z9J (m c:Int):Bool:=decide (0<=m/\m<=c/\c<=(LIM:Int))
def ZaV (k:IntKind) (m n:Int):Int:=k.wrap (m * 2 ^ min n.toNat k.bits)
def ZaW (k:IntKind) (m n:Int):Int:=Int.fdiv m (2 ^ min n.toNat k.bits)
def ZaS (k:IntKind) (a b:Int):Int:=k.wrap ((BitVec.ofInt k.bits a &&& BitVec.ofInt k.bits b).toNat)
def orI (k:IntKind) (a b:Int):Int:=k.wrap ((BitVec.ofInt k.bits a ||| BitVec.ofInt k.bits b).toNat)
def Zb0 (k:IntKind) (a b:Int):Int:=k.wrap ((BitVec.ofInt k.bits a ^^^ BitVec.ofInt k.bits b).toNat)
section
variable {R:Type} {r:R}
def av (l:List TVal) (τ:Ty) (f:El τ->List TVal->Option R):Option R:=match l with | v::l=>Z87 v τ λx=>f x l | []=>none
def ab (l:List TVal) (τ:Ty) (tg:List Tag) (f:Bool->El τ->List TVal->Option R):Option R:=match l with | v::l=>Z5G v τ tg λa x=>f a x l | []=>none
def ao (l:List TVal) (τ:Ty) (tg:List Tag) (f:El τ->List TVal->Option R):Option R:=match l with | v::l=>Z5G v τ tg λ_ x=>f x l | []=>none
def nl (l:List TVal) (f:Option R):Option R:=match l with | []=>f | _::_=>none
theorem Zaq {l:List TVal} {τ:Ty} {f:El τ->List TVal->Option R} (h:av l τ f=some r):∃ x a t l',l=⟨τ,a,x,t⟩::l'/\f x l'=some r:=by
 cases l with
 | nil=>cases h
 | cons v l=>
  have h:Z87 v τ (λx=>f x l)=some r:=h
  obtain ⟨a,x,t,rfl,h2⟩:=Z8D h
  exact ⟨x,a,t,l,rfl,h2⟩
theorem Zao {l:List TVal} {τ:Ty} {tg:List Tag} {f:Bool->El τ->List TVal->Option R} (h:ab l τ tg f=some r):∃ a x l',l=⟨τ,a,x,tg⟩::l'/\f a x l'=some r:=by
 cases l with
 | nil=>cases h
 | cons v l=>
  have h:Z5G v τ tg (λa x=>f a x l)=some r:=h
  obtain ⟨a,x,rfl,h2⟩:=Z4T h
  exact ⟨a,x,l,rfl,h2⟩
theorem Zap {l:List TVal} {τ:Ty} {tg:List Tag} {f:El τ->List TVal->Option R} (h:ao l τ tg f=some r):∃ a x l',l=⟨τ,a,x,tg⟩::l'/\f x l'=some r:=by
 cases l with
 | nil=>cases h
 | cons v l=>
  have h:Z5G v τ tg (λ_ x=>f x l)=some r:=h
  obtain ⟨a,x,rfl,h2⟩:=Z4T h
  exact ⟨a,x,l,rfl,h2⟩
theorem Zax {l:List TVal} {f:Option R} (h:nl l f=some r):l=[]/\f=some r:=by
 cases l with
 | nil=>exact ⟨rfl,h⟩
 | cons v l=>cases h
theorem Z21.mk {P:Program} {np:Nat} {X:List (Z1e R)} {a b:HT} {c:Code} (h1:Z21 P np X a c.pl) (h2:Z21 P np X b c.pr):Z21 P np X (.t a b) c:=⟨h1,h2⟩
theorem Z21.x_mk {P:Program} {np:Nat} {X:List (Z1e R)} {i:Nat} {c:Code} (h:∀ (W0:Base) (M:Nat->Prop),W0.np<=np->Z15 P W0 M c (Z0v (λ_ _=>none) X i)):Z21 P np X (.x i) c:=h
theorem Zat {P:Program}:∀ (g:Nat) (sig:Sig R),Z0o [] g=some sig->Z18 P g sig:=λ_ _ h=>by cases h
theorem Za7 {P:Program} {g:Nat} {s:Sig R} {l:List (FuncId×Sig R)} (h:Z18 P g s) (hl:∀ (g:Nat) (sig:Sig R),Z0o l g=some sig->Z18 P g sig) :
  ∀ (g':Nat) (sig:Sig R),Z0o ((g,s)::l) g'=some sig->Z18 P g' sig:=by
 intro g' sig hh
 simp only [Z0o] at hh
 split at hh
 ·rename_i he
  simp at he
  subst he
  cases hh
  exact h
 ·exact hl g' sig hh
end
def Z9K {T:Type} (bot:T) (b:T->T):Nat->T
 | 0=>bot
 | n+1=>b (Z9K bot b n)
theorem Z9g {T:Type} {C:T->Prop} {bot:T} {b:T->T} (h0:C bot) (h:∀ t,C t->C (b t)):∀ n,C (Z9K bot b n)
 | 0=>h0
 | n+1=>h _ (Z9g h0 h n)
theorem Z9O {R : Type} {P : Program} {f : FuncId} {fn : Func} {c : Code} {sig : Sig R} (hf : P.funcs[f]? = some fn) (hname : (fn.name == "runtime.NumGoroutine") = false) (hb : fn.body = some c)
  (h:∀ vals ext k r,sig.run vals ext k=some r->False):Z18 P f sig:=
 ⟨⟨fn,c,hf,hname,hb⟩,λvals ext k r hr=>(h vals ext k r hr).elim⟩
theorem Z9R (x:Res):Z88 x x=x:=by cases x<;>rfl
end Go.PI
namespace Go.PI
def Wf:(τ:Ty)->El τ->Prop
 | .int k,n=>(Lit.int k n).wf=true
 | .bool,_=>True
 | .str,s=>ByteArray.size s<=maxLen
 | .unit,_=>True
 | .slice e,l=>List.length (α:=El e) l<=maxLen/\∀ x∈(l:List (El e)),Wf e x
 | .pair a b,x=>Wf a x.1/\Wf b x.2
theorem Z2q {α β:Type} {f:α->Option β}:(l:List α)->(ys:List β)->l.mapM f=some ys->ys.length=l.length/\∀ (k:Nat) (h:k<l.length),∃ y,f l[k]=some y/\ys[k]? = some y
 | [],ys,h=>by
  simp only [List.mapM_nil,Option.pure_def,Option.some.injEq] at h
  subst h
  exact ⟨rfl,λk h=>absurd h (by simp)⟩
 | a::l,ys,h=>by
  rw [List.mapM_cons] at h
  cases hf:f a with
  | none=>rw [hf] at h;simp at h
  | some y=>
   rw [hf] at h
   cases hl:l.mapM f with
   | none=>rw [hl] at h;simp at h
   | some zs=>
    rw [hl] at h
    simp at h
    subst h
    obtain ⟨h1,h2⟩:=Z2q l zs hl
    refine ⟨by simp [h1],λk hk=> ?_⟩
    cases k with
    | zero=>exact ⟨y,hf,rfl⟩
    | succ k=>exact h2 k (by simpa using hk)
def Z2H (w:World) (b:Nat):Nat:=match w.heap[b]? with | some (.cells c _ _)=>c.size | _=>0
theorem Z76 {w:World} {a:Addr} {n:Nat} {l:List Value} (h:w.cells? 0 a n=some l) (hn:n≠0) :
  ∃ b o,a=⟨b,o,none⟩/\Z05 w b o n=some l/\o+n<=Z2H w b/\b<w.heap.size:=by
 obtain ⟨b,o,sp⟩:=a
 unfold World.cells? at h
 rw [if_pos (Nat.zero_le _)] at h
 obtain ⟨hlen,hget⟩:=Z2q _ _ h
 simp only [List.length_range] at hlen hget
 obtain ⟨v0,hv0,_⟩:=hget 0 (by omega)
 have hx:w.cell? ⟨b,o,sp⟩=some v0:=by simpa [Addr.add] using hv0
 have hb:sp=none/\∃ c T fr,w.heap[b]? = some (.cells c T fr):=by
  unfold World.cell? at hx
  cases hb:w.heap[b]? with
  | none=>simp [hb] at hx
  | some ob=>
   cases ob with
   | cells c T fr=>
    cases sp with
    | none=>exact ⟨rfl,c,T,fr,rfl⟩
    | some x=>simp [hb] at hx
   | _=>simp [hb] at hx
 obtain ⟨rfl,hb⟩:=hb
 obtain ⟨c,T,fr,hc⟩:=hb
 have hcell:∀ k,k<n->c[o+k]? = l[k]? := by
  intro k hk
  obtain ⟨v,hv,hl⟩:=hget k hk
  rw [hl]
  simp only [List.getElem_range] at hv
  have:w.cell? (Addr.add ⟨b,o,none⟩ k)=c[o+k]? := by
   unfold Addr.add
   by_cases h0:k=0
   ·subst h0;simp [World.cell?,hc]
   ·simp [h0,World.cell?,hc]
  rw [this] at hv
  exact hv
 have hsz:o+n<=c.size:=by
  have h1:=hcell (n-1) (by omega)
  have h2:(n-1)<l.length:=by omega
  rw [List.getElem?_eq_getElem h2] at h1
  have:=(Array.getElem?_eq_some_iff.1 h1).1
  omega
 refine ⟨b,o,rfl,?_,by unfold Z2H;rw [hc];exact hsz,(Array.getElem?_eq_some_iff.1 hc).1⟩
 unfold Z05
 rw [hc]
 simp only []
 rw [if_pos hsz]
 congr 1
 refine List.ext_getElem? λk=> ?_
 by_cases hk:k<n
 ·rw [List.getElem?_take_of_lt hk,List.getElem?_drop,Array.getElem?_toList,hcell k hk]
 ·rw [List.getElem?_eq_none (by simp;omega),List.getElem?_eq_none (by omega)]
section
variable {P:Program} {tys:List (TypeId×Ty×List TypeId)}
theorem TyF.cells {t:TypeId} {τ:Ty} {l:List TypeId} (h:TyF P tys t τ l):P.cellsOf t=size τ:=by
 obtain ⟨i,z,h1,h2,_⟩:=h.info
 unfold Program.cellsOf
 rw [h1]
 simp [h2]
theorem Z7D {τ τf:Ty} (h:Z0d τ [.fst]=some τf):∃ b,τ= .pair τf b:=by
 cases τ with
 | pair a b=>simp only [Z0d,Option.some.injEq] at h;subst h;exact ⟨b,rfl⟩
 | _=>simp [Z0d] at h
theorem Z9l {τ τf:Ty} {p:List Step} (h:Z0d τ (.snd::p)=some τf):∃ a b,τ= .pair a b/\Z0d b p=some τf:=by
 cases τ with
 | pair a b=>exact ⟨a,b,rfl,by simpa [Z0d] using h⟩
 | _=>simp [Z0d] at h
theorem TyF.pos {t:TypeId} {τ:Ty} {l:List TypeId} (h:TyF P tys t τ l):size τ≠0:=by
 by_cases hl:l=[]
 ·obtain ⟨_,_,_,_,h5,h6⟩:=h.und hl
  cases τ with
  | unit=>exact absurd rfl h5
  | pair a b=>exact absurd rfl (h6 a b)
  | _=>simp [size]
 ·obtain ⟨fs,_,_,h3,_⟩:=h.str hl
  obtain ⟨f,τf,lf,_,_,_,h4,_,h5,_⟩:=(h3 0 (List.length_pos_iff.2 hl)).out
  match hn:l.length with
  | 0=>exact absurd (List.length_eq_zero_iff.1 hn) hl
  | 1=>
   rw [hn] at h4
   simp only [Z0a,Z0d] at h4
   cases τ<;>simp only [Z0d,Option.some.injEq] at h4<;>subst h4<;>exact h5
  | n+2=>
   rw [hn] at h4
   simp only [Z0a] at h4
   obtain ⟨b,rfl⟩:=Z7D h4
   simp only [size]
   omega
theorem Z9t {cs:List Value} {a o n:Nat}:((cs.drop a).drop o).take n=(cs.drop (a+o)).take n:=by rw [List.drop_drop]
theorem Z6G {w:World} {F:Nat->Nat} {St Al:Nat->Prop}:(n:Nat)->(τ:Ty)->(cs:List Value)->n≠0->cs.length=size τ ->
  (∀ i,i<n->∃ τf,Z0d τ (Z0a n i)=some τf/\∃ x:El τf,Rp w F St Al τf (List.replicate (Z06 τf) .S) ((cs.drop (Z0g τ (Z0a n i))).take (size τf)) x []/\Wf τf x) ->
  ∃ x:El τ,Rp w F St Al τ (List.replicate (Z06 τ) .S) cs x []/\Wf τ x
 | 0,τ,cs,h,_,_=>absurd rfl h
 | 1,τ,cs,_,hl,h=>by
  obtain ⟨τf,h1,x,h2,h3⟩:=h 0 (by omega)
  have hoff:Z0g τ (Z0a 1 0)=0:=by cases τ<;>rfl
  have hτ:τf=τ:=by
   simp only [Z0a] at h1
   cases τ<;>simp only [Z0d,Option.some.injEq] at h1<;>exact h1.symm
  subst hτ
  rw [hoff,List.drop_zero,List.take_of_length_le (by omega)] at h2
  exact ⟨x,h2,h3⟩
 | n+2,τ,cs,_,hl,h=>by
  obtain ⟨τf,h1,x,h2,h3⟩:=h 0 (by omega)
  simp only [Z0a] at h1
  obtain ⟨b,rfl⟩:=Z7D h1
  have hoff:Z0g (.pair τf b) (Z0a (n+2) 0)=0:=by simp only [Z0a];cases τf<;>rfl
  rw [hoff,List.drop_zero] at h2
  simp only [size] at hl
  obtain ⟨y,h4,h5⟩:=Z6G (n+1) b (cs.drop (size τf)) (by omega) (by rw [List.length_drop];omega) λi hi=>by
   obtain ⟨τg,g1,z,g2,g3⟩:=h (i+1) (by omega)
   simp only [Z0a] at g1
   obtain ⟨a',b',he,g4⟩:=Z9l g1
   cases he
   refine ⟨τg,g4,z,?_,g3⟩
   have:Z0g (.pair τf b) (Z0a (n+2) (i+1))=size τf+Z0g b (Z0a (n+1) i):=by simp only [Z0a,Z0g]
   rw [this] at g2
   rw [List.drop_drop]
   exact g2
  refine ⟨(x,y),⟨_,_,_,_,[],[],?_,(List.take_append_drop (size τf) cs).symm,rfl,h2,h4⟩,h3,h5⟩
  simp only [Z06,List.replicate_append_replicate]
theorem Z5I (hT:Z0e P tys) {H:Type} {enc:TypeId×Value->H} {w:World} {Al:Nat->Prop}:(fuel:Nat)->(t:TypeId)->(τ:Ty)->(l:List TypeId)->(cs:List Value)->(d:DataW H×List MemPlace) ->
  Z0o tys t=some (τ,l)->DataW.trod enc P w 0 (λ_=>true) true fuel t cs=some d->∃ x:El τ,Rp w (Z2H w) (·< w.heap.size) Al τ (List.replicate (Z06 τ) .S) cs x []/\Wf τ x
 | 0,t,τ,l,cs,d,ha,h=>by cases h
 | fuel+1,t,τ,l,cs,d,ha,h=>by
  have hF:=hT t τ l ha
  by_cases hl:l=[]
  ·obtain ⟨u1,u2,u3,u4,u5,u6⟩:=hF.und hl
   cases τ with
   | unit=>exact absurd rfl u5
   | pair a b=>exact absurd rfl (u6 a b)
   | int k=>
    have hu:=u1 k rfl
    simp only [DataW.trod,hu] at h
    split at h<;>first | (cases h;done) | skip
    all_goals (first | (rename_i heq;cases heq;done) | skip)
    rename_i k0 k' n heq
    cases heq
    split at h
    ·rename_i hc
     obtain ⟨rfl,hw⟩:=hc
     exact ⟨n,⟨rfl,rfl,rfl⟩,hw⟩
    ·cases h
   | bool=>
    have hu:=u2 rfl
    simp only [DataW.trod,hu] at h
    split at h<;>first | (cases h;done) | skip
    all_goals (first | (rename_i heq;cases heq;done) | skip)
    rename_i b heq
    exact ⟨b,⟨rfl,rfl,rfl⟩,trivial⟩
   | str=>
    have hu:=u3 rfl
    simp only [DataW.trod,hu] at h
    split at h<;>first | (cases h;done) | skip
    all_goals (first | (rename_i heq;cases heq;done) | skip)
    rename_i s heq
    split at h
    ·rename_i hs
     exact ⟨s,⟨rfl,rfl,rfl⟩,hs⟩
    ·cases h
   | slice e=>
    obtain ⟨et,hu,he,_⟩:=u4 e rfl
    have hae:∃ le,Z0o tys et=some (e,le):=by
     unfold Z0z at he
     cases hx:Z0o tys et with
     | none=>rw [hx] at he;cases he
     | some p=>rw [hx] at he;simp at he;exact ⟨p.2,by rw [<-he]⟩
    obtain ⟨le,hae⟩:=hae
    have hFe:=hT et e le hae
    simp only [DataW.trod,hu] at h
    split at h<;>first | (cases h;done) | skip
    all_goals (first | (rename_i heq;cases heq;done) | skip)
    ·rename_i e0 heq
     exact ⟨[],⟨.S,none,0,rfl,rfl,Nat.le_refl _,.inr (.inr ⟨rfl,rfl,.inl rfl⟩)⟩,Nat.zero_le _,by simp⟩
    ·rename_i e0 a len cap heq
     cases heq
     split at h
     ·rename_i hc
      obtain ⟨_,hlc,hcm⟩:=hc
      cases hm:(List.range len).mapM λi=>(w.cells? 0 (a.add (i * P.cellsOf et)) (P.cellsOf et)).bind (DataW.trod enc P w 0 (λ_=>true) true fuel et) with
      | none=>rw [hm] at h;cases h
      | some ys=>
       obtain ⟨hyl,hget⟩:=Z2q _ _ hm
       simp only [List.length_range,List.getElem_range] at hget hyl
       rw [hFe.cells] at hget
       have hpos:=hFe.pos
       have hx:∀ k:Fin len,∃ x:El e,(∃ b o,a=⟨b,o,none⟩/\b<w.heap.size/\o+k.1 * size e+size e<=Z2H w b/\∃ cs',Z05 w b (o+k.1 * size e) (size e)=some cs'/\Rp w (Z2H w) (·< w.heap.size) Al e (List.replicate (Z06 e) .S) cs' x [])/\Wf e x:=by
        intro k
        obtain ⟨y,hy,_⟩:=hget k.1 k.2
        cases hcs:w.cells? 0 (a.add (k.1 * size e)) (size e) with
        | none=>rw [hcs] at hy;cases hy
        | some cs'=>
         rw [hcs] at hy
         have hy:DataW.trod enc P w 0 (λ_=>true) true fuel et cs'=some y:=hy
         obtain ⟨x,hx1,hx2⟩:=Z5I hT fuel et e le cs' y hae hy
         obtain ⟨b,o,ha1,ha2,ha3,ha4⟩:=Z76 hcs hpos
         obtain ⟨y0,hy0,_⟩:=hget 0 (by have:=k.2;omega)
         cases hcs0:w.cells? 0 (a.add (0 * size e)) (size e) with
         | none=>rw [hcs0] at hy0;cases hy0
         | some cs0=>
          obtain ⟨b0,o0,hb1,_,_,_⟩:=Z76 hcs0 hpos
          rw [Nat.zero_mul] at hb1
          have hb1:a=⟨b0,o0,none⟩:=by simpa [Addr.add] using hb1
          subst hb1
          have:b=b0/\o=o0+k.1 * size e:=by
           unfold Addr.add at ha1
           split at ha1
           ·rename_i hz;cases ha1;exact ⟨rfl,by omega⟩
           ·cases ha1;exact ⟨rfl,rfl⟩
          obtain ⟨rfl,rfl⟩:=this
          exact ⟨x,⟨b,o0,rfl,ha4,ha3,cs',ha2,hx1⟩,hx2⟩
       let xs:List (El e):=List.ofFn λk:Fin len=>Classical.choose (hx k)
       have hxl:xs.length=len:=by simp [xs]
       have hxg:∀ (k:Nat) (h:k<xs.length),(∃ b o,a=⟨b,o,none⟩/\b<w.heap.size/\o+k * size e+size e<=Z2H w b/\∃ cs',Z05 w b (o+k * size e) (size e)=some cs'/\Rp w (Z2H w) (·< w.heap.size) Al e (List.replicate (Z06 e) .S) cs' xs[k] [])/\Wf e xs[k]:=by
        intro k hk
        have:=Classical.choose_spec (hx ⟨k,by omega⟩)
        simpa [xs] using this
       refine ⟨xs,⟨.S,some a,cap,rfl,by rw [hxl],by rw [hxl];exact hlc,.inr (.inr ⟨rfl,rfl,?_⟩)⟩,by show xs.length<=_;omega,?_⟩
       ·by_cases h0:len=0
        ·left;exact List.length_eq_zero_iff.1 (by omega)
        ·right
         obtain ⟨⟨b,o,rfl,hb,hend,_⟩,_⟩:=hxg (len-1) (by omega)
         refine ⟨b,o,rfl,hb,?_,λk hk=> ?_⟩
         ·rw [hxl]
          have:o+(len-1) * size e+size e=o+len * size e:=by
           have:len=(len-1)+1:=by omega
           rw [this,Nat.add_mul];simp;omega
          omega
         ·obtain ⟨⟨b',o',he',_,_,cs',h1,h2⟩,_⟩:=hxg k hk
          cases he'
          exact ⟨cs',h1,h2⟩
       ·intro x hx
        obtain ⟨k,hk,rfl⟩:=List.mem_iff_getElem.1 hx
        exact (hxg k hk).2
     ·cases h
  ·obtain ⟨fs,hu,hfl,hfs,_⟩:=hF.str hl
   simp only [DataW.trod,hu] at h
   split at h
   ·rename_i hlen
    rw [hF.cells] at hlen
    cases hm:fs.toList.mapM λf=>DataW.trod enc P w 0 (λ_=>true) true fuel f.type ((cs.drop f.offset).take (P.cellsOf f.type)) with
    | none=>rw [hm] at h;cases h
    | some ys=>
     obtain ⟨_,hget⟩:=Z2q _ _ hm
     refine Z6G l.length τ cs (by simpa using hl) hlen λi hi=> ?_
     obtain ⟨f,τf,lf,h1,h2,h3,h4,h5,_,_⟩:=(hfs i hi).out
     have hif:i<fs.toList.length:=by simp;omega
     obtain ⟨y,hy,_⟩:=hget i hif
     have hfi:fs.toList[i]=f:=by
      have:fs.toList[i]? = some f:=by rw [Array.getElem?_toList];exact h1
      rw [List.getElem?_eq_getElem hif] at this
      simpa using this
     rw [hfi] at hy
     have hFf:=hT f.type τf lf h5
     rw [hFf.cells,h3] at hy
     obtain ⟨x,hx1,hx2⟩:=Z5I hT fuel f.type τf lf _ y h5 hy
     exact ⟨τf,h4,x,hx1,hx2⟩
   ·cases h
end
end Go.PI
namespace Go.PI
open Go.ChangeShapes Go.WideShapes Go.ChangeAt Go.RowKit
noncomputable def Z2i (tys:List (TypeId×Ty×List TypeId)):List TypeId->Option (List Mode)
 | []=>some []
 | t::ts=>match Z0o tys t,Z2i tys ts with | some (τ,l),some ms=>some (.borrow τ (!l.isEmpty)::ms) | _,_=>none
def Z4q:List Mode->List TVal->Prop
 | [],[]=>True
 | .borrow τ ag::ms,v::vs=>(∃ x t,v=⟨τ,ag,x,t⟩/\Wf τ x)/\Z4q ms vs
 | _,_=>False
theorem Z4q.none {vals:List TVal} (h:Z4q [] vals):vals=[]:=by
 cases vals with
 | nil=>rfl
 | cons v vs=>exact h.elim
theorem Z4q.one {τ:Ty} {ag:Bool} {ms:List Mode} {vals:List TVal} (h:Z4q (.borrow τ ag::ms) vals):∃ x t vs,vals=⟨τ,ag,x,t⟩::vs/\Wf τ x/\Z4q ms vs:=by
 cases vals with
 | nil=>exact h.elim
 | cons v vs=>
  obtain ⟨⟨x,t,rfl,w⟩,h⟩:=h
  exact ⟨x,t,vs,rfl,w,h⟩
section
variable {P:Program} {tys:List (TypeId×Ty×List TypeId)} {H:Type} {enc:TypeId×Value->H} {W:World} {base:Nat}
theorem Z8S {t:TypeId} {τ:Ty} {l:List TypeId} {v:Value} (h:TyF P tys t τ l) (hv:Value.okWide P W .any base t v):Z0f (!l.isEmpty) v:=by
 by_cases hl:l=[]
 ·subst hl
  obtain ⟨u1,u2,u3,u4,u5,u6⟩:=h.und rfl
  show one v=true
  cases τ with
  | unit=>exact absurd rfl u5
  | pair a b=>exact absurd rfl (u6 a b)
  | int k=>obtain ⟨n,rfl⟩:=okWide_int (u1 k rfl) hv;rfl
  | bool=>obtain ⟨n,rfl⟩:=okWide_bool (u2 rfl) hv;rfl
  | str=>obtain ⟨n,rfl⟩:=okWide_string (u3 rfl) hv;rfl
  | slice e=>obtain ⟨et,hu,_⟩:=u4 e rfl;obtain ⟨a,n,c,rfl⟩:=okWide_slice hu hv;rfl
 ·obtain ⟨fs,hu,_⟩:=h.str hl
  obtain ⟨cs,rfl,_⟩:=okWide_struct hu hv
  have:(!l.isEmpty)=true:=by cases l<;>simp_all
  rw [this]
  exact ⟨cs,rfl⟩
theorem Z55 (hT:Z0e P tys):(ts:List TypeId)->(vs:List Value)->(ds:List (DataW H))->(p:List MemPlace)->(ms:List Mode)->DataW.TrodAll enc P W 0 (λ_=>true) true ts vs ds p ->
  (∀ (j:Nat) t v,ts[j]? = some t->vs[j]? = some v->Value.okWide P W .any base t v)->Z2i tys ts=some ms ->
  ds.length=ts.length/\∃ vals:List TVal,Z4q ms vals/\Z0u W (Z2H W) (·< W.heap.size) ms vals vs (vals.map λ_=>[]) []
 | [],vs,ds,p,ms,h,_,hm=>by
  obtain ⟨rfl,rfl,rfl⟩:=trodAll_nil h
  simp only [Z2i,Option.some.injEq] at hm
  subst hm
  exact ⟨rfl,[],trivial,trivial⟩
 | t::ts,vs,ds,p,ms,h,hv,hm=>by
  obtain ⟨v,vs1,d,ds1,a,b,rfl,rfl,rfl,h1,h2⟩:=trodAll_cons h
  simp only [Z2i] at hm
  split at hm
  ·rename_i τ l ms' ha hms
   cases hm
   obtain ⟨hlen,vals,q1,q2⟩:=Z55 hT ts vs1 ds1 b ms' h2 (λj t v ht hv'=>hv (j+1) t v (by simpa using ht) (by simpa using hv')) hms
   obtain ⟨fuel,hf⟩:=h1
   obtain ⟨x,hx,hw⟩:=Z5I hT (Al:=(·< W.heap.size)) fuel t τ l _ _ ha hf
   have hsh:=Z8S (hT t τ l ha) (hv 0 t v rfl rfl)
   refine ⟨by simp [hlen],⟨τ,!l.isEmpty,x,List.replicate (Z06 τ) .S⟩::vals,⟨⟨x,_,rfl,hw⟩,q1⟩,rfl,hsh,?_,q2⟩
   rw [hsh.cells]
   exact hx
  ·cases hm
def Z61:List TVal->List TVal->List TVal->Option Unit
 | [⟨.bool,false,true,_⟩],_,_=>some ()
 | _,_,_=>none
theorem Z8s {res ios ext:List TVal} (h:Z61 res ios ext=some ()):∃ tg,res=[⟨.bool,false,true,tg⟩]:=by
 unfold Z61 at h
 split at h
 ·exact ⟨_,rfl⟩
 ·cases h
theorem Z67:(ts:List TypeId)->(ms:List Mode)->(xs:List Value)->Z2i tys ts=some ms->Z0Z ms xs=[]
 | [],ms,xs,h=>by
  simp only [Z2i,Option.some.injEq] at h
  subst h
  cases xs<;>rfl
 | t::ts,ms,xs,h=>by
  simp only [Z2i] at h
  split at h
  ·rename_i hx
   cases h
   cases xs with
   | nil=>rfl
   | cons x xs=>exact Z67 ts _ xs hx
  ·cases h
theorem Z8N (hT:Z0e P tys) {f:FuncId} {sig:Sig Unit} (hs:Z18 P f sig) {ts:List TypeId} {args:Array Value} {ds:List (DataW H)} {p:List MemPlace} (hm:Z2i tys ts=some sig.modes)
  (hpure:∀ vals,Z4q sig.modes vals->sig.run vals [] Z61=some ()) (h:DataW.TrodAll enc P W 0 (λ_=>true) true ts args.toList ds p)
  (hv:∀ (j:Nat) t v,ts[j]? = some t->args[j]? = some v->Value.okWide P W .any base t v) :
  Calls P f args W λe W'=>e= .returned (.bool true)/\Below W.heap.size W W':=by
 obtain ⟨_,vals,hvals,hA⟩:=Z55 hT ts args.toList ds p _ h (λj t v ht hv'=>hv j t v ht (by rwa [Array.getElem?_toList] at hv')) hm
 have hfl:(vals.map λ_=>([]:List Nat)).flatten=[]:=by induction vals<;>simp_all
 have hc:=hs.2 vals [] Z61 () (hpure vals hvals) W (Z2H W) (·< W.heap.size) args.toList [] (vals.map λ_=>[]) [] hA trivial (by rw [hfl];simp) (λb hb=>⟨hb,by rw [hfl];simp⟩) (by rw [hfl];simp)
 have:args.toList.toArray=args:=by simp
 rw [this] at hc
 refine hc.mono λe W'=> ?_
 rintro ⟨v,res,ios,ext',rfl,hk,hty,hexn,F',St',vs,fps,efps,⟨rfl,hil,_⟩,hres,hbox,hE,_⟩
 obtain ⟨tg,rfl⟩:=Z8s hk
 have hio:=Z67 ts _ args.toList hm
 rw [hio] at hil hres
 have hi0:ios=[]:=List.length_eq_zero_iff.1 hil
 subst hi0
 rw [List.append_nil,List.append_nil] at hres
 have hE':Below W.heap.size W W':=⟨hE.os,hE.tape,hE.output,hE.size,λb hb=>hE.block b hb (by rw [hfl];simp)⟩
 refine ⟨?_,hE'⟩
 cases vs with
 | nil=>exact hres.elim
 | cons v vs=>
  cases fps with
  | nil=>exact hres.elim
  | cons f fps=>
   obtain ⟨⟨h1,_,h3⟩,h4⟩:=hres
   have:v= .bool true:=Z5M h1 h3
   subst this
   cases vs with
   | nil=>rfl
   | cons u vs=>cases fps<;>exact h4.elim
theorem Z6B {W':World} (hl:laidOutB P=true) (hb:Below W.heap.size W W'):(ts:List TypeId)->(vs:List Value)->(ds:List (DataW H))->(p:List MemPlace)->ts.all (λt=>P.readableRec t&&decide (t<P.types.size))=true ->
  DataW.TrodAll enc P W 0 (λ_=>true) true ts vs ds p->DataW.TrodAll enc P W' 0 (λb=>decide (b<W.heap.size)) true ts vs ds p
 | [],vs,ds,p,_,h=>by
  obtain ⟨rfl,rfl,rfl⟩:=trodAll_nil h
  exact trodAll_mk0
 | t::ts,vs,ds,p,ht,h=>by
  obtain ⟨v,vs1,d,ds1,a,b,rfl,rfl,rfl,h1,h2⟩:=trodAll_cons h
  simp only [List.all_cons,Bool.and_eq_true,decide_eq_true_eq] at ht
  refine trodAll_cons_mk ?_ (Z6B hl hb ts vs1 ds1 b ht.2 h2)
  refine Below.trod hl ht.1.1 ht.1.2 h1 hb λx hx=> ?_
  obtain ⟨m,hm⟩:=h1
  exact DataW.trod_lt m _ _ _ hm x hx
theorem Z9H (hT:Z0e P tys) (hl:laidOutB P=true) {f:FuncId} {fn:Func} {sig:Sig Unit} (hs:Z18 P f sig) {s:ChangeSpec} (hvars:s.vars=[]) {tb:TypeId} (hrt:fn.resultTypes= #[tb]) (hbool:P.underlying tb=some .bool)
  (hm:Z2i tys fn.params.toList=some sig.modes) (hread:fn.params.toList.all (λt=>P.readableRec t&&decide (t<P.types.size))=true)
  (hfn:∀ ds:List (DataW H),ds.length=fn.params.toList.length->s.fn H ds={ results:=[.lit (.bool true)],args:=ds })
  (hpure:∀ vals,Z4q sig.modes vals->sig.run vals [] Z61=some ()) {args:Array Value} {ds gs:List (DataW H)} {before:List MemPlace}
  (hval:∀ (j:Nat) t v,fn.params[j]? = some t->args[j]? = some v->Value.okWide P W .any base t v) (hW:DataW.Whole enc P fn.params.toList s.vars false W args.toList ds gs before) :
  Calls P f args W λe W'=>∃ v,e= .returned v/\s.post enc P fn false true false false W args v W':=by
 have hW':=hW
 obtain ⟨p,q,hA,hV,rfl,hfz,hnd⟩:=hW
 rw [hvars] at hV
 obtain ⟨rfl,rfl⟩:=trodVars_none hV
 have hlen:ds.length=fn.params.toList.length:=(Z55 hT _ _ _ _ _ hA (λj t v ht hv'=>hval j t v (by rwa [Array.getElem?_toList] at ht) (by rwa [Array.getElem?_toList] at hv')) hm).1
 refine (Z8N hT hs hm hpure hA λj t v ht hv'=>hval j t v (by rwa [Array.getElem?_toList] at ht) hv').mono λe W'=> ?_
 rintro ⟨rfl,bel⟩
 have hf:=hfn ds hlen
 refine ⟨_,rfl,ds,[],_,[],p,[],hW',?_,?_,?_,bel.frame _,λh=>by cases h⟩
 ·rw [List.append_nil,hf,hrt]
  exact trodAll_mk1 (shut_bool hbool _)
 ·rw [List.append_nil,hf]
  exact Z6B hl bel _ _ _ _ hread hA
 ·rw [hvars,List.append_nil,hf]
  exact rfl
end
end Go.PI
namespace Go.PI
theorem ZaI {n:Int} (h1: -9223372036854775808<=n) (h2:n<9223372036854775808):Z9L n=n:=by
 unfold Z9L IntKind.wrap
 simp only [IntKind.bits,IntKind.signed,Bool.true_and]
 by_cases h:n % 2 ^ 64>=2 ^ (64-1)
 ·rw [if_pos (by simpa using h)];omega
 ·rw [if_neg (by simpa using h)];omega
theorem ZaL {i:Int} {n:Nat} (h1:0<=i) (h2:i<(n:Int)):inb i n=true:=by
 unfold inb;exact decide_eq_true ⟨h1,h2⟩
theorem ZaM {n:Nat} (h:n<=LIM):lim n=true:=decide_eq_true h
theorem Zaw {n:Nat} (h:n<=LIM):Z9J (nI n) (nI n)=true:=by
 unfold Z9J nI;exact decide_eq_true ⟨by omega,by omega,by omega⟩
theorem Za6 {a b:Int} (h:a<b):decide (a<b)=true:=decide_eq_true h
theorem Za5 {a b:Int} (h:¬ a<b):decide (a<b)=false:=decide_eq_false h
theorem Zaz {α:Type} (z:α) (l:List α) (i:Nat) (h:i<l.length):nth z l (i:Int)=l[i]:=by
 unfold nth;simp [h]
theorem ZaG {α:Type} (l:List α) (i:Nat) (v:α):upd l (i:Int) v=l.set i v:=by unfold upd;simp
theorem Z3v {V K:Type} {step:V->(V->Res)->K->Res} (st:Nat->V) (N:Nat) (q:K) (fin:Res)
  (hs:∀ i,i<N->∀ rec,step (st i) rec q=rec (st (i+1))) (he:∀ rec,step (st N) rec q=fin) (n:Nat) (hn:N<n):Z1g step n (st 0) q=fin:=by
 have:∀ d i n,i+d=N->d<n->Z1g step n (st i) q=fin:=by
  intro d
  induction d with
  | zero=>
   intro i n hi hn
   obtain ⟨n,rfl⟩:∃ m,n=m+1:=⟨n-1,by omega⟩
   have:i=N:=by omega
   subst this
   exact he _
  | succ d ih=>
   intro i n hi hn
   obtain ⟨n,rfl⟩:∃ m,n=m+1:=⟨n-1,by omega⟩
   show step (st i) _ q=fin
   rw [hs i (by omega)]
   exact ih (i+1) n (by omega) (by omega)
 exact this N 0 n (by omega) (by omega)
theorem Z2c {n:Nat} (h:n<4611686018427387904):n<Z1d:=by rw [Z9r];exact h
def Z23 {α β:Type} (a:List α) (f:α->β) (z:β) (i:Nat):List β:=(a.take i).map f++List.replicate (a.length-i) z
theorem Z8h {α β:Type} (a:List α) (f:α->β) (z:β) (i:Nat) (h:i<=a.length):(Z23 a f z i).length=a.length:=by
 unfold Z23;simp;omega
theorem Z8g {α β:Type} (a:List α) (f:α->β) (z:β):Z23 a f z a.length=a.map f:=by
 unfold Z23;simp
theorem Z7O {α β:Type} (a:List α) (f:α->β) (z:β):Z23 a f z 0=List.replicate a.length z:=by
 unfold Z23;simp
theorem Z8i {α β:Type} (a:List α) (f:α->β) (z:β) (i:Nat) (h:i<a.length):(Z23 a f z i).set i (f a[i])=Z23 a f z (i+1):=by
 unfold Z23
 rw [List.set_append_right _ _ (by simp;omega)]
 have h1:a.length-i=(a.length-(i+1))+1:=by omega
 have h2:i-((a.take i).map f).length=0:=by simp;omega
 rw [h2,h1,List.replicate_succ,List.set_cons_zero,List.take_succ_eq_append_getElem h,List.map_append,List.append_assoc]
 rfl
theorem ZaR {n:Nat} {i:Nat} (h:i<n):decide ((i:Int)<nI n)=true:=decide_eq_true (by unfold nI;omega)
theorem ZaQ {n:Nat}:decide ((n:Int)<nI n)=false:=decide_eq_false (by unfold nI;omega)
theorem ZaD {α β:Type} (z:β) (a:List α) (f:α->β) {step:(List β×Int)->(List β×Int->Res)->(List β->Res)->Res} (q:List β->Res) (hlen:a.length<=LIM)
  (hs:∀ (out:List β) (i:Nat) rec,(hi:i<a.length)->out.length=a.length->step (out,(i:Int)) rec q=rec (out.set i (f a[i]),(i:Int)+1))
  (he:∀ out rec,step (out,(a.length:Int)) rec q=q out):Z1g step Z1d (Z9i (nI a.length) z,0) q=q (a.map f):=by
 have h0:Z9i (nI a.length) z=Z23 a f z 0:=by rw [Z7O];unfold Z9i nI;simp
 rw [h0]
 refine Z3v (λi=>(Z23 a f z i,(i:Int))) a.length q _ (λi hi rec=> ?_) (λrec=> ?_) Z1d (Z2c (by unfold LIM at hlen;omega))
 ·rw [hs _ i rec hi (Z8h _ _ _ _ (by omega)),Z8i a f z i hi];rfl
 ·rw [he,Z8g]
def szR (left:Int) (n:Nat):Int:=if (n:Int)<=left then left-n else -1
theorem ZaB {left:Int} {n:Nat} (h:(n:Int)<=left):szR left n=left-n:=if_pos h
theorem ZaA {left:Int} {n:Nat} (h:¬ (n:Int)<=left):szR left n= -1:=if_neg h
theorem Zal {left:Int} {a b:Nat} (h:(a:Int)<=left):szR left (a+b)=szR (left-a) b:=by
 unfold szR
 by_cases hc:((b:Nat):Int)<=left-a
 ·rw [if_pos hc,if_pos (show ((a+b:Nat):Int)<=left by omega)];omega
 ·rw [if_neg hc,if_neg (show ¬ ((a+b:Nat):Int)<=left by omega)]
theorem Zam {left:Int} {a b:Nat} (h:¬ (a:Int)<=left):szR left (a+b)= -1:=if_neg (show ¬ ((a+b:Nat):Int)<=left by omega)
theorem ZaO {left:Int} {n:Nat} (h:0<=left):szR left n<=left:=by unfold szR;split<;>omega
theorem ZaC {α:Type} (b:α->Nat) (a:List α) {step:(Int×Int)->(Int×Int->Res)->((Int->Res)×(Unit->Res))->Res} (q:(Int->Res)×(Unit->Res)) (hlen:a.length<=1048576)
  (hs:∀ (left:Int) (i:Nat) rec,(hi:i<a.length)->0<=left->left<=1048576->step (left,(i:Int)) rec q=if (b a[i]:Int)<=left then rec (left-b a[i],(i:Int)+1) else q.2 ())
  (he:∀ left rec,step (left,(a.length:Int)) rec q=q.1 left) (left:Int) (h0:0<=left) (h1:left<=1048576) :
  Z1g step Z1d (left,0) q=if (((a.map b).sum:Nat):Int)<=left then q.1 (left-((a.map b).sum:Nat)) else q.2 ():=by
 have key:∀ (d i n:Nat) (left:Int),i+d=a.length->d<n->0<=left->left<=1048576 ->
   Z1g step n (left,(i:Int)) q=if ((((a.drop i).map b).sum:Nat):Int)<=left then q.1 (left-(((a.drop i).map b).sum:Nat)) else q.2 ():=by
  intro d
  induction d with
  | zero=>
   intro i n left hi hn h0 h1
   obtain ⟨n,rfl⟩:∃ m,n=m+1:=⟨n-1,by omega⟩
   have:i=a.length:=by omega
   subst this
   show step _ _ q=_
   rw [he]
   simp [h0]
  | succ d ih=>
   intro i n left hi hn h0 h1
   obtain ⟨n,rfl⟩:∃ m,n=m+1:=⟨n-1,by omega⟩
   have hlt:i<a.length:=by omega
   show step _ _ q=_
   rw [hs left i _ hlt h0 h1,List.drop_eq_getElem_cons hlt,List.map_cons,List.sum_cons]
   by_cases hb:(b a[i]:Int)<=left
   ·rw [if_pos hb]
    have:=ih (i+1) n (left-b a[i]) (by omega) (by omega) (by omega) (by omega)
    rw [show ((i:Int)+1)=((i+1:Nat):Int) by omega,this]
    by_cases hc:((((a.drop (i+1)).map b).sum:Nat):Int)<=left-b a[i]
    ·have hc2:((b a[i]+((a.drop (i+1)).map b).sum:Nat):Int)<=left:=by omega
     rw [if_pos hc,if_pos hc2]
     have:left-(b a[i]:Int)-((((a.drop (i+1)).map b).sum:Nat):Int)=left-((b a[i]+((a.drop (i+1)).map b).sum:Nat):Int):=by omega
     rw [this]
    ·have hc2:¬ ((b a[i]+((a.drop (i+1)).map b).sum:Nat):Int)<=left:=by omega
     rw [if_neg hc,if_neg hc2]
   ·have hc2:¬ ((b a[i]+((a.drop (i+1)).map b).sum:Nat):Int)<=left:=by omega
    rw [if_neg hb,if_neg hc2]
 have:=key a.length 0 Z1d left (by omega) (Z2c (by omega)) h0 h1
 simpa using this
theorem Zas {α:Type} (a:List α) {step:Int->(Int->Res)->((Unit->Res)×(Unit->Res))->Res} (q:(Unit->Res)×(Unit->Res)) (hlen:a.length<=LIM)
  (hs:∀ (i:Nat) rec,(hi:i<a.length)->step (i:Int) rec q=rec ((i:Int)+1)) (he:∀ rec,step (a.length:Int) rec q=q.1 ()):Z1g step Z1d (0:Int) q=q.1 ():=
 Z3v (λi=>(i:Int)) a.length q _ (λi hi rec=>by rw [hs i rec hi];rfl) he Z1d (Z2c (by unfold LIM at hlen;omega))
end Go.PI
namespace Go.PI
theorem Z9I {α:Type} (b:α->Nat):(l:List α)->∀ x∈l,b x<=(l.map b).sum
 | y::l,x,h=>by
  rcases List.mem_cons.1 h with rfl | h
  ·simp
  ·have:=Z9I b l x h
   simp;omega
def Z4s {α β:Type} (g:Int->α->List β):Nat->List α->List β
 | _,[]=>[]
 | j,x::l=>g j x++Z4s g (j+1) l
theorem Z96 {α β:Type} (g:Int->α->List β) (b:α->Nat) (b':β->Nat) (h:∀ i x,((g i x).map b').sum<=b x):(j:Nat)->(l:List α)->((Z4s g j l).map b').sum<=(l.map b).sum
 | _,[]=>Nat.le_refl _
 | j,x::l=>by
  have:=Z96 g b b' h (j+1) l
  have:=h j x
  simp only [Z4s,List.map_append,List.sum_append,List.map_cons,List.sum_cons]
  omega
theorem Z95 {α β:Type} (g:Int->α->List β) (h:∀ i x,(g i x).length<=1):(j:Nat)->(l:List α)->(Z4s g j l).length<=l.length
 | _,[]=>Nat.le_refl _
 | j,x::l=>by
  have:=Z95 g h (j+1) l
  have:=h j x
  simp only [Z4s,List.length_append,List.length_cons]
  omega
theorem Za4 {α β:Type} (a:List α) (g:Int->α->List β) {V K:Type} (st:Int->List β->V) {step:V->(V->Res)->K->Res} (q:K) (fin:List β->Res) (hlen:a.length<=LIM) (hg:∀ i x,(g i x).length<=1)
  (hs:∀ (out:List β) (i:Nat) rec,(hi:i<a.length)->out.length<=i->step (st i out) rec q=rec (st (i+1) (out++g i a[i])))
  (he:∀ out rec,step (st (a.length:Int) out) rec q=fin out):Z1g step Z1d (st 0 []) q=fin (Z4s g 0 a):=by
 have key:∀ (d i n:Nat) (out:List β),i+d=a.length->d<n->out.length<=i->Z1g step n (st i out) q=fin (out++Z4s g i (a.drop i)):=by
  intro d
  induction d with
  | zero=>
   intro i n out hi hn ho
   obtain ⟨n,rfl⟩:∃ m,n=m+1:=⟨n-1,by omega⟩
   have:i=a.length:=by omega
   subst this
   show step _ _ q=_
   rw [he]
   simp [Z4s]
  | succ d ih=>
   intro i n out hi hn ho
   obtain ⟨n,rfl⟩:∃ m,n=m+1:=⟨n-1,by omega⟩
   have hlt:i<a.length:=by omega
   show step _ _ q=_
   rw [hs out i _ hlt ho,List.drop_eq_getElem_cons hlt]
   have:=ih (i+1) n (out++g i a[i]) (by omega) (by omega) (by have:=hg i a[i];simp;omega)
   rw [show ((i:Int)+1)=((i+1:Nat):Int) by omega,this]
   simp [Z4s,List.append_assoc]
 have:=key a.length 0 Z1d [] (by omega) (Z2c (by unfold LIM at hlen;omega)) (by simp)
 simpa using this
def mkL {α:Type} (w:α->Nat) (mk:α->Int->α):List α->Int->List α
 | [],_=>[]
 | x::l,k=>mk x k::mkL w mk l (k+w x)
theorem Z6t {α:Type} (w:α->Nat) (mk:α->Int->α):(l:List α)->(k:Int)->(mkL w mk l k).length=l.length
 | [],_=>rfl
 | x::l,k=>by simp [mkL,Z6t w mk l]
theorem Z66 {α:Type} (w:α->Nat) (mk:α->Int->α):(l m:List α)->(k:Int)->mkL w mk (l++m) k=mkL w mk l k++mkL w mk m (k+((l.map w).sum:Nat))
 | [],m,k=>by simp [mkL]
 | x::l,m,k=>by
  simp only [List.cons_append,mkL,List.map_cons,List.sum_cons]
  rw [Z66 w mk l m]
  congr 3
  omega
theorem Z9w {α:Type} (w:α->Nat) (mk:α->Int->α) (b:α->Nat) (h:∀ x k,b (mk x k)=b x):(l:List α)->(k:Int)->((mkL w mk l k).map b).sum=(l.map b).sum
 | [],_=>rfl
 | x::l,k=>by simp only [mkL,List.map_cons,List.sum_cons,h,Z9w w mk b h l]
theorem Z7C {α:Type} (w:α->Nat) (a:List α) (i:Nat) (h:i<a.length):((a.take (i+1)).map w).sum=((a.take i).map w).sum+w a[i]:=by
 rw [List.take_succ_eq_append_getElem h,List.map_append,List.sum_append,List.map_cons,List.map_nil,List.sum_cons,List.sum_nil,Nat.add_zero]
theorem Z9M {α:Type} (w:α->Nat) (a:List α) (i:Nat):((a.take i).map w).sum<=(a.map w).sum:=by
 have:(a.map w).sum=((a.take i).map w).sum+((a.drop i).map w).sum:=by
  rw [<-List.sum_append,<-List.map_append,List.take_append_drop]
 omega
theorem Za0 {α:Type} (w:α->Nat) (mk:α->Int->α) (a:List α) (k:Int) {V K:Type} (st:List α->Int->Int->V) {step:V->(V->Res)->K->Res} (q:K) (fin:List α->Int->Res)
  (hlen:a.length<=LIM)
  (hs:∀ (l:List α) (i:Nat) rec,(hi:i<a.length)->l.length=a.length->(hl:i<l.length)->l[i]=a[i]->step (st l (k+(((a.take i).map w).sum:Nat)) i) rec q=rec (st (l.set i (mk a[i] (k+(((a.take i).map w).sum:Nat)))) (k+(((a.take i).map w).sum:Nat)+w a[i]) (i+1)))
  (he:∀ l k rec,l.length=a.length->step (st l k (a.length:Int)) rec q=fin l k):Z1g step Z1d (st a k 0) q=fin (mkL w mk a k) (k+((a.map w).sum:Nat)):=by
 have:=Z3v (step:=step) (λi=>st (mkL w mk (a.take i) k++a.drop i) (k+(((a.take i).map w).sum:Nat)) i) a.length q (fin (mkL w mk a k) (k+((a.map w).sum:Nat))) (λi hi rec=>by
  have hlm:(mkL w mk (a.take i) k).length=i:=by rw [Z6t];simp;omega
  have hl:(mkL w mk (a.take i) k++a.drop i).length=a.length:=by simp [hlm];omega
  rw [hs _ i rec hi hl (by omega) (by rw [List.getElem_append_right (by omega)];simp [hlm])]
  have h1:(mkL w mk (a.take i) k++a.drop i).set i (mk a[i] (k+(((a.take i).map w).sum:Nat)))=mkL w mk (a.take (i+1)) k++a.drop (i+1):=by
   rw [List.set_append_right _ _ (by omega),hlm,Nat.sub_self,List.drop_eq_getElem_cons hi,List.set_cons_zero,List.take_succ_eq_append_getElem hi,Z66]
   simp [mkL]
  rw [h1,Z7C w a i hi]
  have h2:k+(((a.take i).map w).sum:Nat)+(w a[i]:Int)=k+((((a.take i).map w).sum+w a[i]:Nat):Int):=by omega
  rw [h2]
  rfl) (λrec=>by
  rw [he _ _ _ (by simp [Z6t])]
  simp) Z1d (Z2c (by unfold LIM at hlen;omega))
 simpa [mkL] using this
theorem Zav {α:Type} (w:α->Nat) (mk:α->Int->α) (a:List α) (k:Int) (i:Nat) (h:i<a.length) (h':i<(mkL w mk a k).length):(mkL w mk a k)[i]=mk a[i] (k+(((a.take i).map w).sum:Nat)):=by
 induction a generalizing k i with
 | nil=>simp at h
 | cons x l ih=>
  cases i with
  | zero=>simp [mkL]
  | succ i=>
   simp only [mkL,List.getElem_cons_succ,List.take_succ_cons,List.map_cons,List.sum_cons]
   rw [ih _ _ (by simpa using h)]
   congr 1
   omega
theorem Z9X {α:Type} (w:α->Nat) (a:List α) (k:Int) {V K:Type} (st:Int->Int->V) {step:V->(V->Res)->K->Res} (q:K) (fin:Int->Res) (hlen:a.length<=LIM)
  (hs:∀ (i:Nat) rec,(hi:i<a.length)->step (st (k+(((a.take i).map w).sum:Nat)) i) rec q=rec (st (k+(((a.take i).map w).sum:Nat)+w a[i]) (i+1)))
  (he:∀ k rec,step (st k (a.length:Int)) rec q=fin k):Z1g step Z1d (st k 0) q=fin (k+((a.map w).sum:Nat)):=by
 have:=Z3v (step:=step) (λi=>st (k+(((a.take i).map w).sum:Nat)) i) a.length q (fin (k+((a.map w).sum:Nat))) (λi hi rec=>by
  rw [hs i rec hi,Z7C w a i hi]
  have h2:k+(((a.take i).map w).sum:Nat)+(w a[i]:Int)=k+((((a.take i).map w).sum+w a[i]:Nat):Int):=by omega
  rw [h2]
  rfl) (λrec=>by
  rw [he]
  simp) Z1d (Z2c (by unfold LIM at hlen;omega))
 simpa using this
theorem Za1 {V K:Type} (N:Nat) (st:Int->V) (bad:Nat->Bool) {step:V->(V->Res)->K->Res} (q:K) (fin:Res) (ex:Nat->Res) (hN:N<=LIM)
  (hs:∀ (i:Nat) rec,i<N->step (st i) rec q=bif bad i then ex i else rec (st ((i:Int)+1))) (he:∀ rec,step (st (N:Int)) rec q=fin) :
  Z1g step Z1d (st 0) q=match (List.range N).find? bad with | none=>fin | some i=>ex i:=by
 have key:∀ (d i n:Nat),i+d=N->d<n->Z1g step n (st i) q=match (List.range' i d).find? bad with | none=>fin | some i=>ex i:=by
  intro d
  induction d with
  | zero=>
   intro i n hi hn
   obtain ⟨n,rfl⟩:∃ m,n=m+1:=⟨n-1,by omega⟩
   have:i=N:=by omega
   subst this
   show step _ _ q=_
   rw [he]
   rfl
  | succ d ih=>
   intro i n hi hn
   obtain ⟨n,rfl⟩:∃ m,n=m+1:=⟨n-1,by omega⟩
   show step _ _ q=_
   rw [hs i _ (by omega),List.range'_succ,List.find?_cons]
   cases bad i with
   | true=>rfl
   | false=>
    have:=ih (i+1) n (by omega) (by omega)
    rw [show ((i:Int)+1)=((i+1:Nat):Int) by omega,cond_false]
    exact this
 have:=key N 0 Z1d (by omega) (Z2c (by unfold LIM at hN;omega))
 rw [List.range_eq_range']
 exact this
theorem Z9N {bad:Nat->Bool} {l:List Nat} {a b:Res}:(match l.find? bad with | none=>a | some _=>b)=bif l.any bad then b else a:=by
 induction l with
 | nil=>rfl
 | cons x l ih=>
  rw [List.find?_cons,List.any_cons]
  cases bad x with
  | true=>rfl
  | false=>exact ih
theorem Z9S {bad:Nat->Bool} {l:List Nat} {k:Bool->Res} {u v:Bool}:(bif l.any bad then k u else k v)=k (bif l.any bad then u else v):=by
 cases l.any bad<;>rfl
theorem Zah (a b:ByteArray):sEq a b=sEq b a:=by
 unfold sEq;exact BEq.comm
theorem Zai (a:ByteArray):sEq a a=true:=by unfold sEq;simp
theorem Zaj (a:ByteArray):sNe a a=false:=by unfold sNe;simp
theorem ZaP {α:Type} [BEq α] [LawfulBEq α] (n:α):(n != n)=false:=by simp
def Z5W {A:Type} (f:Nat->A->A):Nat->Nat->A->A
 | _,0,a=>a
 | i,d+1,a=>Z5W f (i+1) d (f i a)
theorem Z9V {A V K:Type} (N:Nat) (st:Int->A->V) (f:Nat->A->A) (p:Nat->A->Prop) {step:V->(V->Res)->K->Res} (q:K) (fin:A->Res) (a0:A) (hN:N<=LIM) (h0:p 0 a0)
  (hp:∀ (i:Nat) a,i<N->p i a->p (i+1) (f i a)) (hs:∀ (i:Nat) a rec,i<N->p i a->step (st i a) rec q=rec (st ((i:Int)+1) (f i a)))
  (he:∀ a rec,p N a->step (st (N:Int) a) rec q=fin a):Z1g step Z1d (st 0 a0) q=fin (Z5W f 0 N a0)/\p N (Z5W f 0 N a0):=by
 have key:∀ (d i n:Nat) (a:A),i+d=N->d<n->p i a->Z1g step n (st i a) q=fin (Z5W f i d a)/\p N (Z5W f i d a):=by
  intro d
  induction d with
  | zero=>
   intro i n a hi hn ha
   obtain ⟨n,rfl⟩:∃ m,n=m+1:=⟨n-1,by omega⟩
   have:i=N:=by omega
   subst this
   exact ⟨he a _ ha,ha⟩
  | succ d ih=>
   intro i n a hi hn ha
   obtain ⟨n,rfl⟩:∃ m,n=m+1:=⟨n-1,by omega⟩
   have:=ih (i+1) n (f i a) (by omega) (by omega) (hp i a (by omega) ha)
   refine ⟨?_,this.2⟩
   show step _ _ q=_
   rw [hs i a _ (by omega) ha,show ((i:Int)+1)=((i+1:Nat):Int) by omega]
   exact this.1
 exact key N 0 Z1d a0 (by omega) (Z2c (by unfold LIM at hN;omega)) h0
theorem Z9Z {V K:Type} (step:V->(V->Res)->K->Res) (m:Nat) (v:V) (q:K):Z1g step (m+1) v q=step v (λv'=>Z1g step m v' q) q:=rfl
end Go.PI
namespace Go.PI
def Z1T {α A E:Type} (f:Nat->A->α->Except E A):Nat->List α->A->Except E A
 | _,[],a=> .ok a
 | i,x::l,a=>match f i a x with
  | .ok a'=>Z1T f (i+1) l a'
  | .error e=> .error e
theorem Z40 {α A E V K:Type} (l:List α) (st:Int->A->V) (f:Nat->A->α->Except E A) (p:Nat->A->Prop) {step:V->(V->Res)->K->Res} (q:K) (fin:A->Res) (ex:E->Res) (a0:A) (hN:l.length<=LIM) (h0:p 0 a0)
  (hp:∀ (i:Nat) a a',(hi:i<l.length)->p i a->f i a l[i]= .ok a'->p (i+1) a')
  (hs:∀ (i:Nat) a rec,(hi:i<l.length)->p i a->step (st i a) rec q=match f i a l[i] with | .ok a'=>rec (st ((i:Int)+1) a') | .error e=>ex e)
  (he:∀ a rec,p l.length a->step (st (l.length:Int) a) rec q=fin a):Z1g step Z1d (st 0 a0) q=match Z1T f 0 l a0 with | .ok a=>fin a | .error e=>ex e:=by
 have key:∀ (d i n:Nat) (a:A),i+d=l.length->d<n->p i a->Z1g step n (st i a) q=match Z1T f i (l.drop i) a with | .ok a=>fin a | .error e=>ex e:=by
  intro d
  induction d with
  | zero=>
   intro i n a hi hn ha
   obtain ⟨n,rfl⟩:∃ m,n=m+1:=⟨n-1,by omega⟩
   have:i=l.length:=by omega
   subst this
   rw [List.drop_length]
   exact he a _ ha
  | succ d ih=>
   intro i n a hi hn ha
   obtain ⟨n,rfl⟩:∃ m,n=m+1:=⟨n-1,by omega⟩
   have hlt:i<l.length:=by omega
   show step _ _ q=_
   rw [hs i a _ hlt ha,List.drop_eq_getElem_cons hlt]
   simp only [Z1T]
   cases hf:f i a l[i] with
   | error e=>rfl
   | ok a'=>
    have:=ih (i+1) n a' (by omega) (by omega) (hp i a a' hlt ha hf)
    rw [show ((i:Int)+1)=((i+1:Nat):Int) by omega]
    exact this
 have:=key l.length 0 Z1d a0 (by omega) (Z2c (by unfold LIM at hN;omega)) h0
 simpa using this
theorem Z92 {α A E:Type} {f:Nat->A->α->Except E A} (p:Nat->A->Prop):(l:List α)->(i:Nat)->(a b:A)->p i a->(∀ (j:Nat) x a a',x∈l->p j a->f j a x= .ok a'->p (j+1) a')->Z1T f i l a= .ok b->p (i+l.length) b
 | [],i,a,b,h0,_,h=>by
  simp only [Z1T,Except.ok.injEq] at h
  subst h;exact h0
 | x::l,i,a,b,h0,hp,h=>by
  simp only [Z1T] at h
  split at h
  ·rename_i a' hf
   have:=Z92 p l (i+1) a' b (hp i x a a' (by simp) h0 hf) (λj y a a' hy=>hp j y a a' (List.mem_cons_of_mem _ hy)) h
   rw [List.length_cons]
   rw [show i+(l.length+1)=i+1+l.length by omega]
   exact this
  ·cases h
theorem Z8j {α A V K:Type} (l:List α) (st:Int->A->V) (f:A->α->A) (p:Nat->A->Prop) {step:V->(V->Res)->K->Res} (q:K) (fin:A->Res) (a0:A) (hN:l.length<=LIM) (h0:p 0 a0)
  (hp:∀ (i:Nat) a,(hi:i<l.length)->p i a->p (i+1) (f a l[i]))
  (hs:∀ (i:Nat) a rec,(hi:i<l.length)->p i a->step (st i a) rec q=rec (st ((i:Int)+1) (f a l[i])))
  (he:∀ a rec,p l.length a->step (st (l.length:Int) a) rec q=fin a):Z1g step Z1d (st 0 a0) q=fin (l.foldl f a0):=by
 have h:=Z40 l st (λ_ a x=>(.ok (f a x):Except Empty A)) p q fin (λe=>e.elim) a0 hN h0 (λi a a' hi ha h=>by cases h;exact hp i a hi ha) (λi a rec hi ha=>hs i a rec hi ha) he
 rw [h]
 have:∀ (l:List α) (i:Nat) (a:A),Z1T (λ_ a x=>(.ok (f a x):Except Empty A)) i l a= .ok (l.foldl f a):=by
  intro l
  induction l with
  | nil=>intro i a;rfl
  | cons x l ih=>intro i a;simp only [Z1T,List.foldl_cons];exact ih _ _
 rw [this]
theorem Z9U {α β V K:Type} (l:List α) (st:Int->List β->V) (g:α->List β) (B:Nat) (pre:List β) {step:V->(V->Res)->K->Res} (q:K) (fin:List β->Res) (hN:l.length<=LIM)
  (hg:∀ (i:Nat) (hi:i<l.length),(pre++(l.take i).flatMap g).length<=B->(pre++(l.take (i+1)).flatMap g).length<=B) (h0:pre.length<=B)
  (hs:∀ (i:Nat) (out:List β) rec,(hi:i<l.length)->out=pre++(l.take i).flatMap g->out.length<=B->step (st i out) rec q=rec (st ((i:Int)+1) (out++g l[i])))
  (he:∀ out rec,step (st (l.length:Int) out) rec q=fin out):Z1g step Z1d (st 0 pre) q=fin (pre++l.flatMap g):=by
 have ht:∀ (i:Nat) (hi:i<l.length),(l.take (i+1)).flatMap g=(l.take i).flatMap g++g l[i]:=λi hi=>by
  rw [List.take_succ_eq_append_getElem hi,List.flatMap_append,List.flatMap_cons,List.flatMap_nil,List.append_nil]
 have:=Z8j l st (λout x=>out++g x) (λi out=>out=pre++(l.take i).flatMap g/\out.length<=B) q fin pre hN ⟨by simp,h0⟩
  (λi a hi ha=>by
   have h1:a++g l[i]=pre++(l.take (i+1)).flatMap g:=by rw [ht i hi,<-List.append_assoc,<-ha.1]
   exact ⟨h1,by rw [h1];exact hg i hi (by rw [<-ha.1];exact ha.2)⟩)
  (λi a rec hi ha=>hs i a rec hi ha.1 ha.2) (λa rec _=>he a rec)
 rw [this]
 congr 1
 have:∀ (l:List α) (acc:List β),l.foldl (λout x=>out++g x) acc=acc++l.flatMap g:=by
  intro l
  induction l with
  | nil=>intro acc;simp
  | cons x l ih=>intro acc;simp [ih,List.append_assoc]
 rw [this]
theorem Za3 {α V K:Type} (l:List α) (st:Int->V) (bad:α->Bool) {step:V->(V->Res)->K->Res} (q:K) (fin ex:Res) (hN:l.length<=LIM)
  (hs:∀ (i:Nat) rec,(hi:i<l.length)->step (st i) rec q=bif bad l[i] then ex else rec (st ((i:Int)+1))) (he:∀ rec,step (st (l.length:Int)) rec q=fin) :
  Z1g step Z1d (st 0) q=bif l.any bad then ex else fin:=by
 have h:=Z40 l (λi (_:Unit)=>st i) (λ_ _ x=>if bad x then .error () else (.ok ():Except Unit Unit)) (λ_ _=>True) q (λ_=>fin) (λ_=>ex) () hN trivial (λ_ _ _ _ _ _=>trivial)
  (λi a rec hi _=>by
   rw [hs i rec hi]
   cases bad l[i]<;>rfl) (λa rec _=>he rec)
 rw [h]
 have:∀ (l:List α) (i:Nat),Z1T (λ_ _ x=>if bad x then .error () else (.ok ():Except Unit Unit)) i l ()=bif l.any bad then .error () else .ok ():=by
  intro l
  induction l with
  | nil=>intro i;rfl
  | cons x l ih=>
   intro i
   simp only [Z1T,List.any_cons]
   cases bad x with
   | true=>rfl
   | false=>exact ih _
 rw [this]
 cases l.any bad<;>rfl
def Z72 {α:Type} (bad:Nat->α->Bool):Nat->List α->Bool
 | _,[]=>false
 | i,x::l=>bad i x||Z72 bad (i+1) l
theorem Z9Q {α V K:Type} (l:List α) (st:Int->V) (bad:Nat->α->Bool) {step:V->(V->Res)->K->Res} (q:K) (fin ex:Res) (hN:l.length<=LIM)
  (hs:∀ (i:Nat) rec,(hi:i<l.length)->step (st i) rec q=bif bad i l[i] then ex else rec (st ((i:Int)+1))) (he:∀ rec,step (st (l.length:Int)) rec q=fin) :
  Z1g step Z1d (st 0) q=bif Z72 bad 0 l then ex else fin:=by
 have h:=Z40 l (λi (_:Unit)=>st i) (λi _ x=>if bad i x then .error () else (.ok ():Except Unit Unit)) (λ_ _=>True) q (λ_=>fin) (λ_=>ex) () hN trivial (λ_ _ _ _ _ _=>trivial)
  (λi a rec hi _=>by
   rw [hs i rec hi]
   cases bad i l[i]<;>rfl) (λa rec _=>he rec)
 rw [h]
 have:∀ (l:List α) (i:Nat),Z1T (λi _ x=>if bad i x then .error () else (.ok ():Except Unit Unit)) i l ()=bif Z72 bad i l then .error () else .ok ():=by
  intro l
  induction l with
  | nil=>intro i;rfl
  | cons x l ih=>
   intro i
   simp only [Z1T,Z72]
   cases bad i x with
   | true=>rfl
   | false=>exact ih _
 rw [this]
 cases Z72 bad 0 l<;>rfl
def Z9G {α:Type} (p:α->Bool) (l:List α):Int:=match l.findIdx? p with | some i=>(i:Int) | none=> -1
theorem Z9T {α V K:Type} (l:List α) (st:Int->V) (p:α->Bool) {step:V->(V->Res)->K->Res} (q:K) (k:Int->Res) (hN:l.length<=LIM)
  (hs:∀ (i:Nat) rec,(hi:i<l.length)->step (st i) rec q=bif p l[i] then k i else rec (st ((i:Int)+1))) (he:∀ rec,step (st (l.length:Int)) rec q=k (-1)) :
  Z1g step Z1d (st 0) q=k (Z9G p l):=by
 have h:=Z40 l (λi (_:Unit)=>st i) (λi _ x=>if p x then .error i else (.ok ():Except Nat Unit)) (λ_ _=>True) q (λ_=>k (-1)) (λi=>k i) () hN trivial (λ_ _ _ _ _ _=>trivial)
  (λi a rec hi _=>by
   rw [hs i rec hi]
   cases p l[i]<;>rfl) (λa rec _=>he rec)
 rw [h]
 have:∀ (l:List α) (i:Nat),Z1T (λi _ x=>if p x then .error i else (.ok ():Except Nat Unit)) i l ()=match l.findIdx? p with | some j=> .error (i+j) | none=> .ok ():=by
  intro l
  induction l with
  | nil=>intro i;rfl
  | cons x l ih=>
   intro i
   simp only [Z1T,List.findIdx?_cons]
   cases hx:p x with
   | true=>rfl
   | false=>
    simp only [Bool.false_eq_true,if_false]
    rw [ih]
    cases l.findIdx? p with
    | none=>rfl
    | some j=>simp only [Option.map_some];congr 1;omega
 rw [this]
 unfold Z9G
 cases l.findIdx? p with
 | none=>rfl
 | some j=>simp
end Go.PI
