/-
  Program's code interpreted over typed values; printed texts; plain laws. No conditions.
-/
import Derived.Test.YtppeoiidhmegkaaPc
import Derived.Tactics2
import Derived.WalkKit
import Derived.RegionTactic
import Derived.Deep.LoopGhost
import Derived.Shelf.Sort.Plain
import Derived.Shelf.Lay
import Derived.Test.YtppeoiidhmegkaaProg
set_option linter.unusedVariables false
namespace Go.PI
open Go
structure SlT (P:Program) (S E I B:TypeId) (k:Nat) (z:Value):Prop where
 mixed:P.follows .mixedOrders=true
 tS:P.underlying S=some (.slice E)
 aS:∀ w,(isAgg S).run P w= .ok false w
 zS:∀ w,(sizeOf S).run P w= .ok 1 w
 vS:∀ w,(zeroValue S).run P w= .ok (.slice none 0 0) w
 tI:P.underlying I=some (.int .i64)
 aI:∀ w,(isAgg I).run P w= .ok false w
 zI:∀ w,(sizeOf I).run P w= .ok 1 w
 tB:P.underlying B=some .bool
 aB:∀ w,(isAgg B).run P w= .ok false w
 zB:∀ w,(sizeOf B).run P w= .ok 1 w
 zE:∀ w,(sizeOf E).run P w= .ok k w
 vE:∀ w,(zeroValue E).run P w= .ok z w
 iE:∃ i:TypeInfo,P.info? E=some i/\i.size=k
 zk:z.cells.size=k
 z1:∀ c∈z.cells.toList,one c=true
section
variable {P:Program} {S E I B U:TypeId} {k:Nat} {z:Value}
end
section
variable {P:Program} {S E I B U:TypeId} {k f:Nat} {z:Value}
end
end Go.PI
namespace Go.PI
abbrev Fns {R:Type} (P:Program) (l:List (FuncId×Sig R)):Prop:=∀ (g:Nat) (sig:Sig R),Z0s l g=some sig->Z1p P g sig
abbrev tI:Ty:= .int .i64
abbrev vI (x:Int):TV:= .val ⟨.int .i64,false,x,[]⟩
abbrev vB (x:Bool):TV:= .val ⟨.bool,false,x,[]⟩
abbrev vS (x:ByteArray):TV:= .val ⟨.str,false,x,[]⟩
abbrev v1 (τ:Ty) (x:El τ) (t:Tag):TV:= .val ⟨τ,false,x,[t]⟩
abbrev wI (x:Int):TVal:=⟨.int .i64,false,x,[]⟩
abbrev wB (x:Bool):TVal:=⟨.bool,false,x,[]⟩
abbrev wS (x:ByteArray):TVal:=⟨.str,false,x,[]⟩
abbrev w1 (τ:Ty) (x:El τ) (t:Tag):TVal:=⟨τ,false,x,[t]⟩
abbrev pB (i:Nat):TV:= .ptr ⟨true,i,[]⟩
section
variable {R:Type} {r:R}
noncomputable abbrev rdI (σ:State) (i:Nat) (f:Int->Option R):Option R:=rdV σ i (.int .i64) false [] f
noncomputable abbrev rdO (σ:State) (i:Nat) (f:Bool->Option R):Option R:=rdV σ i .bool false [] f
noncomputable abbrev rdS (σ:State) (i:Nat) (f:ByteArray->Option R):Option R:=rdV σ i .str false [] f
noncomputable abbrev rd1 (σ:State) (i:Nat) (τ:Ty) (t:Tag) (f:El τ->Option R):Option R:=rdV σ i τ false [t] f
theorem aV {l:List TVal} {τ:Ty} {f:El τ->List TVal->Option R} {C:Prop} (h:av l τ f=some r) (c:∀ x a t l',l=⟨τ,a,x,t⟩::l'->f x l'=some r->C):C:=
 have ⟨x,a,t,l',e,h2⟩:=Z91 h;c x a t l' e h2
theorem aB {l:List TVal} {τ:Ty} {tg:List Tag} {f:Bool->El τ->List TVal->Option R} {C:Prop} (h:ab l τ tg f=some r) (c:∀ a x l',l=⟨τ,a,x,tg⟩::l'->f a x l'=some r->C):C:=
 have ⟨a,x,l',e,h2⟩:=Z8Z h;c a x l' e h2
theorem aO {l:List TVal} {τ:Ty} {tg:List Tag} {f:El τ->List TVal->Option R} {C:Prop} (h:ao l τ tg f=some r) (c:∀ a x l',l=⟨τ,a,x,tg⟩::l'->f x l'=some r->C):C:=
 have ⟨a,x,l',e,h2⟩:=Z90 h;c a x l' e h2
theorem nL {l:List TVal} {f:Option R} {C:Prop} (h:nl l f=some r) (c:l=[]->f=some r->C):C:=
 have ⟨e,h2⟩:=Z98 h;c e h2
variable {σ:State} {C:Prop}
theorem rN {n:Nat} {f:Option R} (h:rdN σ n f=some r) (c:σ.slots.length=n->f=some r->C):C:=
 have h:=Z8O h;c h.1 h.2
theorem rV {i:Nat} {τ:Ty} {ag:Bool} {tg:List Tag} {f:El τ->Option R} (h:rdV σ i τ ag tg f=some r) (c:∀ x,σ.slot i= .val ⟨τ,ag,x,tg⟩->f x=some r->C):C:=
 have ⟨x,h1,h2⟩:=Z8R h;c x h1 h2
theorem rB {i:Nat} {τ:Ty} {tg:List Tag} {f:Bool->El τ->Option R} (h:rdB σ i τ tg f=some r) (c:∀ a x,σ.boxAt i=some ⟨τ,a,x,tg⟩->f a x=some r->C):C:=
 have ⟨a,x,h1,h2⟩:=Z8L h;c a x h1 h2
theorem rT {i:Nat} {p:TV} {f:Option R} (h:rdT σ i p f=some r) (c:σ.slot i=p->f=some r->C):C:=
 have h:=Z8P h;c h.1 h.2
theorem sC {i:Nat} {v:TV} {l:List (Nat×TV)} (h:σ.slot i=v) (t:Z3E σ l):Z3E σ ((i,v)::l):=⟨h,t⟩
theorem sN:Z3E σ []:=trivial
theorem bC {i:Nat} {v:TVal} {l:List (Nat×TVal)} (h:σ.boxAt i=some v) (t:Z3C σ l):Z3C σ ((i,v)::l):=⟨h,t⟩
theorem bN:Z3C σ []:=trivial
end
theorem gz {α:Type} {C:Prop} (a:α) (h:∀ F,F=a->C):C:=h a rfl
def j3O:Nat->Nat->List Bool->List Bool
 | 0,_,l=>l
 | f+1,n,l=>bif Nat.ble n 1 then l else j3O f (n / 2) (Nat.beq (n % 2) 1::l)
def bits (n:Nat):List Bool:=j3O 300 n []
noncomputable def j3p:List Bool->Code->Code
 | [],c=>c
 | b::p,c=>j3p p (bif b then c.pr else c.pl)
noncomputable def cAt (n:Nat) (c:Code):Code:=j3p (bits n) c
def bo (f:Func):Code:=f.body.getD .skip
noncomputable def HT.ins:List Bool->Nat->HT->HT
 | [],i,_=> .x i
 | false::p,i,h=> .t (HT.ins p i h.l) h.r
 | true::p,i,h=> .t h.l (HT.ins p i h.r)
section
variable {R:Type} {r:R} {P:Program} {np:Nat} {X:List (Z1q R)}
theorem Z1F.lr' {t:HT} {c:Code} (h:Z1F P np X t c):(Z1F P np X t.l c.pl)/\(Z1F P np X t.r c.pr):=by
 cases t with
 | o=>exact ⟨trivial,trivial⟩
 | x i=>exact ⟨trivial,trivial⟩
 | t a b=>exact h
theorem j3e {i:Nat}:(p:List Bool)->(t:HT)->(c:Code)->Z1F P np X t c->(∀ (W0:Base) (M:Nat->Prop),W0.np<=np->Z22 P W0 M (j3p p c) (Z0t (λ_ _=>none) X i))->Z1F P np X (HT.ins p i t) c
 | [],_,_,_,hx=>hx
 | false::p,t,c,h,hx=>⟨j3e p t.l c.pl h.lr'.1 hx,h.lr'.2⟩
 | true::p,t,c,h,hx=>⟨h.lr'.1,j3e p t.r c.pr h.lr'.2 hx⟩
theorem oI (p i:Nat) {t:HT} {c c':Code} {y:Z1q R} (hx:∀ {W0:Base} {M:Nat->Prop},W0.np<=np->Z22 P W0 M c' y) (h:Z1F P np X t c)
  (e:j3p (bits p) c=c':=by kernel_rfl) (e2:Z0t (λ_ _=>none) X i=y:=by kernel_rfl):Z1F P np X (HT.ins (bits p) i t) c:=
 j3e (bits p) t c h λW0 M hn=>by rw [e,e2];exact hx hn
theorem oN {c:Code}:Z1F P np X .o c:=trivial
variable {ty:List (TypeId×Ty×List TypeId)} {l:List (FuncId×Sig R)} [Subsingleton R]
theorem j40 (hm:P.follows .mixedOrders=true) (hT:Z0d P ty) (hS:∀ g sig,Z0s l g=some sig->Z1p P g sig) {W0:Base} {M:Nat->Prop} (hnp:W0.np<=np) (X:List (Z1q R)) {c:Code} {ht:HT} (hO:Z1F P np X ht c)
  (n:List Nat×List Nat) (x:List (Nat×List Nat×List Nat)) (rr:List Nat×List Nat) {y:Z1q R}
  (h:∀ σ k r',y σ k=some r'->∃ σ',Z2R σ' σ/\Z0V ⟨ty,l,np⟩ X ht c σ' (λe σ''=>k e (Z8i n x rr e σ''))=some r'):Z22 P W0 M c y:=
 Z99 (Z6Y (Γ:=⟨ty,l,np⟩) hm hT (Z7S hS) hnp X c ht hO) (Z92 _ _ _) h
theorem j0V (hm:P.follows .mixedOrders=true) (hT:Z0d P ty) (hS:∀ g sig,Z0s l g=some sig->Z1p P g sig) {W0:Base} {M:Nat->Prop} (hnp:W0.np<=np) (X:List (Z1q R)) {c:Code} {ht:HT} (hO:Z1F P np X ht c.pl)
  (ks bs:List Nat) (n:List Nat×List Nat) (x:List (Nat×List Nat×List Nat)) (rr:List Nat×List Nat) {y:Z1q R}
  (h:∀ σ k r',y σ k=some r'->∃ σ',Z2R σ' σ/\Z44 (Z0V ⟨ty,l,np⟩ X ht c.pl) (λσ=>σ.forget ks bs) (Z8i n x rr) Z12 σ' k=some r')
  (hc:c= .loop c.pl:=by kernel_rfl):Z22 P W0 M c y:=by
 rw [hc]
 exact Z95 (Z6Y (Γ:=⟨ty,l,np⟩) hm hT (Z7S hS) hnp X c.pl ht hO) (Z92 _ _ _) Z12 h
theorem j06 (hm:P.follows .mixedOrders=true) (hT:Z0d P ty) (hS:∀ g sig,Z0s l g=some sig->Z1p P g sig) {f:FuncId} {fn:Func} (X:List (Z1q R)) {ht:HT} (hO:Z1F P np X ht (bo fn)) (fz:Bool) (hf:P.funcs[f]? = some fn)
  {modes:List Mode} {ags:List Bool} {run:List TVal->List TVal->(List TVal->List TVal->List TVal->Option R)->Option R}
  (h:∀ vals ext k r',run vals ext k=some r'->Z75 ⟨ty,l,np⟩ X ht fz fn modes ags vals ext k=some r')
  (hname : (fn.name == "runtime.NumGoroutine") = false := by kernel_rfl) (hb : fn.body = some (bo fn) := by kernel_rfl) (hn : Nat.ble modes.length fn.ntmps = true := by kernel_rfl) : Z1p P f (⟨modes, ags, run⟩ : Sig R) :=
 Z8V (Γ:=⟨ty,l,np⟩) hm hT hS hO hf hname hb (Nat.le_of_ble_eq_true hn) h
end
end Go.PI
namespace Go.PI
open Go
theorem Wrote.ext {w w':World} {b:Nat} {M:Nat->Prop} (h:Wrote w w' b) (hb:M b):Ext M w w':=
 ⟨h.os,h.tape,h.output,by rw [h.size];exact Nat.le_refl _,λy _ hy=>h.old y λe=>hy (e ▸ hb)⟩
theorem j3H {w:World} {F:Nat->Nat} {St:Nat->Prop} {args:List Value} {fps:List (List Nat)} {ads:List Nat} (hA:Z0o w F St [] [] args fps ads):args=[]/\fps=[]/\ads=[]:=by
 cases args<;>cases fps<;>cases ads<;>first | exact ⟨rfl,rfl,rfl⟩ | exact hA.elim
theorem j3z {w:World} {F:Nat->Nat} {St:Nat->Prop} {efps:List (List Nat)} (hB:Z11 w F St [] [] efps):efps=[]:=by
 cases efps with
 | nil=>rfl
 | cons=>exact hB.elim
end Go.PI
namespace Go.PI
open Go
section
variable {P:Program} {S E I B U T:TypeId} {z:Value} {α:Type} [Inhabited α]
theorem j3V {w:World} {b:Nat} {c:Array Value} {t:TypeId} {fz:Nat×Nat} (hg:w.heap[b]? = some (.cells c t fz)) {j:Nat} {v:Value} (h:c[j]? = some v):w.cell? ⟨b,j,none⟩=some v:=by
 simp [World.cell?,hg,h]
theorem j3Z {w:World} {b:Nat} {c:Array Value} {t:TypeId} {fz:Nat×Nat} (hg:w.heap[b]? = some (.cells c t fz)) (ht:Z5V c fz) {j:Nat} (h:j<c.size):w.frozen? ⟨b,j,none⟩=false:=by
 have:=ht j h
 simp [World.frozen?,hg]
 omega
structure Kept {α:Type} [Inhabited α] (enc:α->Value) (p:α->Bool) (l:List α) (off:Nat) (cur:Array Value) (t:TypeId) (fz:Nat×Nat) (b i j:Nat) (wr:World):Prop where
 cells:∃ ck:Array Value,wr.heap[b]? = some (.cells ck t fz)/\ck.size=cur.size/\(∀ q,q<i->ck[off+q]? = some (enc ((l.take j).filter λx=> !p x)[q]!))/\∀ q,i<=q->q<l.length->ck[off+q]? = some (enc l[q]!)
 lt:i<j
 len:((l.take j).filter λx=> !p x).length=i
end
end Go.PI
namespace Go.PI
open Go
section
variable {P:Program} {S E I B U T:TypeId} {z:Value}
end
end Go.PI
namespace Go.PI
open Go
def j2m (l:List ByteArray):List ByteArray:=((l.map λs=>s.data.toList).mergeSort λx y=>decide (x<=y)).map λb=>⟨b.toArray⟩
noncomputable def j3S:Sig Unit:=⟨[.inout (.slice .str) false],[],λvals ext k=>ao vals (.slice .str) [.O] λl vals=>nl vals<|nl ext <|
 bif decide (0<List.length (α:=ByteArray) l)&&lim (List.length (α:=ByteArray) l) then k [] [⟨.slice .str,false,j2m l,[.O]⟩] [] else none⟩
theorem j3u {P : Program} {f : FuncId} {fn : Func} {c : Code} (hf : P.funcs[f]? = some fn) (hb : fn.body = some c) (hname : (fn.name == "runtime.NumGoroutine") = false)
  (hs:∀ (blk off cap:Nat) (ss:List (List UInt8)) (w:World),Sort.Holds Proofs.encStr w blk off ss.toArray->blk<w.heap.size->ss.length<4611686018427387904 ->
   Calls P f #[.slice (some ⟨blk,off,none⟩) ss.length cap] w λe w'=>e= .returned (.tuple #[])/\∃ n os,w'=Sort.grow (Sort.putRow Proofs.encStr (Sort.ahead w n) blk off (ss.mergeSort λx y=>decide (x<=y)).toArray) os):Z1p P f j3S:=by
 refine ⟨⟨fn,_,hf,hname,hb⟩,λvals ext k r h w F St args ads fps efps hA hB hnd hSt hlt=> ?_⟩
 obtain ⟨a0,l,vals,rfl,h3⟩:=Z90 h
 obtain ⟨rfl,h4⟩:=Z98 h3
 obtain ⟨rfl,h6⟩:=Z98 h4
 clear h h3 h4
 have h:=h6
 clear h6
 rw [cond_eq_ite] at h
 split at h
 rotate_left
 ·cases h
 rename_i hg
 rw [Bool.and_eq_true] at hg
 obtain ⟨hpos,hlim⟩:=hg
 change List ByteArray at l
 have hpos:0<l.length:=of_decide_eq_true hpos
 have hlim:l.length<=LIM:=of_decide_eq_true hlim
 cases args with
 | nil=>cases fps<;>exact hA.elim
 | cons x0 ar=>
 cases fps with
 | nil=>exact hA.elim
 | cons f0 fs=>
 obtain ⟨⟨hs0,_⟩,hr0,hA⟩:=hA
 obtain ⟨ad,cap,hx0,hlc⟩:=Z3s hs0 hr0
 subst hx0
 obtain ⟨rfl,rfl,rfl⟩:=j3H hA
 obtain rfl:=j3z hB
 obtain ⟨tt,a,cap',ht,hcs,hlc',hr0⟩:=hr0
 cases hcs
 cases ht
 rcases hr0 with ⟨_,_,hl0,_,_⟩ | ⟨_,b,o,fps0,rfl,hal,rfl,hfl,hrow,hF,hel⟩ | ⟨ho,_⟩
 ·exfalso
  have hl0:l=[]:=hl0
  rw [hl0] at hpos
  cases hpos
 ·simp only [List.flatten_cons,List.flatten_nil,List.append_nil] at hnd hSt hlt ⊢
  have hlc:l.length<=cap:=hlc
  obtain ⟨cur,ty,fz,hg,hsz,hth⟩:=hrow
  have hcell:∀ j,j<l.length->cur[o+j]? = some (Value.string l[j]!):=λj hj=>by
   obtain ⟨cs',hc1,hc2⟩:=hel j hj
   obtain ⟨rfl,_,_⟩:=hc2
   have hc1:Z04 w b (o+j * 1) 1=some [Value.string l[j]]:=hc1
   rw [Nat.mul_one] at hc1
   unfold Z04 at hc1
   rw [hg] at hc1
   simp only [] at hc1
   split at hc1
   ·rename_i hle
    have hc1:=Option.some.inj hc1
    rw [getElem!_pos l j hj]
    have h2:((cur.toList.drop (o+j)).take 1)[0]? = some (Value.string l[j]):=by rw [hc1];rfl
    rw [List.getElem?_take,if_pos (by omega),List.getElem?_drop,Array.getElem?_toList] at h2
    exact h2
   ·cases hc1
  have hs':o+l.length<=cur.size:=by
   have:o+cap * 1<=cur.size:=hsz
   have:l.length<=cap:=hlc
   omega
  have hb1:b<w.heap.size:=(Array.getElem?_eq_some_iff.1 hg).1
  have hcon:=hs b o cap (l.map λs=>s.data.toList) w (λj hj=>by
   have hj:j<l.length:=by simpa using hj
   refine ⟨?_,j3Z hg hth (by omega)⟩
   rw [j3V hg (hcell j hj),getElem!_pos l j hj,getElem!_pos _ j (by simpa using hj)]
   simp [Proofs.encStr]) hb1 (by rw [List.length_map];unfold LIM at hlim;omega)
  rw [List.length_map] at hcon
  refine hcon.mono ?_
  rintro e' w' ⟨rfl,n,os,rfl⟩
  have hlen:((l.map λs=>s.data.toList).mergeSort λx y=>decide (x<=y)).length=l.length:=by simp
  generalize hsrt:((l.map λs=>s.data.toList).mergeSort λx y=>decide (x<=y))=srt at hlen
  have hss:j2m l=srt.map λb=>⟨b.toArray⟩:=by unfold j2m;rw [hsrt]
  rw [hss] at h
  have hheap:∀ y,y<w.heap.size->(Sort.grow (Sort.putRow Proofs.encStr (Sort.ahead w n) b o srt.toArray) os).heap[y]? = (Sort.putRow Proofs.encStr (Sort.ahead w n) b o srt.toArray).heap[y]? := λy hy=>Sort.heap_grow_old _ os (by simpa using hy)
  have hother:∀ y,y<w.heap.size->y≠b->(Sort.grow (Sort.putRow Proofs.encStr (Sort.ahead w n) b o srt.toArray) os).heap[y]? = w.heap[y]? := λy hy hne=>by
   rw [hheap y hy]
   unfold Sort.putRow Sort.mapBlock Sort.ahead
   simp only [Array.getElem?_modify]
   rw [if_neg (λh=>hne h.symm)]
  have hself:(Sort.grow (Sort.putRow Proofs.encStr (Sort.ahead w n) b o srt.toArray) os).heap[b]? = some (.cells (Sort.putCells Proofs.encStr o srt.toArray cur) ty fz):=by
   rw [hheap b hb1]
   unfold Sort.putRow Sort.mapBlock Sort.ahead
   simp only [Array.getElem?_modify,if_true,hg]
   rfl
  have hpc:(Sort.putCells Proofs.encStr o srt.toArray cur).size=cur.size:=by simp [Sort.putCells]
  have hsize:w.heap.size<=(Sort.grow (Sort.putRow Proofs.encStr (Sort.ahead w n) b o srt.toArray) os).heap.size:=by
   unfold Sort.grow
   simp
  have hE:Ext (·∈ b::List.flatten fps0) w (Sort.grow (Sort.putRow Proofs.encStr (Sort.ahead w n) b o srt.toArray) os):=⟨rfl,rfl,rfl,hsize,λy hy hym=>hother y hy λe=>hym (by rw [e];simp)⟩
  refine ⟨_,_,_,_,rfl,h,⟨rfl,rfl,rfl⟩,rfl,⟨F,St,[],[[b]],[],⟨rfl,rfl,rfl⟩,⟨⟨rfl,rfl,?_⟩,trivial⟩,trivial,hE,λy hy hym=>rfl,λy hy=>hy,λy hy=>⟨.inl hy,Nat.lt_of_lt_of_le (hSt y hy).1 hsize⟩,by simp,λy hy=> ?_⟩⟩
  ·have hl2:(srt.map λb=>(⟨b.toArray⟩:ByteArray)).length=l.length:=by rw [List.length_map];exact hlen
   refine ⟨.O,some ⟨b,o,none⟩,cap,rfl,?_,by show (srt.map λb=>(⟨b.toArray⟩:ByteArray)).length<=cap;rw [hl2];exact hlc,.inr (.inl ⟨rfl,b,o,List.replicate l.length [],rfl,by simp,by simp,by show _=(srt.map λb=>(⟨b.toArray⟩:ByteArray)).length;rw [hl2];simp,
    ⟨_,ty,fz,hself,by rw [hpc];exact hsz,λx hx=>hth x (by rw [<-hpc];exact hx)⟩,by show F b=o+(srt.map λb=>(⟨b.toArray⟩:ByteArray)).length * 1;rw [hl2];exact hF,λk hk=> ?_⟩)⟩
   ·show [Value.slice (some ⟨b,o,none⟩) l.length cap]=[Value.slice (some ⟨b,o,none⟩) (srt.map λb=>(⟨b.toArray⟩:ByteArray)).length cap]
    rw [hl2]
   ·have hk:k<(srt.map λb=>(⟨b.toArray⟩:ByteArray)).length:=hk
    have hk2:k<l.length:=by rw [<-hl2];exact hk
    have hk3:k<srt.length:=by rw [hlen];exact hk2
    refine ⟨[.string ((srt.map λb=>(⟨b.toArray⟩:ByteArray))[k])],?_,rfl,rfl,?_⟩
    ·show Z04 _ b (o+k * 1) 1=_
     unfold Z04
     rw [hself,Nat.mul_one]
     simp only []
     rw [if_pos (by rw [hpc];omega)]
     congr 1
     apply List.ext_getElem?
     intro i
     rw [List.getElem?_take]
     split
     ·have:i=0:=by omega
      subst this
      have hok:o+k<cur.size:=by omega
      rw [List.getElem?_drop,Array.getElem?_toList,Nat.add_zero]
      unfold Sort.putCells
      rw [Array.getElem?_mapIdx,Array.getElem?_eq_getElem hok,Option.map_some,if_pos ⟨by omega,by simp;omega⟩,show o+k-o=k by omega]
      simp [Proofs.encStr,hk3]
     ·rw [List.getElem?_eq_none (by simp;omega)]
    ·simp [List.getD_eq_getElem?_getD,List.getElem?_replicate]
     split<;>rfl
  ·have hy:y=b:=by simpa using hy
   subst hy
   exact ⟨.inr (by simp),Nat.lt_of_lt_of_le hb1 hsize,λh2=>(hSt _ h2).2 (by simp)⟩
 ·cases ho
end Go.PI
set_option maxRecDepth 100000
namespace Go.PI.G
open Go Go.PI Go.Proofs
open Go.Code (pl pr)
abbrev qB:=ByteArray
abbrev qL:=List ByteArray
abbrev y0:Ty:= .slice (.int .u8)
abbrev y1:Ty:= .slice .str
def j41:qB:=⟨#[109,48]⟩
def z_m:qB:=⟨#[109]⟩
def tys:List (TypeId×Ty×List TypeId):=[(3,tI,[]),
 (4,.bool,[]),
 (5,(.int .u8),[]),
 (9,.str,[]),
 (22,y0,[]),
 (27,y1,[]),
 (56,y1,[27]),
 (58,y1,[27]),
 (175,(.int .u64),[])]
theorem follows:Try.prog.follows .mixedOrders=true:=by kernel_rfl
theorem j00:Z0d Try.prog tys:=Z9f (by kernel_rfl)
end Go.PI.G
namespace Go.PI.G
open Go Go.PI Go.Proofs
open Go.Code (pl pr)
noncomputable def j01 (s:qL) (v_:qB) (t7:Int) (t8:Int) (rec:Int->Res) (k0:Unit->Res) (k1:Int->Res):Res:=
 bif decide (t8<t7) then
  bif inb t8 (List.length s) then
   bif sEq v_ (nth eS s t8) then
    k1 t8
   else
    rec (Z8o (t8+1))
  else none
 else
  k0 ()
noncomputable def j0m (s:qL) (v_:qB) (t7:Int):Int->(Int->Res)->((Unit->Res)×(Int->Res))->Res:=λv rec q=>j01 s v_ t7 v (λt8=>rec (t8)) q.1 q.2
noncomputable def j0w (s:qL) (v_:qB) (t7:Int) (n:Nat) (t8:Int) (k0:Unit->Res) (k1:Int->Res):Res:=Z14 (j0m s v_ t7) n (t8) (k0,k1)
noncomputable def j0X:Z1q Unit:=λσ k=>rdN σ 19<|rd1 σ 0 y1 .S λs=>rdS σ 1 λv_=>rdI σ 7 λt7=>rdI σ 8 λt8=>j0w s v_ t7 Z12 t8 (λ(_:Unit)=>k (.exit 0) (mkS 19 19 [] [])) (λ(t4:Int)=>k .ret (mkS 19 19 [(4,vI t4)] []))
theorem j1J {W0:Base} {M:Nat->Prop} (hnp:W0.np<=0):Z22 Try.prog W0 M (cAt 26 (bo Try.f128)) j0X:=j0V follows j00 Z94 hnp [] oN [0,1,7,8] [] ([],[]) [(0,[],[])] ([4],[]) λσ k _ h=>rN h λhn h=>rV h λs h0 h=>rV h λv_ h1 h=>rV h λt7 h7 h=>rV h λt8 h8 h=>⟨_,Z9m (m:=19) hn (sC h0 (sC h1 (sC h7 (sC h8 sN)))) bN,.trans (Z88 (λv:Int=>(mkS 19 19 [(0,v1 y1 s .S),(1,vS v_),(7,vI t7),(8,vI v)] [])) (j0m s v_ t7) (λ(k:Z6O Unit)=>(((λ(_:Unit)=>k (.exit 0) (mkS 19 19 [] [])),(λ(t4:Int)=>k .ret (mkS 19 19 [(4,vI t4)] []))):(Unit->Res)×(Int->Res))) (λv rec k=>by kernel_rfl) Z12 (t8) k) h⟩
noncomputable def j0L (s:qL) (v_:qB) (k0:Int->Res):Res:=
 j0w s v_ (nI (List.length s)) Z12 0
  (λ(_:Unit)=>
   k0 (-1))
  (λ(t:Int)=>
   k0 t)
noncomputable def j1W:Sig Unit:=⟨[.look y1 false,.look .str false],[false],λvals ext k=>av vals y1 λs vals=>av vals .str λv_ vals=>nl vals<|nl ext<|j0L s v_ (λ(r0:Int)=>k [wI r0] [] [])⟩
theorem j1U:Z1p Try.prog 128 j1W:=j06 (np:=0) follows j00 Z94 [j0X] (oI 26 0 (j1J) oN) false Try.func128 λ_ _ k _ h=>aV h λ_ _ _ _ _ h=>aV h λ_ _ _ _ _ h=>nL h λ_ h=>nL h λ_ h=>by subst_vars;exact .trans (by kernel_rfl) h
noncomputable def j02 (s:qL) (v_:qB) (k0:Bool->Res):Res:=
 j0L s v_ λ(r:Int)=>
  k0 (decide (r>=0))
noncomputable def j0N:Sig Unit:=⟨[.look y1 false,.look .str false],[false],λvals ext k=>av vals y1 λs vals=>av vals .str λv_ vals=>nl vals<|nl ext<|j02 s v_ (λ(r0:Bool)=>k [wB r0] [] [])⟩
theorem j1E:Z1p Try.prog 76 j0N:=j06 (np:=0) follows j00 (Z8K j1U Z94) [] oN false Try.func76 λ_ _ k _ h=>aV h λ_ _ _ _ _ h=>aV h λ_ _ _ _ _ h=>nL h λ_ h=>nL h λ_ h=>by subst_vars;exact .trans (by kernel_rfl) h
noncomputable def j0d (s:qL) (k0:qL->Res):Res:=bif decide (0<List.length s)&&lim (List.length s) then k0 (j2m s) else none
noncomputable def j1f:Sig Unit:=⟨[.inout y1 false],[],λvals ext k=>ao vals y1 [.O] λs vals=>nl vals<|nl ext<|j0d s (λ(i0:qL)=>k [] [w1 y1 i0 .O] [])⟩
open Go.Shelf in
shelf_lay Lays.n190 Nm 190 at Try as slays190
theorem j21:Z1p Try.prog 85 j1f:=j3u (c:=bo Try.f85) Try.func85 (by kernel_rfl) (by kernel_rfl) λblk off cap ss w h1 h2 h3=>Go.Proofs.Any.slices_Sort_string slays190 blk off cap ss w h1 h2 h3
end Go.PI.G
namespace Go.PI.G
open Go Go.PI Go.Proofs
open Go.Code (pl pr)
noncomputable def j0n (s:qB) (i:Int) (rec:Int->Res) (k0:Unit->Res) (k1:Unit->Res):Res:=
 bif decide (i<(nI (ByteArray.size s))) then
  bif inb i (ByteArray.size s) then
   bif decide ((bt s i)<97) then
    k1 ()
   else
    bif inb i (ByteArray.size s) then
     bif decide ((bt s i)>122) then
      k1 ()
     else
      rec (Z8o (i+1))
    else none
  else none
 else
  k0 ()
noncomputable def j14 (s:qB):Int->(Int->Res)->((Unit->Res)×(Unit->Res))->Res:=λv rec q=>j0n s v (λi=>rec (i)) q.1 q.2
noncomputable def j1p (s:qB) (n:Nat) (i:Int) (k0:Unit->Res) (k1:Unit->Res):Res:=Z14 (j14 s) n (i) (k0,k1)
noncomputable def j1O:Z1q Unit:=λσ k=>rdN σ 28<|rdS σ 0 λs=>rdI σ 3 λi=>j1p s Z12 i (λ(_:Unit)=>k (.exit 0) (mkS 28 28 [(0,vS s)] [])) (λ(_:Unit)=>k .ret (mkS 28 28 [(2,vB false)] []))
theorem j2H {W0:Base} {M:Nat->Prop} (hnp:W0.np<=0):Z22 Try.prog W0 M (cAt 26 (bo Try.f72)) j1O:=j0V follows j00 Z94 hnp [] oN [0,3] [] ([],[]) [(0,[0],[])] ([2],[]) λσ k _ h=>rN h λhn h=>rV h λs h0 h=>rV h λi h3 h=>⟨_,Z9m (m:=28) hn (sC h0 (sC h3 sN)) bN,.trans (Z88 (λv:Int=>(mkS 28 28 [(0,vS s),(3,vI v)] [])) (j14 s) (λ(k:Z6O Unit)=>(((λ(_:Unit)=>k (.exit 0) (mkS 28 28 [(0,vS s)] [])),(λ(_:Unit)=>k .ret (mkS 28 28 [(2,vB false)] []))):(Unit->Res)×(Unit->Res))) (λv rec k=>by kernel_rfl) Z12 (i) k) h⟩
noncomputable def j0H (s:qB) (k0:Bool->Res):Res:=
 j1p s Z12 0
  (λ(_:Unit)=>
   bif decide ((nI (ByteArray.size s))>=1) then
    k0 (decide ((nI (ByteArray.size s))<=8))
   else
    k0 false)
  (λ(_:Unit)=>
   k0 false)
noncomputable def j2b:Sig Unit:=⟨[.look .str false],[false],λvals ext k=>av vals .str λs vals=>nl vals<|nl ext<|j0H s (λ(r0:Bool)=>k [wB r0] [] [])⟩
theorem j1w:Z1p Try.prog 72 j2b:=j06 (np:=0) follows j00 Z94 [j1O] (oI 26 0 (j2H) oN) false Try.func72 λ_ _ k _ h=>aV h λ_ _ _ _ _ h=>nL h λ_ h=>nL h λ_ h=>by subst_vars;exact .trans (by kernel_rfl) h
noncomputable def j0v (x:Int) (lo:Int) (hi:Int) (k0:Bool->Res):Res:=
 bif decide (x>=lo) then
  k0 (decide (x<=hi))
 else
  k0 false
noncomputable def j2a:Sig Unit:=⟨[.look tI false,.look tI false,.look tI false],[false],λvals ext k=>av vals tI λx vals=>av vals tI λlo vals=>av vals tI λhi vals=>nl vals<|nl ext<|j0v x lo hi (λ(r0:Bool)=>k [wB r0] [] [])⟩
theorem j27:Z1p Try.prog 127 j2a:=j06 (np:=0) follows j00 Z94 [] oN false Try.func127 λ_ _ k _ h=>aV h λ_ _ _ _ _ h=>aV h λ_ _ _ _ _ h=>aV h λ_ _ _ _ _ h=>nL h λ_ h=>nL h λ_ h=>by subst_vars;exact .trans (by kernel_rfl) h
noncomputable def j0k (s:qB) (i:Int) (rec:Int->Res) (k0:Unit->Res) (k1:Unit->Res):Res:=
 bif decide (i<(nI (ByteArray.size s))) then
  bif inb i (ByteArray.size s) then
   bif decide ((bt s i)<97) then
    k1 ()
   else
    bif inb i (ByteArray.size s) then
     bif decide ((bt s i)>122) then
      k1 ()
     else
      rec (Z8o (i+1))
    else none
  else none
 else
  k0 ()
noncomputable def j12 (s:qB):Int->(Int->Res)->((Unit->Res)×(Unit->Res))->Res:=λv rec q=>j0k s v (λi=>rec (i)) q.1 q.2
noncomputable def j0Q (s:qB) (n:Nat) (i:Int) (k0:Unit->Res) (k1:Unit->Res):Res:=Z14 (j12 s) n (i) (k0,k1)
noncomputable def j1j:Z1q Unit:=λσ k=>rdN σ 23<|rdS σ 0 λs=>rdI σ 3 λi=>j0Q s Z12 i (λ(_:Unit)=>k (.exit 0) (mkS 23 23 [(0,vS s)] [])) (λ(_:Unit)=>k .ret (mkS 23 23 [(2,vB false)] []))
theorem j2G {W0:Base} {M:Nat->Prop} (hnp:W0.np<=0):Z22 Try.prog W0 M (cAt 26 (bo Try.f75)) j1j:=j0V follows j00 (Z8K j27 Z94) hnp [] oN [0,3] [] ([],[]) [(0,[0],[])] ([2],[]) λσ k _ h=>rN h λhn h=>rV h λs h0 h=>rV h λi h3 h=>⟨_,Z9m (m:=23) hn (sC h0 (sC h3 sN)) bN,.trans (Z88 (λv:Int=>(mkS 23 23 [(0,vS s),(3,vI v)] [])) (j12 s) (λ(k:Z6O Unit)=>(((λ(_:Unit)=>k (.exit 0) (mkS 23 23 [(0,vS s)] [])),(λ(_:Unit)=>k .ret (mkS 23 23 [(2,vB false)] []))):(Unit->Res)×(Unit->Res))) (λv rec k=>by kernel_rfl) Z12 (i) k) h⟩
noncomputable def j0u (s:qB) (k0:Bool->Res):Res:=
 j0Q s Z12 0
  (λ(_:Unit)=>
   j0v (nI (ByteArray.size s)) 1 8 λ(r:Bool)=>
    k0 r)
  (λ(_:Unit)=>
   k0 false)
noncomputable def j29:Sig Unit:=⟨[.look .str false],[false],λvals ext k=>av vals .str λs vals=>nl vals<|nl ext<|j0u s (λ(r0:Bool)=>k [wB r0] [] [])⟩
theorem j1v:Z1p Try.prog 75 j29:=j06 (np:=0) follows j00 (Z8K j27 Z94) [j1j] (oI 26 0 (j2G) oN) false Try.func75 λ_ _ k _ h=>aV h λ_ _ _ _ _ h=>nL h λ_ h=>nL h λ_ h=>by subst_vars;exact .trans (by delta j0u j1j j2a;refine gz j0Q λ_ e=> ?_;rewrite [<-e];refine gz j0v λ_ e=> ?_;rewrite [<-e];kernel_rfl) h
end Go.PI.G
namespace Go.PI.G
open Go Go.PI Go.Proofs
open Go.Code (pl pr)
noncomputable def j0o (s:qB) (t7:qL) (t8:Int) (t9:Int) (rec:Int->Res) (k0:Unit->Res) (k1:Unit->Res):Res:=
 bif decide (t9<t8) then
  bif inb t9 (List.length t7) then
   bif sEq (nth eS t7 t9) s then
    k1 ()
   else
    rec (Z8o (t9+1))
  else none
 else
  k0 ()
noncomputable def j15 (s:qB) (t7:qL) (t8:Int):Int->(Int->Res)->((Unit->Res)×(Unit->Res))->Res:=λv rec q=>j0o s t7 t8 v (λt9=>rec (t9)) q.1 q.2
noncomputable def j1q (s:qB) (t7:qL) (t8:Int) (n:Nat) (t9:Int) (k0:Unit->Res) (k1:Unit->Res):Res:=Z14 (j15 s t7 t8) n (t9) (k0,k1)
noncomputable def j1P:Z1q Unit:=λσ k=>rdN σ 17<|rdS σ 1 λs=>rd1 σ 7 y1 .S λt7=>rdI σ 8 λt8=>rdI σ 9 λt9=>j1q s t7 t8 Z12 t9 (λ(_:Unit)=>k (.exit 0) (mkS 17 17 [] [])) (λ(_:Unit)=>k .ret (mkS 17 17 [(4,vB true)] []))
theorem j2I {W0:Base} {M:Nat->Prop} (hnp:W0.np<=0):Z22 Try.prog W0 M (cAt 26 (bo Try.f83)) j1P:=j0V follows j00 Z94 hnp [] oN [1,7,8,9] [] ([],[]) [(0,[],[])] ([4],[]) λσ k _ h=>rN h λhn h=>rV h λs h1 h=>rV h λt7 h7 h=>rV h λt8 h8 h=>rV h λt9 h9 h=>⟨_,Z9m (m:=17) hn (sC h1 (sC h7 (sC h8 (sC h9 sN)))) bN,.trans (Z88 (λv:Int=>(mkS 17 17 [(1,vS s),(7,v1 y1 t7 .S),(8,vI t8),(9,vI v)] [])) (j15 s t7 t8) (λ(k:Z6O Unit)=>(((λ(_:Unit)=>k (.exit 0) (mkS 17 17 [] [])),(λ(_:Unit)=>k .ret (mkS 17 17 [(4,vB true)] []))):(Unit->Res)×(Unit->Res))) (λv rec k=>by kernel_rfl) Z12 (t9) k) h⟩
noncomputable def j10 (l:qL) (s:qB) (k0:Bool->Res):Res:=
 j1q s l (nI (List.length l)) Z12 0
  (λ(_:Unit)=>
   k0 false)
  (λ(_:Unit)=>
   k0 true)
noncomputable def j2c:Sig Unit:=⟨[.look y1 false,.look .str false],[false],λvals ext k=>av vals y1 λl vals=>av vals .str λs vals=>nl vals<|nl ext<|j10 l s (λ(r0:Bool)=>k [wB r0] [] [])⟩
theorem j36:Z1p Try.prog 83 j2c:=j06 (np:=0) follows j00 Z94 [j1P] (oI 26 0 (j2I) oN) false Try.func83 λ_ _ k _ h=>aV h λ_ _ _ _ _ h=>aV h λ_ _ _ _ _ h=>nL h λ_ h=>nL h λ_ h=>by subst_vars;exact .trans (by kernel_rfl) h
noncomputable def j0R (l:qL) (k0:qL->Res):Res:=
 bif lim (0+(List.length l)) then
  k0 l
 else none
noncomputable def j1G:Sig Unit:=⟨[.borrow y1 false],[false],λvals ext k=>av vals y1 λl vals=>nl vals<|nl ext<|j0R l (λ(r0:qL)=>k [w1 y1 r0 .O] [] [])⟩
theorem j2r:Z1p Try.prog 78 j1G:=j06 (np:=0) follows j00 Z94 [] oN false Try.func78 λ_ _ k _ h=>aV h λ_ _ _ _ _ h=>nL h λ_ h=>nL h λ_ h=>by subst_vars;exact .trans (by kernel_rfl) h
end Go.PI.G
namespace Go.PI.G
open Go Go.PI Go.Proofs
open Go.Code (pl pr)
noncomputable def j0f (s:qB) (t10:qL) (t11:Int) (out:qL) (done:Bool) (t12:Int) (rec:qL->Bool->Int->Res) (k0:qL->Bool->Res) (k1:Unit->Res):Res:=
 bif decide (t12<t11) then
  bif inb t12 (List.length t10) then
   bif sEq (nth eS t10 t12) s then
    k1 ()
   else
    bif !done then
     bif sLt s (nth eS t10 t12) then
      bif lim ((List.length out)+1) then
       bif lim ((List.length (out++[s]))+1) then
        rec ((out++[s])++[nth eS t10 t12]) true (Z8o (t12+1))
       else none
      else none
     else
      bif lim ((List.length out)+1) then
       rec (out++[nth eS t10 t12]) done (Z8o (t12+1))
      else none
    else
     bif lim ((List.length out)+1) then
      rec (out++[nth eS t10 t12]) done (Z8o (t12+1))
     else none
  else none
 else
  k0 out done
noncomputable def j0Z (s:qB) (t10:qL) (t11:Int):(qL×Bool×Int)->(qL×Bool×Int->Res)->((qL->Bool->Res)×(Unit->Res))->Res:=λv rec q=>j0f s t10 t11 v.1 v.2.1 v.2.2 (λout done t12=>rec (out,done,t12)) q.1 q.2
noncomputable def j1i (s:qB) (t10:qL) (t11:Int) (n:Nat) (out:qL) (done:Bool) (t12:Int) (k0:qL->Bool->Res) (k1:Unit->Res):Res:=Z14 (j0Z s t10 t11) n (out,done,t12) (k0,k1)
noncomputable def j1I:Z1q Unit:=λσ k=>rdN σ 43<|rd1 σ 0 y1 .S λl=>rdS σ 1 λs=>rd1 σ 5 y1 .O λout=>rdO σ 6 λdone=>rd1 σ 10 y1 .S λt10=>rdI σ 11 λt11=>rdI σ 12 λt12=>j1i s t10 t11 Z12 out done t12 (λ(out1:qL) (done1:Bool)=>k (.exit 0) (mkS 43 43 [(1,vS s),(5,v1 y1 out1 .O),(6,vB done1)] [])) (λ(_:Unit)=>k .ret (mkS 43 43 [(4,v1 y1 l .S)] []))
theorem j2x {W0:Base} {M:Nat->Prop} (hnp:W0.np<=0):Z22 Try.prog W0 M (cAt 122 (bo Try.f84)) j1I:=j0V follows j00 Z94 hnp [] oN [0,1,5,6,10,11,12] [] ([],[]) [(0,[1,5,6],[])] ([4],[]) λσ k _ h=>rN h λhn h=>rV h λl h0 h=>rV h λs h1 h=>rV h λout h5 h=>rV h λdone h6 h=>rV h λt10 h10 h=>rV h λt11 h11 h=>rV h λt12 h12 h=>⟨_,Z9m (m:=43) hn (sC h0 (sC h1 (sC h5 (sC h6 (sC h10 (sC h11 (sC h12 sN))))))) bN,.trans (Z88 (λv:qL×Bool×Int=>(mkS 43 43 [(0,v1 y1 l .S),(1,vS s),(5,v1 y1 v.1 .O),(6,vB v.2.1),(10,v1 y1 t10 .S),(11,vI t11),(12,vI v.2.2)] [])) (j0Z s t10 t11) (λ(k:Z6O Unit)=>(((λ(out1:qL) (done1:Bool)=>k (.exit 0) (mkS 43 43 [(1,vS s),(5,v1 y1 out1 .O),(6,vB done1)] [])),(λ(_:Unit)=>k .ret (mkS 43 43 [(4,v1 y1 l .S)] []))):(qL->Bool->Res)×(Unit->Res))) (λv rec k=>by kernel_rfl) Z12 (out,done,t12) k) h⟩
noncomputable def j0O (l:qL) (s:qB) (k0:qL->Res):Res:=
 j1i s l (nI (List.length l)) Z12 [] false 0
  (λ(out:qL) (done:Bool)=>
   bif !done then
    bif lim ((List.length out)+1) then
     k0 (out++[s])
    else none
   else
    k0 out)
  (λ(_:Unit)=>
   k0 l)
noncomputable def j1X:Sig Unit:=⟨[.borrow y1 false,.borrow .str false],[false],λvals ext k=>av vals y1 λl vals=>av vals .str λs vals=>nl vals<|nl ext<|j0O l s (λ(r0:qL)=>k [w1 y1 r0 .S] [] [])⟩
theorem j2O:Z1p Try.prog 84 j1X:=j06 (np:=0) follows j00 Z94 [j1I] (oI 122 0 (j2x) oN) true Try.func84 λ_ _ k _ h=>aV h λ_ _ _ _ _ h=>aV h λ_ _ _ _ _ h=>nL h λ_ h=>nL h λ_ h=>by subst_vars;exact .trans (by kernel_rfl) h
end Go.PI.G
namespace Go.PI.G
open Go Go.PI Go.Proofs
open Go.Code (pl pr)
noncomputable def j0t (t6:qL) (t7:Int) (p:qL) (t8:Int) (rec:Int->Res) (k0:Unit->Res) (k1:Unit->Res):Res:=
 bif decide (t8<t7) then
  bif inb t8 (List.length t6) then
   j0H (nth eS t6 t8) λ(r:Bool)=>
    bif !r then
     k1 ()
    else
     bif decide (t8>0) then
      bif inb (Z8o (t8-1)) (List.length p) then
       bif sGe (nth eS p (Z8o (t8-1))) (nth eS t6 t8) then
        k1 ()
       else
        rec (Z8o (t8+1))
      else none
     else
      rec (Z8o (t8+1))
  else none
 else
  k0 ()
noncomputable def j1h (t6:qL) (t7:Int) (p:qL):Int->(Int->Res)->((Unit->Res)×(Unit->Res))->Res:=λv rec q=>j0t t6 t7 p v (λt8=>rec (t8)) q.1 q.2
noncomputable def j1B (t6:qL) (t7:Int) (p:qL) (n:Nat) (t8:Int) (k0:Unit->Res) (k1:Unit->Res):Res:=Z14 (j1h t6 t7 p) n (t8) (k0,k1)
noncomputable def j1Z:Z1q Unit:=λσ k=>rdN σ 35<|rdT σ 1 (pB 1)<|rd1 σ 6 y1 .S λt6=>rdI σ 7 λt7=>rdI σ 8 λt8=>rdB σ 1 y1 [.S] λa p=>j1B t6 t7 p Z12 t8 (λ(_:Unit)=>k (.exit 0) (mkS 35 35 [(1,pB 1)] [(1,⟨y1,a,p,[.S]⟩)])) (λ(_:Unit)=>k .ret (mkS 35 35 [(2,vB false)] []))
theorem j2Y {W0:Base} {M:Nat->Prop} (hnp:W0.np<=0):Z22 Try.prog W0 M (cAt 26 (bo Try.f71)) j1Z:=j0V follows j00 (Z8K j1w Z94) hnp [] oN [1,6,7,8] [1] ([],[]) [(0,[1],[1])] ([2],[]) λσ k _ h=>rN h λhn h=>rT h λh1 h=>rV h λt6 h6 h=>rV h λt7 h7 h=>rV h λt8 h8 h=>rB h λa p hb1 h=>⟨_,Z9m (m:=35) hn (sC h1 (sC h6 (sC h7 (sC h8 sN)))) (bC hb1 bN),.trans (Z88 (λv:Int=>(mkS 35 35 [(1,pB 1),(6,v1 y1 t6 .S),(7,vI t7),(8,vI v)] [(1,⟨y1,a,p,[.S]⟩)])) (j1h t6 t7 p) (λ(k:Z6O Unit)=>(((λ(_:Unit)=>k (.exit 0) (mkS 35 35 [(1,pB 1)] [(1,⟨y1,a,p,[.S]⟩)])),(λ(_:Unit)=>k .ret (mkS 35 35 [(2,vB false)] []))):(Unit->Res)×(Unit->Res))) (λv rec k=>by kernel_rfl) Z12 (t8) k) h⟩
noncomputable def j1g (p:qL) (k0:Bool->Res):Res:=
 j1B p (nI (List.length p)) p Z12 0
  (λ(_:Unit)=>
   k0 (decide ((nI (List.length p))<=6)))
  (λ(_:Unit)=>
   k0 false)
noncomputable def j2l:Sig Unit:=⟨[.look y1 true],[false],λvals ext k=>av vals y1 λp vals=>nl vals<|nl ext<|j1g p (λ(r0:Bool)=>k [wB r0] [] [])⟩
theorem j3c:Z1p Try.prog 71 j2l:=j06 (np:=0) follows j00 (Z8K j1w Z94) [j1Z] (oI 26 0 (j2Y) oN) false Try.func71 λ_ _ k _ h=>aV h λ_ _ _ _ _ h=>nL h λ_ h=>nL h λ_ h=>by subst_vars;exact .trans (by kernel_rfl) h
noncomputable def j0G (p:qL) (table:qB) (k0:qL->Int->Res):Res:=
 j1g p λ(r:Bool)=>
  bif !r then
   k0 [] 1
  else
   j0H table λ(r1:Bool)=>
    bif !r1 then
     k0 [] 1
    else
     j10 p table λ(r2:Bool)=>
      bif r2 then
       k0 [] 2
      else
       bif ((nI (List.length p))==6) then
        k0 [] 3
       else
        j0O p table λ(r3:qL)=>
         k0 r3 0
noncomputable def j1A:Sig Unit:=⟨[.borrow y1 true,.borrow .str false],[true,false],λvals ext k=>av vals y1 λp vals=>av vals .str λtable vals=>nl vals<|nl ext<|j0G p table (λ(r0:qL) (r1:Int)=>k [⟨y1,true,r0,[.S]⟩,wI r1] [] [])⟩
theorem j35:Z1p Try.prog 32 j1A:=j06 (np:=0) follows j00 (Z8K j3c (Z8K j1w (Z8K j36 (Z8K j2O Z94)))) [] oN true Try.func32 λ_ _ k _ h=>aV h λ_ _ _ _ _ h=>aV h λ_ _ _ _ _ h=>nL h λ_ h=>nL h λ_ h=>by subst_vars;exact .trans (by delta j0G j2l j2b j2c j1X;refine gz j1g λ_ e=> ?_;rewrite [<-e];refine gz j0H λ_ e=> ?_;rewrite [<-e];refine gz j10 λ_ e=> ?_;rewrite [<-e];refine gz j0O λ_ e=> ?_;rewrite [<-e];kernel_rfl) h
noncomputable def j0r (t6:qL) (t7:Int) (p:qL) (t8:Int) (rec:Int->Res) (k0:Unit->Res) (k1:Unit->Res):Res:=
 bif decide (t8<t7) then
  bif inb t8 (List.length t6) then
   j0u (nth eS t6 t8) λ(r:Bool)=>
    bif !r then
     k1 ()
    else
     bif decide (t8>0) then
      bif inb (Z8o (t8-1)) (List.length p) then
       bif sGe (nth eS p (Z8o (t8-1))) (nth eS t6 t8) then
        k1 ()
       else
        rec (Z8o (t8+1))
      else none
     else
      rec (Z8o (t8+1))
  else none
 else
  k0 ()
noncomputable def j1a (t6:qL) (t7:Int) (p:qL):Int->(Int->Res)->((Unit->Res)×(Unit->Res))->Res:=λv rec q=>j0r t6 t7 p v (λt8=>rec (t8)) q.1 q.2
noncomputable def j1x (t6:qL) (t7:Int) (p:qL) (n:Nat) (t8:Int) (k0:Unit->Res) (k1:Unit->Res):Res:=Z14 (j1a t6 t7 p) n (t8) (k0,k1)
noncomputable def j1Y:Z1q Unit:=λσ k=>rdN σ 35<|rdT σ 1 (pB 1)<|rd1 σ 6 y1 .S λt6=>rdI σ 7 λt7=>rdI σ 8 λt8=>rdB σ 1 y1 [.S] λa p=>j1x t6 t7 p Z12 t8 (λ(_:Unit)=>k (.exit 0) (mkS 35 35 [(1,pB 1)] [(1,⟨y1,a,p,[.S]⟩)])) (λ(_:Unit)=>k .ret (mkS 35 35 [(2,vB false)] []))
theorem j2X {W0:Base} {M:Nat->Prop} (hnp:W0.np<=0):Z22 Try.prog W0 M (cAt 26 (bo Try.f74)) j1Y:=j0V follows j00 (Z8K j1v Z94) hnp [] oN [1,6,7,8] [1] ([],[]) [(0,[1],[1])] ([2],[]) λσ k _ h=>rN h λhn h=>rT h λh1 h=>rV h λt6 h6 h=>rV h λt7 h7 h=>rV h λt8 h8 h=>rB h λa p hb1 h=>⟨_,Z9m (m:=35) hn (sC h1 (sC h6 (sC h7 (sC h8 sN)))) (bC hb1 bN),.trans (Z88 (λv:Int=>(mkS 35 35 [(1,pB 1),(6,v1 y1 t6 .S),(7,vI t7),(8,vI v)] [(1,⟨y1,a,p,[.S]⟩)])) (j1a t6 t7 p) (λ(k:Z6O Unit)=>(((λ(_:Unit)=>k (.exit 0) (mkS 35 35 [(1,pB 1)] [(1,⟨y1,a,p,[.S]⟩)])),(λ(_:Unit)=>k .ret (mkS 35 35 [(2,vB false)] []))):(Unit->Res)×(Unit->Res))) (λv rec k=>by kernel_rfl) Z12 (t8) k) h⟩
noncomputable def j19 (p:qL) (k0:Bool->Res):Res:=
 j1x p (nI (List.length p)) p Z12 0
  (λ(_:Unit)=>
   k0 (decide ((nI (List.length p))<=6)))
  (λ(_:Unit)=>
   k0 false)
noncomputable def j2i:Sig Unit:=⟨[.look y1 true],[false],λvals ext k=>av vals y1 λp vals=>nl vals<|nl ext<|j19 p (λ(r0:Bool)=>k [wB r0] [] [])⟩
theorem j38:Z1p Try.prog 74 j2i:=j06 (np:=0) follows j00 (Z8K j1v Z94) [j1Y] (oI 26 0 (j2X) oN) false Try.func74 λ_ _ k _ h=>aV h λ_ _ _ _ _ h=>nL h λ_ h=>nL h λ_ h=>by subst_vars;exact .trans (by kernel_rfl) h
noncomputable def j0i (p:qL) (table:qB) (k0:qL->Int->Res):Res:=
 j19 p λ(r:Bool)=>
  bif !r then
   k0 [] 1
  else
   j0u table λ(r1:Bool)=>
    bif !r1 then
     k0 [] 1
    else
     j02 p table λ(r2:Bool)=>
      bif r2 then
       k0 [] 2
      else
       bif ((nI (List.length p))==6) then
        k0 [] 3
       else
        j0R p λ(r3:qL)=>
         bif lim ((List.length r3)+1) then
          j0d (r3++[table]) λ(x:qL)=>
           k0 x 0
         else none
noncomputable def j11:Sig Unit:=⟨[.borrow y1 true,.borrow .str false],[true,false],λvals ext k=>av vals y1 λp vals=>av vals .str λtable vals=>nl vals<|nl ext<|j0i p table (λ(r0:qL) (r1:Int)=>k [⟨y1,true,r0,[.O]⟩,wI r1] [] [])⟩
theorem j34:Z1p Try.prog 33 j11:=j06 (np:=0) follows j00 (Z8K j38 (Z8K j1v (Z8K j1E (Z8K j2r (Z8K j21 Z94))))) [] oN false Try.func33 λ_ _ k _ h=>aV h λ_ _ _ _ _ h=>aV h λ_ _ _ _ _ h=>nL h λ_ h=>nL h λ_ h=>by subst_vars;exact .trans (by delta j0i j2i j29 j0N j1G j1f;refine gz j19 λ_ e=> ?_;rewrite [<-e];refine gz j0u λ_ e=> ?_;rewrite [<-e];refine gz j02 λ_ e=> ?_;rewrite [<-e];refine gz j0R λ_ e=> ?_;rewrite [<-e];refine gz j0d λ_ e=> ?_;rewrite [<-e];kernel_rfl) h
end Go.PI.G
namespace Go.PI.G
open Go Go.PI Go.Proofs
open Go.Code (pl pr)
noncomputable def j0c (k_:Int) (out:qB) (rec:Int->qB->Res) (k0:qB->Res):Res:=
 bif decide (k_>0) then
  bif lim ((ByteArray.size (Z34 [wu8 (Z8o (48+(Int.tmod k_ 10)))]))+(ByteArray.size out)) then
   rec (Z8o (Int.tdiv k_ 10)) ((Z34 [wu8 (Z8o (48+(Int.tmod k_ 10)))])++out)
  else none
 else
  k0 out
noncomputable def j0s:(Int×qB)->(Int×qB->Res)->((qB->Res))->Res:=λv rec q=>j0c v.1 v.2 (λk_ out=>rec (k_,out)) q
noncomputable def j13 (n:Nat) (k_:Int) (out:qB) (k0:qB->Res):Res:=Z14 (j0s) n (k_,out) (k0)
noncomputable def j1D:Z1q Unit:=λσ k=>rdN σ 20<|rdI σ 0 λk_=>rdS σ 3 λout=>j13 Z12 k_ out (λ(out1:qB)=>k (.exit 0) (mkS 20 20 [(3,vS out1)] []))
theorem j2n {W0:Base} {M:Nat->Prop} (hnp:W0.np<=0):Z22 Try.prog W0 M (cAt 60 (bo Try.f118)) j1D:=j0V follows j00 Z94 hnp [] oN [0,3] [] ([],[]) [(0,[3],[])] ([],[]) λσ k _ h=>rN h λhn h=>rV h λk_ h0 h=>rV h λout h3 h=>⟨_,Z9m (m:=20) hn (sC h0 (sC h3 sN)) bN,.trans (Z88 (λv:Int×qB=>(mkS 20 20 [(0,vI v.1),(3,vS v.2)] [])) (j0s) (λ(k:Z6O Unit)=>(((λ(out1:qB)=>k (.exit 0) (mkS 20 20 [(3,vS out1)] []))):(qB->Res))) (λv rec k=>by kernel_rfl) Z12 (k_,out) k) h⟩
noncomputable def j0F (k_:Int) (k0:qB->Res):Res:=
 bif decide (k_<=0) then
  k0 j41
 else
  j13 Z12 k_ eS λ(out:qB)=>
   bif lim (1+(ByteArray.size out)) then
    k0 (z_m++out)
   else none
noncomputable def j2J:Sig Unit:=⟨[.look tI false],[false],λvals ext k=>av vals tI λk_ vals=>nl vals<|nl ext<|j0F k_ (λ(r0:qB)=>k [wS r0] [] [])⟩
theorem j0M:Z1p Try.prog 118 j2J:=j06 (np:=0) follows j00 Z94 [j1D] (oI 60 0 (j2n) oN) false Try.func118 λ_ _ k _ h=>aV h λ_ _ _ _ _ h=>nL h λ_ h=>nL h λ_ h=>by subst_vars;exact .trans (by kernel_rfl) h
end Go.PI.G
namespace Go.PI.G
open Go Go.PI Go.Proofs
open Go.Code (pl pr)
noncomputable def j09 (a:qL) (left:Int) (i:Int) (rec:Int->Int->Res) (k0:Int->Res) (k1:Unit->Res):Res:=
 bif decide (i<(nI (List.length a))) then
  bif inb i (List.length a) then
   bif decide ((Z8o (left-(nI (ByteArray.size (nth eS a i)))))<0) then
    k1 ()
   else
    rec (Z8o (left-(nI (ByteArray.size (nth eS a i))))) (Z8o (i+1))
  else none
 else
  k0 left
noncomputable def j1n (a:qL):(Int×Int)->(Int×Int->Res)->((Int->Res)×(Unit->Res))->Res:=λv rec q=>j09 a v.1 v.2 (λleft i=>rec (left,i)) q.1 q.2
noncomputable def j0y (a:qL) (n:Nat) (left:Int) (i:Int) (k0:Int->Res) (k1:Unit->Res):Res:=Z14 (j1n a) n (left,i) (k0,k1)
noncomputable def j1t:Z1q Unit:=λσ k=>rdN σ 28<|rd1 σ 0 y1 .S λa=>rdI σ 1 λleft=>rdI σ 5 λi=>j0y a Z12 left i (λ(left1:Int)=>k (.exit 0) (mkS 28 28 [(1,vI left1)] [])) (λ(_:Unit)=>k .ret (mkS 28 28 [(4,vI (-1))] []))
theorem j2g {W0:Base} {M:Nat->Prop} (hnp:W0.np<=0):Z22 Try.prog W0 M (cAt 122 (bo Try.f70)) j1t:=j0V follows j00 Z94 hnp [] oN [0,1,5] [] ([],[]) [(0,[1],[])] ([4],[]) λσ k _ h=>rN h λhn h=>rV h λa h0 h=>rV h λleft h1 h=>rV h λi h5 h=>⟨_,Z9m (m:=28) hn (sC h0 (sC h1 (sC h5 sN))) bN,.trans (Z88 (λv:Int×Int=>(mkS 28 28 [(0,v1 y1 a .S),(1,vI v.1),(5,vI v.2)] [])) (j1n a) (λ(k:Z6O Unit)=>(((λ(left1:Int)=>k (.exit 0) (mkS 28 28 [(1,vI left1)] [])),(λ(_:Unit)=>k .ret (mkS 28 28 [(4,vI (-1))] []))):(Int->Res)×(Unit->Res))) (λv rec k=>by kernel_rfl) Z12 (left,i) k) h⟩
noncomputable def j0T (a:qL) (left:Int) (k0:Int->Res):Res:=
 bif decide ((Z8o (left-(nI (List.length a))))<0) then
  k0 (-1)
 else
  j0y a Z12 (Z8o (left-(nI (List.length a)))) 0
   (λ(left1:Int)=>
    k0 left1)
   (λ(_:Unit)=>
    k0 (-1))
noncomputable def j2z:Sig Unit:=⟨[.look y1 false,.look tI false],[false],λvals ext k=>av vals y1 λa vals=>av vals tI λleft vals=>nl vals<|nl ext<|j0T a left (λ(r0:Int)=>k [wI r0] [] [])⟩
theorem j2t:Z1p Try.prog 70 j2z:=j06 (np:=0) follows j00 Z94 [j1t] (oI 122 0 (j2g) oN) false Try.func70 λ_ _ k _ h=>aV h λ_ _ _ _ _ h=>aV h λ_ _ _ _ _ h=>nL h λ_ h=>nL h λ_ h=>by subst_vars;exact .trans (by kernel_rfl) h
noncomputable def j0a (a:qL) (out:qL) (i:Int) (rec:qL->Int->Res) (k0:qL->Res):Res:=
 bif decide (i<(nI (List.length a))) then
  bif inb i (List.length a) then
   bif inb i (List.length out) then
    rec (upd out i (nth eS a i)) (Z8o (i+1))
   else none
  else none
 else
  k0 out
noncomputable def j0K (a:qL):(qL×Int)->(qL×Int->Res)->((qL->Res))->Res:=λv rec q=>j0a a v.1 v.2 (λout i=>rec (out,i)) q
noncomputable def j1C (a:qL) (n:Nat) (out:qL) (i:Int) (k0:qL->Res):Res:=Z14 (j0K a) n (out,i) (k0)
noncomputable def j1u:Z1q Unit:=λσ k=>rdN σ 22<|rd1 σ 0 y1 .S λa=>rd1 σ 3 y1 .O λout=>rdI σ 4 λi=>j1C a Z12 out i (λ(out1:qL)=>k (.exit 0) (mkS 22 22 [(3,v1 y1 out1 .O)] []))
theorem j2h {W0:Base} {M:Nat->Prop} (hnp:W0.np<=0):Z22 Try.prog W0 M (cAt 58 (bo Try.f73)) j1u:=j0V follows j00 Z94 hnp [] oN [0,3,4] [] ([],[]) [(0,[3],[])] ([],[]) λσ k _ h=>rN h λhn h=>rV h λa h0 h=>rV h λout h3 h=>rV h λi h4 h=>⟨_,Z9m (m:=22) hn (sC h0 (sC h3 (sC h4 sN))) bN,.trans (Z88 (λv:qL×Int=>(mkS 22 22 [(0,v1 y1 a .S),(3,v1 y1 v.1 .O),(4,vI v.2)] [])) (j0K a) (λ(k:Z6O Unit)=>(((λ(out1:qL)=>k (.exit 0) (mkS 22 22 [(3,v1 y1 out1 .O)] []))):(qL->Res))) (λv rec k=>by kernel_rfl) Z12 (out,i) k) h⟩
noncomputable def j0U (a:qL) (k0:qL->Res):Res:=
 bif Z8m (nI (List.length a)) (nI (List.length a)) then
  j1C a Z12 (Z7Y (nI (List.length a)) eS) 0 λ(out:qL)=>
   k0 out
 else none
noncomputable def j2A:Sig Unit:=⟨[.borrow y1 false],[false],λvals ext k=>av vals y1 λa vals=>nl vals<|nl ext<|j0U a (λ(r0:qL)=>k [w1 y1 r0 .O] [] [])⟩
theorem j2u:Z1p Try.prog 73 j2A:=j06 (np:=0) follows j00 Z94 [j1u] (oI 58 0 (j2h) oN) false Try.func73 λ_ _ k _ h=>aV h λ_ _ _ _ _ h=>nL h λ_ h=>nL h λ_ h=>by subst_vars;exact .trans (by kernel_rfl) h
noncomputable def j08 (a:qL) (b:qL) (i:Int) (rec:Int->Res) (k0:Unit->Res) (k1:Unit->Res):Res:=
 bif decide (i<(nI (List.length a))) then
  bif inb i (List.length a) then
   bif inb i (List.length b) then
    bif sNe (nth eS a i) (nth eS b i) then
     k1 ()
    else
     rec (Z8o (i+1))
   else none
  else none
 else
  k0 ()
noncomputable def j1m (a:qL) (b:qL):Int->(Int->Res)->((Unit->Res)×(Unit->Res))->Res:=λv rec q=>j08 a b v (λi=>rec (i)) q.1 q.2
noncomputable def j0Y (a:qL) (b:qL) (n:Nat) (i:Int) (k0:Unit->Res) (k1:Unit->Res):Res:=Z14 (j1m a b) n (i) (k0,k1)
noncomputable def j1s:Z1q Unit:=λσ k=>rdN σ 26<|rd1 σ 0 y1 .S λa=>rd1 σ 1 y1 .S λb=>rdI σ 5 λi=>j0Y a b Z12 i (λ(_:Unit)=>k (.exit 0) (mkS 26 26 [] [])) (λ(_:Unit)=>k .ret (mkS 26 26 [(4,vB false)] []))
theorem j2f {W0:Base} {M:Nat->Prop} (hnp:W0.np<=0):Z22 Try.prog W0 M (cAt 58 (bo Try.f80)) j1s:=j0V follows j00 Z94 hnp [] oN [0,1,5] [] ([],[]) [(0,[],[])] ([4],[]) λσ k _ h=>rN h λhn h=>rV h λa h0 h=>rV h λb h1 h=>rV h λi h5 h=>⟨_,Z9m (m:=26) hn (sC h0 (sC h1 (sC h5 sN))) bN,.trans (Z88 (λv:Int=>(mkS 26 26 [(0,v1 y1 a .S),(1,v1 y1 b .S),(5,vI v)] [])) (j1m a b) (λ(k:Z6O Unit)=>(((λ(_:Unit)=>k (.exit 0) (mkS 26 26 [] [])),(λ(_:Unit)=>k .ret (mkS 26 26 [(4,vB false)] []))):(Unit->Res)×(Unit->Res))) (λv rec k=>by kernel_rfl) Z12 (i) k) h⟩
noncomputable def j0S (a:qL) (b:qL) (k0:Bool->Res):Res:=
 bif ((nI (List.length a)) != (nI (List.length b))) then
  k0 false
 else
  j0Y a b Z12 0
   (λ(_:Unit)=>
    k0 true)
   (λ(_:Unit)=>
    k0 false)
noncomputable def j2y:Sig Unit:=⟨[.look y1 false,.look y1 false],[false],λvals ext k=>av vals y1 λa vals=>av vals y1 λb vals=>nl vals<|nl ext<|j0S a b (λ(r0:Bool)=>k [wB r0] [] [])⟩
theorem j2s:Z1p Try.prog 80 j2y:=j06 (np:=0) follows j00 Z94 [j1s] (oI 58 0 (j2f) oN) false Try.func80 λ_ _ k _ h=>aV h λ_ _ _ _ _ h=>aV h λ_ _ _ _ _ h=>nL h λ_ h=>nL h λ_ h=>by subst_vars;exact .trans (by kernel_rfl) h
noncomputable def j05 (a:qL) (k_:Int) (i:Int) (rec:qL->Int->Int->Res) (k0:qL->Int->Res):Res:=
 bif decide (i<(nI (List.length a))) then
  j0F k_ λ(r:qB)=>
   bif inb i (List.length a) then
    rec (upd a i r) (Z8o (k_+1)) (Z8o (i+1))
   else none
 else
  k0 a k_
noncomputable def j0B:(qL×Int×Int)->(qL×Int×Int->Res)->((qL->Int->Res))->Res:=λv rec q=>j05 v.1 v.2.1 v.2.2 (λa k_ i=>rec (a,k_,i)) q
noncomputable def j0J (n:Nat) (a:qL) (k_:Int) (i:Int) (k0:qL->Int->Res):Res:=Z14 (j0B) n (a,k_,i) (k0)
noncomputable def j1l:Z1q Unit:=λσ k=>rdN σ 20<|rd1 σ 0 y1 .O λa=>rdI σ 1 λk_=>rdI σ 5 λi=>j0J Z12 a k_ i (λ(a1:qL) (k_1:Int)=>k (.exit 0) (mkS 20 20 [(0,v1 y1 a1 .O),(1,vI k_1)] []))
theorem j25 {W0:Base} {M:Nat->Prop} (hnp:W0.np<=1):Z22 Try.prog W0 M (cAt 26 (bo Try.f81)) j1l:=j0V follows j00 (Z8K j0M Z94) hnp [] oN [0,1,5] [] ([],[]) [(0,[0,1],[])] ([],[]) λσ k _ h=>rN h λhn h=>rV h λa h0 h=>rV h λk_ h1 h=>rV h λi h5 h=>⟨_,Z9m (m:=20) hn (sC h0 (sC h1 (sC h5 sN))) bN,.trans (Z88 (λv:qL×Int×Int=>(mkS 20 20 [(0,v1 y1 v.1 .O),(1,vI v.2.1),(5,vI v.2.2)] [])) (j0B) (λ(k:Z6O Unit)=>(((λ(a1:qL) (k_1:Int)=>k (.exit 0) (mkS 20 20 [(0,v1 y1 a1 .O),(1,vI k_1)] []))):(qL->Int->Res))) (λv rec k=>by kernel_rfl) Z12 (a,k_,i) k) h⟩
noncomputable def j0E (a:qL) (k_:Int) (k0:Int->qL->Res):Res:=
 j0J Z12 a k_ 0 λ(a1:qL) (k_1:Int)=>
  k0 k_1 a1
noncomputable def j2k:Sig Unit:=⟨[.inout y1 false,.borrow tI false],[false],λvals ext k=>ao vals y1 [.O] λa vals=>av vals tI λk_ vals=>nl vals<|nl ext<|j0E a k_ (λ(r0:Int) (i0:qL)=>k [wI r0] [w1 y1 i0 .O] [])⟩
theorem j2e:Z1p Try.prog 81 j2k:=j06 (np:=1) follows j00 (Z8K j0M Z94) [j1l] (oI 26 0 (j25) oN) false Try.func81 λ_ _ k _ h=>aO h λ_ _ _ _ h=>aV h λ_ _ _ _ _ h=>nL h λ_ h=>nL h λ_ h=>by subst_vars;exact .trans (by kernel_rfl) h
noncomputable def j04 (a:qL) (k_:Int) (i:Int) (rec:Int->Int->Res) (k0:Int->Res) (k1:Unit->Res):Res:=
 bif decide (i<(nI (List.length a))) then
  bif inb i (List.length a) then
   j0F k_ λ(r:qB)=>
    bif sNe (nth eS a i) r then
     k1 ()
    else
     rec (Z8o (k_+1)) (Z8o (i+1))
  else none
 else
  k0 k_
noncomputable def j0A (a:qL):(Int×Int)->(Int×Int->Res)->((Int->Res)×(Unit->Res))->Res:=λv rec q=>j04 a v.1 v.2 (λk_ i=>rec (k_,i)) q.1 q.2
noncomputable def j0I (a:qL) (n:Nat) (k_:Int) (i:Int) (k0:Int->Res) (k1:Unit->Res):Res:=Z14 (j0A a) n (k_,i) (k0,k1)
noncomputable def j1k:Z1q Unit:=λσ k=>rdN σ 22<|rd1 σ 0 y1 .S λa=>rdI σ 1 λk_=>rdI σ 5 λi=>j0I a Z12 k_ i (λ(k_1:Int)=>k (.exit 0) (mkS 22 22 [(1,vI k_1)] [])) (λ(_:Unit)=>k .ret (mkS 22 22 [(4,vI (-1))] []))
theorem j24 {W0:Base} {M:Nat->Prop} (hnp:W0.np<=0):Z22 Try.prog W0 M (cAt 26 (bo Try.f82)) j1k:=j0V follows j00 (Z8K j0M Z94) hnp [] oN [0,1,5] [] ([],[]) [(0,[1],[])] ([4],[]) λσ k _ h=>rN h λhn h=>rV h λa h0 h=>rV h λk_ h1 h=>rV h λi h5 h=>⟨_,Z9m (m:=22) hn (sC h0 (sC h1 (sC h5 sN))) bN,.trans (Z88 (λv:Int×Int=>(mkS 22 22 [(0,v1 y1 a .S),(1,vI v.1),(5,vI v.2)] [])) (j0A a) (λ(k:Z6O Unit)=>(((λ(k_1:Int)=>k (.exit 0) (mkS 22 22 [(1,vI k_1)] [])),(λ(_:Unit)=>k .ret (mkS 22 22 [(4,vI (-1))] []))):(Int->Res)×(Unit->Res))) (λv rec k=>by kernel_rfl) Z12 (k_,i) k) h⟩
noncomputable def j0D (a:qL) (k_:Int) (k0:Int->Res):Res:=
 j0I a Z12 k_ 0
  (λ(k_1:Int)=>
   k0 k_1)
  (λ(_:Unit)=>
   k0 (-1))
noncomputable def j2j:Sig Unit:=⟨[.look y1 false,.look tI false],[false],λvals ext k=>av vals y1 λa vals=>av vals tI λk_ vals=>nl vals<|nl ext<|j0D a k_ (λ(r0:Int)=>k [wI r0] [] [])⟩
theorem j2d:Z1p Try.prog 82 j2j:=j06 (np:=0) follows j00 (Z8K j0M Z94) [j1k] (oI 26 0 (j24) oN) false Try.func82 λ_ _ k _ h=>aV h λ_ _ _ _ _ h=>aV h λ_ _ _ _ _ h=>nL h λ_ h=>nL h λ_ h=>by subst_vars;exact .trans (by kernel_rfl) h
end Go.PI.G
namespace Go.PI.G
open Go Go.PI Go.Proofs
open Go.Code (pl pr)
noncomputable def j1c (a:qL) (left:Int) (k0:Int->Res):Res:=
 j0T a left λ(r:Int)=>
  bif decide (r<0) then
   k0 (-1)
  else
   k0 r
noncomputable def j1H:Sig Unit:=⟨[.look y1 true,.look tI false],[false],λvals ext k=>av vals y1 λa vals=>av vals tI λleft vals=>nl vals<|nl ext<|j1c a left (λ(r0:Int)=>k [wI r0] [] [])⟩
theorem j3a:Z1p Try.prog 25 j1H:=j06 (np:=0) follows j00 (Z8K j2t Z94) [] oN false Try.func25 λ_ _ k _ h=>aV h λ_ _ _ _ _ h=>aV h λ_ _ _ _ _ h=>nL h λ_ h=>nL h λ_ h=>by subst_vars;exact .trans (by kernel_rfl) h
noncomputable def j0h (a:qL) (k0:qL->Res):Res:=
 j0U a λ(r:qL)=>
  k0 r
noncomputable def j1e:Sig Unit:=⟨[.borrow y1 true],[true],λvals ext k=>av vals y1 λa vals=>nl vals<|nl ext<|j0h a (λ(r0:qL)=>k [⟨y1,true,r0,[.O]⟩] [] [])⟩
theorem j3b:Z1p Try.prog 27 j1e:=j06 (np:=0) follows j00 (Z8K j2u Z94) [] oN false Try.func27 λ_ _ k _ h=>aV h λ_ _ _ _ _ h=>nL h λ_ h=>nL h λ_ h=>by subst_vars;exact .trans (by kernel_rfl) h
noncomputable def j0g (a:qL) (b:qL) (k0:Bool->Res):Res:=
 j0S a b λ(r:Bool)=>
  bif !r then
   k0 false
  else
   k0 true
noncomputable def j1d:Sig Unit:=⟨[.look y1 true,.look y1 true],[false],λvals ext k=>av vals y1 λa vals=>av vals y1 λb vals=>nl vals<|nl ext<|j0g a b (λ(r0:Bool)=>k [wB r0] [] [])⟩
theorem j39:Z1p Try.prog 29 j1d:=j06 (np:=0) follows j00 (Z8K j2s Z94) [] oN false Try.func29 λ_ _ k _ h=>aV h λ_ _ _ _ _ h=>aV h λ_ _ _ _ _ h=>nL h λ_ h=>nL h λ_ h=>by subst_vars;exact .trans (by kernel_rfl) h
noncomputable def j0l (a:qL) (k_:Int) (k0:Int->qL->Res):Res:=
 j0E a k_ λ(r:Int) (a1:qL)=>
  k0 r a1
noncomputable def j0W:Sig Unit:=⟨[.inout y1 true,.borrow tI false],[false],λvals ext k=>ao vals y1 [.O] λa vals=>av vals tI λk_ vals=>nl vals<|nl ext<|j0l a k_ (λ(r0:Int) (i0:qL)=>k [wI r0] [⟨y1,true,i0,[.O]⟩] [])⟩
theorem j2N:Z1p Try.prog 30 j0W:=j06 (np:=1) follows j00 (Z8K j2e Z94) [] oN false Try.func30 λ_ _ k _ h=>aO h λ_ _ _ _ h=>aV h λ_ _ _ _ _ h=>nL h λ_ h=>nL h λ_ h=>by subst_vars;exact .trans (by kernel_rfl) h
noncomputable def j0z (a:qL) (k_:Int) (k0:Int->Res):Res:=
 j0D a k_ λ(r:Int)=>
  bif decide (r<0) then
   k0 (-1)
  else
   k0 r
noncomputable def j1o:Sig Unit:=⟨[.look y1 true,.look tI false],[false],λvals ext k=>av vals y1 λa vals=>av vals tI λk_ vals=>nl vals<|nl ext<|j0z a k_ (λ(r0:Int)=>k [wI r0] [] [])⟩
theorem j2M:Z1p Try.prog 31 j1o:=j06 (np:=0) follows j00 (Z8K j2d Z94) [] oN false Try.func31 λ_ _ k _ h=>aV h λ_ _ _ _ _ h=>aV h λ_ _ _ _ _ h=>nL h λ_ h=>nL h λ_ h=>by subst_vars;exact .trans (by kernel_rfl) h
end Go.PI.G
namespace Go.PI.G
open Go Go.PI Go.Proofs
open Go.Code (pl pr)
theorem j18:Fns Try.prog [(25,j1H),(27,j1e),(29,j1d),(30,j0W),(31,j1o),(32,j1A),(33,j11)]:=(Z8K j3a (Z8K j3b (Z8K j39 (Z8K j2N (Z8K j2M (Z8K j35 (Z8K j34 Z94)))))))
noncomputable def j03 (aTable:qB) (w1:Int) (g1:Int) (k_:Int) (aP:qL) (w0:qL) (g0:qL) (k0:Bool->Res):Res:=
 bif decide (k_<0) then
  k0 false
 else
  j0g g0 w0 λ(r:Bool)=>
   bif !r then
    k0 false
   else
    bif (g1 != w1) then
     k0 false
    else
     j0l g0 1 λ(r1:Int) (a3:qL)=>
      j0z a3 1 λ(r2:Int)=>
       bif decide (r2<0) then
        k0 false
       else
        bif (r2 != r1) then
         k0 false
        else
         j0h aP λ(r3:qL)=>
          j0i r3 aTable λ(r4:qL) (r5:Int)=>
           j0g r4 w0 λ(r6:Bool)=>
            bif !r6 then
             k0 false
            else
             bif (r5 != w1) then
              k0 false
             else
              j0z a3 1 λ(r7:Int)=>
               bif decide (r7<0) then
                k0 false
               else
                bif (r7 != r1) then
                 k0 false
                else
                 k0 true
noncomputable def j0x:Z1q Unit:=λσ k=>rdN σ 104<|rdS σ 1 λaTable=>rdT σ 2 (pB 2)<|rdT σ 6 (pB 6)<|rdI σ 7 λw1=>rdT σ 9 (pB 9)<|rdI σ 10 λg1=>rdI σ 11 λk_=>rdB σ 2 y1 [.S] λa aP=>rdB σ 6 y1 [.S] λa1 w0=>rdB σ 9 y1 [.O] λa2 g0=>j03 aTable w1 g1 k_ aP w0 g0 (λ(t4:Bool)=>k .ret (mkS 104 104 [(4,vB t4)] []))
theorem j1S {W0:Base} {M:Nat->Prop} (hnp:W0.np<=0):Z22 Try.prog W0 M (cAt 8191 (bo Try.f6)) j0x:=j40 follows j00 j18 hnp [] oN ([],[]) [] ([4],[]) λσ k _ h=>rN h λhn h=>rV h λaTable h1 h=>rT h λh2 h=>rT h λh6 h=>rV h λw1 h7 h=>rT h λh9 h=>rV h λg1 h10 h=>rV h λk_ h11 h=>rB h λa aP hb2 h=>rB h λa1 w0 hb6 h=>rB h λa2 g0 hb9 h=>⟨_,Z9m (m:=104) hn (sC h1 (sC h2 (sC h6 (sC h7 (sC h9 (sC h10 (sC h11 sN))))))) (bC hb2 (bC hb6 (bC hb9 bN))),.trans (by delta j03 j1d j0W j1o j1e j11;refine gz j0g λ_ e=> ?_;rewrite [<-e];refine gz j0l λ_ e=> ?_;rewrite [<-e];refine gz j0z λ_ e=> ?_;rewrite [<-e];refine gz j0h λ_ e=> ?_;rewrite [<-e];refine gz j0i λ_ e=> ?_;rewrite [<-e];kernel_rfl) h⟩
noncomputable def j0b (aP:qL) (aTable:qB) (k0:Bool->Res):Res:=
 bif decide ((nI (ByteArray.size aTable))>1048576) then
  k0 true
 else
  j1c aP 1048576 λ(r:Int)=>
   bif decide (r<0) then
    k0 true
   else
    j0h aP λ(r1:qL)=>
     j0G r1 aTable λ(r2:qL) (r3:Int)=>
      j0h aP λ(r4:qL)=>
       j0i r4 aTable λ(r5:qL) (r6:Int)=>
        j0g r5 r2 λ(r7:Bool)=>
         bif !r7 then
          k0 false
         else
          bif (r6 != r3) then
           k0 false
          else
           j0h aP λ(r8:qL)=>
            j0g r4 r8 λ(r9:Bool)=>
             bif !r9 then
              k0 false
             else
              j0l r4 1 λ(r10:Int) (a:qL)=>
               j03 aTable r3 r6 r10 aP r2 r5 λ(t:Bool)=>
                k0 t
noncomputable def j07:Sig Unit:=⟨[.borrow y1 true,.borrow .str false],[false],λvals ext k=>av vals y1 λaP vals=>av vals .str λaTable vals=>nl vals<|nl ext<|j0b aP aTable (λ(r0:Bool)=>k [wB r0] [] [])⟩
theorem j20:Z1p Try.prog 6 j07:=j06 (np:=0) follows j00 j18 [j0x] (oI 8191 0 (j1S) oN) false Try.func6 λ_ _ k _ h=>aV h λ_ _ _ _ _ h=>aV h λ_ _ _ _ _ h=>nL h λ_ h=>nL h λ_ h=>by subst_vars;exact .trans (by delta j0b j1H j1e j1A j11 j1d j0W j0x;refine gz j1c λ_ e=> ?_;rewrite [<-e];refine gz j0h λ_ e=> ?_;rewrite [<-e];refine gz j0G λ_ e=> ?_;rewrite [<-e];refine gz j0i λ_ e=> ?_;rewrite [<-e];refine gz j0g λ_ e=> ?_;rewrite [<-e];refine gz j0l λ_ e=> ?_;rewrite [<-e];refine gz j03 λ_ e=> ?_;rewrite [<-e];kernel_rfl) h
end Go.PI.G
namespace Go.PI.G
open Go Go.PI
abbrev V:=Int×Int×ByteArray
theorem j1T (s:ByteArray):(Z1e s).length=s.size:=by unfold Z1e;simp
def be (n:Nat):Nat->List Int
 | 0=>[]
 | s+1=>((n / 256 ^ s % 256:Nat):Int)::be n s
noncomputable def wB (v:V):List Int:=
 bif v.1==1 then [1,v.2.1]
 else bif v.1==2 then 2::(bif decide (v.2.1<0) then 1 else 0)::be v.2.1.natAbs 6
 else bif v.1==3 then 3::nI v.2.2.size::Z1e v.2.2
 else [0]
end Go.PI.G
set_option linter.unusedSimpArgs false
namespace Go.PI.G
open Go Go.PI Go.Proofs
theorem j3E (x lo hi:Int) (k:Bool->Res):j0v x lo hi k=k (decide (lo<=x/\x<=hi)):=by
 unfold j0v
 by_cases h:x>=lo
 ·rw [decide_eq_true h,cond_true]
  congr 1
  exact decide_eq_decide.2 (by omega)
 ·rw [decide_eq_false h,cond_false]
  congr 1
  exact (decide_eq_false (by omega)).symm
end Go.PI.G
namespace Go.PI.G
open Go Go.PI
def msr:(τ:Ty)->El τ->Nat
 | .str,s=>ByteArray.size s
 | .slice e,l=>List.length (α:=El e) l+(List.map (msr e) l).sum
 | .pair a b,x=>msr a x.1+msr b x.2
 | .int _,_=>0
 | .bool,_=>0
 | .unit,_=>0
def wgt:(τ:Ty)->El τ->Nat
 | .str,_=>1
 | .slice e,l=>(List.map (wgt e) l).sum
 | .pair a b,x=>wgt a x.1+wgt b x.2
 | .int _,_=>1
 | .bool,_=>1
 | .unit,_=>0
def j0C:(τ:Ty)->El τ->Nat
 | .slice e,l=>(List.map (wgt e) l).sum
 | .pair a b,x=>j0C a x.1+j0C b x.2
 | .str,_=>0
 | .int _,_=>0
 | .bool,_=>0
 | .unit,_=>0
def j0p:Ty->Nat
 | .slice e=>j0p e
 | .pair a b=>j0p a+j0p b
 | .unit=>0
 | _=>1
theorem j2K {α:Type} (f g:α->Nat) (c:Nat) (h:∀ x,f x<=(g x+1) * c):(l:List α)->(l.map f).sum<=(l.length+(l.map g).sum) * c
 | []=>by simp
 | x::l=>by
  have h1:=h x
  have h2:=j2K f g c h l
  simp only [List.map_cons,List.sum_cons,List.length_cons]
  have:(l.length+1+(g x+(l.map g).sum)) * c=(g x+1) * c+(l.length+(l.map g).sum) * c:=by
   rw [<-Nat.add_mul];congr 1;omega
  omega
theorem j2L:(τ:Ty)->(x:El τ)->wgt τ x<=(msr τ x+1) * j0p τ
 | .str,_=>by simp [wgt,j0p]
 | .int _,_=>by simp [wgt,j0p]
 | .bool,_=>by simp [wgt,j0p]
 | .unit,_=>by simp [wgt]
 | .pair a b,x=>by
  have h1:=j2L a x.1
  have h2:=j2L b x.2
  simp only [wgt,msr,j0p,Nat.mul_add]
  have e1:(msr a x.1+1) * j0p a<=(msr a x.1+msr b x.2+1) * j0p a:=Nat.mul_le_mul_right _ (by omega)
  have e2:(msr b x.2+1) * j0p b<=(msr a x.1+msr b x.2+1) * j0p b:=Nat.mul_le_mul_right _ (by omega)
  omega
 | .slice e,l=>by
  have h1:=j2K (wgt e) (msr e) (j0p e) (j2L e) l
  simp only [wgt,msr,j0p]
  have e1:(List.length (α:=El e) l+(List.map (msr e) l).sum) * j0p e<=(List.length (α:=El e) l+(List.map (msr e) l).sum+1) * j0p e:=Nat.mul_le_mul_right _ (by omega)
  exact Nat.le_trans h1 e1
theorem j1r:(τ:Ty)->(x:El τ)->j0C τ x<=wgt τ x
 | .str,_=>Nat.zero_le _
 | .int _,_=>Nat.zero_le _
 | .bool,_=>Nat.zero_le _
 | .unit,_=>Nat.le_refl _
 | .pair a b,x=>Nat.add_le_add (j1r a x.1) (j1r b x.2)
 | .slice e,l=>Nat.le_refl _
noncomputable def dgt (x:Int):ByteArray:=Z34 [wu8 (Z8o (48+x))]
theorem j1F (x:Int):(dgt x).size=1:=rfl
noncomputable def j22 (n:Nat):ByteArray:=if h:n<10 then dgt n else j22 (n / 10)++dgt ((n % 10:Nat):Int)
termination_by n
decreasing_by omega
noncomputable def mT (k:Int):ByteArray:=(⟨#[109]⟩:ByteArray)++j22 k.toNat
noncomputable def mk:(τ:Ty)->El τ->Int->El τ
 | .str,_,k=>mT k
 | .slice e,l,k=>mkL (wgt e) (mk e) l k
 | .pair a b,x,k=>(mk a x.1 k,mk b x.2 (k+(wgt a x.1:Int)))
 | .int .u8,_,k=>wu8 k
 | .int _,_,k=>k
 | .bool,_,k=>(Int.tmod k 3==0)
 | .unit,x,_=>x
noncomputable def mkT:(τ:Ty)->El τ->Int->El τ
 | .slice e,l,k=>mkL (wgt e) (mk e) l k
 | .pair a b,x,k=>(mkT a x.1 k,mkT b x.2 (k+(j0C a x.1:Int)))
 | .str,x,_=>x
 | .int _,x,_=>x
 | .bool,x,_=>x
 | .unit,x,_=>x
theorem j1M (e:Ty) (l:List (El e)):msr (.slice e) l=l.length+(l.map (msr e)).sum:=rfl
theorem j1V {e:Ty} {l:List (El e)} {n:Nat} (h:msr (.slice e) l<=n):l.length<=n:=by
 have:msr (.slice e) l=l.length+(l.map (msr e)).sum:=rfl
 omega
theorem j3Q {e:Ty} {l:List (El e)} {n:Nat} (h:msr (.slice e) l<=n) {x:El e} (hx:x∈l):msr e x<=n:=by
 have h1:msr (.slice e) l=l.length+(l.map (msr e)).sum:=rfl
 have:=Z8l (msr e) l x hx
 omega
theorem j33 {τ:Ty} {x:El τ} (hw:j0p τ<=200) (h:msr τ x<=1048576):wgt τ x<=209715400:=by
 have h1:=j2L τ x
 have h2:(msr τ x+1) * j0p τ<=1048577 * 200:=Nat.mul_le_mul (by omega) hw
 omega
theorem j2C (a b:Ty) (x:El (.pair a b)):wgt (.pair a b) x=wgt a x.1+wgt b x.2:=rfl
theorem j30 (k:IntKind) (x:El (.int k)):wgt (.int k) x=1:=rfl
theorem j2B (x:El .bool):wgt .bool x=1:=rfl
theorem j31 (x:El .str):wgt .str x=1:=rfl
theorem j2W (a b:Ty) (x:El (.pair a b)) (k:Int):mk (.pair a b) x k=(mk a x.1 k,mk b x.2 (k+(wgt a x.1:Int))):=rfl
theorem j2w (e:Ty) (l:El (.slice e)) (k:Int):mk (.slice e) l k=mkL (wgt e) (mk e) l k:=rfl
theorem j3f (x:El (.int .i64)) (k:Int):mk (.int .i64) x k=k:=rfl
theorem j3s (x:El (.int .u8)) (k:Int):mk (.int .u8) x k=wu8 k:=rfl
theorem j2V (x:El .bool) (k:Int):mk .bool x k=(Int.tmod k 3==0):=rfl
theorem j3g (x:El .str) (k:Int):mk .str x k=mT k:=rfl
theorem j1L (e:Ty) (l:El (.slice e)) (k:Int):mkT (.slice e) l k=mkL (wgt e) (mk e) l k:=rfl
theorem j2T (i:IntKind) (x:El (.int i)) (k:Int):mkT (.int i) x k=x:=rfl
theorem j2v (x:El .bool) (k:Int):mkT .bool x k=x:=rfl
theorem j2U (x:El .str) (k:Int):mkT .str x k=x:=rfl
theorem j1N (a b:Ty) (x:El (.pair a b)):j0C (.pair a b) x=j0C a x.1+j0C b x.2:=rfl
theorem j16 (i:IntKind) (x:El (.int i)):j0C (.int i) x=0:=rfl
theorem j0P (x:El .bool):j0C .bool x=0:=rfl
theorem j17 (x:El .str):j0C .str x=0:=rfl
theorem j3R {α:Type} (z:α) (l:List α) (i:Nat) (v:α) (h:i<l.length):nth z (upd l (i:Int) v) (i:Int)=v:=by
 rw [Z9h,Z9a _ _ _ (by simpa using h)];simp
theorem j3U {α:Type} (l:List α) (i:Int) (u v:α):upd (upd l i u) i v=upd l i v:=by
 unfold upd;simp
theorem j3T {α:Type} (l:List α) (i:Int) (v:α):(upd l i v).length=l.length:=by unfold upd;simp
end Go.PI.G
