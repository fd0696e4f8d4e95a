/-
  Program's code interpreted over typed values; printed texts; plain laws. No conditions.
-/
import Derived.Test.YtppeoiidhmegkaaPc
import Derived.Tactics2
import Derived.WalkKit
import Derived.RegionTactic
import Derived.Deep.LoopGhost
import Derived.Test.YtppeoiidhmegkaaProg
set_option linter.unusedVariables false
namespace Go.PI
open Go
structure SlT (P:Program) (S E I B:TypeId) (k:Nat) (z:Value):Prop where
 mixed:P.follows .mixedOrders=true
 tS:P.underlying S=some (.slice E)
 aS:∀ w,(isAgg S).run P w= .ok false w
 zS:∀ w,(sizeOf S).run P w= .ok 1 w
 vS:∀ w,(zeroValue S).run P w= .ok (.slice none 0 0) w
 tI:P.underlying I=some (.int .i64)
 aI:∀ w,(isAgg I).run P w= .ok false w
 zI:∀ w,(sizeOf I).run P w= .ok 1 w
 tB:P.underlying B=some .bool
 aB:∀ w,(isAgg B).run P w= .ok false w
 zB:∀ w,(sizeOf B).run P w= .ok 1 w
 zE:∀ w,(sizeOf E).run P w= .ok k w
 vE:∀ w,(zeroValue E).run P w= .ok z w
 iE:∃ i:TypeInfo,P.info? E=some i/\i.size=k
 zk:z.cells.size=k
 z1:∀ c∈z.cells.toList,one c=true
def j0Y (z:Value) (n:Nat):List Value:=(Builtin.zeroCells z.cells n).toList
theorem j2F (z:Value) (n:Nat):(j0Y z n).length=n * z.cells.size:=by simp [j0Y,Builtin.zeroCells]
theorem j3m {z:Value} (h:∀ c∈z.cells.toList,one c=true) (n:Nat):∀ c∈j0Y z n,one c=true:=by
 intro c hc
 unfold j0Y Builtin.zeroCells at hc
 rw [Array.mem_toList_iff,Array.mem_map] at hc
 obtain ⟨i,hi,rfl⟩:=hc
 have hi:i<n * z.cells.size:=by simpa using hi
 have hs:0<z.cells.size:=by
  rcases Nat.eq_zero_or_pos z.cells.size with h0 | h0
  ·rw [h0] at hi;simp at hi
  ·exact h0
 rw [getElem!_pos z.cells _ (Nat.mod_lt _ hs)]
 exact h _ (by simp)
section
variable {P:Program} {S E I B U:TypeId} {k:Nat} {z:Value}
theorem j3j (T:SlT P S E I B k z) (ty:TypeId) {w:World} {b o n c:Nat} {cur:Array Value} {t:TypeId} {fz:Nat×Nat} (hn:0<n) (hg:w.heap[b]? = some (.cells cur t fz)) (hfz:Z5V cur fz) (hs:o+n * k<=cur.size) :
  (Builtin.clear_ #[S] ty #[.slice (some ⟨b,o,none⟩) n c]).run P w= .ok (.tuple #[]) (w.setRow b (Z0c cur.toList o (j0Y z n)).toArray):=by
 have hl:=j2F z n
 rw [T.zk] at hl
 have hst:=Z2V P b o t fz (j0Y z n) 0 cur w hg hfz (by rw [hl];omega) (j3m T.z1 n)
 rw [Nat.add_zero] at hst
 obtain ⟨m,rfl⟩:∃ m,n=m+1:=⟨n-1,by omega⟩
 have hst2:(storeCells ⟨b,o,none⟩ (Builtin.zeroCells z.cells (m+1)).toList).run P w= .ok () (w.setRow b (Z0c cur.toList o (j0Y z (m+1))).toArray):=hst
 simp [Builtin.clear_,run_underlying T.tS,T.vE,hst2]
end
section
variable {P:Program} {S E I B U:TypeId} {k f:Nat} {z:Value}
end
end Go.PI
namespace Go.PI
abbrev Fns {R:Type} (P:Program) (l:List (FuncId×Sig R)):Prop:=∀ (g:Nat) (sig:Sig R),Z0s l g=some sig->Z1p P g sig
abbrev tI:Ty:= .int .i64
abbrev vI (x:Int):TV:= .val ⟨.int .i64,false,x,[]⟩
abbrev vB (x:Bool):TV:= .val ⟨.bool,false,x,[]⟩
abbrev vS (x:ByteArray):TV:= .val ⟨.str,false,x,[]⟩
abbrev v1 (τ:Ty) (x:El τ) (t:Tag):TV:= .val ⟨τ,false,x,[t]⟩
abbrev wI (x:Int):TVal:=⟨.int .i64,false,x,[]⟩
abbrev wB (x:Bool):TVal:=⟨.bool,false,x,[]⟩
abbrev wS (x:ByteArray):TVal:=⟨.str,false,x,[]⟩
abbrev w1 (τ:Ty) (x:El τ) (t:Tag):TVal:=⟨τ,false,x,[t]⟩
abbrev pB (i:Nat):TV:= .ptr ⟨true,i,[]⟩
section
variable {R:Type} {r:R}
noncomputable abbrev rdI (σ:State) (i:Nat) (f:Int->Option R):Option R:=rdV σ i (.int .i64) false [] f
noncomputable abbrev rdS (σ:State) (i:Nat) (f:ByteArray->Option R):Option R:=rdV σ i .str false [] f
noncomputable abbrev rd1 (σ:State) (i:Nat) (τ:Ty) (t:Tag) (f:El τ->Option R):Option R:=rdV σ i τ false [t] f
theorem aV {l:List TVal} {τ:Ty} {f:El τ->List TVal->Option R} {C:Prop} (h:av l τ f=some r) (c:∀ x a t l',l=⟨τ,a,x,t⟩::l'->f x l'=some r->C):C:=
 have ⟨x,a,t,l',e,h2⟩:=Z91 h;c x a t l' e h2
theorem aB {l:List TVal} {τ:Ty} {tg:List Tag} {f:Bool->El τ->List TVal->Option R} {C:Prop} (h:ab l τ tg f=some r) (c:∀ a x l',l=⟨τ,a,x,tg⟩::l'->f a x l'=some r->C):C:=
 have ⟨a,x,l',e,h2⟩:=Z8Z h;c a x l' e h2
theorem aO {l:List TVal} {τ:Ty} {tg:List Tag} {f:El τ->List TVal->Option R} {C:Prop} (h:ao l τ tg f=some r) (c:∀ a x l',l=⟨τ,a,x,tg⟩::l'->f x l'=some r->C):C:=
 have ⟨a,x,l',e,h2⟩:=Z90 h;c a x l' e h2
theorem nL {l:List TVal} {f:Option R} {C:Prop} (h:nl l f=some r) (c:l=[]->f=some r->C):C:=
 have ⟨e,h2⟩:=Z98 h;c e h2
variable {σ:State} {C:Prop}
theorem rN {n:Nat} {f:Option R} (h:rdN σ n f=some r) (c:σ.slots.length=n->f=some r->C):C:=
 have h:=Z8O h;c h.1 h.2
theorem rV {i:Nat} {τ:Ty} {ag:Bool} {tg:List Tag} {f:El τ->Option R} (h:rdV σ i τ ag tg f=some r) (c:∀ x,σ.slot i= .val ⟨τ,ag,x,tg⟩->f x=some r->C):C:=
 have ⟨x,h1,h2⟩:=Z8R h;c x h1 h2
theorem rB {i:Nat} {τ:Ty} {tg:List Tag} {f:Bool->El τ->Option R} (h:rdB σ i τ tg f=some r) (c:∀ a x,σ.boxAt i=some ⟨τ,a,x,tg⟩->f a x=some r->C):C:=
 have ⟨a,x,h1,h2⟩:=Z8L h;c a x h1 h2
theorem rT {i:Nat} {p:TV} {f:Option R} (h:rdT σ i p f=some r) (c:σ.slot i=p->f=some r->C):C:=
 have h:=Z8P h;c h.1 h.2
theorem sC {i:Nat} {v:TV} {l:List (Nat×TV)} (h:σ.slot i=v) (t:Z3E σ l):Z3E σ ((i,v)::l):=⟨h,t⟩
theorem sN:Z3E σ []:=trivial
theorem bC {i:Nat} {v:TVal} {l:List (Nat×TVal)} (h:σ.boxAt i=some v) (t:Z3C σ l):Z3C σ ((i,v)::l):=⟨h,t⟩
theorem bN:Z3C σ []:=trivial
end
theorem gz {α:Type} {C:Prop} (a:α) (h:∀ F,F=a->C):C:=h a rfl
def j3D:Nat->Nat->List Bool->List Bool
 | 0,_,l=>l
 | f+1,n,l=>bif Nat.ble n 1 then l else j3D f (n / 2) (Nat.beq (n % 2) 1::l)
def bits (n:Nat):List Bool:=j3D 300 n []
noncomputable def j3f:List Bool->Code->Code
 | [],c=>c
 | b::p,c=>j3f p (bif b then c.pr else c.pl)
noncomputable def cAt (n:Nat) (c:Code):Code:=j3f (bits n) c
def bo (f:Func):Code:=f.body.getD .skip
noncomputable def HT.ins:List Bool->Nat->HT->HT
 | [],i,_=> .x i
 | false::p,i,h=> .t (HT.ins p i h.l) h.r
 | true::p,i,h=> .t h.l (HT.ins p i h.r)
section
variable {R:Type} {r:R} {P:Program} {np:Nat} {X:List (Z1q R)}
theorem Z1F.lr' {t:HT} {c:Code} (h:Z1F P np X t c):(Z1F P np X t.l c.pl)/\(Z1F P np X t.r c.pr):=by
 cases t with
 | o=>exact ⟨trivial,trivial⟩
 | x i=>exact ⟨trivial,trivial⟩
 | t a b=>exact h
theorem j36 {i:Nat}:(p:List Bool)->(t:HT)->(c:Code)->Z1F P np X t c->(∀ (W0:Base) (M:Nat->Prop),W0.np<=np->Z22 P W0 M (j3f p c) (Z0t (λ_ _=>none) X i))->Z1F P np X (HT.ins p i t) c
 | [],_,_,_,hx=>hx
 | false::p,t,c,h,hx=>⟨j36 p t.l c.pl h.lr'.1 hx,h.lr'.2⟩
 | true::p,t,c,h,hx=>⟨h.lr'.1,j36 p t.r c.pr h.lr'.2 hx⟩
theorem oI (p i:Nat) {t:HT} {c c':Code} {y:Z1q R} (hx:∀ {W0:Base} {M:Nat->Prop},W0.np<=np->Z22 P W0 M c' y) (h:Z1F P np X t c)
  (e:j3f (bits p) c=c':=by kernel_rfl) (e2:Z0t (λ_ _=>none) X i=y:=by kernel_rfl):Z1F P np X (HT.ins (bits p) i t) c:=
 j36 (bits p) t c h λW0 M hn=>by rw [e,e2];exact hx hn
theorem oN {c:Code}:Z1F P np X .o c:=trivial
variable {ty:List (TypeId×Ty×List TypeId)} {l:List (FuncId×Sig R)} [Subsingleton R]
theorem j3Q (hm:P.follows .mixedOrders=true) (hT:Z0d P ty) (hS:∀ g sig,Z0s l g=some sig->Z1p P g sig) {W0:Base} {M:Nat->Prop} (hnp:W0.np<=np) (X:List (Z1q R)) {c:Code} {ht:HT} (hO:Z1F P np X ht c)
  (n:List Nat×List Nat) (x:List (Nat×List Nat×List Nat)) (rr:List Nat×List Nat) {y:Z1q R}
  (h:∀ σ k r',y σ k=some r'->∃ σ',Z2R σ' σ/\Z0V ⟨ty,l,np⟩ X ht c σ' (λe σ''=>k e (Z8i n x rr e σ''))=some r'):Z22 P W0 M c y:=
 Z99 (Z6Y (Γ:=⟨ty,l,np⟩) hm hT (Z7S hS) hnp X c ht hO) (Z92 _ _ _) h
theorem j0Z (hm:P.follows .mixedOrders=true) (hT:Z0d P ty) (hS:∀ g sig,Z0s l g=some sig->Z1p P g sig) {W0:Base} {M:Nat->Prop} (hnp:W0.np<=np) (X:List (Z1q R)) {c:Code} {ht:HT} (hO:Z1F P np X ht c.pl)
  (ks bs:List Nat) (n:List Nat×List Nat) (x:List (Nat×List Nat×List Nat)) (rr:List Nat×List Nat) {y:Z1q R}
  (h:∀ σ k r',y σ k=some r'->∃ σ',Z2R σ' σ/\Z44 (Z0V ⟨ty,l,np⟩ X ht c.pl) (λσ=>σ.forget ks bs) (Z8i n x rr) Z12 σ' k=some r')
  (hc:c= .loop c.pl:=by kernel_rfl):Z22 P W0 M c y:=by
 rw [hc]
 exact Z95 (Z6Y (Γ:=⟨ty,l,np⟩) hm hT (Z7S hS) hnp X c.pl ht hO) (Z92 _ _ _) Z12 h
theorem j08 (hm:P.follows .mixedOrders=true) (hT:Z0d P ty) (hS:∀ g sig,Z0s l g=some sig->Z1p P g sig) {f:FuncId} {fn:Func} (X:List (Z1q R)) {ht:HT} (hO:Z1F P np X ht (bo fn)) (fz:Bool) (hf:P.funcs[f]? = some fn)
  {modes:List Mode} {ags:List Bool} {run:List TVal->List TVal->(List TVal->List TVal->List TVal->Option R)->Option R}
  (h:∀ vals ext k r',run vals ext k=some r'->Z75 ⟨ty,l,np⟩ X ht fz fn modes ags vals ext k=some r')
  (hname : (fn.name == "runtime.NumGoroutine") = false := by kernel_rfl) (hb : fn.body = some (bo fn) := by kernel_rfl) (hn : Nat.ble modes.length fn.ntmps = true := by kernel_rfl) : Z1p P f (⟨modes, ags, run⟩ : Sig R) :=
 Z8V (Γ:=⟨ty,l,np⟩) hm hT hS hO hf hname hb (Nat.le_of_ble_eq_true hn) h
end
end Go.PI
namespace Go.PI
open Go
theorem Wrote.ext {w w':World} {b:Nat} {M:Nat->Prop} (h:Wrote w w' b) (hb:M b):Ext M w w':=
 ⟨h.os,h.tape,h.output,by rw [h.size];exact Nat.le_refl _,λy _ hy=>h.old y λe=>hy (e ▸ hb)⟩
theorem j3t {w:World} {F:Nat->Nat} {St:Nat->Prop} {e:Ty} {ms:List Mode} {l:List (El e)} {a0:Bool} {vs:List TVal} {args:List Value} {fps:List (List Nat)} {ads:List Nat}
  (hA:Z0o w F St (.eat (.slice e) false::ms) (⟨.slice e,a0,l,[.O]⟩::vs) args fps ads) :
  ∃ ad cap f0 ar fs,args= .slice ad l.length cap::ar/\fps=f0::fs/\l.length<=cap/\Rp w F St (·∈ f0) (.slice e) [.O] [.slice ad l.length cap] l f0/\Z0o w F St ms vs ar fs ads:=by
 cases args with
 | nil=>cases fps<;>exact hA.elim
 | cons x0 ar=>
  cases fps with
  | nil=>exact hA.elim
  | cons f0 fs=>
   obtain ⟨hs0,hr0,hA⟩:=hA
   obtain ⟨ad,cap,hx0,hlc⟩:=Z3s hs0 hr0
   subst hx0
   exact ⟨ad,cap,f0,ar,fs,rfl,rfl,hlc,hr0,hA⟩
theorem j3s {w:World} {F:Nat->Nat} {St:Nat->Prop} {args:List Value} {fps:List (List Nat)} {ads:List Nat} (hA:Z0o w F St [] [] args fps ads):args=[]/\fps=[]/\ads=[]:=by
 cases args<;>cases fps<;>cases ads<;>first | exact ⟨rfl,rfl,rfl⟩ | exact hA.elim
end Go.PI
namespace Go.PI
open Go
def j2x (S E I B U T:TypeId):Code:=
(.seq (.region 0 #[⟨(some 4), .assign (.const (.int .i64 0)), I, "slices.go:107", #[], none⟩] false)
 (.seq (.seq (.region 1 #[⟨(some 6), .move (.tmp 0), S, "slices.go:108", #[], none⟩,
  ⟨(some 7), .call ⟨(.builtin .len), #[(.tmp 6)], #[S]⟩, I, "slices.go:108", #[⟨0, .data⟩], none⟩,
  ⟨(some 8), .move (.const (.int .i64 0)), I, "slices.go:108", #[], none⟩] false)
 (.block 0 (.loop (.seq (.region 2 #[⟨(some 9), .binOp .lss I (.tmp 8) (.tmp 7) I, U, "slices.go:108", #[], none⟩] false)
 (.seq (.cond (.tmp 9)
  .skip
  (.exit 0))
 (.seq (.block 1 (.seq (.region 3 #[⟨(some 10), .move (.tmp 8), I, "slices.go:108", #[], none⟩,
  ⟨(some 5), .assign (.tmp 10), I, "slices.go:108", #[⟨0, .data⟩, ⟨0, .phase⟩], none⟩] false)
 (.seq (.region 4 #[⟨(some 11), .move (.tmp 1), T, "slices.go:109", #[], none⟩,
  ⟨(some 12), .move (.tmp 0), S, "slices.go:109", #[], none⟩,
  ⟨(some 13), .move (.tmp 5), I, "slices.go:109", #[], none⟩,
  ⟨(some 14), .indexAddr S (.tmp 12) (.tmp 13), U, "slices.go:109", #[⟨1, .data⟩, ⟨2, .data⟩], none⟩,
  ⟨(some 15), .load E (.tmp 14), E, "slices.go:109", #[⟨3, .data⟩], none⟩,
  ⟨(some 16), .call ⟨(.value (.tmp 11)), #[(.tmp 15)], #[E]⟩, B, "slices.go:109", #[⟨0, .data⟩, ⟨4, .data⟩], none⟩] false)
 (.cond (.tmp 16)
  (.seq (.region 5 #[⟨(some 17), .move (.tmp 5), I, "slices.go:110", #[], none⟩,
   ⟨(some 4), .assign (.tmp 17), I, "slices.go:110", #[⟨0, .data⟩, ⟨0, .phase⟩], none⟩] false)
  .ret)
  .skip))))
 (.region 6 #[⟨(some 18), .binOp .add I (.tmp 8) (.const (.int .i64 1)) I, I, "slices.go:108", #[], none⟩,
  ⟨(some 8), .move (.tmp 18), I, "slices.go:108", #[⟨0, .data⟩], none⟩] false)))))))
 (.seq (.region 7 #[⟨(some 4), .assign (.const (.int .i64 (-1))), I, "slices.go:113", #[], none⟩] false)
 .ret)))
def j2u (S E I B U T:TypeId) (fx:FuncId):Code:=
(.seq (.region 0 #[⟨(some 4), .assign (.const (.slice none 0 0)), S, "slices.go:241", #[], none⟩] false)
 (.seq (.region 1 #[⟨(some 8), .move (.tmp 0), S, "slices.go:242", #[], none⟩,
  ⟨(some 9), .move (.tmp 1), T, "slices.go:242", #[], none⟩,
  ⟨(some 10), .call ⟨(.value (.func fx)), #[(.tmp 8), (.tmp 9)], #[S, T]⟩, I, "slices.go:242", #[⟨0, .data⟩, ⟨1, .data⟩], none⟩,
  ⟨(some 5), .assign (.tmp 10), I, "slices.go:242", #[⟨2, .data⟩, ⟨2, .chain⟩, ⟨0, .phase⟩, ⟨1, .phase⟩, ⟨2, .phase⟩], none⟩] false)
 (.seq (.seq (.region 2 #[⟨(some 11), .move (.tmp 5), I, "slices.go:243", #[], none⟩,
  ⟨(some 12), .binOp .eql I (.tmp 11) (.const (.int .i64 (-1))) I, B, "slices.go:243", #[⟨0, .data⟩], none⟩] false)
 (.cond (.tmp 12)
  (.seq (.region 3 #[⟨(some 13), .move (.tmp 0), S, "slices.go:244", #[], none⟩,
   ⟨(some 4), .assign (.tmp 13), S, "slices.go:244", #[⟨0, .data⟩, ⟨0, .phase⟩], none⟩] false)
  .ret)
  .skip))
 (.seq (.seq (.region 4 #[⟨(some 14), .move (.tmp 5), I, "slices.go:247", #[], none⟩,
  ⟨(some 15), .binOp .add I (.tmp 14) (.const (.int .i64 1)) I, I, "slices.go:247", #[⟨0, .data⟩], none⟩,
  ⟨(some 6), .assign (.tmp 15), I, "slices.go:247", #[⟨1, .data⟩, ⟨0, .phase⟩, ⟨1, .phase⟩], none⟩] false)
 (.block 0 (.loop (.seq (.seq (.region 5 #[⟨(some 16), .move (.tmp 6), I, "slices.go:247", #[], none⟩,
  ⟨(some 17), .move (.tmp 0), S, "slices.go:247", #[], none⟩,
  ⟨(some 18), .call ⟨(.builtin .len), #[(.tmp 17)], #[S]⟩, I, "slices.go:247", #[⟨1, .data⟩], none⟩,
  ⟨(some 19), .binOp .lss I (.tmp 16) (.tmp 18) I, B, "slices.go:247", #[⟨0, .data⟩, ⟨2, .data⟩], none⟩] false)
 (.cond (.tmp 19)
  .skip
  (.exit 0)))
 (.seq (.block 1 (.seq (.region 7 #[⟨(some 22), .move (.tmp 0), S, "slices.go:248", #[], none⟩,
  ⟨(some 23), .move (.tmp 6), I, "slices.go:248", #[], none⟩,
  ⟨(some 24), .indexAddr S (.tmp 22) (.tmp 23), U, "slices.go:248", #[⟨0, .data⟩, ⟨1, .data⟩], none⟩,
  ⟨(some 25), .load E (.tmp 24), E, "slices.go:248", #[⟨2, .data⟩], none⟩,
  ⟨(some 7), .assign (.tmp 25), E, "slices.go:248", #[⟨3, .data⟩, ⟨0, .phase⟩, ⟨1, .phase⟩, ⟨2, .phase⟩, ⟨3, .phase⟩], none⟩] false)
 (.seq (.region 8 #[⟨(some 26), .move (.tmp 1), T, "slices.go:248", #[], none⟩,
  ⟨(some 27), .move (.tmp 7), E, "slices.go:248", #[], none⟩,
  ⟨(some 28), .call ⟨(.value (.tmp 26)), #[(.tmp 27)], #[E]⟩, B, "slices.go:248", #[⟨0, .data⟩, ⟨1, .data⟩], none⟩,
  ⟨(some 29), .unOp .not B (.tmp 28), B, "slices.go:248", #[⟨2, .data⟩], none⟩] false)
 (.cond (.tmp 29)
  (.seq (.region 9 #[⟨(some 30), .move (.tmp 0), S, "slices.go:249", #[], none⟩,
   ⟨(some 31), .move (.tmp 5), I, "slices.go:249", #[], none⟩,
   ⟨(some 32), .move (.tmp 7), E, "slices.go:249", #[], none⟩,
   ⟨(some 33), .indexAddr S (.tmp 30) (.tmp 31), U, "slices.go:249", #[⟨0, .data⟩, ⟨1, .data⟩, ⟨0, .phase⟩, ⟨1, .phase⟩, ⟨2, .phase⟩], none⟩,
   ⟨none, .store E (.tmp 33) (.tmp 32), U, "slices.go:249", #[⟨3, .data⟩, ⟨2, .data⟩, ⟨0, .phase⟩, ⟨1, .phase⟩, ⟨2, .phase⟩], none⟩] false)
  (.region 10 #[⟨(some 34), .move (.tmp 5), I, "slices.go:250", #[], none⟩,
   ⟨(some 35), .binOp .add I (.tmp 34) (.const (.int .i64 1)) I, I, "slices.go:250", #[⟨0, .data⟩], none⟩,
   ⟨(some 5), .assign (.tmp 35), I, "slices.go:250", #[⟨1, .data⟩, ⟨0, .phase⟩, ⟨1, .phase⟩], none⟩] false))
  .skip))))
 (.region 6 #[⟨(some 20), .move (.tmp 6), I, "slices.go:247", #[], none⟩,
  ⟨(some 21), .binOp .add I (.tmp 20) (.const (.int .i64 1)) I, I, "slices.go:247", #[⟨0, .data⟩], none⟩,
  ⟨(some 6), .assign (.tmp 21), I, "slices.go:247", #[⟨1, .data⟩, ⟨0, .phase⟩, ⟨1, .phase⟩], none⟩] false))))))
 (.seq (.region 11 #[⟨(some 36), .move (.tmp 0), S, "slices.go:253", #[], none⟩,
  ⟨(some 37), .move (.tmp 5), I, "slices.go:253", #[], none⟩,
  ⟨(some 38), .slice S (.tmp 36) (some (.tmp 37)) none none, S, "slices.go:253", #[⟨0, .data⟩, ⟨1, .data⟩], none⟩,
  ⟨none, .call ⟨(.builtin .clear), #[(.tmp 38)], #[S]⟩, U, "slices.go:253", #[⟨2, .data⟩], none⟩] false)
 (.seq (.region 12 #[⟨(some 39), .move (.tmp 0), S, "slices.go:254", #[], none⟩,
  ⟨(some 40), .move (.tmp 5), I, "slices.go:254", #[], none⟩,
  ⟨(some 41), .slice S (.tmp 39) none (some (.tmp 40)) none, S, "slices.go:254", #[⟨0, .data⟩, ⟨1, .data⟩], none⟩,
  ⟨(some 4), .assign (.tmp 41), S, "slices.go:254", #[⟨2, .data⟩, ⟨0, .phase⟩, ⟨1, .phase⟩, ⟨2, .phase⟩], none⟩] false)
 .ret))))))
def j3d {α:Type} (P:Program) (g:FuncId) (lb:Array Value) (enc:α->Value) (p:α->Bool) (w:World):Prop:=
 ∀ x,Calls P g (#[enc x]++lb) w λe w'=>e= .returned (.bool (p x))/\w'=w
section
variable {P:Program} {S E I B U T:TypeId} {z:Value} {α:Type} [Inhabited α]
set_option maxHeartbeats 2000000 in
theorem j3G (L:SlT P S E I B 1 z) (aE:∀ w,(isAgg E).run P w= .ok false w) (aT:∀ w,(isAgg T).run P w= .ok false w) (zT:∀ w,(sizeOf T).run P w= .ok 1 w) {f:Nat} {fn:Func} (hf:P.funcs[f]? = some fn) (hb:fn.body=some (j2x S E I B U T)) (hn:fn.ntmps=19) (hr:fn.results= #[.tmp 4])
  (enc:α->Value) (p:α->Bool) (g:Nat) (lb:Array Value) (eg:∀ args w,(callFunc g args).run P w= .ok (.enter g args) w) (b off n c:Nat) (zs:List α) (w:World) (hp:j3d P g lb enc p w) (hz:zs.length=n) (hbig:n<=9223372036854775807) (hc:∀ j,j<n->w.cell? ⟨b,off+j,none⟩=some (enc zs[j]!)) :
  Calls P f #[.slice (some ⟨b,off,none⟩) n c,.func (.func g) #[] lb] w λe w'=>w'=w/\((e= .returned (.int .i64 (-1))/\∀ j,j<n->p zs[j]! = false)\/∃ k,k<n/\e= .returned (.int .i64 (k:Nat))/\p zs[k]! = true/\∀ j,j<k->p zs[j]! = false):=by
 have mixed:=L.mixed;have tS:=L.tS;have aS:=L.aS;have zS:=L.zS;have vS:=L.vS;have tI:=L.tI;have aI:=L.aI;have zI:=L.zI;have tB:=L.tB;have aB:=L.aB;have zB:=L.zB;have zE:=L.zE
 refine calls_of_wp hf hb ?_
 simp only [hn,List.size_toArray,List.length_cons,List.length_nil,Nat.reduceAdd,Nat.reduceSub,Array.replicate_succ,Array.replicate_zero,List.push_toArray,List.append_toArray,List.nil_append,List.cons_append]
 unfold j2x
 go_wp2
 go_loopg [5,8] n (λgg _ s8 wr=>∃ kk:Nat,kk<=n/\n-kk<=gg/\s8= .int .i64 kk/\wr=w/\Aside (∀ j,j<kk->p zs[j]! = false))
 case atStart=>exact ⟨0,Nat.zero_le _,by omega,rfl,rfl,λj hj=>absurd hj (Nat.not_lt_zero _)⟩
 case round=>
  obtain ⟨kk,hkk,hg,rfl,rfl,A⟩:=hrel
  by_cases hlt:kk<n
  ·have hltz:(kk:Int)<(n:Int):=by omega
   have hcell:=hc kk hlt
   clear hc
   generalize hy:zs[kk]! = y at hcell
   have B:Aside (zs[kk]! = y):=hy
   clear hy
   have hcall:=hp y
   cases hq:p y with
   | true=>
    rw [hq] at hcall
    go_wp2_with (refine hcall.mono ?_;rintro e w' ⟨rfl,rfl⟩)
    refine bodyPost_ret (results_tmp hr _ _ _) rfl ⟨rfl,.inr ⟨kk,hlt,rfl,?_,A.out⟩⟩
    rw [B.out];exact hq
   | false=>
    rw [hq] at hcall
    go_wp2_with (refine hcall.mono ?_;rintro e w' ⟨rfl,rfl⟩)
    go_roundg (n-(kk+1))
    case measure=>omega
    case rel=>
     refine ⟨kk+1,by omega,by omega,?_,rfl,(show Aside _ from λj hj=> ?_)⟩
     ·go_num
     ·by_cases e:j=kk
      ·subst e
       rw [B.out];exact hq
      ·exact A.out j (by omega)
  ·have hltz:¬ (kk:Int)<(n:Int):=by omega
   have:kk=n:=by omega
   subst this
   go_wp2
   exact bodyPost_ret (results_tmp hr _ _ _) rfl ⟨rfl,.inl ⟨rfl,λj hj=>by simpa using A.out j hj⟩⟩
theorem j2t {w:World} {b:Nat} {c:Array Value} {t:TypeId} {fz:Nat×Nat} (hg:w.heap[b]? = some (.cells c t fz)) {j:Nat} {v:Value} (h:c[j]? = some v):w.cell? ⟨b,j,none⟩=some v:=by
 simp [World.cell?,hg,h]
theorem j3O {w:World} {b:Nat} {c:Array Value} {t:TypeId} {fz:Nat×Nat} (hg:w.heap[b]? = some (.cells c t fz)) (ht:Z5V c fz) {j:Nat} (h:j<c.size):w.frozen? ⟨b,j,none⟩=false:=by
 have:=ht j h
 simp [World.frozen?,hg]
 omega
structure Kept {α:Type} [Inhabited α] (enc:α->Value) (p:α->Bool) (l:List α) (off:Nat) (cur:Array Value) (t:TypeId) (fz:Nat×Nat) (b i j:Nat) (wr:World):Prop where
 cells:∃ ck:Array Value,wr.heap[b]? = some (.cells ck t fz)/\ck.size=cur.size/\(∀ q,q<i->ck[off+q]? = some (enc ((l.take j).filter λx=> !p x)[q]!))/\∀ q,i<=q->q<l.length->ck[off+q]? = some (enc l[q]!)
 lt:i<j
 len:((l.take j).filter λx=> !p x).length=i
set_option maxHeartbeats 4000000 in
theorem j3E (L:SlT P S E I B 1 z) (aE:∀ w,(isAgg E).run P w= .ok false w) (aT:∀ w,(isAgg T).run P w= .ok false w) (zT:∀ w,(sizeOf T).run P w= .ok 1 w) {fx:Nat} {fnx:Func} (hfx:P.funcs[fx]? = some fnx) (hbx:fnx.body=some (j2x S E I B U T)) (hnx:fnx.ntmps=19) (hrx:fnx.results= #[.tmp 4])
  (ex:∀ args w,(callFunc fx args).run P w= .ok (.enter fx args) w)
  {f:Nat} {fn:Func} (hf:P.funcs[f]? = some fn) (hb:fn.body=some (j2u S E I B U T fx)) (hn:fn.ntmps=42) (hr:fn.results= #[.tmp 4])
  (enc:α->Value) (hone:∀ x,(enc x).oneCell'=true) (p:α->Bool) (g:Nat) (lb:Array Value) (eg:∀ args w,(callFunc g args).run P w= .ok (.enter g args) w) (b off c:Nat) (l:List α) (w:World) (hp:∀ W,Wrote w W b->j3d P g lb enc p W)
  {cur:Array Value} {t:TypeId} {fz:Nat×Nat} (hg:w.heap[b]? = some (.cells cur t fz)) (hfz:Z5V cur fz) (hs:off+c<=cur.size) (hlc:l.length<=c) (hbig:l.length<=9223372036854775807) (hc:∀ j,j<l.length->cur[off+j]? = some (enc l[j]!)) :
  Calls P f #[.slice (some ⟨b,off,none⟩) l.length c,.func (.func g) #[] lb] w λe w'=>e= .returned (.slice (some ⟨b,off,none⟩) (l.filter λx=> !p x).length c)/\Wrote w w' b /\
   ∃ ck:Array Value,w'.heap[b]? = some (.cells ck t fz)/\ck.size=cur.size/\∀ q,q<(l.filter λx=> !p x).length->ck[off+q]? = some (enc (l.filter λx=> !p x)[q]!):=by
 have mixed:=L.mixed;have tS:=L.tS;have aS:=L.aS;have zS:=L.zS;have vS:=L.vS;have tI:=L.tI;have aI:=L.aI;have zI:=L.zI;have tB:=L.tB;have aB:=L.aB;have zB:=L.zB;have zE:=L.zE
 have hcl0:∀ x,(enc x).cells= #[enc x]:=λx=>by
  have:=hone x
  generalize enc x=v at this ⊢
  cases v<;>simp_all [Value.oneCell',Value.cells]
 simp only [Value.cells] at hcl0
 have hst:∀ x a m w,Sem.run P (store a (enc x) m) w=stored P w a (enc x) m:=λx a m w=>run_store P w a _ m (hone x)
 have hW0:Wrote w w b:=⟨rfl,λ_ _=>rfl,rfl,rfl,rfl⟩
 have hix:=j3G L aE aT zT hfx hbx hnx hrx enc p g lb eg b off l.length c l w (hp w hW0) rfl hbig (λj hj=>j2t hg (hc j hj))
 have hfirst:(∀ j,j<l.length->p l[j]! = false)\/∃ k,k<l.length/\p l[k]! = true/\∀ j,j<k->p l[j]! = false:=by
  by_cases h:∃ k,k<l.length/\p l[k]! = true
  ·obtain ⟨k,⟨hk1,hk2⟩,hk3⟩:=exists_least h
   refine .inr ⟨k,hk1,hk2,λj hj=> ?_⟩
   cases hpj:p l[j]! with
   | false=>rfl
   | true=>exact absurd (hk3 j ⟨by omega,hpj⟩) (by omega)
  ·refine .inl λj hj=> ?_
   cases hpj:p l[j]! with
   | false=>rfl
   | true=>exact absurd ⟨j,hj,hpj⟩ h
 have HP:Aside (∀ W,Wrote w W b->j3d P g lb enc p W):=hp
 have HC:Aside (∀ j,j<l.length->cur[off+j]? = some (enc l[j]!)):=hc
 have HG:Aside (w.heap[b]? = some (.cells cur t fz)):=hg
 have HT:Aside (Z5V cur fz):=hfz
 have HS:Aside (off+c<=cur.size):=hs
 clear hp hc hg hfz hs
 rcases hfirst with hall | ⟨k0,hk0,hk1,hk2⟩
 ·have hix:Calls P fx #[.slice (some ⟨b,off,none⟩) l.length c,.func (.func g) #[] lb] w λe w'=>e= .returned (.int .i64 (-1))/\w'=w:=hix.mono λe w' h=>by
   obtain ⟨rfl,⟨rfl,_⟩ | ⟨k,hk,rfl,h1,_⟩⟩:=h
   ·exact ⟨rfl,rfl⟩
   ·rw [hall k hk] at h1;cases h1
  have hkl:(l.filter λx=> !p x)=l:=by
   rw [List.filter_eq_self]
   intro x hx
   obtain ⟨j,hj,rfl⟩:=List.mem_iff_getElem.1 hx
   have:=hall j hj
   rw [getElem!_pos l j hj] at this
   rw [this];rfl
  rw [hkl]
  have HA:Aside (∀ j,j<l.length->p l[j]! = false):=hall
  clear hall hkl
  generalize hnl:l.length=n at hix hlc hbig ⊢
  have HN:Aside (l.length=n):=hnl
  clear hnl
  refine calls_of_wp hf hb ?_
  simp only [hn,List.size_toArray,List.length_cons,List.length_nil,Nat.reduceAdd,Nat.reduceSub,Array.replicate_succ,Array.replicate_zero,List.push_toArray,List.append_toArray,List.nil_append,List.cons_append]
  unfold j2u
  go_wp2_with (refine hix.mono ?_;rintro e w' ⟨rfl,rfl⟩)
  refine bodyPost_ret (results_tmp hr _ _ _) rfl ⟨rfl,hW0,cur,HG.out,rfl,λq hq=>HC.out q (by rw [HN.out];exact hq)⟩
 ·have hix:Calls P fx #[.slice (some ⟨b,off,none⟩) l.length c,.func (.func g) #[] lb] w λe w'=>e= .returned (.int .i64 (k0:Nat))/\w'=w:=hix.mono λe w' h=>by
   obtain ⟨rfl,⟨rfl,h1⟩ | ⟨k,hk,rfl,h1,h2⟩⟩:=h
   ·rw [h1 k0 hk0] at hk1;cases hk1
   ·rcases Nat.lt_trichotomy k k0 with h | rfl | h
    ·rw [hk2 k h] at h1;cases h1
    ·exact ⟨rfl,rfl⟩
    ·rw [h2 k0 h] at hk1;cases hk1
  have hk0c:k0<c:=by omega
  have hne1:((k0:Int)== -1)=false:=beq_eq_false_iff_ne.2 (by omega)
  have htake:∀ j,j<l.length->l.take (j+1)=l.take j++[l[j]!]:=λj hj=>by rw [getElem!_pos l j hj,List.take_succ_eq_append_getElem hj]
  have K0:Kept enc p l off cur t fz b k0 (k0+1) w:=by
   have h1:((l.take (k0+1)).filter λx=> !p x)=l.take k0:=by
    rw [htake k0 hk0,List.filter_append]
    rw [show ([l[k0]!].filter λx=> !p x)=[] by simp only [List.filter_cons,hk1];rfl,List.append_nil,List.filter_eq_self]
    intro x hx
    obtain ⟨j,hj,rfl⟩:=List.mem_iff_getElem.1 hx
    have hj2:j<k0:=by rw [List.length_take] at hj;omega
    have:=hk2 j hj2
    rw [getElem!_pos l j (by omega)] at this
    rw [List.getElem_take,this];rfl
   refine ⟨⟨cur,HG.out,rfl,λq hq=> ?_,λq _ hq=>HC.out q hq⟩,Nat.lt_succ_self _,by rw [h1,List.length_take];omega⟩
   rw [h1,getElem!_pos (l.take k0) q (by rw [List.length_take];omega),List.getElem_take,HC.out q (by omega),getElem!_pos l q (by omega)]
  have AK0:Aside (Kept enc p l off cur t fz b k0 (k0+1) w):=K0
  have HTK:Aside (∀ j,j<l.length->l.take (j+1)=l.take j++[l[j]!]):=htake
  clear K0 hk1 hk2 htake
  generalize hkl:(l.filter λx=> !p x)=kl
  have HK:Aside ((l.filter λx=> !p x)=kl):=hkl
  clear hkl
  generalize hnl:l.length=n at hix hlc hbig hk0 ⊢
  have HN:Aside (l.length=n):=hnl
  clear hnl
  refine calls_of_wp hf hb ?_
  simp only [hn,List.size_toArray,List.length_cons,List.length_nil,Nat.reduceAdd,Nat.reduceSub,Array.replicate_succ,Array.replicate_zero,List.push_toArray,List.append_toArray,List.nil_append,List.cons_append]
  unfold j2u
  go_wp2_with (refine hix.mono ?_;rintro e w' ⟨rfl,rfl⟩)
  go_loopg [5,6,7] n (λgg s5 s6 _ wr=>∃ i j:Nat,s5= .int .i64 i/\s6= .int .i64 j/\j<=n/\n-j<=gg/\Wrote w' wr b/\Aside (Kept enc p l off cur t fz b i j wr))
  case atStart=>exact ⟨k0,k0+1,rfl,by go_num,by omega,by omega,hW0,AK0.out⟩
  case round=>
   obtain ⟨i,j,rfl,rfl,hjd,hgg,hwr,I2⟩:=hrel
   obtain ⟨⟨ck,hck,hcs,hlow,hhigh⟩,hij,hlen⟩:=I2.out
   have AH:Aside (wr.heap[b]? = some (.cells ck t fz)/\ck.size=cur.size/\(∀ q,q<i->ck[off+q]? = some (enc ((l.take j).filter λx=> !p x)[q]!))/\∀ q,i<=q->q<l.length->ck[off+q]? = some (enc l[q]!)):=⟨hck,hcs,hlow,hhigh⟩
   have AL:Aside (((l.take j).filter λx=> !p x).length=i):=hlen
   have AW:Aside (Wrote w' wr b):=hwr
   have hic:i<=c:=by omega
   by_cases hlt:j<n
   ·have hltz:(j:Int)<(n:Int):=by omega
    have hin:i<n:=by omega
    have cj:=j2t hck (hhigh j (by omega) (by rw [HN.out];exact hlt))
    have ci:=j2t hck (hhigh i (Nat.le_refl _) (by rw [HN.out];omega))
    have fi:=j3O hck (λx hx=>HT.out x (by rw [<-hcs];exact hx)) (j:=off+i) (by rw [hcs];have:=HS.out;omega)
    have hcall:=HP.out wr hwr l[j]!
    clear hck hlow hhigh hwr hlen hcs
    generalize hu:l[j]! = u at cj hcall
    generalize l[i]! = old at ci
    have C:Aside (l[j]! = u):=hu
    clear hu
    cases hq:p u with
    | false=>
     rw [hq] at hcall
     go_wp2_with (refine hcall.mono ?_;rintro e w1 ⟨rfl,rfl⟩)
     go_roundg (n-(j+1))
     case measure=>omega
     case rel=>
      have hsz:(off+i)<ck.size:=by rw [AH.out.2.1];have:=HS.out;omega
      have hset:=setCell_eq_setRow w1 b (off+i) ck t fz (enc u) AH.out.1
      have hlj:j<l.length:=by rw [HN.out];exact hlt
      have e1:((l.take (j+1)).filter λx=> !p x)=((l.take j).filter λx=> !p x)++[u]:=by
       rw [HTK.out j hlj,List.filter_append,C.out]
       rw [show ([u].filter λx=> !p x)=[u] by simp only [List.filter_cons,hq];rfl]
      refine ⟨i+1,j+1,by go_num,by go_num,by omega,Nat.le_refl _,?_,?_⟩
      ·rw [hset]
       have:=AW.out
       exact ⟨by rw [setRow_size];exact this.size,λx hx=>by rw [setRow_other _ _ _ _ hx];exact this.old x hx,this.os,this.tape,this.output⟩
      ·refine ⟨⟨ck.setIfInBounds (off+i) (enc u),by rw [hset];exact setRow_heap w1 b ck _ t fz AH.out.1,by rw [Array.size_setIfInBounds];exact AH.out.2.1,λq hq2=> ?_,λq hq2 hq3=> ?_⟩,by omega,by rw [e1,List.length_append,AL.out];rfl⟩
       ·rw [e1]
        by_cases hqi:q=i
        ·subst hqi
         rw [Array.getElem?_setIfInBounds_self_of_lt hsz,getElem!_pos _ q (by rw [List.length_append,AL.out];simp),List.getElem_append_right (by rw [AL.out];exact Nat.le_refl _)]
         simp [AL.out]
        ·have hql:q<i:=by omega
         rw [Array.getElem?_setIfInBounds_ne (by omega),AH.out.2.2.1 q hql,getElem!_pos _ q (by rw [AL.out];exact hql),getElem!_pos _ q (by rw [List.length_append,AL.out];omega),List.getElem_append_left (by rw [AL.out];exact hql)]
       ·rw [Array.getElem?_setIfInBounds_ne (by omega)]
        exact AH.out.2.2.2 q (by omega) hq3
    | true=>
     rw [hq] at hcall
     go_wp2_with (refine hcall.mono ?_;rintro e w1 ⟨rfl,rfl⟩)
     go_roundg (n-(j+1))
     case measure=>omega
     case rel=>
      refine ⟨i,j+1,rfl,by go_num,by omega,Nat.le_refl _,AW.out,?_⟩
      have e1:((l.take (j+1)).filter λx=> !p x)=(l.take j).filter λx=> !p x:=by
       rw [HTK.out j (by rw [HN.out];exact hlt),List.filter_append,C.out]
       rw [show ([u].filter λx=> !p x)=[] by simp only [List.filter_cons,hq];rfl,List.append_nil]
      exact ⟨⟨_,AH.out.1,AH.out.2.1,by rw [e1];exact AH.out.2.2.1,AH.out.2.2.2⟩,by omega,by rw [e1];exact AL.out⟩
   ·obtain rfl:j=n:=by omega
    have hltz:¬ (j:Int)<(j:Int):=by omega
    have hi2:i<c:=by omega
    have hi3:¬ c=i:=by omega
    have hcl:∀ ty,(Builtin.clear_ #[S] ty #[.slice (some ⟨b,off+i,none⟩) (j-i) (c-i)]).run P wr= .ok (.tuple #[]) (wr.setRow b (Z0c ck.toList (off+i) (j0Y z (j-i))).toArray):=λty=>
     j3j L ty (by omega) hck (λx hx=>HT.out x (by rw [<-hcs];exact hx)) (by rw [hcs];have:=HS.out;omega)
    clear hck hlow hhigh hwr hlen hcs
    go_wp2
    have et:l.take j=l:=List.take_of_length_le (by rw [HN.out];exact Nat.le_refl _)
    have ek:kl.length=i:=by rw [<-HK.out,<-AL.out,et]
    have hzl:(j0Y z (j-i)).length=(j-i) * 1:=by rw [j2F,L.zk]
    have hl1:=Z26 (cs:=ck.toList) (l:=j0Y z (j-i)) (o:=off+i) (by rw [hzl];simp only [Array.length_toList];rw [AH.out.2.1];have:=HS.out;omega)
    refine bodyPost_ret (results_tmp hr _ _ _) rfl ⟨by rw [ek];rfl,⟨by rw [setRow_size];exact AW.out.size,λx hx=>by rw [setRow_other _ _ _ _ hx];exact AW.out.old x hx,AW.out.os,AW.out.tape,AW.out.output⟩,_,setRow_heap wr b ck _ t fz AH.out.1,?_,λq hq=> ?_⟩
    ·rw [List.size_toArray,hl1,Array.length_toList];exact AH.out.2.1
    ·have hqi:q<i:=by rw [<-ek];exact hq
     have h2:=AH.out.2.2.1 q hqi
     rw [et,HK.out] at h2
     have h3:some (enc (kl[q]?.getD default))=ck[off+q]? := by rw [h2];simp
     rw [List.getElem?_toArray,h3]
     unfold Z0c
     rw [List.append_assoc,List.getElem?_append_left (by rw [List.length_take,Array.length_toList,AH.out.2.1];have:=HS.out;omega),List.getElem?_take,if_pos (by omega),Array.getElem?_toList]
end
end Go.PI
namespace Go.PI
open Go
def j34 (E B:TypeId) (pos:String):Code:=
(.seq (.region 0 #[⟨(some 3),.assign (.const (.bool false)),B,pos,#[],none⟩] false)
 (.seq (.region 1 #[⟨(some 4),.move (.tmp 0),E,pos,#[],none⟩,
  ⟨(some 5),.load E (.tmp 1),E,pos,#[],none⟩,
  ⟨(some 6),.binOp .eql E (.tmp 4) (.tmp 5) E,B,pos,#[⟨0,.data⟩,⟨1,.data⟩],none⟩,
  ⟨(some 3),.assign (.tmp 6),B,pos,#[⟨2,.data⟩,⟨0,.phase⟩,⟨1,.phase⟩,⟨2,.phase⟩],none⟩] false)
 .ret))
section
variable {P:Program} {S E I B U T:TypeId} {z:Value}
theorem j3F (L:SlT P S E I B 1 z) (tE:P.underlying E=some .string) (aE:∀ w,(isAgg E).run P w= .ok false w) {g:Nat} {fn:Func} {pos:String} (hf:P.funcs[g]? = some fn) (hb:fn.body=some (j34 E B pos)) (hn:fn.ntmps=7) (hr:fn.results= #[.tmp 3])
  (l:Nat) (t:ByteArray) (w:World) (hc:w.cell? ⟨l,0,none⟩=some (.string t)):j3d P g #[.pointer (some ⟨l,0,none⟩)] Value.string (λx=>sEq x t) w:=by
 intro x
 have mixed:=L.mixed;have tS:=L.tS;have aS:=L.aS;have zS:=L.zS;have vS:=L.vS;have tI:=L.tI;have aI:=L.aI;have zI:=L.zI;have tB:=L.tB;have aB:=L.aB;have zB:=L.zB;have zE:=L.zE
 refine calls_of_wp hf hb ?_
 simp only [hn,List.size_toArray,List.length_cons,List.length_nil,Nat.reduceAdd,Nat.reduceSub,Array.replicate_succ,Array.replicate_zero,List.push_toArray,List.append_toArray,List.nil_append,List.cons_append]
 unfold j34
 go_wp2
 all_goals
  refine bodyPost_ret (results_tmp hr _ _ _) rfl ⟨?_,rfl⟩
  rfl
end
noncomputable def j3P (g:FuncId):Sig Unit:=⟨[.eat (.slice .str) false,.clos g [.str]],[false],λvals ext k=>ao vals (.slice .str) [.O] λl vals=>nl vals<|ab ext .str [] λa t ext=>nl ext <|
 bif decide (0<List.length (α:=ByteArray) l)&&lim (List.length (α:=ByteArray) l) then k [⟨.slice .str,false,List.filter (α:=ByteArray) (λx=> !sEq x t) l,[.O]⟩] [] [⟨.str,a,t,[]⟩] else none⟩
theorem j3e {w:World} {F:Nat->Nat} {St:Nat->Prop} {g:FuncId} {τ:Ty} {args:List Value} {fps:List (List Nat)} {ads:List Nat} (hA:Z0o w F St [.clos g [τ]] [] args fps ads) :
  ∃ l,args=[.func (.func g) #[] #[.pointer (some ⟨l,0,none⟩)]]/\fps=[]/\ads=[l]:=by
 cases args with
 | nil=>cases fps<;>cases ads<;>exact hA.elim
 | cons x0 ar=>
  obtain ⟨⟨h1,h2⟩,h3⟩:=hA
  cases ads with
  | nil=>simp at h1
  | cons l ls=>
   obtain ⟨rfl,rfl,h4⟩:=j3s h3
   cases ls with
   | cons a b=>simp at h4
   | nil=>exact ⟨l,by rw [h2];rfl,rfl,rfl⟩
theorem j3u {P:Program} {S E I B U T:TypeId} {z:Value} (L:SlT P S E I B 1 z) (tE:P.underlying E=some .string) (aE:∀ w,(isAgg E).run P w= .ok false w) (aT:∀ w,(isAgg T).run P w= .ok false w) (zT:∀ w,(sizeOf T).run P w= .ok 1 w)
  {fx : FuncId} {fnx : Func} (hfx : P.funcs[fx]? = some fnx) (hbx : fnx.body = some (j2x S E I B U T)) (hnx : fnx.ntmps = 19) (hrx : fnx.results = #[.tmp 4]) (hnamex : (fnx.name == "runtime.NumGoroutine") = false)
  {g : FuncId} {fng : Func} {pos : String} (hfg : P.funcs[g]? = some fng) (hbg : fng.body = some (j34 E B pos)) (hng : fng.ntmps = 7) (hrg : fng.results = #[.tmp 3]) (hnameg : (fng.name == "runtime.NumGoroutine") = false)
  {f : FuncId} {fn : Func} (hf : P.funcs[f]? = some fn) (hb : fn.body = some (j2u S E I B U T fx)) (hn : fn.ntmps = 42) (hr : fn.results = #[.tmp 4]) (hname : (fn.name == "runtime.NumGoroutine") = false) : Z1p P f (j3P g) := by
 refine ⟨⟨fn,_,hf,hname,hb⟩,λvals ext k r h w F St args ads fps efps hA hB hnd hSt hlt=> ?_⟩
 obtain ⟨a0,l,vals,rfl,h3⟩:=Z90 h
 obtain ⟨rfl,h4⟩:=Z98 h3
 obtain ⟨a1,t,ext,rfl,h5⟩:=Z8Z h4
 obtain ⟨rfl,h6⟩:=Z98 h5
 clear h h3 h4 h5
 have h:=h6
 clear h6
 rw [cond_eq_ite] at h
 split at h
 rotate_left
 ·cases h
 rename_i hg
 rw [Bool.and_eq_true] at hg
 obtain ⟨hpos,hlim⟩:=hg
 change List ByteArray at l
 change ByteArray at t
 have hpos:0<l.length:=of_decide_eq_true hpos
 have hlim:l.length<=LIM:=of_decide_eq_true hlim
 obtain ⟨ad,cap,f0,ar,fs,rfl,rfl,hlc,hr0,hA1⟩:=j3t (e:= .str) (l:=l) hA
 obtain ⟨bl,rfl,rfl,rfl⟩:=j3e hA1
 cases efps with
 | nil=>exact hB.elim
 | cons ef efs=>
 obtain ⟨⟨bc,bT,hbl,hbr⟩,hB2⟩:=hB
 cases efs with
 | cons a b=>exact hB2.elim
 | nil=>
 obtain ⟨hbc,hbt,rfl⟩:=hbr
 obtain ⟨tt,a,cap',ht,hcs,hlc',hr0⟩:=hr0
 cases hcs
 cases ht
 rcases hr0 with ⟨_,_,hl0,_,_⟩ | ⟨_,b,o,fps0,rfl,hal,rfl,hfl,hrow,hF,hel⟩ | ⟨ho,_⟩
 ·exfalso
  rw [hl0] at hpos
  cases hpos
 ·simp only [List.flatten_cons,List.flatten_nil,List.append_nil,List.nil_append] at hnd hSt hlt ⊢
  obtain ⟨cur,ty,fz,hg,hsz,hth⟩:=hrow
  have hnb:bl≠b:=λh=>by
   subst h
   exact (List.nodup_cons.1 hnd).1 (by simp)
  have hcell:∀ j,j<l.length->cur[o+j]? = some (Value.string l[j]!):=λj hj=>by
   obtain ⟨cs',hc1,hc2⟩:=hel j hj
   obtain ⟨rfl,_,_⟩:=hc2
   have hc1:Z04 w b (o+j * 1) 1=some [Value.string l[j]]:=hc1
   rw [Nat.mul_one] at hc1
   unfold Z04 at hc1
   rw [hg] at hc1
   simp only [] at hc1
   split at hc1
   ·rename_i hle
    have hc1:=Option.some.inj hc1
    rw [getElem!_pos l j hj]
    have h2:((cur.toList.drop (o+j)).take 1)[0]? = some (Value.string l[j]):=by rw [hc1];rfl
    rw [List.getElem?_take,if_pos (by omega),List.getElem?_drop,Array.getElem?_toList] at h2
    exact h2
   ·cases hc1
  have hbcell:∀ W,Wrote w W b->W.cell? ⟨bl,0,none⟩=some (.string t):=λW hW=>by
   refine j2t (c:=bc) (by rw [hW.old bl hnb];exact hbl) ?_
   have:bc.toList[0]? = some (.string t):=by rw [hbc];rfl
   rw [<-Array.getElem?_toList]
   exact this
  have hs:o+cap<=cur.size:=by
   have:o+cap * 1<=cur.size:=hsz
   omega
  have hbig:l.length<=9223372036854775807:=by
   unfold LIM at hlim
   omega
  refine (j3E L aE aT zT hfx hbx hnx hrx (Z5l hfx hnamex hbx) hf hb hn hr Value.string (λ_=>rfl) (λx=>sEq x t) g #[.pointer (some ⟨bl,0,none⟩)] (Z5l hfg hnameg hbg) b o cap l w
   (λW hW=>j3F L tE aE hfg hbg hng hrg bl t W (hbcell W hW)) hg hth hs hlc hbig hcell).mono ?_
  rintro e' w' ⟨rfl,hW,ck,hg',hck,hcells⟩
  have hfle:(l.filter λx=> !sEq x t).length<=l.length:=List.length_filter_le _ _
  have hb1:b<w.heap.size:=(Array.getElem?_eq_some_iff.1 hg).1
  have hb2:bl<w.heap.size:=(Array.getElem?_eq_some_iff.1 hbl).1
  refine ⟨_,_,_,_,rfl,h,⟨rfl,rfl,rfl⟩,rfl,⟨λy=>if y=b then o+(l.filter λx=> !sEq x t).length * 1 else F y,St,[.slice (some ⟨b,o,none⟩) (l.filter λx=> !sEq x t).length cap],[[b]],[[]],⟨rfl,rfl,rfl⟩,⟨⟨rfl,rfl,?_⟩,trivial⟩,⟨⟨bc,bT,by rw [hW.old bl hnb];exact hbl,hbc,rfl,rfl⟩,trivial⟩,
   hW.ext (by simp),λy hy hym=> ?_,λy hy=>hy,λy hy=>⟨.inl hy,by rw [hW.size];exact (hSt y hy).1⟩,?_,λy hy=> ?_⟩⟩
  ·refine ⟨.O,some ⟨b,o,none⟩,cap,rfl,rfl,Nat.le_trans hfle hlc,.inr (.inl ⟨rfl,b,o,List.replicate (l.filter λx=> !sEq x t).length [],rfl,by simp,?_,by simp,⟨ck,ty,fz,hg',by rw [hck];exact hsz,λx hx=>hth x (by rw [<-hck];exact hx)⟩,if_pos rfl,λk hk=> ?_⟩)⟩
   ·simp
   ·have hk:k<(l.filter λx=> !sEq x t).length:=hk
    refine ⟨[.string (l.filter λx=> !sEq x t)[k]],?_,rfl,rfl,?_⟩
    ·show Z04 w' b (o+k * 1) 1=_
     have h1:=hcells k hk
     have hlt2:o+k<ck.size:=(Array.getElem?_eq_some_iff.1 h1).1
     unfold Z04
     rw [hg',Nat.mul_one]
     simp only []
     rw [if_pos (by omega)]
     congr 1
     apply List.ext_getElem?
     intro i
     rw [List.getElem?_take]
     split
     ·have:i=0:=by omega
      subst this
      rw [List.getElem?_drop,Array.getElem?_toList,Nat.add_zero,h1,getElem!_pos _ k hk]
      rfl
     ·rw [List.getElem?_eq_none (by simp;omega)]
    ·simp [List.getD_eq_getElem?_getD,List.getElem?_replicate]
     split<;>rfl
  ·exact if_neg λh2=>hym (by rw [h2];simp)
  ·simpa using λh2=>hnb h2.symm
  ·have hy:y=b\/y=bl:=by simpa using hy
   rcases hy with rfl | rfl
   ·exact ⟨.inr (by simp),by rw [hW.size];exact hb1,λh2=>(hSt _ h2).2 (by simp)⟩
   ·exact ⟨.inr (by simp),by rw [hW.size];exact hb2,λh2=>(hSt _ h2).2 (by simp)⟩
 ·cases ho
end Go.PI
set_option maxRecDepth 100000
namespace Go.PI.G
open Go Go.PI Go.Proofs
open Go.Code (pl pr)
abbrev qB:=ByteArray
abbrev qL:=List ByteArray
abbrev y0:Ty:= .slice (.int .u8)
abbrev y1:Ty:= .slice .str
def j3R:qB:=⟨#[109,48]⟩
def z_m:qB:=⟨#[109]⟩
def tys:List (TypeId×Ty×List TypeId):=[(3,tI,[]),
 (4,.bool,[]),
 (5,(.int .u8),[]),
 (9,.str,[]),
 (22,y0,[]),
 (27,y1,[]),
 (56,y1,[27]),
 (58,y1,[27])]
theorem follows:Try.prog.follows .mixedOrders=true:=by kernel_rfl
theorem j00:Z0d Try.prog tys:=Z9f (by kernel_rfl)
end Go.PI.G
namespace Go.PI.G
open Go Go.PI Go.Proofs
open Go.Code (pl pr)
noncomputable def j01 (s:qL) (v_:qB) (t7:Int) (t8:Int) (rec:Int->Res) (k0:Unit->Res) (k1:Int->Res):Res:=
 bif decide (t8<t7) then
  bif inb t8 (List.length s) then
   bif sEq v_ (nth eS s t8) then
    k1 t8
   else
    rec (Z8o (t8+1))
  else none
 else
  k0 ()
noncomputable def j0k (s:qL) (v_:qB) (t7:Int):Int->(Int->Res)->((Unit->Res)×(Int->Res))->Res:=λv rec q=>j01 s v_ t7 v (λt8=>rec (t8)) q.1 q.2
noncomputable def j0u (s:qL) (v_:qB) (t7:Int) (n:Nat) (t8:Int) (k0:Unit->Res) (k1:Int->Res):Res:=Z14 (j0k s v_ t7) n (t8) (k0,k1)
noncomputable def j0W:Z1q Unit:=λσ k=>rdN σ 19<|rd1 σ 0 y1 .S λs=>rdS σ 1 λv_=>rdI σ 7 λt7=>rdI σ 8 λt8=>j0u s v_ t7 Z12 t8 (λ(_:Unit)=>k (.exit 0) (mkS 19 19 [] [])) (λ(t4:Int)=>k .ret (mkS 19 19 [(4,vI t4)] []))
theorem j1H {W0:Base} {M:Nat->Prop} (hnp:W0.np<=0):Z22 Try.prog W0 M (cAt 26 (bo Try.f128)) j0W:=j0Z follows j00 Z94 hnp [] oN [0,1,7,8] [] ([],[]) [(0,[],[])] ([4],[]) λσ k _ h=>rN h λhn h=>rV h λs h0 h=>rV h λv_ h1 h=>rV h λt7 h7 h=>rV h λt8 h8 h=>⟨_,Z9m (m:=19) hn (sC h0 (sC h1 (sC h7 (sC h8 sN)))) bN,.trans (Z88 (λv:Int=>(mkS 19 19 [(0,v1 y1 s .S),(1,vS v_),(7,vI t7),(8,vI v)] [])) (j0k s v_ t7) (λ(k:Z6O Unit)=>(((λ(_:Unit)=>k (.exit 0) (mkS 19 19 [] [])),(λ(t4:Int)=>k .ret (mkS 19 19 [(4,vI t4)] []))):(Unit->Res)×(Int->Res))) (λv rec k=>by kernel_rfl) Z12 (t8) k) h⟩
noncomputable def j0K (s:qL) (v_:qB) (k0:Int->Res):Res:=
 j0u s v_ (nI (List.length s)) Z12 0
  (λ(_:Unit)=>
   k0 (-1))
  (λ(t:Int)=>
   k0 t)
noncomputable def j1Q:Sig Unit:=⟨[.look y1 false,.look .str false],[false],λvals ext k=>av vals y1 λs vals=>av vals .str λv_ vals=>nl vals<|nl ext<|j0K s v_ (λ(r0:Int)=>k [wI r0] [] [])⟩
theorem j1O:Z1p Try.prog 128 j1Q:=j08 (np:=0) follows j00 Z94 [j0W] (oI 26 0 (j1H) oN) false Try.func128 λ_ _ k _ h=>aV h λ_ _ _ _ _ h=>aV h λ_ _ _ _ _ h=>nL h λ_ h=>nL h λ_ h=>by subst_vars;exact .trans (by kernel_rfl) h
noncomputable def j02 (s:qL) (v_:qB) (k0:Bool->Res):Res:=
 j0K s v_ λ(r:Int)=>
  k0 (decide (r>=0))
noncomputable def j0N:Sig Unit:=⟨[.look y1 false,.look .str false],[false],λvals ext k=>av vals y1 λs vals=>av vals .str λv_ vals=>nl vals<|nl ext<|j02 s v_ (λ(r0:Bool)=>k [wB r0] [] [])⟩
theorem j1C:Z1p Try.prog 76 j0N:=j08 (np:=0) follows j00 (Z8K j1O Z94) [] oN false Try.func76 λ_ _ k _ h=>aV h λ_ _ _ _ _ h=>aV h λ_ _ _ _ _ h=>nL h λ_ h=>nL h λ_ h=>by subst_vars;exact .trans (by kernel_rfl) h
noncomputable def j07 (s:qL) (t:qB) (k0:qL->qB->Res):Res:=bif decide (0<List.length s)&&lim (List.length s) then k0 (List.filter (λx=> !sEq x t) s) t else none
noncomputable def j0E:Sig Unit:=⟨[.eat y1 false,.clos 79 [.str]],[false],λvals ext k=>ao vals y1 [.O] λs vals=>nl vals<|ab ext .str [] λa t ext=>nl ext<|j07 s t (λ(r0:qL) (x0:qB)=>k [w1 y1 r0 .O] [] [⟨.str,a,x0,[]⟩])⟩
theorem j1p:SlT Try.prog 27 9 3 4 1 (.string ⟨#[]⟩):=⟨follows,Try.underlying27,Try.isAgg27,Try.sizeOf27,Try.zeroValue27,Try.underlying3,Try.isAgg3,Try.sizeOf3,Try.underlying4,Try.isAgg4,Try.sizeOf4,Try.sizeOf9,Try.zeroValue9,⟨(Try.prog.info? 9).get (by kernel_rfl),(Option.some_get _).symm,by kernel_rfl⟩,rfl,λc hc=>by simp [Value.cells] at hc;subst hc;rfl⟩
theorem j1u : Z1p Try.prog 77 j0E := j3u (U := 0) (T := 123) (pos := "l14_pub.go:75") j1p Try.underlying9 Try.isAgg9 Try.isAgg123 Try.sizeOf123 Try.func129 (by kernel_rfl) (by kernel_rfl) (by kernel_rfl) (by kernel_rfl) Try.func79 (by kernel_rfl) (by kernel_rfl) (by kernel_rfl) (by kernel_rfl) Try.func77 (by kernel_rfl) (by kernel_rfl) (by kernel_rfl) (by kernel_rfl)
end Go.PI.G
namespace Go.PI.G
open Go Go.PI Go.Proofs
open Go.Code (pl pr)
noncomputable def j0m (s:qB) (i:Int) (rec:Int->Res) (k0:Unit->Res) (k1:Unit->Res):Res:=
 bif decide (i<(nI (ByteArray.size s))) then
  bif inb i (ByteArray.size s) then
   bif decide ((bt s i)<97) then
    k1 ()
   else
    bif inb i (ByteArray.size s) then
     bif decide ((bt s i)>122) then
      k1 ()
     else
      rec (Z8o (i+1))
    else none
  else none
 else
  k0 ()
noncomputable def j14 (s:qB):Int->(Int->Res)->((Unit->Res)×(Unit->Res))->Res:=λv rec q=>j0m s v (λi=>rec (i)) q.1 q.2
noncomputable def j1m (s:qB) (n:Nat) (i:Int) (k0:Unit->Res) (k1:Unit->Res):Res:=Z14 (j14 s) n (i) (k0,k1)
noncomputable def j1K:Z1q Unit:=λσ k=>rdN σ 28<|rdS σ 0 λs=>rdI σ 3 λi=>j1m s Z12 i (λ(_:Unit)=>k (.exit 0) (mkS 28 28 [(0,vS s)] [])) (λ(_:Unit)=>k .ret (mkS 28 28 [(2,vB false)] []))
theorem j2B {W0:Base} {M:Nat->Prop} (hnp:W0.np<=0):Z22 Try.prog W0 M (cAt 26 (bo Try.f72)) j1K:=j0Z follows j00 Z94 hnp [] oN [0,3] [] ([],[]) [(0,[0],[])] ([2],[]) λσ k _ h=>rN h λhn h=>rV h λs h0 h=>rV h λi h3 h=>⟨_,Z9m (m:=28) hn (sC h0 (sC h3 sN)) bN,.trans (Z88 (λv:Int=>(mkS 28 28 [(0,vS s),(3,vI v)] [])) (j14 s) (λ(k:Z6O Unit)=>(((λ(_:Unit)=>k (.exit 0) (mkS 28 28 [(0,vS s)] [])),(λ(_:Unit)=>k .ret (mkS 28 28 [(2,vB false)] []))):(Unit->Res)×(Unit->Res))) (λv rec k=>by kernel_rfl) Z12 (i) k) h⟩
noncomputable def j0G (s:qB) (k0:Bool->Res):Res:=
 j1m s Z12 0
  (λ(_:Unit)=>
   bif decide ((nI (ByteArray.size s))>=1) then
    k0 (decide ((nI (ByteArray.size s))<=8))
   else
    k0 false)
  (λ(_:Unit)=>
   k0 false)
noncomputable def j1y:Sig Unit:=⟨[.look .str false],[false],λvals ext k=>av vals .str λs vals=>nl vals<|nl ext<|j0G s (λ(r0:Bool)=>k [wB r0] [] [])⟩
theorem j1v:Z1p Try.prog 72 j1y:=j08 (np:=0) follows j00 Z94 [j1K] (oI 26 0 (j2B) oN) false Try.func72 λ_ _ k _ h=>aV h λ_ _ _ _ _ h=>nL h λ_ h=>nL h λ_ h=>by subst_vars;exact .trans (by kernel_rfl) h
noncomputable def j0t (x:Int) (lo:Int) (hi:Int) (k0:Bool->Res):Res:=
 bif decide (x>=lo) then
  k0 (decide (x<=hi))
 else
  k0 false
noncomputable def j24:Sig Unit:=⟨[.look tI false,.look tI false,.look tI false],[false],λvals ext k=>av vals tI λx vals=>av vals tI λlo vals=>av vals tI λhi vals=>nl vals<|nl ext<|j0t x lo hi (λ(r0:Bool)=>k [wB r0] [] [])⟩
theorem j21:Z1p Try.prog 127 j24:=j08 (np:=0) follows j00 Z94 [] oN false Try.func127 λ_ _ k _ h=>aV h λ_ _ _ _ _ h=>aV h λ_ _ _ _ _ h=>aV h λ_ _ _ _ _ h=>nL h λ_ h=>nL h λ_ h=>by subst_vars;exact .trans (by kernel_rfl) h
noncomputable def j0i (s:qB) (i:Int) (rec:Int->Res) (k0:Unit->Res) (k1:Unit->Res):Res:=
 bif decide (i<(nI (ByteArray.size s))) then
  bif inb i (ByteArray.size s) then
   bif decide ((bt s i)<97) then
    k1 ()
   else
    bif inb i (ByteArray.size s) then
     bif decide ((bt s i)>122) then
      k1 ()
     else
      rec (Z8o (i+1))
    else none
  else none
 else
  k0 ()
noncomputable def j11 (s:qB):Int->(Int->Res)->((Unit->Res)×(Unit->Res))->Res:=λv rec q=>j0i s v (λi=>rec (i)) q.1 q.2
noncomputable def j0P (s:qB) (n:Nat) (i:Int) (k0:Unit->Res) (k1:Unit->Res):Res:=Z14 (j11 s) n (i) (k0,k1)
noncomputable def j1f:Z1q Unit:=λσ k=>rdN σ 23<|rdS σ 0 λs=>rdI σ 3 λi=>j0P s Z12 i (λ(_:Unit)=>k (.exit 0) (mkS 23 23 [(0,vS s)] [])) (λ(_:Unit)=>k .ret (mkS 23 23 [(2,vB false)] []))
theorem j2z {W0:Base} {M:Nat->Prop} (hnp:W0.np<=0):Z22 Try.prog W0 M (cAt 26 (bo Try.f75)) j1f:=j0Z follows j00 (Z8K j21 Z94) hnp [] oN [0,3] [] ([],[]) [(0,[0],[])] ([2],[]) λσ k _ h=>rN h λhn h=>rV h λs h0 h=>rV h λi h3 h=>⟨_,Z9m (m:=23) hn (sC h0 (sC h3 sN)) bN,.trans (Z88 (λv:Int=>(mkS 23 23 [(0,vS s),(3,vI v)] [])) (j11 s) (λ(k:Z6O Unit)=>(((λ(_:Unit)=>k (.exit 0) (mkS 23 23 [(0,vS s)] [])),(λ(_:Unit)=>k .ret (mkS 23 23 [(2,vB false)] []))):(Unit->Res)×(Unit->Res))) (λv rec k=>by kernel_rfl) Z12 (i) k) h⟩
noncomputable def j0s (s:qB) (k0:Bool->Res):Res:=
 j0P s Z12 0
  (λ(_:Unit)=>
   j0t (nI (ByteArray.size s)) 1 8 λ(r:Bool)=>
    k0 r)
  (λ(_:Unit)=>
   k0 false)
noncomputable def j23:Sig Unit:=⟨[.look .str false],[false],λvals ext k=>av vals .str λs vals=>nl vals<|nl ext<|j0s s (λ(r0:Bool)=>k [wB r0] [] [])⟩
theorem j1t:Z1p Try.prog 75 j23:=j08 (np:=0) follows j00 (Z8K j21 Z94) [j1f] (oI 26 0 (j2z) oN) false Try.func75 λ_ _ k _ h=>aV h λ_ _ _ _ _ h=>nL h λ_ h=>nL h λ_ h=>by subst_vars;exact .trans (by delta j0s j1f j24;refine gz j0P λ_ e=> ?_;rewrite [<-e];refine gz j0t λ_ e=> ?_;rewrite [<-e];kernel_rfl) h
end Go.PI.G
namespace Go.PI.G
open Go Go.PI Go.Proofs
open Go.Code (pl pr)
noncomputable def j0Q (l:qL) (k0:qL->Res):Res:=
 bif lim (0+(List.length l)) then
  k0 l
 else none
noncomputable def j1E:Sig Unit:=⟨[.borrow y1 false],[false],λvals ext k=>av vals y1 λl vals=>nl vals<|nl ext<|j0Q l (λ(r0:qL)=>k [w1 y1 r0 .O] [] [])⟩
theorem j2i:Z1p Try.prog 78 j1E:=j08 (np:=0) follows j00 Z94 [] oN false Try.func78 λ_ _ k _ h=>aV h λ_ _ _ _ _ h=>nL h λ_ h=>nL h λ_ h=>by subst_vars;exact .trans (by kernel_rfl) h
end Go.PI.G
namespace Go.PI.G
open Go Go.PI Go.Proofs
open Go.Code (pl pr)
noncomputable def j0r (t6:qL) (t7:Int) (p:qL) (t8:Int) (rec:Int->Res) (k0:Unit->Res) (k1:Unit->Res):Res:=
 bif decide (t8<t7) then
  bif inb t8 (List.length t6) then
   j0G (nth eS t6 t8) λ(r:Bool)=>
    bif !r then
     k1 ()
    else
     bif decide (t8>0) then
      bif inb (Z8o (t8-1)) (List.length p) then
       bif sGe (nth eS p (Z8o (t8-1))) (nth eS t6 t8) then
        k1 ()
       else
        rec (Z8o (t8+1))
      else none
     else
      rec (Z8o (t8+1))
  else none
 else
  k0 ()
noncomputable def j1e (t6:qL) (t7:Int) (p:qL):Int->(Int->Res)->((Unit->Res)×(Unit->Res))->Res:=λv rec q=>j0r t6 t7 p v (λt8=>rec (t8)) q.1 q.2
noncomputable def j1z (t6:qL) (t7:Int) (p:qL) (n:Nat) (t8:Int) (k0:Unit->Res) (k1:Unit->Res):Res:=Z14 (j1e t6 t7 p) n (t8) (k0,k1)
noncomputable def j1S:Z1q Unit:=λσ k=>rdN σ 35<|rdT σ 1 (pB 1)<|rd1 σ 6 y1 .S λt6=>rdI σ 7 λt7=>rdI σ 8 λt8=>rdB σ 1 y1 [.S] λa p=>j1z t6 t7 p Z12 t8 (λ(_:Unit)=>k (.exit 0) (mkS 35 35 [(1,pB 1)] [(1,⟨y1,a,p,[.S]⟩)])) (λ(_:Unit)=>k .ret (mkS 35 35 [(2,vB false)] []))
theorem j2Q {W0:Base} {M:Nat->Prop} (hnp:W0.np<=0):Z22 Try.prog W0 M (cAt 26 (bo Try.f71)) j1S:=j0Z follows j00 (Z8K j1v Z94) hnp [] oN [1,6,7,8] [1] ([],[]) [(0,[1],[1])] ([2],[]) λσ k _ h=>rN h λhn h=>rT h λh1 h=>rV h λt6 h6 h=>rV h λt7 h7 h=>rV h λt8 h8 h=>rB h λa p hb1 h=>⟨_,Z9m (m:=35) hn (sC h1 (sC h6 (sC h7 (sC h8 sN)))) (bC hb1 bN),.trans (Z88 (λv:Int=>(mkS 35 35 [(1,pB 1),(6,v1 y1 t6 .S),(7,vI t7),(8,vI v)] [(1,⟨y1,a,p,[.S]⟩)])) (j1e t6 t7 p) (λ(k:Z6O Unit)=>(((λ(_:Unit)=>k (.exit 0) (mkS 35 35 [(1,pB 1)] [(1,⟨y1,a,p,[.S]⟩)])),(λ(_:Unit)=>k .ret (mkS 35 35 [(2,vB false)] []))):(Unit->Res)×(Unit->Res))) (λv rec k=>by kernel_rfl) Z12 (t8) k) h⟩
noncomputable def j1d (p:qL) (k0:Bool->Res):Res:=
 j1z p (nI (List.length p)) p Z12 0
  (λ(_:Unit)=>
   k0 (decide ((nI (List.length p))<=6)))
  (λ(_:Unit)=>
   k0 false)
noncomputable def j1G:Sig Unit:=⟨[.look y1 true],[false],λvals ext k=>av vals y1 λp vals=>nl vals<|nl ext<|j1d p (λ(r0:Bool)=>k [wB r0] [] [])⟩
theorem j33:Z1p Try.prog 71 j1G:=j08 (np:=0) follows j00 (Z8K j1v Z94) [j1S] (oI 26 0 (j2Q) oN) false Try.func71 λ_ _ k _ h=>aV h λ_ _ _ _ _ h=>nL h λ_ h=>nL h λ_ h=>by subst_vars;exact .trans (by kernel_rfl) h
theorem j20:Fns Try.prog [(71,j1G),(72,j1y)]:=(Z8K j33 (Z8K j1v Z94))
noncomputable def j0l (table:qB) (t20:qL) (t21:Int) (t22:Int) (out:qL) (rec:Int->qL->Res) (k0:qL->Res):Res:=
 bif decide (t22<t21) then
  bif inb t22 (List.length t20) then
   bif sNe (nth eS t20 t22) table then
    bif lim ((List.length out)+1) then
     rec (Z8o (t22+1)) (out++[nth eS t20 t22])
    else none
   else
    rec (Z8o (t22+1)) out
  else none
 else
  k0 out
noncomputable def j13 (table:qB) (t20:qL) (t21:Int):(Int×qL)->(Int×qL->Res)->((qL->Res))->Res:=λv rec q=>j0l table t20 t21 v.1 v.2 (λt22 out=>rec (t22,out)) q
noncomputable def j0V (table:qB) (t20:qL) (t21:Int) (n:Nat) (t22:Int) (out:qL) (k0:qL->Res):Res:=Z14 (j13 table t20 t21) n (t22,out) (k0)
noncomputable def j1i:Z1q Unit:=λσ k=>rdN σ 45<|rdS σ 1 λtable=>rdT σ 2 (pB 2)<|rdT σ 4 (pB 4)<|rdT σ 6 (pB 6)<|rd1 σ 20 y1 .S λt20=>rdI σ 21 λt21=>rdI σ 22 λt22=>rdB σ 2 y1 [.S] λa p=>rdB σ 4 y1 [.O] λa1 t4=>rdB σ 6 y1 [.O] λa2 out=>j0V table t20 t21 Z12 t22 out (λ(out1:qL)=>k (.exit 0) (mkS 45 45 [(2,pB 2),(4,pB 4),(6,pB 6)] [(2,⟨y1,a,p,[.S]⟩),(4,⟨y1,a1,t4,[.O]⟩),(6,⟨y1,a2,out1,[.O]⟩)]))
theorem j2A {W0:Base} {M:Nat->Prop} (hnp:W0.np<=0):Z22 Try.prog W0 M (cAt 122 (bo Try.f26)) j1i:=j0Z follows j00 j20 hnp [] oN [1,2,4,6,20,21,22] [2,4,6] ([],[]) [(0,[2,4,6],[2,4,6])] ([],[]) λσ k _ h=>rN h λhn h=>rV h λtable h1 h=>rT h λh2 h=>rT h λh4 h=>rT h λh6 h=>rV h λt20 h20 h=>rV h λt21 h21 h=>rV h λt22 h22 h=>rB h λa p hb2 h=>rB h λa1 t4 hb4 h=>rB h λa2 out hb6 h=>⟨_,Z9m (m:=45) hn (sC h1 (sC h2 (sC h4 (sC h6 (sC h20 (sC h21 (sC h22 sN))))))) (bC hb2 (bC hb4 (bC hb6 bN))),.trans (Z88 (λv:Int×qL=>(mkS 45 45 [(1,vS table),(2,pB 2),(4,pB 4),(6,pB 6),(20,v1 y1 t20 .S),(21,vI t21),(22,vI v.1)] [(2,⟨y1,a,p,[.S]⟩),(4,⟨y1,a1,t4,[.O]⟩),(6,⟨y1,a2,v.2,[.O]⟩)])) (j13 table t20 t21) (λ(k:Z6O Unit)=>(((λ(out1:qL)=>k (.exit 0) (mkS 45 45 [(2,pB 2),(4,pB 4),(6,pB 6)] [(2,⟨y1,a,p,[.S]⟩),(4,⟨y1,a1,t4,[.O]⟩),(6,⟨y1,a2,out1,[.O]⟩)]))):(qL->Res))) (λv rec k=>by kernel_rfl) Z12 (t22,out) k) h⟩
noncomputable def j0F (p:qL) (table:qB) (k0:qL->Int->Res):Res:=
 j1d p λ(r:Bool)=>
  bif !r then
   k0 [] 1
  else
   j0G table λ(r1:Bool)=>
    bif !r1 then
     k0 [] 1
    else
     j0V table p (nI (List.length p)) Z12 0 [] λ(out:qL)=>
      bif ((nI (List.length out))==(nI (List.length p))) then
       k0 [] 4
      else
       k0 out 0
noncomputable def j1x:Sig Unit:=⟨[.borrow y1 true,.borrow .str false],[true,false],λvals ext k=>av vals y1 λp vals=>av vals .str λtable vals=>nl vals<|nl ext<|j0F p table (λ(r0:qL) (r1:Int)=>k [⟨y1,true,r0,[.O]⟩,wI r1] [] [])⟩
theorem j2X:Z1p Try.prog 26 j1x:=j08 (np:=0) follows j00 j20 [j1i] (oI 122 0 (j2A) oN) false Try.func26 λ_ _ k _ h=>aV h λ_ _ _ _ _ h=>aV h λ_ _ _ _ _ h=>nL h λ_ h=>nL h λ_ h=>by subst_vars;exact .trans (by delta j0F j1G j1y j1i;refine gz j1d λ_ e=> ?_;rewrite [<-e];refine gz j0G λ_ e=> ?_;rewrite [<-e];refine gz j0V λ_ e=> ?_;rewrite [<-e];kernel_rfl) h
noncomputable def j0p (t6:qL) (t7:Int) (p:qL) (t8:Int) (rec:Int->Res) (k0:Unit->Res) (k1:Unit->Res):Res:=
 bif decide (t8<t7) then
  bif inb t8 (List.length t6) then
   j0s (nth eS t6 t8) λ(r:Bool)=>
    bif !r then
     k1 ()
    else
     bif decide (t8>0) then
      bif inb (Z8o (t8-1)) (List.length p) then
       bif sGe (nth eS p (Z8o (t8-1))) (nth eS t6 t8) then
        k1 ()
       else
        rec (Z8o (t8+1))
      else none
     else
      rec (Z8o (t8+1))
  else none
 else
  k0 ()
noncomputable def j19 (t6:qL) (t7:Int) (p:qL):Int->(Int->Res)->((Unit->Res)×(Unit->Res))->Res:=λv rec q=>j0p t6 t7 p v (λt8=>rec (t8)) q.1 q.2
noncomputable def j1w (t6:qL) (t7:Int) (p:qL) (n:Nat) (t8:Int) (k0:Unit->Res) (k1:Unit->Res):Res:=Z14 (j19 t6 t7 p) n (t8) (k0,k1)
noncomputable def j1R:Z1q Unit:=λσ k=>rdN σ 35<|rdT σ 1 (pB 1)<|rd1 σ 6 y1 .S λt6=>rdI σ 7 λt7=>rdI σ 8 λt8=>rdB σ 1 y1 [.S] λa p=>j1w t6 t7 p Z12 t8 (λ(_:Unit)=>k (.exit 0) (mkS 35 35 [(1,pB 1)] [(1,⟨y1,a,p,[.S]⟩)])) (λ(_:Unit)=>k .ret (mkS 35 35 [(2,vB false)] []))
theorem j2P {W0:Base} {M:Nat->Prop} (hnp:W0.np<=0):Z22 Try.prog W0 M (cAt 26 (bo Try.f74)) j1R:=j0Z follows j00 (Z8K j1t Z94) hnp [] oN [1,6,7,8] [1] ([],[]) [(0,[1],[1])] ([2],[]) λσ k _ h=>rN h λhn h=>rT h λh1 h=>rV h λt6 h6 h=>rV h λt7 h7 h=>rV h λt8 h8 h=>rB h λa p hb1 h=>⟨_,Z9m (m:=35) hn (sC h1 (sC h6 (sC h7 (sC h8 sN)))) (bC hb1 bN),.trans (Z88 (λv:Int=>(mkS 35 35 [(1,pB 1),(6,v1 y1 t6 .S),(7,vI t7),(8,vI v)] [(1,⟨y1,a,p,[.S]⟩)])) (j19 t6 t7 p) (λ(k:Z6O Unit)=>(((λ(_:Unit)=>k (.exit 0) (mkS 35 35 [(1,pB 1)] [(1,⟨y1,a,p,[.S]⟩)])),(λ(_:Unit)=>k .ret (mkS 35 35 [(2,vB false)] []))):(Unit->Res)×(Unit->Res))) (λv rec k=>by kernel_rfl) Z12 (t8) k) h⟩
noncomputable def j18 (p:qL) (k0:Bool->Res):Res:=
 j1w p (nI (List.length p)) p Z12 0
  (λ(_:Unit)=>
   k0 (decide ((nI (List.length p))<=6)))
  (λ(_:Unit)=>
   k0 false)
noncomputable def j2b:Sig Unit:=⟨[.look y1 true],[false],λvals ext k=>av vals y1 λp vals=>nl vals<|nl ext<|j18 p (λ(r0:Bool)=>k [wB r0] [] [])⟩
theorem j2Z:Z1p Try.prog 74 j2b:=j08 (np:=0) follows j00 (Z8K j1t Z94) [j1R] (oI 26 0 (j2P) oN) false Try.func74 λ_ _ k _ h=>aV h λ_ _ _ _ _ h=>nL h λ_ h=>nL h λ_ h=>by subst_vars;exact .trans (by kernel_rfl) h
noncomputable def j0g (p:qL) (table:qB) (k0:qL->Int->Res):Res:=
 j18 p λ(r:Bool)=>
  bif !r then
   k0 [] 1
  else
   j0s table λ(r1:Bool)=>
    bif !r1 then
     k0 [] 1
    else
     j02 p table λ(r2:Bool)=>
      bif !r2 then
       k0 [] 4
      else
       j0Q p λ(r3:qL)=>
        j07 r3 table λ(r4:qL) (btable:qB)=>
         k0 r4 0
noncomputable def j10:Sig Unit:=⟨[.borrow y1 true,.borrow .str false],[true,false],λvals ext k=>av vals y1 λp vals=>av vals .str λtable vals=>nl vals<|nl ext<|j0g p table (λ(r0:qL) (r1:Int)=>k [⟨y1,true,r0,[.O]⟩,wI r1] [] [])⟩
theorem j2W:Z1p Try.prog 28 j10:=j08 (np:=0) follows j00 (Z8K j2Z (Z8K j1t (Z8K j1C (Z8K j1u (Z8K j2i Z94))))) [] oN false Try.func28 λ_ _ k _ h=>aV h λ_ _ _ _ _ h=>aV h λ_ _ _ _ _ h=>nL h λ_ h=>nL h λ_ h=>by subst_vars;exact .trans (by delta j0g j2b j23 j0N j1E j0E;refine gz j18 λ_ e=> ?_;rewrite [<-e];refine gz j0s λ_ e=> ?_;rewrite [<-e];refine gz j02 λ_ e=> ?_;rewrite [<-e];refine gz j0Q λ_ e=> ?_;rewrite [<-e];refine gz j07 λ_ e=> ?_;rewrite [<-e];kernel_rfl) h
end Go.PI.G
namespace Go.PI.G
open Go Go.PI Go.Proofs
open Go.Code (pl pr)
noncomputable def j0d (k_:Int) (out:qB) (rec:Int->qB->Res) (k0:qB->Res):Res:=
 bif decide (k_>0) then
  bif lim ((ByteArray.size (Z34 [wu8 (Z8o (48+(Int.tmod k_ 10)))]))+(ByteArray.size out)) then
   rec (Z8o (Int.tdiv k_ 10)) ((Z34 [wu8 (Z8o (48+(Int.tmod k_ 10)))])++out)
  else none
 else
  k0 out
noncomputable def j0q:(Int×qB)->(Int×qB->Res)->((qB->Res))->Res:=λv rec q=>j0d v.1 v.2 (λk_ out=>rec (k_,out)) q
noncomputable def j12 (n:Nat) (k_:Int) (out:qB) (k0:qB->Res):Res:=Z14 (j0q) n (k_,out) (k0)
noncomputable def j1B:Z1q Unit:=λσ k=>rdN σ 20<|rdI σ 0 λk_=>rdS σ 3 λout=>j12 Z12 k_ out (λ(out1:qB)=>k (.exit 0) (mkS 20 20 [(3,vS out1)] []))
theorem j2e {W0:Base} {M:Nat->Prop} (hnp:W0.np<=0):Z22 Try.prog W0 M (cAt 60 (bo Try.f118)) j1B:=j0Z follows j00 Z94 hnp [] oN [0,3] [] ([],[]) [(0,[3],[])] ([],[]) λσ k _ h=>rN h λhn h=>rV h λk_ h0 h=>rV h λout h3 h=>⟨_,Z9m (m:=20) hn (sC h0 (sC h3 sN)) bN,.trans (Z88 (λv:Int×qB=>(mkS 20 20 [(0,vI v.1),(3,vS v.2)] [])) (j0q) (λ(k:Z6O Unit)=>(((λ(out1:qB)=>k (.exit 0) (mkS 20 20 [(3,vS out1)] []))):(qB->Res))) (λv rec k=>by kernel_rfl) Z12 (k_,out) k) h⟩
noncomputable def j0D (k_:Int) (k0:qB->Res):Res:=
 bif decide (k_<=0) then
  k0 j3R
 else
  j12 Z12 k_ eS λ(out:qB)=>
   bif lim (1+(ByteArray.size out)) then
    k0 (z_m++out)
   else none
noncomputable def j2C:Sig Unit:=⟨[.look tI false],[false],λvals ext k=>av vals tI λk_ vals=>nl vals<|nl ext<|j0D k_ (λ(r0:qB)=>k [wS r0] [] [])⟩
theorem j0L:Z1p Try.prog 118 j2C:=j08 (np:=0) follows j00 Z94 [j1B] (oI 60 0 (j2e) oN) false Try.func118 λ_ _ k _ h=>aV h λ_ _ _ _ _ h=>nL h λ_ h=>nL h λ_ h=>by subst_vars;exact .trans (by kernel_rfl) h
end Go.PI.G
