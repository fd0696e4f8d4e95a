/-
  Program's code interpreted over typed values; printed texts; plain laws. No conditions.
-/
import Derived.Test.YtnemiodjnhfejaaGreatPa
import Derived.Laws.IdiomStrings
import Derived.Laws.MakeOwn
import Derived.Great.BuildSlice
import Derived.Laws.AppendOwn
import Derived.Lib.AppendStr
import Derived.OrdersHeld
import Derived.Deep.LoopGhost
import Derived.Scope
set_option linter.unusedVariables false
set_option linter.unusedSimpArgs false
namespace Go.PI
theorem Z8d:(css:List (List Value))->(s k:Nat)->(rest:List Value)->(hs:∀ c∈css,c.length=s)->(hk:k<css.length)->((css.flatten++rest).drop (k * s)).take s=css[k]
 | [],s,k,rest,hs,hk=>by simp at hk
 | c::css,s,0,rest,hs,hk=>by
  have:=hs c (by simp)
  simp [<-this]
 | c::css,s,k+1,rest,hs,hk=>by
  have hc:=hs c (by simp)
  simp only [List.flatten_cons,List.append_assoc,List.getElem_cons_succ]
  rw [Nat.add_mul,Nat.one_mul,Nat.add_comm,<-hc,List.drop_length_add_append,hc]
  exact Z8d css s k rest (λc' h=>hs c' (List.mem_cons_of_mem _ h)) (by simpa using hk)
theorem Z44:(css:List (List Value))->(s:Nat)->(hs:∀ c∈css,c.length=s)->css.flatten.length=css.length * s
 | [],s,hs=>by simp
 | c::css,s,hs=>by
  simp only [List.flatten_cons,List.length_append,List.length_cons,Z44 css s (λc' h=>hs c' (List.mem_cons_of_mem _ h)),hs c (by simp)]
  rw [Nat.add_mul,Nat.one_mul,Nat.add_comm]
section
variable {W0:Base} {M:Nat->Prop} {σ:State} {a:Act} {w w':World} {G:Ghost} {xs:List Nat} {P:Program} {tys:List (TypeId×Ty×List TypeId)}
theorem Z3y {e:Ty} {fps:List (List Nat)} (I:Inv W0 M σ a w G (fps.flatten++xs)) {C:Array Value} {T:TypeId} {fr:Nat×Nat} (hp:Pushed w w' (.cells C T fr)) (hth:Z41 C fr) {t:Tag} (ht:t.own=true)
  {x:List (El e)} {css:List (List Value)} {rest:List Value} {cap:Nat} (hC:C.toList=css.flatten++rest) (hcl:css.length=x.length) (hfl:fps.length=x.length) (hcap:x.length<=cap) (hfit:cap * size e<=C.size)
  (hel:∀ k (h:k<x.length),Rp w G.F G.St G.Al e (List.replicate (Z06 e) t.inner) (css.getD k []) (x.get ⟨k,h⟩) (fps.getD k []))
  (hmk:e= .int .u8\/¬ (fr.1<=C.size/\C.size<fr.2):=by first | exact .inl rfl | exact .inr λh=>absurd h.2 (Nat.not_lt_zero _)) :
  ∃ G',Inv W0 M σ a w' G' ((w.heap.size::fps.flatten)++xs)/\Calmer w G w' G'/\Rp w' G'.F G'.St G'.Al (.slice e) [t] [.slice (some ⟨w.heap.size,0,none⟩) x.length cap] x (w.heap.size::fps.flatten)/\G'.St=G.St:=by
 obtain ⟨I1,hc,hl⟩:=I.grow hp (z:= .x) (x.length * size e) (ys:=[w.heap.size]) (.inl ⟨rfl,rfl⟩)
 have hlen:∀ c∈css,c.length=size e:=by
  intro c hc
  obtain ⟨k,hk,rfl⟩:=List.mem_iff_getElem.1 hc
  have:=(hel k (by omega)).len.1
  rw [List.getD_eq_getElem?_getD,List.getElem?_eq_getElem hk] at this
  exact this
 refine ⟨_,I1,hc,?_,rfl⟩
 refine ⟨t,some ⟨w.heap.size,0,none⟩,cap,rfl,rfl,hcap,.inr (.inl ⟨ht,w.heap.size,0,fps,rfl,?_,rfl,hfl,⟨⟨C,T,fr,hp.new,by omega,hth⟩,hmk.imp id λh=>⟨C,T,fr,hp.new,h⟩⟩,?_,λk hk=> ?_⟩)⟩
 ·exact ⟨λi h=>(by rw [show (G.grow w.heap.size .x (x.length * size e)).who w.heap.size=some .x from if_pos rfl] at h;cases h),λh=>(by rw [show (G.grow w.heap.size .x (x.length * size e)).who w.heap.size=some .x from if_pos rfl] at h;cases h)⟩
 ·show (if w.heap.size=w.heap.size then x.length * size e else _)=_
  rw [if_pos rfl,Nat.zero_add]
 ·have hkc:k<css.length:=by rw [hcl];exact hk
  refine ⟨css[k],?_,?_⟩
  ·unfold Z05
   rw [hp.new]
   simp only []
   have hb:(k+1) * size e<=cap * size e:=Nat.mul_le_mul_right _ (by have:k<x.length:=hk;omega)
   rw [Nat.add_mul,Nat.one_mul] at hb
   rw [if_pos (by omega),hC,Nat.zero_add,Z8d css (size e) k rest hlen hkc]
  ·have:=hl _ _ _ _ _ (hel k hk)
   rw [List.getD_eq_getElem?_getD,List.getElem?_eq_getElem hkc] at this
   exact this
theorem Z5B (z:List Value):(n:Nat)->(madeCells z.toArray (n * z.length)).toList=(List.replicate n z).flatten
 | 0=>by simp [madeCells]
 | n+1=>by
  have ih:=Z5B z n
  have hz:(List.range z.length).map (λi=>z.toArray[(n * z.length+i) % z.toArray.size]!)=z:=by
   apply List.ext_getElem
   ·simp
   ·intro i h1 h2
    simp only [List.getElem_map,List.getElem_range,List.size_toArray]
    rw [Nat.mul_add_mod_self_right,Nat.mod_eq_of_lt (by simpa using h1)]
    have:i<z.length:=by simpa using h1
    simp [this]
  rw [List.replicate_succ',List.flatten_append,<-ih]
  simp only [madeCells,Array.toList_map,Array.toList_range,List.flatten_cons,List.flatten_nil,List.append_nil]
  rw [Nat.add_mul,Nat.one_mul,List.range_add,List.map_append,List.map_map]
  congr 1
theorem Z7r {α:Type} (n k:Nat) (a d:α) (h:k<n):(List.replicate n a).getD k d=a:=by simp [List.getD_eq_getElem?_getD,h]
theorem Z28 {α:Type} (n k:Nat):(List.replicate n ([]:List α)).getD k []=[]:=by
 rcases Nat.lt_or_ge k n with h | h
 ·exact Z7r _ _ _ _ h
 ·simp [List.getD_eq_getElem?_getD,h]
theorem Z0F {α:Type} (n:Nat):(List.replicate n ([]:List α)).flatten=[]:=by induction n with
 | zero=>rfl
 | succ n ih=>simp [List.replicate_succ,ih]
section
variable {R:Type} {Γ:Env R} {d:Option Nat} {type:TypeId} {o:Oper} {k:TV->State->Option R} {r:R}
theorem Z6o (hT:Z0e P Γ.tys) (I:Inv W0 M σ a w G xs) {t:TypeId} {n c:Operand} (ho:o.op= .makeSlice t n c) (h:Z0N Γ d type σ k o.op=some r):∃ tv σ',k tv σ'=some r/\Z1p P W0 M o a w G xs σ' tv true:=by
 rw [ho] at h
 simp only [Z0N] at h
 split at h
 ·cases h
 rename_i hag
 split at h
 ·rename_i e m tg1 m' tg2 ht hn hm
  rw [cond_eq_ite] at h
  split at h
  ·rename_i hc
   simp only [decide_eq_true_eq] at hc
   obtain ⟨h0,h1,h2⟩:=hc
   have h0: @LE.le Int Int.instLEInt 0 m:=h0
   have h1: @LE.le Int Int.instLEInt m m':=h1
   have h2: @LE.le Int Int.instLEInt m' 2147483648:=h2
   obtain ⟨et,le,hu,hea,_⟩:=Z12 hT ht (by simpa using hag)
   obtain ⟨inf,z,hi,hs,hby,_,hz,hzc,_⟩:=(hT et _ _ hea).info
   have hzl:z.cells.toList.length=size e:=by rw [hzc];exact (Z30 (w:=w) (F:=G.F) (St:=G.St) (Al:=G.Al) e).len.1
   have hv1:=Z0R I hn
   have hv2:=Z0R I hm
   have hrun:(execOp a.eval o).run P w= .ok (.value (.slice (some ⟨w.heap.size,0,none⟩) m.toNat m'.toNat)) (w.alloc (.cells (madeCells z.cells (m'.toNat * size e)) et)):=by
    rw [Z03 ho]
    simp only [execOp,hv1,hv2,Sem.run_bind,run_make w t et inf z hu hi hz .i64 .i64 m m' h0 h1 (by
     have:(inf.bytes:Int) * m'<=65536 * m':=Int.mul_le_mul_of_nonneg_right (by omega) (by omega)
     omega) (by omega),hs,Result.andThen_ok,Sem.run_pure]
   have hmade:=Z5B z.cells.toList m'.toNat
   rw [hzl] at hmade
   have hmm:m'.toNat=m.toNat+(m'.toNat-m.toNat):=by omega
   rw [hmm,<-List.replicate_append_replicate,List.flatten_append,<-hmm] at hmade
   obtain ⟨G',I',hcalm,hR,_⟩:=Z3y (e:=e) (fps:=List.replicate m.toNat []) (xs:=xs) (by rw [Z0F];exact I) (Pushed.alloc w (.cells (madeCells z.cells (m'.toNat * size e)) et (0,0))) (λj hj hh=>by simp at hh) (t:= .O) rfl
    (x:=List.replicate m.toNat (zero e)) (css:=List.replicate m.toNat z.cells.toList) (cap:=m'.toNat) hmade (by simp) (by simp) (by simp;omega) (by rw [size_madeCells];exact Nat.le_refl _) (λk hk=>by
     have hk':k<m.toNat:=by simpa using hk
     rw [Z7r _ _ _ _ hk',Z28,hzc]
     have:(List.replicate m.toNat (zero e)).get ⟨k,hk⟩=zero e:=by simp
     rw [this]
     exact Z30 e)
   rw [Z0F] at I' hR
   refine ⟨_,_,h,_,_,G',_,_,hrun,.inl rfl,I',⟨rfl,?_⟩,λ_=>hcalm⟩
   rw [Z0r rfl]
   rw [List.length_replicate] at hR
   exact hR
  ·cases h
 ·cases h
end
end
end Go.PI
namespace Go.PI
section
variable {W0:Base} {M:Nat->Prop} {σ:State} {a:Act} {w w':World} {G:Ghost} {xs:List Nat} {P:Program} {tys:List (TypeId×Ty×List TypeId)}
variable {R:Type} {Γ:Env R} {d:Option Nat} {type:TypeId} {o:Oper} {k:TV->State->Option R} {r:R}
theorem Z65 (l:List UInt8):(l.map λb=>[Value.int .u8 (b.toNat:Int)]).flatten=l.map λb=>Value.int .u8 (b.toNat:Int):=by
 induction l with
 | nil=>rfl
 | cons b l ih=>simp [ih]
theorem Z7d (hT:Z0e P Γ.tys) (I:Inv W0 M σ a w G xs) {s t:TypeId} {x:Operand} (ho:o.op= .convert s t x) (h:Z0N Γ d type σ k o.op=some r):∃ tv σ',k tv σ'=some r/\Z1p P W0 M o a w G xs σ' tv true:=by
 rw [ho] at h
 simp only [Z0N] at h
 split at h
 ·cases h
 rename_i hag
 simp only [Bool.or_eq_true,not_or,Bool.not_eq_true] at hag
 split at h
 ·rename_i b tg hs ht hl
  rw [cond_eq_ite] at h
  split at h
  ·have hv:=Z27 I hl
   obtain ⟨et,le,hu,hea,hpl⟩:=Z12 hT ht hag.2
   have hle:le=[]:=hpl rfl
   subst hle
   have hue:=((hT et _ _ hea).und rfl).1 .u8 rfl
   have hrun:(execOp a.eval o).run P w= .ok (.value (.slice (some ⟨w.heap.size,0,none⟩) (ByteArray.size b) (grownCap w (ByteArray.size b) 0 et)))
     (w.drew.alloc (.cells (bytesRow b (grownCap w (ByteArray.size b) 0 et)) et ((bytesRow b (grownCap w (ByteArray.size b) 0 et)).size,(bytesRow b (grownCap w (ByteArray.size b) 0 et)).size+1))):=by
    rw [Z03 ho]
    simp only [execOp,hv,Sem.run_bind,run_bytes_of_string w s t et b (Z1J hT hs hag.1) hu hue,Result.andThen_ok,Sem.run_pure]
   have hge:=grownCap_ge w b.size 0 et
   have hsz:(bytesRow b (grownCap w b.size 0 et)).size=grownCap w b.size 0 et:=by
    have:b.data.size=b.size:=rfl
    simp [bytesRow];omega
   have hbl:(Z1o b).length=b.size:=by simp [Z1o]
   obtain ⟨G',I',hcalm,hR,_⟩:=Z3y (e:= .int .u8) (fps:=List.replicate b.size []) (xs:=xs) (by rw [Z0F];exact I) (Pushed.drew w (.cells (bytesRow b (grownCap w b.size 0 et)) et ((bytesRow b (grownCap w b.size 0 et)).size,(bytesRow b (grownCap w b.size 0 et)).size+1)))
    (λj hj hh=>by have:=hh.1;simp only at this;omega) (t:= .O) rfl
    (x:=Z1o b) (css:=b.data.toList.map λb=>[Value.int .u8 (b.toNat:Int)]) (rest:=List.replicate (grownCap w b.size 0 et-b.size) (.int .u8 0)) (cap:=grownCap w b.size 0 et) (by
     rw [Z65];simp [bytesRow]) (by simp [Z1o]) (by rw [hbl];simp) (by rw [hbl];exact hge) (by rw [hsz];simp [size]) (λk hk=>by
     have hk':k<b.data.toList.length:=by rw [hbl] at hk;simpa using hk
     rw [Z28]
     refine ⟨?_,rfl,rfl⟩
     rw [List.getD_eq_getElem?_getD,List.getElem?_map,List.getElem?_eq_getElem hk']
     simp [Z1o])
   rw [Z0F] at I' hR
   refine ⟨_,_,h,_,_,G',_,_,hrun,.inl rfl,I',⟨rfl,?_⟩,λ_=>hcalm⟩
   rw [Z0r rfl]
   rw [hbl] at hR
   exact hR
  ·cases h
 ·cases h
theorem Z45:(vs:List Value)->(off j:Nat)->(cells:Array Value)->off+j+vs.length<=cells.size ->
  ((vs.zipIdx j).foldl (λ(cs:Array Value) (x:Value×Nat)=>cs.setIfInBounds (off+x.2) x.1) cells).toList=Z0c cells.toList (off+j) vs
 | [],off,j,cells,h=>by simp [Z0c]
 | v::vs,off,j,cells,h=>by
  simp only [List.length_cons] at h
  simp only [List.zipIdx_cons,List.foldl_cons]
  rw [Z45 vs off (j+1) _ (by simp;omega)]
  have hj:off+j<cells.toList.length:=by simp;omega
  simp only [Z0c,Array.toList_setIfInBounds,List.length_cons]
  have h1:(cells.toList.set (off+j) v).take (off+(j+1))=cells.toList.take (off+j)++[v]:=by
   rw [show off+(j+1)=(off+j)+1 by omega,List.take_add_one,List.take_set,List.set_eq_of_length_le (by simp;omega),List.getElem?_set_self hj]
   rfl
  have h2:(cells.toList.set (off+j) v).drop (off+(j+1)+vs.length)=cells.toList.drop (off+j+(vs.length+1)):=by
   rw [show off+(j+1)+vs.length=off+j+(vs.length+1) by omega,List.drop_set_of_lt (by omega)]
  rw [h1,h2]
  simp
theorem Z8L {place:Nat->Option (Nat×Nat)} {cells:Array Value} {i:Nat} {v:Value} {rest:List (Nat×Value)} {off size:Nat} (hp:place i=some (off,size)) (hv:v.cells.size=size) (hb:off+size<=cells.size) :
  ∃ cells':Array Value,Instr.fill place cells ((i,v)::rest)=Instr.fill place cells' rest/\cells'.toList=Z0c cells.toList off v.cells.toList/\cells'.size=cells.size:=by
 refine ⟨v.cells.zipIdx.foldl (λcs (c,j)=>cs.setIfInBounds (off+j) c) cells,?_,?_,?_⟩
 ·simp only [Instr.fill,hp]
  rw [if_neg]
  simp [hv];omega
 ·have:=Z45 v.cells.toList off 0 cells (by simp;omega)
  rw [Nat.add_zero] at this
  rw [<-this,<-Array.foldl_toList,Array.toList_zipIdx]
 ·have hl:(v.cells.zipIdx.foldl (λcs (c,j)=>cs.setIfInBounds (off+j) c) cells).toList.length=cells.toList.length:=by
   have:=Z45 v.cells.toList off 0 cells (by simp;omega)
   rw [Nat.add_zero] at this
   rw [<-Array.foldl_toList,Array.toList_zipIdx,this,Z1V]
   simp;omega
  simpa using hl
theorem Z2b:{q:List Step}->{τ:Ty}->{x:El τ}->{tg:List Tag}->{u:TVal}->Z08 q=true->Z04 τ x tg q=some u->∃ τf,Z0d τ q=some τf
 | [],τ,_,_,_,_,_=>⟨τ,Z1H τ⟩
 | .fst::p,.pair a b,x,tg,u,hf,h=>Z2b (q:=p) (τ:=a) hf h
 | .snd::p,.pair a b,x,tg,u,hf,h=>Z2b (q:=p) (τ:=b) hf h
 | .idx _::_,_,_,_,_,hf,_=>by simp [Z08] at hf
 | .fst::_,.int _,_,_,_,_,h=>by simp [Z04] at h
 | .fst::_,.bool,_,_,_,_,h=>by simp [Z04] at h
 | .fst::_,.str,_,_,_,_,h=>by simp [Z04] at h
 | .fst::_,.unit,_,_,_,_,h=>by simp [Z04] at h
 | .fst::_,.slice _,_,_,_,_,h=>by simp [Z04] at h
 | .snd::_,.int _,_,_,_,_,h=>by simp [Z04] at h
 | .snd::_,.bool,_,_,_,_,h=>by simp [Z04] at h
 | .snd::_,.str,_,_,_,_,h=>by simp [Z04] at h
 | .snd::_,.unit,_,_,_,_,h=>by simp [Z04] at h
 | .snd::_,.slice _,_,_,_,_,h=>by simp [Z04] at h
theorem Z7b {n:Nat} {place:Nat->Option (Nat×Nat)} {τ:Ty} (hpl:∀ i τf,Z0d τ (Z0a n i)=some τf->i<n->place i=some (Z0g τ (Z0a n i),size τf)) :
  (ps:List (Nat×Operand))->(hin:∀ p∈ps,p.1<n)->(v:TVal)->(hv:v.τ=τ)->(σ:State)->(G:Ghost)->(fp:List Nat)->(cells:Array Value)->(kk:TVal->State->Option R)->(I:Inv W0 M σ a w G (fp++xs)) ->
  (hR:Rp w G.F G.St G.Al v.τ v.tg cells.toList v.x fp)->(h:Z6Y n ps v σ kk=some r) ->
  ∃ v' σ' G' fp' cells',kk v' σ'=some r/\Instr.fill place cells (ps.map λp=>(p.1,a.eval p.2))=some cells'/\v'.τ=τ/\v'.ag=v.ag/\Inv W0 M σ' a w G' (fp'++xs)/\Sim G G'/\Rp w G'.F G'.St G'.Al v'.τ v'.tg cells'.toList v'.x fp'
 | [],hin,v,hv,σ,G,fp,cells,kk,I,hR,h=>⟨v,σ,G,fp,cells,h,rfl,hv,rfl,I,Sim.refl _,hR⟩
 | (i,op)::ps,hin,v,hv,σ,G,fp,cells,kk,I,hR,h=>by
  simp only [Z6Y] at h
  split at h
  ·rename_i u hu
   split at h
   ·rename_i y σ1 htk
    split at h
    ·rename_i rr hset
     obtain ⟨fpy,G1,I1,hs,hτ,hRy,hsh⟩:=Z10 I htk
     have hR1:Rp w G1.F G1.St G1.Al v.τ v.tg cells.toList v.x fp:=by rw [hs.F,hs.St,hs.Al];exact hR
     have hff:=Z2Q n i
     obtain ⟨τf,hta⟩:∃ τf,Z0d v.τ (Z0a n i)=some τf:=Z2b hff hu
     obtain ⟨u',hu',hut⟩:=Z3d (x:=v.x) (tg:=v.tg) hta
     rw [hu] at hu'
     cases hu'
     obtain ⟨hlc,hle⟩:=Z0V (w:=w) (cs:=cells.toList) (base:=(none:Option (Nat×Nat))) hta hR1.len.1
     obtain ⟨f1,fi,f2,e1,e2,e3,e4,e5⟩:=Rp.flatLens hff hR1 hlc hu
     rw [hsh.cells] at hRy
     have hnew:=e5 y _ fpy rr.1 rr.2 hset hτ hRy
     have hysz:(a.eval op).cells.size=size τf:=by
      have:=hRy.len.1
      rw [hτ,hut] at this
      simpa using this
     have hcsz:cells.size=size v.τ:=by have:=hR1.len.1;simpa using this
     obtain ⟨cells1,hf1,hf2,hf3⟩:=Z8L (place:=place) (cells:=cells) (i:=i) (v:=a.eval op) (rest:=ps.map λp=>(p.1,a.eval p.2)) (hpl i τf (by rw [<-hv];exact hta) (hin (i,op) (by simp))) hysz (by rw [<-hv,hcsz];exact hle)
     have hf2':cells1.toList=Z0c cells.toList (Z0g v.τ (Z0a n i)) (a.eval op).cells.toList:=by rw [hf2,hv]
     rw [<-hf2'] at hnew
     have hnod:(fpy++(fp++xs)).Nodup:=I1.nodX
     have hsub:∀ b∈f1++fpy++f2++xs,b∈fpy++(fp++xs):=by
      rw [e1];intro b hb;simp only [List.mem_append] at hb ⊢;rcases hb with ((hb | hb) | hb) | hb<;>simp [hb]
     have hnd:(f1++fpy++f2++xs).Nodup:=by
      have hp:((f1++fpy++f2++xs)++fi).Perm (fpy++(fp++xs)):=by
       rw [e1]
       refine List.perm_iff_count.2 λz=> ?_
       simp only [List.count_append]
       omega
      exact (List.nodup_append.1 (hp.nodup_iff.2 hnod)).1
     obtain ⟨v',σ',G',fp',cells',h1,h2,h3,h4,h5,h6,h7⟩:=Z7b hpl ps (λp hp=>hin p (List.mem_cons_of_mem _ hp)) ⟨v.τ,v.ag,rr.1,rr.2⟩ hv σ1 G1 (f1++fpy++f2) cells1 kk (I1.sub hsub hnd) hnew h
     exact ⟨v',σ',G',fp',cells',h1,by rw [List.map_cons,hf1];exact h2,h3,h4,h5,hs.trans h6,h7⟩
    ·cases h
   ·cases h
  ·cases h
end
end Go.PI
namespace Go.PI
theorem Z7j {α β:Type} (f:α->Option β):(l:List α)->(∀ x∈l,∃ y,f x=some y)->∃ r:List β,l.mapM f=some r/\∀ i:Nat,r[i]? = l[i]?.bind f
 | [],_=>⟨[],rfl,λi=>rfl⟩
 | x::l,h=>by
  obtain ⟨y,hy⟩:=h x (by simp)
  obtain ⟨r,hr,hi⟩:=Z7j f l λz hz=>h z (List.mem_cons_of_mem _ hz)
  refine ⟨y::r,by simp [List.mapM_cons,hy,hr],λi=> ?_⟩
  cases i with
  | zero=>simp [hy]
  | succ i=>simpa using hi i
section
variable {W0:Base} {M:Nat->Prop} {σ:State} {a:Act} {w w':World} {G:Ghost} {xs:List Nat} {P:Program} {tys:List (TypeId×Ty×List TypeId)}
variable {R:Type} {Γ:Env R} {d:Option Nat} {type:TypeId} {o:Oper} {k:TV->State->Option R} {r:R}
theorem Z8n (hT:Z0e P Γ.tys) (I:Inv W0 M σ a w G xs) {t:TypeId} {ps:Array (Nat×Operand)} (ho:o.op= .build t ps) (h:Z0N Γ d type σ k o.op=some r):∃ tv σ',k tv σ'=some r/\Z1p P W0 M o a w G xs σ' tv true:=by
 rw [ho] at h
 simp only [Z0N] at h
 split at h
 ·rename_i τ l hta
  split at h
  ·cases h
  rename_i hc
  simp only [Bool.or_eq_true,not_or,Bool.not_eq_true,Bool.not_eq_false',List.all_eq_true,decide_eq_true_eq] at hc
  obtain ⟨hl,hps⟩:=hc
  have hl':l≠[]:=by rintro rfl;simp at hl
  obtain ⟨inf,z,hi,hs,_,_,hz,hzc,_⟩:=(hT _ _ _ hta).info
  obtain ⟨fs,hu,hlen,hf,_⟩:=(hT _ _ _ hta).str hl'
  have hfl:∀ f∈fs.toList,∃ y,(λf:Field=>(P.info? f.type).map λi=>(f.offset,i.size)) f=some y:=by
   intro f hf'
   obtain ⟨i,hi',rfl⟩:=List.mem_iff_getElem.1 hf'
   obtain ⟨f',τf,lf,h1,h2,h3,h4,h5,h6,_⟩:=(hf i (by rw [<-hlen];simpa using hi')).out
   obtain ⟨inf',z',h7,h8,_⟩:=(hT _ _ _ h5).info
   have:fs.toList[i]=f':=by
    have:fs[i]? = some fs.toList[i]:=by rw [<-Array.getElem?_toList];simp
    rw [this] at h1;cases h1;rfl
   rw [this]
   exact ⟨_,by simp only [h7];rfl⟩
  obtain ⟨places,hpl,hpi⟩:=Z7j _ _ hfl
  have hplace:∀ i τf,Z0d τ (Z0a l.length i)=some τf->i<l.length->places.toArray[i]? = some (Z0g τ (Z0a l.length i),size τf):=by
   intro i τf hta' hil
   obtain ⟨f',τf',lf,h1,h2,h3,h4,h5,h6,_⟩:=(hf i hil).out
   rw [hta'] at h4;cases h4
   obtain ⟨inf',z',h7,h8,_⟩:=(hT _ _ _ h5).info
   have:=hpi i
   have h1':fs.toList[i]? = some f':=by rw [Array.getElem?_toList];exact h1
   rw [h1'] at this
   simp only [Option.bind_some,h7,Option.map_some] at this
   rw [List.getElem?_toArray,this,h3,h8]
  obtain ⟨v',σ',G',fp',cells',h1,h2,h3,h4,h5,h6,h7⟩:=Z7b (place:=(places.toArray[·]?)) hplace ps.toList hps ⟨τ,true,zero τ,List.replicate (Z06 τ) .O⟩ rfl σ G [] z.cells _ (by simpa using I) (by rw [hzc];exact Z30 τ) h
  have hb:P.built t (ps.map λ(i,x)=>(i,a.eval x)).toList=some cells':=by
   unfold Program.built
   simp only [hi,hu,hz,hpl]
   rw [Array.toList_map]
   exact h2
  refine ⟨_,_,h1,.agg cells',w,G',fp',_,?_,.inl rfl,h5,⟨?_,?_⟩,λ_=>h6.calmer⟩
  ·rw [Z03 ho]
   simp only [execOp,Sem.run_bind,run_build w t _ cells' hb,Result.andThen_ok,Sem.run_pure]
  ·rw [h4];exact ⟨_,rfl⟩
  ·exact h7
 ·cases h
def Z19 (t0 t:Tag):Prop:=t0.over.inner= .N\/(t0.over.inner= .S/\t.isN=false)\/(t0= .O/\t= .O)
theorem Z19.meet_left {t1 t2 t:Tag} (h:Z19 t1 t):Z19 (t1.meet t2) t:=by
 cases t1<;>cases t2<;>cases t<;>simp_all [Z19,Tag.meet,Tag.over,Tag.inner,Tag.isN]
theorem Z19.meet_right {t1 t2 t:Tag} (h:Z19 t2 t):Z19 (t1.meet t2) t:=by
 cases t1<;>cases t2<;>cases t<;>simp_all [Z19,Tag.meet,Tag.over,Tag.inner,Tag.isN]
theorem Z19.self (t:Tag):Z19 t t:=by
 cases t<;>simp [Z19,Tag.over,Tag.inner,Tag.isN]
theorem Z7S {v:TVal}:∀ t∈v.tg,Z19 (Z4A v) t:=by
 unfold Z4A
 generalize v.tg=l
 induction l with
 | nil=>intro t h;simp at h
 | cons s l ih=>
  intro t h
  simp only [List.foldr_cons]
  rcases List.mem_cons.1 h with rfl | h
  ·exact (Z19.self _).meet_left
  ·exact (ih t h).meet_right
theorem Z19.weak {t0 t:Tag} {St:Nat->Prop} {fp:List Nat} (h:Z19 t0 t) (hO:t0≠ .O) (hfp:t0.over.inner= .S->∀ b∈fp,St b):Tag.weak St fp t t0.over.inner:=by
 rcases h with h | ⟨h,h2⟩ | ⟨h,_⟩
 ·rw [h];cases t<;>simp [Tag.weak]
 ·rw [h]
  have:=hfp h
  cases t<;>simp_all [Tag.weak,Tag.isN]
 ·exact absurd h hO
end
end Go.PI
namespace Go.PI
structure Elem (e:Ty) where
 x:El e
 tg:List Tag
 cs:List Value
 fp:List Nat
section
variable {W0:Base} {M:Nat->Prop} {σ:State} {a:Act} {w w':World} {G:Ghost} {xs:List Nat} {P:Program} {tys:List (TypeId×Ty×List TypeId)}
variable {R:Type} {Γ:Env R} {d:Option Nat} {type:TypeId} {o:Oper} {k:TV->State->Option R} {r:R}
def Elem.Ok {e:Ty} (w:World) (G:Ghost) (t0:Tag) (u:Elem e):Prop:=Rp w G.F G.St G.Al e u.tg u.cs u.x u.fp/\∀ t∈u.tg,Z19 t0 t
theorem Inv.perm {ys:List Nat} (I:Inv W0 M σ a w G xs) (h:xs.Perm ys):Inv W0 M σ a w G ys:=
 I.sub (λb hb=>h.symm.subset hb) (h.nodup_iff.1 I.nodX)
theorem Z6x {e:Ty} {t0:Tag} {us:List (Elem e)} (I:Inv W0 M σ a w G ((us.map (·.fp)).flatten++xs)) (h:∀ u∈us,u.Ok w G t0) :
  ∃ (G':Ghost) (fps:List (List Nat)),Inv W0 M σ a w G' (fps.flatten++xs)/\Calmer w G w G'/\G'.F=G.F/\fps.length=us.length/\(∀ b,G.St b->G'.St b)/\G'.Al=G.Al /\
   (∀ k (hk:k<us.length),Rp w G'.F G'.St G'.Al e (List.replicate (Z06 e) t0.over.inner) us[k].cs us[k].x (fps.getD k [])) /\
   (∀ (τ:Ty) (tg:List Tag) (cs:List Value) (x:El τ) (fp:List Nat),Rp w G.F G.St G.Al τ tg cs x fp->Rp w G'.F G'.St G'.Al τ tg cs x fp)/\(∀ b∈fps.flatten,b∈(us.map (·.fp)).flatten):=by
 by_cases hO:t0= .O
 ·subst hO
  refine ⟨G,us.map (·.fp),I,Calmer.refl _ _,rfl,by simp,λ_ h=>h,rfl,λk hk=> ?_,λ_ _ _ _ _ h=>h,λ_ h=>h⟩
  obtain ⟨h1,h2⟩:=h us[k] (List.getElem_mem _)
  have:us[k].tg=List.replicate (Z06 e) .O:=by
   rw [List.eq_replicate_iff]
   refine ⟨h1.len.2,λt ht=> ?_⟩
   rcases h2 t ht with h3 | ⟨h3,_⟩ | ⟨_,h3⟩
   ·simp [Tag.over,Tag.inner] at h3
   ·simp [Tag.over,Tag.inner] at h3
   ·exact h3
  rw [this] at h1
  rw [List.getD_eq_getElem?_getD,List.getElem?_map,List.getElem?_eq_getElem hk]
  exact h1
 ·have hnil:∀ k,(List.replicate us.length ([]:List Nat)).getD k []=[]:=λk=>Z28 _ _
  have hweak:∀ {St':Nat->Prop},(∀ b,G.St b->St' b)->(t0.over.inner= .S->∀ b∈(us.map (·.fp)).flatten,St' b)->∀ k (hk:k<us.length),Rp w G.F St' G.Al e (List.replicate (Z06 e) t0.over.inner) us[k].cs us[k].x []:=by
   intro St' hSt hfz k hk
   obtain ⟨h1,h2⟩:=h us[k] (List.getElem_mem _)
   refine h1.weaken hSt (Ghost.St_Al I) (by simp [h1.len.2]) λi hi hi'=> ?_
   rw [List.getElem_replicate]
   exact (h2 _ (List.getElem_mem _)).weak hO λhS b hb=>hfz hS b (List.mem_flatten.2 ⟨_,List.mem_map.2 ⟨us[k],List.getElem_mem _,rfl⟩,hb⟩)
  by_cases hS:t0.over.inner= .S
  ·obtain ⟨G',I',gF,gad,gA,gb,gS,hl⟩:=I.freeze
   refine ⟨G',List.replicate us.length [],by rw [Z0F];exact I',?_,gF,by simp,λb hb=>(gS b).2 (.inl hb),gA,λk hk=> ?_,hl,λb hb=>by rw [Z0F] at hb;cases hb⟩
   ·exact ⟨λw2 hc=>⟨λb hb ha o n cs hn h1=>hc.1 b hb (by rw [gA];exact ha) o n cs (by rw [gF];exact hn) h1,λi b hb=>hc.2 i b ((gb b i).2 hb)⟩,λw2 hc i b hb=>hc i b ((gb b i).2 hb)⟩
   ·rw [hnil,gF,gA]
    exact hweak (λb hb=>(gS b).2 (.inl hb)) (λ_ b hb=>(gS b).2 (.inr hb)) k hk
  ·refine ⟨G,List.replicate us.length [],by rw [Z0F];exact I.sub (λb hb=>List.mem_append_right _ hb) (List.nodup_append.1 I.nodX).2.1,Calmer.refl _ _,rfl,by simp,λ_ h=>h,rfl,λk hk=> ?_,λ_ _ _ _ _ h=>h,λb hb=>by rw [Z0F] at hb;cases hb⟩
   rw [hnil]
   exact hweak (λ_ h=>h) (λh=>absurd h hS) k hk
theorem Z7v {e:Ty}:(ps:List (Nat×Operand))->(i:Nat)->(acc:List (El e))->(t:Tag)->(σ:State)->(G:Ghost)->(us:List (Elem e))->(kk:List (El e)->Tag->State->Option R)->(hlen:us.length=i)->(hacc:acc.reverse=us.map (·.x)) ->
  (I:Inv W0 M σ a w G ((us.map (·.fp)).flatten++xs))->(hok:∀ u∈us,u.Ok w G t)->(h:Z7u e ps i acc t σ kk=some r) ->
  ∃ (vs:List (Elem e)) (t':Tag) (σ':State) (G':Ghost),kk ((us++vs).map (·.x)) t' σ'=some r/\vs.length=ps.length/\(ps.map λp=>(p.1,a.eval p.2))=(((ps.map λp=>a.eval p.2).zipIdx i).map λx=>(x.2,x.1)) /\
   (ps.map λp=>(a.eval p.2).cells.toList)=vs.map (·.cs)/\Inv W0 M σ' a w G' (((us++vs).map (·.fp)).flatten++xs)/\Sim G G'/\(∀ u∈us++vs,u.Ok w G' t')
 | [],i,acc,t,σ,G,us,kk,hlen,hacc,I,hok,h=>by
  simp only [Z7u] at h
  rw [hacc] at h
  exact ⟨[],t,σ,G,by simpa using h,rfl,rfl,rfl,by simpa using I,Sim.refl _,by simpa using hok⟩
 | (j,op)::ps,i,acc,t,σ,G,us,kk,hlen,hacc,I,hok,h=>by
  simp only [Z7u] at h
  split at h
  ·rename_i hij
   have hij:i=j:=by simpa using hij
   subst hij
   split at h
   ·rename_i v σ1 htk
    split at h
    ·rename_i x hx
     obtain ⟨fp,G1,I1,hs,hτ,hR,hsh⟩:=Z10 I htk
     obtain ⟨vτ,vag,vx,vtg⟩:=v
     simp only at hτ
     subst hτ
     have hxe:vx=x:=by simpa [Z2I] using hx
     subst hxe
     rw [hsh.cells] at hR
     have hIp:Inv W0 M σ1 a w G1 (((us++[(⟨vx,vtg,(a.eval op).cells.toList,fp⟩:Elem vτ)]).map (·.fp)).flatten++xs):=by
      refine I1.perm (List.perm_iff_count.2 λz=> ?_)
      simp only [List.map_append,List.flatten_append,List.map_cons,List.map_nil,List.flatten_cons,List.flatten_nil,List.append_nil,List.count_append]
      omega
     obtain ⟨vs,t',σ',G',h1,h2,h3,h4,h5,h6,h7⟩:=Z7v ps (i+1) (vx::acc) (t.meet (Z4A ⟨vτ,vag,vx,vtg⟩)) σ1 G1 (us++[⟨vx,vtg,(a.eval op).cells.toList,fp⟩]) kk (by simp [hlen]) (by simp [hacc]) hIp (λu hu=>by
      rcases List.mem_append.1 hu with hu | hu
      ·obtain ⟨q1,q2⟩:=hok u hu
       exact ⟨by rw [hs.F,hs.St,hs.Al];exact q1,λt ht=>(q2 t ht).meet_left⟩
      ·rw [List.mem_singleton.1 hu]
       exact ⟨hR,λt ht=>(Z7S t ht).meet_right⟩) h
     refine ⟨⟨vx,vtg,(a.eval op).cells.toList,fp⟩::vs,t',σ',G',by simpa using h1,by simp [h2],?_,by simp [h4],by simpa using h5,hs.trans h6,by simpa using h7⟩
     simp only [List.map_cons,List.zipIdx_cons]
     rw [h3]
    ·cases h
   ·cases h
  ·cases h
end
end Go.PI
namespace Go.PI
section
variable {W0:Base} {M:Nat->Prop} {σ:State} {a:Act} {w w':World} {G:Ghost} {xs:List Nat} {P:Program} {tys:List (TypeId×Ty×List TypeId)}
variable {R:Type} {Γ:Env R} {d:Option Nat} {type:TypeId} {o:Oper} {k:TV->State->Option R} {r:R}
theorem Z9j (hT:Z0e P tys) {t:TypeId} {τ:Ty} {l:List TypeId} (h:Z0o tys t=some (τ,l)):0<size τ:=by
 cases l with
 | nil=>rw [Z1U hT h];omega
 | cons c l=>
  obtain ⟨fs,hu,hlen,hf,_⟩:=(hT _ _ _ h).str (by simp)
  obtain ⟨f',τf,lf,h1,h2,h3,h4,h5,h6,_⟩:=(hf 0 (by simp)).out
  have:=(Z0V (w:=default) (cs:=List.replicate (size τ) undef) (base:=none) h4 (by simp)).2
  omega
theorem Z5X (hT:Z0e P Γ.tys) (I:Inv W0 M σ a w G xs) {t:TypeId} {n:Nat} {ps:Array (Nat×Operand)} (ho:o.op= .buildSlice t n ps) (h:Z0N Γ d type σ k o.op=some r):∃ tv σ',k tv σ'=some r/\Z1p P W0 M o a w G xs σ' tv true:=by
 rw [ho] at h
 simp only [Z0N] at h
 split at h
 ·rename_i e ht
  split at h
  ·rename_i hc
   simp only [Bool.and_eq_true,beq_iff_eq,Bool.not_eq_true',decide_eq_true_eq] at hc
   obtain ⟨⟨hn,hag⟩,hlim⟩:=hc
   subst hn
   obtain ⟨et,le,hu,hea,_⟩:=Z12 hT ht hag
   obtain ⟨inf,z,hi,hs,_,_,hz,hzc,_⟩:=(hT et _ _ hea).info
   have hpos:=Z9j hT hea
   obtain ⟨vs,t',σ',G1,h1,h2,h3,h4,I1,hsim,hok⟩:=Z7v (a:=a) (w:=w) ps.toList 0 [] .O σ G [] _ rfl rfl (by simpa using I) (by simp) h
   simp only [List.nil_append] at h1 I1 hok
   obtain ⟨G2,fps,I2,hcalm,gF,hfl,gS,gA,hel,hlift,_⟩:=Z6x I1 hok
   have hsz:∀ u∈vs,u.cs.length=size e:=λu hu=>(hok u hu).1.len.1
   have hvz:∀ v∈ps.toList.map (λp=>a.eval p.2),v.cells.size=size e:=by
    intro v hv
    obtain ⟨p,hp,rfl⟩:=List.mem_map.1 hv
    have:(a.eval p.2).cells.toList∈vs.map (·.cs):=by rw [<-h4];exact List.mem_map.2 ⟨p,hp,rfl⟩
    obtain ⟨u,hu,he⟩:=List.mem_map.1 this
    have:=hsz u hu
    rw [he] at this
    simpa using this
   have hC:((ps.toList.map λp=>a.eval p.2).flatMap λv=>v.cells.toList)=(vs.map (·.cs)).flatten:=by
    rw [<-h4,List.flatMap_def,List.map_map];rfl
   have hsize:((ps.toList.map λp=>a.eval p.2).flatMap λv=>v.cells.toList).length=ps.size * size e:=by
    rw [hC,Z44 _ (size e) (by intro c hc;obtain ⟨u,hu,rfl⟩:=List.mem_map.1 hc;exact hsz u hu)]
    simp [h2]
   have hfill:∀ C:Array Value,C.size=ps.size * inf.size->Instr.fill (λi=>some (i * inf.size,inf.size)) C (ps.map λ(i,x)=>(i,a.eval x)).toList=some ((ps.toList.map λp=>a.eval p.2).flatMap λv=>v.cells.toList).toArray:=by
    intro C hCs
    have:=Great.fill_whole (s:=inf.size) (by rw [hs];exact hpos) (ps.toList.map λp=>a.eval p.2) C (by rw [hs];exact hvz) (by rw [hCs];simp)
    rw [Array.toList_map]
    rw [<-h3] at this
    exact this
   have hrun:(execOp a.eval o).run P w= .ok (.value (.slice (some ⟨w.heap.size,0,none⟩) ps.size ps.size)) (w.alloc (.cells ((ps.toList.map λp=>a.eval p.2).flatMap λv=>v.cells.toList).toArray et)):=by
    rw [Z03 ho]
    simp only [execOp,Sem.run_bind]
    by_cases h0:ps.size=0
    ·have hps:ps= #[]:=by simpa using h0
     subst hps
     simp [Instr.buildSlice,run_underlying hu,sizeOf,typeInfo,hi,newRow,Instr.fill,Array.range_zero']
    ·have h00:¬ ps.size * inf.size=0:=by
      have:=Nat.mul_ne_zero h0 (show inf.size≠0 by omega);exact this
     rw [run_buildSlice w t et ps.size _ _ inf z hu hi hz (by rw [hs];omega) h00 (hfill _ (by simp))]
     rfl
   obtain ⟨G3,I3,hcalm3,hR,_⟩:=Z3y (e:=e) (fps:=fps) (xs:=xs) I2 (Pushed.alloc w (.cells ((ps.toList.map λp=>a.eval p.2).flatMap λv=>v.cells.toList).toArray et (0,0))) (λj hj hh=>by simp at hh) (t:=t'.over) (by cases t'<;>rfl)
    (x:=vs.map (·.x)) (css:=vs.map (·.cs)) (rest:=[]) (cap:=ps.size) (by simp [hC]) (by simp) (by simp [hfl]) (by simp [h2]) (by simp only [List.size_toArray];exact Nat.le_of_eq hsize.symm) (λk hk=>by
     have hk':k<vs.length:=by simpa using hk
     have:=hel k hk'
     rw [List.getD_eq_getElem?_getD (l:=vs.map (·.cs)),List.getElem?_map,List.getElem?_eq_getElem hk']
     simpa using this)
   refine ⟨_,_,h1,_,_,G3,_,_,hrun,.inl rfl,I3,⟨rfl,?_⟩,λ_=>(hsim.calmer.trans hcalm).trans hcalm3⟩
   rw [Z0r rfl]
   have hlv:(vs.map (·.x)).length=ps.size:=by simp [h2]
   rw [hlv] at hR
   exact hR
  ·cases h
 ·cases h
end
end Go.PI
namespace Go.PI
theorem Z8Q {v:Value} (h:one v=true):v.oneCell'=true:=by cases v<;>simp_all [one,Value.oneCell']
theorem Z3N:{q:List Step}->{τ:Ty}->{x:El τ}->{tg:List Tag}->{v:TVal}->{r:El τ×List Tag}->Z0K τ x tg q v=some r->∃ u,Z04 τ x tg q=some u/\u.τ=v.τ
 | [],τ,x,tg,v,r,h=>by
  refine ⟨_,Z3J,?_⟩
  have:v.τ=τ:=by
   cases τ<;>(simp only [Z0K] at h;split at h<;>first | assumption | cases h)
  exact this.symm
 | .fst::p,.pair a b,x,tg,v,r,h=>by
  simp only [Z0K] at h
  obtain ⟨_,h',_⟩:=Option.map_eq_some_iff.1 h
  exact Z3N (q:=p) (τ:=a) h'
 | .snd::p,.pair a b,x,tg,v,r,h=>by
  simp only [Z0K] at h
  obtain ⟨_,h',_⟩:=Option.map_eq_some_iff.1 h
  exact Z3N (q:=p) (τ:=b) h'
 | .idx i::p,.slice e,x,tg,v,r,h=>by
  simp only [Z0K] at h
  obtain ⟨_,h',_⟩:=Option.map_eq_some_iff.1 h
  exact Z3N (q:=p) (τ:=e) h'
 | .idx _::_,.int _,_,_,_,_,h=>by simp [Z0K] at h
 | .idx _::_,.bool,_,_,_,_,h=>by simp [Z0K] at h
 | .idx _::_,.str,_,_,_,_,h=>by simp [Z0K] at h
 | .idx _::_,.unit,_,_,_,_,h=>by simp [Z0K] at h
 | .idx _::_,.pair _ _,_,_,_,_,h=>by simp [Z0K] at h
 | .fst::_,.int _,_,_,_,_,h=>by simp [Z0K] at h
 | .fst::_,.bool,_,_,_,_,h=>by simp [Z0K] at h
 | .fst::_,.str,_,_,_,_,h=>by simp [Z0K] at h
 | .fst::_,.unit,_,_,_,_,h=>by simp [Z0K] at h
 | .fst::_,.slice _,_,_,_,_,h=>by simp [Z0K] at h
 | .snd::_,.int _,_,_,_,_,h=>by simp [Z0K] at h
 | .snd::_,.bool,_,_,_,_,h=>by simp [Z0K] at h
 | .snd::_,.str,_,_,_,_,h=>by simp [Z0K] at h
 | .snd::_,.unit,_,_,_,_,h=>by simp [Z0K] at h
 | .snd::_,.slice _,_,_,_,_,h=>by simp [Z0K] at h
section
variable {W0:Base} {M:Nat->Prop} {σ:State} {a:Act} {w w':World} {G:Ghost} {xs:List Nat} {P:Program} {tys:List (TypeId×Ty×List TypeId)}
variable {R:Type} {Γ:Env R} {d:Option Nat} {type:TypeId} {o:Oper} {k:TV->State->Option R} {r:R}
theorem Z3q {p:Place} {c c':TVal} (hc:σ.content p=some c) (hτ:c'.τ=c.τ) (q:Place):(σ.setContent p c').ct q=σ.ct q:=by
 obtain ⟨bx,r,path⟩:=p
 obtain ⟨bq,rq,pq⟩:=q
 cases bx with
 | true=>
  simp only [State.content] at hc
  cases bq with
  | true=>
   rw [Z1q,Z1q]
   simp only [State.setContent,State.boxAt] at *
   rw [Z0U]
   split
   ·rename_i h;obtain ⟨rfl,_⟩:=h;rw [hc];simp [hτ]
   ·rfl
  | false=>rfl
 | false=>
  cases bq with
  | true=>
   rw [Z1q,Z1q]
   simp only [State.setContent]
   split<;>rfl
  | false=>
   rw [Z1m,Z1m,Z0O hc]
   by_cases h3:r=rq/\r<σ.slots.length
   ·rw [if_pos h3]
    obtain ⟨rfl,h4⟩:=h3
    simp only [State.content] at hc
    split at hc
    ·rename_i v hv;cases hc;simp [hv,hτ]
    ·rename_i v ags hv;cases hc;simp [hv,hτ]
    ·cases hc
   ·rw [if_neg h3]
theorem Z2B {x:Operand} {τ:Ty} {v:TVal} {σ':State} (h:σ.take x τ=some (v,σ')) (q:Place):σ'.ct q=σ.ct q:=by
 unfold State.take at h
 split at h
 ·split at h
  ·cases h;rfl
  ·cases h
 ·split at h
  ·cases h;rfl
  ·cases h
 ·split at h
  ·split at h
   ·split at h
    ·obtain ⟨σ2,hset,he⟩:=Option.map_eq_some_iff.1 h
     cases he
     unfold State.setAt at hset
     obtain ⟨c,hc,h2⟩:=Option.bind_eq_some_iff.1 hset
     obtain ⟨r,hr,rfl⟩:=Option.map_eq_some_iff.1 h2
     exact Z3q (c':=⟨c.τ,c.ag,r.1,r.2⟩) hc rfl q
    ·cases h;rfl
   ·cases h
  ·cases h
 ·cases h
theorem Z0x.sim {σ':State} {G':Ghost} (hct:∀ q,σ'.ct q=σ.ct q) (had:G'.ad=G.ad) {p:Place} {u:Value} (h:Z0x σ G a w p u):Z0x σ' G' a w p u:=by
 rcases h with h | ⟨cs,b,⟨τ,l,b',h3,h4,h5⟩,h6⟩
 ·exact .inl ((hct p).trans h)
 ·exact .inr ⟨cs,b,⟨τ,l,b',(hct p).trans h3,by unfold Z09 at h4 ⊢;rw [had];exact h4,h5⟩,h6⟩
theorem Z3p (P:Program) (g o:Nat) (t:TypeId) (fz:Nat×Nat):∀ (vs:List Value) (i:Nat) (cur:Array Value) (w:World),w.heap[g]? = some (.cells cur t fz)->Z41 cur fz->o+i+vs.length<=cur.size->(∀ v∈vs,one v=true) ->
  (storeCells ⟨g,o,none⟩ vs i).run P w= .ok () (w.setRow g (Z0c cur.toList (o+i) vs).toArray)
 | [],i,cur,w,hg,_,_,_=>by
  simp only [storeCells,Z0c,List.append_nil,List.length_nil,Nat.add_zero,List.take_append_drop,Array.toArray_toList]
  rw [setRow_self w g cur t fz hg]
  rfl
 | v::rest,i,cur,w,hg,hfz,hl,h1=>by
  simp only [List.length_cons] at hl
  have hi:o+i<cur.size:=by omega
  have hadd:(⟨g,o,none⟩:Addr).add i=⟨g,o+i,none⟩:=by unfold Addr.add;split<;>simp_all
  have hcell:w.cell? ⟨g,o+i,none⟩=some cur[o+i]:=by simp [World.cell?,hg,hi]
  have hfro:w.frozen? ⟨g,o+i,none⟩=false:=by
   have:=hfz (o+i) hi
   obtain ⟨lo,hi'⟩:=fz
   simp only [World.frozen?,hg,Bool.and_eq_false_iff,decide_eq_false_iff_not]
   simp only at this
   by_cases hlo:lo<=o+i
   ·exact .inr λhh=>this ⟨hlo,hh⟩
   ·exact .inl hlo
  have hst:(store ((⟨g,o,none⟩:Addr).add i) v).run P w= .ok () (w.setRow g (cur.setIfInBounds (o+i) v)):=by
   rw [hadd,run_store P w _ v _ (Z8Q (h1 v (by simp))),hcell]
   simp [hfro,setCell_eq_setRow w g (o+i) cur t fz v hg]
  have ih:=Z3p P g o t fz rest (i+1) (cur.setIfInBounds (o+i) v) (w.setRow g (cur.setIfInBounds (o+i) v)) (setRow_heap w g cur _ t _ hg) (λj hj=>hfz j (by simpa using hj)) (by simp;omega) (λx hx=>h1 x (by simp [hx]))
  simp only [storeCells,Sem.run_bind,hst,Result.andThen_ok,ih,setRow_setRow]
  congr 3
  have hj:o+i<cur.toList.length:=by simpa using hi
  simp only [Z0c,Array.toList_setIfInBounds,List.length_cons]
  have h1:(cur.toList.set (o+i) v).take (o+(i+1))=cur.toList.take (o+i)++[v]:=by
   rw [show o+(i+1)=(o+i)+1 by omega,List.take_add_one,List.take_set,List.set_eq_of_length_le (by simp;omega),List.getElem?_set_self hj]
   rfl
  have h2:(cur.toList.set (o+i) v).drop (o+(i+1)+rest.length)=cur.toList.drop (o+i+(rest.length+1)):=by
   rw [show o+(i+1)+rest.length=o+i+(rest.length+1) by omega,List.drop_set_of_lt (by omega)]
  rw [h1,h2]
  simp
theorem Z4a (hT:Z0e P tys) {t:TypeId} {τ:Ty} {l:List TypeId} (ht:Z0o tys t=some (τ,l)) {g off:Nat} {T:TypeId} {fz:Nat×Nat} {cur:Array Value} {v:Value} (hg:w.heap[g]? = some (.cells cur T fz))
  (hfz:Z41 cur fz) (hv:v.cells.size=size τ) (hb:off+size τ<=cur.size) (h1:∀ c∈v.cells.toList,one c=true) :
  (Instr.storeAt t (.pointer (some ⟨g,off,none⟩)) v).run P w= .ok () (w.setRow g (Z0c cur.toList off v.cells.toList).toArray):=by
 obtain ⟨inf,z,hi,hs,_⟩:=(hT _ _ _ ht).info
 have:=Z3p P g off T fz v.cells.toList 0 cur w hg hfz (by simp;omega) h1
 rw [Nat.add_zero] at this
 simp only [Instr.storeAt,Instr.sureAddr,Sem.run_bind,Sem.run_pure,Result.andThen_ok,storeVar,sizeOf,typeInfo,run_program,hi,hs,hv]
 simp [this]
theorem Wrote.setRow (w:World) (g:Nat) (C:Array Value):Wrote w (w.setRow g C) g:=
 ⟨setRow_size _ _ _,λb hb=>setRow_other _ _ _ _ hb,rfl,rfl,rfl⟩
theorem Z6p (hT:Z0e P Γ.tys) (I:Inv W0 M σ a w G xs) {t:TypeId} {y x:Operand} (ho:o.op= .store t y x) {τ:Ty} {p:Place} (ht:Z0z Γ.tys t=some τ) (hp:σ.peek y= .ptr p)
  {v:TVal} {σ1 σ2:State} (htk:σ.take x τ=some (v,σ1)) (hset:(σ1.loosen true p.root).setAt p v=some σ2):Z1p P W0 M o a w G xs σ2 .dead false:=by
 have hpr:=Z0w I y
 rw [hp] at hpr
 obtain ⟨_,hbx,hfl,hpr⟩:=hpr (by simp)
 obtain ⟨fp,G1,I1,hs,hτ,hR,hsh⟩:=Z10 I htk
 rw [hsh.cells] at hR
 unfold State.setAt at hset
 obtain ⟨c,hc,h2⟩:=Option.bind_eq_some_iff.1 hset
 obtain ⟨rr,hrr,rfl⟩:=Option.map_eq_some_iff.1 h2
 obtain ⟨bx,root,path⟩:=p
 simp only at hbx hfl hc hrr
 subst hbx
 have hb1:σ1.boxAt root=some c:=hc
 have hpr1:=hpr.sim (σ':=σ1) (G':=G1) (λq=>Z2B htk q) hs.ad
 have hfix:=Z57 I1 hb1 rfl hfl rfl hpr1
 obtain ⟨_,_,off,hval,hloc⟩:=hfix
 obtain ⟨G2,I2,hs2,hwho,⟨cc,T,hcc,hRc⟩,hptr⟩:=I1.takeBox hb1
 obtain ⟨u,hu,hut⟩:=Z3N hrr
 obtain ⟨cs,hcs⟩:=hloc w cc.toList
 simp only at hcs
 obtain ⟨f1,fi,f2,e1,e2,e3,e4,e5⟩:=Rp.flatLens hfl hRc hcs hu
 have hoff:off=Z0g c.τ path:=by
  simp only [Option.map_some,Option.some.injEq,Prod.mk.injEq] at e3
  rw [e3.2];omega
 have hnew:=e5 v _ fp rr.1 rr.2 hrr hut.symm hR
 rw [<-hoff] at hnew
 have hsz:=Z1w hfl hu
 have hccl:cc.size=size c.τ:=by have:=hRc.len.1;simpa using this
 obtain ⟨l,hta,_⟩:=Z0S ht
 have hvsz:(a.eval x).cells.size=size τ:=by have:=hR.len.1;rw [hτ] at this;simpa using this
 have huτ:size u.τ=size τ:=by rw [hut,hτ]
 have hrun:(execOp a.eval o).run P w= .ok .skip (w.setRow (G1.ad root) (Z0c cc.toList off (a.eval x).cells.toList).toArray):=by
  rw [Z03 ho]
  have hst:=Z4a (off:=off) hT hta hcc (λj hj hh=>by simp at hh) hvsz (by rw [hccl];omega) hR.ones
  simp only [execOp,hval,Sem.run_bind,hst,Result.andThen_ok,Sem.run_pure]
 have hwho2:G2.who (G1.ad root)=some (.a root):=(hs2.bx _ _).2 hwho
 have hnone:((σ1.loosen true root).putBox root none).boxAt root=none:=by
  rw [Z0E];split
  ·rfl
  ·rename_i hh;exact absurd ⟨rfl,Z1D hb1⟩ hh
 obtain ⟨I3,_,hl3⟩:=I2.patch hwho2 (.inr ⟨root,rfl,hnone⟩) (Wrote.setRow w (G1.ad root) (Z0c cc.toList off (a.eval x).cells.toList).toArray) (G2.F (G1.ad root)) (.inr (.inl ⟨root,rfl⟩))
 have hgf:G1.ad root ∉ f1++fp++f2:=by
  intro hm
  have:G2.who (G1.ad root)=some .x:=by
   refine I2.whoX _ ?_
   rw [e1]
   simp only [List.mem_append] at hm ⊢
   rcases hm with (hm | hm) | hm<;>simp [hm]
  rw [hwho2] at this;cases this
 have hnew2:Rp w G2.F G2.St G2.Al c.τ rr.2 (Z0c cc.toList off (a.eval x).cells.toList) rr.1 (f1++fp++f2):=by
  rw [hs2.F,hs2.St,hs2.Al];exact hnew
 have hnew3:=hl3 _ _ _ _ _ hnew2 hgf (.inr (.inl ⟨root,rfl⟩))
 have hI3:=I3.sub (ys:=(f1++fp++f2)++xs) (by
   intro b hb
   rw [e1]
   simp only [List.mem_append] at hb ⊢
   rcases hb with ((hb | hb) | hb) | hb<;>simp [hb]) (by
   have hp:(((f1++fp++f2)++xs)++fi).Perm (G1.fb root++(fp++xs)):=by
    rw [e1]
    refine List.perm_iff_count.2 λz=> ?_
    simp only [List.count_append]
    omega
   exact (List.nodup_append.1 (hp.nodup_iff.2 I2.nodX)).1)
 obtain ⟨G4,I4,_⟩:=hI3.addBox (i:=root) (g:=G1.ad root) (c:=(Z0c cc.toList off (a.eval x).cells.toList).toArray) (T:=T) (v:=⟨c.τ,c.ag,rr.1,rr.2⟩) (by
   simp only [State.putBox,Z0G];exact Z1D hb1) (setRow_heap w _ _ _ _ _ hcc) hwho2 hnew3 (λj hj=>by
   rw [Z1G];exact hptr j (by simpa [State.putBox,State.loosen,Z0b] using hj)) (.inr (by rw [<-hs2.ad]))
 have hst:((σ1.loosen true root).putBox root none).putBox root (some ⟨c.τ,c.ag,rr.1,rr.2⟩)=(σ1.loosen true root).setContent ⟨true,root,path⟩ ⟨c.τ,c.ag,rr.1,rr.2⟩:=by
  simp only [State.putBox,State.setContent,Z1z]
 rw [hst] at I4
 exact ⟨undef,_,G4,[],_,hrun,.inr ⟨rfl,rfl⟩,by simpa using I4,rfl,λh=>by cases h⟩
end
end Go.PI
namespace Go.PI
theorem Z3K {w w':World}:{p:List Step}->{τ:Ty}->{cs:List Value}->{base:Option (Nat×Nat)}->Z08 p=true->Z00 w τ cs base p=Z00 w' τ cs base p
 | [],τ,cs,base,_=>by rw [Z0Q,Z0Q]
 | .fst::p,.pair a b,cs,base,h=>by
  simp only [Z00]
  exact Z3K (p:=p) h
 | .snd::p,.pair a b,cs,base,h=>by
  simp only [Z00]
  exact Z3K (p:=p) h
 | .idx _::_,_,_,_,h=>by cases h
 | .fst::_,.int _,_,_,_=>by simp [Z00]
 | .fst::_,.bool,_,_,_=>by simp [Z00]
 | .fst::_,.str,_,_,_=>by simp [Z00]
 | .fst::_,.unit,_,_,_=>by simp [Z00]
 | .fst::_,.slice _,_,_,_=>by simp [Z00]
 | .snd::_,.int _,_,_,_=>by simp [Z00]
 | .snd::_,.bool,_,_,_=>by simp [Z00]
 | .snd::_,.str,_,_,_=>by simp [Z00]
 | .snd::_,.unit,_,_,_=>by simp [Z00]
 | .snd::_,.slice _,_,_,_=>by simp [Z00]
theorem Z2h {w w':World}:{p:List Step}->{τ:Ty}->{cs cs' r:List Value}->{base b:Option (Nat×Nat)}->Z08 p=true->Z00 w τ cs base p=some (r,b)->∃ r',Z00 w' τ cs' base p=some (r',b)
 | [],τ,cs,cs',r,base,b,_,h=>by
  rw [Z0Q] at h
  rw [Z0Q]
  cases h
  exact ⟨_,rfl⟩
 | .fst::p,.pair a b',cs,cs',r,base,b,hf,h=>by
  simp only [Z00] at h ⊢
  exact Z2h (p:=p) hf h
 | .snd::p,.pair a b',cs,cs',r,base,b,hf,h=>by
  simp only [Z00] at h ⊢
  exact Z2h (p:=p) hf h
 | .idx _::_,_,_,_,_,_,_,hf,_=>by cases hf
 | .fst::_,.int _,_,_,_,_,_,_,h=>by simp [Z00] at h
 | .fst::_,.bool,_,_,_,_,_,_,h=>by simp [Z00] at h
 | .fst::_,.str,_,_,_,_,_,_,h=>by simp [Z00] at h
 | .fst::_,.unit,_,_,_,_,_,_,h=>by simp [Z00] at h
 | .fst::_,.slice _,_,_,_,_,_,_,h=>by simp [Z00] at h
 | .snd::_,.int _,_,_,_,_,_,_,h=>by simp [Z00] at h
 | .snd::_,.bool,_,_,_,_,_,_,h=>by simp [Z00] at h
 | .snd::_,.str,_,_,_,_,_,_,h=>by simp [Z00] at h
 | .snd::_,.unit,_,_,_,_,_,_,h=>by simp [Z00] at h
 | .snd::_,.slice _,_,_,_,_,_,_,h=>by simp [Z00] at h
theorem Z3W {w w':World} {F:Nat->Nat} {St Al:Nat->Prop}:{path:List Step}->{τ:Ty}->{tg:List Tag}->{cs:List Value}->{x:El τ}->{fp:List Nat}->{base:Option (Nat×Nat)}->{r:List Value}->{b:Option (Nat×Nat)} ->
  Rp w' F St Al τ tg cs x fp->Z2M path=true->Z00 w τ cs base path=some (r,b)->∃ r',Z00 w' τ cs base path=some (r',b)
 | [],τ,tg,cs,x,fp,base,r,b,h,_,hl=>by
  rw [Z0Q] at hl ⊢
  exact ⟨_,hl⟩
 | .fst::p,.pair a b',tg,cs,x,fp,base,r,b,h,ho,hl=>by
  obtain ⟨f1,f2,rfl,h1,h2⟩:=h.pair_parts
  simp only [Z00] at hl ⊢
  exact Z3W (path:=p) h1 ho hl
 | .snd::p,.pair a b',tg,cs,x,fp,base,r,b,h,ho,hl=>by
  obtain ⟨f1,f2,rfl,h1,h2⟩:=h.pair_parts
  simp only [Z00] at hl ⊢
  exact Z3W (path:=p) h2 ho hl
 | .idx i::p,.slice e,tg,cs,x,fp,base,r,b,h,ho,hl=>by
  obtain ⟨t,a,cap,rfl,rfl,hlc,h⟩:=h
  simp only [Z00] at hl ⊢
  split at hl
  ·rename_i b0 o len cap' heq
   simp only [List.cons.injEq,Value.slice.injEq,and_true] at heq
   obtain ⟨rfl,rfl,rfl⟩:=heq
   split at hl
   ·rename_i hi
    split at hl
    ·rename_i cse hce
     simp only [hi,if_true]
     have hex:∃ cs',Z05 w' b0 (o+i * size e) (size e)=some cs':=by
      rcases h with ⟨_,hn,_⟩ | ⟨ho',b1,o1,fps,hbb,hal,rfl,hlf,hr,hF,he⟩ | ⟨ho',rfl,h⟩
      ·cases hn
      ·simp only [Option.some.injEq,Addr.mk.injEq,and_true] at hbb
       obtain ⟨rfl,rfl⟩:=hbb
       obtain ⟨c2,hc2,_⟩:=he i hi
       exact ⟨c2,hc2⟩
      ·rcases h with h | ⟨b1,o1,hbb,htb,hF,he⟩
       ·subst h;simp at hi
       ·simp only [Option.some.injEq,Addr.mk.injEq,and_true] at hbb
        obtain ⟨rfl,rfl⟩:=hbb
        obtain ⟨c2,hc2,_⟩:=he i hi
        exact ⟨c2,hc2⟩
     obtain ⟨cs',hcs'⟩:=hex
     rw [hcs']
     exact Z2h (p:=p) ho hl
    ·cases hl
   ·cases hl
  ·cases hl
 | .fst::_,.int _,_,_,_,_,_,_,_,_,_,hl=>by simp [Z00] at hl
 | .fst::_,.bool,_,_,_,_,_,_,_,_,_,hl=>by simp [Z00] at hl
 | .fst::_,.str,_,_,_,_,_,_,_,_,_,hl=>by simp [Z00] at hl
 | .fst::_,.unit,_,_,_,_,_,_,_,_,_,hl=>by simp [Z00] at hl
 | .fst::_,.slice _,_,_,_,_,_,_,_,_,_,hl=>by simp [Z00] at hl
 | .snd::_,.int _,_,_,_,_,_,_,_,_,_,hl=>by simp [Z00] at hl
 | .snd::_,.bool,_,_,_,_,_,_,_,_,_,hl=>by simp [Z00] at hl
 | .snd::_,.str,_,_,_,_,_,_,_,_,_,hl=>by simp [Z00] at hl
 | .snd::_,.unit,_,_,_,_,_,_,_,_,_,hl=>by simp [Z00] at hl
 | .snd::_,.slice _,_,_,_,_,_,_,_,_,_,hl=>by simp [Z00] at hl
 | .idx _::_,.int _,_,_,_,_,_,_,_,_,_,hl=>by simp [Z00] at hl
 | .idx _::_,.bool,_,_,_,_,_,_,_,_,_,hl=>by simp [Z00] at hl
 | .idx _::_,.str,_,_,_,_,_,_,_,_,_,hl=>by simp [Z00] at hl
 | .idx _::_,.unit,_,_,_,_,_,_,_,_,_,hl=>by simp [Z00] at hl
 | .idx _::_,.pair _ _,_,_,_,_,_,_,_,_,_,hl=>by simp [Z00] at hl
section
variable {W0:Base} {M:Nat->Prop} {σ σ':State} {a:Act} {w w':World} {G G':Ghost} {xs ys:List Nat}
theorem Z4J (σ:State) (i:Nat) (tv:TV) (j:Nat):(σ.put i tv).slot j=if i=j/\i<σ.slots.length then tv else (σ.loosen false i).slot j:=by
 unfold State.put State.slot
 simp only []
 rw [Z0U]
 simp [State.loosen,Z0b]
theorem Z5r (σ:State) (i:Nat) (tv:TV):(σ.put i tv).slots.length=σ.slots.length:=by simp [State.put,State.loosen,Z0b,Z0G]
theorem Z4R (a:Act) (i:Nat):a.put (some i) (a.tmps.getD i undef)=a:=by
 simp only [Act.put]
 have:a.tmps.setIfInBounds i (a.tmps.getD i undef)=a.tmps:=by
  apply Array.ext
  ·simp
  ·intro j h1 h2
   simp only [Array.getElem_setIfInBounds h2]
   split
   ·rename_i h
    subst h
    rw [Array.getD_eq_getD_getElem?,Array.getElem?_eq_getElem h2]
    rfl
   ·rfl
 rw [this]
structure RootAs (σ:State) (G:Ghost) (w:World) (σ':State) (G':Ghost) (w':World) (a:Act) (b:Bool) (r:Nat):Prop where
 ct:σ'.ct ⟨b,r,[]⟩=σ.ct ⟨b,r,[]⟩
 has:∃ c,σ'.content ⟨b,r,[]⟩=some c
 loc:Z09 G' a w' ⟨b,r,[]⟩=Z09 G a w ⟨b,r,[]⟩
theorem Z9f (I':Inv W0 M σ' a w' G' ys) {p:Place} (H:RootAs σ G w σ' G' w' a p.box p.root) {tv:TV} {v:Value} {fp:List Nat} (hk:Z4h p tv=true) (h:Z01 σ G a w tv v fp):Z01 σ' G' a w' tv v []:=by
 cases tv with
 | ref q ag=>
  obtain ⟨qb,qr,qp⟩:=q
  simp only [Z4h,Bool.and_eq_true,beq_iff_eq] at hk
  obtain ⟨_,⟨rfl,rfl⟩,hf⟩:=hk
  obtain ⟨rfl,h⟩:=h
  refine ⟨rfl,?_⟩
  have hct:σ'.ct ⟨p.box,p.root,qp⟩=σ.ct ⟨p.box,p.root,qp⟩:=H.ct
  rcases h with h | ⟨cs,base,⟨τ,l,b,h1,h2,h3⟩,h4,h5⟩
  ·exact .inl (hct.trans h)
  ·refine .inr ⟨cs,base,⟨τ,l,b,hct.trans h1,?_,?_⟩,h4,h5⟩
   ·have:=H.loc
    exact this.trans h2
   ·rw [<-h3]
    exact Z3K hf
 | eref q=>
  obtain ⟨qb,qr,qp⟩:=q
  simp only [Z4h,Bool.and_eq_true,beq_iff_eq] at hk
  obtain ⟨_,⟨rfl,rfl⟩,hf⟩:=hk
  obtain ⟨rfl,h⟩:=h
  refine ⟨rfl,?_⟩
  have hct:σ'.ct ⟨p.box,p.root,qp⟩=σ.ct ⟨p.box,p.root,qp⟩:=H.ct
  rcases h with h | ⟨cs,b,⟨τ,l,bs,h1,h2,h3⟩,h4⟩
  ·exact .inl (hct.trans h)
  ·obtain ⟨c,hc⟩:=H.has
   obtain ⟨l',bs',fp',hrl,hR,_⟩:=Z0H I' hc
   have hl:Z09 G' a w' ⟨p.box,p.root,qp⟩=some (l,bs):=by
    have:=H.loc
    exact this.trans h2
   have hrl:Z09 G' a w' ⟨p.box,p.root,qp⟩=some (l',bs'):=hrl
   rw [hl] at hrl
   cases hrl
   have hτ:c.τ=τ:=by
    have h6:σ'.ct ⟨p.box,p.root,[]⟩=some c.τ:=by rw [State.ct,hc];rfl
    have h7:σ'.ct ⟨p.box,p.root,[]⟩=some τ:=hct.trans h1
    rw [h6] at h7
    simpa using h7
   subst hτ
   obtain ⟨r',hr'⟩:=Z3W (w:=w) hR hf h3
   exact .inr ⟨r',b,⟨_,l,bs,hct.trans h1,hl,hr'⟩,h4⟩
 | _=>cases hk
theorem RootAs.put {p:Place} (H:RootAs σ G w σ' G' w' a p.box p.root) {i:Nat} {t:TV} {G2:Ghost} (hs:Sim G' G2) (hd:σ'.slot i= .dead):RootAs σ G w (σ'.put i t) G2 w' a p.box p.root:=by
 have hcon:(σ'.put i t).content ⟨p.box,p.root,[]⟩=σ'.content ⟨p.box,p.root,[]⟩:=by
  cases hb:p.box with
  | true=>rfl
  | false=>
   obtain ⟨c,hc⟩:=H.has
   rw [hb] at hc
   simp only [State.content] at hc ⊢
   rw [Z4J]
   by_cases hi:i=p.root
   ·subst hi
    rw [hd] at hc
    cases hc
   ·rw [if_neg (λh=>hi h.1),Z0i]
    cases hsl:σ'.slot p.root<;>rw [hsl] at hc<;>first | rfl | cases hc
 have hrl:Z09 G2 a w' ⟨p.box,p.root,[]⟩=Z09 G' a w' ⟨p.box,p.root,[]⟩:=by
  simp only [Z09]
  rw [hs.ad]
 exact ⟨by rw [State.ct,hcon];exact H.ct,by rw [hcon];exact H.has,hrl.trans H.loc⟩
theorem Inv.restore {p:Place} (hS:∀ i,i<σ.slots.length->∃ fp,Z01 σ G a w (σ.slot i) (a.tmps.getD i undef) fp) (hpin:∀ i,i<W0.np->a.tmps.getD i undef=W0.arg i) :
  (l:List TV)->(i:Nat)->(σ':State)->(G':Ghost)->(∀ j,Z0v .dead l j=σ.slot (i+j))->Inv W0 M σ' a w' G' ys->RootAs σ G w σ' G' w' a p.box p.root ->
  ∃ G'',Inv W0 M (Z0X p l i σ') a w' G'' ys/\RootAs σ G w (Z0X p l i σ') G'' w' a p.box p.root/\Sim G' G''
 | [],i,σ',G',_,I',H=>⟨G',I',H,Sim.refl G'⟩
 | t::l,i,σ',G',hl,I',H=>by
  have ht:t=σ.slot i:=by
   have:=hl 0
   rw [Z0t] at this
   simpa using this
  have hl':∀ j,Z0v .dead l j=σ.slot (i+1+j):=λj=>by
   have:=hl (j+1)
   rw [Z0q] at this
   rw [this]
   congr 1
   omega
  simp only [Z0X]
  split
  ·rename_i hd
   split
   ·rename_i hk
    have hi:i<σ.slots.length:=Z0W (by
     rw [<-ht]
     intro h
     rw [h] at hk
     cases hk)
    obtain ⟨fp,hsr⟩:=hS i hi
    rw [<-ht] at hsr
    have hsr':=Z9f I' H hk hsr
    obtain ⟨G2,I2,hs2⟩:=Inv.put (fp:=[]) (xs:=ys) I' (i:=i) (tv:=t) (v:=a.tmps.getD i undef) hsr' (hpin i) (.inr rfl)
    rw [Z4R] at I2
    obtain ⟨G3,I3,H3,hs3⟩:=Inv.restore hS hpin l (i+1) _ G2 hl' I2 (H.put hs2 hd)
    exact ⟨G3,I3,H3,hs2.trans hs3⟩
   ·exact Inv.restore hS hpin l (i+1) σ' G' hl' I' H
  ·exact Inv.restore hS hpin l (i+1) σ' G' hl' I' H
end
end Go.PI
namespace Go.PI
theorem Z6P:(l l':List TV)->l.length=l'.length->(∀ j,Z0v .dead l j=Z0v .dead l' j)->l=l'
 | [],[],_,_=>rfl
 | [],_::_,h,_=>by simp at h
 | _::_,[],h,_=>by simp at h
 | x::l,y::l',h,hj=>by
  have h0:=hj 0
  simp only [Z0y,Z0t,Z0q] at h0
  rw [h0,Z6P l l' (by simpa using h) λj=>hj (j+1)]
theorem State.ext' {σ σ':State} (h1:σ.slots.length=σ'.slots.length) (h2:∀ j,σ.slot j=σ'.slot j) (h3:σ.boxes=σ'.boxes):σ=σ':=by
 cases σ;cases σ'
 simp only at h1 h3
 subst h3
 congr
 exact Z6P _ _ h1 h2
theorem TV.loosen_idem (b:Bool) (r:Nat) (tv:TV):TV.loosen b r (TV.kill (TV.loosen b r tv))=TV.kill (TV.loosen b r tv):=by
 have hd:TV.loosen b r .dead= .dead:=rfl
 cases tv with
 | ref p ag=>
  have hk:TV.kill (.ref p ag)= .ref p ag:=rfl
  by_cases h:(p.box==b&&p.root==r)=true
  ·have h1:TV.loosen b r (.ref p ag)= .dead:=if_pos h
   rw [h1];rfl
  ·have h1:TV.loosen b r (.ref p ag)= .ref p ag:=if_neg h
   rw [h1,hk,h1]
 | eref p=>
  have hk:TV.kill (.eref p)= .eref p:=rfl
  by_cases h:(p.box==b&&p.root==r)=true
  ·have h1:TV.loosen b r (.eref p)= .dead:=if_pos h
   rw [h1];rfl
  ·have h1:TV.loosen b r (.eref p)= .eref p:=if_neg h
   rw [h1,hk,h1]
 | tref t ags=>
  have hk:TV.kill (.tref t ags)= .tref t ags:=rfl
  by_cases h:(!b&&t==r)=true
  ·have h1:TV.loosen b r (.tref t ags)= .dead:=if_pos h
   rw [h1];rfl
  ·have h1:TV.loosen b r (.tref t ags)= .tref t ags:=if_neg h
   rw [h1,hk,h1]
 | val v=>
  have h1:TV.loosen b r (.val v)= .val v:=rfl
  rw [h1]
  rcases TV.kill_or (.val v) with h | h<;>rw [h]<;>rfl
 | tup v ags=>
  have h1:TV.loosen b r (.tup v ags)= .tup v ags:=rfl
  rw [h1]
  rcases TV.kill_or (.tup v ags) with h | h<;>rw [h]<;>rfl
 | eptr v t=>
  have h1:TV.loosen b r (.eptr v t)= .eptr v t:=rfl
  rw [h1]
  rcases TV.kill_or (.eptr v t) with h | h<;>rw [h]<;>rfl
 | _=>rfl
section
variable {W0:Base} {M:Nat->Prop} {σ:State} {a:Act} {w w':World} {G:Ghost} {xs:List Nat} {P:Program} {tys:List (TypeId×Ty×List TypeId)}
variable {R:Type} {Γ:Env R} {d:Option Nat} {type:TypeId} {o:Oper} {k:TV->State->Option R} {r:R}
theorem Z1C {v:TVal}:v.allO=true↔∀ t∈v.tg,t= .O:=by
 unfold TVal.allO
 rw [List.all_eq_true]
 constructor
 ·intro h t ht;have:=h t ht;cases t<;>simp_all [Tag.isO]
 ·intro h t ht;rw [h t ht];rfl
theorem Z3L {σ':State} (h:σ.noN) (hs:∀ i,σ'.slot i=σ.slot i\/σ'.slot i= .dead) (hb:∀ i,σ'.boxAt i=σ.boxAt i\/σ'.boxAt i=none):σ'.noN:=by
 refine ⟨λi=> ?_,λi v hv=> ?_⟩
 ·rcases hs i with h1 | h1
  ·rw [h1];exact h.1 i
  ·rw [h1];rfl
 ·rcases hb i with h1 | h1
  ·rw [h1] at hv;exact h.2 i v hv
  ·rw [h1] at hv;cases hv
theorem Z6q (hT:Z0e P Γ.tys) (I:Inv W0 M σ a w G xs) {t:TypeId} {y x:Operand} (ho:o.op= .store t y x) {τ:Ty} {p:Place} (ht:Z0z Γ.tys t=some τ) (hp:σ.peek y= .eref p)
  {v:TVal} {σ1 σ2:State} (htk:σ.take x τ=some (v,σ1)) (hvO:v.allO=true) (hnf:Z08 p.path=false) (hval:p.box=false->∃ c,σ1.slot p.root= .val c) {c:TVal} (hc1:σ1.content p=some c) (hcO:c.allO=true)
  (hset:(σ1.loosen p.box p.root).kill.setAt p v=some σ2):Z1p P W0 M o a w G xs (Z0X p σ1.slots 0 σ2) .dead false:=by
 have hpr:=Z0w I y
 rw [hp] at hpr
 obtain ⟨_,hpr⟩:=hpr (by simp)
 obtain ⟨fp,G1,I1,hs,hτ,hR,hsh⟩:=Z10 I htk
 rw [hsh.cells] at hR
 have hpr1:=hpr.sim (σ':=σ1) (G':=G1) (λq=>Z2B htk q) hs.ad
 have hpl1:∃ cs b,Z0C σ1 G1 a w p cs (some b)/\a.eval y= .pointer (some ⟨b.1,b.2,none⟩):=by
  rcases hpr1 with h | h
  ·rw [State.ct,hc1] at h;cases h
  ·exact h
 obtain ⟨cs,⟨b',o'⟩,⟨τc,l,bs,hct,hrl,hloc⟩,hptrv⟩:=hpl1
 have hτc:τc=c.τ:=by rw [State.ct,hc1] at hct;simpa using hct.symm
 subst hτc
 simp only at hptrv
 obtain ⟨l',bs',fpc,hrl',hRc,hwc⟩:=Z0H I1 hc1
 rw [hrl] at hrl'
 cases hrl'
 have hcN:c.noN=true:=by
  rw [TVal.noN_iff];intro t ht;rw [Z1C.1 hcO t ht];rfl
 have hck:(σ1.loosen p.box p.root).kill.content p=some c:=by
  obtain ⟨bx,r,path⟩:=p
  cases bx with
  | true=>
   simp only [State.content] at hc1 ⊢
   rw [Z2U]
   show Z2T (σ1.boxAt r)=some c
   rw [hc1];simp [Z2T,hcN]
  | false=>
   simp only [State.content] at hc1 ⊢
   obtain ⟨c',hc'⟩:=hval rfl
   simp only at hc'
   rw [hc'] at hc1
   cases hc1
   rw [Z1y,Z0i,hc']
   simp [TV.loosen,TV.kill,hcN]
 unfold State.setAt at hset
 rw [hck] at hset
 simp only [Option.bind_some] at hset
 obtain ⟨rr,hrr,rfl⟩:=Option.map_eq_some_iff.1 hset
 obtain ⟨u,hu,hut⟩:=Z3N hrr
 have hfpw:∀ z∈fpc,G1.who z=some (if p.box then .c p.root else .s p.root):=by
  intro z hz
  rcases hwc with ⟨hb,_,rfl,_⟩ | ⟨hb,_,rfl,_⟩
  ·rw [hb];exact I1.whoC _ z hz
  ·rw [hb];exact I1.whoS _ z hz
 have hnod:fpc.Nodup:=by
  rcases hwc with ⟨_,_,rfl,_⟩ | ⟨_,_,rfl,_⟩
  ·exact I1.nodC _
  ·exact I1.nodS _
 obtain ⟨fpo,fpi,L⟩:=Rp.lens (base:=bs) hRc (Z1C.1 hcO) hnod (λz hz hm=>by
  rcases hwc with ⟨hb,hbx,_,hbs⟩ | ⟨_,_,_,hbs,_⟩
  ·rw [hbs] at hz;cases hz
   have h1:=hfpw _ hm
   rw [(I1.box _ _ hbx).2,hb] at h1
   cases h1
  ·rw [hbs] at hz;cases hz) hloc hu
 obtain ⟨b2,o2,m,hb2,hbo,hom,hrow⟩:=L.deep hnf
 simp only [Option.some.injEq,Prod.mk.injEq] at hb2
 obtain ⟨rfl,rfl⟩:=hb2
 obtain ⟨C,T,fr,hC,hmC,hth⟩:=hrow
 obtain ⟨lt,hta,_⟩:=Z0S ht
 have hvsz:(a.eval x).cells.size=size τ:=by have:=hR.len.1;rw [hτ] at this;simpa using this
 have huτ:size u.τ=size τ:=by rw [hut,hτ]
 have hrun:(execOp a.eval o).run P w= .ok .skip (w.setRow b' (Z0c C.toList o' (a.eval x).cells.toList).toArray):=by
  rw [Z03 ho]
  have hst:=Z4a (off:=o') hT hta hC hth hvsz (by omega) hR.ones
  simp only [execOp,hptrv,Sem.run_bind,hst,Result.andThen_ok,Sem.run_pure]
 have hb'c:b'∈fpc:=L.perm.symm.subset (List.mem_append_left _ hbo)
 have hput:∀ (G2:Ghost) (F':Nat->Nat),G2.F=G1.F->G2.Al=G1.Al->F'=G2.F->∀ z∈fpo,Put w G1.F G1.Al (w.setRow b' (Z0c C.toList o' (a.eval x).cells.toList).toArray) F' G2.Al (some (b',o')) (a.eval x).cells.toList z:=by
  intro G2 F' h1 h2 h3 z hz
  refine ⟨by rw [h3,h1],λh=>by rw [h2];exact h,?_⟩
  by_cases hzb:z=b'
  ·subst hzb
   rw [setRow_heap w _ _ _ _ _ hC]
   simp only [Z7p,Z0m]
   rw [Array.getElem?_modify]
   simp [hC]
  ·rw [setRow_other _ _ _ _ hzb]
   exact (Z16 hzb).symm
 obtain ⟨fs1,Ia,_⟩:=I1.loosen p.box p.root
 obtain ⟨fs2,Ib,hkeep⟩:=Ia.kill
 have hsim2:Sim G1 { { G1 with fs:=fs1 } with fs:=fs2 }:=(Sim.fs G1 fs1).trans (Sim.fs _ fs2)
 obtain ⟨bx,root,path⟩:=p
 have hvN:(∀ t∈v.tg,t.isN=false):=λt ht=>by rw [Z1C.1 hvO t ht];rfl
 cases bx with
 | true=>
  have hbk:(σ1.loosen true root).kill.boxAt root=some c:=hck
  obtain ⟨G3,I3,hs3,hwho,⟨cc,T3,hcc,hRc3⟩,hptr⟩:=Ib.takeBox hbk
  have hidem:(σ1.loosen true root).kill.loosen true root=(σ1.loosen true root).kill:=by
   refine State.ext' (by simp [State.loosen,Z0b,State.kill,Z0b]) (λj=> ?_) rfl
   rw [Z0i,Z1y,Z0i,TV.loosen_idem]
  rw [hidem] at I3
  have hfpc:fpc=G1.fb root:=by
   rcases hwc with ⟨_,_,h,_⟩ | ⟨h,_⟩
   ·exact h
   ·cases h
  have hfb:({ { G1 with fs:=fs1 } with fs:=fs2 }:Ghost).fb root=fpc:=hfpc.symm
  rw [hfb] at I3 hRc3
  have hwb:G3.who b'=some .x:=I3.whoX _ (List.mem_append_left _ hb'c)
  have hnoN:((σ1.loosen true root).kill.putBox root none).noN:=Z3L (Z2u _) (λ_=> .inl rfl) λi=>by
   rw [Z0E];split
   ·exact .inr rfl
   ·exact .inl rfl
  obtain ⟨I4,_,hl4⟩:=I3.patch hwb (.inl rfl) (Wrote.setRow w b' (Z0c C.toList o' (a.eval x).cells.toList).toArray) (G3.F b') (.inl hnoN)
  have hF4:(λz=>if z=b' then G3.F b' else G3.F z)=G3.F:=by funext z;split<;>simp_all
  have hs13:=hsim2.trans hs3
  have hR3:Rp w G3.F G3.St G3.Al v.τ v.tg (a.eval x).cells.toList v.x fp:=by rw [hs13.F,hs13.St,hs13.Al];exact hR
  have hb'fp:b' ∉ fp:=λhm=>by
   have:=(List.nodup_append.1 I3.nodX).2.2 b' hb'c b' (List.mem_append_left _ hm) rfl
   exact this
  have hR4:=hl4 _ _ _ _ _ hR3 hb'fp (.inl hvN)
  obtain ⟨fpn,hpn,htg',hRn⟩:=L.put _ _ _ _ v _ fp rr.1 rr.2 hrr hut.symm (Z1C.1 hvO) hR4 (hput G3 _ hs13.F hs13.Al hF4)
  simp only [hnf] at hRn
  have hadne:G1.ad root≠b':=λh=>by
   rw [<-h] at hwb
   have h2:=(hs13.bx (G1.ad root) root).2 ((I1.box _ _ (show σ1.boxAt root=some c from hc1)).2)
   rw [hwb] at h2;cases h2
  have hcc':(w.setRow b' (Z0c C.toList o' (a.eval x).cells.toList).toArray).heap[G1.ad root]? = some (.cells cc T3 (0,0)):=by
   rw [setRow_other _ _ _ _ hadne];exact hcc
  have hlcc:l=cc.toList:=by
   have hcc2:w.heap[G1.ad root]? = some (.cells cc T3 (0,0)):=hcc
   simp only [Z09,hcc2,Option.some.injEq,Prod.mk.injEq] at hrl
   exact hrl.1.symm
  have hI4:=I4.sub (ys:=fpn++xs) (by
   intro z hz
   simp only [List.mem_append] at hz ⊢
   rcases hz with hz | hz
   ·have:=hpn.subset hz
    simp only [List.mem_append] at this
    rcases this with h | h
    ·exact .inl (L.perm.symm.subset (List.mem_append_left _ h))
    ·exact .inr (.inl h)
   ·exact .inr (.inr hz)) (by
   have hp:((fpn++xs)++fpi).Perm (fpc++(fp++xs)):=by
    refine List.perm_iff_count.2 λz=> ?_
    have h1:=(List.perm_iff_count.1 hpn) z
    have h2:=(List.perm_iff_count.1 L.perm) z
    simp only [List.count_append] at h1 h2 ⊢
    omega
   exact (List.nodup_append.1 (hp.nodup_iff.2 I3.nodX)).1)
  obtain ⟨G5,I5,_,_,_,_,had5⟩:=hI4.addBox (i:=root) (g:=G1.ad root) (c:=cc) (T:=T3) (v:=⟨c.τ,c.ag,rr.1,rr.2⟩) (by
   simp only [State.putBox,Z0G];exact Z1D hbk) hcc' ((hs3.bx _ _).2 hwho) (by rw [<-hlcc];exact hRn) (λj hj=>by
   rw [Z1G]
   have:=hptr j (by simpa [State.putBox,State.loosen,Z0b,State.kill,Z0b] using hj)
   rw [hidem] at this
   exact this) (.inr (by rw [<-hs13.ad]))
  have hst:((σ1.loosen true root).kill.putBox root none).putBox root (some ⟨c.τ,c.ag,rr.1,rr.2⟩)=(σ1.loosen true root).kill.setContent ⟨true,root,path⟩ ⟨c.τ,c.ag,rr.1,rr.2⟩:=by
   simp only [State.putBox,State.setContent,Z1z]
  rw [hst] at I5
  have hbl:root<(σ1.loosen true root).kill.boxes.length:=Z1D hbk
  have hnew:((σ1.loosen true root).kill.setContent ⟨true,root,path⟩ ⟨c.τ,c.ag,rr.1,rr.2⟩).content ⟨true,root,[]⟩=some ⟨c.τ,c.ag,rr.1,rr.2⟩:=by
   show ((σ1.loosen true root).kill.putBox root (some ⟨c.τ,c.ag,rr.1,rr.2⟩)).boxAt root=_
   rw [Z0E,if_pos ⟨rfl,hbl⟩]
  have had:G5.ad root=G1.ad root:=by rw [had5];exact if_pos rfl
  obtain ⟨G6,I6,_,_⟩:=Inv.restore (p:=⟨true,root,path⟩) (λi hi=>⟨_,I1.slot i hi⟩) I.pin σ1.slots 0 _ G5 (λj=>by rw [Nat.zero_add];rfl) I5 ⟨by
    have h1:σ1.ct ⟨true,root,[]⟩=some c.τ:=by
     have:σ1.content ⟨true,root,[]⟩=some c:=hc1
     rw [State.ct,this];rfl
    show (((σ1.loosen true root).kill.setContent ⟨true,root,path⟩ ⟨c.τ,c.ag,rr.1,rr.2⟩).content ⟨true,root,[]⟩).map (·.τ)=_
    rw [hnew,h1];rfl,⟨_,hnew⟩,by
    have hcc2:w.heap[G1.ad root]? = some (.cells cc T3 (0,0)):=hcc
    simp only [Z09]
    rw [had,hcc',hcc2]⟩
  exact ⟨undef,_,G6,[],_,hrun,.inr ⟨rfl,rfl⟩,by simpa using I6,rfl,λh=>by cases h⟩
 | false=>
  obtain ⟨c',hc'⟩:=hval rfl
  simp only at hc'
  have:c'=c:=by simp only [State.content,hc'] at hc1;simpa using hc1
  subst this
  have hsk:(σ1.loosen false root).kill.slot root= .val c':=by
   rw [Z1y,Z0i,hc']
   simp [TV.loosen,TV.kill,hcN]
  have hri:=Z0W (σ:=σ1) (i:=root) (by rw [hc'];simp)
  obtain ⟨G3,I3,hs3,hsh3,hRc3⟩:=Ib.takeSlot hsk
  have hfs1:fs2 root=fpc:=by
   rw [hkeep root (by rw [hsk,Z0i,hc'];rfl)]
   have hfsk:fs1 root=G1.fs root:=by
    have:=I1.loosen false root
    exact ‹∀ i,(σ1.loosen false root).slot i=σ1.slot i->fs1 i=G1.fs i› root (by rw [Z0i,hc'];rfl)
   rcases hwc with ⟨h,_⟩ | ⟨_,_,h,_⟩
   ·cases h
   ·rw [h];exact hfsk
  have hfb:({ { G1 with fs:=fs1 } with fs:=fs2 }:Ghost).fs root=fpc:=hfs1
  rw [hfb] at I3 hRc3
  have hwb:G3.who b'=some .x:=I3.whoX _ (List.mem_append_left _ hb'c)
  have hnoN:((σ1.loosen false root).kill.empty root).noN:=Z3L (Z2u _) (λi=>by
   rw [Z3t]
   split
   ·exact .inr rfl
   ·rw [Z0i];exact TV.loosen_or _ _ _) λi=> .inl rfl
  obtain ⟨I4,_,hl4⟩:=I3.patch hwb (.inl rfl) (Wrote.setRow w b' (Z0c C.toList o' (a.eval x).cells.toList).toArray) (G3.F b') (.inl hnoN)
  have hF4:(λz=>if z=b' then G3.F b' else G3.F z)=G3.F:=by funext z;split<;>simp_all
  have hs13:=hsim2.trans hs3
  have hR3:Rp w G3.F G3.St G3.Al v.τ v.tg (a.eval x).cells.toList v.x fp:=by rw [hs13.F,hs13.St,hs13.Al];exact hR
  have hb'fp:b' ∉ fp:=λhm=>by
   have:=(List.nodup_append.1 I3.nodX).2.2 b' hb'c b' (List.mem_append_left _ hm) rfl
   exact this
  have hR4:=hl4 _ _ _ _ _ hR3 hb'fp (.inl hvN)
  obtain ⟨fpn,hpn,htg',hRn⟩:=L.put _ _ _ _ v _ fp rr.1 rr.2 hrr hut.symm (Z1C.1 hvO) hR4 (hput G3 _ hs13.F hs13.Al hF4)
  simp only [hnf] at hRn
  have hI4:=I4.sub (ys:=fpn++xs) (by
   intro z hz
   simp only [List.mem_append] at hz ⊢
   rcases hz with hz | hz
   ·have:=hpn.subset hz
    simp only [List.mem_append] at this
    rcases this with h | h
    ·exact .inl (L.perm.symm.subset (List.mem_append_left _ h))
    ·exact .inr (.inl h)
   ·exact .inr (.inr hz)) (by
   have hp:((fpn++xs)++fpi).Perm (fpc++(fp++xs)):=by
    refine List.perm_iff_count.2 λz=> ?_
    have h1:=(List.perm_iff_count.1 hpn) z
    have h2:=(List.perm_iff_count.1 L.perm) z
    simp only [List.count_append] at h1 h2 ⊢
    omega
   exact (List.nodup_append.1 (hp.nodup_iff.2 I3.nodX)).1)
  have hll:l=Z02 (a.tmps.getD root undef):=by
   simp only [Z09,Option.some.injEq,Prod.mk.injEq] at hrl
   exact hrl.1.symm
  rw [hll] at hRn
  obtain ⟨G5,I5,_⟩:=hI4.put (i:=root) (tv:= .val ⟨c'.τ,c'.ag,rr.1,rr.2⟩) (v:=a.tmps.getD root undef) ⟨hsh3,hRn⟩ (λhi=>I.pin root hi) (.inr rfl)
  have hact:a.put (some root) (a.tmps.getD root undef)=a:=by
   have hlt:root<a.tmps.size:=by rw [I1.len];exact hri
   simp only [Act.put]
   have:a.tmps.setIfInBounds root (a.tmps.getD root undef)=a.tmps:=by
    apply Array.ext
    ·simp
    ·intro i h1 h2
     simp only [Array.getElem_setIfInBounds h2]
     split
     ·rename_i h;subst h;rfl
     ·rfl
   rw [this]
  rw [hact] at I5
  have hst:((σ1.loosen false root).kill.empty root).put root (.val ⟨c'.τ,c'.ag,rr.1,rr.2⟩)=(σ1.loosen false root).kill.setContent ⟨false,root,path⟩ ⟨c'.τ,c'.ag,rr.1,rr.2⟩:=by
   refine State.ext' ?_ (λj=> ?_) ?_
   ·rw [Z5r,Z2j];exact Z5r _ _ _
   ·rw [Z4J,Z0O hck,hsk]
    have hlen:((σ1.loosen false root).kill.empty root).slots.length=σ1.slots.length:=by
     rw [State.empty,Z5r];simp [State.loosen,Z0b,State.kill,Z0b]
    have hlen2:(σ1.loosen false root).kill.slots.length=σ1.slots.length:=by simp [State.loosen,Z0b,State.kill,Z0b]
    rw [hlen,hlen2]
    by_cases hj:root=j
    ·subst hj;simp [hri]
    ·simp only [hj,false_and,if_false]
     rw [Z0i,Z3t]
     simp only [hj,false_and,if_false]
     rw [Z0i,Z1y,Z0i,TV.loosen_idem,TV.loosen_idem]
   ·simp only [State.setContent,hsk];rfl
  rw [hst] at I5
  have hnew:((σ1.loosen false root).kill.setContent ⟨false,root,path⟩ ⟨c'.τ,c'.ag,rr.1,rr.2⟩).content ⟨false,root,[]⟩=some ⟨c'.τ,c'.ag,rr.1,rr.2⟩:=by
   have hl:root<(σ1.loosen false root).kill.slots.length:=Z0W (by rw [hsk];simp)
   simp only [State.content]
   rw [Z0O hck,if_pos ⟨rfl,hl⟩,hsk]
  obtain ⟨G6,I6,_,_⟩:=Inv.restore (p:=⟨false,root,path⟩) (λi hi=>⟨_,I1.slot i hi⟩) I.pin σ1.slots 0 _ G5 (λj=>by rw [Nat.zero_add];rfl) I5 ⟨by
    have h1:σ1.ct ⟨false,root,[]⟩=some c'.τ:=by
     have:σ1.content ⟨false,root,[]⟩=some c':=hc1
     rw [State.ct,this];rfl
    show (((σ1.loosen false root).kill.setContent ⟨false,root,path⟩ ⟨c'.τ,c'.ag,rr.1,rr.2⟩).content ⟨false,root,[]⟩).map (·.τ)=_
    rw [hnew,h1];rfl,⟨_,hnew⟩,rfl⟩
  exact ⟨undef,_,G6,[],_,hrun,.inr ⟨rfl,rfl⟩,by simpa using I6,rfl,λh=>by cases h⟩
theorem Z8p (hT:Z0e P Γ.tys) (I:Inv W0 M σ a w G xs) {t:TypeId} {y x:Operand} (ho:o.op= .store t y x) (h:Z0N Γ d type σ k o.op=some r):∃ tv σ',k tv σ'=some r/\Z1p P W0 M o a w G xs σ' tv false:=by
 rw [ho] at h
 simp only [Z0N] at h
 split at h
 ·rename_i τ p ht hp
  split at h
  ·rename_i v σ1 htk
   split at h
   ·rename_i σ2 hset
    exact ⟨_,_,h,Z6p hT I ho ht hp htk hset⟩
   ·cases h
  ·cases h
 ·rename_i τ p ht hp
  split at h
  ·rename_i v σ1 htk
   split at h
   ·rename_i hc
    simp only [Bool.and_eq_true,Bool.not_eq_true',Bool.or_eq_true] at hc
    obtain ⟨⟨hvO,hnf⟩,hval⟩:=hc
    split at h
    ·rename_i c hc1
     split at h
     ·rename_i hcO
      split at h
      ·rename_i σ2 hset
       refine ⟨_,_,h,Z6q hT I ho ht hp htk hvO hnf (λhb=> ?_) hc1 hcO hset⟩
       rcases hval with hv | hv
       ·rw [hb] at hv;cases hv
       ·cases hsl:σ1.slot p.root with
        | val c'=>exact ⟨c',rfl⟩
        | _=>rw [hsl] at hv;cases hv
      ·cases h
     ·cases h
    ·cases h
   ·cases h
  ·cases h
 ·cases h
end
end Go.PI
namespace Go.PI
section
variable {P:Program} {w:World}
def Z5O (P:Program) (tx:TypeId):Prop:=(∃ e,P.underlying tx=some (.slice e))\/P.underlying tx=some .string
theorem Z4e (t tx ty e:TypeId) (i:TypeInfo) (ht:P.underlying t=some (.slice e)) (hx:Z5O P tx) (hi:P.info? e=some i)
  (base:Option Addr) (sLen sCap:Nat) (hc:sLen<=sCap) (X:Value) (hl:Builtin.lenOf X=pure 0) (hf:(Builtin.firstCells i.size 0 X).run P w= .ok #[] w) :
  (Builtin.append_ #[t,tx] ty #[.slice base sLen sCap,X]).run P w= .ok (.slice base sLen sCap) w:=by
 rcases hx with ⟨e2,hx⟩ | hx
 all_goals
  cases base with
  | none=>simp [Builtin.append_,run_underlying ht,run_underlying hx,sizeOf,typeInfo,hi,hl,hc,hf]
  | some a=>simp [Builtin.append_,run_underlying ht,run_underlying hx,sizeOf,typeInfo,hi,hl,hc,hf,storeCells]
theorem Z7L (t tx ty e:TypeId) (i:TypeInfo) (ht:P.underlying t=some (.slice e)) (hx:Z5O P tx) (hi:P.info? e=some i)
  (g o sLen sCap:Nat) (cur:Array Value) (T:TypeId) (fz:Nat×Nat) (hg:w.heap[g]? = some (.cells cur T fz)) (hfz:Z41 cur fz)
  (m:Nat) (X:Value) (hX:Builtin.lenOf X=pure m) (news:List Value) (hl:news.length=m * i.size) (hnews:(Builtin.firstCells i.size m X).run P w= .ok news.toArray w) (h1:∀ u∈news,one u=true)
  (hroom:sLen+m<=sCap) (hfit:o+sLen * i.size+news.length<=cur.size) :
  (Builtin.append_ #[t,tx] ty #[.slice (some ⟨g,o,none⟩) sLen sCap,X]).run P w =
   .ok (.slice (some ⟨g,o,none⟩) (sLen+m) sCap) (w.setRow g (Z0c cur.toList (o+sLen * i.size) news).toArray):=by
 have hst:=Z3p P g (o+sLen * i.size) T fz news 0 cur w hg hfz (by simpa using hfit) h1
 rw [Nat.add_zero] at hst
 rcases hx with ⟨e2,hx⟩ | hx <;>
  simp [Builtin.append_,run_underlying ht,run_underlying hx,sizeOf,typeInfo,hi,hX,hroom,hnews,Z5m,hst]
theorem append_nil (t tx ty e:TypeId) (i:TypeInfo) (z:Value) (ht:P.underlying t=some (.slice e)) (hx:Z5O P tx) (hi:P.info? e=some i) (hz:i.zero=some z)
  (n:Nat) (X:Value) (hX:Builtin.lenOf X=pure n) (news:List Value) (hnews:(Builtin.firstCells i.size n X).run P w.drew= .ok news.toArray w.drew)
  (h0:0<n) (h63:(n:Int)<=9223372036854775807) (h48:n * i.bytes<=281474976710656) :
  (Builtin.append_ #[t,tx] ty #[.slice none 0 0,X]).run P w =
   .ok (.slice (some ⟨w.heap.size,0,none⟩) n (grownCap w n 0 e)) (w.drew.alloc (.cells (news.toArray++Builtin.zeroCells z.cells (grownCap w n 0 e-n)) e)):=by
 have hn:n≠0:=by omega
 have h63':¬ (9223372036854775807<(n:Int)):=by omega
 have h48':¬ (281474976710656<Builtin.nextslicecap n 0 * i.bytes):=by rw [nextslicecap_zero h0];omega
 rcases hx with ⟨e2,hx⟩ | hx <;>
  simp [Builtin.append_,run_underlying ht,run_underlying hx,sizeOf,typeInfo,zeroValue,hi,hz,hX,hn,h63',h48',Question.forced,run_firstCells_none,hnews,newRow,grownCap]
theorem Z7J (t tx ty e:TypeId) (i:TypeInfo) (z:Value) (ht:P.underlying t=some (.slice e)) (hx:Z5O P tx) (hi:P.info? e=some i) (hz:i.zero=some z)
  (b:Addr) (sLen sCap:Nat) (olds:List Value) (hlo:olds.length=sLen * i.size) (holds:∀ j v,olds[j]? = some v->w.cell? (b.add j)=some v)
  (n:Nat) (X:Value) (hX:Builtin.lenOf X=pure n) (news:List Value) (hnews:(Builtin.firstCells i.size n X).run P w.drew= .ok news.toArray w.drew)
  (hg:sCap<sLen+n) (h63:((sLen+n:Nat):Int)<=9223372036854775807) (hfit:Builtin.nextslicecap (sLen+n) sCap * i.bytes<=281474976710656) :
  (Builtin.append_ #[t,tx] ty #[.slice (some b) sLen sCap,X]).run P w =
   .ok (.slice (some ⟨w.heap.size,0,none⟩) (sLen+n) (grownCap w (sLen+n) sCap e))
    (w.drew.alloc (.cells (olds.toArray++news.toArray++Builtin.zeroCells z.cells (grownCap w (sLen+n) sCap e-(sLen+n))) e)):=by
 have hn:¬ (sLen+n<=sCap):=by omega
 have h63':¬ (9223372036854775807<((sLen:Int)+(n:Int))):=by omega
 have h48':¬ (281474976710656<Builtin.nextslicecap (sLen+n) sCap * i.bytes):=by omega
 have hfo:=run_firstCells_some (P:=P) w.drew i.size sLen b sLen sCap olds hlo (by simpa using holds)
 rcases hx with ⟨e2,hx⟩ | hx
 all_goals
  simp [Builtin.append_,run_underlying ht,run_underlying hx,sizeOf,typeInfo,zeroValue,hi,hz,hX,hn,h63',h48',Question.forced,hnews,hfo,newRow,grownCap]
  congr 2
  apply Array.ext'
  simp [List.append_assoc]
end
theorem Z6l {w:World} {b o n m:Nat} {c d:List Value} (h1:Z05 w b o n=some c) (h2:Z05 w b (o+n) m=some d):Z05 w b o (n+m)=some (c++d):=by
 unfold Z05 at *
 split at h1
 ·rename_i C T fr hb
  rw [hb] at h2
  simp only [] at h2 ⊢
  split at h1
  ·split at h2
   ·cases h1;cases h2
    rw [if_pos (by omega),<-List.drop_drop,<-List.take_add]
   ·cases h2
  ·cases h1
 ·cases h1
theorem Z4W {w:World} {b s:Nat}:(css:List (List Value))->(o:Nat)->0<css.length->(∀ k (h:k<css.length),Z05 w b (o+k * s) s=some css[k])->Z05 w b o (css.length * s)=some css.flatten
 | [],o,h,_=>by simp at h
 | [c],o,h,hk=>by
  have:=hk 0 (by simp)
  simpa using this
 | c::d::css,o,h,hk=>by
  have h0:=hk 0 (by simp)
  have ih:=Z4W (w:=w) (b:=b) (s:=s) (d::css) (o+s) (by simp) (λk hkl=>by
   have:=hk (k+1) (by simpa using hkl)
   rw [Nat.add_mul,Nat.one_mul] at this
   rw [show o+s+k * s=o+(k * s+s) by omega]
   simpa using this)
  simp only [Nat.zero_mul,Nat.add_zero,List.getElem_cons_zero] at h0
  have:=Z6l h0 ih
  simp only [List.length_cons,List.flatten_cons] at this ⊢
  rw [show (css.length+1+1) * s=s+(css.length+1) * s by rw [Nat.add_mul (css.length+1)];omega]
  exact this
end Go.PI
namespace Go.PI
section
variable {W0:Base} {M:Nat->Prop} {σ:State} {a:Act} {w w':World} {G:Ghost} {xs:List Nat} {P:Program} {tys:List (TypeId×Ty×List TypeId)}
variable {R:Type} {Γ:Env R} {d:Option Nat} {type:TypeId} {o:Oper} {k:TV->State->Option R} {r:R}
theorem Z5J {e:Ty} {b o:Nat} {x:List (El e)} {t:Tag} {fps:List (List Nat)} (hfl:fps.length=x.length)
  (hel:∀ k (h:k<x.length),∃ cs',Z05 w b (o+k * size e) (size e)=some cs'/\Rp w G.F G.St G.Al e (List.replicate (Z06 e) t) cs' (x.get ⟨k,h⟩) (fps.getD k [])) :
  ∃ us:List (Elem e),us.map (·.x)=x/\us.map (·.fp)=fps/\(∀ u∈us,u.tg=List.replicate (Z06 e) t/\Rp w G.F G.St G.Al e u.tg u.cs u.x u.fp) /\
   ∀ k (h:k<us.length),Z05 w b (o+k * size e) (size e)=some us[k].cs:=by
 classical
 let f:Fin x.length->Elem e:=λk=>⟨x.get k,List.replicate (Z06 e) t,Classical.choose (hel k.1 k.2),fps.getD k.1 []⟩
 refine ⟨List.ofFn f,?_,?_,?_,?_⟩
 ·apply List.ext_getElem
  ·simp
  ·intro i h1 h2;simp [f]
 ·apply List.ext_getElem
  ·simp [hfl]
  ·intro i h1 h2
   simp only [List.getElem_map,List.getElem_ofFn,f]
   rw [List.getD_eq_getElem?_getD,List.getElem?_eq_getElem h2];rfl
 ·intro u hu
  obtain ⟨k,hk,rfl⟩:=List.mem_iff_getElem.1 hu
  simp only [List.getElem_ofFn,f]
  exact ⟨trivial,(Classical.choose_spec (hel k (by simpa using hk))).2⟩
 ·intro k hk
  simp only [List.getElem_ofFn,f]
  exact (Classical.choose_spec (hel k (by simpa using hk))).1
theorem Z8A {e:Ty} {t:Tag} {ad:Option Addr} {n cap:Nat} {x:List (El e)} {fp:List Nat} (h:Rp w G.F G.St G.Al (.slice e) [t] [.slice ad n cap] x fp) :
  ∃ (us:List (Elem e)) (pre:List Nat),n=x.length/\us.map (·.x)=x/\fp=pre++(us.map (·.fp)).flatten/\(∀ u∈us,u.tg=List.replicate (Z06 e) t.inner/\Rp w G.F G.St G.Al e u.tg u.cs u.x u.fp) /\
   (us=[]\/∃ b o,ad=some ⟨b,o,none⟩/\∀ k (h:k<us.length),Z05 w b (o+k * size e) (size e)=some us[k].cs):=by
 obtain ⟨t',ad',cap',ht,hc,hl,h⟩:=h
 simp only [List.cons.injEq,and_true,Value.slice.injEq] at ht hc
 subst ht
 obtain ⟨rfl,rfl,rfl⟩:=hc
 rcases h with ⟨_,_,hx,_,rfl⟩ | ⟨_,b,o,fps,rfl,_,rfl,hfl,_,_,hel⟩ | ⟨_,rfl,hx⟩
 ·exact ⟨[],[],rfl,by simpa using hx.symm,rfl,by simp,.inl rfl⟩
 ·obtain ⟨us,h1,h2,h3,h4⟩:=Z5J hfl hel
  exact ⟨us,[b],rfl,h1,by rw [h2];rfl,h3,.inr ⟨b,o,rfl,h4⟩⟩
 ·rcases hx with hx | ⟨b,o,rfl,_,_,hel⟩
  ·exact ⟨[],[],rfl,by simpa using hx.symm,rfl,by simp,.inl rfl⟩
  ·obtain ⟨us,h1,h2,h3,h4⟩:=Z5J (G:=G) (x:=x) (fps:=List.replicate (List.length (α:=El e) x) []) (by simp) (λk h=>by rw [Z28];exact hel k h)
   exact ⟨us,[],rfl,h1,by rw [h2,Z0F];rfl,h3,.inr ⟨b,o,rfl,h4⟩⟩
theorem Z5f {b o:Nat} {C:Array Value} {T:TypeId} {fr:Nat×Nat} {l:List Value} (h:w.heap[b]? = some (.cells C T fr)) (z:Nat):(w.setRow b (Z0c C.toList o l).toArray).heap[z]? = (Z0m w b o l).heap[z]? := by
 by_cases hz:z=b
 ·subst hz
  rw [setRow_heap w _ _ _ _ _ h]
  simp only [Z0m]
  rw [Array.getElem?_modify]
  simp [h]
 ·rw [setRow_other _ _ _ _ hz,Z16 hz]
theorem Z9q {e:Ty} {t:Tag} (ht:t.own=true) {b o cap:Nat} {us:List (Elem e)} {fps:List (List Nat)} {F:Nat->Nat} {St Al:Nat->Prop} (hal:Al b) (hfl:fps.length=us.length) (hcap:us.length<=cap) (hrow:Z3j e w b (o+cap * size e)) (hF:F b=o+us.length * size e)
  (hc:∀ k (h:k<us.length),Z05 w b (o+k * size e) (size e)=some us[k].cs) (hel:∀ k (h:k<us.length),Rp w F St Al e (List.replicate (Z06 e) t.inner) us[k].cs us[k].x (fps.getD k [])) :
  Rp w F St Al (.slice e) [t] [.slice (some ⟨b,o,none⟩) us.length cap] (us.map (·.x)) (b::fps.flatten):=by
 have hlen:(us.map (·.x)).length=us.length:=by simp
 refine ⟨t,some ⟨b,o,none⟩,cap,rfl,by rw [hlen],by rw [hlen];exact hcap,.inr (.inl ⟨ht,b,o,fps,rfl,hal,rfl,by rw [hlen];exact hfl,hrow,by rw [hlen];exact hF,λk hk=> ?_⟩)⟩
 have hk':k<us.length:=by simpa using hk
 refine ⟨us[k].cs,hc k hk',?_⟩
 have:List.get (α:=El e) (us.map (·.x)) ⟨k,hk⟩=us[k].x:=by simp
 rw [this]
 exact hel k hk'
theorem Z77 {e:Ty} {w:World} {b o s:Nat} {us:List (Elem e)} (hn:0<us.length) (hc:∀ k (h:k<us.length),Z05 w b (o+k * s) s=some us[k].cs) :
  Z05 w b o (us.length * s)=some (us.map (·.cs)).flatten:=by
 have:=Z4W (us.map (·.cs)) o (by simpa using hn) (w:=w) (b:=b) (s:=s) (λk hk=>by
  rw [List.getElem_map];exact hc k (by simpa using hk))
 simpa using this
theorem ZaH (I:Inv W0 M σ a w G xs) {b:Nat} (hb:b∈xs):G.Al b:=
 ⟨λi h=>(by rw [I.whoX b hb] at h;cases h),λh=>(by rw [I.whoX b hb] at h;cases h)⟩
end
end Go.PI
namespace Go.PI
section
variable {W0:Base} {M:Nat->Prop} {σ:State} {a:Act} {w w':World} {G:Ghost} {xs:List Nat} {P:Program} {tys:List (TypeId×Ty×List TypeId)}
variable {R:Type} {Γ:Env R} {d:Option Nat} {type:TypeId} {o:Oper} {k:TV->State->Option R} {r:R}
theorem Z6y (z:Array Value) (n:Nat):(Builtin.zeroCells z n).size=n * z.size:=by simp [Builtin.zeroCells]
theorem Z5Q {e:Ty} {us:List (Elem e)} {fps:List (List Nat)} {t:Tag} (ht:t.own=true) (I:Inv W0 M σ a w G (fps.flatten++xs)) (hfl:fps.length=us.length)
  (hel:∀ k (h:k<us.length),Rp w G.F G.St G.Al e (List.replicate (Z06 e) t.inner) us[k].cs us[k].x (fps.getD k [])) {cap:Nat} (hcap:us.length<=cap) {z:Array Value} (hz:z.size=size e) {C:Array Value} {et:TypeId}
  (hC:C=(us.map (·.cs)).flatten.toArray++Builtin.zeroCells z (cap-us.length)) :
  ∃ G',Inv W0 M σ a (w.drew.alloc (.cells C et)) G' ((w.heap.size::fps.flatten)++xs)/\Calmer w G (w.drew.alloc (.cells C et)) G' /\
   Rp (w.drew.alloc (.cells C et)) G'.F G'.St G'.Al (.slice e) [t] [.slice (some ⟨w.heap.size,0,none⟩) us.length cap] (us.map (·.x)) (w.heap.size::fps.flatten):=by
 have hcl:∀ c∈us.map (·.cs),c.length=size e:=by
  intro c hc
  obtain ⟨k,hk,rfl⟩:=List.mem_iff_getElem.1 hc
  rw [List.getElem_map]
  exact (hel k (by simpa using hk)).len.1
 have hfc:=Z44 _ _ hcl
 obtain ⟨G',h1,h2,h3,_⟩:=Z3y (e:=e) (fps:=fps) (xs:=xs) I (Pushed.drew w (.cells C et (0,0))) (λj hj hh=>by simp at hh) (t:=t) ht (x:=us.map (·.x)) (css:=us.map (·.cs)) (rest:=(Builtin.zeroCells z (cap-us.length)).toList) (cap:=cap)
  (by rw [hC];simp) (by simp) (by simp [hfl]) (by simpa using hcap) (by
   rw [hC,Array.size_append,Z6y,hz]
   simp only [List.size_toArray]
   rw [hfc,List.length_map,<-Nat.add_mul]
   exact Nat.mul_le_mul_right _ (by omega)) (λk hk=>by
   have hk':k<us.length:=by simpa using hk
   have:=hel k hk'
   rw [List.getD_eq_getElem?_getD (l:=us.map (·.cs)),List.getElem?_map,List.getElem?_eq_getElem hk']
   simpa using this)
 exact ⟨G',h1,h2,by simpa using h3⟩
theorem Z5R (hT:Z0e P tys) {e:Ty} {sT xT ty et:TypeId} {le:List TypeId} (hu:P.underlying sT=some (.slice et)) (hux:Z5O P xT) (hea:Z0o tys et=some (e,le))
  {fp1 fp2:List Nat} (I:Inv W0 M σ a w G (fp2++(fp1++xs))) {t t':Tag} (ht:t.own=true) {ad:Option Addr} {n cap n':Nat} {X:Value} {l m:List (El e)}
  (hR1:Rp w G.F G.St G.Al (.slice e) [t] [.slice ad n cap] l fp1) (hlim:lim (l.length+m.length)=true)
  {t0:Tag} (ht0:t0=if Z06 e==0 then .O else t.inner.meet t'.inner)
  {vs:List (Elem e)} {pre2:List Nat} (hn':n'=m.length) (hvx:vs.map (·.x)=m) (hfp2:fp2=pre2++(vs.map (·.fp)).flatten) (hvok:∀ u∈vs,u.tg=List.replicate (Z06 e) t'.inner/\Rp w G.F G.St G.Al e u.tg u.cs u.x u.fp)
  (hX:Builtin.lenOf X=pure n') (hfc:∀ (w2:World),w2.heap=w.heap->(Builtin.firstCells (size e) n' X).run P w2= .ok ((vs.map (·.cs)).flatten).toArray w2) :
  ∃ v w' G' fp,(Builtin.append_ #[sT,xT] ty #[.slice ad n cap,X]).run P w= .ok v w'/\Inv W0 M σ a w' G' (fp++xs)/\Z0f false v/\Rp w' G'.F G'.St G'.Al (.slice e) [t0.over] (Z02 v) (l++m) fp/\Calmer w G w' G':=by
 obtain ⟨inf,z,hi,hs,hby,_,hz,hzc,_⟩:=(hT et _ _ hea).info
 have hzl:z.cells.size=size e:=by
  have:z.cells.toList.length=size e:=by rw [hzc];exact (Z30 (w:=w) (F:=G.F) (St:=G.St) (Al:=G.Al) e).len.1
  simpa using this
 have hlim':l.length+m.length<=2147483648:=of_decide_eq_true hlim
 have hover:t0.over.own=true:=by cases t0<;>rfl
 have hle1:∀ s∈List.replicate (Z06 e) t.inner,Z19 t0 s:=by
  intro s hs'
  obtain ⟨hne,rfl⟩:=List.mem_replicate.1 hs'
  rw [ht0,if_neg (by simpa using hne)]
  exact (Z19.self _).meet_left
 have hle2:∀ s∈List.replicate (Z06 e) t'.inner,Z19 t0 s:=by
  intro s hs'
  obtain ⟨hne,rfl⟩:=List.mem_replicate.1 hs'
  rw [ht0,if_neg (by simpa using hne)]
  exact (Z19.self _).meet_right
 have hvl:vs.length=m.length:=by rw [<-hvx];simp
 obtain ⟨tt,ad1,cap1,htt,hcc,hlc,hcase⟩:=hR1
 simp only [List.cons.injEq,and_true,Value.slice.injEq] at htt hcc
 subst htt
 obtain ⟨rfl,rfl,rfl⟩:=hcc
 have hbytes:∀ k:Nat,k<=4294967296->k * inf.bytes<=281474976710656:=by
  intro k hk
  calc k * inf.bytes<=4294967296 * 65536:=Nat.mul_le_mul hk hby
   _=281474976710656:=rfl
 have hnl:((vs.map (·.cs)).flatten).length=n' * inf.size:=by
  have:∀ c∈vs.map (·.cs),c.length=size e:=by
   intro c hc
   obtain ⟨u,hu,rfl⟩:=List.mem_map.1 hc
   exact (hvok u hu).2.len.1
  have h2:∀ (L:List (List Value)),(∀ c∈L,c.length=size e)->L.flatten.length=L.length * size e:=by
   intro L
   induction L with
   | nil=>intro _;simp
   | cons c L ih=>
    intro hL
    rw [List.flatten_cons,List.length_append,ih λc hc=>hL c (List.mem_cons_of_mem _ hc),hL c (by simp),List.length_cons,Nat.add_mul]
    omega
  rw [h2 _ this,List.length_map,hs,hvl,hn']
 have hfc0:(Builtin.firstCells inf.size n' X).run P w= .ok ((vs.map (·.cs)).flatten).toArray w:=by rw [hs];exact hfc w rfl
 have hfc1:(Builtin.firstCells inf.size n' X).run P w.drew= .ok ((vs.map (·.cs)).flatten).toArray w.drew:=by rw [hs];exact hfc w.drew rfl
 have hvlen:∀ c∈vs.map (·.cs),c.length=size e:=by
  intro c hc
  obtain ⟨u,hu,rfl⟩:=List.mem_map.1 hc
  exact (hvok u hu).2.len.1
 rcases hcase with ⟨_,rfl,hl0,rfl,rfl⟩ | ⟨_,b,off,fps,rfl,hal,rfl,hfl,hrow,hF,hel⟩ | ⟨ho,_⟩
 ·
  have hl0:l=[]:=hl0
  subst hl0
  simp only [List.append_nil,List.nil_append] at I
  have I1:Inv W0 M σ a w G ((vs.map (·.fp)).flatten++xs):=by
   refine I.sub (λb hb=>by rw [hfp2];simp only [List.mem_append] at hb ⊢;rcases hb with h | h<;>simp [h]) ?_
   have:=I.nodX
   rw [hfp2,List.append_assoc] at this
   exact (List.nodup_append.1 this).2.1
  obtain ⟨G2,fps',I2,hc2,gF,hfl',gS,gA,hel',_,_⟩:=Z6x (t0:=t0) I1 (λu hu=>⟨(hvok u hu).2,by rw [(hvok u hu).1];exact hle2⟩)
  by_cases hm:vs=[]
  ·subst hm
   have hm0:m=[]:=by simpa using hvx.symm
   subst hm0
   have:n'=0:=hn'
   subst this
   refine ⟨.slice none 0 0,w,G2,[],Z4e sT xT ty et inf hu hux hi none 0 0 (Nat.le_refl _) X hX (by simpa using hfc0),?_,rfl,?_,hc2⟩
   ·exact I2.sub (λb hb=>List.mem_append_right _ hb) (List.nodup_append.1 I2.nodX).2.1
   ·exact ⟨t0.over,none,0,rfl,rfl,Nat.le_refl _,.inl ⟨hover,rfl,rfl,rfl,rfl⟩⟩
  ·have hpos:0<vs.length:=(List.length_pos_iff.2 hm)
   have hn0:0<n':=by rw [hn',<-hvl];exact hpos
   have hn31:n'<=2147483648:=by rw [hn'];simpa using hlim'
   have hrun:=append_nil (P:=P) (w:=w) sT xT ty et inf z hu hux hi hz n' X hX _ hfc1 hn0 (by omega) (hbytes n' (by omega))
   have hge:=grownCap_ge w n' 0 et
   have hvn:vs.length=n':=by rw [hvl,hn']
   obtain ⟨G3,I3,hc3,hR3⟩:=Z5Q (us:=vs) (fps:=fps') hover I2 hfl' hel' (cap:=grownCap w n' 0 et) (by omega) hzl (et:=et) (by rw [hvn])
   refine ⟨_,_,G3,_,hrun,I3,rfl,?_,hc2.trans hc3⟩
   rw [Z0r rfl]
   rw [hvx,hvn] at hR3
   simpa using hR3
 ·
  obtain ⟨us,hux',hufp,huok,huc⟩:=Z5J (w:=w) (G:=G) (b:=b) (o:=off) hfl hel
  have hul:us.length=l.length:=by rw [<-hux'];simp
  have I1:Inv W0 M σ a w G ((((us++vs).map (·.fp)).flatten)++(b::xs)):=by
   refine I.sub (λz hz=> ?_) ?_
   ·rw [hfp2]
    simp only [List.map_append,List.flatten_append,hufp,List.mem_append,List.mem_cons] at hz ⊢
    rcases hz with (h | h) | h | h<;>simp [h]
   ·have hp:((((us++vs).map (·.fp)).flatten++(b::xs))++pre2).Perm (fp2++((b::fps.flatten)++xs)):=by
     rw [hfp2]
     refine List.perm_iff_count.2 λz=> ?_
     simp only [List.map_append,List.flatten_append,hufp,List.count_append,List.count_cons]
     omega
    exact (List.nodup_append.1 (hp.nodup_iff.2 I.nodX)).1
  obtain ⟨G2,fps',I2,hc2,gF,hfl',gS,gA,hel',_,hsub⟩:=Z6x (t0:=t0) I1 (λu hu=>by
   rcases List.mem_append.1 hu with h | h
   ·exact ⟨(huok u h).2,by rw [(huok u h).1];exact hle1⟩
   ·exact ⟨(hvok u h).2,by rw [(hvok u h).1];exact hle2⟩)
  have hbG2:G2.who b=some .x:=I2.whoX b (by simp)
  have halb:G2.Al b:=by rw [gA];exact hal
  have hnodb:b ∉ fps'.flatten:=λhm=>(List.nodup_append.1 I2.nodX).2.2 b hm b (by simp) rfl
  have hp2:(fps'.flatten++(b::xs)).Perm ((b::fps'.flatten)++xs):=by
   refine List.perm_iff_count.2 λz=> ?_
   simp only [List.count_append,List.count_cons]
   omega
  have hrowE:=hrow
  obtain ⟨⟨C,T,fr,hC,hCs,hth⟩,hmk⟩:=hrow
  by_cases hm:vs=[]
  ·subst hm
   have hm0:m=[]:=by simpa using hvx.symm
   subst hm0
   have:n'=0:=hn'
   subst this
   simp only [List.append_nil] at I1 hel' hfl' hsub ⊢
   refine ⟨_,w,G2,b::fps'.flatten,Z4e sT xT ty et inf hu hux hi (some ⟨b,off,none⟩) l.length cap hlc X hX (by simpa using hfc0),I2.perm hp2,rfl,?_,hc2⟩
   rw [Z0r rfl]
   have:=Z9q (w:=w) (F:=G2.F) (St:=G2.St) (Al:=G2.Al) hover halb (hfl'.trans (by simp)) (cap:=cap) (by rw [hul];exact hlc) hrowE (by rw [gF,hul];exact hF) huc hel'
   rw [hux',hul] at this
   exact this
  ·have hpos:0<vs.length:=(List.length_pos_iff.2 hm)
   have hvn:vs.length=n':=by rw [hvl,hn']
   have hone:∀ c∈(vs.map (·.cs)).flatten,one c=true:=by
    intro c hc
    obtain ⟨cs,hcs,hc⟩:=List.mem_flatten.1 hc
    obtain ⟨u,hu,rfl⟩:=List.mem_map.1 hcs
    exact (hvok u hu).2.ones c hc
   by_cases hroom:l.length+n'<=cap
   ·
    have hfit:off+l.length * size e+n' * size e<=off+cap * size e:=by
     have:(l.length+n') * size e<=cap * size e:=Nat.mul_le_mul_right _ hroom
     rw [Nat.add_mul] at this;omega
    have hrun:=Z7L (P:=P) (w:=w) sT xT ty et inf hu hux hi b off l.length cap C T fr hC hth n' X hX _ hnl hfc0 hone hroom (by rw [hnl,hs];omega)
    rw [hs] at hrun hnl
    have hpat:=Z5f (w:=w) (o:=off+l.length * size e) (l:=(vs.map (·.cs)).flatten) hC
    have hrow':Row w b (off+cap * size e):=⟨C,T,fr,hC,hCs,hth⟩
    have hlr:∃ mm,off+l.length * size e+((vs.map (·.cs)).flatten).length<=mm/\Row w b mm:=⟨_,by rw [hnl];exact hfit,hrow'⟩
    have hFb:G2.F b=off+l.length * size e:=by rw [gF];exact hF
    have hK:Z07 w G2.F (w.setRow b (Z0c C.toList (off+l.length * size e) ((vs.map (·.cs)).flatten)).toArray) (λz=>if z=b then off+(l.length+n') * size e else G2.F z) b:=by
     refine ⟨?_,λo2 n2 cs hn2 hcs=> ?_,λn2 hr=> ?_,λhm=>(Z2E (hpat b)).2 (Z3E (by rw [hnl];exact hfit) hrow' hm)⟩
     ·simp only [if_true];rw [hFb,Nat.add_mul];omega
     ·rw [Z11 (hpat b)]
      exact Z2l hlr (.inl (by omega)) hcs
     ·rw [Z3O (hpat b)]
      exact Z4Q (by rw [hnl];exact hfit) hrow' hr
    obtain ⟨I3,hc3,hl3⟩:=I2.patch hbG2 (.inl rfl) (Wrote.setRow w b _) (off+(l.length+n') * size e) (.inr (.inr hK))
    refine ⟨_,_,_,b::fps'.flatten,hrun,I3.perm hp2,rfl,?_,hc2.trans (hc3 (by simp) hK)⟩
    rw [Z0r rfl]
    have hall:(us++vs).length=l.length+n':=by simp [hul,hvn]
    have hxx:(us++vs).map (·.x)=l++m:=by rw [List.map_append,hux',hvx]
    have key:=Z9q (us:=us++vs) (fps:=fps') (cap:=cap) (o:=off) (b:=b) (t:=t0.over) (w:=w.setRow b (Z0c C.toList (off+l.length * size e) ((vs.map (·.cs)).flatten)).toArray) (F:=λz=>if z=b then off+(l.length+n') * size e else G2.F z) (St:=G2.St) (Al:=G2.Al) hover halb hfl' (by omega) ?_ ?_ (λk hk=> ?_) (λk hk=> ?_)
    ·rw [hxx,hall] at key;exact key
    ·exact ⟨(Z3O (hpat b)).2 (Z4Q (by rw [hnl];exact hfit) hrow' hrow'),hmk.imp id λhm=>(Z2E (hpat b)).2 (Z3E (by rw [hnl];exact hfit) hrow' hm)⟩
    ·rw [hall];simp
    ·rw [Z11 (hpat b)]
     by_cases hkl:k<us.length
     ·rw [List.getElem_append_left hkl]
      have hb1:(k+1) * size e<=l.length * size e:=Nat.mul_le_mul_right _ (by omega)
      rw [Nat.add_mul,Nat.one_mul] at hb1
      exact Z2l hlr (.inl (by omega)) (huc k hkl)
     ·obtain ⟨i,rfl⟩:∃ i,k=us.length+i:=⟨k-us.length,by omega⟩
      have hi':i<vs.length:=by simpa using hk
      rw [List.getElem_append_right (by omega)]
      obtain ⟨cz,hcz⟩:=hrow'.cells (o:=off+l.length * size e) (m:=n' * size e) hfit
      have hin:=Z3I (o':=off+l.length * size e) (l:=(vs.map (·.cs)).flatten) (Nat.le_refl _) (by rw [hnl];exact Nat.le_refl _) hcz
      rw [Nat.sub_self,Z2Z (by rw [hnl,Z1E hcz])] at hin
      have hb1:(i+1) * size e<=n' * size e:=Nat.mul_le_mul_right _ (by omega)
      rw [Nat.add_mul,Nat.one_mul] at hb1
      have hsb:=Z32 hin (i:=i * size e) (m:=size e) hb1
      have hck:=Z8d (vs.map (·.cs)) (size e) i [] hvlen (by simpa using hi')
      rw [List.append_nil] at hck
      rw [hck,List.getElem_map] at hsb
      rw [show off+(us.length+i) * size e=off+l.length * size e+i * size e by rw [hul,Nat.add_mul];omega,hsb]
      simp
    ·refine hl3 _ _ _ _ _ (hel' k hk) (λhm'=>hnodb ?_) (.inr (.inr hK))
     refine List.mem_flatten.2 ⟨_,?_,hm'⟩
     rw [List.getD_eq_getElem?_getD,List.getElem?_eq_getElem (by omega)]
     exact List.getElem_mem _
   ·
    have holds:(us.map (·.cs)).flatten.length=l.length * inf.size/\∀ j v,((us.map (·.cs)).flatten)[j]? = some v->w.cell? ((⟨b,off,none⟩:Addr).add j)=some v:=by
     by_cases hu0:us=[]
     ·subst hu0
      have:l.length=0:=by rw [<-hul];rfl
      rw [this]
      exact ⟨by simp,by simp⟩
     ·have hc:=Z77 (List.length_pos_iff.2 hu0) huc
      exact ⟨by rw [Z1E hc,hs,hul],λj v hj=>Z22 hc j v hj⟩
    have hnc2:Builtin.nextslicecap (l.length+n') cap * inf.bytes<=281474976710656:=by
     refine hbytes _ ?_
     have:=nextslicecap_le (need:=l.length+n') (old:=cap) (by omega)
     rw [hn'] at this ⊢
     omega
    have hrun:=Z7J (P:=P) (w:=w) sT xT ty et inf z hu hux hi hz ⟨b,off,none⟩ l.length cap _ holds.1 holds.2 n' X hX _ hfc1 (by omega) (by rw [hn'];omega) hnc2
    have hge:=grownCap_ge w (l.length+n') cap et
    have hall:(us++vs).length=l.length+n':=by simp [hul,hvn]
    have I2':Inv W0 M σ a w G2 (fps'.flatten++xs):=I2.sub (λz hz=>by simp only [List.mem_append,List.mem_cons] at hz ⊢;rcases hz with h | h<;>simp [h]) (by
     have:=hp2.nodup_iff.1 I2.nodX
     exact (List.nodup_cons.1 this).2)
    obtain ⟨G3,I3,hc3,hR3⟩:=Z5Q (us:=us++vs) (fps:=fps') hover I2' hfl' hel' (cap:=grownCap w (l.length+n') cap et) (by omega) hzl (et:=et) (by rw [hall])
    refine ⟨_,_,G3,w.heap.size::fps'.flatten,hrun,?_,rfl,?_,?_⟩
    ·have:((us++vs).map (·.cs)).flatten.toArray=(us.map (·.cs)).flatten.toArray++(vs.map (·.cs)).flatten.toArray:=by simp
     rw [this] at I3
     exact I3
    ·have:((us++vs).map (·.cs)).flatten.toArray=(us.map (·.cs)).flatten.toArray++(vs.map (·.cs)).flatten.toArray:=by simp
     rw [this,List.map_append,hux',hvx,hall] at hR3
     rw [Z0r rfl]
     exact hR3
    ·have:((us++vs).map (·.cs)).flatten.toArray=(us.map (·.cs)).flatten.toArray++(vs.map (·.cs)).flatten.toArray:=by simp
     rw [this] at hc3
     exact hc2.trans hc3
 ·rw [ht] at ho;cases ho
theorem Z4r (hT:Z0e P tys) {e:Ty} {sT xT ty et et2:TypeId} {le:List TypeId} (hu:P.underlying sT=some (.slice et)) (hux:P.underlying xT=some (.slice et2)) (hea:Z0o tys et=some (e,le))
  {fp1 fp2:List Nat} (I:Inv W0 M σ a w G (fp2++(fp1++xs))) {t t':Tag} (ht:t.own=true) {ad ad':Option Addr} {n cap n' cap':Nat} {l m:List (El e)}
  (hR1:Rp w G.F G.St G.Al (.slice e) [t] [.slice ad n cap] l fp1) (hR2:Rp w G.F G.St G.Al (.slice e) [t'] [.slice ad' n' cap'] m fp2) (hlim:lim (l.length+m.length)=true)
  {t0:Tag} (ht0:t0=if Z06 e==0 then .O else t.inner.meet t'.inner) :
  ∃ v w' G' fp,(Builtin.append_ #[sT,xT] ty #[.slice ad n cap,.slice ad' n' cap']).run P w= .ok v w'/\Inv W0 M σ a w' G' (fp++xs)/\Z0f false v/\Rp w' G'.F G'.St G'.Al (.slice e) [t0.over] (Z02 v) (l++m) fp/\Calmer w G w' G':=by
 obtain ⟨vs,pre2,hn',hvx,hfp2,hvok,hvad⟩:=Z8A hR2
 have hvl:vs.length=m.length:=by rw [<-hvx];simp
 refine Z5R hT hu (.inl ⟨et2,hux⟩) hea I ht hR1 hlim ht0 hn' hvx hfp2 hvok rfl λw2 hw2=> ?_
 have hcw:∀ b o n,Z05 w2 b o n=Z05 w b o n:=λb o n=>by unfold Z05;rw [hw2]
 rcases hvad with rfl | ⟨b',o',rfl,hvc⟩
 ·have:n'=0:=by rw [hn',<-hvl];rfl
  subst this
  cases ad' with
  | none=>exact run_firstCells_none _ _ _ _ _
  | some b=>exact run_firstCells_some (P:=P) w2 (size e) 0 b 0 cap' [] (by simp) (by simp)
 ·by_cases h0:vs=[]
  ·subst h0
   have:n'=0:=by rw [hn',<-hvl];rfl
   subst this
   exact run_firstCells_some (P:=P) w2 (size e) 0 _ 0 cap' [] (by simp) (by simp)
  ·have hc:=Z77 (w:=w2) (List.length_pos_iff.2 h0) (λk hk=>by rw [hcw];exact hvc k hk)
   exact run_firstCells_some (P:=P) w2 (size e) n' _ n' cap' _ (by rw [Z1E hc,hn',hvl]) (λj v hj=>Z22 hc j v hj)
theorem Z86 (hT:Z0e P tys) {sT xT ty et:TypeId} {le:List TypeId} (hu:P.underlying sT=some (.slice et)) (hux:P.underlying xT=some .string) (hea:Z0o tys et=some (.int .u8,le))
  {fp1:List Nat} (I:Inv W0 M σ a w G (fp1++xs)) {t:Tag} (ht:t.own=true) {ad:Option Addr} {n cap:Nat} {l:List Int} {s:ByteArray}
  (hR1:Rp w G.F G.St G.Al (.slice (.int .u8)) [t] [.slice ad n cap] l fp1) (hlim:lim (l.length+s.size)=true) :
  ∃ v w' G' fp,(Builtin.append_ #[sT,xT] ty #[.slice ad n cap,.string s]).run P w= .ok v w'/\Inv W0 M σ a w' G' (fp++xs)/\Z0f false v/\Rp w' G'.F G'.St G'.Al (.slice (.int .u8)) [.O] (Z02 v) (l++Z1o s) fp/\Calmer w G w' G':=by
 let vs:List (Elem (.int .u8)):=s.data.toList.map λb=>⟨(b.toNat:Int),[],[.int .u8 b.toNat],[]⟩
 have hlen:(Z1o s).length=s.size:=by simp [Z1o]
 have hflat:(vs.map (·.fp)).flatten=[]:=by
  simp only [vs,List.map_map]
  generalize s.data.toList=L
  induction L with
  | nil=>rfl
  | cons b L ih=>simp
 have hcs:((vs.map (·.cs)).flatten).toArray=(Go.Lib.strCells s).toArray:=by
  simp only [vs,Go.Lib.strCells,List.map_map]
  generalize s.data.toList=L
  congr 1
  induction L with
  | nil=>rfl
  | cons b L ih=>simpa using ih
 exact Z5R (e:= .int .u8) (t':= .O) (t0:= .O) (m:=Z1o s) (vs:=vs) (pre2:=[]) (fp2:=[]) hT hu (.inr hux) hea (by simpa using I) ht hR1 (by rw [hlen];exact hlim) rfl hlen.symm (by simp [vs,Z1o]) (by rw [hflat];rfl)
  (λu hu=>by
   obtain ⟨b,_,rfl⟩:=List.mem_map.1 hu
   exact ⟨rfl,rfl,rfl,rfl⟩) rfl (λw2 _=>by rw [hcs];exact Go.Lib.run_firstCells_string w2 1 s)
end
end Go.PI
namespace Go.PI
section
variable {W0:Base} {M:Nat->Prop} {σ:State} {a:Act} {w w':World} {G:Ghost} {xs:List Nat} {P:Program} {tys:List (TypeId×Ty×List TypeId)}
variable {R:Type} {Γ:Env R} {d:Option Nat} {type:TypeId} {o:Oper} {k:TV->State->Option R} {r:R}
theorem Z1W {e:Ty} {v:TVal} {x:El e} (h:Z2I e v=some x):∃ ag tg,v=⟨e,ag,x,tg⟩:=by
 obtain ⟨τ,ag,y,tg⟩:=v
 unfold Z2I at h
 split at h
 ·rename_i hh
  simp only at hh
  subst hh
  cases h
  exact ⟨ag,tg,rfl⟩
 ·cases h
theorem Z7Q (hT:Z0e P Γ.tys) (I:Inv W0 M σ a w G xs) {c:Call} (ho:o.op= .call c) (hcal:c.callee= .builtin .append) (h:Z0N Γ d type σ k o.op=some r):∃ tv σ',k tv σ'=some r/\Z1p P W0 M o a w G xs σ' tv true:=by
 rw [ho] at h
 simp only [Z0N,hcal] at h
 split at h
 ·rename_i s x sT xT hargs htys
  have ha:c.args= #[s,x]:=by cases hca:c.args;rw [hca] at hargs;simp at hargs;rw [hargs]
  have hty:c.argTypes= #[sT,xT]:=by cases hca:c.argTypes;rw [hca] at htys;simp at htys;rw [htys]
  unfold Z7Z at h
  split at h
  ·rename_i e hsT
   split at h
   ·rename_i v σ1 htk1
    split at h
    ·rename_i l t hl htg
     split at h
     ·rename_i hc
      simp only [Bool.and_eq_true,Bool.not_eq_true'] at hc
      obtain ⟨⟨hown,hvag⟩,hsag⟩:=hc
      split at h
      ·rename_i e' hxT
       split at h
       ·rename_i u σ2 htk2
        split at h
        ·rename_i m t' hm htg'
         split at h
         ·cases h
         rename_i hc2
         simp only [Bool.or_eq_true,not_or,Bool.not_eq_true] at hc2
         rw [cond_eq_ite] at h
         split at h
         ·rename_i hlim
          obtain ⟨ag1,tg1,rfl⟩:=Z1W hl
          obtain ⟨ag2,tg2,rfl⟩:=Z1W hm
          simp only at htg htg' hvag hc2
          subst htg;subst htg';subst hvag
          obtain ⟨hu2,hxag⟩:=hc2
          subst hu2
          obtain ⟨fp1,G1,I1,hs1,_,hR1,hsh1⟩:=Z10 I htk1
          obtain ⟨fp2,G2,I2,hs2,_,hR2,hsh2⟩:=Z10 I1 htk2
          have hR1:Rp w G2.F G2.St G2.Al (.slice e) [t] (Z02 (a.eval s)) l fp1:=by rw [hs2.F,hs2.St,hs2.Al];exact hR1
          have hR2:Rp w G2.F G2.St G2.Al (.slice e) [t'] (Z02 (a.eval x)) m fp2:=hR2
          have hsh1:Z0f false (a.eval s):=hsh1
          have hsh2:Z0f false (a.eval x):=hsh2
          obtain ⟨ad,cap,hv1,_⟩:=Z2C hsh1 hR1
          obtain ⟨ad',cap',hv2,_⟩:=Z2C hsh2 hR2
          rw [hv1,Z0r rfl] at hR1
          rw [hv2,Z0r rfl] at hR2
          obtain ⟨et,le,hu,hea,_⟩:=Z12 hT hsT hsag
          obtain ⟨et2,le2,hux,_,_⟩:=Z12 hT hxT hxag
          obtain ⟨vv,w',G',fp,hrun,I',hsh,hR,hcalm⟩:=Z4r (ty:=o.type) hT hu hux hea I2 hown hR1 hR2 hlim rfl
          refine ⟨_,_,h,vv,w',G',fp,_,?_,.inl rfl,I',⟨hsh,hR⟩,λ_=>(hs1.trans hs2).calmer.trans hcalm⟩
          rw [Z03 ho]
          simp only [execOp,resolve,hcal,ha,hty,Sem.run_bind,Sem.run_pure,Result.andThen_ok,invoke,builtin]
          simp only [List.map_toArray,List.map_cons,List.map_nil,hv1,hv2]
          rw [hrun]
          rfl
         ·cases h
        ·cases h
       ·cases h
      ·rename_i hxT
       split at h
       ·rename_i b tg' hlk
        split at h
        ·cases h
        rename_i hxag
        simp only [Bool.not_eq_true] at hxag
        split at h
        ·rename_i m hm
         obtain ⟨ag2,tg2,hm⟩:=Z1W hm
         simp only [TVal.mk.injEq,Ty.slice.injEq] at hm
         obtain ⟨he,_,hmx,_⟩:=hm
         subst he
         have hmx:m=Z1o b:=(eq_of_heq hmx).symm
         subst hmx
         rw [cond_eq_ite] at h
         split at h
         ·rename_i hlim
          obtain ⟨ag1,tg1,rfl⟩:=Z1W hl
          simp only at htg hvag
          subst htg;subst hvag
          obtain ⟨fp1,G1,I1,hs1,_,hR1,hsh1⟩:=Z10 I htk1
          have hsh1:Z0f false (a.eval s):=hsh1
          obtain ⟨ad,cap,hv1,_⟩:=Z2C hsh1 hR1
          have hv2:=Z27 I1 hlk
          rw [hv1,Z0r rfl] at hR1
          obtain ⟨et,le,hu,hea,_⟩:=Z12 hT hsT hsag
          have hux:=Z1J hT hxT hxag
          obtain ⟨vv,w',G',fp,hrun,I',hsh,hR,hcalm⟩:=Z86 (ty:=o.type) hT hu hux hea I1 hown hR1 hlim
          refine ⟨_,_,h,vv,w',G',fp,_,?_,.inl rfl,I',⟨hsh,hR⟩,λ_=>hs1.calmer.trans hcalm⟩
          rw [Z03 ho]
          simp only [execOp,resolve,hcal,ha,hty,Sem.run_bind,Sem.run_pure,Result.andThen_ok,invoke,builtin]
          simp only [List.map_toArray,List.map_cons,List.map_nil,hv1,hv2]
          rw [hrun]
          rfl
         ·cases h
        ·cases h
       ·cases h
      ·cases h
     ·cases h
    ·cases h
   ·cases h
  ·cases h
 ·cases h
end
end Go.PI
namespace Go.PI
section
variable {W0:Base} {M:Nat->Prop} {σ:State} {a:Act} {w w':World} {G:Ghost} {xs:List Nat} {P:Program} {tys:List (TypeId×Ty×List TypeId)} {o:Oper} {g:Bool} {tv:TV}
def Z6W (P:Program) (σ:State) (a:Act) (w:World) (G:Ghost) (o:Oper) (tv:TV):Prop:=
 ∃ v,Z01 σ G a w tv v []/\∀ w2,Z4p w G w2->(execOp a.eval o).run P w2= .ok (.value v) w2
theorem Z0P.b (h:Z0P P σ a w G o tv):Z6W P σ a w G o tv:=by
 obtain ⟨v,h1,h2⟩:=h
 exact ⟨v,h1,λw2 _=>h2 w2⟩
theorem Z8F (I:Inv W0 M σ a w G xs) {p:Place} {u:TVal} {cs:List Value} {b:Nat×Nat} (hb:p.box=true) (hf:Z08 p.path=true) (hu:σ.getAt p=some u) (hp:Z0C σ G a w p cs (some b)) {w2:World} (hc:Z4p w G w2) :
  Z05 w2 b.1 b.2 cs.length=some cs:=by
 have h0:=Z1F I hp (w2:=w) ⟨λ_ _ _ _ _ _ _ h=>h,λ_ _ _=>rfl⟩
 obtain ⟨τ,l,bs,hct,hr,hl⟩:=hp
 obtain ⟨c,hcn,rfl⟩:=Option.map_eq_some_iff.1 hct
 obtain ⟨l',b',fp,hr',hrp,hw⟩:=Z0H I hcn
 rw [hr] at hr'
 cases hr'
 obtain ⟨c',hc',hgp⟩:=Z0D hu
 rw [hcn] at hc'
 cases hc'
 obtain ⟨τf,hτf⟩:=Z2b hf hgp
 obtain ⟨h1,h2⟩:=Z0V (w:=w) (base:=bs) hτf hrp.len.1
 rw [hl] at h1
 simp only [Option.some.injEq,Prod.mk.injEq] at h1
 rcases hw with ⟨_,hbx,_,hbe⟩ | ⟨hb',_⟩
 ·rw [hbe] at h1
  simp only [Option.map_some,Option.some.injEq] at h1
  have hblk:b.1=G.ad p.root:=by rw [h1.2]
  rw [Z11 (hc _ _ (by rw [hblk];exact (I.box _ _ hbx).2))]
  exact h0
 ·rw [hb] at hb';cases hb'
theorem Z8B (hT:Z0e P tys) (I:Inv W0 M σ a w G xs) {t:TypeId} {x:Operand} (ho:o.op= .load t x) (h:Z0l tys σ o.op=some (g,tv)) (hbs:Z2f σ o.op=true):Z6W P σ a w G o tv:=by
 rw [ho] at h hbs
 simp only [Z0l] at h
 simp only [Z2f] at hbs
 have hpk:=Z0w I x
 split at h
 ·rename_i τ p hτ hp
  rw [hp] at hpk
  have hpk:=hpk (by simp)
  split at h
  ·rename_i u hu
   split at h
   ·rename_i hut
    obtain ⟨tv',hrt,he⟩:=Option.map_eq_some_iff.1 h
    simp only [Prod.mk.injEq] at he
    obtain ⟨rfl,rfl⟩:=he
    obtain ⟨⟨τ',l⟩,hta,hτe⟩:=Option.map_eq_some_iff.1 hτ
    simp only at hτe;subst hτe
    obtain ⟨cs,b,hpl,hv⟩:=hpk.2.2.2.some hu
    obtain ⟨hlen,hone⟩:=Z1M I hu hpl
    have hag:Z0p tys t= !l.isEmpty:=by simp [Z0p,hta]
    have hgo:=Z1i (ag:=Z0p tys t) hone (λhf=>by
     rw [hlen,hut]
     rw [hag] at hf
     have hl:l=[]:=by simpa using hf
     obtain ⟨_,_,_,_,h5,h6⟩:=(hT t τ' l hta).und hl
     cases τ'<;>first | rfl | (exact absurd rfl h5) | (exact absurd rfl (h6 _ _)))
    refine ⟨Z0L (Z0p tys t) cs,Z2A I hrt hpl hgo.1 hgo.2,λw2 hc=> ?_⟩
    have hcell:=Z8F I hpk.2.1 hpk.2.2.1 hu hpl hc
    rw [hlen,hut] at hcell
    have:=Z1Z (w:=w2) hT hta hcell
    rw [Z03 ho]
    simp only [execOp,hv,Instr.loadAt,Instr.sureAddr,Sem.run_bind,Sem.run_pure,Result.andThen_ok,this,hag]
   ·cases h
  ·cases h
 ·rename_i τ p hτ hp
  rw [hp] at hbs;cases hbs
 ·rename_i τ v t hτ hp
  rw [hp] at hbs;cases hbs
 ·rename_i hp
  rw [hp] at hbs;cases hbs
 ·cases h
theorem Z6T (hT:Z0e P tys) (I:Inv W0 M σ a w G xs) {s t:TypeId} {x:Operand} (ho:o.op= .convert s t x) (h:Z0l tys σ o.op=some (g,tv)) (hbs:Z2f σ o.op=true):Z6W P σ a w G o tv:=by
 rw [ho] at h hbs
 simp only [Z2f] at hbs
 split at hbs
 ·rename_i k0 ag0 n0 tg0 hpk
  have hlk:σ.look x=some ⟨.int k0,ag0,n0,tg0⟩:=by simp only [State.look,hpk]
  simp only [Z0l,hlk] at h
  split at h
  ·cases h
  rename_i hag
  simp only [Bool.or_eq_true,not_or,Bool.not_eq_true] at hag
  split at h
  ·rename_i k j k2 n _ hs ht hl
   simp only [Option.some.injEq,Prod.mk.injEq] at h
   obtain ⟨rfl,rfl⟩:=h
   have hv:=Z0R I (hlk.trans hl)
   refine ⟨.int j (j.wrap n),Z0B rfl ⟨rfl,rfl,rfl⟩,λw2 _=> ?_⟩
   rw [Z03 ho]
   simp [execOp,hv,convert,run_underlying (Z5u hT hs hag.1),run_underlying (Z5u hT ht hag.2),Conv.intToInt]
  ·rename_i hl;cases hl
  ·rename_i hl;cases hl
  ·cases h
 ·cases hbs
theorem Z8X (hT:Z0e P tys) (I:Inv W0 M σ a w G xs) (h:Z0l tys σ o.op=some (g,tv)) (hg:g=true) (hbs:Z2f σ o.op=true):Z6W P σ a w G o tv:=by
 cases hop:o.op with
 | move x=>exact (Z3h I hop h).b
 | unOp op t x=>exact (Z6Q I hop h).b
 | binOp op t x y ty=>exact (Z7y hT I hop h hg).b
 | convert s t x=>exact Z6T hT I hop h hbs
 | nilCheck x=>exact (Z3r I hop h).b
 | makeFunc f fst cs=>exact (Z4N I hop h).b
 | load t x=>exact Z8B hT I hop h hbs
 | slice t x lo hi mx=>exact (Z6g hT I hop h hg).b
 | fieldAddr t x i=>exact (Z2X hT I hop h).b
 | field t x i=>exact (Z6e hT I hop h).b
 | indexAddr t x i=>exact (Z2Y hT I hop h hg).b
 | index t x i=>exact (Z6f hT I hop h hg).b
 | extract x i=>exact (Z5g I hop h).b
 | call c=>exact (Z7A hT I hop h).b
 | _=>rw [hop] at h;simp [Z0l] at h
end
end Go.PI
namespace Go.PI
section
variable {W0:Base} {M:Nat->Prop} {σ:State} {a:Act} {w w':World} {G:Ghost} {xs:List Nat} {P:Program} {tys:List (TypeId×Ty×List TypeId)}
variable {R:Type} {Γ:Env R} {d:Option Nat} {type:TypeId} {o:Oper} {r:R} {ops:Array Oper} {Q:Exit->Act->World->Prop} {K:Act->World->Prop}
def Z17 (Γ:Env R) (op:Op) (w:World) (G:Ghost) (w':World) (G':Ghost):Prop:=(Z1B Γ op=true->Calmer w G w' G')/\(Z1O Γ op=true->Z5l w G w' G')
theorem Calmer.all {op:Op} {w w':World} {G G':Ghost} (h:Calmer w G w' G'):Z17 Γ op w G w' G':=⟨λ_=>h,λ_=>h.b⟩
theorem Z17.after {op:Op} {w w' w2:World} {G G' G2:Ghost} (h:Calmer w G w' G') (k:Z17 Γ op w' G' w2 G2):Z17 Γ op w G w2 G2:=⟨λht=>h.trans (k.1 ht),λht=>λu hu=>h.b u (k.2 ht u hu)⟩
theorem Z17.before {op:Op} {w w' w2:World} {G G' G2:Ghost} (k:Z17 Γ op w G w' G') (h:Calmer w' G' w2 G2):Z17 Γ op w G w2 G2:=⟨λht=>(k.1 ht).trans h,λht=>λu hu=>k.2 ht u (h.b u hu)⟩
def Z71 (P:Program) (Γ:Env R):Prop:=
 ∀ (W0:Base) (M:Nat->Prop) (σ:State) (a:Act) (w:World) (G:Ghost) (o:Oper) (c:Call) (f:Operand) (k:TV->State->Option R) (r:R) (K:Act->World->Prop) (Q:Exit->Act->World->Prop),
  Inv W0 M σ a w G []->o.op= .call c->c.callee= .value f->Z0N Γ o.dst o.type σ k o.op=some r ->
  (∀ tv σ' v w' G' fp,k tv σ'=some r->Inv W0 M σ' a w' G' (fp++[])->Z01 σ' G' a w' tv v fp->Z17 Γ o.op w G w' G'->K (a.put o.dst v) w')->o.wp P a w K Q
structure HoleSt (W0:Base) (M:Nat->Prop) (σ:State) (a:Act) (w:World) (d:Nat) (p:Place) (w2:World) (G:Ghost) (b off:Nat) (v:Value):Prop where
 inv:Inv W0 M σ a w2 G []
 patch:w2=Z0m w b off [v]
 tmp:a.tmps.getD d undef=v
 one:one v=true
 at_:∃ τ l bs cs,σ.ct p=some τ/\Z09 G a w2 p=some (l,bs)/\Z00 w2 τ l bs p.path=some (cs,some (b,off))
 cell:∃ C T fr,w.heap[b]? = some (.cells C T fr)/\off<C.size/\Z41 C fr
def Z7Y (P:Program) (Γ:Env R):Prop:=
 ∀ (W0:Base) (M:Nat->Prop) (σ:State) (a:Act) (w:World) (G:Ghost) (o:Oper) (d:Nat) (p:Place) (c:Call) (s:Operand) (l:List Operand) (k:State->Option R) (r:R) (K:Act->World->Prop) (Q:Exit->Act->World->Prop),
  Inv W0 M σ a w G []->W0.np<=Γ.np->Γ.np<=d->d<σ.slots.length->o.dst=some d->o.op= .call c->c.args.toList=s::l->σ.peek s= .ref p false->(p.box=true\/d≠p.root)->Z2M p.path=true->(Z08 p.path=true->p.box=true) ->
  Z8q Γ d p o σ k=some r ->
  (∀ σ' v w' w2 G' G1 b off v1,k σ'=some r->HoleSt W0 M σ' (a.put (some d) v) w' d p w2 G' b off v1->Z17 Γ o.op w G w' G1->K (a.put o.dst v) w')->o.wp P a w K Q
structure CallsOk (P:Program) (Γ:Env R):Prop where
 call:Z71 P Γ
 hole:Z7Y P Γ
theorem Z1p.wp {tame:Bool} {σ':State} {tv:TV} (h:Z1p P W0 M o a w G [] σ' tv tame) (hK:∀ v w' G' fp,Inv W0 M σ' a w' G' (fp++[])->Z01 σ' G' a w' tv v fp->(tame=true->Calmer w G w' G')->K (a.put o.dst v) w'):o.wp P a w K Q:=by
 obtain ⟨v,w',G',fp,n,hrun,hn,I',hs,hc⟩:=h
 unfold Oper.wp
 rw [hrun]
 rcases hn with rfl | ⟨rfl,rfl⟩
 ·rw [Oper.upon_value];exact hK v w' G' fp I' hs hc
 ·rw [Oper.upon_skip];exact hK undef w' G' fp I' hs hc
theorem Z8o (hT:Z0e P Γ.tys) (hcalls:CallsOk P Γ) (I:Inv W0 M σ a w G []) {k:TV->State->Option R} (h:Z0N Γ o.dst o.type σ k o.op=some r)
  (hK:∀ tv σ' v w' G' fp,k tv σ'=some r->Inv W0 M σ' a w' G' (fp++[])->Z01 σ' G' a w' tv v fp->Z17 Γ o.op w G w' G'->K (a.put o.dst v) w'):o.wp P a w K Q:=by
 have use:∀ {tame:Bool},(Z1B Γ o.op=true\/Z1O Γ o.op=true->tame=true)->(∃ tv σ',k tv σ'=some r/\Z1p P W0 M o a w G [] σ' tv tame)->o.wp P a w K Q:=by
  rintro tame ht ⟨tv,σ',hk,hh⟩
  exact hh.wp λv w' G' fp I' hs hc=>hK tv σ' v w' G' fp hk I' hs ⟨λh=>hc (ht (.inl h)),λh=>(hc (ht (.inr h))).b⟩
 cases hop:o.op with
 | assign x=>exact use (λ_=>rfl) (Z7R I hop h)
 | alloc t=>exact use (λ_=>rfl) (Z8m hT I hop h)
 | box t x=>exact use (λ_=>rfl) (Z9d I hop h)
 | build t ps=>exact use (λ_=>rfl) (Z8n hT I hop h)
 | buildSlice t n ps=>exact use (λ_=>rfl) (Z5X hT I hop h)
 | store t y x=>exact use (λht=>by rw [hop] at ht;rcases ht with ht | ht<;>cases ht) (Z8p hT I hop h)
 | convert s t x=>exact use (λ_=>rfl) (Z7d hT I hop h)
 | makeSlice t n c=>exact use (λ_=>rfl) (Z6o hT I hop h)
 | call c=>
  cases hcal:c.callee with
  | builtin b=>
   cases b with
   | append=>exact use (λ_=>rfl) (Z7Q hT I hop hcal h)
   | _=>rw [hop] at h;simp [Z0N,hcal] at h
  | value f=>exact hcalls.call W0 M σ a w G o c f k r K Q I hop hcal h hK
  | invoke a b=>rw [hop] at h;simp [Z0N,hcal] at h
 | _=>rw [hop] at h;simp [Z0N] at h
theorem Z8R (hT:Z0e P Γ.tys) (hcalls:CallsOk P Γ) (I:Inv W0 M σ a w G []) {k:TV->State->Option R} (h:opC Γ o.dst o.type σ k o.op=some r)
  (hK:∀ tv σ' v w' G' fp,k tv σ'=some r->Inv W0 M σ' a w' G' (fp++[])->Z01 σ' G' a w' tv v fp->Z17 Γ o.op w G w' G'->K (a.put o.dst v) w'):o.wp P a w K Q:=by
 unfold opC at h
 split at h
 ·rename_i g tv hs
  rw [cond_eq_ite] at h
  split at h
  ·rename_i hg
   obtain ⟨v,hsl,hrun⟩:=Z7B hT I hs hg
   unfold Oper.wp
   rw [hrun w ⟨λ_ _ _ _ _ _ _ h=>h,λ_ _ _=>rfl⟩,Oper.upon_value]
   exact hK tv σ v w G [] h I hsl (Calmer.refl _ _).all
  ·cases h
 ·exact Z8o hT hcalls I h hK
theorem Z1L {n np:Nat} {d:Option Nat} {A:Nat->Prop} (hnp:n<=np) (hd:Z4F np d=true):∀ i,d=some i->i<n->A i:=by
 intro i hi hlt
 subst hi
 simp only [Z4F,decide_eq_true_eq] at hd
 omega
theorem Z69 (hT:Z0e P Γ.tys) (hcalls:CallsOk P Γ) (hnp:W0.np<=Γ.np) (hd:Z4F Γ.np o.dst=true) (I:Inv W0 M σ a w G []) {k:State->Option R} (h:Z4G Γ o σ k=some r)
  (hK:∀ σ' a' w' G',k σ'=some r->Inv W0 M σ' a' w' G' []->Z17 Γ o.op w G w' G'->K a' w'):o.wp P a w K Q:=by
 have hmove:∀ {x:Operand} {g:Bool} {tv:TV} {v:Value},Z0l Γ.tys σ (.move x)=some (g,tv)->(execOp a.eval o).run P w= .ok (.value (a.eval x)) w->k (σ.puto o.dst tv)=some r->o.wp P a w K Q:=by
  intro x g tv v hs hrun hk
  have hs':Z0l Γ.tys σ ({ o with op:= .move x }:Oper).op=some (g,tv):=hs
  obtain ⟨v,hsl,hr⟩:=Z3h (P:=P) (o:={ o with op:= .move x }) I rfl hs'
  have hr:=hr w
  have hv:v=a.eval x:=by
   have h2:(execOp a.eval { o with op:= .move x }).run P w= .ok (.value (a.eval x)) w:=rfl
   rw [h2] at hr
   simpa using hr.symm
  subst hv
  unfold Oper.wp
  rw [hrun,Oper.upon_value]
  obtain ⟨G',I',hsim⟩:=Inv.puto (fp:=[]) (xs:=[]) I (d:=o.dst) hsl (Z1L hnp hd)
  exact hK _ _ _ _ hk I' hsim.calmer.all
 unfold Z4G at h
 split at h
 ·rename_i c x y hop
  split at h
  ·rename_i t tg hl
   have hb:=Z26 I hl
   rw [cond_eq_ite] at h
   split at h
   ·rename_i ht
    have ht:t=true:=ht
    split at h
    ·rename_i g tv hs
     refine hmove (v:=undef) hs ?_ h
     rw [Z03 hop]
     simp only [execOp,hb,asBool,Sem.run_bind,Sem.run_pure,Result.andThen_ok]
     rw [ht];rfl
    ·cases h
   ·rename_i ht
    have ht:t=false:=by simpa using ht
    split at h
    ·rename_i g tv hs
     refine hmove (v:=undef) hs ?_ h
     rw [Z03 hop]
     simp only [execOp,hb,asBool,Sem.run_bind,Sem.run_pure,Result.andThen_ok]
     rw [ht];rfl
    ·cases h
  ·cases h
 ·refine Z8R hT hcalls I h λtv σ' v w' G' fp hk I' hsl hc=> ?_
  obtain ⟨G2,I2,hsim⟩:=Inv.puto (xs:=[]) I' (d:=o.dst) hsl (Z1L hnp hd)
  exact hK _ _ _ _ hk I2 (hc.before hsim.calmer)
theorem Z5H (I:Inv W0 M σ a w G xs) {g:Nat} {b:Bool} {tg:List Tag} (h:σ.slot g= .val ⟨.bool,false,b,tg⟩):∃ G',Inv W0 M (σ.know g b) a w G' xs/\Sim G G'/\a.tmps.getD g undef= .bool b:=by
 have hcon:σ.content ⟨false,g,[]⟩=some ⟨.bool,false,b,tg⟩:=by simp [State.content,h]
 have hS:=I.slot g (Z0W (by rw [h];simp))
 rw [h] at hS
 have hv:=Z5M hS.1 hS.2
 have hR:Rp w G.F G.St G.Al .bool [] (Z02 (a.tmps.getD g undef)) b []:=by
  obtain ⟨h1,_,_⟩:=hS.2
  exact ⟨h1,rfl,rfl⟩
 have hfs:G.fs g=[]:=hS.2.2.2
 obtain ⟨G',I',hs⟩:=I.recontent (p:=⟨false,g,[]⟩) (c':=Z0A .bool b) hcon rfl rfl (l:=Z02 (a.tmps.getD g undef)) (b:=none) (f':=[]) (fi:=[]) rfl hR (by simp [Ghost.fpOf,hfs])
 have:σ.setContent ⟨false,g,[]⟩ (Z0A .bool b)=σ.know g b:=by
  simp only [State.setContent,h,State.know]
 rw [this] at I'
 exact ⟨G',I',hs,hv⟩
theorem Z1R {A:Type} {c:Bool} {x:Option A} {r:A}:((if c=true then x else none)=some r)=(c=true/\x=some r):=by
 cases c<;>simp
theorem Z5F (I:Inv W0 M σ a w G xs) {j g:Nat} {want:Bool} (hsl:σ.slot g= .un) (hg:o.guard=some (j,want)) (hdst:(ops.toList[j]?).bind (·.dst)=some g):Region.wanted o (yielded ops a.tmps)=false:=by
 have hlt:g<a.tmps.size:=by rw [I.len];exact Z0W (by rw [hsl];simp)
 have hs:=I.slot g (by rw [<-I.len];exact hlt)
 rw [hsl] at hs
 have hget:a.tmps[g]? = some undef:=by
  rw [Array.getElem?_eq_getElem hlt]
  have:=hs.1
  rw [Array.getD_eq_getD_getElem?,Array.getElem?_eq_getElem hlt] at this
  simpa using this
 have hd:(ops[j]?).bind (·.dst)=some g:=by
  rw [<-hdst,Array.getElem?_toList]
 simp only [Region.wanted,hg,yielded,hd,Option.bind_some,hget]
 cases want<;>rfl
theorem Z51 (hT:Z0e P Γ.tys) (hcalls:CallsOk P Γ) (hnp:W0.np<=Γ.np) (I:Inv W0 M σ a w G []) {k:State->Option R} {i:Nat} (ho:ops[i]? = some o) (h:Z1x Γ ops.toList o σ k=some r)
  (hK:∀ σ' a' w' G',k σ'=some r->Inv W0 M σ' a' w' G' []->Z17 Γ o.op w G w' G'->K a' w'):wpOp P ops Q i K a w:=by
 unfold wpOp
 rw [ho]
 simp only []
 unfold Z1x at h
 rw [Z1R] at h
 obtain ⟨hd,h⟩:=h
 split at h
 ·rename_i hg
  have:Region.wanted o (yielded ops a.tmps)=true:=by simp [Region.wanted,hg]
  rw [if_pos this]
  exact .inl (Z69 hT hcalls hnp hd I h hK)
 ·rename_i j want hg
  split at h
  ·rename_i g hdst
   split at h
   ·rename_i b tg hsl
    have hb:∀ {bb:Bool},b=bb->∃ G',Inv W0 M (σ.know g bb) a w G' []/\Sim G G'/\Region.wanted o (yielded ops a.tmps)=(bb==want):=by
     rintro bb rfl
     obtain ⟨G',I',hs,hv⟩:=Z5H I hsl
     refine ⟨G',I',hs,?_⟩
     have hlt:g<a.tmps.size:=by rw [I.len];exact Z0W (by rw [hsl];simp)
     have hget:a.tmps[g]? = some (.bool b):=by
      rw [Array.getElem?_eq_getElem hlt]
      rw [Array.getD_eq_getD_getElem?,Array.getElem?_eq_getElem hlt] at hv
      simpa using hv
     have hd:(ops[j]?).bind (·.dst)=some g:=by
      rw [<-hdst,Array.getElem?_toList]
     simp only [Region.wanted,hg,yielded,hd,Option.bind_some,hget]
     cases b<;>cases want<;>rfl
    have hno:∀ {bb:Bool} {σ2:State},b=bb->(bb==want)=false->k ((σ.know g bb).puto o.dst .un)=some r->(if Region.wanted o (yielded ops a.tmps)=true then o.wp P a w K Q\/(o.asks P a w/\LetsOut Q) else K (a.put o.dst undef) w):=by
     intro bb σ2 hbb hw hk
     obtain ⟨G',I',hs,hwant⟩:=hb hbb
     rw [hwant,hw]
     simp only [Bool.false_eq_true,if_false]
     obtain ⟨G2,I2,hs2⟩:=Inv.puto (fp:=[]) (xs:=[]) I' (d:=o.dst) (tv:= .un) (v:=undef) ⟨rfl,rfl⟩ (Z1L hnp hd)
     exact hK _ _ _ _ hk I2 (hs.trans hs2).calmer.all
    have hyes:∀ {bb:Bool},b=bb->(bb==want)=true->Z4G Γ o (σ.know g bb) k=some r->(if Region.wanted o (yielded ops a.tmps)=true then o.wp P a w K Q\/(o.asks P a w/\LetsOut Q) else K (a.put o.dst undef) w):=by
     intro bb hbb hw hk
     obtain ⟨G',I',hs,hwant⟩:=hb hbb
     rw [hwant,hw]
     simp only [if_true]
     exact .inl (Z69 hT hcalls hnp hd I' hk λσ' a' w' G'' hk' I'' hc=>hK _ _ _ _ hk' I'' (hc.after hs.calmer))
    rw [cond_eq_ite] at h
    split at h
    ·rename_i hbt
     split at h
     ·rename_i hw;exact hyes (bb:=true) hbt (by rw [hw];rfl) h
     ·rename_i hw;exact hno (σ2:=σ) (bb:=true) hbt (by simp at hw;rw [hw];rfl) h
    ·rename_i hbt
     have hbf:b=false:=by simpa using hbt
     split at h
     ·rename_i hw;exact hno (σ2:=σ) (bb:=false) hbf (by rw [hw];rfl) h
     ·rename_i hw;exact hyes (bb:=false) hbf (by simp at hw;rw [hw];rfl) h
   ·rename_i hsl
    rw [if_neg (by rw [Z5F I hsl hg hdst];simp)]
    obtain ⟨G2,I2,hs2⟩:=Inv.puto (fp:=[]) (xs:=[]) I (d:=o.dst) (tv:= .un) (v:=undef) ⟨rfl,rfl⟩ (Z1L hnp hd)
    exact hK _ _ _ _ h I2 hs2.calmer.all
   ·cases h
  ·cases h
theorem Z5Z {rest:List Oper} {d:Nat} {p:Place} (h:Z5Y Γ σ o rest=some (d,p)) :
  ∃ c s l,o.dst=some d/\o.guard=none/\o.op= .call c/\c.args.toList=s::l/\σ.peek s= .ref p false/\Z35 d p rest=true/\Γ.np<=d/\d<σ.slots.length/\(p.box=true\/d≠p.root)/\Z2M p.path=true/\(Z08 p.path=true->p.box=true):=by
 unfold Z5Y at h
 split at h
 ·rename_i d' c hd hg hop
  split at h
  ·rename_i s l hargs
   split at h
   ·rename_i p' hp
    split at h
    ·rename_i hf
     split at h
     ·rename_i cv hcv
      split at h
      ·rename_i hc
       simp only [Bool.and_eq_true,Z8P,decide_eq_true_eq,Bool.or_eq_true,Bool.not_eq_true',beq_eq_false_iff_ne,ne_eq] at hc
       obtain ⟨⟨⟨⟨⟨h1,h2⟩,h3⟩,h6⟩,h4⟩,h5⟩:=hc
       split at h
       ·split at h
        ·cases h
        ·rename_i hfl
         cases h
         exact ⟨c,s,l,hd,hg,hop,hargs,hp,hf,h4,h6,h5,h3,λh=>absurd h hfl⟩
       ·split at h
        ·split at h
         ·split at h
          ·split at h
           ·cases h
           ·rename_i hfl
            cases h
            refine ⟨c,s,l,hd,hg,hop,hargs,hp,hf,h4,h6,h5,h3,λh=> ?_⟩
            simp only [h,Bool.true_and,Bool.not_eq_true',Bool.not_eq_false] at hfl
            exact hfl
          ·cases h
         ·cases h
        ·cases h
       ·cases h
      ·cases h
     ·cases h
    ·cases h
   ·cases h
  ·cases h
 ·cases h
theorem Z4H:{p q:List Step}->Z3z p q=true->p=q
 | [],[],_=>rfl
 | [],_::_,h=>by cases h
 | _::_,[],h=>by rename_i a l;cases a<;>cases h
 | .fst::p,.fst::q,h=>by rw [Z4H (p:=p) (q:=q) h]
 | .snd::p,.snd::q,h=>by rw [Z4H (p:=p) (q:=q) h]
 | .idx i::p,.idx j::q,h=>by
  simp only [Z3z,Bool.and_eq_true,Z9p] at h
  rw [Z4H h.2,Nat.eq_of_beq_eq_true h.1]
 | .fst::_,.snd::_,h=>by cases h
 | .fst::_,.idx _::_,h=>by cases h
 | .snd::_,.fst::_,h=>by cases h
 | .snd::_,.idx _::_,h=>by cases h
 | .idx _::_,.fst::_,h=>by cases h
 | .idx _::_,.snd::_,h=>by cases h
theorem Z80 {i:Nat} {d:Option Nat} (h:Z4Y i d=true):d≠some i:=by
 rintro rfl
 simp [Z4Y] at h
theorem Z58 {a:Act} {d:Option Nat} {v:Value} {i:Nat} (h:d≠some i):(a.put d v).tmps.getD i undef=a.tmps.getD i undef:=by
 cases d with
 | none=>rfl
 | some j=>
  simp only [Act.put]
  rw [Array.getD_eq_getD_getElem?,Array.getElem?_setIfInBounds_ne (λe=>h (by rw [e])),<-Array.getD_eq_getD_getElem?]
theorem Z59 {d:Option Nat} {tv:TV} {p:Place} (h:p.box=true\/d≠some p.root):(σ.puto d tv).ct p=σ.ct p:=by
 cases d with
 | none=>rfl
 | some i=>
  obtain ⟨bx,root,path⟩:=p
  cases bx with
  | true=>rfl
  | false=>
   have hne:i≠root:=by
    rcases h with h | h
    ·cases h
    ·exact λe=>h (by rw [e])
   simp only [State.ct,State.content,State.puto]
   rw [Z4J,if_neg (λh=>hne h.1),Z0i,Z3B]
   cases σ.slot root with
   | sptr r τ q=>
    simp only [TV.unmir]
    cases r==i<;>rfl
   | ref q ag=>
    simp only [TV.unmir,TV.loosen]
    cases q.box==false&&q.root==i<;>rfl
   | eref q=>
    simp only [TV.unmir,TV.loosen]
    cases q.box==false&&q.root==i<;>rfl
   | tref q ag=>
    simp only [TV.unmir,TV.loosen]
    cases (!false)&&q==i<;>rfl
   | _=>rfl
theorem Z6J (hT:Z0e P Γ.tys) (hnp:W0.np<=Γ.np) {d:Nat} {p:Place} {w2:World} {b off:Nat} {v1:Value} (H:HoleSt W0 M σ a w d p w2 G b off v1) (hd:Z4F Γ.np o.dst=true) (hm:Z7n o.op=true) (h1:Z4Y d o.dst=true)
  (h2:p.box=true\/Z4Y p.root o.dst=true) {g:Bool} {tv:TV} (hs:Z0l Γ.tys σ o.op=some (g,tv)) (hg:g=true) :
  ∃ v G',(execOp a.eval o).run P w= .ok (.value v) w/\HoleSt W0 M (σ.puto o.dst tv) (a.put o.dst v) w d p w2 G' b off v1:=by
 have hall:Z0P P σ a w2 G o tv:=by
  cases hop:o.op with
  | move x=>exact Z3h H.inv hop hs
  | nilCheck x=>exact Z3r H.inv hop hs
  | fieldAddr t x i=>exact Z2X hT H.inv hop hs
  | indexAddr t x i=>exact Z2Y hT H.inv hop hs hg
  | _=>rw [hop] at hm;cases hm
 obtain ⟨v,hsl,hrun⟩:=hall
 obtain ⟨G',I',hsim⟩:=Inv.puto (fp:=[]) (xs:=[]) H.inv (d:=o.dst) hsl (Z1L hnp hd)
 obtain ⟨τ,l,bs,cs,q1,q2,q3⟩:=H.at_
 have hroot:p.box=true\/o.dst≠some p.root:=h2.imp id Z80
 refine ⟨v,G',hrun w,⟨I',H.patch,(Z58 (Z80 h1)).trans H.tmp,H.one,⟨τ,l,bs,cs,(Z59 hroot).trans q1,?_,q3⟩,H.cell⟩⟩
 rw [<-q2]
 obtain ⟨bx,root,path⟩:=p
 cases bx with
 | true=>simp only [Z09];rw [hsim.ad]
 | false=>
  simp only [Z09]
  rw [Z58 (by
   rcases hroot with h | h
   ·cases h
   ·exact h)]
theorem Z3X {w:World} {b off:Nat} {C:Array Value} {T:TypeId} {fr:Nat×Nat} {l:List Value} (h:w.heap[b]? = some (.cells C T fr)):w.setRow b (Z0c C.toList off l).toArray=Z0m w b off l:=by
 have:(w.setRow b (Z0c C.toList off l).toArray).heap=(Z0m w b off l).heap:=Array.ext_getElem? λz=>Z5f h z
 unfold World.setRow Z0m at *
 simp only at this ⊢
 rw [this]
theorem Z60 (hT:Z0e P Γ.tys) {d:Nat} {p:Place} {w2:World} {b off:Nat} {v1:Value} (H:HoleSt W0 M σ a w d p w2 G b off v1) {t:TypeId} {y:Operand} (hop:o.op= .store t y (.tmp d)) {e:Ty} (ht:Z0z Γ.tys t=some (.slice e)) {q:Place}
  (hq:(σ.peek y= .eref q\/σ.peek y= .ptr q)/\q.box=p.box/\q.root=p.root) (hp:Z3z q.path p.path=true):(execOp a.eval o).run P w= .ok .skip w2:=by
 obtain ⟨hpk,hb,hr⟩:=hq
 have hqp:q=p:=by
  obtain ⟨qb,qr,qp⟩:=q
  obtain ⟨pb,pr,pp⟩:=p
  simp only at hb hr hp
  rw [hb,hr,Z4H hp]
 subst hqp
 obtain ⟨τ,l,bs,cs,q1,q2,q3⟩:=H.at_
 have hpr:Z0x σ G a w2 q (a.eval y):=by
  rcases hpk with hpk | hpk
  ·have hpr:=Z0w H.inv y
   rw [hpk] at hpr
   exact (hpr (by simp)).2
  ·have hpr:=Z0w H.inv y
   rw [hpk] at hpr
   exact (hpr (by simp)).2.2.2
 have hptr:a.eval y= .pointer (some ⟨b,off,none⟩):=by
  rcases hpr with h | ⟨cs',b',⟨τ',l',bs',r1,r2,r3⟩,hv⟩
  ·rw [q1] at h;cases h
  ·rw [q1] at r1
   cases r1
   rw [q2] at r2
   cases r2
   rw [q3] at r3
   cases r3
   exact hv
 obtain ⟨C,T,fr,hC,hoff,hth⟩:=H.cell
 obtain ⟨lt,hta,_⟩:=Z0S ht
 have hx:a.eval (.tmp d)=v1:=H.tmp
 have hcl:v1.cells= #[v1]:=by
  have:=H.one
  cases v1<;>simp_all [one,Value.cells]
 rw [Z03 hop]
 have hst:=Z4a (P:=P) (w:=w) (off:=off) hT hta hC hth (v:=v1) (by rw [hcl];rfl) (by show off+1<=C.size;omega) (by rw [hcl];simpa using H.one)
 simp only [execOp,hptr,hx,Sem.run_bind,hst,Result.andThen_ok,Sem.run_pure]
 rw [hcl,H.patch]
 rw [<-Z3X hC]
theorem Z2N {all:List Oper} {i:Nat} {l:List Nat} {ls:List Oper} (h:Z1n all (i::l)=some ls):∃ o r,all[i]? = some o/\Z1n all l=some r/\ls=o::r:=by
 simp only [Z1n] at h
 split at h
 ·rename_i o r ho hr
  cases h
  exact ⟨o,r,ho,hr,rfl⟩
 ·cases h
theorem Z6K {d:Nat} {p:Place} {o:Oper} (h:Z35 d p [o]=true):(∃ t y,o.op= .store t y (.tmp d))/\o.guard=none/\o.dst=none:=by
 simp only [Z35,Bool.and_eq_true,Option.isNone_iff_eq_none] at h
 obtain ⟨⟨h1,h2⟩,h3⟩:=h
 refine ⟨?_,h2,h3⟩
 split at h1
 ·rename_i t y t' hop
  simp only [beq_iff_eq] at h1
  subst h1
  exact ⟨_,_,hop⟩
 ·cases h1
theorem Z62 {d:Nat} {p:Place} {o o2:Oper} {l:List Oper} (h:Z35 d p (o::o2::l)=true):Z7n o.op=true/\o.guard=none/\Z4Y d o.dst=true/\(p.box=true\/Z4Y p.root o.dst=true)/\Z35 d p (o2::l)=true:=by
 simp only [Z35,Bool.and_eq_true,Option.isNone_iff_eq_none,Bool.or_eq_true] at h
 obtain ⟨⟨⟨⟨h1,h2⟩,h3⟩,h4⟩,h5⟩:=h
 exact ⟨h1,h2,h3,h4,h5⟩
theorem Z7w {p:Place} {k:State->Option R} {t:TypeId} {y x:Operand} (hop:o.op= .store t y x) (h:Z4K Γ p [o] σ k=some r) :
  ∃ e q,Z0z Γ.tys t=some (.slice e)/\((σ.peek y= .eref q\/σ.peek y= .ptr q)/\q.box=p.box/\q.root=p.root)/\Z3z q.path p.path=true/\k σ=some r:=by
 simp only [Z4K,hop] at h
 split at h
 ·rename_i e q ht hp
  split at h
  ·rename_i hc
   simp only [Bool.and_eq_true,beq_iff_eq] at hc
   rw [cond_eq_ite,Z1R] at h
   exact ⟨e,q,ht,⟨.inl hp,hc.1.1,hc.1.2⟩,h.1,h.2⟩
  ·cases h
 ·rename_i e q ht hp
  split at h
  ·rename_i hc
   simp only [Bool.and_eq_true,beq_iff_eq] at hc
   rw [cond_eq_ite,Z1R] at h
   exact ⟨e,q,ht,⟨.inr hp,hc.1.1,hc.1.2⟩,h.1,h.2⟩
  ·cases h
 ·cases h
theorem Z6M {p:Place} {k:State->Option R} {o2:Oper} {l:List Oper} (h:Z4K Γ p (o::o2::l) σ k=some r):Z4F Γ.np o.dst=true/\∃ g tv,Z0l Γ.tys σ o.op=some (g,tv)/\g=true/\Z4K Γ p (o2::l) (σ.puto o.dst tv) k=some r:=by
 simp only [Z4K] at h
 rw [Z1R] at h
 obtain ⟨hd,h⟩:=h
 split at h
 ·rename_i g tv hs
  rw [cond_eq_ite,Z1R] at h
  exact ⟨hd,g,tv,hs,h.1,h.2⟩
 ·cases h
theorem Z2k {i:Nat} (ho:ops[i]? = some o) (hg:o.guard=none) (h:o.wp P a w K Q):wpOp P ops Q i K a w:=by
 unfold wpOp
 rw [ho]
 simp only []
 have:Region.wanted o (yielded ops a.tmps)=true:=by simp [Region.wanted,hg]
 rw [if_pos this]
 exact .inl h
theorem Z6c (hT:Z0e P Γ.tys) (hnp:W0.np<=Γ.np) {d:Nat} {p:Place} {w2:World} {b off:Nat} {v1:Value} {k:State->Option R} :
  (l:List Nat)->(ls:List Oper)->(σ:State)->(a:Act)->(G:Ghost)->Z1n ops.toList l=some ls->Z35 d p ls=true->HoleSt W0 M σ a w d p w2 G b off v1->Z4K Γ p ls σ k=some r ->
  (∀ σ' a' w' G',k σ'=some r->Inv W0 M σ' a' w' G' []->Q .normal a' w')->wpOps P ops Q l a w
 | [],ls,σ,a,G,hp,hf,H,h,hK=>by
  simp only [Z1n,Option.some.injEq] at hp
  subst hp
  cases hf
 | i::l,ls,σ,a,G,hp,hf,H,h,hK=>by
  obtain ⟨o,r',ho,hr',rfl⟩:=Z2N hp
  have ho':ops[i]? = some o:=by rw [<-Array.getElem?_toList];exact ho
  rw [wpOps_cons]
  cases r' with
  | nil=>
   have hl:l=[]:=by
    cases l with
    | nil=>rfl
    | cons j l=>
     obtain ⟨_,_,_,_,h⟩:=Z2N hr'
     cases h
   subst hl
   obtain ⟨⟨t,y,hop⟩,hg,hdst⟩:=Z6K hf
   obtain ⟨e,q,ht,hq,hpb,hk⟩:=Z7w hop h
   refine Z2k ho' hg ?_
   unfold Oper.wp
   rw [Z60 hT H hop ht hq hpb,Oper.upon_skip,hdst]
   exact hK σ a w2 G hk H.inv
  | cons o2 r2=>
   obtain ⟨hm,hg,h1,h2,hf2⟩:=Z62 hf
   obtain ⟨hd,g,tv,hs,hgt,hrest⟩:=Z6M h
   obtain ⟨v,G',hrun,H'⟩:=Z6J hT hnp H hd hm h1 h2 hs hgt
   refine Z2k ho' hg ?_
   unfold Oper.wp
   rw [hrun,Oper.upon_value]
   exact Z6c hT hnp l (o2::r2) _ _ G' hr' hf2 H' hrest hK
theorem Z6b (hT:Z0e P Γ.tys) (hcalls:CallsOk P Γ) (hnp:W0.np<=Γ.np) :
  (l:List Nat)->(σ:State)->(a:Act)->(w:World)->(G:Ghost)->(k:State->Option R)->Inv W0 M σ a w G []->Z5K Γ ops.toList l σ k=some r ->
  (∀ σ' a' w' G',k σ'=some r->Inv W0 M σ' a' w' G' []->Q .normal a' w')->wpOps P ops Q l a w
 | [],σ,a,w,G,k,I,h,hK=>hK σ a w G h I
 | i::l,σ,a,w,G,k,I,h,hK=>by
  rw [wpOps_cons]
  simp only [Z5K] at h
  split at h
  ·rename_i o ho
   have ho':ops[i]? = some o:=by rw [<-Array.getElem?_toList];exact ho
   have plain:Z1x Γ ops.toList o σ (λσ'=>Z5K Γ ops.toList l σ' k)=some r->wpOp P ops Q i (wpOps P ops Q l) a w:=λh=>
    Z51 hT hcalls hnp I ho' h λσ' a' w' G' hk I' _=>Z6b hT hcalls hnp l σ' a' w' G' k I' hk hK
   split at h
   ·split at h
    ·rename_i d p hh
     obtain ⟨rest,hrest,hh⟩:=Option.bind_eq_some_iff.1 hh
     rw [hrest] at h
     simp only [Z4n] at h
     obtain ⟨c,s,as,hd,hg,hop,hargs,hp,hf,hnd,hdl,hdr,h1i,hfl⟩:=Z5Z hh
     refine Z2k ho' hg ?_
     refine hcalls.hole W0 M σ a w G o d p c s as _ r _ Q I hnp hnd hdl hd hop hargs hp hdr h1i hfl h λσ' v w' w2 G' G1 b off v1 hk H _=> ?_
     rw [hd]
     exact Z6c hT hnp l rest σ' _ G' hrest hf H hk hK
    ·exact plain h
   ·exact plain h
  ·cases h
end
end Go.PI
namespace Go.PI
section
variable {P:Program} {ops:Array Oper} {Q:Exit->Act->World->Prop} {tame:Bool->Nat->Bool}
def wpT (P:Program) (ops:Array Oper) (Q:Exit->Act->World->Prop) (tame:Bool->Nat->Bool):Nat->Array Bool->Act->(Bool->World->Prop)->World->Prop
 | 0,listed,a,S,w=>Region.ready .any ops listed=[]/\Q .normal a w
 | n+1,listed,a,S,w=>
  (Region.ready .any ops listed=[]->Q .normal a w) /\
  ∀ i∈Region.ready .any ops listed,wpOp P ops Q i (λa' w'=>∃ S':Bool->World->Prop,(∀ l,S' l w')/\(∀ l,tame l i=true->∀ u,S' l u->S l u)/\wpT P ops Q tame n (listed.setIfInBounds i true) a' S' w') a w
theorem Z83:(n:Nat)->(listed:Array Bool)->(a:Act)->(S:Bool->World->Prop)->(w:World)->wpT P ops Q tame n listed a S w->wpAny P .any ops Q n listed a w
 | 0,_,_,_,_,h=>h
 | n+1,_,_,_,_,h=>⟨h.1,λi hi=>wpOp_mono (λa' w' ⟨S',_,_,h'⟩=>Z83 n _ a' S' w' h') (h.2 i hi)⟩
theorem Z6V {S S':World->Prop} {o:Oper} {v:Value} {a:Act} (h:YieldsIf P ops S o v a) (hs:∀ w,S' w->S w):YieldsIf P ops S' o v a:=
 h.imp (λ⟨h1,h2⟩=>⟨h1,λw hw=>h2 w (hs w hw)⟩) id
theorem Z94 {l:Bool} {i:Nat} {oi:Oper} {v:Value} (hi:ops[i]? = some oi) (hsel:∀ (j:Nat) (o:Oper) cs b,ops[j]? = some o->o.op≠ .select cs b)
  (hQ:∀ c a w,Q (.panic c) (a.put oi.dst v) w->Q (.panic c) a w) :
  ∀ (fuel:Nat) (listed:Array Bool) (a:Act) (S:Bool->World->Prop) (w:World),
   (∀ j oj,ops[j]? = some oj->j≠i->listed.getD j true=false->(∀ e∈oj.after,Region.binds .any e=true->e.on≠i)->oi.apart ops oj=true/\tame l j=true) ->
   i∈Region.ready .any ops listed->YieldsIf P ops (S l) oi v a->(∀ l,S l w) ->
   wpT P ops Q tame fuel (listed.setIfInBounds i true) (a.put oi.dst v) S w->wpT P ops Q tame (fuel+1) listed a S w:=by
 intro fuel
 induction fuel with
 | zero=>
  intro listed a S w _ hr hy hS H
  refine ⟨λh=>(by rw [h] at hr;cases hr),λj hj=> ?_⟩
  by_cases hji:j=i
  ·subst hji;exact hy.wpOp hi (hS l) ⟨S,hS,λ_ _ _ h=>h,H⟩
  ·have:=ready_mono hj hji
   rw [H.1] at this
   cases this
 | succ fuel ih=>
  intro listed a S w hfree hr hy hS H
  refine ⟨λh=>(by rw [h] at hr;cases hr),λj hj=> ?_⟩
  by_cases hji:j=i
  ·subst hji;exact hy.wpOp hi (hS l) ⟨S,hS,λ_ _ _ h=>h,H⟩
  ·have h1:=H.2 j (ready_mono hj hji)
   obtain ⟨hjun,oj,hoj,hall⟩:=mem_ready.1 hj
   have hnot:∀ e∈oj.after,Region.binds .any e=true->e.on≠i:=λe he hb heq=>by
    have h1:=hall e he hb
    have h0:=(mem_ready.1 hr).1
    rw [heq] at h1
    rcases Nat.lt_or_ge i listed.size with h' | h'
    ·simp [h'] at h0 h1;rw [h0] at h1;cases h1
    ·simp [Array.getElem?_eq_none h'] at h1
   obtain ⟨hap,htj⟩:=hfree j oj hoj hji hjun hnot
   have h2:=wpOp_putIf hoj hap (λcs b=>hsel i oi cs b hi) (λcs b=>hsel j oj cs b hoj) hQ hy h1
   have hfree':∀ k ok,ops[k]? = some ok->k≠i->(listed.setIfInBounds j true).getD k true=false ->
     (∀ e∈ok.after,Region.binds .any e=true->e.on≠i)->oi.apart ops ok=true/\tame l k=true:=λk ok hk hki hun hno=>by
    refine hfree k ok hk hki ?_ hno
    by_cases hjk:j=k
    ·subst hjk;exact hjun
    ·rw [getD_set_ne true hjk] at hun;exact hun
   refine wpOp_mono (λa' w' h3=> ?_) h2
   obtain ⟨hy',S',hS',hsub,h4⟩:=h3
   refine ⟨S',hS',hsub,ih (listed.setIfInBounds j true) a' S' w' hfree' (ready_mono hr (Ne.symm hji)) (Z6V hy' (hsub l htj)) hS' ?_⟩
   rw [Array.setIfInBounds_comm _ _ hji]
   exact h4
end
section
variable {W0:Base} {M:Nat->Prop} {σ:State} {a:Act} {w w':World} {G:Ghost} {xs:List Nat} {P:Program} {tys:List (TypeId×Ty×List TypeId)}
variable {R:Type} {Γ:Env R} {d:Option Nat} {type:TypeId} {o:Oper} {r:R} {ops:Array Oper} {Q:Exit->Act->World->Prop} {K:Act->World->Prop}
theorem Z6U {op:Op} (h:Z5s Γ.tys op=true) {k:TV->State->Option R} (hs:Z0l Γ.tys σ op=none):Z0N Γ d type σ k op=none:=by
 cases op<;>simp only [Z5s] at h<;>try (first | (cases h;done) | (simp only [Z0N];done))
 case convert s t x=>
  simp only [Z0N]
  split
  ·rfl
  ·split
   ·rename_i ht _
    rw [ht] at h;cases h
   ·rfl
 case call c=>
  simp only [Z0N]
  split at h
  ·rename_i hc;simp [hc]
  ·rename_i hc;simp [hc]
  ·rename_i hc;simp [hc]
  ·cases h
def Z0M (l:Bool) (w:World) (G:Ghost) (w2:World):Prop:=match l with
 | false=>Z6i w G w2
 | true=>Z4p w G w2
theorem Z0M.refl (l:Bool) (w:World) (G:Ghost):Z0M l w G w:=by
 cases l
 ·exact ⟨λ_ _ _ _ _ _ _ h=>h,λ_ _ _=>rfl⟩
 ·exact λ_ _ _=>rfl
theorem Z0M.sim {l:Bool} {w w2:World} {G G1:Ghost} (hs1:Sim G G1) (hc:Z0M l w G w2):Z0M l w G1 w2:=by
 cases l
 ·exact ⟨λb hb ha o n cs hn h1=>hc.1 b hb (by rw [<-hs1.Al];exact ha) o n cs (by rw [<-hs1.F];exact hn) h1,λi b hb=>hc.2 i b ((hs1.bx b i).1 hb)⟩
 ·exact λi b hb=>hc i b ((hs1.bx b i).1 hb)
theorem Z0M.of_sim {l:Bool} {w w2:World} {G G1:Ghost} (hs1:Sim G G1) (hc:Z0M l w G1 w2):Z0M l w G w2:=by
 cases l
 ·exact hs1.calmer.a _ hc
 ·exact hs1.calmer.b _ hc
theorem Z6a (σ:State) {σ':State} {v:Value}:σ'.peek (.const v)=σ.peek (.const v):=by
 cases v with
 | slice a n c=>cases a<;>cases n<;>cases c<;>rfl
 | _=>rfl
theorem Z89 {σ:State} {g:Nat} {b b':Bool} {tg:List Tag} {op:Op} (hsl:σ.slot g= .val ⟨.bool,false,b,tg⟩) (h:Z2f σ op=true):Z2f (σ.know g b') op=true:=by
 cases op<;>first | rfl | exact h | skip
 case convert s t x=>
  simp only [Z2f] at h ⊢
  cases x with
  | tmp t=>
   by_cases ht:t=g
   ·subst ht
    simp only [State.peek,hsl] at h
    by_cases htg:(TVal.anyOwn ⟨.bool,false,b,tg⟩)=true
    ·rw [if_pos htg] at h;cases h
    ·rw [if_neg htg] at h;cases h
   ·have:(σ.know g b').slot t=σ.slot t:=by
     show Z0v .dead (Z0I σ.slots g _) t=_
     rw [Z0U,if_neg (λh=>ht h.1.symm)]
     rfl
    simp only [State.peek] at h ⊢
    rw [this]
    exact h
  | const v=>rw [Z6a σ];exact h
  | _=>exact h
 case load t x=>
  simp only [Z2f] at h ⊢
  cases x with
  | tmp t=>
   by_cases ht:t=g
   ·subst ht
    simp only [State.peek,hsl] at h
    by_cases htg:(TVal.anyOwn ⟨.bool,false,b,tg⟩)=true
    ·rw [if_pos htg] at h;cases h
    ·rw [if_neg htg] at h;cases h
   ·have:(σ.know g b').slot t=σ.slot t:=by
     show Z0v .dead (Z0I σ.slots g _) t=_
     rw [Z0U,if_neg (λh=>ht h.1.symm)]
     rfl
    simp only [State.peek] at h ⊢
    rw [this]
    exact h
  | const v=>rw [Z6a σ];exact h
  | _=>exact h
theorem Z7X {l:Bool} (hT:Z0e P Γ.tys) (hnp:W0.np<=Γ.np) (I:Inv W0 M σ a w G []) {k:State->Option R} {i:Nat} (ho:ops[i]? = some o) (hsoft:Z1A Γ.tys o.op=true) (hlv:l=true->Z2f σ o.op=true) (h:Z1x Γ ops.toList o σ k=some r) :
  ∃ v σ' G',YieldsIf P ops (Z0M l w G) o v a/\k σ'=some r/\Inv W0 M σ' (a.put o.dst v) w G' []/\Sim G G':=by
 unfold Z1x at h
 rw [Z1R] at h
 obtain ⟨hd,h⟩:=h
 have one:∀ {σ1:State} {G1:Ghost},(l=true->Z2f σ1 o.op=true)->Inv W0 M σ1 a w G1 []->Sim G G1->Z4G Γ o σ1 k=some r ->
   ∃ v σ' G',(∀ w2,Z0M l w G w2->(execOp a.eval o).run P w2= .ok (.value v) w2)/\k σ'=some r/\Inv W0 M σ' (a.put o.dst v) w G' []/\Sim G G':=by
  intro σ1 G1 hlv I1 hs1 h1
  have hcalm:∀ w2,Z0M l w G w2->Z0M l w G1 w2:=λw2 hc=>hc.sim hs1
  have fin:∀ {tv:TV} {v:Value},Z01 σ1 G1 a w tv v []->(∀ w2,Z0M l w G1 w2->(execOp a.eval o).run P w2= .ok (.value v) w2)->k (σ1.puto o.dst tv)=some r ->
    ∃ v σ' G',(∀ w2,Z0M l w G w2->(execOp a.eval o).run P w2= .ok (.value v) w2)/\k σ'=some r/\Inv W0 M σ' (a.put o.dst v) w G' []/\Sim G G':=by
   intro tv v hsl hrun hk
   obtain ⟨G2,I2,hs2⟩:=Inv.puto (fp:=[]) (xs:=[]) I1 (d:=o.dst) hsl (Z1L hnp hd)
   exact ⟨v,_,G2,λw2 hc=>hrun w2 (hcalm w2 hc),hk,I2,hs1.trans hs2⟩
  unfold Z4G at h1
  split at h1
  ·rename_i c x y hop
   have hmv:∀ {z:Operand} {g:Bool} {tv:TV},Z0l Γ.tys σ1 (.move z)=some (g,tv)->Z01 σ1 G1 a w tv (a.eval z) []:=by
    intro z g tv hs
    obtain ⟨v,hsl,hr⟩:=Z3h (P:=P) (o:={ o with op:= .move z }) I1 rfl (show Z0l Γ.tys σ1 ({ o with op:= .move z }:Oper).op=some (g,tv) from hs)
    have hr:=hr w
    have h2:(execOp a.eval { o with op:= .move z }).run P w= .ok (.value (a.eval z)) w:=rfl
    rw [h2] at hr
    have:a.eval z=v:=by simpa using hr
    rw [this];exact hsl
   split at h1
   ·rename_i t tg hl
    have hb:=Z26 I1 hl
    rw [cond_eq_ite] at h1
    split at h1
    ·rename_i ht
     have ht:t=true:=ht
     split at h1
     ·rename_i g tv hs
      refine fin (hmv hs) (λw2 _=> ?_) h1
      rw [Z03 hop]
      simp only [execOp,hb,asBool,Sem.run_bind,Sem.run_pure,Result.andThen_ok]
      rw [ht];rfl
     ·cases h1
    ·rename_i ht
     have ht:t=false:=by simpa using ht
     split at h1
     ·rename_i g tv hs
      refine fin (hmv hs) (λw2 _=> ?_) h1
      rw [Z03 hop]
      simp only [execOp,hb,asBool,Sem.run_bind,Sem.run_pure,Result.andThen_ok]
      rw [ht];rfl
     ·cases h1
   ·cases h1
  ·rename_i hnp
   have hsb:Z5s Γ.tys o.op=true:=by
    cases hop:o.op with
    | pick c x y=>exact absurd hop (hnp c x y)
    | _=>rw [hop] at hsoft;exact hsoft
   unfold opC at h1
   split at h1
   ·rename_i g tv hs
    rw [cond_eq_ite] at h1
    split at h1
    ·rename_i hg
     have hboth:∃ v,Z01 σ1 G1 a w tv v []/\∀ w2,Z0M l w G1 w2->(execOp a.eval o).run P w2= .ok (.value v) w2:=by
      cases l
      ·exact Z7B hT I1 hs hg
      ·exact Z8X hT I1 hs hg (hlv rfl)
     obtain ⟨v,hsl,hrun⟩:=hboth
     exact fin hsl hrun h1
    ·cases h1
   ·rename_i hs
    rw [Z6U hsb hs] at h1
    cases h1
 split at h
 ·rename_i hg
  have hw:Region.wanted o (yielded ops a.tmps)=true:=by simp [Region.wanted,hg]
  obtain ⟨v,σ',G',h1,h2,h3,h4⟩:=one hlv I (Sim.refl _) h
  exact ⟨v,σ',G',.inl ⟨hw,h1⟩,h2,h3,h4⟩
 ·rename_i j want hg
  split at h
  ·rename_i g hdst
   split at h
   ·rename_i b tg hsl
    obtain ⟨G1,I1,hs1,hv⟩:=Z5H I hsl
    have hwant:Region.wanted o (yielded ops a.tmps)=(b==want):=by
     have hlt:g<a.tmps.size:=by rw [I.len];exact Z0W (by rw [hsl];simp)
     have hget:a.tmps[g]? = some (.bool b):=by
      rw [Array.getElem?_eq_getElem hlt]
      rw [Array.getD_eq_getD_getElem?,Array.getElem?_eq_getElem hlt] at hv
      simpa using hv
     have hd:(ops[j]?).bind (·.dst)=some g:=by rw [<-hdst,Array.getElem?_toList]
     simp only [Region.wanted,hg,yielded,hd,Option.bind_some,hget]
     cases b<;>cases want<;>rfl
    have hyes:(b==want)=true->Z4G Γ o (σ.know g b) k=some r->∃ v σ' G',YieldsIf P ops (Z0M l w G) o v a/\k σ'=some r/\Inv W0 M σ' (a.put o.dst v) w G' []/\Sim G G':=by
     intro hw hk
     obtain ⟨v,σ',G',h1,h2,h3,h4⟩:=one (λhl=>Z89 hsl (hlv hl)) I1 hs1 hk
     exact ⟨v,σ',G',.inl ⟨by rw [hwant];exact hw,h1⟩,h2,h3,h4⟩
    have hno:(b==want)=false->k ((σ.know g b).puto o.dst .un)=some r->∃ v σ' G',YieldsIf P ops (Z0M l w G) o v a/\k σ'=some r/\Inv W0 M σ' (a.put o.dst v) w G' []/\Sim G G':=by
     intro hw hk
     obtain ⟨G2,I2,hs2⟩:=Inv.puto (fp:=[]) (xs:=[]) I1 (d:=o.dst) (tv:= .un) (v:=undef) ⟨rfl,rfl⟩ (Z1L hnp hd)
     exact ⟨undef,_,G2,.inr ⟨by rw [hwant];exact hw,rfl⟩,hk,I2,hs1.trans hs2⟩
    rw [cond_eq_ite] at h
    split at h
    ·rename_i hbt
     have hbt:b=true:=hbt
     subst hbt
     split at h
     ·rename_i hw;exact hyes (by rw [hw];rfl) h
     ·rename_i hw;exact hno (by simp at hw;rw [hw];rfl) h
    ·rename_i hbt
     have hbf:b=false:=by simpa using hbt
     subst hbf
     split at h
     ·rename_i hw;exact hno (by rw [hw];rfl) h
     ·rename_i hw;exact hyes (by simp at hw;rw [hw];rfl) h
   ·rename_i hsl
    obtain ⟨G2,I2,hs2⟩:=Inv.puto (fp:=[]) (xs:=[]) I (d:=o.dst) (tv:= .un) (v:=undef) ⟨rfl,rfl⟩ (Z1L hnp hd)
    exact ⟨undef,_,G2,.inr ⟨Z5F I hsl hg hdst,rfl⟩,h,I2,hs2⟩
   ·cases h
  ·cases h
noncomputable def Z20 (Γ:Env R) (ops:Array Oper) (l:Bool) (i:Nat):Bool:=match ops[i]? with | some o=>(match l with | false=>Z1B Γ o.op | true=>Z1O Γ o.op) | none=>true
theorem Za2 {op:Op} (h:Z1A Γ.tys op=true):Z1B Γ op=true:=by
 cases op<;>simp only [Z1A,Z5s] at h<;>try (first | rfl | (cases h;done))
 case call c=>
  simp only [Z1B]
  split at h<;>first | (rename_i hc;rw [hc]) | cases h
theorem Z8E {x y:Option R} (h:Z88 x y=some r):(∃ r',x=some r')/\y=some r:=by
 unfold Z88 at h
 split at h
 ·exact ⟨⟨_,rfl⟩,h⟩
 ·cases h
def Z9o (Γ:Env R) (ops:Array Oper) (σ:State) (k:State->Option R) (r:R) (i:Nat) (p:Plan):Prop:=
 Z29 Γ ops.toList (.go i p) σ k=some r\/∃ o,ops[i]? = some o/\Z1x Γ ops.toList o σ (λσ'=>Z29 Γ ops.toList p σ' k)=some r
theorem Z6z [Subsingleton R] {f:Nat->Option Plan} {k:State->Option R}:(l:List Nat)->(p:Plan)->Z4S f l=some p->l≠[]->Z29 Γ ops.toList p σ k=some r ->
  ∀ j∈l,∃ q,f j=some q/\Z9o Γ ops σ k r j q
 | [],p,h,hne,_=>absurd rfl hne
 | [i],p,h,_,hr=>by
  obtain ⟨q,hq,rfl⟩:=Option.map_eq_some_iff.1 h
  intro j hj
  have:j=i:=by simpa using hj
  subst this
  exact ⟨q,hq,.inl hr⟩
 | i::i2::l,p,h,_,hr=>by
  simp only [Z4S] at h
  split at h
  ·rename_i p1 q1 hp1 hq1
   cases h
   simp only [Z29] at hr
   split at hr
   ·rename_i o ho
    obtain ⟨⟨r',h1⟩,h2⟩:=Z8E hr
    have hrr:r'=r:=Subsingleton.elim _ _
    rw [hrr] at h1
    intro j hj
    rcases List.mem_cons.1 hj with rfl | hj
    ·exact ⟨p1,hp1,.inr ⟨o,by rw [<-Array.getElem?_toList];exact ho,h1⟩⟩
    ·exact Z6z (i2::l) q1 hq1 (by simp) h2 j hj
   ·cases hr
  ·cases h
theorem Z9c {k:State->Option R} {i:Nat} {p:Plan} (h:Z9o Γ ops σ k r i p):(∃ o,ops[i]? = some o/\Z1x Γ ops.toList o σ (λσ'=>Z29 Γ ops.toList p σ' k)=some r) \/
  ∃ o l ls d q,ops[i]? = some o/\Z13 ops.toList i p=some l/\Z1n ops.toList l=some ls/\Z5Y Γ σ o ls=some (d,q)/\Z4n Γ d q o ls σ k=some r:=by
 rcases h with h | h
 ·simp only [Z29] at h
  split at h
  ·rename_i o ho
   have ho':ops[i]? = some o:=by rw [<-Array.getElem?_toList];exact ho
   split at h
   ·split at h
    ·rename_i d q hh
     obtain ⟨ls,hls,hh⟩:=Option.bind_eq_some_iff.1 hh
     obtain ⟨l,hl,hls'⟩:=Option.bind_eq_some_iff.1 hls
     rw [hls] at h
     exact .inr ⟨o,l,ls,d,q,ho',hl,hls',hh,h⟩
    ·exact .inl ⟨o,ho',h⟩
   ·exact .inl ⟨o,ho',h⟩
  ·cases h
 ·exact .inl h
theorem Z7W {op:Op} (h:Z1A Γ.tys op=true):Z5q op=false:=by
 cases op<;>simp only [Z1A,Z5s] at h<;>try (first | rfl | (cases h;done))
 case call c=>
  simp only [Z5q]
  split at h<;>first | (rename_i hc;rw [hc]) | cases h
theorem Z7c {n:Nat} {listed:Array Bool} {j:Nat} {p:Plan} (h:Z1b Γ ops (n+1) listed=some (.go j p)):j∈Region.ready .any ops listed/\Z1b Γ ops n (listed.setIfInBounds j true)=some p:=by
 simp only [Z1b] at h
 split at h
 ·rename_i i hfind
  obtain ⟨l',hl',he⟩:=Option.map_eq_some_iff.1 h
  cases he
  exact ⟨List.mem_of_find?_eq_some hfind,hl'⟩
 ·split at h
  ·obtain ⟨l',hl',he⟩:=Option.map_eq_some_iff.1 h
   cases he
  ·cases hr:Region.ready .any ops listed with
   | nil=>rw [hr] at h;simp [Z4S] at h
   | cons i l=>
    rw [hr] at h
    cases l with
    | nil=>
     obtain ⟨q,hq,he⟩:=Option.map_eq_some_iff.1 h
     cases he
     exact ⟨by simp,hq⟩
    | cons i2 l=>
     simp only [Z4S] at h
     split at h<;>cases h
theorem Z79 {n:Nat} {listed:Array Bool} (h:Z1b Γ ops n listed=some .done):Region.ready .any ops listed=[]:=by
 cases n with
 | zero=>
  simp only [Z1b] at h
  split at h
  ·rename_i hr;simpa using hr
  ·cases h
 | succ n=>
  simp only [Z1b] at h
  split at h
  ·obtain ⟨l',hl',he⟩:=Option.map_eq_some_iff.1 h
   cases he
  ·split at h
   ·obtain ⟨l',hl',he⟩:=Option.map_eq_some_iff.1 h
    cases he
   ·cases hr:Region.ready .any ops listed with
    | nil=>rfl
    | cons i l=>
     rw [hr] at h
     cases l with
     | nil=>
      obtain ⟨q,hq,he⟩:=Option.map_eq_some_iff.1 h
      cases he
     | cons i2 l=>
      simp only [Z4S] at h
      split at h<;>cases h
theorem Z7I {listed:Array Bool} {p:Plan} (h:Z1b Γ ops 0 listed=some p):p= .done:=by
 simp only [Z1b] at h
 split at h
 ·cases h;rfl
 ·cases h
theorem Z4X {all:List Oper} {i:Nat} {p:Plan} {j:Nat} {l:List Nat} (h:Z13 all i p=some (j::l)):∃ q o,p= .go j q/\all[j]? = some o/\o.after.any (λe=>Region.binds .any e&&e.on==i)=true/\Z13 all j q=some l:=by
 cases p with
 | go j' q=>
  simp only [Z13] at h
  split at h
  ·rename_i o ho
   split at h
   ·rename_i ha
    obtain ⟨l',hl',he⟩:=Option.map_eq_some_iff.1 h
    cases he
    exact ⟨q,o,rfl,ho,ha,hl'⟩
   ·cases h
  ·cases h
 | done=>simp [Z13] at h
 | gob=>simp [Z13] at h
 | alt=>simp [Z13] at h
theorem Z6E {all:List Oper} {i:Nat} {p:Plan} (h:Z13 all i p=some []):p= .done:=by
 cases p with
 | go j' q=>
  simp only [Z13] at h
  split at h
  ·split at h
   ·obtain ⟨l',hl',he⟩:=Option.map_eq_some_iff.1 h
    cases he
   ·cases h
  ·cases h
 | done=>rfl
 | gob=>simp [Z13] at h
 | alt=>simp [Z13] at h
theorem Z6D {all:List Oper}:(l:List Nat)->(n:Nat)->(listed:Array Bool)->(p:Plan)->(i:Nat)->Z1b Γ ops n listed=some p->Z13 all i p=some l ->
  (∀ j∈Region.ready .any ops listed,j∈l)/\∀ j∈l,listed.getD j true=false
 | [],n,listed,p,i,hp,hc=>by
  have:=Z6E hc
  subst this
  rw [Z79 hp]
  exact ⟨λj hj=>hj,λj hj=>by cases hj⟩
 | j::l,n,listed,p,i,hp,hc=>by
  obtain ⟨q,o,rfl,_,_,hc'⟩:=Z4X hc
  cases n with
  | zero=>have:=Z7I hp;cases this
  | succ n=>
   obtain ⟨hj,hq⟩:=Z7c hp
   obtain ⟨h1,h2⟩:=Z6D l n _ q j hq hc'
   refine ⟨λj' hj'=> ?_,λx hx=> ?_⟩
   ·by_cases he:j'=j
    ·subst he;simp
    ·exact List.mem_cons_of_mem _ (h1 j' (ready_mono hj' he))
   ·rcases List.mem_cons.1 hx with rfl | hx
    ·exact (mem_ready.1 hj).1
    ·have h3:=h2 x hx
     by_cases he:j=x
     ·subst he
      exact (mem_ready.1 hj).1
     ·rw [getD_set_ne true he] at h3
      exact h3
theorem Z5z {all:List Oper}:(l:List Nat)->(p:Plan)->(i:Nat)->Z13 all i p=some l->∀ j∈l,∃ pr∈i::l,∃ o,all[j]? = some o/\o.after.any (λe=>Region.binds .any e&&e.on==pr)=true
 | [],p,i,_,j,hj=>by cases hj
 | x::l,p,i,hc,j,hj=>by
  obtain ⟨q,o,rfl,ho,ha,hc'⟩:=Z4X hc
  rcases List.mem_cons.1 hj with rfl | hj
  ·exact ⟨i,by simp,o,ho,ha⟩
  ·obtain ⟨pr,hpr,h⟩:=Z5z l q x hc' j hj
   exact ⟨pr,List.mem_cons_of_mem _ hpr,h⟩
theorem Z8I {n:Nat} {listed:Array Bool} {j:Nat} {q:Plan} {l:List Nat} (hp:Z1b Γ ops (n+1) listed=some (.go j q)) (hc:Z13 ops.toList j q=some l) (h0:listed.getD j true=false):∀ j'∈Region.ready .any ops listed,j'=j:=by
 intro j' hj'
 obtain ⟨hj,hq⟩:=Z7c hp
 by_cases he:j'=j
 ·exact he
 exfalso
 obtain ⟨h1,h2⟩:=Z6D l n _ q j hq hc
 have hm:=h1 j' (ready_mono hj' he)
 obtain ⟨pr,hpr,o,ho,ha⟩:=Z5z l q j hc j' hm
 have hun:listed.getD pr true=false:=by
  rcases List.mem_cons.1 hpr with rfl | hpr
  ·exact h0
  ·have h3:=h2 pr hpr
   by_cases he:j=pr
   ·subst he;exact h0
   ·rw [getD_set_ne true he] at h3
    exact h3
 obtain ⟨_,oj,hoj,hall⟩:=mem_ready.1 hj'
 have hoo:oj=o:=by
  rw [Array.getElem?_toList,hoj] at ho
  simpa using ho
 subst hoo
 obtain ⟨e,he2,hb⟩:=Array.any_eq_true'.1 ha
 simp only [Bool.and_eq_true,beq_iff_eq] at hb
 have h4:=hall e he2 hb.1
 rw [hb.2] at h4
 rcases Nat.lt_or_ge pr listed.size with h' | h'
 ·simp [h'] at hun h4;rw [hun] at h4;cases h4
 ·simp [Array.getElem?_eq_none h'] at h4
theorem Z9m {n:Nat} {listed:Array Bool} {S:Bool->World->Prop} (hr:Region.ready .any ops listed=[]) (h:Q .normal a w):wpT P ops Q (Z20 Γ ops) n listed a S w:=by
 cases n with
 | zero=>exact ⟨hr,h⟩
 | succ n=>exact ⟨λ_=>h,λi hi=>by rw [hr] at hi;cases hi⟩
theorem Z5y (hT:Z0e P Γ.tys) (hnp:W0.np<=Γ.np) {d:Nat} {p:Place} {w2:World} {b off:Nat} {v1:Value} {k:State->Option R} :
  (l:List Nat)->(ls:List Oper)->(n:Nat)->(listed:Array Bool)->(pl:Plan)->(i:Nat)->(σ:State)->(a:Act)->(G:Ghost)->(S:Bool->World->Prop)->Z1b Γ ops n listed=some pl->Z13 ops.toList i pl=some l->Z1n ops.toList l=some ls->Z35 d p ls=true ->
  HoleSt W0 M σ a w d p w2 G b off v1->Z4K Γ p ls σ k=some r->(∀ l,S l w) ->
  (∀ σ' a' w' G',k σ'=some r->Inv W0 M σ' a' w' G' []->Q .normal a' w')->wpT P ops Q (Z20 Γ ops) n listed a S w
 | [],ls,n,listed,pl,i,σ,a,G,S,hp,hc,hl,hf,H,h,hS,hK=>by
  simp only [Z1n,Option.some.injEq] at hl
  subst hl
  cases hf
 | j::l,ls,n,listed,pl,i,σ,a,G,S,hp,hc,hl,hf,H,h,hS,hK=>by
  obtain ⟨o,r',ho,hr',rfl⟩:=Z2N hl
  have ho':ops[j]? = some o:=by rw [<-Array.getElem?_toList];exact ho
  obtain ⟨q,o2,rfl,ho2,_,hc'⟩:=Z4X hc
  cases n with
  | zero=>have:=Z7I hp;cases this
  | succ n=>
   obtain ⟨hj,hq⟩:=Z7c hp
   have hone:=Z8I hp hc' (mem_ready.1 hj).1
   refine ⟨λh0=>(by rw [h0] at hj;cases hj),λj' hj'=> ?_⟩
   rw [hone j' hj']
   cases r' with
   | nil=>
    have hln:l=[]:=by
     cases l with
     | nil=>rfl
     | cons j l=>
      obtain ⟨_,_,_,_,h⟩:=Z2N hr'
      cases h
    subst hln
    obtain ⟨⟨t,y,hop⟩,hg,hdst⟩:=Z6K hf
    obtain ⟨e,qq,ht,hqq,hpb,hk⟩:=Z7w hop h
    refine Z2k ho' hg ?_
    unfold Oper.wp
    rw [Z60 hT H hop ht hqq hpb,Oper.upon_skip,hdst]
    refine ⟨λ_ _=>True,λ_=>trivial,λl ht=> ?_,?_⟩
    ·exfalso
     cases l<;>simp [Z20,ho',hop,Z1B,Z1O] at ht
    ·have:=Z6E hc'
     subst this
     exact Z9m (Z79 hq) (hK σ a w2 G hk H.inv)
   | cons o3 r2=>
    obtain ⟨hm,hg,h1,h2,hf2⟩:=Z62 hf
    obtain ⟨hd,g,tv,hs,hgt,hrest⟩:=Z6M h
    obtain ⟨v,G',hrun,H'⟩:=Z6J hT hnp H hd hm h1 h2 hs hgt
    refine Z2k ho' hg ?_
    unfold Oper.wp
    rw [hrun,Oper.upon_value]
    exact ⟨S,hS,λ_ _ _ h=>h,Z5y hT hnp l (o3::r2) n _ q j _ _ G' S hq hc' hr' hf2 H' hrest hS hK⟩
theorem Z4I [Subsingleton R] (hT:Z0e P Γ.tys) (hcalls:CallsOk P Γ) (hnp:W0.np<=Γ.np) (hsel:Region.noSelect ops=true) (hQ:∀ c d v a w,Q (.panic c) (Act.put a d v) w->Q (.panic c) a w) :
  (n:Nat)->(listed:Array Bool)->(l:Plan)->(σ:State)->(a:Act)->(w:World)->(G:Ghost)->(k:State->Option R)->Z1b Γ ops n listed=some l->Inv W0 M σ a w G []->Z29 Γ ops.toList l σ k=some r ->
  (∀ σ' a' w' G',k σ'=some r->Inv W0 M σ' a' w' G' []->Q .normal a' w')->wpT P ops Q (Z20 Γ ops) n listed a (λl=>Z0M l w G) w
 | 0,listed,l,σ,a,w,G,k,hp,I,h,hK=>by
  simp only [Z1b] at hp
  split at hp
  ·rename_i hr
   cases hp
   exact ⟨by simpa using hr,hK σ a w G h I⟩
  ·cases hp
 | n+1,listed,l,σ,a,w,G,k,hp,I,h,hK=>by
  have first:∀ {lv:Bool} {i:Nat} {l':Plan} {o:Oper},ops[i]? = some o->Z1A Γ.tys o.op=true->Region.free .any ops listed i=true ->
    (∀ j oj,ops[j]? = some oj->j≠i->listed.getD j true=false->oj.after.any (λe=>Region.binds .any e&&e.on==i)=true\/Z20 Γ ops lv j=true)->(lv=true->Z2f σ o.op=true) ->
    i∈Region.ready .any ops listed->Z1b Γ ops n (listed.setIfInBounds i true)=some l'->Z1x Γ ops.toList o σ (λσ'=>Z29 Γ ops.toList l' σ' k)=some r ->
    wpT P ops Q (Z20 Γ ops) (n+1) listed a (λl=>Z0M l w G) w:=by
   intro lv i l' o hoi hsoft hfree hall hlv hmem hl' h
   obtain ⟨v,σ',G',hy,hk,I',hs⟩:=Z7X (l:=lv) hT hnp I hoi hsoft hlv h
   have ih:=Z4I hT hcalls hnp hsel hQ n _ l' σ' _ w G' k hl' I' hk hK
   have hS:∀ {m:Nat} {ls:Array Bool} {b:Act},wpT P ops Q (Z20 Γ ops) m ls b (λl=>Z0M l w G') w->wpT P ops Q (Z20 Γ ops) m ls b (λl=>Z0M l w G) w:=by
    intro m ls b hh
    cases m with
    | zero=>exact hh
    | succ m=>exact ⟨hh.1,λi hi=>wpOp_mono (λa' w' ⟨S',q1,q2,q3⟩=>⟨S',q1,λl ht u hu=>Z0M.of_sim hs (q2 l ht u hu),q3⟩) (hh.2 i hi)⟩
   refine Z94 (l:=lv) hoi (Region.noSelect_spec hsel) (λc a w=>hQ c _ _ a w) n listed a (λl=>Z0M l w G) w (λj oj hoj hne hun hno=> ?_) hmem hy (λ_=>Z0M.refl _ _ _) (hS ih)
   refine ⟨Region.free_spec hoi hfree j oj hoj hne hun hno,?_⟩
   rcases hall j oj hoj hne hun with h1 | h1
   ·obtain ⟨e,he,hb⟩:=Array.any_eq_true'.1 h1
    simp only [Bool.and_eq_true,beq_iff_eq] at hb
    exact absurd hb.2 (hno e he hb.1)
   ·exact h1
  simp only [Z1b] at hp
  split at hp
  ·rename_i i hfind
   obtain ⟨l',hl',rfl⟩:=Option.map_eq_some_iff.1 hp
   have hmem:=List.mem_of_find?_eq_some hfind
   have hprop:=List.find?_some hfind
   simp only [Z29] at h
   cases hoi:ops[i]? with
   | none=>rw [hoi] at hprop;cases hprop
   | some o=>
    rw [hoi] at hprop
    simp only [Bool.and_eq_true] at hprop
    obtain ⟨⟨hsoft,hfree⟩,hall⟩:=hprop
    have ho':ops.toList[i]? = some o:=by rw [Array.getElem?_toList];exact hoi
    rw [ho'] at h
    simp only [Z7W hsoft,Bool.false_eq_true,if_false] at h
    refine first (lv:=false) hoi hsoft hfree (λj oj hoj hne hun=> ?_) (λh=>by cases h) hmem hl' h
    rw [List.all_eq_true] at hall
    have:=hall j (by simpa using (Array.getElem?_eq_some_iff.1 hoj).1)
    simp only [hoj,Bool.or_eq_true,beq_iff_eq,hne,false_or,hun,Bool.false_eq_true] at this
    exact this.imp id λh1=>by simp only [Z20,hoj];exact h1
  ·split at hp
   ·rename_i i hfind
    obtain ⟨l',hl',rfl⟩:=Option.map_eq_some_iff.1 hp
    have hmem:=List.mem_of_find?_eq_some hfind
    have hprop:=List.find?_some hfind
    simp only [Z29] at h
    cases hoi:ops[i]? with
    | none=>rw [hoi] at hprop;cases hprop
    | some o=>
     rw [hoi] at hprop
     simp only [Bool.and_eq_true] at hprop
     obtain ⟨⟨hsoft,hfree⟩,hall⟩:=hprop
     have ho':ops.toList[i]? = some o:=by rw [Array.getElem?_toList];exact hoi
     rw [ho'] at h
     simp only [] at h
     rw [cond_eq_ite,Z1R] at h
     obtain ⟨hbs,h⟩:=h
     refine first (lv:=true) hoi hsoft hfree (λj oj hoj hne hun=> ?_) (λ_=>hbs) hmem hl' h
     rw [List.all_eq_true] at hall
     have:=hall j (by simpa using (Array.getElem?_eq_some_iff.1 hoj).1)
     simp only [hoj,Bool.or_eq_true,beq_iff_eq,hne,false_or,hun,Bool.false_eq_true] at this
     exact this.imp id λh1=>by simp only [Z20,hoj];exact h1
   ·by_cases hne:Region.ready .any ops listed=[]
    ·rw [hne] at hp
     simp only [Z4S,Option.some.injEq] at hp
     subst hp
     refine ⟨λ_=>hK σ a w G h I,λj hj=> ?_⟩
     rw [hne] at hj;cases hj
    ·refine ⟨λh0=>absurd h0 hne,λj hj=> ?_⟩
     obtain ⟨q,hq,hr⟩:=Z6z _ _ hp hne h j hj
     rcases Z9c hr with ⟨o,hoi,hr⟩ | ⟨o,l',ls,d,pp,hoi,hch,hpk,hh,hr⟩
     ·refine Z51 hT hcalls hnp I hoi hr λσ' a' w' G' hk I' hc=> ?_
      refine ⟨λl=>Z0M l w' G',λ_=>Z0M.refl _ _ _,λl ht u hu=> ?_,Z4I hT hcalls hnp hsel hQ n _ q σ' a' w' G' k hq I' hk hK⟩
      cases l
      ·exact (hc.1 (by simpa only [Z20,hoi] using ht)).a u hu
      ·exact hc.2 (by simpa only [Z20,hoi] using ht) u hu
     ·obtain ⟨c,s,as,hd,hg,hop,hargs,hpe,hf,hnd,hdl,hdr,h1i,hfl⟩:=Z5Z hh
      simp only [Z4n] at hr
      refine Z2k hoi hg ?_
      refine hcalls.hole W0 M σ a w G o d pp c s as _ r _ Q I hnp hnd hdl hd hop hargs hpe hdr h1i hfl hr λσ' v w' w2 G' G1 b off v1 hk H hc=> ?_
      rw [hd]
      refine ⟨λl=>Z0M l w' G1,λ_=>Z0M.refl _ _ _,λl ht u hu=> ?_,Z5y hT hnp l' ls n _ q j σ' _ G' _ hq hch hpk hf H hk (λ_=>Z0M.refl _ _ _) hK⟩
      cases l
      ·exact (hc.1 (by simpa only [Z20,hoi] using ht)).a u hu
      ·exact hc.2 (by simpa only [Z20,hoi] using ht) u hu
theorem Inv.drawn (I:Inv W0 M σ a w G xs) (n:Nat):Inv W0 M σ a { w with drawn:=n } G xs:=
 I.world (w':={ w with drawn:=n }) (G':=G) ⟨rfl,rfl,rfl,λ_ _ h _=>h,λ_ _ h=>h,λ_ h=>h,λb _=>Z07.of_block rfl (Nat.le_refl _),λb _ _ _ _=>⟨Z07.of_block rfl (Nat.le_refl _),rfl⟩,λ_ _ _=>rfl,.inr λb _ _=>Z07.of_block rfl (Nat.le_refl _)⟩
  I.st I.lt ⟨I.ext.os,I.ext.tape,I.ext.output,I.ext.size,I.ext.block⟩ I.whoX I.nodX I.org
end
end Go.PI
namespace Go.PI
def Ex.out:Ex->Exit
 | .normal=> .normal
 | .exit id=> .exit id
 | .ret=> .ret
theorem Z2S (ks:List Nat):(l:List TV)->(i j:Nat)->Z0v .dead (Z25 ks i l) j=Z0v .dead l j\/Z0v .dead (Z25 ks i l) j= .dead
 | [],_,_=> .inl rfl
 | tv::l,i,0=>by
  simp only [Z25,Z0y,Z0t,Z0q]
  split
  ·exact .inl rfl
  ·exact .inr rfl
 | tv::l,i,j+1=>Z2S ks l (i+1) j
theorem Z3m (ks:List Nat):(l:List TV)->(i:Nat)->(Z25 ks i l).length=l.length
 | [],_=>rfl
 | tv::l,i=>by simp only [Z25,List.length_cons,Z3m ks l (i+1)]
theorem Z2R (ks:List Nat):(l:List (Option TVal))->(i j:Nat)->Z0v none (Z3e ks i l) j=Z0v none l j\/Z0v none (Z3e ks i l) j=none
 | [],_,_=> .inl rfl
 | tv::l,i,0=>by
  simp only [Z3e,Z0y,Z0t,Z0q]
  split
  ·exact .inl rfl
  ·exact .inr rfl
 | tv::l,i,j+1=>Z2R ks l (i+1) j
section
variable {W0:Base} {M:Nat->Prop} {σ:State} {a:Act} {w w':World} {G:Ghost} {xs:List Nat} {P:Program} {tys:List (TypeId×Ty×List TypeId)}
variable {R:Type} {Γ:Env R} {r:R}
theorem Inv.forget (I:Inv W0 M σ a w G xs) (ks bs:List Nat):∃ G',Inv W0 M (σ.forget ks bs) a w G' xs:=by
 obtain ⟨fs,I',_⟩:=I.drop (σ':=σ.forget ks bs) (Z3m _ _ _) (λi=>Z2S ks σ.slots 0 i) (λi=>Z2R bs σ.boxes 0 i)
 exact ⟨_,I'⟩
def Z15 (P:Program) (W0:Base) (M:Nat->Prop) (c:Code) (run:State->(Ex->State->Option R)->Option R):Prop:=
 ∀ (σ:State) (a:Act) (w:World) (G:Ghost) (k:Ex->State->Option R) (r:R) (Q:Exit->Act->World->Prop),(∀ c a w,¬ Q (.panic c) a w)->Inv W0 M σ a w G []->run σ k=some r ->
  (∀ e σ' a' w' G',k e σ'=some r->Inv W0 M σ' a' w' G' []->Q e.out a' w')->c.wp P Q a w
theorem Z64 {c:Code} {body:Z1e R} (hc:Z15 P W0 M c body) {fN:State->State} {fX:Ex->State->State}
  (hN:∀ σ a w G,Inv W0 M σ a w G []->∃ G',Inv W0 M (fN σ) a w G' []) (hX:∀ e σ a w G,Inv W0 M σ a w G []->∃ G',Inv W0 M (fX e σ) a w G' []) (fuel:Nat):Z15 P W0 M (.loop c) (Z3x body fN fX fuel):=by
 intro σ a w G k r Q hQ I hr hk
 refine wp_loop_ghost (λn a w=>∃ σ G,Inv W0 M σ a w G []/\Z3x body fN fX n σ k=some r) fuel ⟨σ,G,I,hr⟩ ?_
 rintro n a w ⟨σ,G,I,hr⟩
 cases n with
 | zero=>cases hr
 | succ n=>
  refine hc σ a w G _ r _ ?_ I hr ?_
  ·intro ch a w h;exact hQ ch a w h
  ·intro e σ' a' w' G' he I'
   cases e with
   | normal=>
    obtain ⟨G2,I2⟩:=hN _ _ _ _ I'
    exact ⟨n,Nat.lt_succ_self n,_,G2,I2,he⟩
   | exit id=>
    obtain ⟨G2,I2⟩:=hX _ _ _ _ _ I'
    exact hk (.exit id) _ _ _ _ he I2
   | ret=>
    obtain ⟨G2,I2⟩:=hX _ _ _ _ _ I'
    exact hk .ret _ _ _ _ he I2
def _root_.Go.Code.pl:Code->Code
 | .seq a _=>a
 | .cond _ a _=>a
 | .block _ c=>c
 | .scope c=>c
 | .loop c=>c
 | c=>c
def _root_.Go.Code.pr:Code->Code
 | .seq _ b=>b
 | .cond _ _ b=>b
 | c=>c
def Z21 (P:Program) (np:Nat) (X:List (Z1e R)):HT->Code->Prop
 | .o,_=>True
 | .x i,c=>∀ (W0:Base) (M:Nat->Prop),W0.np<=np->Z15 P W0 M c (Z0v (λ_ _=>none) X i)
 | .t a b,c=>Z21 P np X a c.pl/\Z21 P np X b c.pr
theorem Z21.pl {np:Nat} {X:List (Z1e R)} {h:HT} {c:Code} (hx:∀ i,h≠ .x i) (H:Z21 P np X h c):Z21 P np X h.l c.pl:=by
 cases h with
 | o=>trivial
 | x i=>exact absurd rfl (hx i)
 | t a b=>exact H.1
theorem Z21.pr {np:Nat} {X:List (Z1e R)} {h:HT} {c:Code} (hx:∀ i,h≠ .x i) (H:Z21 P np X h c):Z21 P np X h.r c.pr:=by
 cases h with
 | o=>trivial
 | x i=>exact absurd rfl (hx i)
 | t a b=>exact H.2
theorem Z1l (X:List (Z1e R)) (i:Nat) (c:Code):Z0T Γ X (.x i) c=λσ k=>Z0v (λ_ _=>none) X i σ k:=by
 cases c<;>rfl
theorem Z8e [Subsingleton R] (hm:P.follows .mixedOrders=true) (hT:Z0e P Γ.tys) (hcalls:CallsOk P Γ) (hnp:W0.np<=Γ.np) (X:List (Z1e R)):(c:Code)->(ht:HT)->Z21 P Γ.np X ht c->Z15 P W0 M c (Z0T Γ X ht c):=by
 intro c
 induction c with
 | skip=>
  intro ht H
  by_cases hx:∃ i,ht= .x i
  ·obtain ⟨i,rfl⟩:=hx;rw [Z1l];exact H W0 M hnp
  ·intro σ a w G k r Q hQ I h hk
   replace h:k .normal σ=some r:=by cases ht<;>first | exact h | exact absurd ⟨_,rfl⟩ hx
   exact wp_skip (hk .normal σ a w G h I)
 | region id ops draw=>
  intro ht H
  by_cases hx:∃ i,ht= .x i
  ·obtain ⟨i,rfl⟩:=hx;rw [Z1l];exact H W0 M hnp
  ·intro σ a w G k r Q hQ I h hk
   replace h:(if draw then
     (match (if Region.noSelect ops then Z1b Γ ops ops.size (Array.replicate ops.size false) else none) with
      | some l=>Z29 Γ ops.toList l σ λσ'=>k .normal σ'
      | none=>none)
    else Z5K Γ ops.toList (List.range ops.size) σ λσ'=>k .normal σ')=some r:=by cases ht<;>first | exact h | exact absurd ⟨_,rfl⟩ hx
   cases draw with
   | false=>
    simp only [Bool.false_eq_true,if_false] at h
    exact wp_region (Z6b hT hcalls hnp _ σ a w G _ I h λσ' a' w' G' hk' I'=>hk .normal σ' a' w' G' hk' I')
   | true=>
    simp only [if_true] at h
    split at h
    ·rename_i l hl
     split at hl
     ·rename_i hsel
      have I1:=I.drawn (w.drawn+1)
      refine wp_region_any hm (Z83 _ _ _ _ _ (Z4I hT hcalls hnp hsel (λc d v a w h=>absurd h (hQ c _ w)) _ _ l σ a { w with drawn:=w.drawn+1 } G _ hl I1 h λσ' a' w' G' hk' I'=>hk .normal σ' a' w' G' hk' I'))
     ·cases hl
    ·cases h
 | seq x y ihx ihy=>
  intro ht H
  by_cases hx:∃ i,ht= .x i
  ·obtain ⟨i,rfl⟩:=hx;rw [Z1l];exact H W0 M hnp
  ·have hx':∀ i,ht≠ .x i:=λi hi=>hx ⟨i,hi⟩
   intro σ a w G k r Q hQ I h hk
   replace h:(Z0T Γ X ht.l x σ λe σ'=>match e with
    | .normal=>Z0T Γ X ht.r y σ' k
    | e=>k e σ')=some r:=by cases ht<;>first | exact h | exact absurd ⟨_,rfl⟩ hx
   refine wp_seq (ihx ht.l (H.pl hx') σ a w G _ r _ (λc a w hh=>hQ c a w hh) I h λe σ' a' w' G' he I'=> ?_)
   cases e with
   | normal=>exact ihy ht.r (H.pr hx') σ' a' w' G' k r Q hQ I' he hk
   | exit id=>exact hk (.exit id) σ' a' w' G' he I'
   | ret=>exact hk .ret σ' a' w' G' he I'
 | cond o x y ihx ihy=>
  intro ht H
  by_cases hx:∃ i,ht= .x i
  ·obtain ⟨i,rfl⟩:=hx;rw [Z1l];exact H W0 M hnp
  ·have hx':∀ i,ht≠ .x i:=λi hi=>hx ⟨i,hi⟩
   intro σ a w G k r Q hQ I h hk
   cases o with
   | tmp t=>
    replace h:(match σ.slot t with
     | .val ⟨.bool,false,x0,_⟩=>bif x0 then Z0T Γ X ht.l x (σ.know t true) k else Z0T Γ X ht.r y (σ.know t false) k
     | _=>none)=some r:=by cases ht<;>first | exact h | exact absurd ⟨_,rfl⟩ hx
    split at h
    ·rename_i b tg hsl
     obtain ⟨G',I',_,hv⟩:=Z5H I hsl
     have hev:a.eval (.tmp t)= .bool b:=hv
     rw [cond_eq_ite] at h
     split at h
     ·rename_i hb
      have hb:b=true:=hb
      subst hb
      exact wp_cond_true hev (ihx ht.l (H.pl hx') _ a w G' k r Q hQ I' h hk)
     ·rename_i hb
      have hb:b=false:=by simpa using hb
      subst hb
      exact wp_cond_false hev (ihy ht.r (H.pr hx') _ a w G' k r Q hQ I' h hk)
    ·cases h
   | const v=>
    cases v with
    | bool b=>
     replace h:(bif b then Z0T Γ X ht.l x σ k else Z0T Γ X ht.r y σ k)=some r:=by cases ht<;>first | exact h | exact absurd ⟨_,rfl⟩ hx
     cases b with
     | true=>exact wp_cond_true rfl (ihx ht.l (H.pl hx') σ a w G k r Q hQ I h hk)
     | false=>exact wp_cond_false rfl (ihy ht.r (H.pr hx') σ a w G k r Q hQ I h hk)
    | _=>cases ht<;>first | exact absurd ⟨_,rfl⟩ hx | simp [Z0T] at h
   | _=>cases ht<;>first | exact absurd ⟨_,rfl⟩ hx | simp [Z0T] at h
 | block id c ih=>
  intro ht H
  by_cases hx:∃ i,ht= .x i
  ·obtain ⟨i,rfl⟩:=hx;rw [Z1l];exact H W0 M hnp
  ·have hx':∀ i,ht≠ .x i:=λi hi=>hx ⟨i,hi⟩
   intro σ a w G k r Q hQ I h hk
   replace h:(Z0T Γ X ht.l c σ λe σ'=>match e with
    | .exit j=>if j==id then k .normal σ' else k (.exit j) σ'
    | e=>k e σ')=some r:=by cases ht<;>first | exact h | exact absurd ⟨_,rfl⟩ hx
   refine wp_block (ih ht.l (H.pl hx') σ a w G _ r _ (λc a w hh=>hQ c a w hh) I h λe σ' a' w' G' he I'=> ?_)
   cases e with
   | normal=>exact hk .normal σ' a' w' G' he I'
   | exit j=>
    show if j=id then Q .normal a' w' else Q (.exit j) a' w'
    simp only [] at he
    split at he
    ·rename_i hj
     rw [if_pos (by simpa using hj)]
     exact hk .normal σ' a' w' G' he I'
    ·rename_i hj
     rw [if_neg (by simpa using hj)]
     exact hk (.exit j) σ' a' w' G' he I'
   | ret=>exact hk .ret σ' a' w' G' he I'
 | loop c ih=>
  intro ht H
  by_cases hx:∃ i,ht= .x i
  ·obtain ⟨i,rfl⟩:=hx;rw [Z1l];exact H W0 M hnp
  ·intro σ a w G k r Q hQ I h hk
   cases ht<;>first | exact absurd ⟨_,rfl⟩ hx | simp [Z0T] at h
 | exit id=>
  intro ht H
  by_cases hx:∃ i,ht= .x i
  ·obtain ⟨i,rfl⟩:=hx;rw [Z1l];exact H W0 M hnp
  ·intro σ a w G k r Q hQ I h hk
   replace h:k (.exit id) σ=some r:=by cases ht<;>first | exact h | exact absurd ⟨_,rfl⟩ hx
   exact wp_exit (hk (.exit id) σ a w G h I)
 | scope c ih=>
  intro ht H
  by_cases hx:∃ i,ht= .x i
  ·obtain ⟨i,rfl⟩:=hx;rw [Z1l];exact H W0 M hnp
  ·have hx':∀ i,ht≠ .x i:=λi hi=>hx ⟨i,hi⟩
   intro σ a w G k r Q hQ I h hk
   replace h:Z0T Γ X ht.l c σ k=some r:=by cases ht<;>first | exact h | exact absurd ⟨_,rfl⟩ hx
   refine wp_scope_straight (ih ht.l (H.pl hx') σ a w G k r _ (λc a w hh=>hQ c a w hh) I h λe σ' a' w' G' he I'=> ?_)
   have:=hk e σ' a' w' G' he I'
   cases e<;>exact this
 | ret=>
  intro ht H
  by_cases hx:∃ i,ht= .x i
  ·obtain ⟨i,rfl⟩:=hx;rw [Z1l];exact H W0 M hnp
  ·intro σ a w G k r Q hQ I h hk
   replace h:k .ret σ=some r:=by cases ht<;>first | exact h | exact absurd ⟨_,rfl⟩ hx
   exact wp_ret (hk .ret σ a w G h I)
 | rangeFunc f ps x y _ _=>
  intro ht H
  by_cases hx:∃ i,ht= .x i
  ·obtain ⟨i,rfl⟩:=hx;rw [Z1l];exact H W0 M hnp
  ·intro σ a w G k r Q hQ I h hk
   cases ht<;>first | exact absurd ⟨_,rfl⟩ hx | simp [Z0T] at h
 | label l=>
  intro ht H
  by_cases hx:∃ i,ht= .x i
  ·obtain ⟨i,rfl⟩:=hx;rw [Z1l];exact H W0 M hnp
  ·intro σ a w G k r Q hQ I h hk
   cases ht<;>first | exact absurd ⟨_,rfl⟩ hx | simp [Z0T] at h
 | goto l=>
  intro ht H
  by_cases hx:∃ i,ht= .x i
  ·obtain ⟨i,rfl⟩:=hx;rw [Z1l];exact H W0 M hnp
  ·intro σ a w G k r Q hQ I h hk
   cases ht<;>first | exact absurd ⟨_,rfl⟩ hx | simp [Z0T] at h
 | refuse s=>
  intro ht H
  by_cases hx:∃ i,ht= .x i
  ·obtain ⟨i,rfl⟩:=hx;rw [Z1l];exact H W0 M hnp
  ·intro σ a w G k r Q hQ I h hk
   cases ht<;>first | exact absurd ⟨_,rfl⟩ hx | simp [Z0T] at h
end
end Go.PI
namespace Go.PI
def Z0u (w:World) (F:Nat->Nat) (St:Nat->Prop):List Mode->List TVal->List Value->List (List Nat)->List Nat->Prop
 | [],[],[],[],[]=>True
 | .borrow τ ag::ms,v::vs,x::xs,f::fs,ls=>f=[]/\Z0f ag x/\Rp w F St St v.τ (List.replicate (Z06 v.τ) .S) (Z02 x) v.x []/\Z0u w F St ms vs xs fs ls
 | .consume τ ag::ms,v::vs,x::xs,f::fs,ls=>Z0f ag x/\Rp w F St (·∈ f) v.τ v.tg (Z02 x) v.x f/\Z0u w F St ms vs xs fs ls
 | .eat τ ag::ms,v::vs,x::xs,f::fs,ls=>Z0f ag x/\Rp w F St (·∈ f) v.τ v.tg (Z02 x) v.x f/\Z0u w F St ms vs xs fs ls
 | .inout τ ag::ms,v::vs,x::xs,f::fs,ls=>(Z0f ag x/\v.τ=τ)/\Rp w F St (·∈ f) v.τ v.tg (Z02 x) v.x f/\Z0u w F St ms vs xs fs ls
 | .look τ ag::ms,v::vs,x::xs,f::fs,ls=>f=[]/\Z0f ag x/\Rp w F St St v.τ (List.replicate (Z06 v.τ) .S) (Z02 x) v.x []/\Z0u w F St ms vs xs fs ls
 | .rptr τ::ms,v::vs,x::xs,f::fs,ls=>f=[]/\Z2F w F St St v.τ v.x x/\Z0u w F St ms vs xs fs ls
 | .rclos g τs::ms,v::vs,x::xs,f::fs,ls=>f=[]/\(∃ us:Array Value,x= .func (.func g) #[] us/\SPs w F St St τs v.τ v.x us.toList)/\Z0u w F St ms vs xs fs ls
 | .ptr τ::ms,vs,x::xs,fs,l::ls=>x= .pointer (some ⟨l,0,none⟩)/\Z0u w F St ms vs xs fs ls
 | .clos g τs::ms,vs,x::xs,fs,ls=>(τs.length<=ls.length/\x= .func (.func g) #[] ((ls.take τs.length).map λl=>Value.pointer (some ⟨l,0,none⟩)).toArray)/\Z0u w F St ms vs xs fs (ls.drop τs.length)
 | _,_,_,_,_=>False
def Z1c (w:World) (F:Nat->Nat) (St:Nat->Prop):List TVal->List Nat->List (List Nat)->Prop
 | [],[],[]=>True
 | v::vs,l::ls,f::fs=>(∃ c T,w.heap[l]? = some (.cells c T (0,0))/\Rp w F St (·∈ f) v.τ v.tg c.toList v.x f)/\Z1c w F St vs ls fs
 | _,_,_=>False
def Z3b (w:World) (F:Nat->Nat) (St:Nat->Prop):List TVal->List Value->List (List Nat)->Prop
 | [],[],[]=>True
 | v::vs,x::xs,f::fs=>(Z0f v.ag x/\v.noN=true/\Rp w F St (·∈ f) v.τ v.tg (Z02 x) v.x f)/\Z3b w F St vs xs fs
 | _,_,_=>False
def Z0Z:List Mode->List Value->List Value
 | .inout .. :: ms,x::xs=>x::Z0Z ms xs
 | _::ms,_::xs=>Z0Z ms xs
 | _,_=>[]
def Z1I (vs:List Value):Value:=match vs with | [v]=>v | vs=> .tuple vs.toArray
structure RetOk (w:World) (F:Nat->Nat) (St:Nat->Prop) (ms ads:List Nat) (res ios:List TVal) (xs:List Value) (ext':List TVal) (v:Value) (w':World):Prop where
 out:∃ F' St' vs fps efps,(v=Z1I vs/\ios.length=xs.length/\vs.length=res.length)/\Z3b w' F' St' (res++ios) (vs++xs) fps/\Z1c w' F' St' ext' ads efps/\Ext (·∈ ms) w w' /\
  (∀ b,b<w.heap.size->b ∉ ms->F' b=F b)/\(∀ b,St b->St' b)/\(∀ b,St' b->(St b\/w.heap.size<=b\/b∈ms)/\b<w'.heap.size) /\
  (fps.flatten++(efps.flatten++ads)).Nodup/\∀ b∈fps.flatten++(efps.flatten++ads),(w.heap.size<=b\/b∈ms)/\b<w'.heap.size/\¬ St' b
def Z18 {R:Type} (P:Program) (f:FuncId) (sig:Sig R):Prop:=
 (∃ fn c, P.funcs[f]? = some fn ∧ (fn.name == "runtime.NumGoroutine") = false ∧ fn.body = some c) ∧
 ∀ (vals ext:List TVal) (k:List TVal->List TVal->List TVal->Option R) (r:R),sig.run vals ext k=some r ->
  ∀ (w:World) (F:Nat->Nat) (St:Nat->Prop) (args:List Value) (ads:List Nat) (fps efps:List (List Nat)),
   Z0u w F St sig.modes vals args fps ads->Z1c w F St ext ads efps->(fps.flatten++(efps.flatten++ads)).Nodup->(∀ b,St b->b<w.heap.size/\b ∉ fps.flatten++(efps.flatten++ads))->(∀ b∈fps.flatten++(efps.flatten++ads),b<w.heap.size) ->
   Calls P f args.toArray w λe w'=>∃ v res ios ext',e= .returned v/\k res ios ext'=some r/\(Z2W ext ext'=true/\(ios.map (·.τ))=Z2L sig.modes/\ios.all TVal.allO=true)/\ext'.all TVal.noN=true/\RetOk w F St (fps.flatten++(efps.flatten++ads)) ads res ios (Z0Z sig.modes args) ext' v w'
def Z1P:List (List Nat)->Nat->Option Nat
 | [],_=>none
 | f::l,b=>if b∈f then some 0 else (Z1P l b).map (·+ 1)
theorem Z8r:(l:List (List Nat))->(b i:Nat)->Z1P l b=some i->b∈l.getD i []
 | [],b,i,h=>by cases h
 | f::l,b,i,h=>by
  simp only [Z1P] at h
  split at h
  ·cases h;simpa
  ·obtain ⟨j,hj,rfl⟩:=Option.map_eq_some_iff.1 h
   simpa using Z8r l b j hj
theorem Z2K {l:List (List Nat)} {i b:Nat} (h:b∈l.getD i []):b∈l.flatten:=by
 rw [List.getD_eq_getElem?_getD] at h
 cases hi:l[i]? with
 | none=>rw [hi] at h;simp at h
 | some f=>
  rw [hi] at h
  exact List.mem_flatten.2 ⟨f,List.mem_of_getElem? hi,h⟩
theorem Z4z:(l:List (List Nat))->(b i:Nat)->l.flatten.Nodup->b∈l.getD i []->Z1P l b=some i
 | [],b,i,_,h=>by simp at h
 | f::l,b,0,hn,h=>by
  have:b∈f:=by simpa using h
  simp [Z1P,this]
 | f::l,b,i+1,hn,h=>by
  have h:b∈l.getD i []:=by simpa using h
  simp only [List.flatten_cons] at hn
  have:b ∉ f:=λhf=>(List.nodup_append.1 hn).2.2 b hf b (Z2K h) rfl
  simp only [Z1P,this,if_false]
  rw [Z4z l b i (List.nodup_append.1 hn).2.1 h]
  rfl
theorem Z1Q:(l:List (List Nat))->(b:Nat)->b ∉ l.flatten->Z1P l b=none
 | [],b,h=>rfl
 | f::l,b,h=>by
  simp only [List.flatten_cons,List.mem_append,not_or] at h
  simp only [Z1P,h.1,if_false]
  rw [Z1Q l b h.2];rfl
theorem Z9Y {l:List (List Nat)} {b:Nat} (h:Z1P l b=none):b ∉ l.flatten:=by
 intro hm
 obtain ⟨f,hf,hb⟩:=List.mem_flatten.1 hm
 revert h
 induction l with
 | nil=>simp at hf
 | cons g l ih=>
  intro h
  simp only [Z1P] at h
  split at h
  ·cases h
  ·rename_i hbg
   rcases List.mem_cons.1 hf with rfl | hf
   ·exact hbg hb
   ·have hn:Z1P l b=none:=by cases hx:Z1P l b with
     | none=>rfl
     | some j=>rw [hx] at h;cases h
    exact ih (List.mem_flatten.2 ⟨f,hf,hb⟩) hf hn
def Z0k:List Mode->List (List Nat)->List (List Nat)
 | .borrow .. :: ms,f::fs=>f::Z0k ms fs
 | .consume .. :: ms,f::fs=>f::Z0k ms fs
 | .eat .. :: ms,f::fs=>f::Z0k ms fs
 | .inout .. :: ms,f::fs=>f::Z0k ms fs
 | .look .. :: ms,f::fs=>f::Z0k ms fs
 | .rptr _::ms,f::fs=>f::Z0k ms fs
 | .rclos .. :: ms,f::fs=>f::Z0k ms fs
 | .ptr _::ms,fs=>[]::Z0k ms fs
 | .clos .. :: ms,fs=>[]::Z0k ms fs
 | _,_=>[]
theorem Z0J {w:World} {F:Nat->Nat} {St:Nat->Prop}:(ms:List Mode)->(vs:List TVal)->(xs:List Value)->(fs:List (List Nat))->(ls:List Nat)->Z0u w F St ms vs xs fs ls->(Z0k ms fs).flatten=fs.flatten
 | [],vs,xs,fs,ls,h=>by
  cases vs<;>cases xs<;>cases fs<;>cases ls<;>first | rfl | exact h.elim
 | .borrow τ ag::ms,vs,xs,fs,ls,h=>by
  cases vs<;>cases xs<;>cases fs<;>first | exact h.elim | skip
  obtain ⟨_,_,_,h⟩:=h
  simp [Z0k,Z0J ms _ _ _ _ h]
 | .look τ ag::ms,vs,xs,fs,ls,h=>by
  cases vs<;>cases xs<;>cases fs<;>first | exact h.elim | skip
  obtain ⟨_,_,_,h⟩:=h
  simp [Z0k,Z0J ms _ _ _ _ h]
 | .rptr τ::ms,vs,xs,fs,ls,h=>by
  cases vs<;>cases xs<;>cases fs<;>first | exact h.elim | skip
  obtain ⟨_,_,h⟩:=h
  simp [Z0k,Z0J ms _ _ _ _ h]
 | .rclos g τs::ms,vs,xs,fs,ls,h=>by
  cases vs<;>cases xs<;>cases fs<;>first | exact h.elim | skip
  obtain ⟨_,_,h⟩:=h
  simp [Z0k,Z0J ms _ _ _ _ h]
 | .consume τ ag::ms,vs,xs,fs,ls,h=>by
  cases vs<;>cases xs<;>cases fs<;>first | exact h.elim | skip
  obtain ⟨_,_,h⟩:=h
  simp [Z0k,Z0J ms _ _ _ _ h]
 | .eat τ ag::ms,vs,xs,fs,ls,h=>by
  cases vs<;>cases xs<;>cases fs<;>first | exact h.elim | skip
  obtain ⟨_,_,h⟩:=h
  simp [Z0k,Z0J ms _ _ _ _ h]
 | .inout τ ag::ms,vs,xs,fs,ls,h=>by
  cases vs<;>cases xs<;>cases fs<;>first | exact h.elim | skip
  obtain ⟨_,_,h⟩:=h
  simp [Z0k,Z0J ms _ _ _ _ h]
 | .ptr τ::ms,vs,xs,fs,ls,h=>by
  cases xs<;>cases ls<;>first | (cases vs<;>cases fs<;>exact h.elim) | skip
  rename_i x xs l ls
  have h':x= .pointer (some ⟨l,0,none⟩)/\Z0u w F St ms vs xs fs ls:=by cases vs<;>cases fs<;>exact h
  simp [Z0k,Z0J ms _ _ _ _ h'.2]
 | .clos g τs::ms,vs,xs,fs,ls,h=>by
  cases xs<;>first | (cases vs<;>cases fs<;>cases ls<;>exact h.elim) | skip
  rename_i x xs
  have h':(τs.length<=ls.length/\x= .func (.func g) #[] ((ls.take τs.length).map λl=>Value.pointer (some ⟨l,0,none⟩)).toArray)/\Z0u w F St ms vs xs fs (ls.drop τs.length):=by
   cases vs<;>cases fs<;>cases ls<;>exact h
  simp [Z0k,Z0J ms _ _ _ _ h'.2]
end Go.PI
namespace Go.PI
section
variable {σ0:State} {a0:Act} {w:World} {G0:Ghost} {F:Nat->Nat} {St:Nat->Prop} {n:Nat}
theorem Z1k (hF:G0.F=F) (hS:G0.St=St) (hal:∀ b,St b->G0.Al b):(ms:List Mode)->(vs:List TVal)->(xs:List Value)->(fs:List (List Nat))->(ls:List Nat)->(j:Nat)->Z0u w F St ms vs xs fs ls ->
  (∀ b∈fs.flatten,G0.Al b)->(∀ m (h:m<ls.length),Z0x σ0 G0 a0 w ⟨true,n+(j+m),[]⟩ (.pointer (some ⟨ls[m],0,none⟩))) ->
  (Z0h n ms vs j).length=ms.length/\xs.length=ms.length/\∀ i,i<ms.length->Z01 σ0 G0 a0 w (Z0v .dead (Z0h n ms vs j) i) (xs.getD i undef) ((Z0k ms fs).getD i [])
 | [],vs,xs,fs,ls,j,h,hf,hp=>by
  cases vs<;>cases xs<;>cases fs<;>cases ls<;>first | exact ⟨rfl,rfl,λi hi=>absurd hi (by simp)⟩ | exact h.elim
 | .borrow τ ag::ms,vs,xs,fs,ls,j,h,hf,hp=>by
  cases vs<;>cases xs<;>cases fs<;>first | exact h.elim | skip
  obtain ⟨h1,h2,h3,h4⟩:=h
  obtain ⟨i1,i2,i3⟩:=Z1k hF hS hal ms _ _ _ ls j h4 (λb hb=>hf b (by simp [hb])) hp
  refine ⟨by simp [Z0h,i1],by simp [i2],λi hi=> ?_⟩
  cases i with
  | zero=>
   simp only [Z0h,Z0y,Z0t,Z0q,Z0k,List.getD_cons_zero]
   rw [h1]
   refine ⟨h2,?_⟩
   rw [hF,hS]
   exact h3.pres (λ_ h=>h) (λb _ h=>hal b h) (λb _=>Z07.refl _ _ _) (by simp) (.inr λb _ _=>Z07.refl _ _ _)
  | succ i=>exact i3 i (by simpa using hi)
 | .look τ ag::ms,vs,xs,fs,ls,j,h,hf,hp=>by
  cases vs<;>cases xs<;>cases fs<;>first | exact h.elim | skip
  obtain ⟨h1,h2,h3,h4⟩:=h
  obtain ⟨i1,i2,i3⟩:=Z1k hF hS hal ms _ _ _ ls j h4 (λb hb=>hf b (by simp [hb])) hp
  refine ⟨by simp [Z0h,i1],by simp [i2],λi hi=> ?_⟩
  cases i with
  | zero=>
   simp only [Z0h,Z0y,Z0t,Z0q,Z0k,List.getD_cons_zero]
   rw [h1]
   refine ⟨h2,?_⟩
   rw [hF,hS]
   exact h3.pres (λ_ h=>h) (λb _ h=>hal b h) (λb _=>Z07.refl _ _ _) (by simp) (.inr λb _ _=>Z07.refl _ _ _)
  | succ i=>exact i3 i (by simpa using hi)
 | .rptr τ::ms,vs,xs,fs,ls,j,h,hf,hp=>by
  cases vs<;>cases xs<;>cases fs<;>first | exact h.elim | skip
  rename_i v vs x xs f fs
  obtain ⟨h1,h2,h4⟩:=h
  obtain ⟨i1,i2,i3⟩:=Z1k hF hS hal ms _ _ _ ls j h4 (λb hb=>hf b (by simp [hb])) hp
  refine ⟨by simp [Z0h,i1],by simp [i2],λi hi=> ?_⟩
  cases i with
  | zero=>
   simp only [Z0h,Z0y,Z0t,Z0q,Z0k,List.getD_cons_zero]
   have h3:Z2F w G0.F G0.St G0.Al v.τ v.x x:=by
    rw [hF,hS]
    exact h2.pres (λ_ h=>h) (λb _ h=>hal b h) λb _=>Z07.refl _ _ _
   obtain ⟨b,o,cs,q1,q2,q3,q4,q5⟩:=h3
   exact ⟨h1,rfl,b,o,cs,q1,q2,q3,q4,λ_ t' ht=>by rw [(List.mem_replicate.1 ht).2];rfl,q5⟩
  | succ i=>exact i3 i (by simpa using hi)
 | .rclos g τs::ms,vs,xs,fs,ls,j,h,hf,hp=>by
  cases vs<;>cases xs<;>cases fs<;>first | exact h.elim | skip
  obtain ⟨h1,⟨us,h2,h3⟩,h4⟩:=h
  obtain ⟨i1,i2,i3⟩:=Z1k hF hS hal ms _ _ _ ls j h4 (λb hb=>hf b (by simp [hb])) hp
  refine ⟨by simp [Z0h,i1],by simp [i2],λi hi=> ?_⟩
  cases i with
  | zero=>
   simp only [Z0h,Z0y,Z0t,Z0q,Z0k,List.getD_cons_zero]
   refine ⟨h1,us,h2,?_⟩
   rw [hF,hS]
   exact SPs.pres (λ_ h=>h) (λb _ h=>hal b h) (λb _=>Z07.refl _ _ _) _ _ _ _ h3
  | succ i=>exact i3 i (by simpa using hi)
 | .consume τ ag::ms,vs,xs,fs,ls,j,h,hf,hp=>by
  cases vs<;>cases xs<;>cases fs<;>first | exact h.elim | skip
  rename_i v vs x xs f fs
  obtain ⟨h2,h3,h4⟩:=h
  obtain ⟨i1,i2,i3⟩:=Z1k hF hS hal ms _ _ _ ls j h4 (λb hb=>hf b (by simp [hb])) hp
  refine ⟨by simp [Z0h,i1],by simp [i2],λi hi=> ?_⟩
  cases i with
  | zero=>
   refine ⟨h2,?_⟩
   rw [hF,hS]
   exact h3.pres (λ_ h=>h) (λb _ h=>hf b (by simp [show b∈f from h])) (λb _=>Z07.refl _ _ _) (λb _=>⟨Z07.refl _ _ _,rfl⟩) (.inr λb _ _=>Z07.refl _ _ _)
  | succ i=>exact i3 i (by simpa using hi)
 | .eat τ ag::ms,vs,xs,fs,ls,j,h,hf,hp=>by
  cases vs<;>cases xs<;>cases fs<;>first | exact h.elim | skip
  rename_i v vs x xs f fs
  obtain ⟨h2,h3,h4⟩:=h
  obtain ⟨i1,i2,i3⟩:=Z1k hF hS hal ms _ _ _ ls j h4 (λb hb=>hf b (by simp [hb])) hp
  refine ⟨by simp [Z0h,i1],by simp [i2],λi hi=> ?_⟩
  cases i with
  | zero=>
   refine ⟨h2,?_⟩
   rw [hF,hS]
   exact h3.pres (λ_ h=>h) (λb _ h=>hf b (by simp [show b∈f from h])) (λb _=>Z07.refl _ _ _) (λb _=>⟨Z07.refl _ _ _,rfl⟩) (.inr λb _ _=>Z07.refl _ _ _)
  | succ i=>exact i3 i (by simpa using hi)
 | .inout τ ag::ms,vs,xs,fs,ls,j,h,hf,hp=>by
  cases vs<;>cases xs<;>cases fs<;>first | exact h.elim | skip
  rename_i v vs x xs f fs
  obtain ⟨h2,h3,h4⟩:=h
  obtain ⟨i1,i2,i3⟩:=Z1k hF hS hal ms _ _ _ ls j h4 (λb hb=>hf b (by simp [hb])) hp
  refine ⟨by simp [Z0h,i1],by simp [i2],λi hi=> ?_⟩
  cases i with
  | zero=>
   refine ⟨h2.1,?_⟩
   rw [hF,hS]
   exact h3.pres (λ_ h=>h) (λb _ h=>hf b (by simp [show b∈f from h])) (λb _=>Z07.refl _ _ _) (λb _=>⟨Z07.refl _ _ _,rfl⟩) (.inr λb _ _=>Z07.refl _ _ _)
  | succ i=>exact i3 i (by simpa using hi)
 | .ptr τ::ms,vs,xs,fs,ls,j,h,hf,hp=>by
  cases xs<;>cases ls<;>first | (cases vs<;>cases fs<;>exact h.elim) | skip
  rename_i x xs l ls
  have h':x= .pointer (some ⟨l,0,none⟩)/\Z0u w F St ms vs xs fs ls:=by cases vs<;>cases fs<;>exact h
  obtain ⟨i1,i2,i3⟩:=Z1k hF hS hal ms vs xs fs ls (j+1) h'.2 hf (λm hm=>by
   have:=hp (m+1) (by simpa using hm)
   rw [show n+(j+1+m)=n+(j+(m+1)) by omega]
   simpa using this)
  have hst:Z0h n (.ptr τ::ms) vs j= .ptr ⟨true,n+j,[]⟩::Z0h n ms vs (j+1):=by cases vs<;>rfl
  rw [hst]
  refine ⟨by simp [i1],by simp [i2],λi hi=> ?_⟩
  cases i with
  | zero=>
   have:=hp 0 (by simp)
   simp only [Nat.add_zero,List.getElem_cons_zero] at this
   refine ⟨by simp [Z0k],rfl,rfl,?_⟩
   rw [List.getD_cons_zero,h'.1]
   exact this
  | succ i=>simpa [Z0k,Z0y,Z0t,Z0q] using i3 i (by simpa using hi)
 | .clos g τs::ms,vs,xs,fs,ls,j,h,hf,hp=>by
  cases xs<;>first | (cases vs<;>cases fs<;>cases ls<;>exact h.elim) | skip
  rename_i x xs
  have h':(τs.length<=ls.length/\x= .func (.func g) #[] ((ls.take τs.length).map λl=>Value.pointer (some ⟨l,0,none⟩)).toArray)/\Z0u w F St ms vs xs fs (ls.drop τs.length):=by
   cases vs<;>cases fs<;>cases ls<;>exact h
  obtain ⟨⟨hlen,hx⟩,hrest⟩:=h'
  obtain ⟨i1,i2,i3⟩:=Z1k hF hS hal ms vs xs fs (ls.drop τs.length) (j+τs.length) hrest hf (λm hm=>by
   have hm':τs.length+m<ls.length:=by simp at hm;omega
   have:=hp (τs.length+m) hm'
   rw [show n+(j+τs.length+m)=n+(j+(τs.length+m)) by omega]
   simpa using this)
  have hst:Z0h n (.clos g τs::ms) vs j= .clos g ((List.range τs.length).map λi=>⟨true,n+j+i,[]⟩)::Z0h n ms vs (j+τs.length):=by cases vs<;>rfl
  rw [hst]
  refine ⟨by simp [i1],by simp [i2],λi hi=> ?_⟩
  cases i with
  | zero=>
   refine ⟨by simp [Z0k],((ls.take τs.length).map λl=>Value.pointer (some ⟨l,0,none⟩)).toArray,by rw [List.getD_cons_zero,hx],by simp;omega,λi hi'=> ?_⟩
   have hi'':i<τs.length:=by simpa using hi'
   refine ⟨by simp,by simp [Z08],?_⟩
   have:=hp i (by omega)
   have hget:(((ls.take τs.length).map λl=>Value.pointer (some ⟨l,0,none⟩)).toArray).getD i undef= .pointer (some ⟨ls[i]'(by omega),0,none⟩):=by
    rw [Array.getD_eq_getD_getElem?,List.getElem?_toArray,List.getElem?_map,List.getElem?_take_of_lt hi'',List.getElem?_eq_getElem (show i<ls.length by omega)]
    rfl
   rw [hget]
   simpa [Nat.add_assoc] using this
  | succ i=>simpa [Z0k,Z0y,Z0t,Z0q] using i3 i (by simpa using hi)
theorem Z3R:(ext:List TVal)->(ads:List Nat)->(efps:List (List Nat))->Z1c w F St ext ads efps ->
  ads.length=ext.length/\efps.length=ext.length/\∀ j v,ext[j]? = some v->∃ c T,w.heap[ads.getD j 0]? = some (.cells c T (0,0))/\Rp w F St (·∈ efps.getD j []) v.τ v.tg c.toList v.x (efps.getD j [])
 | [],ads,efps,h=>by
  cases ads<;>cases efps<;>first | exact ⟨rfl,rfl,λj v hj=>by simp at hj⟩ | exact h.elim
 | v::ext,ads,efps,h=>by
  cases ads<;>cases efps<;>first | exact h.elim | skip
  obtain ⟨h1,h2⟩:=h
  obtain ⟨i1,i2,i3⟩:=Z3R ext _ _ h2
  refine ⟨by simp [i1],by simp [i2],λj u hj=> ?_⟩
  cases j with
  | zero=>simp only [List.getElem?_cons_zero,Option.some.injEq] at hj;subst hj;exact h1
  | succ j=>exact i3 j u (by simpa using hj)
theorem Z3u {α:Type} (d:α):(n:Nat)->(l:List α)->(i:Nat)->Z0v d (Z1S d n l) i=if i<n then Z0v d l i else d
 | 0,l,i=>by simp [Z1S,Z0y,Z0t,Z0q]
 | n+1,[],0=>rfl
 | n+1,[],i+1=>by
  have:=Z3u d n [] i
  simp only [Z1S,Z0y,Z0t,Z0q] at this ⊢
  rw [this];split<;>simp
 | n+1,a::l,0=>by simp [Z1S,Z0y,Z0t,Z0q]
 | n+1,a::l,i+1=>by
  have:=Z3u d n l i
  simp only [Z1S,Z0y,Z0t,Z0q]
  rw [this]
  simp only [Nat.add_lt_add_iff_right]
theorem Z2z {α:Type} (d:α):(n:Nat)->(l:List α)->(Z1S d n l).length=n
 | 0,_=>rfl
 | n+1,[]=>by simp [Z1S,Z2z d n []]
 | n+1,a::l=>by simp [Z1S,Z2z d n l]
theorem Z46 {α:Type} (d:α):(l m:List α)->(i:Nat)->Z0v d (l++m) i=if i<l.length then Z0v d l i else Z0v d m (i-l.length)
 | [],m,i=>by simp
 | a::l,m,0=>rfl
 | a::l,m,i+1=>by
  simp only [List.cons_append,Z0y,Z0t,Z0q,List.length_cons,Nat.add_lt_add_iff_right,Nat.add_sub_add_right]
  exact Z46 d l m i
theorem Z6m {α:Type} (d:α):(l:List α)->(i:Nat)->Z0v d l i=(l[i]?).getD d
 | [],i=>by simp [Z0y,Z0t,Z0q]
 | a::l,0=>rfl
 | a::l,i+1=>by simp only [Z0y,Z0t,Z0q,List.getElem?_cons_succ];exact Z6m d l i
end
end Go.PI
namespace Go.PI
def Z1h (n:Nat) (modes:List Mode) (F:Nat->Nat) (St:Nat->Prop) (fps efps:List (List Nat)) (ads:List Nat):Ghost where
 F:=F
 St:=St
 who b:=match Z1P (Z0k modes fps) b with
  | some i=>some (.s i)
  | none=>match Z1P efps b with
   | some j=>some (.c (n+j))
   | none=>match Z1P (ads.map λl=>[l]) b with
    | some j=>some (.a (n+j))
    | none=>none
 fs i:=if i<modes.length then (Z0k modes fps).getD i [] else []
 fb i:=if n<=i then efps.getD (i-n) [] else []
 ad i:=if n<=i then ads.getD (i-n) 0 else 0
def Z9n (w:World) (F:Nat->Nat) (St:Nat->Prop) (n:Nat) (ads:List Nat) (np:Nat) (args:List Value):Base:={ w with ad0:=λi=>if n<=i then ads.getD (i-n) 0 else 0,F0:=F,St0:=St,np:=np,arg:=λi=>args.getD i undef }
theorem Z3Y (l:List Nat):(l.map λx=>[x]).flatten=l:=by induction l with
 | nil=>rfl
 | cons a l ih=>simp [ih]
theorem Z7x (l:List Nat) (j:Nat) (h:j<l.length):(l.map λx=>[x]).getD j []=[l.getD j 0]:=by
 rw [List.getD_eq_getElem?_getD,List.getElem?_map,List.getD_eq_getElem?_getD,List.getElem?_eq_getElem h];rfl
theorem Z4D:{l:List (List Nat)}->{f:List Nat}->l.flatten.Nodup->f∈l->f.Nodup
 | [],f,_,h=>by cases h
 | g::l,f,hn,h=>by
  simp only [List.flatten_cons] at hn
  rcases List.mem_cons.1 h with rfl | h
  ·exact (List.nodup_append.1 hn).1
  ·exact Z4D (List.nodup_append.1 hn).2.1 h
section
variable {w:World} {F:Nat->Nat} {St:Nat->Prop} {n:Nat} {modes:List Mode} {vals ext:List TVal} {args:List Value} {ads:List Nat} {fps efps:List (List Nat)}
theorem Z8Y (args:List Value) (m i:Nat):(args.toArray++Array.replicate m undef).getD i undef=args.getD i undef:=by
 rw [Array.getD_eq_getD_getElem?,List.getD_eq_getElem?_getD]
 by_cases h:i<args.length
 ·rw [Array.getElem?_append_left (by simpa using h),List.getElem?_toArray]
 ·rw [Array.getElem?_append_right (by simp;omega),List.getElem?_eq_none (by omega)]
  simp only [Array.getElem?_replicate]
  split<;>rfl
theorem Z8Z {np:Nat} (hn:modes.length<=n) (hA:Z0u w F St modes vals args fps ads) (hB:Z1c w F St ext ads efps) (hnd:(fps.flatten++(efps.flatten++ads)).Nodup)
  (hSt:∀ b,St b->b<w.heap.size/\b ∉ fps.flatten++(efps.flatten++ads)) (hlt:∀ b∈fps.flatten++(efps.flatten++ads),b<w.heap.size) :
  args.length=modes.length/\Inv (Z9n w F St n ads np args) (·∈ fps.flatten++(efps.flatten++ads)) (Z3Z n modes vals ext) { tmps:=args.toArray++Array.replicate (n-args.length) undef,defers:=[] } w (Z1h n modes F St fps efps ads) []:=by
 have hsf:=Z0J modes vals args fps ads hA
 obtain ⟨ha1,ha2,hbx⟩:=Z3R ext ads efps hB
 have hd1:fps.flatten.Nodup:=(List.nodup_append.1 hnd).1
 have hd2:(efps.flatten++ads).Nodup:=(List.nodup_append.1 hnd).2.1
 have hd3:efps.flatten.Nodup:=(List.nodup_append.1 hd2).1
 have hd4:ads.Nodup:=(List.nodup_append.1 hd2).2.1
 have hx12:∀ b,b∈efps.flatten++ads->b ∉ fps.flatten:=λb hb hb'=>(List.nodup_append.1 hnd).2.2 b hb' b hb rfl
 have hx23:∀ b,b∈ads->b ∉ efps.flatten:=λb hb hb'=>(List.nodup_append.1 hd2).2.2 b hb' b hb rfl
 let G0:=Z1h n modes F St fps efps ads
 have hwS:∀ i b,b∈(Z0k modes fps).getD i []->G0.who b=some (.s i):=by
  intro i b hb
  have:=Z4z _ b i (by rw [hsf];exact hd1) hb
  simp only [G0,Z1h,this]
 have hwC:∀ j b,b∈efps.getD j []->G0.who b=some (.c (n+j)):=by
  intro j b hb
  have h1:=Z1Q (Z0k modes fps) b (by rw [hsf];exact hx12 b (List.mem_append_left _ (Z2K hb)))
  have h2:=Z4z _ b j hd3 hb
  simp only [G0,Z1h,h1,h2]
 have hwA:∀ j,j<ads.length->G0.who (ads.getD j 0)=some (.a (n+j)):=by
  intro j hj
  have hm:ads.getD j 0∈ads:=by rw [List.getD_eq_getElem?_getD,List.getElem?_eq_getElem hj];exact List.getElem_mem _
  have h1:=Z1Q (Z0k modes fps) (ads.getD j 0) (by rw [hsf];exact hx12 _ (List.mem_append_right _ hm))
  have h2:=Z1Q efps (ads.getD j 0) (hx23 _ hm)
  have h3:=Z4z (ads.map λl=>[l]) (ads.getD j 0) j (by rw [Z3Y];exact hd4) (by rw [Z7x _ _ hj];simp)
  simp only [G0,Z1h,h1,h2,h3]
 have hwn:∀ b,b ∉ fps.flatten++(efps.flatten++ads)->G0.who b=none:=by
  intro b hb
  simp only [List.mem_append,not_or] at hb
  have h1:=Z1Q (Z0k modes fps) b (by rw [hsf];exact hb.1)
  have h2:=Z1Q efps b hb.2.1
  have h3:=Z1Q (ads.map λl=>[l]) b (by rw [Z3Y];exact hb.2.2)
  simp only [G0,Z1h,h1,h2,h3]
 have hwm:∀ b z,G0.who b=some z->b∈fps.flatten++(efps.flatten++ads):=by
  intro b z hb
  by_cases hm:b∈fps.flatten++(efps.flatten++ads)
  ·exact hm
  ·rw [hwn b hm] at hb;cases hb
 have hal:∀ b,St b->G0.Al b:=λb hb=>⟨λi h=>(by rw [hwn b (hSt b hb).2] at h;cases h),λ_=>hb⟩
 have half:∀ b∈fps.flatten,G0.Al b:=by
  intro b hb
  obtain ⟨f,hf,hbf⟩:=List.mem_flatten.1 (by rw [hsf];exact hb:b∈(Z0k modes fps).flatten)
  obtain ⟨i,hi,rfl⟩:=List.mem_iff_getElem.1 hf
  have:=hwS i b (by rw [List.getD_eq_getElem?_getD,List.getElem?_eq_getElem hi];exact hbf)
  exact ⟨λi h=>(by rw [this] at h;cases h),λh=>(by rw [this] at h;cases h)⟩
 have hale:∀ j b,b∈efps.getD j []->G0.Al b:=λj b hb=>⟨λi h=>(by rw [hwC j b hb] at h;cases h),λh=>(by rw [hwC j b hb] at h;cases h)⟩
 have hbox:∀ i v,(Z3Z n modes vals ext).boxAt i=some v->n<=i/\ext[i-n]? = some v:=by
  intro i v hv
  have hv:Z0v none (Z1S none n []++ext.map some) i=some v:=hv
  rw [Z46,Z2z] at hv
  split at hv
  ·rw [Z3u] at hv;split at hv<;>cases hv
  ·rename_i hi
   refine ⟨by omega,?_⟩
   rw [Z6m,List.getElem?_map] at hv
   cases hx:ext[i-n]? with
   | none=>rw [hx] at hv;cases hv
   | some u=>rw [hx] at hv;simpa using hv
 have hboxm:∀ m (h:m<ads.length),∃ v,(Z3Z n modes vals ext).boxAt (n+m)=some v/\ext[m]? = some v:=by
  intro m hm
  have hme:m<ext.length:=by omega
  refine ⟨ext[m],?_,List.getElem?_eq_getElem hme⟩
  show Z0v none (Z1S none n []++ext.map some) (n+m)=_
  rw [Z46,Z2z,if_neg (by omega),Z6m,Nat.add_sub_cancel_left,List.getElem?_map,List.getElem?_eq_getElem hme]
  rfl
 let a0:Act:={ tmps:=args.toArray++Array.replicate (n-args.length) undef,defers:=[] }
 obtain ⟨hl1,hl2,hsl⟩:=Z1k (σ0:=Z3Z n modes vals ext) (a0:=a0) (G0:=G0) (n:=n) rfl rfl hal modes vals args fps ads 0 hA half (λm hm=>by
  obtain ⟨v,hv,hve⟩:=hboxm m hm
  obtain ⟨c,T,hc,hR⟩:=hbx m v hve
  have had:G0.ad (n+m)=ads.getD m 0:=by simp [G0,Z1h]
  have hgd:ads.getD m 0=ads[m]:=by rw [List.getD_eq_getElem?_getD,List.getElem?_eq_getElem hm];rfl
  refine .inr ⟨c.toList,(ads[m],0),⟨v.τ,c.toList,some (ads[m],0),?_,?_,Z0Q _ _ _ _⟩,rfl⟩
  ·rw [Nat.zero_add,Z1q,hv];rfl
  ·simp only [Z09,Nat.zero_add,had,hc]
   rw [hgd])
 refine ⟨hl2,⟨rfl,?_,λi hi=> ?_,λi v hv=> ?_,λi b hb=> ?_,λi b hb=> ?_,λb hb=>(by cases hb),λi=> ?_,λi=> ?_,List.nodup_nil,λb hb=>⟨hwn b (hSt b hb).2,(hSt b hb).1⟩,λb z hb=>⟨hlt b (hwm b z hb),.inr (hwm b z hb)⟩,?_,λi _=>rfl,⟨λ_ _ _=>rfl,λ_ h=>h,λ_ h=> .inl h⟩,λi _=>Z8Y args _ i⟩⟩
 ·simp [Z3Z,Z2z];omega
 ·have hin:i<n:=by simpa [Z3Z,Z2z] using hi
  have hslot:(Z3Z n modes vals ext).slot i=Z0v .dead (Z0h n modes vals 0) i:=by
   show Z0v .dead (Z1S .dead n (Z0h n modes vals 0)) i=_
   rw [Z3u,if_pos hin]
  rw [hslot]
  by_cases him:i<modes.length
  ·have hget:a0.tmps.getD i undef=args.getD i undef:=by
    have:i<args.length:=by omega
    simp only [a0]
    rw [Array.getD_eq_getD_getElem?,Array.getElem?_append_left (by simpa using this),List.getD_eq_getElem?_getD,List.getElem?_toArray]
   show Z01 _ _ a0 w _ (a0.tmps.getD i undef) _
   rw [hget]
   simp only [Z1h,him,if_true]
   exact hsl i him
  ·rw [Z2g _ _ (by omega)]
   simp only [Z1h,him,if_false]
   rfl
 ·obtain ⟨hni,hve⟩:=hbox i v hv
  obtain ⟨c,T,hc,hR⟩:=hbx (i-n) v hve
  have hle:i-n<ads.length:=by
   have:=(List.getElem?_eq_some_iff.1 hve).1;omega
  have had:G0.ad i=ads.getD (i-n) 0:=if_pos hni
  have hfb:G0.fb i=efps.getD (i-n) []:=if_pos hni
  refine ⟨⟨c,T,by rw [show (Z1h n modes F St fps efps ads).ad i=ads.getD (i-n) 0 from had];exact hc,?_⟩,?_⟩
  ·rw [show (Z1h n modes F St fps efps ads).fb i=efps.getD (i-n) [] from hfb]
   exact hR.pres (λ_ h=>h) (λb _ h=>hale (i-n) b h) (λb _=>Z07.refl _ _ _) (λb _=>⟨Z07.refl _ _ _,rfl⟩) (.inr λb _ _=>Z07.refl _ _ _)
  ·rw [show (Z1h n modes F St fps efps ads).ad i=ads.getD (i-n) 0 from had]
   have:=hwA (i-n) hle
   rw [show n+(i-n)=i by omega] at this
   exact this
 ·simp only [Z1h] at hb
  split at hb
  ·exact hwS i b hb
  ·cases hb
 ·simp only [Z1h] at hb
  split at hb
  ·have:=hwC (i-n) b hb
   rw [show n+(i-n)=i by omega] at this
   exact this
  ·cases hb
 ·simp only [Z1h]
  split
  ·rename_i hi
   have hll:(Z0k modes fps).flatten.Nodup:=by rw [hsf];exact hd1
   rw [List.getD_eq_getElem?_getD]
   cases hx:(Z0k modes fps)[i]? with
   | none=>simp
   | some f=>exact Z4D hll (List.mem_of_getElem? hx)
  ·exact List.nodup_nil
 ·simp only [Z1h]
  split
  ·rw [List.getD_eq_getElem?_getD]
   cases hx:efps[i-n]? with
   | none=>simp
   | some f=>exact Z4D hd3 (List.mem_of_getElem? hx)
  ·exact List.nodup_nil
 ·exact Ext.refl _ w
end
end Go.PI
namespace Go.PI
def Z0j (w:World) (G:Ghost):List TVal->List Value->List (List Nat)->Prop
 | [],[],[]=>True
 | v::vs,x::xs,f::fs=>(Z0f v.ag x/\Rp w G.F G.St G.Al v.τ v.tg (Z02 x) v.x f)/\Z0j w G vs xs fs
 | _,_,_=>False
theorem Z0j.sim {w:World} {G G':Ghost} (hs:Sim G G'):(vs:List TVal)->(xs:List Value)->(fs:List (List Nat))->Z0j w G vs xs fs->Z0j w G' vs xs fs
 | [],xs,fs,h=>by cases xs<;>cases fs<;>exact h
 | v::vs,xs,fs,h=>by
  cases xs<;>cases fs<;>first | exact h.elim | skip
  obtain ⟨⟨h1,h2⟩,h3⟩:=h
  exact ⟨⟨h1,by rw [hs.F,hs.St,hs.Al];exact h2⟩,Z0j.sim hs vs _ _ h3⟩
section
variable {W0:Base} {M:Nat->Prop} {σ:State} {a:Act} {w w':World} {G:Ghost} {xs:List Nat} {P:Program} {tys:List (TypeId×Ty×List TypeId)}
theorem Z8C (I:Inv W0 M σ a w G xs) {p:Place} {u:TVal} {cs:List Value} {base:Option (Nat×Nat)} (hg:σ.getAt p=some u) (hpl:Z0C σ G a w p cs base) (hf:Z08 p.path=true) {σ':State} (hset:σ.setAt p u.alias=some σ') :
  ∃ fi G',Inv W0 M σ' a w G' (fi++xs)/\Sim G G'/\Rp w G'.F G'.St G'.Al u.τ u.tg cs u.x fi:=by
 obtain ⟨c,hc,hgp⟩:=Z0D hg
 unfold State.setAt at hset
 rw [hc] at hset
 simp only [Option.bind_some,Option.map_eq_some_iff] at hset
 obtain ⟨⟨x',tg'⟩,hsp,rfl⟩:=hset
 obtain ⟨τc,l,b,hct,hrl,hl⟩:=hpl
 obtain ⟨l',b',fpc,hr',hrp,hw⟩:=Z0H I hc
 rw [hrl] at hr'
 cases hr'
 have:τc=c.τ:=by rw [State.ct,hc] at hct;simpa using hct.symm
 subst this
 obtain ⟨f1,fi,f2,e1,e2,e3,e4,e5⟩:=Rp.flatLens hf hrp hl hgp
 obtain ⟨fg,hrg,_⟩:=hrp.get hl hgp
 have hlen:cs.take (size u.τ)=cs:=by rw [<-hrg.len.1];simp
 have hnew:=e5 u.alias (cs.take (size u.τ)) [] x' tg' hsp rfl (by rw [hlen];exact hrg.alias (Ghost.St_Al I))
 have hsz:=Z1w hf hgp
 rw [e4,Z39 (by rw [hrp.len.1];exact hsz)] at hnew
 have hfp:G.fpOf p=f1++fi++f2:=by
  rw [<-e1]
  rcases hw with ⟨hb,_,rfl,_⟩ | ⟨hb,_,rfl,_⟩<;>simp [Ghost.fpOf,hb]
 obtain ⟨G',I',hsim⟩:=I.recontent (c':=⟨c.τ,c.ag,x',tg'⟩) hc rfl rfl hrl hnew (fi:=fi) (by
  rw [hfp]
  simp only [List.append_nil]
  rw [List.append_assoc,List.append_assoc]
  exact List.Perm.append_left _ List.perm_append_comm)
 refine ⟨fi,G',I',hsim,?_⟩
 rw [hsim.F,hsim.St,hsim.Al]
 rw [hlen] at e2
 exact e2
def Z3D (tmps:Array Value):ResultVar->Sem Value
 | .tmp t=>pure (tmps.getD t undef)
 | .cell a t=>do loadVar t (<-asAddr (tmps.getD a undef))
theorem Z49 (hT:Z0e P tys):(rs:List ResultVar)->(ags:List Bool)->(σ:State)->(acc:List TVal)->(G:Ghost)->(xs:List Nat)->(res:List TVal)->(σ':State)->Z1Y tys rs ags σ acc=some (res,σ')->Inv W0 M σ a w G xs ->
  ∃ us vs fps G',res=acc.reverse++us/\(rs.mapM (Z3D a.tmps)).run P w= .ok vs w/\Inv W0 M σ' a w G' (fps.flatten++xs)/\Sim G G'/\Z0j w G' us vs fps
 | [],ags,σ,acc,G,xs,res,σ',h,I=>by
  simp only [Z1Y,Option.some.injEq,Prod.mk.injEq] at h
  obtain ⟨rfl,rfl⟩:=h
  exact ⟨[],[],[],G,by simp,by simp,by simpa using I,Sim.refl _,trivial⟩
 | .tmp t::rs,ags,σ,acc,G,xs,res,σ',h,I=>by
  cases ags with
  | nil=>simp [Z1Y] at h
  | cons ag ags=>
  simp only [Z1Y] at h
  split at h
  ·rename_i v hl
   split at h
   ·rename_i hag
    split at h
    ·rename_i u σ1 htk
     obtain ⟨fp,G1,I1,hs1,hτ,hR,hsh⟩:=Z10 I htk
     obtain ⟨us,vs,fps,G',h1,h2,h3,h4,h5⟩:=Z49 hT rs ags σ1 (u::acc) G1 _ res σ' h I1
     refine ⟨u::us,a.eval (.tmp t)::vs,fp::fps,G',by simpa using h1,?_,?_,hs1.trans h4,⟨⟨hsh,by rw [h4.F,h4.St,h4.Al];exact hR⟩,h5⟩⟩
     ·simp only [List.mapM_cons,Sem.run_bind,Z3D,Sem.run_pure,Result.andThen_ok,h2]
      rfl
     ·refine h3.perm (List.perm_iff_count.2 λz=> ?_)
      simp only [List.flatten_cons,List.count_append]
      omega
    ·cases h
   ·cases h
  ·cases h
 | .cell c ty::rs,ags,σ,acc,G,xs,res,σ',h,I=>by
  cases ags with
  | nil=>simp [Z1Y] at h
  | cons ag ags=>
  simp only [Z1Y] at h
  split at h
  ·rename_i τ p hty hsl
   split at h
   ·rename_i v hg
    split at h
    ·rename_i hc
     obtain ⟨hvτ,hag,hfl⟩:=hc
     split at h
     ·rename_i σ1 hset
      have hS:=I.slot c (Z0W (by rw [hsl];simp))
      rw [hsl] at hS
      obtain ⟨cs,b,hpl,hv⟩:=hS.2.2.2.some hg
      obtain ⟨hlen,hone⟩:=Z1M I hg hpl
      have hcell:=Z1F I hpl (w2:=w) ⟨λ_ _ _ _ _ _ _ h=>h,λ_ _ _=>rfl⟩
      obtain ⟨l,hta,hag'⟩:=Z0S hty
      rw [hlen,hvτ] at hcell
      have hload:=Z1Z hT hta hcell
      have hgo:=Z1i (ag:= !l.isEmpty) hone (λhf=>by
       rw [hlen,hvτ]
       have hl:l=[]:=by simpa using hf
       rw [hl] at hta
       exact Z1U hT hta)
      obtain ⟨fi,G1,I1,hs1,hR⟩:=Z8C I hg hpl hfl hset
      obtain ⟨us,vs,fps,G',h1,h2,h3,h4,h5⟩:=Z49 hT rs ags σ1 (_::acc) G1 _ res σ' h I1
      refine ⟨{ v with ag:=ag }::us,Z0L (!l.isEmpty) cs::vs,fi::fps,G',by simpa using h1,?_,?_,hs1.trans h4,⟨⟨?_,?_⟩,h5⟩⟩
      ·simp only [List.mapM_cons,Sem.run_bind,Z3D,hv,asAddr,Sem.run_pure,Result.andThen_ok,hload,h2]
      ·refine h3.perm (List.perm_iff_count.2 λz=> ?_)
       simp only [List.flatten_cons,List.count_append]
       omega
      ·rw [<-hag,hag'];exact hgo.2
      ·rw [hgo.1,h4.F,h4.St,h4.Al];exact hR
     ·cases h
    ·cases h
   ·cases h
  ·cases h
theorem Z7U {fn:Func} {tmps:Array Value} {vs:List Value} (h:(fn.results.toList.mapM (Z3D tmps)).run P w= .ok vs w):(results fn tmps).run P w= .ok (Z1I vs) w:=by
 have hf:∀ (g:ResultVar->Sem Value),(∀ x,g x=Z3D tmps x)->fn.results.mapM g=fn.results.mapM (Z3D tmps):=λg hg=>by rw [funext hg]
 unfold results
 rw [hf]
 case a=>intro x;cases x<;>rfl
 rw [Array.mapM_eq_mapM_toList]
 simp only [Sem.run_bind,Sem.run_map,h,Result.andThen_ok,Sem.run_pure]
 cases vs with
 | nil=>rfl
 | cons v vs=>cases vs with
  | nil=>rfl
  | cons u vs=>simp [Z1I]
theorem Z0j.append:(us:List TVal)->(vs:List Value)->(fs:List (List Nat))->Z0j w G us vs fs->∀ {us':List TVal} {vs':List Value} {fs':List (List Nat)},Z0j w G us' vs' fs'->Z0j w G (us++us') (vs++vs') (fs++fs')
 | [],vs,fs,h,us',vs',fs',h'=>by cases vs<;>cases fs<;>first | exact h' | exact h.elim
 | u::us,vs,fs,h,us',vs',fs',h'=>by
  cases vs<;>cases fs<;>first | exact h.elim | skip
  exact ⟨h.1,Z0j.append us _ _ h.2 h'⟩
theorem Z0j.lens:(us:List TVal)->(vs:List Value)->(fs:List (List Nat))->Z0j w G us vs fs->vs.length=us.length
 | [],vs,fs,h=>by cases vs<;>cases fs<;>first | rfl | exact h.elim
 | u::us,vs,fs,h=>by
  cases vs<;>cases fs<;>first | exact h.elim | skip
  simp [Z0j.lens us _ _ h.2]
theorem Z6s (np:Nat) (hnp:W0.np=np):(ms:List Mode)->(i:Nat)->(σ:State)->(G:Ghost)->(xs:List Nat)->(ios:List TVal)->(σ':State)->(args:List Value)->ioC np ms i σ=some (ios,σ')->Inv W0 M σ a w G xs ->
  (∀ j,args.getD j undef=W0.arg (i+j))->args.length=ms.length ->
  ∃ fps G',Inv W0 M σ' a w G' (fps.flatten++xs)/\Sim G G'/\Z0j w G' ios (Z0Z ms args) fps/\ios.map (·.τ)=Z2L ms/\ios.all TVal.allO=true/\ios.length=(Z0Z ms args).length
 | [],i,σ,G,xs,ios,σ',args,h,I,_,hl=>by
  simp only [ioC,Option.some.injEq,Prod.mk.injEq] at h
  obtain ⟨rfl,rfl⟩:=h
  have:Z0Z [] args=[]:=by cases args<;>rfl
  rw [this]
  exact ⟨[],G,by simpa using I,Sim.refl _,trivial,rfl,rfl,rfl⟩
 | m::ms,i,σ,G,xs,ios,σ',[],h,I,_,hl=>by simp at hl
 | m::ms,i,σ,G,xs,ios,σ',x::args,h,I,hargs,hl=>by
  have hrest:∀ j,args.getD j undef=W0.arg (i+1+j):=λj=>by
   have:=hargs (j+1)
   rw [show i+1+j=i+(j+1) by omega]
   simpa using this
  have hl':args.length=ms.length:=by simpa using hl
  by_cases hm:∃ τ ag,m= .inout τ ag
  ·obtain ⟨τ,ag,rfl⟩:=hm
   simp only [ioC] at h
   split at h
   ·rename_i u σ1 htk
    split at h
    ·rename_i hc
     simp only [Bool.and_eq_true,decide_eq_true_eq,beq_iff_eq] at hc
     obtain ⟨r,hr,he⟩:=Option.map_eq_some_iff.1 h
     simp only [Prod.mk.injEq] at he
     obtain ⟨rfl,rfl⟩:=he
     obtain ⟨fp,G1,I1,hs1,hτ,hR,hsh⟩:=Z10 I htk
     obtain ⟨fps,G2,I2,hs2,ho,ht,hO,hln⟩:=Z6s np hnp ms (i+1) σ1 G1 _ r.1 r.2 args hr I1 hrest hl'
     have hx:a.eval (.tmp i)=x:=by
      have h1:=I.pin i (by rw [hnp];exact hc.1.1)
      have h2:=hargs 0
      simp only [List.getD_cons_zero,Nat.add_zero] at h2
      exact h1.trans h2.symm
     rw [hx] at hR hsh
     refine ⟨fp::fps,G2,?_,hs1.trans hs2,⟨⟨hsh,by rw [hs2.F,hs2.St,hs2.Al];exact hR⟩,ho⟩,?_,?_,?_⟩
     ·refine I2.perm (List.perm_iff_count.2 λz=> ?_)
      simp only [List.flatten_cons,List.count_append]
      omega
     ·simp only [List.map_cons,Z2L,ht,hτ]
     ·simp only [List.all_cons,hO,hc.1.2,Bool.and_self]
     ·simp only [List.length_cons,Z0Z,hln]
    ·cases h
   ·cases h
  ·have e1:ioC np (m::ms) i σ=ioC np ms (i+1) σ:=by cases m<;>first | rfl | exact absurd ⟨_,_,rfl⟩ hm
   have e2:Z0Z (m::ms) (x::args)=Z0Z ms args:=by cases m<;>first | rfl | exact absurd ⟨_,_,rfl⟩ hm
   have e3:Z2L (m::ms)=Z2L ms:=by cases m<;>first | rfl | exact absurd ⟨_,_,rfl⟩ hm
   rw [e1] at h
   rw [e2,e3]
   exact Z6s np hnp ms (i+1) σ G xs ios σ' args h I hrest hl'
end
end Go.PI
namespace Go.PI
section
variable {w:World} {F:Nat->Nat} {St Al:Nat->Prop}
theorem Rp.narrow {Al':Nat->Prop}:{τ:Ty}->{tg:List Tag}->{cs:List Value}->{x:El τ}->{fp:List Nat}->Rp w F St Al τ tg cs x fp->(∀ t∈tg,t.isN=false)->(∀ b∈fp,Al' b)->Rp w F St Al' τ tg cs x fp
 | .int _,_,_,_,_,h,_,_=>h
 | .bool,_,_,_,_,h,_,_=>h
 | .str,_,_,_,_,h,_,_=>h
 | .unit,_,_,_,_,h,_,_=>h
 | .pair a b,_,_,_,_,h,hN,hf=>by
  obtain ⟨t1,t2,c1,c2,f1,f2,rfl,rfl,rfl,h1,h2⟩:=h
  exact ⟨t1,t2,c1,c2,f1,f2,rfl,rfl,rfl,Rp.narrow h1 (λt ht=>hN t (List.mem_append_left _ ht)) (λb hb=>hf b (List.mem_append_left _ hb)),Rp.narrow h2 (λt ht=>hN t (List.mem_append_right _ ht)) (λb hb=>hf b (List.mem_append_right _ hb))⟩
 | .slice e,_,_,_,_,h,hN,hf=>by
  obtain ⟨t,a,cap,rfl,rfl,hl,h⟩:=h
  have ht:=hN t (by simp)
  have hin:∀ t'∈List.replicate (Z06 e) t.inner,t'.isN=false:=by
   intro t' ht'
   obtain ⟨_,rfl⟩:=List.mem_replicate.1 ht'
   cases t<;>simp_all [Tag.isN,Tag.inner]
  refine ⟨t,a,cap,rfl,rfl,hl,?_⟩
  rcases h with h | ⟨ho,b,o,fps,rfl,hal,rfl,hfl,hr,hF,hel⟩ | ⟨ho,rfl,hx⟩
  ·exact .inl h
  ·refine .inr (.inl ⟨ho,b,o,fps,rfl,hf b (by simp),rfl,hfl,hr,hF,λk hk=> ?_⟩)
   obtain ⟨cs',h1,h2⟩:=hel k hk
   exact ⟨cs',h1,Rp.narrow h2 hin λc hc=>hf c (List.mem_cons_of_mem _ (Z2K hc))⟩
  ·refine .inr (.inr ⟨ho,rfl,hx.imp id ?_⟩)
   rintro ⟨b,o,rfl,htb,hF,hel⟩
   refine ⟨b,o,rfl,?_,hF,λk hk=> ?_⟩
   ·cases t<;>simp_all [Tag.isN,Tag.own,Z5h]
   ·obtain ⟨cs',h1,h2⟩:=hel k hk
    exact ⟨cs',h1,Rp.narrow h2 hin (by simp)⟩
theorem Rp.toS {St' Al':Nat->Prop} (hA:∀ b,Al b->St' b) (hS:∀ b,St b->St' b):{τ:Ty}->{tg:List Tag}->{cs:List Value}->{x:El τ}->{fp:List Nat}->Rp w F St Al τ tg cs x fp->Rp w F St' Al' τ (List.replicate (Z06 τ) .S) cs x []
 | .int _,_,_,_,_,h=>by obtain ⟨h1,_,_⟩:=h;exact ⟨h1,rfl,rfl⟩
 | .bool,_,_,_,_,h=>by obtain ⟨h1,_,_⟩:=h;exact ⟨h1,rfl,rfl⟩
 | .str,_,_,_,_,h=>by obtain ⟨h1,_,_⟩:=h;exact ⟨h1,rfl,rfl⟩
 | .unit,_,_,_,_,h=>by obtain ⟨h1,_,_⟩:=h;exact ⟨h1,rfl,rfl⟩
 | .pair a b,_,_,_,_,h=>by
  obtain ⟨t1,t2,c1,c2,f1,f2,rfl,rfl,rfl,h1,h2⟩:=h
  exact ⟨_,_,c1,c2,[],[],by rw [Z06,List.replicate_append_replicate],rfl,rfl,Rp.toS hA hS h1,Rp.toS hA hS h2⟩
 | .slice e,_,_,_,_,h=>by
  obtain ⟨t,a,cap,rfl,rfl,hl,h⟩:=h
  refine ⟨.S,a,cap,rfl,rfl,hl,.inr (.inr ⟨rfl,rfl,?_⟩)⟩
  rcases h with ⟨_,_,hx,_⟩ | ⟨ho,b,o,fps,rfl,hal,rfl,hfl,hr,hF,hel⟩ | ⟨ho,rfl,hx⟩
  ·exact .inl hx
  ·refine .inr ⟨b,o,rfl,hA b hal,by omega,λk hk=> ?_⟩
   obtain ⟨cs',h1,h2⟩:=hel k hk
   exact ⟨cs',h1,Rp.toS hA hS h2⟩
  ·refine hx.imp id ?_
   rintro ⟨b,o,rfl,htb,hF,hel⟩
   refine ⟨b,o,rfl,?_,hF,λk hk=> ?_⟩
   ·cases t with
    | S=>exact hS b htb
    | N=>exact hA b htb
    | _=>cases ho
   ·obtain ⟨cs',h1,h2⟩:=hel k hk
    exact ⟨cs',h1,Rp.toS hA hS h2⟩
theorem Rp.unstable {St' Al':Nat->Prop} (hS:∀ b,St b->Al' b) (hA:∀ b,Al b->Al' b):{τ:Ty}->{tg:List Tag}->{cs:List Value}->{x:El τ}->{fp:List Nat}->Rp w F St Al τ tg cs x fp->Rp w F St' Al' τ (tg.map (Tag.back false)) cs x fp
 | .int _,_,_,_,_,h=>by obtain ⟨h1,rfl,h3⟩:=h;exact ⟨h1,rfl,h3⟩
 | .bool,_,_,_,_,h=>by obtain ⟨h1,rfl,h3⟩:=h;exact ⟨h1,rfl,h3⟩
 | .str,_,_,_,_,h=>by obtain ⟨h1,rfl,h3⟩:=h;exact ⟨h1,rfl,h3⟩
 | .unit,_,_,_,_,h=>by obtain ⟨h1,rfl,h3⟩:=h;exact ⟨h1,rfl,h3⟩
 | .pair a b,_,_,_,_,h=>by
  obtain ⟨t1,t2,c1,c2,f1,f2,rfl,rfl,rfl,h1,h2⟩:=h
  exact ⟨_,_,c1,c2,f1,f2,by rw [List.map_append],rfl,rfl,Rp.unstable hS hA h1,Rp.unstable hS hA h2⟩
 | .slice e,_,_,_,_,h=>by
  obtain ⟨t,a,cap,rfl,rfl,hl,h⟩:=h
  have hin:(List.replicate (Z06 e) t.inner).map (Tag.back false)=List.replicate (Z06 e) (Tag.back false t).inner:=by
   rw [List.map_replicate];cases t<;>rfl
  refine ⟨Tag.back false t,a,cap,rfl,rfl,hl,?_⟩
  rcases h with ⟨ho,h⟩ | ⟨ho,b,o,fps,rfl,hal,rfl,hfl,hr,hF,hel⟩ | ⟨ho,rfl,hx⟩
  ·exact .inl ⟨(by cases t<;>first | rfl | cases ho),h⟩
  ·refine .inr (.inl ⟨(by cases t<;>first | rfl | cases ho),b,o,fps,rfl,hA b hal,rfl,hfl,hr,hF,λk hk=> ?_⟩)
   obtain ⟨cs',h1,h2⟩:=hel k hk
   exact ⟨cs',h1,by rw [<-hin];exact Rp.unstable hS hA h2⟩
  ·refine .inr (.inr ⟨(by cases t<;>first | rfl | cases ho),rfl,hx.imp id ?_⟩)
   rintro ⟨b,o,rfl,htb,hF,hel⟩
   refine ⟨b,o,rfl,?_,hF,λk hk=> ?_⟩
   ·cases t with
    | S=>exact hS b htb
    | N=>exact hA b htb
    | _=>cases ho
   ·obtain ⟨cs',h1,h2⟩:=hel k hk
    exact ⟨cs',h1,by rw [<-hin];exact Rp.unstable hS hA h2⟩
end
end Go.PI
namespace Go.PI
section
variable {W0:Base} {M:Nat->Prop} {σ:State} {a:Act} {w w':World} {G:Ghost} {xs:List Nat} {P:Program} {tys:List (TypeId×Ty×List TypeId)}
theorem Z0j.narrow:(vs:List TVal)->(ys:List Value)->(fs:List (List Nat))->Z0j w G vs ys fs->(∀ v∈vs,v.noN=true)->Z3b w G.F G.St vs ys fs
 | [],ys,fs,h,_=>by cases ys<;>cases fs<;>exact h
 | v::vs,ys,fs,h,hn=>by
  cases ys<;>cases fs<;>first | exact h.elim | skip
  obtain ⟨⟨h1,h2⟩,h3⟩:=h
  exact ⟨⟨h1,hn v (by simp),h2.narrow (TVal.noN_iff.1 (hn v (by simp))) λb hb=>hb⟩,Z0j.narrow vs _ _ h3 λu hu=>hn u (List.mem_cons_of_mem _ hu)⟩
theorem Z0j.toS {St':Nat->Prop} (hA:∀ b,G.Al b->St' b) (hS:∀ b,G.St b->St' b):(vs:List TVal)->(ys:List Value)->(fs:List (List Nat))->Z0j w G vs ys fs ->
  Z3b w G.F St' (vs.map λv=>{ v with tg:=v.tg.map λ_=>Tag.S }) ys (List.replicate vs.length [])
 | [],ys,fs,h=>by cases ys<;>cases fs<;>first | exact h.elim | trivial
 | v::vs,ys,fs,h=>by
  cases ys<;>cases fs<;>first | exact h.elim | skip
  obtain ⟨⟨h1,h2⟩,h3⟩:=h
  refine ⟨⟨h1,?_,?_⟩,Z0j.toS hA hS vs _ _ h3⟩
  ·rw [TVal.noN_iff]
   intro t ht
   obtain ⟨_,_,rfl⟩:=List.mem_map.1 ht
   rfl
  ·have:v.tg.map (λ_=>Tag.S)=List.replicate (Z06 v.τ) .S:=by rw [List.map_const',h2.len.2]
   show Rp w G.F St' _ v.τ (v.tg.map λ_=>Tag.S) _ v.x []
   rw [this]
   exact h2.toS hA hS
theorem Z31 {σ:State}:(rs:List Nat)->(l:List TVal)->σ.boxesAt rs=some l->l.length=rs.length/\∀ (j:Nat) (v:TVal),l[j]? = some v->σ.boxAt (rs.getD j 0)=some v
 | [],l,h=>by
  simp only [State.boxesAt,Option.some.injEq] at h
  subst h
  exact ⟨rfl,λj v hj=>by simp at hj⟩
 | r::rs,l,h=>by
  simp only [State.boxesAt] at h
  split at h
  ·rename_i v l' hv hl'
   cases h
   obtain ⟨h1,h2⟩:=Z31 rs l' hl'
   refine ⟨by simp [h1],λj u hj=> ?_⟩
   cases j with
   | zero=>simp only [List.getElem?_cons_zero,Option.some.injEq] at hj;subst hj;simpa using hv
   | succ j=>simpa using h2 j u (by simpa using hj)
  ·cases h
theorem Z4v {F:Nat->Nat} {St:Nat->Prop}:(ext:List TVal)->(ads:List Nat)->(efps:List (List Nat))->ads.length=ext.length->efps.length=ext.length ->
  (∀ (j:Nat) (v:TVal),ext[j]? = some v->∃ c T,w.heap[ads.getD j 0]? = some (.cells c T (0,0))/\Rp w F St (·∈ efps.getD j []) v.τ v.tg c.toList v.x (efps.getD j []))->Z1c w F St ext ads efps
 | [],ads,efps,h1,h2,h=>by
  cases ads<;>cases efps<;>first | trivial | simp at h1 | simp at h2
 | v::ext,ads,efps,h1,h2,h=>by
  cases ads with
  | nil=>simp at h1
  | cons l ads=>
  cases efps with
  | nil=>simp at h2
  | cons f efps=>
  exact ⟨h 0 v rfl,Z4v ext ads efps (by simpa using h1) (by simpa using h2) λj u hj=>h (j+1) u (by simpa using hj)⟩
theorem Z8z (n m j:Nat) (h:j<m):((List.range m).map (n+ ·)).getD j 0=n+j:=by
 rw [List.getD_eq_getElem?_getD,List.getElem?_map,List.getElem?_range h];rfl
end
end Go.PI
namespace Go.PI
section
variable {P:Program} {R:Type} {Γ:Env R}
theorem Z8M [Subsingleton R] (hm:P.follows .mixedOrders=true) (hT:Z0e P Γ.tys) (hcalls:CallsOk P Γ) {f:FuncId} {fn:Func} {c:Code} {X:List (Z1e R)} {ht:HT} {fz:Bool} {modes:List Mode} {ags:List Bool}
  (hO : Z21 P Γ.np X ht c) (hf : P.funcs[f]? = some fn) (hname : (fn.name == "runtime.NumGoroutine") = false) (hb : fn.body = some c) (hn : modes.length ≤ fn.ntmps) :
  Z18 P f (⟨modes,ags,Z8l Γ X ht fz fn modes ags⟩:Sig R):=by
 refine ⟨⟨fn,c,hf,hname,hb⟩,λvals ext k r hrun w F St args ads fps efps hA hB hnd hSt hlt=> ?_⟩
 have hrun:Z8l Γ X ht fz fn modes ags vals ext k=some r:=hrun
 unfold Z8l at hrun
 rw [hb] at hrun
 simp only [] at hrun
 obtain ⟨hal,I0⟩:=Z8Z (vals:=vals) (np:=Γ.np) hn hA hB hnd hSt hlt
 refine calls_of_wp hf hb ?_
 have hsz:args.toArray.size=args.length:=by simp
 rw [hsz]
 obtain ⟨ha1,ha2,_⟩:=Z3R ext ads efps hB
 refine Z8e hm hT hcalls (Nat.le_refl _) X c ht hO _ _ w _ _ r _ ?_ I0 hrun ?_
 ·rintro ch a' w' ⟨_,v,res,ios,ext',h,_⟩
  cases h
 ·intro e σ' a' w' G' he I'
  have main:(match Z1Y Γ.tys fn.results.toList ags σ' [] with
   | some (res,σ1)=>(match ioC Γ.np modes 0 σ1 with
    | some (ios,σ')=>(match σ'.boxesAt ((List.range ext.length).map (fn.ntmps+ ·)) with
     | some ext'=>if decide (σ'.slots.length=fn.ntmps)&&Z2W ext ext'&&ext'.all TVal.noN&&((!fz&&res.all TVal.noN)||(ios.isEmpty&&ext'.all λv=>v.tg.all λt=> !t.own)) then k (Z24 fz res) ios ext' else none
     | none=>none)
    | none=>none)
   | none=>none)=some r->a'.defers=[]/\∃ v,(results fn a'.tmps).run P w'= .ok v w'/\∃ v' res ios ext',Ending.returned v= .returned v'/\k res ios ext'=some r/\(Z2W ext ext'=true/\ios.map (·.τ)=Z2L modes/\ios.all TVal.allO=true)/\ext'.all TVal.noN=true/\RetOk w F St (fps.flatten++(efps.flatten++ads)) ads res ios (Z0Z modes args) ext' v' w':=by
   intro h
   refine ⟨I'.defers,?_⟩
   split at h
   ·rename_i res σ1 hres
    split at h
    ·rename_i ios σ2 hio
     split at h
     case h_2=>cases h
     rename_i ext' hext
     split at h
     ·rename_i hc
      simp only [Bool.and_eq_true,decide_eq_true_eq] at hc
      obtain ⟨⟨⟨hlen,hty⟩,hexN⟩,hor⟩:=hc
      obtain ⟨us0,vs0,fps0,G20,h1,h2,I20,hs20,hout0⟩:=Z49 hT _ _ _ _ _ _ _ _ hres I'
      have hus:us0=res:=by simpa using h1.symm
      subst hus
      obtain ⟨ifps,G2,I21,hs21,hio1,hio2,hio3,hio4⟩:=Z6s Γ.np rfl modes 0 σ1 G20 _ ios σ2 args hio I20 (λj=>by rw [Nat.zero_add];rfl) hal
      have hs2:=hs20.trans hs21
      have hout00:=Z0j.sim hs21 _ _ _ hout0
      have hout:Z0j w' G2 (us0++ios) (vs0++Z0Z modes args) (fps0++ifps):=Z0j.append _ _ _ hout00 hio1
      have hvl:=Z0j.lens _ _ _ hout00
      have I2:Inv (Z9n w F St fn.ntmps ads Γ.np args) (·∈ fps.flatten++(efps.flatten++ads)) σ2 a' w' G2 ((fps0++ifps).flatten++[]):=by
       refine I21.perm (List.perm_iff_count.2 λz=> ?_)
       simp only [List.flatten_append,List.count_append]
       omega
      have hion:∀ v∈ios,v.noN=true:=λv hv=>by
       have:=List.all_eq_true.1 hio3 v hv
       unfold TVal.allO at this
       unfold TVal.noN
       rw [List.all_eq_true] at this ⊢
       intro t ht
       have h3:=this t ht
       cases t<;>first | rfl | cases h3
      refine ⟨_,Z7U h2,_,Z24 fz us0,ios,ext',rfl,h,⟨hty,hio2,hio3⟩,hexN,?_⟩
      obtain ⟨us,hUs⟩:∃ us,us=us0++ios:=⟨_,rfl⟩
      obtain ⟨fps',hFps⟩:∃ f,f=fps0++ifps:=⟨_,rfl⟩
      rw [<-hUs,<-hFps] at hout
      rw [<-hFps] at I2
      obtain ⟨hl1,hl2⟩:=Z31 _ _ hext
      have hl1':ext'.length=ext.length:=by simpa using hl1
      have hexN':∀ v∈ext',v.noN=true:=by simpa [List.all_eq_true] using hexN
      have hbox:∀ (j:Nat) (v:TVal),ext'[j]? = some v->(∃ c T,w'.heap[ads.getD j 0]? = some (.cells c T (0,0))/\Rp w' G2.F G2.St G2.Al v.τ v.tg c.toList v.x (G2.fb (fn.ntmps+j)))/\G2.who (ads.getD j 0)=some (.a (fn.ntmps+j)):=by
       intro j v hj
       have hjl:j<ext.length:=by rw [<-hl1'];exact (List.getElem?_eq_some_iff.1 hj).1
       have h3:=hl2 j v hj
       rw [Z8z _ _ _ hjl] at h3
       have h4:=I2.box _ v h3
       have h5:G2.ad (fn.ntmps+j)=ads.getD j 0:=by
        rw [I2.adx (fn.ntmps+j) (by rw [hlen];omega)]
        show (if fn.ntmps<=fn.ntmps+j then ads.getD (fn.ntmps+j-fn.ntmps) 0 else 0)=_
        rw [if_pos (by omega),Nat.add_sub_cancel_left]
       rw [h5] at h4
       exact h4
      have hads:∀ b∈ads,∃ j,j<ext.length/\b=ads.getD j 0/\G2.who b=some (.a (fn.ntmps+j)):=by
       intro b hb
       obtain ⟨j,hj,rfl⟩:=List.mem_iff_getElem.1 hb
       have hje:j<ext'.length:=by omega
       obtain ⟨_,h5⟩:=hbox j ext'[j] (List.getElem?_eq_getElem hje)
       have:ads.getD j 0=ads[j]:=by rw [List.getD_eq_getElem?_getD,List.getElem?_eq_getElem hj];rfl
       rw [this] at h5
       exact ⟨j,by omega,this.symm,h5⟩
      have hadsN:ads.Nodup:=(List.nodup_append.1 (List.nodup_append.1 hnd).2.1).2.1
      have hwho:∀ b z,G2.who b=some z->(w.heap.size<=b\/b∈fps.flatten++(efps.flatten++ads))/\b<w'.heap.size:=λb z hb=>⟨(I2.lt b z hb).2,(I2.lt b z hb).1⟩
      have hSn:∀ b z,G2.who b=some z->¬ G2.St b:=λb z hb hS=>by rw [(I2.st b hS).1] at hb;cases hb
      by_cases hall:(!fz&&us0.all TVal.noN)=true
      ·
       have hfz:Z24 fz us0=us0:=by unfold Z24;rw [if_pos hall]
       rw [hfz]
       have husN:∀ v∈us,v.noN=true:=λv hv=>by
        rw [hUs] at hv
        rcases List.mem_append.1 hv with hv | hv
        ·exact List.all_eq_true.1 (Bool.and_eq_true_iff.1 hall).2 v hv
        ·exact hion v hv
       let efps':List (List Nat):=(List.range ext.length).map λj=>G2.fb (fn.ntmps+j)
       have hef:∀ j,j<ext.length->efps'.getD j []=G2.fb (fn.ntmps+j):=by
        intro j hj
        simp only [efps']
        rw [List.getD_eq_getElem?_getD,List.getElem?_map,List.getElem?_range hj];rfl
       have hem:∀ b∈efps'.flatten,∃ j,b∈G2.fb (fn.ntmps+j):=by
        intro b hb
        obtain ⟨f,hf,hbf⟩:=List.mem_flatten.1 hb
        obtain ⟨j,_,rfl⟩:=List.mem_map.1 hf
        exact ⟨j,hbf⟩
       have hen:efps'.flatten.Nodup:=by
        have:∀ m,(((List.range m).map λj=>G2.fb (fn.ntmps+j)).flatten).Nodup:=by
         intro m
         induction m with
         | zero=>simp
         | succ m ih=>
          rw [List.range_succ,List.map_append,List.flatten_append]
          refine List.nodup_append.2 ⟨ih,by simpa using I2.nodC _,λb hb b' hb' hbb=> ?_⟩
          subst hbb
          obtain ⟨f,hf,hbf⟩:=List.mem_flatten.1 hb
          obtain ⟨j,hj,rfl⟩:=List.mem_map.1 hf
          have h5:=I2.whoC _ b hbf
          have h6:=I2.whoC (fn.ntmps+m) b (by simpa using hb')
          rw [h5] at h6
          simp only [Option.some.injEq,Who.c.injEq] at h6
          have:=List.mem_range.1 hj
          omega
        exact this _
       refine ⟨G2.F,G2.St,vs0,fps',efps',⟨rfl,hio4,hvl⟩,by rw [<-hUs];exact hout.narrow _ _ _ husN,Z4v _ _ _ (by omega) (by simp [efps',hl1']) (λj v hj=> ?_),I2.ext,I2.org.F,I2.org.St,λb hb=>⟨I2.org.St' b hb,(I2.st b hb).2⟩,?_,?_⟩
       ·have hjl:j<ext.length:=by rw [<-hl1'];exact (List.getElem?_eq_some_iff.1 hj).1
        obtain ⟨⟨c,T,hc,hR⟩,_⟩:=hbox j v hj
        refine ⟨c,T,hc,?_⟩
        rw [hef j hjl]
        exact hR.narrow (TVal.noN_iff.1 (hexN' v (List.mem_of_getElem? hj))) λb hb=>hb
       ·have hx:=I2.nodX
        rw [List.append_nil] at hx
        refine List.nodup_append.2 ⟨hx,List.nodup_append.2 ⟨hen,hadsN,λb hb b' hb' hbb=> ?_⟩,λb hb b' hb' hbb=> ?_⟩
        ·subst hbb
         obtain ⟨j,hj⟩:=hem b hb
         obtain ⟨j',_,_,h5⟩:=hads b hb'
         rw [I2.whoC _ b hj] at h5;cases h5
        ·subst hbb
         have h5:=I2.whoX b (by simpa using hb)
         rcases List.mem_append.1 hb' with hb' | hb'
         ·obtain ⟨j,hj⟩:=hem b hb'
          rw [I2.whoC _ b hj] at h5;cases h5
         ·obtain ⟨j',_,_,h6⟩:=hads b hb'
          rw [h6] at h5;cases h5
       ·intro b hb
        have:∃ z,G2.who b=some z:=by
         rcases List.mem_append.1 hb with hb | hb
         ·exact ⟨_,I2.whoX b (by simpa using hb)⟩
         ·rcases List.mem_append.1 hb with hb | hb
          ·obtain ⟨j,hj⟩:=hem b hb
           exact ⟨_,I2.whoC _ b hj⟩
          ·obtain ⟨j',_,_,h6⟩:=hads b hb
           exact ⟨_,h6⟩
        obtain ⟨z,hz⟩:=this
        exact ⟨(hwho b z hz).1,(hwho b z hz).2,hSn b z hz⟩
      ·
       have hfz:Z24 fz us0=us0.map λv=>{ v with tg:=v.tg.map λ_=>Tag.S }:=by unfold Z24;rw [if_neg hall]
       rw [hfz]
       have hor2:ios=[]/\∀ v∈ext',∀ t∈v.tg,t.own=false:=by
        simp only [Bool.or_eq_true] at hor
        rcases hor with h5 | h5
        ·exact absurd h5 hall
        ·simp only [Bool.and_eq_true,List.isEmpty_iff] at h5
         exact ⟨h5.1,by simpa [List.all_eq_true] using h5.2⟩
       obtain ⟨hio0,hno⟩:=hor2
       have hia:Z0Z modes args=[]:=List.length_eq_zero_iff.1 (by rw [<-hio4,hio0];rfl)
       have hus0:us=us0:=by rw [hUs,hio0,List.append_nil]
       rw [hus0,hia,List.append_nil] at hout
       rw [hia,hio0]
       have hrep:(List.replicate us0.length ([]:List Nat)).flatten=[]:=Z0F _
       have hrep2:(List.replicate ext.length ([]:List Nat)).flatten=[]:=Z0F _
       refine ⟨G2.F,G2.Al,vs0,List.replicate us0.length [],List.replicate ext.length [],⟨rfl,rfl,by simpa using hvl⟩,by rw [List.append_nil,List.append_nil];exact Z0j.toS (λ_ h=>h) (Ghost.St_Al I2) us0 vs0 fps' hout,Z4v _ _ _ (by omega) (by simp [hl1']) (λj v hj=> ?_),I2.ext,I2.org.F,λb hb=>Ghost.St_Al I2 b (I2.org.St b hb),λb hb=> ?_,?_,?_⟩
       ·obtain ⟨⟨c,T,hc,hR⟩,_⟩:=hbox j v hj
        refine ⟨c,T,hc,?_⟩
        have hf0:=hR.fp_nil (hno v (List.mem_of_getElem? hj))
        rw [hf0] at hR
        rw [Z28]
        exact (hR.narrow (Al':=(·∈ ([]:List Nat))) (TVal.noN_iff.1 (hexN' v (List.mem_of_getElem? hj))) (by simp)).pres (Ghost.St_Al I2) (λb _ h=>h) (λb _=>Z07.refl _ _ _) (by simp) (.inr λb _ _=>Z07.refl _ _ _)
       ·cases hz:G2.who b with
        | none=>exact ⟨I2.org.St' b (hb.2 hz),(I2.st b (hb.2 hz)).2⟩
        | some z=>exact ⟨.inr (hwho b z hz).1,(hwho b z hz).2⟩
       ·rw [hrep,hrep2];simpa using hadsN
       ·rw [hrep,hrep2]
        intro b hb
        obtain ⟨j',_,_,h6⟩:=hads b (by simpa using hb)
        exact ⟨(hwho b _ h6).1,(hwho b _ h6).2,λhA=>hA.1 _ h6⟩
     ·cases h
    ·cases h
   ·cases h
  cases e with
  | normal=>exact main he
  | ret=>exact main he
  | exit id=>cases he
end
end Go.PI
namespace Go.PI
structure Up (G G':Ghost):Prop where
 F:G'.F=G.F
 St:∀ b,G.St b->G'.St b
 ad:G'.ad=G.ad
 Al:G'.Al=G.Al
 bx:∀ b i,G'.who b=some (.a i)↔G.who b=some (.a i)
theorem Up.refl (G:Ghost):Up G G:=⟨rfl,λ_ h=>h,rfl,rfl,λ_ _=>Iff.rfl⟩
theorem Up.trans {G1 G2 G3:Ghost} (h:Up G1 G2) (k:Up G2 G3):Up G1 G3:=⟨k.F.trans h.F,λb hb=>k.St b (h.St b hb),k.ad.trans h.ad,k.Al.trans h.Al,λb i=>(k.bx b i).trans (h.bx b i)⟩
theorem Sim.up {G G':Ghost} (h:Sim G G'):Up G G':=⟨h.F,λb hb=>by rw [h.St];exact hb,h.ad,h.Al,h.bx⟩
theorem Up.lift {w:World} {G G':Ghost} (h:Up G G') {τ:Ty} {tg:List Tag} {cs:List Value} {x:El τ} {fp:List Nat} (hr:Rp w G.F G.St G.Al τ tg cs x fp):Rp w G'.F G'.St G'.Al τ tg cs x fp:=by
 rw [h.F,h.Al]
 exact hr.pres h.St (λ_ _ h=>h) (λb _=>Z07.refl _ _ _) (λb _=>⟨Z07.refl _ _ _,rfl⟩) (.inr λb _ _=>Z07.refl _ _ _)
theorem Up.calmer {w:World} {G G':Ghost} (h:Up G G'):Calmer w G w G':=⟨λw2 hc=>
 ⟨λb hb ha o n cs hn h1=>hc.1 b hb (by rw [h.Al];exact ha) o n cs (by rw [h.F];exact hn) h1,λi b hb=>hc.2 i b ((h.bx b i).2 hb)⟩,λw2 hc i b hb=>hc i b ((h.bx b i).2 hb)⟩
def Z0s (w:World) (G:Ghost):List Mode->List Value->List TVal->List (List Nat)->List (Nat×Value)->Prop
 | [],[],[],[],[]=>True
 | .borrow τ ag::ms,x::xs,v::vs,f::fs,ls=>f=[]/\Z0f ag x/\Rp w G.F G.St G.Al v.τ v.tg (Z02 x) v.x []/\Z0s w G ms xs vs fs ls
 | .consume τ ag::ms,x::xs,v::vs,f::fs,ls=>Z0f ag x/\Rp w G.F G.St G.Al v.τ v.tg (Z02 x) v.x f/\Z0s w G ms xs vs fs ls
 | .eat τ ag::ms,x::xs,v::vs,f::fs,ls=>Z0f ag x/\Rp w G.F G.St G.Al v.τ v.tg (Z02 x) v.x f/\Z0s w G ms xs vs fs ls
 | .ptr τ::ms,x::xs,vs,fs,l::ls=>x=l.2/\Z0s w G ms xs vs fs ls
 | .clos g τs::ms,x::xs,vs,fs,ls=>(τs.length<=ls.length/\x= .func (.func g) #[] ((ls.take τs.length).map (·.2)).toArray)/\Z0s w G ms xs vs fs (ls.drop τs.length)
 | _,_,_,_,_=>False
section
variable {W0:Base} {M:Nat->Prop} {σ:State} {a:Act} {w w':World} {G:Ghost} {xs:List Nat} {P:Program}
variable {R:Type} {r:R}
theorem Z7P (I:Inv W0 M σ a w G xs) {t:Nat} {u:TVal} (h:σ.slot t= .val u) :
  ∃ G',Inv W0 M { σ with slots:=Z0I σ.slots t (.val u.freeze) } a w G' xs/\Up G G'/\(∀ p,({ σ with slots:=Z0I σ.slots t (.val u.freeze) }:State).ct p=σ.ct p) /\
   Z0f u.ag (a.tmps.getD t undef)/\Rp w G'.F G'.St G'.Al u.τ u.freeze.tg (Z02 (a.tmps.getD t undef)) u.x []:=by
 have hS:=I.slot t (Z0W (by rw [h];simp))
 rw [h] at hS
 obtain ⟨hsh,hR⟩:=hS
 have hcon:σ.content ⟨false,t,[]⟩=some u:=by simp [State.content,h]
 obtain ⟨G1,I1,hs1⟩:=I.recontent (p:=⟨false,t,[]⟩) (c':=u.alias) hcon rfl rfl (l:=Z02 (a.tmps.getD t undef)) (b:=none) (f':=[]) (fi:=G.fs t) rfl (hR.alias (Ghost.St_Al I)) (by simp [Ghost.fpOf])
 obtain ⟨G2,I2,gF,gad,gA,gb,gS,hl⟩:=I1.freeze
 have hsl1:(σ.setContent ⟨false,t,[]⟩ u.alias).slot t= .val u.alias:=by
  rw [Z0O hcon,if_pos ⟨rfl,Z0W (by rw [h];simp)⟩,h]
 have hcon1:(σ.setContent ⟨false,t,[]⟩ u.alias).content ⟨false,t,[]⟩=some u.alias:=by simp [State.content,hsl1]
 have hfz:Rp w G2.F G2.St G2.Al u.τ u.freeze.tg (Z02 (a.tmps.getD t undef)) u.x []:=by
  rw [gF,gA,hs1.F,hs1.Al]
  exact hR.freeze (λb hb=>(gS b).2 (.inl (by rw [hs1.St];exact hb))) (Ghost.St_Al I) λb hb=>(gS b).2 (.inr hb)
 have hfs2:G2.fs t=[]:=by
  have hS2:=I2.slot t (Z0W (by rw [hsl1];simp))
  rw [hsl1] at hS2
  exact hS2.2.fp_nil (by
   intro s hs
   obtain ⟨s',_,rfl⟩:=List.mem_map.1 hs
   cases s'<;>rfl)
 obtain ⟨G3,I3,hs3⟩:=I2.recontent (p:=⟨false,t,[]⟩) (c':=u.freeze) hcon1 rfl rfl (l:=Z02 (a.tmps.getD t undef)) (b:=none) (f':=[]) (fi:=[]) rfl hfz (by simp [Ghost.fpOf,hfs2])
 have hst:(σ.setContent ⟨false,t,[]⟩ u.alias).setContent ⟨false,t,[]⟩ u.freeze={ σ with slots:=Z0I σ.slots t (.val u.freeze) }:=by
  simp only [State.setContent,h]
  have:({ σ with slots:=Z0I σ.slots t (TV.val u.alias) }:State).slot t= .val u.alias:=by
   have:=hsl1
   simp only [State.setContent,h] at this
   exact this
  rw [this]
  simp only [Z1z]
 rw [hst] at I3
 have hup:Up G G3:=((hs1.up).trans ⟨gF,λb hb=>(gS b).2 (.inl hb),gad,gA,gb⟩).trans hs3.up
 refine ⟨G3,by simpa using I3,hup,λp=> ?_,hsh,?_⟩
 ·rw [<-hst]
  rw [Z3q (c':=u.freeze) hcon1 rfl,Z3q (c':=u.alias) hcon rfl]
 ·rw [hs3.F,hs3.St,hs3.Al];exact hfz
theorem Z7V {o:Operand} {t:Nat} {u:TVal} (h:σ.slotOf o=some (t,u)):o= .tmp t/\σ.slot t= .val u:=by
 unfold State.slotOf at h
 split at h
 ·rename_i t'
  split at h
  ·rename_i u' hs
   split at h
   ·simp only [Option.some.injEq,Prod.mk.injEq] at h
    obtain ⟨rfl,rfl⟩:=h
    exact ⟨rfl,hs⟩
   ·cases h
  ·cases h
 ·cases h
theorem Z63 (I:Inv W0 M σ a w G xs) {o:Operand} {τ:Ty} {v:TVal} (h:σ.lookAs o τ=some v):Rp w G.F G.St G.Al v.τ v.tg (Z02 (a.eval o)) v.x []/\Z0f v.ag (a.eval o):=by
 unfold State.lookAs at h
 split at h
 ·rename_i hpk
  split at h
  ·cases h
   have hp:=Z0w I o
   rw [hpk] at hp
   obtain ⟨hv,_⟩:=hp (by simp)
   rw [hv]
   exact ⟨⟨.S,none,0,rfl,rfl,Nat.le_refl _,.inr (.inr ⟨rfl,rfl,.inl rfl⟩)⟩,rfl⟩
  ·cases h
 ·exact Z1r I h
theorem Z0x.less' {σ':State} {G':Ghost} (hct:∀ q,σ'.ct q=σ.ct q) (had:G'.ad=G.ad) {p:Place} {u:Value} (h:Z0x σ' G' a w p u):Z0x σ G a w p u:=
 h.sim (λq=>(hct q).symm) had.symm
end
end Go.PI
namespace Go.PI
section
variable {W0:Base} {M:Nat->Prop} {σ:State} {a:Act} {w w':World} {G:Ghost} {xs:List Nat} {P:Program}
variable {R:Type} {r:R}
theorem Z0s.up {G':Ghost} (hu:Up G G'):(ms:List Mode)->(ys:List Value)->(vs:List TVal)->(fs:List (List Nat))->(ls:List (Nat×Value))->Z0s w G ms ys vs fs ls->Z0s w G' ms ys vs fs ls
 | [],ys,vs,fs,ls,h=>by cases ys<;>cases vs<;>cases fs<;>cases ls<;>exact h
 | .borrow τ ag::ms,ys,vs,fs,ls,h=>by
  cases ys<;>cases vs<;>cases fs<;>first | exact h.elim | skip
  obtain ⟨h1,h2,h3,h4⟩:=h
  exact ⟨h1,h2,hu.lift h3,Z0s.up hu ms _ _ _ _ h4⟩
 | .consume τ ag::ms,ys,vs,fs,ls,h=>by
  cases ys<;>cases vs<;>cases fs<;>first | exact h.elim | skip
  obtain ⟨h2,h3,h4⟩:=h
  exact ⟨h2,hu.lift h3,Z0s.up hu ms _ _ _ _ h4⟩
 | .eat τ ag::ms,ys,vs,fs,ls,h=>by
  cases ys<;>cases vs<;>cases fs<;>first | exact h.elim | skip
  obtain ⟨h2,h3,h4⟩:=h
  exact ⟨h2,hu.lift h3,Z0s.up hu ms _ _ _ _ h4⟩
 | .inout τ ag::ms,ys,vs,fs,ls,h=>by cases ys<;>cases vs<;>cases fs<;>exact h.elim
 | .look τ ag::ms,ys,vs,fs,ls,h=>by cases ys<;>cases vs<;>cases fs<;>first | exact h.elim | (cases ls<;>exact h.elim)
 | .rptr τ::ms,ys,vs,fs,ls,h=>by cases ys<;>cases vs<;>cases fs<;>first | exact h.elim | (cases ls<;>exact h.elim)
 | .rclos g τs::ms,ys,vs,fs,ls,h=>by cases ys<;>cases vs<;>cases fs<;>first | exact h.elim | (cases ls<;>exact h.elim)
 | .ptr τ::ms,ys,vs,fs,ls,h=>by
  cases ys<;>cases ls<;>first | (cases vs<;>cases fs<;>exact h.elim) | skip
  rename_i y ys l ls
  have h':y=l.2/\Z0s w G ms ys vs fs ls:=by cases vs<;>cases fs<;>exact h
  have:=Z0s.up hu ms _ _ _ _ h'.2
  cases vs<;>cases fs<;>exact ⟨h'.1,this⟩
 | .clos g τs::ms,ys,vs,fs,ls,h=>by
  cases ys<;>first | (cases vs<;>cases fs<;>cases ls<;>exact h.elim) | skip
  rename_i y ys
  have h':(τs.length<=ls.length/\y= .func (.func g) #[] ((ls.take τs.length).map (·.2)).toArray)/\Z0s w G ms ys vs fs (ls.drop τs.length):=by cases vs<;>cases fs<;>cases ls<;>exact h
  have:=Z0s.up hu ms _ _ _ _ h'.2
  cases vs<;>cases fs<;>cases ls<;>exact ⟨h'.1,this⟩
def _root_.Go.PI.Mode.reads:Mode->Bool
 | .borrow .. => true
 | .clos .. => true
 | _=>false
theorem Z1K:(ms:List Mode)->(os:List Operand)->(σ:State)->(A:Args)->(k:Args->State->Option R)->(G:Ghost)->(xs:List Nat)->Z0n ms os σ A k=some r->Inv W0 M σ a w G xs ->
  ∃ (vs:List TVal) (fps:List (List Nat)) (ls:List (Nat×Value)) (A':Args) (σ':State) (G':Ghost),k A' σ'=some r/\A'.vals=A.vals++vs/\A'.lent=A.lent++ls.map (·.1) /\
   (A'.writes=false->A.writes=false/\fps.flatten=[]/\ls=[]/\ms.all Mode.reads=true)/\Inv W0 M σ' a w G' (fps.flatten++xs)/\Up G G'/\(∀ p,σ'.ct p=σ.ct p)/\σ'.slots.length=σ.slots.length/\Z0s w G' ms (os.map a.eval) vs fps ls /\
   ∀ q∈ls,Z0x σ G a w ⟨true,q.1,[]⟩ q.2
 | [],[],σ,A,k,G,xs,h,I=>⟨[],[],[],A,σ,G,h,by simp,by simp,λh=>⟨h,rfl,rfl,rfl⟩,by simpa using I,Up.refl _,λ_=>rfl,rfl,trivial,by simp⟩
 | [],_::_,σ,A,k,G,xs,h,I=>by simp [Z0n] at h
 | .borrow τ ag::ms,[],σ,A,k,G,xs,h,I=>by simp [Z0n] at h
 | .consume τ ag::ms,[],σ,A,k,G,xs,h,I=>by simp [Z0n] at h
 | .eat τ ag::ms,[],σ,A,k,G,xs,h,I=>by simp [Z0n] at h
 | .inout τ ag::ms,[],σ,A,k,G,xs,h,I=>by simp [Z0n] at h
 | .look τ ag::ms,[],σ,A,k,G,xs,h,I=>by simp [Z0n] at h
 | .rptr τ::ms,[],σ,A,k,G,xs,h,I=>by simp [Z0n] at h
 | .rclos g τs::ms,[],σ,A,k,G,xs,h,I=>by simp [Z0n] at h
 | .ptr τ::ms,[],σ,A,k,G,xs,h,I=>by simp [Z0n] at h
 | .clos g τs::ms,[],σ,A,k,G,xs,h,I=>by simp [Z0n] at h
 | .inout τ ag::ms,_::_,σ,A,k,G,xs,h,I=>by simp [Z0n] at h
 | .look τ ag::ms,_::_,σ,A,k,G,xs,h,I=>by simp [Z0n] at h
 | .rptr τ::ms,_::_,σ,A,k,G,xs,h,I=>by simp [Z0n] at h
 | .rclos g τs::ms,_::_,σ,A,k,G,xs,h,I=>by simp [Z0n] at h
 | .borrow τ ag::ms,o::os,σ,A,k,G,xs,h,I=>by
  simp only [Z0n] at h
  split at h
  ·rename_i t u hso
   split at h
   ·rename_i hc
    obtain ⟨rfl,hsl⟩:=Z7V hso
    obtain ⟨G1,I1,hu1,hct1,hsh,hR⟩:=Z7P I hsl
    obtain ⟨vs,fps,ls,A',σ',G',h1,h2,h3,h4,h5,h6,h7,h8,h9,h10⟩:=Z1K ms os _ _ k G1 xs h I1
    refine ⟨u.freeze::vs,[]::fps,ls,A',σ',G',h1,by simp [h2],h3,λhw=>by simpa [Mode.reads] using h4 hw,by simpa using h5,hu1.trans h6,λp=>(h7 p).trans (hct1 p),h8.trans (Z0G _ _ _),⟨rfl,?_,h6.lift hR,h9⟩,λq hq=>(h10 q hq).less' hct1 hu1.ad⟩
    rw [<-hc.2];exact hsh
   ·cases h
  ·split at h
   ·rename_i v hl
    split at h
    ·rename_i hc
     obtain ⟨hR,hsh⟩:=Z63 I hl
     obtain ⟨vs,fps,ls,A',σ',G',h1,h2,h3,h4,h5,h6,h7,h8,h9,h10⟩:=Z1K ms os _ _ k G xs h I
     refine ⟨v::vs,[]::fps,ls,A',σ',G',h1,by simp [h2],h3,λhw=>by simpa [Mode.reads] using h4 hw,by simpa using h5,h6,h7,h8,⟨rfl,?_,h6.lift hR,h9⟩,h10⟩
     rw [<-hc.2];exact hsh
    ·cases h
   ·cases h
 | .consume τ ag::ms,o::os,σ,A,k,G,xs,h,I=>by
  simp only [Z0n] at h
  split at h
  ·rename_i v σ1 htk
   split at h
   ·rename_i hc
    simp only [Bool.and_eq_true,beq_iff_eq] at hc
    obtain ⟨fp,G1,I1,hs1,_,hR,hsh⟩:=Z10 I htk
    obtain ⟨vs,fps,ls,A',σ',G',h1,h2,h3,h4,h5,h6,h7,h8,h9,h10⟩:=Z1K ms os _ _ k G1 _ h I1
    refine ⟨v::vs,fp::fps,ls,A',σ',G',h1,by simp [h2],h3,λhw=>(by have:=(h4 hw).1;cases this),?_,hs1.up.trans h6,λp=>(h7 p).trans (Z2B htk p),?_,⟨?_,h6.lift hR,h9⟩,λq hq=>(h10 q hq).less' (Z2B htk) hs1.ad⟩
    ·refine h5.perm (List.perm_iff_count.2 λz=> ?_)
     simp only [List.flatten_cons,List.count_append]
     omega
    ·rw [h8,<-I1.len,I.len]
    ·rw [<-hc.2];exact hsh
   ·cases h
  ·cases h
 | .eat τ ag::ms,o::os,σ,A,k,G,xs,h,I=>by
  simp only [Z0n] at h
  split at h
  ·rename_i v σ1 htk
   split at h
   ·rename_i hc
    simp only [Bool.and_eq_true,beq_iff_eq] at hc
    obtain ⟨fp,G1,I1,hs1,_,hR,hsh⟩:=Z10 I htk
    obtain ⟨vs,fps,ls,A',σ',G',h1,h2,h3,h4,h5,h6,h7,h8,h9,h10⟩:=Z1K ms os _ _ k G1 _ h I1
    refine ⟨v::vs,fp::fps,ls,A',σ',G',h1,by simp [h2],h3,λhw=>(by have:=(h4 hw).1;cases this),?_,hs1.up.trans h6,λp=>(h7 p).trans (Z2B htk p),?_,⟨?_,h6.lift hR,h9⟩,λq hq=>(h10 q hq).less' (Z2B htk) hs1.ad⟩
    ·refine h5.perm (List.perm_iff_count.2 λz=> ?_)
     simp only [List.flatten_cons,List.count_append]
     omega
    ·rw [h8,<-I1.len,I.len]
    ·rw [<-hc.2];exact hsh
   ·cases h
  ·cases h
 | .ptr τ::ms,o::os,σ,A,k,G,xs,h,I=>by
  simp only [Z0n] at h
  split at h
  ·rename_i p hpk
   split at h
   ·rename_i hw
    have hp:=Z0w I o
    rw [hpk] at hp
    obtain ⟨_,_,_,hpr⟩:=hp (by simp)
    obtain ⟨bx,root,path⟩:=p
    simp only [Place.whole,Bool.and_eq_true,List.isEmpty_iff] at hw
    obtain ⟨rfl,rfl⟩:=hw
    obtain ⟨vs,fps,ls,A',σ',G',h1,h2,h3,h4,h5,h6,h7,h8,h9,h10⟩:=Z1K ms os _ _ k G xs h I
    refine ⟨vs,fps,(root,a.eval o)::ls,A',σ',G',h1,h2,by simp [h3],λhw=>(by have:=(h4 hw).1;cases this),h5,h6,h7,h8,?_,λq hq=> ?_⟩
    ·have:a.eval o=(root,a.eval o).2/\Z0s w G' ms (os.map a.eval) vs fps ls:=⟨rfl,h9⟩
     cases vs<;>cases fps<;>exact this
    ·rcases List.mem_cons.1 hq with rfl | hq
     ·exact hpr
     ·exact h10 q hq
   ·cases h
  ·cases h
 | .clos g τs::ms,o::os,σ,A,k,G,xs,h,I=>by
  simp only [Z0n] at h
  split at h
  ·rename_i g' ps hpk
   split at h
   ·rename_i hw
    simp only [Bool.and_eq_true,beq_iff_eq,List.all_eq_true] at hw
    obtain ⟨⟨rfl,hlen⟩,hwh⟩:=hw
    have hp:=Z0w I o
    rw [hpk] at hp
    obtain ⟨_,us,hv,husz,hus⟩:=hp (by simp)
    obtain ⟨vs,fps,ls,A',σ',G',h1,h2,h3,h4,h5,h6,h7,h8,h9,h10⟩:=Z1K ms os _ _ k G xs h I
    let l0:List (Nat×Value):=(ps.map (·.root)).zip us.toList
    have hl0:l0.length=τs.length:=by simp [l0,husz,hlen]
    have hl1:l0.map (·.1)=ps.map (·.root):=by
     simp only [l0]
     rw [List.map_fst_zip (by simp [husz])]
    have hl2:l0.map (·.2)=us.toList:=by
     simp only [l0]
     rw [List.map_snd_zip (by simp [husz])]
    refine ⟨vs,fps,l0++ls,A',σ',G',h1,h2,by simp only [h3,List.map_append,hl1,List.append_assoc],λhw=> ?_,h5,h6,h7,h8,?_,λq hq=> ?_⟩
    ·obtain ⟨q1,q2,q3,q4⟩:=h4 hw
     simp only [Bool.or_eq_false_iff,Bool.not_eq_false',List.isEmpty_iff] at q1
     refine ⟨q1.1,q2,?_,by simp only [List.all_cons,Mode.reads,Bool.true_and];exact q4⟩
     rw [q3,List.append_nil]
     simp [l0,q1.2]
    ·have hx:(τs.length<=(l0++ls).length/\a.eval o= .func (.func g') #[] (((l0++ls).take τs.length).map (·.2)).toArray)/\Z0s w G' ms (os.map a.eval) vs fps ((l0++ls).drop τs.length):=by
      rw [<-hl0,List.take_left',List.drop_left']
      ·exact ⟨⟨by simp,by rw [hl2,hv]⟩,h9⟩
      ·rfl
      ·rfl
     generalize l0++ls=L at hx
     cases vs<;>cases fps<;>cases L<;>exact hx
    ·rcases List.mem_append.1 hq with hq | hq
     ·obtain ⟨i,hi,rfl⟩:=List.mem_iff_getElem.1 hq
      have hips:i<ps.length:=by rw [hlen,<-hl0];exact hi
      obtain ⟨q1,q2,q3⟩:=hus i hips
      have hw:=hwh ps[i] (List.getElem_mem _)
      simp only [Place.whole,Bool.and_eq_true,List.isEmpty_iff] at hw
      have hq1:l0[i].1=ps[i].root:=by simp [l0]
      have hq2:l0[i].2=us.getD i undef:=by
       have:i<us.size:=by rw [husz];exact hips
       simp [l0,this]
      rw [hq1,hq2]
      have:ps[i]=⟨true,ps[i].root,[]⟩:=by
       have e1:=hw.1
       have e2:=hw.2
       cases hpi:ps[i] with
       | mk b r p=>rw [hpi] at e1 e2;simp only at e1 e2;subst e1;subst e2;rfl
      rw [this] at q3
      exact q3
     ·exact h10 q hq
   ·cases h
  ·cases h
end
end Go.PI
namespace Go.PI
section
variable {W0:Base} {M:Nat->Prop} {σ:State} {a:Act} {w w':World} {G:Ghost} {xs:List Nat} {P:Program}
def Z2P (G:Ghost) (ls:List (Nat×Value)):Prop:=∀ q∈ls,q.2= .pointer (some ⟨G.ad q.1,0,none⟩)
theorem Z7i {ls:List (Nat×Value)} (h:Z2P G ls):ls.map (·.2)=(ls.map λq=>G.ad q.1).map λl=>Value.pointer (some ⟨l,0,none⟩):=by
 rw [List.map_map]
 exact List.map_congr_left λq hq=>h q hq
theorem Z2s (I:Inv W0 M σ a w G xs):(ms:List Mode)->(ys:List Value)->(vs:List TVal)->(fs:List (List Nat))->(ls:List (Nat×Value))->Z0s w G ms ys vs fs ls->(∀ v∈vs,v.noN=true)->Z2P G ls ->
  Z0u w G.F G.St ms vs ys fs (ls.map λq=>G.ad q.1)
 | [],ys,vs,fs,ls,h,_,_=>by cases ys<;>cases vs<;>cases fs<;>cases ls<;>first | trivial | exact h.elim
 | .borrow τ ag::ms,ys,vs,fs,ls,h,hn,hl=>by
  cases ys<;>cases vs<;>cases fs<;>first | exact h.elim | skip
  rename_i y ys v vs f fs
  obtain ⟨h1,h2,h3,h4⟩:=h
  refine ⟨h1,h2,?_,Z2s I ms _ _ _ _ h4 (λu hu=>hn u (List.mem_cons_of_mem _ hu)) hl⟩
  exact (h3.narrow (Al':=G.St) (TVal.noN_iff.1 (hn v (by simp))) (by simp)).toS (λ_ h=>h) (λ_ h=>h)
 | .consume τ ag::ms,ys,vs,fs,ls,h,hn,hl=>by
  cases ys<;>cases vs<;>cases fs<;>first | exact h.elim | skip
  rename_i y ys v vs f fs
  obtain ⟨h2,h3,h4⟩:=h
  exact ⟨h2,h3.narrow (TVal.noN_iff.1 (hn v (by simp))) λb hb=>hb,Z2s I ms _ _ _ _ h4 (λu hu=>hn u (List.mem_cons_of_mem _ hu)) hl⟩
 | .eat τ ag::ms,ys,vs,fs,ls,h,hn,hl=>by
  cases ys<;>cases vs<;>cases fs<;>first | exact h.elim | skip
  rename_i y ys v vs f fs
  obtain ⟨h2,h3,h4⟩:=h
  exact ⟨h2,h3.narrow (TVal.noN_iff.1 (hn v (by simp))) λb hb=>hb,Z2s I ms _ _ _ _ h4 (λu hu=>hn u (List.mem_cons_of_mem _ hu)) hl⟩
 | .inout τ ag::ms,ys,vs,fs,ls,h,_,_=>by cases ys<;>cases vs<;>cases fs<;>exact h.elim
 | .look τ ag::ms,ys,vs,fs,ls,h,_,_=>by cases ys<;>cases vs<;>cases fs<;>first | exact h.elim | (cases ls<;>exact h.elim)
 | .rptr τ::ms,ys,vs,fs,ls,h,_,_=>by cases ys<;>cases vs<;>cases fs<;>first | exact h.elim | (cases ls<;>exact h.elim)
 | .rclos g τs::ms,ys,vs,fs,ls,h,_,_=>by cases ys<;>cases vs<;>cases fs<;>first | exact h.elim | (cases ls<;>exact h.elim)
 | .ptr τ::ms,ys,vs,fs,ls,h,hn,hl=>by
  cases ys<;>cases ls<;>first | (cases vs<;>cases fs<;>exact h.elim) | skip
  rename_i y ys l ls
  have h':y=l.2/\Z0s w G ms ys vs fs ls:=by cases vs<;>cases fs<;>exact h
  have h2:=Z2s I ms _ _ _ _ h'.2 hn (λq hq=>hl q (List.mem_cons_of_mem _ hq))
  have h1:y= .pointer (some ⟨G.ad l.1,0,none⟩):=h'.1.trans (hl l (by simp))
  cases vs<;>cases fs<;>exact ⟨h1,h2⟩
 | .clos g τs::ms,ys,vs,fs,ls,h,hn,hl=>by
  cases ys<;>first | (cases vs<;>cases fs<;>cases ls<;>exact h.elim) | skip
  rename_i y ys
  have h':(τs.length<=ls.length/\y= .func (.func g) #[] ((ls.take τs.length).map (·.2)).toArray)/\Z0s w G ms ys vs fs (ls.drop τs.length):=by cases vs<;>cases fs<;>cases ls<;>exact h
  obtain ⟨⟨q1,q2⟩,q3⟩:=h'
  have h2:=Z2s I ms _ _ _ _ q3 hn (λq hq=>hl q (List.mem_of_mem_drop hq))
  rw [Z7i (λq hq=>hl q (List.mem_of_mem_take hq)),List.map_take] at q2
  have hx:(τs.length<=(ls.map λq=>G.ad q.1).length/\y= .func (.func g) #[] (((ls.map λq=>G.ad q.1).take τs.length).map λl=>Value.pointer (some ⟨l,0,none⟩)).toArray)/\Z0u w G.F G.St ms vs ys fs ((ls.map λq=>G.ad q.1).drop τs.length):=by
   refine ⟨⟨by simpa using q1,q2⟩,?_⟩
   rw [<-List.map_drop];exact h2
  generalize (ls.map λq=>G.ad q.1)=L at hx
  cases vs<;>cases fs<;>cases L<;>exact hx
theorem Z4t (I:Inv W0 M σ a w G xs):(ms:List Mode)->(ys:List Value)->(vs:List TVal)->(fs:List (List Nat))->(ls:List (Nat×Value))->Z0s w G ms ys vs fs ls->ms.all Mode.reads=true->Z2P G ls ->
  Z0u w G.F G.Al ms vs ys fs (ls.map λq=>G.ad q.1)
 | [],ys,vs,fs,ls,h,_,_=>by cases ys<;>cases vs<;>cases fs<;>cases ls<;>first | trivial | exact h.elim
 | .borrow τ ag::ms,ys,vs,fs,ls,h,hr,hl=>by
  cases ys<;>cases vs<;>cases fs<;>first | exact h.elim | skip
  rename_i y ys v vs f fs
  obtain ⟨h1,h2,h3,h4⟩:=h
  exact ⟨h1,h2,h3.toS (λ_ h=>h) (Ghost.St_Al I),Z4t I ms _ _ _ _ h4 (by simpa [Mode.reads] using hr) hl⟩
 | .consume τ ag::ms,ys,vs,fs,ls,h,hr,hl=>by simp [Mode.reads] at hr
 | .eat τ ag::ms,ys,vs,fs,ls,h,hr,hl=>by simp [Mode.reads] at hr
 | .inout τ ag::ms,ys,vs,fs,ls,h,hr,_=>by simp [Mode.reads] at hr
 | .look τ ag::ms,ys,vs,fs,ls,h,hr,_=>by simp [Mode.reads] at hr
 | .rptr τ::ms,ys,vs,fs,ls,h,hr,_=>by simp [Mode.reads] at hr
 | .rclos g τs::ms,ys,vs,fs,ls,h,hr,_=>by simp [Mode.reads] at hr
 | .ptr τ::ms,ys,vs,fs,ls,h,hr,hl=>by simp [Mode.reads] at hr
 | .clos g τs::ms,ys,vs,fs,ls,h,hr,hl=>by
  cases ys<;>first | (cases vs<;>cases fs<;>cases ls<;>exact h.elim) | skip
  rename_i y ys
  have h':(τs.length<=ls.length/\y= .func (.func g) #[] ((ls.take τs.length).map (·.2)).toArray)/\Z0s w G ms ys vs fs (ls.drop τs.length):=by cases vs<;>cases fs<;>cases ls<;>exact h
  obtain ⟨⟨q1,q2⟩,q3⟩:=h'
  have h2:=Z4t I ms _ _ _ _ q3 (by simpa [Mode.reads] using hr) (λq hq=>hl q (List.mem_of_mem_drop hq))
  rw [Z7i (λq hq=>hl q (List.mem_of_mem_take hq)),List.map_take] at q2
  have hx:(τs.length<=(ls.map λq=>G.ad q.1).length/\y= .func (.func g) #[] (((ls.map λq=>G.ad q.1).take τs.length).map λl=>Value.pointer (some ⟨l,0,none⟩)).toArray)/\Z0u w G.F G.Al ms vs ys fs ((ls.map λq=>G.ad q.1).drop τs.length):=by
   refine ⟨⟨by simpa using q1,q2⟩,?_⟩
   rw [<-List.map_drop];exact h2
  generalize (ls.map λq=>G.ad q.1)=L at hx
  cases vs<;>cases fs<;>cases L<;>exact hx
end
end Go.PI
namespace Go.PI
section
variable {W0:Base} {M:Nat->Prop} {σ:State} {a:Act} {w w':World} {G:Ghost} {P:Program}
theorem Z3s {gs ads R ks:List Nat} (I:Inv W0 M σ a w G (gs++ks)) (hads:∀ b∈ads,∃ i,G.who b=some (.a i)/\σ.boxAt i=none) (hN:σ.noN\/gs++ads=[])
  {Sc St':Nat->Prop} {F':Nat->Nat} (hc1:∀ b,G.St b->Sc b) (hc2:∀ b,Sc b->G.Al b)
  (hE:Ext (·∈ gs++ads) w w') (hF:∀ b,b<w.heap.size->b ∉ gs++ads->F' b=G.F b) (hS1:∀ b,Sc b->St' b) (hS2:∀ b,St' b->(Sc b\/w.heap.size<=b\/b∈gs++ads)/\b<w'.heap.size)
  (hnd:(R++ads).Nodup) (hR:∀ b∈R++ads,(w.heap.size<=b\/b∈gs++ads)/\b<w'.heap.size/\¬ St' b) :
  ∃ G',Inv W0 M σ a w' G' (R++ks)/\G'.F=F'/\G'.ad=G.ad/\(∀ b,G.St b->G'.St b)/\(∀ b,St' b->G'.Al b)/\((∀ b,Sc b->G.St b)->∀ b,St' b->G'.St b)/\(∀ b∈R,G'.Al b)/\(∀ b∈ads,G'.who b=G.who b)/\(gs++ads=[]->Calmer w G w' G')/\(ads=[]->Z5l w G w' G')/\(∀ b,b<w.heap.size->G.Al b->G'.Al b)/\∀ b z,G.who b=some z->z≠ .x->G'.who b=some z:=by
 classical
 let New:Nat->Prop:=λb=>w.heap.size<=b\/b∈gs
 let G':Ghost:={ F:=F',St:=λb=>G.St b\/(New b/\St' b),who:=λb=>if b∈R then some .x else if b∈gs then (if St' b then none else some .x) else if w.heap.size<=b then none else G.who b,fs:=G.fs,fb:=G.fb,ad:=G.ad }
 have hgx:∀ b∈gs,G.who b=some .x:=λb hb=>I.whoX b (List.mem_append_left _ hb)
 have hkx:∀ b∈ks,G.who b=some .x:=λb hb=>I.whoX b (List.mem_append_right _ hb)
 have hkg:∀ b∈ks,b ∉ gs:=λb hb hg=>(List.nodup_append.1 I.nodX).2.2 b hg b hb rfl
 have hwlt:∀ b z,G.who b=some z->b<w.heap.size:=λb z h=>(I.lt b z h).1
 have hdis:∀ b∈ads,b ∉ R:=λb hb hr=>(List.nodup_append.1 hnd).2.2 b hr b hb rfl
 have hadg:∀ b∈ads,b ∉ gs:=λb hb hg=>by
  obtain ⟨i,h,_⟩:=hads b hb
  rw [hgx b hg] at h;cases h
 have hmem:∀ b,b∈gs++ads↔b∈gs\/b∈ads:=λb=>List.mem_append
 have hwx:∀ b z,G.who b=some z->z≠ .x->b ∉ gs:=λb z h hz hg=>by rw [hgx b hg] at h;cases h;exact hz rfl
 have hkeepw:∀ b z,G.who b=some z->z≠ .x->G'.who b=some z:=by
  intro b z h hz
  have h1:=hwx b z h hz
  have h2:=hwlt b z h
  have h3:b ∉ R:=by
   intro hr
   rcases (hR b (List.mem_append_left _ hr)).1 with h4 | h4
   ·omega
   ·rcases (hmem b).1 h4 with h5 | h5
    ·exact h1 h5
    ·exact hdis b h5 hr
  show (if b∈R then some .x else if b∈gs then (if St' b then none else some .x) else if w.heap.size<=b then none else G.who b)=some z
  rw [if_neg h3,if_neg h1,if_neg (by omega)];exact h
 have hnone:∀ b,G.who b=none->b<w.heap.size->G'.who b=none:=by
  intro b h hlt
  have h1:b ∉ gs:=λhg=>by rw [hgx b hg] at h;cases h
  have h3:b ∉ R:=by
   intro hr
   rcases (hR b (List.mem_append_left _ hr)).1 with h4 | h4
   ·omega
   ·rcases (hmem b).1 h4 with h5 | h5
    ·exact h1 h5
    ·exact hdis b h5 hr
  show (if b∈R then some .x else if b∈gs then (if St' b then none else some .x) else if w.heap.size<=b then none else G.who b)=none
  rw [if_neg h3,if_neg h1,if_neg (by omega)];exact h
 have hRx:∀ b∈R,G'.who b=some .x:=λb hb=>if_pos hb
 have hw:∀ b,G'.who b=(if b∈R then some .x else if b∈gs then (if St' b then none else some .x) else if w.heap.size<=b then none else G.who b):=λ_=>rfl
 have hgw:∀ b∈gs,G'.who b=some .x\/(G'.who b=none/\St' b):=by
  intro b hb
  by_cases hr:b∈R
  ·exact .inl (hRx b hr)
  ·by_cases hs:St' b
   ·exact .inr ⟨by rw [hw,if_neg hr,if_pos hb,if_pos hs],hs⟩
   ·exact .inl (by rw [hw,if_neg hr,if_pos hb,if_neg hs])
 have hnotR:∀ b,St' b->b ∉ R:=λb hb hr=>(hR b (List.mem_append_left _ hr)).2.2 hb
 have hstn:∀ b,New b->St' b->G'.who b=none:=by
  intro b hn hs
  by_cases hg:b∈gs
  ·rw [hw,if_neg (hnotR b hs),if_pos hg,if_pos hs]
  ·rcases hn with h | h
   ·rw [hw,if_neg (hnotR b hs),if_neg hg,if_pos h]
   ·exact absurd h hg
 have hAl:∀ b,b<w.heap.size->G.Al b->G'.Al b:=by
  intro b hlt hb
  cases hz:G.who b with
  | none=>exact ⟨λi h=>(by rw [hnone b hz hlt] at h;cases h),λ_=> .inl (hb.2 hz)⟩
  | some z=>
   by_cases hzx:z= .x
   ·subst hzx
    by_cases hg:b∈gs
    ·rcases hgw b hg with h | ⟨h,hs⟩
     ·exact ⟨λi h'=>(by rw [h] at h';cases h'),λh'=>(by rw [h] at h';cases h')⟩
     ·exact ⟨λi h'=>(by rw [h] at h';cases h'),λ_=> .inr ⟨.inr hg,hs⟩⟩
    ·have:G'.who b=some .x:=by
      by_cases hr:b∈R
      ·exact hRx b hr
      ·rw [hw,if_neg hr,if_neg hg,if_neg (by omega)];exact hz
     exact ⟨λi h'=>(by rw [this] at h';cases h'),λh'=>(by rw [this] at h';cases h')⟩
   ·have:=hkeepw b z hz hzx
    exact ⟨λi h'=>(by rw [this] at h';cases h';exact hb.1 i hz),λh'=>(by rw [this] at h';cases h')⟩
 have hkb:∀ b,b<w.heap.size->b ∉ gs++ads->Z07 w G.F w' F' b/\F' b=G.F b:=λb hb hm=>
  ⟨Z07.of_block (hE.block b hb hm) (by rw [hF b hb hm];exact Nat.le_refl _),hF b hb hm⟩
 have hStm:∀ b,G.St b->b ∉ gs++ads:=by
  intro b hb hm
  rcases (hmem b).1 hm with h | h
  ·have:=(I.st b hb).1;rw [hgx b h] at this;cases this
  ·obtain ⟨i,h1,_⟩:=hads b h;have:=(I.st b hb).1;rw [h1] at this;cases this
 have hAlm:gs++ads=[]->∀ b,b<w.heap.size->Z07 w G.F w' F' b:=λh0 b hb=>(hkb b hb (by rw [h0];simp)).1
 have hboxm:∀ i v,σ.boxAt i=some v->G.ad i ∉ gs++ads:=by
  intro i v hv hm
  have h1:=(I.box i v hv).2
  rcases (hmem _).1 hm with h | h
  ·rw [hgx _ h] at h1;cases h1
  ·obtain ⟨j,h2,h3⟩:=hads _ h
   rw [h1] at h2;cases h2
   rw [hv] at h3;cases h3
 have hS:Same σ w G w' G':=⟨rfl,rfl,rfl,hkeepw,hAl,λb h=> .inl h,λb h=>(hkb b (I.st b h).2 (hStm b h)).1,λb z h h1 h2=>hkb b (hwlt b z h) (λhm=>by
   rcases (hmem b).1 hm with h3 | h3
   ·exact hwx b z h h2 h3
   ·obtain ⟨i,h4,_⟩:=hads b h3;rw [h] at h4;cases h4;exact h1 i rfl),λi v h=>hE.block _ (hwlt _ _ (I.box i v h).2) (hboxm i v h),hN.imp id λh0 b hb _=>hAlm h0 b hb⟩
 have hkR:∀ b∈ks,b ∉ R:=by
  intro b hb hr
  have hlt:=hwlt b _ (hkx b hb)
  rcases (hR b (List.mem_append_left _ hr)).1 with h4 | h4
  ·omega
  ·rcases (hmem b).1 h4 with h5 | h5
   ·exact hkg b hb h5
   ·exact hdis b h5 hr
 have hkw:∀ b∈ks,G'.who b=some .x:=λb hb=>by
  rw [hw,if_neg (hkR b hb),if_neg (hkg b hb),if_neg (by have:=hwlt b _ (hkx b hb);omega)]
  exact hkx b hb
 refine ⟨G',?_,rfl,rfl,λb h=> .inl h,λb hb=> ?_,λhsc b hb=> ?_,λb hb=>⟨λi h=>(by rw [hRx b hb] at h;cases h),λh=>(by rw [hRx b hb] at h;cases h)⟩,λb hb=> ?_,λh0=>⟨λw2 hcalm=> ?_,λw2 hcalm i b hb=> ?_⟩,λh0 w2 hcalm i b hb=> ?_,hAl,hkeepw⟩
 ·refine I.world hS (λb hb=> ?_) (λb z hb=> ?_) ?_ (λb hb=>by
   rcases List.mem_append.1 hb with hb | hb
   ·exact hRx b hb
   ·exact hkw b hb) (List.nodup_append.2 ⟨(List.nodup_append.1 hnd).1,(List.nodup_append.1 I.nodX).2.1,λx hx y hy hxy=>by subst hxy;exact hkR x hy hx⟩) ⟨λb hb hM=> ?_,λb hb=> .inl (I.org.St b hb),λb hb=> ?_⟩
  ·rcases hb with hb | ⟨hn,hs⟩
   ·exact ⟨hnone b (I.st b hb).1 (I.st b hb).2,by have:=(I.st b hb).2;have:=hE.size;omega⟩
   ·exact ⟨hstn b hn hs,(hS2 b hs).2⟩
  ·by_cases hr:b∈R
   ·obtain ⟨h1,h2,_⟩:=hR b (List.mem_append_left _ hr)
    refine ⟨h2,?_⟩
    rcases h1 with h1 | h1
    ·exact .inl (by have:=I.ext.size;omega)
    ·rcases (hmem b).1 h1 with h | h
     ·exact (I.lt b _ (hgx b h)).2
     ·obtain ⟨i,h4,_⟩:=hads b h;exact (I.lt b _ h4).2
   ·by_cases hg:b∈gs
    ·have:=I.lt b _ (hgx b hg)
     exact ⟨by have:=hE.size;omega,this.2⟩
    ·have hb':(if w.heap.size<=b then none else G.who b)=some z:=by
      have h5:G'.who b=(if w.heap.size<=b then none else G.who b):=by
       show (if b∈R then some .x else if b∈gs then (if St' b then none else some .x) else if w.heap.size<=b then none else G.who b)=_
       rw [if_neg hr,if_neg hg]
      rw [<-h5];exact hb
     split at hb'
     ·cases hb'
     ·have:=I.lt b z hb'
      exact ⟨by have:=hE.size;omega,this.2⟩
  ·refine ⟨hE.os.trans I.ext.os,hE.tape.trans I.ext.tape,hE.output.trans I.ext.output,by have:=I.ext.size;have:=hE.size;omega,λb hb hM=> ?_⟩
   rw [hE.block b (by have:=I.ext.size;omega) (λhm=> ?_)]
   ·exact I.ext.block b hb hM
   ·have hz:∃ z,G.who b=some z:=by
     rcases (hmem b).1 hm with h | h
     ·exact ⟨_,hgx b h⟩
     ·obtain ⟨i,h4,_⟩:=hads b h;exact ⟨_,h4⟩
    obtain ⟨z,hz⟩:=hz
    rcases (I.lt b z hz).2 with h | h
    ·omega
    ·exact hM h
  ·have hbw:b<w.heap.size:=by have:=I.ext.size;omega
   show F' b=_
   rw [hF b hbw (λhm=> ?_)]
   ·exact I.org.F b hb hM
   ·have hz:∃ z,G.who b=some z:=by
     rcases (hmem b).1 hm with h | h
     ·exact ⟨_,hgx b h⟩
     ·obtain ⟨i,h4,_⟩:=hads b h;exact ⟨_,h4⟩
    obtain ⟨z,hz⟩:=hz
    rcases (I.lt b z hz).2 with h | h
    ·omega
    ·exact hM h
  ·rcases hb with hb | ⟨hn,_⟩
   ·exact I.org.St' b hb
   ·rcases hn with h | h
    ·exact .inr (.inl (by have:=I.ext.size;omega))
    ·exact .inr (I.lt b _ (hgx b h)).2
 ·obtain ⟨h1,h2⟩:=hS2 b hb
  by_cases hn:New b
  ·exact ⟨λi h=>(by rw [hstn b hn hb] at h;cases h),λ_=> .inr ⟨hn,hb⟩⟩
  ·have hlt:b<w.heap.size:=by
    rcases Nat.lt_or_ge b w.heap.size with h | h
    ·exact h
    ·exact absurd (.inl h) hn
   rcases h1 with h1 | h1 | h1
   ·exact hAl b hlt (hc2 b h1)
   ·exact absurd (.inl h1) hn
   ·rcases (hmem b).1 h1 with h | h
    ·exact absurd (.inr h) hn
    ·exact absurd hb (hR b (List.mem_append_right _ h)).2.2
 ·obtain ⟨h1,h2⟩:=hS2 b hb
  rcases h1 with h1 | h1 | h1
  ·exact .inl (hsc b h1)
  ·exact .inr ⟨.inl h1,hb⟩
  ·rcases (hmem b).1 h1 with h | h
   ·exact .inr ⟨.inr h,hb⟩
   ·exact absurd hb (hR b (List.mem_append_right _ h)).2.2
 ·obtain ⟨i,h4,_⟩:=hads b hb
  rw [hkeepw b _ h4 (by simp),h4]
 ·refine ⟨λb hb ha o n cs hn h1=> ?_,λi b hb=> ?_⟩
  ·have hk:=hAlm h0 b hb
   exact hcalm.1 b (by have:=hE.size;omega) (hAl b hb ha) o n cs (Nat.le_trans hn hk.1) (hk.2.1 o n cs hn h1)
  ·rw [hcalm.2 i b (hkeepw b _ hb (by simp))]
   exact hE.block b (hwlt b _ hb) (by rw [h0];simp)
 ·rw [hcalm i b (hkeepw b _ hb (by simp))]
  exact hE.block b (hwlt b _ hb) (by rw [h0];simp)
 ·rw [hcalm i b (hkeepw b _ hb (by simp))]
  exact hE.block b (hwlt b _ hb) (by rw [h0,List.append_nil];exact hwx b _ hb (by simp))
end
end Go.PI
namespace Go.PI
noncomputable def State.lend (σ:State):List Nat->State
 | []=>σ
 | r::rs=>((σ.loosen true r).putBox r none).lend rs
theorem Z52:(rs:List Nat)->(σ:State)->(i:Nat)->(σ.lend rs).slot i=σ.slot i\/(σ.lend rs).slot i= .dead
 | [],σ,i=> .inl rfl
 | r::rs,σ,i=>by
  have h1:=Z52 rs ((σ.loosen true r).putBox r none) i
  have h2:((σ.loosen true r).putBox r none).slot i=σ.slot i\/((σ.loosen true r).putBox r none).slot i= .dead:=by
   rw [Z1G,Z0i];exact TV.loosen_or _ _ _
  rcases h1 with h1 | h1
  ·rcases h2 with h2 | h2
   ·exact .inl (h1.trans h2)
   ·exact .inr (h1.trans h2)
  ·exact .inr h1
theorem Z7f:(rs:List Nat)->(σ:State)->(σ.lend rs).slots.length=σ.slots.length/\(σ.lend rs).boxes.length=σ.boxes.length
 | [],σ=>⟨rfl,rfl⟩
 | r::rs,σ=>by
  have:=Z7f rs ((σ.loosen true r).putBox r none)
  refine ⟨this.1.trans ?_,this.2.trans ?_⟩
  ·simp [State.putBox,State.loosen,Z0b]
  ·simp [State.putBox,State.loosen,Z0b,Z0G]
theorem Z4i:(rs:List Nat)->(σ:State)->(i:Nat)->i ∉ rs->(σ.lend rs).boxAt i=σ.boxAt i
 | [],σ,i,h=>rfl
 | r::rs,σ,i,h=>by
  simp only [List.mem_cons,not_or] at h
  have h1:=Z4i rs ((σ.loosen true r).putBox r none) i h.2
  refine h1.trans ?_
  rw [Z0E,if_neg (by rintro ⟨h2,_⟩;exact h.1 h2.symm)]
  rfl
theorem Z3n:(rs:List Nat)->(σ:State)->(i:Nat)->i∈rs\/σ.boxAt i=none->(σ.lend rs).boxAt i=none
 | [],σ,i,h=>by
  rcases h with h | h
  ·cases h
  ·exact h
 | r::rs,σ,i,h=>by
  refine Z3n rs ((σ.loosen true r).putBox r none) i ?_
  by_cases hr:i=r
  ·right
   subst hr
   rw [Z0E]
   split
   ·rfl
   ·rename_i hc
    have:¬ i<σ.boxes.length:=λhh=>hc ⟨rfl,by simpa [State.loosen,Z0b] using hh⟩
    exact Z2g _ _ (by simpa [State.loosen,Z0b] using Nat.le_of_not_lt this)
  ·rcases h with h | h
   ·left
    rcases List.mem_cons.1 h with h | h
    ·exact absurd h hr
    ·exact h
   ·right
    rw [Z0E,if_neg (by rintro ⟨h2,_⟩;exact hr h2.symm)]
    exact h
section
variable {W0:Base} {M:Nat->Prop} {a:Act} {w:World}
theorem Z7g:(rs:List Nat)->(σ:State)->(G:Ghost)->(xs:List Nat)->(ext:List TVal)->rs.Nodup->σ.boxesAt rs=some ext->Inv W0 M σ a w G xs ->
  ∃ (efps:List (List Nat)) (G':Ghost),Inv W0 M (σ.lend rs) a w G' (efps.flatten++xs)/\Sim G G'/\efps.length=rs.length /\
   ∀ (j:Nat) (v:TVal),ext[j]? = some v->(∃ c T,w.heap[G.ad (rs.getD j 0)]? = some (.cells c T (0,0))/\Rp w G.F G.St G.Al v.τ v.tg c.toList v.x (efps.getD j []))/\G.who (G.ad (rs.getD j 0))=some (.a (rs.getD j 0)) /\
    ∀ i,i<σ.slots.length->Z1u (rs.getD j 0) ((σ.lend rs).slot i) (a.tmps.getD i undef) (Z2m (G.ad (rs.getD j 0)) v.τ)
 | [],σ,G,xs,ext,hn,h,I=>by
  simp only [State.boxesAt,Option.some.injEq] at h
  subst h
  exact ⟨[],G,I,Sim.refl _,rfl,λj v hj=>by simp at hj⟩
 | r::rs,σ,G,xs,ext,hn,h,I=>by
  simp only [State.boxesAt] at h
  split at h
  ·rename_i v l hv hl
   cases h
   obtain ⟨hr,hn'⟩:=List.nodup_cons.1 hn
   obtain ⟨G1,I1,hs1,hw,hblk,hptr⟩:=I.takeBox hv
   have hl1:((σ.loosen true r).putBox r none).boxesAt rs=some l:=by
    have:∀ (rs:List Nat) (l:List TVal),r ∉ rs->σ.boxesAt rs=some l->((σ.loosen true r).putBox r none).boxesAt rs=some l:=by
     intro rs
     induction rs with
     | nil=>intro l _ h;exact h
     | cons q rs ih=>
      intro l hq h
      simp only [List.mem_cons,not_or] at hq
      simp only [State.boxesAt] at h ⊢
      rw [Z0E,if_neg (by rintro ⟨h2,_⟩;exact hq.1 h2)]
      split at h
      ·rename_i u l' hu hl'
       cases h
       rw [ih l' hq.2 hl']
       have:(σ.loosen true r).boxAt q=some u:=hu
       rw [this]
      ·cases h
    exact this rs l hr hl
   obtain ⟨efps,G2,I2,hs2,hlen,hrest⟩:=Z7g rs _ G1 _ l hn' hl1 I1
   refine ⟨G.fb r::efps,G2,?_,hs1.trans hs2,by simp [hlen],λj u hj=> ?_⟩
   ·refine I2.perm (List.perm_iff_count.2 λz=> ?_)
    simp only [List.flatten_cons,List.count_append]
    omega
   ·cases j with
    | zero=>
     simp only [List.getElem?_cons_zero,Option.some.injEq] at hj
     subst hj
     refine ⟨hblk,hw,λi hi=> ?_⟩
     have:=hptr i hi
     refine this.or_dead ?_
     have h3:=Z52 rs ((σ.loosen true r).putBox r none) i
     exact h3
    | succ j=>
     obtain ⟨q1,q2,q3⟩:=hrest j u (by simpa using hj)
     simp only [List.getD_cons_succ]
     rw [hs1.ad,hs1.F,hs1.St,hs1.Al] at q1
     rw [hs1.ad] at q2
     refine ⟨q1,(hs1.bx _ _).1 q2,λi hi=> ?_⟩
     have:=q3 i (by simpa [State.putBox,State.loosen,Z0b] using hi)
     rw [hs1.ad] at this
     exact this
  ·cases h
end
end Go.PI
namespace Go.PI
theorem Z6O {α:Type}:(l:List α)->(i j:Nat)->(a b:α)->i≠j->Z0I (Z0I l i a) j b=Z0I (Z0I l j b) i a
 | [],_,_,_,_,_=>rfl
 | _::_,0,0,_,_,h=>absurd rfl h
 | _::_,0,_+1,_,_,_=>rfl
 | _::_,_+1,0,_,_,_=>rfl
 | x::l,i+1,j+1,a,b,h=>by
  simp only [Z2w,Z2a,Z1j]
  rw [Z6O l i j a b (λhh=>h (by rw [hh]))]
noncomputable def State.lay (σ:State):List Nat->List TVal->State
 | r::rs,v::vs=>(σ.putBox r (some v)).lay rs vs
 | _,_=>σ
theorem Z8O:(rs:List Nat)->(vs:List TVal)->(σ:State)->(σ.lay rs vs).slots=σ.slots
 | [],vs,σ=>by cases vs<;>rfl
 | r::rs,[],σ=>rfl
 | r::rs,v::vs,σ=>Z8O rs vs (σ.putBox r (some v))
theorem Z6u:(rs:List Nat)->(vs:List TVal)->(σ σ':State)->rs.length=vs.length->σ.slots=σ'.slots->(σ.putBoxes rs vs).slots=(σ'.lend rs).slots
 | [],vs,σ,σ',h,hs=>by cases vs<;>exact hs
 | r::rs,[],σ,σ',h,hs=>by simp at h
 | r::rs,v::vs,σ,σ',h,hs=>Z6u rs vs _ _ (by simpa using h) (by simp only [State.putBox,State.loosen,Z0b,hs])
theorem Z7h:(rs:List Nat)->(σ:State)->(r:Nat)->(v:TVal)->r ∉ rs->(σ.lend rs).putBox r (some v)=(σ.putBox r (some v)).lend rs
 | [],σ,r,v,h=>rfl
 | q::rs,σ,r,v,h=>by
  simp only [List.mem_cons,not_or] at h
  simp only [State.lend]
  rw [Z7h rs _ r v h.2]
  congr 1
  simp only [State.putBox,State.loosen,Z0b]
  rw [Z6O _ _ _ _ _ (Ne.symm h.1)]
theorem Z7e:(rs:List Nat)->(vs:List TVal)->(σ:State)->rs.Nodup->rs.length=vs.length->(σ.lend rs).lay rs vs=σ.putBoxes rs vs
 | [],vs,σ,hn,h=>by cases vs<;>rfl
 | r::rs,[],σ,hn,h=>by simp at h
 | r::rs,v::vs,σ,hn,h=>by
  obtain ⟨hr,hn'⟩:=List.nodup_cons.1 hn
  show (((σ.loosen true r).putBox r none).lend rs |>.putBox r (some v)).lay rs vs=((σ.loosen true r).putBox r (some v)).putBoxes rs vs
  rw [Z7h rs _ r v hr]
  have:((σ.loosen true r).putBox r none).putBox r (some v)=(σ.loosen true r).putBox r (some v):=by simp only [State.putBox,Z1z]
  rw [this]
  exact Z7e rs vs _ hn' (by simpa using h)
section
variable {W0:Base} {M:Nat->Prop} {a:Act} {w:World}
theorem Z81:(rs:List Nat)->(ext:List TVal)->(efps:List (List Nat))->(σ:State)->(G:Ghost)->(ys:List Nat)->rs.Nodup->rs.length=ext.length->efps.length=ext.length->Inv W0 M σ a w G (efps.flatten++ys) ->
  (∀ (j:Nat) (v:TVal),ext[j]? = some v->(∃ c T,w.heap[G.ad (rs.getD j 0)]? = some (.cells c T (0,0))/\Rp w G.F G.St G.Al v.τ v.tg c.toList v.x (efps.getD j []))/\G.who (G.ad (rs.getD j 0))=some (.a (rs.getD j 0))/\rs.getD j 0<σ.boxes.length /\
    ∀ i,i<σ.slots.length->Z1u (rs.getD j 0) (σ.slot i) (a.tmps.getD i undef) (Z2m (G.ad (rs.getD j 0)) v.τ)) ->
  ∃ G',Inv W0 M (σ.lay rs ext) a w G' ys/\G'.F=G.F/\G'.St=G.St/\G'.Al=G.Al/\G'.ad=G.ad/\∀ b k,G'.who b=some (.a k)↔G.who b=some (.a k)
 | [],ext,efps,σ,G,ys,hn,h1,h2,I,hb=>by
  have:ext=[]:=by simpa using h1.symm
  subst this
  have:efps=[]:=by simpa using h2
  subst this
  exact ⟨G,by simpa [State.lay] using I,rfl,rfl,rfl,rfl,λ_ _=>Iff.rfl⟩
 | r::rs,[],efps,σ,G,ys,hn,h1,h2,I,hb=>by simp at h1
 | r::rs,v::ext,[],σ,G,ys,hn,h1,h2,I,hb=>by simp at h2
 | r::rs,v::ext,f::efps,σ,G,ys,hn,h1,h2,I,hb=>by
  obtain ⟨hr,hn'⟩:=List.nodup_cons.1 hn
  obtain ⟨⟨c,T,hc,hR⟩,hw,hlt,hptr⟩:=hb 0 v rfl
  simp only [List.getD_cons_zero] at hc hR hw hlt hptr
  have I':Inv W0 M σ a w G (f++(efps.flatten++ys)):=by simpa [List.append_assoc] using I
  obtain ⟨G1,I1,gF,gS,gA,gb,gad⟩:=I'.addBox (i:=r) (g:=G.ad r) (c:=c) (T:=T) (v:=v) hlt hc hw hR hptr (.inr rfl)
  have gad':G1.ad=G.ad:=by rw [gad];funext j;split<;>simp_all
  obtain ⟨G2,I2,q1,q2,q3,q4,q5⟩:=Z81 rs ext efps _ G1 ys hn' (by simpa using h1) (by simpa using h2) I1 (λj u hj=>by
   obtain ⟨p1,p2,p3,p4⟩:=hb (j+1) u (by simpa using hj)
   simp only [List.getD_cons_succ] at p1 p2 p3 p4
   rw [gad',gF,gS,gA]
   refine ⟨p1,(gb _ _).2 p2,by simpa [State.putBox,Z0G] using p3,λi hi=> ?_⟩
   rw [Z1G]
   exact p4 i hi)
  exact ⟨G2,I2,q1.trans gF,q2.trans gS,q3.trans gA,q4.trans gad',λb k=>(q5 b k).trans (gb b k)⟩
end
end Go.PI
namespace Go.PI
section
variable {W0:Base} {M:Nat->Prop} {σ:State} {a:Act} {w:World} {G:Ghost} {P:Program}
theorem Z6k {f : FuncId} {fn : Func} {c : Code} (hf : P.funcs[f]? = some fn) (hname : (fn.name == "runtime.NumGoroutine") = false) (hb : fn.body = some c) (args : Array Value) (w : World) :
  (callFunc f args).run P w= .ok (.enter f args) w:=by
 have h1 : fn.name ≠ "runtime.NumGoroutine" := by simpa using hname
 simp [callFunc,hf,h1,hb]
theorem Z5L {o:Oper} {c:Call} {f:Operand} {g:FuncId} {us:Array Value} {fn:Func} {cd:Code} (ho:o.op= .call c) (hcal:c.callee= .value f) (hv:a.eval f= .func (.func g) #[] us)
  (hf : P.funcs[g]? = some fn) (hname : (fn.name == "runtime.NumGoroutine") = false) (hb : fn.body = some cd) : (execOp a.eval o).run P w = .ok (.enter g (c.args.map a.eval ++ us)) w := by
 rw [Z03 ho]
 simp only [execOp,resolve,hcal,hv,Deferred.ofValue,Sem.run_bind,Sem.run_pure,Result.andThen_ok,invoke,Z6k hf hname hb]
 simp
theorem Z82:(rs:List TVal)->(vs:List Value)->(fs:List (List Nat))->rs≠[]->Z0j w G rs vs fs->Rp w G.F G.St G.Al (Z2r rs).τ (Z2r rs).tg (vs.flatMap Z02) (Z2r rs).x fs.flatten/\Z1f (Z2r rs).τ (rs.map (·.ag)) vs
 | [],vs,fs,h,_=>absurd rfl h
 | [r],vs,fs,_,h=>by
  cases vs<;>cases fs<;>first | exact h.elim | skip
  rename_i v vs f fs
  obtain ⟨⟨h1,h2⟩,h3⟩:=h
  cases vs<;>cases fs<;>first | exact h3.elim | skip
  refine ⟨by simpa [Z2r] using h2,?_⟩
  show Z1f r.τ [r.ag] [v]
  cases hτ:r.τ<;>exact ⟨h1,by rw [h2.len.1,hτ]⟩
 | r::q::rs,vs,fs,_,h=>by
  cases vs<;>cases fs<;>first | exact h.elim | skip
  rename_i v vs f fs
  obtain ⟨⟨h1,h2⟩,h3⟩:=h
  obtain ⟨i1,i2⟩:=Z82 (q::rs) vs fs (by simp) h3
  refine ⟨?_,?_⟩
  ·simp only [List.flatMap_cons,List.flatten_cons]
   exact Rp.pair_mk h2 i1
  ·cases vs with
   | nil=>cases fs<;>exact h3.elim
   | cons u vs=>exact ⟨h1,h2.len.1,i2⟩
theorem Z0j.shapes:(rs:List TVal)->(vs:List Value)->(fs:List (List Nat))->Z0j w G rs vs fs->vs.length=rs.length/\∀ v∈vs,Z02 v=v.cells.toList
 | [],vs,fs,h=>by cases vs<;>cases fs<;>first | exact ⟨rfl,by simp⟩ | exact h.elim
 | r::rs,vs,fs,h=>by
  cases vs<;>cases fs<;>first | exact h.elim | skip
  obtain ⟨⟨h1,_⟩,h3⟩:=h
  obtain ⟨i1,i2⟩:=Z0j.shapes rs _ _ h3
  refine ⟨by simp [i1],λv hv=> ?_⟩
  rcases List.mem_cons.1 hv with rfl | hv
  ·exact h1.cells
  ·exact i2 v hv
noncomputable def Z70:List TVal->TV
 | []=> .dead
 | [r]=> .val r
 | rs=> .tup (Z2r rs) (rs.map (·.ag))
theorem Z4m (rs:List TVal) (vs:List Value) (fs:List (List Nat)) (h:Z0j w G rs vs fs):Z01 σ G a w (Z70 rs) (Z1I vs) fs.flatten:=by
 obtain ⟨hlen,hsh⟩:=h.shapes
 match rs,vs,fs,h with
 | [],[],[],h=>rfl
 | [r],[v],[f],h=>
  refine ⟨h.1.1,?_⟩
  have:=h.1.2
  rw [show [f].flatten=f by simp]
  exact this
 | r::q::rs,v::u::vs,f::e::fs,h=>
  obtain ⟨i1,i2⟩:=Z82 (r::q::rs) (v::u::vs) (f::e::fs) (by simp) h
  refine ⟨⟨(v::u::vs).toArray,rfl,by simpa using i2⟩,?_⟩
  have hc:Z02 (Z1I (v::u::vs))=(v::u::vs).flatMap Z02:=by
   simp only [Z1I,Z02]
   generalize (v::u::vs)=L at hsh
   induction L with
   | nil=>rfl
   | cons y L ih=>
    have h1:=hsh y (by simp)
    have h2:=ih (λz hz=>hsh z (List.mem_cons_of_mem _ hz))
    simp only [List.flatMap_cons] at h2 ⊢
    rw [h2,h1]
  rw [hc]
  exact i1
end
end Go.PI
namespace Go.PI
section
variable {W0:Base} {M:Nat->Prop} {σ:State} {a:Act} {w w':World} {G:Ghost} {P:Program}
theorem Z4U:(l:List TVal)->l.map (TVal.back true)=l
 | []=>rfl
 | v::l=>by
  rw [List.map_cons,Z4U l]
  congr 1
  obtain ⟨τ,ag,x,tg⟩:=v
  simp only [TVal.back]
  congr 1
  induction tg with
  | nil=>rfl
  | cons t tg ih=>rw [List.map_cons,ih];cases t<;>rfl
theorem Z3A {F:Nat->Nat} {St:Nat->Prop} {G':Ghost} (hF:G'.F=F) (hS:∀ b,St b->G'.St b):(rs:List TVal)->(vs:List Value)->(fs:List (List Nat))->Z3b w F St rs vs fs->(∀ b∈fs.flatten,G'.Al b)->Z0j w G' rs vs fs
 | [],vs,fs,h,_=>by cases vs<;>cases fs<;>first | trivial | exact h.elim
 | r::rs,vs,fs,h,hA=>by
  cases vs<;>cases fs<;>first | exact h.elim | skip
  rename_i v vs f fs
  obtain ⟨⟨h1,h2,h3⟩,h4⟩:=h
  refine ⟨⟨h1,?_⟩,Z3A hF hS rs vs fs h4 λb hb=>hA b (by simp [hb])⟩
  rw [hF]
  exact (h3.narrow (Al':=G'.Al) (TVal.noN_iff.1 h2) λb hb=>hA b (by simp [hb])).pres hS (λ_ _ h=>h) (λb _=>Z07.refl _ _ _) (λb _=>⟨Z07.refl _ _ _,rfl⟩) (.inr λb _ _=>Z07.refl _ _ _)
theorem Z5b {F:Nat->Nat} {St:Nat->Prop} {G':Ghost} (hF:G'.F=F) (hS:∀ b,St b->G'.Al b):(rs:List TVal)->(vs:List Value)->(fs:List (List Nat))->Z3b w F St rs vs fs->(∀ b∈fs.flatten,G'.Al b)->Z0j w G' (rs.map (TVal.back false)) vs fs
 | [],vs,fs,h,_=>by cases vs<;>cases fs<;>first | trivial | exact h.elim
 | r::rs,vs,fs,h,hA=>by
  cases vs<;>cases fs<;>first | exact h.elim | skip
  rename_i v vs f fs
  obtain ⟨⟨h1,h2,h3⟩,h4⟩:=h
  refine ⟨⟨h1,?_⟩,Z5b hF hS rs vs fs h4 λb hb=>hA b (by simp [hb])⟩
  rw [hF]
  exact h3.unstable hS (λb hb=>hA b (by simp [show b∈f from hb]))
end
end Go.PI
namespace Go.PI
section
variable {w:World} {G:Ghost}
theorem Z0s.ptrs:(ms:List Mode)->(ls:List (Nat×Value))->ms.all Mode.isPtr=true->ms.length=ls.length->Z0s w G ms (ls.map (·.2)) [] [] ls
 | [],[],_,_=>trivial
 | [],_::_,_,h=>by simp at h
 | _::_,[],_,h=>by simp at h
 | m::ms,l::ls,h,hl=>by
  cases m with
  | ptr τ=>exact ⟨rfl,Z0s.ptrs ms ls (by simpa [Mode.isPtr] using h) (by simpa using hl)⟩
  | _=>simp [Mode.isPtr] at h
theorem Z0s.append_ptr {ms':List Mode} {ls':List (Nat×Value)} (h':ms'.all Mode.isPtr=true) (hl':ms'.length=ls'.length):(ms:List Mode)->(ys:List Value)->(vs:List TVal)->(fs:List (List Nat))->(ls:List (Nat×Value))->Z0s w G ms ys vs fs ls ->
  Z0s w G (ms++ms') (ys++ls'.map (·.2)) vs fs (ls++ls')
 | [],ys,vs,fs,ls,h=>by
  cases ys<;>cases vs<;>cases fs<;>cases ls<;>first | exact Z0s.ptrs ms' ls' h' hl' | exact h.elim
 | .borrow τ ag::ms,ys,vs,fs,ls,h=>by
  cases ys<;>cases vs<;>cases fs<;>first | exact h.elim | skip
  obtain ⟨h1,h2,h3,h4⟩:=h
  exact ⟨h1,h2,h3,Z0s.append_ptr h' hl' ms _ _ _ _ h4⟩
 | .consume τ ag::ms,ys,vs,fs,ls,h=>by
  cases ys<;>cases vs<;>cases fs<;>first | exact h.elim | skip
  obtain ⟨h2,h3,h4⟩:=h
  exact ⟨h2,h3,Z0s.append_ptr h' hl' ms _ _ _ _ h4⟩
 | .eat τ ag::ms,ys,vs,fs,ls,h=>by
  cases ys<;>cases vs<;>cases fs<;>first | exact h.elim | skip
  obtain ⟨h2,h3,h4⟩:=h
  exact ⟨h2,h3,Z0s.append_ptr h' hl' ms _ _ _ _ h4⟩
 | .inout τ ag::ms,ys,vs,fs,ls,h=>by cases ys<;>cases vs<;>cases fs<;>exact h.elim
 | .look τ ag::ms,ys,vs,fs,ls,h=>by cases ys<;>cases vs<;>cases fs<;>first | exact h.elim | (cases ls<;>exact h.elim)
 | .rptr τ::ms,ys,vs,fs,ls,h=>by cases ys<;>cases vs<;>cases fs<;>first | exact h.elim | (cases ls<;>exact h.elim)
 | .rclos g τs::ms,ys,vs,fs,ls,h=>by cases ys<;>cases vs<;>cases fs<;>first | exact h.elim | (cases ls<;>exact h.elim)
 | .ptr τ::ms,ys,vs,fs,ls,h=>by
  cases ys<;>cases ls<;>first | (cases vs<;>cases fs<;>exact h.elim) | skip
  rename_i y ys l ls
  have h2:y=l.2/\Z0s w G ms ys vs fs ls:=by cases vs<;>cases fs<;>exact h
  have h3:=Z0s.append_ptr h' hl' ms _ _ _ _ h2.2
  cases vs<;>cases fs<;>exact ⟨h2.1,h3⟩
 | .clos g τs::ms,ys,vs,fs,ls,h=>by
  cases ys<;>first | (cases vs<;>cases fs<;>cases ls<;>exact h.elim) | skip
  rename_i y ys
  have h2:(τs.length<=ls.length/\y= .func (.func g) #[] ((ls.take τs.length).map (·.2)).toArray)/\Z0s w G ms ys vs fs (ls.drop τs.length):=by cases vs<;>cases fs<;>cases ls<;>exact h
  have h3:=Z0s.append_ptr h' hl' ms _ _ _ _ h2.2
  have hx:(τs.length<=(ls++ls').length/\y= .func (.func g) #[] (((ls++ls').take τs.length).map (·.2)).toArray)/\Z0s w G (ms++ms') (ys++ls'.map (·.2)) vs fs ((ls++ls').drop τs.length):=by
   rw [List.take_append_of_le_length h2.1.1,List.drop_append_of_le_length h2.1.1]
   exact ⟨⟨by simp;omega,h2.1.2⟩,h3⟩
  generalize ls++ls'=L at hx
  cases vs<;>cases fs<;>cases L<;>exact hx
end
end Go.PI
namespace Go.PI
section
variable {W0:Base} {M:Nat->Prop} {σ:State} {a:Act} {w w':World} {G:Ghost} {P:Program} {R:Type} {Γ:Env R} {r:R}
theorem Z3H:(rs:List Nat)->(l:List TVal)->σ.boxesAt rs=some l->∀ q∈rs,∃ v,σ.boxAt q=some v
 | [],l,h=>by simp
 | x::rs,l,h=>by
  simp only [State.boxesAt] at h
  split at h
  ·rename_i v l' hv hl'
   intro q hq
   rcases List.mem_cons.1 hq with rfl | hq
   ·exact ⟨v,hv⟩
   ·exact Z3H rs l' hl' q hq
  ·cases h
theorem Z6S {xs:List Nat} (I:Inv W0 M σ a w G xs) {q:Nat} {u:Value} {v:TVal} (h:Z0x σ G a w ⟨true,q,[]⟩ u) (hv:σ.boxAt q=some v):u= .pointer (some ⟨G.ad q,0,none⟩):=by
 rcases h with h | ⟨cs,b,⟨τ,l,b',h3,h4,h5⟩,h6⟩
 ·rw [Z1q,hv] at h;cases h
 ·obtain ⟨⟨c,T,hc,_⟩,_⟩:=I.box q v hv
  simp only [Z09,hc,Option.some.injEq,Prod.mk.injEq] at h4
  obtain ⟨rfl,rfl⟩:=h4
  rw [Z0Q] at h5
  simp only [Option.some.injEq,Prod.mk.injEq] at h5
  obtain ⟨_,rfl⟩:=h5
  exact h6
theorem Z0s.noIo:(ms:List Mode)->(ys:List Value)->(vs:List TVal)->(fs:List (List Nat))->(ls:List (Nat×Value))->Z0s w G ms ys vs fs ls->Z0Z ms ys=[]
 | [],ys,vs,fs,ls,h=>by cases ys<;>rfl
 | .borrow τ ag::ms,ys,vs,fs,ls,h=>by
  cases ys<;>cases vs<;>cases fs<;>first | exact h.elim | skip
  exact Z0s.noIo ms _ _ _ _ h.2.2.2
 | .consume τ ag::ms,ys,vs,fs,ls,h=>by
  cases ys<;>cases vs<;>cases fs<;>first | exact h.elim | skip
  exact Z0s.noIo ms _ _ _ _ h.2.2
 | .eat τ ag::ms,ys,vs,fs,ls,h=>by
  cases ys<;>cases vs<;>cases fs<;>first | exact h.elim | skip
  exact Z0s.noIo ms _ _ _ _ h.2.2
 | .inout τ ag::ms,ys,vs,fs,ls,h=>by cases ys<;>cases vs<;>cases fs<;>exact h.elim
 | .look τ ag::ms,ys,vs,fs,ls,h=>by cases ys<;>cases vs<;>cases fs<;>first | exact h.elim | (cases ls<;>exact h.elim)
 | .rptr τ::ms,ys,vs,fs,ls,h=>by cases ys<;>cases vs<;>cases fs<;>first | exact h.elim | (cases ls<;>exact h.elim)
 | .rclos g τs::ms,ys,vs,fs,ls,h=>by cases ys<;>cases vs<;>cases fs<;>first | exact h.elim | (cases ls<;>exact h.elim)
 | .ptr τ::ms,ys,vs,fs,ls,h=>by
  cases ys<;>cases ls<;>first | (cases vs<;>cases fs<;>exact h.elim) | skip
  rename_i y ys l ls
  have h':y=l.2/\Z0s w G ms ys vs fs ls:=by cases vs<;>cases fs<;>exact h
  exact Z0s.noIo ms _ _ _ _ h'.2
 | .clos g τs::ms,ys,vs,fs,ls,h=>by
  cases ys<;>first | (cases vs<;>cases fs<;>cases ls<;>exact h.elim) | skip
  rename_i y ys
  have h':(τs.length<=ls.length/\y= .func (.func g) #[] ((ls.take τs.length).map (·.2)).toArray)/\Z0s w G ms ys vs fs (ls.drop τs.length):=by cases vs<;>cases fs<;>cases ls<;>exact h
  exact Z0s.noIo ms _ _ _ _ h'.2
theorem Z4C:(l:List Nat)->Z4k l=true->l.Nodup
 | [],_=>List.nodup_nil
 | x::l,h=>by
  simp only [Z4k,Bool.and_eq_true,Bool.not_eq_true',List.contains_eq_mem,decide_eq_false_iff_not] at h
  exact List.nodup_cons.2 ⟨h.1,Z4C l h.2⟩
end
end Go.PI
namespace Go.PI
section
variable {W0:Base} {M:Nat->Prop} {σ:State} {a:Act} {w w':World} {G:Ghost} {P:Program} {R:Type} {Γ:Env R} {r:R}
theorem Z3G:(rs:List Nat)->(l:List TVal)->σ.boxesAt rs=some l->(∀ v∈l,v.noN=true)->σ.kill.boxesAt rs=some l
 | [],l,h,_=>h
 | x::rs,l,h,hn=>by
  simp only [State.boxesAt] at h ⊢
  split at h
  ·rename_i v l' hv hl'
   cases h
   rw [Z2U,hv,Z3G rs l' hl' λu hu=>hn u (List.mem_cons_of_mem _ hu)]
   simp [Z2T,hn v (by simp)]
  ·cases h
theorem Z1X (ls:List (Nat×Value)) (j:Nat) (h:j<ls.length):(ls.map λq=>G.ad q.1).getD j 0=G.ad ((ls.map (·.1)).getD j 0):=by
 rw [List.getD_eq_getElem?_getD,List.getD_eq_getElem?_getD,List.getElem?_map,List.getElem?_map,List.getElem?_eq_getElem h];rfl
theorem Z5E:(us vs:List TVal)->Z2W us vs=true->us.length=vs.length/\∀ (j:Nat) (u v:TVal),us[j]? = some u->vs[j]? = some v->u.τ=v.τ
 | [],[],_=>⟨rfl,λj u v h=>by simp at h⟩
 | [],_::_,h=>by cases h
 | _::_,[],h=>by cases h
 | u::us,v::vs,h=>by
  simp only [Z2W,Bool.and_eq_true,decide_eq_true_eq] at h
  obtain ⟨i1,i2⟩:=Z5E us vs h.2
  refine ⟨by simp [i1],λj x y hx hy=> ?_⟩
  cases j with
  | zero=>simp only [List.getElem?_cons_zero,Option.some.injEq] at hx hy;subst hx;subst hy;exact h.1
  | succ j=>exact i2 j x y (by simpa using hx) (by simpa using hy)
theorem Z4V {ks:List Nat} {g:FuncId} {sig:Sig R} (hs:Z18 P g sig) {vals:List TVal} {fps:List (List Nat)} {ls:List (Nat×Value)} {args:List Value} {ext:List TVal}
  {kk:List TVal->List TVal->List TVal->Option R} (I:Inv W0 M σ a w G (fps.flatten++ks)) (hargs:Z0s w G sig.modes args vals fps ls) (hn:∀ v∈vals,v.noN=true) (hptr:Z2P G ls) (hnd:(ls.map (·.1)).Nodup)
  (hext:σ.boxesAt (ls.map (·.1))=some ext) (hexn:∀ v∈ext,v.noN=true) (hrun:sig.run vals ext kk=some r) :
  Calls P g args.toArray w λe w'=>∃ v res ext' G' fs,e= .returned v/\kk res [] ext'=some r/\Inv W0 M (σ.kill.putBoxes (ls.map (·.1)) ext') a w' G' (fs.flatten++ks)/\(∃ vs,v=Z1I vs/\Z0j w' G' res vs fs)/\(ls=[]->Z5l w G w' G') /\
   G'.ad=G.ad/\(∀ b∈ks,G'.F b=G.F b/\w'.heap[b]? = w.heap[b]? /\ (G.Al b->G'.Al b))/\(∀ b i,G.who b=some (.a i)->i ∉ ls.map (·.1)->G'.who b=some (.a i)/\w'.heap[b]? = w.heap[b]?)/\ext'.all TVal.noN=true:=by
 obtain ⟨fs0,I1,_⟩:=I.kill
 obtain ⟨efps,G2,I2,hs2,hel,hbx⟩:=Z7g (ls.map (·.1)) σ.kill _ _ ext hnd (Z3G _ _ hext hexn) I1
 have hsim:Sim G G2:=(Sim.fs G fs0).trans hs2
 have hextl:ext.length=ls.length:=by have:=(Z31 _ _ hext).1;simpa using this
 have hel':efps.length=ls.length:=by simpa using hel
 let ads:List Nat:=ls.map λq=>G.ad q.1
 have hadsl:ads.length=ls.length:=by simp [ads]
 have hA:=Z2s I sig.modes args vals fps ls hargs hn hptr
 have hlive:∀ j,j<ls.length->∃ v,ext[j]? = some v:=λj hj=>⟨ext[j],List.getElem?_eq_getElem (by omega)⟩
 have hB:Z1c w G.F G.St ext ads efps:=Z4v ext ads efps (by omega) (by omega) λj v hj=>by
  have hjl:j<ls.length:=by rw [<-hextl];exact (List.getElem?_eq_some_iff.1 hj).1
  obtain ⟨⟨c,T,hc,hR⟩,_,_⟩:=hbx j v hj
  refine ⟨c,T,by rw [Z1X ls j hjl];exact hc,?_⟩
  exact hR.narrow (TVal.noN_iff.1 (hexn v (List.mem_of_getElem? hj))) λb hb=>hb
 have hadw:∀ b∈ads,∃ j,j<ls.length/\b=G.ad ((ls.map (·.1)).getD j 0)/\G2.who b=some (.a ((ls.map (·.1)).getD j 0)):=by
  intro b hb
  obtain ⟨j,hj,rfl⟩:=List.mem_iff_getElem.1 hb
  have hjl:j<ls.length:=by omega
  obtain ⟨v,hv⟩:=hlive j hjl
  obtain ⟨_,h2,_⟩:=hbx j v hv
  have he:ads[j]=G.ad ((ls.map (·.1)).getD j 0):=by
   rw [<-Z1X ls j hjl,List.getD_eq_getElem?_getD,List.getElem?_eq_getElem hj];rfl
  exact ⟨j,hjl,he,by rw [he];exact (hs2.bx _ _).2 h2⟩
 have hgx:∀ b∈efps.flatten++fps.flatten,G2.who b=some .x:=λb hb=>I2.whoX b (by
  rcases List.mem_append.1 hb with h | h
  ·exact List.mem_append_left _ h
  ·exact List.mem_append_right _ (List.mem_append_left _ h))
 have hkx:∀ b∈ks,G2.who b=some .x:=λb hb=>I2.whoX b (List.mem_append_right _ (List.mem_append_right _ hb))
 have hadn:ads.Nodup:=by
  refine List.pairwise_iff_getElem.2 λi j hi hj hij heq=> ?_
  obtain ⟨v,hv⟩:=hlive i (by omega)
  obtain ⟨u,hu⟩:=hlive j (by omega)
  have h1:=(hbx i v hv).2.1
  have h2:=(hbx j u hu).2.1
  have e1:ads[i]=G.ad ((ls.map (·.1)).getD i 0):=by rw [<-Z1X ls i (by omega),List.getD_eq_getElem?_getD,List.getElem?_eq_getElem hi];rfl
  have e2:ads[j]=G.ad ((ls.map (·.1)).getD j 0):=by rw [<-Z1X ls j (by omega),List.getD_eq_getElem?_getD,List.getElem?_eq_getElem hj];rfl
  have h1:G.who (G.ad ((ls.map (·.1)).getD i 0))=some (.a ((ls.map (·.1)).getD i 0)):=h1
  have h2:G.who (G.ad ((ls.map (·.1)).getD j 0))=some (.a ((ls.map (·.1)).getD j 0)):=h2
  rw [<-e1,heq,e2,h2] at h1
  simp only [Option.some.injEq,Who.a.injEq] at h1
  have hil:i<(ls.map (·.1)).length:=by simp;omega
  have hjl:j<(ls.map (·.1)).length:=by simp;omega
  rw [List.getD_eq_getElem?_getD,List.getD_eq_getElem?_getD,List.getElem?_eq_getElem hil,List.getElem?_eq_getElem hjl] at h1
  exact List.pairwise_iff_getElem.1 hnd i j hil hjl hij (by simpa using h1.symm)
 have hnda:(fps.flatten++(efps.flatten++ads)).Nodup:=by
  have h0:(efps.flatten++fps.flatten).Nodup:=by
   have h:=I2.nodX
   rw [<-List.append_assoc] at h
   exact (List.nodup_append.1 h).1
  have h1:=(List.nodup_append.1 h0)
  refine List.nodup_append.2 ⟨h1.2.1,List.nodup_append.2 ⟨h1.1,hadn,λb hb b' hb' hbb=> ?_⟩,λb hb b' hb' hbb=> ?_⟩
  ·subst hbb
   obtain ⟨j,_,_,h5⟩:=hadw b hb'
   rw [hgx b (List.mem_append_left _ hb)] at h5;cases h5
  ·subst hbb
   rcases List.mem_append.1 hb' with hb' | hb'
   ·exact h1.2.2 b hb' b hb rfl
   ·obtain ⟨j,_,_,h5⟩:=hadw b hb'
    rw [hgx b (List.mem_append_right _ hb)] at h5;cases h5
 have hwz:∀ b∈fps.flatten++(efps.flatten++ads),∃ z,G2.who b=some z:=by
  intro b hb
  rcases List.mem_append.1 hb with hb | hb
  ·exact ⟨_,hgx b (List.mem_append_right _ hb)⟩
  ·rcases List.mem_append.1 hb with hb | hb
   ·exact ⟨_,hgx b (List.mem_append_left _ hb)⟩
   ·obtain ⟨j,_,_,h5⟩:=hadw b hb;exact ⟨_,h5⟩
 have hSt:∀ b,G.St b->b<w.heap.size/\b ∉ fps.flatten++(efps.flatten++ads):=λb hb=>by
  have h2:=I2.st b (by rw [hsim.St];exact hb)
  refine ⟨h2.2,λhm=> ?_⟩
  obtain ⟨z,hz⟩:=hwz b hm
  rw [h2.1] at hz;cases hz
 refine (hs.2 vals ext kk r hrun w G.F G.St args ads fps efps hA hB hnda hSt λb hb=> ?_).mono λe w'=> ?_
 ·obtain ⟨z,hz⟩:=hwz b hb;exact (I2.lt b z hz).1
 ·rintro ⟨v,res,ios,ext',rfl,hk,⟨hty,_,_⟩,hexn',F',St',vs,rfps,efps',⟨rfl,hil,_⟩,hres,hbox,hE,hF,hS1,hS2,hndr,hR⟩
  rw [Z0s.noIo _ _ _ _ _ hargs] at hil hres
  have hios:ios=[]:=List.length_eq_zero_iff.1 hil
  subst hios
  rw [List.append_nil,List.append_nil] at hres
  have hassoc:fps.flatten++(efps.flatten++ads)=(fps.flatten++efps.flatten)++ads:=by rw [List.append_assoc]
  have I3:Inv W0 M (σ.kill.lend (ls.map (·.1))) a w G2 ((fps.flatten++efps.flatten)++ks):=I2.perm (by
   rw [<-List.append_assoc]
   exact List.Perm.append_right _ List.perm_append_comm)
  have hkout:∀ b∈ks,b<w.heap.size/\b ∉ fps.flatten++(efps.flatten++ads):=λb hb=>by
   refine ⟨(I2.lt b _ (hkx b hb)).1,λhm=> ?_⟩
   have hn:=I2.nodX
   rcases List.mem_append.1 hm with hm | hm
   ·have:=(List.nodup_append.1 (List.nodup_append.1 hn).2.1).2.2 b hm b hb rfl
    exact this
   ·rcases List.mem_append.1 hm with hm | hm
    ·exact (List.nodup_append.1 hn).2.2 b hm b (List.mem_append_right _ hb) rfl
    ·obtain ⟨j,_,_,h5⟩:=hadw b hm
     rw [hkx b hb] at h5;cases h5
  have hE0:=hE
  have hF0:=hF
  rw [hassoc] at hE hF hS2 hR
  rw [<-List.append_assoc] at hndr hR
  obtain ⟨ht1,ht2⟩:=Z5E ext ext' hty
  obtain ⟨hb1,hb2,hb3⟩:=Z3R ext' ads efps' hbox
  obtain ⟨G4,I4,gF,gad,gS,gA,gSs,gR,gads,_,gB,gAl,gW⟩:=Z3s (R:=rfps.flatten++efps'.flatten) (ads:=ads) (ks:=ks) (F':=F') (St':=St') I3 (λb hb=>by
    obtain ⟨j,hj,_,h5⟩:=hadw b hb
    refine ⟨_,h5,Z3n _ _ _ (.inl ?_)⟩
    have hjl:j<(ls.map (·.1)).length:=by simpa using hj
    rw [List.getD_eq_getElem?_getD,List.getElem?_eq_getElem hjl]
    exact List.getElem_mem _) (.inl (Z3L (Z2u σ) (λi=>Z52 _ _ i) λi=>by
    by_cases hi:i∈ls.map (·.1)
    ·exact .inr (Z3n _ _ _ (.inl hi))
    ·exact .inl (Z4i _ _ _ hi)))
   (Sc:=G2.St) (λ_ h=>h) (Ghost.St_Al I3) hE (λb hb hm=>by rw [hF b hb hm,hsim.F]) (λb hb=>hS1 b (by rw [<-hsim.St];exact hb)) (λb hb=>by have:=hS2 b hb;rw [<-hsim.St] at this;exact this) hndr hR
  have I4':Inv W0 M (σ.kill.lend (ls.map (·.1))) a w' G4 (efps'.flatten++(rfps.flatten++ks)):=I4.perm (by
   rw [<-List.append_assoc]
   exact List.Perm.append_right _ List.perm_append_comm)
  have had4:G4.ad=G.ad:=gad.trans hsim.ad
  have hlb:=Z7f (ls.map (·.1)) σ.kill
  obtain ⟨G5,I5,q1,q2,q3,q4,q5⟩:=Z81 (ls.map (·.1)) ext' efps' _ G4 (rfps.flatten++ks) hnd (by simp;omega) (by omega) I4' (λj u hj=>by
   have hjl':j<ext'.length:=(List.getElem?_eq_some_iff.1 hj).1
   have hjl:j<ls.length:=by omega
   obtain ⟨v,hv⟩:=hlive j hjl
   obtain ⟨_,p2,p3⟩:=hbx j v hv
   obtain ⟨c,T,hc,hR'⟩:=hb3 j u hj
   rw [had4]
   rw [Z1X ls j hjl] at hc
   have hτ:=ht2 j v u hv hj
   have hmem:G.ad ((ls.map (·.1)).getD j 0)∈ads:=by
    rw [<-Z1X ls j hjl,List.getD_eq_getElem?_getD,List.getElem?_eq_getElem (show j<ads.length by omega)];exact List.getElem_mem _
   refine ⟨⟨c,T,hc,?_⟩,?_,?_,λi hi=> ?_⟩
   ·rw [gF]
    have hun:u.noN=true:=by rw [List.all_eq_true] at hexn';exact hexn' u (List.mem_of_getElem? hj)
    exact (hR'.narrow (Al':=G4.Al) (TVal.noN_iff.1 hun) λb hb=>gR b (List.mem_append_right _ (Z2K hb))).pres (gSs λ_ h=>h) (λ_ _ h=>h) (λb _=>Z07.refl _ _ _) (λb _=>⟨Z07.refl _ _ _,rfl⟩) (.inr λb _ _=>Z07.refl _ _ _)
   ·rw [gads _ hmem]
    exact (hs2.bx _ _).2 p2
   ·rw [hlb.2]
    have hb0:=(Z31 _ _ (Z3G _ _ hext hexn)).2 j v hv
    exact Z1D hb0
   ·have:=p3 i (by rw [<-hlb.1];exact hi)
    rw [<-hτ]
    exact this)
  rw [Z7e _ _ _ hnd (by simp;omega)] at I5
  refine ⟨_,res,ext',G5,rfps,rfl,hk,by simpa using I5,⟨vs,rfl,Z3A (q1.trans gF) (λb hb=>by rw [q2];exact gSs (λ_ h=>h) b hb) res vs rfps hres λb hb=>by rw [q3];exact gR b (List.mem_append_left _ hb)⟩,λhl w2 hc i b hb=> ?_,q4.trans had4,λb hb=> ?_,λb i hb hi=> ?_,hexn'⟩
  ·exact gB (by simp [ads,hl]) w2 (λi b hb=>hc i b ((q5 _ _).2 hb)) i b ((hsim.bx _ _).2 hb)
  ·obtain ⟨h1,h2⟩:=hkout b hb
   refine ⟨by rw [q1,gF,hF0 b h1 h2],hE0.block b h1 h2,λh=> ?_⟩
   rw [q3]
   exact gAl b h1 (by rw [hsim.Al];exact h)
  ·have hb2:G2.who b=some (.a i):=(hsim.bx _ _).2 hb
   refine ⟨(q5 _ _).2 (gW b _ hb2 (by simp)),hE0.block b (I2.lt b _ hb2).1 (λhm=> ?_)⟩
   rcases List.mem_append.1 hm with hm | hm
   ·have:=hgx b (List.mem_append_right _ hm)
    rw [hb2] at this;cases this
   ·rcases List.mem_append.1 hm with hm | hm
    ·have:=hgx b (List.mem_append_left _ hm)
     rw [hb2] at this;cases this
    ·obtain ⟨j,hj,_,h5⟩:=hadw b hm
     rw [hb2] at h5
     simp only [Option.some.injEq,Who.a.injEq] at h5
     refine hi ?_
     rw [h5]
     have hjl:j<(ls.map (·.1)).length:=by simpa using hj
     rw [List.getD_eq_getElem?_getD,List.getElem?_eq_getElem hjl]
     exact List.getElem_mem _
theorem Z7N {g:FuncId} {sig:Sig R} (hs:Z18 P g sig) {vals:List TVal} {fps:List (List Nat)} {ls:List (Nat×Value)} {args:List Value} {ext:List TVal}
  {kk:List TVal->List TVal->List TVal->Option R} (I:Inv W0 M σ a w G fps.flatten) (hargs:Z0s w G sig.modes args vals fps ls) (hn:∀ v∈vals,v.noN=true) (hptr:Z2P G ls) (hnd:(ls.map (·.1)).Nodup)
  (hext:σ.boxesAt (ls.map (·.1))=some ext) (hexn:∀ v∈ext,v.noN=true) (hrun:sig.run vals ext kk=some r) :
  Calls P g args.toArray w λe w'=>∃ v res ext' G' fs,e= .returned v/\kk res [] ext'=some r/\Inv W0 M (σ.kill.putBoxes (ls.map (·.1)) ext') a w' G' (fs.flatten++[])/\(∃ vs,v=Z1I vs/\Z0j w' G' res vs fs)/\(ls=[]->Z5l w G w' G'):=by
 refine (Z4V (ks:=[]) hs (by rw [List.append_nil];exact I) hargs hn hptr hnd hext hexn hrun).mono ?_
 rintro e w' ⟨v,res,ext',G',fs,h1,h2,h3,h4,h5,_⟩
 exact ⟨v,res,ext',G',fs,h1,h2,h3,h4,h5⟩
end
end Go.PI
