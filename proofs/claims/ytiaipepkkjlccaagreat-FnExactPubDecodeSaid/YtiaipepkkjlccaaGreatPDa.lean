/-
  Program's code interpreted over typed values; printed texts; plain laws. No conditions.
-/
import Derived.Test.YtiaipepkkjlccaaGreatPc
import Derived.Tactics2
import Derived.WalkKit
import Derived.RegionTactic
import Derived.Deep.LoopGhost
set_option linter.unusedVariables false
set_option linter.unusedSimpArgs false
namespace Go.PI
open Go
structure SlT (P:Program)(S E I B:TypeId)(k:Nat)(z:Value):Prop where
 mixed:P.follows .mixedOrders=true
 tS:P.underlying S=some (.slice E)
 aS:∀w,(isAgg S).run P w= .ok false w
 zS:∀w,(sizeOf S).run P w= .ok 1 w
 vS:∀w,(zeroValue S).run P w= .ok (.slice none 0 0) w
 tI:P.underlying I=some (.int .i64)
 aI:∀w,(isAgg I).run P w= .ok false w
 zI:∀w,(sizeOf I).run P w= .ok 1 w
 tB:P.underlying B=some .bool
 aB:∀w,(isAgg B).run P w= .ok false w
 zB:∀w,(sizeOf B).run P w= .ok 1 w
 zE:∀w,(sizeOf E).run P w= .ok k w
 vE:∀w,(zeroValue E).run P w= .ok z w
 iE:∃i:TypeInfo,P.info? E=some i/\i.size=k
 zk:z.cells.size=k
 z1:∀c∈z.cells.toList,one c=true
def j0I (z:Value)(n:Nat):List Value:=(Builtin.zeroCells z.cells n).toList
theorem jgl (z:Value)(n:Nat):(j0I z n).length=n * z.cells.size:=by simp[j0I,Builtin.zeroCells]
theorem jvQ {z:Value}(h:∀c∈z.cells.toList,one c=true)(n:Nat):∀c∈j0I z n,one c=true:=by
 intro c hc;unfold j0I Builtin.zeroCells at hc;rw[Array.mem_toList_iff,Array.mem_map]at hc;obtain⟨i,hi,rfl⟩:=hc;have hi:i<n * z.cells.size:=by simpa using hi
 have hs:0<z.cells.size:=by
  rcases Nat.eq_zero_or_pos z.cells.size with h0 | h0
  ·rw[h0]at hi;simp at hi
  ·exact h0
 rw[Ys z.cells _ (Nat.mod_lt _ hs)];exact h _ (by simp)
section
variable {P:Program}{S E I B U:TypeId}{k:Nat}{z:Value}
theorem jkw (T:SlT P S E I B k z)(ty:TypeId){w:World}{b o n c:Nat}{cur:Array Value}{t:TypeId}{fz:Nat×Nat}(hn:0<n)(hg:w.heap[b]? = some (.cells cur t fz))(hfz:Z3Z cur fz)(hs:o+n * k<=cur.size) :
  (Builtin.clear_ #[S] ty #[.slice (some ⟨b,o,none⟩) n c]).run P w= .ok (.tuple #[]) (w.setRow b (Z0c cur.toList o (j0I z n)).toArray):=by
 have hl:=jgl z n;rw[T.zk]at hl;have hst:=Z3n P b o t fz (j0I z n) 0 cur w hg hfz (by rw[hl];omega) (jvQ T.z1 n)
 rw[XK]at hst;obtain⟨m,rfl⟩:∃m,n=m+1:=⟨n-1,by omega⟩
 have hst2:(storeCells ⟨b,o,none⟩ (Builtin.zeroCells z.cells (m+1)).toList).run P w= .ok () (w.setRow b (Z0c cur.toList o (j0I z (m+1))).toArray):=hst;simp[Builtin.clear_,run_underlying T.tS,T.vE,hst2]
theorem jrJ {w:World}{b o m:Nat}{cur:Array Value}{t:TypeId}{fz:Nat×Nat}(hg:w.heap[b]? = some (.cells cur t fz)){j:Nat}{v:Value}(h:((cur.toList.drop o).take m)[j]? = some v):w.cell? ((⟨b,o,none⟩:Addr).add j)=some v:=by
 have h2:(⟨b,o,none⟩:Addr).add j=⟨b,o+j,none⟩:=by unfold Addr.add;split<;>simp_all
 rw[h2];rw[Ya]at h;split at h
 ·rw[XV,QK]at h;simp[World.cell?,hg,h]
 ·cases h
theorem jf9 {w:World}{b o m len cap:Nat}{cur:Array Value}{t:TypeId}{fz:Nat×Nat}(hg:w.heap[b]? = some (.cells cur t fz))(hs:o+m * k<=cur.size) :
  (Builtin.firstCells k m (.slice (some ⟨b,o,none⟩) len cap)).run P w= .ok ((cur.toList.drop o).take (m * k)).toArray w:=
 run_firstCells_some w k m ⟨b,o,none⟩ len cap _ (by simp;omega) λj v h=>jrJ hg h
end
theorem jy4 {P:Program}{ops:Array Oper}{Q:Exit->Act->World->Prop}{K:Act->World->Prop}{o:Oper}{a:Act}{w w':World}{v:Value}(hw:Region.wanted o (yielded ops a.tmps)=true)(hx:(execOp a.eval o).run P w= .ok (.value v) w')(h:K (a.put o.dst v) w') :
  if Region.wanted o (yielded ops a.tmps)=true then Oper.wp P o a w K Q else K (a.put o.dst undef) w:=by
 rw[QM hw];unfold Oper.wp;rw[hx];exact h
theorem jur {P:Program}{w w':World}{ρ:Operand->Value}{x y:Operand}{s1 s2:TypeId}{d:Option Tmp}{ty:TypeId}{pos:String}{aft:Array Edge}{g:Option (Nat×Bool)}{v:Value}(h:(Builtin.append_ #[s1,s2] ty #[ρ x,ρ y]).run P w= .ok v w') :
  (execOp ρ ⟨d,.call ⟨.builtin .append,#[x,y],#[s1,s2]⟩,ty,pos,aft,g⟩).run P w= .ok (.value v) w':=by
 simp only[execOp,resolve,Sem.run_bind,Sem.run_pure,Result.andThen_ok,invoke,builtin,List.map_toArray,Qz,Yh];rw[h];rfl
def jgm (S I B U:TypeId):Code:=
 (.seq (.region 0 #[⟨(some 6), .assign (.const (.slice none 0 0)), S, "slices.go:224", #[], none⟩] false)
 (.seq (.region 1 #[⟨(some 8), .move (.tmp 0), S, "slices.go:225", #[], none⟩,
  ⟨(some 9), .move (.tmp 1), I, "slices.go:225", #[], none⟩,
  ⟨(some 10), .move (.tmp 2), I, "slices.go:225", #[], none⟩,
  ⟨(some 11), .move (.tmp 0), S, "slices.go:225", #[], none⟩,
  ⟨(some 12), .call ⟨(.builtin .len), #[(.tmp 11)], #[S]⟩, I, "slices.go:225", #[⟨3, .data⟩], none⟩,
  ⟨(some 13), .slice S (.tmp 8) (some (.tmp 9)) (some (.tmp 10)) (some (.tmp 12)), S, "slices.go:225", #[⟨0, .data⟩, ⟨1, .data⟩, ⟨2, .data⟩, ⟨4, .data⟩], none⟩] false)
 (.seq (.seq (.region 2 #[⟨(some 14), .move (.tmp 1), I, "slices.go:227", #[], none⟩,
  ⟨(some 15), .move (.tmp 2), I, "slices.go:227", #[], none⟩,
  ⟨(some 16), .binOp .eql I (.tmp 14) (.tmp 15) I, B, "slices.go:227", #[⟨0, .data⟩, ⟨1, .data⟩], none⟩] false)
 (.cond (.tmp 16)
  (.seq (.region 3 #[⟨(some 17), .move (.tmp 0), S, "slices.go:228", #[], none⟩,
   ⟨(some 6), .assign (.tmp 17), S, "slices.go:228", #[⟨0, .data⟩, ⟨0, .phase⟩], none⟩] false)
  .ret)
  .skip))
 (.seq (.region 4 #[⟨(some 18), .move (.tmp 0), S, "slices.go:231", #[], none⟩,
  ⟨(some 19), .call ⟨(.builtin .len), #[(.tmp 18)], #[S]⟩, I, "slices.go:231", #[⟨0, .data⟩], none⟩,
  ⟨(some 7), .assign (.tmp 19), I, "slices.go:231", #[⟨1, .data⟩, ⟨0, .phase⟩, ⟨1, .phase⟩], none⟩] false)
 (.seq (.region 5 #[⟨(some 20), .move (.tmp 0), S, "slices.go:232", #[], none⟩,
  ⟨(some 21), .move (.tmp 1), I, "slices.go:232", #[], none⟩,
  ⟨(some 22), .slice S (.tmp 20) none (some (.tmp 21)) none, S, "slices.go:232", #[⟨0, .data⟩, ⟨1, .data⟩], none⟩,
  ⟨(some 23), .move (.tmp 0), S, "slices.go:232", #[], none⟩,
  ⟨(some 24), .move (.tmp 2), I, "slices.go:232", #[], none⟩,
  ⟨(some 25), .slice S (.tmp 23) (some (.tmp 24)) none none, S, "slices.go:232", #[⟨3, .data⟩, ⟨4, .data⟩], none⟩,
  ⟨(some 26), .call ⟨(.builtin .append), #[(.tmp 22), (.tmp 25)], #[S, S]⟩, S, "slices.go:232", #[⟨2, .data⟩, ⟨5, .data⟩], none⟩,
  ⟨(some 0), .assign (.tmp 26), S, "slices.go:232", #[⟨6, .data⟩, ⟨6, .chain⟩, ⟨0, .phase⟩, ⟨1, .phase⟩, ⟨2, .phase⟩, ⟨3, .phase⟩, ⟨4, .phase⟩, ⟨5, .phase⟩, ⟨6, .phase⟩], none⟩] true)
 (.seq (.region 6 #[⟨(some 27), .move (.tmp 0), S, "slices.go:233", #[], none⟩,
  ⟨(some 28), .move (.tmp 0), S, "slices.go:233", #[], none⟩,
  ⟨(some 29), .call ⟨(.builtin .len), #[(.tmp 28)], #[S]⟩, I, "slices.go:233", #[⟨1, .data⟩], none⟩,
  ⟨(some 30), .move (.tmp 7), I, "slices.go:233", #[], none⟩,
  ⟨(some 31), .slice S (.tmp 27) (some (.tmp 29)) (some (.tmp 30)) none, S, "slices.go:233", #[⟨0, .data⟩, ⟨2, .data⟩, ⟨3, .data⟩], none⟩,
  ⟨none, .call ⟨(.builtin .clear), #[(.tmp 31)], #[S]⟩, U, "slices.go:233", #[⟨4, .data⟩], none⟩] false)
 (.seq (.region 7 #[⟨(some 32), .move (.tmp 0), S, "slices.go:234", #[], none⟩,
  ⟨(some 6), .assign (.tmp 32), S, "slices.go:234", #[⟨0, .data⟩, ⟨0, .phase⟩], none⟩] false)
 .ret)))))))
section
variable {P:Program}{S E I B U:TypeId}{k f:Nat}{z:Value}
theorem jwQ (T:SlT P S E I B k z){fn:Func}(hf:P.funcs[f]? = some fn)(hb:fn.body=some (jgm S I B U))(hn:fn.ntmps=33)(hr:fn.results= #[.tmp 6])
  (ad:Option Addr) (n cap i:Nat) (w:World) (hi:i<=n) (hcap:n<=cap):Calls P f #[.slice ad n cap,.int .i64 i,.int .i64 i] w λe w'=>e= .returned (.slice ad n cap)/\w'=w:=by
 have mixed:=T.mixed;have tS:=T.tS;have aS:=T.aS;have zS:=T.zS;have vS:=T.vS;have tI:=T.tI;have aI:=T.aI;have zI:=T.zI;have tB:=T.tB;have aB:=T.aB;have zB:=T.zB;have zE:=T.zE;refine calls_of_wp hf hb ?_;simp only[hn,QI,Q8,QE,Nat.reduceAdd,Nat.reduceSub,Xy,Xz,XL,XD,Qk,QL];unfold jgm
 go_wp2
 all_goals
  try simp only[Exit.inBlock,Exit.then]
  exact bodyPost_ret (results_tmp hr _ _ _) rfl ⟨rfl,rfl⟩
set_option maxHeartbeats 4000000 in
theorem jwR (T:SlT P S E I B k z){fn:Func}(hf:P.funcs[f]? = some fn)(hb:fn.body=some (jgm S I B U))(hn:fn.ntmps=33)(hr:fn.results= #[.tmp 6])
  {b o n cap i j:Nat} {w:World} {cur:Array Value} {t:TypeId} {fz:Nat×Nat} (hg:w.heap[b]? = some (.cells cur t fz)) (hfz:Z3Z cur fz) (hs:o+cap * k<=cur.size) (h1:∀c∈(cur.toList.drop o).take (n * k),one c=true)
  (hij:i<j) (hj:j<=n) (hcap:n<=cap):Calls P f #[.slice (some ⟨b,o,none⟩) n cap,.int .i64 i,.int .i64 j] w λe w'=>e= .returned (.slice (some ⟨b,o,none⟩) (i+(n-j)) cap) /\
   Wrote w w' b/\w'.heap[b]? = some (.cells (Z0c (Z0c cur.toList (o+i * k) ((cur.toList.drop (o+j * k)).take ((n-j) * k))) (o+(i+(n-j)) * k) (j0I z (j-i))).toArray t fz):=by
 have mixed:=T.mixed;have tS:=T.tS;have aS:=T.aS;have zS:=T.zS;have vS:=T.vS;have tI:=T.tI;have aI:=T.aI;have zI:=T.zI;have tB:=T.tB;have aB:=T.aB;have zB:=T.zB;have zE:=T.zE;obtain⟨i0,hi0,hk0⟩:=T.iE;obtain⟨news,hnews⟩:∃news,news=(cur.toList.drop (o+j * k)).take ((n-j) * k):=⟨_,rfl⟩;have hmul:∀a c:Nat,a<=c->a * k<=c * k:=λa c h=>Qt k h
 have hjk:j * k+(n-j) * k=n * k:=by rw[<-QC,show j+(n-j)=n by omega]
 have hnk:=hmul n cap hcap;have hcur:cur.toList.length=cur.size:=by simp
 have hnl:news.length=(n-j) * k:=by rw[hnews,Qf,Qu];omega
 have hn1:∀u∈news,one u=true:=λu hu=>by
  refine h1 u ?_;rw[hnews]at hu;have e:(cur.toList.drop (o+j * k)).take ((n-j) * k)=((cur.toList.drop o).take (n * k)).drop (j * k):=by
   rw[Yz,X9,show n * k-j * k=(n-j) * k by omega]
  rw[e]at hu;exact Xc hu
 obtain⟨A,hA,hfirst⟩:∃A:Addr,(if cap=j then (some ⟨b,o,none⟩:Option Addr) else some ⟨b,o+j * k,none⟩)=some A/\(Builtin.firstCells k (n-j) (.slice (some A) (n-j) (cap-j))).run P w.drew= .ok news.toArray w.drew:=by
  by_cases h:cap=j
  ·refine⟨⟨b,o,none⟩,by simp[h],?_⟩
   have h0:n-j=0:=by omega
   have e:news=[]:=Qv.1 (by rw[hnl,h0,Nat.zero_mul])
   rw[h0,e];simp[Builtin.firstCells,loadCells,loadCellsFrom]
  ·refine⟨⟨b,o+j * k,none⟩,by simp[h],?_⟩
   rw[hnews];exact jf9 (w:=w.drew) hg (by omega)
 have happ:∀ty,(Builtin.append_ #[S,S] ty #[.slice (some ⟨b,o,none⟩) i cap,.slice (some A) (n-j) (cap-j)]).run P w.drew= .ok (.slice (some ⟨b,o,none⟩) (i+(n-j)) cap) (w.drew.setRow b (Z0c cur.toList (o+i * k) news).toArray):=λty=>by
  have hik:i * k+(n-j) * k<=cap * k:=by rw[<-QC];exact hmul _ _ (by omega)
  have:=Z7J S S ty E i0 tS (.inl ⟨E,tS⟩) hi0 b o i cap cur t fz (w:=w.drew) hg hfz (n-j) (.slice (some A) (n-j) (cap-j)) rfl news (by rw[hk0];exact hnl) (by rw[hk0];exact hfirst) hn1 (by omega) (by rw[hk0,hnl];omega)
  rw[hk0]at this;exact this
 obtain⟨W1,hW1⟩:∃W1,W1=w.drew.setRow b (Z0c cur.toList (o+i * k) news).toArray:=⟨_,rfl⟩;have hg1:W1.heap[b]? = some (.cells (Z0c cur.toList (o+i * k) news).toArray t fz):=by rw[hW1];exact setRow_heap w.drew b cur _ t fz hg
 have hik:i * k+(n-j) * k<=n * k:=by rw[<-QC];exact hmul _ _ (by omega)
 have hsz1:(Z0c cur.toList (o+i * k) news).toArray.size=cur.size:=by
  rw[QI,Z1T (by rw[hnl];omega)];exact hcur
 have hclr:∀ty,(Builtin.clear_ #[S] ty #[.slice (some ⟨b,o+(i+(n-j)) * k,none⟩) (n-(i+(n-j))) (cap-(i+(n-j)))]).run P W1= .ok (.tuple #[]) (W1.setRow b (Z0c (Z0c cur.toList (o+i * k) news).toArray.toList (o+(i+(n-j)) * k) (j0I z (n-(i+(n-j))))).toArray):=λty=>
  jkw T ty (by omega) hg1 (λx hx=>hfz x (by rw[<-hsz1];exact hx)) (by
   have:(i+(n-j)) * k+(n-(i+(n-j))) * k=n * k:=by rw[<-QC,show i+(n-j)+(n-(i+(n-j)))=n by omega]
   rw[hsz1];omega)
 have hW2:Wrote w (W1.setRow b (Z0c (Z0c cur.toList (o+i * k) news).toArray.toList (o+(i+(n-j)) * k) (j0I z (n-(i+(n-j))))).toArray) b:=by
  rw[hW1];refine⟨?_,λx hx=> ?_,rfl,rfl,rfl⟩
  ·rw[setRow_size,setRow_size];rfl
  ·rw[setRow_other _ _ _ _ hx,setRow_other _ _ _ _ hx];rfl
 have hg2:(W1.setRow b (Z0c (Z0c cur.toList (o+i * k) news).toArray.toList (o+(i+(n-j)) * k) (j0I z (n-(i+(n-j))))).toArray).heap[b]? = some (.cells (Z0c (Z0c cur.toList (o+i * k) news) (o+(i+(n-j)) * k) (j0I z (j-i))).toArray t fz):=by
  rw[setRow_heap W1 b _ _ t fz hg1,show n-(i+(n-j))=j-i by omega]
 rw[<-hnews];generalize hW3:W1.setRow b (Z0c (Z0c cur.toList (o+i * k) news).toArray.toList (o+(i+(n-j)) * k) (j0I z (n-(i+(n-j))))).toArray=W3 at hclr hW2 hg2;generalize Z0c (Z0c cur.toList (o+i * k) news) (o+(i+(n-j)) * k) (j0I z (j-i))=fin at hg2 ⊢;rw[<-hW1]at happ;clear hfirst hg1 hsz1 hn1 hnl hcur hnews h1 hmul;clear hg hfz hs hjk hnk hik;clear hW3 hW1;have hic:i<=cap:=by omega
 have hjc:j<=cap:=by omega
 refine calls_of_wp hf hb ?_;simp only[hn,QI,Q8,QE,Nat.reduceAdd,Nat.reduceSub,Xy,Xz,XL,XD,Qk,QL];unfold jgm
 go_wp2
 refine wp_region_any mixed ?_;change wpAny _ _ _ _ _ _ _ (World.drew w);refine wpAny_take (i:=0) (v:= .slice (some ⟨b,o,none⟩) n cap) rfl (by kernel_rfl) (by kernel_rfl) (by kernel_rfl) (λ_ _ _ h=>h) (Or.inl ⟨by rfl,by intro w;go_simp⟩) ?_
 refine wpAny_take (i:=1) (v:= .int .i64 i) rfl (by kernel_rfl) (by kernel_rfl) (by kernel_rfl) (λ_ _ _ h=>h) (Or.inl ⟨by rfl,by intro w;go_simp⟩) ?_
 refine wpAny_take (i:=2) (v:= .slice (some ⟨b,o,none⟩) i cap) rfl (by kernel_rfl) (by kernel_rfl) (by kernel_rfl) (λ_ _ _ h=>h) (Or.inl ⟨by rfl,by intro w;go_simp⟩) ?_
 refine wpAny_take (i:=3) (v:= .slice (some ⟨b,o,none⟩) n cap) rfl (by kernel_rfl) (by kernel_rfl) (by kernel_rfl) (λ_ _ _ h=>h) (Or.inl ⟨by rfl,by intro w;go_simp⟩) ?_
 refine wpAny_take (i:=4) (v:= .int .i64 j) rfl (by kernel_rfl) (by kernel_rfl) (by kernel_rfl) (λ_ _ _ h=>h) (Or.inl ⟨by rfl,by intro w;go_simp⟩) ?_
 refine wpAny_take (i:=5) (v:= .slice (some A) (n-j) (cap-j)) rfl (by kernel_rfl) (by kernel_rfl) (by kernel_rfl) (λ_ _ _ h=>h) (Or.inl ⟨by rfl,by intro w;go_simp⟩) ?_
 refine wpAny_ready (rs:=[6]) (by kernel_rfl) (by simp) (AllReady.cons rfl (λK hK=> ?_) AllReady.nil)
 refine jy4 (v:= .slice (some ⟨b,o,none⟩) (i+(n-j)) cap) (w':=W1) rfl (jur (happ _)) (hK _ _ ?_);clear hK K;refine wpAny_ready (rs:=[7]) (by kernel_rfl) (by simp) (AllReady.cons rfl (λK hK=> ?_) AllReady.nil)
 go_simp
 refine hK _ _ ?_;clear hK K;refine wpAny_done (by kernel_rfl) ?_ _
 go_wp2
 try simp only[Exit.inBlock,Exit.then]
 exact bodyPost_ret (results_tmp hr _ _ _) rfl ⟨rfl,hW2,hg2⟩
end
end Go.PI
namespace Go.PI
noncomputable section
abbrev Fns {R:Type}(P:Program)(l:List (FuncId×Sig R)):Prop:=∀(g:Nat) (b:Sig R),Z0o l g=some b->Z16 P g b
abbrev tI:Ty:= .int .i64
abbrev vI (x:Int):TV:= .val ⟨.int .i64,false,x,[]⟩
abbrev vB (x:Bool):TV:= .val ⟨.bool,false,x,[]⟩
abbrev vS (x:ByteArray):TV:= .val ⟨.str,false,x,[]⟩
abbrev v1 (τ:Ty)(x:El τ)(t:Tag):TV:= .val ⟨τ,false,x,[t]⟩
abbrev wI (x:Int):TVal:=⟨.int .i64,false,x,[]⟩
abbrev wB (x:Bool):TVal:=⟨.bool,false,x,[]⟩
abbrev wS (x:ByteArray):TVal:=⟨.str,false,x,[]⟩
abbrev w1 (τ:Ty)(x:El τ)(t:Tag):TVal:=⟨τ,false,x,[t]⟩
abbrev pB (i:Nat):TV:= .ptr ⟨true,i,[]⟩
section
variable {R:Type}{r:R}
noncomputable abbrev rdI (σ:State)(i:Nat)(f:Int->Option R):Option R:=rdV σ i (.int .i64) false [] f
noncomputable abbrev rdO (σ:State)(i:Nat)(f:Bool->Option R):Option R:=rdV σ i .bool false [] f
noncomputable abbrev rd1 (σ:State)(i:Nat)(τ:Ty)(t:Tag)(f:El τ->Option R):Option R:=rdV σ i τ false [t] f
theorem aV {l:List TVal}{τ:Ty}{f:El τ->List TVal->Option R}{C:Prop}(h:av l τ f=some r)(c:∀x a t l',l=⟨τ,a,x,t⟩::l'->f x l'=some r->C):C:=
 have ⟨x,a,t,l',e,b⟩:=Zao h;c x a t l' e b
theorem aB {l:List TVal}{τ:Ty}{tg:List Tag}{f:Bool->El τ->List TVal->Option R}{C:Prop}(h:ab l τ tg f=some r)(c:∀a x l',l=⟨τ,a,x,tg⟩::l'->f a x l'=some r->C):C:=
 have ⟨a,x,l',e,b⟩:=Zam h;c a x l' e b
theorem nL {l:List TVal}{f:Option R}{C:Prop}(h:nl l f=some r)(c:l=[]->f=some r->C):C:=
 have ⟨e,b⟩:=Zav h;c e b
variable {σ:State}{C:Prop}
theorem rN {n:Nat}{f:Option R}(h:rdN σ n f=some r)(c:σ.slots.length=n->f=some r->C):C:=
 have h:=Zab h;c h.1 h.2
theorem rV {i:Nat}{τ:Ty}{ag:Bool}{tg:List Tag}{f:El τ->Option R}(h:rdV σ i τ ag tg f=some r)(c:∀x,σ.slot i= .val ⟨τ,ag,x,tg⟩->f x=some r->C):C:=
 have ⟨x,b,d⟩:=Zae h;c x b d
theorem rB {i:Nat}{τ:Ty}{tg:List Tag}{f:Bool->El τ->Option R}(h:rdB σ i τ tg f=some r)(c:∀a x,σ.boxAt i=some ⟨τ,a,x,tg⟩->f a x=some r->C):C:=
 have ⟨a,x,b,d⟩:=Za8 h;c a x b d
theorem rT {i:Nat}{p:TV}{f:Option R}(h:rdT σ i p f=some r)(c:σ.slot i=p->f=some r->C):C:=
 have h:=Zac h;c h.1 h.2
theorem sC {i:Nat}{v:TV}{l:List (Nat×TV)}(h:σ.slot i=v)(t:Z4b σ l):Z4b σ ((i,v)::l):=⟨h,t⟩
theorem sN:Z4b σ []:=trivial
theorem bC {i:Nat}{v:TVal}{l:List (Nat×TVal)}(h:σ.boxAt i=some v)(t:Z4a σ l):Z4a σ ((i,v)::l):=⟨h,t⟩
theorem bN:Z4a σ []:=trivial
end
theorem gz {α:Type}{C:Prop}(a:α)(h:∀F,F=a->C):C:=h a rfl
def jxI:Nat->Nat->List Bool->List Bool
 | 0,_,l=>l
 |f+1,n,l=>bif Nat.ble n 1 then l else jxI f (n / 2) (Nat.beq (n % 2) 1::l)
def bits (n:Nat):List Bool:=jxI 300 n []
def jvf:List Bool->Code->Code
 | [],c=>c
 |b::p,c=>jvf p (bif b then c.pr else c.pl)
def cAt (n:Nat)(c:Code):Code:=jvf (bits n) c
def bo (f:Func):Code:=f.body.getD .skip
def HT.ins:List Bool->Nat->HT->HT
 | [],i,_=> .x i
 |false::p,i,h=> .t (HT.ins p i h.l) h.r
 |true::p,i,h=> .t h.l (HT.ins p i h.r)
section
variable {R:Type}{r:R}{P:Program}{np:Nat}{X:List (Z1c R)}
theorem Z1Z.lr' {t:HT}{c:Code}(h:Z1Z P np X t c):(Z1Z P np X t.l c.pl)/\(Z1Z P np X t.r c.pr):=by
 cases t with
 |o=>exact⟨trivial,trivial⟩
 |x i=>exact⟨trivial,trivial⟩
 |t a b=>exact h
theorem jtw {i:Nat}:(p:List Bool)->(t:HT)->(c:Code)->Z1Z P np X t c->(∀(d:Base) (M:Nat->Prop),d.np<=np->Z13 P d M (jvf p c) (Z0u (λ_ _=>none) X i))->Z1Z P np X (HT.ins p i t) c
 | [],_,_,_,b=>b
 |false::p,t,c,h,b=>⟨jtw p t.l c.pl h.lr'.1 b,h.lr'.2⟩
 |true::p,t,c,h,b=>⟨h.lr'.1,jtw p t.r c.pr h.lr'.2 b⟩
theorem oI (p i:Nat){t:HT}{c c':Code}{y:Z1c R}(g:∀ {b:Base} {M:Nat->Prop},b.np<=np->Z13 P b M c' y)(h:Z1Z P np X t c)
  (e:jvf (bits p) c=c':=by kernel_rfl) (d:Z0u (λ_ _=>none) X i=y:=by kernel_rfl):Z1Z P np X (HT.ins (bits p) i t) c:=
 jtw (bits p) t c h λb M f=>by rw[e,d];exact g f
theorem oN {c:Code}:Z1Z P np X .o c:=trivial
variable {ty:List (TypeId×Ty×List TypeId)}{l:List (FuncId×Sig R)}[Subsingleton R]
theorem jsK (w:P.follows .mixedOrders=true)(j:Z0e P ty)(q:∀g b,Z0o l g=some b->Z16 P g b){i:Base}{M:Nat->Prop}(d:i.np<=np)(X:List (Z1c R)){c:Code}{ht:HT}(p:Z1Z P np X ht c)
  (n:List Nat×List Nat) (x:List (Nat×List Nat×List Nat)) (z:List Nat×List Nat) {y:Z1c R}
  (h:∀σ k m,y σ k=some m->∃σ',Z2E σ' σ/\Z0R ⟨ty,l,np⟩ X ht c σ' (λe f=>k e (Z9D n x z e f))=some m):Z13 P i M c y:=
 Zaw (Z8c (Γ:=⟨ty,l,np⟩) w j (Z98 j q) d X c ht p) (Zap _ _ _) h
theorem jwo (D:P.follows .mixedOrders=true)(j:Z0e P ty)(B:∀g b,Z0o l g=some b->Z16 P g b){i:Base}{M:Nat->Prop}(d:i.np<=np)(X:List (Z1c R)){c:Code}{ht:HT}(A:Z1Z P np X ht c)
  (n:List Nat×List Nat) (x:List (Nat×List Nat×List Nat)) (p:List Nat×List Nat) (q:List (Nat×List (Nat×List Tag)×List (Nat×List Tag))) {y:Z1c R}
  (h:∀σ k m,y σ k=some m->∃σ',Z2E σ' σ/\Z0R ⟨ty,l,np⟩ X ht c σ' (λe f=>k e (Z9D n x p e (wkE q e f)))=some m):Z13 P i M c y:=
 Za7 (Z8c (Γ:=⟨ty,l,np⟩) D j (Z98 j B) d X c ht A) (λe σ a w G I=>by
  obtain⟨E,z⟩:=ZaH I q e;exact(Zap n x p e _).inv z) h
theorem jyg (J:P.follows .mixedOrders=true)(m:Z0e P ty)(F:∀g b,Z0o l g=some b->Z16 P g b){i:Base}{M:Nat->Prop}(f:i.np<=np)(X:List (Z1c R)){c:Code}{ht:HT}(E:Z1Z P np X ht c.pl)
  (ks j:List Nat) (n:List Nat×List Nat) (x:List (Nat×List Nat×List Nat)) (q:List Nat×List Nat) (B z:List (Nat×List Tag)) (A:List (Nat×List (Nat×List Tag)×List (Nat×List Tag))) {y:Z1c R}
  (h:∀σ k p,y σ k=some p->∃σ',Z2E σ' σ/\Z3v (Z0R ⟨ty,l,np⟩ X ht c.pl) (λσ=>(σ.wk B z).forget ks j) (λe σ=>Z9D n x q e (wkE A e σ)) Z1b σ' k=some p)
  (H:c= .loop c.pl:=by kernel_rfl):Z13 P i M c y:=by
 rw[H];exact Za6 (Z8c (Γ:=⟨ty,l,np⟩) J m (Z98 m F) f X c.pl ht E) (λσ a w G I=>by
  obtain⟨D,d⟩:=Z91 I B z;exact(Z3T _ ks j).inv d) (λe σ a w G I=>by
  obtain⟨D,d⟩:=ZaH I A e;exact(Zap n x q e _).inv d) Z1b h
theorem jph (z:P.follows .mixedOrders=true)(i:Z0e P ty)(q:∀g b,Z0o l g=some b->Z16 P g b){f:Base}{M:Nat->Prop}(d:f.np<=np)(X:List (Z1c R)){c:Code}{ht:HT}(p:Z1Z P np X ht c.pl)
  (ks m:List Nat) (n:List Nat×List Nat) (x:List (Nat×List Nat×List Nat)) (A:List Nat×List Nat) {y:Z1c R}
  (h:∀σ k j,y σ k=some j->∃σ',Z2E σ' σ/\Z3v (Z0R ⟨ty,l,np⟩ X ht c.pl) (λσ=>σ.forget ks m) (Z9D n x A) Z1b σ' k=some j)
  (w:c= .loop c.pl:=by kernel_rfl):Z13 P f M c y:=by
 rw[w];exact Zas (Z8c (Γ:=⟨ty,l,np⟩) z i (Z98 i q) d X c.pl ht p) (Zap _ _ _) Z1b h
theorem jxK (w:P.follows .mixedOrders=true)(n:Z0e P ty)(m:∀g d,Z0o l g=some d->Z16 P g d){f:FuncId}{fn:Func}(X:List (Z1c R)){ht:HT}(j:Z1Z P np X ht (bo fn))(fz:Bool)(q:P.funcs[f]? = some fn)
  {modes:List Mode} {ags:List Bool} {run:List TVal->List TVal->(List TVal->List TVal->List TVal->Option R)->Option R}
  (h:∀vals ext k i,run vals ext k=some i->Z8j ⟨ty,l,np⟩ X ht fz fn modes ags vals ext k=some i)
  (b : (fn.name == "runtime.NumGoroutine") = false := by kernel_rfl) (p : fn.body = some (bo fn) := by kernel_rfl) (y : Nat.ble modes.length fn.ntmps = true := by kernel_rfl) : Z16 P f (⟨modes, ags, run⟩ : Sig R) :=
 Zai (Γ:=⟨ty,l,np⟩) w n m j q b p (QP y) h
end
end
end Go.PI
namespace Go.PI
open Go
theorem jrF {e:Ty}{w:World}{F:Nat->Nat}{St Al:Nat->Prop}{b o:Nat}{x:List (El e)}{t:Tag}{fps:List (List Nat)}(hfl:fps.length=x.length)
  (hel:∀k (h:k<x.length),∃cs',Z05 w b (o+k * size e) (size e)=some cs'/\Rp w F St Al e (List.replicate (Z06 e) t) cs' (x.get ⟨k,h⟩) (fps.getD k [])) :
  ∃us:List (Elem e),us.map (·.x)=x/\us.map (·.fp)=fps/\(∀u∈us,Rp w F St Al e (List.replicate (Z06 e) t) u.cs u.x u.fp) /\
   ∀k (h:k<us.length),Z05 w b (o+k * size e) (size e)=some us[k].cs:=by
 classical
 let f:Fin x.length->Elem e:=λk=>⟨x.get k,List.replicate (Z06 e) t,Classical.choose (hel k.1 k.2),fps.getD k.1 []⟩
 refine⟨List.ofFn f,?_,?_,?_,?_⟩
 ·apply Y0
  ·simp
  ·intro i h1 h2;simp[f]
 ·apply Y0
  ·simp[hfl]
  ·intro i h1 h2;simp only[Xn,List.getElem_ofFn,f];rw[Qc,Qn h2];rfl
 ·intro u hu;obtain⟨k,hk,rfl⟩:=X2.1 hu;simp only[List.getElem_ofFn,f];exact(YR (hel k (by simpa using hk))).2
 ·intro k hk;simp only[List.getElem_ofFn,f];exact(YR (hel k (by simpa using hk))).1
theorem jv2 {e:Ty}{w w':World}{F:Nat->Nat}{St:Nat->Prop}{Al:Nat->Prop}{ms:List Nat}{b o cap:Nat}{us:List (Elem e)}(hSt:∀y,St y->y<w.heap.size/\y ∉ ms)(hE:Ext (·∈ ms) w w')
  (hb:(w.heap.size<=b\/b∈ms)/\b<w'.heap.size) (hnd:(b::(us.map (·.fp)).flatten).Nodup) (hms:∀u∈us,∀y∈u.fp,y∈ms) (hkeep:∀u∈us,∀y∈u.fp,w'.heap[y]? = w.heap[y]?)
  (hR:∀u∈us,Rp w F St Al e (List.replicate (Z06 e) .O) u.cs u.x u.fp) (hc:∀k (h:k<us.length),Z05 w' b (o+k * size e) (size e)=some us[k].cs) (hcap:us.length<=cap) (hrow:Z3h e w' b (o+cap * size e)) :
  RetOk w F St ms [] [⟨.slice e,false,us.map (·.x),[.O]⟩] [] [] [] (.slice (some ⟨b,o,none⟩) us.length cap) w':=by
 have hbf:b ∉ (us.map (·.fp)).flatten:=(Xx.1 hnd).1;have hin:∀u∈us,∀y∈u.fp,y∈(us.map (·.fp)).flatten:=λu hu y hy=>X3.2 ⟨u.fp,Yw hu,hy⟩
 have hout:∀y∈(us.map (·.fp)).flatten,∃u∈us,y∈u.fp:=λy hy=>by
  obtain⟨f,hf,hyf⟩:=X3.1 hy;obtain⟨u,hu,rfl⟩:=X6.1 hf;exact⟨u,hu,hyf⟩
 refine⟨λy=>if y=b then o+us.length * size e else F y,St,[.slice (some ⟨b,o,none⟩) us.length cap],[b::(us.map (·.fp)).flatten],[],⟨rfl,rfl,rfl⟩,⟨⟨rfl,rfl,?_⟩,trivial⟩,trivial,hE,λy hy hym=> ?_,λy hy=>hy,λy hy=>⟨.inl hy,Y1 (hSt y hy).1 hE.size⟩,?_,λy hy=> ?_⟩
 ·refine Z9o (w:=w') (t:= .O) rfl (b:=b) (o:=o) (cap:=cap) (us:=us) (fps:=us.map (·.fp)) (Al:=(·∈ b::(us.map (·.fp)).flatten)) (by simp) (by simp) hcap hrow (F:=λy=>if y=b then o+us.length * size e else F y) (QM rfl) hc λk hk=> ?_
  have hu:us[k]∈us:=Q7 hk;have hfp:(us.map (·.fp)).getD k []=us[k].fp:=by rw[Qc,XO,Qn hk];rfl
  rw[hfp];refine Rp.presO (hR _ hu) (λt ht=>(XC.1 ht).2) λy hy=> ?_
  have hyb:y≠b:=λh=>hbf (h ▸ hin _ hu y hy)
  have hF:(if y=b then o+us.length * size e else F y)=F y:=QN hyb
  exact⟨Z07.of_block (hkeep _ hu y hy) (by rw[hF];exact Qq _),hF,λ_=>Qa _ (hin _ hu y hy)⟩
 ·show (if y=b then o+us.length * size e else F y)=F y
  rcases hb.1 with h | h
  ·exact QN (by omega)
  ·exact QN λh2=>hym (by rw[h2];exact h)
 ·simpa using hnd
 ·have hy:y=b\/y∈(us.map (·.fp)).flatten:=by simpa using hy
  rcases hy with rfl | hy
  ·refine⟨hb.1,hb.2,λh=> ?_⟩
   have:=hSt y h;rcases hb.1 with h1 | h1
   ·omega
   ·exact this.2 h1
  ·obtain⟨u,hu,hyu⟩:=hout y hy;refine⟨.inr (hms u hu y hyu),Y1 (Rp.lt (hR u hu) y hyu) hE.size,λh=>(hSt y h).2 (hms u hu y hyu)⟩
theorem jx8 {w:World}{F:Nat->Nat}{St:Nat->Prop}{ms f:List Nat}{v:TVal}{x:Value}(hSt:∀y,St y->y<w.heap.size/\y ∉ ms)(hs:Z0f v.ag x)(hN:v.noN=true)(hR:Rp w F St (·∈ f) v.τ v.tg (Z02 x) v.x f)(hf:f.Nodup)(hms:∀y∈f,y∈ms) :
  RetOk w F St ms [] [v] [] [] [] x w:=by
 refine⟨F,St,[x],[f],[],⟨rfl,rfl,rfl⟩,⟨⟨hs,hN,hR⟩,trivial⟩,trivial,Ext.refl _ _,λ_ _ _=>rfl,λ_ h=>h,λy hy=>⟨.inl hy,(hSt y hy).1⟩,by simpa using hf,λy hy=> ?_⟩
 have hy:y∈f:=by simpa using hy
 exact⟨.inr (hms y hy),Rp.lt hR y hy,λh=>(hSt y h).2 (hms y hy)⟩
theorem Wrote.ext {w w':World}{b:Nat}{M:Nat->Prop}(h:Wrote w w' b)(hb:M b):Ext M w w':=
 ⟨h.os,h.tape,h.output,by rw[h.size];exact Qq _,λy _ hy=>h.old y λe=>hy (e ▸ hb)⟩
theorem jl2 {w:World}{b:Nat}{C:List Value}{t:TypeId}{fz:Nat×Nat}(hg:w.heap[b]? = some (.cells C.toArray t fz)){p m:Nat}(h:p+m<=C.length):Z05 w b p m=some ((C.drop p).take m):=by
 unfold Z05;rw[hg];simp only[QI];rw[QM h]
theorem jjW {cs l:List Value}{o p m:Nat}(ho:o+l.length<=cs.length)(h:o+l.length<=p):((Z0c cs o l).drop p).take m=(cs.drop p).take m:=by
 unfold Z0c;have h1:(cs.take o++l).length=o+l.length:=by rw[Q5,Qf];omega
 rw[List.drop_append,h1,Y9 (by omega),Qk,X9,show o+l.length+(p-(o+l.length))=p by omega]
theorem j4W {cs l:List Value}{o p m:Nat}(ho:o<=cs.length)(h:p+m<=o):((Z0c cs o l).drop p).take m=(cs.drop p).take m:=by
 unfold Z0c;have h1:(cs.take o).length=o:=by rw[Qf];omega
 rw[Qb,List.drop_append,XN (by rw[Qu,h1];omega),Yz,List.take_take,YE (by omega)]
theorem jeK {cs l:List Value}{o p m:Nat}(ho:o<=cs.length)(h1:o<=p)(h2:p+m<=o+l.length):((Z0c cs o l).drop p).take m=(l.drop (p-o)).take m:=by
 unfold Z0c;have h3:(cs.take o).length=o:=by rw[Qf];omega
 rw[Qb,List.drop_append,h3,Y9 (by omega),Qk,List.drop_append,XN (by rw[Qu];omega)]
theorem jiY {α:Type}{l m:List (List α)}(h:l.Sublist m):l.flatten.Sublist m.flatten:=by
 induction h with
 |slnil=>exact Y6 _
 |cons a _ ih=>rw[QO];exact ih.trans (List.sublist_append_right _ _)
 |cons_cons a _ ih=>rw[QO,QO];exact(Y6 a).append ih
theorem Z2B.same {w w':World}{b:Nat}{c c':Array Value}{T:TypeId}{fr:Nat×Nat}(h:Z2B w b)(hg:w.heap[b]? = some (.cells c T fr))(hg':w'.heap[b]? = some (.cells c' T fr))(hs:c'.size=c.size):Z2B w' b:=by
 obtain⟨c2,T2,fr2,h1,h2⟩:=h;rw[hg]at h1;cases h1;exact⟨c',T,fr,hg',by rw[hs];exact h2⟩
def je7 {α:Type}(l:List α)(i j:Int):List α:=l.take i.toNat++l.drop j.toNat
noncomputable def jw1 (e:Ty):Sig Unit:=⟨[.eat (.slice e) false,.borrow (.int .i64) false,.borrow (.int .i64) false],[false],λvals ext k=>ao vals (.slice e) [.O] λl vals=>av vals (.int .i64) λi vals=>av vals (.int .i64) λj vals=>nl vals<|nl ext<|bif Z8d i j (List.length (α:=El e) l) then k [⟨.slice e,false,je7 (α:=El e) l i j,[.O]⟩] [] [] else none⟩
theorem jgP {w:World}{F:Nat->Nat}{St:Nat->Prop}{e:Ty}{ms:List Mode}{l:List (El e)}{a0:Bool}{vs:List TVal}{args:List Value}{fps:List (List Nat)}{ads:List Nat}
  (hA:Z0t w F St (.eat (.slice e) false::ms) (⟨.slice e,a0,l,[.O]⟩::vs) args fps ads) :
  ∃ad cap f0 ar fs,args= .slice ad l.length cap::ar/\fps=f0::fs/\l.length<=cap/\Rp w F St (·∈ f0) (.slice e) [.O] [.slice ad l.length cap] l f0/\Z0t w F St ms vs ar fs ads:=by
 cases args with
 |nil=>cases fps<;>exact hA.elim
 |cons x0 ar=>
  cases fps with
  |nil=>exact hA.elim
  |cons f0 fs=>
   obtain⟨hs0,hr0,hA⟩:=hA;obtain⟨ad,cap,hx0,hlc⟩:=Z2A hs0 hr0;subst hx0;exact⟨ad,cap,f0,ar,fs,rfl,rfl,hlc,hr0,hA⟩
theorem jnQ {w:World}{F:Nat->Nat}{St:Nat->Prop}{ms:List Mode}{i:Int}{a0:Bool}{t0:List Tag}{vs:List TVal}{args:List Value}{fps:List (List Nat)}{ads:List Nat}
  (hA:Z0t w F St (.borrow (.int .i64) false::ms) (⟨.int .i64,a0,i,t0⟩::vs) args fps ads) :
  ∃ar fs,args= .int .i64 i::ar/\fps=[]::fs/\Z0t w F St ms vs ar fs ads:=by
 cases args with
 |nil=>cases fps<;>exact hA.elim
 |cons x0 ar=>
  cases fps with
  |nil=>exact hA.elim
  |cons f0 fs=>
   obtain⟨rfl,hs0,hr0,hA⟩:=hA;have hx:=Z9y hs0 hr0;subst hx;exact⟨ar,fs,rfl,rfl,hA⟩
theorem jnR {w:World}{F:Nat->Nat}{St:Nat->Prop}{args:List Value}{fps:List (List Nat)}{ads:List Nat}(hA:Z0t w F St [] [] args fps ads):args=[]/\fps=[]/\ads=[]:=by
 cases args<;>cases fps<;>cases ads<;>first | exact⟨rfl,rfl,rfl⟩ | exact hA.elim
theorem jri {w:World}{F:Nat->Nat}{St:Nat->Prop}{efps:List (List Nat)}(hB:Z1a w F St [] [] efps):efps=[]:=by
 cases efps with
 |nil=>rfl
 |cons=>exact hB.elim
theorem jw2 {P:Program}{S E I B U:TypeId}{e:Ty}{z:Value}(T:SlT P S E I B (size e) z){f:FuncId}{fn:Func}(hf:P.funcs[f]? = some fn)(hb:fn.body=some (jgm S I B U))(hn:fn.ntmps=33)(hr:fn.results= #[.tmp 6])
  (hname : (fn.name == "runtime.NumGoroutine") = false) : Z16 P f (jw1 e) := by
 refine⟨⟨fn,_,hf,hname,hb⟩,λvals ext k r h w F St args ads fps efps hA hB hnd hSt hlt=> ?_⟩
 obtain⟨a0,l,vals,rfl,h3⟩:=Zan h;obtain⟨i,a1,t1,vals,rfl,h4⟩:=Zao h3;obtain⟨j,a2,t2,vals,rfl,h5⟩:=Zao h4;obtain⟨rfl,h6⟩:=Zav h5;obtain⟨rfl,h7⟩:=Zav h6;clear h h3 h4 h5 h6;have h:=h7;clear h7;rw[cond_eq_ite]at h;split at h;rotate_left
 ·cases h
 rename_i hcut;have hcut:=Z76 hcut;change List (El e)at l;obtain⟨ad,cap,f0,ar,fs,rfl,rfl,hlc,hr0,hA1⟩:=jgP (e:=e) (l:=l) hA;obtain⟨ar,fs,rfl,rfl,hA2⟩:=jnQ (i:=i) hA1;obtain⟨ar,fs,rfl,rfl,hA3⟩:=jnQ (i:=j) hA2;obtain⟨rfl,rfl,rfl⟩:=jnR hA3;obtain rfl:=jri hB;simp only[QO,XT,Qe]at hnd hSt hlt ⊢;obtain⟨c0,c1,c2⟩:=hcut;change Int at i;change Int at j;obtain⟨ni,rfl⟩:∃m:Nat,i=(m:Int):=⟨i.toNat,by omega⟩
 obtain⟨nj,rfl⟩:∃m:Nat,j=(m:Int):=⟨j.toNat,by omega⟩
 have hij:ni<=nj:=by omega
 have hjn:nj<=List.length (α:=El e) l:=by omega
 by_cases heq:ni=nj
 ·subst heq;refine(jwQ T hf hb hn hr ad _ cap ni w hjn hlc).mono ?_;rintro e' w' ⟨rfl,rfl⟩;have hd:je7 (α:=El e) l (ni:Int) (ni:Int)=l:=by unfold je7;simp
  rw[hd]at h;exact⟨_,_,_,_,rfl,h,⟨rfl,rfl,rfl⟩,rfl,jx8 (v:=⟨.slice e,false,l,[.O]⟩) hSt (show one _=true from rfl) rfl hr0 hnd λy hy=>hy⟩
 ·obtain⟨t,a,cap',ht,hcs,hlc',hr0⟩:=hr0;cases hcs;cases ht;rcases hr0 with⟨_,_,hl0,_,_⟩ | ⟨_,b,o,fps0,rfl,hal,rfl,hfl,hrow,hF,hel⟩ | ⟨ho,_⟩
  ·exfalso;rw[hl0]at hjn;have:nj<=0:=hjn;omega
  ·obtain⟨us,hux,huf,huR,huc⟩:=jrF hfl hel;have hmk:=hrow.2;obtain⟨⟨cur,tt,fz,hg,hsz,hth⟩,_⟩:=hrow;have hul:us.length=List.length (α:=El e) l:=by rw[<-hux];simp
   have hk1:0<size e\/size e=0:=by omega
   have hmul:∀a c:Nat,a<=c->a * size e<=c * size e:=λa c h=>Qt _ h
   have hcell:∀k (hk:k<us.length),((cur.toList.drop (o+k * size e)).take (size e))=us[k].cs:=λk hk=>by
    have:=huc k hk;unfold Z05 at this;rw[hg]at this;simp only[]at this;split at this
    ·exact Option.some.inj this
    ·cases this
   have hone:∀c∈(cur.toList.drop o).take (List.length (α:=El e) l * size e),one c=true:=λc hc=>by
    have hcc:Z05 w b o (us.length * size e)=some (us.map (·.cs)).flatten\/us.length=0:=by
     rcases Nat.eq_zero_or_pos us.length with h0 | h0
     ·exact .inr h0
     ·exact .inl (Z75 h0 huc)
    rcases hcc with hcc | hcc
    ·unfold Z05 at hcc;rw[hg]at hcc;simp only[]at hcc;split at hcc
     ·rw[hul]at hcc;rw[Option.some.inj hcc]at hc;obtain⟨q,hq,hcq⟩:=X3.1 hc;obtain⟨u,hu,rfl⟩:=X6.1 hq;exact Rp.ones (huR u hu) c hcq
     ·cases hcc
    ·rw[<-hul,hcc,Nat.zero_mul,XX]at hc;cases hc
   have hcapk:=hmul _ _ hlc;refine(jwR T hf hb hn hr (i:=ni) (j:=nj) hg hth hsz hone (by omega) hjn hlc).mono ?_
   rintro e' w' ⟨rfl,hW,hg'⟩;have hus2:(us.take ni++us.drop nj).map (·.x)=je7 (α:=El e) l (ni:Int) (nj:Int):=by
    unfold je7;rw[QU,List.map_take,List.map_drop,hux];rfl
   have hlen2:(us.take ni++us.drop nj).length=ni+(List.length (α:=El e) l-nj):=by
    rw[Q5,Qf,Qu,hul];have:min ni (List.length (α:=El e) l)=ni:=YE (by omega)
    rw[this]
   have hcur:cur.toList.length=cur.size:=by simp
   have hjk:nj * size e+(List.length (α:=El e) l-nj) * size e=List.length (α:=El e) l * size e:=by rw[<-QC,show nj+(List.length (α:=El e) l-nj)=List.length (α:=El e) l by omega]
   have hik:ni * size e+(List.length (α:=El e) l-nj) * size e<=List.length (α:=El e) l * size e:=by rw[<-QC];exact hmul _ _ (by omega)
   have hmv:((cur.toList.drop (o+nj * size e)).take ((List.length (α:=El e) l-nj) * size e)).length=(List.length (α:=El e) l-nj) * size e:=by rw[Qf,Qu];omega
   have hl1:(Z0c cur.toList (o+ni * size e) ((cur.toList.drop (o+nj * size e)).take ((List.length (α:=El e) l-nj) * size e))).length=cur.size:=by
    rw[Z1T (by rw[hmv];omega)];exact hcur
   have hzl:(j0I z (nj-ni)).length=(nj-ni) * size e:=by rw[jgl,T.zk]
   have hzk:(ni+(List.length (α:=El e) l-nj)) * size e+(nj-ni) * size e=List.length (α:=El e) l * size e:=by rw[<-QC,show ni+(List.length (α:=El e) l-nj)+(nj-ni)=List.length (α:=El e) l by omega]
   have hl2:=Z1T (cs:=Z0c cur.toList (o+ni * size e) ((cur.toList.drop (o+nj * size e)).take ((List.length (α:=El e) l-nj) * size e))) (l:=j0I z (nj-ni)) (o:=o+(ni+(List.length (α:=El e) l-nj)) * size e) (by rw[hl1,hzl];omega)
   rw[hl1]at hl2;have hb2:b ∉ fps0.flatten:=(Xx.1 hnd).1;have hfl2:(us.map (·.fp)).flatten=fps0.flatten:=by rw[huf]
   have hsub:(us.take ni++us.drop nj).Sublist us:=by
    conv=>rhs;rw[<-XB ni us]
    refine List.Sublist.append (Y6 _) ?_;rw[show us.drop nj=(us.drop ni).drop (nj-ni) by rw[X9,show ni+(nj-ni)=nj by omega]]
    exact List.drop_sublist _ _
   have hfsub:((us.take ni++us.drop nj).map (·.fp)).flatten.Sublist fps0.flatten:=by
    rw[<-hfl2];exact jiY (hsub.map _)
   have hmem:∀u∈us.take ni++us.drop nj,u∈us:=λu hu=>hsub.subset hu
   have hfin:∀u∈us,∀y∈u.fp,y∈fps0.flatten:=λu hu y hy=>by
    rw[<-hfl2];exact X3.2 ⟨u.fp,Yw hu,hy⟩
   have hbl:b<w.heap.size:=(QV.1 hg).1;have key:=jv2 (w:=w) (w':=w') (F:=F) (St:=St) (Al:=(·∈ b::fps0.flatten)) (ms:=b::fps0.flatten) (b:=b) (o:=o) (cap:=cap) (us:=us.take ni++us.drop nj) hSt (hW.ext (by simp)) ⟨.inr (by simp),by rw[hW.size];exact hbl⟩
    (Xx.2 ⟨λh=>hb2 (hfsub.subset h),hfsub.nodup (Xx.1 hnd).2⟩) (λu hu y hy=>Qa _ (hfin u (hmem u hu) y hy)) (λu hu y hy=>hW.old y λh=>hb2 (h ▸ hfin u (hmem u hu) y hy)) (λu hu=>huR u (hmem u hu))
    (λk hk=>by
     rw[hlen2]at hk;have hkk:(k+1) * size e<=(ni+(List.length (α:=El e) l-nj)) * size e:=hmul _ _ (by omega)
     rw[QC,Xg]at hkk;rw[jl2 hg' (by rw[hl2];omega),j4W (by rw[hl1];omega) (by omega)]
     by_cases hki:k<ni
     ·have hkk2:(k+1) * size e<=ni * size e:=hmul _ _ (by omega)
      rw[QC,Xg]at hkk2;rw[j4W (by omega) (by omega),hcell k (by omega)]
      rw[Xw (by rw[Qf];omega),Y7]
     ·have hq:k-ni<us.length-nj:=by omega
      have e1:k * size e=ni * size e+(k-ni) * size e:=by rw[<-QC,show ni+(k-ni)=k by omega]
      have hkk3:(k-ni+1) * size e<=(List.length (α:=El e) l-nj) * size e:=hmul _ _ (by omega)
      rw[QC,Xg]at hkk3;rw[jeK (by omega) (by omega) (by rw[hmv];omega),show o+k * size e-(o+ni * size e)=(k-ni) * size e by omega,Yz,X9,List.take_take,YE (by omega),show o+nj * size e+(k-ni) * size e=o+(nj+(k-ni)) * size e by rw[QC];omega,hcell (nj+(k-ni)) (by omega)]
      rw[Xh (by rw[Qf];omega),YH]
      congr 3;rw[Qf,YE (by omega)])
    (by rw[hlen2];omega) ⟨⟨_,tt,fz,hg',by rw[QI,hl2];exact hsz,λq hq=>hth q (by rw[QI,hl2]at hq;exact hq)⟩,hmk.imp id λhm=>hm.same hg hg' (by rw[QI,hl2])⟩
   rw[hus2,hlen2]at key;exact⟨_,_,_,_,rfl,h,⟨rfl,rfl,rfl⟩,rfl,key⟩
  ·cases ho
end Go.PI
namespace Go.PI
open Go
def j8R (S E I B U T:TypeId):Code:=
(.seq (.region 0 #[⟨(some 4), .assign (.const (.int .i64 0)), I, "slices.go:107", #[], none⟩] false)
 (.seq (.seq (.region 1 #[⟨(some 6), .move (.tmp 0), S, "slices.go:108", #[], none⟩,
  ⟨(some 7), .call ⟨(.builtin .len), #[(.tmp 6)], #[S]⟩, I, "slices.go:108", #[⟨0, .data⟩], none⟩,
  ⟨(some 8), .move (.const (.int .i64 0)), I, "slices.go:108", #[], none⟩] false)
 (.block 0 (.loop (.seq (.region 2 #[⟨(some 9), .binOp .lss I (.tmp 8) (.tmp 7) I, U, "slices.go:108", #[], none⟩] false)
 (.seq (.cond (.tmp 9)
  .skip
  (.exit 0))
 (.seq (.block 1 (.seq (.region 3 #[⟨(some 10), .move (.tmp 8), I, "slices.go:108", #[], none⟩,
  ⟨(some 5), .assign (.tmp 10), I, "slices.go:108", #[⟨0, .data⟩, ⟨0, .phase⟩], none⟩] false)
 (.seq (.region 4 #[⟨(some 11), .move (.tmp 1), T, "slices.go:109", #[], none⟩,
  ⟨(some 12), .move (.tmp 0), S, "slices.go:109", #[], none⟩,
  ⟨(some 13), .move (.tmp 5), I, "slices.go:109", #[], none⟩,
  ⟨(some 14), .indexAddr S (.tmp 12) (.tmp 13), U, "slices.go:109", #[⟨1, .data⟩, ⟨2, .data⟩], none⟩,
  ⟨(some 15), .load E (.tmp 14), E, "slices.go:109", #[⟨3, .data⟩], none⟩,
  ⟨(some 16), .call ⟨(.value (.tmp 11)), #[(.tmp 15)], #[E]⟩, B, "slices.go:109", #[⟨0, .data⟩, ⟨4, .data⟩], none⟩] false)
 (.cond (.tmp 16)
  (.seq (.region 5 #[⟨(some 17), .move (.tmp 5), I, "slices.go:110", #[], none⟩,
   ⟨(some 4), .assign (.tmp 17), I, "slices.go:110", #[⟨0, .data⟩, ⟨0, .phase⟩], none⟩] false)
  .ret)
  .skip))))
 (.region 6 #[⟨(some 18), .binOp .add I (.tmp 8) (.const (.int .i64 1)) I, I, "slices.go:108", #[], none⟩,
  ⟨(some 8), .move (.tmp 18), I, "slices.go:108", #[⟨0, .data⟩], none⟩] false)))))))
 (.seq (.region 7 #[⟨(some 4), .assign (.const (.int .i64 (-1))), I, "slices.go:113", #[], none⟩] false)
 .ret)))
def jjv (S E I B U T:TypeId)(fx:FuncId):Code:=
(.seq (.region 0 #[⟨(some 4), .assign (.const (.slice none 0 0)), S, "slices.go:241", #[], none⟩] false)
 (.seq (.region 1 #[⟨(some 8), .move (.tmp 0), S, "slices.go:242", #[], none⟩,
  ⟨(some 9), .move (.tmp 1), T, "slices.go:242", #[], none⟩,
  ⟨(some 10), .call ⟨(.value (.func fx)), #[(.tmp 8), (.tmp 9)], #[S, T]⟩, I, "slices.go:242", #[⟨0, .data⟩, ⟨1, .data⟩], none⟩,
  ⟨(some 5), .assign (.tmp 10), I, "slices.go:242", #[⟨2, .data⟩, ⟨2, .chain⟩, ⟨0, .phase⟩, ⟨1, .phase⟩, ⟨2, .phase⟩], none⟩] false)
 (.seq (.seq (.region 2 #[⟨(some 11), .move (.tmp 5), I, "slices.go:243", #[], none⟩,
  ⟨(some 12), .binOp .eql I (.tmp 11) (.const (.int .i64 (-1))) I, B, "slices.go:243", #[⟨0, .data⟩], none⟩] false)
 (.cond (.tmp 12)
  (.seq (.region 3 #[⟨(some 13), .move (.tmp 0), S, "slices.go:244", #[], none⟩,
   ⟨(some 4), .assign (.tmp 13), S, "slices.go:244", #[⟨0, .data⟩, ⟨0, .phase⟩], none⟩] false)
  .ret)
  .skip))
 (.seq (.seq (.region 4 #[⟨(some 14), .move (.tmp 5), I, "slices.go:247", #[], none⟩,
  ⟨(some 15), .binOp .add I (.tmp 14) (.const (.int .i64 1)) I, I, "slices.go:247", #[⟨0, .data⟩], none⟩,
  ⟨(some 6), .assign (.tmp 15), I, "slices.go:247", #[⟨1, .data⟩, ⟨0, .phase⟩, ⟨1, .phase⟩], none⟩] false)
 (.block 0 (.loop (.seq (.seq (.region 5 #[⟨(some 16), .move (.tmp 6), I, "slices.go:247", #[], none⟩,
  ⟨(some 17), .move (.tmp 0), S, "slices.go:247", #[], none⟩,
  ⟨(some 18), .call ⟨(.builtin .len), #[(.tmp 17)], #[S]⟩, I, "slices.go:247", #[⟨1, .data⟩], none⟩,
  ⟨(some 19), .binOp .lss I (.tmp 16) (.tmp 18) I, B, "slices.go:247", #[⟨0, .data⟩, ⟨2, .data⟩], none⟩] false)
 (.cond (.tmp 19)
  .skip
  (.exit 0)))
 (.seq (.block 1 (.seq (.region 7 #[⟨(some 22), .move (.tmp 0), S, "slices.go:248", #[], none⟩,
  ⟨(some 23), .move (.tmp 6), I, "slices.go:248", #[], none⟩,
  ⟨(some 24), .indexAddr S (.tmp 22) (.tmp 23), U, "slices.go:248", #[⟨0, .data⟩, ⟨1, .data⟩], none⟩,
  ⟨(some 25), .load E (.tmp 24), E, "slices.go:248", #[⟨2, .data⟩], none⟩,
  ⟨(some 7), .assign (.tmp 25), E, "slices.go:248", #[⟨3, .data⟩, ⟨0, .phase⟩, ⟨1, .phase⟩, ⟨2, .phase⟩, ⟨3, .phase⟩], none⟩] false)
 (.seq (.region 8 #[⟨(some 26), .move (.tmp 1), T, "slices.go:248", #[], none⟩,
  ⟨(some 27), .move (.tmp 7), E, "slices.go:248", #[], none⟩,
  ⟨(some 28), .call ⟨(.value (.tmp 26)), #[(.tmp 27)], #[E]⟩, B, "slices.go:248", #[⟨0, .data⟩, ⟨1, .data⟩], none⟩,
  ⟨(some 29), .unOp .not B (.tmp 28), B, "slices.go:248", #[⟨2, .data⟩], none⟩] false)
 (.cond (.tmp 29)
  (.seq (.region 9 #[⟨(some 30), .move (.tmp 0), S, "slices.go:249", #[], none⟩,
   ⟨(some 31), .move (.tmp 5), I, "slices.go:249", #[], none⟩,
   ⟨(some 32), .move (.tmp 7), E, "slices.go:249", #[], none⟩,
   ⟨(some 33), .indexAddr S (.tmp 30) (.tmp 31), U, "slices.go:249", #[⟨0, .data⟩, ⟨1, .data⟩, ⟨0, .phase⟩, ⟨1, .phase⟩, ⟨2, .phase⟩], none⟩,
   ⟨none, .store E (.tmp 33) (.tmp 32), U, "slices.go:249", #[⟨3, .data⟩, ⟨2, .data⟩, ⟨0, .phase⟩, ⟨1, .phase⟩, ⟨2, .phase⟩], none⟩] false)
  (.region 10 #[⟨(some 34), .move (.tmp 5), I, "slices.go:250", #[], none⟩,
   ⟨(some 35), .binOp .add I (.tmp 34) (.const (.int .i64 1)) I, I, "slices.go:250", #[⟨0, .data⟩], none⟩,
   ⟨(some 5), .assign (.tmp 35), I, "slices.go:250", #[⟨1, .data⟩, ⟨0, .phase⟩, ⟨1, .phase⟩], none⟩] false))
  .skip))))
 (.region 6 #[⟨(some 20), .move (.tmp 6), I, "slices.go:247", #[], none⟩,
  ⟨(some 21), .binOp .add I (.tmp 20) (.const (.int .i64 1)) I, I, "slices.go:247", #[⟨0, .data⟩], none⟩,
  ⟨(some 6), .assign (.tmp 21), I, "slices.go:247", #[⟨1, .data⟩, ⟨0, .phase⟩, ⟨1, .phase⟩], none⟩] false))))))
 (.seq (.region 11 #[⟨(some 36), .move (.tmp 0), S, "slices.go:253", #[], none⟩,
  ⟨(some 37), .move (.tmp 5), I, "slices.go:253", #[], none⟩,
  ⟨(some 38), .slice S (.tmp 36) (some (.tmp 37)) none none, S, "slices.go:253", #[⟨0, .data⟩, ⟨1, .data⟩], none⟩,
  ⟨none, .call ⟨(.builtin .clear), #[(.tmp 38)], #[S]⟩, U, "slices.go:253", #[⟨2, .data⟩], none⟩] false)
 (.seq (.region 12 #[⟨(some 39), .move (.tmp 0), S, "slices.go:254", #[], none⟩,
  ⟨(some 40), .move (.tmp 5), I, "slices.go:254", #[], none⟩,
  ⟨(some 41), .slice S (.tmp 39) none (some (.tmp 40)) none, S, "slices.go:254", #[⟨0, .data⟩, ⟨1, .data⟩], none⟩,
  ⟨(some 4), .assign (.tmp 41), S, "slices.go:254", #[⟨2, .data⟩, ⟨0, .phase⟩, ⟨1, .phase⟩, ⟨2, .phase⟩], none⟩] false)
 .ret))))))
section
variable {P:Program}{S E I B U T:TypeId}{z:Value}{α:Type}[Inhabited α]
theorem jyh {w:World}{b:Nat}{c:Array Value}{t:TypeId}{fz:Nat×Nat}(hg:w.heap[b]? = some (.cells c t fz))(ht:Z3Z c fz){j:Nat}(h:j<c.size):w.frozen? ⟨b,j,none⟩=false:=by
 have:=ht j h;simp[World.frozen?,hg];omega
structure Kept {α:Type}[Inhabited α](enc:α->Value)(p:α->Bool)(l:List α)(off:Nat)(cur:Array Value)(t:TypeId)(fz:Nat×Nat)(b i j:Nat)(wr:World):Prop where
 cells:∃ck:Array Value,wr.heap[b]? = some (.cells ck t fz)/\ck.size=cur.size/\(∀q,q<i->ck[off+q]? = some (enc ((l.take j).filter λx=> !p x)[q]!))/\∀q,i<=q->q<l.length->ck[off+q]? = some (enc l[q]!)
 lt:i<j
 len:((l.take j).filter λx=> !p x).length=i
end
end Go.PI
namespace Go.PI
open Go
section
variable {P:Program}{S E I B U T:TypeId}{z:Value}
end
theorem jp0 {w:World}{F:Nat->Nat}{St:Nat->Prop}{g:FuncId}{τ:Ty}{args:List Value}{fps:List (List Nat)}{ads:List Nat}(hA:Z0t w F St [.clos g [τ]] [] args fps ads) :
  ∃l,args=[.func (.func g) #[] #[.pointer (some ⟨l,0,none⟩)]]/\fps=[]/\ads=[l]:=by
 cases args with
 |nil=>cases fps<;>cases ads<;>exact hA.elim
 |cons x0 ar=>
  obtain⟨⟨h1,h2⟩,h3⟩:=hA;cases ads with
  |nil=>simp at h1
  |cons l ls=>
   obtain⟨rfl,rfl,h4⟩:=jnR h3;cases ls with
   |cons a b=>simp at h4
   |nil=>exact⟨l,by rw[h2];rfl,rfl,rfl⟩
end Go.PI
namespace Go.PI
def jiP {α:Type}(l:List α)(i:Int)(v:List α):List α:=l.take i.toNat++v++l.drop i.toNat
noncomputable def jnV (i:Int)(n m:Nat):Bool:=decide (0<=i/\i<=(n:Int)/\0<m/\n+m<=LIM)
def dgE {α:Type}(g:α->(Bool->Res)->Res):List α->List α->(List α->Res)->Res
 | [],acc,k=>k acc
 |x::l,acc,k=>g x λb=>dgE g l (bif b then acc else acc++[x]) k
end Go.PI
