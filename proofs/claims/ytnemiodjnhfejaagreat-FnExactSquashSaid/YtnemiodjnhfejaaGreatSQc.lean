/-
  Program's code interpreted over typed values; printed texts; plain laws. No conditions.
-/
import Derived.Test.YtnemiodjnhfejaaGreatSQb
import Derived.Test.YtnemiodjnhfejaaGreatSQa
import Derived.Test.YtnemiodjnhfejaaGreatProg
set_option linter.unusedVariables false
namespace Go.PI
open Go
section
variable {P:Program} {w:World} {tys:List (TypeId×Ty×List TypeId)}
theorem jbA (hT:Z0e P tys) {E:TypeId} {e:Ty} {fl:List TypeId} (ht:Z0o tys E=some (e,fl)) {ops:Array Oper} {rest:List Oper} {o:Oper} {a:Act} {Q:Exit->Act->World->Prop} (hgd:o.guard=none) {x:Operand} (ho:o.op= .load E x)
  {b off:Nat} {cs:List Value} (hx:a.eval x= .pointer (some ⟨b,off,none⟩)) (hc:Z05 w b off (size e)=some cs) (h:wpList P ops Q rest (a.put o.dst (Z0K (!fl.isEmpty) cs)) w):wpList P ops Q (o::rest) a w:=
 wpList_plain hgd λK hK=>by
  have hl:=Z1Y hT ht hc
  unfold Oper.wp
  have hr:(execOp a.eval o).run P w= .ok (.value (Z0K (!fl.isEmpty) cs)) w:=by
   rw [Z03 ho]
   simp only [execOp,hx,Instr.loadAt,Instr.sureAddr,Sem.run_bind,Sem.run_pure,Result.andThen_ok,hl]
  rw [hr]
  exact hK _ _ h
theorem ji3 (hT:Z0e P tys) {E:TypeId} {e:Ty} {fl:List TypeId} (ht:Z0o tys E=some (e,fl)) {ops:Array Oper} {rest:List Oper} {o:Oper} {a:Act} {Q:Exit->Act->World->Prop} (hgd:o.guard=none) {x y:Operand} (ho:o.op= .store E y x)
  {b off:Nat} {v:Value} {cur:Array Value} {T:TypeId} {fz:Nat×Nat} (hy:a.eval y= .pointer (some ⟨b,off,none⟩)) (hx:a.eval x=v) (hg:w.heap[b]? = some (.cells cur T fz)) (hfz:Z40 cur fz) {cs:List Value} (hcs:v.cells.toList=cs) (hv:cs.length=size e) (hb:off+size e<=cur.size) (h1:∀ c∈cs,one c=true)
  (h:wpList P ops Q rest (a.put o.dst undef) (w.setRow b (Z0c cur.toList off cs).toArray)):wpList P ops Q (o::rest) a w:=
 wpList_plain hgd λK hK=>by
  subst hcs
  have hl:=Z49 hT ht (w:=w) hg hfz (by rw [<-Array.length_toList];exact hv) hb h1
  unfold Oper.wp
  have hr:(execOp a.eval o).run P w= .ok .skip (w.setRow b (Z0c cur.toList off v.cells.toList).toArray):=by
   rw [Z03 ho]
   simp only [execOp,hy,hx,Sem.run_bind,hl,Result.andThen_ok,Sem.run_pure]
  rw [hr]
  exact hK _ _ h
end
section
variable {P:Program} {S E I B U T:TypeId} {z:Value} {tys:List (TypeId×Ty×List TypeId)} {e:Ty} {fl:List TypeId}
def jol (P:Program) (g:FuncId) (lb:Array Value) (ag:Bool) (us:List (Elem e)) (D:Nat->List (Elem e)->Prop) (W:World):Prop:=
 ∀ j (h:j<us.length) acc,D j acc->Calls P g (#[Z0K ag us[j].cs]++lb) W λx w'=>∃ bb,x= .returned (.bool bb)/\D (j+1) (bif bb then acc else acc++[us[j]])/\Ext (λ_=>False) W w'
theorem j8r {M:Nat->Prop} {w1 w2 w3:World} (h:Ext M w1 w2) (k:Ext (λ_=>False) w2 w3):Ext M w1 w3:=
 ⟨k.os.trans h.os,k.tape.trans h.tape,k.output.trans h.output,Nat.le_trans h.size k.size,λy hy hm=>(k.block y (Nat.lt_of_lt_of_le hy h.size) λh=>h).trans (h.block y hy hm)⟩
set_option maxHeartbeats 2000000 in
theorem jrK (L:SlT P S E I B (size e) z) (hT:Z0e P tys) (ht:Z0o tys E=some (e,fl)) (aT:∀ w,(isAgg T).run P w= .ok false w) (zT:∀ w,(sizeOf T).run P w= .ok 1 w) {f:Nat} {fn:Func} (hf:P.funcs[f]? = some fn) (hb:fn.body=some (jcP S E I B U T)) (hn:fn.ntmps=19) (hr:fn.results= #[.tmp 4])
  (g:Nat) (lb:Array Value) (eg:∀ args w,(callFunc g args).run P w= .ok (.enter g args) w) (b off n c:Nat) (us:List (Elem e)) (D:Nat->List (Elem e)->Prop) (w:World) (hp:∀ W,Ext (λ_=>False) w W->jol P g lb (!fl.isEmpty) us D W) (hD:D 0 []) (hz:us.length=n) (hbig:n<=9223372036854775807) (hbw:b<w.heap.size)
  (hc:∀ j (h:j<us.length),Z05 w b (off+j * size e) (size e)=some us[j].cs) :
  Calls P f #[.slice (some ⟨b,off,none⟩) n c,.func (.func g) #[] lb] w λx w'=>Ext (λ_=>False) w w'/\((x= .returned (.int .i64 (-1))/\D n us)\/∃ k,k<n/\x= .returned (.int .i64 (k:Nat))/\D (k+1) (us.take k)):=by
 have mixed:=L.mixed;have tS:=L.tS;have aS:=L.aS;have zS:=L.zS;have vS:=L.vS;have tI:=L.tI;have aI:=L.aI;have zI:=L.zI;have tB:=L.tB;have aB:=L.aB;have zB:=L.zB;have zE:=L.zE
 refine calls_of_wp hf hb ?_
 simp only [hn,List.size_toArray,List.length_cons,List.length_nil,Nat.reduceAdd,Nat.reduceSub,Array.replicate_succ,Array.replicate_zero,List.push_toArray,List.append_toArray,List.nil_append,List.cons_append]
 unfold jcP
 go_wp2
 go_loopg [5,8] n (λgg _ s8 wr=>∃ kk:Nat,kk<=n/\n-kk<=gg/\s8= .int .i64 kk/\Aside (Ext (λ_=>False) w wr)/\Aside (D kk (us.take kk)))
 case atStart=>exact ⟨0,Nat.zero_le _,by omega,rfl,(Ext.refl _ w:Aside _),(show Aside _ from (by rw [List.take_zero];exact hD))⟩
 case round=>
  obtain ⟨kk,hkk,hg,rfl,X,A⟩:=hrel
  by_cases hlt:kk<n
  ·have hltz:(kk:Int)<(n:Int):=by omega
   have hku:kk<us.length:=by omega
   have hcell:Z05 wr b (off+kk * size e) (size e)=some us[kk].cs:=by
    rw [Z10 (X.out.block b hbw λh=>h)]
    exact hc kk hku
   have hcall:=hp wr X.out kk hku _ A.out
   have HC:Aside (∀ j (h:j<us.length),Z05 w b (off+j * size e) (size e)=some us[j].cs):=hc
   have HP:Aside (∀ W,Ext (λ_=>False) w W->jol P g lb (!fl.isEmpty) us D W):=hp
   have etk:us.take (kk+1)=us.take kk++[us[kk]]:=List.take_succ_eq_append_getElem hku
   have HE:Aside (us.take (kk+1)=us.take kk++[us[kk]]):=etk
   clear hc hp etk
   generalize hy:us[kk]=y at hcell hcall
   have HY:Aside (us[kk]=y):=hy
   clear hy
   go_wp2_with (first
    | (refine jbA hT ht rfl rfl rfl hcell ?_)
    | (refine hcall.mono ?_;rintro x w' ⟨bb,rfl,hD',hX'⟩;cases bb))
   all_goals first
    | exact bodyPost_ret (results_tmp hr _ _ _) rfl ⟨j8r X.out hX',.inr ⟨kk,hlt,rfl,hD'⟩⟩
    | skip
   go_roundg (n-(kk+1))
   case measure=>omega
   case rel=>
    refine ⟨kk+1,by omega,by omega,?_,(show Aside _ from j8r X.out hX'),(show Aside _ from ?_)⟩
    ·go_num
    ·rw [HE.out,HY.out]
     exact hD'
  ·have hltz:¬ (kk:Int)<(n:Int):=by omega
   have:kk=n:=by omega
   subst this
   go_wp2
   refine bodyPost_ret (results_tmp hr _ _ _) rfl ⟨X.out,.inl ⟨rfl,?_⟩⟩
   have:=A.out
   rwa [List.take_of_length_le (by omega)] at this
structure KeptG (us:List (Elem e)) (D:Nat->List (Elem e)->Prop) (off:Nat) (cur:Array Value) (t:TypeId) (fz:Nat×Nat) (b i j:Nat) (wr:World):Prop where
 out:∃ (ka:List (Elem e)) (ck:Array Value),ka.length=i/\D j ka/\ka.Sublist (us.take j)/\wr.heap[b]? = some (.cells ck t fz)/\ck.size=cur.size/\(∀ q (h:q<ka.length),(ck.toList.drop (off+q * size e)).take (size e)=ka[q].cs) /\
  ∀ q (h:q<us.length),i<=q->(ck.toList.drop (off+q * size e)).take (size e)=us[q].cs
 lt:i<j
theorem jqj {ag:Bool} {cs:List Value} (h1:∀ c∈cs,one c=true) (ha:ag=false->cs.length=1):(Z0K ag cs).cells.toList=cs:=by
 cases ag with
 | true=>simp [Z0K,Value.cells]
 | false=>
  have hl:=ha rfl
  match cs,hl with
  | [c],_=>
   have:=h1 c (by simp)
   simp only [Z0K,List.headD_cons,Bool.false_eq_true,if_false]
   have h2:=Z8P this
   cases c<;>simp_all [Value.oneCell',Value.cells]
theorem jsQ (L:SlT P S E I B (size e) z) (aT:∀ w,(isAgg T).run P w= .ok false w) (zT:∀ w,(sizeOf T).run P w= .ok 1 w) {f:Nat} {fn:Func} (hf:P.funcs[f]? = some fn) (hb:fn.body=some (jcP S E I B U T)) (hn:fn.ntmps=19) (hr:fn.results= #[.tmp 4])
  (g:Nat) (lb:Array Value) (ad:Option Addr) (c:Nat) (w:World):Calls P f #[.slice ad 0 c,.func (.func g) #[] lb] w λx w'=>x= .returned (.int .i64 (-1))/\w'=w:=by
 have mixed:=L.mixed;have tS:=L.tS;have aS:=L.aS;have zS:=L.zS;have vS:=L.vS;have tI:=L.tI;have aI:=L.aI;have zI:=L.zI;have tB:=L.tB;have aB:=L.aB;have zB:=L.zB;have zE:=L.zE
 refine calls_of_wp hf hb ?_
 simp only [hn,List.size_toArray,List.length_cons,List.length_nil,Nat.reduceAdd,Nat.reduceSub,Array.replicate_succ,Array.replicate_zero,List.push_toArray,List.append_toArray,List.nil_append,List.cons_append]
 unfold jcP
 go_wp2
 go_loopg [5,8] 0 (λgg _ s8 wr=>s8= .int .i64 0/\wr=w)
 case atStart=>exact ⟨rfl,rfl⟩
 case round=>
  obtain ⟨rfl,rfl⟩:=hrel
  go_wp2
  exact bodyPost_ret (results_tmp hr _ _ _) rfl ⟨rfl,rfl⟩
end
end Go.PI
namespace Go.PI
open Go
def je5 (S E I B U T:TypeId) (fx:FuncId):Code:=
(.seq (.region 0 #[⟨(some 4), .assign (.const (.slice none 0 0)), S, "slices.go:241", #[], none⟩] false)
 (.seq (.region 1 #[⟨(some 8), .move (.tmp 0), S, "slices.go:242", #[], none⟩,
  ⟨(some 9), .move (.tmp 1), T, "slices.go:242", #[], none⟩,
  ⟨(some 10), .call ⟨(.value (.func fx)), #[(.tmp 8), (.tmp 9)], #[S, T]⟩, I, "slices.go:242", #[⟨0, .data⟩, ⟨1, .data⟩], none⟩,
  ⟨(some 5), .assign (.tmp 10), I, "slices.go:242", #[⟨2, .data⟩, ⟨2, .chain⟩, ⟨0, .phase⟩, ⟨1, .phase⟩, ⟨2, .phase⟩], none⟩] false)
 (.seq (.seq (.region 2 #[⟨(some 11), .move (.tmp 5), I, "slices.go:243", #[], none⟩,
  ⟨(some 12), .binOp .eql I (.tmp 11) (.const (.int .i64 (-1))) I, B, "slices.go:243", #[⟨0, .data⟩], none⟩] false)
 (.cond (.tmp 12)
  (.seq (.region 3 #[⟨(some 13), .move (.tmp 0), S, "slices.go:244", #[], none⟩,
   ⟨(some 4), .assign (.tmp 13), S, "slices.go:244", #[⟨0, .data⟩, ⟨0, .phase⟩], none⟩] false)
  .ret)
  .skip))
 (.seq (.seq (.region 4 #[⟨(some 14), .move (.tmp 5), I, "slices.go:247", #[], none⟩,
  ⟨(some 15), .binOp .add I (.tmp 14) (.const (.int .i64 1)) I, I, "slices.go:247", #[⟨0, .data⟩], none⟩,
  ⟨(some 6), .assign (.tmp 15), I, "slices.go:247", #[⟨1, .data⟩, ⟨0, .phase⟩, ⟨1, .phase⟩], none⟩] false)
 (.block 0 (.loop (.seq (.seq (.region 5 #[⟨(some 16), .move (.tmp 6), I, "slices.go:247", #[], none⟩,
  ⟨(some 17), .move (.tmp 0), S, "slices.go:247", #[], none⟩,
  ⟨(some 18), .call ⟨(.builtin .len), #[(.tmp 17)], #[S]⟩, I, "slices.go:247", #[⟨1, .data⟩], none⟩,
  ⟨(some 19), .binOp .lss I (.tmp 16) (.tmp 18) I, B, "slices.go:247", #[⟨0, .data⟩, ⟨2, .data⟩], none⟩] false)
 (.cond (.tmp 19)
  .skip
  (.exit 0)))
 (.seq (.block 1 (.seq (.region 7 #[⟨(some 22), .move (.tmp 0), S, "slices.go:248", #[], none⟩,
  ⟨(some 23), .move (.tmp 6), I, "slices.go:248", #[], none⟩,
  ⟨(some 24), .indexAddr S (.tmp 22) (.tmp 23), U, "slices.go:248", #[⟨0, .data⟩, ⟨1, .data⟩], none⟩,
  ⟨(some 25), .load E (.tmp 24), E, "slices.go:248", #[⟨2, .data⟩], none⟩,
  ⟨(some 7), .alloc E, U, "slices.go:248", #[], none⟩,
  ⟨none, .store E (.tmp 7) (.tmp 25), U, "slices.go:248", #[⟨4, .data⟩, ⟨3, .data⟩, ⟨0, .phase⟩, ⟨1, .phase⟩, ⟨2, .phase⟩, ⟨3, .phase⟩, ⟨4, .phase⟩], none⟩] false)
 (.seq (.region 8 #[⟨(some 26), .move (.tmp 1), T, "slices.go:248", #[], none⟩,
  ⟨(some 27), .load E (.tmp 7), E, "slices.go:248", #[], none⟩,
  ⟨(some 28), .call ⟨(.value (.tmp 26)), #[(.tmp 27)], #[E]⟩, B, "slices.go:248", #[⟨0, .data⟩, ⟨1, .data⟩], none⟩,
  ⟨(some 29), .unOp .not B (.tmp 28), B, "slices.go:248", #[⟨2, .data⟩], none⟩] false)
 (.cond (.tmp 29)
  (.seq (.region 9 #[⟨(some 30), .move (.tmp 0), S, "slices.go:249", #[], none⟩,
   ⟨(some 31), .move (.tmp 5), I, "slices.go:249", #[], none⟩,
   ⟨(some 32), .load E (.tmp 7), E, "slices.go:249", #[], none⟩,
   ⟨(some 33), .indexAddr S (.tmp 30) (.tmp 31), U, "slices.go:249", #[⟨0, .data⟩, ⟨1, .data⟩, ⟨0, .phase⟩, ⟨1, .phase⟩, ⟨2, .phase⟩], none⟩,
   ⟨none, .store E (.tmp 33) (.tmp 32), U, "slices.go:249", #[⟨3, .data⟩, ⟨2, .data⟩, ⟨0, .phase⟩, ⟨1, .phase⟩, ⟨2, .phase⟩], none⟩] false)
  (.region 10 #[⟨(some 34), .move (.tmp 5), I, "slices.go:250", #[], none⟩,
   ⟨(some 35), .binOp .add I (.tmp 34) (.const (.int .i64 1)) I, I, "slices.go:250", #[⟨0, .data⟩], none⟩,
   ⟨(some 5), .assign (.tmp 35), I, "slices.go:250", #[⟨1, .data⟩, ⟨0, .phase⟩, ⟨1, .phase⟩], none⟩] false))
  .skip))))
 (.region 6 #[⟨(some 20), .move (.tmp 6), I, "slices.go:247", #[], none⟩,
  ⟨(some 21), .binOp .add I (.tmp 20) (.const (.int .i64 1)) I, I, "slices.go:247", #[⟨0, .data⟩], none⟩,
  ⟨(some 6), .assign (.tmp 21), I, "slices.go:247", #[⟨1, .data⟩, ⟨0, .phase⟩, ⟨1, .phase⟩], none⟩] false))))))
 (.seq (.region 11 #[⟨(some 36), .move (.tmp 0), S, "slices.go:253", #[], none⟩,
  ⟨(some 37), .move (.tmp 5), I, "slices.go:253", #[], none⟩,
  ⟨(some 38), .slice S (.tmp 36) (some (.tmp 37)) none none, S, "slices.go:253", #[⟨0, .data⟩, ⟨1, .data⟩], none⟩,
  ⟨none, .call ⟨(.builtin .clear), #[(.tmp 38)], #[S]⟩, U, "slices.go:253", #[⟨2, .data⟩], none⟩] false)
 (.seq (.region 12 #[⟨(some 39), .move (.tmp 0), S, "slices.go:254", #[], none⟩,
  ⟨(some 40), .move (.tmp 5), I, "slices.go:254", #[], none⟩,
  ⟨(some 41), .slice S (.tmp 39) none (some (.tmp 40)) none, S, "slices.go:254", #[⟨0, .data⟩, ⟨1, .data⟩], none⟩,
  ⟨(some 4), .assign (.tmp 41), S, "slices.go:254", #[⟨2, .data⟩, ⟨0, .phase⟩, ⟨1, .phase⟩, ⟨2, .phase⟩], none⟩] false)
 .ret))))))
section
variable {P:Program} {S E I B U T:TypeId} {z:Value} {tys:List (TypeId×Ty×List TypeId)} {e:Ty} {fl:List TypeId}
theorem jpw (w:World) (C:Array Value) (E:TypeId):Ext (λ_=>False) w (w.alloc (.cells C E))/\w.heap.size<(w.alloc (.cells C E)).heap.size/\(w.alloc (.cells C E)).heap[w.heap.size]? = some (.cells C E (0,0)):=by
 have h1:(w.alloc (.cells C E)).heap=w.heap.push (.cells C E):=rfl
 refine ⟨⟨rfl,rfl,rfl,?_,λy hy _=> ?_⟩,?_,?_⟩
 ·rw [h1];simp
 ·rw [h1,Array.getElem?_push,if_neg (by omega)]
 ·rw [h1];simp
 ·rw [h1];simp
theorem joj {w:World} (vE:∀ w,(zeroValue E).run P w= .ok z w) {ops:Array Oper} {rest:List Oper} {o:Oper} {a:Act} {Q:Exit->Act->World->Prop} (hgd:o.guard=none) (ho:o.op= .alloc E)
  (h:wpList P ops Q rest (a.put o.dst (.pointer (some ⟨w.heap.size,0,none⟩))) (w.alloc (.cells z.cells E))):wpList P ops Q (o::rest) a w:=
 wpList_plain hgd λK hK=>by
  unfold Oper.wp
  have hr:(execOp a.eval o).run P w= .ok (.value (.pointer (some ⟨w.heap.size,0,none⟩))) (w.alloc (.cells z.cells E)):=by
   rw [Z03 ho]
   simp [execOp,Instr.alloc,vE w,newVar,newRow]
  rw [hr]
  exact hK _ _ h
set_option maxHeartbeats 4000000 in
theorem jrC (L:SlT P S E I B (size e) z) (hT:Z0e P tys) (ht:Z0o tys E=some (e,fl)) (aE:∀ w,(isAgg E).run P w= .ok (!fl.isEmpty) w) (aT:∀ w,(isAgg T).run P w= .ok false w) (zT:∀ w,(sizeOf T).run P w= .ok 1 w) {fx:Nat} {fnx:Func} (hfx:P.funcs[fx]? = some fnx) (hbx:fnx.body=some (jcP S E I B U T)) (hnx:fnx.ntmps=19) (hrx:fnx.results= #[.tmp 4])
  (ex:∀ args w,(callFunc fx args).run P w= .ok (.enter fx args) w)
  {f:Nat} {fn:Func} (hf:P.funcs[f]? = some fn) (hb:fn.body=some (je5 S E I B U T fx)) (hn:fn.ntmps=42) (hr:fn.results= #[.tmp 4])
  (g:Nat) (lb:Array Value) (eg:∀ args w,(callFunc g args).run P w= .ok (.enter g args) w) (b off n c:Nat) (us:List (Elem e)) (D:Nat->List (Elem e)->Prop) (w:World) (hp:∀ W,Ext (·= b) w W->jol P g lb (!fl.isEmpty) us D W) (hD:D 0 []) (hz:us.length=n)
  {cur:Array Value} {t:TypeId} {fz:Nat×Nat} (hg:w.heap[b]? = some (.cells cur t fz)) (hfz:Z40 cur fz) (hs:off+c * size e<=cur.size) (hlc:n<=c) (hbig:n<=9223372036854775807) (h1:∀ u∈us,∀ c∈u.cs,one c=true) (hcl:∀ u∈us,u.cs.length=size e) (hag:fl.isEmpty=true->size e=1) (hkp:0<size e)
  (hc:∀ j (h:j<us.length),(cur.toList.drop (off+j * size e)).take (size e)=us[j].cs) :
  Calls P f #[.slice (some ⟨b,off,none⟩) n c,.func (.func g) #[] lb] w λx w'=>∃ ka:List (Elem e),x= .returned (.slice (some ⟨b,off,none⟩) ka.length c)/\D n ka/\ka.Sublist us/\Ext (·= b) w w' /\
   ∃ ck:Array Value,w'.heap[b]? = some (.cells ck t fz)/\ck.size=cur.size/\∀ q (h:q<ka.length),(ck.toList.drop (off+q * size e)).take (size e)=ka[q].cs:=by
 have mixed:=L.mixed;have tS:=L.tS;have aS:=L.aS;have zS:=L.zS;have vS:=L.vS;have tI:=L.tI;have aI:=L.aI;have zI:=L.zI;have tB:=L.tB;have aB:=L.aB;have zB:=L.zB;have zE:=L.zE
 have hbw:b<w.heap.size:=(Array.getElem?_eq_some_iff.1 hg).1
 have hcurl:cur.toList.length=cur.size:=by simp
 have hmul:∀ a c:Nat,a<=c->a * size e<=c * size e:=λa c h=>Nat.mul_le_mul_right _ h
 have hext:∀ W,Ext (λ_=>False) w W->Ext (·= b) w W:=λW h=>⟨h.os,h.tape,h.output,h.size,λy hy _=>h.block y hy λh=>h⟩
 have hix:=jrK L hT ht aT zT hfx hbx hnx hrx g lb eg b off n c us D w (λW h=>hp W (hext W h)) hD hz hbig hbw (λj hj=>by
  have h2:=hmul (j+1) c (by omega)
  rw [Nat.add_mul,Nat.one_mul] at h2
  rw [<-hc j hj]
  unfold Z05
  rw [hg]
  simp only []
  rw [if_pos (by omega)])
 have HP:Aside (∀ W,Ext (·= b) w W->jol P g lb (!fl.isEmpty) us D W):=hp
 have HC:Aside (∀ j (h:j<us.length),(cur.toList.drop (off+j * size e)).take (size e)=us[j].cs):=hc
 have HG:Aside (w.heap[b]? = some (.cells cur t fz)):=hg
 have HT:Aside (Z40 cur fz):=hfz
 have HS:Aside (off+c * size e<=cur.size):=hs
 have H1:Aside (∀ u∈us,∀ c∈u.cs,one c=true):=h1
 have HL:Aside (∀ u∈us,u.cs.length=size e):=hcl
 have HA:Aside (fl.isEmpty=true->size e=1):=hag
 have HN:Aside (us.length=n):=hz
 have HM:Aside (∀ a c:Nat,a<=c->a * size e<=c * size e):=hmul
 have HX:Aside (∀ W,Ext (λ_=>False) w W->Ext (·= b) w W):=hext
 have HU:Aside (cur.toList.length=cur.size):=hcurl
 have HW:Aside (b<w.heap.size):=hbw
 clear hp hc hg hfz hs h1 hcl hag hz hmul hext hcurl hD hbw
 refine calls_of_wp hf hb ?_
 simp only [hn,List.size_toArray,List.length_cons,List.length_nil,Nat.reduceAdd,Nat.reduceSub,Array.replicate_succ,Array.replicate_zero,List.push_toArray,List.append_toArray,List.nil_append,List.cons_append]
 unfold je5
 have hne:∀ q:Nat,((q:Int)== -1)=false:=λq=>beq_eq_false_iff_ne.2 (by omega)
 go_wp2_with (refine hix.mono ?_;rintro x w' ⟨hX,hq⟩;rcases hq with ⟨rfl,hD⟩ | ⟨k0,hk0,rfl,hD⟩;(rotate_left;(have hne1:=hne k0);rotate_left))
 all_goals first
  | exact bodyPost_ret (results_tmp hr _ _ _) rfl ⟨us,by rw [HN.out];rfl,hD,List.Sublist.refl _,HX.out _ hX,cur,by rw [hX.block b HW.out λh=>h];exact HG.out,rfl,HC.out⟩
  | skip
 have K0:Aside (KeptG us D off cur t fz b k0 (k0+1) w'):=by
  have hl:(us.take k0).length=k0:=by rw [List.length_take,HN.out];omega
  refine ⟨⟨us.take k0,cur,hl,hD,?_,by rw [hX.block b HW.out λh=>h];exact HG.out,rfl,λq hq=> ?_,λq hq _=>HC.out q hq⟩,Nat.lt_succ_self _⟩
  ·rw [List.take_succ_eq_append_getElem (by rw [HN.out];exact hk0)]
   exact List.sublist_append_left _ _
  ·rw [HC.out q (by rw [HN.out];omega),List.getElem_take]
 have X0:Aside (Ext (·= b) w w'):=HX.out _ hX
 clear hX hD
 go_loopg [5,6,7] n (λgg s5 s6 _ wr=>∃ i j:Nat,s5= .int .i64 i/\s6= .int .i64 j/\j<=n/\n-j<=gg/\Aside (Ext (·= b) w wr)/\Aside (KeptG us D off cur t fz b i j wr))
 case atStart=>exact ⟨k0,k0+1,by go_num,by go_num,by omega,by omega,X0,K0⟩
 case round=>
  obtain ⟨i,j,rfl,rfl,hjd,hgg,XW,I2⟩:=hrel
  obtain ⟨⟨ka,ck,hka,hDj,hsub,hck,hcs,hlow,hhigh⟩,hij⟩:=I2.out
  have hthk:Z40 ck fz:=λx hx=>HT.out x (by rw [<-hcs];exact hx)
  have hic:i<c:=by omega
  have m1:=HM.out (i+1) c (by omega)
  rw [Nat.add_mul,Nat.one_mul] at m1
  have hckl:ck.toList.length=ck.size:=by simp
  have hbr:b<wr.heap.size:=(Array.getElem?_eq_some_iff.1 hck).1
  by_cases hlt:j<n
  ·have hltz:(j:Int)<(n:Int):=by omega
   have hin:i<n:=by omega
   have hju:j<us.length:=by rw [HN.out];exact hlt
   have m2:=HM.out (j+1) c (by omega)
   rw [Nat.add_mul,Nat.one_mul] at m2
   have hcell:Z05 wr b (off+j * size e) (size e)=some us[j].cs:=by
    rw [<-hhigh j hju (by omega)]
    unfold Z05
    rw [hck]
    simp only []
    rw [if_pos (by have:=HS.out;omega)]
   have hzs:z.cells.toList.length=size e:=by rw [Array.length_toList];exact L.zk
   have hA1:=jpw wr z.cells E
   obtain ⟨W2,hW2⟩:∃ W2,W2=(wr.alloc (.cells z.cells E)).setRow wr.heap.size (Z0c z.cells.toList 0 us[j].cs).toArray:=⟨_,rfl⟩
   have hE2:Ext (λ_=>False) wr W2:=by
    rw [hW2]
    exact ⟨hA1.1.os,hA1.1.tape,hA1.1.output,by rw [setRow_size];exact hA1.1.size,λy hy _=>by rw [setRow_other _ _ _ _ (by omega)];exact hA1.1.block y hy λh=>h⟩
   have hyl0:us[j].cs.length=size e:=HL.out _ (List.getElem_mem hju)
   have hcV:Z05 W2 wr.heap.size 0 (size e)=some us[j].cs:=by
    have h1:W2.heap[wr.heap.size]? = some (.cells (Z0c z.cells.toList 0 us[j].cs).toArray E (0,0)):=by rw [hW2];exact setRow_heap _ _ _ _ _ _ hA1.2.2
    have h2:Z0c z.cells.toList 0 us[j].cs=us[j].cs:=by unfold Z0c;rw [List.take_zero,List.nil_append,Nat.zero_add,List.drop_of_length_le (by rw [hzs,hyl0];exact Nat.le_refl _),List.append_nil]
    rw [h2] at h1
    unfold Z05
    rw [h1]
    simp only [List.size_toArray]
    rw [if_pos (by omega),List.drop_zero,List.take_of_length_le (by omega)]
   have hvw2:wr.heap.size<W2.heap.size:=by rw [hW2,setRow_size];exact hA1.2.1
   have hcall:=HP.out W2 (j8r XW.out hE2) j hju ka hDj
   have hym:us[j]∈us:=List.getElem_mem hju
   have hvc:=jqj (ag:= !fl.isEmpty) (H1.out _ hym) (λh=>by rw [HL.out _ hym];exact HA.out (by simpa using h))
   have hv1:∀ c∈us[j].cs,one c=true:=H1.out _ hym
   have hfit:off+i * size e+size e<=ck.size:=by have:=HS.out;omega
   have etk:Aside (us.take (j+1)=us.take j++[us[j]]):=List.take_succ_eq_append_getElem hju
   have hyl:us[j].cs.length=size e:=hyl0
   have AH:Aside (ka.length=i/\ka.Sublist (us.take j)/\ck.size=cur.size/\(∀ q (h:q<ka.length),(ck.toList.drop (off+q * size e)).take (size e)=ka[q].cs)/\∀ q (h:q<us.length),i<=q->(ck.toList.drop (off+q * size e)).take (size e)=us[q].cs):=⟨hka,hsub,hcs,hlow,hhigh⟩
   have hF:Aside (∀ w1,Ext (λ_=>False) W2 w1->D (j+1) (ka++[us[j]])->Aside (Ext (·= b) w (w1.setRow b (Z0c ck.toList (off+i * size e) us[j].cs).toArray))/\Aside (KeptG us D off cur t fz b (i+1) (j+1) (w1.setRow b (Z0c ck.toList (off+i * size e) us[j].cs).toArray))):=by
    intro w1 hX2 hD'
    have hX':=j8r hE2 hX2
    have hck1:w1.heap[b]? = some (.cells ck t fz):=by rw [hX'.block b hbr λh=>h];exact hck
    have hsl:(Z0c ck.toList (off+i * size e) us[j].cs).length=ck.toList.length:=Z1U (by rw [hyl,hckl];exact hfit)
    have hE1:=j8r XW.out hX'
    refine ⟨⟨hE1.os,hE1.tape,hE1.output,by rw [setRow_size];exact hE1.size,λy hy hm=>by rw [setRow_other _ _ _ _ hm];exact hE1.block y hy hm⟩,
     ⟨⟨ka++[us[j]],_,by rw [List.length_append,hka];rfl,hD',by rw [etk.out];exact hsub.append (List.Sublist.refl _),setRow_heap w1 b ck _ t fz hck1,by rw [List.size_toArray,hsl,hckl];exact hcs,λq hq=> ?_,λq hq hqi=> ?_⟩,by omega⟩⟩
    ·rw [List.length_append,hka] at hq
     have hq:q<i+1:=hq
     show ((Z0c ck.toList (off+i * size e) us[j].cs).drop (off+q * size e)).take (size e)=_
     by_cases hqi:q<i
     ·have m3:=HM.out (q+1) i hqi
      rw [Nat.add_mul,Nat.one_mul] at m3
      rw [j9r (by omega) (by omega),hlow q (by rw [hka];exact hqi),List.getElem_append_left (by rw [hka];exact hqi)]
     ·have hqe:q=i:=by omega
      subst hqe
      rw [jgS (by omega) (Nat.le_refl _) (by rw [hyl];exact Nat.le_refl _),Nat.sub_self,List.drop_zero,List.take_of_length_le (by rw [hyl];exact Nat.le_refl _),List.getElem_append_right (by rw [hka];exact Nat.le_refl _)]
      simp [hka]
    ·have m3:=HM.out (i+1) q hqi
     rw [Nat.add_mul,Nat.one_mul] at m3
     show ((Z0c ck.toList (off+i * size e) us[j].cs).drop (off+q * size e)).take (size e)=_
     rw [jmZ (by rw [hyl,hckl];exact hfit) (by rw [hyl];omega)]
     exact hhigh q hq (by omega)
   have hTr:Aside (∀ w1,Ext (λ_=>False) W2 w1->D (j+1) ka->Aside (Ext (·= b) w w1)/\Aside (KeptG us D off cur t fz b i (j+1) w1)):=by
    intro w1 hX2 hD'
    have hX':=j8r hE2 hX2
    have hck1:w1.heap[b]? = some (.cells ck t fz):=by rw [hX'.block b hbr λh=>h];exact hck
    exact ⟨j8r XW.out hX',⟨⟨ka,ck,hka,hD',hsub.trans (by rw [etk.out];exact List.sublist_append_left _ _),hck1,hcs,hlow,λq hq hqi=>hhigh q hq (by omega)⟩,by omega⟩⟩
   clear hka hDj hsub hcs hlow hhigh hym I2
   clear hyl0
   generalize us[j]=y at hcell hcall hvc hv1 etk hyl hF hcV hW2
   clear hju
   have AV:Aside ((Z0K (!fl.isEmpty) y.cs).cells.toList=y.cs):=hvc
   clear hvc
   subst hW2
   go_wp2_with (first
    | (refine jbA hT ht rfl rfl rfl hcell ?_)
    | (refine joj L.vE rfl rfl ?_)
    | (refine ji3 (cur:=z.cells) (T:=E) (fz:=(0,0)) hT ht rfl rfl rfl rfl hA1.2.2 (jsn _) AV.out hyl (by rw [L.zk];omega) hv1 ?_)
    | (refine jbA hT ht rfl rfl rfl hcV ?_)
    | (refine jbA hT ht rfl rfl rfl ((Z10 (hX'.block _ hvw2 λh=>h) _ _).trans hcV) ?_)
    | (refine hcall.mono ?_;rintro x w1 ⟨bb,rfl,hD',hX'⟩;cases bb)
    | (refine ji3 (cur:=ck) (T:=t) (fz:=fz) hT ht rfl rfl rfl rfl (by rw [hX'.block b (Nat.lt_of_lt_of_le hbr hE2.size) λh=>h,hE2.block b hbr λh=>h];exact hck) hthk AV.out hyl hfit hv1 ?_))
   ·go_roundg (n-(j+1))
    case measure=>omega
    case rel=>exact ⟨i+1,j+1,by go_num,by go_num,by omega,Nat.le_refl _,(hF.out w1 hX' hD').1,(hF.out w1 hX' hD').2⟩
   ·go_roundg (n-(j+1))
    case measure=>omega
    case rel=>exact ⟨i,j+1,rfl,by go_num,by omega,Nat.le_refl _,(hTr.out w1 hX' hD').1,(hTr.out w1 hX' hD').2⟩
  ·obtain rfl:j=n:=by omega
   have hltz:¬ (j:Int)<(j:Int):=by omega
   have hi3:¬ c=i:=by omega
   have m2:=HM.out j c hlc
   have e1:i * size e+(j-i) * size e=j * size e:=by rw [<-Nat.add_mul,show i+(j-i)=j by omega]
   have hcl:∀ ty,(Builtin.clear_ #[S] ty #[.slice (some ⟨b,off+i * size e,none⟩) (j-i) (c-i)]).run P wr= .ok (.tuple #[]) (wr.setRow b (Z0c ck.toList (off+i * size e) (j1j z (j-i))).toArray):=λty=>
    jlT L ty (by omega) hck hthk (by rw [hcs];have:=HS.out;omega)
   have hzl:(j1j z (j-i)).length=(j-i) * size e:=by rw [jhq,L.zk]
   have hsl:(Z0c ck.toList (off+i * size e) (j1j z (j-i))).length=ck.toList.length:=Z1U (by rw [hzl,hckl,hcs];have:=HS.out;omega)
   have hEnd:Aside (Ext (·= b) w (wr.setRow b (Z0c ck.toList (off+i * size e) (j1j z (j-i))).toArray)/\∃ ck':Array Value,(wr.setRow b (Z0c ck.toList (off+i * size e) (j1j z (j-i))).toArray).heap[b]? = some (.cells ck' t fz)/\ck'.size=cur.size/\∀ q (h:q<ka.length),(ck'.toList.drop (off+q * size e)).take (size e)=ka[q].cs):=by
    refine ⟨⟨XW.out.os,XW.out.tape,XW.out.output,by rw [setRow_size];exact XW.out.size,λy hy hm=>by rw [setRow_other _ _ _ _ hm];exact XW.out.block y hy hm⟩,_,setRow_heap wr b ck _ t fz hck,by rw [List.size_toArray,hsl,hckl];exact hcs,λq hq=> ?_⟩
    have m3:=HM.out (q+1) i (by omega)
    rw [Nat.add_mul,Nat.one_mul] at m3
    show ((Z0c ck.toList (off+i * size e) (j1j z (j-i))).drop (off+q * size e)).take (size e)=_
    rw [j9r (by rw [hckl,hcs];have:=HS.out;omega) (by omega),hlow q hq]
   have AH:Aside (ka.length=i/\D j ka/\ka.Sublist us):=⟨hka,hDj,by rwa [List.take_of_length_le (by rw [HN.out];exact Nat.le_refl _)] at hsub⟩
   clear hka hDj hsub hck hcs hlow hhigh I2 hzl hsl
   go_wp2
   refine bodyPost_ret (results_tmp hr _ _ _) rfl ⟨ka,by rw [AH.out.1];rfl,AH.out.2.1,AH.out.2.2,hEnd.out.1,hEnd.out.2⟩
theorem jsv (L:SlT P S E I B (size e) z) (aT:∀ w,(isAgg T).run P w= .ok false w) (zT:∀ w,(sizeOf T).run P w= .ok 1 w) {fx:Nat} {fnx:Func} (hfx:P.funcs[fx]? = some fnx) (hbx:fnx.body=some (jcP S E I B U T)) (hnx:fnx.ntmps=19) (hrx:fnx.results= #[.tmp 4])
  (ex:∀ args w,(callFunc fx args).run P w= .ok (.enter fx args) w)
  {f:Nat} {fn:Func} (hf:P.funcs[f]? = some fn) (hb:fn.body=some (je5 S E I B U T fx)) (hn:fn.ntmps=42) (hr:fn.results= #[.tmp 4]) (g:Nat) (lb:Array Value) (ad:Option Addr) (c:Nat) (w:World) :
  Calls P f #[.slice ad 0 c,.func (.func g) #[] lb] w λx w'=>x= .returned (.slice ad 0 c)/\w'=w:=by
 have mixed:=L.mixed;have tS:=L.tS;have aS:=L.aS;have zS:=L.zS;have vS:=L.vS;have tI:=L.tI;have aI:=L.aI;have zI:=L.zI;have tB:=L.tB;have aB:=L.aB;have zB:=L.zB;have zE:=L.zE
 have hix:=jsQ L aT zT hfx hbx hnx hrx g lb ad c w
 refine calls_of_wp hf hb ?_
 simp only [hn,List.size_toArray,List.length_cons,List.length_nil,Nat.reduceAdd,Nat.reduceSub,Array.replicate_succ,Array.replicate_zero,List.push_toArray,List.append_toArray,List.nil_append,List.cons_append]
 unfold je5
 go_wp2_with (refine hix.mono ?_;rintro x w' ⟨rfl,rfl⟩)
 exact bodyPost_ret (results_tmp hr _ _ _) rfl ⟨rfl,rfl⟩
end
end Go.PI
namespace Go.PI
open Go
theorem jrN {e:Ty} {w w':World} {F:Nat->Nat} {St:Nat->Prop} {Al:Nat->Prop} {ms ef:List Nat} {b o cap bl:Nat} {us:List (Elem e)} {τ:Ty} {a:Bool} {x:El τ} {tg:List Tag} {bc:Array Value} {bT:TypeId} (hSt:∀ y,St y->y<w.heap.size/\y ∉ ms) (hE:Ext (·= b) w w')
  (hb:b∈ms/\b<w.heap.size) (hnd:((b::(us.map (·.fp)).flatten)++(ef++[bl])).Nodup) (hms:∀ y∈(us.map (·.fp)).flatten++(ef++[bl]),y∈ms/\y<w.heap.size)
  (hR:∀ u∈us,Rp w F St Al e (List.replicate (Z06 e) .O) u.cs u.x u.fp) (hc:∀ k (h:k<us.length),Z05 w' b (o+k * size e) (size e)=some us[k].cs) (hcap:us.length<=cap) (hrow:Z3i e w' b (o+cap * size e))
  (hbl:w.heap[bl]? = some (.cells bc bT (0,0))) (hbR:Rp w F St (·∈ ef) τ tg bc.toList x ef) (htg:∀ t∈tg,t.isN=false) :
  RetOk w F St ms [bl] [⟨.slice e,false,us.map (·.x),[.O]⟩] [] [] [⟨τ,a,x,tg⟩] (.slice (some ⟨b,o,none⟩) us.length cap) w':=by
 have hn1:=List.nodup_append.1 hnd
 have hbf:b ∉ (us.map (·.fp)).flatten:=(List.nodup_cons.1 hn1.1).1
 have hin:∀ u∈us,∀ y∈u.fp,y∈(us.map (·.fp)).flatten:=λu hu y hy=>List.mem_flatten.2 ⟨u.fp,List.mem_map_of_mem hu,hy⟩
 have hne:∀ y∈ef++[bl],y≠b:=λy hy h=>hn1.2.2 b (by simp) y hy h.symm
 have hSb:∀ y,St y->y≠b:=λy hy h=>(hSt y hy).2 (h ▸ hb.1)
 refine ⟨λy=>if y=b then o+us.length * size e else F y,St,[.slice (some ⟨b,o,none⟩) us.length cap],[b::(us.map (·.fp)).flatten],[ef],⟨rfl,rfl,rfl⟩,⟨⟨rfl,rfl,?_⟩,trivial⟩,⟨⟨bc,bT,?_,?_⟩,trivial⟩,⟨hE.os,hE.tape,hE.output,hE.size,λy hy hm=>hE.block y hy λh=>hm (h ▸ hb.1)⟩,λy hy hym=> ?_,λy hy=>hy,λy hy=>⟨.inl hy,Nat.lt_of_lt_of_le (hSt y hy).1 hE.size⟩,?_,λy hy=> ?_⟩
 ·refine Z9p (w:=w') (t:= .O) rfl (b:=b) (o:=o) (cap:=cap) (us:=us) (fps:=us.map (·.fp)) (Al:=(·∈ b::(us.map (·.fp)).flatten)) (by simp) (by simp) hcap hrow (F:=λy=>if y=b then o+us.length * size e else F y) (if_pos rfl) hc λk hk=> ?_
  have hu:us[k]∈us:=List.getElem_mem hk
  have hfp:(us.map (·.fp)).getD k []=us[k].fp:=by rw [List.getD_eq_getElem?_getD,List.getElem?_map,List.getElem?_eq_getElem hk];rfl
  rw [hfp]
  refine Rp.presO (hR _ hu) (λt ht=>(List.mem_replicate.1 ht).2) λy hy=> ?_
  have hyb:y≠b:=λh=>hbf (h ▸ hin _ hu y hy)
  have hF:(if y=b then o+us.length * size e else F y)=F y:=if_neg hyb
  exact ⟨Z07.of_block (hE.block y (hms y (List.mem_append_left _ (hin _ hu y hy))).2 hyb) (by rw [hF];exact Nat.le_refl _),hF,λ_=>List.mem_cons_of_mem _ (hin _ hu y hy)⟩
 ·rw [hE.block bl (hms bl (by simp)).2 (hne bl (by simp))]
  exact hbl
 ·refine Rp.pres (F':=λy=>if y=b then o+us.length * size e else F y) (St':=St) (Al':=(·∈ ef)) (λ_ h=>h) (λ_ _ h=>h) (λy hy=> ?_) hbR (λy hy=> ?_) (.inl htg)
  ·have hyb:=hSb y hy
   exact Z07.of_block (hE.block y (hSt y hy).1 hyb) (by rw [if_neg hyb];exact Nat.le_refl _)
  ·have hyb:=hne y (List.mem_append_left _ hy)
   exact ⟨Z07.of_block (hE.block y (hms y (List.mem_append_right _ (List.mem_append_left _ hy))).2 hyb) (by rw [if_neg hyb];exact Nat.le_refl _),if_neg hyb⟩
 ·exact if_neg λh2=>hym (by rw [h2];exact hb.1)
 ·simpa using hnd
 ·have hy:y=b\/y∈(us.map (·.fp)).flatten++(ef++[bl]):=by simpa using hy
  rcases hy with rfl | hy
  ·exact ⟨.inr hb.1,Nat.lt_of_lt_of_le hb.2 hE.size,λh=>hSb y h rfl⟩
  ·exact ⟨.inr (hms y hy).1,Nat.lt_of_lt_of_le (hms y hy).2 hE.size,λh=>(hSt y h).2 (hms y hy).1⟩
noncomputable def jok (kk:Bool->Res):List TVal->List TVal->List TVal->Res:=λrs _ _=>match rs with
 | [v]=>bif v.ag then none else Z86 v .bool kk
 | _=>none
theorem jqc {kk:Bool->Res} {a b c:List TVal} {r:Unit} (h:jok kk a b c=some r):∃ bb tg,a=[⟨.bool,false,bb,tg⟩]/\kk bb=some r:=by
 unfold jok at h
 match a,h with
 | [⟨τ,ag,x,tg⟩],h=>
  cases ag with
  | true=>cases h
  | false=>
   have h:Z86 (⟨τ,false,x,tg⟩:TVal) .bool kk=some r:=h
   obtain ⟨a',x',t',h1,h2⟩:=Z8C h
   cases h1
   exact ⟨_,_,rfl,h2⟩
 | [],h=>cases h
 | _::_::_,h=>cases h
noncomputable def jsi (e:Ty) (g:FuncId) (ag:Bool) (τ:Ty) (tg:List Tag) (gs:Sig Unit):Sig Unit:=⟨[.eat (.slice e) false,.clos g [τ]],[false],λvals ext k=>ao vals (.slice e) [.O] λl vals=>nl vals<|ab ext τ tg λa x ext=>nl ext <|
 bif lim (List.length (α:=El e) l) then
  dgE (λ(y:El e) kk=>gs.run [⟨e,ag,y,[]⟩,⟨τ,false,x,[]⟩] [] (jok kk)) l [] (λ(r:List (El e))=>k [⟨.slice e,false,r,[.O]⟩] [] [⟨τ,a,x,tg⟩]) else none⟩
theorem jqW {P:Program} {S E I B U T:TypeId} {e:Ty} {z:Value} {tys:List (TypeId×Ty×List TypeId)} {fl:List TypeId} {ag:Bool} {τ:Ty} {tg:List Tag} (L:SlT P S E I B (size e) z) (hT:Z0e P tys) (ht:Z0o tys E=some (e,fl)) (hag:ag= !fl.isEmpty) (aE:∀ w,(isAgg E).run P w= .ok ag w) (aT:∀ w,(isAgg T).run P w= .ok false w) (zT:∀ w,(sizeOf T).run P w= .ok 1 w)
  (hk1:Nat.ble 1 (size e)=true) (hk2:(ag||Nat.beq (size e) 1)=true) (htg:tg.all (λt=> !t.isN)=true)
  {fx : FuncId} {fnx : Func} (hfx : P.funcs[fx]? = some fnx) (hbx : fnx.body = some (jcP S E I B U T)) (hnx : fnx.ntmps = 19) (hrx : fnx.results = #[.tmp 4]) (hnamex : (fnx.name == "runtime.NumGoroutine") = false)
  {g:FuncId} {gs:Sig Unit} (hg:Z17 P g gs) (hgm:gs.modes=[.look e ag,.rptr τ])
  {f : FuncId} {fn : Func} (hf : P.funcs[f]? = some fn) (hb : fn.body = some (je5 S E I B U T fx)) (hn : fn.ntmps = 42) (hr : fn.results = #[.tmp 4]) (hname : (fn.name == "runtime.NumGoroutine") = false) : Z17 P f (jsi e g ag τ tg gs) := by
 refine ⟨⟨fn,_,hf,hname,hb⟩,λvals ext k r h w F St args ads fps efps hA hB hnd hSt hlt=> ?_⟩
 obtain ⟨a0,l,vals,rfl,h3⟩:=Zao h
 obtain ⟨rfl,h4⟩:=Zaw h3
 obtain ⟨a1,t,ext,rfl,h5⟩:=Zan h4
 obtain ⟨rfl,h6⟩:=Zaw h5
 clear h h3 h4 h5
 have h:=h6
 clear h6
 rw [cond_eq_ite] at h
 split at h
 rotate_left
 ·cases h
 rename_i hlim
 change List (El e) at l
 have hlim:l.length<=LIM:=of_decide_eq_true hlim
 obtain ⟨ad,cap,f0,ar,fs,rfl,rfl,hlc,hr0,hA1⟩:=jh3 (e:=e) (l:=l) hA
 obtain ⟨bl,rfl,rfl,rfl⟩:=jqb hA1
 cases efps with
 | nil=>exact hB.elim
 | cons ef efs=>
 obtain ⟨⟨bc,bT,hbl,hbr⟩,hB2⟩:=hB
 cases efs with
 | cons a b=>exact hB2.elim
 | nil=>
 have htgN:[(⟨τ,a1,t,tg⟩:TVal)].all TVal.noN=true:=by
  have htg:∀ t∈tg,t.isN=false:=λt ht=>by have:=List.all_eq_true.1 htg t ht;simpa using this
  simp only [List.all_cons,List.all_nil,Bool.and_true,TVal.noN]
  exact List.all_eq_true.2 λt ht=>by simp [htg t ht]
 by_cases hpos:0<l.length
 rotate_left
 ·have hl0:l=[]:=List.length_eq_zero_iff.1 (by omega)
  subst hl0
  simp only [List.flatten_cons,List.flatten_nil,List.append_nil] at hnd hSt hlt ⊢
  refine (jsv L aT zT hfx hbx hnx hrx (Z6j hfx hnamex hbx) hf hb hn hr g #[.pointer (some ⟨bl,0,none⟩)] ad cap w).mono ?_
  rintro e' w' ⟨rfl,rfl⟩
  refine ⟨_,_,_,_,rfl,h,⟨by simp [Z2V],rfl,rfl⟩,htgN,⟨F,St,[_],[f0],[ef],⟨rfl,rfl,rfl⟩,⟨⟨rfl,rfl,hr0⟩,trivial⟩,⟨⟨bc,bT,hbl,hbr⟩,trivial⟩,Ext.refl _ _,λ_ _ _=>rfl,λ_ h=>h,λy hy=>⟨.inl hy,(hSt y hy).1⟩,by simpa using hnd,λy hy=> ?_⟩⟩
  have hy:y∈f0++(ef++[bl]):=by simpa using hy
  exact ⟨.inr hy,hlt y hy,λhh=>(hSt y hh).2 hy⟩
 obtain ⟨b,o,us,cur,tt,fz,rfl,hux,hul,rfl,huR,hgc,hsz,hth,hmk,hcells⟩:=jl1 hr0 (.inl hpos)
 simp only [List.flatten_cons,List.flatten_nil,List.append_nil] at hnd hSt hlt ⊢
 have htg:∀ t∈tg,t.isN=false:=λt ht=>by have:=List.all_eq_true.1 htg t ht;simpa using this
 have hn1:=List.nodup_append.1 hnd
 have hk1:0<size e:=Nat.le_of_ble_eq_true hk1
 have hbw:b<w.heap.size:=(Array.getElem?_eq_some_iff.1 hgc).1
 have hne:∀ y∈ef++[bl],y≠b:=λy hy hh=>hn1.2.2 b (by simp) y hy hh.symm
 have hSb:∀ y,St y->y≠b:=λy hy hh=>(hSt y hy).2 (by rw [hh];simp)
 have hin:∀ u∈us,∀ y∈u.fp,y∈(us.map (·.fp)).flatten:=λu hu y hy=>List.mem_flatten.2 ⟨u.fp,List.mem_map_of_mem hu,hy⟩
 have hub:∀ u∈us,∀ y∈u.fp,y≠b:=λu hu y hy hh=>(List.nodup_cons.1 hn1.1).1 (hh ▸ hin u hu y hy)
 have hun:∀ u∈us,∀ y∈u.fp,y<w.heap.size:=λu hu y hy=>hlt y (by simp only [List.cons_append,List.mem_cons,List.mem_append];exact .inr (.inl (hin u hu y hy)))
 have hefn:∀ y∈ef++[bl],y<w.heap.size:=λy hy=>hlt y (List.mem_append_right _ hy)
 obtain ⟨K,hK⟩:∃ K:List (El e)->Res,K=λrr=>k [⟨.slice e,false,rr,[.O]⟩] [] [⟨τ,a1,t,tg⟩]:=⟨_,rfl⟩
 obtain ⟨gg,hgg⟩:∃ gg:El e->(Bool->Res)->Res,gg=λy kk=>gs.run [⟨e,ag,y,[]⟩,⟨τ,false,t,[]⟩] [] (jok kk):=⟨_,rfl⟩
 obtain ⟨D,hD⟩:∃ D:Nat->List (Elem e)->Prop,D=λj acc=>dgE gg ((us.drop j).map (·.x)) (acc.map (·.x)) K=some r:=⟨_,rfl⟩
 have hDe:∀ j acc,D j acc->dgE gg ((us.drop j).map (·.x)) (acc.map (·.x)) K=some r:=λj acc hh=>by rw [hD] at hh;exact hh
 have hDi:∀ j acc,dgE gg ((us.drop j).map (·.x)) (acc.map (·.x)) K=some r->D j acc:=λj acc hh=>by rw [hD];exact hh
 have hD0:D 0 []:=hDi 0 [] (by rw [List.drop_zero,hux,hgg,hK];exact h)
 have hcl:∀ u∈us,u.cs.length=size e:=λu hu=>(huR u hu).len.1
 have h1:∀ u∈us,∀ c∈u.cs,one c=true:=λu hu c hc=>Rp.ones (huR u hu) c hc
 have hasks:∀ W,Ext (·= b) w W->jol P g #[.pointer (some ⟨bl,0,none⟩)] (!fl.isEmpty) us D W:=by
  intro W hW j hj acc hacc
  rw [<-hag]
  have hu:us[j]∈us:=List.getElem_mem hj
  have hacc:=hDe j acc hacc
  rw [List.drop_eq_getElem_cons hj,List.map_cons] at hacc
  have hacc:gg us[j].x (λbb=>dgE gg ((us.drop (j+1)).map (·.x)) (bif bb then acc.map (·.x) else acc.map (·.x)++[us[j].x]) K)=some r:=hacc
  rw [hgg] at hacc
  obtain ⟨q1,q2⟩:=Z1h (ag:=ag) (h1 _ hu) (λhh=>by rw [hcl _ hu];rw [hh] at hk2;exact Nat.eq_of_beq_eq_true (by simpa using hk2))
  have hAl:∀ (M:Nat->Prop),(∀ y,M y->y<w.heap.size)->∀ y,M y->Old W y:=λM hM y hy=>Nat.lt_of_lt_of_le (hM y hy) hW.size
  have hStO:∀ y,St y->Old W y:=hAl St λy hy=>(hSt y hy).1
  have top:∀ {τ:Ty} {tg:List Tag} {cs:List Value} {x:El τ} {fp:List Nat} {Al:Nat->Prop},(∀ y,Al y->y<w.heap.size)->Rp w F St Al τ tg cs x fp->(∀ t∈tg,t.isN=false)->(∀ y∈fp,y<w.heap.size/\y≠b)->Rp W (Z2w W F) (Old W) (Old W) τ (List.replicate (Z06 τ) .S) cs x []:=by
   intro τ tg cs x fp Al hM hR htg hfp
   have h1:Rp W F St Al τ tg cs x fp:=Rp.pres (F':=F) (λ_ h=>h) (λ_ _ h=>h) (λy hy=>Z07.of_block (hW.block y (hSt y hy).1 (hSb y hy)) (Nat.le_refl _)) hR (λy hy=>⟨Z07.of_block (hW.block y (hfp y hy).1 (hfp y hy).2) (Nat.le_refl _),rfl⟩) (.inl htg)
   have h2:Rp W F (Old W) (Old W) τ (List.replicate (Z06 τ) .S) cs x []:=h1.toS (hAl Al hM) hStO
   exact h2.pres (λ_ h=>h) (λ_ _ h=>h) (λy _=>Z07.of_block rfl (Z6v _ _ _)) (by simp) (.inl λt ht=>by rw [(List.mem_replicate.1 ht).2];rfl)
  have hAs:Z0t W (Z2w W F) (Old W) gs.modes [⟨e,ag,us[j].x,[]⟩,⟨τ,false,t,[]⟩] [Z0K ag us[j].cs,.pointer (some ⟨bl,0,none⟩)] [[],[]] []:=by
   rw [hgm]
   refine ⟨rfl,q2,?_,rfl,?_,trivial⟩
   ·rw [q1]
    exact top (Al:=(·∈ b::(us.map (·.fp)).flatten)) (λy hy=>hlt y (List.mem_append_left _ hy)) (huR _ hu) (λt ht=>by rw [(List.mem_replicate.1 ht).2];rfl) (λy hy=>⟨hun _ hu y hy,hub _ hu y hy⟩)
   ·have hbW:W.heap[bl]? = some (.cells bc bT (0,0)):=by rw [hW.block bl (hefn bl (by simp)) (hne bl (by simp))];exact hbl
    have hbl2:=hbr.len.1
    have hca:Z05 W bl 0 (size τ)=some bc.toList:=by
     unfold Z05
     rw [hbW]
     simp only []
     rw [if_pos (by rw [<-hbl2];simp),List.drop_zero,List.take_of_length_le (by rw [hbl2];exact Nat.le_refl _)]
    exact ⟨bl,0,bc.toList,rfl,hca,Z0X hca,Z4v hca,top (Al:=(·∈ ef)) (λy hy=>hefn y (List.mem_append_left _ hy)) hbr htg (λy hy=>⟨hefn y (List.mem_append_left _ hy),hne y (List.mem_append_left _ hy)⟩)⟩
  have:=hg.2 _ [] _ r hacc W (Z2w W F) (Old W) _ [] _ [] hAs trivial (by simp) (λy hy=>⟨hy,by simp⟩) (by simp)
  refine this.mono λx w'=> ?_
  rintro ⟨v,res,ios,ext',rfl,hkr,⟨_,hios,_⟩,_,F',St',vs,rfps,efps',⟨rfl,hil,hvl⟩,hres,hbox,hE,_⟩
  obtain ⟨bb,tb,rfl,hbb⟩:=jqc hkr
  rw [hgm] at hios hil hres
  have:ios=[]:=by
   cases ios with
   | nil=>rfl
   | cons _ _=>cases hios
  subst this
  obtain ⟨v1,rfl⟩:∃ v1,vs=[v1]:=by
   match vs,hvl with
   | [v1],_=>exact ⟨v1,rfl⟩
  have hres:Z3a w' F' St' [⟨.bool,false,bb,tb⟩] [v1] rfps:=hres
  cases rfps with
  | nil=>exact hres.elim
  | cons rf rfs=>
   obtain ⟨⟨hs1,_,hR1⟩,_⟩:=hres
   obtain rfl:=Z5L hs1 hR1
   refine ⟨bb,rfl,?_,⟨hE.os,hE.tape,hE.output,hE.size,λy hy _=>hE.block y hy (by simp)⟩⟩
   apply hDi
   rw [hgg]
   cases bb
   ·simpa using hbb
   ·exact hbb
 have hlimn:l.length<=9223372036854775807:=by unfold LIM at hlim;omega
 have hEg:∀ args w,(callFunc g args).run P w= .ok (.enter g args) w:=by
  obtain ⟨fng,cg,hg1,hg2,hg3⟩:=hg.1
  exact Z6j hg1 hg2 hg3
 refine (jrC L hT ht (λw=>by rw [<-hag];exact aE w) aT zT hfx hbx hnx hrx (Z6j hfx hnamex hbx) hf hb hn hr g #[.pointer (some ⟨bl,0,none⟩)] hEg b o l.length cap us D w hasks hD0 hul hgc hth hsz hlc hlimn h1 hcl (λhh=>by rw [hag,hh] at hk2;exact Nat.eq_of_beq_eq_true (by simpa using hk2)) hk1 hcells).mono ?_
 rintro e' w' ⟨ka,rfl,hDn,hsub,hE,ck,hg',hck,hkc⟩
 have hDn:=hDe _ _ hDn
 rw [List.drop_of_length_le (by rw [hul];exact Nat.le_refl _),hK] at hDn
 have hDn:k [⟨.slice e,false,ka.map (·.x),[.O]⟩] [] [⟨τ,a1,t,tg⟩]=some r:=hDn
 have hkl:ka.length<=cap:=Nat.le_trans (by rw [<-hul];exact hsub.length_le) hlc
 have hckl:ck.toList.length=ck.size:=by simp
 have hfsub:((ka.map (·.fp)).flatten).Sublist (us.map (·.fp)).flatten:=jkd (hsub.map _)
 refine ⟨_,_,_,_,rfl,hDn,⟨by simp [Z2V],rfl,rfl⟩,?_,jrN (Al:=(·∈ b::(us.map (·.fp)).flatten)) (o:=o) (us:=ka) hSt hE ⟨by simp,hbw⟩ ?_ (λy hy=> ?_) (λu hu=>huR u (hsub.subset hu)) (λq hq=> ?_) hkl ⟨⟨ck,tt,fz,hg',by rw [hck];exact hsz,λx hx=>hth x (by rw [<-hck];exact hx)⟩,hmk.imp id λhm=>hm.same hgc hg' hck⟩ hbl hbr htg⟩
 ·simp only [List.all_cons,List.all_nil,Bool.and_true,TVal.noN]
  exact List.all_eq_true.2 λt ht=>by simp [htg t ht]
 ·exact (List.Sublist.append (hfsub.cons_cons b) (List.Sublist.refl _)).nodup hnd
 ·have hy':y∈(us.map (·.fp)).flatten++(ef++[bl]):=(List.Sublist.append hfsub (List.Sublist.refl _)).subset hy
  have hy2:y∈b::(us.map (·.fp)).flatten++(ef++[bl]):=List.mem_cons_of_mem _ hy'
  exact ⟨hy2,hlt y hy2⟩
 ·have m1:(q+1) * size e<=cap * size e:=Nat.mul_le_mul_right _ (by omega)
  rw [Nat.add_mul,Nat.one_mul] at m1
  unfold Z05
  rw [hg']
  simp only []
  rw [if_pos (by omega),hkc q hq]
end Go.PI
namespace Go.PI
open Go
theorem jdy:(τ:Ty)->∀ c∈zeroCells τ,one c=true
 | .int _,c,h=>by simp [zeroCells] at h;subst h;rfl
 | .bool,c,h=>by simp [zeroCells] at h;subst h;rfl
 | .str,c,h=>by simp [zeroCells] at h;subst h;rfl
 | .unit,c,h=>by simp [zeroCells] at h
 | .slice _,c,h=>by simp [zeroCells] at h;subst h;rfl
 | .pair a b,c,h=>by
  simp only [zeroCells,List.mem_append] at h
  exact h.elim (jdy a c) (jdy b c)
section
variable {P:Program} {tys:List (TypeId×Ty×List TypeId)} {S E I B U T:TypeId} {e:Ty} {fl:List TypeId}
theorem je0 (hT:Z0e P tys) {t:TypeId} {τ:Ty} {l:List TypeId} (h:Z0o tys t=some (τ,l)) (w:World):(sizeOf t).run P w= .ok (size τ) w:=by
 obtain ⟨i,z,hi,hs,_⟩:=(hT t τ l h).info
 simp [sizeOf,typeInfo,hi,hs]
theorem jp8 (hm:P.follows .mixedOrders=true) (hT:Z0e P tys) (hS:Z0o tys S=some (.slice e,[])) (hu:P.underlying S=some (.slice E)) (hI:Z0o tys I=some (.int .i64,[])) (hB:Z0o tys B=some (.bool,[])) (hE:Z0o tys E=some (e,fl)) :
  ∃ z,SlT P S E I B (size e) z/\∃ i:TypeInfo,P.info? E=some i/\i.size=size e/\i.zero=some z/\i.bytes<=65536:=by
 obtain ⟨i,z,hi,hs,hb,_,hz,hzc,_⟩:=(hT E e fl hE).info
 obtain ⟨iS,zS,hiS,hsS,_,_,hzS,hzcS,hshS⟩:=(hT S _ _ hS).info
 have hzS2:zS= .slice none 0 0:=by
  have h1:one zS=true:=hshS
  have h2:=Z8P h1
  have h3:zS.cells.toList=[.slice none 0 0]:=hzcS
  cases zS<;>simp_all [Value.oneCell',Value.cells]
 refine ⟨z,⟨hm,hu,λw=>Z6M hT hS w,λw=>je0 hT hS w,λw=> ?_,((hT I _ _ hI).und rfl).1 _ rfl,λw=>Z6M hT hI w,λw=>je0 hT hI w,((hT B _ _ hB).und rfl).2.1 rfl,λw=>Z6M hT hB w,λw=>je0 hT hB w,λw=>je0 hT hE w,λw=> ?_,⟨i,hi,hs⟩,?_,λc hc=> ?_⟩,i,hi,hs,hz,hb⟩
 ·simp [zeroValue,typeInfo,hiS,hzS,hzS2]
 ·simp [zeroValue,typeInfo,hi,hz]
 ·rw [<-Array.length_toList,hzc,(Z2Z (w:=default) (F:=λ_=>0) (St:=λ_=>True) (Al:=λ_=>True) e).len.1]
 ·rw [hzc] at hc
  exact jdy e c hc
def jsm:Ty->Bool
 | .int .u8=>false
 | _=>true
theorem jrU {e:Ty} (h:jsm e=true):e≠ .int .u8:=λhh=>by subst hh;cases h
theorem gS {a b:Sig Unit} {f:FuncId} (s:Z17 P f a) (h:a=b):Z17 P f b:=h ▸ s
theorem jlj (hm:P.follows .mixedOrders=true) (hT:Z0e P tys) (hS:Z0o tys S=some (.slice e,[])) (hu:P.underlying S=some (.slice E)) (hI:Z0o tys I=some (.int .i64,[])) (hB:Z0o tys B=some (.bool,[])) (hE:Z0o tys E=some (e,fl))
  {f : FuncId} {fn : Func} (hf : P.funcs[f]? = some fn) (hb : fn.body = some (je4 S I B U)) (hn : fn.ntmps = 33) (hr : fn.results = #[.tmp 6]) (hname : (fn.name == "runtime.NumGoroutine") = false) : Z17 P f (jqT e) := by
 obtain ⟨z,L,_⟩:=jp8 hm hT hS hu hI hB hE
 exact jqU L hf hb hn hr hname
theorem joL (hm:P.follows .mixedOrders=true) (hT:Z0e P tys) (hS:Z0o tys S=some (.slice e,[])) (hu:P.underlying S=some (.slice E)) (hI:Z0o tys I=some (.int .i64,[])) (hB:Z0o tys B=some (.bool,[])) (hE:Z0o tys E=some (e,fl)) (hk:Nat.ble 1 (size e)=true) (he:jsm e=true)
  {f fo fr : FuncId} {fn fno : Func} (hf : P.funcs[f]? = some fn) (hb : fn.body = some (jaO S I B U fo fr)) (hn : fn.ntmps = 95) (hr : fn.results = #[.tmp 6]) (hname : (fn.name == "runtime.NumGoroutine") = false)
  (hfo : P.funcs[fo]? = some fno) (hno : (fno.name == "runtime.NumGoroutine") = false) (hbo : fno.body.isNone = true) (hxo : Extern.findNext fno = none) (heo : Extern.find fno = some (Extern.SlicesOverlaps.overlaps #[S, S] #[B])) : Z17 P f (jlq e) := by
 obtain ⟨z,L,hE2⟩:=jp8 hm hT hS hu hI hB hE
 exact jr4 L hE2 (Nat.le_of_ble_eq_true hk) (jrU he) hf hb hn hr hname hfo hno hbo hxo heo
theorem jsM {ag:Bool} {τ:Ty} {tg:List Tag} (hm:P.follows .mixedOrders=true) (hT:Z0e P tys) (hS:Z0o tys S=some (.slice e,[])) (hu:P.underlying S=some (.slice E)) (hI:Z0o tys I=some (.int .i64,[])) (hB:Z0o tys B=some (.bool,[])) (hE:Z0o tys E=some (e,fl)) (hag:ag= !fl.isEmpty) (aT:∀ w,(isAgg T).run P w= .ok false w) (zT:∀ w,(sizeOf T).run P w= .ok 1 w)
  (hk1:Nat.ble 1 (size e)=true) (hk2:(ag||Nat.beq (size e) 1)=true) (htg:tg.all (λt=> !t.isN)=true)
  {fx : FuncId} {fnx : Func} (hfx : P.funcs[fx]? = some fnx) (hbx : fnx.body = some (jcP S E I B U T)) (hnx : fnx.ntmps = 19) (hrx : fnx.results = #[.tmp 4]) (hnamex : (fnx.name == "runtime.NumGoroutine") = false)
  {g:FuncId} {gs:Sig Unit} (hg:Z17 P g gs) (hgm:gs.modes=[.look e ag,.rptr τ])
  {f : FuncId} {fn : Func} (hf : P.funcs[f]? = some fn) (hb : fn.body = some (je5 S E I B U T fx)) (hn : fn.ntmps = 42) (hr : fn.results = #[.tmp 4]) (hname : (fn.name == "runtime.NumGoroutine") = false) : Z17 P f (jsi e g ag τ tg gs) := by
 obtain ⟨z,L,_⟩:=jp8 hm hT hS hu hI hB hE
 exact jqW L hT hE hag (λw=>by rw [hag];exact Z6M hT hE w) aT zT hk1 hk2 htg hfx hbx hnx hrx hnamex hg hgm hf hb hn hr hname
end
end Go.PI
namespace Go.PI
noncomputable section
abbrev AR:=Ty×Option (List Tag)
@[reducible] def ArT:List AR->Type
 | []=>Unit
 | a::l=>El a.1×ArT l
@[reducible] def ExT:List (Ty×List Tag)->Type
 | []=>Unit
 | a::l=>(Bool×El a.1)×ExT l
section
variable {R:Type} {r:R}
def rdA:(l:List AR)->List TVal->(ArT l->Option R)->Option R
 | [],vals,f=>nl vals (f ())
 | (τ,none)::l,vals,f=>av vals τ λx vals=>rdA l vals λy=>f (x,y)
 | (τ,some tg)::l,vals,f=>ao vals τ tg λx vals=>rdA l vals λy=>f (x,y)
def mkA:(l:List AR)->ArT l->(Nat->Bool×List Tag)->List TVal
 | [],_,_=>[]
 | (τ,none)::l,x,fl=>⟨τ,(fl 0).1,x.1,(fl 0).2⟩::mkA l x.2 λn=>fl (n+1)
 | (τ,some tg)::l,x,fl=>⟨τ,(fl 0).1,x.1,tg⟩::mkA l x.2 λn=>fl (n+1)
def jrZ:(l:List (Ty×List Tag))->List TVal->(ExT l->Option R)->Option R
 | [],vals,f=>nl vals (f ())
 | (τ,tg)::l,vals,f=>ab vals τ tg λa x vals=>jrZ l vals λy=>f ((a,x),y)
def mkX:(l:List (Ty×List Tag))->ExT l->List TVal
 | [],_=>[]
 | (τ,tg)::l,x=>⟨τ,x.1.1,x.1.2,tg⟩::mkX l x.2
theorem jl0:(l:List AR)->{vals:List TVal}->{f:ArT l->Option R}->rdA l vals f=some r->∃ x fl,vals=mkA l x fl/\f x=some r
 | [],vals,f,h=>by
  obtain ⟨e,h⟩:=Zaw h
  exact ⟨(),λ_=>(false,[]),e,h⟩
 | (τ,none)::l,vals,f,h=>by
  obtain ⟨x,a,t,l',e,h⟩:=Zap h
  obtain ⟨y,fl,b,h⟩:=jl0 l h
  exact ⟨(x,y),λn=>Nat.casesOn n (a,t) fl,by rw [e,b];rfl,h⟩
 | (τ,some tg)::l,vals,f,h=>by
  obtain ⟨a,x,l',e,h⟩:=Zao h
  obtain ⟨y,fl,b,h⟩:=jl0 l h
  exact ⟨(x,y),λn=>Nat.casesOn n (a,[]) fl,by rw [e,b];rfl,h⟩
theorem jng:(l:List (Ty×List Tag))->{vals:List TVal}->{f:ExT l->Option R}->jrZ l vals f=some r->∃ x,vals=mkX l x/\f x=some r
 | [],vals,f,h=>by
  obtain ⟨e,h⟩:=Zaw h
  exact ⟨(),e,h⟩
 | (τ,tg)::l,vals,f,h=>by
  obtain ⟨a,x,l',e,h⟩:=Zan h
  obtain ⟨y,b,h⟩:=jng l h
  exact ⟨((a,x),y),by rw [e,b];rfl,h⟩
def sg (modes:List Mode) (ags:List Bool) (l:List AR) (m:List (Ty×List Tag)) (f:ArT l->ExT m->(List TVal->List TVal->List TVal->Option R)->Option R):Sig R:=
 ⟨modes,ags,λvals ext k=>rdA l vals λx=>jrZ m ext λy=>f x y k⟩
end
inductive RS where
 | v (i:Nat) (τ:Ty) (ag:Bool) (tg:List Tag)
 | u (i:Nat) (τ:Ty) (ag:Bool) (tg:List Tag) (ags:List Bool)
 | e (i:Nat) (τ:Ty) (ag:Bool) (tg:List Tag) (t:Tag)
 | c (i:Nat) (f:FuncId) (τs:List Ty) (τ:Ty) (tg:List Tag)
 | t (i:Nat) (p:TV)
abbrev RS.I (i:Nat):RS:= .v i (.int .i64) false []
abbrev RS.B (i:Nat):RS:= .v i .bool false []
abbrev RS.S (i:Nat):RS:= .v i .str false []
abbrev RS.R (i:Nat) (τ:Ty) (t:Tag):RS:= .v i τ false [t]
@[reducible] def RsT:List RS->Type
 | []=>Unit
 | .v _ τ _ _::l=>El τ×RsT l
 | .u _ τ _ _ _::l=>El τ×RsT l
 | .e _ τ _ _ _::l=>El τ×RsT l
 | .c _ _ _ τ _::l=>El τ×RsT l
 | .t _ _::l=>RsT l
abbrev BX:=Nat×Ty×List Tag
@[reducible] def BxT:List BX->Type
 | []=>Unit
 | a::l=>(Bool×El a.2.1)×BxT l
section
variable {R:Type} {r:R}
def rdR (σ:State):(l:List RS)->(RsT l->Option R)->Option R
 | [],f=>f ()
 | .v i τ ag tg::l,f=>rdV σ i τ ag tg λx=>rdR σ l λy=>f (x,y)
 | .u i τ ag tg ags::l,f=>rdU σ i τ ag tg ags λx=>rdR σ l λy=>f (x,y)
 | .e i τ ag tg t::l,f=>rdE σ i τ ag tg t λx=>rdR σ l λy=>f (x,y)
 | .c i g b τ tg::l,f=>rdC σ i g b τ tg λx=>rdR σ l λy=>f (x,y)
 | .t i p::l,f=>rdT σ i p (rdR σ l f)
def slR:(l:List RS)->RsT l->List (Nat×TV)
 | [],_=>[]
 | .v i τ ag tg::l,x=>(i,.val ⟨τ,ag,x.1,tg⟩)::slR l x.2
 | .u i τ ag tg ags::l,x=>(i,.tup ⟨τ,ag,x.1,tg⟩ ags)::slR l x.2
 | .e i τ ag tg t::l,x=>(i,.eptr ⟨τ,ag,x.1,tg⟩ t)::slR l x.2
 | .c i g b τ tg::l,x=>(i,.sclos g b ⟨τ,false,x.1,tg⟩)::slR l x.2
 | .t i p::l,x=>(i,p)::slR l x
def ixR:List RS->List Nat
 | []=>[]
 | .v i _ _ _::l=>i::ixR l
 | .u i _ _ _ _::l=>i::ixR l
 | .e i _ _ _ _::l=>i::ixR l
 | .c i _ _ _ _::l=>i::ixR l
 | .t i _::l=>i::ixR l
def jrY (σ:State):(l:List BX)->(BxT l->Option R)->Option R
 | [],f=>f ()
 | (i,τ,tg)::l,f=>rdB σ i τ tg λa x=>jrY σ l λy=>f ((a,x),y)
def bxR:(l:List BX)->BxT l->List (Nat×TVal)
 | [],_=>[]
 | (i,τ,tg)::l,x=>(i,⟨τ,x.1.1,x.1.2,tg⟩)::bxR l x.2
theorem jcf {σ:State}:(l:List RS)->{f:RsT l->Option R}->rdR σ l f=some r->∃ x,Z4c σ (slR l x)/\f x=some r
 | [],f,h=>⟨(),trivial,h⟩
 | .v i τ ag tg::l,f,h=>by
  obtain ⟨x,e,h⟩:=Zaf h
  obtain ⟨y,b,h⟩:=jcf l h
  exact ⟨(x,y),⟨e,b⟩,h⟩
 | .u i τ ag tg ags::l,f,h=>by
  obtain ⟨x,e,h⟩:=Zae h
  obtain ⟨y,b,h⟩:=jcf l h
  exact ⟨(x,y),⟨e,b⟩,h⟩
 | .e i τ ag tg t::l,f,h=>by
  obtain ⟨x,e,h⟩:=Zab h
  obtain ⟨y,b,h⟩:=jcf l h
  exact ⟨(x,y),⟨e,b⟩,h⟩
 | .c i g d τ tg::l,f,h=>by
  obtain ⟨x,e,h⟩:=Zaa h
  obtain ⟨y,b,h⟩:=jcf l h
  exact ⟨(x,y),⟨e,b⟩,h⟩
 | .t i p::l,f,h=>by
  obtain ⟨e,h⟩:=Zad h
  obtain ⟨y,b,h⟩:=jcf l h
  exact ⟨y,⟨e,b⟩,h⟩
theorem jnf {σ:State}:(l:List BX)->{f:BxT l->Option R}->jrY σ l f=some r->∃ x,Z4b σ (bxR l x)/\f x=some r
 | [],f,h=>⟨(),trivial,h⟩
 | (i,τ,tg)::l,f,h=>by
  obtain ⟨a,x,e,h⟩:=Za9 h
  obtain ⟨y,b,h⟩:=jnf l h
  exact ⟨((a,x),y),⟨e,b⟩,h⟩
abbrev Kx (R:Type):=Ex->List (Nat×TV)->List (Nat×TVal)->Option R
abbrev kx (n m:Nat) (k:Z83 R):Kx R:=λe d b=>k e (mkS n m d b)
def Nd (n m:Nat) (l:List RS) (b:List BX) (f:RsT l->BxT b->Kx R->Option R):Z1d R:=λσ k=>rdN σ n (rdR σ l λx=>jrY σ b λy=>f x y (kx n m k))
theorem jpS {n m:Nat} {l:List RS} {b:List BX} {f:RsT l->BxT b->Kx R->Option R} {σ:State} {k:Z83 R} (h:Nd n m l b f σ k=some r):∃ x y,Z2F (mkS n m (slR l x) (bxR b y)) σ/\f x y (kx n m k)=some r:=by
 obtain ⟨g,h⟩:=Zac h
 obtain ⟨x,e,h⟩:=jcf l h
 obtain ⟨y,d,h⟩:=jnf b h
 exact ⟨x,y,ZaM g e d,h⟩
def NdL {V K:Type} (n m:Nat) (l:List RS) (b:List BX) (d:RsT l->BxT b->V) (w:RsT l->V->RsT l) (w2:BxT b->V->BxT b) (step:RsT l->BxT b->V->(V->Option R)->K->Option R) (E:RsT l->BxT b->Kx R->K):Z1d R:=
 Nd n m l b λx y k=>Z1f (step x y) Z1c (d x y) (E x y k)
variable {P:Program} {np:Nat} {X:List (Z1d R)} {ty:List (TypeId×Ty×List TypeId)} {fs:List (FuncId×Sig R)} [Subsingleton R]
theorem fnD (w:P.follows .mixedOrders=true) (n:Z0e P ty) (j:Fns P fs) {f:FuncId} {fn:Func} (X:List (Z1d R)) {ht:HT} (i:Z20 P np X ht (bo fn)) (fz:Bool) (q:P.funcs[f]? = some fn)
  {modes:List Mode} {ags:List Bool} {l:List AR} {m:List (Ty×List Tag)} {F:ArT l->ExT m->(List TVal->List TVal->List TVal->Option R)->Option R}
  (h:∀ x fl y k,Z8k ⟨ty,fs,np⟩ X ht fz fn modes ags (mkA l x fl) (mkX m y) k=F x y k)
  (b : (fn.name == "runtime.NumGoroutine") = false := by kernel_rfl) (p : fn.body = some (bo fn) := by kernel_rfl) (z : Nat.ble modes.length fn.ntmps = true := by kernel_rfl) : Z17 P f (sg modes ags l m F) :=
 jsj w n j X i fz q (λvals ext k B A=>by
  obtain ⟨x,fl,rfl,d⟩:=jl0 l A
  obtain ⟨y,rfl,g⟩:=jng m d
  exact (h x fl y k).trans g) b p z
theorem nD (C:P.follows .mixedOrders=true) (B:Z0e P ty) (A:Fns P fs) {j:Base} {M:Nat->Prop} (g:j.np<=np) (X:List (Z1d R)) {c:Code} {ht:HT} (z:Z20 P np X ht c)
  (p:List Nat×List Nat) (w:List (Nat×List Nat×List Nat)) (q:List Nat×List Nat) {n m:Nat} {l:List RS} {b:List BX} {f:RsT l->BxT b->Kx R->Option R}
  (h:∀ x y k,Z0S ⟨ty,fs,np⟩ X ht c (mkS n m (slR l x) (bxR b y)) (λe σ=>k e (Z9E p w q e σ))=f x y (kx n m k)):Z14 P j M c (Nd n m l b f):=
 jjh C B A g X z p w q λσ k D i=>by
  obtain ⟨x,y,d,i⟩:=jpS i
  exact ⟨_,d,(h x y k).trans i⟩
theorem lD {V K:Type} (H:P.follows .mixedOrders=true) (F:Z0e P ty) (D:Fns P fs) {j:Base} {M:Nat->Prop} (g:j.np<=np) (X:List (Z1d R)) {c:Code} {ht:HT} (C:Z20 P np X ht c.pl)
  (p:List Nat×List Nat) (z:List (Nat×List Nat×List Nat)) (q:List Nat×List Nat) {n m:Nat} {l:List RS} {b:List BX} {d:RsT l->BxT b->V} {step:RsT l->BxT b->V->(V->Option R)->K->Option R} {E:RsT l->BxT b->Kx R->K}
  {w:RsT l->V->RsT l} {w2:BxT b->V->BxT b}
  (h:∀ x y v (rec:State->Option R) (k:Z83 R),Z0S ⟨ty,fs,np⟩ X ht c.pl (mkS n m (slR l (w x v)) (bxR b (w2 y v))) (λe σ=>match e with | .normal=>rec (σ.forget (ixR l) (b.map Prod.fst)) | e=>k e (Z9E p z q e σ)) =
   step x y v (λv=>rec (mkS n m (slR l (w x v)) (bxR b (w2 y v)))) (E x y (kx n m k)))
  (A:∀ x y,w x (d x y)=x:=by exact λ_ _=>rfl) (B:∀ x y,w2 y (d x y)=y:=by exact λ_ _=>rfl) (G:c= .loop c.pl:=by kernel_rfl):Z14 P j M c (NdL n m l b d w w2 step E):=
 jqq H F D g X C (ixR l) (b.map Prod.fst) p z q (λσ k I i=>by
  obtain ⟨x,y,f,i⟩:=jpS i
  refine ⟨_,f,?_⟩
  have:=Z9u (λv=>mkS n m (slR l (w x v)) (bxR b (w2 y v))) (step x y) (λk=>E x y (kx n m k)) (λv rec k=>h x y v rec k) Z1c (d x y) k
  rw [A,B] at this
  exact this.trans i) G
end
end
end Go.PI
set_option maxRecDepth 100000
namespace Go.PI.G
open Go Go.PI Go.Proofs
open Go.Code (pl pr)
abbrev qV:=Int×Int×ByteArray
abbrev qW:=List qV
abbrev qC:=ByteArray×Int×Bool×Bool×Int×Int×ByteArray
abbrev qE:=List qC
abbrev qT:=ByteArray×qE×List ByteArray
abbrev qF:=List qT
abbrev qR:=List qW
abbrev qX:=List qR
abbrev qD:=qF×List qR
abbrev qB:=ByteArray
abbrev qL:=List ByteArray
abbrev qS:=Int×ByteArray×qW×qW×Int×ByteArray×qE×List ByteArray×ByteArray×ByteArray
abbrev qG:=Int×ByteArray×qE×List ByteArray×ByteArray×ByteArray
abbrev qP:=Int×Int×qS
abbrev qQ:=Int×qP×Int×Int×Int
abbrev qU:=List qS
abbrev y0:Ty:= .slice .str
abbrev y1:Ty:= .pair tI .str
abbrev y2:Ty:= .pair tI y1
abbrev y3:Ty:= .slice y2
abbrev y4:Ty:= .pair .bool y2
abbrev y5:Ty:= .pair .bool y4
abbrev y6:Ty:= .pair tI y5
abbrev y7:Ty:= .pair .str y6
abbrev y8:Ty:= .slice y7
abbrev y9:Ty:= .pair y8 y0
abbrev y10:Ty:= .pair .str y9
abbrev y11:Ty:= .slice y10
abbrev y12:Ty:= .slice y3
abbrev y13:Ty:= .slice y12
abbrev y14:Ty:= .pair y11 y13
abbrev y15:Ty:= .pair .str .str
abbrev y16:Ty:= .pair y0 y15
abbrev y17:Ty:= .pair y8 y16
abbrev y18:Ty:= .pair .str y17
abbrev y19:Ty:= .pair tI y18
abbrev y20:Ty:= .pair y3 y19
abbrev y21:Ty:= .pair y3 y20
abbrev y22:Ty:= .pair .str y21
abbrev y23:Ty:= .pair tI y22
abbrev y24:Ty:= .slice y23
abbrev y25:Ty:= .slice (.int .u8)
abbrev y26:Ty:= .pair y10 y3
def jsY:qB:=⟨#[109,48]⟩
def z_m:qB:=⟨#[109]⟩
def tys:List (TypeId×Ty×List TypeId):=[(3,tI,[]),(4,.bool,[]),(5,(.int .u8),[]),(9,.str,[]),(22,y0,[]),(49,y3,[]),(52,y3,[]),(61,y3,[52]),(79,y11,[]),(81,y11,[79]),(82,y13,[]),(84,y14,[81,82]),(85,y24,[]),(88,y24,[]),(91,y11,[]),(93,y11,[91]),(94,y13,[]),(96,y14,[93,94]),(105,y3,[49]),(106,y8,[]),(108,y19,[3,9,106,22,9,9]),(110,y23,[3,9,49,105,108]),(116,y8,[]),(118,y19,[3,9,116,22,9,9]),(120,y23,[3,9,52,61,118]),(148,y2,[3,3,9]),(151,y2,[3,3,9]),(162,y10,[9,116,22]),(163,y12,[]),(165,y12,[163]),(211,y25,[]),(213,y7,[9,3,4,4,151]),(223,y12,[]),(225,y12,[223]),(262,y10,[9,106,22]),(291,y7,[9,3,4,4,148])]
theorem follows:Tryz.prog.follows .mixedOrders=true:=by kernel_rfl
theorem j4e:Z0e Tryz.prog tys:=ZaD (by kernel_rfl)
abbrev SO (f:Nat) (s:Sig Unit):Prop:=Z17 Tryz.prog f s
abbrev FS (l:List (FuncId×Sig Unit)):Prop:=Fns Tryz.prog l
def CN (np n:Nat) (f:Func) (x:Z1d Unit):Prop:=∀ {b:Base} {M:Nat->Prop},b.np<=np->Z14 Tryz.prog b M (cAt n (bo f)) x
theorem fK {np : Nat} {d : List (FuncId × Sig Unit)} (i : FS d) {f : FuncId} {fn : Func} (X : List (Z1d Unit)) {ht : HT} (g : Z20 Tryz.prog np X ht (bo fn)) (fz : Bool) (n : Tryz.prog.funcs[f]? = some fn) {modes : List Mode} {ags : List Bool} {l : List AR} {m : List (Ty × List Tag)} {F : ArT l → ExT m → (List TVal → List TVal → List TVal → Res) → Res} (h : ∀ x fl y k, Z8k ⟨tys, d, np⟩ X ht fz fn modes ags (mkA l x fl) (mkX m y) k = F x y k) (b : (fn.name == "runtime.NumGoroutine") = false := by kernel_rfl) (j : fn.body = some (bo fn) := by kernel_rfl) (p : Nat.ble modes.length fn.ntmps = true := by kernel_rfl) : SO f (sg modes ags l m F) := fnD follows j4e i X g fz n h b j p
theorem nK {np j:Nat} {f:Func} {g:List (FuncId×Sig Unit)} (w:FS g) (X:List (Z1d Unit)) {ht:HT} (r:Z20 Tryz.prog np X ht (cAt j (bo f))) (i:List Nat×List Nat) (q:List (Nat×List Nat×List Nat)) (p:List Nat×List Nat) {n m:Nat} {l:List RS} {b:List BX} {F:RsT l->BxT b->Kx Unit->Res} (h:∀ x y k,Z0S ⟨tys,g,np⟩ X ht (cAt j (bo f)) (mkS n m (slR l x) (bxR b y)) (λe σ=>k e (Z9E i q p e σ))=F x y (kx n m k)):CN np j f (Nd n m l b F):=λd=>nD follows j4e w d X r i q p h
theorem lK {V K:Type} {np j:Nat} {f:Func} {i:List (FuncId×Sig Unit)} (C:FS i) (X:List (Z1d Unit)) {ht:HT} (B:Z20 Tryz.prog np X ht (cAt j (bo f)).pl) (p:List Nat×List Nat) (r:List (Nat×List Nat×List Nat)) (q:List Nat×List Nat) {n m:Nat} {l:List RS} {b:List BX} {g:RsT l->BxT b->V} {step:RsT l->BxT b->V->(V->Res)->K->Res} {E:RsT l->BxT b->Kx Unit->K} {w:RsT l->V->RsT l} {w2:BxT b->V->BxT b} (h:∀ x y v (rec:State->Res) (k:Z83 Unit),Z0S ⟨tys,i,np⟩ X ht (cAt j (bo f)).pl (mkS n m (slR l (w x v)) (bxR b (w2 y v))) (λe σ=>match e with | .normal=>rec (σ.forget (ixR l) (b.map Prod.fst)) | e=>k e (Z9E p r q e σ))=step x y v (λv=>rec (mkS n m (slR l (w x v)) (bxR b (w2 y v)))) (E x y (kx n m k))) (z:∀ x y,w x (g x y)=x:=by exact λ_ _=>rfl) (A:∀ x y,w2 y (g x y)=y:=by exact λ_ _=>rfl) (D:cAt j (bo f)= .loop (cAt j (bo f)).pl:=by kernel_rfl):CN np j f (NdL n m l b g w w2 step E):=λd=>lD follows j4e C d X B p r q h z A D
end Go.PI.G
