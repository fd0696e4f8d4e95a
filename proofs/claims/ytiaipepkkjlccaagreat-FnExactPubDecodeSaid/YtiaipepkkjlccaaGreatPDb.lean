/-
  Program's code interpreted over typed values; printed texts; plain laws. No conditions.
-/
import Derived.Test.YtiaipepkkjlccaaGreatPDa
import Derived.Shelf.RegionOpenPlain
import Derived.WalkKit
import Derived.Lib.Walk
import Derived.Lib.SliceRun
import Derived.Lib.AppendZerosOnto
import Derived.Lib.Overlaps
import Derived.Laws.Externs
set_option linter.unusedVariables false
set_option linter.unusedSimpArgs false
namespace Go.PI
open Go Go.Proofs
def jcn (S I B U:TypeId)(fo fr:FuncId):Code:=
(.seq (.region 0 #[⟨(some 6), .assign (.const (.slice none 0 0)), S, "slices.go:136", #[], none⟩] false)
 (.seq (.region 1 #[⟨(some 10), .move (.tmp 0), S, "slices.go:137", #[], none⟩,
  ⟨(some 11), .move (.tmp 1), I, "slices.go:137", #[], none⟩,
  ⟨(some 12), .slice S (.tmp 10) (some (.tmp 11)) none none, S, "slices.go:137", #[⟨0, .data⟩, ⟨1, .data⟩], none⟩] false)
 (.seq (.region 2 #[⟨(some 13), .move (.tmp 2), S, "slices.go:139", #[], none⟩,
  ⟨(some 14), .call ⟨(.builtin .len), #[(.tmp 13)], #[S]⟩, I, "slices.go:139", #[⟨0, .data⟩], none⟩,
  ⟨(some 7), .assign (.tmp 14), I, "slices.go:139", #[⟨1, .data⟩, ⟨0, .phase⟩, ⟨1, .phase⟩], none⟩] false)
 (.seq (.seq (.region 3 #[⟨(some 15), .move (.tmp 7), I, "slices.go:140", #[], none⟩,
  ⟨(some 16), .binOp .eql I (.tmp 15) (.const (.int .i64 0)) I, B, "slices.go:140", #[⟨0, .data⟩], none⟩] false)
 (.cond (.tmp 16)
  (.seq (.region 4 #[⟨(some 17), .move (.tmp 0), S, "slices.go:141", #[], none⟩,
   ⟨(some 6), .assign (.tmp 17), S, "slices.go:141", #[⟨0, .data⟩, ⟨0, .phase⟩], none⟩] false)
  .ret)
  .skip))
 (.seq (.region 5 #[⟨(some 18), .move (.tmp 0), S, "slices.go:143", #[], none⟩,
  ⟨(some 19), .call ⟨(.builtin .len), #[(.tmp 18)], #[S]⟩, I, "slices.go:143", #[⟨0, .data⟩], none⟩,
  ⟨(some 8), .assign (.tmp 19), I, "slices.go:143", #[⟨1, .data⟩, ⟨0, .phase⟩, ⟨1, .phase⟩], none⟩] false)
 (.seq (.seq (.region 6 #[⟨(some 20), .move (.tmp 1), I, "slices.go:144", #[], none⟩,
  ⟨(some 21), .move (.tmp 8), I, "slices.go:144", #[], none⟩,
  ⟨(some 22), .binOp .eql I (.tmp 20) (.tmp 21) I, B, "slices.go:144", #[⟨0, .data⟩, ⟨1, .data⟩], none⟩] false)
 (.cond (.tmp 22)
  (.seq (.region 7 #[⟨(some 23), .move (.tmp 0), S, "slices.go:145", #[], none⟩,
   ⟨(some 24), .move (.tmp 2), S, "slices.go:145", #[], none⟩,
   ⟨(some 25), .call ⟨(.builtin .append), #[(.tmp 23), (.tmp 24)], #[S, S]⟩, S, "slices.go:145", #[⟨0, .data⟩, ⟨1, .data⟩], none⟩,
   ⟨(some 6), .assign (.tmp 25), S, "slices.go:145", #[⟨2, .data⟩, ⟨2, .chain⟩, ⟨0, .phase⟩, ⟨1, .phase⟩, ⟨2, .phase⟩], none⟩] false)
  .ret)
  .skip))
 (.seq (.seq (.region 8 #[⟨(some 26), .move (.tmp 8), I, "slices.go:147", #[], none⟩,
  ⟨(some 27), .move (.tmp 7), I, "slices.go:147", #[], none⟩,
  ⟨(some 28), .binOp .add I (.tmp 26) (.tmp 27) I, I, "slices.go:147", #[⟨0, .data⟩, ⟨1, .data⟩], none⟩,
  ⟨(some 29), .move (.tmp 0), S, "slices.go:147", #[], none⟩,
  ⟨(some 30), .call ⟨(.builtin .cap), #[(.tmp 29)], #[S]⟩, I, "slices.go:147", #[⟨3, .data⟩], none⟩,
  ⟨(some 31), .binOp .gtr I (.tmp 28) (.tmp 30) I, B, "slices.go:147", #[⟨2, .data⟩, ⟨4, .data⟩], none⟩] false)
 (.cond (.tmp 31)
  (.seq (.region 9 #[⟨(some 32), .move (.tmp 0), S, "slices.go:152", #[], none⟩,
   ⟨(some 33), .move (.tmp 1), I, "slices.go:152", #[], none⟩,
   ⟨(some 34), .slice S (.tmp 32) none (some (.tmp 33)) none, S, "slices.go:152", #[⟨0, .data⟩, ⟨1, .data⟩], none⟩,
   ⟨(some 35), .move (.tmp 8), I, "slices.go:152", #[], none⟩,
   ⟨(some 36), .move (.tmp 7), I, "slices.go:152", #[], none⟩,
   ⟨(some 37), .binOp .add I (.tmp 35) (.tmp 36) I, I, "slices.go:152", #[⟨3, .data⟩, ⟨4, .data⟩], none⟩,
   ⟨(some 38), .move (.tmp 1), I, "slices.go:152", #[], none⟩,
   ⟨(some 39), .binOp .sub I (.tmp 37) (.tmp 38) I, I, "slices.go:152", #[⟨5, .data⟩, ⟨6, .data⟩], none⟩,
   ⟨(some 40), .call ⟨(.builtin .append), #[(.tmp 34), (.tmp 39)], #[S, I]⟩, S, "slices.go:152", #[⟨2, .data⟩, ⟨7, .data⟩], none⟩,
   ⟨(some 9), .assign (.tmp 40), S, "slices.go:152", #[⟨8, .data⟩, ⟨8, .chain⟩, ⟨0, .phase⟩, ⟨1, .phase⟩, ⟨2, .phase⟩, ⟨3, .phase⟩, ⟨4, .phase⟩, ⟨5, .phase⟩, ⟨6, .phase⟩, ⟨7, .phase⟩, ⟨8, .phase⟩], none⟩] false)
  (.seq (.region 10 #[⟨(some 41), .move (.tmp 9), S, "slices.go:153", #[], none⟩,
   ⟨(some 42), .move (.tmp 1), I, "slices.go:153", #[], none⟩,
   ⟨(some 43), .slice S (.tmp 41) (some (.tmp 42)) none none, S, "slices.go:153", #[⟨0, .data⟩, ⟨1, .data⟩], none⟩,
   ⟨(some 44), .move (.tmp 2), S, "slices.go:153", #[], none⟩,
   ⟨(some 45), .call ⟨(.builtin .copy), #[(.tmp 43), (.tmp 44)], #[S, S]⟩, I, "slices.go:153", #[⟨2, .data⟩, ⟨3, .data⟩], none⟩] false)
  (.seq (.region 11 #[⟨(some 46), .move (.tmp 9), S, "slices.go:154", #[], none⟩,
   ⟨(some 47), .move (.tmp 1), I, "slices.go:154", #[], none⟩,
   ⟨(some 48), .move (.tmp 7), I, "slices.go:154", #[], none⟩,
   ⟨(some 49), .binOp .add I (.tmp 47) (.tmp 48) I, I, "slices.go:154", #[⟨1, .data⟩, ⟨2, .data⟩], none⟩,
   ⟨(some 50), .slice S (.tmp 46) (some (.tmp 49)) none none, S, "slices.go:154", #[⟨0, .data⟩, ⟨3, .data⟩], none⟩,
   ⟨(some 51), .move (.tmp 0), S, "slices.go:154", #[], none⟩,
   ⟨(some 52), .move (.tmp 1), I, "slices.go:154", #[], none⟩,
   ⟨(some 53), .slice S (.tmp 51) (some (.tmp 52)) none none, S, "slices.go:154", #[⟨5, .data⟩, ⟨6, .data⟩], none⟩,
   ⟨(some 54), .call ⟨(.builtin .copy), #[(.tmp 50), (.tmp 53)], #[S, S]⟩, I, "slices.go:154", #[⟨4, .data⟩, ⟨7, .data⟩], none⟩] true)
  (.seq (.region 12 #[⟨(some 55), .move (.tmp 9), S, "slices.go:155", #[], none⟩,
   ⟨(some 6), .assign (.tmp 55), S, "slices.go:155", #[⟨0, .data⟩, ⟨0, .phase⟩], none⟩] false)
  .ret))))
  .skip))
 (.seq (.region 13 #[⟨(some 56), .move (.tmp 0), S, "slices.go:157", #[], none⟩,
  ⟨(some 57), .move (.tmp 8), I, "slices.go:157", #[], none⟩,
  ⟨(some 58), .move (.tmp 7), I, "slices.go:157", #[], none⟩,
  ⟨(some 59), .binOp .add I (.tmp 57) (.tmp 58) I, I, "slices.go:157", #[⟨1, .data⟩, ⟨2, .data⟩], none⟩,
  ⟨(some 60), .slice S (.tmp 56) none (some (.tmp 59)) none, S, "slices.go:157", #[⟨0, .data⟩, ⟨3, .data⟩], none⟩,
  ⟨(some 0), .assign (.tmp 60), S, "slices.go:157", #[⟨4, .data⟩, ⟨0, .phase⟩, ⟨1, .phase⟩, ⟨2, .phase⟩, ⟨3, .phase⟩, ⟨4, .phase⟩], none⟩] false)
 (.seq (.seq (.region 14 #[⟨(some 61), .move (.tmp 2), S, "slices.go:173", #[], none⟩,
  ⟨(some 62), .move (.tmp 0), S, "slices.go:173", #[], none⟩,
  ⟨(some 63), .move (.tmp 1), I, "slices.go:173", #[], none⟩,
  ⟨(some 64), .move (.tmp 7), I, "slices.go:173", #[], none⟩,
  ⟨(some 65), .binOp .add I (.tmp 63) (.tmp 64) I, I, "slices.go:173", #[⟨2, .data⟩, ⟨3, .data⟩], none⟩,
  ⟨(some 66), .slice S (.tmp 62) (some (.tmp 65)) none none, S, "slices.go:173", #[⟨1, .data⟩, ⟨4, .data⟩], none⟩,
  ⟨(some 67), .call ⟨(.value (.func fo)), #[(.tmp 61), (.tmp 66)], #[S, S]⟩, B, "slices.go:173", #[⟨0, .data⟩, ⟨5, .data⟩], none⟩,
  ⟨(some 68), .unOp .not B (.tmp 67), B, "slices.go:173", #[⟨6, .data⟩], none⟩] false)
 (.cond (.tmp 68)
  (.seq (.region 15 #[⟨(some 69), .move (.tmp 0), S, "slices.go:178", #[], none⟩,
   ⟨(some 70), .move (.tmp 1), I, "slices.go:178", #[], none⟩,
   ⟨(some 71), .move (.tmp 7), I, "slices.go:178", #[], none⟩,
   ⟨(some 72), .binOp .add I (.tmp 70) (.tmp 71) I, I, "slices.go:178", #[⟨1, .data⟩, ⟨2, .data⟩], none⟩,
   ⟨(some 73), .slice S (.tmp 69) (some (.tmp 72)) none none, S, "slices.go:178", #[⟨0, .data⟩, ⟨3, .data⟩], none⟩,
   ⟨(some 74), .move (.tmp 0), S, "slices.go:178", #[], none⟩,
   ⟨(some 75), .move (.tmp 1), I, "slices.go:178", #[], none⟩,
   ⟨(some 76), .slice S (.tmp 74) (some (.tmp 75)) none none, S, "slices.go:178", #[⟨5, .data⟩, ⟨6, .data⟩], none⟩,
   ⟨(some 77), .call ⟨(.builtin .copy), #[(.tmp 73), (.tmp 76)], #[S, S]⟩, I, "slices.go:178", #[⟨4, .data⟩, ⟨7, .data⟩], none⟩] true)
  (.seq (.region 16 #[⟨(some 78), .move (.tmp 0), S, "slices.go:186", #[], none⟩,
   ⟨(some 79), .move (.tmp 1), I, "slices.go:186", #[], none⟩,
   ⟨(some 80), .slice S (.tmp 78) (some (.tmp 79)) none none, S, "slices.go:186", #[⟨0, .data⟩, ⟨1, .data⟩], none⟩,
   ⟨(some 81), .move (.tmp 2), S, "slices.go:186", #[], none⟩,
   ⟨(some 82), .call ⟨(.builtin .copy), #[(.tmp 80), (.tmp 81)], #[S, S]⟩, I, "slices.go:186", #[⟨2, .data⟩, ⟨3, .data⟩], none⟩] false)
  (.seq (.region 17 #[⟨(some 83), .move (.tmp 0), S, "slices.go:193", #[], none⟩,
   ⟨(some 6), .assign (.tmp 83), S, "slices.go:193", #[⟨0, .data⟩, ⟨0, .phase⟩], none⟩] false)
  .ret)))
  .skip))
 (.seq (.region 18 #[⟨(some 84), .move (.tmp 0), S, "slices.go:200", #[], none⟩,
  ⟨(some 85), .move (.tmp 8), I, "slices.go:200", #[], none⟩,
  ⟨(some 86), .slice S (.tmp 84) (some (.tmp 85)) none none, S, "slices.go:200", #[⟨0, .data⟩, ⟨1, .data⟩], none⟩,
  ⟨(some 87), .move (.tmp 2), S, "slices.go:200", #[], none⟩,
  ⟨(some 88), .call ⟨(.builtin .copy), #[(.tmp 86), (.tmp 87)], #[S, S]⟩, I, "slices.go:200", #[⟨2, .data⟩, ⟨3, .data⟩], none⟩] false)
 (.seq (.region 19 #[⟨(some 89), .move (.tmp 0), S, "slices.go:207", #[], none⟩,
  ⟨(some 90), .move (.tmp 1), I, "slices.go:207", #[], none⟩,
  ⟨(some 91), .slice S (.tmp 89) (some (.tmp 90)) none none, S, "slices.go:207", #[⟨0, .data⟩, ⟨1, .data⟩], none⟩,
  ⟨(some 92), .move (.tmp 7), I, "slices.go:207", #[], none⟩,
  ⟨(some 93), .call ⟨(.value (.func fr)), #[(.tmp 91), (.tmp 92)], #[S, I]⟩, U, "slices.go:207", #[⟨2, .data⟩, ⟨3, .data⟩], none⟩] false)
 (.seq (.region 20 #[⟨(some 94), .move (.tmp 0), S, "slices.go:214", #[], none⟩,
  ⟨(some 6), .assign (.tmp 94), S, "slices.go:214", #[⟨0, .data⟩, ⟨0, .phase⟩], none⟩] false)
 .ret))))))))))))
section
variable {P:Program}{S E I B U:TypeId}{k:Nat}{z:Value}
theorem jib (T:SlT P S E I B k z)(ty:TypeId){w:World}{b o n c m sc:Nat}{a:Option Addr}{cur:Array Value}{t:TypeId}{fz:Nat×Nat}(hg:w.heap[b]? = some (.cells cur t fz))(hfz:Z3Z cur fz)
  {news:List Value} {q:Nat} (hq:q=Nat.min m n) (hX:(Builtin.firstCells k q (.slice a m sc)).run P w= .ok news.toArray w) (hfit:o+news.length<=cur.size) (h1:∀u∈news,one u=true) :
  (Builtin.copy_ #[S,S] ty #[.slice (some ⟨b,o,none⟩) n c,.slice a m sc]).run P w= .ok (goInt q) (w.setRow b (Z0c cur.toList o news).toArray):=by
 subst hq;have hst:=Z3n P b o t fz news 0 cur w hg hfz (by simpa using hfit) h1
 rw[XK]at hst;simp[Builtin.copy_,run_underlying T.tS,T.zE,Builtin.lenOf,hX,hst]
theorem jwK (w:World){o:Oper}{a:Act}{K:Act->World->Prop}{Q:Exit->Act->World->Prop}(d s:Operand)(t t':TypeId)
  (ho:o.op= .call { callee:= .builtin .copy,args:= #[d,s],argTypes:= #[t,t'] }) (v u:Value) (hd:a.eval d=v) (hs:a.eval s=u) {v':Value} {w':World}
  (hr:(Builtin.copy_ #[t,t'] o.type #[v,u]).run P w= .ok v' w') (h:K (a.put o.dst v') w'):o.wp P a w K Q:=by
 unfold Oper.wp execOp;simp only[ho,resolve,invoke,builtin,Sem.run_bind,Sem.run_pure,Result.andThen_ok,List.map_toArray,Qz,Yh,hd,hs,hr];exact h
theorem jfI (w:World){ops:Array Oper}{rest:List Oper}{o:Oper}{a:Act}{Q:Exit->Act->World->Prop}(hgd:o.guard=none)(d s:Operand)(t t':TypeId)
  (ho:o.op= .call { callee:= .builtin .copy,args:= #[d,s],argTypes:= #[t,t'] }) (v u:Value) (hd:a.eval d=v) (hs:a.eval s=u) {v':Value} {w':World}
  (hr:(Builtin.copy_ #[t,t'] o.type #[v,u]).run P w= .ok v' w') (h:wpList P ops Q rest (a.put o.dst v') w'):wpList P ops Q (o::rest) a w:=
 wpList_plain hgd λ_ hK=>jwK w d s t t' ho v u hd hs hr (hK _ _ h)
theorem jnF {ops:Array Oper}{o:Oper}{a:Act}{w:World}{K:Act->World->Prop}{Q:Exit->Act->World->Prop}{E:Prop}
  (hg:o.guard=none) (d x:Operand) (dT sT:TypeId) (hop:o.op=Op.call { callee:=Callee.builtin Builtin.copy,args:= #[d,x],argTypes:= #[dT,sT] })
  (v u:Value) (hd:a.eval d=v) (hx:a.eval x=u) {v':Value} {w':World} (hr:(Builtin.copy_ #[dT,sT] o.type #[v,u]).run P w= .ok v' w') (hK:K (a.put o.dst v') w') :
  if Region.wanted o (yielded ops a.tmps)=true then Oper.wp P o a w K Q else E:=by
 have hw:Region.wanted o (yielded ops a.tmps)=true:=by simp[Region.wanted,hg]
 rw[QM hw];unfold Oper.wp;simp[execOp,hop,resolve,invoke,builtin,hd,hx,hr,Result.andThen];exact hK
theorem jqC (T:SlT P S E I B k z){f fo fr:FuncId}{fn:Func}(hf:P.funcs[f]? = some fn)(hb:fn.body=some (jcn S I B U fo fr))(hn:fn.ntmps=95)(hr:fn.results= #[.tmp 6])
  {ad av:Option Addr} {n c m vc:Nat} {w w':World} {x:Value} (hnc:n<=c) (hm:0<m) (hmv:m<=vc) (happ:∀ty,(Builtin.append_ #[S,S] ty #[.slice ad n c,.slice av m vc]).run P w= .ok x w') :
  Calls P f #[.slice ad n c,.int .i64 n,.slice av m vc] w λe w2=>e= .returned x/\w2=w':=by
 have mixed:=T.mixed;have tS:=T.tS;have aS:=T.aS;have zS:=T.zS;have vS:=T.vS;have tI:=T.tI;have aI:=T.aI;have zI:=T.zI;have tB:=T.tB;have aB:=T.aB;have zB:=T.zB;have zE:=T.zE;have hz1:¬ ((m:Int)=0):=by omega
 refine calls_of_wp hf hb ?_;simp only[hn,QI,Q8,QE,Nat.reduceAdd,Nat.reduceSub,Xy,Xz,XL,XD,Qk,QL];unfold jcn
 go_wp2_with (at_builtin;refine Lib.wpList_append_run _ rfl _ _ _ _ rfl _ _ rfl rfl _ _ (happ _) ?_)
 all_goals
  try simp only[Exit.inBlock,Exit.then]
  exact bodyPost_ret (results_tmp hr _ _ _) rfl ⟨rfl,rfl⟩
set_option maxHeartbeats 4000000 in
set_option maxRecDepth 100000 in
theorem jwb (T:SlT P S E I B k z){f fo fr:FuncId}{fn:Func}(hf:P.funcs[f]? = some fn)(hb:fn.body=some (jcn S I B U fo fr))(hn:fn.ntmps=95)(hr:fn.results= #[.tmp 6])
  {b off n c i vb voff m vc:Nat} {w:World} {cur:Array Value} {t:TypeId} {fz:Nat×Nat} {vs:List Value} (hi:i<n) (hm:0<m) (hroom:n+m<=c) (hmv:m<=vc) (hlim:n+m<=LIM)
  (hg:w.heap[b]? = some (.cells cur t fz)) (hfz:Z3Z cur fz) (hs:off+c * k<=cur.size) (h1:∀c∈(cur.toList.drop off).take (n * k),one c=true) (hvb:vb≠b) (hvl:vs.length=m * k) (hv1:∀u∈vs,one u=true)
  (hv:∀W:World,W.heap[vb]? = w.heap[vb]? -> (Builtin.firstCells k m (.slice (some ⟨vb,voff,none⟩) m vc)).run P W= .ok vs.toArray W)
  (hov:∀lb cb,(callFunc fo #[.slice (some ⟨vb,voff,none⟩) m vc,.slice (some ⟨b,off+(i+m) * k,none⟩) lb cb]).run P w= .ok (.value (.bool false)) w) :
  Calls P f #[.slice (some ⟨b,off,none⟩) n c,.int .i64 i,.slice (some ⟨vb,voff,none⟩) m vc] w λe w'=>e= .returned (.slice (some ⟨b,off,none⟩) (n+m) c)/\Wrote w w' b /\
   w'.heap[b]? = some (.cells (Z0c (Z0c cur.toList (off+(i+m) * k) ((cur.toList.drop (off+i * k)).take ((n-i) * k))) (off+i * k) vs).toArray t fz):=by
 have mixed:=T.mixed;have tS:=T.tS;have aS:=T.aS;have zS:=T.zS;have vS:=T.vS;have tI:=T.tI;have aI:=T.aI;have zI:=T.zI;have tB:=T.tB;have aB:=T.aB;have zB:=T.zB;have zE:=T.zE;have hmul:∀a c:Nat,a<=c->a * k<=c * k:=λa c h=>Qt k h
 obtain⟨news,hnews⟩:∃news,news=(cur.toList.drop (off+i * k)).take ((n-i) * k):=⟨_,rfl⟩;have hcur:cur.toList.length=cur.size:=by simp
 have e1:i * k+(n-i) * k=n * k:=by rw[<-QC,show i+(n-i)=n by omega]
 have e2:(i+m) * k+(n-i) * k=(n+m) * k:=by rw[<-QC,show i+m+(n-i)=n+m by omega]
 have e3:i * k+m * k=(i+m) * k:=by rw[<-QC]
 have hck:=hmul (n+m) c hroom;have hnl:news.length=(n-i) * k:=by rw[hnews,Qf,Qu];omega
 have hn1:∀u∈news,one u=true:=λu hu=>by
  refine h1 u ?_;rw[hnews]at hu;have e:(cur.toList.drop (off+i * k)).take ((n-i) * k)=((cur.toList.drop off).take (n * k)).drop (i * k):=by
   rw[Yz,X9,show n * k-i * k=(n-i) * k by omega]
  rw[e]at hu;exact Xc hu
 have hcp1:∀ty dc sc,(Builtin.copy_ #[S,S] ty #[.slice (some ⟨b,off+(i+m) * k,none⟩) (n+m-(i+m)) dc,.slice (some ⟨b,off+i * k,none⟩) (n+m-i) sc]).run P w.drew= .ok (goInt (n-i:Nat)) (w.drew.setRow b (Z0c cur.toList (off+(i+m) * k) news).toArray):=λty dc sc=>by
  refine jib T ty (w:=w.drew) hg hfz (q:=n-i) (by simp only[Nat.min_def];split<;>omega) ?_ (by rw[hnl];omega) hn1
  rw[hnews];exact jf9 (w:=w.drew) hg (by omega)
 obtain⟨W1,hW1⟩:∃W1,W1=w.drew.setRow b (Z0c cur.toList (off+(i+m) * k) news).toArray:=⟨_,rfl⟩;have hg1:W1.heap[b]? = some (.cells (Z0c cur.toList (off+(i+m) * k) news).toArray t fz):=by rw[hW1];exact setRow_heap w.drew b cur _ t fz hg
 have hsz1:(Z0c cur.toList (off+(i+m) * k) news).toArray.size=cur.size:=by
  rw[QI,Z1T (by rw[hnl];omega)];exact hcur
 have hcp2:∀ty dc,(Builtin.copy_ #[S,S] ty #[.slice (some ⟨b,off+i * k,none⟩) (n+m-i) dc,.slice (some ⟨vb,voff,none⟩) m vc]).run P W1= .ok (goInt m) (W1.setRow b (Z0c (Z0c cur.toList (off+(i+m) * k) news).toArray.toList (off+i * k) vs).toArray):=λty dc=>
  jib T ty hg1 (λx hx=>hfz x (by rw[<-hsz1];exact hx)) (q:=m) (by simp only[Nat.min_def];split<;>omega) (hv W1 (by rw[hW1,setRow_other _ _ _ _ hvb];rfl)) (by rw[hsz1,hvl];omega) hv1
 have hW2:Wrote w (W1.setRow b (Z0c (Z0c cur.toList (off+(i+m) * k) news).toArray.toList (off+i * k) vs).toArray) b:=by
  rw[hW1];refine⟨?_,λx hx=> ?_,rfl,rfl,rfl⟩
  ·rw[setRow_size,setRow_size];rfl
  ·rw[setRow_other _ _ _ _ hx,setRow_other _ _ _ _ hx];rfl
 have hg2:=setRow_heap W1 b _ (Z0c (Z0c cur.toList (off+(i+m) * k) news).toArray.toList (off+i * k) vs).toArray t fz hg1;rw[<-hnews];generalize hW3:W1.setRow b (Z0c (Z0c cur.toList (off+(i+m) * k) news).toArray.toList (off+i * k) vs).toArray=W3 at hcp2 hW2 hg2;have hg2:W3.heap[b]? = some (.cells (Z0c (Z0c cur.toList (off+(i+m) * k) news) (off+i * k) vs).toArray t fz):=hg2;generalize Z0c (Z0c cur.toList (off+(i+m) * k) news) (off+i * k) vs=fin at hg2 ⊢;rw[<-hW1]at hcp1;clear hg1 hsz1 hn1 hnl hcur hnews h1 hmul hv hvl hv1;clear hg hfz hs hck e1 e2 e3;clear hW3 hW1;have hL:LIM=2147483648:=rfl;have hz1:¬ ((m:Int)=0):=by omega
 have hz2:¬ ((i:Int)=(n:Int)):=by omega
 have hw1:IntKind.i64.wrap ((i:Int)+(m:Int))=(i:Int)+(m:Int):=by rw[IntKind.wrap_i64];omega
 have hb1:(0:Int)<=(i:Int)+(m:Int):=by omega
 have hin:i<=n:=by omega
 have htn:((i:Int)+(m:Int)).toNat=i+m:=by omega
 have hb2:¬ (c=i+m):=by omega
 have hb3:(i:Int)<=(n:Int)+(m:Int):=by omega
 have hb4:¬ (c=i):=by omega
 refine calls_of_wp hf hb ?_;simp only[hn,QI,Q8,QE,Nat.reduceAdd,Nat.reduceSub,Xy,Xz,XL,XD,Qk,QL];unfold jcn
 go_wp2_with (simp only[hov])
 go_region_law_o (refine jnF rfl _ _ S S rfl _ _ (by simp[Act.eval,Act.put]) (by simp[Act.eval,Act.put]) (hcp1 _ _ _) ?_)
 go_wp2_with (at_builtin;refine jfI _ rfl _ _ S S rfl _ _ rfl rfl (hcp2 _ _) ?_)
 try simp only[Exit.inBlock,Exit.then]
 exact bodyPost_ret (results_tmp hr _ _ _) rfl ⟨rfl,hW2,hg2⟩
set_option maxHeartbeats 4000000 in
set_option maxRecDepth 100000 in
theorem jx5 (T:SlT P S E I B k z)(hE:∃i:TypeInfo,P.info? E=some i/\i.size=k/\i.zero=some z/\i.bytes<=65536)(hk:0<k){f fo fr:FuncId}{fn:Func}(hf:P.funcs[f]? = some fn)(hb:fn.body=some (jcn S I B U fo fr))(hn:fn.ntmps=95)(hr:fn.results= #[.tmp 6])
  {b off n c i vb voff m vc:Nat} {w:World} {olds rest vs:List Value} (hi:i<n) (hm:0<m) (hnc:n<=c) (hroom:c<n+m) (hmv:m<=vc) (hlim:n+m<=LIM) (hbw:b<w.heap.size) (hvbw:vb<w.heap.size)
  (hol:olds.length=i * k) (hrl:rest.length=(n-i) * k) (hvl:vs.length=m * k) (ho1:∀u∈olds,one u=true) (hr1:∀u∈rest,one u=true) (hv1:∀u∈vs,one u=true)
  (ho:∀W:World,W.heap[b]? = w.heap[b]? -> (Builtin.firstCells k i (.slice (some ⟨b,off,none⟩) i c)).run P W= .ok olds.toArray W)
  (hre:∀W:World,W.heap[b]? = w.heap[b]? -> ∀sc,(Builtin.firstCells k (n-i) (.slice (some ⟨b,off+i * k,none⟩) (n-i) sc)).run P W= .ok rest.toArray W)
  (hv:∀W:World,W.heap[vb]? = w.heap[vb]? -> (Builtin.firstCells k m (.slice (some ⟨vb,voff,none⟩) m vc)).run P W= .ok vs.toArray W) :
  Calls P f #[.slice (some ⟨b,off,none⟩) n c,.int .i64 i,.slice (some ⟨vb,voff,none⟩) m vc] w λe w'=>∃g tl,e= .returned (.slice (some ⟨w.heap.size,0,none⟩) (n+m) g)/\n+m<=g/\Ext (λ_=>False) w w' /\
   (olds++vs++rest++tl).length=g * k/\w.heap.size<w'.heap.size/\w'.heap[w.heap.size]? = some (.cells (olds++vs++rest++tl).toArray E (0,0)):=by
 have mixed:=T.mixed;have tS:=T.tS;have aS:=T.aS;have zS:=T.zS;have vS:=T.vS;have tI:=T.tI;have aI:=T.aI;have zI:=T.zI;have tB:=T.tB;have aB:=T.aB;have zB:=T.zB;have zE:=T.zE;obtain⟨i0,hi0,hzs,hz0,hzb⟩:=hE;have e1:i * k+(n-i) * k=n * k:=by rw[<-QC,show i+(n-i)=n by omega]
 have e2:(i+m) * k+(n-i) * k=(n+m) * k:=by rw[<-QC,show i+m+(n-i)=n+m by omega]
 have e3:i * k+m * k=(i+m) * k:=by rw[<-QC]
 have hL:LIM=2147483648:=rfl;have hkk:(n:Int)+(m:Int)-(i:Int)=((n+m-i:Nat):Int):=by omega
 have hik:i+(n+m-i)=n+m:=by omega
 have hb16:(n+m) * i0.bytes<=140737488355328:=by
  calc (n+m) * i0.bytes<=2147483648 * 65536:=YK (by omega) hzb
   _<=140737488355328:=by decide
 have hrz:∀ty,(Builtin.append_ #[S,I] ty #[.slice (some ⟨b,off,none⟩) i c,.int .i64 ((n:Int)+(m:Int)-(i:Int))]).run P w =
   .ok (.slice (some ⟨w.heap.size,0,none⟩) (n+m) (grownCap w (n+m) c E)) (w.drew.alloc (.cells (olds.toArray++Builtin.zeroCells z.cells (n+m-i)++Builtin.zeroCells z.cells (grownCap w (n+m) c E-(n+m))) E)):=λty=>by
  have h:=Lib.run_append_grow_zeros w S I ty E i0 z .i64 .i64 T.tS T.tI hi0 hz0 (some ⟨b,off,none⟩) i c olds (by rw[hzs];exact ho w.drew rfl) (n+m-i) (by omega) (by omega) (by omega) (by omega)
   (Qx (Qt _ (Nat.sub_le _ _)) (by omega)) (by rw[hik];exact growslice_fits hroom hb16)
  rw[hik]at h;rw[hkk];exact h
 obtain⟨G,hG⟩:∃G,G=grownCap w (n+m) c E:=⟨_,rfl⟩;have hGn:n+m<=G:=by rw[hG];exact grownCap_ge w _ _ _
 have hG63:G<=9223372036854775807:=by
  have:=grownCap_le_maxLen w (n+m) c E (by unfold maxLen;omega)
  rw[<-hG]at this;unfold maxLen at this;omega
 obtain⟨zs,hzs2⟩:∃zs,zs=Builtin.zeroCells z.cells (n+m-i)++Builtin.zeroCells z.cells (G-(n+m)):=⟨_,rfl⟩;have hzl:zs.size=(G-i) * k:=by
  rw[hzs2];have:(n+m-i) * k+(G-(n+m)) * k=(G-i) * k:=by rw[<-QC,show n+m-i+(G-(n+m))=G-i by omega]
  simp[Builtin.zeroCells,T.zk,this]
 rw[<-hG]at hrz;obtain⟨ROW,hROW⟩:∃ROW:Array Value,ROW=olds.toArray++Builtin.zeroCells z.cells (n+m-i)++Builtin.zeroCells z.cells (G-(n+m)):=⟨_,rfl⟩;rw[<-hROW]at hrz;have hRL:ROW.toList=olds++zs.toList:=by rw[hROW,hzs2];simp
 have hGk:i * k+(G-i) * k=G * k:=by rw[<-QC,show i+(G-i)=G by omega]
 have hnG:(n+m) * k<=G * k:=Qt _ hGn;have hRs:ROW.size=G * k:=by
  rw[<-X8,hRL,Q5,hol,X8,hzl,hGk]
 have hRs':ROW.toList.length=G * k:=by rw[X8];exact hRs
 obtain⟨W1,hW1⟩:∃W1,W1=w.drew.alloc (.cells ROW E):=⟨_,rfl⟩;have hgN:W1.heap[w.heap.size]? = some (.cells ROW E (0,0)):=by
  rw[hW1];show (w.heap.push _)[w.heap.size]? = _
  simp
 have hgo:∀y,y<w.heap.size->W1.heap[y]? = w.heap[y]? := λy hy=>by
  rw[hW1];show (w.heap.push _)[y]? = _
  rw[Array.getElem?_push,QN (by omega)]
 have hth:∀c:Array Value,Z3Z c (0,0):=λc j _ hh=>by have:j<0:=hh.2;omega
 have hl1:(Z0c ROW.toList (i * k) vs)=olds++vs++zs.toList.drop (m * k):=by
  unfold Z0c;rw[hRL,<-hol,YB,<-X9,Yb,hvl]
 have hs1:(Z0c ROW.toList (i * k) vs).toArray.size=G * k:=by
  have hX:(Z0c ROW.toList (i * k) vs).length=ROW.toList.length:=Z1T (by rw[hRs',hvl];omega)
  rw[QI,hX,hRs']
 have hl2:Z0c (Z0c ROW.toList (i * k) vs) ((i+m) * k) rest=olds++vs++rest++(zs.toList.drop (m * k)).drop ((n-i) * k):=by
  rw[hl1];unfold Z0c;have:(olds++vs).length=(i+m) * k:=by rw[Q5,hol,hvl,e3]
  rw[<-this,YB,<-X9,Yb,hrl]
 have hs2:(olds++vs++rest++(zs.toList.drop (m * k)).drop ((n-i) * k)).length=G * k:=by
  have hs1':(Z0c ROW.toList (i * k) vs).length=G * k:=by rw[<-hs1,QI]
  have hX:(Z0c (Z0c ROW.toList (i * k) vs) ((i+m) * k) rest).length=(Z0c ROW.toList (i * k) vs).length:=Z1T (by rw[hs1',hrl];omega)
  rw[<-hl2,hX,hs1']
 have hcpA:∀W:World,W.heap=W1.heap->∀ty dc,(Builtin.copy_ #[S,S] ty #[.slice (some ⟨w.heap.size,i * k,none⟩) (n+m-i) dc,.slice (some ⟨vb,voff,none⟩) m vc]).run P W= .ok (goInt m) (W.setRow w.heap.size (Z0c ROW.toList (i * k) vs).toArray):=λW hW ty dc=>
  jib T ty (by rw[hW];exact hgN) (hth _) (q:=m) (by simp only[Nat.min_def];split<;>omega) (hv W (by rw[hW];exact hgo _ hvbw)) (by rw[hRs,hvl];omega) hv1
 have hcpB:∀W:World,W.heap=(W1.setRow w.heap.size (Z0c ROW.toList (i * k) vs).toArray).heap->∀ty dc sc,(Builtin.copy_ #[S,S] ty #[.slice (some ⟨w.heap.size,(i+m) * k,none⟩) (n+m-(i+m)) dc,.slice (some ⟨b,off+i * k,none⟩) (n-i) sc]).run P W= .ok (goInt (n-i:Nat)) (W.setRow w.heap.size (Z0c (Z0c ROW.toList (i * k) vs) ((i+m) * k) rest).toArray):=λW hW ty dc sc=>
  jib T ty (cur:=(Z0c ROW.toList (i * k) vs).toArray) (by rw[hW];exact setRow_heap W1 _ _ _ _ _ hgN) (hth _) (q:=n-i) (by simp only[Nat.min_def];split<;>omega)
   (hre W (by rw[hW,setRow_other _ _ _ _ (by omega)];exact hgo _ hbw) sc) (by rw[hs1,hrl];omega) hr1
 have hfin:∀W2:World,W2.heap=W1.heap->W2.os=w.os->W2.tape=w.tape->W2.output=w.output->∀W3:World,W3.heap=(W2.setRow w.heap.size (Z0c ROW.toList (i * k) vs).toArray).heap->W3.os=w.os->W3.tape=w.tape->W3.output=w.output ->
   Ext (λ_=>False) w (W3.setRow w.heap.size (Z0c (Z0c ROW.toList (i * k) vs) ((i+m) * k) rest).toArray)/\w.heap.size<(W3.setRow w.heap.size (Z0c (Z0c ROW.toList (i * k) vs) ((i+m) * k) rest).toArray).heap.size /\
   (W3.setRow w.heap.size (Z0c (Z0c ROW.toList (i * k) vs) ((i+m) * k) rest).toArray).heap[w.heap.size]? = some (.cells (olds++vs++rest++(zs.toList.drop (m * k)).drop ((n-i) * k)).toArray E (0,0)):=λW2 hW2 a1 a2 a3 W3 hW3 b1 b2 b3=>by
  have hz:(W3.setRow w.heap.size (Z0c (Z0c ROW.toList (i * k) vs) ((i+m) * k) rest).toArray).heap.size=w.heap.size+1:=by
   rw[setRow_size,hW3,setRow_size,hW2,hW1];show (w.heap.push _).size=_
   simp
  refine⟨⟨b1,b2,b3,by omega,λy hy _=> ?_⟩,by omega,?_⟩
  ·rw[setRow_other _ _ _ _ (by omega),hW3,setRow_other _ _ _ _ (by omega),hW2,hgo y hy]
  ·rw[<-hl2];exact setRow_heap W3 _ (Z0c ROW.toList (i * k) vs).toArray _ _ _ (by rw[hW3];exact setRow_heap W2 _ _ _ _ _ (by rw[hW2];exact hgN))
 subst hW1;have hres:∀w':World,(Ext (λ_=>False) w w'/\w.heap.size<w'.heap.size/\w'.heap[w.heap.size]? = some (.cells (olds++vs++rest++(zs.toList.drop (m * k)).drop ((n-i) * k)).toArray E (0,0)))->∃g tl,G=g/\n+m<=g/\Ext (λ_=>False) w w' /\
   (olds++vs++rest++tl).length=g * k/\w.heap.size<w'.heap.size/\w'.heap[w.heap.size]? = some (.cells (olds++vs++rest++tl).toArray E (0,0)):=λw' h=>⟨G,_,rfl,hGn,h.1,hs2,h.2.1,h.2.2⟩
 have hcpA1:=hcpA ((w.alloc (.cells ROW E)).drew) rfl;have hcpA2:=hcpA (w.drew.alloc (.cells ROW E)) rfl;have hcpB1:=hcpB (((w.alloc (.cells ROW E)).drew.setRow w.heap.size (Z0c ROW.toList (i * k) vs).toArray).drew) rfl;clear hs1 hs2 hl1 hl2 hRs hRL hzl hth hgo hgN hnG hGk;clear hkk hik hROW hG hb16 e1 e2 e3 hol hrl hvl ho1 hr1 hv1 ho hre hv;generalize (Z0c (Z0c ROW.toList (i * k) vs) ((i+m) * k) rest).toArray=R2 at *;generalize (Z0c ROW.toList (i * k) vs).toArray=R1 at *;have hz1:¬ ((m:Int)=0):=by omega
 have hz2:¬ ((i:Int)=(n:Int)):=by omega
 have hz3:(c:Int)<(n:Int)+(m:Int):=by omega
 have hw1:IntKind.i64.wrap ((i:Int)+(m:Int))=(i:Int)+(m:Int):=by rw[IntKind.wrap_i64];omega
 have hb1:(0:Int)<=(i:Int)+(m:Int):=by omega
 have hin:i<=n:=by omega
 have htn:((i:Int)+(m:Int)).toNat=i+m:=by omega
 have hb3:(i:Int)<=(n:Int):=by omega
 have hGi:¬ (G=i):=by omega
 have hGim:¬ (G=i+m):=by omega
 have hci:¬ (c=i):=by omega
 refine calls_of_wp hf hb ?_;simp only[hn,QI,Q8,QE,Nat.reduceAdd,Nat.reduceSub,Xy,Xz,XL,XD,Qk,QL];unfold jcn
 go_wp2_with (first
  |(at_builtin;refine Lib.wpList_append_run _ rfl _ _ _ _ rfl _ _ rfl rfl _ _ (hrz _) ?_)
  |(at_builtin;refine jfI _ rfl _ _ S S rfl _ _ rfl rfl (hcpA1 _ _) ?_)
  |(at_builtin;refine jfI _ rfl _ _ S S rfl _ _ rfl rfl (hcpA2 _ _) ?_))
 go_region_law_o (refine jnF rfl _ _ S S rfl (.slice (some ⟨w.heap.size,(i+m) * k,none⟩) (n+m-(i+m)) (G-(i+m))) (.slice (some ⟨b,off+i * k,none⟩) (n-i) (c-i)) (by simp[Act.eval,Act.put]) (by simp[Act.eval,Act.put]) (hcpB1 _ _ _) ?_)
 go_wp2
 try simp only[Exit.inBlock,Exit.then]
 obtain⟨g,tl,rfl,hh⟩:=hres _ (hfin ((w.alloc (.cells ROW E)).drew) rfl rfl rfl rfl (((w.alloc (.cells ROW E)).drew.setRow w.heap.size R1).drew) rfl rfl rfl rfl);exact bodyPost_ret (results_tmp hr _ _ _) rfl ⟨_,tl,rfl,hh⟩
end
end Go.PI
namespace Go.PI
open Go Go.Proofs
section
variable {e:Ty}
theorem je8 {us:List (Elem e)}(h:∀u∈us,u.cs.length=size e):((us.map (·.cs)).flatten).length=us.length * size e:=by
 induction us with
 |nil=>simp
 |cons u us ih=>
  rw[Qz,QO,Q5,ih (λv hv=>h v (Qa _ hv)),h u (by simp),Q8,QC,Xg,Nat.add_comm]
theorem jvg {w':World}{b off:Nat}{pre post:List Value}{us:List (Elem e)}{t:TypeId}{fz:Nat×Nat}(hg:w'.heap[b]? = some (.cells (pre++(us.map (·.cs)).flatten++post).toArray t fz))(hp:pre.length=off)(hlen:∀u∈us,u.cs.length=size e)(j:Nat)(hj:j<us.length) :
  Z05 w' b (off+j * size e) (size e)=some us[j].cs:=by
 have hfl:=je8 hlen;have h:=Z8b (us.map (·.cs)) (size e) j post (λc hc=>by obtain⟨u,hu,rfl⟩:=X6.1 hc;exact hlen u hu) (by simpa using hj)
 have hkk:(j+1) * size e<=us.length * size e:=Qt _ hj;rw[QC,Xg]at hkk;rw[jl2 hg (by rw[Q5,Q5,hfl,hp];omega)]
 congr 1;rw[Qb,<-hp,<-X9,Yb,h,Xn]
theorem jxP (c:Array Value):Z3Z c (0,0):=λj _ hh=>by have:j<0:=hh.2;omega
theorem juX {w w':World}{F:Nat->Nat}{St:Nat->Prop}{ms:List Nat}{nb o cap:Nat}{us ul uv:List (Elem e)}{pre post:List Value}{t:TypeId}{fz:Nat×Nat}(hp:us.Perm (ul++uv))(hSt:∀y,St y->y<w.heap.size/\y ∉ ms)(hE:Ext (·∈ ms) w w')
  (hb:(w.heap.size<=nb\/nb∈ms)/\nb<w'.heap.size) (hnb:nb ∉ (ul.map (·.fp)).flatten++(uv.map (·.fp)).flatten) (hnd:((ul.map (·.fp)).flatten++(uv.map (·.fp)).flatten).Nodup)
  (hms:∀y∈(ul.map (·.fp)).flatten++(uv.map (·.fp)).flatten,y∈ms/\w'.heap[y]? = w.heap[y]?)
  (hR1:∀u∈ul,Rp w F St (·∈ ms) e (List.replicate (Z06 e) .O) u.cs u.x u.fp) (hR2:∀u∈uv,Rp w F St (·∈ ms) e (List.replicate (Z06 e) .O) u.cs u.x u.fp)
  (hg:w'.heap[nb]? = some (.cells (pre++(us.map (·.cs)).flatten++post).toArray t fz)) (hpre:pre.length=o) (hcap:us.length<=cap) (hfit:o+cap * size e<=(pre++(us.map (·.cs)).flatten++post).length)
  (hth:Z3Z (pre++(us.map (·.cs)).flatten++post).toArray fz) (hmk:e= .int .u8\/Z2B w' nb) :
  RetOk w F St ms [] [⟨.slice e,false,us.map (·.x),[.O]⟩] [] [] [] (.slice (some ⟨nb,o,none⟩) us.length cap) w':=by
 have hpf:((us.map (·.fp)).flatten).Perm ((ul.map (·.fp)).flatten++(uv.map (·.fp)).flatten):=by
  rw[<-XZ,<-QU];exact(hp.map _).flatten
 have hmem:∀u∈us,u∈ul\/u∈uv:=λu hu=>Qr.1 (hp.subset hu)
 have hin:∀u∈us,∀y∈u.fp,y∈(ul.map (·.fp)).flatten++(uv.map (·.fp)).flatten:=λu hu y hy=>hpf.subset (X3.2 ⟨u.fp,Yw hu,hy⟩)
 have hR:∀u∈us,Rp w F St (·∈ ms) e (List.replicate (Z06 e) .O) u.cs u.x u.fp:=λu hu=>(hmem u hu).elim (hR1 u) (hR2 u)
 exact jv2 (Al:=(·∈ ms)) hSt hE hb (Xx.2 ⟨λh=>hnb (hpf.subset h),hpf.nodup_iff.2 hnd⟩) (λu hu y hy=>(hms y (hin u hu y hy)).1) (λu hu y hy=>(hms y (hin u hu y hy)).2) hR
  (λj hj=>jvg hg hpre (λu hu=>(hR u hu).len.1) j hj) hcap ⟨⟨_,t,fz,hg,by rw[QI];exact hfit,hth⟩,hmk⟩
theorem jnj (w:World)(C:Array Value)(E:TypeId):Ext (λ_=>False) w (w.drew.alloc (.cells C E))/\w.heap.size<(w.drew.alloc (.cells C E)).heap.size/\(w.drew.alloc (.cells C E)).heap[w.heap.size]? = some (.cells C E (0,0)):=by
 have h1:(w.drew.alloc (.cells C E)).heap=w.heap.push (.cells C E):=rfl;refine⟨⟨rfl,rfl,rfl,?_,λy hy _=> ?_⟩,?_,?_⟩
 ·rw[h1];simp
 ·rw[h1,Array.getElem?_push,QN (by omega)]
 ·rw[h1];simp
 ·rw[h1];simp
theorem juY {w w':World}{F:Nat->Nat}{St:Nat->Prop}{ms:List Nat}{g:Nat}{us ul uv:List (Elem e)}{L tl:List Value}{E:TypeId}(hp:us.Perm (ul++uv))(hSt:∀y,St y->y<w.heap.size/\y ∉ ms)(hlt:∀y∈ms,y<w.heap.size)(hE:Ext (λ_=>False) w w')(hsz:w.heap.size<w'.heap.size)
  (hnd:((ul.map (·.fp)).flatten++(uv.map (·.fp)).flatten).Nodup) (hms:∀y∈(ul.map (·.fp)).flatten++(uv.map (·.fp)).flatten,y∈ms)
  (hR1:∀u∈ul,Rp w F St (·∈ ms) e (List.replicate (Z06 e) .O) u.cs u.x u.fp) (hR2:∀u∈uv,Rp w F St (·∈ ms) e (List.replicate (Z06 e) .O) u.cs u.x u.fp)
  (hL:L=(us.map (·.cs)).flatten) (hg:w'.heap[w.heap.size]? = some (.cells (L++tl).toArray E (0,0))) (hcap:us.length<=g) (hfit:g * size e<=(L++tl).length) :
  RetOk w F St ms [] [⟨.slice e,false,us.map (·.x),[.O]⟩] [] [] [] (.slice (some ⟨w.heap.size,0,none⟩) us.length g) w':=by
 subst hL;have hmk:Z2B w' w.heap.size:=⟨_,_,_,hg,λhh=>absurd hh.2 (Nat.not_lt_zero _)⟩
 refine juX (pre:=[]) (post:=tl) (t:=E) (fz:=(0,0)) hp hSt ⟨hE.os,hE.tape,hE.output,hE.size,λy hy _=>hE.block y hy λh=>h⟩ ⟨.inl (Qq _),hsz⟩ (λhh=> ?_) hnd (λy hy=>⟨hms y hy,hE.block y (hlt y (hms y hy)) λh=>h⟩) hR1 hR2 hg rfl hcap (by rw[Xu];exact hfit) (jxP _) (.inr hmk)
 have:=hlt _ (hms _ hh);omega
theorem jkv {w:World}{F:Nat->Nat}{St:Nat->Prop}{l:List (El e)}{ad:Option Addr}{cap:Nat}{f0:List Nat}(hr:Rp w F St (·∈ f0) (.slice e) [.O] [.slice ad l.length cap] l f0)(hl:0<l.length\/ad≠none) :
  ∃(b o:Nat) (us:List (Elem e)) (cur:Array Value) (t:TypeId) (fz:Nat×Nat),ad=some ⟨b,o,none⟩/\us.map (·.x)=l/\us.length=l.length/\f0=b::(us.map (·.fp)).flatten/\(∀u∈us,Rp w F St (·∈ f0) e (List.replicate (Z06 e) .O) u.cs u.x u.fp)/\w.heap[b]? = some (.cells cur t fz) /\
   o+cap * size e<=cur.size/\Z3Z cur fz/\(e= .int .u8\/Z2B w b)/\(∀j (h:j<us.length),(cur.toList.drop (o+j * size e)).take (size e)=us[j].cs):=by
 obtain⟨t,a,cap',ht,hcs,hlc',hr0⟩:=hr;cases hcs;cases ht;rcases hr0 with⟨_,ha,hl0,_,_⟩ | ⟨_,b,o,fps0,rfl,hal,rfl,hfl,hrow,hF,hel⟩ | ⟨ho,_⟩
 ·rcases hl with hl | hl
  ·rw[hl0]at hl;cases hl
  ·exact absurd ha hl
 ·obtain⟨us,hux,huf,huR,huc⟩:=jrF hfl hel;have hmk:=hrow.2;obtain⟨⟨cur,tt,fz,hg,hsz,hth⟩,_⟩:=hrow;refine⟨b,o,us,cur,tt,fz,rfl,hux,by rw[<-hux];simp,by rw[huf],huR,hg,hsz,hth,hmk,λj hj=> ?_⟩
  have:=huc j hj;unfold Z05 at this;rw[hg]at this;simp only[]at this;split at this
  ·exact Option.some.inj this
  ·cases this
 ·cases ho
theorem jmH {cs:List Value}{o:Nat}:(us:List (Elem e))->(i:Nat)->(∀j (h:j<us.length),(cs.drop (o+(i+j) * size e)).take (size e)=us[j].cs)->(cs.drop (o+i * size e)).take (us.length * size e)=(us.map (·.cs)).flatten
 | [],i,_=>by simp
 |u::us,i,h=>by
  have h0:=h 0 (by simp)
  have ih:=jmH us (i+1) λj hj=>by
   have:=h (j+1) (by simpa using hj)
   rw[show i+(j+1)=i+1+j by omega]at this
   simpa using this
  simp only[XK,Yp]at h0;rw[Q8,QC,Xg,Nat.add_comm (us.length * size e),List.take_add,h0,Qz,QO,X9,show o+i * size e+size e=o+(i+1) * size e by rw[QC];omega,ih]
noncomputable def jpe (e:Ty):Sig Unit:=⟨[.eat (.slice e) false,.borrow (.int .i64) false,.eat (.slice e) false],[false],λvals ext k=>ao vals (.slice e) [.O] λl vals=>av vals (.int .i64) λi vals=>ao vals (.slice e) [.O] λv vals=>nl vals<|nl ext <|
 bif jnV i (List.length (α:=El e) l) (List.length (α:=El e) v) then k [⟨.slice e,false,jiP (α:=El e) l i v,[.O]⟩] [] [] else none⟩
set_option maxHeartbeats 1000000 in
theorem jwc {P:Program}{S E I B U:TypeId}{e:Ty}{z:Value}(T:SlT P S E I B (size e) z)(hE:∃i:TypeInfo,P.info? E=some i/\i.size=size e/\i.zero=some z/\i.bytes<=65536)(hk:0<size e)(he:e≠ .int .u8)
  {f fo fr : FuncId} {fn fno : Func} (hf : P.funcs[f]? = some fn) (hb : fn.body = some (jcn S I B U fo fr)) (hn : fn.ntmps = 95) (hr : fn.results = #[.tmp 6]) (hname : (fn.name == "runtime.NumGoroutine") = false)
  (hfo : P.funcs[fo]? = some fno) (hno : (fno.name == "runtime.NumGoroutine") = false) (hbo : fno.body.isNone = true) (hxo : Extern.findNext fno = none) (heo : Extern.find fno = some (Extern.SlicesOverlaps.overlaps #[S, S] #[B])) : Z16 P f (jpe e) := by
 refine⟨⟨fn,_,hf,hname,hb⟩,λvals ext k r h w F St args ads fps efps hA hB hnd hSt hlt=> ?_⟩
 obtain⟨a0,l,vals,rfl,h3⟩:=Zan h;obtain⟨i,a1,t1,vals,rfl,h4⟩:=Zao h3;obtain⟨a2,v,vals,rfl,h5⟩:=Zan h4;obtain⟨rfl,h6⟩:=Zav h5;obtain⟨rfl,h7⟩:=Zav h6;clear h h3 h4 h5 h6;have h:=h7;clear h7;rw[cond_eq_ite]at h;split at h;rotate_left
 ·cases h
 rename_i hcut;change List (El e)at l;change List (El e)at v;change Int at i;have hcut:0<=i/\i<=(l.length:Int)/\0<v.length/\l.length+v.length<=LIM:=QT hcut;obtain⟨c0,c1,c2,c3⟩:=hcut;obtain⟨i,rfl⟩:∃m:Nat,i=(m:Int):=⟨i.toNat,by omega⟩
 have c1:i<=l.length:=by omega
 obtain⟨ad,cap,f0,ar,fs,rfl,rfl,hlc,hr0,hA1⟩:=jgP (e:=e) (l:=l) hA;obtain⟨ar,fs,rfl,rfl,hA2⟩:=jnQ (i:=(i:Int)) hA1;obtain⟨adv,capv,f1,ar,fs,rfl,rfl,hlv,hrv,hA3⟩:=jgP (e:=e) (l:=v) hA2;obtain⟨rfl,rfl,rfl⟩:=jnR hA3;obtain rfl:=jri hB;simp only[QO,XT,Qe,Qk]at hnd hSt hlt ⊢;obtain⟨vb,voff,uv,vcur,vt,vfz,rfl,hvx,hvl,rfl,hvR,hgv,hvs,hvth,hvmk,hvc⟩:=jkv hrv (.inl c2);obtain⟨i0,hi0,hzs,hz0,hzb⟩:=hE;have hE:∃i:TypeInfo,P.info? E=some i/\i.size=size e/\i.zero=some z/\i.bytes<=65536:=⟨i0,hi0,hzs,hz0,hzb⟩;have hLIM:LIM=2147483648:=rfl;have hmul:∀a c:Nat,a<=c->a * size e<=c * size e:=λa c h=>Qt _ h
 obtain⟨vs,hvs0⟩:∃vs,vs=(uv.map (·.cs)).flatten:=⟨_,rfl⟩;have hvflat:(vcur.toList.drop voff).take (v.length * size e)=vs:=by
  have:=jmH (cs:=vcur.toList) (o:=voff) uv 0 (λj hj=>by rw[Xu];exact hvc j hj)
  rw[Nat.zero_mul,XK,hvl]at this;rw[this,hvs0]
 have hvlen:vs.length=v.length * size e:=by rw[hvs0,je8 (λu hu=>(hvR u hu).len.1),hvl]
 have hv1:∀u∈vs,one u=true:=λu hu=>by
  rw[hvs0]at hu;obtain⟨q,hq,hcq⟩:=X3.1 hu;obtain⟨x,hx,rfl⟩:=X6.1 hq;exact Rp.ones (hvR x hx) u hcq
 have hvcap:=hmul _ _ hlv;have hvpos:size e<=v.length * size e:=by have:=hmul 1 v.length c2;omega
 have hv:∀W:World,W.heap[vb]? = w.heap[vb]? -> (Builtin.firstCells (size e) v.length (.slice (some ⟨vb,voff,none⟩) v.length capv)).run P W= .ok vs.toArray W:=λW hW=>by
  rw[<-hvflat];exact jf9 (by rw[hW];exact hgv) (by omega)
 have hvbw:vb<w.heap.size:=(QV.1 hgv).1;have hfin:∀(us:List (Elem e)) (nb o cap:Nat) (w':World),us.length=l.length+v.length->us.map (·.x)=jiP l (i:Int) v->RetOk w F St (f0++vb::(uv.map (·.fp)).flatten) [] [⟨.slice e,false,us.map (·.x),[.O]⟩] [] [] [] (.slice (some ⟨nb,o,none⟩) us.length cap) w' ->
   ∃v0 res ios ext',(Ending.returned (.slice (some ⟨nb,o,none⟩) (l.length+v.length) cap):Ending)= .returned v0/\k res ios ext'=some r/\(Z2U [] ext'=true/\(ios.map (·.τ))=Z2J (jpe e).modes/\ios.all TVal.allO=true)/\ext'.all TVal.noN=true /\
    RetOk w F St (f0++vb::(uv.map (·.fp)).flatten) [] res ios (Z0X (jpe e).modes [.slice ad l.length cap,.int .i64 i,.slice (some ⟨vb,voff,none⟩) v.length capv]) ext' v0 w':=λus nb o cap w' h1 h2 h3=>by
  rw[h1,h2]at h3;exact⟨_,_,_,_,rfl,h,⟨rfl,rfl,rfl⟩,rfl,h3⟩
 have hmono:∀(ms:List Nat) (u:Elem e) (fp0:List Nat),(∀y∈fp0,y∈ms)->Rp w F St (·∈ fp0) e (List.replicate (Z06 e) .O) u.cs u.x u.fp->Rp w F St (·∈ ms) e (List.replicate (Z06 e) .O) u.cs u.x u.fp:=λms u fp0 hm hu=>
  hu.presO (λt ht=>(XC.1 ht).2) λy _=>⟨Z07.refl _ _ _,rfl,hm y⟩
 have hnv:=(Qj.1 hnd).2.1;by_cases hnil:ad=none
 ·
  subst hnil;have hl0:l=[]/\cap=0/\f0=[]:=by
   obtain⟨t,a,cap',ht,hcs,hlc',hr0⟩:=hr0;cases hcs;cases ht;rcases hr0 with⟨_,ha,hl0,hc0,hf0⟩ | ⟨_,b,o,fps0,hh,_⟩ | ⟨ho,_⟩
   ·exact⟨hl0,hc0,hf0⟩
   ·cases hh
   ·cases ho
  obtain⟨rfl,rfl,rfl⟩:=hl0;have hi0':i=0:=by simpa using c1
  subst hi0';have hlim:v.length<=LIM:=by simpa using c3
  have hrun:=λty=>append_nil (P:=P) (w:=w) S S ty E i0 z T.tS (.inl ⟨E,T.tS⟩) hi0 hz0 v.length (.slice (some ⟨vb,voff,none⟩) v.length capv) rfl vs (by rw[hzs];exact hv w.drew rfl) c2 (by omega) (by
   calc v.length * i0.bytes<=2147483648 * 65536:=YK (by omega) hzb
    _<=281474976710656:=by decide)
  refine(jqC T hf hb hn hr (n:=0) (Qq _) c2 hlv hrun).mono ?_;rintro e' w' ⟨rfl,rfl⟩;obtain⟨g,hg⟩:∃g,g=grownCap w v.length 0 E:=⟨_,rfl⟩;have hgn:v.length<=g:=by rw[hg];exact grownCap_ge w _ _ _
  rw[<-hg];have hsz:(vs.toArray++Builtin.zeroCells z.cells (g-v.length)).size=g * size e:=by
   have:v.length * size e+(g-v.length) * size e=g * size e:=by rw[<-QC,show v.length+(g-v.length)=g by omega]
   simp[Builtin.zeroCells,T.zk,hvlen,this]
  obtain⟨x1,x2,x3⟩:=jnj w (vs.toArray++Builtin.zeroCells z.cells (g-v.length)) E;have hrow:(vs.toArray++Builtin.zeroCells z.cells (g-v.length))=(vs++(Builtin.zeroCells z.cells (g-v.length)).toList).toArray:=by
   apply Array.ext';simp
  have hfit2:g * size e<=(vs++(Builtin.zeroCells z.cells (g-v.length)).toList).length:=by
   have:=Xv Array.size hrow;rw[hsz,QI]at this;omega
  rw[hrow]at x1 x2 x3;rw[hrow];simp only[Qk]at hlt hnd hSt;have key:=juY (ms:=vb::(uv.map (·.fp)).flatten) (us:=uv) (ul:=[]) (uv:=uv) (List.Perm.refl _) hSt hlt x1 x2 (by simpa using(Xx.1 hnv).2) (λy hy=>Qa _ (by simpa using hy)) (λu hu=>by simp at hu) hvR hvs0 x3 (by rw[hvl];exact hgn) hfit2
  have:=hfin uv w.heap.size 0 g _ (by simp[hvl]) (by rw[hvx];simp[jiP]) (by simpa using key)
  rw[show ([]:List (El e)).length+v.length=v.length by simp]at this
  exact this
 ·obtain⟨b,off,ul,cur,t,fz,rfl,hlx,hll,rfl,hlR,hg,hs,hth,hmk,hlcells⟩:=jkv hr0 (.inr hnil);have hbw:b<w.heap.size:=(QV.1 hg).1;obtain⟨ms,hms0⟩:∃ms,ms=(b::(ul.map (·.fp)).flatten)++vb::(uv.map (·.fp)).flatten:=⟨_,rfl⟩;have hm1:∀y∈b::(ul.map (·.fp)).flatten,y∈ms:=λy hy=>by rw[hms0];exact Qh _ hy
  have hm2:∀y∈vb::(uv.map (·.fp)).flatten,y∈ms:=λy hy=>by rw[hms0];exact Qo _ hy
  have hR1:∀u∈ul,Rp w F St (·∈ ms) e (List.replicate (Z06 e) .O) u.cs u.x u.fp:=λu hu=>hmono ms u _ hm1 (hlR u hu)
  have hR2:∀u∈uv,Rp w F St (·∈ ms) e (List.replicate (Z06 e) .O) u.cs u.x u.fp:=λu hu=>hmono ms u _ hm2 (hvR u hu)
  have hvb:vb≠b:=λhh=>(Qj.1 hnd).2.2 b (by simp) vb (by simp) hh.symm
  have hbl:b ∉ (ul.map (·.fp)).flatten:=(Xx.1 (Qj.1 hnd).1).1;have hbv:b ∉ (uv.map (·.fp)).flatten:=λhh=>(Qj.1 hnd).2.2 b (by simp) b (Qa _ hh) rfl
  have hnd2:((ul.map (·.fp)).flatten++(uv.map (·.fp)).flatten).Nodup:=by
   refine Qj.2 ⟨(Xx.1 (Qj.1 hnd).1).2,(Xx.1 hnv).2,λx hx y hy=> ?_⟩
   exact(Qj.1 hnd).2.2 x (Qa _ hx) y (Qa _ hy)
  have hin2:∀y∈(ul.map (·.fp)).flatten++(uv.map (·.fp)).flatten,y∈ms/\y≠b:=λy hy=>by
   rcases Qr.1 hy with hy | hy
   ·exact⟨hm1 y (Qa _ hy),λhh=>hbl (hh ▸ hy)⟩
   ·exact⟨hm2 y (Qa _ hy),λhh=>hbv (hh ▸ hy)⟩
  have hbm:b∈ms:=hm1 b (by simp)
  rw[<-hms0]at hSt hlt hfin ⊢;have hcurl:cur.toList.length=cur.size:=by simp
  have hcapk:=hmul _ _ hlc;have hik:=hmul _ _ c1;have e1:i * size e+(l.length-i) * size e=l.length * size e:=by rw[<-QC,show i+(l.length-i)=l.length by omega]
  obtain⟨olds,hol0⟩:∃olds,olds=((ul.take i).map (·.cs)).flatten:=⟨_,rfl⟩;obtain⟨rest,hre0⟩:∃rest,rest=((ul.drop i).map (·.cs)).flatten:=⟨_,rfl⟩;have htl:(ul.take i).length=i:=by rw[Qf,hll];omega
  have hdl:(ul.drop i).length=l.length-i:=by rw[Qu,hll]
  have hoflat:(cur.toList.drop off).take (i * size e)=olds:=by
   have:=jmH (cs:=cur.toList) (o:=off) (ul.take i) 0 (λj hj=>by
    rw[Xu,hlcells j (by rw[htl]at hj;omega),Y7])
   rw[Nat.zero_mul,XK,htl]at this;rw[this,hol0]
  have hrflat:(cur.toList.drop (off+i * size e)).take ((l.length-i) * size e)=rest:=by
   have:=jmH (cs:=cur.toList) (o:=off) (ul.drop i) i (λj hj=>by
    rw[hlcells (i+j) (by rw[hdl]at hj;omega),YH])
   rw[hdl]at this;rw[this,hre0]
  have hcsl:∀u∈ul,u.cs.length=size e:=λu hu=>(hlR u hu).len.1
  have hol:olds.length=i * size e:=by rw[hol0,je8 (λu hu=>hcsl u (X7 hu)),htl]
  have hrl:rest.length=(l.length-i) * size e:=by rw[hre0,je8 (λu hu=>hcsl u (Xc hu)),hdl]
  have hones:∀u∈ul,∀c∈u.cs,one c=true:=λu hu c hc=>Rp.ones (hlR u hu) c hc
  have ho1:∀c∈olds,one c=true:=λc hc=>by
   rw[hol0]at hc;obtain⟨q,hq,hcq⟩:=X3.1 hc;obtain⟨x,hx,rfl⟩:=X6.1 hq;exact hones x (X7 hx) c hcq
  have hr1:∀c∈rest,one c=true:=λc hc=>by
   rw[hre0]at hc;obtain⟨q,hq,hcq⟩:=X3.1 hc;obtain⟨x,hx,rfl⟩:=X6.1 hq;exact hones x (Xc hx) c hcq
  obtain⟨us,hus0⟩:∃us,us=ul.take i++uv++ul.drop i:=⟨_,rfl⟩;have husl:us.length=l.length+v.length:=by rw[hus0,Q5,Q5,htl,hdl,hvl];omega
  have husx:us.map (·.x)=jiP l (i:Int) v:=by
   rw[hus0,QU,QU,List.map_take,List.map_drop,hlx,hvx];rfl
  have husc:(us.map (·.cs)).flatten=olds++vs++rest:=by rw[hus0,QU,QU,XZ,XZ,<-hol0,<-hre0,<-hvs0]
  have hperm:us.Perm (ul++uv):=by
   rw[hus0];have h1:(ul.take i++uv++ul.drop i).Perm (ul.take i++(ul.drop i++uv)):=by
    rw[Qb];exact XP _ XQ
   rw[<-Qb,XB]at h1;exact h1
  have hnew:∀(g:Nat) (tl:List Value) (w':World),l.length+v.length<=g->Ext (λ_=>False) w w'->(olds++vs++rest++tl).length=g * size e->w.heap.size<w'.heap.size->w'.heap[w.heap.size]? = some (.cells (olds++vs++rest++tl).toArray E (0,0)) ->
    RetOk w F St ms [] [⟨.slice e,false,us.map (·.x),[.O]⟩] [] [] [] (.slice (some ⟨w.heap.size,0,none⟩) us.length g) w':=λg tl w' q1 q2 q3 q4 q5=>
   juY hperm hSt hlt q2 q4 hnd2 (λy hy=>(hin2 y hy).1) hR1 hR2 husc.symm q5 (by rw[husl];exact q1) (by rw[q3];exact Qq _)
  have hold:∀(w':World) (tl:List Value),l.length+v.length<=cap->Wrote w w' b->(cur.toList.take off++(olds++vs++rest)++tl).length=cur.size->w'.heap[b]? = some (.cells (cur.toList.take off++(olds++vs++rest)++tl).toArray t fz) ->
    RetOk w F St ms [] [⟨.slice e,false,us.map (·.x),[.O]⟩] [] [] [] (.slice (some ⟨b,off,none⟩) us.length cap) w':=λw' tl q1 q2 q3 q4=>by
   rw[<-husc]at q3 q4;refine juX (pre:=cur.toList.take off) (post:=tl) (t:=t) (fz:=fz) hperm hSt (q2.ext hbm) ⟨.inr hbm,by rw[q2.size];exact hbw⟩ (λhh=>(hin2 b hh).2 rfl) hnd2 (λy hy=>⟨(hin2 y hy).1,q2.old y (hin2 y hy).2⟩) hR1 hR2 q4 (by rw[Qf];omega) (by rw[husl];exact q1) (by rw[q3];exact hs)
    (λx hx=>hth x (by rw[QI,q3]at hx;exact hx)) (hmk.imp id λhm=>hm.same hg q4 (by rw[QI,q3]))
  have htake:cur.toList.take (off+i * size e)=cur.toList.take off++olds:=by rw[List.take_add,hoflat]
  by_cases hroom:l.length+v.length<=cap
  ·have hck:=hmul _ _ hroom;rw[QC]at hck;by_cases hin:i=l.length
   ·have hrest:rest=[]:=Qv.1 (by rw[hrl,hin];simp)
    have hrun:=λty=>Z7J (P:=P) (w:=w) S S ty E i0 T.tS (.inl ⟨E,T.tS⟩) hi0 b off l.length cap cur t fz hg hth v.length (.slice (some ⟨vb,voff,none⟩) v.length capv) rfl vs (by rw[hzs];exact hvlen) (by rw[hzs];exact hv w rfl) hv1 hroom (by rw[hzs,hvlen];omega)
    rw[hzs]at hrun;have hX:Z0c cur.toList (off+l.length * size e) vs=cur.toList.take off++(olds++vs++rest)++cur.toList.drop (off+l.length * size e+vs.length):=by
     rw[hrest,<-hin];unfold Z0c;rw[htake];simp
    have hXl:(Z0c cur.toList (off+l.length * size e) vs).length=cur.size:=by
     have:(Z0c cur.toList (off+l.length * size e) vs).length=cur.toList.length:=Z1T (by rw[hvlen,hcurl];omega)
     rw[this,hcurl]
    have hc0:=jqC T hf hb hn hr (n:=l.length) hlc c2 hlv hrun;rw[<-hin]at hc0;rw[hin]at hc0 ⊢;refine hc0.mono ?_;rintro e' w' ⟨rfl,rfl⟩;have h3:=setRow_heap w b cur (Z0c cur.toList (off+l.length * size e) vs).toArray t fz hg;rw[hX]at hXl h3 ⊢;have:=hfin us b off cap _ husl husx (hold _ _ hroom (Wrote.setRow w b _) hXl h3);rw[hin]at this;exact this
   ·have hfe:w.frozen? ⟨vb,vcur.size,none⟩=false:=by
     obtain⟨c3',T3,fr3,q1,q2⟩:=hvmk.resolve_left he;rw[hgv]at q1;cases q1;simp[World.frozen?,hgv];omega
    have hov:∀lb cb,(callFunc fo #[.slice (some ⟨vb,voff,none⟩) v.length capv,.slice (some ⟨b,off+(i+v.length) * size e,none⟩) lb cb]).run P w= .ok (.value (.bool false)) w:=λlb cb=>by
     rw[run_callFunc_extern hfo hno hbo hxo heo,Lib.run_overlaps_apart w S B E T.tS (size e) T.zE ⟨vb,voff,none⟩ ⟨b,off+(i+v.length) * size e,none⟩ v.length capv lb cb hvb vt t vcur.size cur.size (by simp[World.shape?,hgv]) (by simp[World.shape?,hg]) (by omega) (jyh hgv hvth (by omega)) hfe]
     rfl
    have hone:∀c∈(cur.toList.drop off).take (l.length * size e),one c=true:=λc hc=>by
     rw[<-e1,List.take_add,hoflat,X9,hrflat]at hc;exact(Qr.1 hc).elim (ho1 c) (hr1 c)
    refine(jwb T hf hb hn hr (i:=i) (by omega) c2 hroom hlv c3 hg hth hs hone hvb hvlen hv1 hv hov).mono ?_
    rintro e' w' ⟨rfl,hW,hg'⟩;rw[hrflat]at hg';have e3:i * size e+v.length * size e=(i+v.length) * size e:=by rw[<-QC]
    have hX:Z0c (Z0c cur.toList (off+(i+v.length) * size e) rest) (off+i * size e) vs=cur.toList.take off++(olds++vs++rest)++cur.toList.drop (off+(i+v.length) * size e+rest.length):=by
     have hlt1:(cur.toList.take (off+(i+v.length) * size e)).length=off+(i+v.length) * size e:=by rw[Qf];omega
     have h1:(Z0c cur.toList (off+(i+v.length) * size e) rest).take (off+i * size e)=cur.toList.take off++olds:=by
      unfold Z0c;rw[Qb,XN (by omega),List.take_take,YE (by omega),htake]
     have h2:(Z0c cur.toList (off+(i+v.length) * size e) rest).drop (off+i * size e+vs.length)=rest++cur.toList.drop (off+(i+v.length) * size e+rest.length):=by
      unfold Z0c;rw[hvlen,show off+i * size e+v.length * size e=(cur.toList.take (off+(i+v.length) * size e)).length by omega,Qb,Yb]
     conv=>lhs;unfold Z0c
     rw[show (cur.toList.take (off+(i+v.length) * size e)++rest++cur.toList.drop (off+(i+v.length) * size e+rest.length))=Z0c cur.toList (off+(i+v.length) * size e) rest from rfl,h1,h2]
     simp
    have e4:(i+v.length) * size e+(l.length-i) * size e=(l.length+v.length) * size e:=by rw[<-QC,show i+v.length+(l.length-i)=l.length+v.length by omega]
    have e5:=QC l.length v.length (size e);have hl1:(Z0c cur.toList (off+(i+v.length) * size e) rest).length=cur.toList.length:=Z1T (by rw[hrl,hcurl];omega)
    have hl2:(Z0c (Z0c cur.toList (off+(i+v.length) * size e) rest) (off+i * size e) vs).length=(Z0c cur.toList (off+(i+v.length) * size e) rest).length:=Z1T (by rw[hl1,hvlen,hcurl];omega)
    rw[hl1,hcurl]at hl2;rw[hX]at hg' hl2;exact hfin us b off cap _ husl husx (hold _ _ hroom hW hl2 hg')
  ·by_cases hin:i=l.length
   ·have hrest:rest=[]:=Qv.1 (by rw[hrl,hin];simp)
    have hrun:=λty=>Z7H (P:=P) (w:=w) S S ty E i0 z T.tS (.inl ⟨E,T.tS⟩) hi0 hz0 ⟨b,off,none⟩ l.length cap olds (by rw[hzs,hol,hin]) (λj x hj=>jrJ hg (m:=i * size e) (by rw[hoflat];exact hj)) v.length (.slice (some ⟨vb,voff,none⟩) v.length capv) rfl vs (by rw[hzs];exact hv w.drew rfl) (by omega) (by omega)
     (growslice_fits (by omega) (by
      calc (l.length+v.length) * i0.bytes<=2147483648 * 65536:=YK (by omega) hzb
       _<=140737488355328:=by decide))
    have hc0:=jqC T hf hb hn hr (n:=l.length) hlc c2 hlv hrun;obtain⟨g,hg0⟩:∃g,g=grownCap w (l.length+v.length) cap E:=⟨_,rfl⟩;have hgn:l.length+v.length<=g:=by rw[hg0];exact grownCap_ge w _ _ _
    rw[<-hg0]at hc0;rw[hin];refine hc0.mono ?_;rintro e' w' ⟨rfl,rfl⟩;obtain⟨x1,x2,x3⟩:=jnj w (olds.toArray++vs.toArray++Builtin.zeroCells z.cells (g-(l.length+v.length))) E;have hrow:(olds.toArray++vs.toArray++Builtin.zeroCells z.cells (g-(l.length+v.length)))=(olds++vs++rest++(Builtin.zeroCells z.cells (g-(l.length+v.length))).toList).toArray:=by
     rw[hrest];apply Array.ext';simp
    have hlen:(olds++vs++rest++(Builtin.zeroCells z.cells (g-(l.length+v.length))).toList).length=g * size e:=by
     have:i * size e+v.length * size e+(g-(l.length+v.length)) * size e=g * size e:=by rw[<-QC,<-QC,show i+v.length+(g-(l.length+v.length))=g by omega]
     rw[hrest];simp[Builtin.zeroCells,T.zk,hol,hvlen];omega
    rw[hrow]at x1 x2 x3 ⊢;have:=hfin us w.heap.size 0 g _ husl husx (hnew g _ _ hgn x1 hlen x2 x3);rw[hin]at this;exact this
   ·refine(jx5 T hE hk hf hb hn hr (i:=i) (olds:=olds) (rest:=rest) (by omega) c2 hlc (by omega) hlv c3 hbw hvbw hol hrl hvlen ho1 hr1 hv1 (λW hW=> ?_) (λW hW sc=> ?_) hv).mono ?_
    ·rw[<-hoflat];exact jf9 (by rw[hW];exact hg) (by omega)
    ·rw[<-hrflat];exact jf9 (by rw[hW];exact hg) (by omega)
    ·rintro e' w' ⟨g,tl,rfl,q1,q2,q3,q4,q5⟩;exact hfin us w.heap.size 0 g _ husl husx (hnew g tl w' q1 q2 q3 q4 q5)
end
end Go.PI
