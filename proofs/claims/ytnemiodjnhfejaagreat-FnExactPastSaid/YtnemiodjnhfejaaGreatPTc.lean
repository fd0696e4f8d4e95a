/-
  Program's code interpreted over typed values; printed texts; plain laws. No conditions.
-/
import Derived.Test.YtnemiodjnhfejaaGreatPTb
set_option linter.unusedVariables false
namespace Go.PI
open Go
section
variable {P:Program} {w:World} {tys:List (TypeId×Ty×List TypeId)}
theorem j8E (hT:Z0e P tys) {E:TypeId} {e:Ty} {fl:List TypeId} (ht:Z0o tys E=some (e,fl)) {ops:Array Oper} {rest:List Oper} {o:Oper} {a:Act} {Q:Exit->Act->World->Prop} (hgd:o.guard=none) {x:Operand} (ho:o.op= .load E x)
  {b off:Nat} {cs:List Value} (hx:a.eval x= .pointer (some ⟨b,off,none⟩)) (hc:Z05 w b off (size e)=some cs) (h:wpList P ops Q rest (a.put o.dst (Z0K (!fl.isEmpty) cs)) w):wpList P ops Q (o::rest) a w:=
 wpList_plain hgd λK hK=>by
  have hl:=Z1Y hT ht hc
  unfold Oper.wp
  have hr:(execOp a.eval o).run P w= .ok (.value (Z0K (!fl.isEmpty) cs)) w:=by
   rw [Z03 ho]
   simp only [execOp,hx,Instr.loadAt,Instr.sureAddr,Sem.run_bind,Sem.run_pure,Result.andThen_ok,hl]
  rw [hr]
  exact hK _ _ h
theorem jdr (hT:Z0e P tys) {E:TypeId} {e:Ty} {fl:List TypeId} (ht:Z0o tys E=some (e,fl)) {ops:Array Oper} {rest:List Oper} {o:Oper} {a:Act} {Q:Exit->Act->World->Prop} (hgd:o.guard=none) {x y:Operand} (ho:o.op= .store E y x)
  {b off:Nat} {v:Value} {cur:Array Value} {T:TypeId} {fz:Nat×Nat} (hy:a.eval y= .pointer (some ⟨b,off,none⟩)) (hx:a.eval x=v) (hg:w.heap[b]? = some (.cells cur T fz)) (hfz:Z40 cur fz) {cs:List Value} (hcs:v.cells.toList=cs) (hv:cs.length=size e) (hb:off+size e<=cur.size) (h1:∀ c∈cs,one c=true)
  (h:wpList P ops Q rest (a.put o.dst undef) (w.setRow b (Z0c cur.toList off cs).toArray)):wpList P ops Q (o::rest) a w:=
 wpList_plain hgd λK hK=>by
  subst hcs
  have hl:=Z49 hT ht (w:=w) hg hfz (by rw [<-Array.length_toList];exact hv) hb h1
  unfold Oper.wp
  have hr:(execOp a.eval o).run P w= .ok .skip (w.setRow b (Z0c cur.toList off v.cells.toList).toArray):=by
   rw [Z03 ho]
   simp only [execOp,hy,hx,Sem.run_bind,hl,Result.andThen_ok,Sem.run_pure]
  rw [hr]
  exact hK _ _ h
end
section
variable {P:Program} {S E I B U T:TypeId} {z:Value} {tys:List (TypeId×Ty×List TypeId)} {e:Ty} {fl:List TypeId}
def jij (P:Program) (g:FuncId) (lb:Array Value) (ag:Bool) (us:List (Elem e)) (D:Nat->List (Elem e)->Prop) (W:World):Prop:=
 ∀ j (h:j<us.length) acc,D j acc->Calls P g (#[Z0K ag us[j].cs]++lb) W λx w'=>∃ bb,x= .returned (.bool bb)/\D (j+1) (bif bb then acc else acc++[us[j]])/\Ext (λ_=>False) W w'
theorem j54 {M:Nat->Prop} {w1 w2 w3:World} (h:Ext M w1 w2) (k:Ext (λ_=>False) w2 w3):Ext M w1 w3:=
 ⟨k.os.trans h.os,k.tape.trans h.tape,k.output.trans h.output,Nat.le_trans h.size k.size,λy hy hm=>(k.block y (Nat.lt_of_lt_of_le hy h.size) λh=>h).trans (h.block y hy hm)⟩
set_option maxHeartbeats 2000000 in
theorem jpj (L:SlT P S E I B (size e) z) (hT:Z0e P tys) (ht:Z0o tys E=some (e,fl)) (aT:∀ w,(isAgg T).run P w= .ok false w) (zT:∀ w,(sizeOf T).run P w= .ok 1 w) {f:Nat} {fn:Func} (hf:P.funcs[f]? = some fn) (hb:fn.body=some (j7v S E I B U T)) (hn:fn.ntmps=19) (hr:fn.results= #[.tmp 4])
  (g:Nat) (lb:Array Value) (eg:∀ args w,(callFunc g args).run P w= .ok (.enter g args) w) (b off n c:Nat) (us:List (Elem e)) (D:Nat->List (Elem e)->Prop) (w:World) (hp:∀ W,Ext (λ_=>False) w W->jij P g lb (!fl.isEmpty) us D W) (hD:D 0 []) (hz:us.length=n) (hbig:n<=9223372036854775807) (hbw:b<w.heap.size)
  (hc:∀ j (h:j<us.length),Z05 w b (off+j * size e) (size e)=some us[j].cs) :
  Calls P f #[.slice (some ⟨b,off,none⟩) n c,.func (.func g) #[] lb] w λx w'=>Ext (λ_=>False) w w'/\((x= .returned (.int .i64 (-1))/\D n us)\/∃ k,k<n/\x= .returned (.int .i64 (k:Nat))/\D (k+1) (us.take k)):=by
 have mixed:=L.mixed;have tS:=L.tS;have aS:=L.aS;have zS:=L.zS;have vS:=L.vS;have tI:=L.tI;have aI:=L.aI;have zI:=L.zI;have tB:=L.tB;have aB:=L.aB;have zB:=L.zB;have zE:=L.zE
 refine calls_of_wp hf hb ?_
 simp only [hn,List.size_toArray,List.length_cons,List.length_nil,Nat.reduceAdd,Nat.reduceSub,Array.replicate_succ,Array.replicate_zero,List.push_toArray,List.append_toArray,List.nil_append,List.cons_append]
 unfold j7v
 go_wp2
 go_loopg [5,8] n (λgg _ s8 wr=>∃ kk:Nat,kk<=n/\n-kk<=gg/\s8= .int .i64 kk/\Aside (Ext (λ_=>False) w wr)/\Aside (D kk (us.take kk)))
 case atStart=>exact ⟨0,Nat.zero_le _,by omega,rfl,(Ext.refl _ w:Aside _),(show Aside _ from (by rw [List.take_zero];exact hD))⟩
 case round=>
  obtain ⟨kk,hkk,hg,rfl,X,A⟩:=hrel
  by_cases hlt:kk<n
  ·have hltz:(kk:Int)<(n:Int):=by omega
   have hku:kk<us.length:=by omega
   have hcell:Z05 wr b (off+kk * size e) (size e)=some us[kk].cs:=by
    rw [Z10 (X.out.block b hbw λh=>h)]
    exact hc kk hku
   have hcall:=hp wr X.out kk hku _ A.out
   have HC:Aside (∀ j (h:j<us.length),Z05 w b (off+j * size e) (size e)=some us[j].cs):=hc
   have HP:Aside (∀ W,Ext (λ_=>False) w W->jij P g lb (!fl.isEmpty) us D W):=hp
   have etk:us.take (kk+1)=us.take kk++[us[kk]]:=List.take_succ_eq_append_getElem hku
   have HE:Aside (us.take (kk+1)=us.take kk++[us[kk]]):=etk
   clear hc hp etk
   generalize hy:us[kk]=y at hcell hcall
   have HY:Aside (us[kk]=y):=hy
   clear hy
   go_wp2_with (first
    | (refine j8E hT ht rfl rfl rfl hcell ?_)
    | (refine hcall.mono ?_;rintro x w' ⟨bb,rfl,hD',hX'⟩;cases bb))
   all_goals first
    | exact bodyPost_ret (results_tmp hr _ _ _) rfl ⟨j54 X.out hX',.inr ⟨kk,hlt,rfl,hD'⟩⟩
    | skip
   go_roundg (n-(kk+1))
   case measure=>omega
   case rel=>
    refine ⟨kk+1,by omega,by omega,?_,(show Aside _ from j54 X.out hX'),(show Aside _ from ?_)⟩
    ·go_num
    ·rw [HE.out,HY.out]
     exact hD'
  ·have hltz:¬ (kk:Int)<(n:Int):=by omega
   have:kk=n:=by omega
   subst this
   go_wp2
   refine bodyPost_ret (results_tmp hr _ _ _) rfl ⟨X.out,.inl ⟨rfl,?_⟩⟩
   have:=A.out
   rwa [List.take_of_length_le (by omega)] at this
structure KeptG (us:List (Elem e)) (D:Nat->List (Elem e)->Prop) (off:Nat) (cur:Array Value) (t:TypeId) (fz:Nat×Nat) (b i j:Nat) (wr:World):Prop where
 out:∃ (ka:List (Elem e)) (ck:Array Value),ka.length=i/\D j ka/\ka.Sublist (us.take j)/\wr.heap[b]? = some (.cells ck t fz)/\ck.size=cur.size/\(∀ q (h:q<ka.length),(ck.toList.drop (off+q * size e)).take (size e)=ka[q].cs) /\
  ∀ q (h:q<us.length),i<=q->(ck.toList.drop (off+q * size e)).take (size e)=us[q].cs
 lt:i<j
theorem jln {ag:Bool} {cs:List Value} (h1:∀ c∈cs,one c=true) (ha:ag=false->cs.length=1):(Z0K ag cs).cells.toList=cs:=by
 cases ag with
 | true=>simp [Z0K,Value.cells]
 | false=>
  have hl:=ha rfl
  match cs,hl with
  | [c],_=>
   have:=h1 c (by simp)
   simp only [Z0K,List.headD_cons,Bool.false_eq_true,if_false]
   have h2:=Z8P this
   cases c<;>simp_all [Value.oneCell',Value.cells]
set_option maxHeartbeats 4000000 in
theorem jss (L:SlT P S E I B (size e) z) (hT:Z0e P tys) (ht:Z0o tys E=some (e,fl)) (aE:∀ w,(isAgg E).run P w= .ok (!fl.isEmpty) w) (aT:∀ w,(isAgg T).run P w= .ok false w) (zT:∀ w,(sizeOf T).run P w= .ok 1 w) {fx:Nat} {fnx:Func} (hfx:P.funcs[fx]? = some fnx) (hbx:fnx.body=some (j7v S E I B U T)) (hnx:fnx.ntmps=19) (hrx:fnx.results= #[.tmp 4])
  (ex:∀ args w,(callFunc fx args).run P w= .ok (.enter fx args) w)
  {f:Nat} {fn:Func} (hf:P.funcs[f]? = some fn) (hb:fn.body=some (jgG S E I B U T fx)) (hn:fn.ntmps=42) (hr:fn.results= #[.tmp 4])
  (g:Nat) (lb:Array Value) (eg:∀ args w,(callFunc g args).run P w= .ok (.enter g args) w) (b off n c:Nat) (us:List (Elem e)) (D:Nat->List (Elem e)->Prop) (w:World) (hp:∀ W,Ext (·= b) w W->jij P g lb (!fl.isEmpty) us D W) (hD:D 0 []) (hz:us.length=n)
  {cur:Array Value} {t:TypeId} {fz:Nat×Nat} (hg:w.heap[b]? = some (.cells cur t fz)) (hfz:Z40 cur fz) (hs:off+c * size e<=cur.size) (hlc:n<=c) (hbig:n<=9223372036854775807) (h1:∀ u∈us,∀ c∈u.cs,one c=true) (hcl:∀ u∈us,u.cs.length=size e) (hag:fl.isEmpty=true->size e=1) (hkp:0<size e)
  (hc:∀ j (h:j<us.length),(cur.toList.drop (off+j * size e)).take (size e)=us[j].cs) :
  Calls P f #[.slice (some ⟨b,off,none⟩) n c,.func (.func g) #[] lb] w λx w'=>∃ ka:List (Elem e),x= .returned (.slice (some ⟨b,off,none⟩) ka.length c)/\D n ka/\ka.Sublist us/\Ext (·= b) w w' /\
   ∃ ck:Array Value,w'.heap[b]? = some (.cells ck t fz)/\ck.size=cur.size/\∀ q (h:q<ka.length),(ck.toList.drop (off+q * size e)).take (size e)=ka[q].cs:=by
 have mixed:=L.mixed;have tS:=L.tS;have aS:=L.aS;have zS:=L.zS;have vS:=L.vS;have tI:=L.tI;have aI:=L.aI;have zI:=L.zI;have tB:=L.tB;have aB:=L.aB;have zB:=L.zB;have zE:=L.zE
 have hbw:b<w.heap.size:=(Array.getElem?_eq_some_iff.1 hg).1
 have hcurl:cur.toList.length=cur.size:=by simp
 have hmul:∀ a c:Nat,a<=c->a * size e<=c * size e:=λa c h=>Nat.mul_le_mul_right _ h
 have hext:∀ W,Ext (λ_=>False) w W->Ext (·= b) w W:=λW h=>⟨h.os,h.tape,h.output,h.size,λy hy _=>h.block y hy λh=>h⟩
 have hix:=jpj L hT ht aT zT hfx hbx hnx hrx g lb eg b off n c us D w (λW h=>hp W (hext W h)) hD hz hbig hbw (λj hj=>by
  have h2:=hmul (j+1) c (by omega)
  rw [Nat.add_mul,Nat.one_mul] at h2
  rw [<-hc j hj]
  unfold Z05
  rw [hg]
  simp only []
  rw [if_pos (by omega)])
 have HP:Aside (∀ W,Ext (·= b) w W->jij P g lb (!fl.isEmpty) us D W):=hp
 have HC:Aside (∀ j (h:j<us.length),(cur.toList.drop (off+j * size e)).take (size e)=us[j].cs):=hc
 have HG:Aside (w.heap[b]? = some (.cells cur t fz)):=hg
 have HT:Aside (Z40 cur fz):=hfz
 have HS:Aside (off+c * size e<=cur.size):=hs
 have H1:Aside (∀ u∈us,∀ c∈u.cs,one c=true):=h1
 have HL:Aside (∀ u∈us,u.cs.length=size e):=hcl
 have HA:Aside (fl.isEmpty=true->size e=1):=hag
 have HN:Aside (us.length=n):=hz
 have HM:Aside (∀ a c:Nat,a<=c->a * size e<=c * size e):=hmul
 have HX:Aside (∀ W,Ext (λ_=>False) w W->Ext (·= b) w W):=hext
 have HU:Aside (cur.toList.length=cur.size):=hcurl
 have HW:Aside (b<w.heap.size):=hbw
 clear hp hc hg hfz hs h1 hcl hag hz hmul hext hcurl hD hbw
 refine calls_of_wp hf hb ?_
 simp only [hn,List.size_toArray,List.length_cons,List.length_nil,Nat.reduceAdd,Nat.reduceSub,Array.replicate_succ,Array.replicate_zero,List.push_toArray,List.append_toArray,List.nil_append,List.cons_append]
 unfold jgG
 have hne:∀ q:Nat,((q:Int)== -1)=false:=λq=>beq_eq_false_iff_ne.2 (by omega)
 go_wp2_with (refine hix.mono ?_;rintro x w' ⟨hX,hq⟩;rcases hq with ⟨rfl,hD⟩ | ⟨k0,hk0,rfl,hD⟩;(rotate_left;(have hne1:=hne k0);rotate_left))
 all_goals first
  | exact bodyPost_ret (results_tmp hr _ _ _) rfl ⟨us,by rw [HN.out];rfl,hD,List.Sublist.refl _,HX.out _ hX,cur,by rw [hX.block b HW.out λh=>h];exact HG.out,rfl,HC.out⟩
  | skip
 have K0:Aside (KeptG us D off cur t fz b k0 (k0+1) w'):=by
  have hl:(us.take k0).length=k0:=by rw [List.length_take,HN.out];omega
  refine ⟨⟨us.take k0,cur,hl,hD,?_,by rw [hX.block b HW.out λh=>h];exact HG.out,rfl,λq hq=> ?_,λq hq _=>HC.out q hq⟩,Nat.lt_succ_self _⟩
  ·rw [List.take_succ_eq_append_getElem (by rw [HN.out];exact hk0)]
   exact List.sublist_append_left _ _
  ·rw [HC.out q (by rw [HN.out];omega),List.getElem_take]
 have X0:Aside (Ext (·= b) w w'):=HX.out _ hX
 clear hX hD
 go_loopg [5,6,7] n (λgg s5 s6 _ wr=>∃ i j:Nat,s5= .int .i64 i/\s6= .int .i64 j/\j<=n/\n-j<=gg/\Aside (Ext (·= b) w wr)/\Aside (KeptG us D off cur t fz b i j wr))
 case atStart=>exact ⟨k0,k0+1,by go_num,by go_num,by omega,by omega,X0,K0⟩
 case round=>
  obtain ⟨i,j,rfl,rfl,hjd,hgg,XW,I2⟩:=hrel
  obtain ⟨⟨ka,ck,hka,hDj,hsub,hck,hcs,hlow,hhigh⟩,hij⟩:=I2.out
  have hthk:Z40 ck fz:=λx hx=>HT.out x (by rw [<-hcs];exact hx)
  have hic:i<c:=by omega
  have m1:=HM.out (i+1) c (by omega)
  rw [Nat.add_mul,Nat.one_mul] at m1
  have hckl:ck.toList.length=ck.size:=by simp
  have hbr:b<wr.heap.size:=(Array.getElem?_eq_some_iff.1 hck).1
  by_cases hlt:j<n
  ·have hltz:(j:Int)<(n:Int):=by omega
   have hin:i<n:=by omega
   have hju:j<us.length:=by rw [HN.out];exact hlt
   have m2:=HM.out (j+1) c (by omega)
   rw [Nat.add_mul,Nat.one_mul] at m2
   have hcell:Z05 wr b (off+j * size e) (size e)=some us[j].cs:=by
    rw [<-hhigh j hju (by omega)]
    unfold Z05
    rw [hck]
    simp only []
    rw [if_pos (by have:=HS.out;omega)]
   have hcall:=HP.out wr XW.out j hju ka hDj
   have hym:us[j]∈us:=List.getElem_mem hju
   have hvc:=jln (ag:= !fl.isEmpty) (H1.out _ hym) (λh=>by rw [HL.out _ hym];exact HA.out (by simpa using h))
   have hv1:∀ c∈us[j].cs,one c=true:=H1.out _ hym
   have hfit:off+i * size e+size e<=ck.size:=by have:=HS.out;omega
   have etk:Aside (us.take (j+1)=us.take j++[us[j]]):=List.take_succ_eq_append_getElem hju
   have hyl:us[j].cs.length=size e:=HL.out _ hym
   have AH:Aside (ka.length=i/\ka.Sublist (us.take j)/\ck.size=cur.size/\(∀ q (h:q<ka.length),(ck.toList.drop (off+q * size e)).take (size e)=ka[q].cs)/\∀ q (h:q<us.length),i<=q->(ck.toList.drop (off+q * size e)).take (size e)=us[q].cs):=⟨hka,hsub,hcs,hlow,hhigh⟩
   have hF:Aside (∀ w1,Ext (λ_=>False) wr w1->D (j+1) (ka++[us[j]])->Aside (Ext (·= b) w (w1.setRow b (Z0c ck.toList (off+i * size e) us[j].cs).toArray))/\Aside (KeptG us D off cur t fz b (i+1) (j+1) (w1.setRow b (Z0c ck.toList (off+i * size e) us[j].cs).toArray))):=by
    intro w1 hX' hD'
    have hck1:w1.heap[b]? = some (.cells ck t fz):=by rw [hX'.block b hbr λh=>h];exact hck
    have hsl:(Z0c ck.toList (off+i * size e) us[j].cs).length=ck.toList.length:=Z1U (by rw [hyl,hckl];exact hfit)
    have hE1:=j54 XW.out hX'
    refine ⟨⟨hE1.os,hE1.tape,hE1.output,by rw [setRow_size];exact hE1.size,λy hy hm=>by rw [setRow_other _ _ _ _ hm];exact hE1.block y hy hm⟩,
     ⟨⟨ka++[us[j]],_,by rw [List.length_append,hka];rfl,hD',by rw [etk.out];exact hsub.append (List.Sublist.refl _),setRow_heap w1 b ck _ t fz hck1,by rw [List.size_toArray,hsl,hckl];exact hcs,λq hq=> ?_,λq hq hqi=> ?_⟩,by omega⟩⟩
    ·rw [List.length_append,hka] at hq
     have hq:q<i+1:=hq
     show ((Z0c ck.toList (off+i * size e) us[j].cs).drop (off+q * size e)).take (size e)=_
     by_cases hqi:q<i
     ·have m3:=HM.out (q+1) i hqi
      rw [Nat.add_mul,Nat.one_mul] at m3
      rw [j3X (by omega) (by omega),hlow q (by rw [hka];exact hqi),List.getElem_append_left (by rw [hka];exact hqi)]
     ·have hqe:q=i:=by omega
      subst hqe
      rw [jcv (by omega) (Nat.le_refl _) (by rw [hyl];exact Nat.le_refl _),Nat.sub_self,List.drop_zero,List.take_of_length_le (by rw [hyl];exact Nat.le_refl _),List.getElem_append_right (by rw [hka];exact Nat.le_refl _)]
      simp [hka]
    ·have m3:=HM.out (i+1) q hqi
     rw [Nat.add_mul,Nat.one_mul] at m3
     show ((Z0c ck.toList (off+i * size e) us[j].cs).drop (off+q * size e)).take (size e)=_
     rw [jh2 (by rw [hyl,hckl];exact hfit) (by rw [hyl];omega)]
     exact hhigh q hq (by omega)
   have hTr:Aside (∀ w1,Ext (λ_=>False) wr w1->D (j+1) ka->Aside (Ext (·= b) w w1)/\Aside (KeptG us D off cur t fz b i (j+1) w1)):=by
    intro w1 hX' hD'
    have hck1:w1.heap[b]? = some (.cells ck t fz):=by rw [hX'.block b hbr λh=>h];exact hck
    exact ⟨j54 XW.out hX',⟨⟨ka,ck,hka,hD',hsub.trans (by rw [etk.out];exact List.sublist_append_left _ _),hck1,hcs,hlow,λq hq hqi=>hhigh q hq (by omega)⟩,by omega⟩⟩
   clear hka hDj hsub hcs hlow hhigh hym I2
   generalize us[j]=y at hcell hcall hvc hv1 etk hyl hF
   clear hju
   have AV:Aside ((Z0K (!fl.isEmpty) y.cs).cells.toList=y.cs):=hvc
   clear hvc
   go_wp2_with (first
    | (refine j8E hT ht rfl rfl rfl hcell ?_)
    | (refine hcall.mono ?_;rintro x w1 ⟨bb,rfl,hD',hX'⟩;cases bb)
    | (refine jdr (cur:=ck) (T:=t) (fz:=fz) hT ht rfl rfl rfl rfl (by rw [hX'.block b hbr λh=>h];exact hck) hthk AV.out hyl hfit hv1 ?_))
   ·go_roundg (n-(j+1))
    case measure=>omega
    case rel=>exact ⟨i+1,j+1,by go_num,by go_num,by omega,Nat.le_refl _,(hF.out w1 hX' hD').1,(hF.out w1 hX' hD').2⟩
   ·go_roundg (n-(j+1))
    case measure=>omega
    case rel=>exact ⟨i,j+1,rfl,by go_num,by omega,Nat.le_refl _,(hTr.out w1 hX' hD').1,(hTr.out w1 hX' hD').2⟩
  ·obtain rfl:j=n:=by omega
   have hltz:¬ (j:Int)<(j:Int):=by omega
   have hi3:¬ c=i:=by omega
   have m2:=HM.out j c hlc
   have e1:i * size e+(j-i) * size e=j * size e:=by rw [<-Nat.add_mul,show i+(j-i)=j by omega]
   have hcl:∀ ty,(Builtin.clear_ #[S] ty #[.slice (some ⟨b,off+i * size e,none⟩) (j-i) (c-i)]).run P wr= .ok (.tuple #[]) (wr.setRow b (Z0c ck.toList (off+i * size e) (j0G z (j-i))).toArray):=λty=>
    jhC L ty (by omega) hck hthk (by rw [hcs];have:=HS.out;omega)
   have hzl:(j0G z (j-i)).length=(j-i) * size e:=by rw [jdZ,L.zk]
   have hsl:(Z0c ck.toList (off+i * size e) (j0G z (j-i))).length=ck.toList.length:=Z1U (by rw [hzl,hckl,hcs];have:=HS.out;omega)
   have hEnd:Aside (Ext (·= b) w (wr.setRow b (Z0c ck.toList (off+i * size e) (j0G z (j-i))).toArray)/\∃ ck':Array Value,(wr.setRow b (Z0c ck.toList (off+i * size e) (j0G z (j-i))).toArray).heap[b]? = some (.cells ck' t fz)/\ck'.size=cur.size/\∀ q (h:q<ka.length),(ck'.toList.drop (off+q * size e)).take (size e)=ka[q].cs):=by
    refine ⟨⟨XW.out.os,XW.out.tape,XW.out.output,by rw [setRow_size];exact XW.out.size,λy hy hm=>by rw [setRow_other _ _ _ _ hm];exact XW.out.block y hy hm⟩,_,setRow_heap wr b ck _ t fz hck,by rw [List.size_toArray,hsl,hckl];exact hcs,λq hq=> ?_⟩
    have m3:=HM.out (q+1) i (by omega)
    rw [Nat.add_mul,Nat.one_mul] at m3
    show ((Z0c ck.toList (off+i * size e) (j0G z (j-i))).drop (off+q * size e)).take (size e)=_
    rw [j3X (by rw [hckl,hcs];have:=HS.out;omega) (by omega),hlow q hq]
   have AH:Aside (ka.length=i/\D j ka/\ka.Sublist us):=⟨hka,hDj,by rwa [List.take_of_length_le (by rw [HN.out];exact Nat.le_refl _)] at hsub⟩
   clear hka hDj hsub hck hcs hlow hhigh I2 hzl hsl
   go_wp2
   refine bodyPost_ret (results_tmp hr _ _ _) rfl ⟨ka,by rw [AH.out.1];rfl,AH.out.2.1,AH.out.2.2,hEnd.out.1,hEnd.out.2⟩
theorem jrM (L:SlT P S E I B (size e) z) (aT:∀ w,(isAgg T).run P w= .ok false w) (zT:∀ w,(sizeOf T).run P w= .ok 1 w) {f:Nat} {fn:Func} (hf:P.funcs[f]? = some fn) (hb:fn.body=some (j7v S E I B U T)) (hn:fn.ntmps=19) (hr:fn.results= #[.tmp 4])
  (g:Nat) (lb:Array Value) (ad:Option Addr) (c:Nat) (w:World):Calls P f #[.slice ad 0 c,.func (.func g) #[] lb] w λx w'=>x= .returned (.int .i64 (-1))/\w'=w:=by
 have mixed:=L.mixed;have tS:=L.tS;have aS:=L.aS;have zS:=L.zS;have vS:=L.vS;have tI:=L.tI;have aI:=L.aI;have zI:=L.zI;have tB:=L.tB;have aB:=L.aB;have zB:=L.zB;have zE:=L.zE
 refine calls_of_wp hf hb ?_
 simp only [hn,List.size_toArray,List.length_cons,List.length_nil,Nat.reduceAdd,Nat.reduceSub,Array.replicate_succ,Array.replicate_zero,List.push_toArray,List.append_toArray,List.nil_append,List.cons_append]
 unfold j7v
 go_wp2
 go_loopg [5,8] 0 (λgg _ s8 wr=>s8= .int .i64 0/\wr=w)
 case atStart=>exact ⟨rfl,rfl⟩
 case round=>
  obtain ⟨rfl,rfl⟩:=hrel
  go_wp2
  exact bodyPost_ret (results_tmp hr _ _ _) rfl ⟨rfl,rfl⟩
theorem jtE (L:SlT P S E I B (size e) z) (aT:∀ w,(isAgg T).run P w= .ok false w) (zT:∀ w,(sizeOf T).run P w= .ok 1 w) {fx:Nat} {fnx:Func} (hfx:P.funcs[fx]? = some fnx) (hbx:fnx.body=some (j7v S E I B U T)) (hnx:fnx.ntmps=19) (hrx:fnx.results= #[.tmp 4])
  (ex:∀ args w,(callFunc fx args).run P w= .ok (.enter fx args) w)
  {f:Nat} {fn:Func} (hf:P.funcs[f]? = some fn) (hb:fn.body=some (jgG S E I B U T fx)) (hn:fn.ntmps=42) (hr:fn.results= #[.tmp 4]) (g:Nat) (lb:Array Value) (ad:Option Addr) (c:Nat) (w:World) :
  Calls P f #[.slice ad 0 c,.func (.func g) #[] lb] w λx w'=>x= .returned (.slice ad 0 c)/\w'=w:=by
 have mixed:=L.mixed;have tS:=L.tS;have aS:=L.aS;have zS:=L.zS;have vS:=L.vS;have tI:=L.tI;have aI:=L.aI;have zI:=L.zI;have tB:=L.tB;have aB:=L.aB;have zB:=L.zB;have zE:=L.zE
 have hix:=jrM L aT zT hfx hbx hnx hrx g lb ad c w
 refine calls_of_wp hf hb ?_
 simp only [hn,List.size_toArray,List.length_cons,List.length_nil,Nat.reduceAdd,Nat.reduceSub,Array.replicate_succ,Array.replicate_zero,List.push_toArray,List.append_toArray,List.nil_append,List.cons_append]
 unfold jgG
 go_wp2_with (refine hix.mono ?_;rintro x w' ⟨rfl,rfl⟩)
 exact bodyPost_ret (results_tmp hr _ _ _) rfl ⟨rfl,rfl⟩
end
end Go.PI
namespace Go.PI
open Go
def je2 (S E I B U T:TypeId) (fx:FuncId):Code:=
(.seq (.region 0 #[⟨(some 4), .assign (.const (.slice none 0 0)), S, "slices.go:241", #[], none⟩] false)
 (.seq (.region 1 #[⟨(some 8), .move (.tmp 0), S, "slices.go:242", #[], none⟩,
  ⟨(some 9), .move (.tmp 1), T, "slices.go:242", #[], none⟩,
  ⟨(some 10), .call ⟨(.value (.func fx)), #[(.tmp 8), (.tmp 9)], #[S, T]⟩, I, "slices.go:242", #[⟨0, .data⟩, ⟨1, .data⟩], none⟩,
  ⟨(some 5), .assign (.tmp 10), I, "slices.go:242", #[⟨2, .data⟩, ⟨2, .chain⟩, ⟨0, .phase⟩, ⟨1, .phase⟩, ⟨2, .phase⟩], none⟩] false)
 (.seq (.seq (.region 2 #[⟨(some 11), .move (.tmp 5), I, "slices.go:243", #[], none⟩,
  ⟨(some 12), .binOp .eql I (.tmp 11) (.const (.int .i64 (-1))) I, B, "slices.go:243", #[⟨0, .data⟩], none⟩] false)
 (.cond (.tmp 12)
  (.seq (.region 3 #[⟨(some 13), .move (.tmp 0), S, "slices.go:244", #[], none⟩,
   ⟨(some 4), .assign (.tmp 13), S, "slices.go:244", #[⟨0, .data⟩, ⟨0, .phase⟩], none⟩] false)
  .ret)
  .skip))
 (.seq (.seq (.region 4 #[⟨(some 14), .move (.tmp 5), I, "slices.go:247", #[], none⟩,
  ⟨(some 15), .binOp .add I (.tmp 14) (.const (.int .i64 1)) I, I, "slices.go:247", #[⟨0, .data⟩], none⟩,
  ⟨(some 6), .assign (.tmp 15), I, "slices.go:247", #[⟨1, .data⟩, ⟨0, .phase⟩, ⟨1, .phase⟩], none⟩] false)
 (.block 0 (.loop (.seq (.seq (.region 5 #[⟨(some 16), .move (.tmp 6), I, "slices.go:247", #[], none⟩,
  ⟨(some 17), .move (.tmp 0), S, "slices.go:247", #[], none⟩,
  ⟨(some 18), .call ⟨(.builtin .len), #[(.tmp 17)], #[S]⟩, I, "slices.go:247", #[⟨1, .data⟩], none⟩,
  ⟨(some 19), .binOp .lss I (.tmp 16) (.tmp 18) I, B, "slices.go:247", #[⟨0, .data⟩, ⟨2, .data⟩], none⟩] false)
 (.cond (.tmp 19)
  .skip
  (.exit 0)))
 (.seq (.block 1 (.seq (.region 7 #[⟨(some 22), .move (.tmp 0), S, "slices.go:248", #[], none⟩,
  ⟨(some 23), .move (.tmp 6), I, "slices.go:248", #[], none⟩,
  ⟨(some 24), .indexAddr S (.tmp 22) (.tmp 23), U, "slices.go:248", #[⟨0, .data⟩, ⟨1, .data⟩], none⟩,
  ⟨(some 25), .load E (.tmp 24), E, "slices.go:248", #[⟨2, .data⟩], none⟩,
  ⟨(some 7), .alloc E, U, "slices.go:248", #[], none⟩,
  ⟨none, .store E (.tmp 7) (.tmp 25), U, "slices.go:248", #[⟨4, .data⟩, ⟨3, .data⟩, ⟨0, .phase⟩, ⟨1, .phase⟩, ⟨2, .phase⟩, ⟨3, .phase⟩, ⟨4, .phase⟩], none⟩] false)
 (.seq (.region 8 #[⟨(some 26), .move (.tmp 1), T, "slices.go:248", #[], none⟩,
  ⟨(some 27), .load E (.tmp 7), E, "slices.go:248", #[], none⟩,
  ⟨(some 28), .call ⟨(.value (.tmp 26)), #[(.tmp 27)], #[E]⟩, B, "slices.go:248", #[⟨0, .data⟩, ⟨1, .data⟩], none⟩,
  ⟨(some 29), .unOp .not B (.tmp 28), B, "slices.go:248", #[⟨2, .data⟩], none⟩] false)
 (.cond (.tmp 29)
  (.seq (.region 9 #[⟨(some 30), .move (.tmp 0), S, "slices.go:249", #[], none⟩,
   ⟨(some 31), .move (.tmp 5), I, "slices.go:249", #[], none⟩,
   ⟨(some 32), .load E (.tmp 7), E, "slices.go:249", #[], none⟩,
   ⟨(some 33), .indexAddr S (.tmp 30) (.tmp 31), U, "slices.go:249", #[⟨0, .data⟩, ⟨1, .data⟩, ⟨0, .phase⟩, ⟨1, .phase⟩, ⟨2, .phase⟩], none⟩,
   ⟨none, .store E (.tmp 33) (.tmp 32), U, "slices.go:249", #[⟨3, .data⟩, ⟨2, .data⟩, ⟨0, .phase⟩, ⟨1, .phase⟩, ⟨2, .phase⟩], none⟩] false)
  (.region 10 #[⟨(some 34), .move (.tmp 5), I, "slices.go:250", #[], none⟩,
   ⟨(some 35), .binOp .add I (.tmp 34) (.const (.int .i64 1)) I, I, "slices.go:250", #[⟨0, .data⟩], none⟩,
   ⟨(some 5), .assign (.tmp 35), I, "slices.go:250", #[⟨1, .data⟩, ⟨0, .phase⟩, ⟨1, .phase⟩], none⟩] false))
  .skip))))
 (.region 6 #[⟨(some 20), .move (.tmp 6), I, "slices.go:247", #[], none⟩,
  ⟨(some 21), .binOp .add I (.tmp 20) (.const (.int .i64 1)) I, I, "slices.go:247", #[⟨0, .data⟩], none⟩,
  ⟨(some 6), .assign (.tmp 21), I, "slices.go:247", #[⟨1, .data⟩, ⟨0, .phase⟩, ⟨1, .phase⟩], none⟩] false))))))
 (.seq (.region 11 #[⟨(some 36), .move (.tmp 0), S, "slices.go:253", #[], none⟩,
  ⟨(some 37), .move (.tmp 5), I, "slices.go:253", #[], none⟩,
  ⟨(some 38), .slice S (.tmp 36) (some (.tmp 37)) none none, S, "slices.go:253", #[⟨0, .data⟩, ⟨1, .data⟩], none⟩,
  ⟨none, .call ⟨(.builtin .clear), #[(.tmp 38)], #[S]⟩, U, "slices.go:253", #[⟨2, .data⟩], none⟩] false)
 (.seq (.region 12 #[⟨(some 39), .move (.tmp 0), S, "slices.go:254", #[], none⟩,
  ⟨(some 40), .move (.tmp 5), I, "slices.go:254", #[], none⟩,
  ⟨(some 41), .slice S (.tmp 39) none (some (.tmp 40)) none, S, "slices.go:254", #[⟨0, .data⟩, ⟨1, .data⟩], none⟩,
  ⟨(some 4), .assign (.tmp 41), S, "slices.go:254", #[⟨2, .data⟩, ⟨0, .phase⟩, ⟨1, .phase⟩, ⟨2, .phase⟩], none⟩] false)
 .ret))))))
section
variable {P:Program} {S E I B U T:TypeId} {z:Value} {tys:List (TypeId×Ty×List TypeId)} {e:Ty} {fl:List TypeId}
theorem jqe (w:World) (C:Array Value) (E:TypeId):Ext (λ_=>False) w (w.alloc (.cells C E))/\w.heap.size<(w.alloc (.cells C E)).heap.size/\(w.alloc (.cells C E)).heap[w.heap.size]? = some (.cells C E (0,0)):=by
 have h1:(w.alloc (.cells C E)).heap=w.heap.push (.cells C E):=rfl
 refine ⟨⟨rfl,rfl,rfl,?_,λy hy _=> ?_⟩,?_,?_⟩
 ·rw [h1];simp
 ·rw [h1,Array.getElem?_push,if_neg (by omega)]
 ·rw [h1];simp
 ·rw [h1];simp
theorem joH {w:World} (vE:∀ w,(zeroValue E).run P w= .ok z w) {ops:Array Oper} {rest:List Oper} {o:Oper} {a:Act} {Q:Exit->Act->World->Prop} (hgd:o.guard=none) (ho:o.op= .alloc E)
  (h:wpList P ops Q rest (a.put o.dst (.pointer (some ⟨w.heap.size,0,none⟩))) (w.alloc (.cells z.cells E))):wpList P ops Q (o::rest) a w:=
 wpList_plain hgd λK hK=>by
  unfold Oper.wp
  have hr:(execOp a.eval o).run P w= .ok (.value (.pointer (some ⟨w.heap.size,0,none⟩))) (w.alloc (.cells z.cells E)):=by
   rw [Z03 ho]
   simp [execOp,Instr.alloc,vE w,newVar,newRow]
  rw [hr]
  exact hK _ _ h
set_option maxHeartbeats 4000000 in
theorem jsr (L:SlT P S E I B (size e) z) (hT:Z0e P tys) (ht:Z0o tys E=some (e,fl)) (aE:∀ w,(isAgg E).run P w= .ok (!fl.isEmpty) w) (aT:∀ w,(isAgg T).run P w= .ok false w) (zT:∀ w,(sizeOf T).run P w= .ok 1 w) {fx:Nat} {fnx:Func} (hfx:P.funcs[fx]? = some fnx) (hbx:fnx.body=some (j7v S E I B U T)) (hnx:fnx.ntmps=19) (hrx:fnx.results= #[.tmp 4])
  (ex:∀ args w,(callFunc fx args).run P w= .ok (.enter fx args) w)
  {f:Nat} {fn:Func} (hf:P.funcs[f]? = some fn) (hb:fn.body=some (je2 S E I B U T fx)) (hn:fn.ntmps=42) (hr:fn.results= #[.tmp 4])
  (g:Nat) (lb:Array Value) (eg:∀ args w,(callFunc g args).run P w= .ok (.enter g args) w) (b off n c:Nat) (us:List (Elem e)) (D:Nat->List (Elem e)->Prop) (w:World) (hp:∀ W,Ext (·= b) w W->jij P g lb (!fl.isEmpty) us D W) (hD:D 0 []) (hz:us.length=n)
  {cur:Array Value} {t:TypeId} {fz:Nat×Nat} (hg:w.heap[b]? = some (.cells cur t fz)) (hfz:Z40 cur fz) (hs:off+c * size e<=cur.size) (hlc:n<=c) (hbig:n<=9223372036854775807) (h1:∀ u∈us,∀ c∈u.cs,one c=true) (hcl:∀ u∈us,u.cs.length=size e) (hag:fl.isEmpty=true->size e=1) (hkp:0<size e)
  (hc:∀ j (h:j<us.length),(cur.toList.drop (off+j * size e)).take (size e)=us[j].cs) :
  Calls P f #[.slice (some ⟨b,off,none⟩) n c,.func (.func g) #[] lb] w λx w'=>∃ ka:List (Elem e),x= .returned (.slice (some ⟨b,off,none⟩) ka.length c)/\D n ka/\ka.Sublist us/\Ext (·= b) w w' /\
   ∃ ck:Array Value,w'.heap[b]? = some (.cells ck t fz)/\ck.size=cur.size/\∀ q (h:q<ka.length),(ck.toList.drop (off+q * size e)).take (size e)=ka[q].cs:=by
 have mixed:=L.mixed;have tS:=L.tS;have aS:=L.aS;have zS:=L.zS;have vS:=L.vS;have tI:=L.tI;have aI:=L.aI;have zI:=L.zI;have tB:=L.tB;have aB:=L.aB;have zB:=L.zB;have zE:=L.zE
 have hbw:b<w.heap.size:=(Array.getElem?_eq_some_iff.1 hg).1
 have hcurl:cur.toList.length=cur.size:=by simp
 have hmul:∀ a c:Nat,a<=c->a * size e<=c * size e:=λa c h=>Nat.mul_le_mul_right _ h
 have hext:∀ W,Ext (λ_=>False) w W->Ext (·= b) w W:=λW h=>⟨h.os,h.tape,h.output,h.size,λy hy _=>h.block y hy λh=>h⟩
 have hix:=jpj L hT ht aT zT hfx hbx hnx hrx g lb eg b off n c us D w (λW h=>hp W (hext W h)) hD hz hbig hbw (λj hj=>by
  have h2:=hmul (j+1) c (by omega)
  rw [Nat.add_mul,Nat.one_mul] at h2
  rw [<-hc j hj]
  unfold Z05
  rw [hg]
  simp only []
  rw [if_pos (by omega)])
 have HP:Aside (∀ W,Ext (·= b) w W->jij P g lb (!fl.isEmpty) us D W):=hp
 have HC:Aside (∀ j (h:j<us.length),(cur.toList.drop (off+j * size e)).take (size e)=us[j].cs):=hc
 have HG:Aside (w.heap[b]? = some (.cells cur t fz)):=hg
 have HT:Aside (Z40 cur fz):=hfz
 have HS:Aside (off+c * size e<=cur.size):=hs
 have H1:Aside (∀ u∈us,∀ c∈u.cs,one c=true):=h1
 have HL:Aside (∀ u∈us,u.cs.length=size e):=hcl
 have HA:Aside (fl.isEmpty=true->size e=1):=hag
 have HN:Aside (us.length=n):=hz
 have HM:Aside (∀ a c:Nat,a<=c->a * size e<=c * size e):=hmul
 have HX:Aside (∀ W,Ext (λ_=>False) w W->Ext (·= b) w W):=hext
 have HU:Aside (cur.toList.length=cur.size):=hcurl
 have HW:Aside (b<w.heap.size):=hbw
 clear hp hc hg hfz hs h1 hcl hag hz hmul hext hcurl hD hbw
 refine calls_of_wp hf hb ?_
 simp only [hn,List.size_toArray,List.length_cons,List.length_nil,Nat.reduceAdd,Nat.reduceSub,Array.replicate_succ,Array.replicate_zero,List.push_toArray,List.append_toArray,List.nil_append,List.cons_append]
 unfold je2
 have hne:∀ q:Nat,((q:Int)== -1)=false:=λq=>beq_eq_false_iff_ne.2 (by omega)
 go_wp2_with (refine hix.mono ?_;rintro x w' ⟨hX,hq⟩;rcases hq with ⟨rfl,hD⟩ | ⟨k0,hk0,rfl,hD⟩;(rotate_left;(have hne1:=hne k0);rotate_left))
 all_goals first
  | exact bodyPost_ret (results_tmp hr _ _ _) rfl ⟨us,by rw [HN.out];rfl,hD,List.Sublist.refl _,HX.out _ hX,cur,by rw [hX.block b HW.out λh=>h];exact HG.out,rfl,HC.out⟩
  | skip
 have K0:Aside (KeptG us D off cur t fz b k0 (k0+1) w'):=by
  have hl:(us.take k0).length=k0:=by rw [List.length_take,HN.out];omega
  refine ⟨⟨us.take k0,cur,hl,hD,?_,by rw [hX.block b HW.out λh=>h];exact HG.out,rfl,λq hq=> ?_,λq hq _=>HC.out q hq⟩,Nat.lt_succ_self _⟩
  ·rw [List.take_succ_eq_append_getElem (by rw [HN.out];exact hk0)]
   exact List.sublist_append_left _ _
  ·rw [HC.out q (by rw [HN.out];omega),List.getElem_take]
 have X0:Aside (Ext (·= b) w w'):=HX.out _ hX
 clear hX hD
 go_loopg [5,6,7] n (λgg s5 s6 _ wr=>∃ i j:Nat,s5= .int .i64 i/\s6= .int .i64 j/\j<=n/\n-j<=gg/\Aside (Ext (·= b) w wr)/\Aside (KeptG us D off cur t fz b i j wr))
 case atStart=>exact ⟨k0,k0+1,by go_num,by go_num,by omega,by omega,X0,K0⟩
 case round=>
  obtain ⟨i,j,rfl,rfl,hjd,hgg,XW,I2⟩:=hrel
  obtain ⟨⟨ka,ck,hka,hDj,hsub,hck,hcs,hlow,hhigh⟩,hij⟩:=I2.out
  have hthk:Z40 ck fz:=λx hx=>HT.out x (by rw [<-hcs];exact hx)
  have hic:i<c:=by omega
  have m1:=HM.out (i+1) c (by omega)
  rw [Nat.add_mul,Nat.one_mul] at m1
  have hckl:ck.toList.length=ck.size:=by simp
  have hbr:b<wr.heap.size:=(Array.getElem?_eq_some_iff.1 hck).1
  by_cases hlt:j<n
  ·have hltz:(j:Int)<(n:Int):=by omega
   have hin:i<n:=by omega
   have hju:j<us.length:=by rw [HN.out];exact hlt
   have m2:=HM.out (j+1) c (by omega)
   rw [Nat.add_mul,Nat.one_mul] at m2
   have hcell:Z05 wr b (off+j * size e) (size e)=some us[j].cs:=by
    rw [<-hhigh j hju (by omega)]
    unfold Z05
    rw [hck]
    simp only []
    rw [if_pos (by have:=HS.out;omega)]
   have hzs:z.cells.toList.length=size e:=by rw [Array.length_toList];exact L.zk
   have hA1:=jqe wr z.cells E
   obtain ⟨W2,hW2⟩:∃ W2,W2=(wr.alloc (.cells z.cells E)).setRow wr.heap.size (Z0c z.cells.toList 0 us[j].cs).toArray:=⟨_,rfl⟩
   have hE2:Ext (λ_=>False) wr W2:=by
    rw [hW2]
    exact ⟨hA1.1.os,hA1.1.tape,hA1.1.output,by rw [setRow_size];exact hA1.1.size,λy hy _=>by rw [setRow_other _ _ _ _ (by omega)];exact hA1.1.block y hy λh=>h⟩
   have hyl0:us[j].cs.length=size e:=HL.out _ (List.getElem_mem hju)
   have hcV:Z05 W2 wr.heap.size 0 (size e)=some us[j].cs:=by
    have h1:W2.heap[wr.heap.size]? = some (.cells (Z0c z.cells.toList 0 us[j].cs).toArray E (0,0)):=by rw [hW2];exact setRow_heap _ _ _ _ _ _ hA1.2.2
    have h2:Z0c z.cells.toList 0 us[j].cs=us[j].cs:=by unfold Z0c;rw [List.take_zero,List.nil_append,Nat.zero_add,List.drop_of_length_le (by rw [hzs,hyl0];exact Nat.le_refl _),List.append_nil]
    rw [h2] at h1
    unfold Z05
    rw [h1]
    simp only [List.size_toArray]
    rw [if_pos (by omega),List.drop_zero,List.take_of_length_le (by omega)]
   have hvw2:wr.heap.size<W2.heap.size:=by rw [hW2,setRow_size];exact hA1.2.1
   have hcall:=HP.out W2 (j54 XW.out hE2) j hju ka hDj
   have hym:us[j]∈us:=List.getElem_mem hju
   have hvc:=jln (ag:= !fl.isEmpty) (H1.out _ hym) (λh=>by rw [HL.out _ hym];exact HA.out (by simpa using h))
   have hv1:∀ c∈us[j].cs,one c=true:=H1.out _ hym
   have hfit:off+i * size e+size e<=ck.size:=by have:=HS.out;omega
   have etk:Aside (us.take (j+1)=us.take j++[us[j]]):=List.take_succ_eq_append_getElem hju
   have hyl:us[j].cs.length=size e:=hyl0
   have AH:Aside (ka.length=i/\ka.Sublist (us.take j)/\ck.size=cur.size/\(∀ q (h:q<ka.length),(ck.toList.drop (off+q * size e)).take (size e)=ka[q].cs)/\∀ q (h:q<us.length),i<=q->(ck.toList.drop (off+q * size e)).take (size e)=us[q].cs):=⟨hka,hsub,hcs,hlow,hhigh⟩
   have hF:Aside (∀ w1,Ext (λ_=>False) W2 w1->D (j+1) (ka++[us[j]])->Aside (Ext (·= b) w (w1.setRow b (Z0c ck.toList (off+i * size e) us[j].cs).toArray))/\Aside (KeptG us D off cur t fz b (i+1) (j+1) (w1.setRow b (Z0c ck.toList (off+i * size e) us[j].cs).toArray))):=by
    intro w1 hX2 hD'
    have hX':=j54 hE2 hX2
    have hck1:w1.heap[b]? = some (.cells ck t fz):=by rw [hX'.block b hbr λh=>h];exact hck
    have hsl:(Z0c ck.toList (off+i * size e) us[j].cs).length=ck.toList.length:=Z1U (by rw [hyl,hckl];exact hfit)
    have hE1:=j54 XW.out hX'
    refine ⟨⟨hE1.os,hE1.tape,hE1.output,by rw [setRow_size];exact hE1.size,λy hy hm=>by rw [setRow_other _ _ _ _ hm];exact hE1.block y hy hm⟩,
     ⟨⟨ka++[us[j]],_,by rw [List.length_append,hka];rfl,hD',by rw [etk.out];exact hsub.append (List.Sublist.refl _),setRow_heap w1 b ck _ t fz hck1,by rw [List.size_toArray,hsl,hckl];exact hcs,λq hq=> ?_,λq hq hqi=> ?_⟩,by omega⟩⟩
    ·rw [List.length_append,hka] at hq
     have hq:q<i+1:=hq
     show ((Z0c ck.toList (off+i * size e) us[j].cs).drop (off+q * size e)).take (size e)=_
     by_cases hqi:q<i
     ·have m3:=HM.out (q+1) i hqi
      rw [Nat.add_mul,Nat.one_mul] at m3
      rw [j3X (by omega) (by omega),hlow q (by rw [hka];exact hqi),List.getElem_append_left (by rw [hka];exact hqi)]
     ·have hqe:q=i:=by omega
      subst hqe
      rw [jcv (by omega) (Nat.le_refl _) (by rw [hyl];exact Nat.le_refl _),Nat.sub_self,List.drop_zero,List.take_of_length_le (by rw [hyl];exact Nat.le_refl _),List.getElem_append_right (by rw [hka];exact Nat.le_refl _)]
      simp [hka]
    ·have m3:=HM.out (i+1) q hqi
     rw [Nat.add_mul,Nat.one_mul] at m3
     show ((Z0c ck.toList (off+i * size e) us[j].cs).drop (off+q * size e)).take (size e)=_
     rw [jh2 (by rw [hyl,hckl];exact hfit) (by rw [hyl];omega)]
     exact hhigh q hq (by omega)
   have hTr:Aside (∀ w1,Ext (λ_=>False) W2 w1->D (j+1) ka->Aside (Ext (·= b) w w1)/\Aside (KeptG us D off cur t fz b i (j+1) w1)):=by
    intro w1 hX2 hD'
    have hX':=j54 hE2 hX2
    have hck1:w1.heap[b]? = some (.cells ck t fz):=by rw [hX'.block b hbr λh=>h];exact hck
    exact ⟨j54 XW.out hX',⟨⟨ka,ck,hka,hD',hsub.trans (by rw [etk.out];exact List.sublist_append_left _ _),hck1,hcs,hlow,λq hq hqi=>hhigh q hq (by omega)⟩,by omega⟩⟩
   clear hka hDj hsub hcs hlow hhigh hym I2
   clear hyl0
   generalize us[j]=y at hcell hcall hvc hv1 etk hyl hF hcV hW2
   clear hju
   have AV:Aside ((Z0K (!fl.isEmpty) y.cs).cells.toList=y.cs):=hvc
   clear hvc
   subst hW2
   go_wp2_with (first
    | (refine j8E hT ht rfl rfl rfl hcell ?_)
    | (refine joH L.vE rfl rfl ?_)
    | (refine jdr (cur:=z.cells) (T:=E) (fz:=(0,0)) hT ht rfl rfl rfl rfl hA1.2.2 (jti _) AV.out hyl (by rw [L.zk];omega) hv1 ?_)
    | (refine j8E hT ht rfl rfl rfl hcV ?_)
    | (refine j8E hT ht rfl rfl rfl ((Z10 (hX'.block _ hvw2 λh=>h) _ _).trans hcV) ?_)
    | (refine hcall.mono ?_;rintro x w1 ⟨bb,rfl,hD',hX'⟩;cases bb)
    | (refine jdr (cur:=ck) (T:=t) (fz:=fz) hT ht rfl rfl rfl rfl (by rw [hX'.block b (Nat.lt_of_lt_of_le hbr hE2.size) λh=>h,hE2.block b hbr λh=>h];exact hck) hthk AV.out hyl hfit hv1 ?_))
   ·go_roundg (n-(j+1))
    case measure=>omega
    case rel=>exact ⟨i+1,j+1,by go_num,by go_num,by omega,Nat.le_refl _,(hF.out w1 hX' hD').1,(hF.out w1 hX' hD').2⟩
   ·go_roundg (n-(j+1))
    case measure=>omega
    case rel=>exact ⟨i,j+1,rfl,by go_num,by omega,Nat.le_refl _,(hTr.out w1 hX' hD').1,(hTr.out w1 hX' hD').2⟩
  ·obtain rfl:j=n:=by omega
   have hltz:¬ (j:Int)<(j:Int):=by omega
   have hi3:¬ c=i:=by omega
   have m2:=HM.out j c hlc
   have e1:i * size e+(j-i) * size e=j * size e:=by rw [<-Nat.add_mul,show i+(j-i)=j by omega]
   have hcl:∀ ty,(Builtin.clear_ #[S] ty #[.slice (some ⟨b,off+i * size e,none⟩) (j-i) (c-i)]).run P wr= .ok (.tuple #[]) (wr.setRow b (Z0c ck.toList (off+i * size e) (j0G z (j-i))).toArray):=λty=>
    jhC L ty (by omega) hck hthk (by rw [hcs];have:=HS.out;omega)
   have hzl:(j0G z (j-i)).length=(j-i) * size e:=by rw [jdZ,L.zk]
   have hsl:(Z0c ck.toList (off+i * size e) (j0G z (j-i))).length=ck.toList.length:=Z1U (by rw [hzl,hckl,hcs];have:=HS.out;omega)
   have hEnd:Aside (Ext (·= b) w (wr.setRow b (Z0c ck.toList (off+i * size e) (j0G z (j-i))).toArray)/\∃ ck':Array Value,(wr.setRow b (Z0c ck.toList (off+i * size e) (j0G z (j-i))).toArray).heap[b]? = some (.cells ck' t fz)/\ck'.size=cur.size/\∀ q (h:q<ka.length),(ck'.toList.drop (off+q * size e)).take (size e)=ka[q].cs):=by
    refine ⟨⟨XW.out.os,XW.out.tape,XW.out.output,by rw [setRow_size];exact XW.out.size,λy hy hm=>by rw [setRow_other _ _ _ _ hm];exact XW.out.block y hy hm⟩,_,setRow_heap wr b ck _ t fz hck,by rw [List.size_toArray,hsl,hckl];exact hcs,λq hq=> ?_⟩
    have m3:=HM.out (q+1) i (by omega)
    rw [Nat.add_mul,Nat.one_mul] at m3
    show ((Z0c ck.toList (off+i * size e) (j0G z (j-i))).drop (off+q * size e)).take (size e)=_
    rw [j3X (by rw [hckl,hcs];have:=HS.out;omega) (by omega),hlow q hq]
   have AH:Aside (ka.length=i/\D j ka/\ka.Sublist us):=⟨hka,hDj,by rwa [List.take_of_length_le (by rw [HN.out];exact Nat.le_refl _)] at hsub⟩
   clear hka hDj hsub hck hcs hlow hhigh I2 hzl hsl
   go_wp2
   refine bodyPost_ret (results_tmp hr _ _ _) rfl ⟨ka,by rw [AH.out.1];rfl,AH.out.2.1,AH.out.2.2,hEnd.out.1,hEnd.out.2⟩
theorem jtq (L:SlT P S E I B (size e) z) (aT:∀ w,(isAgg T).run P w= .ok false w) (zT:∀ w,(sizeOf T).run P w= .ok 1 w) {fx:Nat} {fnx:Func} (hfx:P.funcs[fx]? = some fnx) (hbx:fnx.body=some (j7v S E I B U T)) (hnx:fnx.ntmps=19) (hrx:fnx.results= #[.tmp 4])
  (ex:∀ args w,(callFunc fx args).run P w= .ok (.enter fx args) w)
  {f:Nat} {fn:Func} (hf:P.funcs[f]? = some fn) (hb:fn.body=some (je2 S E I B U T fx)) (hn:fn.ntmps=42) (hr:fn.results= #[.tmp 4]) (g:Nat) (lb:Array Value) (ad:Option Addr) (c:Nat) (w:World) :
  Calls P f #[.slice ad 0 c,.func (.func g) #[] lb] w λx w'=>x= .returned (.slice ad 0 c)/\w'=w:=by
 have mixed:=L.mixed;have tS:=L.tS;have aS:=L.aS;have zS:=L.zS;have vS:=L.vS;have tI:=L.tI;have aI:=L.aI;have zI:=L.zI;have tB:=L.tB;have aB:=L.aB;have zB:=L.zB;have zE:=L.zE
 have hix:=jrM L aT zT hfx hbx hnx hrx g lb ad c w
 refine calls_of_wp hf hb ?_
 simp only [hn,List.size_toArray,List.length_cons,List.length_nil,Nat.reduceAdd,Nat.reduceSub,Array.replicate_succ,Array.replicate_zero,List.push_toArray,List.append_toArray,List.nil_append,List.cons_append]
 unfold je2
 go_wp2_with (refine hix.mono ?_;rintro x w' ⟨rfl,rfl⟩)
 exact bodyPost_ret (results_tmp hr _ _ _) rfl ⟨rfl,rfl⟩
end
end Go.PI
