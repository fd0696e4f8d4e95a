/-
  Program's code interpreted over typed values; printed texts; plain laws. No conditions.
-/
import Derived.Test.YtiaipepkkjlccaaGreatPDb
set_option linter.unusedVariables false
set_option linter.unusedSimpArgs false
namespace Go.PI
open Go
section
variable {P:Program}{w:World}{tys:List (TypeId×Ty×List TypeId)}
theorem jaf (hT:Z0e P tys){E:TypeId}{e:Ty}{fl:List TypeId}(ht:Z0o tys E=some (e,fl)){ops:Array Oper}{rest:List Oper}{o:Oper}{a:Act}{Q:Exit->Act->World->Prop}(hgd:o.guard=none){x:Operand}(ho:o.op= .load E x)
  {b off:Nat} {cs:List Value} (hx:a.eval x= .pointer (some ⟨b,off,none⟩)) (hc:Z05 w b off (size e)=some cs) (h:wpList P ops Q rest (a.put o.dst (Z0J (!fl.isEmpty) cs)) w):wpList P ops Q (o::rest) a w:=
 wpList_plain hgd λK hK=>by
  have hl:=Z1X hT ht hc;unfold Oper.wp;have hr:(execOp a.eval o).run P w= .ok (.value (Z0J (!fl.isEmpty) cs)) w:=by
   rw[Z03 ho];simp only[execOp,hx,Instr.loadAt,Instr.sureAddr,Sem.run_bind,Sem.run_pure,Result.andThen_ok,hl]
  rw[hr];exact hK _ _ h
theorem jfJ (hT:Z0e P tys){E:TypeId}{e:Ty}{fl:List TypeId}(ht:Z0o tys E=some (e,fl)){ops:Array Oper}{rest:List Oper}{o:Oper}{a:Act}{Q:Exit->Act->World->Prop}(hgd:o.guard=none){x y:Operand}(ho:o.op= .store E y x)
  {b off:Nat} {v:Value} {cur:Array Value} {T:TypeId} {fz:Nat×Nat} (hy:a.eval y= .pointer (some ⟨b,off,none⟩)) (hx:a.eval x=v) (hg:w.heap[b]? = some (.cells cur T fz)) (hfz:Z3Z cur fz) {cs:List Value} (hcs:v.cells.toList=cs) (hv:cs.length=size e) (hb:off+size e<=cur.size) (h1:∀c∈cs,one c=true)
  (h:wpList P ops Q rest (a.put o.dst undef) (w.setRow b (Z0c cur.toList off cs).toArray)):wpList P ops Q (o::rest) a w:=
 wpList_plain hgd λK hK=>by
  subst hcs;have hl:=Z48 hT ht (w:=w) hg hfz (by rw[<-X8];exact hv) hb h1
  unfold Oper.wp;have hr:(execOp a.eval o).run P w= .ok .skip (w.setRow b (Z0c cur.toList off v.cells.toList).toArray):=by
   rw[Z03 ho];simp only[execOp,hy,hx,Sem.run_bind,hl,Result.andThen_ok,Sem.run_pure]
  rw[hr];exact hK _ _ h
end
section
variable {P:Program}{S E I B U T:TypeId}{z:Value}{tys:List (TypeId×Ty×List TypeId)}{e:Ty}{fl:List TypeId}
def jlu (P:Program)(g:FuncId)(lb:Array Value)(ag:Bool)(us:List (Elem e))(D:Nat->List (Elem e)->Prop)(W:World):Prop:=
 ∀j (h:j<us.length) acc,D j acc->Calls P g (#[Z0J ag us[j].cs]++lb) W λx w'=>∃bb,x= .returned (.bool bb)/\D (j+1) (bif bb then acc else acc++[us[j]])/\Ext (λ_=>False) W w'
theorem j6c {M:Nat->Prop}{w1 w2 w3:World}(h:Ext M w1 w2)(k:Ext (λ_=>False) w2 w3):Ext M w1 w3:=
 ⟨k.os.trans h.os,k.tape.trans h.tape,k.output.trans h.output,Qx h.size k.size,λy hy hm=>(k.block y (Y1 hy h.size) λh=>h).trans (h.block y hy hm)⟩
set_option maxHeartbeats 2000000 in
theorem jtx (L:SlT P S E I B (size e) z)(hT:Z0e P tys)(ht:Z0o tys E=some (e,fl))(aT:∀w,(isAgg T).run P w= .ok false w)(zT:∀w,(sizeOf T).run P w= .ok 1 w){f:Nat}{fn:Func}(hf:P.funcs[f]? = some fn)(hb:fn.body=some (j8R S E I B U T))(hn:fn.ntmps=19)(hr:fn.results= #[.tmp 4])
  (g:Nat) (lb:Array Value) (eg:∀args w,(callFunc g args).run P w= .ok (.enter g args) w) (b off n c:Nat) (us:List (Elem e)) (D:Nat->List (Elem e)->Prop) (w:World) (hp:∀W,Ext (λ_=>False) w W->jlu P g lb (!fl.isEmpty) us D W) (hD:D 0 []) (hz:us.length=n) (hbig:n<=9223372036854775807) (hbw:b<w.heap.size)
  (hc:∀j (h:j<us.length),Z05 w b (off+j * size e) (size e)=some us[j].cs) :
  Calls P f #[.slice (some ⟨b,off,none⟩) n c,.func (.func g) #[] lb] w λx w'=>Ext (λ_=>False) w w'/\((x= .returned (.int .i64 (-1))/\D n us)\/∃k,k<n/\x= .returned (.int .i64 (k:Nat))/\D (k+1) (us.take k)):=by
 have mixed:=L.mixed;have tS:=L.tS;have aS:=L.aS;have zS:=L.zS;have vS:=L.vS;have tI:=L.tI;have aI:=L.aI;have zI:=L.zI;have tB:=L.tB;have aB:=L.aB;have zB:=L.zB;have zE:=L.zE;refine calls_of_wp hf hb ?_;simp only[hn,QI,Q8,QE,Nat.reduceAdd,Nat.reduceSub,Xy,Xz,XL,XD,Qk,QL];unfold j8R
 go_wp2
 go_loopg [5,8] n (λgg _ s8 wr=>∃kk:Nat,kk<=n/\n-kk<=gg/\s8= .int .i64 kk/\Aside (Ext (λ_=>False) w wr)/\Aside (D kk (us.take kk)))
 case atStart=>exact⟨0,Qg _,by omega,rfl,(Ext.refl _ w:Aside _),(show Aside _ from (by rw[XX];exact hD))⟩
 case round=>
  obtain⟨kk,hkk,hg,rfl,X,A⟩:=hrel;by_cases hlt:kk<n
  ·have hltz:(kk:Int)<(n:Int):=by omega
   have hku:kk<us.length:=by omega
   have hcell:Z05 wr b (off+kk * size e) (size e)=some us[kk].cs:=by
    rw[Z0Z (X.out.block b hbw λh=>h)]
    exact hc kk hku
   have hcall:=hp wr X.out kk hku _ A.out;have HC:Aside (∀j (h:j<us.length),Z05 w b (off+j * size e) (size e)=some us[j].cs):=hc;have HP:Aside (∀W,Ext (λ_=>False) w W->jlu P g lb (!fl.isEmpty) us D W):=hp
   have etk:us.take (kk+1)=us.take kk++[us[kk]]:=QA hku;have HE:Aside (us.take (kk+1)=us.take kk++[us[kk]]):=etk;clear hc hp etk;generalize hy:us[kk]=y at hcell hcall;have HY:Aside (us[kk]=y):=hy;clear hy
   go_wp2_with (first
    |(refine jaf hT ht rfl rfl rfl hcell ?_)
    |(refine hcall.mono ?_;rintro x w' ⟨bb,rfl,hD',hX'⟩;cases bb))
   all_goals first
    |exact bodyPost_ret (results_tmp hr _ _ _) rfl ⟨j6c X.out hX',.inr ⟨kk,hlt,rfl,hD'⟩⟩
    |skip
   go_roundg (n-(kk+1))
   case measure=>omega
   case rel=>
    refine⟨kk+1,by omega,by omega,?_,(show Aside _ from j6c X.out hX'),(show Aside _ from ?_)⟩
    ·go_num
    ·rw[HE.out,HY.out];exact hD'
  ·have hltz:¬ (kk:Int)<(n:Int):=by omega
   have:kk=n:=by omega
   subst this
   go_wp2
   refine bodyPost_ret (results_tmp hr _ _ _) rfl ⟨X.out,.inl ⟨rfl,?_⟩⟩;have:=A.out;rwa[Xd (by omega)]at this
structure KeptG (us:List (Elem e))(D:Nat->List (Elem e)->Prop)(off:Nat)(cur:Array Value)(t:TypeId)(fz:Nat×Nat)(b i j:Nat)(wr:World):Prop where
 out:∃(ka:List (Elem e)) (ck:Array Value),ka.length=i/\D j ka/\ka.Sublist (us.take j)/\wr.heap[b]? = some (.cells ck t fz)/\ck.size=cur.size/\(∀q (h:q<ka.length),(ck.toList.drop (off+q * size e)).take (size e)=ka[q].cs) /\
  ∀q (h:q<us.length),i<=q->(ck.toList.drop (off+q * size e)).take (size e)=us[q].cs
 lt:i<j
theorem jp7 {ag:Bool}{cs:List Value}(h1:∀c∈cs,one c=true)(ha:ag=false->cs.length=1):(Z0J ag cs).cells.toList=cs:=by
 cases ag with
 |true=>simp[Z0J,Value.cells]
 |false=>
  have hl:=ha rfl
  match cs,hl with
  | [c],_=>
   have:=h1 c (by simp)
   simp only[Z0J,List.headD_cons,Xj,XI];have h2:=Z8O this;cases c<;>simp_all[Value.oneCell',Value.cells]
set_option maxHeartbeats 4000000 in
theorem jwT (L:SlT P S E I B (size e) z)(hT:Z0e P tys)(ht:Z0o tys E=some (e,fl))(aE:∀w,(isAgg E).run P w= .ok (!fl.isEmpty) w)(aT:∀w,(isAgg T).run P w= .ok false w)(zT:∀w,(sizeOf T).run P w= .ok 1 w){fx:Nat}{fnx:Func}(hfx:P.funcs[fx]? = some fnx)(hbx:fnx.body=some (j8R S E I B U T))(hnx:fnx.ntmps=19)(hrx:fnx.results= #[.tmp 4])
  (ex:∀args w,(callFunc fx args).run P w= .ok (.enter fx args) w)
  {f:Nat} {fn:Func} (hf:P.funcs[f]? = some fn) (hb:fn.body=some (jjv S E I B U T fx)) (hn:fn.ntmps=42) (hr:fn.results= #[.tmp 4])
  (g:Nat) (lb:Array Value) (eg:∀args w,(callFunc g args).run P w= .ok (.enter g args) w) (b off n c:Nat) (us:List (Elem e)) (D:Nat->List (Elem e)->Prop) (w:World) (hp:∀W,Ext (·= b) w W->jlu P g lb (!fl.isEmpty) us D W) (hD:D 0 []) (hz:us.length=n)
  {cur:Array Value} {t:TypeId} {fz:Nat×Nat} (hg:w.heap[b]? = some (.cells cur t fz)) (hfz:Z3Z cur fz) (hs:off+c * size e<=cur.size) (hlc:n<=c) (hbig:n<=9223372036854775807) (h1:∀u∈us,∀c∈u.cs,one c=true) (hcl:∀u∈us,u.cs.length=size e) (hag:fl.isEmpty=true->size e=1) (hkp:0<size e)
  (hc:∀j (h:j<us.length),(cur.toList.drop (off+j * size e)).take (size e)=us[j].cs) :
  Calls P f #[.slice (some ⟨b,off,none⟩) n c,.func (.func g) #[] lb] w λx w'=>∃ka:List (Elem e),x= .returned (.slice (some ⟨b,off,none⟩) ka.length c)/\D n ka/\ka.Sublist us/\Ext (·= b) w w' /\
   ∃ck:Array Value,w'.heap[b]? = some (.cells ck t fz)/\ck.size=cur.size/\∀q (h:q<ka.length),(ck.toList.drop (off+q * size e)).take (size e)=ka[q].cs:=by
 have mixed:=L.mixed;have tS:=L.tS;have aS:=L.aS;have zS:=L.zS;have vS:=L.vS;have tI:=L.tI;have aI:=L.aI;have zI:=L.zI;have tB:=L.tB;have aB:=L.aB;have zB:=L.zB;have zE:=L.zE;have hbw:b<w.heap.size:=(QV.1 hg).1;have hcurl:cur.toList.length=cur.size:=by simp
 have hmul:∀a c:Nat,a<=c->a * size e<=c * size e:=λa c h=>Qt _ h
 have hext:∀W,Ext (λ_=>False) w W->Ext (·= b) w W:=λW h=>⟨h.os,h.tape,h.output,h.size,λy hy _=>h.block y hy λh=>h⟩
 have hix:=jtx L hT ht aT zT hfx hbx hnx hrx g lb eg b off n c us D w (λW h=>hp W (hext W h)) hD hz hbig hbw (λj hj=>by
  have h2:=hmul (j+1) c (by omega)
  rw[QC,Xg]at h2;rw[<-hc j hj];unfold Z05;rw[hg];simp only[];rw[QM (by omega)])
 have HP:Aside (∀W,Ext (·= b) w W->jlu P g lb (!fl.isEmpty) us D W):=hp;have HC:Aside (∀j (h:j<us.length),(cur.toList.drop (off+j * size e)).take (size e)=us[j].cs):=hc;have HG:Aside (w.heap[b]? = some (.cells cur t fz)):=hg;have HT:Aside (Z3Z cur fz):=hfz;have HS:Aside (off+c * size e<=cur.size):=hs;have H1:Aside (∀u∈us,∀c∈u.cs,one c=true):=h1;have HL:Aside (∀u∈us,u.cs.length=size e):=hcl;have HA:Aside (fl.isEmpty=true->size e=1):=hag;have HN:Aside (us.length=n):=hz;have HM:Aside (∀a c:Nat,a<=c->a * size e<=c * size e):=hmul;have HX:Aside (∀W,Ext (λ_=>False) w W->Ext (·= b) w W):=hext
 have HU:Aside (cur.toList.length=cur.size):=hcurl;have HW:Aside (b<w.heap.size):=hbw;clear hp hc hg hfz hs h1 hcl hag hz hmul hext hcurl hD hbw;refine calls_of_wp hf hb ?_;simp only[hn,QI,Q8,QE,Nat.reduceAdd,Nat.reduceSub,Xy,Xz,XL,XD,Qk,QL];unfold jjv;have hne:∀q:Nat,((q:Int)== -1)=false:=λq=>Ye.2 (by omega)
 go_wp2_with (refine hix.mono ?_;rintro x w' ⟨hX,hq⟩;rcases hq with⟨rfl,hD⟩ | ⟨k0,hk0,rfl,hD⟩;(rotate_left;(have hne1:=hne k0);rotate_left))
 all_goals first
  |exact bodyPost_ret (results_tmp hr _ _ _) rfl ⟨us,by rw[HN.out];rfl,hD,Y6 _,HX.out _ hX,cur,by rw[hX.block b HW.out λh=>h];exact HG.out,rfl,HC.out⟩
  |skip
 have K0:Aside (KeptG us D off cur t fz b k0 (k0+1) w'):=by
  have hl:(us.take k0).length=k0:=by rw[Qf,HN.out];omega
  refine⟨⟨us.take k0,cur,hl,hD,?_,by rw[hX.block b HW.out λh=>h];exact HG.out,rfl,λq hq=> ?_,λq hq _=>HC.out q hq⟩,Nat.lt_succ_self _⟩
  ·rw[QA (by rw[HN.out];exact hk0)]
   exact List.sublist_append_left _ _
  ·rw[HC.out q (by rw[HN.out];omega),Y7]
 have X0:Aside (Ext (·= b) w w'):=HX.out _ hX;clear hX hD
 go_loopg [5,6,7] n (λgg s5 s6 _ wr=>∃i j:Nat,s5= .int .i64 i/\s6= .int .i64 j/\j<=n/\n-j<=gg/\Aside (Ext (·= b) w wr)/\Aside (KeptG us D off cur t fz b i j wr))
 case atStart=>exact⟨k0,k0+1,by go_num,by go_num,by omega,by omega,X0,K0⟩
 case round=>
  obtain⟨i,j,rfl,rfl,hjd,hgg,XW,I2⟩:=hrel;obtain⟨⟨ka,ck,hka,hDj,hsub,hck,hcs,hlow,hhigh⟩,hij⟩:=I2.out;have hthk:Z3Z ck fz:=λx hx=>HT.out x (by rw[<-hcs];exact hx)
  have hic:i<c:=by omega
  have m1:=HM.out (i+1) c (by omega)
  rw[QC,Xg]at m1;have hckl:ck.toList.length=ck.size:=by simp
  have hbr:b<wr.heap.size:=(QV.1 hck).1;by_cases hlt:j<n
  ·have hltz:(j:Int)<(n:Int):=by omega
   have hin:i<n:=by omega
   have hju:j<us.length:=by rw[HN.out];exact hlt
   have m2:=HM.out (j+1) c (by omega)
   rw[QC,Xg]at m2;have hcell:Z05 wr b (off+j * size e) (size e)=some us[j].cs:=by
    rw[<-hhigh j hju (by omega)]
    unfold Z05;rw[hck];simp only[];rw[QM (by have:=HS.out;omega)]
   have hcall:=HP.out wr XW.out j hju ka hDj;have hym:us[j]∈us:=Q7 hju;have hvc:=jp7 (ag:= !fl.isEmpty) (H1.out _ hym) (λh=>by rw[HL.out _ hym];exact HA.out (by simpa using h))
   have hv1:∀c∈us[j].cs,one c=true:=H1.out _ hym;have hfit:off+i * size e+size e<=ck.size:=by have:=HS.out;omega
   have etk:Aside (us.take (j+1)=us.take j++[us[j]]):=QA hju;have hyl:us[j].cs.length=size e:=HL.out _ hym;have AH:Aside (ka.length=i/\ka.Sublist (us.take j)/\ck.size=cur.size/\(∀q (h:q<ka.length),(ck.toList.drop (off+q * size e)).take (size e)=ka[q].cs)/\∀q (h:q<us.length),i<=q->(ck.toList.drop (off+q * size e)).take (size e)=us[q].cs):=⟨hka,hsub,hcs,hlow,hhigh⟩;have hF:Aside (∀w1,Ext (λ_=>False) wr w1->D (j+1) (ka++[us[j]])->Aside (Ext (·= b) w (w1.setRow b (Z0c ck.toList (off+i * size e) us[j].cs).toArray))/\Aside (KeptG us D off cur t fz b (i+1) (j+1) (w1.setRow b (Z0c ck.toList (off+i * size e) us[j].cs).toArray))):=by
    intro w1 hX' hD';have hck1:w1.heap[b]? = some (.cells ck t fz):=by rw[hX'.block b hbr λh=>h];exact hck
    have hsl:(Z0c ck.toList (off+i * size e) us[j].cs).length=ck.toList.length:=Z1T (by rw[hyl,hckl];exact hfit)
    have hE1:=j6c XW.out hX';refine⟨⟨hE1.os,hE1.tape,hE1.output,by rw[setRow_size];exact hE1.size,λy hy hm=>by rw[setRow_other _ _ _ _ hm];exact hE1.block y hy hm⟩,
     ⟨⟨ka++[us[j]],_,by rw[Q5,hka];rfl,hD',by rw[etk.out];exact hsub.append (Y6 _),setRow_heap w1 b ck _ t fz hck1,by rw[QI,hsl,hckl];exact hcs,λq hq=> ?_,λq hq hqi=> ?_⟩,by omega⟩⟩
    ·rw[Q5,hka]at hq;have hq:q<i+1:=hq;show ((Z0c ck.toList (off+i * size e) us[j].cs).drop (off+q * size e)).take (size e)=_
     by_cases hqi:q<i
     ·have m3:=HM.out (q+1) i hqi;rw[QC,Xg]at m3;rw[j4W (by omega) (by omega),hlow q (by rw[hka];exact hqi),Xw (by rw[hka];exact hqi)]
     ·have hqe:q=i:=by omega
      subst hqe;rw[jeK (by omega) (Qq _) (by rw[hyl];exact Qq _),Nat.sub_self,Xf,Xd (by rw[hyl];exact Qq _),Xh (by rw[hka];exact Qq _)]
      simp[hka]
    ·have m3:=HM.out (i+1) q hqi;rw[QC,Xg]at m3;show ((Z0c ck.toList (off+i * size e) us[j].cs).drop (off+q * size e)).take (size e)=_
     rw[jjW (by rw[hyl,hckl];exact hfit) (by rw[hyl];omega)]
     exact hhigh q hq (by omega)
   have hTr:Aside (∀w1,Ext (λ_=>False) wr w1->D (j+1) ka->Aside (Ext (·= b) w w1)/\Aside (KeptG us D off cur t fz b i (j+1) w1)):=by
    intro w1 hX' hD';have hck1:w1.heap[b]? = some (.cells ck t fz):=by rw[hX'.block b hbr λh=>h];exact hck
    exact⟨j6c XW.out hX',⟨⟨ka,ck,hka,hD',hsub.trans (by rw[etk.out];exact List.sublist_append_left _ _),hck1,hcs,hlow,λq hq hqi=>hhigh q hq (by omega)⟩,by omega⟩⟩
   clear hka hDj hsub hcs hlow hhigh hym I2;generalize us[j]=y at hcell hcall hvc hv1 etk hyl hF;clear hju;have AV:Aside ((Z0J (!fl.isEmpty) y.cs).cells.toList=y.cs):=hvc;clear hvc
   go_wp2_with (first
    |(refine jaf hT ht rfl rfl rfl hcell ?_)
    |(refine hcall.mono ?_;rintro x w1 ⟨bb,rfl,hD',hX'⟩;cases bb)
    |(refine jfJ (cur:=ck) (T:=t) (fz:=fz) hT ht rfl rfl rfl rfl (by rw[hX'.block b hbr λh=>h];exact hck) hthk AV.out hyl hfit hv1 ?_))
   ·go_roundg (n-(j+1))
    case measure=>omega
    case rel=>exact⟨i+1,j+1,by go_num,by go_num,by omega,Qq _,(hF.out w1 hX' hD').1,(hF.out w1 hX' hD').2⟩
   ·go_roundg (n-(j+1))
    case measure=>omega
    case rel=>exact⟨i,j+1,rfl,by go_num,by omega,Qq _,(hTr.out w1 hX' hD').1,(hTr.out w1 hX' hD').2⟩
  ·obtain rfl:j=n:=by omega
   have hltz:¬ (j:Int)<(j:Int):=by omega
   have hi3:¬ c=i:=by omega
   have m2:=HM.out j c hlc;have e1:i * size e+(j-i) * size e=j * size e:=by rw[<-QC,show i+(j-i)=j by omega]
   have hcl:∀ty,(Builtin.clear_ #[S] ty #[.slice (some ⟨b,off+i * size e,none⟩) (j-i) (c-i)]).run P wr= .ok (.tuple #[]) (wr.setRow b (Z0c ck.toList (off+i * size e) (j0I z (j-i))).toArray):=λty=>
    jkw L ty (by omega) hck hthk (by rw[hcs];have:=HS.out;omega)
   have hzl:(j0I z (j-i)).length=(j-i) * size e:=by rw[jgl,L.zk]
   have hsl:(Z0c ck.toList (off+i * size e) (j0I z (j-i))).length=ck.toList.length:=Z1T (by rw[hzl,hckl,hcs];have:=HS.out;omega)
   have hEnd:Aside (Ext (·= b) w (wr.setRow b (Z0c ck.toList (off+i * size e) (j0I z (j-i))).toArray)/\∃ck':Array Value,(wr.setRow b (Z0c ck.toList (off+i * size e) (j0I z (j-i))).toArray).heap[b]? = some (.cells ck' t fz)/\ck'.size=cur.size/\∀q (h:q<ka.length),(ck'.toList.drop (off+q * size e)).take (size e)=ka[q].cs):=by
    refine⟨⟨XW.out.os,XW.out.tape,XW.out.output,by rw[setRow_size];exact XW.out.size,λy hy hm=>by rw[setRow_other _ _ _ _ hm];exact XW.out.block y hy hm⟩,_,setRow_heap wr b ck _ t fz hck,by rw[QI,hsl,hckl];exact hcs,λq hq=> ?_⟩
    have m3:=HM.out (q+1) i (by omega)
    rw[QC,Xg]at m3;show ((Z0c ck.toList (off+i * size e) (j0I z (j-i))).drop (off+q * size e)).take (size e)=_
    rw[j4W (by rw[hckl,hcs];have:=HS.out;omega) (by omega),hlow q hq]
   have AH:Aside (ka.length=i/\D j ka/\ka.Sublist us):=⟨hka,hDj,by rwa[Xd (by rw[HN.out];exact Qq _)]at hsub⟩
   clear hka hDj hsub hck hcs hlow hhigh I2 hzl hsl
   go_wp2
   refine bodyPost_ret (results_tmp hr _ _ _) rfl ⟨ka,by rw[AH.out.1];rfl,AH.out.2.1,AH.out.2.2,hEnd.out.1,hEnd.out.2⟩
theorem jwd (L:SlT P S E I B (size e) z)(aT:∀w,(isAgg T).run P w= .ok false w)(zT:∀w,(sizeOf T).run P w= .ok 1 w){f:Nat}{fn:Func}(hf:P.funcs[f]? = some fn)(hb:fn.body=some (j8R S E I B U T))(hn:fn.ntmps=19)(hr:fn.results= #[.tmp 4])
  (g:Nat) (lb:Array Value) (ad:Option Addr) (c:Nat) (w:World):Calls P f #[.slice ad 0 c,.func (.func g) #[] lb] w λx w'=>x= .returned (.int .i64 (-1))/\w'=w:=by
 have mixed:=L.mixed;have tS:=L.tS;have aS:=L.aS;have zS:=L.zS;have vS:=L.vS;have tI:=L.tI;have aI:=L.aI;have zI:=L.zI;have tB:=L.tB;have aB:=L.aB;have zB:=L.zB;have zE:=L.zE;refine calls_of_wp hf hb ?_;simp only[hn,QI,Q8,QE,Nat.reduceAdd,Nat.reduceSub,Xy,Xz,XL,XD,Qk,QL];unfold j8R
 go_wp2
 go_loopg [5,8] 0 (λgg _ s8 wr=>s8= .int .i64 0/\wr=w)
 case atStart=>exact⟨rfl,rfl⟩
 case round=>
  obtain⟨rfl,rfl⟩:=hrel
  go_wp2
  exact bodyPost_ret (results_tmp hr _ _ _) rfl ⟨rfl,rfl⟩
theorem jyd (L:SlT P S E I B (size e) z)(aT:∀w,(isAgg T).run P w= .ok false w)(zT:∀w,(sizeOf T).run P w= .ok 1 w){fx:Nat}{fnx:Func}(hfx:P.funcs[fx]? = some fnx)(hbx:fnx.body=some (j8R S E I B U T))(hnx:fnx.ntmps=19)(hrx:fnx.results= #[.tmp 4])
  (ex:∀args w,(callFunc fx args).run P w= .ok (.enter fx args) w)
  {f:Nat} {fn:Func} (hf:P.funcs[f]? = some fn) (hb:fn.body=some (jjv S E I B U T fx)) (hn:fn.ntmps=42) (hr:fn.results= #[.tmp 4]) (g:Nat) (lb:Array Value) (ad:Option Addr) (c:Nat) (w:World) :
  Calls P f #[.slice ad 0 c,.func (.func g) #[] lb] w λx w'=>x= .returned (.slice ad 0 c)/\w'=w:=by
 have mixed:=L.mixed;have tS:=L.tS;have aS:=L.aS;have zS:=L.zS;have vS:=L.vS;have tI:=L.tI;have aI:=L.aI;have zI:=L.zI;have tB:=L.tB;have aB:=L.aB;have zB:=L.zB;have zE:=L.zE;have hix:=jwd L aT zT hfx hbx hnx hrx g lb ad c w;refine calls_of_wp hf hb ?_;simp only[hn,QI,Q8,QE,Nat.reduceAdd,Nat.reduceSub,Xy,Xz,XL,XD,Qk,QL];unfold jjv
 go_wp2_with (refine hix.mono ?_;rintro x w' ⟨rfl,rfl⟩)
 exact bodyPost_ret (results_tmp hr _ _ _) rfl ⟨rfl,rfl⟩
end
end Go.PI
namespace Go.PI
open Go
def jgn (S E I B U T:TypeId)(fx:FuncId):Code:=
(.seq (.region 0 #[⟨(some 4), .assign (.const (.slice none 0 0)), S, "slices.go:241", #[], none⟩] false)
 (.seq (.region 1 #[⟨(some 8), .move (.tmp 0), S, "slices.go:242", #[], none⟩,
  ⟨(some 9), .move (.tmp 1), T, "slices.go:242", #[], none⟩,
  ⟨(some 10), .call ⟨(.value (.func fx)), #[(.tmp 8), (.tmp 9)], #[S, T]⟩, I, "slices.go:242", #[⟨0, .data⟩, ⟨1, .data⟩], none⟩,
  ⟨(some 5), .assign (.tmp 10), I, "slices.go:242", #[⟨2, .data⟩, ⟨2, .chain⟩, ⟨0, .phase⟩, ⟨1, .phase⟩, ⟨2, .phase⟩], none⟩] false)
 (.seq (.seq (.region 2 #[⟨(some 11), .move (.tmp 5), I, "slices.go:243", #[], none⟩,
  ⟨(some 12), .binOp .eql I (.tmp 11) (.const (.int .i64 (-1))) I, B, "slices.go:243", #[⟨0, .data⟩], none⟩] false)
 (.cond (.tmp 12)
  (.seq (.region 3 #[⟨(some 13), .move (.tmp 0), S, "slices.go:244", #[], none⟩,
   ⟨(some 4), .assign (.tmp 13), S, "slices.go:244", #[⟨0, .data⟩, ⟨0, .phase⟩], none⟩] false)
  .ret)
  .skip))
 (.seq (.seq (.region 4 #[⟨(some 14), .move (.tmp 5), I, "slices.go:247", #[], none⟩,
  ⟨(some 15), .binOp .add I (.tmp 14) (.const (.int .i64 1)) I, I, "slices.go:247", #[⟨0, .data⟩], none⟩,
  ⟨(some 6), .assign (.tmp 15), I, "slices.go:247", #[⟨1, .data⟩, ⟨0, .phase⟩, ⟨1, .phase⟩], none⟩] false)
 (.block 0 (.loop (.seq (.seq (.region 5 #[⟨(some 16), .move (.tmp 6), I, "slices.go:247", #[], none⟩,
  ⟨(some 17), .move (.tmp 0), S, "slices.go:247", #[], none⟩,
  ⟨(some 18), .call ⟨(.builtin .len), #[(.tmp 17)], #[S]⟩, I, "slices.go:247", #[⟨1, .data⟩], none⟩,
  ⟨(some 19), .binOp .lss I (.tmp 16) (.tmp 18) I, B, "slices.go:247", #[⟨0, .data⟩, ⟨2, .data⟩], none⟩] false)
 (.cond (.tmp 19)
  .skip
  (.exit 0)))
 (.seq (.block 1 (.seq (.region 7 #[⟨(some 22), .move (.tmp 0), S, "slices.go:248", #[], none⟩,
  ⟨(some 23), .move (.tmp 6), I, "slices.go:248", #[], none⟩,
  ⟨(some 24), .indexAddr S (.tmp 22) (.tmp 23), U, "slices.go:248", #[⟨0, .data⟩, ⟨1, .data⟩], none⟩,
  ⟨(some 25), .load E (.tmp 24), E, "slices.go:248", #[⟨2, .data⟩], none⟩,
  ⟨(some 7), .alloc E, U, "slices.go:248", #[], none⟩,
  ⟨none, .store E (.tmp 7) (.tmp 25), U, "slices.go:248", #[⟨4, .data⟩, ⟨3, .data⟩, ⟨0, .phase⟩, ⟨1, .phase⟩, ⟨2, .phase⟩, ⟨3, .phase⟩, ⟨4, .phase⟩], none⟩] false)
 (.seq (.region 8 #[⟨(some 26), .move (.tmp 1), T, "slices.go:248", #[], none⟩,
  ⟨(some 27), .load E (.tmp 7), E, "slices.go:248", #[], none⟩,
  ⟨(some 28), .call ⟨(.value (.tmp 26)), #[(.tmp 27)], #[E]⟩, B, "slices.go:248", #[⟨0, .data⟩, ⟨1, .data⟩], none⟩,
  ⟨(some 29), .unOp .not B (.tmp 28), B, "slices.go:248", #[⟨2, .data⟩], none⟩] false)
 (.cond (.tmp 29)
  (.seq (.region 9 #[⟨(some 30), .move (.tmp 0), S, "slices.go:249", #[], none⟩,
   ⟨(some 31), .move (.tmp 5), I, "slices.go:249", #[], none⟩,
   ⟨(some 32), .load E (.tmp 7), E, "slices.go:249", #[], none⟩,
   ⟨(some 33), .indexAddr S (.tmp 30) (.tmp 31), U, "slices.go:249", #[⟨0, .data⟩, ⟨1, .data⟩, ⟨0, .phase⟩, ⟨1, .phase⟩, ⟨2, .phase⟩], none⟩,
   ⟨none, .store E (.tmp 33) (.tmp 32), U, "slices.go:249", #[⟨3, .data⟩, ⟨2, .data⟩, ⟨0, .phase⟩, ⟨1, .phase⟩, ⟨2, .phase⟩], none⟩] false)
  (.region 10 #[⟨(some 34), .move (.tmp 5), I, "slices.go:250", #[], none⟩,
   ⟨(some 35), .binOp .add I (.tmp 34) (.const (.int .i64 1)) I, I, "slices.go:250", #[⟨0, .data⟩], none⟩,
   ⟨(some 5), .assign (.tmp 35), I, "slices.go:250", #[⟨1, .data⟩, ⟨0, .phase⟩, ⟨1, .phase⟩], none⟩] false))
  .skip))))
 (.region 6 #[⟨(some 20), .move (.tmp 6), I, "slices.go:247", #[], none⟩,
  ⟨(some 21), .binOp .add I (.tmp 20) (.const (.int .i64 1)) I, I, "slices.go:247", #[⟨0, .data⟩], none⟩,
  ⟨(some 6), .assign (.tmp 21), I, "slices.go:247", #[⟨1, .data⟩, ⟨0, .phase⟩, ⟨1, .phase⟩], none⟩] false))))))
 (.seq (.region 11 #[⟨(some 36), .move (.tmp 0), S, "slices.go:253", #[], none⟩,
  ⟨(some 37), .move (.tmp 5), I, "slices.go:253", #[], none⟩,
  ⟨(some 38), .slice S (.tmp 36) (some (.tmp 37)) none none, S, "slices.go:253", #[⟨0, .data⟩, ⟨1, .data⟩], none⟩,
  ⟨none, .call ⟨(.builtin .clear), #[(.tmp 38)], #[S]⟩, U, "slices.go:253", #[⟨2, .data⟩], none⟩] false)
 (.seq (.region 12 #[⟨(some 39), .move (.tmp 0), S, "slices.go:254", #[], none⟩,
  ⟨(some 40), .move (.tmp 5), I, "slices.go:254", #[], none⟩,
  ⟨(some 41), .slice S (.tmp 39) none (some (.tmp 40)) none, S, "slices.go:254", #[⟨0, .data⟩, ⟨1, .data⟩], none⟩,
  ⟨(some 4), .assign (.tmp 41), S, "slices.go:254", #[⟨2, .data⟩, ⟨0, .phase⟩, ⟨1, .phase⟩, ⟨2, .phase⟩], none⟩] false)
 .ret))))))
section
variable {P:Program}{S E I B U T:TypeId}{z:Value}{tys:List (TypeId×Ty×List TypeId)}{e:Ty}{fl:List TypeId}
theorem juo (w:World)(C:Array Value)(E:TypeId):Ext (λ_=>False) w (w.alloc (.cells C E))/\w.heap.size<(w.alloc (.cells C E)).heap.size/\(w.alloc (.cells C E)).heap[w.heap.size]? = some (.cells C E (0,0)):=by
 have h1:(w.alloc (.cells C E)).heap=w.heap.push (.cells C E):=rfl;refine⟨⟨rfl,rfl,rfl,?_,λy hy _=> ?_⟩,?_,?_⟩
 ·rw[h1];simp
 ·rw[h1,Array.getElem?_push,QN (by omega)]
 ·rw[h1];simp
 ·rw[h1];simp
theorem jsH {w:World}(vE:∀w,(zeroValue E).run P w= .ok z w){ops:Array Oper}{rest:List Oper}{o:Oper}{a:Act}{Q:Exit->Act->World->Prop}(hgd:o.guard=none)(ho:o.op= .alloc E)
  (h:wpList P ops Q rest (a.put o.dst (.pointer (some ⟨w.heap.size,0,none⟩))) (w.alloc (.cells z.cells E))):wpList P ops Q (o::rest) a w:=
 wpList_plain hgd λK hK=>by
  unfold Oper.wp;have hr:(execOp a.eval o).run P w= .ok (.value (.pointer (some ⟨w.heap.size,0,none⟩))) (w.alloc (.cells z.cells E)):=by
   rw[Z03 ho];simp[execOp,Instr.alloc,vE w,newVar,newRow]
  rw[hr];exact hK _ _ h
set_option maxHeartbeats 4000000 in
theorem jwS (L:SlT P S E I B (size e) z)(hT:Z0e P tys)(ht:Z0o tys E=some (e,fl))(aE:∀w,(isAgg E).run P w= .ok (!fl.isEmpty) w)(aT:∀w,(isAgg T).run P w= .ok false w)(zT:∀w,(sizeOf T).run P w= .ok 1 w){fx:Nat}{fnx:Func}(hfx:P.funcs[fx]? = some fnx)(hbx:fnx.body=some (j8R S E I B U T))(hnx:fnx.ntmps=19)(hrx:fnx.results= #[.tmp 4])
  (ex:∀args w,(callFunc fx args).run P w= .ok (.enter fx args) w)
  {f:Nat} {fn:Func} (hf:P.funcs[f]? = some fn) (hb:fn.body=some (jgn S E I B U T fx)) (hn:fn.ntmps=42) (hr:fn.results= #[.tmp 4])
  (g:Nat) (lb:Array Value) (eg:∀args w,(callFunc g args).run P w= .ok (.enter g args) w) (b off n c:Nat) (us:List (Elem e)) (D:Nat->List (Elem e)->Prop) (w:World) (hp:∀W,Ext (·= b) w W->jlu P g lb (!fl.isEmpty) us D W) (hD:D 0 []) (hz:us.length=n)
  {cur:Array Value} {t:TypeId} {fz:Nat×Nat} (hg:w.heap[b]? = some (.cells cur t fz)) (hfz:Z3Z cur fz) (hs:off+c * size e<=cur.size) (hlc:n<=c) (hbig:n<=9223372036854775807) (h1:∀u∈us,∀c∈u.cs,one c=true) (hcl:∀u∈us,u.cs.length=size e) (hag:fl.isEmpty=true->size e=1) (hkp:0<size e)
  (hc:∀j (h:j<us.length),(cur.toList.drop (off+j * size e)).take (size e)=us[j].cs) :
  Calls P f #[.slice (some ⟨b,off,none⟩) n c,.func (.func g) #[] lb] w λx w'=>∃ka:List (Elem e),x= .returned (.slice (some ⟨b,off,none⟩) ka.length c)/\D n ka/\ka.Sublist us/\Ext (·= b) w w' /\
   ∃ck:Array Value,w'.heap[b]? = some (.cells ck t fz)/\ck.size=cur.size/\∀q (h:q<ka.length),(ck.toList.drop (off+q * size e)).take (size e)=ka[q].cs:=by
 have mixed:=L.mixed;have tS:=L.tS;have aS:=L.aS;have zS:=L.zS;have vS:=L.vS;have tI:=L.tI;have aI:=L.aI;have zI:=L.zI;have tB:=L.tB;have aB:=L.aB;have zB:=L.zB;have zE:=L.zE;have hbw:b<w.heap.size:=(QV.1 hg).1;have hcurl:cur.toList.length=cur.size:=by simp
 have hmul:∀a c:Nat,a<=c->a * size e<=c * size e:=λa c h=>Qt _ h
 have hext:∀W,Ext (λ_=>False) w W->Ext (·= b) w W:=λW h=>⟨h.os,h.tape,h.output,h.size,λy hy _=>h.block y hy λh=>h⟩
 have hix:=jtx L hT ht aT zT hfx hbx hnx hrx g lb eg b off n c us D w (λW h=>hp W (hext W h)) hD hz hbig hbw (λj hj=>by
  have h2:=hmul (j+1) c (by omega)
  rw[QC,Xg]at h2;rw[<-hc j hj];unfold Z05;rw[hg];simp only[];rw[QM (by omega)])
 have HP:Aside (∀W,Ext (·= b) w W->jlu P g lb (!fl.isEmpty) us D W):=hp;have HC:Aside (∀j (h:j<us.length),(cur.toList.drop (off+j * size e)).take (size e)=us[j].cs):=hc;have HG:Aside (w.heap[b]? = some (.cells cur t fz)):=hg;have HT:Aside (Z3Z cur fz):=hfz;have HS:Aside (off+c * size e<=cur.size):=hs;have H1:Aside (∀u∈us,∀c∈u.cs,one c=true):=h1;have HL:Aside (∀u∈us,u.cs.length=size e):=hcl;have HA:Aside (fl.isEmpty=true->size e=1):=hag;have HN:Aside (us.length=n):=hz;have HM:Aside (∀a c:Nat,a<=c->a * size e<=c * size e):=hmul;have HX:Aside (∀W,Ext (λ_=>False) w W->Ext (·= b) w W):=hext
 have HU:Aside (cur.toList.length=cur.size):=hcurl;have HW:Aside (b<w.heap.size):=hbw;clear hp hc hg hfz hs h1 hcl hag hz hmul hext hcurl hD hbw;refine calls_of_wp hf hb ?_;simp only[hn,QI,Q8,QE,Nat.reduceAdd,Nat.reduceSub,Xy,Xz,XL,XD,Qk,QL];unfold jgn;have hne:∀q:Nat,((q:Int)== -1)=false:=λq=>Ye.2 (by omega)
 go_wp2_with (refine hix.mono ?_;rintro x w' ⟨hX,hq⟩;rcases hq with⟨rfl,hD⟩ | ⟨k0,hk0,rfl,hD⟩;(rotate_left;(have hne1:=hne k0);rotate_left))
 all_goals first
  |exact bodyPost_ret (results_tmp hr _ _ _) rfl ⟨us,by rw[HN.out];rfl,hD,Y6 _,HX.out _ hX,cur,by rw[hX.block b HW.out λh=>h];exact HG.out,rfl,HC.out⟩
  |skip
 have K0:Aside (KeptG us D off cur t fz b k0 (k0+1) w'):=by
  have hl:(us.take k0).length=k0:=by rw[Qf,HN.out];omega
  refine⟨⟨us.take k0,cur,hl,hD,?_,by rw[hX.block b HW.out λh=>h];exact HG.out,rfl,λq hq=> ?_,λq hq _=>HC.out q hq⟩,Nat.lt_succ_self _⟩
  ·rw[QA (by rw[HN.out];exact hk0)]
   exact List.sublist_append_left _ _
  ·rw[HC.out q (by rw[HN.out];omega),Y7]
 have X0:Aside (Ext (·= b) w w'):=HX.out _ hX;clear hX hD
 go_loopg [5,6,7] n (λgg s5 s6 _ wr=>∃i j:Nat,s5= .int .i64 i/\s6= .int .i64 j/\j<=n/\n-j<=gg/\Aside (Ext (·= b) w wr)/\Aside (KeptG us D off cur t fz b i j wr))
 case atStart=>exact⟨k0,k0+1,by go_num,by go_num,by omega,by omega,X0,K0⟩
 case round=>
  obtain⟨i,j,rfl,rfl,hjd,hgg,XW,I2⟩:=hrel;obtain⟨⟨ka,ck,hka,hDj,hsub,hck,hcs,hlow,hhigh⟩,hij⟩:=I2.out;have hthk:Z3Z ck fz:=λx hx=>HT.out x (by rw[<-hcs];exact hx)
  have hic:i<c:=by omega
  have m1:=HM.out (i+1) c (by omega)
  rw[QC,Xg]at m1;have hckl:ck.toList.length=ck.size:=by simp
  have hbr:b<wr.heap.size:=(QV.1 hck).1;by_cases hlt:j<n
  ·have hltz:(j:Int)<(n:Int):=by omega
   have hin:i<n:=by omega
   have hju:j<us.length:=by rw[HN.out];exact hlt
   have m2:=HM.out (j+1) c (by omega)
   rw[QC,Xg]at m2;have hcell:Z05 wr b (off+j * size e) (size e)=some us[j].cs:=by
    rw[<-hhigh j hju (by omega)]
    unfold Z05;rw[hck];simp only[];rw[QM (by have:=HS.out;omega)]
   have hzs:z.cells.toList.length=size e:=by rw[X8];exact L.zk
   have hA1:=juo wr z.cells E;obtain⟨W2,hW2⟩:∃W2,W2=(wr.alloc (.cells z.cells E)).setRow wr.heap.size (Z0c z.cells.toList 0 us[j].cs).toArray:=⟨_,rfl⟩;have hE2:Ext (λ_=>False) wr W2:=by
    rw[hW2];exact⟨hA1.1.os,hA1.1.tape,hA1.1.output,by rw[setRow_size];exact hA1.1.size,λy hy _=>by rw[setRow_other _ _ _ _ (by omega)];exact hA1.1.block y hy λh=>h⟩
   have hyl0:us[j].cs.length=size e:=HL.out _ (Q7 hju);have hcV:Z05 W2 wr.heap.size 0 (size e)=some us[j].cs:=by
    have h1:W2.heap[wr.heap.size]? = some (.cells (Z0c z.cells.toList 0 us[j].cs).toArray E (0,0)):=by rw[hW2];exact setRow_heap _ _ _ _ _ _ hA1.2.2
    have h2:Z0c z.cells.toList 0 us[j].cs=us[j].cs:=by unfold Z0c;rw[XX,Qk,Xu,List.drop_of_length_le (by rw[hzs,hyl0];exact Qq _),Qe]
    rw[h2]at h1;unfold Z05;rw[h1];simp only[QI];rw[QM (by omega),Xf,Xd (by omega)]
   have hvw2:wr.heap.size<W2.heap.size:=by rw[hW2,setRow_size];exact hA1.2.1
   have hcall:=HP.out W2 (j6c XW.out hE2) j hju ka hDj;have hym:us[j]∈us:=Q7 hju;have hvc:=jp7 (ag:= !fl.isEmpty) (H1.out _ hym) (λh=>by rw[HL.out _ hym];exact HA.out (by simpa using h))
   have hv1:∀c∈us[j].cs,one c=true:=H1.out _ hym;have hfit:off+i * size e+size e<=ck.size:=by have:=HS.out;omega
   have etk:Aside (us.take (j+1)=us.take j++[us[j]]):=QA hju;have hyl:us[j].cs.length=size e:=hyl0;have AH:Aside (ka.length=i/\ka.Sublist (us.take j)/\ck.size=cur.size/\(∀q (h:q<ka.length),(ck.toList.drop (off+q * size e)).take (size e)=ka[q].cs)/\∀q (h:q<us.length),i<=q->(ck.toList.drop (off+q * size e)).take (size e)=us[q].cs):=⟨hka,hsub,hcs,hlow,hhigh⟩;have hF:Aside (∀w1,Ext (λ_=>False) W2 w1->D (j+1) (ka++[us[j]])->Aside (Ext (·= b) w (w1.setRow b (Z0c ck.toList (off+i * size e) us[j].cs).toArray))/\Aside (KeptG us D off cur t fz b (i+1) (j+1) (w1.setRow b (Z0c ck.toList (off+i * size e) us[j].cs).toArray))):=by
    intro w1 hX2 hD';have hX':=j6c hE2 hX2;have hck1:w1.heap[b]? = some (.cells ck t fz):=by rw[hX'.block b hbr λh=>h];exact hck
    have hsl:(Z0c ck.toList (off+i * size e) us[j].cs).length=ck.toList.length:=Z1T (by rw[hyl,hckl];exact hfit)
    have hE1:=j6c XW.out hX';refine⟨⟨hE1.os,hE1.tape,hE1.output,by rw[setRow_size];exact hE1.size,λy hy hm=>by rw[setRow_other _ _ _ _ hm];exact hE1.block y hy hm⟩,
     ⟨⟨ka++[us[j]],_,by rw[Q5,hka];rfl,hD',by rw[etk.out];exact hsub.append (Y6 _),setRow_heap w1 b ck _ t fz hck1,by rw[QI,hsl,hckl];exact hcs,λq hq=> ?_,λq hq hqi=> ?_⟩,by omega⟩⟩
    ·rw[Q5,hka]at hq;have hq:q<i+1:=hq;show ((Z0c ck.toList (off+i * size e) us[j].cs).drop (off+q * size e)).take (size e)=_
     by_cases hqi:q<i
     ·have m3:=HM.out (q+1) i hqi;rw[QC,Xg]at m3;rw[j4W (by omega) (by omega),hlow q (by rw[hka];exact hqi),Xw (by rw[hka];exact hqi)]
     ·have hqe:q=i:=by omega
      subst hqe;rw[jeK (by omega) (Qq _) (by rw[hyl];exact Qq _),Nat.sub_self,Xf,Xd (by rw[hyl];exact Qq _),Xh (by rw[hka];exact Qq _)]
      simp[hka]
    ·have m3:=HM.out (i+1) q hqi;rw[QC,Xg]at m3;show ((Z0c ck.toList (off+i * size e) us[j].cs).drop (off+q * size e)).take (size e)=_
     rw[jjW (by rw[hyl,hckl];exact hfit) (by rw[hyl];omega)]
     exact hhigh q hq (by omega)
   have hTr:Aside (∀w1,Ext (λ_=>False) W2 w1->D (j+1) ka->Aside (Ext (·= b) w w1)/\Aside (KeptG us D off cur t fz b i (j+1) w1)):=by
    intro w1 hX2 hD';have hX':=j6c hE2 hX2;have hck1:w1.heap[b]? = some (.cells ck t fz):=by rw[hX'.block b hbr λh=>h];exact hck
    exact⟨j6c XW.out hX',⟨⟨ka,ck,hka,hD',hsub.trans (by rw[etk.out];exact List.sublist_append_left _ _),hck1,hcs,hlow,λq hq hqi=>hhigh q hq (by omega)⟩,by omega⟩⟩
   clear hka hDj hsub hcs hlow hhigh hym I2;clear hyl0;generalize us[j]=y at hcell hcall hvc hv1 etk hyl hF hcV hW2;clear hju;have AV:Aside ((Z0J (!fl.isEmpty) y.cs).cells.toList=y.cs):=hvc;clear hvc;subst hW2
   go_wp2_with (first
    |(refine jaf hT ht rfl rfl rfl hcell ?_)
    |(refine jsH L.vE rfl rfl ?_)
    |(refine jfJ (cur:=z.cells) (T:=E) (fz:=(0,0)) hT ht rfl rfl rfl rfl hA1.2.2 (jxP _) AV.out hyl (by rw[L.zk];omega) hv1 ?_)
    |(refine jaf hT ht rfl rfl rfl hcV ?_)
    |(refine jaf hT ht rfl rfl rfl ((Z0Z (hX'.block _ hvw2 λh=>h) _ _).trans hcV) ?_)
    |(refine hcall.mono ?_;rintro x w1 ⟨bb,rfl,hD',hX'⟩;cases bb)
    |(refine jfJ (cur:=ck) (T:=t) (fz:=fz) hT ht rfl rfl rfl rfl (by rw[hX'.block b (Y1 hbr hE2.size) λh=>h,hE2.block b hbr λh=>h];exact hck) hthk AV.out hyl hfit hv1 ?_))
   ·go_roundg (n-(j+1))
    case measure=>omega
    case rel=>exact⟨i+1,j+1,by go_num,by go_num,by omega,Qq _,(hF.out w1 hX' hD').1,(hF.out w1 hX' hD').2⟩
   ·go_roundg (n-(j+1))
    case measure=>omega
    case rel=>exact⟨i,j+1,rfl,by go_num,by omega,Qq _,(hTr.out w1 hX' hD').1,(hTr.out w1 hX' hD').2⟩
  ·obtain rfl:j=n:=by omega
   have hltz:¬ (j:Int)<(j:Int):=by omega
   have hi3:¬ c=i:=by omega
   have m2:=HM.out j c hlc;have e1:i * size e+(j-i) * size e=j * size e:=by rw[<-QC,show i+(j-i)=j by omega]
   have hcl:∀ty,(Builtin.clear_ #[S] ty #[.slice (some ⟨b,off+i * size e,none⟩) (j-i) (c-i)]).run P wr= .ok (.tuple #[]) (wr.setRow b (Z0c ck.toList (off+i * size e) (j0I z (j-i))).toArray):=λty=>
    jkw L ty (by omega) hck hthk (by rw[hcs];have:=HS.out;omega)
   have hzl:(j0I z (j-i)).length=(j-i) * size e:=by rw[jgl,L.zk]
   have hsl:(Z0c ck.toList (off+i * size e) (j0I z (j-i))).length=ck.toList.length:=Z1T (by rw[hzl,hckl,hcs];have:=HS.out;omega)
   have hEnd:Aside (Ext (·= b) w (wr.setRow b (Z0c ck.toList (off+i * size e) (j0I z (j-i))).toArray)/\∃ck':Array Value,(wr.setRow b (Z0c ck.toList (off+i * size e) (j0I z (j-i))).toArray).heap[b]? = some (.cells ck' t fz)/\ck'.size=cur.size/\∀q (h:q<ka.length),(ck'.toList.drop (off+q * size e)).take (size e)=ka[q].cs):=by
    refine⟨⟨XW.out.os,XW.out.tape,XW.out.output,by rw[setRow_size];exact XW.out.size,λy hy hm=>by rw[setRow_other _ _ _ _ hm];exact XW.out.block y hy hm⟩,_,setRow_heap wr b ck _ t fz hck,by rw[QI,hsl,hckl];exact hcs,λq hq=> ?_⟩
    have m3:=HM.out (q+1) i (by omega)
    rw[QC,Xg]at m3;show ((Z0c ck.toList (off+i * size e) (j0I z (j-i))).drop (off+q * size e)).take (size e)=_
    rw[j4W (by rw[hckl,hcs];have:=HS.out;omega) (by omega),hlow q hq]
   have AH:Aside (ka.length=i/\D j ka/\ka.Sublist us):=⟨hka,hDj,by rwa[Xd (by rw[HN.out];exact Qq _)]at hsub⟩
   clear hka hDj hsub hck hcs hlow hhigh I2 hzl hsl
   go_wp2
   refine bodyPost_ret (results_tmp hr _ _ _) rfl ⟨ka,by rw[AH.out.1];rfl,AH.out.2.1,AH.out.2.2,hEnd.out.1,hEnd.out.2⟩
theorem jy0 (L:SlT P S E I B (size e) z)(aT:∀w,(isAgg T).run P w= .ok false w)(zT:∀w,(sizeOf T).run P w= .ok 1 w){fx:Nat}{fnx:Func}(hfx:P.funcs[fx]? = some fnx)(hbx:fnx.body=some (j8R S E I B U T))(hnx:fnx.ntmps=19)(hrx:fnx.results= #[.tmp 4])
  (ex:∀args w,(callFunc fx args).run P w= .ok (.enter fx args) w)
  {f:Nat} {fn:Func} (hf:P.funcs[f]? = some fn) (hb:fn.body=some (jgn S E I B U T fx)) (hn:fn.ntmps=42) (hr:fn.results= #[.tmp 4]) (g:Nat) (lb:Array Value) (ad:Option Addr) (c:Nat) (w:World) :
  Calls P f #[.slice ad 0 c,.func (.func g) #[] lb] w λx w'=>x= .returned (.slice ad 0 c)/\w'=w:=by
 have mixed:=L.mixed;have tS:=L.tS;have aS:=L.aS;have zS:=L.zS;have vS:=L.vS;have tI:=L.tI;have aI:=L.aI;have zI:=L.zI;have tB:=L.tB;have aB:=L.aB;have zB:=L.zB;have zE:=L.zE;have hix:=jwd L aT zT hfx hbx hnx hrx g lb ad c w;refine calls_of_wp hf hb ?_;simp only[hn,QI,Q8,QE,Nat.reduceAdd,Nat.reduceSub,Xy,Xz,XL,XD,Qk,QL];unfold jgn
 go_wp2_with (refine hix.mono ?_;rintro x w' ⟨rfl,rfl⟩)
 exact bodyPost_ret (results_tmp hr _ _ _) rfl ⟨rfl,rfl⟩
end
end Go.PI
namespace Go.PI
open Go
theorem jtD {e:Ty}{w w':World}{F:Nat->Nat}{St:Nat->Prop}{Al:Nat->Prop}{ms ef:List Nat}{b o cap bl:Nat}{us:List (Elem e)}{τ:Ty}{a:Bool}{x:El τ}{tg:List Tag}{bc:Array Value}{bT:TypeId}(hSt:∀y,St y->y<w.heap.size/\y ∉ ms)(hE:Ext (·= b) w w')
  (hb:b∈ms/\b<w.heap.size) (hnd:((b::(us.map (·.fp)).flatten)++(ef++[bl])).Nodup) (hms:∀y∈(us.map (·.fp)).flatten++(ef++[bl]),y∈ms/\y<w.heap.size)
  (hR:∀u∈us,Rp w F St Al e (List.replicate (Z06 e) .O) u.cs u.x u.fp) (hc:∀k (h:k<us.length),Z05 w' b (o+k * size e) (size e)=some us[k].cs) (hcap:us.length<=cap) (hrow:Z3h e w' b (o+cap * size e))
  (hbl:w.heap[bl]? = some (.cells bc bT (0,0))) (hbR:Rp w F St (·∈ ef) τ tg bc.toList x ef) (htg:∀t∈tg,t.isN=false) :
  RetOk w F St ms [bl] [⟨.slice e,false,us.map (·.x),[.O]⟩] [] [] [⟨τ,a,x,tg⟩] (.slice (some ⟨b,o,none⟩) us.length cap) w':=by
 have hn1:=Qj.1 hnd;have hbf:b ∉ (us.map (·.fp)).flatten:=(Xx.1 hn1.1).1;have hin:∀u∈us,∀y∈u.fp,y∈(us.map (·.fp)).flatten:=λu hu y hy=>X3.2 ⟨u.fp,Yw hu,hy⟩
 have hne:∀y∈ef++[bl],y≠b:=λy hy h=>hn1.2.2 b (by simp) y hy h.symm
 have hSb:∀y,St y->y≠b:=λy hy h=>(hSt y hy).2 (h ▸ hb.1)
 refine⟨λy=>if y=b then o+us.length * size e else F y,St,[.slice (some ⟨b,o,none⟩) us.length cap],[b::(us.map (·.fp)).flatten],[ef],⟨rfl,rfl,rfl⟩,⟨⟨rfl,rfl,?_⟩,trivial⟩,⟨⟨bc,bT,?_,?_⟩,trivial⟩,⟨hE.os,hE.tape,hE.output,hE.size,λy hy hm=>hE.block y hy λh=>hm (h ▸ hb.1)⟩,λy hy hym=> ?_,λy hy=>hy,λy hy=>⟨.inl hy,Y1 (hSt y hy).1 hE.size⟩,?_,λy hy=> ?_⟩
 ·refine Z9o (w:=w') (t:= .O) rfl (b:=b) (o:=o) (cap:=cap) (us:=us) (fps:=us.map (·.fp)) (Al:=(·∈ b::(us.map (·.fp)).flatten)) (by simp) (by simp) hcap hrow (F:=λy=>if y=b then o+us.length * size e else F y) (QM rfl) hc λk hk=> ?_
  have hu:us[k]∈us:=Q7 hk;have hfp:(us.map (·.fp)).getD k []=us[k].fp:=by rw[Qc,XO,Qn hk];rfl
  rw[hfp];refine Rp.presO (hR _ hu) (λt ht=>(XC.1 ht).2) λy hy=> ?_
  have hyb:y≠b:=λh=>hbf (h ▸ hin _ hu y hy)
  have hF:(if y=b then o+us.length * size e else F y)=F y:=QN hyb
  exact⟨Z07.of_block (hE.block y (hms y (Qh _ (hin _ hu y hy))).2 hyb) (by rw[hF];exact Qq _),hF,λ_=>Qa _ (hin _ hu y hy)⟩
 ·rw[hE.block bl (hms bl (by simp)).2 (hne bl (by simp))]
  exact hbl
 ·refine Rp.pres (F':=λy=>if y=b then o+us.length * size e else F y) (St':=St) (Al':=(·∈ ef)) (λ_ h=>h) (λ_ _ h=>h) (λy hy=> ?_) hbR (λy hy=> ?_) (.inl htg)
  ·have hyb:=hSb y hy;exact Z07.of_block (hE.block y (hSt y hy).1 hyb) (by rw[QN hyb];exact Qq _)
  ·have hyb:=hne y (Qh _ hy);exact⟨Z07.of_block (hE.block y (hms y (Qo _ (Qh _ hy))).2 hyb) (by rw[QN hyb];exact Qq _),QN hyb⟩
 ·exact QN λh2=>hym (by rw[h2];exact hb.1)
 ·simpa using hnd
 ·have hy:y=b\/y∈(us.map (·.fp)).flatten++(ef++[bl]):=by simpa using hy
  rcases hy with rfl | hy
  ·exact⟨.inr hb.1,Y1 hb.2 hE.size,λh=>hSb y h rfl⟩
  ·exact⟨.inr (hms y hy).1,Y1 (hms y hy).2 hE.size,λh=>(hSt y h).2 (hms y hy).1⟩
noncomputable def jp1 (kk:Bool->Res):List TVal->List TVal->List TVal->Res:=λrs _ _=>match rs with
 | [v]=>bif v.ag then none else Z85 v .bool kk
 |_=>none
theorem jp2 {kk:Bool->Res}{a b c:List TVal}{r:Unit}(h:jp1 kk a b c=some r):∃bb tg,a=[⟨.bool,false,bb,tg⟩]/\kk bb=some r:=by
 unfold jp1 at h
 match a,h with
 | [⟨τ,ag,x,tg⟩],h=>
  cases ag with
  |true=>cases h
  |false=>
   have h:Z85 (⟨τ,false,x,tg⟩:TVal) .bool kk=some r:=h;obtain⟨a',x',t',h1,h2⟩:=Z8B h;cases h1;exact⟨_,_,rfl,h2⟩
 | [],h=>cases h
 |_::_::_,h=>cases h
noncomputable def jsI (e:Ty)(g:FuncId)(ag:Bool)(τ:Ty)(tg:List Tag)(gs:Sig Unit):Sig Unit:=⟨[.eat (.slice e) false,.clos g [τ]],[false],λvals ext k=>ao vals (.slice e) [.O] λl vals=>nl vals<|ab ext τ tg λa x ext=>nl ext <|
 bif lim (List.length (α:=El e) l) then
  dgE (λ(y:El e) kk=>gs.run [⟨e,ag,y,[]⟩,⟨τ,false,x,[]⟩] [] (jp1 kk)) l [] (λ(r:List (El e))=>k [⟨.slice e,false,r,[.O]⟩] [] [⟨τ,a,x,tg⟩]) else none⟩
theorem jwU {P:Program}{S E I B U T:TypeId}{e:Ty}{z:Value}{tys:List (TypeId×Ty×List TypeId)}{fl:List TypeId}{ag:Bool}{τ:Ty}{tg:List Tag}(L:SlT P S E I B (size e) z)(hT:Z0e P tys)(ht:Z0o tys E=some (e,fl))(hag:ag= !fl.isEmpty)(aE:∀w,(isAgg E).run P w= .ok ag w)(aT:∀w,(isAgg T).run P w= .ok false w)(zT:∀w,(sizeOf T).run P w= .ok 1 w)
  (hk1:Nat.ble 1 (size e)=true) (hk2:(ag||Nat.beq (size e) 1)=true) (htg:tg.all (λt=> !t.isN)=true)
  {fx : FuncId} {fnx : Func} (hfx : P.funcs[fx]? = some fnx) (hbx : fnx.body = some (j8R S E I B U T)) (hnx : fnx.ntmps = 19) (hrx : fnx.results = #[.tmp 4]) (hnamex : (fnx.name == "runtime.NumGoroutine") = false)
  {g:FuncId} {gs:Sig Unit} (hg:Z16 P g gs) (hgm:gs.modes=[.look e ag,.rptr τ])
  {f : FuncId} {fn : Func} (hf : P.funcs[f]? = some fn) (hb : fn.body = some (jjv S E I B U T fx)) (hn : fn.ntmps = 42) (hr : fn.results = #[.tmp 4]) (hname : (fn.name == "runtime.NumGoroutine") = false) : Z16 P f (jsI e g ag τ tg gs) := by
 refine⟨⟨fn,_,hf,hname,hb⟩,λvals ext k r h w F St args ads fps efps hA hB hnd hSt hlt=> ?_⟩
 obtain⟨a0,l,vals,rfl,h3⟩:=Zan h;obtain⟨rfl,h4⟩:=Zav h3;obtain⟨a1,t,ext,rfl,h5⟩:=Zam h4;obtain⟨rfl,h6⟩:=Zav h5;clear h h3 h4 h5;have h:=h6;clear h6;rw[cond_eq_ite]at h;split at h;rotate_left
 ·cases h
 rename_i hlim;change List (El e)at l;have hlim:l.length<=LIM:=QT hlim;obtain⟨ad,cap,f0,ar,fs,rfl,rfl,hlc,hr0,hA1⟩:=jgP (e:=e) (l:=l) hA;obtain⟨bl,rfl,rfl,rfl⟩:=jp0 hA1;cases efps with
 |nil=>exact hB.elim
 |cons ef efs=>
 obtain⟨⟨bc,bT,hbl,hbr⟩,hB2⟩:=hB;cases efs with
 |cons a b=>exact hB2.elim
 |nil=>
 have htgN:[(⟨τ,a1,t,tg⟩:TVal)].all TVal.noN=true:=by
  have htg:∀t∈tg,t.isN=false:=λt ht=>by have:=QD.1 htg t ht;simpa using this
  simp only[XS,List.all_nil,Xm,TVal.noN];exact QD.2 λt ht=>by simp[htg t ht]
 by_cases hpos:0<l.length;rotate_left
 ·have hl0:l=[]:=Qv.1 (by omega)
  subst hl0;simp only[QO,XT,Qe]at hnd hSt hlt ⊢;refine(jyd L aT zT hfx hbx hnx hrx (Z6i hfx hnamex hbx) hf hb hn hr g #[.pointer (some ⟨bl,0,none⟩)] ad cap w).mono ?_;rintro e' w' ⟨rfl,rfl⟩;refine⟨_,_,_,_,rfl,h,⟨by simp[Z2U],rfl,rfl⟩,htgN,⟨F,St,[_],[f0],[ef],⟨rfl,rfl,rfl⟩,⟨⟨rfl,rfl,hr0⟩,trivial⟩,⟨⟨bc,bT,hbl,hbr⟩,trivial⟩,Ext.refl _ _,λ_ _ _=>rfl,λ_ h=>h,λy hy=>⟨.inl hy,(hSt y hy).1⟩,by simpa using hnd,λy hy=> ?_⟩⟩
  have hy:y∈f0++(ef++[bl]):=by simpa using hy
  exact⟨.inr hy,hlt y hy,λhh=>(hSt y hh).2 hy⟩
 obtain⟨b,o,us,cur,tt,fz,rfl,hux,hul,rfl,huR,hgc,hsz,hth,hmk,hcells⟩:=jkv hr0 (.inl hpos);simp only[QO,XT,Qe]at hnd hSt hlt ⊢;have htg:∀t∈tg,t.isN=false:=λt ht=>by have:=QD.1 htg t ht;simpa using this
 have hn1:=Qj.1 hnd;have hk1:0<size e:=QP hk1;have hbw:b<w.heap.size:=(QV.1 hgc).1;have hne:∀y∈ef++[bl],y≠b:=λy hy hh=>hn1.2.2 b (by simp) y hy hh.symm
 have hSb:∀y,St y->y≠b:=λy hy hh=>(hSt y hy).2 (by rw[hh];simp)
 have hin:∀u∈us,∀y∈u.fp,y∈(us.map (·.fp)).flatten:=λu hu y hy=>X3.2 ⟨u.fp,Yw hu,hy⟩
 have hub:∀u∈us,∀y∈u.fp,y≠b:=λu hu y hy hh=>(Xx.1 hn1.1).1 (hh ▸ hin u hu y hy)
 have hun:∀u∈us,∀y∈u.fp,y<w.heap.size:=λu hu y hy=>hlt y (by simp only[QL,Qp,Qr];exact .inr (.inl (hin u hu y hy)))
 have hefn:∀y∈ef++[bl],y<w.heap.size:=λy hy=>hlt y (Qo _ hy)
 obtain⟨K,hK⟩:∃K:List (El e)->Res,K=λrr=>k [⟨.slice e,false,rr,[.O]⟩] [] [⟨τ,a1,t,tg⟩]:=⟨_,rfl⟩
 obtain⟨gg,hgg⟩:∃gg:El e->(Bool->Res)->Res,gg=λy kk=>gs.run [⟨e,ag,y,[]⟩,⟨τ,false,t,[]⟩] [] (jp1 kk):=⟨_,rfl⟩
 obtain⟨D,hD⟩:∃D:Nat->List (Elem e)->Prop,D=λj acc=>dgE gg ((us.drop j).map (·.x)) (acc.map (·.x)) K=some r:=⟨_,rfl⟩
 have hDe:∀j acc,D j acc->dgE gg ((us.drop j).map (·.x)) (acc.map (·.x)) K=some r:=λj acc hh=>by rw[hD]at hh;exact hh
 have hDi:∀j acc,dgE gg ((us.drop j).map (·.x)) (acc.map (·.x)) K=some r->D j acc:=λj acc hh=>by rw[hD];exact hh
 have hD0:D 0 []:=hDi 0 [] (by rw[Xf,hux,hgg,hK];exact h)
 have hcl:∀u∈us,u.cs.length=size e:=λu hu=>(huR u hu).len.1
 have h1:∀u∈us,∀c∈u.cs,one c=true:=λu hu c hc=>Rp.ones (huR u hu) c hc
 have hasks:∀W,Ext (·= b) w W->jlu P g #[.pointer (some ⟨bl,0,none⟩)] (!fl.isEmpty) us D W:=by
  intro W hW j hj acc hacc;rw[<-hag];have hu:us[j]∈us:=Q7 hj;have hacc:=hDe j acc hacc;rw[QJ hj,Qz]at hacc;have hacc:gg us[j].x (λbb=>dgE gg ((us.drop (j+1)).map (·.x)) (bif bb then acc.map (·.x) else acc.map (·.x)++[us[j].x]) K)=some r:=hacc
  rw[hgg]at hacc;obtain⟨q1,q2⟩:=Z1g (ag:=ag) (h1 _ hu) (λhh=>by rw[hcl _ hu];rw[hh]at hk2;exact Nat.eq_of_beq_eq_true (by simpa using hk2))
  have hAl:∀(M:Nat->Prop),(∀y,M y->y<w.heap.size)->∀y,M y->Old W y:=λM hM y hy=>Y1 (hM y hy) hW.size
  have hStO:∀y,St y->Old W y:=hAl St λy hy=>(hSt y hy).1
  have top:∀ {τ:Ty} {tg:List Tag} {cs:List Value} {x:El τ} {fp:List Nat} {Al:Nat->Prop},(∀y,Al y->y<w.heap.size)->Rp w F St Al τ tg cs x fp->(∀t∈tg,t.isN=false)->(∀y∈fp,y<w.heap.size/\y≠b)->Rp W (Z2v W F) (Old W) (Old W) τ (List.replicate (Z06 τ) .S) cs x []:=by
   intro τ tg cs x fp Al hM hR htg hfp;have h1:Rp W F St Al τ tg cs x fp:=Rp.pres (F':=F) (λ_ h=>h) (λ_ _ h=>h) (λy hy=>Z07.of_block (hW.block y (hSt y hy).1 (hSb y hy)) (Qq _)) hR (λy hy=>⟨Z07.of_block (hW.block y (hfp y hy).1 (hfp y hy).2) (Qq _),rfl⟩) (.inl htg)
   have h2:Rp W F (Old W) (Old W) τ (List.replicate (Z06 τ) .S) cs x []:=h1.toS (hAl Al hM) hStO;exact h2.pres (λ_ h=>h) (λ_ _ h=>h) (λy _=>Z07.of_block rfl (Z6u _ _ _)) (by simp) (.inl λt ht=>by rw[(XC.1 ht).2];rfl)
  have hAs:Z0t W (Z2v W F) (Old W) gs.modes [⟨e,ag,us[j].x,[]⟩,⟨τ,false,t,[]⟩] [Z0J ag us[j].cs,.pointer (some ⟨bl,0,none⟩)] [[],[]] []:=by
   rw[hgm];refine⟨rfl,q2,?_,rfl,?_,trivial⟩
   ·rw[q1];exact top (Al:=(·∈ b::(us.map (·.fp)).flatten)) (λy hy=>hlt y (Qh _ hy)) (huR _ hu) (λt ht=>by rw[(XC.1 ht).2];rfl) (λy hy=>⟨hun _ hu y hy,hub _ hu y hy⟩)
   ·have hbW:W.heap[bl]? = some (.cells bc bT (0,0)):=by rw[hW.block bl (hefn bl (by simp)) (hne bl (by simp))];exact hbl
    have hbl2:=hbr.len.1;have hca:Z05 W bl 0 (size τ)=some bc.toList:=by
     unfold Z05;rw[hbW];simp only[];rw[QM (by rw[<-hbl2];simp),Xf,Xd (by rw[hbl2];exact Qq _)]
    exact⟨bl,0,bc.toList,rfl,hca,Z0W hca,Z4u hca,top (Al:=(·∈ ef)) (λy hy=>hefn y (Qh _ hy)) hbr htg (λy hy=>⟨hefn y (Qh _ hy),hne y (Qh _ hy)⟩)⟩
  have:=hg.2 _ [] _ r hacc W (Z2v W F) (Old W) _ [] _ [] hAs trivial (by simp) (λy hy=>⟨hy,by simp⟩) (by simp)
  refine this.mono λx w'=> ?_
  rintro⟨v,res,ios,ext',rfl,hkr,⟨_,hios,_⟩,_,F',St',vs,rfps,efps',⟨rfl,hil,hvl⟩,hres,hbox,hE,_⟩;obtain⟨bb,tb,rfl,hbb⟩:=jp2 hkr;rw[hgm]at hios hil hres;have:ios=[]:=by
   cases ios with
   |nil=>rfl
   |cons _ _=>cases hios
  subst this;obtain⟨v1,rfl⟩:∃v1,vs=[v1]:=by
   match vs,hvl with
   | [v1],_=>exact⟨v1,rfl⟩
  have hres:Z39 w' F' St' [⟨.bool,false,bb,tb⟩] [v1] rfps:=hres;cases rfps with
  |nil=>exact hres.elim
  |cons rf rfs=>
   obtain⟨⟨hs1,_,hR1⟩,_⟩:=hres;obtain rfl:=Z5K hs1 hR1;refine⟨bb,rfl,?_,⟨hE.os,hE.tape,hE.output,hE.size,λy hy _=>hE.block y hy (by simp)⟩⟩
   apply hDi;rw[hgg];cases bb
   ·simpa using hbb
   ·exact hbb
 have hlimn:l.length<=9223372036854775807:=by unfold LIM at hlim;omega
 have hEg:∀args w,(callFunc g args).run P w= .ok (.enter g args) w:=by
  obtain⟨fng,cg,hg1,hg2,hg3⟩:=hg.1;exact Z6i hg1 hg2 hg3
 refine(jwT L hT ht (λw=>by rw[<-hag];exact aE w) aT zT hfx hbx hnx hrx (Z6i hfx hnamex hbx) hf hb hn hr g #[.pointer (some ⟨bl,0,none⟩)] hEg b o l.length cap us D w hasks hD0 hul hgc hth hsz hlc hlimn h1 hcl (λhh=>by rw[hag,hh]at hk2;exact Nat.eq_of_beq_eq_true (by simpa using hk2)) hk1 hcells).mono ?_
 rintro e' w' ⟨ka,rfl,hDn,hsub,hE,ck,hg',hck,hkc⟩;have hDn:=hDe _ _ hDn;rw[List.drop_of_length_le (by rw[hul];exact Qq _),hK]at hDn
 have hDn:k [⟨.slice e,false,ka.map (·.x),[.O]⟩] [] [⟨τ,a1,t,tg⟩]=some r:=hDn;have hkl:ka.length<=cap:=Qx (by rw[<-hul];exact hsub.length_le) hlc
 have hckl:ck.toList.length=ck.size:=by simp
 have hfsub:((ka.map (·.fp)).flatten).Sublist (us.map (·.fp)).flatten:=jiY (hsub.map _);refine⟨_,_,_,_,rfl,hDn,⟨by simp[Z2U],rfl,rfl⟩,?_,jtD (Al:=(·∈ b::(us.map (·.fp)).flatten)) (o:=o) (us:=ka) hSt hE ⟨by simp,hbw⟩ ?_ (λy hy=> ?_) (λu hu=>huR u (hsub.subset hu)) (λq hq=> ?_) hkl ⟨⟨ck,tt,fz,hg',by rw[hck];exact hsz,λx hx=>hth x (by rw[<-hck];exact hx)⟩,hmk.imp id λhm=>hm.same hgc hg' hck⟩ hbl hbr htg⟩
 ·simp only[XS,List.all_nil,Xm,TVal.noN];exact QD.2 λt ht=>by simp[htg t ht]
 ·exact(List.Sublist.append (hfsub.cons_cons b) (Y6 _)).nodup hnd
 ·have hy':y∈(us.map (·.fp)).flatten++(ef++[bl]):=(List.Sublist.append hfsub (Y6 _)).subset hy;have hy2:y∈b::(us.map (·.fp)).flatten++(ef++[bl]):=Qa _ hy';exact⟨hy2,hlt y hy2⟩
 ·have m1:(q+1) * size e<=cap * size e:=Qt _ (by omega)
  rw[QC,Xg]at m1;unfold Z05;rw[hg'];simp only[];rw[QM (by omega),hkc q hq]
theorem jw5 {P:Program}{S E I B U T:TypeId}{e:Ty}{z:Value}{tys:List (TypeId×Ty×List TypeId)}{fl:List TypeId}{ag:Bool}{τ:Ty}{tg:List Tag}(L:SlT P S E I B (size e) z)(hT:Z0e P tys)(ht:Z0o tys E=some (e,fl))(hag:ag= !fl.isEmpty)(aE:∀w,(isAgg E).run P w= .ok ag w)(aT:∀w,(isAgg T).run P w= .ok false w)(zT:∀w,(sizeOf T).run P w= .ok 1 w)
  (hk1:Nat.ble 1 (size e)=true) (hk2:(ag||Nat.beq (size e) 1)=true) (htg:tg.all (λt=> !t.isN)=true)
  {fx : FuncId} {fnx : Func} (hfx : P.funcs[fx]? = some fnx) (hbx : fnx.body = some (j8R S E I B U T)) (hnx : fnx.ntmps = 19) (hrx : fnx.results = #[.tmp 4]) (hnamex : (fnx.name == "runtime.NumGoroutine") = false)
  {g:FuncId} {gs:Sig Unit} (hg:Z16 P g gs) (hgm:gs.modes=[.look e ag,.rptr τ])
  {f : FuncId} {fn : Func} (hf : P.funcs[f]? = some fn) (hb : fn.body = some (jgn S E I B U T fx)) (hn : fn.ntmps = 42) (hr : fn.results = #[.tmp 4]) (hname : (fn.name == "runtime.NumGoroutine") = false) : Z16 P f (jsI e g ag τ tg gs) := by
 refine⟨⟨fn,_,hf,hname,hb⟩,λvals ext k r h w F St args ads fps efps hA hB hnd hSt hlt=> ?_⟩
 obtain⟨a0,l,vals,rfl,h3⟩:=Zan h;obtain⟨rfl,h4⟩:=Zav h3;obtain⟨a1,t,ext,rfl,h5⟩:=Zam h4;obtain⟨rfl,h6⟩:=Zav h5;clear h h3 h4 h5;have h:=h6;clear h6;rw[cond_eq_ite]at h;split at h;rotate_left
 ·cases h
 rename_i hlim;change List (El e)at l;have hlim:l.length<=LIM:=QT hlim;obtain⟨ad,cap,f0,ar,fs,rfl,rfl,hlc,hr0,hA1⟩:=jgP (e:=e) (l:=l) hA;obtain⟨bl,rfl,rfl,rfl⟩:=jp0 hA1;cases efps with
 |nil=>exact hB.elim
 |cons ef efs=>
 obtain⟨⟨bc,bT,hbl,hbr⟩,hB2⟩:=hB;cases efs with
 |cons a b=>exact hB2.elim
 |nil=>
 have htgN:[(⟨τ,a1,t,tg⟩:TVal)].all TVal.noN=true:=by
  have htg:∀t∈tg,t.isN=false:=λt ht=>by have:=QD.1 htg t ht;simpa using this
  simp only[XS,List.all_nil,Xm,TVal.noN];exact QD.2 λt ht=>by simp[htg t ht]
 by_cases hpos:0<l.length;rotate_left
 ·have hl0:l=[]:=Qv.1 (by omega)
  subst hl0;simp only[QO,XT,Qe]at hnd hSt hlt ⊢;refine(jy0 L aT zT hfx hbx hnx hrx (Z6i hfx hnamex hbx) hf hb hn hr g #[.pointer (some ⟨bl,0,none⟩)] ad cap w).mono ?_;rintro e' w' ⟨rfl,rfl⟩;refine⟨_,_,_,_,rfl,h,⟨by simp[Z2U],rfl,rfl⟩,htgN,⟨F,St,[_],[f0],[ef],⟨rfl,rfl,rfl⟩,⟨⟨rfl,rfl,hr0⟩,trivial⟩,⟨⟨bc,bT,hbl,hbr⟩,trivial⟩,Ext.refl _ _,λ_ _ _=>rfl,λ_ h=>h,λy hy=>⟨.inl hy,(hSt y hy).1⟩,by simpa using hnd,λy hy=> ?_⟩⟩
  have hy:y∈f0++(ef++[bl]):=by simpa using hy
  exact⟨.inr hy,hlt y hy,λhh=>(hSt y hh).2 hy⟩
 obtain⟨b,o,us,cur,tt,fz,rfl,hux,hul,rfl,huR,hgc,hsz,hth,hmk,hcells⟩:=jkv hr0 (.inl hpos);simp only[QO,XT,Qe]at hnd hSt hlt ⊢;have htg:∀t∈tg,t.isN=false:=λt ht=>by have:=QD.1 htg t ht;simpa using this
 have hn1:=Qj.1 hnd;have hk1:0<size e:=QP hk1;have hbw:b<w.heap.size:=(QV.1 hgc).1;have hne:∀y∈ef++[bl],y≠b:=λy hy hh=>hn1.2.2 b (by simp) y hy hh.symm
 have hSb:∀y,St y->y≠b:=λy hy hh=>(hSt y hy).2 (by rw[hh];simp)
 have hin:∀u∈us,∀y∈u.fp,y∈(us.map (·.fp)).flatten:=λu hu y hy=>X3.2 ⟨u.fp,Yw hu,hy⟩
 have hub:∀u∈us,∀y∈u.fp,y≠b:=λu hu y hy hh=>(Xx.1 hn1.1).1 (hh ▸ hin u hu y hy)
 have hun:∀u∈us,∀y∈u.fp,y<w.heap.size:=λu hu y hy=>hlt y (by simp only[QL,Qp,Qr];exact .inr (.inl (hin u hu y hy)))
 have hefn:∀y∈ef++[bl],y<w.heap.size:=λy hy=>hlt y (Qo _ hy)
 obtain⟨K,hK⟩:∃K:List (El e)->Res,K=λrr=>k [⟨.slice e,false,rr,[.O]⟩] [] [⟨τ,a1,t,tg⟩]:=⟨_,rfl⟩
 obtain⟨gg,hgg⟩:∃gg:El e->(Bool->Res)->Res,gg=λy kk=>gs.run [⟨e,ag,y,[]⟩,⟨τ,false,t,[]⟩] [] (jp1 kk):=⟨_,rfl⟩
 obtain⟨D,hD⟩:∃D:Nat->List (Elem e)->Prop,D=λj acc=>dgE gg ((us.drop j).map (·.x)) (acc.map (·.x)) K=some r:=⟨_,rfl⟩
 have hDe:∀j acc,D j acc->dgE gg ((us.drop j).map (·.x)) (acc.map (·.x)) K=some r:=λj acc hh=>by rw[hD]at hh;exact hh
 have hDi:∀j acc,dgE gg ((us.drop j).map (·.x)) (acc.map (·.x)) K=some r->D j acc:=λj acc hh=>by rw[hD];exact hh
 have hD0:D 0 []:=hDi 0 [] (by rw[Xf,hux,hgg,hK];exact h)
 have hcl:∀u∈us,u.cs.length=size e:=λu hu=>(huR u hu).len.1
 have h1:∀u∈us,∀c∈u.cs,one c=true:=λu hu c hc=>Rp.ones (huR u hu) c hc
 have hasks:∀W,Ext (·= b) w W->jlu P g #[.pointer (some ⟨bl,0,none⟩)] (!fl.isEmpty) us D W:=by
  intro W hW j hj acc hacc;rw[<-hag];have hu:us[j]∈us:=Q7 hj;have hacc:=hDe j acc hacc;rw[QJ hj,Qz]at hacc;have hacc:gg us[j].x (λbb=>dgE gg ((us.drop (j+1)).map (·.x)) (bif bb then acc.map (·.x) else acc.map (·.x)++[us[j].x]) K)=some r:=hacc
  rw[hgg]at hacc;obtain⟨q1,q2⟩:=Z1g (ag:=ag) (h1 _ hu) (λhh=>by rw[hcl _ hu];rw[hh]at hk2;exact Nat.eq_of_beq_eq_true (by simpa using hk2))
  have hAl:∀(M:Nat->Prop),(∀y,M y->y<w.heap.size)->∀y,M y->Old W y:=λM hM y hy=>Y1 (hM y hy) hW.size
  have hStO:∀y,St y->Old W y:=hAl St λy hy=>(hSt y hy).1
  have top:∀ {τ:Ty} {tg:List Tag} {cs:List Value} {x:El τ} {fp:List Nat} {Al:Nat->Prop},(∀y,Al y->y<w.heap.size)->Rp w F St Al τ tg cs x fp->(∀t∈tg,t.isN=false)->(∀y∈fp,y<w.heap.size/\y≠b)->Rp W (Z2v W F) (Old W) (Old W) τ (List.replicate (Z06 τ) .S) cs x []:=by
   intro τ tg cs x fp Al hM hR htg hfp;have h1:Rp W F St Al τ tg cs x fp:=Rp.pres (F':=F) (λ_ h=>h) (λ_ _ h=>h) (λy hy=>Z07.of_block (hW.block y (hSt y hy).1 (hSb y hy)) (Qq _)) hR (λy hy=>⟨Z07.of_block (hW.block y (hfp y hy).1 (hfp y hy).2) (Qq _),rfl⟩) (.inl htg)
   have h2:Rp W F (Old W) (Old W) τ (List.replicate (Z06 τ) .S) cs x []:=h1.toS (hAl Al hM) hStO;exact h2.pres (λ_ h=>h) (λ_ _ h=>h) (λy _=>Z07.of_block rfl (Z6u _ _ _)) (by simp) (.inl λt ht=>by rw[(XC.1 ht).2];rfl)
  have hAs:Z0t W (Z2v W F) (Old W) gs.modes [⟨e,ag,us[j].x,[]⟩,⟨τ,false,t,[]⟩] [Z0J ag us[j].cs,.pointer (some ⟨bl,0,none⟩)] [[],[]] []:=by
   rw[hgm];refine⟨rfl,q2,?_,rfl,?_,trivial⟩
   ·rw[q1];exact top (Al:=(·∈ b::(us.map (·.fp)).flatten)) (λy hy=>hlt y (Qh _ hy)) (huR _ hu) (λt ht=>by rw[(XC.1 ht).2];rfl) (λy hy=>⟨hun _ hu y hy,hub _ hu y hy⟩)
   ·have hbW:W.heap[bl]? = some (.cells bc bT (0,0)):=by rw[hW.block bl (hefn bl (by simp)) (hne bl (by simp))];exact hbl
    have hbl2:=hbr.len.1;have hca:Z05 W bl 0 (size τ)=some bc.toList:=by
     unfold Z05;rw[hbW];simp only[];rw[QM (by rw[<-hbl2];simp),Xf,Xd (by rw[hbl2];exact Qq _)]
    exact⟨bl,0,bc.toList,rfl,hca,Z0W hca,Z4u hca,top (Al:=(·∈ ef)) (λy hy=>hefn y (Qh _ hy)) hbr htg (λy hy=>⟨hefn y (Qh _ hy),hne y (Qh _ hy)⟩)⟩
  have:=hg.2 _ [] _ r hacc W (Z2v W F) (Old W) _ [] _ [] hAs trivial (by simp) (λy hy=>⟨hy,by simp⟩) (by simp)
  refine this.mono λx w'=> ?_
  rintro⟨v,res,ios,ext',rfl,hkr,⟨_,hios,_⟩,_,F',St',vs,rfps,efps',⟨rfl,hil,hvl⟩,hres,hbox,hE,_⟩;obtain⟨bb,tb,rfl,hbb⟩:=jp2 hkr;rw[hgm]at hios hil hres;have:ios=[]:=by
   cases ios with
   |nil=>rfl
   |cons _ _=>cases hios
  subst this;obtain⟨v1,rfl⟩:∃v1,vs=[v1]:=by
   match vs,hvl with
   | [v1],_=>exact⟨v1,rfl⟩
  have hres:Z39 w' F' St' [⟨.bool,false,bb,tb⟩] [v1] rfps:=hres;cases rfps with
  |nil=>exact hres.elim
  |cons rf rfs=>
   obtain⟨⟨hs1,_,hR1⟩,_⟩:=hres;obtain rfl:=Z5K hs1 hR1;refine⟨bb,rfl,?_,⟨hE.os,hE.tape,hE.output,hE.size,λy hy _=>hE.block y hy (by simp)⟩⟩
   apply hDi;rw[hgg];cases bb
   ·simpa using hbb
   ·exact hbb
 have hlimn:l.length<=9223372036854775807:=by unfold LIM at hlim;omega
 have hEg:∀args w,(callFunc g args).run P w= .ok (.enter g args) w:=by
  obtain⟨fng,cg,hg1,hg2,hg3⟩:=hg.1;exact Z6i hg1 hg2 hg3
 refine(jwS L hT ht (λw=>by rw[<-hag];exact aE w) aT zT hfx hbx hnx hrx (Z6i hfx hnamex hbx) hf hb hn hr g #[.pointer (some ⟨bl,0,none⟩)] hEg b o l.length cap us D w hasks hD0 hul hgc hth hsz hlc hlimn h1 hcl (λhh=>by rw[hag,hh]at hk2;exact Nat.eq_of_beq_eq_true (by simpa using hk2)) hk1 hcells).mono ?_
 rintro e' w' ⟨ka,rfl,hDn,hsub,hE,ck,hg',hck,hkc⟩;have hDn:=hDe _ _ hDn;rw[List.drop_of_length_le (by rw[hul];exact Qq _),hK]at hDn
 have hDn:k [⟨.slice e,false,ka.map (·.x),[.O]⟩] [] [⟨τ,a1,t,tg⟩]=some r:=hDn;have hkl:ka.length<=cap:=Qx (by rw[<-hul];exact hsub.length_le) hlc
 have hckl:ck.toList.length=ck.size:=by simp
 have hfsub:((ka.map (·.fp)).flatten).Sublist (us.map (·.fp)).flatten:=jiY (hsub.map _);refine⟨_,_,_,_,rfl,hDn,⟨by simp[Z2U],rfl,rfl⟩,?_,jtD (Al:=(·∈ b::(us.map (·.fp)).flatten)) (o:=o) (us:=ka) hSt hE ⟨by simp,hbw⟩ ?_ (λy hy=> ?_) (λu hu=>huR u (hsub.subset hu)) (λq hq=> ?_) hkl ⟨⟨ck,tt,fz,hg',by rw[hck];exact hsz,λx hx=>hth x (by rw[<-hck];exact hx)⟩,hmk.imp id λhm=>hm.same hgc hg' hck⟩ hbl hbr htg⟩
 ·simp only[XS,List.all_nil,Xm,TVal.noN];exact QD.2 λt ht=>by simp[htg t ht]
 ·exact(List.Sublist.append (hfsub.cons_cons b) (Y6 _)).nodup hnd
 ·have hy':y∈(us.map (·.fp)).flatten++(ef++[bl]):=(List.Sublist.append hfsub (Y6 _)).subset hy;have hy2:y∈b::(us.map (·.fp)).flatten++(ef++[bl]):=Qa _ hy';exact⟨hy2,hlt y hy2⟩
 ·have m1:(q+1) * size e<=cap * size e:=Qt _ (by omega)
  rw[QC,Xg]at m1;unfold Z05;rw[hg'];simp only[];rw[QM (by omega),hkc q hq]
end Go.PI
