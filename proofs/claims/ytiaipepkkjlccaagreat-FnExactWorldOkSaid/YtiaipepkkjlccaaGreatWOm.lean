/-
  Program's code interpreted over typed values; printed texts; plain laws. No conditions.
-/
import Derived.Test.YtiaipepkkjlccaaGreatWOl
import Derived.Test.YtiaipepkkjlccaaGreatWOh
set_option linter.unusedVariables false
set_option linter.unusedSimpArgs false
set_option maxRecDepth 10000
namespace Go.PI.G
open Go Go.PI Go.Proofs
theorem jse (a:Int×ByteArray×qW×qW×Int×ByteArray×qE×List ByteArray×ByteArray×ByteArray)(h:msr y17 a<=1048576)(k:qS->Res):j8B a k=k a:=by
 have b:msr y2 a.2.2.1<=1048576:=(Qx (@j0x y2 y14 a.2.2) (Qx (@j03 .str y15 a.2) (Qx (@j03 (.int .i64) y16 a) h)));have d:msr y2 a.2.2.2.1<=1048576:=(Qx (@j0x y2 y13 a.2.2.2) (Qx (@j03 y2 y14 a.2.2) (Qx (@j03 .str y15 a.2) (Qx (@j03 (.int .i64) y16 a) h))));have f:msr y13 a.2.2.2.2<=1048576:=(Qx (@j03 y2 y13 a.2.2.2) (Qx (@j03 y2 y14 a.2.2) (Qx (@j03 .str y15 a.2) (Qx (@j03 (.int .i64) y16 a) h))));unfold j8B;simp only[jnd _ b,jpK _ d,jtb _ f]
theorem js8 (a:Int×ByteArray×qW×qW×Int×ByteArray×qE×List ByteArray×ByteArray×ByteArray)(left:Int)(l:0<=left)(m:left<=1048576)(h:Wf y17 a)(k:Int->Res):j8y a left k=k (szR left (msr y17 a)):=by
 have j:msr y17 a=ByteArray.size a.2.1+(msr y2 a.2.2.1+(msr y2 a.2.2.2.1+(msr y13 a.2.2.2.2+0))):=by simp only[msr]<;>omega
 rw[j];unfold j8y;have i:ByteArray.size a.2.1<=maxLen:=h.2.1;unfold maxLen at i;rw[j01 (by unfold nI;omega)]
 by_cases g:((ByteArray.size a.2.1:Nat):Int)<=left;rotate_left
 ·rw[Zak g,Za4 (by unfold nI;omega),Q1]
 rw[Za3 (by unfold nI;omega),Q0,Zaj g,show left-nI (ByteArray.size a.2.1)=left-((ByteArray.size a.2.1:Nat):Int) from rfl]
 rw[jnb _ _ (by omega) (by omega) h.2.2.1]
 by_cases b:((msr y2 a.2.2.1:Nat):Int)<=left-(ByteArray.size a.2.1:Nat);rotate_left
 ·rw[Zay b,Zak b,Za4 (by omega),Q1]
 rw[Zaz b,Zaj b,Za3 (by omega),Q0]
 rw[jpG _ _ (by omega) (by omega) h.2.2.2.1]
 by_cases d:((msr y2 a.2.2.2.1:Nat):Int)<=left-(ByteArray.size a.2.1:Nat)-(msr y2 a.2.2.1:Nat);rotate_left
 ·rw[Zay d,Zak d,Za4 (by omega),Q1]
 rw[Zaz d,Zaj d,Za3 (by omega),Q0]
 rw[jt3 _ _ (by omega) (by omega) h.2.2.2.2]
 by_cases f:((msr y13 a.2.2.2.2:Nat):Int)<=left-(ByteArray.size a.2.1:Nat)-(msr y2 a.2.2.1:Nat)-(msr y2 a.2.2.2.1:Nat);rotate_left
 ·rw[Zay f,Zak f,Za4 (by omega),Q1]
 rw[Zaz f,Zaj f,Za3 (by omega),Q0]
 exact j2h (by omega)
theorem jrG (a:Int×ByteArray×qW×qW×Int×ByteArray×qE×List ByteArray×ByteArray×ByteArray)(h:msr y17 a<=1048576)(k:Bool->Res):j8v a a k=k true:=by
 have b:msr y2 a.2.2.1<=1048576:=(Qx (@j0x y2 y14 a.2.2) (Qx (@j03 .str y15 a.2) (Qx (@j03 (.int .i64) y16 a) h)));have d:msr y2 a.2.2.2.1<=1048576:=(Qx (@j0x y2 y13 a.2.2.2) (Qx (@j03 y2 y14 a.2.2) (Qx (@j03 .str y15 a.2) (Qx (@j03 (.int .i64) y16 a) h))));have f:msr y13 a.2.2.2.2<=1048576:=(Qx (@j03 y2 y13 a.2.2.2) (Qx (@j03 y2 y14 a.2.2) (Qx (@j03 .str y15 a.2) (Qx (@j03 (.int .i64) y16 a) h))));unfold j8v;simp only[ZaN,Zah,Xe,Q0,Q4,jmT _ b,joR _ d,jsz _ f]
end Go.PI.G
namespace Go.PI.G
open Go Go.PI Go.Proofs
theorem jte (a:Int×Int×Int×ByteArray×qW×qW×Int×ByteArray×qE×List ByteArray×ByteArray×ByteArray)(h:msr y19 a<=1048576)(k:(Int×Int×Int×ByteArray×qW×qW×Int×ByteArray×qE×List ByteArray×ByteArray×ByteArray)->Res):jcN a k=k a:=by
 have b:msr y17 a.2.2<=1048576:=(Qx (@j03 (.int .i64) y17 a.2) (Qx (@j03 (.int .i64) y18 a) h));unfold jcN;simp only[jse _ b]
theorem jt7 (a:Int×Int×Int×ByteArray×qW×qW×Int×ByteArray×qE×List ByteArray×ByteArray×ByteArray)(left:Int)(g:0<=left)(h:left<=1048576)(f:Wf y19 a)(k:Int->Res):jcL a left k=k (szR left (msr y19 a)):=by
 have d:msr y19 a=msr y17 a.2.2+0:=by simp only[msr]<;>omega
 rw[d];unfold jcL;rw[js8 _ _ (by omega) (by omega) f.2.2]
 by_cases b:((msr y17 a.2.2:Nat):Int)<=left;rotate_left
 ·rw[Zay b,Zak b,Za4 (by omega),Q1]
 rw[Zaz b,Zaj b,Za3 (by omega),Q0]
 exact j2h (by omega)
theorem jsC (a:Int×Int×Int×ByteArray×qW×qW×Int×ByteArray×qE×List ByteArray×ByteArray×ByteArray)(h:msr y19 a<=1048576)(k:Bool->Res):jcJ a a k=k true:=by
 have b:msr y17 a.2.2<=1048576:=(Qx (@j03 (.int .i64) y17 a.2) (Qx (@j03 (.int .i64) y18 a) h));unfold jcJ;simp only[ZaN,Zah,Xe,Q0,Q4,jrG _ b]
end Go.PI.G
namespace Go.PI.G
open Go Go.PI Go.Proofs
theorem jsb (a:(List (Int×Int×Int×ByteArray×qW×qW×Int×ByteArray×qE×List ByteArray×ByteArray×ByteArray)))(h:msr y20 a<=1048576)(k:(List (Int×Int×Int×ByteArray×qW×qW×Int×ByteArray×qE×List ByteArray×ByteArray×ByteArray))->Res):j8A a k=k a:=by
 have g:a.length<=1048576:=j0d h;unfold j8A;rw[Zau (by unfold LIM;omega),Q1]
 have:=ZaB ((0,0,0,eS,[],[],0,eS,[],[],eS,eS)) a id (step:=j96 a) (λb=>k b) (by unfold LIM;omega) (λb i rec d f=>by
  show j3H a _ _ _ _=_
  unfold j3H;dsimp only;simp only[ZaP d,cond_true,j00 d,j00 (show i<b.length by omega),Zax _ _ _ d,ZaE,j01 (n:=(i:Int)+1) (by omega),jte _ (j0y h (List.getElem_mem d))]
  rfl) (λb rec=>by
  show j3H a _ _ _ _=_
  unfold j3H;dsimp only;rw[ZaO,cond_false])
 rw[List.map_id]at this;exact this
theorem js5 (a:(List (Int×Int×Int×ByteArray×qW×qW×Int×ByteArray×qE×List ByteArray×ByteArray×ByteArray)))(left:Int)(g:0<=left)(h:left<=1048576)(l:Wf y20 a)(k:Int->Res):j8x a left k=k (szR left (msr y20 a)):=by
 have j:a.length<=maxLen:=l.1;have p:msr y20 a=a.length+(a.map (msr y19)).sum:=rfl;rw[p];unfold j8x;refine j8G (F:=λq=>jb6 a Z1b q 0 (λd=>k d) (λ_=>k (-1))) (k:=k) g h j λb=> ?_
 unfold jb6;rw[ZaA (msr y19) a _ (by omega) (λleft i rec f g h=> ?_) (λleft rec=> ?_) _ (by omega) (by omega)]
 ·by_cases b:(((a.map (msr y19)).sum:Nat):Int)<=left-a.length
  ·rw[QM b,Zaz b]
  ·rw[QN b,Zay b]
 ·show j3C a _ _ _ _ _=_
  have r:=l.2 _ (Q7 f);unfold j3C;rw[ZaP f,Q1,j00 f,Q1,Zax _ _ _ f,jt7 _ _ g h r];have m:(i:Int)<4611686018427387904:=by unfold maxLen at j;omega
  rw[j01 (n:=(i:Int)+1) (by omega)]
  by_cases b:((msr y19 a[i]:Nat):Int)<=left
  ·rw[QM b,Zaz b,Za3 (by omega),Q0]
  ·rw[QN b,Zay b,Za4 (by omega),Q1]
 ·show j3C a _ _ _ _ _=_
  unfold j3C;rw[ZaO,Q0]
theorem jrD (a:(List (Int×Int×Int×ByteArray×qW×qW×Int×ByteArray×qE×List ByteArray×ByteArray×ByteArray)))(h:msr y20 a<=1048576)(k:Bool->Res):j8u a a k=k true:=by
 have d:a.length<=1048576:=j0d h;unfold j8u;rw[ZaN,Q0];unfold jfL;rw[Zaq a _ (by unfold LIM;omega) (λi rec b=> ?_) (λrec=> ?_)]
 ·show j3y a a _ _ _ _=_
  unfold j3y;simp only[ZaP b,Q1,j00 b,Zax _ _ _ b,j01 (n:=(i:Int)+1) (by omega),ZaN,Zah,Q0,Q4,jsC _ (j0y h (Q7 b))]
 ·show j3y a a _ _ _ _=_
  unfold j3y;rw[ZaO,Q0]
end Go.PI.G
namespace Go.PI.G
open Go Go.PI Go.Proofs
theorem jgE (a:(List (Int×Int×Int×ByteArray×qW×qW×Int×ByteArray×qE×List ByteArray×ByteArray×ByteArray))×List ByteArray×(qD×Int×Int)×(qD×Int×Int)×List (List Int)×List Int)(h:msr y36 a<=1048576)(k:((List (Int×Int×Int×ByteArray×qW×qW×Int×ByteArray×qE×List ByteArray×ByteArray×ByteArray))×List ByteArray×(qD×Int×Int)×(qD×Int×Int)×List (List Int)×List Int)->Res):j2c a k=k a:=by
 have b:msr y20 a.1<=1048576:=(Qx (@j0x y20 y35 a) h);have d:msr y8 a.2.1<=1048576:=(Qx (@j0x y8 y34 a.2) (Qx (@j03 y20 y35 a) h));have f:msr y28 a.2.2.1<=1048576:=(Qx (@j0x y28 y33 a.2.2) (Qx (@j03 y8 y34 a.2) (Qx (@j03 y20 y35 a) h)));have g:msr y28 a.2.2.2.1<=1048576:=(Qx (@j0x y28 y32 a.2.2.2) (Qx (@j03 y28 y33 a.2.2) (Qx (@j03 y8 y34 a.2) (Qx (@j03 y20 y35 a) h))));have i:msr y30 a.2.2.2.2.1<=1048576:=(Qx (@j0x y30 y31 a.2.2.2.2) (Qx (@j03 y28 y32 a.2.2.2) (Qx (@j03 y28 y33 a.2.2) (Qx (@j03 y8 y34 a.2) (Qx (@j03 y20 y35 a) h)))));have j:msr y31 a.2.2.2.2.2<=1048576:=(Qx (@j03 y30 y31 a.2.2.2.2) (Qx (@j03 y28 y32 a.2.2.2) (Qx (@j03 y28 y33 a.2.2) (Qx (@j03 y8 y34 a.2) (Qx (@j03 y20 y35 a) h)))));unfold j2c;simp only[jsb _ b,jtd _ d,jpJ _ f,jpJ _ g,jtc _ i,js9 _ j]
theorem jrg (a:(List (Int×Int×Int×ByteArray×qW×qW×Int×ByteArray×qE×List ByteArray×ByteArray×ByteArray))×List ByteArray×(qD×Int×Int)×(qD×Int×Int)×List (List Int)×List Int)(left:Int)(m:0<=left)(n:left<=1048576)(j:Wf y36 a)(k:Int->Res):j5r a left k=k (szR left (msr y36 a)):=by
 have l:msr y36 a=msr y20 a.1+(msr y8 a.2.1+(msr y28 a.2.2.1+(msr y28 a.2.2.2.1+(msr y30 a.2.2.2.2.1+(msr y31 a.2.2.2.2.2+0))))):=by simp only[msr]<;>omega
 rw[l];unfold j5r;rw[js5 _ _ (by omega) (by omega) j.1]
 by_cases b:((msr y20 a.1:Nat):Int)<=left;rotate_left
 ·rw[Zay b,Zak b,Za4 (by omega),Q1]
 rw[Zaz b,Zaj b,Za3 (by omega),Q0]
 rw[jt5 _ _ (by omega) (by omega) j.2.1]
 by_cases d:((msr y8 a.2.1:Nat):Int)<=left-(msr y20 a.1:Nat);rotate_left
 ·rw[Zay d,Zak d,Za4 (by omega),Q1]
 rw[Zaz d,Zaj d,Za3 (by omega),Q0]
 rw[jpF _ _ (by omega) (by omega) j.2.2.1]
 by_cases f:((msr y28 a.2.2.1:Nat):Int)<=left-(msr y20 a.1:Nat)-(msr y8 a.2.1:Nat);rotate_left
 ·rw[Zay f,Zak f,Za4 (by omega),Q1]
 rw[Zaz f,Zaj f,Za3 (by omega),Q0]
 rw[jpF _ _ (by omega) (by omega) j.2.2.2.1]
 by_cases g:((msr y28 a.2.2.2.1:Nat):Int)<=left-(msr y20 a.1:Nat)-(msr y8 a.2.1:Nat)-(msr y28 a.2.2.1:Nat);rotate_left
 ·rw[Zay g,Zak g,Za4 (by omega),Q1]
 rw[Zaz g,Zaj g,Za3 (by omega),Q0]
 rw[jt4 _ _ (by omega) (by omega) j.2.2.2.2.1]
 by_cases h:((msr y30 a.2.2.2.2.1:Nat):Int)<=left-(msr y20 a.1:Nat)-(msr y8 a.2.1:Nat)-(msr y28 a.2.2.1:Nat)-(msr y28 a.2.2.2.1:Nat);rotate_left
 ·rw[Zay h,Zak h,Za4 (by omega),Q1]
 rw[Zaz h,Zaj h,Za3 (by omega),Q0]
 rw[js3 _ _ (by omega) (by omega) j.2.2.2.2.2]
 by_cases i:((msr y31 a.2.2.2.2.2:Nat):Int)<=left-(msr y20 a.1:Nat)-(msr y8 a.2.1:Nat)-(msr y28 a.2.2.1:Nat)-(msr y28 a.2.2.2.1:Nat)-(msr y30 a.2.2.2.2.1:Nat);rotate_left
 ·rw[Zay i,Zak i,Za4 (by omega),Q1]
 rw[Zaz i,Zaj i,Za3 (by omega),Q0]
 exact j2h (by omega)
theorem jqM (a:(List (Int×Int×Int×ByteArray×qW×qW×Int×ByteArray×qE×List ByteArray×ByteArray×ByteArray))×List ByteArray×(qD×Int×Int)×(qD×Int×Int)×List (List Int)×List Int)(h:msr y36 a<=1048576)(k:Bool->Res):j5q a a k=k true:=by
 have b:msr y20 a.1<=1048576:=(Qx (@j0x y20 y35 a) h);have d:msr y8 a.2.1<=1048576:=(Qx (@j0x y8 y34 a.2) (Qx (@j03 y20 y35 a) h));have f:msr y28 a.2.2.1<=1048576:=(Qx (@j0x y28 y33 a.2.2) (Qx (@j03 y8 y34 a.2) (Qx (@j03 y20 y35 a) h)));have g:msr y28 a.2.2.2.1<=1048576:=(Qx (@j0x y28 y32 a.2.2.2) (Qx (@j03 y28 y33 a.2.2) (Qx (@j03 y8 y34 a.2) (Qx (@j03 y20 y35 a) h))));have i:msr y30 a.2.2.2.2.1<=1048576:=(Qx (@j0x y30 y31 a.2.2.2.2) (Qx (@j03 y28 y32 a.2.2.2) (Qx (@j03 y28 y33 a.2.2) (Qx (@j03 y8 y34 a.2) (Qx (@j03 y20 y35 a) h)))));have j:msr y31 a.2.2.2.2.2<=1048576:=(Qx (@j03 y30 y31 a.2.2.2.2) (Qx (@j03 y28 y32 a.2.2.2) (Qx (@j03 y28 y33 a.2.2) (Qx (@j03 y8 y34 a.2) (Qx (@j03 y20 y35 a) h)))));unfold j5q;simp only[ZaN,Zah,Xe,Q0,Q4,jrD _ b,jsB _ d,joQ _ f,joQ _ g,jsA _ i,jrB _ j]
end Go.PI.G
namespace Go.PI.G
open Go Go.PI Go.Proofs
theorem jrW (d:WT)(i:Wf yWT d)(k:Bool->Res):j1M d k=k true:=by
 unfold j1M;rw[jrg d 1048576 (by omega) (by omega) i]
 by_cases f:((msr yWT d:Nat):Int)<=1048576;rotate_left
 ·rw[Zay f];rfl
 have b:msr yWT d<=1048576:=by omega
 have g:=jtg b;have h:∀x:Bool,(x==x)=true:=by decide
 rw[Zaz f,Q2 (by omega),Q0,jgE d b,jpE d g,jgE d b,jp4 d g,h,Q4,Q0,jgE d b,jqM d b]
 rfl
end Go.PI.G
