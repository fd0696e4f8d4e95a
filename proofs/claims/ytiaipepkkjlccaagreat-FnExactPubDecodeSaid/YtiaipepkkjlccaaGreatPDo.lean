/-
  Program's code interpreted over typed values; printed texts; plain laws. No conditions.
-/
import Derived.Test.YtiaipepkkjlccaaGreatPDn
import Derived.Test.YtiaipepkkjlccaaGreatPDi
import Derived.Test.YtiaipepkkjlccaaGreatPDj
import Derived.Test.YtiaipepkkjlccaaGreatPDm
set_option linter.unusedVariables false
set_option maxRecDepth 10000
set_option linter.unusedSimpArgs false
namespace Go.PI.G
open Go Go.PI Go.Proofs
theorem jwC (a:Int×ByteArray×qW×qW×Int×ByteArray×qE×List ByteArray×ByteArray×ByteArray)(h:msr y17 a<=1048576)(k:qS->Res):jbq a k=k a:=by
 have b:msr y2 a.2.2.1<=1048576:=(Qx (@j0l y2 y14 a.2.2) (Qx (@j02 .str y15 a.2) (Qx (@j02 (.int .i64) y16 a) h)));have d:msr y2 a.2.2.2.1<=1048576:=(Qx (@j0l y2 y13 a.2.2.2) (Qx (@j02 y2 y14 a.2.2) (Qx (@j02 .str y15 a.2) (Qx (@j02 (.int .i64) y16 a) h))));have f:msr y13 a.2.2.2.2<=1048576:=(Qx (@j02 y2 y13 a.2.2.2) (Qx (@j02 y2 y14 a.2.2) (Qx (@j02 .str y15 a.2) (Qx (@j02 (.int .i64) y16 a) h))));unfold jbq;simp only[jrN _ b,jxG _ d,jxE _ f]
theorem jwA (a:Int×ByteArray×qW×qW×Int×ByteArray×qE×List ByteArray×ByteArray×ByteArray)(left:Int)(l:0<=left)(m:left<=1048576)(h:Wf y17 a)(k:Int->Res):jbo a left k=k (szR left (msr y17 a)):=by
 have j:msr y17 a=ByteArray.size a.2.1+(msr y2 a.2.2.1+(msr y2 a.2.2.2.1+(msr y13 a.2.2.2.2+0))):=by simp only[msr]<;>omega
 rw[j];unfold jbo;have i:ByteArray.size a.2.1<=maxLen:=h.2.1;unfold maxLen at i;rw[j01 (by unfold nI;omega)]
 by_cases g:((ByteArray.size a.2.1:Nat):Int)<=left;rotate_left
 ·rw[Zak g,Za4 (by unfold nI;omega),Q1]
 rw[Za3 (by unfold nI;omega),Q0,Zaj g,show left-nI (ByteArray.size a.2.1)=left-((ByteArray.size a.2.1:Nat):Int) from rfl]
 rw[jrM _ _ (by omega) (by omega) h.2.2.1]
 by_cases b:((msr y2 a.2.2.1:Nat):Int)<=left-(ByteArray.size a.2.1:Nat);rotate_left
 ·rw[Zay b,Zak b,Za4 (by omega),Q1]
 rw[Zaz b,Zaj b,Za3 (by omega),Q0]
 rw[jxz _ _ (by omega) (by omega) h.2.2.2.1]
 by_cases d:((msr y2 a.2.2.2.1:Nat):Int)<=left-(ByteArray.size a.2.1:Nat)-(msr y2 a.2.2.1:Nat);rotate_left
 ·rw[Zay d,Zak d,Za4 (by omega),Q1]
 rw[Zaz d,Zaj d,Za3 (by omega),Q0]
 rw[jxv _ _ (by omega) (by omega) h.2.2.2.2]
 by_cases f:((msr y13 a.2.2.2.2:Nat):Int)<=left-(ByteArray.size a.2.1:Nat)-(msr y2 a.2.2.1:Nat)-(msr y2 a.2.2.2.1:Nat);rotate_left
 ·rw[Zay f,Zak f,Za4 (by omega),Q1]
 rw[Zaz f,Zaj f,Za3 (by omega),Q0]
 exact jhu (by omega)
theorem jrn (a:Int×ByteArray×qW×qW×Int×ByteArray×qE×List ByteArray×ByteArray×ByteArray)(h:msr y17 a<=1048576)(k:Bool->Res):j6U a a k=k true:=by
 have b:msr y2 a.2.2.1<=1048576:=(Qx (@j0l y2 y14 a.2.2) (Qx (@j02 .str y15 a.2) (Qx (@j02 (.int .i64) y16 a) h)));have d:msr y2 a.2.2.2.1<=1048576:=(Qx (@j0l y2 y13 a.2.2.2) (Qx (@j02 y2 y14 a.2.2) (Qx (@j02 .str y15 a.2) (Qx (@j02 (.int .i64) y16 a) h))));have f:msr y13 a.2.2.2.2<=1048576:=(Qx (@j02 y2 y13 a.2.2.2) (Qx (@j02 y2 y14 a.2.2) (Qx (@j02 .str y15 a.2) (Qx (@j02 (.int .i64) y16 a) h))));unfold j6U;simp only[ZaN,Zah,Xe,Q0,Q4,jro _ b,jwZ _ d,jwW _ f]
end Go.PI.G
namespace Go.PI.G
open Go Go.PI Go.Proofs
theorem jxF (a:Int×Int×Int×ByteArray×qW×qW×Int×ByteArray×qE×List ByteArray×ByteArray×ByteArray)(h:msr y19 a<=1048576)(k:(Int×Int×Int×ByteArray×qW×qW×Int×ByteArray×qE×List ByteArray×ByteArray×ByteArray)->Res):jge a k=k a:=by
 have b:msr y17 a.2.2<=1048576:=(Qx (@j02 (.int .i64) y17 a.2) (Qx (@j02 (.int .i64) y18 a) h));unfold jge;simp only[jwC _ b]
theorem jxy (a:Int×Int×Int×ByteArray×qW×qW×Int×ByteArray×qE×List ByteArray×ByteArray×ByteArray)(left:Int)(g:0<=left)(h:left<=1048576)(f:Wf y19 a)(k:Int->Res):jgc a left k=k (szR left (msr y19 a)):=by
 have d:msr y19 a=msr y17 a.2.2+0:=by simp only[msr]<;>omega
 rw[d];unfold jgc;rw[jwA _ _ (by omega) (by omega) f.2.2]
 by_cases b:((msr y17 a.2.2:Nat):Int)<=left;rotate_left
 ·rw[Zay b,Zak b,Za4 (by omega),Q1]
 rw[Zaz b,Zaj b,Za3 (by omega),Q0]
 exact jhu (by omega)
theorem jwY (a:Int×Int×Int×ByteArray×qW×qW×Int×ByteArray×qE×List ByteArray×ByteArray×ByteArray)(h:msr y19 a<=1048576)(k:Bool->Res):jga a a k=k true:=by
 have b:msr y17 a.2.2<=1048576:=(Qx (@j02 (.int .i64) y17 a.2) (Qx (@j02 (.int .i64) y18 a) h));unfold jga;simp only[ZaN,Zah,Xe,Q0,Q4,jrn _ b]
end Go.PI.G
namespace Go.PI.G
open Go Go.PI Go.Proofs
theorem jin (a:(List (Int×Int×Int×ByteArray×qW×qW×Int×ByteArray×qE×List ByteArray×ByteArray×ByteArray)))(h:msr y20 a<=1048576)(k:(List (Int×Int×Int×ByteArray×qW×qW×Int×ByteArray×qE×List ByteArray×ByteArray×ByteArray))->Res):j3a a k=k a:=by
 have g:a.length<=1048576:=j0f h;unfold j3a;rw[Zau (by unfold LIM;omega),Q1]
 have:=ZaB ((0,0,0,eS,[],[],0,eS,[],[],eS,eS)) a id (step:=jbO a) (λb=>k b) (by unfold LIM;omega) (λb i rec d f=>by
  show j5o a _ _ _ _=_
  unfold j5o;dsimp only;simp only[ZaP d,cond_true,j00 d,j00 (show i<b.length by omega),Zax _ _ _ d,ZaE,j01 (n:=(i:Int)+1) (by omega),jxF _ (j0b h (List.getElem_mem d))]
  rfl) (λb rec=>by
  show j5o a _ _ _ _=_
  unfold j5o;dsimp only;rw[ZaO,cond_false])
 rw[List.map_id]at this;exact this
theorem jwz (a:(List (Int×Int×Int×ByteArray×qW×qW×Int×ByteArray×qE×List ByteArray×ByteArray×ByteArray)))(left:Int)(g:0<=left)(h:left<=1048576)(l:Wf y20 a)(k:Int->Res):jbn a left k=k (szR left (msr y20 a)):=by
 have j:a.length<=maxLen:=l.1;have p:msr y20 a=a.length+(a.map (msr y19)).sum:=rfl;rw[p];unfold jbn;refine jq8 (F:=λq=>jek a Z1b q 0 (λd=>k d) (λ_=>k (-1))) (k:=k) g h j λb=> ?_
 unfold jek;rw[ZaA (msr y19) a _ (by omega) (λleft i rec f g h=> ?_) (λleft rec=> ?_) _ (by omega) (by omega)]
 ·by_cases b:(((a.map (msr y19)).sum:Nat):Int)<=left-a.length
  ·rw[QM b,Zaz b]
  ·rw[QN b,Zay b]
 ·show j5l a _ _ _ _ _=_
  have r:=l.2 _ (Q7 f);unfold j5l;rw[ZaP f,Q1,j00 f,Q1,Zax _ _ _ f,jxy _ _ g h r];have m:(i:Int)<4611686018427387904:=by unfold maxLen at j;omega
  rw[j01 (n:=(i:Int)+1) (by omega)]
  by_cases b:((msr y19 a[i]:Nat):Int)<=left
  ·rw[QM b,Zaz b,Za3 (by omega),Q0]
  ·rw[QN b,Zay b,Za4 (by omega),Q1]
 ·show j5l a _ _ _ _ _=_
  unfold j5l;rw[ZaO,Q0]
theorem jw8 (a:(List (Int×Int×Int×ByteArray×qW×qW×Int×ByteArray×qE×List ByteArray×ByteArray×ByteArray)))(h:msr y20 a<=1048576)(k:Bool->Res):jbl a a k=k true:=by
 have d:a.length<=1048576:=j0f h;unfold jbl;rw[ZaN,Q0];unfold jjC;rw[Zaq a _ (by unfold LIM;omega) (λi rec b=> ?_) (λrec=> ?_)]
 ·show j58 a a _ _ _ _=_
  unfold j58;simp only[ZaP b,Q1,j00 b,Zax _ _ _ b,j01 (n:=(i:Int)+1) (by omega),ZaN,Zah,Q0,Q4,jwY _ (j0b h (Q7 b))]
 ·show j58 a a _ _ _ _=_
  unfold j58;rw[ZaO,Q0]
theorem juB (a:(List (Int×Int×Int×ByteArray×qW×qW×Int×ByteArray×qE×List ByteArray×ByteArray×ByteArray)))(k:Int)(h:msr y20 a<=1048576)(B:1<=k)(m:k+(wgt y20 a:Int)<=4294967296)(K:Int->(List (Int×Int×Int×ByteArray×qW×qW×Int×ByteArray×qE×List ByteArray×ByteArray×ByteArray))->Res):j8T a k K=K (k+(wgt y20 a:Int)) (mkL (wgt y19) (mk y19) a k):=by
 have C:a.length<=1048576:=j0f h;have g:wgt y20 a=(a.map (wgt y19)).sum:=rfl;rw[g]at m ⊢;unfold j8T jh6;have:=Z9Y (wgt y19) (mk y19) a k (λl k i=>(l,k,i)) (step:=j6t) (λl k=>K k l) (λl k=>K k l) (by unfold LIM;omega) (λl i rec d b n f=>by
  have z:=Z7A (wgt y19) a i d;have A:=Z9K (wgt y19) a (i+1);generalize E:k+((((a.take i).map (wgt y19)).sum:Nat):Int)=κ;have y:1<=κ/\κ+(wgt y19 a[i]:Int)<=4294967296:=by omega
  have D:(wgt y19 a[i]:Int)=1+1+1+1+(wgt y2 a[i].2.2.2.2.1:Int)+(wgt y2 a[i].2.2.2.2.2.1:Int)+1+1+(wgt y7 a[i].2.2.2.2.2.2.2.2.1:Int)+(wgt y8 a[i].2.2.2.2.2.2.2.2.2.1:Int)+1+1:=by
   have:wgt y19 a[i]=1+1+1+1+(wgt y2 a[i].2.2.2.2.1)+(wgt y2 a[i].2.2.2.2.2.1)+1+1+(wgt y7 a[i].2.2.2.2.2.2.2.2.1)+(wgt y8 a[i].2.2.2.2.2.2.2.2.2.1)+1+1:=by first | rfl | (simp only[wgt];done) | (simp only[wgt];omega)
   first | rfl | omega
  have p:msr y2 a[i].2.2.2.2.1<=1048576:=(Qx (@j0l y2 y14 a[i].2.2.2.2) (Qx (@j02 .str y15 a[i].2.2.2) (Qx (@j02 (.int .i64) y16 a[i].2.2) (Qx (@j02 (.int .i64) y17 a[i].2) (Qx (@j02 (.int .i64) y18 a[i]) (j0b h (Q7 d)))))));have q:msr y2 a[i].2.2.2.2.2.1<=1048576:=(Qx (@j0l y2 y13 a[i].2.2.2.2.2) (Qx (@j02 y2 y14 a[i].2.2.2.2) (Qx (@j02 .str y15 a[i].2.2.2) (Qx (@j02 (.int .i64) y16 a[i].2.2) (Qx (@j02 (.int .i64) y17 a[i].2) (Qx (@j02 (.int .i64) y18 a[i]) (j0b h (Q7 d))))))));have r:msr y7 a[i].2.2.2.2.2.2.2.2.1<=1048576:=(Qx (@j0l y7 y10 a[i].2.2.2.2.2.2.2.2) (Qx (@j02 .str y11 a[i].2.2.2.2.2.2.2) (Qx (@j02 (.int .i64) y12 a[i].2.2.2.2.2.2) (Qx (@j02 y2 y13 a[i].2.2.2.2.2) (Qx (@j02 y2 y14 a[i].2.2.2.2) (Qx (@j02 .str y15 a[i].2.2.2) (Qx (@j02 (.int .i64) y16 a[i].2.2) (Qx (@j02 (.int .i64) y17 a[i].2) (Qx (@j02 (.int .i64) y18 a[i]) (j0b h (Q7 d)))))))))));have w:msr y8 a[i].2.2.2.2.2.2.2.2.2.1<=1048576:=(Qx (@j0l y8 y9 a[i].2.2.2.2.2.2.2.2.2) (Qx (@j02 y7 y10 a[i].2.2.2.2.2.2.2.2) (Qx (@j02 .str y11 a[i].2.2.2.2.2.2.2) (Qx (@j02 (.int .i64) y12 a[i].2.2.2.2.2.2) (Qx (@j02 y2 y13 a[i].2.2.2.2.2) (Qx (@j02 y2 y14 a[i].2.2.2.2) (Qx (@j02 .str y15 a[i].2.2.2) (Qx (@j02 (.int .i64) y16 a[i].2.2) (Qx (@j02 (.int .i64) y17 a[i].2) (Qx (@j02 (.int .i64) y18 a[i]) (j0b h (Q7 d))))))))))));show j1X _ _ _ _ _=_
  dsimp only;unfold j1X j5d j5e j5f j5g j5h j5i j5j;rw[<-b]at d;have j:i<a.length:=by omega
  simp (disch:=first | assumption | omega) only [show nI a.length=nI l.length by rw[b],ZaP,j00,jgq,Q1,jgo,jgr,Zax,f,j01,j1F,jnt,jem,jnu,<-b]
  rw[ZaE];congr 3<;>first | rfl | omega | (simp only[j20,j1c,j3q,j6v,j1Z,j3r,j1e,j28,j1d,j29,Int.natCast_add,Int.natCast_one,<-Int.add_assoc];done) | (simp only[j20,j1c,j3q,j6v,j1Z,j3r,j1e,j28,j1d,j29,Int.natCast_add,Int.natCast_one,<-Int.add_assoc];rfl) | skip) (λl k rec b=>by
  show j1X _ _ _ _ _=_
  dsimp only;unfold j1X j5d j5e j5f j5g j5h j5i j5j;rw[<-b,ZaO,cond_false])
 exact this
end Go.PI.G
namespace Go.PI.G
open Go Go.PI Go.Proofs
theorem jw7 (a:qS×List ByteArray×List ByteArray)(h:msr y38 a<=1048576)(k:Bool->Res):jbk a a k=k true:=by
 have b:msr y17 a.1<=1048576:=(Qx (@j0l y17 y37 a) h);have d:msr y8 a.2.1<=1048576:=(Qx (@j0l y8 y8 a.2) (Qx (@j02 y17 y37 a) h));have f:msr y8 a.2.2<=1048576:=(Qx (@j02 y8 y8 a.2) (Qx (@j02 y17 y37 a) h));unfold jbk;simp only[ZaN,Zah,Xe,Q0,Q4,jrn _ b,jcy _ d,jcy _ f]
end Go.PI.G
namespace Go.PI.G
open Go Go.PI Go.Proofs
theorem jvm (a:(List (qS×List ByteArray×List ByteArray)))(h:msr y39 a<=1048576)(k:Bool->Res):jcN a a k=k true:=by
 have d:a.length<=1048576:=j0f h;unfold jcN;rw[ZaN,Q0];unfold ji6;rw[Zaq a _ (by unfold LIM;omega) (λi rec b=> ?_) (λrec=> ?_)]
 ·show j48 a a _ _ _ _=_
  unfold j48;simp only[ZaP b,Q1,j00 b,Zax _ _ _ b,j01 (n:=(i:Int)+1) (by omega),ZaN,Zah,Q0,Q4,jw7 _ (j0b h (Q7 b))]
 ·show j48 a a _ _ _ _=_
  unfold j48;rw[ZaO,Q0]
theorem jtE (a:(List (qS×List ByteArray×List ByteArray)))(k:Int)(h:msr y39 a<=1048576)(D:1<=k)(m:k+(wgt y39 a:Int)<=4294967296)(K:Int->(List (qS×List ByteArray×List ByteArray))->Res):jay a k K=K (k+(wgt y39 a:Int)) (mkL (wgt y38) (mk y38) a k):=by
 have E:a.length<=1048576:=j0f h;have g:wgt y39 a=(a.map (wgt y38)).sum:=rfl;rw[g]at m ⊢;unfold jay jfV;have:=Z9Y (wgt y38) (mk y38) a k (λl k i=>(l,k,i)) (step:=j5P) (λl k=>K k l) (λl k=>K k l) (by unfold LIM;omega) (λl i rec d b n f=>by
  have B:=Z7A (wgt y38) a i d;have C:=Z9K (wgt y38) a (i+1);generalize G:k+((((a.take i).map (wgt y38)).sum:Nat):Int)=κ;have A:1<=κ/\κ+(wgt y38 a[i]:Int)<=4294967296:=by omega
  have F:(wgt y38 a[i]:Int)=1+1+(wgt y2 a[i].1.2.2.1:Int)+(wgt y2 a[i].1.2.2.2.1:Int)+1+1+(wgt y7 a[i].1.2.2.2.2.2.2.1:Int)+(wgt y8 a[i].1.2.2.2.2.2.2.2.1:Int)+1+1+(wgt y8 a[i].2.1:Int)+(wgt y8 a[i].2.2:Int):=by
   have:wgt y38 a[i]=1+1+(wgt y2 a[i].1.2.2.1)+(wgt y2 a[i].1.2.2.2.1)+1+1+(wgt y7 a[i].1.2.2.2.2.2.2.1)+(wgt y8 a[i].1.2.2.2.2.2.2.2.1)+1+1+(wgt y8 a[i].2.1)+(wgt y8 a[i].2.2):=by first | rfl | (simp only[wgt];done) | (simp only[wgt];omega)
   first | rfl | omega
  have p:msr y2 a[i].1.2.2.1<=1048576:=(Qx (@j0l y2 y14 a[i].1.2.2) (Qx (@j02 .str y15 a[i].1.2) (Qx (@j02 (.int .i64) y16 a[i].1) (Qx (@j0l y17 y37 a[i]) (j0b h (Q7 d))))));have q:msr y2 a[i].1.2.2.2.1<=1048576:=(Qx (@j0l y2 y13 a[i].1.2.2.2) (Qx (@j02 y2 y14 a[i].1.2.2) (Qx (@j02 .str y15 a[i].1.2) (Qx (@j02 (.int .i64) y16 a[i].1) (Qx (@j0l y17 y37 a[i]) (j0b h (Q7 d)))))));have r:msr y7 a[i].1.2.2.2.2.2.2.1<=1048576:=(Qx (@j0l y7 y10 a[i].1.2.2.2.2.2.2) (Qx (@j02 .str y11 a[i].1.2.2.2.2.2) (Qx (@j02 (.int .i64) y12 a[i].1.2.2.2.2) (Qx (@j02 y2 y13 a[i].1.2.2.2) (Qx (@j02 y2 y14 a[i].1.2.2) (Qx (@j02 .str y15 a[i].1.2) (Qx (@j02 (.int .i64) y16 a[i].1) (Qx (@j0l y17 y37 a[i]) (j0b h (Q7 d))))))))));have w:msr y8 a[i].1.2.2.2.2.2.2.2.1<=1048576:=(Qx (@j0l y8 y9 a[i].1.2.2.2.2.2.2.2) (Qx (@j02 y7 y10 a[i].1.2.2.2.2.2.2) (Qx (@j02 .str y11 a[i].1.2.2.2.2.2) (Qx (@j02 (.int .i64) y12 a[i].1.2.2.2.2) (Qx (@j02 y2 y13 a[i].1.2.2.2) (Qx (@j02 y2 y14 a[i].1.2.2) (Qx (@j02 .str y15 a[i].1.2) (Qx (@j02 (.int .i64) y16 a[i].1) (Qx (@j0l y17 y37 a[i]) (j0b h (Q7 d)))))))))));have y:msr y8 a[i].2.1<=1048576:=(Qx (@j0l y8 y8 a[i].2) (Qx (@j02 y17 y37 a[i]) (j0b h (Q7 d))));have z:msr y8 a[i].2.2<=1048576:=(Qx (@j02 y8 y8 a[i].2) (Qx (@j02 y17 y37 a[i]) (j0b h (Q7 d))));show j1y _ _ _ _ _=_
  dsimp only;unfold j1y j49 j4a j4b j4c j4d j4e;rw[<-b]at d;have j:i<a.length:=by omega
  simp (disch:=first | assumption | omega) only [show nI a.length=nI l.length by rw[b],ZaP,j00,jgq,Q1,jgo,jgr,Zax,f,j01,j1F,jnt,jem,jnu,<-b]
  rw[ZaE];congr 3<;>first | rfl | omega | (simp only[j20,j1c,j3q,j6v,j1Z,j3r,j1e,j28,j1d,j29,Int.natCast_add,Int.natCast_one,<-Int.add_assoc];done) | (simp only[j20,j1c,j3q,j6v,j1Z,j3r,j1e,j28,j1d,j29,Int.natCast_add,Int.natCast_one,<-Int.add_assoc];rfl) | skip) (λl k rec b=>by
  show j1y _ _ _ _ _=_
  dsimp only;unfold j1y j49 j4a j4b j4c j4d j4e;rw[<-b,ZaO,cond_false])
 exact this
theorem jtj (a:(List (qS×List ByteArray×List ByteArray)))(k:Int)(h:msr y39 a<=1048576)(E:1<=k)(p:k+(wgt y39 a:Int)<=4294967296)(K:Int->Res):jax (mkL (wgt y38) (mk y38) a k) k K=K (k+(wgt y39 a:Int)):=by
 have F:a.length<=1048576:=j0f h;have g:wgt y39 a=(a.map (wgt y38)).sum:=rfl;rw[g]at p ⊢;have f:=Z6r (wgt y38) (mk y38) a k;have m:=Zat (wgt y38) (mk y38) a k;generalize mkL (wgt y38) (mk y38) a k=l at f m;unfold jax jfU;have:=Z9V (wgt y38) a k (λk i=>(k,i)) (step:=j5O l) ((λ(j:Int)=>K j),(λ(_:Unit)=>K (-1))) (λk=>K k) (by unfold LIM;omega) (λi rec b=>by
  have C:=Z7A (wgt y38) a i b;have D:=Z9K (wgt y38) a (i+1);have d:=m i b (by omega)
  generalize H:k+((((a.take i).map (wgt y38)).sum:Nat):Int)=κ at d;have B:1<=κ/\κ+(wgt y38 a[i]:Int)<=4294967296:=by omega
  have G:(wgt y38 a[i]:Int)=1+1+(wgt y2 a[i].1.2.2.1:Int)+(wgt y2 a[i].1.2.2.2.1:Int)+1+1+(wgt y7 a[i].1.2.2.2.2.2.2.1:Int)+(wgt y8 a[i].1.2.2.2.2.2.2.2.1:Int)+1+1+(wgt y8 a[i].2.1:Int)+(wgt y8 a[i].2.2:Int):=by
   have:wgt y38 a[i]=1+1+(wgt y2 a[i].1.2.2.1)+(wgt y2 a[i].1.2.2.2.1)+1+1+(wgt y7 a[i].1.2.2.2.2.2.2.1)+(wgt y8 a[i].1.2.2.2.2.2.2.2.1)+1+1+(wgt y8 a[i].2.1)+(wgt y8 a[i].2.2):=by first | rfl | (simp only[wgt];done) | (simp only[wgt];omega)
   first | rfl | omega
  have q:msr y2 a[i].1.2.2.1<=1048576:=(Qx (@j0l y2 y14 a[i].1.2.2) (Qx (@j02 .str y15 a[i].1.2) (Qx (@j02 (.int .i64) y16 a[i].1) (Qx (@j0l y17 y37 a[i]) (j0b h (Q7 b))))));have r:msr y2 a[i].1.2.2.2.1<=1048576:=(Qx (@j0l y2 y13 a[i].1.2.2.2) (Qx (@j02 y2 y14 a[i].1.2.2) (Qx (@j02 .str y15 a[i].1.2) (Qx (@j02 (.int .i64) y16 a[i].1) (Qx (@j0l y17 y37 a[i]) (j0b h (Q7 b)))))));have w:msr y7 a[i].1.2.2.2.2.2.2.1<=1048576:=(Qx (@j0l y7 y10 a[i].1.2.2.2.2.2.2) (Qx (@j02 .str y11 a[i].1.2.2.2.2.2) (Qx (@j02 (.int .i64) y12 a[i].1.2.2.2.2) (Qx (@j02 y2 y13 a[i].1.2.2.2) (Qx (@j02 y2 y14 a[i].1.2.2) (Qx (@j02 .str y15 a[i].1.2) (Qx (@j02 (.int .i64) y16 a[i].1) (Qx (@j0l y17 y37 a[i]) (j0b h (Q7 b))))))))));have y:msr y8 a[i].1.2.2.2.2.2.2.2.1<=1048576:=(Qx (@j0l y8 y9 a[i].1.2.2.2.2.2.2.2) (Qx (@j02 y7 y10 a[i].1.2.2.2.2.2.2) (Qx (@j02 .str y11 a[i].1.2.2.2.2.2) (Qx (@j02 (.int .i64) y12 a[i].1.2.2.2.2) (Qx (@j02 y2 y13 a[i].1.2.2.2) (Qx (@j02 y2 y14 a[i].1.2.2) (Qx (@j02 .str y15 a[i].1.2) (Qx (@j02 (.int .i64) y16 a[i].1) (Qx (@j0l y17 y37 a[i]) (j0b h (Q7 b)))))))))));have z:msr y8 a[i].2.1<=1048576:=(Qx (@j0l y8 y8 a[i].2) (Qx (@j02 y17 y37 a[i]) (j0b h (Q7 b))));have A:msr y8 a[i].2.2<=1048576:=(Qx (@j02 y8 y8 a[i].2) (Qx (@j02 y17 y37 a[i]) (j0b h (Q7 b))));show j1x _ _ _ _ _ _=_
  dsimp only;unfold j1x;have n:i<l.length:=by omega
  simp (disch:=first | assumption | omega) only [ZaP,j00,Q1,Q0,Zax,d,j20,j1c,j3q,j6v,j1Z,j3r,j1e,j28,j1d,j29,Int.natCast_add,Int.natCast_one,<-Int.add_assoc,j01,j1F,ZaN,Zah,Xe,Q4,Za3,jus,jqx,jut]
  all_goals (congr 2;omega)) (λk rec=>by
  show j1x _ _ _ _ _ _=_
  dsimp only;unfold j1x;rw[<-f,ZaO,cond_false])
 exact this
end Go.PI.G
namespace Go.PI.G
open Go Go.PI Go.Proofs
theorem jvk (a:Int×Int×List (qS×List ByteArray×List ByteArray))(h:msr y41 a<=1048576)(k:Bool->Res):jcM a a k=k true:=by
 have b:msr y39 a.2.2<=1048576:=(Qx (@j02 (.int .i64) y39 a.2) (Qx (@j02 (.int .i64) y40 a) h));unfold jcM;simp only[ZaN,Zah,Xe,Q0,Q4,jvm _ b]
end Go.PI.G
namespace Go.PI.G
open Go Go.PI Go.Proofs
theorem jiN (a:(List (Int×Int×List (qS×List ByteArray×List ByteArray))))(h:msr y42 a<=1048576)(k:Bool->Res):j2I a a k=k true:=by
 have d:a.length<=1048576:=j0f h;unfold j2I;rw[ZaN,Q0];unfold jgZ;rw[Zaq a _ (by unfold LIM;omega) (λi rec b=> ?_) (λrec=> ?_)]
 ·show j3m a a _ _ _ _=_
  unfold j3m;simp only[ZaP b,Q1,j00 b,Zax _ _ _ b,j01 (n:=(i:Int)+1) (by omega),ZaN,Zah,Q0,Q4,jvk _ (j0b h (Q7 b))]
 ·show j3m a a _ _ _ _=_
  unfold j3m;rw[ZaO,Q0]
theorem jsg (a:(List (Int×Int×List (qS×List ByteArray×List ByteArray))))(k:Int)(h:msr y42 a<=1048576)(y:1<=k)(m:k+(wgt y42 a:Int)<=4294967296)(K:Int->(List (Int×Int×List (qS×List ByteArray×List ByteArray)))->Res):j6r a k K=K (k+(wgt y42 a:Int)) (mkL (wgt y41) (mk y41) a k):=by
 have z:a.length<=1048576:=j0f h;have g:wgt y42 a=(a.map (wgt y41)).sum:=rfl;rw[g]at m ⊢;unfold j6r jf5;have:=Z9Y (wgt y41) (mk y41) a k (λl k i=>(l,k,i)) (step:=j8p) (λl k=>K k l) (λl k=>K k l) (by unfold LIM;omega) (λl i rec d b n f=>by
  have r:=Z7A (wgt y41) a i d;have w:=Z9K (wgt y41) a (i+1);generalize B:k+((((a.take i).map (wgt y41)).sum:Nat):Int)=κ;have q:1<=κ/\κ+(wgt y41 a[i]:Int)<=4294967296:=by omega
  have A:(wgt y41 a[i]:Int)=1+1+(wgt y39 a[i].2.2:Int):=by
   have:wgt y41 a[i]=1+1+(wgt y39 a[i].2.2):=by first | rfl | (simp only[wgt];done) | (simp only[wgt];omega)
   first | rfl | omega
  have p:msr y39 a[i].2.2<=1048576:=(Qx (@j02 (.int .i64) y39 a[i].2) (Qx (@j02 (.int .i64) y40 a[i]) (j0b h (Q7 d))));show j2j _ _ _ _ _=_
  dsimp only;unfold j2j;rw[<-b]at d;have j:i<a.length:=by omega
  simp (disch:=first | assumption | omega) only [show nI a.length=nI l.length by rw[b],ZaP,j00,jgq,Q1,jgo,jgr,Zax,f,j01,j1F,jtE,<-b]
  rw[ZaE];congr 3<;>first | rfl | omega | (simp only[j20,j1c,j3q,j6v,j1Z,j3r,j1e,j28,j1d,j29,Int.natCast_add,Int.natCast_one,<-Int.add_assoc];done) | (simp only[j20,j1c,j3q,j6v,j1Z,j3r,j1e,j28,j1d,j29,Int.natCast_add,Int.natCast_one,<-Int.add_assoc];rfl) | skip) (λl k rec b=>by
  show j2j _ _ _ _ _=_
  dsimp only;unfold j2j;rw[<-b,ZaO,cond_false])
 exact this
theorem jl3 (a:(List (Int×Int×List (qS×List ByteArray×List ByteArray))))(k:Int)(h:msr y42 a<=1048576)(z:1<=k)(p:k+(wgt y42 a:Int)<=4294967296)(K:Int->Res):j3G (mkL (wgt y41) (mk y41) a k) k K=K (k+(wgt y42 a:Int)):=by
 have A:a.length<=1048576:=j0f h;have g:wgt y42 a=(a.map (wgt y41)).sum:=rfl;rw[g]at p ⊢;have d:=Z6r (wgt y41) (mk y41) a k;have m:=Zat (wgt y41) (mk y41) a k;generalize mkL (wgt y41) (mk y41) a k=l at d m;unfold j3G jf4;have:=Z9V (wgt y41) a k (λk i=>(k,i)) (step:=j8o l) ((λ(j:Int)=>K j),(λ(_:Unit)=>K (-1))) (λk=>K k) (by unfold LIM;omega) (λi rec f=>by
  have w:=Z7A (wgt y41) a i f;have y:=Z9K (wgt y41) a (i+1);have b:=m i f (by omega)
  generalize C:k+((((a.take i).map (wgt y41)).sum:Nat):Int)=κ at b;have r:1<=κ/\κ+(wgt y41 a[i]:Int)<=4294967296:=by omega
  have B:(wgt y41 a[i]:Int)=1+1+(wgt y39 a[i].2.2:Int):=by
   have:wgt y41 a[i]=1+1+(wgt y39 a[i].2.2):=by first | rfl | (simp only[wgt];done) | (simp only[wgt];omega)
   first | rfl | omega
  have q:msr y39 a[i].2.2<=1048576:=(Qx (@j02 (.int .i64) y39 a[i].2) (Qx (@j02 (.int .i64) y40 a[i]) (j0b h (Q7 f))));show j2i _ _ _ _ _ _=_
  dsimp only;unfold j2i;have n:i<l.length:=by omega
  simp (disch:=first | assumption | omega) only [ZaP,j00,Q1,Q0,Zax,b,j20,j1c,j3q,j6v,j1Z,j3r,j1e,j28,j1d,j29,Int.natCast_add,Int.natCast_one,<-Int.add_assoc,j01,j1F,ZaN,Zah,Xe,Q4,Za3,jtj]
  all_goals (congr 2;omega)) (λk rec=>by
  show j2i _ _ _ _ _ _=_
  dsimp only;unfold j2i;rw[<-d,ZaO,cond_false])
 exact this
end Go.PI.G
namespace Go.PI.G
open Go Go.PI Go.Proofs
noncomputable def jep (p:List ByteArray)(l:List RC)(f:Int):List BT:=bif !jeo p then [] else (j0V l f).map (jbs p)
theorem jlT (l:List RC)(f:Int):(j0V l f).length<=400/\∀x∈j0V l f,msr yBT x<=498000:=by
 obtain⟨b,d⟩:=jp4 l f;exact⟨b,λx g=>Qx (Z9G (msr yBT) _ x g) d⟩
theorem joK (p:List ByteArray)(g:msr (.slice .str) p<=1048576)(l:List RC)(h:l.length<=1048576)(m:∀r∈l,j12 r.2.2)(f:Int)(k:List BT->Res):j4T p l f k=k (jep p l f):=by
 obtain⟨q,j⟩:=jlT l f;unfold j4T jep;rw[jkz p g];cases jeo p
 ·rfl
 rw[Q4,Q0,Q0,jsB l h m];unfold jb5;have:=Za2 (j0V l f) (λ_ x=>[jbs p x]) (λi b=>(b,i)) (step:=j5T (j0V l f) (nI (j0V l f).length) p) (λb=>k b) (λb=>k b) (by unfold LIM;omega) (λi x=>Qq 1) (λb i rec d w=>by
  show j2W _ _ _ _ _ _ _=_
  unfold j2W;dsimp only;have:=j _ (List.getElem_mem d);rw[ZaP d,cond_true,j00 d,cond_true,Zax _ _ _ d,ju9 p _ g (by omega),j01 (n:=(i:Int)+1) (by omega),ZaK (by unfold LIM;omega),cond_true]) (λb rec=>by
  show j2W _ _ _ _ _ _ _=_
  unfold j2W;dsimp only;rw[ZaO,cond_false])
 refine this.trans ?_;rw[jgO]
theorem jgV (p:List ByteArray)(g:msr (.slice .str) p<=1048576)(l:List RC)(h:l.length<=1048576)(m:∀r∈l,j12 r.2.2)(f:Int)(k:List BT->Res):j1S p l f k=k (jep p l f):=by
 obtain⟨q,j⟩:=jlT l f;unfold j1S jep;rw[jpd p g];cases jeo p
 ·rfl
 rw[Q4,Q0,Q0,jsb l h m];unfold jaV;have:=Za2 (j0V l f) (λ_ x=>[jbs p x]) (λi b=>(b,i)) (step:=j5N (j0V l f) (nI (j0V l f).length) p) (λb=>k b) (λb=>k b) (by unfold LIM;omega) (λi x=>Qq 1) (λb i rec d w=>by
  show j2Q _ _ _ _ _ _ _=_
  unfold j2Q;dsimp only;have:=j _ (List.getElem_mem d);rw[ZaP d,cond_true,j00 d,cond_true,Zax _ _ _ d,jtq p _ g (by omega),j01 (n:=(i:Int)+1) (by omega),ZaK (by unfold LIM;omega),cond_true]) (λb rec=>by
  show j2Q _ _ _ _ _ _ _=_
  unfold j2Q;dsimp only;rw[ZaO,cond_false])
 refine this.trans ?_;rw[jgO]
theorem jwq (p:List ByteArray)(x:BT):msr yBT (jbs p x)<=msr yBT x:=by
 have z:msr yBT ((0,0,[]):BT)<=msr yBT x:=Qg _;unfold jbs;cases jeo p
 ·exact z
 ·cases jk9 x
  ·exact z
  ·have b:msr yBT x=0+(0+msr (.slice yPT) x.2.2):=rfl;have:=jvw (e:=yPT) (λq=>j9Q p q.1.2.1) x.2.2
   show 0+(0+msr (.slice yPT) (x.2.2.filter λq=>j9Q p q.1.2.1))<=msr yBT x
   omega
theorem jvA (p:List ByteArray)(l:List RC)(f:Int):msr (.slice yBT) (jep p l f)<=1048576:=by
 obtain⟨b,d⟩:=jp4 l f;unfold jep;cases jeo p
 ·exact Qg _
 rw[Q4,Q0,jf6,Qy,Yq];have:=jud (f:=msr yBT ∘ jbs p) (g:=msr yBT) (j0V l f) λx _=>jwq p x
 omega
theorem jvE (d:List ByteArray)(y:Wf (.slice .str) d)(g:List RC)(w1:Wf (.slice yRC) g)(i:Int)(w2:Wf (.int .i64) i)(k:Bool->Res):j1T d g i k=k true:=by
 unfold j1T;rw[jxw d 1048576 (by omega) (by omega) y]
 by_cases n:((msr (.slice .str) d:Nat):Int)<=1048576;rotate_left
 ·rw[Zay n];rfl
 have b:msr (.slice .str) d<=1048576:=by omega
 rw[Zaz n,Q2 (by omega),Q0,jwz g (1048576-((msr (.slice .str) d:Nat):Int)) (by omega) (by omega) w1]
 by_cases p:((msr (.slice yRC) g:Nat):Int)<=1048576-((msr (.slice .str) d:Nat):Int);rotate_left
 ·rw[Zay p];rfl
 have f:msr (.slice yRC) g<=1048576:=by omega
 obtain⟨j,l⟩:=jxb f;have h:=jvA d g i;have z:=jmF (τ:= .slice .str) (by decide) b
 have q:=jiZ (.slice .str) d;have A:=jmF (τ:= .slice yRC) (by decide) f
 have B:=jmF (τ:= .slice yBT) (by decide) h
 have r:(1:Int)+((jba (.slice .str) d:Nat):Int)<=4294967296:=by omega
 have w:(1:Int)+((jba (.slice .str) d:Nat):Int)+((wgt (.slice yRC) g:Nat):Int)<=4294967296:=by omega
 have m:(1:Int)+((wgt (.slice yBT) (jep d g i):Nat):Int)<=4294967296:=by omega
 rw[Zaz p,Q2 (by omega),Q0,jkD d b,jin g f,joK d b g j l,jkD d b,jin g f,jgV d b g j l,jiN _ h,Q4,Q0,jkD d b,jwX d b,Q4,Q0,jin g f,jw8 g f,Q4,Q0]
 unfold j1b;rw[jvu d 1 b (by omega) r,juB g _ f (by omega) w,Q2 (by omega),Q0,jiN _ h,Q4,Q0,jsg _ 1 h (by omega) m,jl3 _ 1 h (by omega) m,Q2 (by omega),Q0,ZaN,Q0,jkD d b,jin g f,jgV d b g j l,jiN _ h,Q4,Q0,jl3 _ 1 h (by omega) m,Q2 (by omega),Q0,ZaN,Q0]
end Go.PI.G
