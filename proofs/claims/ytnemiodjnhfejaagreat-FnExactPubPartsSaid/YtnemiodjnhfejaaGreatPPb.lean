/-
  Program's code interpreted over typed values; printed texts; plain laws. No conditions.
-/
import Derived.Test.YtnemiodjnhfejaaGreatPPa
import Derived.Test.YtnemiodjnhfejaaGreatProg
set_option linter.unusedVariables false
namespace Go.PI
open Go
theorem j6e:(τ:Ty)->∀ c∈zeroCells τ,one c=true
 | .int _,c,h=>by simp [zeroCells] at h;subst h;rfl
 | .bool,c,h=>by simp [zeroCells] at h;subst h;rfl
 | .str,c,h=>by simp [zeroCells] at h;subst h;rfl
 | .unit,c,h=>by simp [zeroCells] at h
 | .slice _,c,h=>by simp [zeroCells] at h;subst h;rfl
 | .pair a b,c,h=>by
  simp only [zeroCells,List.mem_append] at h
  exact h.elim (j6e a c) (j6e b c)
section
variable {P:Program} {tys:List (TypeId×Ty×List TypeId)} {S E I B U T:TypeId} {e:Ty} {fl:List TypeId}
theorem j6u (hT:Z0e P tys) {t:TypeId} {τ:Ty} {l:List TypeId} (h:Z0o tys t=some (τ,l)) (w:World):(sizeOf t).run P w= .ok (size τ) w:=by
 obtain ⟨i,z,hi,hs,_⟩:=(hT t τ l h).info
 simp [sizeOf,typeInfo,hi,hs]
theorem jdl (hm:P.follows .mixedOrders=true) (hT:Z0e P tys) (hS:Z0o tys S=some (.slice e,[])) (hu:P.underlying S=some (.slice E)) (hI:Z0o tys I=some (.int .i64,[])) (hB:Z0o tys B=some (.bool,[])) (hE:Z0o tys E=some (e,fl)) :
  ∃ z,SlT P S E I B (size e) z/\∃ i:TypeInfo,P.info? E=some i/\i.size=size e/\i.zero=some z/\i.bytes<=65536:=by
 obtain ⟨i,z,hi,hs,hb,_,hz,hzc,_⟩:=(hT E e fl hE).info
 obtain ⟨iS,zS,hiS,hsS,_,_,hzS,hzcS,hshS⟩:=(hT S _ _ hS).info
 have hzS2:zS= .slice none 0 0:=by
  have h1:one zS=true:=hshS
  have h2:=Z8Q h1
  have h3:zS.cells.toList=[.slice none 0 0]:=hzcS
  cases zS<;>simp_all [Value.oneCell',Value.cells]
 refine ⟨z,⟨hm,hu,λw=>Z6N hT hS w,λw=>j6u hT hS w,λw=> ?_,((hT I _ _ hI).und rfl).1 _ rfl,λw=>Z6N hT hI w,λw=>j6u hT hI w,((hT B _ _ hB).und rfl).2.1 rfl,λw=>Z6N hT hB w,λw=>j6u hT hB w,λw=>j6u hT hE w,λw=> ?_,⟨i,hi,hs⟩,?_,λc hc=> ?_⟩,i,hi,hs,hz,hb⟩
 ·simp [zeroValue,typeInfo,hiS,hzS,hzS2]
 ·simp [zeroValue,typeInfo,hi,hz]
 ·rw [<-Array.length_toList,hzc,(Z30 (w:=default) (F:=λ_=>0) (St:=λ_=>True) (Al:=λ_=>True) e).len.1]
 ·rw [hzc] at hc
  exact j6e e c hc
theorem gS {a b:Sig Unit} {f:FuncId} (s:Z18 P f a) (h:a=b):Z18 P f b:=h ▸ s
theorem jdh {ag:Bool} {τ:Ty} {tg:List Tag} (hm:P.follows .mixedOrders=true) (hT:Z0e P tys) (hS:Z0o tys S=some (.slice e,[])) (hu:P.underlying S=some (.slice E)) (hI:Z0o tys I=some (.int .i64,[])) (hB:Z0o tys B=some (.bool,[])) (hE:Z0o tys E=some (e,fl)) (hag:ag= !fl.isEmpty) (aT:∀ w,(isAgg T).run P w= .ok false w) (zT:∀ w,(sizeOf T).run P w= .ok 1 w)
  (hk1:Nat.ble 1 (size e)=true) (hk2:(ag||Nat.beq (size e) 1)=true) (htg:tg.all (λt=> !t.isN)=true)
  {fx : FuncId} {fnx : Func} (hfx : P.funcs[fx]? = some fnx) (hbx : fnx.body = some (j5W S E I B U T)) (hnx : fnx.ntmps = 19) (hrx : fnx.results = #[.tmp 4]) (hnamex : (fnx.name == "runtime.NumGoroutine") = false)
  {g:FuncId} {gs:Sig Unit} (hg:Z18 P g gs) (hgm:gs.modes=[.look e ag,.rptr τ])
  {f : FuncId} {fn : Func} (hf : P.funcs[f]? = some fn) (hb : fn.body = some (j6x S E I B U T fx)) (hn : fn.ntmps = 42) (hr : fn.results = #[.tmp 4]) (hname : (fn.name == "runtime.NumGoroutine") = false) : Z18 P f (jde e g ag τ tg gs) := by
 obtain ⟨z,L,_⟩:=jdl hm hT hS hu hI hB hE
 exact jcu L hT hE hag (λw=>by rw [hag];exact Z6N hT hE w) aT zT hk1 hk2 htg hfx hbx hnx hrx hnamex hg hgm hf hb hn hr hname
end
end Go.PI
set_option maxRecDepth 100000
namespace Go.PI.G
open Go Go.PI Go.Proofs
open Go.Code (pl pr)
abbrev qV:=Int×Int×ByteArray
abbrev qW:=List qV
abbrev qC:=ByteArray×Int×Bool×Bool×Int×Int×ByteArray
abbrev qE:=List qC
abbrev qT:=ByteArray×qE×List ByteArray
abbrev qB:=ByteArray
abbrev qL:=List ByteArray
abbrev qS:=Int×ByteArray×qW×qW×Int×ByteArray×qE×List ByteArray×ByteArray×ByteArray
abbrev qG:=Int×ByteArray×qE×List ByteArray×ByteArray×ByteArray
abbrev qP:=Int×Int×qS
abbrev qQ:=Int×qP×Int×Int×Int
abbrev qU:=List qS
abbrev y0:Ty:= .slice .str
abbrev y1:Ty:= .pair tI .str
abbrev y2:Ty:= .pair tI y1
abbrev y3:Ty:= .slice y2
abbrev y4:Ty:= .pair .bool y2
abbrev y5:Ty:= .pair .bool y4
abbrev y6:Ty:= .pair tI y5
abbrev y7:Ty:= .pair .str y6
abbrev y8:Ty:= .slice y7
abbrev y9:Ty:= .pair .str .str
abbrev y10:Ty:= .pair y0 y9
abbrev y11:Ty:= .pair y8 y10
abbrev y12:Ty:= .pair .str y11
abbrev y13:Ty:= .pair tI y12
abbrev y14:Ty:= .pair y3 y13
abbrev y15:Ty:= .pair y3 y14
abbrev y16:Ty:= .pair .str y15
abbrev y17:Ty:= .pair tI y16
abbrev y18:Ty:= .pair y0 y0
abbrev y19:Ty:= .pair y17 y18
abbrev y20:Ty:= .slice y19
abbrev y21:Ty:= .pair tI y20
abbrev y22:Ty:= .pair tI y21
abbrev y23:Ty:= .pair y8 y0
abbrev y24:Ty:= .pair .str y23
abbrev y25:Ty:= .slice (.int .u8)
def jdo:qB:=⟨#[109,48]⟩
def z_m:qB:=⟨#[109]⟩
def tys:List (TypeId×Ty×List TypeId):=[(3,tI,[]),
 (4,.bool,[]),
 (5,(.int .u8),[]),
 (9,.str,[]),
 (22,y0,[]),
 (24,y0,[22]),
 (25,y20,[]),
 (27,y22,[3,3,25]),
 (30,y20,[]),
 (32,y22,[3,3,30]),
 (34,y0,[22]),
 (49,y3,[]),
 (52,y3,[]),
 (61,y3,[52]),
 (105,y3,[49]),
 (106,y8,[]),
 (108,y13,[3,9,106,22,9,9]),
 (110,y17,[3,9,49,105,108]),
 (116,y8,[]),
 (118,y13,[3,9,116,22,9,9]),
 (120,y17,[3,9,52,61,118]),
 (132,y19,[120,22,22]),
 (148,y2,[3,3,9]),
 (151,y2,[3,3,9]),
 (162,y24,[9,116,22]),
 (197,y19,[110,22,22]),
 (211,y25,[]),
 (213,y7,[9,3,4,4,151]),
 (291,y7,[9,3,4,4,148])]
theorem follows:Tryz.prog.follows .mixedOrders=true:=by kernel_rfl
theorem j00:Z0e Tryz.prog tys:=ZaE (by kernel_rfl)
end Go.PI.G
namespace Go.PI.G
open Go Go.PI Go.Proofs
open Go.Code (pl pr)
noncomputable def j0M (s1:List qC) (s2:List qC) (t12:Int) (t13:Int) (rec:Int->Res) (k0:Unit->Res) (k1:Unit->Res):Res:=
 bif decide (t13<t12) then
  bif inb t13 (List.length s1) then
   bif inb t13 (List.length s2) then
    bif !((sEq (nth (eS,0,false,false,0,0,eS) s1 t13).1 (nth (eS,0,false,false,0,0,eS) s2 t13).1)&&(((nth (eS,0,false,false,0,0,eS) s1 t13).2.1==(nth (eS,0,false,false,0,0,eS) s2 t13).2.1)&&(((nth (eS,0,false,false,0,0,eS) s1 t13).2.2.1==(nth (eS,0,false,false,0,0,eS) s2 t13).2.2.1)&&(((nth (eS,0,false,false,0,0,eS) s1 t13).2.2.2.1==(nth (eS,0,false,false,0,0,eS) s2 t13).2.2.2.1)&&(((nth (eS,0,false,false,0,0,eS) s1 t13).2.2.2.2.1==(nth (eS,0,false,false,0,0,eS) s2 t13).2.2.2.2.1)&&(((nth (eS,0,false,false,0,0,eS) s1 t13).2.2.2.2.2.1==(nth (eS,0,false,false,0,0,eS) s2 t13).2.2.2.2.2.1)&&(sEq (nth (eS,0,false,false,0,0,eS) s1 t13).2.2.2.2.2.2 (nth (eS,0,false,false,0,0,eS) s2 t13).2.2.2.2.2.2))))))) then
     k1 ()
    else
     rec (Z9L (t13+1))
   else none
  else none
 else
  k0 ()
noncomputable def j2T (s1:List qC) (s2:List qC) (t12:Int):Int->(Int->Res)->((Unit->Res)×(Unit->Res))->Res:=λv rec q=>j0M s1 s2 t12 v (λt13=>rec (t13)) q.1 q.2
noncomputable def j27 (s1:List qC) (s2:List qC) (t12:Int) (n:Nat) (t13:Int) (k0:Unit->Res) (k1:Unit->Res):Res:=Z1g (j2T s1 s2 t12) n (t13) (k0,k1)
noncomputable def j5v:Z1e Unit:=λσ k=>rdN σ 26<|rd1 σ 0 y8 .S λs1=>rd1 σ 1 y8 .S λs2=>rdI σ 12 λt12=>rdI σ 13 λt13=>j27 s1 s2 t12 Z1d t13 (λ(_:Unit)=>k (.exit 0) (mkS 26 26 [] [])) (λ(_:Unit)=>k .ret (mkS 26 26 [(4,vB false)] []))
theorem j7Y {W0:Base} {M:Nat->Prop} (hnp:W0.np<=0):Z15 Tryz.prog W0 M (cAt 58 (bo Tryz.f256)) j5v:=j08 follows j00 Zat hnp [] oN [0,1,12,13] [] ([],[]) [(0,[],[])] ([4],[]) λσ k _ h=>rN h λhn h=>rV h λs1 h0 h=>rV h λs2 h1 h=>rV h λt12 h12 h=>rV h λt13 h13 h=>⟨_,ZaN (m:=26) hn (sC h0 (sC h1 (sC h12 (sC h13 sN)))) bN,.trans (Z9v (λv:Int=>(mkS 26 26 [(0,v1 y8 s1 .S),(1,v1 y8 s2 .S),(12,vI t12),(13,vI v)] [])) (j2T s1 s2 t12) (λ(k:Z84 Unit)=>(((λ(_:Unit)=>k (.exit 0) (mkS 26 26 [] [])),(λ(_:Unit)=>k .ret (mkS 26 26 [(4,vB false)] []))):(Unit->Res)×(Unit->Res))) (λv rec k=>by kernel_rfl) Z1d (t13) k) h⟩
noncomputable def j0H (s1:List qC) (s2:List qC) (k0:Bool->Res):Res:=
 bif ((nI (List.length s1)) != (nI (List.length s2))) then
  k0 false
 else
  j27 s1 s2 (nI (List.length s1)) Z1d 0
   (λ(_:Unit)=>
    k0 true)
   (λ(_:Unit)=>
    k0 false)
noncomputable def j5Z:Sig Unit:=⟨[.look y8 false,.look y8 false],[false],λvals ext k=>av vals y8 λs1 vals=>av vals y8 λs2 vals=>nl vals<|nl ext<|j0H s1 s2 (λ(r0:Bool)=>k [wB r0] [] [])⟩
theorem j8t:Z18 Tryz.prog 256 j5Z:=j02 (np:=0) follows j00 Zat [j5v] (oI 58 0 (j7Y) oN) false Tryz.func256 λ_ _ k _ h=>aV h λ_ _ _ _ _ h=>aV h λ_ _ _ _ _ h=>nL h λ_ h=>nL h λ_ h=>by subst_vars;exact .trans (by kernel_rfl) h
noncomputable def j72 (s1:qL) (s2:qL) (t12:Int) (t13:Int) (rec:Int->Res) (k0:Unit->Res) (k1:Unit->Res):Res:=
 bif decide (t13<t12) then
  bif inb t13 (List.length s1) then
   bif inb t13 (List.length s2) then
    bif sNe (nth eS s1 t13) (nth eS s2 t13) then
     k1 ()
    else
     rec (Z9L (t13+1))
   else none
  else none
 else
  k0 ()
noncomputable def j3J (s1:qL) (s2:qL) (t12:Int):Int->(Int->Res)->((Unit->Res)×(Unit->Res))->Res:=λv rec q=>j72 s1 s2 t12 v (λt13=>rec (t13)) q.1 q.2
noncomputable def j2C (s1:qL) (s2:qL) (t12:Int) (n:Nat) (t13:Int) (k0:Unit->Res) (k1:Unit->Res):Res:=Z1g (j3J s1 s2 t12) n (t13) (k0,k1)
noncomputable def j45:Z1e Unit:=λσ k=>rdN σ 26<|rd1 σ 0 y0 .S λs1=>rd1 σ 1 y0 .S λs2=>rdI σ 12 λt12=>rdI σ 13 λt13=>j2C s1 s2 t12 Z1d t13 (λ(_:Unit)=>k (.exit 0) (mkS 26 26 [] [])) (λ(_:Unit)=>k .ret (mkS 26 26 [(4,vB false)] []))
theorem j77 {W0:Base} {M:Nat->Prop} (hnp:W0.np<=0):Z15 Tryz.prog W0 M (cAt 58 (bo Tryz.f257)) j45:=j08 follows j00 Zat hnp [] oN [0,1,12,13] [] ([],[]) [(0,[],[])] ([4],[]) λσ k _ h=>rN h λhn h=>rV h λs1 h0 h=>rV h λs2 h1 h=>rV h λt12 h12 h=>rV h λt13 h13 h=>⟨_,ZaN (m:=26) hn (sC h0 (sC h1 (sC h12 (sC h13 sN)))) bN,.trans (Z9v (λv:Int=>(mkS 26 26 [(0,v1 y0 s1 .S),(1,v1 y0 s2 .S),(12,vI t12),(13,vI v)] [])) (j3J s1 s2 t12) (λ(k:Z84 Unit)=>(((λ(_:Unit)=>k (.exit 0) (mkS 26 26 [] [])),(λ(_:Unit)=>k .ret (mkS 26 26 [(4,vB false)] []))):(Unit->Res)×(Unit->Res))) (λv rec k=>by kernel_rfl) Z1d (t13) k) h⟩
noncomputable def j17 (s1:qL) (s2:qL) (k0:Bool->Res):Res:=
 bif ((nI (List.length s1)) != (nI (List.length s2))) then
  k0 false
 else
  j2C s1 s2 (nI (List.length s1)) Z1d 0
   (λ(_:Unit)=>
    k0 true)
   (λ(_:Unit)=>
    k0 false)
noncomputable def j4Q:Sig Unit:=⟨[.look y0 false,.look y0 false],[false],λvals ext k=>av vals y0 λs1 vals=>av vals y0 λs2 vals=>nl vals<|nl ext<|j17 s1 s2 (λ(r0:Bool)=>k [wB r0] [] [])⟩
theorem j7B:Z18 Tryz.prog 257 j4Q:=j02 (np:=0) follows j00 Zat [j45] (oI 58 0 (j77) oN) false Tryz.func257 λ_ _ k _ h=>aV h λ_ _ _ _ _ h=>aV h λ_ _ _ _ _ h=>nL h λ_ h=>nL h λ_ h=>by subst_vars;exact .trans (by kernel_rfl) h
noncomputable def j0s (s:qL) (v_:qB) (t7:Int) (t8:Int) (rec:Int->Res) (k0:Unit->Res) (k1:Int->Res):Res:=
 bif decide (t8<t7) then
  bif inb t8 (List.length s) then
   bif sEq v_ (nth eS s t8) then
    k1 t8
   else
    rec (Z9L (t8+1))
  else none
 else
  k0 ()
noncomputable def j1Y (s:qL) (v_:qB) (t7:Int):Int->(Int->Res)->((Unit->Res)×(Int->Res))->Res:=λv rec q=>j0s s v_ t7 v (λt8=>rec (t8)) q.1 q.2
noncomputable def j2D (s:qL) (v_:qB) (t7:Int) (n:Nat) (t8:Int) (k0:Unit->Res) (k1:Int->Res):Res:=Z1g (j1Y s v_ t7) n (t8) (k0,k1)
noncomputable def j46:Z1e Unit:=λσ k=>rdN σ 19<|rd1 σ 0 y0 .S λs=>rdS σ 1 λv_=>rdI σ 7 λt7=>rdI σ 8 λt8=>j2D s v_ t7 Z1d t8 (λ(_:Unit)=>k (.exit 0) (mkS 19 19 [] [])) (λ(t4:Int)=>k .ret (mkS 19 19 [(4,vI t4)] []))
theorem j78 {W0:Base} {M:Nat->Prop} (hnp:W0.np<=0):Z15 Tryz.prog W0 M (cAt 26 (bo Tryz.f166)) j46:=j08 follows j00 Zat hnp [] oN [0,1,7,8] [] ([],[]) [(0,[],[])] ([4],[]) λσ k _ h=>rN h λhn h=>rV h λs h0 h=>rV h λv_ h1 h=>rV h λt7 h7 h=>rV h λt8 h8 h=>⟨_,ZaN (m:=19) hn (sC h0 (sC h1 (sC h7 (sC h8 sN)))) bN,.trans (Z9v (λv:Int=>(mkS 19 19 [(0,v1 y0 s .S),(1,vS v_),(7,vI t7),(8,vI v)] [])) (j1Y s v_ t7) (λ(k:Z84 Unit)=>(((λ(_:Unit)=>k (.exit 0) (mkS 19 19 [] [])),(λ(t4:Int)=>k .ret (mkS 19 19 [(4,vI t4)] []))):(Unit->Res)×(Int->Res))) (λv rec k=>by kernel_rfl) Z1d (t8) k) h⟩
noncomputable def j3s (s:qL) (v_:qB) (k0:Int->Res):Res:=
 j2D s v_ (nI (List.length s)) Z1d 0
  (λ(_:Unit)=>
   k0 (-1))
  (λ(t:Int)=>
   k0 t)
noncomputable def j7M:Sig Unit:=⟨[.look y0 false,.look .str false],[false],λvals ext k=>av vals y0 λs vals=>av vals .str λv_ vals=>nl vals<|nl ext<|j3s s v_ (λ(r0:Int)=>k [wI r0] [] [])⟩
theorem j7C:Z18 Tryz.prog 166 j7M:=j02 (np:=0) follows j00 Zat [j46] (oI 26 0 (j78) oN) false Tryz.func166 λ_ _ k _ h=>aV h λ_ _ _ _ _ h=>aV h λ_ _ _ _ _ h=>nL h λ_ h=>nL h λ_ h=>by subst_vars;exact .trans (by kernel_rfl) h
noncomputable def j1c (s:qL) (v_:qB) (k0:Bool->Res):Res:=
 j3s s v_ λ(r:Int)=>
  k0 (decide (r>=0))
noncomputable def j6Z:Sig Unit:=⟨[.look y0 false,.look .str false],[false],λvals ext k=>av vals y0 λs vals=>av vals .str λv_ vals=>nl vals<|nl ext<|j1c s v_ (λ(r0:Bool)=>k [wB r0] [] [])⟩
theorem j6D:Z18 Tryz.prog 95 j6Z:=j02 (np:=0) follows j00 (Za7 j7C Zat) [] oN false Tryz.func95 λ_ _ k _ h=>aV h λ_ _ _ _ _ h=>aV h λ_ _ _ _ _ h=>nL h λ_ h=>nL h λ_ h=>by subst_vars;exact .trans (by kernel_rfl) h
end Go.PI.G
namespace Go.PI.G
open Go Go.PI Go.Proofs
open Go.Code (pl pr)
noncomputable def j1Z (s:qB) (i:Int) (rec:Int->Res) (k0:Unit->Res) (k1:Unit->Res):Res:=
 bif decide (i<(nI (ByteArray.size s))) then
  bif inb i (ByteArray.size s) then
   bif decide ((bt s i)<97) then
    k1 ()
   else
    bif inb i (ByteArray.size s) then
     bif decide ((bt s i)>122) then
      k1 ()
     else
      rec (Z9L (i+1))
    else none
  else none
 else
  k0 ()
noncomputable def j4J (s:qB):Int->(Int->Res)->((Unit->Res)×(Unit->Res))->Res:=λv rec q=>j1Z s v (λi=>rec (i)) q.1 q.2
noncomputable def j5Q (s:qB) (n:Nat) (i:Int) (k0:Unit->Res) (k1:Unit->Res):Res:=Z1g (j4J s) n (i) (k0,k1)
noncomputable def j7o:Z1e Unit:=λσ k=>rdN σ 28<|rdS σ 0 λs=>rdI σ 3 λi=>j5Q s Z1d i (λ(_:Unit)=>k (.exit 0) (mkS 28 28 [(0,vS s)] [])) (λ(_:Unit)=>k .ret (mkS 28 28 [(2,vB false)] []))
theorem j9Y {W0:Base} {M:Nat->Prop} (hnp:W0.np<=0):Z15 Tryz.prog W0 M (cAt 26 (bo Tryz.f154)) j7o:=j08 follows j00 Zat hnp [] oN [0,3] [] ([],[]) [(0,[0],[])] ([2],[]) λσ k _ h=>rN h λhn h=>rV h λs h0 h=>rV h λi h3 h=>⟨_,ZaN (m:=28) hn (sC h0 (sC h3 sN)) bN,.trans (Z9v (λv:Int=>(mkS 28 28 [(0,vS s),(3,vI v)] [])) (j4J s) (λ(k:Z84 Unit)=>(((λ(_:Unit)=>k (.exit 0) (mkS 28 28 [(0,vS s)] [])),(λ(_:Unit)=>k .ret (mkS 28 28 [(2,vB false)] []))):(Unit->Res)×(Unit->Res))) (λv rec k=>by kernel_rfl) Z1d (i) k) h⟩
noncomputable def j0d (s:qB) (k0:Bool->Res):Res:=
 j5Q s Z1d 0
  (λ(_:Unit)=>
   bif decide ((nI (ByteArray.size s))>=1) then
    k0 (decide ((nI (ByteArray.size s))<=8))
   else
    k0 false)
  (λ(_:Unit)=>
   k0 false)
noncomputable def j1r:Sig Unit:=⟨[.look .str false],[false],λvals ext k=>av vals .str λs vals=>nl vals<|nl ext<|j0d s (λ(r0:Bool)=>k [wB r0] [] [])⟩
theorem j0Z:Z18 Tryz.prog 154 j1r:=j02 (np:=0) follows j00 Zat [j7o] (oI 26 0 (j9Y) oN) false Tryz.func154 λ_ _ k _ h=>aV h λ_ _ _ _ _ h=>nL h λ_ h=>nL h λ_ h=>by subst_vars;exact .trans (by kernel_rfl) h
noncomputable def j7x (n_:Int) (k0:Bool->Res):Res:=
 bif decide (n_>=(-1099511627775)) then
  k0 (decide (n_<=1099511627775))
 else
  k0 false
noncomputable def jb4:Sig Unit:=⟨[.look tI false],[false],λvals ext k=>av vals tI λn_ vals=>nl vals<|nl ext<|j7x n_ (λ(r0:Bool)=>k [wB r0] [] [])⟩
theorem jaV:Z18 Tryz.prog 180 jb4:=j02 (np:=0) follows j00 Zat [] oN false Tryz.func180 λ_ _ k _ h=>aV h λ_ _ _ _ _ h=>nL h λ_ h=>nL h λ_ h=>by subst_vars;exact .trans (by kernel_rfl) h
noncomputable def j44 (v_:Int×Int×qB) (k0:Bool->Res):Res:=
 bif (v_.1==0) then
  bif (v_.2.1==0) then
   k0 (sEq v_.2.2 eS)
  else
   k0 false
 else
  bif (v_.1==1) then
   bif (v_.2.1==0) then
    k0 (sEq v_.2.2 eS)
   else
    bif (v_.2.1==1) then
     k0 (sEq v_.2.2 eS)
    else
     k0 false
  else
   bif (v_.1==2) then
    j7x v_.2.1 λ(r:Bool)=>
     bif r then
      k0 (sEq v_.2.2 eS)
     else
      k0 false
   else
    bif (v_.1==3) then
     bif (v_.2.1==0) then
      k0 (decide ((nI (ByteArray.size v_.2.2))<=30))
     else
      k0 false
    else
     k0 false
noncomputable def j8V:Sig Unit:=⟨[.look y2 true],[false],λvals ext k=>av vals y2 λv_ vals=>nl vals<|nl ext<|j44 v_ (λ(r0:Bool)=>k [wB r0] [] [])⟩
theorem j6F:Z18 Tryz.prog 266 j8V:=j02 (np:=0) follows j00 (Za7 jaV Zat) [] oN false Tryz.func266 λ_ _ k _ h=>aV h λ_ _ _ _ _ h=>nL h λ_ h=>nL h λ_ h=>by subst_vars;exact .trans (by kernel_rfl) h
noncomputable def j07 (x:Int) (lo:Int) (hi:Int) (k0:Bool->Res):Res:=
 bif decide (x>=lo) then
  k0 (decide (x<=hi))
 else
  k0 false
noncomputable def j0E:Sig Unit:=⟨[.look tI false,.look tI false,.look tI false],[false],λvals ext k=>av vals tI λx vals=>av vals tI λlo vals=>av vals tI λhi vals=>nl vals<|nl ext<|j07 x lo hi (λ(r0:Bool)=>k [wB r0] [] [])⟩
theorem j1o:Z18 Tryz.prog 163 j0E:=j02 (np:=0) follows j00 Zat [] oN false Tryz.func163 λ_ _ k _ h=>aV h λ_ _ _ _ _ h=>aV h λ_ _ _ _ _ h=>aV h λ_ _ _ _ _ h=>nL h λ_ h=>nL h λ_ h=>by subst_vars;exact .trans (by kernel_rfl) h
noncomputable def j1O (s:qB) (i:Int) (rec:Int->Res) (k0:Unit->Res) (k1:Unit->Res):Res:=
 bif decide (i<(nI (ByteArray.size s))) then
  bif inb i (ByteArray.size s) then
   bif decide ((bt s i)<97) then
    k1 ()
   else
    bif inb i (ByteArray.size s) then
     bif decide ((bt s i)>122) then
      k1 ()
     else
      rec (Z9L (i+1))
    else none
  else none
 else
  k0 ()
noncomputable def j4w (s:qB):Int->(Int->Res)->((Unit->Res)×(Unit->Res))->Res:=λv rec q=>j1O s v (λi=>rec (i)) q.1 q.2
noncomputable def j3R (s:qB) (n:Nat) (i:Int) (k0:Unit->Res) (k1:Unit->Res):Res:=Z1g (j4w s) n (i) (k0,k1)
noncomputable def j5s:Z1e Unit:=λσ k=>rdN σ 23<|rdS σ 0 λs=>rdI σ 3 λi=>j3R s Z1d i (λ(_:Unit)=>k (.exit 0) (mkS 23 23 [(0,vS s)] [])) (λ(_:Unit)=>k .ret (mkS 23 23 [(2,vB false)] []))
theorem j9Q {W0:Base} {M:Nat->Prop} (hnp:W0.np<=0):Z15 Tryz.prog W0 M (cAt 26 (bo Tryz.f160)) j5s:=j08 follows j00 (Za7 j1o Zat) hnp [] oN [0,3] [] ([],[]) [(0,[0],[])] ([2],[]) λσ k _ h=>rN h λhn h=>rV h λs h0 h=>rV h λi h3 h=>⟨_,ZaN (m:=23) hn (sC h0 (sC h3 sN)) bN,.trans (Z9v (λv:Int=>(mkS 23 23 [(0,vS s),(3,vI v)] [])) (j4w s) (λ(k:Z84 Unit)=>(((λ(_:Unit)=>k (.exit 0) (mkS 23 23 [(0,vS s)] [])),(λ(_:Unit)=>k .ret (mkS 23 23 [(2,vB false)] []))):(Unit->Res)×(Unit->Res))) (λv rec k=>by kernel_rfl) Z1d (i) k) h⟩
noncomputable def j0c (s:qB) (k0:Bool->Res):Res:=
 j3R s Z1d 0
  (λ(_:Unit)=>
   j07 (nI (ByteArray.size s)) 1 8 λ(r:Bool)=>
    k0 r)
  (λ(_:Unit)=>
   k0 false)
noncomputable def j1q:Sig Unit:=⟨[.look .str false],[false],λvals ext k=>av vals .str λs vals=>nl vals<|nl ext<|j0c s (λ(r0:Bool)=>k [wB r0] [] [])⟩
theorem j1n:Z18 Tryz.prog 160 j1q:=j02 (np:=0) follows j00 (Za7 j1o Zat) [j5s] (oI 26 0 (j9Q) oN) false Tryz.func160 λ_ _ k _ h=>aV h λ_ _ _ _ _ h=>nL h λ_ h=>nL h λ_ h=>by subst_vars;exact .trans (by delta j0c j5s j0E;refine gz j3R λ_ e=> ?_;rewrite [<-e];refine gz j07 λ_ e=> ?_;rewrite [<-e];kernel_rfl) h
noncomputable def j30 (v_:Int×Int×qB) (k0:Bool->Res):Res:=
 bif (v_.1==0) then
  k0 ((v_.1==0)&&((v_.2.1==0)&&(sEq v_.2.2 eS)))
 else
  bif (v_.1==1) then
   j07 v_.2.1 0 1 λ(r:Bool)=>
    bif r then
     k0 (sEq v_.2.2 eS)
    else
     k0 false
  else
   bif (v_.1==2) then
    j07 v_.2.1 (-1099511627775) 1099511627775 λ(r1:Bool)=>
     bif r1 then
      k0 (sEq v_.2.2 eS)
     else
      k0 false
   else
    bif (v_.1==3) then
     bif (v_.2.1==0) then
      k0 (decide ((nI (ByteArray.size v_.2.2))<=30))
     else
      k0 false
    else
     k0 false
noncomputable def j8O:Sig Unit:=⟨[.look y2 true],[false],λvals ext k=>av vals y2 λv_ vals=>nl vals<|nl ext<|j30 v_ (λ(r0:Bool)=>k [wB r0] [] [])⟩
theorem j8o:Z18 Tryz.prog 273 j8O:=j02 (np:=0) follows j00 (Za7 j1o Zat) [] oN false Tryz.func273 λ_ _ k _ h=>aV h λ_ _ _ _ _ h=>nL h λ_ h=>nL h λ_ h=>by subst_vars;exact .trans (by delta j30 j0E;refine gz j07 λ_ e=> ?_;rewrite [<-e];kernel_rfl) h
end Go.PI.G
namespace Go.PI.G
open Go Go.PI Go.Proofs
open Go.Code (pl pr)
noncomputable def j2v (c:qB×Int×Bool×Bool×Int×Int×qB) (k0:Bool->Res):Res:=
 j0d c.1 λ(r:Bool)=>
  bif !r then
   k0 false
  else
   bif decide (c.2.1<1) then
    k0 false
   else
    bif decide (c.2.1>3) then
     k0 false
    else
     bif !c.2.2.2.1 then
      k0 ((c.2.2.2.2.1==0)&&((c.2.2.2.2.2.1==0)&&(sEq c.2.2.2.2.2.2 eS)))
     else
      j44 c.2.2.2.2 λ(r1:Bool)=>
       bif r1 then
        bif ((c.2.2.2.2.1==0)&&((c.2.2.2.2.2.1==0)&&(sEq c.2.2.2.2.2.2 eS))) then
         bif ((c.2.2.2.2.1==0)&&((c.2.2.2.2.2.1==0)&&(sEq c.2.2.2.2.2.2 eS))) then
          k0 (!c.2.2.1)
         else
          k0 true
        else
         bif (c.2.2.2.2.1==c.2.1) then
          bif ((c.2.2.2.2.1==0)&&((c.2.2.2.2.2.1==0)&&(sEq c.2.2.2.2.2.2 eS))) then
           k0 (!c.2.2.1)
          else
           k0 true
         else
          k0 false
       else
        k0 false
noncomputable def j3I:Sig Unit:=⟨[.look y7 true],[false],λvals ext k=>av vals y7 λc vals=>nl vals<|nl ext<|j2v c (λ(r0:Bool)=>k [wB r0] [] [])⟩
theorem j8u:Z18 Tryz.prog 267 j3I:=j02 (np:=0) follows j00 (Za7 j0Z (Za7 j6F Zat)) [] oN false Tryz.func267 λ_ _ k _ h=>aV h λ_ _ _ _ _ h=>nL h λ_ h=>nL h λ_ h=>by subst_vars;exact .trans (by delta j2v j1r j8V;refine gz j0d λ_ e=> ?_;rewrite [<-e];refine gz j44 λ_ e=> ?_;rewrite [<-e];kernel_rfl) h
noncomputable def j2u (name:qB) (t8:List qC) (t9:Int) (t10:Int) (rec:Int->Res) (k0:Unit->Res) (k1:Int->Res):Res:=
 bif decide (t10<t9) then
  bif inb t10 (List.length t8) then
   bif sEq (nth (eS,0,false,false,0,0,eS) t8 t10).1 name then
    k1 t10
   else
    rec (Z9L (t10+1))
  else none
 else
  k0 ()
noncomputable def j5k (name:qB) (t8:List qC) (t9:Int):Int->(Int->Res)->((Unit->Res)×(Int->Res))->Res:=λv rec q=>j2u name t8 t9 v (λt10=>rec (t10)) q.1 q.2
noncomputable def j6c (name:qB) (t8:List qC) (t9:Int) (n:Nat) (t10:Int) (k0:Unit->Res) (k1:Int->Res):Res:=Z1g (j5k name t8 t9) n (t10) (k0,k1)
noncomputable def j7Q:Z1e Unit:=λσ k=>rdN σ 21<|rdS σ 1 λname=>rd1 σ 8 y8 .S λt8=>rdI σ 9 λt9=>rdI σ 10 λt10=>j6c name t8 t9 Z1d t10 (λ(_:Unit)=>k (.exit 0) (mkS 21 21 [] [])) (λ(t4:Int)=>k .ret (mkS 21 21 [(4,vI t4)] []))
theorem jas {W0:Base} {M:Nat->Prop} (hnp:W0.np<=0):Z15 Tryz.prog W0 M (cAt 26 (bo Tryz.f230)) j7Q:=j08 follows j00 Zat hnp [] oN [1,8,9,10] [] ([],[]) [(0,[],[])] ([4],[]) λσ k _ h=>rN h λhn h=>rV h λname h1 h=>rV h λt8 h8 h=>rV h λt9 h9 h=>rV h λt10 h10 h=>⟨_,ZaN (m:=21) hn (sC h1 (sC h8 (sC h9 (sC h10 sN)))) bN,.trans (Z9v (λv:Int=>(mkS 21 21 [(1,vS name),(8,v1 y8 t8 .S),(9,vI t9),(10,vI v)] [])) (j5k name t8 t9) (λ(k:Z84 Unit)=>(((λ(_:Unit)=>k (.exit 0) (mkS 21 21 [] [])),(λ(t4:Int)=>k .ret (mkS 21 21 [(4,vI t4)] []))):(Unit->Res)×(Int->Res))) (λv rec k=>by kernel_rfl) Z1d (t10) k) h⟩
noncomputable def j42 (t:qB×qE×qL) (name:qB) (k0:Int->Res):Res:=
 j6c name t.2.1 (nI (List.length t.2.1)) Z1d 0
  (λ(_:Unit)=>
   k0 (-1))
  (λ(t1:Int)=>
   k0 t1)
noncomputable def j70:Sig Unit:=⟨[.look y24 true,.look .str false],[false],λvals ext k=>av vals y24 λt vals=>av vals .str λname vals=>nl vals<|nl ext<|j42 t name (λ(r0:Int)=>k [wI r0] [] [])⟩
theorem jbp:Z18 Tryz.prog 230 j70:=j02 (np:=0) follows j00 Zat [j7Q] (oI 26 0 (jas) oN) false Tryz.func230 λ_ _ k _ h=>aV h λ_ _ _ _ _ h=>aV h λ_ _ _ _ _ h=>nL h λ_ h=>nL h λ_ h=>by subst_vars;exact .trans (by kernel_rfl) h
theorem j3O:Fns Tryz.prog [(154,j1r),(230,j70),(267,j3I)]:=(Za7 j0Z (Za7 jbp (Za7 j8u Zat)))
noncomputable def j2A (t:qB×qE×qL) (k0:Bool->Res):Res:=
 j0d t.1 λ(r:Bool)=>
  bif !r then
   k0 true
  else
   bif decide ((nI (List.length t.2.1))<1) then
    k0 true
   else
    bif decide ((nI (List.length t.2.1))>8) then
     k0 true
    else
     k0 (decide ((nI (List.length t.2.2))<1))
noncomputable def j24:Z1e Unit:=λσ k=>rdN σ 75<|rdT σ 1 (pB 1)<|rdB σ 1 y24 [.S,.S] λa t=>j2A t (λ(t30:Bool)=>k .normal (mkS 75 75 [(1,pB 1),(30,vB t30)] [(1,⟨y24,a,t,[.S,.S]⟩)]))
theorem j9t {W0:Base} {M:Nat->Prop} (hnp:W0.np<=0):Z15 Tryz.prog W0 M (cAt 12 (bo Tryz.f227)) j24:=j2s follows j00 j3O hnp [] oN ([1,30],[1]) [] ([],[]) λσ k _ h=>rN h λhn h=>rT h λh1 h=>rB h λa t hb1 h=>⟨_,ZaN (m:=75) hn (sC h1 sN) (bC hb1 bN),.trans (by kernel_rfl) h⟩
noncomputable def j0X (t32:List qC) (t33:Int) (t:qB×qE×qL) (t34:Int) (rec:Int->Res) (k0:Unit->Res) (k1:Unit->Res):Res:=
 bif decide (t34<t33) then
  bif inb t34 (List.length t32) then
   j2v (nth (eS,0,false,false,0,0,eS) t32 t34) λ(r:Bool)=>
    bif !r then
     k1 ()
    else
     j42 t (nth (eS,0,false,false,0,0,eS) t32 t34).1 λ(r1:Int)=>
      bif (r1 != t34) then
       k1 ()
      else
       rec (Z9L (t34+1))
  else none
 else
  k0 ()
noncomputable def j2J (t32:List qC) (t33:Int) (t:qB×qE×qL):Int->(Int->Res)->((Unit->Res)×(Unit->Res))->Res:=λv rec q=>j0X t32 t33 t v (λt34=>rec (t34)) q.1 q.2
noncomputable def j2y (t32:List qC) (t33:Int) (t:qB×qE×qL) (n:Nat) (t34:Int) (k0:Unit->Res) (k1:Unit->Res):Res:=Z1g (j2J t32 t33 t) n (t34) (k0,k1)
noncomputable def j37:Z1e Unit:=λσ k=>rdN σ 75<|rdT σ 1 (pB 1)<|rd1 σ 32 y8 .S λt32=>rdI σ 33 λt33=>rdI σ 34 λt34=>rdB σ 1 y24 [.S,.S] λa t=>j2y t32 t33 t Z1d t34 (λ(_:Unit)=>k (.exit 0) (mkS 75 75 [(1,pB 1)] [(1,⟨y24,a,t,[.S,.S]⟩)])) (λ(_:Unit)=>k .ret (mkS 75 75 [(2,vB false)] []))
theorem j9r {W0:Base} {M:Nat->Prop} (hnp:W0.np<=0):Z15 Tryz.prog W0 M (cAt 58 (bo Tryz.f227)) j37:=j08 follows j00 j3O hnp [j24] oN [1,32,33,34] [1] ([],[]) [(0,[1],[1])] ([2],[]) λσ k _ h=>rN h λhn h=>rT h λh1 h=>rV h λt32 h32 h=>rV h λt33 h33 h=>rV h λt34 h34 h=>rB h λa t hb1 h=>⟨_,ZaN (m:=75) hn (sC h1 (sC h32 (sC h33 (sC h34 sN)))) (bC hb1 bN),.trans (Z9v (λv:Int=>(mkS 75 75 [(1,pB 1),(32,v1 y8 t32 .S),(33,vI t33),(34,vI v)] [(1,⟨y24,a,t,[.S,.S]⟩)])) (j2J t32 t33 t) (λ(k:Z84 Unit)=>(((λ(_:Unit)=>k (.exit 0) (mkS 75 75 [(1,pB 1)] [(1,⟨y24,a,t,[.S,.S]⟩)])),(λ(_:Unit)=>k .ret (mkS 75 75 [(2,vB false)] []))):(Unit->Res)×(Unit->Res))) (λv rec k=>by delta j2J j0X j3I j70;refine gz j2v λ_ e=> ?_;rewrite [<-e];refine gz j42 λ_ e=> ?_;rewrite [<-e];kernel_rfl) Z1d (t34) k) h⟩
noncomputable def j1G (t52:qL) (t53:Int) (t:qB×qE×qL) (last:Int) (t54:Int) (rec:Int->Int->Res) (k0:Unit->Res) (k1:Unit->Res):Res:=
 bif decide (t54<t53) then
  bif inb t54 (List.length t52) then
   j42 t (nth eS t52 t54) λ(r:Int)=>
    bif decide (r<=last) then
     k1 ()
    else
     bif inb r (List.length t.2.1) then
      bif !(nth (eS,0,false,false,0,0,eS) t.2.1 r).2.2.1 then
       k1 ()
      else
       rec r (Z9L (t54+1))
     else none
  else none
 else
  k0 ()
noncomputable def j4e (t52:qL) (t53:Int) (t:qB×qE×qL):(Int×Int)->(Int×Int->Res)->((Unit->Res)×(Unit->Res))->Res:=λv rec q=>j1G t52 t53 t v.1 v.2 (λlast t54=>rec (last,t54)) q.1 q.2
noncomputable def j2z (t52:qL) (t53:Int) (t:qB×qE×qL) (n:Nat) (last:Int) (t54:Int) (k0:Unit->Res) (k1:Unit->Res):Res:=Z1g (j4e t52 t53 t) n (last,t54) (k0,k1)
noncomputable def j4P:Z1e Unit:=λσ k=>rdN σ 75<|rdT σ 1 (pB 1)<|rdI σ 5 λlast=>rd1 σ 52 y0 .S λt52=>rdI σ 53 λt53=>rdI σ 54 λt54=>rdB σ 1 y24 [.S,.S] λa t=>j2z t52 t53 t Z1d last t54 (λ(_:Unit)=>k (.exit 2) (mkS 75 75 [] [])) (λ(_:Unit)=>k .ret (mkS 75 75 [(2,vB false)] []))
theorem j9s {W0:Base} {M:Nat->Prop} (hnp:W0.np<=0):Z15 Tryz.prog W0 M (cAt 250 (bo Tryz.f227)) j4P:=j08 follows j00 j3O hnp [j24,j37] oN [1,5,52,53,54] [1] ([],[]) [(2,[],[])] ([2],[]) λσ k _ h=>rN h λhn h=>rT h λh1 h=>rV h λlast h5 h=>rV h λt52 h52 h=>rV h λt53 h53 h=>rV h λt54 h54 h=>rB h λa t hb1 h=>⟨_,ZaN (m:=75) hn (sC h1 (sC h5 (sC h52 (sC h53 (sC h54 sN))))) (bC hb1 bN),.trans (Z9v (λv:Int×Int=>(mkS 75 75 [(1,pB 1),(5,vI v.1),(52,v1 y0 t52 .S),(53,vI t53),(54,vI v.2)] [(1,⟨y24,a,t,[.S,.S]⟩)])) (j4e t52 t53 t) (λ(k:Z84 Unit)=>(((λ(_:Unit)=>k (.exit 2) (mkS 75 75 [] [])),(λ(_:Unit)=>k .ret (mkS 75 75 [(2,vB false)] []))):(Unit->Res)×(Unit->Res))) (λv rec k=>by kernel_rfl) Z1d (last,t54) k) h⟩
noncomputable def j2W (t:qB×qE×qL) (k0:Bool->Res):Res:=
 j2A t λ(t1:Bool)=>
  bif t1 then
   k0 false
  else
   j2y t.2.1 (nI (List.length t.2.1)) t Z1d 0
    (λ(_:Unit)=>
     j2z t.2.2 (nI (List.length t.2.2)) t Z1d (-1) 0
      (λ(_:Unit)=>
       k0 true)
      (λ(_:Unit)=>
       k0 false))
    (λ(_:Unit)=>
     k0 false)
noncomputable def j5N:Sig Unit:=⟨[.look y24 true],[false],λvals ext k=>av vals y24 λt vals=>nl vals<|nl ext<|j2W t (λ(r0:Bool)=>k [wB r0] [] [])⟩
theorem jal:Z18 Tryz.prog 227 j5N:=j02 (np:=0) follows j00 j3O [j24,j37,j4P] (oI 12 0 (j9t) (oI 58 1 (j9r) (oI 250 2 (j9s) oN))) false Tryz.func227 λ_ _ k _ h=>aV h λ_ _ _ _ _ h=>nL h λ_ h=>nL h λ_ h=>by subst_vars;exact .trans (by delta j2W j24 j37 j4P;refine gz j2A λ_ e=> ?_;rewrite [<-e];refine gz j2y λ_ e=> ?_;rewrite [<-e];refine gz j2z λ_ e=> ?_;rewrite [<-e];kernel_rfl) h
theorem j8m:Fns Tryz.prog [(154,j1r),(227,j5N),(267,j3I)]:=(Za7 j0Z (Za7 jal (Za7 j8u Zat)))
noncomputable def j3f (d:qG) (k0:Bool->Res):Res:=
 bif ((nI (List.length d.2.2.1))==0) then
  k0 ((nI (List.length d.2.2.2.1))==0)
 else
  k0 false
noncomputable def j5S:Z1e Unit:=λσ k=>rdN σ 123<|rdT σ 1 (pB 1)<|rdB σ 1 y13 [.S,.S] λa d=>j3f d (λ(plain:Bool)=>k .normal (mkS 123 123 [(1,pB 1),(3,vB plain)] [(1,⟨y13,a,d,[.S,.S]⟩)]))
theorem jat {W0:Base} {M:Nat->Prop} (hnp:W0.np<=0):Z15 Tryz.prog W0 M (cAt 14 (bo Tryz.f210)) j5S:=j2s follows j00 j8m hnp [] oN ([1,3],[1]) [] ([],[]) λσ k _ h=>rN h λhn h=>rT h λh1 h=>rB h λa d hb1 h=>⟨_,ZaN (m:=123) hn (sC h1 sN) (bC hb1 bN),.trans (by kernel_rfl) h⟩
noncomputable def j43 (d:qG) (k0:Bool->Res):Res:=
 j0d d.2.1 λ(r:Bool)=>
  bif !r then
   k0 false
  else
   j3f d λ(plain:Bool)=>
    bif (d.1==1) then
     bif sEq d.2.2.2.2.1 eS then
      bif sEq d.2.2.2.2.2 eS then
       j2W (d.2.1,d.2.2.1,d.2.2.2.1) λ(r1:Bool)=>
        k0 r1
      else
       k0 false
     else
      k0 false
    else
     bif (d.1==2) then
      bif plain then
       bif sEq d.2.2.2.2.1 eS then
        k0 (sEq d.2.2.2.2.2 eS)
       else
        k0 false
      else
       k0 false
     else
      bif (d.1==3) then
       bif ((nI (List.length d.2.2.1))==1) then
        bif inb 0 (List.length d.2.2.1) then
         j2v (nth (eS,0,false,false,0,0,eS) d.2.2.1 0) λ(r2:Bool)=>
          bif r2 then
           bif inb 0 (List.length d.2.2.1) then
            bif (nth (eS,0,false,false,0,0,eS) d.2.2.1 0).2.2.2.1 then
             bif ((nI (List.length d.2.2.2.1))==0) then
              bif sEq d.2.2.2.2.1 eS then
               k0 (sEq d.2.2.2.2.2 eS)
              else
               k0 false
             else
              k0 false
            else
             bif inb 0 (List.length d.2.2.1) then
              bif !(nth (eS,0,false,false,0,0,eS) d.2.2.1 0).2.2.1 then
               bif ((nI (List.length d.2.2.2.1))==0) then
                bif sEq d.2.2.2.2.1 eS then
                 k0 (sEq d.2.2.2.2.2 eS)
                else
                 k0 false
               else
                k0 false
              else
               k0 false
             else none
           else none
          else
           k0 false
        else none
       else
        k0 false
      else
       bif (d.1==4) then
        bif plain then
         j0d d.2.2.2.2.1 λ(r3:Bool)=>
          bif r3 then
           k0 (sEq d.2.2.2.2.2 eS)
          else
           k0 false
        else
         k0 false
       else
        bif (d.1==5) then
         bif plain then
          j0d d.2.2.2.2.1 λ(r4:Bool)=>
           bif r4 then
            j0d d.2.2.2.2.2 λ(r5:Bool)=>
             k0 r5
           else
            k0 false
         else
          k0 false
        else
         k0 false
noncomputable def j71:Sig Unit:=⟨[.look y13 true],[false],λvals ext k=>av vals y13 λd vals=>nl vals<|nl ext<|j43 d (λ(r0:Bool)=>k [wB r0] [] [])⟩
theorem jbq:Z18 Tryz.prog 210 j71:=j02 (np:=0) follows j00 j8m [j5S] (oI 14 0 (jat) oN) false Tryz.func210 λ_ _ k _ h=>aV h λ_ _ _ _ _ h=>nL h λ_ h=>nL h λ_ h=>by subst_vars;exact .trans (by delta j43 j1r j5S j5N j3I;refine gz j0d λ_ e=> ?_;rewrite [<-e];refine gz j3f λ_ e=> ?_;rewrite [<-e];refine gz j2W λ_ e=> ?_;rewrite [<-e];refine gz j2v λ_ e=> ?_;rewrite [<-e];kernel_rfl) h
noncomputable def j20 (s:qB) (t7:qL) (t8:Int) (t9:Int) (rec:Int->Res) (k0:Unit->Res) (k1:Unit->Res):Res:=
 bif decide (t9<t8) then
  bif inb t9 (List.length t7) then
   bif sEq (nth eS t7 t9) s then
    k1 ()
   else
    rec (Z9L (t9+1))
  else none
 else
  k0 ()
noncomputable def j4K (s:qB) (t7:qL) (t8:Int):Int->(Int->Res)->((Unit->Res)×(Unit->Res))->Res:=λv rec q=>j20 s t7 t8 v (λt9=>rec (t9)) q.1 q.2
noncomputable def j5R (s:qB) (t7:qL) (t8:Int) (n:Nat) (t9:Int) (k0:Unit->Res) (k1:Unit->Res):Res:=Z1g (j4K s t7 t8) n (t9) (k0,k1)
noncomputable def j7p:Z1e Unit:=λσ k=>rdN σ 17<|rdS σ 1 λs=>rd1 σ 7 y0 .S λt7=>rdI σ 8 λt8=>rdI σ 9 λt9=>j5R s t7 t8 Z1d t9 (λ(_:Unit)=>k (.exit 0) (mkS 17 17 [] [])) (λ(_:Unit)=>k .ret (mkS 17 17 [(4,vB true)] []))
theorem j9Z {W0:Base} {M:Nat->Prop} (hnp:W0.np<=0):Z15 Tryz.prog W0 M (cAt 26 (bo Tryz.f157)) j7p:=j08 follows j00 Zat hnp [] oN [1,7,8,9] [] ([],[]) [(0,[],[])] ([4],[]) λσ k _ h=>rN h λhn h=>rV h λs h1 h=>rV h λt7 h7 h=>rV h λt8 h8 h=>rV h λt9 h9 h=>⟨_,ZaN (m:=17) hn (sC h1 (sC h7 (sC h8 (sC h9 sN)))) bN,.trans (Z9v (λv:Int=>(mkS 17 17 [(1,vS s),(7,v1 y0 t7 .S),(8,vI t8),(9,vI v)] [])) (j4K s t7 t8) (λ(k:Z84 Unit)=>(((λ(_:Unit)=>k (.exit 0) (mkS 17 17 [] [])),(λ(_:Unit)=>k .ret (mkS 17 17 [(4,vB true)] []))):(Unit->Res)×(Unit->Res))) (λv rec k=>by kernel_rfl) Z1d (t9) k) h⟩
noncomputable def j4p (l:qL) (s:qB) (k0:Bool->Res):Res:=
 j5R s l (nI (List.length l)) Z1d 0
  (λ(_:Unit)=>
   k0 false)
  (λ(_:Unit)=>
   k0 true)
noncomputable def j8k:Sig Unit:=⟨[.look y0 false,.look .str false],[false],λvals ext k=>av vals y0 λl vals=>av vals .str λs vals=>nl vals<|nl ext<|j4p l s (λ(r0:Bool)=>k [wB r0] [] [])⟩
theorem jaW:Z18 Tryz.prog 157 j8k:=j02 (np:=0) follows j00 Zat [j7p] (oI 26 0 (j9Z) oN) false Tryz.func157 λ_ _ k _ h=>aV h λ_ _ _ _ _ h=>aV h λ_ _ _ _ _ h=>nL h λ_ h=>nL h λ_ h=>by subst_vars;exact .trans (by kernel_rfl) h
noncomputable def j0v (l:qL) (k0:qL->Res):Res:=
 bif lim (0+(List.length l)) then
  k0 l
 else none
noncomputable def j6W:Sig Unit:=⟨[.borrow y0 false],[false],λvals ext k=>av vals y0 λl vals=>nl vals<|nl ext<|j0v l (λ(r0:qL)=>k [w1 y0 r0 .O] [] [])⟩
theorem j4s:Z18 Tryz.prog 217 j6W:=j02 (np:=0) follows j00 Zat [] oN false Tryz.func217 λ_ _ k _ h=>aV h λ_ _ _ _ _ h=>nL h λ_ h=>nL h λ_ h=>by subst_vars;exact .trans (by kernel_rfl) h
noncomputable def j5E (t:qB×qE×qL) (k0:qT->Res):Res:=
 bif lim (0+(List.length t.2.1)) then
  j0v t.2.2 λ(r:qL)=>
   k0 (t.1,t.2.1,r)
 else none
noncomputable def j9x:Sig Unit:=⟨[.borrow y24 true],[true],λvals ext k=>av vals y24 λt vals=>nl vals<|nl ext<|j5E t (λ(r0:qB×qE×qL)=>k [⟨y24,true,r0,[.O,.O]⟩] [] [])⟩
theorem j9e:Z18 Tryz.prog 283 j9x:=j02 (np:=0) follows j00 (Za7 j4s Zat) [] oN false Tryz.func283 λ_ _ k _ h=>aV h λ_ _ _ _ _ h=>nL h λ_ h=>nL h λ_ h=>by subst_vars;exact .trans (by kernel_rfl) h
noncomputable def j38 (d:qG) (k0:qT->Res):Res:=
 j5E (d.2.1,d.2.2.1,d.2.2.2.1) λ(r:qB×qE×qL)=>
  k0 r
noncomputable def j7f:Sig Unit:=⟨[.borrow y13 true],[true],λvals ext k=>av vals y13 λd vals=>nl vals<|nl ext<|j38 d (λ(r0:qB×qE×qL)=>k [⟨y24,true,r0,[.O,.O]⟩] [] [])⟩
theorem j9A:Z18 Tryz.prog 269 j7f:=j02 (np:=0) follows j00 (Za7 j9e Zat) [] oN false Tryz.func269 λ_ _ k _ h=>aV h λ_ _ _ _ _ h=>nL h λ_ h=>nL h λ_ h=>by subst_vars;exact .trans (by kernel_rfl) h
noncomputable def j2l (c:qB×Int×Bool×Bool×Int×Int×qB) (k0:Bool->Res):Res:=
 j0c c.1 λ(r:Bool)=>
  bif !r then
   k0 false
  else
   j07 c.2.1 1 3 λ(r1:Bool)=>
    bif !r1 then
     k0 false
    else
     j30 c.2.2.2.2 λ(r2:Bool)=>
      bif !r2 then
       k0 false
      else
       bif !c.2.2.2.1 then
        k0 ((c.2.2.2.2.1==0)&&((c.2.2.2.2.2.1==0)&&(sEq c.2.2.2.2.2.2 eS)))
       else
        bif (c.2.2.2.2.1==c.2.1) then
         k0 true
        else
         bif (c.2.2.2.2.1==0) then
          k0 (!c.2.2.1)
         else
          k0 false
noncomputable def j5a:Sig Unit:=⟨[.look y7 true],[false],λvals ext k=>av vals y7 λc vals=>nl vals<|nl ext<|j2l c (λ(r0:Bool)=>k [wB r0] [] [])⟩
theorem j8n:Z18 Tryz.prog 270 j5a:=j02 (np:=0) follows j00 (Za7 j1n (Za7 j1o (Za7 j8o Zat))) [] oN false Tryz.func270 λ_ _ k _ h=>aV h λ_ _ _ _ _ h=>nL h λ_ h=>nL h λ_ h=>by subst_vars;exact .trans (by delta j2l j1q j0E j8O;refine gz j0c λ_ e=> ?_;rewrite [<-e];refine gz j07 λ_ e=> ?_;rewrite [<-e];refine gz j30 λ_ e=> ?_;rewrite [<-e];kernel_rfl) h
noncomputable def j7t (c:qB×Int×Bool×Bool×Int×Int×qB) (t1:qB) (k0:Bool->Res):Res:=
 k0 (sEq c.1 t1)
noncomputable def jb0:Sig Unit:=⟨[.look y7 true,.rptr .str],[false],λvals ext k=>av vals y7 λc vals=>av vals .str λt1 vals=>nl vals<|nl ext<|j7t c t1 (λ(r0:Bool)=>k [wB r0] [] [])⟩
theorem j83:Z18 Tryz.prog 308 jb0:=j02 (np:=0) follows j00 Zat [] oN false Tryz.func308 λ_ _ k _ h=>aV h λ_ _ _ _ _ h=>aV h λ_ _ _ _ _ h=>nL h λ_ h=>nL h λ_ h=>by subst_vars;exact .trans (by kernel_rfl) h
noncomputable def j0n (s:List qC) (f:qB) (t7:Int) (t8:Int) (rec:Int->Res) (k0:Unit->Res) (k1:Int->Res):Res:=
 bif decide (t8<t7) then
  bif inb t8 (List.length s) then
   j7t (nth (eS,0,false,false,0,0,eS) s t8) f λ(r:Bool)=>
    bif r then
     k1 t8
    else
     rec (Z9L (t8+1))
  else none
 else
  k0 ()
noncomputable def j1J (s:List qC) (f:qB) (t7:Int):Int->(Int->Res)->((Unit->Res)×(Int->Res))->Res:=λv rec q=>j0n s f t7 v (λt8=>rec (t8)) q.1 q.2
noncomputable def j29 (s:List qC) (f:qB) (t7:Int) (n:Nat) (t8:Int) (k0:Unit->Res) (k1:Int->Res):Res:=Z1g (j1J s f t7) n (t8) (k0,k1)
noncomputable def j3M:Z1e Unit:=λσ k=>rdN σ 19<|rd1 σ 0 y8 .S λs=>rdC σ 1 308 [.str] .str [] λf=>rdI σ 7 λt7=>rdI σ 8 λt8=>j29 s f t7 Z1d t8 (λ(_:Unit)=>k (.exit 0) (mkS 19 19 [] [])) (λ(t4:Int)=>k .ret (mkS 19 19 [(4,vI t4)] []))
theorem j6Q {W0:Base} {M:Nat->Prop} (hnp:W0.np<=0):Z15 Tryz.prog W0 M (cAt 26 (bo Tryz.f307)) j3M:=j08 follows j00 (Za7 j83 Zat) hnp [] oN [0,1,7,8] [] ([],[]) [(0,[],[])] ([4],[]) λσ k _ h=>rN h λhn h=>rV h λs h0 h=>rC h λf h1 h=>rV h λt7 h7 h=>rV h λt8 h8 h=>⟨_,ZaN (m:=19) hn (sC h0 (sC h1 (sC h7 (sC h8 sN)))) bN,.trans (Z9v (λv:Int=>(mkS 19 19 [(0,v1 y8 s .S),(1,.sclos 308 [.str] ⟨.str,false,f,[]⟩),(7,vI t7),(8,vI v)] [])) (j1J s f t7) (λ(k:Z84 Unit)=>(((λ(_:Unit)=>k (.exit 0) (mkS 19 19 [] [])),(λ(t4:Int)=>k .ret (mkS 19 19 [(4,vI t4)] []))):(Unit->Res)×(Int->Res))) (λv rec k=>by kernel_rfl) Z1d (t8) k) h⟩
noncomputable def j31 (s:List qC) (f:qB) (k0:Int->Res):Res:=
 j29 s f (nI (List.length s)) Z1d 0
  (λ(_:Unit)=>
   k0 (-1))
  (λ(t:Int)=>
   k0 t)
noncomputable def j7u:Sig Unit:=⟨[.look y8 false,.rclos 308 [.str]],[false],λvals ext k=>av vals y8 λs vals=>av vals .str λf vals=>nl vals<|nl ext<|j31 s f (λ(r0:Int)=>k [wI r0] [] [])⟩
theorem j7r:Z18 Tryz.prog 307 j7u:=j02 (np:=0) follows j00 (Za7 j83 Zat) [j3M] (oI 26 0 (j6Q) oN) false Tryz.func307 λ_ _ k _ h=>aV h λ_ _ _ _ _ h=>aV h λ_ _ _ _ _ h=>nL h λ_ h=>nL h λ_ h=>by subst_vars;exact .trans (by kernel_rfl) h
noncomputable def j3P (t:qB×qE×qL) (name:qB) (k0:Int->Res):Res:=
 j31 t.2.1 name λ(r:Int)=>
  k0 r
noncomputable def j6T:Sig Unit:=⟨[.look y24 true,.look .str false],[false],λvals ext k=>av vals y24 λt vals=>av vals .str λname vals=>nl vals<|nl ext<|j3P t name (λ(r0:Int)=>k [wI r0] [] [])⟩
theorem jbd:Z18 Tryz.prog 284 j6T:=j02 (np:=0) follows j00 (Za7 j7r Zat) [] oN false Tryz.func284 λ_ _ k _ h=>aV h λ_ _ _ _ _ h=>aV h λ_ _ _ _ _ h=>nL h λ_ h=>nL h λ_ h=>by subst_vars;exact .trans (by kernel_rfl) h
theorem j5z:Fns Tryz.prog [(160,j1q),(163,j0E),(270,j5a),(284,j6T)]:=(Za7 j1n (Za7 j1o (Za7 j8n (Za7 jbd Zat))))
noncomputable def j0V (t10:List qC) (t11:Int) (t:qB×qE×qL) (t12:Int) (rec:Int->Res) (k0:Unit->Res) (k1:Unit->Res):Res:=
 bif decide (t12<t11) then
  bif inb t12 (List.length t10) then
   j2l (nth (eS,0,false,false,0,0,eS) t10 t12) λ(r:Bool)=>
    bif !r then
     k1 ()
    else
     j3P t (nth (eS,0,false,false,0,0,eS) t10 t12).1 λ(r1:Int)=>
      bif (r1 != t12) then
       k1 ()
      else
       rec (Z9L (t12+1))
  else none
 else
  k0 ()
noncomputable def j2G (t10:List qC) (t11:Int) (t:qB×qE×qL):Int->(Int->Res)->((Unit->Res)×(Unit->Res))->Res:=λv rec q=>j0V t10 t11 t v (λt12=>rec (t12)) q.1 q.2
noncomputable def j2n (t10:List qC) (t11:Int) (t:qB×qE×qL) (n:Nat) (t12:Int) (k0:Unit->Res) (k1:Unit->Res):Res:=Z1g (j2G t10 t11 t) n (t12) (k0,k1)
noncomputable def j35:Z1e Unit:=λσ k=>rdN σ 68<|rdT σ 1 (pB 1)<|rd1 σ 10 y8 .S λt10=>rdI σ 11 λt11=>rdI σ 12 λt12=>rdB σ 1 y24 [.S,.S] λa t=>j2n t10 t11 t Z1d t12 (λ(_:Unit)=>k (.exit 0) (mkS 68 68 [(1,pB 1)] [(1,⟨y24,a,t,[.S,.S]⟩)])) (λ(_:Unit)=>k .ret (mkS 68 68 [(2,vB false)] []))
theorem j9k {W0:Base} {M:Nat->Prop} (hnp:W0.np<=0):Z15 Tryz.prog W0 M (cAt 26 (bo Tryz.f268)) j35:=j08 follows j00 j5z hnp [] oN [1,10,11,12] [1] ([],[]) [(0,[1],[1])] ([2],[]) λσ k _ h=>rN h λhn h=>rT h λh1 h=>rV h λt10 h10 h=>rV h λt11 h11 h=>rV h λt12 h12 h=>rB h λa t hb1 h=>⟨_,ZaN (m:=68) hn (sC h1 (sC h10 (sC h11 (sC h12 sN)))) (bC hb1 bN),.trans (Z9v (λv:Int=>(mkS 68 68 [(1,pB 1),(10,v1 y8 t10 .S),(11,vI t11),(12,vI v)] [(1,⟨y24,a,t,[.S,.S]⟩)])) (j2G t10 t11 t) (λ(k:Z84 Unit)=>(((λ(_:Unit)=>k (.exit 0) (mkS 68 68 [(1,pB 1)] [(1,⟨y24,a,t,[.S,.S]⟩)])),(λ(_:Unit)=>k .ret (mkS 68 68 [(2,vB false)] []))):(Unit->Res)×(Unit->Res))) (λv rec k=>by delta j2G j0V j5a j6T;refine gz j2l λ_ e=> ?_;rewrite [<-e];refine gz j3P λ_ e=> ?_;rewrite [<-e];kernel_rfl) Z1d (t12) k) h⟩
noncomputable def j1w (t30:qL) (t31:Int) (t:qB×qE×qL) (last:Int) (t32:Int) (rec:Int->Int->Res) (k0:Unit->Res) (k1:Unit->Res):Res:=
 bif decide (t32<t31) then
  bif inb t32 (List.length t30) then
   j3P t (nth eS t30 t32) λ(r:Int)=>
    bif decide (r<=last) then
     k1 ()
    else
     bif inb r (List.length t.2.1) then
      bif !(nth (eS,0,false,false,0,0,eS) t.2.1 r).2.2.1 then
       k1 ()
      else
       rec r (Z9L (t32+1))
     else none
  else none
 else
  k0 ()
noncomputable def j48 (t30:qL) (t31:Int) (t:qB×qE×qL):(Int×Int)->(Int×Int->Res)->((Unit->Res)×(Unit->Res))->Res:=λv rec q=>j1w t30 t31 t v.1 v.2 (λlast t32=>rec (last,t32)) q.1 q.2
noncomputable def j2o (t30:qL) (t31:Int) (t:qB×qE×qL) (n:Nat) (last:Int) (t32:Int) (k0:Unit->Res) (k1:Unit->Res):Res:=Z1g (j48 t30 t31 t) n (last,t32) (k0,k1)
noncomputable def j4N:Z1e Unit:=λσ k=>rdN σ 68<|rdT σ 1 (pB 1)<|rdI σ 5 λlast=>rd1 σ 30 y0 .S λt30=>rdI σ 31 λt31=>rdI σ 32 λt32=>rdB σ 1 y24 [.S,.S] λa t=>j2o t30 t31 t Z1d last t32 (λ(_:Unit)=>k (.exit 2) (mkS 68 68 [(1,pB 1)] [(1,⟨y24,a,t,[.S,.S]⟩)])) (λ(_:Unit)=>k .ret (mkS 68 68 [(2,vB false)] []))
theorem j9l {W0:Base} {M:Nat->Prop} (hnp:W0.np<=0):Z15 Tryz.prog W0 M (cAt 122 (bo Tryz.f268)) j4N:=j08 follows j00 j5z hnp [j35] oN [1,5,30,31,32] [1] ([],[]) [(2,[1],[1])] ([2],[]) λσ k _ h=>rN h λhn h=>rT h λh1 h=>rV h λlast h5 h=>rV h λt30 h30 h=>rV h λt31 h31 h=>rV h λt32 h32 h=>rB h λa t hb1 h=>⟨_,ZaN (m:=68) hn (sC h1 (sC h5 (sC h30 (sC h31 (sC h32 sN))))) (bC hb1 bN),.trans (Z9v (λv:Int×Int=>(mkS 68 68 [(1,pB 1),(5,vI v.1),(30,v1 y0 t30 .S),(31,vI t31),(32,vI v.2)] [(1,⟨y24,a,t,[.S,.S]⟩)])) (j48 t30 t31 t) (λ(k:Z84 Unit)=>(((λ(_:Unit)=>k (.exit 2) (mkS 68 68 [(1,pB 1)] [(1,⟨y24,a,t,[.S,.S]⟩)])),(λ(_:Unit)=>k .ret (mkS 68 68 [(2,vB false)] []))):(Unit->Res)×(Unit->Res))) (λv rec k=>by kernel_rfl) Z1d (last,t32) k) h⟩
noncomputable def j2O (t:qB×qE×qL) (k0:Bool->Res):Res:=
 j2n t.2.1 (nI (List.length t.2.1)) t Z1d 0
  (λ(_:Unit)=>
   j2o t.2.2 (nI (List.length t.2.2)) t Z1d (-1) 0
    (λ(_:Unit)=>
     j0c t.1 λ(r:Bool)=>
      bif r then
       j07 (nI (List.length t.2.1)) 1 8 λ(r1:Bool)=>
        bif r1 then
         k0 (decide ((nI (List.length t.2.2))>0))
        else
         k0 false
      else
       k0 false)
    (λ(_:Unit)=>
     k0 false))
  (λ(_:Unit)=>
   k0 false)
noncomputable def j7K:Sig Unit:=⟨[.look y24 true],[false],λvals ext k=>av vals y24 λt vals=>nl vals<|nl ext<|j2O t (λ(r0:Bool)=>k [wB r0] [] [])⟩
theorem jaa:Z18 Tryz.prog 268 j7K:=j02 (np:=0) follows j00 j5z [j35,j4N] (oI 26 0 (j9k) (oI 122 1 (j9l) oN)) false Tryz.func268 λ_ _ k _ h=>aV h λ_ _ _ _ _ h=>nL h λ_ h=>nL h λ_ h=>by subst_vars;exact .trans (by delta j2O j35 j4N j1q j0E;refine gz j2n λ_ e=> ?_;rewrite [<-e];refine gz j2o λ_ e=> ?_;rewrite [<-e];refine gz j0c λ_ e=> ?_;rewrite [<-e];refine gz j07 λ_ e=> ?_;rewrite [<-e];kernel_rfl) h
noncomputable def j0b (a:qG) (b:qG) (k0:Bool->Res):Res:=
 bif (a.1==b.1) then
  bif sEq a.2.1 b.2.1 then
   j0H a.2.2.1 b.2.2.1 λ(r:Bool)=>
    bif r then
     j17 a.2.2.2.1 b.2.2.2.1 λ(r1:Bool)=>
      bif r1 then
       bif sEq a.2.2.2.2.1 b.2.2.2.2.1 then
        k0 (sEq a.2.2.2.2.2 b.2.2.2.2.2)
       else
        k0 false
      else
       k0 false
    else
     k0 false
  else
   k0 false
 else
  k0 false
noncomputable def j3w:Sig Unit:=⟨[.look y13 true,.look y13 true],[false],λvals ext k=>av vals y13 λa vals=>av vals y13 λb vals=>nl vals<|nl ext<|j0b a b (λ(r0:Bool)=>k [wB r0] [] [])⟩
theorem j7c:Z18 Tryz.prog 212 j3w:=j02 (np:=0) follows j00 (Za7 j8t (Za7 j7B Zat)) [] oN false Tryz.func212 λ_ _ k _ h=>aV h λ_ _ _ _ _ h=>aV h λ_ _ _ _ _ h=>nL h λ_ h=>nL h λ_ h=>by subst_vars;exact .trans (by delta j0b j5Z j4Q;refine gz j0H λ_ e=> ?_;rewrite [<-e];refine gz j17 λ_ e=> ?_;rewrite [<-e];kernel_rfl) h
noncomputable def j3Q (d:qG) (k0:Bool->Res):Res:=
 j0c d.2.1 λ(r:Bool)=>
  bif !r then
   k0 false
  else
   bif (d.1==1) then
    j38 d λ(r1:qB×qE×qL)=>
     j2O r1 λ(r2:Bool)=>
      bif r2 then
       bif sEq d.2.2.2.2.1 eS then
        k0 (sEq d.2.2.2.2.2 eS)
       else
        k0 false
      else
       k0 false
   else
    bif (d.1==2) then
     j0b d (d.1,d.2.1,[],[],eS,eS) λ(r3:Bool)=>
      k0 r3
    else
     bif (d.1==3) then
      j0b d (d.1,d.2.1,d.2.2.1,[],eS,eS) λ(r4:Bool)=>
       bif r4 then
        bif ((nI (List.length d.2.2.1))==1) then
         bif inb 0 (List.length d.2.2.1) then
          j2l (nth (eS,0,false,false,0,0,eS) d.2.2.1 0) λ(r5:Bool)=>
           bif r5 then
            bif inb 0 (List.length d.2.2.1) then
             bif (nth (eS,0,false,false,0,0,eS) d.2.2.1 0).2.2.2.1 then
              k0 true
             else
              bif inb 0 (List.length d.2.2.1) then
               k0 (!(nth (eS,0,false,false,0,0,eS) d.2.2.1 0).2.2.1)
              else none
            else none
           else
            k0 false
         else none
        else
         k0 false
       else
        k0 false
     else
      bif (d.1==4) then
       j0b d (d.1,d.2.1,[],[],d.2.2.2.2.1,eS) λ(r6:Bool)=>
        bif r6 then
         j0c d.2.2.2.2.1 λ(r7:Bool)=>
          k0 r7
        else
         k0 false
      else
       bif (d.1==5) then
        j0b d (d.1,d.2.1,[],[],d.2.2.2.2.1,d.2.2.2.2.2) λ(r8:Bool)=>
         bif r8 then
          j0c d.2.2.2.2.1 λ(r9:Bool)=>
           bif r9 then
            j0c d.2.2.2.2.2 λ(r10:Bool)=>
             k0 r10
           else
            k0 false
         else
          k0 false
       else
        k0 false
noncomputable def j6U:Sig Unit:=⟨[.look y13 true],[false],λvals ext k=>av vals y13 λd vals=>nl vals<|nl ext<|j3Q d (λ(r0:Bool)=>k [wB r0] [] [])⟩
theorem jbe:Z18 Tryz.prog 211 j6U:=j02 (np:=0) follows j00 (Za7 j1n (Za7 j7c (Za7 jaa (Za7 j9A (Za7 j8n Zat))))) [] oN false Tryz.func211 λ_ _ k _ h=>aV h λ_ _ _ _ _ h=>nL h λ_ h=>nL h λ_ h=>by subst_vars;exact .trans (by delta j3Q j1q j7f j7K j3w j5a;refine gz j0c λ_ e=> ?_;rewrite [<-e];refine gz j38 λ_ e=> ?_;rewrite [<-e];refine gz j2O λ_ e=> ?_;rewrite [<-e];refine gz j0b λ_ e=> ?_;rewrite [<-e];refine gz j2l λ_ e=> ?_;rewrite [<-e];kernel_rfl) h
noncomputable def j4V (d:qG) (k0:qG->Res):Res:=
 bif lim (0+(List.length d.2.2.1)) then
  j0v d.2.2.2.1 λ(r:qL)=>
   k0 (d.1,d.2.1,d.2.2.1,r,d.2.2.2.2)
 else none
noncomputable def j7L:Sig Unit:=⟨[.borrow y13 true],[true],λvals ext k=>av vals y13 λd vals=>nl vals<|nl ext<|j4V d (λ(r0:qG)=>k [⟨y13,true,r0,[.O,.O]⟩] [] [])⟩
theorem jac:Z18 Tryz.prog 275 j7L:=j02 (np:=0) follows j00 (Za7 j4s Zat) [] oN false Tryz.func275 λ_ _ k _ h=>aV h λ_ _ _ _ _ h=>nL h λ_ h=>nL h λ_ h=>by subst_vars;exact .trans (by kernel_rfl) h
end Go.PI.G
namespace Go.PI.G
open Go Go.PI Go.Proofs
open Go.Code (pl pr)
noncomputable def j7y (r:List qV) (k0:qW->Res):Res:=
 bif lim (0+(List.length r)) then
  k0 r
 else none
noncomputable def jb5:Sig Unit:=⟨[.borrow y3 true],[true],λvals ext k=>av vals y3 λr vals=>nl vals<|nl ext<|j7y r (λ(r0:List qV)=>k [⟨y3,true,r0,[.O]⟩] [] [])⟩
theorem jaX:Z18 Tryz.prog 115 jb5:=j02 (np:=0) follows j00 Zat [] oN false Tryz.func115 λ_ _ k _ h=>aV h λ_ _ _ _ _ h=>nL h λ_ h=>nL h λ_ h=>by subst_vars;exact .trans (by kernel_rfl) h
noncomputable def j3a (l:List qV) (k0:qW->Res):Res:=
 bif lim (0+(List.length l)) then
  k0 l
 else none
noncomputable def j7h:Sig Unit:=⟨[.borrow y3 false],[false],λvals ext k=>av vals y3 λl vals=>nl vals<|nl ext<|j3a l (λ(r0:List qV)=>k [w1 y3 r0 .O] [] [])⟩
theorem j9E:Z18 Tryz.prog 178 j7h:=j02 (np:=0) follows j00 Zat [] oN false Tryz.func178 λ_ _ k _ h=>aV h λ_ _ _ _ _ h=>nL h λ_ h=>nL h λ_ h=>by subst_vars;exact .trans (by kernel_rfl) h
end Go.PI.G
namespace Go.PI.G
open Go Go.PI Go.Proofs
open Go.Code (pl pr)
noncomputable def j0S (s:qS) (k0:qS->Res):Res:=
 bif lim (0+(List.length s.2.2.1)) then
  j7y s.2.2.2.1 λ(r:List qV)=>
   bif lim (0+(List.length s.2.2.2.2.2.2.1)) then
    bif lim (0+(List.length s.2.2.2.2.2.2.2.1)) then
     k0 (s.1,s.2.1,s.2.2.1,r,s.2.2.2.2.1,s.2.2.2.2.2.1,s.2.2.2.2.2.2.1,s.2.2.2.2.2.2.2.1,s.2.2.2.2.2.2.2.2)
    else none
   else none
 else none
noncomputable def j7N:Sig Unit:=⟨[.borrow y17 true],[true],λvals ext k=>av vals y17 λs vals=>nl vals<|nl ext<|j0S s (λ(r0:qS)=>k [⟨y17,true,r0,[.O,.O,.O,.O]⟩] [] [])⟩
theorem jan:Z18 Tryz.prog 158 j7N:=j02 (np:=0) follows j00 (Za7 jaX Zat) [] oN false Tryz.func158 λ_ _ k _ h=>aV h λ_ _ _ _ _ h=>nL h λ_ h=>nL h λ_ h=>by subst_vars;exact .trans (by kernel_rfl) h
end Go.PI.G
