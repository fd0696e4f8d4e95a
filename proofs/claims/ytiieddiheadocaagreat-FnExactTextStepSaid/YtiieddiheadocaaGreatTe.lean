/-
  Program's code interpreted over typed values; printed texts; plain laws. No conditions.
-/
import Derived.Test.YtiieddiheadocaaGreatTa
import Derived.Test.YtiieddiheadocaaGreatTc
import Derived.Test.YtiieddiheadocaaGreatTb
import Derived.Test.YtiieddiheadocaaGreatTd
set_option linter.unusedVariables false
set_option maxRecDepth 100000
namespace Go.PI.G
open Go Go.PI Go.Proofs
open Go.Code (pl pr)
noncomputable def j5T:Code:=(Tryz.f177.body).getD .skip
noncomputable def jbI:Env Unit:=⟨tys,[],0⟩
noncomputable def j2T (s:qB) (b:Int) (out:qL) (from_:Int) (i:Int) (rec:qL->Int->Int->Res) (k0:qL->Int->Res):Res:=
 bif decide (i<(nI (ByteArray.size s))) then
  bif inb i (ByteArray.size s) then
   bif ((bt s i)==b) then
    bif Z6R from_ i (ByteArray.size s) then
     bif lim ((List.length out)+1) then
      rec (out++[Z9k s from_ i]) (Z8g (i+1)) (Z8g (i+1))
     else none
    else none
   else
    rec out from_ (Z8g (i+1))
  else none
 else
  k0 out from_
noncomputable def j2U (s:qB) (b:Int):(qL×Int×Int)->(qL×Int×Int->Res)->((qL->Int->Res))->Res:=λv rec q=>j2T s b v.1 v.2.1 v.2.2 (λout from_ i=>rec (out,from_,i)) q
noncomputable def jb7 (s:qB) (b:Int) (n:Nat) (out:qL) (from_:Int) (i:Int) (k0:qL->Int->Res):Res:=Z10 (j2U s b) n (out,from_,i) (k0)
noncomputable def j71:Z1l Unit:=λσ k=>rdN σ 35<|rdV σ 0 .str false [] λs=>rdV σ 1 (.int .u8) false [] λb=>rdV σ 5 y9 false [.O] λout=>rdV σ 6 (.int .i64) false [] λfrom_=>rdV σ 7 (.int .i64) false [] λi=>jb7 s b Z0Y out from_ i (λ(out1:qL) (from_1:Int)=>k (.exit 0) (mkS 35 35 [(0,.val ⟨.str,false,s,[]⟩),(5,.val ⟨y9,false,out1,[.O]⟩),(6,.val ⟨(.int .i64),false,from_1,[]⟩)] []))
theorem jiX (s:qB) (b:Int) (n:Nat) (v:qL×Int×Int) (k:Z6G Unit):Z3X (Z0R jbI [] .o (pl (pl (pr (pl (pr (pr (pr j5T)))))))) (λσ=>σ.forget [0,1,5,6,7] []) (Z8a ([],[]) [(0,[0,5,6],[])] ([],[])) n (mkS 35 35 [(0,.val ⟨.str,false,s,[]⟩),(1,.val ⟨(.int .u8),false,b,[]⟩),(5,.val ⟨y9,false,v.1,[.O]⟩),(6,.val ⟨(.int .i64),false,v.2.1,[]⟩),(7,.val ⟨(.int .i64),false,v.2.2,[]⟩)] []) k=Z10 (j2U s b) n v ((λ(k:Z6G Unit)=>(((λ(out1:qL) (from_1:Int)=>k (.exit 0) (mkS 35 35 [(0,.val ⟨.str,false,s,[]⟩),(5,.val ⟨y9,false,out1,[.O]⟩),(6,.val ⟨(.int .i64),false,from_1,[]⟩)] []))):(qL->Int->Res))) k):=Z80 (λv:qL×Int×Int=>(mkS 35 35 [(0,.val ⟨.str,false,s,[]⟩),(1,.val ⟨(.int .u8),false,b,[]⟩),(5,.val ⟨y9,false,v.1,[.O]⟩),(6,.val ⟨(.int .i64),false,v.2.1,[]⟩),(7,.val ⟨(.int .i64),false,v.2.2,[]⟩)] [])) (j2U s b) (λ(k:Z6G Unit)=>(((λ(out1:qL) (from_1:Int)=>k (.exit 0) (mkS 35 35 [(0,.val ⟨.str,false,s,[]⟩),(5,.val ⟨y9,false,out1,[.O]⟩),(6,.val ⟨(.int .i64),false,from_1,[]⟩)] []))):(qL->Int->Res))) (λv rec k=>by kernel_rfl) n v k
theorem jjp {W0:Base} {M:Nat->Prop} (hnp:W0.np<=0):Z1W Tryz.prog W0 M (pl (pr (pl (pr (pr (pr j5T)))))) j71:=show Z1W Tryz.prog W0 M (Code.loop (pl (pl (pr (pl (pr (pr (pr j5T)))))))) j71 from Z8X (Z6Q follows j01 (Z7K Z8W) hnp [] (pl (pl (pr (pl (pr (pr (pr j5T))))))) .o trivial) (ks:=[0,1,5,6,7]) (bs:=[]) (fX:=(Z8a ([],[]) [(0,[0,5,6],[])] ([],[]))) (Z8U _ _ _) Z0Y (by
 intro σ k r h
 obtain ⟨hn,h1⟩:=Z8G h
 obtain ⟨s,hs0,h2⟩:=Z8J h1
 obtain ⟨b,hs1,h3⟩:=Z8J h2
 obtain ⟨out,hs5,h4⟩:=Z8J h3
 obtain ⟨from_,hs6,h5⟩:=Z8J h4
 obtain ⟨i,hs7,h6⟩:=Z8J h5
 refine ⟨_,?_,(jiX s b Z0Y (out,from_,i) k).trans h6⟩
 exact Z9e hn ⟨hs0,hs1,hs5,hs6,hs7,trivial⟩ trivial)
noncomputable def j8r (s:qB) (b:Int) (k0:qL->Res):Res:=
 jb7 s b Z0Y [] 0 0 λ(out:qL) (from_:Int)=>
  bif Z6R from_ (nI (ByteArray.size s)) (ByteArray.size s) then
   bif lim ((List.length out)+1) then
    k0 (out++[Z9k s from_ (nI (ByteArray.size s))])
   else none
  else none
noncomputable def jfa:Sig Unit:=⟨[.borrow .str false,.borrow (.int .u8) false],[false],λvals ext k=>av vals .str λs vals=>av vals (.int .u8) λb vals=>nl vals<|nl ext<|j8r s b (λ(r0:qL)=>k [⟨y9,false,r0,[.S]⟩] [] [])⟩
theorem jlU (s:qB) (a_s:Bool) (t_s:List Tag) (b:Int) (a_b:Bool) (t_b:List Tag) (k:qK):Z6X jbI [j71] (.t .o (.t .o (.t .o (.t (.t .o (.t (.x 0) .o)) .o)))) true Tryz.f177 [.borrow .str false,.borrow (.int .u8) false] [false] [⟨.str,a_s,s,t_s⟩,⟨(.int .u8),a_b,b,t_b⟩] [] k=j8r s b (λ(r0:qL)=>k [⟨y9,false,r0,[.S]⟩] [] []):=by kernel_rfl
theorem jm4:Z1k Tryz.prog 177 jfa:=Z8N (Γ:=jbI) (X:=[j71]) (ht:=(.t .o (.t .o (.t .o (.t (.t .o (.t (.x 0) .o)) .o))))) (fz:=true) (c:=j5T) follows j01 Z8W (Z1A.mk trivial ((Z1A.mk trivial ((Z1A.mk trivial ((Z1A.mk ((Z1A.mk trivial ((Z1A.mk (Z1A.x_mk (λW0 M hnp=>jjp (W0:=W0) (M:=M) hnp)) trivial)))) trivial))))))) Tryz.func177 (by kernel_rfl) (by kernel_rfl) (by decide) (by
 intro vals ext k r h
 obtain ⟨s,a_s,t_s,vals,rfl,h1⟩:=Z8T h
 obtain ⟨b,a_b,t_b,vals,rfl,h2⟩:=Z8T h1
 obtain ⟨rfl,h3⟩:=Z90 h2
 obtain ⟨rfl,h4⟩:=Z90 h3
 exact (jlU s a_s t_s b a_b t_b k).trans h4)
noncomputable def jq7:Code:=(Tryz.f109.body).getD .skip
noncomputable def jhV:Env Unit:=⟨tys,[(177,jfa)],0⟩
noncomputable def j6l (s:qB) (k0:qL->Res):Res:=
 j8r s 32 λ(r:qL)=>
  k0 r
noncomputable def j9H:Sig Unit:=⟨[.borrow .str false],[false],λvals ext k=>av vals .str λs vals=>nl vals<|nl ext<|j6l s (λ(r0:qL)=>k [⟨y9,false,r0,[.S]⟩] [] [])⟩
theorem jpP (s:qB) (a_s:Bool) (t_s:List Tag) (k:qK):Z6X jhV [] .o false Tryz.f109 [.borrow .str false] [false] [⟨.str,a_s,s,t_s⟩] [] k=j6l s (λ(r0:qL)=>k [⟨y9,false,r0,[.S]⟩] [] []):=by kernel_rfl
theorem j0N:Z1k Tryz.prog 109 j9H:=Z8N (Γ:=jhV) (X:=[]) (ht:= .o) (fz:=false) (c:=jq7) follows j01 (Z8C jm4 Z8W) trivial Tryz.func109 (by kernel_rfl) (by kernel_rfl) (by decide) (by
 intro vals ext k r h
 obtain ⟨s,a_s,t_s,vals,rfl,h1⟩:=Z8T h
 obtain ⟨rfl,h2⟩:=Z90 h1
 obtain ⟨rfl,h3⟩:=Z90 h2
 exact (jpP s a_s t_s k).trans h3)
noncomputable def j9o:Code:=(Tryz.f220.body).getD .skip
noncomputable def jdX:Env Unit:=⟨tys,[],0⟩
noncomputable def j6m (t5:qL) (t6:Int) (t7:Int) (rec:Int->Res) (k0:Unit->Res) (k1:Int->Res):Res:=
 bif decide (t7<t6) then
  bif inb t7 (List.length t5) then
   bif sEq (nth eS t5 t7) j1C then
    k1 t7
   else
    rec (Z8g (t7+1))
  else none
 else
  k0 ()
noncomputable def j9b (t5:qL) (t6:Int):Int->(Int->Res)->((Unit->Res)×(Int->Res))->Res:=λv rec q=>j6m t5 t6 v (λt7=>rec (t7)) q.1 q.2
noncomputable def jdy (t5:qL) (t6:Int) (n:Nat) (t7:Int) (k0:Unit->Res) (k1:Int->Res):Res:=Z10 (j9b t5 t6) n (t7) (k0,k1)
noncomputable def jal:Z1l Unit:=λσ k=>rdN σ 18<|rdV σ 0 y9 false [.S] λw=>rdV σ 5 y9 false [.S] λt5=>rdV σ 6 (.int .i64) false [] λt6=>rdV σ 7 (.int .i64) false [] λt7=>jdy t5 t6 Z0Y t7 (λ(_:Unit)=>k (.exit 0) (mkS 18 18 [(0,.val ⟨y9,false,w,[.S]⟩)] [])) (λ(t2:Int)=>k .ret (mkS 18 18 [(2,.val ⟨(.int .i64),false,t2,[]⟩)] []))
theorem jo4 (w:qL) (t5:qL) (t6:Int) (n:Nat) (v:Int) (k:Z6G Unit):Z3X (Z0R jdX [] .o (pl (pl (pr (pl (pr j9o)))))) (λσ=>σ.forget [0,5,6,7] []) (Z8a ([],[]) [(0,[0],[])] ([2],[])) n (mkS 18 18 [(0,.val ⟨y9,false,w,[.S]⟩),(5,.val ⟨y9,false,t5,[.S]⟩),(6,.val ⟨(.int .i64),false,t6,[]⟩),(7,.val ⟨(.int .i64),false,v,[]⟩)] []) k=Z10 (j9b t5 t6) n v ((λ(k:Z6G Unit)=>(((λ(_:Unit)=>k (.exit 0) (mkS 18 18 [(0,.val ⟨y9,false,w,[.S]⟩)] [])),(λ(t2:Int)=>k .ret (mkS 18 18 [(2,.val ⟨(.int .i64),false,t2,[]⟩)] []))):(Unit->Res)×(Int->Res))) k):=Z80 (λv:Int=>(mkS 18 18 [(0,.val ⟨y9,false,w,[.S]⟩),(5,.val ⟨y9,false,t5,[.S]⟩),(6,.val ⟨(.int .i64),false,t6,[]⟩),(7,.val ⟨(.int .i64),false,v,[]⟩)] [])) (j9b t5 t6) (λ(k:Z6G Unit)=>(((λ(_:Unit)=>k (.exit 0) (mkS 18 18 [(0,.val ⟨y9,false,w,[.S]⟩)] [])),(λ(t2:Int)=>k .ret (mkS 18 18 [(2,.val ⟨(.int .i64),false,t2,[]⟩)] []))):(Unit->Res)×(Int->Res))) (λv rec k=>by kernel_rfl) n v k
theorem joj {W0:Base} {M:Nat->Prop} (hnp:W0.np<=0):Z1W Tryz.prog W0 M (pl (pr (pl (pr j9o)))) jal:=show Z1W Tryz.prog W0 M (Code.loop (pl (pl (pr (pl (pr j9o)))))) jal from Z8X (Z6Q follows j01 (Z7K Z8W) hnp [] (pl (pl (pr (pl (pr j9o))))) .o trivial) (ks:=[0,5,6,7]) (bs:=[]) (fX:=(Z8a ([],[]) [(0,[0],[])] ([2],[]))) (Z8U _ _ _) Z0Y (by
 intro σ k r h
 obtain ⟨hn,h1⟩:=Z8G h
 obtain ⟨w,hs0,h2⟩:=Z8J h1
 obtain ⟨t5,hs5,h3⟩:=Z8J h2
 obtain ⟨t6,hs6,h4⟩:=Z8J h3
 obtain ⟨t7,hs7,h5⟩:=Z8J h4
 refine ⟨_,?_,(jo4 w t5 t6 Z0Y (t7) k).trans h5⟩
 exact Z9e hn ⟨hs0,hs5,hs6,hs7,trivial⟩ trivial)
noncomputable def jcf (w:qL) (k0:Int->Res):Res:=
 jdy w (nI (List.length w)) Z0Y 0
  (λ(_:Unit)=>
   k0 (nI (List.length w)))
  (λ(t:Int)=>
   k0 t)
noncomputable def jij:Sig Unit:=⟨[.look y9 false],[false],λvals ext k=>av vals y9 λw vals=>nl vals<|nl ext<|jcf w (λ(r0:Int)=>k [⟨(.int .i64),false,r0,[]⟩] [] [])⟩
theorem jpQ (w:qL) (a_w:Bool) (t_w:List Tag) (k:qK):Z6X jdX [jal] (.t .o (.t (.t .o (.t (.x 0) .o)) .o)) false Tryz.f220 [.look y9 false] [false] [⟨y9,a_w,w,t_w⟩] [] k=jcf w (λ(r0:Int)=>k [⟨(.int .i64),false,r0,[]⟩] [] []):=by kernel_rfl
theorem jhC:Z1k Tryz.prog 220 jij:=Z8N (Γ:=jdX) (X:=[jal]) (ht:=(.t .o (.t (.t .o (.t (.x 0) .o)) .o))) (fz:=false) (c:=j9o) follows j01 Z8W (Z1A.mk trivial ((Z1A.mk ((Z1A.mk trivial ((Z1A.mk (Z1A.x_mk (λW0 M hnp=>joj (W0:=W0) (M:=M) hnp)) trivial)))) trivial))) Tryz.func220 (by kernel_rfl) (by kernel_rfl) (by decide) (by
 intro vals ext k r h
 obtain ⟨w,a_w,t_w,vals,rfl,h1⟩:=Z8T h
 obtain ⟨rfl,h2⟩:=Z90 h1
 obtain ⟨rfl,h3⟩:=Z90 h2
 exact (jpQ w a_w t_w k).trans h3)
noncomputable def j7f:Code:=(Tryz.f221.body).getD .skip
noncomputable def jcG:Env Unit:=⟨tys,[(255,jcT)],0⟩
noncomputable def j4A (t9:qL) (t10:Int) (out:List qV) (t11:Int) (rec:qW->Int->Res) (k0:qW->Res):Res:=
 bif decide (t11<t10) then
  bif inb t11 (List.length t9) then
   j47 (nth eS t9 t11) λ(r:Int×Int×qB) (r1:Bool)=>
    bif decide ((nI (List.length out))<=8) then
     bif lim ((List.length out)+1) then
      rec (out++[r]) (Z8g (t11+1))
     else none
    else
     rec out (Z8g (t11+1))
  else none
 else
  k0 out
noncomputable def j6R (t9:qL) (t10:Int):(qW×Int)->(qW×Int->Res)->((qW->Res))->Res:=λv rec q=>j4A t9 t10 v.1 v.2 (λout t11=>rec (out,t11)) q
noncomputable def jce (t9:qL) (t10:Int) (n:Nat) (out:List qV) (t11:Int) (k0:qW->Res):Res:=Z10 (j6R t9 t10) n (out,t11) (k0)
noncomputable def j83:Z1l Unit:=λσ k=>rdN σ 29<|rdV σ 3 y3 false [.O] λout=>rdV σ 9 y9 false [.S] λt9=>rdV σ 10 (.int .i64) false [] λt10=>rdV σ 11 (.int .i64) false [] λt11=>jce t9 t10 Z0Y out t11 (λ(out1:List qV)=>k (.exit 0) (mkS 29 29 [(3,.val ⟨y3,false,out1,[.O]⟩)] []))
theorem jkx (t9:qL) (t10:Int) (n:Nat) (v:qW×Int) (k:Z6G Unit):Z3X (Z0R jcG [] .o (pl (pl (pr (pl (pr (pr j7f))))))) (λσ=>σ.forget [3,9,10,11] []) (Z8a ([],[]) [(0,[3],[])] ([],[])) n (mkS 29 29 [(3,.val ⟨y3,false,v.1,[.O]⟩),(9,.val ⟨y9,false,t9,[.S]⟩),(10,.val ⟨(.int .i64),false,t10,[]⟩),(11,.val ⟨(.int .i64),false,v.2,[]⟩)] []) k=Z10 (j6R t9 t10) n v ((λ(k:Z6G Unit)=>(((λ(out1:List qV)=>k (.exit 0) (mkS 29 29 [(3,.val ⟨y3,false,out1,[.O]⟩)] []))):(qW->Res))) k):=Z80 (λv:qW×Int=>(mkS 29 29 [(3,.val ⟨y3,false,v.1,[.O]⟩),(9,.val ⟨y9,false,t9,[.S]⟩),(10,.val ⟨(.int .i64),false,t10,[]⟩),(11,.val ⟨(.int .i64),false,v.2,[]⟩)] [])) (j6R t9 t10) (λ(k:Z6G Unit)=>(((λ(out1:List qV)=>k (.exit 0) (mkS 29 29 [(3,.val ⟨y3,false,out1,[.O]⟩)] []))):(qW->Res))) (λv rec k=>by kernel_rfl) n v k
theorem jlk {W0:Base} {M:Nat->Prop} (hnp:W0.np<=0):Z1W Tryz.prog W0 M (pl (pr (pl (pr (pr j7f))))) j83:=show Z1W Tryz.prog W0 M (Code.loop (pl (pl (pr (pl (pr (pr j7f))))))) j83 from Z8X (Z6Q follows j01 (Z7K (Z8C j78 Z8W)) hnp [] (pl (pl (pr (pl (pr (pr j7f)))))) .o trivial) (ks:=[3,9,10,11]) (bs:=[]) (fX:=(Z8a ([],[]) [(0,[3],[])] ([],[]))) (Z8U _ _ _) Z0Y (by
 intro σ k r h
 obtain ⟨hn,h1⟩:=Z8G h
 obtain ⟨out,hs3,h2⟩:=Z8J h1
 obtain ⟨t9,hs9,h3⟩:=Z8J h2
 obtain ⟨t10,hs10,h4⟩:=Z8J h3
 obtain ⟨t11,hs11,h5⟩:=Z8J h4
 refine ⟨_,?_,(jkx t9 t10 Z0Y (out,t11) k).trans h5⟩
 exact Z9e hn ⟨hs3,hs9,hs10,hs11,trivial⟩ trivial)
noncomputable def j49 (w:qL) (k0:qW->Res):Res:=
 jce w (nI (List.length w)) Z0Y [] 0 λ(out:List qV)=>
  k0 out
noncomputable def jgf:Sig Unit:=⟨[.borrow y9 false],[false],λvals ext k=>av vals y9 λw vals=>nl vals<|nl ext<|j49 w (λ(r0:List qV)=>k [⟨y3,false,r0,[.O]⟩] [] [])⟩
theorem jnz (w:qL) (a_w:Bool) (t_w:List Tag) (k:qK):Z6X jcG [j83] (.t .o (.t .o (.t (.t .o (.t (.x 0) .o)) .o))) false Tryz.f221 [.borrow y9 false] [false] [⟨y9,a_w,w,t_w⟩] [] k=j49 w (λ(r0:List qV)=>k [⟨y3,false,r0,[.O]⟩] [] []):=by kernel_rfl
theorem jfC:Z1k Tryz.prog 221 jgf:=Z8N (Γ:=jcG) (X:=[j83]) (ht:=(.t .o (.t .o (.t (.t .o (.t (.x 0) .o)) .o)))) (fz:=false) (c:=j7f) follows j01 (Z8C j78 Z8W) (Z1A.mk trivial ((Z1A.mk trivial ((Z1A.mk ((Z1A.mk trivial ((Z1A.mk (Z1A.x_mk (λW0 M hnp=>jlk (W0:=W0) (M:=M) hnp)) trivial)))) trivial))))) Tryz.func221 (by kernel_rfl) (by kernel_rfl) (by decide) (by
 intro vals ext k r h
 obtain ⟨w,a_w,t_w,vals,rfl,h1⟩:=Z8T h
 obtain ⟨rfl,h2⟩:=Z90 h1
 obtain ⟨rfl,h3⟩:=Z90 h2
 exact (jnz w a_w t_w k).trans h3)
noncomputable def jmj:Code:=(Tryz.f290.body).getD .skip
noncomputable def jeK:Env Unit:=⟨tys,[],0⟩
noncomputable def j5K (k0:qL->Res):Res:=
 k0 [eS,j1f,j2c,j1u]
noncomputable def jc5:Sig Unit:=⟨[],[false],λvals ext k=>nl vals<|nl ext<|j5K (λ(r0:qL)=>k [⟨y9,false,r0,[.O]⟩] [] [])⟩
theorem jlV  (k:qK):Z6X jeK [] .o false Tryz.f290 [] [false] [] [] k=j5K (λ(r0:qL)=>k [⟨y9,false,r0,[.O]⟩] [] []):=by kernel_rfl
theorem j5M:Z1k Tryz.prog 290 jc5:=Z8N (Γ:=jeK) (X:=[]) (ht:= .o) (fz:=false) (c:=jmj) follows j01 Z8W trivial Tryz.func290 (by kernel_rfl) (by kernel_rfl) (by decide) (by
 intro vals ext k r h
 obtain ⟨rfl,h1⟩:=Z90 h
 obtain ⟨rfl,h2⟩:=Z90 h1
 exact (jlV  k).trans h2)
noncomputable def j1j:Code:=(Tryz.f257.body).getD .skip
noncomputable def j6E:Env Unit:=⟨tys,[(255,jcT),(290,jc5)],0⟩
noncomputable def j3i (w:qL) (t17:qL) (t18:Int) (t19:Int) (c:qB×Int×Bool×Bool×Int×Int×qB) (rec:Int->qC->Res) (k0:qC->Res):Res:=
 bif decide (t19<t18) then
  bif inb t19 (List.length t17) then
   bif decide (t19>0) then
    bif inb 1 (List.length w) then
     bif sEq (nth eS t17 t19) (nth eS w 1) then
      rec (Z8g (t19+1)) (c.1,t19,c.2.2)
     else
      rec (Z8g (t19+1)) c
    else none
   else
    rec (Z8g (t19+1)) c
  else none
 else
  k0 c
noncomputable def j4M (w:qL) (t17:qL) (t18:Int):(Int×qC)->(Int×qC->Res)->((qC->Res))->Res:=λv rec q=>j3i w t17 t18 v.1 v.2 (λt19 c=>rec (t19,c)) q
noncomputable def j9J (w:qL) (t17:qL) (t18:Int) (n:Nat) (t19:Int) (c:qB×Int×Bool×Bool×Int×Int×qB) (k0:qC->Res):Res:=Z10 (j4M w t17 t18) n (t19,c) (k0)
noncomputable def j2m:Z1l Unit:=λσ k=>rdN σ 64<|rdV σ 0 y9 false [.S] λw=>rdT σ 2 (.ptr ⟨true,2,[]⟩)<|rdT σ 3 (.ptr ⟨true,3,[]⟩)<|rdV σ 17 y9 false [.O] λt17=>rdV σ 18 (.int .i64) false [] λt18=>rdV σ 19 (.int .i64) false [] λt19=>rdB σ 2 y7 [] λa t2=>rdB σ 3 y7 [] λa1 c=>j9J w t17 t18 Z0Y t19 c (λ(c1:qB×Int×Bool×Bool×Int×Int×qB)=>k (.exit 0) (mkS 64 64 [(0,.val ⟨y9,false,w,[.S]⟩),(2,.ptr ⟨true,2,[]⟩),(3,.ptr ⟨true,3,[]⟩)] [(2,⟨y7,a,t2,[]⟩),(3,⟨y7,a1,c1,[]⟩)]))
theorem jhp (w:qL) (t17:qL) (t18:Int) (a:Bool) (t2:qB×Int×Bool×Bool×Int×Int×qB) (a1:Bool) (n:Nat) (v:Int×qC) (k:Z6G Unit):Z3X (Z0R j6E [] .o (pl (pl (pr (pl (pr (pr (pr (pr j1j))))))))) (λσ=>σ.forget [0,2,3,17,18,19] [2,3]) (Z8a ([],[]) [(0,[0,2,3],[2,3])] ([],[])) n (mkS 64 64 [(0,.val ⟨y9,false,w,[.S]⟩),(2,.ptr ⟨true,2,[]⟩),(3,.ptr ⟨true,3,[]⟩),(17,.val ⟨y9,false,t17,[.O]⟩),(18,.val ⟨(.int .i64),false,t18,[]⟩),(19,.val ⟨(.int .i64),false,v.1,[]⟩)] [(2,⟨y7,a,t2,[]⟩),(3,⟨y7,a1,v.2,[]⟩)]) k=Z10 (j4M w t17 t18) n v ((λ(k:Z6G Unit)=>(((λ(c1:qB×Int×Bool×Bool×Int×Int×qB)=>k (.exit 0) (mkS 64 64 [(0,.val ⟨y9,false,w,[.S]⟩),(2,.ptr ⟨true,2,[]⟩),(3,.ptr ⟨true,3,[]⟩)] [(2,⟨y7,a,t2,[]⟩),(3,⟨y7,a1,c1,[]⟩)]))):(qC->Res))) k):=Z80 (λv:Int×qC=>(mkS 64 64 [(0,.val ⟨y9,false,w,[.S]⟩),(2,.ptr ⟨true,2,[]⟩),(3,.ptr ⟨true,3,[]⟩),(17,.val ⟨y9,false,t17,[.O]⟩),(18,.val ⟨(.int .i64),false,t18,[]⟩),(19,.val ⟨(.int .i64),false,v.1,[]⟩)] [(2,⟨y7,a,t2,[]⟩),(3,⟨y7,a1,v.2,[]⟩)])) (j4M w t17 t18) (λ(k:Z6G Unit)=>(((λ(c1:qB×Int×Bool×Bool×Int×Int×qB)=>k (.exit 0) (mkS 64 64 [(0,.val ⟨y9,false,w,[.S]⟩),(2,.ptr ⟨true,2,[]⟩),(3,.ptr ⟨true,3,[]⟩)] [(2,⟨y7,a,t2,[]⟩),(3,⟨y7,a1,c1,[]⟩)]))):(qC->Res))) (λv rec k=>by kernel_rfl) n v k
theorem jhr {W0:Base} {M:Nat->Prop} (hnp:W0.np<=0):Z1W Tryz.prog W0 M (pl (pr (pl (pr (pr (pr (pr j1j))))))) j2m:=show Z1W Tryz.prog W0 M (Code.loop (pl (pl (pr (pl (pr (pr (pr (pr j1j))))))))) j2m from Z8X (Z6Q follows j01 (Z7K (Z8C j78 (Z8C j5M Z8W))) hnp [] (pl (pl (pr (pl (pr (pr (pr (pr j1j)))))))) .o trivial) (ks:=[0,2,3,17,18,19]) (bs:=[2,3]) (fX:=(Z8a ([],[]) [(0,[0,2,3],[2,3])] ([],[]))) (Z8U _ _ _) Z0Y (by
 intro σ k r h
 obtain ⟨hn,h1⟩:=Z8G h
 obtain ⟨w,hs0,h2⟩:=Z8J h1
 obtain ⟨hs2,h3⟩:=Z8H h2
 obtain ⟨hs3,h4⟩:=Z8H h3
 obtain ⟨t17,hs17,h5⟩:=Z8J h4
 obtain ⟨t18,hs18,h6⟩:=Z8J h5
 obtain ⟨t19,hs19,h7⟩:=Z8J h6
 obtain ⟨a,t2,hb2,h8⟩:=Z8D h7
 obtain ⟨a1,c,hb3,h9⟩:=Z8D h8
 refine ⟨_,?_,(jhp w t17 t18 a t2 a1 Z0Y (t19,c) k).trans h9⟩
 exact Z9e hn ⟨hs0,hs2,hs3,hs17,hs18,hs19,trivial⟩ ⟨hb2,hb3,trivial⟩)
noncomputable def j3j (t37:qL) (t38:Int) (t39:Int) (c:qB×Int×Bool×Bool×Int×Int×qB) (rec:Int->qC->Res) (k0:qC->Res):Res:=
 bif decide (t39<t38) then
  bif inb t39 (List.length t37) then
   bif sEq (nth eS t37 t39) j72 then
    rec (Z8g (t39+1)) (c.1,c.2.1,true,c.2.2.2)
   else
    bif decide ((nI (ByteArray.size (nth eS t37 t39)))>0) then
     bif inb 0 (ByteArray.size (nth eS t37 t39)) then
      bif ((bt (nth eS t37 t39) 0)==61) then
       bif Z6R 1 (nI (ByteArray.size (nth eS t37 t39))) (ByteArray.size (nth eS t37 t39)) then
        j47 (Z9k (nth eS t37 t39) 1 (nI (ByteArray.size (nth eS t37 t39)))) λ(r:Int×Int×qB) (r1:Bool)=>
         rec (Z8g (t39+1)) (c.1,c.2.1,c.2.2.1,true,r)
       else none
      else
       rec (Z8g (t39+1)) c
     else none
    else
     rec (Z8g (t39+1)) c
  else none
 else
  k0 c
noncomputable def j4N (t37:qL) (t38:Int):(Int×qC)->(Int×qC->Res)->((qC->Res))->Res:=λv rec q=>j3j t37 t38 v.1 v.2 (λt39 c=>rec (t39,c)) q
noncomputable def j2V (t37:qL) (t38:Int) (n:Nat) (t39:Int) (c:qB×Int×Bool×Bool×Int×Int×qB) (k0:qC->Res):Res:=Z10 (j4N t37 t38) n (t39,c) (k0)
noncomputable def j5t:Z1l Unit:=λσ k=>rdN σ 64<|rdT σ 2 (.ptr ⟨true,2,[]⟩)<|rdT σ 3 (.ptr ⟨true,3,[]⟩)<|rdV σ 37 y9 false [.S] λt37=>rdV σ 38 (.int .i64) false [] λt38=>rdV σ 39 (.int .i64) false [] λt39=>rdB σ 2 y7 [] λa t2=>rdB σ 3 y7 [] λa1 c=>j2V t37 t38 Z0Y t39 c (λ(c1:qB×Int×Bool×Bool×Int×Int×qB)=>k (.exit 2) (mkS 64 64 [(2,.ptr ⟨true,2,[]⟩),(3,.ptr ⟨true,3,[]⟩)] [(2,⟨y7,a,t2,[]⟩),(3,⟨y7,a1,c1,[]⟩)]))
theorem jhq (t37:qL) (t38:Int) (a:Bool) (t2:qB×Int×Bool×Bool×Int×Int×qB) (a1:Bool) (n:Nat) (v:Int×qC) (k:Z6G Unit):Z3X (Z0R j6E [j2m] .o (pl (pl (pr (pl (pr (pr (pr (pr (pr j1j)))))))))) (λσ=>σ.forget [2,3,37,38,39] [2,3]) (Z8a ([],[]) [(2,[2,3],[2,3])] ([],[])) n (mkS 64 64 [(2,.ptr ⟨true,2,[]⟩),(3,.ptr ⟨true,3,[]⟩),(37,.val ⟨y9,false,t37,[.S]⟩),(38,.val ⟨(.int .i64),false,t38,[]⟩),(39,.val ⟨(.int .i64),false,v.1,[]⟩)] [(2,⟨y7,a,t2,[]⟩),(3,⟨y7,a1,v.2,[]⟩)]) k=Z10 (j4N t37 t38) n v ((λ(k:Z6G Unit)=>(((λ(c1:qB×Int×Bool×Bool×Int×Int×qB)=>k (.exit 2) (mkS 64 64 [(2,.ptr ⟨true,2,[]⟩),(3,.ptr ⟨true,3,[]⟩)] [(2,⟨y7,a,t2,[]⟩),(3,⟨y7,a1,c1,[]⟩)]))):(qC->Res))) k):=Z80 (λv:Int×qC=>(mkS 64 64 [(2,.ptr ⟨true,2,[]⟩),(3,.ptr ⟨true,3,[]⟩),(37,.val ⟨y9,false,t37,[.S]⟩),(38,.val ⟨(.int .i64),false,t38,[]⟩),(39,.val ⟨(.int .i64),false,v.1,[]⟩)] [(2,⟨y7,a,t2,[]⟩),(3,⟨y7,a1,v.2,[]⟩)])) (j4N t37 t38) (λ(k:Z6G Unit)=>(((λ(c1:qB×Int×Bool×Bool×Int×Int×qB)=>k (.exit 2) (mkS 64 64 [(2,.ptr ⟨true,2,[]⟩),(3,.ptr ⟨true,3,[]⟩)] [(2,⟨y7,a,t2,[]⟩),(3,⟨y7,a1,c1,[]⟩)]))):(qC->Res))) (λv rec k=>by kernel_rfl) n v k
theorem jhs {W0:Base} {M:Nat->Prop} (hnp:W0.np<=0):Z1W Tryz.prog W0 M (pl (pr (pl (pr (pr (pr (pr (pr j1j)))))))) j5t:=show Z1W Tryz.prog W0 M (Code.loop (pl (pl (pr (pl (pr (pr (pr (pr (pr j1j)))))))))) j5t from Z8X (Z6Q follows j01 (Z7K (Z8C j78 (Z8C j5M Z8W))) hnp [j2m] (pl (pl (pr (pl (pr (pr (pr (pr (pr j1j))))))))) .o trivial) (ks:=[2,3,37,38,39]) (bs:=[2,3]) (fX:=(Z8a ([],[]) [(2,[2,3],[2,3])] ([],[]))) (Z8U _ _ _) Z0Y (by
 intro σ k r h
 obtain ⟨hn,h1⟩:=Z8G h
 obtain ⟨hs2,h2⟩:=Z8H h1
 obtain ⟨hs3,h3⟩:=Z8H h2
 obtain ⟨t37,hs37,h4⟩:=Z8J h3
 obtain ⟨t38,hs38,h5⟩:=Z8J h4
 obtain ⟨t39,hs39,h6⟩:=Z8J h5
 obtain ⟨a,t2,hb2,h7⟩:=Z8D h6
 obtain ⟨a1,c,hb3,h8⟩:=Z8D h7
 refine ⟨_,?_,(jhq t37 t38 a t2 a1 Z0Y (t39,c) k).trans h8⟩
 exact Z9e hn ⟨hs2,hs3,hs37,hs38,hs39,trivial⟩ ⟨hb2,hb3,trivial⟩)
noncomputable def j4h (w:qL) (k0:qC->Res):Res:=
 bif decide ((nI (List.length w))<2) then
  k0 (eS,0,false,false,0,0,eS)
 else
  bif inb 0 (List.length w) then
   j5K λ(r:qL)=>
    j9J w r (nI (List.length r)) Z0Y 0 (nth eS w 0,0,false,false,0,0,eS) λ(c:qB×Int×Bool×Bool×Int×Int×qB)=>
     bif Z6R 2 (nI (List.length w)) (List.length w) then
      j2V (sub w 2 (nI (List.length w))) (nI (List.length (sub w 2 (nI (List.length w))))) Z0Y 0 c λ(c1:qB×Int×Bool×Bool×Int×Int×qB)=>
       k0 c1
     else none
  else none
noncomputable def jao:Sig Unit:=⟨[.look y9 false],[true],λvals ext k=>av vals y9 λw vals=>nl vals<|nl ext<|j4h w (λ(r0:qB×Int×Bool×Bool×Int×Int×qB)=>k [⟨y7,true,r0,[]⟩] [] [])⟩
theorem jiv (w:qL) (a_w:Bool) (t_w:List Tag) (k:qK):Z6X j6E [j2m,j5t] (.t .o (.t .o (.t .o (.t .o (.t (.t .o (.t (.x 0) .o)) (.t (.t .o (.t (.x 1) .o)) .o)))))) false Tryz.f257 [.look y9 false] [true] [⟨y9,a_w,w,t_w⟩] [] k=j4h w (λ(r0:qB×Int×Bool×Bool×Int×Int×qB)=>k [⟨y7,true,r0,[]⟩] [] []):=by kernel_rfl
theorem j1i:Z1k Tryz.prog 257 jao:=Z8N (Γ:=j6E) (X:=[j2m,j5t]) (ht:=(.t .o (.t .o (.t .o (.t .o (.t (.t .o (.t (.x 0) .o)) (.t (.t .o (.t (.x 1) .o)) .o))))))) (fz:=false) (c:=j1j) follows j01 (Z8C j78 (Z8C j5M Z8W)) (Z1A.mk trivial ((Z1A.mk trivial ((Z1A.mk trivial ((Z1A.mk trivial ((Z1A.mk ((Z1A.mk trivial ((Z1A.mk (Z1A.x_mk (λW0 M hnp=>jhr (W0:=W0) (M:=M) hnp)) trivial)))) ((Z1A.mk ((Z1A.mk trivial ((Z1A.mk (Z1A.x_mk (λW0 M hnp=>jhs (W0:=W0) (M:=M) hnp)) trivial)))) trivial))))))))))) Tryz.func257 (by kernel_rfl) (by kernel_rfl) (by decide) (by
 intro vals ext k r h
 obtain ⟨w,a_w,t_w,vals,rfl,h1⟩:=Z8T h
 obtain ⟨rfl,h2⟩:=Z90 h1
 obtain ⟨rfl,h3⟩:=Z90 h2
 exact (jiv w a_w t_w k).trans h3)
noncomputable def j1v:Code:=(Tryz.f256.body).getD .skip
noncomputable def j7z:Env Unit:=⟨tys,[(257,jao)],0⟩
noncomputable def j3A (w:qL) (i:Int) (rec:Int->Res) (k0:Int->Res):Res:=
 bif decide (i<(nI (List.length w))) then
  bif inb i (List.length w) then
   bif sNe (nth eS w i) j14 then
    rec (Z8g (i+1))
   else
    k0 i
  else none
 else
  k0 i
noncomputable def j2k (w:qL):Int->(Int->Res)->((Int->Res))->Res:=λv rec q=>j3A w v (λi=>rec (i)) q
noncomputable def jap (w:qL) (n:Nat) (i:Int) (k0:Int->Res):Res:=Z10 (j2k w) n (i) (k0)
noncomputable def j2X:Z1l Unit:=λσ k=>rdN σ 62<|rdV σ 1 y9 false [.S] λw=>rdT σ 2 (.ptr ⟨true,2,[]⟩)<|rdT σ 4 (.ptr ⟨true,4,[]⟩)<|rdV σ 5 (.int .i64) false [] λi=>rdV σ 6 (.int .i64) false [] λfrom_=>rdV σ 12 y9 false [.S] λt12=>rdV σ 13 (.int .i64) false [] λt13=>rdE σ 14 .str false [] .S λt14=>rdV σ 15 .str false [] λt15=>rdV σ 16 .bool false [] λt16=>rdB σ 2 y14 [.O,.O] λa d=>rdB σ 4 y14 [.O,.O] λa1 t4=>jap w Z0Y i (λ(i1:Int)=>k (.exit 2) (mkS 62 62 [(1,.val ⟨y9,false,w,[.S]⟩),(2,.ptr ⟨true,2,[]⟩),(4,.ptr ⟨true,4,[]⟩),(5,.val ⟨(.int .i64),false,i1,[]⟩),(6,.val ⟨(.int .i64),false,from_,[]⟩),(12,.val ⟨y9,false,t12,[.S]⟩),(13,.val ⟨(.int .i64),false,t13,[]⟩),(14,.eptr ⟨.str,false,t14,[]⟩ .S),(15,.val ⟨.str,false,t15,[]⟩),(16,.val ⟨.bool,false,t16,[]⟩)] [(2,⟨y14,a,d,[.O,.O]⟩),(4,⟨y14,a1,t4,[.O,.O]⟩)]))
theorem jhG (w:qL) (from_:Int) (t12:qL) (t13:Int) (t14:qB) (t15:qB) (t16:Bool) (a:Bool) (d:qG) (a1:Bool) (t4:qG) (n:Nat) (v:Int) (k:Z6G Unit):Z3X (Z0R j7z [] .o (pl (pl (pl (pr (pl (pr (pl (pl (pl (pr (pr j1v)))))))))))) (λσ=>σ.forget [1,2,4,5,6,12,13,14,15,16] [2,4]) (Z8a ([],[]) [(2,[1,2,4,5,6,12,13,14,15,16],[2,4])] ([],[])) n (mkS 62 62 [(1,.val ⟨y9,false,w,[.S]⟩),(2,.ptr ⟨true,2,[]⟩),(4,.ptr ⟨true,4,[]⟩),(5,.val ⟨(.int .i64),false,v,[]⟩),(6,.val ⟨(.int .i64),false,from_,[]⟩),(12,.val ⟨y9,false,t12,[.S]⟩),(13,.val ⟨(.int .i64),false,t13,[]⟩),(14,.eptr ⟨.str,false,t14,[]⟩ .S),(15,.val ⟨.str,false,t15,[]⟩),(16,.val ⟨.bool,false,t16,[]⟩)] [(2,⟨y14,a,d,[.O,.O]⟩),(4,⟨y14,a1,t4,[.O,.O]⟩)]) k=Z10 (j2k w) n v ((λ(k:Z6G Unit)=>(((λ(i1:Int)=>k (.exit 2) (mkS 62 62 [(1,.val ⟨y9,false,w,[.S]⟩),(2,.ptr ⟨true,2,[]⟩),(4,.ptr ⟨true,4,[]⟩),(5,.val ⟨(.int .i64),false,i1,[]⟩),(6,.val ⟨(.int .i64),false,from_,[]⟩),(12,.val ⟨y9,false,t12,[.S]⟩),(13,.val ⟨(.int .i64),false,t13,[]⟩),(14,.eptr ⟨.str,false,t14,[]⟩ .S),(15,.val ⟨.str,false,t15,[]⟩),(16,.val ⟨.bool,false,t16,[]⟩)] [(2,⟨y14,a,d,[.O,.O]⟩),(4,⟨y14,a1,t4,[.O,.O]⟩)]))):(Int->Res))) k):=Z80 (λv:Int=>(mkS 62 62 [(1,.val ⟨y9,false,w,[.S]⟩),(2,.ptr ⟨true,2,[]⟩),(4,.ptr ⟨true,4,[]⟩),(5,.val ⟨(.int .i64),false,v,[]⟩),(6,.val ⟨(.int .i64),false,from_,[]⟩),(12,.val ⟨y9,false,t12,[.S]⟩),(13,.val ⟨(.int .i64),false,t13,[]⟩),(14,.eptr ⟨.str,false,t14,[]⟩ .S),(15,.val ⟨.str,false,t15,[]⟩),(16,.val ⟨.bool,false,t16,[]⟩)] [(2,⟨y14,a,d,[.O,.O]⟩),(4,⟨y14,a1,t4,[.O,.O]⟩)])) (j2k w) (λ(k:Z6G Unit)=>(((λ(i1:Int)=>k (.exit 2) (mkS 62 62 [(1,.val ⟨y9,false,w,[.S]⟩),(2,.ptr ⟨true,2,[]⟩),(4,.ptr ⟨true,4,[]⟩),(5,.val ⟨(.int .i64),false,i1,[]⟩),(6,.val ⟨(.int .i64),false,from_,[]⟩),(12,.val ⟨y9,false,t12,[.S]⟩),(13,.val ⟨(.int .i64),false,t13,[]⟩),(14,.eptr ⟨.str,false,t14,[]⟩ .S),(15,.val ⟨.str,false,t15,[]⟩),(16,.val ⟨.bool,false,t16,[]⟩)] [(2,⟨y14,a,d,[.O,.O]⟩),(4,⟨y14,a1,t4,[.O,.O]⟩)]))):(Int->Res))) (λv rec k=>by kernel_rfl) n v k
theorem ji6 {W0:Base} {M:Nat->Prop} (hnp:W0.np<=0):Z1W Tryz.prog W0 M (pl (pl (pr (pl (pr (pl (pl (pl (pr (pr j1v)))))))))) j2X:=show Z1W Tryz.prog W0 M (Code.loop (pl (pl (pl (pr (pl (pr (pl (pl (pl (pr (pr j1v)))))))))))) j2X from Z8X (Z6Q follows j01 (Z7K (Z8C j1i Z8W)) hnp [] (pl (pl (pl (pr (pl (pr (pl (pl (pl (pr (pr j1v))))))))))) .o trivial) (ks:=[1,2,4,5,6,12,13,14,15,16]) (bs:=[2,4]) (fX:=(Z8a ([],[]) [(2,[1,2,4,5,6,12,13,14,15,16],[2,4])] ([],[]))) (Z8U _ _ _) Z0Y (by
 intro σ k r h
 obtain ⟨hn,h1⟩:=Z8G h
 obtain ⟨w,hs1,h2⟩:=Z8J h1
 obtain ⟨hs2,h3⟩:=Z8H h2
 obtain ⟨hs4,h4⟩:=Z8H h3
 obtain ⟨i,hs5,h5⟩:=Z8J h4
 obtain ⟨from_,hs6,h6⟩:=Z8J h5
 obtain ⟨t12,hs12,h7⟩:=Z8J h6
 obtain ⟨t13,hs13,h8⟩:=Z8J h7
 obtain ⟨t14,hs14,h9⟩:=Z8F h8
 obtain ⟨t15,hs15,h10⟩:=Z8J h9
 obtain ⟨t16,hs16,h11⟩:=Z8J h10
 obtain ⟨a,d,hb2,h12⟩:=Z8D h11
 obtain ⟨a1,t4,hb4,h13⟩:=Z8D h12
 refine ⟨_,?_,(jhG w from_ t12 t13 t14 t15 t16 a d a1 t4 Z0Y (i) k).trans h13⟩
 exact Z9e hn ⟨hs1,hs2,hs4,hs5,hs6,hs12,hs13,hs14,hs15,hs16,trivial⟩ ⟨hb2,hb4,trivial⟩)
noncomputable def j0M (w:qL) (i:Int) (d:qG) (rec:Int->qG->Res) (k0:Int->qG->Res):Res:=
 bif decide (i<(nI (List.length w))) then
  bif inb i (List.length w) then
   bif sEq (nth eS w i) j15 then
    jap w Z0Y i λ(i1:Int)=>
     bif decide (i1<(nI (List.length w))) then
      bif Z6R (Z8g (i+1)) i1 (List.length w) then
       j4h (sub w (Z8g (i+1)) i1) λ(r:qB×Int×Bool×Bool×Int×Int×qB)=>
        bif lim ((List.length d.2.2.1)+1) then
         rec (Z8g (i1+1)) (d.1,d.2.1,(d.2.2.1++[r]),d.2.2.2)
        else none
      else none
     else
      rec (Z8g (i1+1)) d
   else
    k0 i d
  else none
 else
  k0 i d
noncomputable def j2l (w:qL):(Int×qG)->(Int×qG->Res)->((Int->qG->Res))->Res:=λv rec q=>j0M w v.1 v.2 (λi d=>rec (i,d)) q
noncomputable def jaq (w:qL) (n:Nat) (i:Int) (d:qG) (k0:Int->qG->Res):Res:=Z10 (j2l w) n (i,d) (k0)
noncomputable def j6p:Z1l Unit:=λσ k=>rdN σ 62<|rdV σ 1 y9 false [.S] λw=>rdT σ 2 (.ptr ⟨true,2,[]⟩)<|rdT σ 4 (.ptr ⟨true,4,[]⟩)<|rdV σ 5 (.int .i64) false [] λi=>rdB σ 2 y14 [.O,.O] λa d=>rdB σ 4 y14 [.O,.O] λa1 t4=>jaq w Z0Y i d (λ(i2:Int) (d1:qG)=>k (.exit 0) (mkS 62 62 [(1,.val ⟨y9,false,w,[.S]⟩),(2,.ptr ⟨true,2,[]⟩),(4,.ptr ⟨true,4,[]⟩),(5,.val ⟨(.int .i64),false,i2,[]⟩)] [(2,⟨y14,a,d1,[.O,.O]⟩),(4,⟨y14,a1,t4,[.O,.O]⟩)]))
theorem jhH (w:qL) (a:Bool) (a1:Bool) (t4:qG) (n:Nat) (v:Int×qG) (k:Z6G Unit):Z3X (Z0R j7z [j2X] (.t .o (.t (.t .o (.t (.t (.x 0) .o) .o)) .o)) (pl (pl (pl (pr (pr j1v)))))) (λσ=>σ.forget [1,2,4,5] [2,4]) (Z8a ([],[]) [(0,[1,2,4,5],[2,4])] ([],[])) n (mkS 62 62 [(1,.val ⟨y9,false,w,[.S]⟩),(2,.ptr ⟨true,2,[]⟩),(4,.ptr ⟨true,4,[]⟩),(5,.val ⟨(.int .i64),false,v.1,[]⟩)] [(2,⟨y14,a,v.2,[.O,.O]⟩),(4,⟨y14,a1,t4,[.O,.O]⟩)]) k=Z10 (j2l w) n v ((λ(k:Z6G Unit)=>(((λ(i2:Int) (d1:qG)=>k (.exit 0) (mkS 62 62 [(1,.val ⟨y9,false,w,[.S]⟩),(2,.ptr ⟨true,2,[]⟩),(4,.ptr ⟨true,4,[]⟩),(5,.val ⟨(.int .i64),false,i2,[]⟩)] [(2,⟨y14,a,d1,[.O,.O]⟩),(4,⟨y14,a1,t4,[.O,.O]⟩)]))):(Int->qG->Res))) k):=Z80 (λv:Int×qG=>(mkS 62 62 [(1,.val ⟨y9,false,w,[.S]⟩),(2,.ptr ⟨true,2,[]⟩),(4,.ptr ⟨true,4,[]⟩),(5,.val ⟨(.int .i64),false,v.1,[]⟩)] [(2,⟨y14,a,v.2,[.O,.O]⟩),(4,⟨y14,a1,t4,[.O,.O]⟩)])) (j2l w) (λ(k:Z6G Unit)=>(((λ(i2:Int) (d1:qG)=>k (.exit 0) (mkS 62 62 [(1,.val ⟨y9,false,w,[.S]⟩),(2,.ptr ⟨true,2,[]⟩),(4,.ptr ⟨true,4,[]⟩),(5,.val ⟨(.int .i64),false,i2,[]⟩)] [(2,⟨y14,a,d1,[.O,.O]⟩),(4,⟨y14,a1,t4,[.O,.O]⟩)]))):(Int->qG->Res))) (λv rec k=>by kernel_rfl) n v k
theorem ji7 {W0:Base} {M:Nat->Prop} (hnp:W0.np<=0):Z1W Tryz.prog W0 M (pl (pl (pr (pr j1v)))) j6p:=show Z1W Tryz.prog W0 M (Code.loop (pl (pl (pl (pr (pr j1v)))))) j6p from Z8X (Z6Q follows j01 (Z7K (Z8C j1i Z8W)) hnp [j2X] (pl (pl (pl (pr (pr j1v))))) (.t .o (.t (.t .o (.t (.t (.x 0) .o) .o)) .o)) (Z1A.mk trivial ((Z1A.mk ((Z1A.mk trivial ((Z1A.mk ((Z1A.mk (Z1A.x_mk (λW0 M hnp=>ji6 (W0:=W0) (M:=M) hnp)) trivial)) trivial)))) trivial)))) (ks:=[1,2,4,5]) (bs:=[2,4]) (fX:=(Z8a ([],[]) [(0,[1,2,4,5],[2,4])] ([],[]))) (Z8U _ _ _) Z0Y (by
 intro σ k r h
 obtain ⟨hn,h1⟩:=Z8G h
 obtain ⟨w,hs1,h2⟩:=Z8J h1
 obtain ⟨hs2,h3⟩:=Z8H h2
 obtain ⟨hs4,h4⟩:=Z8H h3
 obtain ⟨i,hs5,h5⟩:=Z8J h4
 obtain ⟨a,d,hb2,h6⟩:=Z8D h5
 obtain ⟨a1,t4,hb4,h7⟩:=Z8D h6
 refine ⟨_,?_,(jhH w a a1 t4 Z0Y (i,d) k).trans h7⟩
 exact Z9e hn ⟨hs1,hs2,hs4,hs5,trivial⟩ ⟨hb2,hb4,trivial⟩)
noncomputable def j4X (d:qG) (w:qL) (k0:qG->Res):Res:=
 jaq w Z0Y 0 d λ(i:Int) (d1:qG)=>
  bif decide ((Z8g (i+1))<(nI (List.length w))) then
   bif Z6R (Z8g (i+1)) (nI (List.length w)) (List.length w) then
    bif lim (0+(List.length (sub w (Z8g (i+1)) (nI (List.length w))))) then
     k0 (d1.1,d1.2.1,d1.2.2.1,sub w (Z8g (i+1)) (nI (List.length w)),d1.2.2.2.2)
    else none
   else none
  else
   k0 d1
noncomputable def jee:Sig Unit:=⟨[.eat y14 true,.borrow y9 false],[true],λvals ext k=>ao vals y14 [.O,.O] λd vals=>av vals y9 λw vals=>nl vals<|nl ext<|j4X d w (λ(r0:qG)=>k [⟨y14,true,r0,[.O,.O]⟩] [] [])⟩
theorem jjH (a_d:Bool) (d:qG) (w:qL) (a_w:Bool) (t_w:List Tag) (k:qK):Z6X j7z [j2X,j6p] (.t .o (.t .o (.t (.t (.x 1) .o) .o))) false Tryz.f256 [.eat y14 true,.borrow y9 false] [true] [⟨y14,a_d,d,[.O,.O]⟩,⟨y9,a_w,w,t_w⟩] [] k=j4X d w (λ(r0:qG)=>k [⟨y14,true,r0,[.O,.O]⟩] [] []):=by kernel_rfl
theorem j3C:Z1k Tryz.prog 256 jee:=Z8N (Γ:=j7z) (X:=[j2X,j6p]) (ht:=(.t .o (.t .o (.t (.t (.x 1) .o) .o)))) (fz:=false) (c:=j1v) follows j01 (Z8C j1i Z8W) (Z1A.mk trivial ((Z1A.mk trivial ((Z1A.mk ((Z1A.mk (Z1A.x_mk (λW0 M hnp=>ji7 (W0:=W0) (M:=M) hnp)) trivial)) trivial))))) Tryz.func256 (by kernel_rfl) (by kernel_rfl) (by decide) (by
 intro vals ext k r h
 obtain ⟨a_d,d,vals,rfl,h1⟩:=Z8S h
 obtain ⟨w,a_w,t_w,vals,rfl,h2⟩:=Z8T h1
 obtain ⟨rfl,h3⟩:=Z90 h2
 obtain ⟨rfl,h4⟩:=Z90 h3
 exact (jjH a_d d w a_w t_w k).trans h4)
noncomputable def jaL:Code:=(Tryz.f288.body).getD .skip
noncomputable def jdo:Env Unit:=⟨tys,[(253,jaa),(290,jc5)],0⟩
noncomputable def jag (out:qL) (t13:Bool) (k0:qL->Res):Res:=
 bif t13 then
  bif lim ((List.length out)+1) then
   k0 (out++[j72])
  else none
 else
  k0 out
noncomputable def jcn:Z1l Unit:=λσ k=>rdN σ 27<|rdT σ 1 (.ptr ⟨true,1,[]⟩)<|rdV σ 3 y9 false [.O] λout=>rdV σ 13 .bool false [] λt13=>rdB σ 1 y7 [] λa c=>jag out t13 (λ(out1:qL)=>k .normal (mkS 27 27 [(1,.ptr ⟨true,1,[]⟩),(3,.val ⟨y9,false,out1,[.O]⟩)] [(1,⟨y7,a,c,[]⟩)]))
theorem jmv (out:qL) (t13:Bool) (a:Bool) (c:qB×Int×Bool×Bool×Int×Int×qB) (k:Z6G Unit):Z0R jdo [] .o (pr (pl (pr (pr jaL)))) (mkS 27 27 [(1,.ptr ⟨true,1,[]⟩),(3,.val ⟨y9,false,out,[.O]⟩),(13,.val ⟨.bool,false,t13,[]⟩)] [(1,⟨y7,a,c,[]⟩)]) (λe σ=>k e ((Z8a ([1,3],[1]) [] ([],[])) e σ))=jag out t13 (λ(out1:qL)=>k .normal (mkS 27 27 [(1,.ptr ⟨true,1,[]⟩),(3,.val ⟨y9,false,out1,[.O]⟩)] [(1,⟨y7,a,c,[]⟩)])):=by kernel_rfl
theorem jmN {W0:Base} {M:Nat->Prop} (hnp:W0.np<=0):Z1W Tryz.prog W0 M (pr (pl (pr (pr jaL)))) jcn:=Z91 (Z6Q follows j01 (Z7K (Z8C j28 (Z8C j5M Z8W))) hnp [] ((pr (pl (pr (pr jaL))))) .o trivial) (fg:=(Z8a ([1,3],[1]) [] ([],[]))) (Z8U _ _ _) (by
 intro σ k r h
 obtain ⟨hn,h1⟩:=Z8G h
 obtain ⟨hs1,h2⟩:=Z8H h1
 obtain ⟨out,hs3,h3⟩:=Z8J h2
 obtain ⟨t13,hs13,h4⟩:=Z8J h3
 obtain ⟨a,c,hb1,h5⟩:=Z8D h4
 refine ⟨_,?_,(jmv out t13 a c k).trans h5⟩
 exact Z9e hn ⟨hs1,hs3,hs13,trivial⟩ ⟨hb1,trivial⟩)
noncomputable def j3R (c:qB×Int×Bool×Bool×Int×Int×qB) (k0:qL->Res):Res:=
 j5K λ(r:qL)=>
  bif inb c.2.1 (List.length r) then
   jag [c.1,nth eS r c.2.1] c.2.2.1 λ(out:qL)=>
    bif c.2.2.2.1 then
     j5h c.2.2.2.2 λ(r1:qB)=>
      bif lim (1+(ByteArray.size r1)) then
       bif lim ((List.length out)+1) then
        k0 (out++[(j5u++r1)])
       else none
      else none
    else
     k0 out
  else none
noncomputable def jhk:Sig Unit:=⟨[.borrow y7 true],[false],λvals ext k=>av vals y7 λc vals=>nl vals<|nl ext<|j3R c (λ(r0:qL)=>k [⟨y9,false,r0,[.O]⟩] [] [])⟩
theorem jp7 (c:qB×Int×Bool×Bool×Int×Int×qB) (a_c:Bool) (t_c:List Tag) (k:qK):Z6X jdo [jcn] (.t .o (.t .o (.t (.t .o (.x 0)) .o))) false Tryz.f288 [.borrow y7 true] [false] [⟨y7,a_c,c,t_c⟩] [] k=j3R c (λ(r0:qL)=>k [⟨y9,false,r0,[.O]⟩] [] []):=by kernel_rfl
theorem jde:Z1k Tryz.prog 288 jhk:=Z8N (Γ:=jdo) (X:=[jcn]) (ht:=(.t .o (.t .o (.t (.t .o (.x 0)) .o)))) (fz:=false) (c:=jaL) follows j01 (Z8C j28 (Z8C j5M Z8W)) (Z1A.mk trivial ((Z1A.mk trivial ((Z1A.mk ((Z1A.mk trivial (Z1A.x_mk (λW0 M hnp=>jmN (W0:=W0) (M:=M) hnp)))) trivial))))) Tryz.func288 (by kernel_rfl) (by kernel_rfl) (by decide) (by
 intro vals ext k r h
 obtain ⟨c,a_c,t_c,vals,rfl,h1⟩:=Z8T h
 obtain ⟨rfl,h2⟩:=Z90 h1
 obtain ⟨rfl,h3⟩:=Z90 h2
 exact (jp7 c a_c t_c k).trans h3)
noncomputable def j3p:Code:=(Tryz.f254.body).getD .skip
noncomputable def jaM:Env Unit:=⟨tys,[(288,jhk)],0⟩
noncomputable def j5j (t19:List qC) (t20:Int) (out:qL) (t21:Int) (rec:qL->Int->Res) (k0:qL->Res):Res:=
 bif decide (t21<t20) then
  bif inb t21 (List.length t19) then
   Z6L
    (Z6L
     (bif lim ((List.length out)+1) then
      Z6L
       (j3R (nth (eS,0,false,false,0,0,eS) t19 t21) λ(r:qL)=>
        Z6L
         (bif lim ((List.length (out++[j15]))+(List.length r)) then
          bif lim ((List.length ((out++[j15])++r))+1) then
           rec (((out++[j15])++r)++[j14]) (Z8g (t21+1))
          else none
         else none)
         (bif lim ((List.length (out++[j15]))+(List.length r)) then
          bif lim ((List.length ((out++[j15])++r))+1) then
           rec (((out++[j15])++r)++[j14]) (Z8g (t21+1))
          else none
         else none))
       (j3R (nth (eS,0,false,false,0,0,eS) t19 t21) λ(r1:qL)=>
        bif lim ((List.length (out++[j15]))+(List.length r1)) then
         bif lim ((List.length ((out++[j15])++r1))+1) then
          rec (((out++[j15])++r1)++[j14]) (Z8g (t21+1))
         else none
        else none)
     else none)
     (bif lim ((List.length out)+1) then
      j3R (nth (eS,0,false,false,0,0,eS) t19 t21) λ(r2:qL)=>
       bif lim ((List.length (out++[j15]))+(List.length r2)) then
        bif lim ((List.length ((out++[j15])++r2))+1) then
         rec (((out++[j15])++r2)++[j14]) (Z8g (t21+1))
        else none
       else none
     else none))
    (bif lim ((List.length out)+1) then
     j3R (nth (eS,0,false,false,0,0,eS) t19 t21) λ(r3:qL)=>
      bif lim ((List.length (out++[j15]))+(List.length r3)) then
       bif lim ((List.length ((out++[j15])++r3))+1) then
        rec (((out++[j15])++r3)++[j14]) (Z8g (t21+1))
       else none
      else none
    else none)
  else none
 else
  k0 out
noncomputable def j7R (t19:List qC) (t20:Int):(qL×Int)->(qL×Int->Res)->((qL->Res))->Res:=λv rec q=>j5j t19 t20 v.1 v.2 (λout t21=>rec (out,t21)) q
noncomputable def jcW (t19:List qC) (t20:Int) (n:Nat) (out:qL) (t21:Int) (k0:qL->Res):Res:=Z10 (j7R t19 t20) n (out,t21) (k0)
noncomputable def j4i:Z1l Unit:=λσ k=>rdN σ 66<|rdT σ 1 (.ptr ⟨true,1,[]⟩)<|rdV σ 3 y9 false [.O] λout=>rdV σ 19 y8 false [.S] λt19=>rdV σ 20 (.int .i64) false [] λt20=>rdV σ 21 (.int .i64) false [] λt21=>rdB σ 1 y14 [.S,.S] λa d=>jcW t19 t20 Z0Y out t21 (λ(out1:qL)=>k (.exit 1) (mkS 66 66 [(1,.ptr ⟨true,1,[]⟩),(3,.val ⟨y9,false,out1,[.O]⟩)] [(1,⟨y14,a,d,[.S,.S]⟩)]))
theorem jmw (t19:List qC) (t20:Int) (a:Bool) (d:qG) (n:Nat) (v:qL×Int) (k:Z6G Unit):Z3X (Z0R jaM [] .o (pl (pl (pr (pl (pl (pr (pl (pr (pl (pr (pr j3p)))))))))))) (λσ=>σ.forget [1,3,19,20,21] [1]) (Z8a ([],[]) [(1,[1,3],[1])] ([],[])) n (mkS 66 66 [(1,.ptr ⟨true,1,[]⟩),(3,.val ⟨y9,false,v.1,[.O]⟩),(19,.val ⟨y8,false,t19,[.S]⟩),(20,.val ⟨(.int .i64),false,t20,[]⟩),(21,.val ⟨(.int .i64),false,v.2,[]⟩)] [(1,⟨y14,a,d,[.S,.S]⟩)]) k=Z10 (j7R t19 t20) n v ((λ(k:Z6G Unit)=>(((λ(out1:qL)=>k (.exit 1) (mkS 66 66 [(1,.ptr ⟨true,1,[]⟩),(3,.val ⟨y9,false,out1,[.O]⟩)] [(1,⟨y14,a,d,[.S,.S]⟩)]))):(qL->Res))) k):=Z80 (λv:qL×Int=>(mkS 66 66 [(1,.ptr ⟨true,1,[]⟩),(3,.val ⟨y9,false,v.1,[.O]⟩),(19,.val ⟨y8,false,t19,[.S]⟩),(20,.val ⟨(.int .i64),false,t20,[]⟩),(21,.val ⟨(.int .i64),false,v.2,[]⟩)] [(1,⟨y14,a,d,[.S,.S]⟩)])) (j7R t19 t20) (λ(k:Z6G Unit)=>(((λ(out1:qL)=>k (.exit 1) (mkS 66 66 [(1,.ptr ⟨true,1,[]⟩),(3,.val ⟨y9,false,out1,[.O]⟩)] [(1,⟨y14,a,d,[.S,.S]⟩)]))):(qL->Res))) (λv rec k=>by kernel_rfl) n v k
theorem jmO {W0:Base} {M:Nat->Prop} (hnp:W0.np<=0):Z1W Tryz.prog W0 M (pl (pr (pl (pl (pr (pl (pr (pl (pr (pr j3p)))))))))) j4i:=show Z1W Tryz.prog W0 M (Code.loop (pl (pl (pr (pl (pl (pr (pl (pr (pl (pr (pr j3p)))))))))))) j4i from Z8X (Z6Q follows j01 (Z7K (Z8C jde Z8W)) hnp [] (pl (pl (pr (pl (pl (pr (pl (pr (pl (pr (pr j3p))))))))))) .o trivial) (ks:=[1,3,19,20,21]) (bs:=[1]) (fX:=(Z8a ([],[]) [(1,[1,3],[1])] ([],[]))) (Z8U _ _ _) Z0Y (by
 intro σ k r h
 obtain ⟨hn,h1⟩:=Z8G h
 obtain ⟨hs1,h2⟩:=Z8H h1
 obtain ⟨out,hs3,h3⟩:=Z8J h2
 obtain ⟨t19,hs19,h4⟩:=Z8J h3
 obtain ⟨t20,hs20,h5⟩:=Z8J h4
 obtain ⟨t21,hs21,h6⟩:=Z8J h5
 obtain ⟨a,d,hb1,h7⟩:=Z8D h6
 refine ⟨_,?_,(jmw t19 t20 a d Z0Y (out,t21) k).trans h7⟩
 exact Z9e hn ⟨hs1,hs3,hs19,hs20,hs21,trivial⟩ ⟨hb1,trivial⟩)
noncomputable def jah (out:qL) (t15:Int) (d:qG) (k0:qL->Res):Res:=
 bif (t15==1) then
  jcW d.2.2.1 (nI (List.length d.2.2.1)) Z0Y out 0 λ(out1:qL)=>
   bif lim ((List.length out1)+1) then
    bif lim ((List.length (out1++[j2d]))+(List.length d.2.2.2.1)) then
     k0 ((out1++[j2d])++d.2.2.2.1)
    else none
   else none
 else
  bif (t15==3) then
   bif inb 0 (List.length d.2.2.1) then
    j3R (nth (eS,0,false,false,0,0,eS) d.2.2.1 0) λ(r:qL)=>
     bif lim ((List.length out)+(List.length r)) then
      k0 (out++r)
     else none
   else none
  else
   bif (t15==4) then
    bif lim ((List.length out)+1) then
     k0 (out++[d.2.2.2.2.1])
    else none
   else
    bif (t15==5) then
     bif lim ((List.length out)+2) then
      k0 (out++[d.2.2.2.2.1,d.2.2.2.2.2])
     else none
    else
     k0 out
noncomputable def jco:Z1l Unit:=λσ k=>rdN σ 66<|rdT σ 1 (.ptr ⟨true,1,[]⟩)<|rdV σ 3 y9 false [.O] λout=>rdV σ 15 (.int .i64) false [] λt15=>rdB σ 1 y14 [.S,.S] λa d=>jah out t15 d (λ(out2:qL)=>k .normal (mkS 66 66 [(3,.val ⟨y9,false,out2,[.O]⟩)] []))
theorem jmx (out:qL) (t15:Int) (a:Bool) (d:qG) (k:Z6G Unit):Z0R jaM [j4i] (.t (.t .o (.t (.t (.t .o (.t (.x 0) .o)) .o) .o)) .o) (pr (pl (pr (pr j3p)))) (mkS 66 66 [(1,.ptr ⟨true,1,[]⟩),(3,.val ⟨y9,false,out,[.O]⟩),(15,.val ⟨(.int .i64),false,t15,[]⟩)] [(1,⟨y14,a,d,[.S,.S]⟩)]) (λe σ=>k e ((Z8a ([3],[]) [] ([],[])) e σ))=jah out t15 d (λ(out2:qL)=>k .normal (mkS 66 66 [(3,.val ⟨y9,false,out2,[.O]⟩)] [])):=by kernel_rfl
theorem jmP {W0:Base} {M:Nat->Prop} (hnp:W0.np<=0):Z1W Tryz.prog W0 M (pr (pl (pr (pr j3p)))) jco:=Z91 (Z6Q follows j01 (Z7K (Z8C jde Z8W)) hnp [j4i] ((pr (pl (pr (pr j3p))))) (.t (.t .o (.t (.t (.t .o (.t (.x 0) .o)) .o) .o)) .o) (Z1A.mk ((Z1A.mk trivial ((Z1A.mk ((Z1A.mk ((Z1A.mk trivial ((Z1A.mk (Z1A.x_mk (λW0 M hnp=>jmO (W0:=W0) (M:=M) hnp)) trivial)))) trivial)) trivial)))) trivial)) (fg:=(Z8a ([3],[]) [] ([],[]))) (Z8U _ _ _) (by
 intro σ k r h
 obtain ⟨hn,h1⟩:=Z8G h
 obtain ⟨hs1,h2⟩:=Z8H h1
 obtain ⟨out,hs3,h3⟩:=Z8J h2
 obtain ⟨t15,hs15,h4⟩:=Z8J h3
 obtain ⟨a,d,hb1,h5⟩:=Z8D h4
 refine ⟨_,?_,(jmx out t15 a d k).trans h5⟩
 exact Z9e hn ⟨hs1,hs3,hs15,trivial⟩ ⟨hb1,trivial⟩)
noncomputable def jaE (d:qG) (k0:qL->Res):Res:=
 bif inb d.1 6 then
  jah [nth eS [eS,j10,j3B,j4j,j6r,j2Y] d.1,d.2.1] d.1 d λ(out:qL)=>
   k0 out
 else none
noncomputable def jhl:Sig Unit:=⟨[.borrow y14 true],[false],λvals ext k=>av vals y14 λd vals=>nl vals<|nl ext<|jaE d (λ(r0:qL)=>k [⟨y9,false,r0,[.O]⟩] [] [])⟩
theorem jp8 (d:qG) (a_d:Bool) (t_d:List Tag) (k:qK):Z6X jaM [j4i,jco] (.t .o (.t .o (.t (.t .o (.x 1)) .o))) false Tryz.f254 [.borrow y14 true] [false] [⟨y14,a_d,d,t_d⟩] [] k=jaE d (λ(r0:qL)=>k [⟨y9,false,r0,[.O]⟩] [] []):=by kernel_rfl
theorem jpd:Z1k Tryz.prog 254 jhl:=Z8N (Γ:=jaM) (X:=[j4i,jco]) (ht:=(.t .o (.t .o (.t (.t .o (.x 1)) .o)))) (fz:=false) (c:=j3p) follows j01 (Z8C jde Z8W) (Z1A.mk trivial ((Z1A.mk trivial ((Z1A.mk ((Z1A.mk trivial (Z1A.x_mk (λW0 M hnp=>jmP (W0:=W0) (M:=M) hnp)))) trivial))))) Tryz.func254 (by kernel_rfl) (by kernel_rfl) (by decide) (by
 intro vals ext k r h
 obtain ⟨d,a_d,t_d,vals,rfl,h1⟩:=Z8T h
 obtain ⟨rfl,h2⟩:=Z90 h1
 obtain ⟨rfl,h3⟩:=Z90 h2
 exact (jp8 d a_d t_d k).trans h3)
noncomputable def j7e:Code:=(Tryz.f217.body).getD .skip
noncomputable def jcF:Env Unit:=⟨tys,[],0⟩
noncomputable def j4z (t6:qL) (t7:Int) (out:qB) (t8:Int) (rec:qB->Int->Res) (k0:qB->Res):Res:=
 bif decide (t8<t7) then
  bif inb t8 (List.length t6) then
   bif decide (t8>0) then
    bif lim ((ByteArray.size out)+1) then
     bif lim ((ByteArray.size (out++j0c))+(ByteArray.size (nth eS t6 t8))) then
      rec ((out++j0c)++(nth eS t6 t8)) (Z8g (t8+1))
     else none
    else none
   else
    bif lim ((ByteArray.size out)+(ByteArray.size (nth eS t6 t8))) then
     rec (out++(nth eS t6 t8)) (Z8g (t8+1))
    else none
  else none
 else
  k0 out
noncomputable def j6Q (t6:qL) (t7:Int):(qB×Int)->(qB×Int->Res)->((qB->Res))->Res:=λv rec q=>j4z t6 t7 v.1 v.2 (λout t8=>rec (out,t8)) q
noncomputable def jcd (t6:qL) (t7:Int) (n:Nat) (out:qB) (t8:Int) (k0:qB->Res):Res:=Z10 (j6Q t6 t7) n (out,t8) (k0)
noncomputable def j82:Z1l Unit:=λσ k=>rdN σ 22<|rdV σ 3 .str false [] λout=>rdV σ 6 y9 false [.S] λt6=>rdV σ 7 (.int .i64) false [] λt7=>rdV σ 8 (.int .i64) false [] λt8=>jcd t6 t7 Z0Y out t8 (λ(out1:qB)=>k (.exit 0) (mkS 22 22 [(3,.val ⟨.str,false,out1,[]⟩)] []))
theorem jkw (t6:qL) (t7:Int) (n:Nat) (v:qB×Int) (k:Z6G Unit):Z3X (Z0R jcF [] .o (pl (pl (pr (pl (pr (pr j7e))))))) (λσ=>σ.forget [3,6,7,8] []) (Z8a ([],[]) [(0,[3],[])] ([],[])) n (mkS 22 22 [(3,.val ⟨.str,false,v.1,[]⟩),(6,.val ⟨y9,false,t6,[.S]⟩),(7,.val ⟨(.int .i64),false,t7,[]⟩),(8,.val ⟨(.int .i64),false,v.2,[]⟩)] []) k=Z10 (j6Q t6 t7) n v ((λ(k:Z6G Unit)=>(((λ(out1:qB)=>k (.exit 0) (mkS 22 22 [(3,.val ⟨.str,false,out1,[]⟩)] []))):(qB->Res))) k):=Z80 (λv:qB×Int=>(mkS 22 22 [(3,.val ⟨.str,false,v.1,[]⟩),(6,.val ⟨y9,false,t6,[.S]⟩),(7,.val ⟨(.int .i64),false,t7,[]⟩),(8,.val ⟨(.int .i64),false,v.2,[]⟩)] [])) (j6Q t6 t7) (λ(k:Z6G Unit)=>(((λ(out1:qB)=>k (.exit 0) (mkS 22 22 [(3,.val ⟨.str,false,out1,[]⟩)] []))):(qB->Res))) (λv rec k=>by kernel_rfl) n v k
theorem jlj {W0:Base} {M:Nat->Prop} (hnp:W0.np<=0):Z1W Tryz.prog W0 M (pl (pr (pl (pr (pr j7e))))) j82:=show Z1W Tryz.prog W0 M (Code.loop (pl (pl (pr (pl (pr (pr j7e))))))) j82 from Z8X (Z6Q follows j01 (Z7K Z8W) hnp [] (pl (pl (pr (pl (pr (pr j7e)))))) .o trivial) (ks:=[3,6,7,8]) (bs:=[]) (fX:=(Z8a ([],[]) [(0,[3],[])] ([],[]))) (Z8U _ _ _) Z0Y (by
 intro σ k r h
 obtain ⟨hn,h1⟩:=Z8G h
 obtain ⟨out,hs3,h2⟩:=Z8J h1
 obtain ⟨t6,hs6,h3⟩:=Z8J h2
 obtain ⟨t7,hs7,h4⟩:=Z8J h3
 obtain ⟨t8,hs8,h5⟩:=Z8J h4
 refine ⟨_,?_,(jkw t6 t7 Z0Y (out,t8) k).trans h5⟩
 exact Z9e hn ⟨hs3,hs6,hs7,hs8,trivial⟩ trivial)
noncomputable def j1p (l:qL) (k0:qB->Res):Res:=
 jcd l (nI (List.length l)) Z0Y eS 0 λ(out:qB)=>
  k0 out
noncomputable def jcU:Sig Unit:=⟨[.look y9 false],[false],λvals ext k=>av vals y9 λl vals=>nl vals<|nl ext<|j1p l (λ(r0:qB)=>k [⟨.str,false,r0,[]⟩] [] [])⟩
theorem jny (l:qL) (a_l:Bool) (t_l:List Tag) (k:qK):Z6X jcF [j82] (.t .o (.t .o (.t (.t .o (.t (.x 0) .o)) .o))) false Tryz.f217 [.look y9 false] [false] [⟨y9,a_l,l,t_l⟩] [] k=j1p l (λ(r0:qB)=>k [⟨.str,false,r0,[]⟩] [] []):=by kernel_rfl
theorem jcr:Z1k Tryz.prog 217 jcU:=Z8N (Γ:=jcF) (X:=[j82]) (ht:=(.t .o (.t .o (.t (.t .o (.t (.x 0) .o)) .o)))) (fz:=false) (c:=j7e) follows j01 Z8W (Z1A.mk trivial ((Z1A.mk trivial ((Z1A.mk ((Z1A.mk trivial ((Z1A.mk (Z1A.x_mk (λW0 M hnp=>jlj (W0:=W0) (M:=M) hnp)) trivial)))) trivial))))) Tryz.func217 (by kernel_rfl) (by kernel_rfl) (by decide) (by
 intro vals ext k r h
 obtain ⟨l,a_l,t_l,vals,rfl,h1⟩:=Z8T h
 obtain ⟨rfl,h2⟩:=Z90 h1
 obtain ⟨rfl,h3⟩:=Z90 h2
 exact (jny l a_l t_l k).trans h3)
noncomputable def jnQ:Code:=(Tryz.f219.body).getD .skip
noncomputable def jfP:Env Unit:=⟨tys,[(71,jed),(217,jcU),(254,jhl)],0⟩
noncomputable def j7q (d:qG) (k0:qB->Res):Res:=
 jae d λ(r:Bool)=>
  bif !r then
   k0 eS
  else
   jaE d λ(r1:qL)=>
    j1p r1 λ(r2:qB)=>
     k0 r2
noncomputable def jcR:Sig Unit:=⟨[.look y14 true],[false],λvals ext k=>av vals y14 λd vals=>nl vals<|nl ext<|j7q d (λ(r0:qB)=>k [⟨.str,false,r0,[]⟩] [] [])⟩
theorem jnm (d:qG) (a_d:Bool) (t_d:List Tag) (k:qK):Z6X jfP [] .o false Tryz.f219 [.look y14 true] [false] [⟨y14,a_d,d,t_d⟩] [] k=j7q d (λ(r0:qB)=>k [⟨.str,false,r0,[]⟩] [] []):=by kernel_rfl
theorem j2G:Z1k Tryz.prog 219 jcR:=Z8N (Γ:=jfP) (X:=[]) (ht:= .o) (fz:=false) (c:=jnQ) follows j01 (Z8C jdL (Z8C jcr (Z8C jpd Z8W))) trivial Tryz.func219 (by kernel_rfl) (by kernel_rfl) (by decide) (by
 intro vals ext k r h
 obtain ⟨d,a_d,t_d,vals,rfl,h1⟩:=Z8T h
 obtain ⟨rfl,h2⟩:=Z90 h1
 obtain ⟨rfl,h3⟩:=Z90 h2
 exact (jnm d a_d t_d k).trans h3)
noncomputable def j0z:Code:=(Tryz.f222.body).getD .skip
noncomputable def j3E:Env Unit:=⟨tys,[(109,j9H),(219,jcR),(256,jee),(257,jao)],0⟩
noncomputable def j97 (k0:Unit->Res):Res:=
 k0 ()
noncomputable def j0Z:Z1l Unit:=λσ k=>rdN σ 79<|rdT σ 2 (.ptr ⟨true,2,[]⟩)<|rdV σ 3 .bool false [] λt3=>rdB σ 2 y14 [.O,.O] λa t2=>j97 (λ(_:Unit)=>k .ret (mkS 79 79 [(2,.ptr ⟨true,2,[]⟩),(3,.val ⟨.bool,false,t3,[]⟩)] [(2,⟨y14,a,t2,[.O,.O]⟩)]))
theorem jke (t3:Bool) (a:Bool) (t2:qG) (k:Z6G Unit):Z0R j3E [] .o (pr (pr (pr (pr (pr (pr (pr (pr (pr (pr j0z)))))))))) (mkS 79 79 [(2,.ptr ⟨true,2,[]⟩),(3,.val ⟨.bool,false,t3,[]⟩)] [(2,⟨y14,a,t2,[.O,.O]⟩)]) (λe σ=>k e ((Z8a ([],[]) [] ([2,3],[2])) e σ))=j97 (λ(_:Unit)=>k .ret (mkS 79 79 [(2,.ptr ⟨true,2,[]⟩),(3,.val ⟨.bool,false,t3,[]⟩)] [(2,⟨y14,a,t2,[.O,.O]⟩)])):=by kernel_rfl
theorem jl1 {W0:Base} {M:Nat->Prop} (hnp:W0.np<=0):Z1W Tryz.prog W0 M (pr (pr (pr (pr (pr (pr (pr (pr (pr (pr j0z)))))))))) j0Z:=Z91 (Z6Q follows j01 (Z7K (Z8C j0N (Z8C j2G (Z8C j3C (Z8C j1i Z8W))))) hnp [] ((pr (pr (pr (pr (pr (pr (pr (pr (pr (pr j0z))))))))))) .o trivial) (fg:=(Z8a ([],[]) [] ([2,3],[2]))) (Z8U _ _ _) (by
 intro σ k r h
 obtain ⟨hn,h1⟩:=Z8G h
 obtain ⟨hs2,h2⟩:=Z8H h1
 obtain ⟨t3,hs3,h3⟩:=Z8J h2
 obtain ⟨a,t2,hb2,h4⟩:=Z8D h3
 refine ⟨_,?_,(jke t3 a t2 k).trans h4⟩
 exact Z9e hn ⟨hs2,hs3,trivial⟩ ⟨hb2,trivial⟩)
noncomputable def j98 (k0:Unit->Res):Res:=
 j97 λ(_:Unit)=>
  k0 ()
noncomputable def j1y:Z1l Unit:=λσ k=>rdN σ 79<|rdT σ 2 (.ptr ⟨true,2,[]⟩)<|rdT σ 5 (.ptr ⟨true,5,[]⟩)<|rdB σ 2 y14 [.O,.O] λa t2=>rdB σ 5 y14 [.O,.O] λa1 d=>j98 (λ(_:Unit)=>k .ret (mkS 79 79 [(2,.ptr ⟨true,2,[]⟩),(3,.val ⟨.bool,false,true,[]⟩)] [(2,⟨y14,a,d,[.O,.O]⟩)]))
theorem jkf (a:Bool) (t2:qG) (a1:Bool) (d:qG) (k:Z6G Unit):Z0R j3E [j0Z] (.t .o (.x 0)) (pr (pr (pr (pr (pr (pr (pr (pr (pr j0z))))))))) (mkS 79 79 [(2,.ptr ⟨true,2,[]⟩),(5,.ptr ⟨true,5,[]⟩)] [(2,⟨y14,a,t2,[.O,.O]⟩),(5,⟨y14,a1,d,[.O,.O]⟩)]) (λe σ=>k e ((Z8a ([],[]) [] ([2,3],[2])) e σ))=j98 (λ(_:Unit)=>k .ret (mkS 79 79 [(2,.ptr ⟨true,2,[]⟩),(3,.val ⟨.bool,false,true,[]⟩)] [(2,⟨y14,a,d,[.O,.O]⟩)])):=by kernel_rfl
theorem jl2 {W0:Base} {M:Nat->Prop} (hnp:W0.np<=0):Z1W Tryz.prog W0 M (pr (pr (pr (pr (pr (pr (pr (pr (pr j0z))))))))) j1y:=Z91 (Z6Q follows j01 (Z7K (Z8C j0N (Z8C j2G (Z8C j3C (Z8C j1i Z8W))))) hnp [j0Z] ((pr (pr (pr (pr (pr (pr (pr (pr (pr j0z)))))))))) (.t .o (.x 0)) (Z1A.mk trivial (Z1A.x_mk (λW0 M hnp=>jl1 (W0:=W0) (M:=M) hnp)))) (fg:=(Z8a ([],[]) [] ([2,3],[2]))) (Z8U _ _ _) (by
 intro σ k r h
 obtain ⟨hn,h1⟩:=Z8G h
 obtain ⟨hs2,h2⟩:=Z8H h1
 obtain ⟨hs5,h3⟩:=Z8H h2
 obtain ⟨a,t2,hb2,h4⟩:=Z8D h3
 obtain ⟨a1,d,hb5,h5⟩:=Z8D h4
 refine ⟨_,?_,(jkf a t2 a1 d k).trans h5⟩
 exact Z9e hn ⟨hs2,hs5,trivial⟩ ⟨hb2,hb5,trivial⟩)
noncomputable def j3c (s:qB) (d:qG) (k0:Bool->qG->Res):Res:=
 j7q d λ(r:qB)=>
  bif sNe r s then
   k0 false (0,eS,[],[],eS,eS)
  else
   j98 λ(_:Unit)=>
    k0 true d
noncomputable def j2C:Z1l Unit:=λσ k=>rdN σ 79<|rdV σ 0 .str false [] λs=>rdT σ 2 (.ptr ⟨true,2,[]⟩)<|rdT σ 5 (.ptr ⟨true,5,[]⟩)<|rdB σ 2 y14 [.O,.O] λa t2=>rdB σ 5 y14 [.O,.O] λa1 d=>j3c s d (λ(t3:Bool) (t21:qG)=>k .ret (mkS 79 79 [(2,.ptr ⟨true,2,[]⟩),(3,.val ⟨.bool,false,t3,[]⟩)] [(2,⟨y14,a,t21,[.O,.O]⟩)]))
theorem jkg (s:qB) (a:Bool) (t2:qG) (a1:Bool) (d:qG) (k:Z6G Unit):Z0R j3E [j0Z,j1y] (.t .o (.x 1)) (pr (pr (pr (pr (pr (pr (pr (pr j0z)))))))) (mkS 79 79 [(0,.val ⟨.str,false,s,[]⟩),(2,.ptr ⟨true,2,[]⟩),(5,.ptr ⟨true,5,[]⟩)] [(2,⟨y14,a,t2,[.O,.O]⟩),(5,⟨y14,a1,d,[.O,.O]⟩)]) (λe σ=>k e ((Z8a ([],[]) [] ([2,3],[2])) e σ))=j3c s d (λ(t3:Bool) (t21:qG)=>k .ret (mkS 79 79 [(2,.ptr ⟨true,2,[]⟩),(3,.val ⟨.bool,false,t3,[]⟩)] [(2,⟨y14,a,t21,[.O,.O]⟩)])):=by kernel_rfl
theorem jl3 {W0:Base} {M:Nat->Prop} (hnp:W0.np<=0):Z1W Tryz.prog W0 M (pr (pr (pr (pr (pr (pr (pr (pr j0z)))))))) j2C:=Z91 (Z6Q follows j01 (Z7K (Z8C j0N (Z8C j2G (Z8C j3C (Z8C j1i Z8W))))) hnp [j0Z,j1y] ((pr (pr (pr (pr (pr (pr (pr (pr j0z))))))))) (.t .o (.x 1)) (Z1A.mk trivial (Z1A.x_mk (λW0 M hnp=>jl2 (W0:=W0) (M:=M) hnp)))) (fg:=(Z8a ([],[]) [] ([2,3],[2]))) (Z8U _ _ _) (by
 intro σ k r h
 obtain ⟨hn,h1⟩:=Z8G h
 obtain ⟨s,hs0,h2⟩:=Z8J h1
 obtain ⟨hs2,h3⟩:=Z8H h2
 obtain ⟨hs5,h4⟩:=Z8H h3
 obtain ⟨a,t2,hb2,h5⟩:=Z8D h4
 obtain ⟨a1,d,hb5,h6⟩:=Z8D h5
 refine ⟨_,?_,(jkg s a t2 a1 d k).trans h6⟩
 exact Z9e hn ⟨hs0,hs2,hs5,trivial⟩ ⟨hb2,hb5,trivial⟩)
noncomputable def j2j (s:qB) (w:qL) (d:qG) (k0:Bool->qG->Res):Res:=
 bif (d.1==5) then
  bif decide ((nI (List.length w))>3) then
   bif inb 3 (List.length w) then
    j3c s (d.1,d.2.1,d.2.2.1,d.2.2.2.1,d.2.2.2.2.1,nth eS w 3) λ(t:Bool) (t1:qG)=>
     k0 t t1
   else none
  else
   j3c s d λ(t3:Bool) (t4:qG)=>
    k0 t3 t4
 else
  j3c s d λ(t5:Bool) (t6:qG)=>
   k0 t5 t6
noncomputable def j5o:Z1l Unit:=λσ k=>rdN σ 79<|rdV σ 0 .str false [] λs=>rdT σ 2 (.ptr ⟨true,2,[]⟩)<|rdV σ 4 y9 false [.S] λw=>rdT σ 5 (.ptr ⟨true,5,[]⟩)<|rdB σ 2 y14 [.O,.O] λa t2=>rdB σ 5 y14 [.O,.O] λa1 d=>j2j s w d (λ(t3:Bool) (t21:qG)=>k .ret (mkS 79 79 [(2,.ptr ⟨true,2,[]⟩),(3,.val ⟨.bool,false,t3,[]⟩)] [(2,⟨y14,a,t21,[.O,.O]⟩)]))
theorem jkh (s:qB) (w:qL) (a:Bool) (t2:qG) (a1:Bool) (d:qG) (k:Z6G Unit):Z0R j3E [j0Z,j1y,j2C] (.t .o (.x 2)) (pr (pr (pr (pr (pr (pr (pr j0z))))))) (mkS 79 79 [(0,.val ⟨.str,false,s,[]⟩),(2,.ptr ⟨true,2,[]⟩),(4,.val ⟨y9,false,w,[.S]⟩),(5,.ptr ⟨true,5,[]⟩)] [(2,⟨y14,a,t2,[.O,.O]⟩),(5,⟨y14,a1,d,[.O,.O]⟩)]) (λe σ=>k e ((Z8a ([],[]) [] ([2,3],[2])) e σ))=j2j s w d (λ(t3:Bool) (t21:qG)=>k .ret (mkS 79 79 [(2,.ptr ⟨true,2,[]⟩),(3,.val ⟨.bool,false,t3,[]⟩)] [(2,⟨y14,a,t21,[.O,.O]⟩)])):=by kernel_rfl
theorem jl4 {W0:Base} {M:Nat->Prop} (hnp:W0.np<=0):Z1W Tryz.prog W0 M (pr (pr (pr (pr (pr (pr (pr j0z))))))) j5o:=Z91 (Z6Q follows j01 (Z7K (Z8C j0N (Z8C j2G (Z8C j3C (Z8C j1i Z8W))))) hnp [j0Z,j1y,j2C] ((pr (pr (pr (pr (pr (pr (pr j0z)))))))) (.t .o (.x 2)) (Z1A.mk trivial (Z1A.x_mk (λW0 M hnp=>jl3 (W0:=W0) (M:=M) hnp)))) (fg:=(Z8a ([],[]) [] ([2,3],[2]))) (Z8U _ _ _) (by
 intro σ k r h
 obtain ⟨hn,h1⟩:=Z8G h
 obtain ⟨s,hs0,h2⟩:=Z8J h1
 obtain ⟨hs2,h3⟩:=Z8H h2
 obtain ⟨w,hs4,h4⟩:=Z8J h3
 obtain ⟨hs5,h5⟩:=Z8H h4
 obtain ⟨a,t2,hb2,h6⟩:=Z8D h5
 obtain ⟨a1,d,hb5,h7⟩:=Z8D h6
 refine ⟨_,?_,(jkh s w a t2 a1 d k).trans h7⟩
 exact Z9e hn ⟨hs0,hs2,hs4,hs5,trivial⟩ ⟨hb2,hb5,trivial⟩)
noncomputable def j1s (s:qB) (w:qL) (d:qG) (k0:Bool->qG->Res):Res:=
 bif (d.1==4) then
  bif decide ((nI (List.length w))>2) then
   bif inb 2 (List.length w) then
    j2j s w (d.1,d.2.1,d.2.2.1,d.2.2.2.1,nth eS w 2,d.2.2.2.2.2) λ(t:Bool) (t1:qG)=>
     k0 t t1
   else none
  else
   j2j s w d λ(t3:Bool) (t4:qG)=>
    k0 t3 t4
 else
  bif (d.1==5) then
   bif decide ((nI (List.length w))>2) then
    bif inb 2 (List.length w) then
     j2j s w (d.1,d.2.1,d.2.2.1,d.2.2.2.1,nth eS w 2,d.2.2.2.2.2) λ(t5:Bool) (t6:qG)=>
      k0 t5 t6
    else none
   else
    j2j s w d λ(t7:Bool) (t8:qG)=>
     k0 t7 t8
  else
   j2j s w d λ(t9:Bool) (t10:qG)=>
    k0 t9 t10
noncomputable def jbg:Z1l Unit:=λσ k=>rdN σ 79<|rdV σ 0 .str false [] λs=>rdT σ 2 (.ptr ⟨true,2,[]⟩)<|rdV σ 4 y9 false [.S] λw=>rdT σ 5 (.ptr ⟨true,5,[]⟩)<|rdB σ 2 y14 [.O,.O] λa t2=>rdB σ 5 y14 [.O,.O] λa1 d=>j1s s w d (λ(t3:Bool) (t21:qG)=>k .ret (mkS 79 79 [(2,.ptr ⟨true,2,[]⟩),(3,.val ⟨.bool,false,t3,[]⟩)] [(2,⟨y14,a,t21,[.O,.O]⟩)]))
theorem jki (s:qB) (w:qL) (a:Bool) (t2:qG) (a1:Bool) (d:qG) (k:Z6G Unit):Z0R j3E [j0Z,j1y,j2C,j5o] (.t .o (.x 3)) (pr (pr (pr (pr (pr (pr j0z)))))) (mkS 79 79 [(0,.val ⟨.str,false,s,[]⟩),(2,.ptr ⟨true,2,[]⟩),(4,.val ⟨y9,false,w,[.S]⟩),(5,.ptr ⟨true,5,[]⟩)] [(2,⟨y14,a,t2,[.O,.O]⟩),(5,⟨y14,a1,d,[.O,.O]⟩)]) (λe σ=>k e ((Z8a ([],[]) [] ([2,3],[2])) e σ))=j1s s w d (λ(t3:Bool) (t21:qG)=>k .ret (mkS 79 79 [(2,.ptr ⟨true,2,[]⟩),(3,.val ⟨.bool,false,t3,[]⟩)] [(2,⟨y14,a,t21,[.O,.O]⟩)])):=by kernel_rfl
theorem jl5 {W0:Base} {M:Nat->Prop} (hnp:W0.np<=0):Z1W Tryz.prog W0 M (pr (pr (pr (pr (pr (pr j0z)))))) jbg:=Z91 (Z6Q follows j01 (Z7K (Z8C j0N (Z8C j2G (Z8C j3C (Z8C j1i Z8W))))) hnp [j0Z,j1y,j2C,j5o] ((pr (pr (pr (pr (pr (pr j0z))))))) (.t .o (.x 3)) (Z1A.mk trivial (Z1A.x_mk (λW0 M hnp=>jl4 (W0:=W0) (M:=M) hnp)))) (fg:=(Z8a ([],[]) [] ([2,3],[2]))) (Z8U _ _ _) (by
 intro σ k r h
 obtain ⟨hn,h1⟩:=Z8G h
 obtain ⟨s,hs0,h2⟩:=Z8J h1
 obtain ⟨hs2,h3⟩:=Z8H h2
 obtain ⟨w,hs4,h4⟩:=Z8J h3
 obtain ⟨hs5,h5⟩:=Z8H h4
 obtain ⟨a,t2,hb2,h6⟩:=Z8D h5
 obtain ⟨a1,d,hb5,h7⟩:=Z8D h6
 refine ⟨_,?_,(jki s w a t2 a1 d k).trans h7⟩
 exact Z9e hn ⟨hs0,hs2,hs4,hs5,trivial⟩ ⟨hb2,hb5,trivial⟩)
noncomputable def j45 (s:qB) (k0:qG->Bool->Res):Res:=
 j6l s λ(r:qL)=>
  bif decide ((nI (List.length r))<2) then
   k0 (0,eS,[],[],eS,eS) false
  else
   bif inb 1 (List.length r) then
    bif inb 0 (List.length r) then
     bif sEq (nth eS r 0) j10 then
      bif Z6R 2 (nI (List.length r)) (List.length r) then
       j4X (1,nth eS r 1,[],[],eS,eS) (sub r 2 (nI (List.length r))) λ(r1:qG)=>
        j1s s r r1 λ(t:Bool) (t1:qG)=>
         k0 t1 t
      else none
     else
      bif sEq (nth eS r 0) j3B then
       j1s s r (2,nth eS r 1,[],[],eS,eS) λ(t2:Bool) (t3:qG)=>
        k0 t3 t2
      else
       bif sEq (nth eS r 0) j4j then
        bif Z6R 2 (nI (List.length r)) (List.length r) then
         j4h (sub r 2 (nI (List.length r))) λ(r2:qB×Int×Bool×Bool×Int×Int×qB)=>
          j1s s r (3,nth eS r 1,[r2],[],eS,eS) λ(t4:Bool) (t5:qG)=>
           k0 t5 t4
        else none
       else
        bif sEq (nth eS r 0) j6r then
         j1s s r (4,nth eS r 1,[],[],eS,eS) λ(t6:Bool) (t7:qG)=>
          k0 t7 t6
        else
         bif sEq (nth eS r 0) j2Y then
          j1s s r (5,nth eS r 1,[],[],eS,eS) λ(t8:Bool) (t9:qG)=>
           k0 t9 t8
         else
          j1s s r (0,nth eS r 1,[],[],eS,eS) λ(t10:Bool) (t11:qG)=>
           k0 t11 t10
    else none
   else none
noncomputable def jga:Sig Unit:=⟨[.borrow .str false],[true,false],λvals ext k=>av vals .str λs vals=>nl vals<|nl ext<|j45 s (λ(r0:qG) (r1:Bool)=>k [⟨y14,true,r0,[.O,.O]⟩,⟨.bool,false,r1,[]⟩] [] [])⟩
theorem jnq (s:qB) (a_s:Bool) (t_s:List Tag) (k:qK):Z6X j3E [j0Z,j1y,j2C,j5o,jbg] (.t .o (.t .o (.t .o (.t .o (.t .o (.t .o (.x 4))))))) false Tryz.f222 [.borrow .str false] [true,false] [⟨.str,a_s,s,t_s⟩] [] k=j45 s (λ(r0:qG) (r1:Bool)=>k [⟨y14,true,r0,[.O,.O]⟩,⟨.bool,false,r1,[]⟩] [] []):=by kernel_rfl
theorem jfA:Z1k Tryz.prog 222 jga:=Z8N (Γ:=j3E) (X:=[j0Z,j1y,j2C,j5o,jbg]) (ht:=(.t .o (.t .o (.t .o (.t .o (.t .o (.t .o (.x 4)))))))) (fz:=false) (c:=j0z) follows j01 (Z8C j0N (Z8C j2G (Z8C j3C (Z8C j1i Z8W)))) (Z1A.mk trivial ((Z1A.mk trivial ((Z1A.mk trivial ((Z1A.mk trivial ((Z1A.mk trivial ((Z1A.mk trivial (Z1A.x_mk (λW0 M hnp=>jl5 (W0:=W0) (M:=M) hnp))))))))))))) Tryz.func222 (by kernel_rfl) (by kernel_rfl) (by decide) (by
 intro vals ext k r h
 obtain ⟨s,a_s,t_s,vals,rfl,h1⟩:=Z8T h
 obtain ⟨rfl,h2⟩:=Z90 h1
 obtain ⟨rfl,h3⟩:=Z90 h2
 exact (jnq s a_s t_s k).trans h3)
noncomputable def j7g:Code:=(Tryz.f218.body).getD .skip
noncomputable def jcH:Env Unit:=⟨tys,[(253,jaa)],0⟩
noncomputable def j4B (t7:List qV) (t8:Int) (out:qL) (t9:Int) (rec:qL->Int->Res) (k0:qL->Res):Res:=
 bif decide (t9<t8) then
  bif inb t9 (List.length t7) then
   j5h (nth (0,0,eS) t7 t9) λ(r:qB)=>
    bif lim ((List.length out)+1) then
     rec (out++[r]) (Z8g (t9+1))
    else none
  else none
 else
  k0 out
noncomputable def j6S (t7:List qV) (t8:Int):(qL×Int)->(qL×Int->Res)->((qL->Res))->Res:=λv rec q=>j4B t7 t8 v.1 v.2 (λout t9=>rec (out,t9)) q
noncomputable def jcg (t7:List qV) (t8:Int) (n:Nat) (out:qL) (t9:Int) (k0:qL->Res):Res:=Z10 (j6S t7 t8) n (out,t9) (k0)
noncomputable def j84:Z1l Unit:=λσ k=>rdN σ 20<|rdV σ 3 y9 false [.O] λout=>rdV σ 7 y3 false [.S] λt7=>rdV σ 8 (.int .i64) false [] λt8=>rdV σ 9 (.int .i64) false [] λt9=>jcg t7 t8 Z0Y out t9 (λ(out1:qL)=>k (.exit 0) (mkS 20 20 [(3,.val ⟨y9,false,out1,[.O]⟩)] []))
theorem jky (t7:List qV) (t8:Int) (n:Nat) (v:qL×Int) (k:Z6G Unit):Z3X (Z0R jcH [] .o (pl (pl (pr (pl (pr (pr j7g))))))) (λσ=>σ.forget [3,7,8,9] []) (Z8a ([],[]) [(0,[3],[])] ([],[])) n (mkS 20 20 [(3,.val ⟨y9,false,v.1,[.O]⟩),(7,.val ⟨y3,false,t7,[.S]⟩),(8,.val ⟨(.int .i64),false,t8,[]⟩),(9,.val ⟨(.int .i64),false,v.2,[]⟩)] []) k=Z10 (j6S t7 t8) n v ((λ(k:Z6G Unit)=>(((λ(out1:qL)=>k (.exit 0) (mkS 20 20 [(3,.val ⟨y9,false,out1,[.O]⟩)] []))):(qL->Res))) k):=Z80 (λv:qL×Int=>(mkS 20 20 [(3,.val ⟨y9,false,v.1,[.O]⟩),(7,.val ⟨y3,false,t7,[.S]⟩),(8,.val ⟨(.int .i64),false,t8,[]⟩),(9,.val ⟨(.int .i64),false,v.2,[]⟩)] [])) (j6S t7 t8) (λ(k:Z6G Unit)=>(((λ(out1:qL)=>k (.exit 0) (mkS 20 20 [(3,.val ⟨y9,false,out1,[.O]⟩)] []))):(qL->Res))) (λv rec k=>by kernel_rfl) n v k
theorem jll {W0:Base} {M:Nat->Prop} (hnp:W0.np<=0):Z1W Tryz.prog W0 M (pl (pr (pl (pr (pr j7g))))) j84:=show Z1W Tryz.prog W0 M (Code.loop (pl (pl (pr (pl (pr (pr j7g))))))) j84 from Z8X (Z6Q follows j01 (Z7K (Z8C j28 Z8W)) hnp [] (pl (pl (pr (pl (pr (pr j7g)))))) .o trivial) (ks:=[3,7,8,9]) (bs:=[]) (fX:=(Z8a ([],[]) [(0,[3],[])] ([],[]))) (Z8U _ _ _) Z0Y (by
 intro σ k r h
 obtain ⟨hn,h1⟩:=Z8G h
 obtain ⟨out,hs3,h2⟩:=Z8J h1
 obtain ⟨t7,hs7,h3⟩:=Z8J h2
 obtain ⟨t8,hs8,h4⟩:=Z8J h3
 obtain ⟨t9,hs9,h5⟩:=Z8J h4
 refine ⟨_,?_,(jky t7 t8 Z0Y (out,t9) k).trans h5⟩
 exact Z9e hn ⟨hs3,hs7,hs8,hs9,trivial⟩ trivial)
noncomputable def j25 (l:List qV) (k0:qL->Res):Res:=
 jcg l (nI (List.length l)) Z0Y [] 0 λ(out:qL)=>
  k0 out
noncomputable def jgg:Sig Unit:=⟨[.borrow y3 false],[false],λvals ext k=>av vals y3 λl vals=>nl vals<|nl ext<|j25 l (λ(r0:qL)=>k [⟨y9,false,r0,[.O]⟩] [] [])⟩
theorem jnA (l:List qV) (a_l:Bool) (t_l:List Tag) (k:qK):Z6X jcH [j84] (.t .o (.t .o (.t (.t .o (.t (.x 0) .o)) .o))) false Tryz.f218 [.borrow y3 false] [false] [⟨y3,a_l,l,t_l⟩] [] k=j25 l (λ(r0:qL)=>k [⟨y9,false,r0,[.O]⟩] [] []):=by kernel_rfl
theorem jfD:Z1k Tryz.prog 218 jgg:=Z8N (Γ:=jcH) (X:=[j84]) (ht:=(.t .o (.t .o (.t (.t .o (.t (.x 0) .o)) .o)))) (fz:=false) (c:=j7g) follows j01 (Z8C j28 Z8W) (Z1A.mk trivial ((Z1A.mk trivial ((Z1A.mk ((Z1A.mk trivial ((Z1A.mk (Z1A.x_mk (λW0 M hnp=>jll (W0:=W0) (M:=M) hnp)) trivial)))) trivial))))) Tryz.func218 (by kernel_rfl) (by kernel_rfl) (by decide) (by
 intro vals ext k r h
 obtain ⟨l,a_l,t_l,vals,rfl,h1⟩:=Z8T h
 obtain ⟨rfl,h2⟩:=Z90 h1
 obtain ⟨rfl,h3⟩:=Z90 h2
 exact (jnA l a_l t_l k).trans h3)
noncomputable def j8N:Code:=(Tryz.f176.body).getD .skip
noncomputable def jbG:Env Unit:=⟨tys,[(13,jdt),(217,jcU),(218,jgg),(219,jcR)],0⟩
noncomputable def j7M (s:qS) (k0:qL->Res):Res:=
 Z6L
  (j25 s.2.2.1 λ(r:qL)=>
   bif lim (2+(List.length r)) then
    k0 ([j0F,s.2.1]++r)
   else none)
  (j25 s.2.2.1 λ(r1:qL)=>
   bif lim (2+(List.length r1)) then
    k0 ([j0F,s.2.1]++r1)
   else none)
noncomputable def jav:Z1l Unit:=λσ k=>rdN σ 56<|rdT σ 1 (.ptr ⟨true,1,[]⟩)<|rdB σ 1 y18 [.S,.S,.S,.S] λa s=>j7M s (λ(out:qL)=>k .normal (mkS 56 56 [(1,.ptr ⟨true,1,[]⟩),(3,.val ⟨y9,false,out,[.O]⟩)] [(1,⟨y18,a,s,[.S,.S,.S,.S]⟩)]))
theorem jiR (a:Bool) (s:qS) (k:Z6G Unit):Z0R jbG [] .o (pl (pl (pr (pr (pr (pl (pr (pl (pr (pr j8N)))))))))) (mkS 56 56 [(1,.ptr ⟨true,1,[]⟩)] [(1,⟨y18,a,s,[.S,.S,.S,.S]⟩)]) (λe σ=>k e ((Z8a ([1,3],[1]) [] ([],[])) e σ))=j7M s (λ(out:qL)=>k .normal (mkS 56 56 [(1,.ptr ⟨true,1,[]⟩),(3,.val ⟨y9,false,out,[.O]⟩)] [(1,⟨y18,a,s,[.S,.S,.S,.S]⟩)])):=by kernel_rfl
theorem jjj {W0:Base} {M:Nat->Prop} (hnp:W0.np<=0):Z1W Tryz.prog W0 M (pl (pl (pr (pr (pr (pl (pr (pl (pr (pr j8N)))))))))) jav:=Z91 (Z6Q follows j01 (Z7K (Z8C jaI (Z8C jcr (Z8C jfD (Z8C j2G Z8W))))) hnp [] ((pl (pl (pr (pr (pr (pl (pr (pl (pr (pr j8N))))))))))) .o trivial) (fg:=(Z8a ([1,3],[1]) [] ([],[]))) (Z8U _ _ _) (by
 intro σ k r h
 obtain ⟨hn,h1⟩:=Z8G h
 obtain ⟨hs1,h2⟩:=Z8H h1
 obtain ⟨a,s,hb1,h3⟩:=Z8D h2
 refine ⟨_,?_,(jiR a s k).trans h3⟩
 exact Z9e hn ⟨hs1,trivial⟩ ⟨hb1,trivial⟩)
noncomputable def j5J (s:qS) (k0:qB->Res):Res:=
 j8A s λ(r:Bool)=>
  bif !r then
   k0 eS
  else
   bif (s.1==1) then
    Z6L
     (j25 s.2.2.2.1 λ(r1:qL)=>
      bif lim (2+(List.length r1)) then
       j1p ([j0V,s.2.1]++r1) λ(r2:qB)=>
        k0 r2
      else none)
     (j25 s.2.2.2.1 λ(r3:qL)=>
      bif lim (2+(List.length r3)) then
       j1p ([j0V,s.2.1]++r3) λ(r4:qB)=>
        k0 r4
      else none)
   else
    bif (s.1==2) then
     j7M s λ(out:qL)=>
      bif lim ((List.length out)+1) then
       j25 s.2.2.2.1 λ(r5:qL)=>
        bif lim ((List.length (out++[j1C]))+(List.length r5)) then
         j1p ((out++[j1C])++r5) λ(r6:qB)=>
          k0 r6
        else none
      else none
    else
     bif (s.1==3) then
      Z6L
       (j25 s.2.2.1 λ(r7:qL)=>
        bif lim (2+(List.length r7)) then
         j1p ([j0U,s.2.1]++r7) λ(r8:qB)=>
          k0 r8
        else none)
       (j25 s.2.2.1 λ(r9:qL)=>
        bif lim (2+(List.length r9)) then
         j1p ([j0U,s.2.1]++r9) λ(r10:qB)=>
          k0 r10
        else none)
     else
      bif (s.1==4) then
       bif lim (6+(ByteArray.size s.2.1)) then
        k0 (jgR++s.2.1)
       else none
      else
       j7q s.2.2.2.2 λ(r11:qB)=>
        k0 r11
noncomputable def jc2:Sig Unit:=⟨[.look y18 true],[false],λvals ext k=>av vals y18 λs vals=>nl vals<|nl ext<|j5J s (λ(r0:qB)=>k [⟨.str,false,r0,[]⟩] [] [])⟩
theorem jlQ (s:qS) (a_s:Bool) (t_s:List Tag) (k:qK):Z6X jbG [jav] (.t .o (.t .o (.t (.t .o (.t (.t .o (.t .o (.t .o (.t (.t (.x 0) .o) .o)))) .o)) .o))) false Tryz.f176 [.look y18 true] [false] [⟨y18,a_s,s,t_s⟩] [] k=j5J s (λ(r0:qB)=>k [⟨.str,false,r0,[]⟩] [] []):=by kernel_rfl
theorem j8L:Z1k Tryz.prog 176 jc2:=Z8N (Γ:=jbG) (X:=[jav]) (ht:=(.t .o (.t .o (.t (.t .o (.t (.t .o (.t .o (.t .o (.t (.t (.x 0) .o) .o)))) .o)) .o)))) (fz:=false) (c:=j8N) follows j01 (Z8C jaI (Z8C jcr (Z8C jfD (Z8C j2G Z8W)))) (Z1A.mk trivial ((Z1A.mk trivial ((Z1A.mk ((Z1A.mk trivial ((Z1A.mk ((Z1A.mk trivial ((Z1A.mk trivial ((Z1A.mk trivial ((Z1A.mk ((Z1A.mk (Z1A.x_mk (λW0 M hnp=>jjj (W0:=W0) (M:=M) hnp)) trivial)) trivial)))))))) trivial)))) trivial))))) Tryz.func176 (by kernel_rfl) (by kernel_rfl) (by decide) (by
 intro vals ext k r h
 obtain ⟨s,a_s,t_s,vals,rfl,h1⟩:=Z8T h
 obtain ⟨rfl,h2⟩:=Z90 h1
 obtain ⟨rfl,h3⟩:=Z90 h2
 exact (jlQ s a_s t_s k).trans h3)
noncomputable def j8O:Code:=(Tryz.f178.body).getD .skip
noncomputable def jbH:Env Unit:=⟨tys,[(109,j9H),(176,jc2),(220,jij),(221,jgf),(222,jga)],0⟩
noncomputable def j7O (s:qB) (rest:qL) (to:Int) (t25:qB) (x:qS) (k0:qS->Res):Res:=
 bif sEq t25 j0V then
  j49 rest λ(r:List qV)=>
   k0 (1,x.2.1,x.2.2.1,r,x.2.2.2.2)
 else
  bif sEq t25 j0F then
   bif Z6R 0 to (List.length rest) then
    j49 (sub rest 0 to) λ(r1:List qV)=>
     bif decide (to<(nI (List.length rest))) then
      bif Z6R (Z8g (to+1)) (nI (List.length rest)) (List.length rest) then
       j49 (sub rest (Z8g (to+1)) (nI (List.length rest))) λ(r2:List qV)=>
        k0 (2,x.2.1,r1,r2,x.2.2.2.2)
      else none
     else
      k0 (2,x.2.1,r1,x.2.2.2)
   else none
  else
   bif sEq t25 j0U then
    j49 rest λ(r3:List qV)=>
     k0 (3,x.2.1,r3,x.2.2.2)
   else
    bif sEq t25 j1T then
     k0 (4,x.2)
    else
     j45 s λ(r4:qG) (r5:Bool)=>
      k0 (5,x.2.1,x.2.2.1,x.2.2.2.1,r4)
noncomputable def jax:Z1l Unit:=λσ k=>rdN σ 74<|rdV σ 0 .str false [] λs=>rdT σ 2 (.ptr ⟨true,2,[]⟩)<|rdT σ 5 (.ptr ⟨true,5,[]⟩)<|rdV σ 6 y9 false [.S] λrest=>rdV σ 7 (.int .i64) false [] λto=>rdV σ 25 .str false [] λt25=>rdB σ 2 y18 [.O,.O,.O,.O] λa t2=>rdB σ 5 y18 [.O,.O,.O,.O] λa1 x=>j7O s rest to t25 x (λ(x1:qS)=>k .normal (mkS 74 74 [(0,.val ⟨.str,false,s,[]⟩),(2,.ptr ⟨true,2,[]⟩),(5,.ptr ⟨true,5,[]⟩)] [(2,⟨y18,a,t2,[.O,.O,.O,.O]⟩),(5,⟨y18,a1,x1,[.O,.O,.O,.O]⟩)]))
theorem jiW (s:qB) (rest:qL) (to:Int) (t25:qB) (a:Bool) (t2:qS) (a1:Bool) (x:qS) (k:Z6G Unit):Z0R jbH [] .o (pr (pl (pr (pr (pr (pr (pr (pr (pr j8O))))))))) (mkS 74 74 [(0,.val ⟨.str,false,s,[]⟩),(2,.ptr ⟨true,2,[]⟩),(5,.ptr ⟨true,5,[]⟩),(6,.val ⟨y9,false,rest,[.S]⟩),(7,.val ⟨(.int .i64),false,to,[]⟩),(25,.val ⟨.str,false,t25,[]⟩)] [(2,⟨y18,a,t2,[.O,.O,.O,.O]⟩),(5,⟨y18,a1,x,[.O,.O,.O,.O]⟩)]) (λe σ=>k e ((Z8a ([0,2,5],[2,5]) [] ([],[])) e σ))=j7O s rest to t25 x (λ(x1:qS)=>k .normal (mkS 74 74 [(0,.val ⟨.str,false,s,[]⟩),(2,.ptr ⟨true,2,[]⟩),(5,.ptr ⟨true,5,[]⟩)] [(2,⟨y18,a,t2,[.O,.O,.O,.O]⟩),(5,⟨y18,a1,x1,[.O,.O,.O,.O]⟩)])):=by kernel_rfl
theorem jjo {W0:Base} {M:Nat->Prop} (hnp:W0.np<=0):Z1W Tryz.prog W0 M (pr (pl (pr (pr (pr (pr (pr (pr (pr j8O))))))))) jax:=Z91 (Z6Q follows j01 (Z7K (Z8C j0N (Z8C j8L (Z8C jhC (Z8C jfC (Z8C jfA Z8W)))))) hnp [] ((pr (pl (pr (pr (pr (pr (pr (pr (pr j8O)))))))))) .o trivial) (fg:=(Z8a ([0,2,5],[2,5]) [] ([],[]))) (Z8U _ _ _) (by
 intro σ k r h
 obtain ⟨hn,h1⟩:=Z8G h
 obtain ⟨s,hs0,h2⟩:=Z8J h1
 obtain ⟨hs2,h3⟩:=Z8H h2
 obtain ⟨hs5,h4⟩:=Z8H h3
 obtain ⟨rest,hs6,h5⟩:=Z8J h4
 obtain ⟨to,hs7,h6⟩:=Z8J h5
 obtain ⟨t25,hs25,h7⟩:=Z8J h6
 obtain ⟨a,t2,hb2,h8⟩:=Z8D h7
 obtain ⟨a1,x,hb5,h9⟩:=Z8D h8
 refine ⟨_,?_,(jiW s rest to t25 a t2 a1 x k).trans h9⟩
 exact Z9e hn ⟨hs0,hs2,hs5,hs6,hs7,hs25,trivial⟩ ⟨hb2,hb5,trivial⟩)
noncomputable def j3r (s:qB) (k0:qS->Bool->Res):Res:=
 j6l s λ(r:qL)=>
  bif decide ((nI (List.length r))<2) then
   k0 (0,eS,[],[],0,eS,[],[],eS,eS) false
  else
   bif inb 1 (List.length r) then
    bif Z6R 2 (nI (List.length r)) (List.length r) then
     jcf (sub r 2 (nI (List.length r))) λ(r1:Int)=>
      bif inb 0 (List.length r) then
       j7O s (sub r 2 (nI (List.length r))) r1 (nth eS r 0) (0,nth eS r 1,[],[],0,eS,[],[],eS,eS) λ(x:qS)=>
        j5J x λ(r2:qB)=>
         bif sNe r2 s then
          k0 (0,eS,[],[],0,eS,[],[],eS,eS) false
         else
          k0 x true
      else none
    else none
   else none
noncomputable def jf9:Sig Unit:=⟨[.borrow .str false],[true,false],λvals ext k=>av vals .str λs vals=>nl vals<|nl ext<|j3r s (λ(r0:qS) (r1:Bool)=>k [⟨y18,true,r0,[.O,.O,.O,.O]⟩,⟨.bool,false,r1,[]⟩] [] [])⟩
theorem jlS (s:qB) (a_s:Bool) (t_s:List Tag) (k:qK):Z6X jbH [jax] (.t .o (.t .o (.t .o (.t .o (.t .o (.t .o (.t .o (.t (.t .o (.x 0)) .o)))))))) false Tryz.f178 [.borrow .str false] [true,false] [⟨.str,a_s,s,t_s⟩] [] k=j3r s (λ(r0:qS) (r1:Bool)=>k [⟨y18,true,r0,[.O,.O,.O,.O]⟩,⟨.bool,false,r1,[]⟩] [] []):=by kernel_rfl
theorem jbt:Z1k Tryz.prog 178 jf9:=Z8N (Γ:=jbH) (X:=[jax]) (ht:=(.t .o (.t .o (.t .o (.t .o (.t .o (.t .o (.t .o (.t (.t .o (.x 0)) .o))))))))) (fz:=false) (c:=j8O) follows j01 (Z8C j0N (Z8C j8L (Z8C jhC (Z8C jfC (Z8C jfA Z8W))))) (Z1A.mk trivial ((Z1A.mk trivial ((Z1A.mk trivial ((Z1A.mk trivial ((Z1A.mk trivial ((Z1A.mk trivial ((Z1A.mk trivial ((Z1A.mk ((Z1A.mk trivial (Z1A.x_mk (λW0 M hnp=>jjo (W0:=W0) (M:=M) hnp)))) trivial))))))))))))))) Tryz.func178 (by kernel_rfl) (by kernel_rfl) (by decide) (by
 intro vals ext k r h
 obtain ⟨s,a_s,t_s,vals,rfl,h1⟩:=Z8T h
 obtain ⟨rfl,h2⟩:=Z90 h1
 obtain ⟨rfl,h3⟩:=Z90 h2
 exact (jlS s a_s t_s k).trans h3)
noncomputable def jbv:Code:=(Tryz.f124.body).getD .skip
noncomputable def jgs:Env Unit:=⟨tys,[],0⟩
noncomputable def j5D (s:qB) (by_:Int) (out:qL) (from_:Int) (i:Int) (rec:qL->Int->Int->Res) (k0:qL->Int->Res):Res:=
 bif decide (i<(nI (ByteArray.size s))) then
  bif inb i (ByteArray.size s) then
   bif ((bt s i)==by_) then
    bif Z6R from_ i (ByteArray.size s) then
     bif lim ((List.length out)+1) then
      rec (out++[Z9k s from_ i]) (Z8g (i+1)) (Z8g (i+1))
     else none
    else none
   else
    rec out from_ (Z8g (i+1))
  else none
 else
  k0 out from_
noncomputable def j5E (s:qB) (by_:Int):(qL×Int×Int)->(qL×Int×Int->Res)->((qL->Int->Res))->Res:=λv rec q=>j5D s by_ v.1 v.2.1 v.2.2 (λout from_ i=>rec (out,from_,i)) q
noncomputable def jfp (s:qB) (by_:Int) (n:Nat) (out:qL) (from_:Int) (i:Int) (k0:qL->Int->Res):Res:=Z10 (j5E s by_) n (out,from_,i) (k0)
noncomputable def jcl:Z1l Unit:=λσ k=>rdN σ 35<|rdV σ 0 .str false [] λs=>rdV σ 1 (.int .u8) false [] λby_=>rdV σ 5 y9 false [.O] λout=>rdV σ 6 (.int .i64) false [] λfrom_=>rdV σ 7 (.int .i64) false [] λi=>jfp s by_ Z0Y out from_ i (λ(out1:qL) (from_1:Int)=>k (.exit 0) (mkS 35 35 [(0,.val ⟨.str,false,s,[]⟩),(5,.val ⟨y9,false,out1,[.O]⟩),(6,.val ⟨(.int .i64),false,from_1,[]⟩)] []))
theorem jqe (s:qB) (by_:Int) (n:Nat) (v:qL×Int×Int) (k:Z6G Unit):Z3X (Z0R jgs [] .o (pl (pl (pr (pl (pr (pr (pr jbv)))))))) (λσ=>σ.forget [0,1,5,6,7] []) (Z8a ([],[]) [(0,[0,5,6],[])] ([],[])) n (mkS 35 35 [(0,.val ⟨.str,false,s,[]⟩),(1,.val ⟨(.int .u8),false,by_,[]⟩),(5,.val ⟨y9,false,v.1,[.O]⟩),(6,.val ⟨(.int .i64),false,v.2.1,[]⟩),(7,.val ⟨(.int .i64),false,v.2.2,[]⟩)] []) k=Z10 (j5E s by_) n v ((λ(k:Z6G Unit)=>(((λ(out1:qL) (from_1:Int)=>k (.exit 0) (mkS 35 35 [(0,.val ⟨.str,false,s,[]⟩),(5,.val ⟨y9,false,out1,[.O]⟩),(6,.val ⟨(.int .i64),false,from_1,[]⟩)] []))):(qL->Int->Res))) k):=Z80 (λv:qL×Int×Int=>(mkS 35 35 [(0,.val ⟨.str,false,s,[]⟩),(1,.val ⟨(.int .u8),false,by_,[]⟩),(5,.val ⟨y9,false,v.1,[.O]⟩),(6,.val ⟨(.int .i64),false,v.2.1,[]⟩),(7,.val ⟨(.int .i64),false,v.2.2,[]⟩)] [])) (j5E s by_) (λ(k:Z6G Unit)=>(((λ(out1:qL) (from_1:Int)=>k (.exit 0) (mkS 35 35 [(0,.val ⟨.str,false,s,[]⟩),(5,.val ⟨y9,false,out1,[.O]⟩),(6,.val ⟨(.int .i64),false,from_1,[]⟩)] []))):(qL->Int->Res))) (λv rec k=>by kernel_rfl) n v k
theorem jqr {W0:Base} {M:Nat->Prop} (hnp:W0.np<=0):Z1W Tryz.prog W0 M (pl (pr (pl (pr (pr (pr jbv)))))) jcl:=show Z1W Tryz.prog W0 M (Code.loop (pl (pl (pr (pl (pr (pr (pr jbv)))))))) jcl from Z8X (Z6Q follows j01 (Z7K Z8W) hnp [] (pl (pl (pr (pl (pr (pr (pr jbv))))))) .o trivial) (ks:=[0,1,5,6,7]) (bs:=[]) (fX:=(Z8a ([],[]) [(0,[0,5,6],[])] ([],[]))) (Z8U _ _ _) Z0Y (by
 intro σ k r h
 obtain ⟨hn,h1⟩:=Z8G h
 obtain ⟨s,hs0,h2⟩:=Z8J h1
 obtain ⟨by_,hs1,h3⟩:=Z8J h2
 obtain ⟨out,hs5,h4⟩:=Z8J h3
 obtain ⟨from_,hs6,h5⟩:=Z8J h4
 obtain ⟨i,hs7,h6⟩:=Z8J h5
 refine ⟨_,?_,(jqe s by_ Z0Y (out,from_,i) k).trans h6⟩
 exact Z9e hn ⟨hs0,hs1,hs5,hs6,hs7,trivial⟩ trivial)
noncomputable def jdZ (s:qB) (by_:Int) (k0:qL->Res):Res:=
 jfp s by_ Z0Y [] 0 0 λ(out:qL) (from_:Int)=>
  bif Z6R from_ (nI (ByteArray.size s)) (ByteArray.size s) then
   bif lim ((List.length out)+1) then
    k0 (out++[Z9k s from_ (nI (ByteArray.size s))])
   else none
  else none
noncomputable def jmT:Sig Unit:=⟨[.borrow .str false,.borrow (.int .u8) false],[false],λvals ext k=>av vals .str λs vals=>av vals (.int .u8) λby_ vals=>nl vals<|nl ext<|jdZ s by_ (λ(r0:qL)=>k [⟨y9,false,r0,[.S]⟩] [] [])⟩
theorem jrb (s:qB) (a_s:Bool) (t_s:List Tag) (by_:Int) (a_by_:Bool) (t_by_:List Tag) (k:qK):Z6X jgs [jcl] (.t .o (.t .o (.t .o (.t (.t .o (.t (.x 0) .o)) .o)))) true Tryz.f124 [.borrow .str false,.borrow (.int .u8) false] [false] [⟨.str,a_s,s,t_s⟩,⟨(.int .u8),a_by_,by_,t_by_⟩] [] k=jdZ s by_ (λ(r0:qL)=>k [⟨y9,false,r0,[.S]⟩] [] []):=by kernel_rfl
theorem jrc:Z1k Tryz.prog 124 jmT:=Z8N (Γ:=jgs) (X:=[jcl]) (ht:=(.t .o (.t .o (.t .o (.t (.t .o (.t (.x 0) .o)) .o))))) (fz:=true) (c:=jbv) follows j01 Z8W (Z1A.mk trivial ((Z1A.mk trivial ((Z1A.mk trivial ((Z1A.mk ((Z1A.mk trivial ((Z1A.mk (Z1A.x_mk (λW0 M hnp=>jqr (W0:=W0) (M:=M) hnp)) trivial)))) trivial))))))) Tryz.func124 (by kernel_rfl) (by kernel_rfl) (by decide) (by
 intro vals ext k r h
 obtain ⟨s,a_s,t_s,vals,rfl,h1⟩:=Z8T h
 obtain ⟨by_,a_by_,t_by_,vals,rfl,h2⟩:=Z8T h1
 obtain ⟨rfl,h3⟩:=Z90 h2
 obtain ⟨rfl,h4⟩:=Z90 h3
 exact (jrb s a_s t_s by_ a_by_ t_by_ k).trans h4)
noncomputable def jpZ:Code:=(Tryz.f79.body).getD .skip
noncomputable def jhN:Env Unit:=⟨tys,[(124,jmT)],0⟩
noncomputable def j64 (s:qB) (k0:qL->Res):Res:=
 jdZ s 32 λ(r:qL)=>
  k0 r
noncomputable def j9F:Sig Unit:=⟨[.borrow .str false],[false],λvals ext k=>av vals .str λs vals=>nl vals<|nl ext<|j64 s (λ(r0:qL)=>k [⟨y9,false,r0,[.S]⟩] [] [])⟩
theorem jpC (s:qB) (a_s:Bool) (t_s:List Tag) (k:qK):Z6X jhN [] .o false Tryz.f79 [.borrow .str false] [false] [⟨.str,a_s,s,t_s⟩] [] k=j64 s (λ(r0:qL)=>k [⟨y9,false,r0,[.S]⟩] [] []):=by kernel_rfl
theorem j1U:Z1k Tryz.prog 79 j9F:=Z8N (Γ:=jhN) (X:=[]) (ht:= .o) (fz:=false) (c:=jpZ) follows j01 (Z8C jrc Z8W) trivial Tryz.func79 (by kernel_rfl) (by kernel_rfl) (by decide) (by
 intro vals ext k r h
 obtain ⟨s,a_s,t_s,vals,rfl,h1⟩:=Z8T h
 obtain ⟨rfl,h2⟩:=Z90 h1
 obtain ⟨rfl,h3⟩:=Z90 h2
 exact (jpC s a_s t_s k).trans h3)
noncomputable def j9m:Code:=(Tryz.f65.body).getD .skip
noncomputable def jdT:Env Unit:=⟨tys,[],0⟩
noncomputable def j66 (t6:qL) (t7:Int) (s:qB) (t8:Int) (rec:qB->Int->Res) (k0:qB->Res):Res:=
 bif decide (t8<t7) then
  bif inb t8 (List.length t6) then
   bif decide (t8>0) then
    bif lim ((ByteArray.size s)+1) then
     bif lim ((ByteArray.size (s++j0c))+(ByteArray.size (nth eS t6 t8))) then
      rec ((s++j0c)++(nth eS t6 t8)) (Z8g (t8+1))
     else none
    else none
   else
    bif lim ((ByteArray.size s)+(ByteArray.size (nth eS t6 t8))) then
     rec (s++(nth eS t6 t8)) (Z8g (t8+1))
    else none
  else none
 else
  k0 s
noncomputable def j90 (t6:qL) (t7:Int):(qB×Int)->(qB×Int->Res)->((qB->Res))->Res:=λv rec q=>j66 t6 t7 v.1 v.2 (λs t8=>rec (s,t8)) q
noncomputable def jdp (t6:qL) (t7:Int) (n:Nat) (s:qB) (t8:Int) (k0:qB->Res):Res:=Z10 (j90 t6 t7) n (s,t8) (k0)
noncomputable def jaj:Z1l Unit:=λσ k=>rdN σ 22<|rdV σ 3 .str false [] λs=>rdV σ 6 y9 false [.S] λt6=>rdV σ 7 (.int .i64) false [] λt7=>rdV σ 8 (.int .i64) false [] λt8=>jdp t6 t7 Z0Y s t8 (λ(s1:qB)=>k (.exit 0) (mkS 22 22 [(3,.val ⟨.str,false,s1,[]⟩)] []))
theorem jo0 (t6:qL) (t7:Int) (n:Nat) (v:qB×Int) (k:Z6G Unit):Z3X (Z0R jdT [] .o (pl (pl (pr (pl (pr (pr j9m))))))) (λσ=>σ.forget [3,6,7,8] []) (Z8a ([],[]) [(0,[3],[])] ([],[])) n (mkS 22 22 [(3,.val ⟨.str,false,v.1,[]⟩),(6,.val ⟨y9,false,t6,[.S]⟩),(7,.val ⟨(.int .i64),false,t7,[]⟩),(8,.val ⟨(.int .i64),false,v.2,[]⟩)] []) k=Z10 (j90 t6 t7) n v ((λ(k:Z6G Unit)=>(((λ(s1:qB)=>k (.exit 0) (mkS 22 22 [(3,.val ⟨.str,false,s1,[]⟩)] []))):(qB->Res))) k):=Z80 (λv:qB×Int=>(mkS 22 22 [(3,.val ⟨.str,false,v.1,[]⟩),(6,.val ⟨y9,false,t6,[.S]⟩),(7,.val ⟨(.int .i64),false,t7,[]⟩),(8,.val ⟨(.int .i64),false,v.2,[]⟩)] [])) (j90 t6 t7) (λ(k:Z6G Unit)=>(((λ(s1:qB)=>k (.exit 0) (mkS 22 22 [(3,.val ⟨.str,false,s1,[]⟩)] []))):(qB->Res))) (λv rec k=>by kernel_rfl) n v k
theorem jof {W0:Base} {M:Nat->Prop} (hnp:W0.np<=0):Z1W Tryz.prog W0 M (pl (pr (pl (pr (pr j9m))))) jaj:=show Z1W Tryz.prog W0 M (Code.loop (pl (pl (pr (pl (pr (pr j9m))))))) jaj from Z8X (Z6Q follows j01 (Z7K Z8W) hnp [] (pl (pl (pr (pl (pr (pr j9m)))))) .o trivial) (ks:=[3,6,7,8]) (bs:=[]) (fX:=(Z8a ([],[]) [(0,[3],[])] ([],[]))) (Z8U _ _ _) Z0Y (by
 intro σ k r h
 obtain ⟨hn,h1⟩:=Z8G h
 obtain ⟨s,hs3,h2⟩:=Z8J h1
 obtain ⟨t6,hs6,h3⟩:=Z8J h2
 obtain ⟨t7,hs7,h4⟩:=Z8J h3
 obtain ⟨t8,hs8,h5⟩:=Z8J h4
 refine ⟨_,?_,(jo0 t6 t7 Z0Y (s,t8) k).trans h5⟩
 exact Z9e hn ⟨hs3,hs6,hs7,hs8,trivial⟩ trivial)
noncomputable def j1b (l:qL) (k0:qB->Res):Res:=
 jdp l (nI (List.length l)) Z0Y eS 0 λ(s:qB)=>
  k0 s
noncomputable def j9G:Sig Unit:=⟨[.look y9 false],[false],λvals ext k=>av vals y9 λl vals=>nl vals<|nl ext<|j1b l (λ(r0:qB)=>k [⟨.str,false,r0,[]⟩] [] [])⟩
theorem jpE (l:qL) (a_l:Bool) (t_l:List Tag) (k:qK):Z6X jdT [jaj] (.t .o (.t .o (.t (.t .o (.t (.x 0) .o)) .o))) false Tryz.f65 [.look y9 false] [false] [⟨y9,a_l,l,t_l⟩] [] k=j1b l (λ(r0:qB)=>k [⟨.str,false,r0,[]⟩] [] []):=by kernel_rfl
theorem j75:Z1k Tryz.prog 65 j9G:=Z8N (Γ:=jdT) (X:=[jaj]) (ht:=(.t .o (.t .o (.t (.t .o (.t (.x 0) .o)) .o)))) (fz:=false) (c:=j9m) follows j01 Z8W (Z1A.mk trivial ((Z1A.mk trivial ((Z1A.mk ((Z1A.mk trivial ((Z1A.mk (Z1A.x_mk (λW0 M hnp=>jof (W0:=W0) (M:=M) hnp)) trivial)))) trivial))))) Tryz.func65 (by kernel_rfl) (by kernel_rfl) (by decide) (by
 intro vals ext k r h
 obtain ⟨l,a_l,t_l,vals,rfl,h1⟩:=Z8T h
 obtain ⟨rfl,h2⟩:=Z90 h1
 obtain ⟨rfl,h3⟩:=Z90 h2
 exact (jpE l a_l t_l k).trans h3)
noncomputable def j1W:Code:=(Tryz.f162.body).getD .skip
noncomputable def j9p:Env Unit:=⟨tys,[(81,j2Q),(163,jcQ)],0⟩
noncomputable def j8f (w:qL) (k0:qC->Res):Res:=
 bif inb 0 (List.length w) then
  bif inb 1 (List.length w) then
   Z6L
    (Z6L
     (j0L [eS,j1f,j2c,j1u] (nth eS w 1) λ(r:Int)=>
      Z6L
       (k0 (nth eS w 0,r,false,false,0,0,eS))
       (k0 (nth eS w 0,r,false,false,0,0,eS)))
     (j0L [eS,j1f,j2c,j1u] (nth eS w 1) λ(r1:Int)=>
      k0 (nth eS w 0,r1,false,false,0,0,eS)))
    (j0L [eS,j1f,j2c,j1u] (nth eS w 1) λ(r2:Int)=>
     k0 (nth eS w 0,r2,false,false,0,0,eS))
  else none
 else none
noncomputable def j3K:Z1l Unit:=λσ k=>rdN σ 47<|rdV σ 0 y9 false [.S] λw=>rdT σ 2 (.ptr ⟨true,2,[]⟩)<|rdB σ 2 y7 [] λa t2=>j8f w (λ(c:qB×Int×Bool×Bool×Int×Int×qB)=>k .normal (mkS 47 47 [(0,.val ⟨y9,false,w,[.S]⟩),(2,.ptr ⟨true,2,[]⟩),(3,.ptr ⟨true,3,[]⟩)] [(2,⟨y7,a,t2,[]⟩),(3,⟨y7,false,c,[]⟩)]))
theorem jnY (w:qL) (a:Bool) (t2:qB×Int×Bool×Bool×Int×Int×qB) (k:Z6G Unit):Z0R j9p [] .o (pl (pr (pr j1W))) (mkS 47 47 [(0,.val ⟨y9,false,w,[.S]⟩),(2,.ptr ⟨true,2,[]⟩)] [(2,⟨y7,a,t2,[]⟩)]) (λe σ=>k e ((Z8a ([0,2,3],[2,3]) [] ([],[])) e σ))=j8f w (λ(c:qB×Int×Bool×Bool×Int×Int×qB)=>k .normal (mkS 47 47 [(0,.val ⟨y9,false,w,[.S]⟩),(2,.ptr ⟨true,2,[]⟩),(3,.ptr ⟨true,3,[]⟩)] [(2,⟨y7,a,t2,[]⟩),(3,⟨y7,false,c,[]⟩)])):=by kernel_rfl
theorem jod {W0:Base} {M:Nat->Prop} (hnp:W0.np<=0):Z1W Tryz.prog W0 M (pl (pr (pr j1W))) j3K:=Z91 (Z6Q follows j01 (Z7K (Z8C j0A (Z8C j4R Z8W))) hnp [] ((pl (pr (pr j1W)))) .o trivial) (fg:=(Z8a ([0,2,3],[2,3]) [] ([],[]))) (Z8U _ _ _) (by
 intro σ k r h
 obtain ⟨hn,h1⟩:=Z8G h
 obtain ⟨w,hs0,h2⟩:=Z8J h1
 obtain ⟨hs2,h3⟩:=Z8H h2
 obtain ⟨a,t2,hb2,h4⟩:=Z8D h3
 refine ⟨_,?_,(jnY w a t2 k).trans h4⟩
 exact Z9e hn ⟨hs0,hs2,trivial⟩ ⟨hb2,trivial⟩)
noncomputable def jaQ (t27:Bool) (c:qB×Int×Bool×Bool×Int×Int×qB) (k0:qC->Res):Res:=
 bif t27 then
  k0 (c.1,c.2.1,true,c.2.2.2)
 else
  k0 c
noncomputable def j7t:Z1l Unit:=λσ k=>rdN σ 47<|rdT σ 2 (.ptr ⟨true,2,[]⟩)<|rdT σ 3 (.ptr ⟨true,3,[]⟩)<|rdV σ 5 .str false [] λt=>rdV σ 20 y9 false [.S] λt20=>rdV σ 21 (.int .i64) false [] λt21=>rdV σ 22 (.int .i64) false [] λt22=>rdV σ 27 .bool false [] λt27=>rdB σ 2 y7 [] λa t2=>rdB σ 3 y7 [] λa1 c=>jaQ t27 c (λ(c1:qB×Int×Bool×Bool×Int×Int×qB)=>k .normal (mkS 47 47 [(2,.ptr ⟨true,2,[]⟩),(3,.ptr ⟨true,3,[]⟩),(5,.val ⟨.str,false,t,[]⟩),(20,.val ⟨y9,false,t20,[.S]⟩),(21,.val ⟨(.int .i64),false,t21,[]⟩),(22,.val ⟨(.int .i64),false,t22,[]⟩)] [(2,⟨y7,a,t2,[]⟩),(3,⟨y7,a1,c1,[]⟩)]))
theorem jnZ (t:qB) (t20:qL) (t21:Int) (t22:Int) (t27:Bool) (a:Bool) (t2:qB×Int×Bool×Bool×Int×Int×qB) (a1:Bool) (c:qB×Int×Bool×Bool×Int×Int×qB) (k:Z6G Unit):Z0R j9p [j3K] .o (pr (pl (pr (pl (pl (pr (pr (pl (pl (pr (pl (pr (pr (pr j1W)))))))))))))) (mkS 47 47 [(2,.ptr ⟨true,2,[]⟩),(3,.ptr ⟨true,3,[]⟩),(5,.val ⟨.str,false,t,[]⟩),(20,.val ⟨y9,false,t20,[.S]⟩),(21,.val ⟨(.int .i64),false,t21,[]⟩),(22,.val ⟨(.int .i64),false,t22,[]⟩),(27,.val ⟨.bool,false,t27,[]⟩)] [(2,⟨y7,a,t2,[]⟩),(3,⟨y7,a1,c,[]⟩)]) (λe σ=>k e ((Z8a ([2,3,5,20,21,22],[2,3]) [] ([],[])) e σ))=jaQ t27 c (λ(c1:qB×Int×Bool×Bool×Int×Int×qB)=>k .normal (mkS 47 47 [(2,.ptr ⟨true,2,[]⟩),(3,.ptr ⟨true,3,[]⟩),(5,.val ⟨.str,false,t,[]⟩),(20,.val ⟨y9,false,t20,[.S]⟩),(21,.val ⟨(.int .i64),false,t21,[]⟩),(22,.val ⟨(.int .i64),false,t22,[]⟩)] [(2,⟨y7,a,t2,[]⟩),(3,⟨y7,a1,c1,[]⟩)])):=by kernel_rfl
theorem joe {W0:Base} {M:Nat->Prop} (hnp:W0.np<=0):Z1W Tryz.prog W0 M (pr (pl (pr (pl (pl (pr (pr (pl (pl (pr (pl (pr (pr (pr j1W)))))))))))))) j7t:=Z91 (Z6Q follows j01 (Z7K (Z8C j0A (Z8C j4R Z8W))) hnp [j3K] ((pr (pl (pr (pl (pl (pr (pr (pl (pl (pr (pl (pr (pr (pr j1W))))))))))))))) .o trivial) (fg:=(Z8a ([2,3,5,20,21,22],[2,3]) [] ([],[]))) (Z8U _ _ _) (by
 intro σ k r h
 obtain ⟨hn,h1⟩:=Z8G h
 obtain ⟨hs2,h2⟩:=Z8H h1
 obtain ⟨hs3,h3⟩:=Z8H h2
 obtain ⟨t,hs5,h4⟩:=Z8J h3
 obtain ⟨t20,hs20,h5⟩:=Z8J h4
 obtain ⟨t21,hs21,h6⟩:=Z8J h5
 obtain ⟨t22,hs22,h7⟩:=Z8J h6
 obtain ⟨t27,hs27,h8⟩:=Z8J h7
 obtain ⟨a,t2,hb2,h9⟩:=Z8D h8
 obtain ⟨a1,c,hb3,h10⟩:=Z8D h9
 refine ⟨_,?_,(jnZ t t20 t21 t22 t27 a t2 a1 c k).trans h10⟩
 exact Z9e hn ⟨hs2,hs3,hs5,hs20,hs21,hs22,hs27,trivial⟩ ⟨hb2,hb3,trivial⟩)
noncomputable def j65 (t20:qL) (t21:Int) (t22:Int) (c:qB×Int×Bool×Bool×Int×Int×qB) (rec:Int->qC->Res) (k0:qC->Res):Res:=
 bif decide (t22<t21) then
  bif inb t22 (List.length t20) then
   jaQ (sEq (nth eS t20 t22) j72) c λ(c1:qB×Int×Bool×Bool×Int×Int×qB)=>
    bif decide ((nI (ByteArray.size (nth eS t20 t22)))>0) then
     bif inb 0 (ByteArray.size (nth eS t20 t22)) then
      bif ((bt (nth eS t20 t22) 0)==61) then
       bif Z6R 1 (nI (ByteArray.size (nth eS t20 t22))) (ByteArray.size (nth eS t20 t22)) then
        j37 (Z9k (nth eS t20 t22) 1 (nI (ByteArray.size (nth eS t20 t22)))) λ(r:Int×Int×qB) (r1:Bool)=>
         rec (Z8g (t22+1)) (c1.1,c1.2.1,c1.2.2.1,true,r)
       else none
      else
       rec (Z8g (t22+1)) c1
     else none
    else
     rec (Z8g (t22+1)) c1
  else none
 else
  k0 c
noncomputable def j8Z (t20:qL) (t21:Int):(Int×qC)->(Int×qC->Res)->((qC->Res))->Res:=λv rec q=>j65 t20 t21 v.1 v.2 (λt22 c=>rec (t22,c)) q
noncomputable def jaP (t20:qL) (t21:Int) (n:Nat) (t22:Int) (c:qB×Int×Bool×Bool×Int×Int×qB) (k0:qC->Res):Res:=Z10 (j8Z t20 t21) n (t22,c) (k0)
noncomputable def jai:Z1l Unit:=λσ k=>rdN σ 47<|rdT σ 2 (.ptr ⟨true,2,[]⟩)<|rdT σ 3 (.ptr ⟨true,3,[]⟩)<|rdV σ 20 y9 false [.S] λt20=>rdV σ 21 (.int .i64) false [] λt21=>rdV σ 22 (.int .i64) false [] λt22=>rdB σ 2 y7 [] λa t2=>rdB σ 3 y7 [] λa1 c=>jaP t20 t21 Z0Y t22 c (λ(c2:qB×Int×Bool×Bool×Int×Int×qB)=>k (.exit 0) (mkS 47 47 [(2,.ptr ⟨true,2,[]⟩),(3,.ptr ⟨true,3,[]⟩)] [(2,⟨y7,a,t2,[]⟩),(3,⟨y7,a1,c2,[]⟩)]))
theorem jnX (t20:qL) (t21:Int) (a:Bool) (t2:qB×Int×Bool×Bool×Int×Int×qB) (a1:Bool) (n:Nat) (v:Int×qC) (k:Z6G Unit):Z3X (Z0R j9p [j3K,j7t] (.t .o (.t .o (.t (.t (.t .o (.t (.t .o (.x 1)) .o)) .o) .o))) (pl (pl (pr (pl (pr (pr (pr j1W)))))))) (λσ=>σ.forget [2,3,20,21,22] [2,3]) (Z8a ([],[]) [(0,[2,3],[2,3])] ([],[])) n (mkS 47 47 [(2,.ptr ⟨true,2,[]⟩),(3,.ptr ⟨true,3,[]⟩),(20,.val ⟨y9,false,t20,[.S]⟩),(21,.val ⟨(.int .i64),false,t21,[]⟩),(22,.val ⟨(.int .i64),false,v.1,[]⟩)] [(2,⟨y7,a,t2,[]⟩),(3,⟨y7,a1,v.2,[]⟩)]) k=Z10 (j8Z t20 t21) n v ((λ(k:Z6G Unit)=>(((λ(c2:qB×Int×Bool×Bool×Int×Int×qB)=>k (.exit 0) (mkS 47 47 [(2,.ptr ⟨true,2,[]⟩),(3,.ptr ⟨true,3,[]⟩)] [(2,⟨y7,a,t2,[]⟩),(3,⟨y7,a1,c2,[]⟩)]))):(qC->Res))) k):=Z80 (λv:Int×qC=>(mkS 47 47 [(2,.ptr ⟨true,2,[]⟩),(3,.ptr ⟨true,3,[]⟩),(20,.val ⟨y9,false,t20,[.S]⟩),(21,.val ⟨(.int .i64),false,t21,[]⟩),(22,.val ⟨(.int .i64),false,v.1,[]⟩)] [(2,⟨y7,a,t2,[]⟩),(3,⟨y7,a1,v.2,[]⟩)])) (j8Z t20 t21) (λ(k:Z6G Unit)=>(((λ(c2:qB×Int×Bool×Bool×Int×Int×qB)=>k (.exit 0) (mkS 47 47 [(2,.ptr ⟨true,2,[]⟩),(3,.ptr ⟨true,3,[]⟩)] [(2,⟨y7,a,t2,[]⟩),(3,⟨y7,a1,c2,[]⟩)]))):(qC->Res))) (λv rec k=>by kernel_rfl) n v k
theorem joc {W0:Base} {M:Nat->Prop} (hnp:W0.np<=0):Z1W Tryz.prog W0 M (pl (pr (pl (pr (pr (pr j1W)))))) jai:=show Z1W Tryz.prog W0 M (Code.loop (pl (pl (pr (pl (pr (pr (pr j1W)))))))) jai from Z8X (Z6Q follows j01 (Z7K (Z8C j0A (Z8C j4R Z8W))) hnp [j3K,j7t] (pl (pl (pr (pl (pr (pr (pr j1W))))))) (.t .o (.t .o (.t (.t (.t .o (.t (.t .o (.x 1)) .o)) .o) .o))) (Z1A.mk trivial ((Z1A.mk trivial ((Z1A.mk ((Z1A.mk ((Z1A.mk trivial ((Z1A.mk ((Z1A.mk trivial (Z1A.x_mk (λW0 M hnp=>joe (W0:=W0) (M:=M) hnp)))) trivial)))) trivial)) trivial)))))) (ks:=[2,3,20,21,22]) (bs:=[2,3]) (fX:=(Z8a ([],[]) [(0,[2,3],[2,3])] ([],[]))) (Z8U _ _ _) Z0Y (by
 intro σ k r h
 obtain ⟨hn,h1⟩:=Z8G h
 obtain ⟨hs2,h2⟩:=Z8H h1
 obtain ⟨hs3,h3⟩:=Z8H h2
 obtain ⟨t20,hs20,h4⟩:=Z8J h3
 obtain ⟨t21,hs21,h5⟩:=Z8J h4
 obtain ⟨t22,hs22,h6⟩:=Z8J h5
 obtain ⟨a,t2,hb2,h7⟩:=Z8D h6
 obtain ⟨a1,c,hb3,h8⟩:=Z8D h7
 refine ⟨_,?_,(jnX t20 t21 a t2 a1 Z0Y (t22,c) k).trans h8⟩
 exact Z9e hn ⟨hs2,hs3,hs20,hs21,hs22,trivial⟩ ⟨hb2,hb3,trivial⟩)
noncomputable def j7H (w:qL) (k0:qC->Res):Res:=
 bif decide ((nI (List.length w))<2) then
  k0 (eS,0,false,false,0,0,eS)
 else
  j8f w λ(c:qB×Int×Bool×Bool×Int×Int×qB)=>
   bif Z6R 2 (nI (List.length w)) (List.length w) then
    jaP (sub w 2 (nI (List.length w))) (nI (List.length (sub w 2 (nI (List.length w))))) Z0Y 0 c λ(c1:qB×Int×Bool×Bool×Int×Int×qB)=>
     k0 c1
   else none
noncomputable def je8:Sig Unit:=⟨[.look y9 false],[true],λvals ext k=>av vals y9 λw vals=>nl vals<|nl ext<|j7H w (λ(r0:qB×Int×Bool×Bool×Int×Int×qB)=>k [⟨y7,true,r0,[]⟩] [] [])⟩
theorem jpD (w:qL) (a_w:Bool) (t_w:List Tag) (k:qK):Z6X j9p [j3K,j7t,jai] (.t .o (.t .o (.t (.x 0) (.t (.t .o (.t (.x 2) .o)) .o)))) false Tryz.f162 [.look y9 false] [true] [⟨y9,a_w,w,t_w⟩] [] k=j7H w (λ(r0:qB×Int×Bool×Bool×Int×Int×qB)=>k [⟨y7,true,r0,[]⟩] [] []):=by kernel_rfl
theorem j9l:Z1k Tryz.prog 162 je8:=Z8N (Γ:=j9p) (X:=[j3K,j7t,jai]) (ht:=(.t .o (.t .o (.t (.x 0) (.t (.t .o (.t (.x 2) .o)) .o))))) (fz:=false) (c:=j1W) follows j01 (Z8C j0A (Z8C j4R Z8W)) (Z1A.mk trivial ((Z1A.mk trivial ((Z1A.mk (Z1A.x_mk (λW0 M hnp=>jod (W0:=W0) (M:=M) hnp)) ((Z1A.mk ((Z1A.mk trivial ((Z1A.mk (Z1A.x_mk (λW0 M hnp=>joc (W0:=W0) (M:=M) hnp)) trivial)))) trivial))))))) Tryz.func162 (by kernel_rfl) (by kernel_rfl) (by decide) (by
 intro vals ext k r h
 obtain ⟨w,a_w,t_w,vals,rfl,h1⟩:=Z8T h
 obtain ⟨rfl,h2⟩:=Z90 h1
 obtain ⟨rfl,h3⟩:=Z90 h2
 exact (jpD w a_w t_w k).trans h3)
noncomputable def j5N:Code:=(Tryz.f161.body).getD .skip
noncomputable def jbA:Env Unit:=⟨tys,[(81,j2Q),(162,je8),(210,jb4)],0⟩
noncomputable def j1Z (w:qL) (e0:qG) (rec:qL->qG->Res) (k0:qL->qG->Res) (k1:qG->Res):Res:=
 bif decide ((nI (List.length w))>0) then
  bif inb 0 (List.length w) then
   bif sEq (nth eS w 0) j15 then
    j0L w j14 λ(r:Int)=>
     bif decide (r<0) then
      k1 e0
     else
      bif Z6R 1 r (List.length w) then
       j7H (sub w 1 r) λ(r1:qB×Int×Bool×Bool×Int×Int×qB)=>
        bif lim ((List.length e0.2.2.1)+1) then
         bif Z6R (Z8g (r+1)) (nI (List.length w)) (List.length w) then
          rec (sub w (Z8g (r+1)) (nI (List.length w))) (e0.1,e0.2.1,(e0.2.2.1++[r1]),e0.2.2.2)
         else none
        else none
      else none
   else
    k0 w e0
  else none
 else
  k0 w e0
noncomputable def j1t:(qL×qG)->(qL×qG->Res)->((qL->qG->Res)×(qG->Res))->Res:=λv rec q=>j1Z v.1 v.2 (λw e0=>rec (w,e0)) q.1 q.2
noncomputable def jaV (n:Nat) (w:qL) (e0:qG) (k0:qL->qG->Res) (k1:qG->Res):Res:=Z10 (j1t) n (w,e0) (k0,k1)
noncomputable def j6U:Z1l Unit:=λσ k=>rdN σ 44<|rdT σ 0 (.ptr ⟨true,44,[]⟩)<|rdV σ 1 y9 false [.S] λw=>rdB σ 44 y14 [.O,.O] λa e0=>jaV Z0Y w e0 (λ(w1:qL) (e01:qG)=>k (.exit 0) (mkS 44 45 [(0,.ptr ⟨true,44,[]⟩),(1,.val ⟨y9,false,w1,[.S]⟩)] [(44,⟨y14,a,e01,[.O,.O]⟩)])) (λ(e02:qG)=>k .ret (mkS 44 45 [] [(44,⟨y14,a,e02,[.O,.O]⟩)]))
theorem jiC (a:Bool) (n:Nat) (v:qL×qG) (k:Z6G Unit):Z3X (Z0R jbA [] .o (pl (pl (pl j5N)))) (λσ=>σ.forget [0,1] [44]) (Z8a ([],[]) [(0,[0,1],[44])] ([],[44])) n (mkS 44 45 [(0,.ptr ⟨true,44,[]⟩),(1,.val ⟨y9,false,v.1,[.S]⟩)] [(44,⟨y14,a,v.2,[.O,.O]⟩)]) k=Z10 (j1t) n v ((λ(k:Z6G Unit)=>(((λ(w1:qL) (e01:qG)=>k (.exit 0) (mkS 44 45 [(0,.ptr ⟨true,44,[]⟩),(1,.val ⟨y9,false,w1,[.S]⟩)] [(44,⟨y14,a,e01,[.O,.O]⟩)])),(λ(e02:qG)=>k .ret (mkS 44 45 [] [(44,⟨y14,a,e02,[.O,.O]⟩)]))):(qL->qG->Res)×(qG->Res))) k):=Z80 (λv:qL×qG=>(mkS 44 45 [(0,.ptr ⟨true,44,[]⟩),(1,.val ⟨y9,false,v.1,[.S]⟩)] [(44,⟨y14,a,v.2,[.O,.O]⟩)])) (j1t) (λ(k:Z6G Unit)=>(((λ(w1:qL) (e01:qG)=>k (.exit 0) (mkS 44 45 [(0,.ptr ⟨true,44,[]⟩),(1,.val ⟨y9,false,w1,[.S]⟩)] [(44,⟨y14,a,e01,[.O,.O]⟩)])),(λ(e02:qG)=>k .ret (mkS 44 45 [] [(44,⟨y14,a,e02,[.O,.O]⟩)]))):(qL->qG->Res)×(qG->Res))) (λv rec k=>by kernel_rfl) n v k
theorem jj4 {W0:Base} {M:Nat->Prop} (hnp:W0.np<=0):Z1W Tryz.prog W0 M (pl (pl j5N)) j6U:=show Z1W Tryz.prog W0 M (Code.loop (pl (pl (pl j5N)))) j6U from Z8X (Z6Q follows j01 (Z7K (Z8C j0A (Z8C j9l (Z8C jaS Z8W)))) hnp [] (pl (pl (pl j5N))) .o trivial) (ks:=[0,1]) (bs:=[44]) (fX:=(Z8a ([],[]) [(0,[0,1],[44])] ([],[44]))) (Z8U _ _ _) Z0Y (by
 intro σ k r h
 obtain ⟨hn,h1⟩:=Z8G h
 obtain ⟨hs0,h2⟩:=Z8H h1
 obtain ⟨w,hs1,h3⟩:=Z8J h2
 obtain ⟨a,e0,hb44,h4⟩:=Z8D h3
 refine ⟨_,?_,(jiC a Z0Y (w,e0) k).trans h4⟩
 exact Z9e hn ⟨hs0,hs1,trivial⟩ ⟨hb44,trivial⟩)
noncomputable def j5C (w:qL) (e0:qG) (k0:qG->Res):Res:=
 jaV Z0Y w e0
  (λ(w1:qL) (e:qG)=>
   bif decide ((nI (List.length w1))>0) then
    bif Z6R 1 (nI (List.length w1)) (List.length w1) then
     j4V (sub w1 1 (nI (List.length w1))) λ(r:qL)=>
      k0 (e.1,e.2.1,e.2.2.1,r,e.2.2.2.2)
    else none
   else
    k0 e)
  (λ(e1:qG)=>
   k0 e1)
noncomputable def jeY:Sig Unit:=⟨[.ptr y14,.borrow y9 false],[],λvals ext k=>av vals y9 λw vals=>nl vals<|ab ext y14 [.O,.O] λa e0 ext=>nl ext<|j5C w e0 (λ(x0:qG)=>k [] [] [⟨y14,a,x0,[.O,.O]⟩])⟩
theorem jlB (w:qL) (a_w:Bool) (t_w:List Tag) (a:Bool) (e0:qG) (k:qK):Z6X jbA [j6U] (.t (.t (.x 0) .o) .o) false Tryz.f161 [.ptr y14,.borrow y9 false] [] [⟨y9,a_w,w,t_w⟩] [⟨y14,a,e0,[.O,.O]⟩] k=j5C w e0 (λ(x0:qG)=>k [] [] [⟨y14,a,x0,[.O,.O]⟩]):=by kernel_rfl
theorem jbq:Z1k Tryz.prog 161 jeY:=Z8N (Γ:=jbA) (X:=[j6U]) (ht:=(.t (.t (.x 0) .o) .o)) (fz:=false) (c:=j5N) follows j01 (Z8C j0A (Z8C j9l (Z8C jaS Z8W))) (Z1A.mk ((Z1A.mk (Z1A.x_mk (λW0 M hnp=>jj4 (W0:=W0) (M:=M) hnp)) trivial)) trivial) Tryz.func161 (by kernel_rfl) (by kernel_rfl) (by decide) (by
 intro vals ext k r h
 obtain ⟨w,a_w,t_w,vals,rfl,h1⟩:=Z8T h
 obtain ⟨rfl,h2⟩:=Z90 h1
 obtain ⟨a,e0,ext,rfl,h3⟩:=Z8R h2
 obtain ⟨rfl,h4⟩:=Z90 h3
 exact (jlB w a_w t_w a e0 k).trans h4)
noncomputable def jpg:Code:=(Tryz.f207.body).getD .skip
noncomputable def jh2:Env Unit:=⟨tys,[],0⟩
noncomputable def jd2 (ty:Int) (k0:qB->Res):Res:=
 bif inb ty 4 then
  k0 (nth eS [eS,j1f,j2c,j1u] ty)
 else none
noncomputable def jhf:Sig Unit:=⟨[.look (.int .i64) false],[false],λvals ext k=>av vals (.int .i64) λty vals=>nl vals<|nl ext<|jd2 ty (λ(r0:qB)=>k [⟨.str,false,r0,[]⟩] [] [])⟩
theorem joW (ty:Int) (a_ty:Bool) (t_ty:List Tag) (k:qK):Z6X jh2 [] .o false Tryz.f207 [.look (.int .i64) false] [false] [⟨(.int .i64),a_ty,ty,t_ty⟩] [] k=jd2 ty (λ(r0:qB)=>k [⟨.str,false,r0,[]⟩] [] []):=by kernel_rfl
theorem jgV:Z1k Tryz.prog 207 jhf:=Z8N (Γ:=jh2) (X:=[]) (ht:= .o) (fz:=false) (c:=jpg) follows j01 Z8W trivial Tryz.func207 (by kernel_rfl) (by kernel_rfl) (by decide) (by
 intro vals ext k r h
 obtain ⟨ty,a_ty,t_ty,vals,rfl,h1⟩:=Z8T h
 obtain ⟨rfl,h2⟩:=Z90 h1
 obtain ⟨rfl,h3⟩:=Z90 h2
 exact (joW ty a_ty t_ty k).trans h3)
noncomputable def j9N:Code:=(Tryz.f156.body).getD .skip
noncomputable def jcw:Env Unit:=⟨tys,[(155,ja8),(201,jbW),(207,jhf)],0⟩
noncomputable def j8R (s:qB) (t15:Bool) (k0:qB->Res):Res:=
 bif t15 then
  bif lim ((ByteArray.size s)+4) then
   k0 (s++jqD)
  else none
 else
  k0 s
noncomputable def jb8:Z1l Unit:=λσ k=>rdN σ 27<|rdT σ 1 (.ptr ⟨true,1,[]⟩)<|rdV σ 3 .str false [] λs=>rdV σ 15 .bool false [] λt15=>rdB σ 1 y7 [] λa c=>j8R s t15 (λ(s1:qB)=>k .normal (mkS 27 27 [(1,.ptr ⟨true,1,[]⟩),(3,.val ⟨.str,false,s1,[]⟩)] [(1,⟨y7,a,c,[]⟩)]))
theorem jjS (s:qB) (t15:Bool) (a:Bool) (c:qB×Int×Bool×Bool×Int×Int×qB) (k:Z6G Unit):Z0R jcw [] .o (pr (pl (pr (pr (pr j9N))))) (mkS 27 27 [(1,.ptr ⟨true,1,[]⟩),(3,.val ⟨.str,false,s,[]⟩),(15,.val ⟨.bool,false,t15,[]⟩)] [(1,⟨y7,a,c,[]⟩)]) (λe σ=>k e ((Z8a ([1,3],[1]) [] ([],[])) e σ))=j8R s t15 (λ(s1:qB)=>k .normal (mkS 27 27 [(1,.ptr ⟨true,1,[]⟩),(3,.val ⟨.str,false,s1,[]⟩)] [(1,⟨y7,a,c,[]⟩)])):=by kernel_rfl
theorem jkF {W0:Base} {M:Nat->Prop} (hnp:W0.np<=0):Z1W Tryz.prog W0 M (pr (pl (pr (pr (pr j9N))))) jb8:=Z91 (Z6Q follows j01 (Z7K (Z8C j2F (Z8C j73 (Z8C jgV Z8W)))) hnp [] ((pr (pl (pr (pr (pr j9N)))))) .o trivial) (fg:=(Z8a ([1,3],[1]) [] ([],[]))) (Z8U _ _ _) (by
 intro σ k r h
 obtain ⟨hn,h1⟩:=Z8G h
 obtain ⟨hs1,h2⟩:=Z8H h1
 obtain ⟨s,hs3,h3⟩:=Z8J h2
 obtain ⟨t15,hs15,h4⟩:=Z8J h3
 obtain ⟨a,c,hb1,h5⟩:=Z8D h4
 refine ⟨_,?_,(jjS s t15 a c k).trans h5⟩
 exact Z9e hn ⟨hs1,hs3,hs15,trivial⟩ ⟨hb1,trivial⟩)
noncomputable def j7n (c:qB×Int×Bool×Bool×Int×Int×qB) (k0:qB->Res):Res:=
 j7B c λ(r:Bool)=>
  bif !r then
   k0 eS
  else
   bif lim ((ByteArray.size c.1)+1) then
    jd2 c.2.1 λ(r1:qB)=>
     bif lim ((ByteArray.size (c.1++j0c))+(ByteArray.size r1)) then
      j8R ((c.1++j0c)++r1) c.2.2.1 λ(s:qB)=>
       bif c.2.2.2.1 then
        bif lim ((ByteArray.size s)+2) then
         j53 c.2.2.2.2 λ(r2:qB)=>
          bif lim ((ByteArray.size (s++jrF))+(ByteArray.size r2)) then
           k0 ((s++jrF)++r2)
          else none
        else none
       else
        k0 s
     else none
   else none
noncomputable def jfX:Sig Unit:=⟨[.look y7 true],[false],λvals ext k=>av vals y7 λc vals=>nl vals<|nl ext<|j7n c (λ(r0:qB)=>k [⟨.str,false,r0,[]⟩] [] [])⟩
theorem jn4 (c:qB×Int×Bool×Bool×Int×Int×qB) (a_c:Bool) (t_c:List Tag) (k:qK):Z6X jcw [jb8] (.t .o (.t .o (.t .o (.t (.t .o (.x 0)) .o)))) false Tryz.f156 [.look y7 true] [false] [⟨y7,a_c,c,t_c⟩] [] k=j7n c (λ(r0:qB)=>k [⟨.str,false,r0,[]⟩] [] []):=by kernel_rfl
theorem jfv:Z1k Tryz.prog 156 jfX:=Z8N (Γ:=jcw) (X:=[jb8]) (ht:=(.t .o (.t .o (.t .o (.t (.t .o (.x 0)) .o))))) (fz:=false) (c:=j9N) follows j01 (Z8C j2F (Z8C j73 (Z8C jgV Z8W))) (Z1A.mk trivial ((Z1A.mk trivial ((Z1A.mk trivial ((Z1A.mk ((Z1A.mk trivial (Z1A.x_mk (λW0 M hnp=>jkF (W0:=W0) (M:=M) hnp)))) trivial))))))) Tryz.func156 (by kernel_rfl) (by kernel_rfl) (by decide) (by
 intro vals ext k r h
 obtain ⟨c,a_c,t_c,vals,rfl,h1⟩:=Z8T h
 obtain ⟨rfl,h2⟩:=Z90 h1
 obtain ⟨rfl,h3⟩:=Z90 h2
 exact (jn4 c a_c t_c k).trans h3)
noncomputable def j7b:Code:=(Tryz.f67.body).getD .skip
noncomputable def jcx:Env Unit:=⟨tys,[(65,j9G),(151,je7),(156,jfX)],0⟩
noncomputable def j4n (t17:List qC) (t18:Int) (s:qB) (t19:Int) (rec:qB->Int->Res) (k0:qB->Res):Res:=
 bif decide (t19<t18) then
  bif inb t19 (List.length t17) then
   bif lim ((ByteArray.size s)+3) then
    j7n (nth (eS,0,false,false,0,0,eS) t17 t19) λ(r:qB)=>
     bif lim ((ByteArray.size (s++jfi))+(ByteArray.size r)) then
      bif lim ((ByteArray.size ((s++jfi)++r))+2) then
       rec (((s++jfi)++r)++jgj) (Z8g (t19+1))
      else none
     else none
   else none
  else none
 else
  k0 s
noncomputable def j6F (t17:List qC) (t18:Int):(qB×Int)->(qB×Int->Res)->((qB->Res))->Res:=λv rec q=>j4n t17 t18 v.1 v.2 (λs t19=>rec (s,t19)) q
noncomputable def jbL (t17:List qC) (t18:Int) (n:Nat) (s:qB) (t19:Int) (k0:qB->Res):Res:=Z10 (j6F t17 t18) n (s,t19) (k0)
noncomputable def j7U:Z1l Unit:=λσ k=>rdN σ 68<|rdT σ 1 (.ptr ⟨true,1,[]⟩)<|rdV σ 3 .str false [] λs=>rdV σ 17 y8 false [.S] λt17=>rdV σ 18 (.int .i64) false [] λt18=>rdV σ 19 (.int .i64) false [] λt19=>rdB σ 1 y14 [.S,.S] λa d=>jbL t17 t18 Z0Y s t19 (λ(s1:qB)=>k (.exit 1) (mkS 68 68 [(1,.ptr ⟨true,1,[]⟩),(3,.val ⟨.str,false,s1,[]⟩)] [(1,⟨y14,a,d,[.S,.S]⟩)]))
theorem jjT (t17:List qC) (t18:Int) (a:Bool) (d:qG) (n:Nat) (v:qB×Int) (k:Z6G Unit):Z3X (Z0R jcx [] .o (pl (pl (pr (pl (pr (pl (pr (pl (pr (pl (pr (pr j7b))))))))))))) (λσ=>σ.forget [1,3,17,18,19] [1]) (Z8a ([],[]) [(1,[1,3],[1])] ([],[])) n (mkS 68 68 [(1,.ptr ⟨true,1,[]⟩),(3,.val ⟨.str,false,v.1,[]⟩),(17,.val ⟨y8,false,t17,[.S]⟩),(18,.val ⟨(.int .i64),false,t18,[]⟩),(19,.val ⟨(.int .i64),false,v.2,[]⟩)] [(1,⟨y14,a,d,[.S,.S]⟩)]) k=Z10 (j6F t17 t18) n v ((λ(k:Z6G Unit)=>(((λ(s1:qB)=>k (.exit 1) (mkS 68 68 [(1,.ptr ⟨true,1,[]⟩),(3,.val ⟨.str,false,s1,[]⟩)] [(1,⟨y14,a,d,[.S,.S]⟩)]))):(qB->Res))) k):=Z80 (λv:qB×Int=>(mkS 68 68 [(1,.ptr ⟨true,1,[]⟩),(3,.val ⟨.str,false,v.1,[]⟩),(17,.val ⟨y8,false,t17,[.S]⟩),(18,.val ⟨(.int .i64),false,t18,[]⟩),(19,.val ⟨(.int .i64),false,v.2,[]⟩)] [(1,⟨y14,a,d,[.S,.S]⟩)])) (j6F t17 t18) (λ(k:Z6G Unit)=>(((λ(s1:qB)=>k (.exit 1) (mkS 68 68 [(1,.ptr ⟨true,1,[]⟩),(3,.val ⟨.str,false,s1,[]⟩)] [(1,⟨y14,a,d,[.S,.S]⟩)]))):(qB->Res))) (λv rec k=>by kernel_rfl) n v k
theorem jkG {W0:Base} {M:Nat->Prop} (hnp:W0.np<=0):Z1W Tryz.prog W0 M (pl (pr (pl (pr (pl (pr (pl (pr (pl (pr (pr j7b))))))))))) j7U:=show Z1W Tryz.prog W0 M (Code.loop (pl (pl (pr (pl (pr (pl (pr (pl (pr (pl (pr (pr j7b))))))))))))) j7U from Z8X (Z6Q follows j01 (Z7K (Z8C j75 (Z8C jbo (Z8C jfv Z8W)))) hnp [] (pl (pl (pr (pl (pr (pl (pr (pl (pr (pl (pr (pr j7b)))))))))))) .o trivial) (ks:=[1,3,17,18,19]) (bs:=[1]) (fX:=(Z8a ([],[]) [(1,[1,3],[1])] ([],[]))) (Z8U _ _ _) Z0Y (by
 intro σ k r h
 obtain ⟨hn,h1⟩:=Z8G h
 obtain ⟨hs1,h2⟩:=Z8H h1
 obtain ⟨s,hs3,h3⟩:=Z8J h2
 obtain ⟨t17,hs17,h4⟩:=Z8J h3
 obtain ⟨t18,hs18,h5⟩:=Z8J h4
 obtain ⟨t19,hs19,h6⟩:=Z8J h5
 obtain ⟨a,d,hb1,h7⟩:=Z8D h6
 refine ⟨_,?_,(jjT t17 t18 a d Z0Y (s,t19) k).trans h7⟩
 exact Z9e hn ⟨hs1,hs3,hs17,hs18,hs19,trivial⟩ ⟨hb1,trivial⟩)
noncomputable def j35 (d:qG) (k0:qB->Res):Res:=
 ja0 d λ(r:Bool)=>
  bif !r then
   k0 eS
  else
   bif (d.1==1) then
    bif lim (7+(ByteArray.size d.2.1)) then
     jbL d.2.2.1 (nI (List.length d.2.2.1)) Z0Y (j7y++d.2.1) 0 λ(s:qB)=>
      bif lim ((ByteArray.size s)+5) then
       j1b d.2.2.2.1 λ(r1:qB)=>
        bif lim ((ByteArray.size (s++jbn))+(ByteArray.size r1)) then
         k0 ((s++jbn)++r1)
        else none
      else none
    else none
   else
    bif (d.1==2) then
     bif lim (5+(ByteArray.size d.2.1)) then
      k0 (jra++d.2.1)
     else none
    else
     bif (d.1==3) then
      bif inb 0 (List.length d.2.2.1) then
       j7n (nth (eS,0,false,false,0,0,eS) d.2.2.1 0) λ(r2:qB)=>
        j1b [j4j,d.2.1,r2] λ(r3:qB)=>
         k0 r3
      else none
     else
      bif (d.1==4) then
       j1b [j6r,d.2.1,d.2.2.2.2.1] λ(r4:qB)=>
        k0 r4
      else
       j1b [j2Y,d.2.1,d.2.2.2.2.1,d.2.2.2.2.2] λ(r5:qB)=>
        k0 r5
noncomputable def jcO:Sig Unit:=⟨[.look y14 true],[false],λvals ext k=>av vals y14 λd vals=>nl vals<|nl ext<|j35 d (λ(r0:qB)=>k [⟨.str,false,r0,[]⟩] [] [])⟩
theorem jn5 (d:qG) (a_d:Bool) (t_d:List Tag) (k:qK):Z6X jcx [j7U] (.t .o (.t .o (.t (.t .o (.t (.t .o (.t (.t .o (.t (.t .o (.t (.x 0) .o)) .o)) .o)) .o)) .o))) false Tryz.f67 [.look y14 true] [false] [⟨y14,a_d,d,t_d⟩] [] k=j35 d (λ(r0:qB)=>k [⟨.str,false,r0,[]⟩] [] []):=by kernel_rfl
theorem j9L:Z1k Tryz.prog 67 jcO:=Z8N (Γ:=jcx) (X:=[j7U]) (ht:=(.t .o (.t .o (.t (.t .o (.t (.t .o (.t (.t .o (.t (.t .o (.t (.x 0) .o)) .o)) .o)) .o)) .o)))) (fz:=false) (c:=j7b) follows j01 (Z8C j75 (Z8C jbo (Z8C jfv Z8W))) (Z1A.mk trivial ((Z1A.mk trivial ((Z1A.mk ((Z1A.mk trivial ((Z1A.mk ((Z1A.mk trivial ((Z1A.mk ((Z1A.mk trivial ((Z1A.mk ((Z1A.mk trivial ((Z1A.mk (Z1A.x_mk (λW0 M hnp=>jkG (W0:=W0) (M:=M) hnp)) trivial)))) trivial)))) trivial)))) trivial)))) trivial))))) Tryz.func67 (by kernel_rfl) (by kernel_rfl) (by decide) (by
 intro vals ext k r h
 obtain ⟨d,a_d,t_d,vals,rfl,h1⟩:=Z8T h
 obtain ⟨rfl,h2⟩:=Z90 h1
 obtain ⟨rfl,h3⟩:=Z90 h2
 exact (jn5 d a_d t_d k).trans h3)
noncomputable def j3D:Code:=(Tryz.f78.body).getD .skip
noncomputable def j9U:Env Unit:=⟨tys,[(67,jcO),(79,j9F),(161,jeY),(162,je8)],0⟩
noncomputable def j8U (w:qL) (k0:Bool->Res):Res:=
 bif inb 0 (List.length w) then
  bif sEq (nth eS w 0) j6r then
   k0 ((nI (List.length w))==3)
  else
   k0 false
 else none
noncomputable def j5k:Z1l Unit:=λσ k=>rdN σ 82<|rdV σ 0 .str false [] λs=>rdT σ 2 (.ptr ⟨true,2,[]⟩)<|rdV σ 4 y9 false [.S] λw=>rdT σ 5 (.ptr ⟨true,5,[]⟩)<|rdB σ 2 y14 [.O,.O] λa t2=>rdB σ 5 y14 [.O,.O] λa1 d=>j8U w (λ(t42:Bool)=>k .normal (mkS 82 82 [(0,.val ⟨.str,false,s,[]⟩),(2,.ptr ⟨true,2,[]⟩),(4,.val ⟨y9,false,w,[.S]⟩),(5,.ptr ⟨true,5,[]⟩),(42,.val ⟨.bool,false,t42,[]⟩)] [(2,⟨y14,a,t2,[.O,.O]⟩),(5,⟨y14,a1,d,[.O,.O]⟩)]))
theorem jjY (s:qB) (w:qL) (a:Bool) (t2:qG) (a1:Bool) (d:qG) (k:Z6G Unit):Z0R j9U [] .o (pl (pr (pr (pr (pr (pr (pr (pl (pl (pr (pr (pr (pr j3D))))))))))))) (mkS 82 82 [(0,.val ⟨.str,false,s,[]⟩),(2,.ptr ⟨true,2,[]⟩),(4,.val ⟨y9,false,w,[.S]⟩),(5,.ptr ⟨true,5,[]⟩)] [(2,⟨y14,a,t2,[.O,.O]⟩),(5,⟨y14,a1,d,[.O,.O]⟩)]) (λe σ=>k e ((Z8a ([0,2,4,5,42],[2,5]) [] ([],[])) e σ))=j8U w (λ(t42:Bool)=>k .normal (mkS 82 82 [(0,.val ⟨.str,false,s,[]⟩),(2,.ptr ⟨true,2,[]⟩),(4,.val ⟨y9,false,w,[.S]⟩),(5,.ptr ⟨true,5,[]⟩),(42,.val ⟨.bool,false,t42,[]⟩)] [(2,⟨y14,a,t2,[.O,.O]⟩),(5,⟨y14,a1,d,[.O,.O]⟩)])):=by kernel_rfl
theorem jkL {W0:Base} {M:Nat->Prop} (hnp:W0.np<=0):Z1W Tryz.prog W0 M (pl (pr (pr (pr (pr (pr (pr (pl (pl (pr (pr (pr (pr j3D))))))))))))) j5k:=Z91 (Z6Q follows j01 (Z7K (Z8C j9L (Z8C j1U (Z8C jbq (Z8C j9l Z8W))))) hnp [] ((pl (pr (pr (pr (pr (pr (pr (pl (pl (pr (pr (pr (pr j3D)))))))))))))) .o trivial) (fg:=(Z8a ([0,2,4,5,42],[2,5]) [] ([],[]))) (Z8U _ _ _) (by
 intro σ k r h
 obtain ⟨hn,h1⟩:=Z8G h
 obtain ⟨s,hs0,h2⟩:=Z8J h1
 obtain ⟨hs2,h3⟩:=Z8H h2
 obtain ⟨w,hs4,h4⟩:=Z8J h3
 obtain ⟨hs5,h5⟩:=Z8H h4
 obtain ⟨a,t2,hb2,h6⟩:=Z8D h5
 obtain ⟨a1,d,hb5,h7⟩:=Z8D h6
 refine ⟨_,?_,(jjY s w a t2 a1 d k).trans h7⟩
 exact Z9e hn ⟨hs0,hs2,hs4,hs5,trivial⟩ ⟨hb2,hb5,trivial⟩)
noncomputable def j8V (w:qL) (d:qG) (k0:qG->Res):Res:=
 bif inb 0 (List.length w) then
  bif sEq (nth eS w 0) j10 then
   bif Z6R 2 (nI (List.length w)) (List.length w) then
    j5C (sub w 2 (nI (List.length w))) (1,d.2) λ(bd:qG)=>
     k0 bd
   else none
  else
   bif inb 0 (List.length w) then
    bif sEq (nth eS w 0) j3B then
     k0 (2,d.2)
    else
     bif inb 0 (List.length w) then
      bif sEq (nth eS w 0) j4j then
       bif Z6R 2 (nI (List.length w)) (List.length w) then
        j7H (sub w 2 (nI (List.length w))) λ(r:qB×Int×Bool×Bool×Int×Int×qB)=>
         k0 (3,d.2.1,[r],d.2.2.2)
       else none
      else
       j8U w λ(t:Bool)=>
        bif t then
         bif inb 2 (List.length w) then
          k0 (4,d.2.1,d.2.2.1,d.2.2.2.1,nth eS w 2,d.2.2.2.2.2)
         else none
        else
         bif inb 0 (List.length w) then
          bif sEq (nth eS w 0) j2Y then
           bif ((nI (List.length w))==4) then
            bif inb 2 (List.length w) then
             bif inb 3 (List.length w) then
              k0 (5,d.2.1,d.2.2.1,d.2.2.2.1,nth eS w 2,nth eS w 3)
             else none
            else none
           else
            k0 d
          else
           k0 d
         else none
     else none
   else none
 else none
noncomputable def jba:Z1l Unit:=λσ k=>rdN σ 82<|rdV σ 0 .str false [] λs=>rdT σ 2 (.ptr ⟨true,2,[]⟩)<|rdV σ 4 y9 false [.S] λw=>rdT σ 5 (.ptr ⟨true,5,[]⟩)<|rdB σ 2 y14 [.O,.O] λa t2=>rdB σ 5 y14 [.O,.O] λa1 d=>j8V w d (λ(d1:qG)=>k .normal (mkS 82 82 [(0,.val ⟨.str,false,s,[]⟩),(2,.ptr ⟨true,2,[]⟩),(5,.ptr ⟨true,5,[]⟩)] [(2,⟨y14,a,t2,[.O,.O]⟩),(5,⟨y14,a1,d1,[.O,.O]⟩)]))
theorem jjZ (s:qB) (w:qL) (a:Bool) (t2:qG) (a1:Bool) (d:qG) (k:Z6G Unit):Z0R j9U [j5k] (.t (.t .o (.t .o (.t .o (.t .o (.t .o (.t .o (.t (.x 0) .o))))))) .o) (pl (pr (pr (pr (pr j3D))))) (mkS 82 82 [(0,.val ⟨.str,false,s,[]⟩),(2,.ptr ⟨true,2,[]⟩),(4,.val ⟨y9,false,w,[.S]⟩),(5,.ptr ⟨true,5,[]⟩)] [(2,⟨y14,a,t2,[.O,.O]⟩),(5,⟨y14,a1,d,[.O,.O]⟩)]) (λe σ=>k e ((Z8a ([0,2,5],[2,5]) [] ([],[])) e σ))=j8V w d (λ(d1:qG)=>k .normal (mkS 82 82 [(0,.val ⟨.str,false,s,[]⟩),(2,.ptr ⟨true,2,[]⟩),(5,.ptr ⟨true,5,[]⟩)] [(2,⟨y14,a,t2,[.O,.O]⟩),(5,⟨y14,a1,d1,[.O,.O]⟩)])):=by kernel_rfl
theorem jkM {W0:Base} {M:Nat->Prop} (hnp:W0.np<=0):Z1W Tryz.prog W0 M (pl (pr (pr (pr (pr j3D))))) jba:=Z91 (Z6Q follows j01 (Z7K (Z8C j9L (Z8C j1U (Z8C jbq (Z8C j9l Z8W))))) hnp [j5k] ((pl (pr (pr (pr (pr j3D)))))) (.t (.t .o (.t .o (.t .o (.t .o (.t .o (.t .o (.t (.x 0) .o))))))) .o) (Z1A.mk ((Z1A.mk trivial ((Z1A.mk trivial ((Z1A.mk trivial ((Z1A.mk trivial ((Z1A.mk trivial ((Z1A.mk trivial ((Z1A.mk (Z1A.x_mk (λW0 M hnp=>jkL (W0:=W0) (M:=M) hnp)) trivial)))))))))))))) trivial)) (fg:=(Z8a ([0,2,5],[2,5]) [] ([],[]))) (Z8U _ _ _) (by
 intro σ k r h
 obtain ⟨hn,h1⟩:=Z8G h
 obtain ⟨s,hs0,h2⟩:=Z8J h1
 obtain ⟨hs2,h3⟩:=Z8H h2
 obtain ⟨w,hs4,h4⟩:=Z8J h3
 obtain ⟨hs5,h5⟩:=Z8H h4
 obtain ⟨a,t2,hb2,h6⟩:=Z8D h5
 obtain ⟨a1,d,hb5,h7⟩:=Z8D h6
 refine ⟨_,?_,(jjZ s w a t2 a1 d k).trans h7⟩
 exact Z9e hn ⟨hs0,hs2,hs4,hs5,trivial⟩ ⟨hb2,hb5,trivial⟩)
noncomputable def j9u (s:qB) (k0:qG->Bool->Res):Res:=
 j64 s λ(r:qL)=>
  bif decide ((nI (List.length r))<2) then
   k0 (0,eS,[],[],eS,eS) false
  else
   bif inb 1 (List.length r) then
    j8V r (0,nth eS r 1,[],[],eS,eS) λ(d:qG)=>
     j35 d λ(r1:qB)=>
      bif sNe r1 s then
       k0 (0,eS,[],[],eS,eS) false
      else
       k0 d true
   else none
noncomputable def jfZ:Sig Unit:=⟨[.borrow .str false],[true,false],λvals ext k=>av vals .str λs vals=>nl vals<|nl ext<|j9u s (λ(r0:qG) (r1:Bool)=>k [⟨y14,true,r0,[.O,.O]⟩,⟨.bool,false,r1,[]⟩] [] [])⟩
theorem jn9 (s:qB) (a_s:Bool) (t_s:List Tag) (k:qK):Z6X j9U [j5k,jba] (.t .o (.t .o (.t .o (.t .o (.t (.x 1) .o))))) false Tryz.f78 [.borrow .str false] [true,false] [⟨.str,a_s,s,t_s⟩] [] k=j9u s (λ(r0:qG) (r1:Bool)=>k [⟨y14,true,r0,[.O,.O]⟩,⟨.bool,false,r1,[]⟩] [] []):=by kernel_rfl
theorem jfw:Z1k Tryz.prog 78 jfZ:=Z8N (Γ:=j9U) (X:=[j5k,jba]) (ht:=(.t .o (.t .o (.t .o (.t .o (.t (.x 1) .o)))))) (fz:=false) (c:=j3D) follows j01 (Z8C j9L (Z8C j1U (Z8C jbq (Z8C j9l Z8W)))) (Z1A.mk trivial ((Z1A.mk trivial ((Z1A.mk trivial ((Z1A.mk trivial ((Z1A.mk (Z1A.x_mk (λW0 M hnp=>jkM (W0:=W0) (M:=M) hnp)) trivial))))))))) Tryz.func78 (by kernel_rfl) (by kernel_rfl) (by decide) (by
 intro vals ext k r h
 obtain ⟨s,a_s,t_s,vals,rfl,h1⟩:=Z8T h
 obtain ⟨rfl,h2⟩:=Z90 h1
 obtain ⟨rfl,h3⟩:=Z90 h2
 exact (jn9 s a_s t_s k).trans h3)
noncomputable def j89:Code:=(Tryz.f80.body).getD .skip
noncomputable def jdj:Env Unit:=⟨tys,[(163,jcQ)],0⟩
noncomputable def j56 (t9:qL) (t10:Int) (out:List qV) (t11:Int) (rec:qW->Int->Res) (k0:qW->Res):Res:=
 bif decide (t11<t10) then
  bif inb t11 (List.length t9) then
   j37 (nth eS t9 t11) λ(r:Int×Int×qB) (r1:Bool)=>
    bif !r1 then
     bif lim ((List.length out)+1) then
      rec (out++[((-1),0,eS)]) (Z8g (t11+1))
     else none
    else
     bif lim ((List.length out)+1) then
      rec (out++[r]) (Z8g (t11+1))
     else none
  else none
 else
  k0 out
noncomputable def j7J (t9:qL) (t10:Int):(qW×Int)->(qW×Int->Res)->((qW->Res))->Res:=λv rec q=>j56 t9 t10 v.1 v.2 (λout t11=>rec (out,t11)) q
noncomputable def jcK (t9:qL) (t10:Int) (n:Nat) (out:List qV) (t11:Int) (k0:qW->Res):Res:=Z10 (j7J t9 t10) n (out,t11) (k0)
noncomputable def j9g:Z1l Unit:=λσ k=>rdN σ 29<|rdV σ 3 y3 false [.O] λout=>rdV σ 9 y9 false [.S] λt9=>rdV σ 10 (.int .i64) false [] λt10=>rdV σ 11 (.int .i64) false [] λt11=>jcK t9 t10 Z0Y out t11 (λ(out1:List qV)=>k (.exit 0) (mkS 29 29 [(3,.val ⟨y3,false,out1,[.O]⟩)] []))
theorem jmq (t9:qL) (t10:Int) (n:Nat) (v:qW×Int) (k:Z6G Unit):Z3X (Z0R jdj [] .o (pl (pl (pr (pl (pr (pr j89))))))) (λσ=>σ.forget [3,9,10,11] []) (Z8a ([],[]) [(0,[3],[])] ([],[])) n (mkS 29 29 [(3,.val ⟨y3,false,v.1,[.O]⟩),(9,.val ⟨y9,false,t9,[.S]⟩),(10,.val ⟨(.int .i64),false,t10,[]⟩),(11,.val ⟨(.int .i64),false,v.2,[]⟩)] []) k=Z10 (j7J t9 t10) n v ((λ(k:Z6G Unit)=>(((λ(out1:List qV)=>k (.exit 0) (mkS 29 29 [(3,.val ⟨y3,false,out1,[.O]⟩)] []))):(qW->Res))) k):=Z80 (λv:qW×Int=>(mkS 29 29 [(3,.val ⟨y3,false,v.1,[.O]⟩),(9,.val ⟨y9,false,t9,[.S]⟩),(10,.val ⟨(.int .i64),false,t10,[]⟩),(11,.val ⟨(.int .i64),false,v.2,[]⟩)] [])) (j7J t9 t10) (λ(k:Z6G Unit)=>(((λ(out1:List qV)=>k (.exit 0) (mkS 29 29 [(3,.val ⟨y3,false,out1,[.O]⟩)] []))):(qW->Res))) (λv rec k=>by kernel_rfl) n v k
theorem jmI {W0:Base} {M:Nat->Prop} (hnp:W0.np<=0):Z1W Tryz.prog W0 M (pl (pr (pl (pr (pr j89))))) j9g:=show Z1W Tryz.prog W0 M (Code.loop (pl (pl (pr (pl (pr (pr j89))))))) j9g from Z8X (Z6Q follows j01 (Z7K (Z8C j4R Z8W)) hnp [] (pl (pl (pr (pl (pr (pr j89)))))) .o trivial) (ks:=[3,9,10,11]) (bs:=[]) (fX:=(Z8a ([],[]) [(0,[3],[])] ([],[]))) (Z8U _ _ _) Z0Y (by
 intro σ k r h
 obtain ⟨hn,h1⟩:=Z8G h
 obtain ⟨out,hs3,h2⟩:=Z8J h1
 obtain ⟨t9,hs9,h3⟩:=Z8J h2
 obtain ⟨t10,hs10,h4⟩:=Z8J h3
 obtain ⟨t11,hs11,h5⟩:=Z8J h4
 refine ⟨_,?_,(jmq t9 t10 Z0Y (out,t11) k).trans h5⟩
 exact Z9e hn ⟨hs3,hs9,hs10,hs11,trivial⟩ trivial)
noncomputable def j32 (w:qL) (k0:qW->Res):Res:=
 jcK w (nI (List.length w)) Z0Y [] 0 λ(out:List qV)=>
  k0 out
noncomputable def jhg:Sig Unit:=⟨[.borrow y9 false],[false],λvals ext k=>av vals y9 λw vals=>nl vals<|nl ext<|j32 w (λ(r0:List qV)=>k [⟨y3,false,r0,[.O]⟩] [] [])⟩
theorem joX (w:qL) (a_w:Bool) (t_w:List Tag) (k:qK):Z6X jdj [j9g] (.t .o (.t .o (.t (.t .o (.t (.x 0) .o)) .o))) false Tryz.f80 [.borrow y9 false] [false] [⟨y9,a_w,w,t_w⟩] [] k=j32 w (λ(r0:List qV)=>k [⟨y3,false,r0,[.O]⟩] [] []):=by kernel_rfl
theorem jgW:Z1k Tryz.prog 80 jhg:=Z8N (Γ:=jdj) (X:=[j9g]) (ht:=(.t .o (.t .o (.t (.t .o (.t (.x 0) .o)) .o)))) (fz:=false) (c:=j89) follows j01 (Z8C j4R Z8W) (Z1A.mk trivial ((Z1A.mk trivial ((Z1A.mk ((Z1A.mk trivial ((Z1A.mk (Z1A.x_mk (λW0 M hnp=>jmI (W0:=W0) (M:=M) hnp)) trivial)))) trivial))))) Tryz.func80 (by kernel_rfl) (by kernel_rfl) (by decide) (by
 intro vals ext k r h
 obtain ⟨w,a_w,t_w,vals,rfl,h1⟩:=Z8T h
 obtain ⟨rfl,h2⟩:=Z90 h1
 obtain ⟨rfl,h3⟩:=Z90 h2
 exact (joX w a_w t_w k).trans h3)
noncomputable def j5O:Code:=(Tryz.f66.body).getD .skip
noncomputable def jbB:Env Unit:=⟨tys,[(65,j9G),(155,ja8)],0⟩
noncomputable def j3X (t7:List qV) (t8:Int) (out:qL) (t9:Int) (rec:qL->Int->Res) (k0:qL->Res):Res:=
 bif decide (t9<t8) then
  bif inb t9 (List.length t7) then
   j53 (nth (0,0,eS) t7 t9) λ(r:qB)=>
    bif lim ((List.length out)+1) then
     rec (out++[r]) (Z8g (t9+1))
    else none
  else none
 else
  k0 out
noncomputable def j67 (t7:List qV) (t8:Int):(qL×Int)->(qL×Int->Res)->((qL->Res))->Res:=λv rec q=>j3X t7 t8 v.1 v.2 (λout t9=>rec (out,t9)) q
noncomputable def jaW (t7:List qV) (t8:Int) (n:Nat) (out:qL) (t9:Int) (k0:qL->Res):Res:=Z10 (j67 t7 t8) n (out,t9) (k0)
noncomputable def j6V:Z1l Unit:=λσ k=>rdN σ 21<|rdV σ 3 y9 false [.O] λout=>rdV σ 7 y3 false [.S] λt7=>rdV σ 8 (.int .i64) false [] λt8=>rdV σ 9 (.int .i64) false [] λt9=>jaW t7 t8 Z0Y out t9 (λ(out1:qL)=>k (.exit 0) (mkS 21 21 [(3,.val ⟨y9,false,out1,[.O]⟩)] []))
theorem jiD (t7:List qV) (t8:Int) (n:Nat) (v:qL×Int) (k:Z6G Unit):Z3X (Z0R jbB [] .o (pl (pl (pr (pl (pr (pr j5O))))))) (λσ=>σ.forget [3,7,8,9] []) (Z8a ([],[]) [(0,[3],[])] ([],[])) n (mkS 21 21 [(3,.val ⟨y9,false,v.1,[.O]⟩),(7,.val ⟨y3,false,t7,[.S]⟩),(8,.val ⟨(.int .i64),false,t8,[]⟩),(9,.val ⟨(.int .i64),false,v.2,[]⟩)] []) k=Z10 (j67 t7 t8) n v ((λ(k:Z6G Unit)=>(((λ(out1:qL)=>k (.exit 0) (mkS 21 21 [(3,.val ⟨y9,false,out1,[.O]⟩)] []))):(qL->Res))) k):=Z80 (λv:qL×Int=>(mkS 21 21 [(3,.val ⟨y9,false,v.1,[.O]⟩),(7,.val ⟨y3,false,t7,[.S]⟩),(8,.val ⟨(.int .i64),false,t8,[]⟩),(9,.val ⟨(.int .i64),false,v.2,[]⟩)] [])) (j67 t7 t8) (λ(k:Z6G Unit)=>(((λ(out1:qL)=>k (.exit 0) (mkS 21 21 [(3,.val ⟨y9,false,out1,[.O]⟩)] []))):(qL->Res))) (λv rec k=>by kernel_rfl) n v k
theorem jj5 {W0:Base} {M:Nat->Prop} (hnp:W0.np<=0):Z1W Tryz.prog W0 M (pl (pr (pl (pr (pr j5O))))) j6V:=show Z1W Tryz.prog W0 M (Code.loop (pl (pl (pr (pl (pr (pr j5O))))))) j6V from Z8X (Z6Q follows j01 (Z7K (Z8C j75 (Z8C j2F Z8W))) hnp [] (pl (pl (pr (pl (pr (pr j5O)))))) .o trivial) (ks:=[3,7,8,9]) (bs:=[]) (fX:=(Z8a ([],[]) [(0,[3],[])] ([],[]))) (Z8U _ _ _) Z0Y (by
 intro σ k r h
 obtain ⟨hn,h1⟩:=Z8G h
 obtain ⟨out,hs3,h2⟩:=Z8J h1
 obtain ⟨t7,hs7,h3⟩:=Z8J h2
 obtain ⟨t8,hs8,h4⟩:=Z8J h3
 obtain ⟨t9,hs9,h5⟩:=Z8J h4
 refine ⟨_,?_,(jiD t7 t8 Z0Y (out,t9) k).trans h5⟩
 exact Z9e hn ⟨hs3,hs7,hs8,hs9,trivial⟩ trivial)
noncomputable def j3q (l:List qV) (k0:qB->Res):Res:=
 jaW l (nI (List.length l)) Z0Y [] 0 λ(out:qL)=>
  j1b out λ(r:qB)=>
   k0 r
noncomputable def jf0:Sig Unit:=⟨[.look y3 false],[false],λvals ext k=>av vals y3 λl vals=>nl vals<|nl ext<|j3q l (λ(r0:qB)=>k [⟨.str,false,r0,[]⟩] [] [])⟩
theorem jlF (l:List qV) (a_l:Bool) (t_l:List Tag) (k:qK):Z6X jbB [j6V] (.t .o (.t .o (.t (.t .o (.t (.x 0) .o)) .o))) false Tryz.f66 [.look y3 false] [false] [⟨y3,a_l,l,t_l⟩] [] k=j3q l (λ(r0:qB)=>k [⟨.str,false,r0,[]⟩] [] []):=by kernel_rfl
theorem jlZ:Z1k Tryz.prog 66 jf0:=Z8N (Γ:=jbB) (X:=[j6V]) (ht:=(.t .o (.t .o (.t (.t .o (.t (.x 0) .o)) .o)))) (fz:=false) (c:=j5O) follows j01 (Z8C j75 (Z8C j2F Z8W)) (Z1A.mk trivial ((Z1A.mk trivial ((Z1A.mk ((Z1A.mk trivial ((Z1A.mk (Z1A.x_mk (λW0 M hnp=>jj5 (W0:=W0) (M:=M) hnp)) trivial)))) trivial))))) Tryz.func66 (by kernel_rfl) (by kernel_rfl) (by decide) (by
 intro vals ext k r h
 obtain ⟨l,a_l,t_l,vals,rfl,h1⟩:=Z8T h
 obtain ⟨rfl,h2⟩:=Z90 h1
 obtain ⟨rfl,h3⟩:=Z90 h2
 exact (jlF l a_l t_l k).trans h3)
noncomputable def jm8:Code:=(Tryz.f12.body).getD .skip
noncomputable def jez:Env Unit:=⟨tys,[(58,jdq),(65,j9G),(66,jf0),(67,jcO)],0⟩
noncomputable def j4m (s:qS) (k0:qB->Res):Res:=
 j8t s λ(r:Bool)=>
  bif !r then
   k0 eS
  else
   bif (s.1==1) then
    j3q s.2.2.2.1 λ(r1:qB)=>
     j1b [j0V,s.2.1,r1] λ(r2:qB)=>
      k0 r2
   else
    bif (s.1==2) then
     j3q s.2.2.1 λ(r3:qB)=>
      j3q s.2.2.2.1 λ(r4:qB)=>
       j1b [j0F,s.2.1,r3,j1C,r4] λ(r5:qB)=>
        k0 r5
    else
     bif (s.1==3) then
      j3q s.2.2.1 λ(r6:qB)=>
       j1b [j0U,s.2.1,r6] λ(r7:qB)=>
        k0 r7
     else
      bif (s.1==4) then
       bif lim (6+(ByteArray.size s.2.1)) then
        k0 (jgR++s.2.1)
       else none
      else
       j35 s.2.2.2.2 λ(r8:qB)=>
        k0 r8
noncomputable def jbX:Sig Unit:=⟨[.look y18 true],[false],λvals ext k=>av vals y18 λs vals=>nl vals<|nl ext<|j4m s (λ(r0:qB)=>k [⟨.str,false,r0,[]⟩] [] [])⟩
theorem jlw (s:qS) (a_s:Bool) (t_s:List Tag) (k:qK):Z6X jez [] .o false Tryz.f12 [.look y18 true] [false] [⟨y18,a_s,s,t_s⟩] [] k=j4m s (λ(r0:qB)=>k [⟨.str,false,r0,[]⟩] [] []):=by kernel_rfl
theorem j8I:Z1k Tryz.prog 12 jbX:=Z8N (Γ:=jez) (X:=[]) (ht:= .o) (fz:=false) (c:=jm8) follows j01 (Z8C jgT (Z8C j75 (Z8C jlZ (Z8C j9L Z8W)))) trivial Tryz.func12 (by kernel_rfl) (by kernel_rfl) (by decide) (by
 intro vals ext k r h
 obtain ⟨s,a_s,t_s,vals,rfl,h1⟩:=Z8T h
 obtain ⟨rfl,h2⟩:=Z90 h1
 obtain ⟨rfl,h3⟩:=Z90 h2
 exact (jlw s a_s t_s k).trans h3)
noncomputable def j8M:Code:=(Tryz.f15.body).getD .skip
noncomputable def jbz:Env Unit:=⟨tys,[(12,jbX),(78,jfZ),(79,j9F),(80,jhg),(81,j2Q)],0⟩
noncomputable def j7E (rest:qL) (t34:qB) (x:qS) (k0:qS->Res):Res:=
 bif sEq t34 j0V then
  j32 rest λ(r:List qV)=>
   k0 (1,x.2.1,x.2.2.1,r,x.2.2.2.2)
 else
  bif sEq t34 j0F then
   j0L rest j1C λ(r1:Int)=>
    bif decide (r1>=0) then
     bif Z6R 0 r1 (List.length rest) then
      j32 (sub rest 0 r1) λ(r2:List qV)=>
       bif Z6R (Z8g (r1+1)) (nI (List.length rest)) (List.length rest) then
        j32 (sub rest (Z8g (r1+1)) (nI (List.length rest))) λ(r3:List qV)=>
         k0 (2,x.2.1,r2,r3,x.2.2.2.2)
       else none
     else none
    else
     k0 (2,x.2)
  else
   bif sEq t34 j0U then
    j32 rest λ(r4:List qV)=>
     k0 (3,x.2.1,r4,x.2.2.2)
   else
    bif sEq t34 j1T then
     k0 (4,x.2)
    else
     k0 x
noncomputable def jat:Z1l Unit:=λσ k=>rdN σ 76<|rdV σ 0 .str false [] λs=>rdT σ 2 (.ptr ⟨true,2,[]⟩)<|rdT σ 7 (.ptr ⟨true,7,[]⟩)<|rdV σ 8 y9 false [.S] λrest=>rdV σ 34 .str false [] λt34=>rdB σ 2 y18 [.O,.O,.O,.O] λa t2=>rdB σ 7 y18 [.O,.O,.O,.O] λa1 x=>j7E rest t34 x (λ(x1:qS)=>k .normal (mkS 76 76 [(0,.val ⟨.str,false,s,[]⟩),(2,.ptr ⟨true,2,[]⟩),(7,.ptr ⟨true,7,[]⟩)] [(2,⟨y18,a,t2,[.O,.O,.O,.O]⟩),(7,⟨y18,a1,x1,[.O,.O,.O,.O]⟩)]))
theorem jiB (s:qB) (rest:qL) (t34:qB) (a:Bool) (t2:qS) (a1:Bool) (x:qS) (k:Z6G Unit):Z0R jbz [] .o (pr (pl (pr (pr (pr (pr (pr (pr j8M)))))))) (mkS 76 76 [(0,.val ⟨.str,false,s,[]⟩),(2,.ptr ⟨true,2,[]⟩),(7,.ptr ⟨true,7,[]⟩),(8,.val ⟨y9,false,rest,[.S]⟩),(34,.val ⟨.str,false,t34,[]⟩)] [(2,⟨y18,a,t2,[.O,.O,.O,.O]⟩),(7,⟨y18,a1,x,[.O,.O,.O,.O]⟩)]) (λe σ=>k e ((Z8a ([0,2,7],[2,7]) [] ([],[])) e σ))=j7E rest t34 x (λ(x1:qS)=>k .normal (mkS 76 76 [(0,.val ⟨.str,false,s,[]⟩),(2,.ptr ⟨true,2,[]⟩),(7,.ptr ⟨true,7,[]⟩)] [(2,⟨y18,a,t2,[.O,.O,.O,.O]⟩),(7,⟨y18,a1,x1,[.O,.O,.O,.O]⟩)])):=by kernel_rfl
theorem jj3 {W0:Base} {M:Nat->Prop} (hnp:W0.np<=0):Z1W Tryz.prog W0 M (pr (pl (pr (pr (pr (pr (pr (pr j8M)))))))) jat:=Z91 (Z6Q follows j01 (Z7K (Z8C j8I (Z8C jfw (Z8C j1U (Z8C jgW (Z8C j0A Z8W)))))) hnp [] ((pr (pl (pr (pr (pr (pr (pr (pr j8M))))))))) .o trivial) (fg:=(Z8a ([0,2,7],[2,7]) [] ([],[]))) (Z8U _ _ _) (by
 intro σ k r h
 obtain ⟨hn,h1⟩:=Z8G h
 obtain ⟨s,hs0,h2⟩:=Z8J h1
 obtain ⟨hs2,h3⟩:=Z8H h2
 obtain ⟨hs7,h4⟩:=Z8H h3
 obtain ⟨rest,hs8,h5⟩:=Z8J h4
 obtain ⟨t34,hs34,h6⟩:=Z8J h5
 obtain ⟨a,t2,hb2,h7⟩:=Z8D h6
 obtain ⟨a1,x,hb7,h8⟩:=Z8D h7
 refine ⟨_,?_,(jiB s rest t34 a t2 a1 x k).trans h8⟩
 exact Z9e hn ⟨hs0,hs2,hs7,hs8,hs34,trivial⟩ ⟨hb2,hb7,trivial⟩)
noncomputable def j5B (s:qB) (k0:qS->Bool->Res):Res:=
 j9u s λ(r:qG) (r1:Bool)=>
  bif r1 then
   k0 (5,r.2.1,[],[],r) true
  else
   j64 s λ(r2:qL)=>
    bif decide ((nI (List.length r2))<2) then
     k0 (0,eS,[],[],0,eS,[],[],eS,eS) false
    else
     bif inb 1 (List.length r2) then
      bif Z6R 2 (nI (List.length r2)) (List.length r2) then
       bif inb 0 (List.length r2) then
        j7E (sub r2 2 (nI (List.length r2))) (nth eS r2 0) (0,nth eS r2 1,[],[],0,eS,[],[],eS,eS) λ(x:qS)=>
         j4m x λ(r3:qB)=>
          bif sNe r3 s then
           k0 (0,eS,[],[],0,eS,[],[],eS,eS) false
          else
           k0 x true
       else none
      else none
     else none
noncomputable def jeV:Sig Unit:=⟨[.borrow .str false],[true,false],λvals ext k=>av vals .str λs vals=>nl vals<|nl ext<|j5B s (λ(r0:qS) (r1:Bool)=>k [⟨y18,true,r0,[.O,.O,.O,.O]⟩,⟨.bool,false,r1,[]⟩] [] [])⟩
theorem jly (s:qB) (a_s:Bool) (t_s:List Tag) (k:qK):Z6X jbz [jat] (.t .o (.t .o (.t .o (.t .o (.t .o (.t .o (.t (.t .o (.x 0)) .o))))))) false Tryz.f15 [.borrow .str false] [true,false] [⟨.str,a_s,s,t_s⟩] [] k=j5B s (λ(r0:qS) (r1:Bool)=>k [⟨y18,true,r0,[.O,.O,.O,.O]⟩,⟨.bool,false,r1,[]⟩] [] []):=by kernel_rfl
theorem jeq:Z1k Tryz.prog 15 jeV:=Z8N (Γ:=jbz) (X:=[jat]) (ht:=(.t .o (.t .o (.t .o (.t .o (.t .o (.t .o (.t (.t .o (.x 0)) .o)))))))) (fz:=false) (c:=j8M) follows j01 (Z8C j8I (Z8C jfw (Z8C j1U (Z8C jgW (Z8C j0A Z8W))))) (Z1A.mk trivial ((Z1A.mk trivial ((Z1A.mk trivial ((Z1A.mk trivial ((Z1A.mk trivial ((Z1A.mk trivial ((Z1A.mk ((Z1A.mk trivial (Z1A.x_mk (λW0 M hnp=>jj3 (W0:=W0) (M:=M) hnp)))) trivial))))))))))))) Tryz.func15 (by kernel_rfl) (by kernel_rfl) (by decide) (by
 intro vals ext k r h
 obtain ⟨s,a_s,t_s,vals,rfl,h1⟩:=Z8T h
 obtain ⟨rfl,h2⟩:=Z90 h1
 obtain ⟨rfl,h3⟩:=Z90 h2
 exact (jly s a_s t_s k).trans h3)
end Go.PI.G
