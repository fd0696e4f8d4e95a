/-
  Program's code interpreted over typed values; printed texts; plain laws. No conditions.
-/
import Derived.Test.YtiieddiheadocaaGreatUa
set_option linter.unusedVariables false
set_option maxRecDepth 100000
namespace Go.PI.G
open Go Go.PI Go.Proofs
open Go.Code (pl pr)
noncomputable def jqG:Code:=(Tryz.f258.body).getD .skip
noncomputable def jiJ:Env Unit:=⟨tys,[],0⟩
noncomputable def jaI (a:Int×Int×qB) (b:Int×Int×qB) (k0:Bool->Res):Res:=
 bif (a.1 != b.1) then
  k0 false
 else
  bif (a.2.1 != b.2.1) then
   k0 false
  else
   bif sNe a.2.2 b.2.2 then
    k0 false
   else
    k0 true
noncomputable def jf1:Sig Unit:=⟨[.look y2 true,.look y2 true],[false],λvals ext k=>av vals y2 λa vals=>av vals y2 λb vals=>nl vals<|nl ext<|jaI a b (λ(r0:Bool)=>k [⟨.bool,false,r0,[]⟩] [] [])⟩
theorem jql (a:Int×Int×qB) (a_a:Bool) (t_a:List Tag) (b:Int×Int×qB) (a_b:Bool) (t_b:List Tag) (k:qK):Z6X jiJ [] .o false Tryz.f258 [.look y2 true,.look y2 true] [false] [⟨y2,a_a,a,t_a⟩,⟨y2,a_b,b,t_b⟩] [] k=jaI a b (λ(r0:Bool)=>k [⟨.bool,false,r0,[]⟩] [] []):=by kernel_rfl
theorem jeC:Z1k Tryz.prog 258 jf1:=Z8N (Γ:=jiJ) (X:=[]) (ht:= .o) (fz:=false) (c:=jqG) follows j00 Z8W trivial Tryz.func258 (by kernel_rfl) (by kernel_rfl) (by decide) (by
 intro vals ext k r h
 obtain ⟨a,a_a,t_a,vals,rfl,h1⟩:=Z8T h
 obtain ⟨b,a_b,t_b,vals,rfl,h2⟩:=Z8T h1
 obtain ⟨rfl,h3⟩:=Z90 h2
 obtain ⟨rfl,h4⟩:=Z90 h3
 exact (jql a a_a t_a b a_b t_b k).trans h4)
end Go.PI.G
namespace Go.PI.G
open Go Go.PI Go.Proofs
open Go.Code (pl pr)
noncomputable def jqC:Code:=(Tryz.f291.body).getD .skip
noncomputable def jiF:Env Unit:=⟨tys,[(258,jf1)],0⟩
noncomputable def jcz (a:qB×Int×Bool×Bool×Int×Int×qB) (b:qB×Int×Bool×Bool×Int×Int×qB) (k0:Bool->Res):Res:=
 bif sNe a.1 b.1 then
  k0 false
 else
  bif (a.2.1 != b.2.1) then
   k0 false
  else
   bif !(a.2.2.1==b.2.2.1) then
    k0 false
   else
    bif !(a.2.2.2.1==b.2.2.2.1) then
     k0 false
    else
     jaI a.2.2.2.2 b.2.2.2.2 λ(r:Bool)=>
      bif !r then
       k0 false
      else
       k0 true
noncomputable def jjg:Sig Unit:=⟨[.look y7 true,.look y7 true],[false],λvals ext k=>av vals y7 λa vals=>av vals y7 λb vals=>nl vals<|nl ext<|jcz a b (λ(r0:Bool)=>k [⟨.bool,false,r0,[]⟩] [] [])⟩
theorem jqh (a:qB×Int×Bool×Bool×Int×Int×qB) (a_a:Bool) (t_a:List Tag) (b:qB×Int×Bool×Bool×Int×Int×qB) (a_b:Bool) (t_b:List Tag) (k:qK):Z6X jiF [] .o false Tryz.f291 [.look y7 true,.look y7 true] [false] [⟨y7,a_a,a,t_a⟩,⟨y7,a_b,b,t_b⟩] [] k=jcz a b (λ(r0:Bool)=>k [⟨.bool,false,r0,[]⟩] [] []):=by kernel_rfl
theorem jif:Z1k Tryz.prog 291 jjg:=Z8N (Γ:=jiF) (X:=[]) (ht:= .o) (fz:=false) (c:=jqC) follows j00 (Z8C jeC Z8W) trivial Tryz.func291 (by kernel_rfl) (by kernel_rfl) (by decide) (by
 intro vals ext k r h
 obtain ⟨a,a_a,t_a,vals,rfl,h1⟩:=Z8T h
 obtain ⟨b,a_b,t_b,vals,rfl,h2⟩:=Z8T h1
 obtain ⟨rfl,h3⟩:=Z90 h2
 obtain ⟨rfl,h4⟩:=Z90 h3
 exact (jqh a a_a t_a b a_b t_b k).trans h4)
end Go.PI.G
namespace Go.PI.G
open Go Go.PI Go.Proofs
open Go.Code (pl pr)
noncomputable def j6t:Code:=(Tryz.f125.body).getD .skip
noncomputable def jcn:Env Unit:=⟨tys,[],0⟩
noncomputable def j4a (k_:Int) (out:qB) (rec:Int->qB->Res) (k0:qB->Res):Res:=
 bif decide (k_>0) then
  bif lim ((ByteArray.size (Z2X [wu8 (Z8g (48+(Int.tmod k_ 10)))]))+(ByteArray.size out)) then
   rec (Z8g (Int.tdiv k_ 10)) ((Z2X [wu8 (Z8g (48+(Int.tmod k_ 10)))])++out)
  else none
 else
  k0 out
noncomputable def j4b:(Int×qB)->(Int×qB->Res)->((qB->Res))->Res:=λv rec q=>j4a v.1 v.2 (λk_ out=>rec (k_,out)) q
noncomputable def jbL (n:Nat) (k_:Int) (out:qB) (k0:qB->Res):Res:=Z10 (j4b) n (k_,out) (k0)
noncomputable def j7C:Z1l Unit:=λσ k=>rdN σ 20<|rdV σ 0 (.int .i64) false [] λk_=>rdV σ 3 .str false [] λout=>jbL Z0Y k_ out (λ(out1:qB)=>k (.exit 0) (mkS 20 20 [(3,.val ⟨.str,false,out1,[]⟩)] []))
theorem jjU  (n:Nat) (v:Int×qB) (k:Z6G Unit):Z3X (Z0R jcn [] .o (pl (pl (pl (pr (pr (pr j6t))))))) (λσ=>σ.forget [0,3] []) (Z8a ([],[]) [(0,[3],[])] ([],[])) n (mkS 20 20 [(0,.val ⟨(.int .i64),false,v.1,[]⟩),(3,.val ⟨.str,false,v.2,[]⟩)] []) k=Z10 (j4b) n v ((λ(k:Z6G Unit)=>(((λ(out1:qB)=>k (.exit 0) (mkS 20 20 [(3,.val ⟨.str,false,out1,[]⟩)] []))):(qB->Res))) k):=Z80 (λv:Int×qB=>(mkS 20 20 [(0,.val ⟨(.int .i64),false,v.1,[]⟩),(3,.val ⟨.str,false,v.2,[]⟩)] [])) (j4b) (λ(k:Z6G Unit)=>(((λ(out1:qB)=>k (.exit 0) (mkS 20 20 [(3,.val ⟨.str,false,out1,[]⟩)] []))):(qB->Res))) (λv rec k=>by kernel_rfl) n v k
theorem jkm {W0:Base} {M:Nat->Prop} (hnp:W0.np<=0):Z1W Tryz.prog W0 M (pl (pl (pr (pr (pr j6t))))) j7C:=show Z1W Tryz.prog W0 M (Code.loop (pl (pl (pl (pr (pr (pr j6t))))))) j7C from Z8X (Z6Q follows j00 (Z7K Z8W) hnp [] (pl (pl (pl (pr (pr (pr j6t)))))) .o trivial) (ks:=[0,3]) (bs:=[]) (fX:=(Z8a ([],[]) [(0,[3],[])] ([],[]))) (Z8U _ _ _) Z0Y (by
 intro σ k r h
 obtain ⟨hn,h1⟩:=Z8G h
 obtain ⟨k_,hs0,h2⟩:=Z8J h1
 obtain ⟨out,hs3,h3⟩:=Z8J h2
 refine ⟨_,?_,(jjU  Z0Y (k_,out) k).trans h3⟩
 exact Z9e hn ⟨hs0,hs3,trivial⟩ trivial)
noncomputable def j0r (k_:Int) (k0:qB->Res):Res:=
 bif decide (k_<=0) then
  k0 jtW
 else
  jbL Z0Y k_ eS λ(out:qB)=>
   bif lim (1+(ByteArray.size out)) then
    k0 (z_m++out)
   else none
noncomputable def j1W:Sig Unit:=⟨[.look (.int .i64) false],[false],λvals ext k=>av vals (.int .i64) λk_ vals=>nl vals<|nl ext<|j0r k_ (λ(r0:qB)=>k [⟨.str,false,r0,[]⟩] [] [])⟩
theorem jmU (k_:Int) (a_k_:Bool) (t_k_:List Tag) (k:qK):Z6X jcn [j7C] (.t .o (.t .o (.t .o (.t (.t (.x 0) .o) .o)))) false Tryz.f125 [.look (.int .i64) false] [false] [⟨(.int .i64),a_k_,k_,t_k_⟩] [] k=j0r k_ (λ(r0:qB)=>k [⟨.str,false,r0,[]⟩] [] []):=by kernel_rfl
theorem j09:Z1k Tryz.prog 125 j1W:=Z8N (Γ:=jcn) (X:=[j7C]) (ht:=(.t .o (.t .o (.t .o (.t (.t (.x 0) .o) .o))))) (fz:=false) (c:=j6t) follows j00 Z8W (Z1A.mk trivial ((Z1A.mk trivial ((Z1A.mk trivial ((Z1A.mk ((Z1A.mk (Z1A.x_mk (λW0 M hnp=>jkm (W0:=W0) (M:=M) hnp)) trivial)) trivial))))))) Tryz.func125 (by kernel_rfl) (by kernel_rfl) (by decide) (by
 intro vals ext k r h
 obtain ⟨k_,a_k_,t_k_,vals,rfl,h1⟩:=Z8T h
 obtain ⟨rfl,h2⟩:=Z90 h1
 obtain ⟨rfl,h3⟩:=Z90 h2
 exact (jmU k_ a_k_ t_k_ k).trans h3)
end Go.PI.G
namespace Go.PI.G
open Go Go.PI Go.Proofs
open Go.Code (pl pr)
noncomputable def j8S:Code:=(Tryz.f259.body).getD .skip
noncomputable def je6:Env Unit:=⟨tys,[(291,jjg)],0⟩
noncomputable def j5C (a:List qC) (b:List qC) (i:Int) (rec:Int->Res) (k0:Unit->Res) (k1:Unit->Res):Res:=
 bif decide (i<(nI (List.length a))) then
  bif inb i (List.length a) then
   bif inb i (List.length b) then
    jcz (nth (eS,0,false,false,0,0,eS) a i) (nth (eS,0,false,false,0,0,eS) b i) λ(r:Bool)=>
     bif !r then
      k1 ()
     else
      rec (Z8g (i+1))
   else none
  else none
 else
  k0 ()
noncomputable def jbG (a:List qC) (b:List qC):Int->(Int->Res)->((Unit->Res)×(Unit->Res))->Res:=λv rec q=>j5C a b v (λi=>rec (i)) q.1 q.2
noncomputable def jdv (a:List qC) (b:List qC) (n:Nat) (i:Int) (k0:Unit->Res) (k1:Unit->Res):Res:=Z10 (jbG a b) n (i) (k0,k1)
noncomputable def j9X:Z1l Unit:=λσ k=>rdN σ 27<|rdV σ 0 y8 false [.S] λa=>rdV σ 1 y8 false [.S] λb=>rdV σ 5 (.int .i64) false [] λi=>jdv a b Z0Y i (λ(_:Unit)=>k (.exit 0) (mkS 27 27 [] [])) (λ(_:Unit)=>k .ret (mkS 27 27 [(4,.val ⟨.bool,false,false,[]⟩)] []))
theorem jnr (a:List qC) (b:List qC) (n:Nat) (v:Int) (k:Z6G Unit):Z3X (Z0R je6 [] .o (pl (pl (pr (pl (pr (pr j8S))))))) (λσ=>σ.forget [0,1,5] []) (Z8a ([],[]) [(0,[],[])] ([4],[])) n (mkS 27 27 [(0,.val ⟨y8,false,a,[.S]⟩),(1,.val ⟨y8,false,b,[.S]⟩),(5,.val ⟨(.int .i64),false,v,[]⟩)] []) k=Z10 (jbG a b) n v ((λ(k:Z6G Unit)=>(((λ(_:Unit)=>k (.exit 0) (mkS 27 27 [] [])),(λ(_:Unit)=>k .ret (mkS 27 27 [(4,.val ⟨.bool,false,false,[]⟩)] []))):(Unit->Res)×(Unit->Res))) k):=Z80 (λv:Int=>(mkS 27 27 [(0,.val ⟨y8,false,a,[.S]⟩),(1,.val ⟨y8,false,b,[.S]⟩),(5,.val ⟨(.int .i64),false,v,[]⟩)] [])) (jbG a b) (λ(k:Z6G Unit)=>(((λ(_:Unit)=>k (.exit 0) (mkS 27 27 [] [])),(λ(_:Unit)=>k .ret (mkS 27 27 [(4,.val ⟨.bool,false,false,[]⟩)] []))):(Unit->Res)×(Unit->Res))) (λv rec k=>by kernel_rfl) n v k
theorem jnK {W0:Base} {M:Nat->Prop} (hnp:W0.np<=0):Z1W Tryz.prog W0 M (pl (pr (pl (pr (pr j8S))))) j9X:=show Z1W Tryz.prog W0 M (Code.loop (pl (pl (pr (pl (pr (pr j8S))))))) j9X from Z8X (Z6Q follows j00 (Z7K (Z8C jif Z8W)) hnp [] (pl (pl (pr (pl (pr (pr j8S)))))) .o trivial) (ks:=[0,1,5]) (bs:=[]) (fX:=(Z8a ([],[]) [(0,[],[])] ([4],[]))) (Z8U _ _ _) Z0Y (by
 intro σ k r h
 obtain ⟨hn,h1⟩:=Z8G h
 obtain ⟨a,hs0,h2⟩:=Z8J h1
 obtain ⟨b,hs1,h3⟩:=Z8J h2
 obtain ⟨i,hs5,h4⟩:=Z8J h3
 refine ⟨_,?_,(jnr a b Z0Y (i) k).trans h4⟩
 exact Z9e hn ⟨hs0,hs1,hs5,trivial⟩ trivial)
noncomputable def jbf (a:List qC) (b:List qC) (k0:Bool->Res):Res:=
 bif ((nI (List.length a)) != (nI (List.length b))) then
  k0 false
 else
  jdv a b Z0Y 0
   (λ(_:Unit)=>
    k0 true)
   (λ(_:Unit)=>
    k0 false)
noncomputable def jhT:Sig Unit:=⟨[.look y8 false,.look y8 false],[false],λvals ext k=>av vals y8 λa vals=>av vals y8 λb vals=>nl vals<|nl ext<|jbf a b (λ(r0:Bool)=>k [⟨.bool,false,r0,[]⟩] [] [])⟩
theorem jpB (a:List qC) (a_a:Bool) (t_a:List Tag) (b:List qC) (a_b:Bool) (t_b:List Tag) (k:qK):Z6X je6 [j9X] (.t .o (.t .o (.t (.t .o (.t (.x 0) .o)) .o))) false Tryz.f259 [.look y8 false,.look y8 false] [false] [⟨y8,a_a,a,t_a⟩,⟨y8,a_b,b,t_b⟩] [] k=jbf a b (λ(r0:Bool)=>k [⟨.bool,false,r0,[]⟩] [] []):=by kernel_rfl
theorem jpN:Z1k Tryz.prog 259 jhT:=Z8N (Γ:=je6) (X:=[j9X]) (ht:=(.t .o (.t .o (.t (.t .o (.t (.x 0) .o)) .o)))) (fz:=false) (c:=j8S) follows j00 (Z8C jif Z8W) (Z1A.mk trivial ((Z1A.mk trivial ((Z1A.mk ((Z1A.mk trivial ((Z1A.mk (Z1A.x_mk (λW0 M hnp=>jnK (W0:=W0) (M:=M) hnp)) trivial)))) trivial))))) Tryz.func259 (by kernel_rfl) (by kernel_rfl) (by decide) (by
 intro vals ext k r h
 obtain ⟨a,a_a,t_a,vals,rfl,h1⟩:=Z8T h
 obtain ⟨b,a_b,t_b,vals,rfl,h2⟩:=Z8T h1
 obtain ⟨rfl,h3⟩:=Z90 h2
 obtain ⟨rfl,h4⟩:=Z90 h3
 exact (jpB a a_a t_a b a_b t_b k).trans h4)
noncomputable def j0D:Code:=(Tryz.f127.body).getD .skip
noncomputable def j4l:Env Unit:=⟨tys,[(125,j1W)],1⟩
noncomputable def j5F (a:List qC) (k_:Int) (i:Int) (k0:qE->Res):Res:=
 bif inb i (List.length a) then
  k0 (upd a i ((nth (eS,0,false,false,0,0,eS) a i).1,(nth (eS,0,false,false,0,0,eS) a i).2.1,((Int.tmod k_ 3)==0),(nth (eS,0,false,false,0,0,eS) a i).2.2.2))
 else none
noncomputable def j1r:Z1l Unit:=λσ k=>rdN σ 71<|rdV σ 0 y8 false [.O] λa=>rdV σ 1 (.int .i64) false [] λk_=>rdV σ 5 (.int .i64) false [] λi=>j5F a k_ i (λ(a1:List qC)=>k .normal (mkS 71 71 [(0,.val ⟨y8,false,a1,[.O]⟩),(1,.val ⟨(.int .i64),false,k_,[]⟩),(5,.val ⟨(.int .i64),false,i,[]⟩)] []))
theorem jjR (a:List qC) (k_:Int) (i:Int) (k:Z6G Unit):Z0R j4l [] .o (pl (pr (pr (pr (pr (pl (pl (pr (pl (pl (pr (pl (pr j0D))))))))))))) (mkS 71 71 [(0,.val ⟨y8,false,a,[.O]⟩),(1,.val ⟨(.int .i64),false,k_,[]⟩),(5,.val ⟨(.int .i64),false,i,[]⟩)] []) (λe σ=>k e ((Z8a ([0,1,5],[]) [] ([],[])) e σ))=j5F a k_ i (λ(a1:List qC)=>k .normal (mkS 71 71 [(0,.val ⟨y8,false,a1,[.O]⟩),(1,.val ⟨(.int .i64),false,k_,[]⟩),(5,.val ⟨(.int .i64),false,i,[]⟩)] [])):=by kernel_rfl
theorem jkj {W0:Base} {M:Nat->Prop} (hnp:W0.np<=1):Z1W Tryz.prog W0 M (pl (pr (pr (pr (pr (pl (pl (pr (pl (pl (pr (pl (pr j0D))))))))))))) j1r:=Z91 (Z6Q follows j00 (Z7K (Z8C j09 Z8W)) hnp [] ((pl (pr (pr (pr (pr (pl (pl (pr (pl (pl (pr (pl (pr j0D)))))))))))))) .o trivial) (fg:=(Z8a ([0,1,5],[]) [] ([],[]))) (Z8U _ _ _) (by
 intro σ k r h
 obtain ⟨hn,h1⟩:=Z8G h
 obtain ⟨a,hs0,h2⟩:=Z8J h1
 obtain ⟨k_,hs1,h3⟩:=Z8J h2
 obtain ⟨i,hs5,h4⟩:=Z8J h3
 refine ⟨_,?_,(jjR a k_ i k).trans h4⟩
 exact Z9e hn ⟨hs0,hs1,hs5,trivial⟩ trivial)
noncomputable def j5G (a:List qC) (k_:Int) (i:Int) (k0:qE->Res):Res:=
 bif inb i (List.length a) then
  k0 (upd a i ((nth (eS,0,false,false,0,0,eS) a i).1,(nth (eS,0,false,false,0,0,eS) a i).2.1,(nth (eS,0,false,false,0,0,eS) a i).2.2.1,(nth (eS,0,false,false,0,0,eS) a i).2.2.2.1,k_,(nth (eS,0,false,false,0,0,eS) a i).2.2.2.2.2))
 else none
noncomputable def j2o:Z1l Unit:=λσ k=>rdN σ 71<|rdV σ 0 y8 false [.O] λa=>rdV σ 1 (.int .i64) false [] λk_=>rdV σ 5 (.int .i64) false [] λi=>j5G a k_ i (λ(a1:List qC)=>k .normal (mkS 71 71 [(0,.val ⟨y8,false,a1,[.O]⟩),(1,.val ⟨(.int .i64),false,k_,[]⟩),(5,.val ⟨(.int .i64),false,i,[]⟩)] []))
theorem jjS (a:List qC) (k_:Int) (i:Int) (k:Z6G Unit):Z0R j4l [j1r] .o (pl (pr (pr (pr (pr (pr (pr (pr (pr (pl (pl (pr (pl (pl (pr (pl (pr j0D))))))))))))))))) (mkS 71 71 [(0,.val ⟨y8,false,a,[.O]⟩),(1,.val ⟨(.int .i64),false,k_,[]⟩),(5,.val ⟨(.int .i64),false,i,[]⟩)] []) (λe σ=>k e ((Z8a ([0,1,5],[]) [] ([],[])) e σ))=j5G a k_ i (λ(a1:List qC)=>k .normal (mkS 71 71 [(0,.val ⟨y8,false,a1,[.O]⟩),(1,.val ⟨(.int .i64),false,k_,[]⟩),(5,.val ⟨(.int .i64),false,i,[]⟩)] [])):=by kernel_rfl
theorem jkk {W0:Base} {M:Nat->Prop} (hnp:W0.np<=1):Z1W Tryz.prog W0 M (pl (pr (pr (pr (pr (pr (pr (pr (pr (pl (pl (pr (pl (pl (pr (pl (pr j0D))))))))))))))))) j2o:=Z91 (Z6Q follows j00 (Z7K (Z8C j09 Z8W)) hnp [j1r] ((pl (pr (pr (pr (pr (pr (pr (pr (pr (pl (pl (pr (pl (pl (pr (pl (pr j0D)))))))))))))))))) .o trivial) (fg:=(Z8a ([0,1,5],[]) [] ([],[]))) (Z8U _ _ _) (by
 intro σ k r h
 obtain ⟨hn,h1⟩:=Z8G h
 obtain ⟨a,hs0,h2⟩:=Z8J h1
 obtain ⟨k_,hs1,h3⟩:=Z8J h2
 obtain ⟨i,hs5,h4⟩:=Z8J h3
 refine ⟨_,?_,(jjS a k_ i k).trans h4⟩
 exact Z9e hn ⟨hs0,hs1,hs5,trivial⟩ trivial)
noncomputable def j5H (a:List qC) (k_:Int) (i:Int) (k0:qE->Res):Res:=
 j0r k_ λ(r:qB)=>
  bif inb i (List.length a) then
   k0 (upd a i ((nth (eS,0,false,false,0,0,eS) a i).1,(nth (eS,0,false,false,0,0,eS) a i).2.1,(nth (eS,0,false,false,0,0,eS) a i).2.2.1,(nth (eS,0,false,false,0,0,eS) a i).2.2.2.1,(nth (eS,0,false,false,0,0,eS) a i).2.2.2.2.1,(nth (eS,0,false,false,0,0,eS) a i).2.2.2.2.2.1,r))
  else none
noncomputable def j56:Z1l Unit:=λσ k=>rdN σ 71<|rdV σ 0 y8 false [.O] λa=>rdV σ 1 (.int .i64) false [] λk_=>rdV σ 5 (.int .i64) false [] λi=>j5H a k_ i (λ(a1:List qC)=>k .normal (mkS 71 71 [(0,.val ⟨y8,false,a1,[.O]⟩),(1,.val ⟨(.int .i64),false,k_,[]⟩),(5,.val ⟨(.int .i64),false,i,[]⟩)] []))
theorem jjT (a:List qC) (k_:Int) (i:Int) (k:Z6G Unit):Z0R j4l [j1r,j2o] .o (pl (pr (pr (pr (pr (pr (pr (pr (pr (pr (pr (pr (pr (pl (pl (pr (pl (pl (pr (pl (pr j0D))))))))))))))))))))) (mkS 71 71 [(0,.val ⟨y8,false,a,[.O]⟩),(1,.val ⟨(.int .i64),false,k_,[]⟩),(5,.val ⟨(.int .i64),false,i,[]⟩)] []) (λe σ=>k e ((Z8a ([0,1,5],[]) [] ([],[])) e σ))=j5H a k_ i (λ(a1:List qC)=>k .normal (mkS 71 71 [(0,.val ⟨y8,false,a1,[.O]⟩),(1,.val ⟨(.int .i64),false,k_,[]⟩),(5,.val ⟨(.int .i64),false,i,[]⟩)] [])):=by kernel_rfl
theorem jkl {W0:Base} {M:Nat->Prop} (hnp:W0.np<=1):Z1W Tryz.prog W0 M (pl (pr (pr (pr (pr (pr (pr (pr (pr (pr (pr (pr (pr (pl (pl (pr (pl (pl (pr (pl (pr j0D))))))))))))))))))))) j56:=Z91 (Z6Q follows j00 (Z7K (Z8C j09 Z8W)) hnp [j1r,j2o] ((pl (pr (pr (pr (pr (pr (pr (pr (pr (pr (pr (pr (pr (pl (pl (pr (pl (pl (pr (pl (pr j0D)))))))))))))))))))))) .o trivial) (fg:=(Z8a ([0,1,5],[]) [] ([],[]))) (Z8U _ _ _) (by
 intro σ k r h
 obtain ⟨hn,h1⟩:=Z8G h
 obtain ⟨a,hs0,h2⟩:=Z8J h1
 obtain ⟨k_,hs1,h3⟩:=Z8J h2
 obtain ⟨i,hs5,h4⟩:=Z8J h3
 refine ⟨_,?_,(jjT a k_ i k).trans h4⟩
 exact Z9e hn ⟨hs0,hs1,hs5,trivial⟩ trivial)
noncomputable def j49 (a:List qC) (k_:Int) (i:Int) (rec:qE->Int->Int->Res) (k0:qE->Int->Res):Res:=
 bif decide (i<(nI (List.length a))) then
  j0r k_ λ(r:qB)=>
   bif inb i (List.length a) then
    bif inb i (List.length (upd a i (r,(nth (eS,0,false,false,0,0,eS) a i).2))) then
     j5F (upd (upd a i (r,(nth (eS,0,false,false,0,0,eS) a i).2)) i ((nth (eS,0,false,false,0,0,eS) (upd a i (r,(nth (eS,0,false,false,0,0,eS) a i).2)) i).1,Z8g (k_+1),(nth (eS,0,false,false,0,0,eS) (upd a i (r,(nth (eS,0,false,false,0,0,eS) a i).2)) i).2.2)) (Z8g ((Z8g (k_+1))+1)) i λ(a1:List qC)=>
      bif inb i (List.length a1) then
       j5G (upd a1 i ((nth (eS,0,false,false,0,0,eS) a1 i).1,(nth (eS,0,false,false,0,0,eS) a1 i).2.1,(nth (eS,0,false,false,0,0,eS) a1 i).2.2.1,((Int.tmod (Z8g ((Z8g ((Z8g (k_+1))+1))+1)) 3)==0),(nth (eS,0,false,false,0,0,eS) a1 i).2.2.2.2)) (Z8g ((Z8g ((Z8g ((Z8g (k_+1))+1))+1))+1)) i λ(a2:List qC)=>
        bif inb i (List.length a2) then
         j5H (upd a2 i ((nth (eS,0,false,false,0,0,eS) a2 i).1,(nth (eS,0,false,false,0,0,eS) a2 i).2.1,(nth (eS,0,false,false,0,0,eS) a2 i).2.2.1,(nth (eS,0,false,false,0,0,eS) a2 i).2.2.2.1,(nth (eS,0,false,false,0,0,eS) a2 i).2.2.2.2.1,Z8g ((Z8g ((Z8g ((Z8g ((Z8g (k_+1))+1))+1))+1))+1),(nth (eS,0,false,false,0,0,eS) a2 i).2.2.2.2.2.2)) (Z8g ((Z8g ((Z8g ((Z8g ((Z8g ((Z8g (k_+1))+1))+1))+1))+1))+1)) i λ(a3:List qC)=>
          rec a3 (Z8g ((Z8g ((Z8g ((Z8g ((Z8g ((Z8g ((Z8g (k_+1))+1))+1))+1))+1))+1))+1)) (Z8g (i+1))
        else none
      else none
    else none
   else none
 else
  k0 a k_
noncomputable def j6N:(qE×Int×Int)->(qE×Int×Int->Res)->((qE->Int->Res))->Res:=λv rec q=>j49 v.1 v.2.1 v.2.2 (λa k_ i=>rec (a,k_,i)) q
noncomputable def jbK (n:Nat) (a:List qC) (k_:Int) (i:Int) (k0:qE->Int->Res):Res:=Z10 (j6N) n (a,k_,i) (k0)
noncomputable def j7B:Z1l Unit:=λσ k=>rdN σ 71<|rdV σ 0 y8 false [.O] λa=>rdV σ 1 (.int .i64) false [] λk_=>rdV σ 5 (.int .i64) false [] λi=>jbK Z0Y a k_ i (λ(a4:List qC) (k_1:Int)=>k (.exit 0) (mkS 71 71 [(0,.val ⟨y8,false,a4,[.O]⟩),(1,.val ⟨(.int .i64),false,k_1,[]⟩)] []))
theorem jjQ  (n:Nat) (v:qE×Int×Int) (k:Z6G Unit):Z3X (Z0R j4l [j1r,j2o,j56] (.t .o (.t (.t (.t .o (.t .o (.t .o (.t .o (.t (.x 0) (.t .o (.t .o (.t .o (.t (.x 1) (.t .o (.t .o (.t .o (.t (.x 2) .o))))))))))))) .o) .o)) (pl (pl (pr (pl (pr j0D)))))) (λσ=>σ.forget [0,1,5] []) (Z8a ([],[]) [(0,[0,1],[])] ([],[])) n (mkS 71 71 [(0,.val ⟨y8,false,v.1,[.O]⟩),(1,.val ⟨(.int .i64),false,v.2.1,[]⟩),(5,.val ⟨(.int .i64),false,v.2.2,[]⟩)] []) k=Z10 (j6N) n v ((λ(k:Z6G Unit)=>(((λ(a4:List qC) (k_1:Int)=>k (.exit 0) (mkS 71 71 [(0,.val ⟨y8,false,a4,[.O]⟩),(1,.val ⟨(.int .i64),false,k_1,[]⟩)] []))):(qE->Int->Res))) k):=Z80 (λv:qE×Int×Int=>(mkS 71 71 [(0,.val ⟨y8,false,v.1,[.O]⟩),(1,.val ⟨(.int .i64),false,v.2.1,[]⟩),(5,.val ⟨(.int .i64),false,v.2.2,[]⟩)] [])) (j6N) (λ(k:Z6G Unit)=>(((λ(a4:List qC) (k_1:Int)=>k (.exit 0) (mkS 71 71 [(0,.val ⟨y8,false,a4,[.O]⟩),(1,.val ⟨(.int .i64),false,k_1,[]⟩)] []))):(qE->Int->Res))) (λv rec k=>by kernel_rfl) n v k
theorem jki {W0:Base} {M:Nat->Prop} (hnp:W0.np<=1):Z1W Tryz.prog W0 M (pl (pr (pl (pr j0D)))) j7B:=show Z1W Tryz.prog W0 M (Code.loop (pl (pl (pr (pl (pr j0D)))))) j7B from Z8X (Z6Q follows j00 (Z7K (Z8C j09 Z8W)) hnp [j1r,j2o,j56] (pl (pl (pr (pl (pr j0D))))) (.t .o (.t (.t (.t .o (.t .o (.t .o (.t .o (.t (.x 0) (.t .o (.t .o (.t .o (.t (.x 1) (.t .o (.t .o (.t .o (.t (.x 2) .o))))))))))))) .o) .o)) (Z1A.mk trivial ((Z1A.mk ((Z1A.mk ((Z1A.mk trivial ((Z1A.mk trivial ((Z1A.mk trivial ((Z1A.mk trivial ((Z1A.mk (Z1A.x_mk (λW0 M hnp=>jkj (W0:=W0) (M:=M) hnp)) ((Z1A.mk trivial ((Z1A.mk trivial ((Z1A.mk trivial ((Z1A.mk (Z1A.x_mk (λW0 M hnp=>jkk (W0:=W0) (M:=M) hnp)) ((Z1A.mk trivial ((Z1A.mk trivial ((Z1A.mk trivial ((Z1A.mk (Z1A.x_mk (λW0 M hnp=>jkl (W0:=W0) (M:=M) hnp)) trivial)))))))))))))))))))))))))) trivial)) trivial)))) (ks:=[0,1,5]) (bs:=[]) (fX:=(Z8a ([],[]) [(0,[0,1],[])] ([],[]))) (Z8U _ _ _) Z0Y (by
 intro σ k r h
 obtain ⟨hn,h1⟩:=Z8G h
 obtain ⟨a,hs0,h2⟩:=Z8J h1
 obtain ⟨k_,hs1,h3⟩:=Z8J h2
 obtain ⟨i,hs5,h4⟩:=Z8J h3
 refine ⟨_,?_,(jjQ  Z0Y (a,k_,i) k).trans h4⟩
 exact Z9e hn ⟨hs0,hs1,hs5,trivial⟩ trivial)
noncomputable def j91 (a:List qC) (k_:Int) (k0:Int->qE->Res):Res:=
 jbK Z0Y a k_ 0 λ(a1:List qC) (k_1:Int)=>
  k0 k_1 a1
noncomputable def jfS:Sig Unit:=⟨[.inout y8 false,.borrow (.int .i64) false],[false],λvals ext k=>ao vals y8 [.O] λa vals=>av vals (.int .i64) λk_ vals=>nl vals<|nl ext<|j91 a k_ (λ(r0:Int) (i0:List qC)=>k [⟨(.int .i64),false,r0,[]⟩] [⟨y8,false,i0,[.O]⟩] [])⟩
theorem jmT (a_a:Bool) (a:List qC) (k_:Int) (a_k_:Bool) (t_k_:List Tag) (k:qK):Z6X j4l [j1r,j2o,j56,j7B] (.t .o (.t (.t .o (.t (.x 3) .o)) .o)) false Tryz.f127 [.inout y8 false,.borrow (.int .i64) false] [false] [⟨y8,a_a,a,[.O]⟩,⟨(.int .i64),a_k_,k_,t_k_⟩] [] k=j91 a k_ (λ(r0:Int) (i0:List qC)=>k [⟨(.int .i64),false,r0,[]⟩] [⟨y8,false,i0,[.O]⟩] []):=by kernel_rfl
theorem j13:Z1k Tryz.prog 127 jfS:=Z8N (Γ:=j4l) (X:=[j1r,j2o,j56,j7B]) (ht:=(.t .o (.t (.t .o (.t (.x 3) .o)) .o))) (fz:=false) (c:=j0D) follows j00 (Z8C j09 Z8W) (Z1A.mk trivial ((Z1A.mk ((Z1A.mk trivial ((Z1A.mk (Z1A.x_mk (λW0 M hnp=>jki (W0:=W0) (M:=M) hnp)) trivial)))) trivial))) Tryz.func127 (by kernel_rfl) (by kernel_rfl) (by decide) (by
 intro vals ext k r h
 obtain ⟨a_a,a,vals,rfl,h1⟩:=Z8S h
 obtain ⟨k_,a_k_,t_k_,vals,rfl,h2⟩:=Z8T h1
 obtain ⟨rfl,h3⟩:=Z90 h2
 obtain ⟨rfl,h4⟩:=Z90 h3
 exact (jmT a_a a k_ a_k_ t_k_ k).trans h4)
noncomputable def j6r:Code:=(Tryz.f130.body).getD .skip
noncomputable def jcl:Env Unit:=⟨tys,[(125,j1W)],0⟩
noncomputable def j47 (a:List qC) (k_:Int) (i:Int) (rec:Int->Int->Res) (k0:Int->Res) (k1:Unit->Res):Res:=
 bif decide (i<(nI (List.length a))) then
  bif inb i (List.length a) then
   j0r k_ λ(r:qB)=>
    bif sNe (nth (eS,0,false,false,0,0,eS) a i).1 r then
     k1 ()
    else
     bif inb i (List.length a) then
      bif ((nth (eS,0,false,false,0,0,eS) a i).2.1 != (Z8g (k_+1))) then
       k1 ()
      else
       bif inb i (List.length a) then
        bif !((nth (eS,0,false,false,0,0,eS) a i).2.2.1==((Int.tmod (Z8g ((Z8g (k_+1))+1)) 3)==0)) then
         k1 ()
        else
         bif inb i (List.length a) then
          bif !((nth (eS,0,false,false,0,0,eS) a i).2.2.2.1==((Int.tmod (Z8g ((Z8g ((Z8g (k_+1))+1))+1)) 3)==0)) then
           k1 ()
          else
           bif inb i (List.length a) then
            bif ((nth (eS,0,false,false,0,0,eS) a i).2.2.2.2.1 != (Z8g ((Z8g ((Z8g ((Z8g (k_+1))+1))+1))+1))) then
             k1 ()
            else
             bif inb i (List.length a) then
              bif ((nth (eS,0,false,false,0,0,eS) a i).2.2.2.2.2.1 != (Z8g ((Z8g ((Z8g ((Z8g ((Z8g (k_+1))+1))+1))+1))+1))) then
               k1 ()
              else
               bif inb i (List.length a) then
                j0r (Z8g ((Z8g ((Z8g ((Z8g ((Z8g ((Z8g (k_+1))+1))+1))+1))+1))+1)) λ(r1:qB)=>
                 bif sNe (nth (eS,0,false,false,0,0,eS) a i).2.2.2.2.2.2 r1 then
                  k1 ()
                 else
                  rec (Z8g ((Z8g ((Z8g ((Z8g ((Z8g ((Z8g ((Z8g (k_+1))+1))+1))+1))+1))+1))+1)) (Z8g (i+1))
               else none
             else none
           else none
         else none
       else none
     else none
  else none
 else
  k0 k_
noncomputable def j6L (a:List qC):(Int×Int)->(Int×Int->Res)->((Int->Res)×(Unit->Res))->Res:=λv rec q=>j47 a v.1 v.2 (λk_ i=>rec (k_,i)) q.1 q.2
noncomputable def jbI (a:List qC) (n:Nat) (k_:Int) (i:Int) (k0:Int->Res) (k1:Unit->Res):Res:=Z10 (j6L a) n (k_,i) (k0,k1)
noncomputable def j7z:Z1l Unit:=λσ k=>rdN σ 85<|rdV σ 0 y8 false [.S] λa=>rdV σ 1 (.int .i64) false [] λk_=>rdV σ 5 (.int .i64) false [] λi=>jbI a Z0Y k_ i (λ(k_1:Int)=>k (.exit 0) (mkS 85 85 [(1,.val ⟨(.int .i64),false,k_1,[]⟩)] [])) (λ(_:Unit)=>k .ret (mkS 85 85 [(4,.val ⟨(.int .i64),false,(-1),[]⟩)] []))
theorem jjO (a:List qC) (n:Nat) (v:Int×Int) (k:Z6G Unit):Z3X (Z0R jcl [] .o (pl (pl (pr (pl (pr j6r)))))) (λσ=>σ.forget [0,1,5] []) (Z8a ([],[]) [(0,[1],[])] ([4],[])) n (mkS 85 85 [(0,.val ⟨y8,false,a,[.S]⟩),(1,.val ⟨(.int .i64),false,v.1,[]⟩),(5,.val ⟨(.int .i64),false,v.2,[]⟩)] []) k=Z10 (j6L a) n v ((λ(k:Z6G Unit)=>(((λ(k_1:Int)=>k (.exit 0) (mkS 85 85 [(1,.val ⟨(.int .i64),false,k_1,[]⟩)] [])),(λ(_:Unit)=>k .ret (mkS 85 85 [(4,.val ⟨(.int .i64),false,(-1),[]⟩)] []))):(Int->Res)×(Unit->Res))) k):=Z80 (λv:Int×Int=>(mkS 85 85 [(0,.val ⟨y8,false,a,[.S]⟩),(1,.val ⟨(.int .i64),false,v.1,[]⟩),(5,.val ⟨(.int .i64),false,v.2,[]⟩)] [])) (j6L a) (λ(k:Z6G Unit)=>(((λ(k_1:Int)=>k (.exit 0) (mkS 85 85 [(1,.val ⟨(.int .i64),false,k_1,[]⟩)] [])),(λ(_:Unit)=>k .ret (mkS 85 85 [(4,.val ⟨(.int .i64),false,(-1),[]⟩)] []))):(Int->Res)×(Unit->Res))) (λv rec k=>by kernel_rfl) n v k
theorem jkg {W0:Base} {M:Nat->Prop} (hnp:W0.np<=0):Z1W Tryz.prog W0 M (pl (pr (pl (pr j6r)))) j7z:=show Z1W Tryz.prog W0 M (Code.loop (pl (pl (pr (pl (pr j6r)))))) j7z from Z8X (Z6Q follows j00 (Z7K (Z8C j09 Z8W)) hnp [] (pl (pl (pr (pl (pr j6r))))) .o trivial) (ks:=[0,1,5]) (bs:=[]) (fX:=(Z8a ([],[]) [(0,[1],[])] ([4],[]))) (Z8U _ _ _) Z0Y (by
 intro σ k r h
 obtain ⟨hn,h1⟩:=Z8G h
 obtain ⟨a,hs0,h2⟩:=Z8J h1
 obtain ⟨k_,hs1,h3⟩:=Z8J h2
 obtain ⟨i,hs5,h4⟩:=Z8J h3
 refine ⟨_,?_,(jjO a Z0Y (k_,i) k).trans h4⟩
 exact Z9e hn ⟨hs0,hs1,hs5,trivial⟩ trivial)
noncomputable def j90 (a:List qC) (k_:Int) (k0:Int->Res):Res:=
 jbI a Z0Y k_ 0
  (λ(k_1:Int)=>
   k0 k_1)
  (λ(_:Unit)=>
   k0 (-1))
noncomputable def jfQ:Sig Unit:=⟨[.look y8 false,.look (.int .i64) false],[false],λvals ext k=>av vals y8 λa vals=>av vals (.int .i64) λk_ vals=>nl vals<|nl ext<|j90 a k_ (λ(r0:Int)=>k [⟨(.int .i64),false,r0,[]⟩] [] [])⟩
theorem jmR (a:List qC) (a_a:Bool) (t_a:List Tag) (k_:Int) (a_k_:Bool) (t_k_:List Tag) (k:qK):Z6X jcl [j7z] (.t .o (.t (.t .o (.t (.x 0) .o)) .o)) false Tryz.f130 [.look y8 false,.look (.int .i64) false] [false] [⟨y8,a_a,a,t_a⟩,⟨(.int .i64),a_k_,k_,t_k_⟩] [] k=j90 a k_ (λ(r0:Int)=>k [⟨(.int .i64),false,r0,[]⟩] [] []):=by kernel_rfl
theorem jfk:Z1k Tryz.prog 130 jfQ:=Z8N (Γ:=jcl) (X:=[j7z]) (ht:=(.t .o (.t (.t .o (.t (.x 0) .o)) .o))) (fz:=false) (c:=j6r) follows j00 (Z8C j09 Z8W) (Z1A.mk trivial ((Z1A.mk ((Z1A.mk trivial ((Z1A.mk (Z1A.x_mk (λW0 M hnp=>jkg (W0:=W0) (M:=M) hnp)) trivial)))) trivial))) Tryz.func130 (by kernel_rfl) (by kernel_rfl) (by decide) (by
 intro vals ext k r h
 obtain ⟨a,a_a,t_a,vals,rfl,h1⟩:=Z8T h
 obtain ⟨k_,a_k_,t_k_,vals,rfl,h2⟩:=Z8T h1
 obtain ⟨rfl,h3⟩:=Z90 h2
 obtain ⟨rfl,h4⟩:=Z90 h3
 exact (jmR a a_a t_a k_ a_k_ t_k_ k).trans h4)
end Go.PI.G
namespace Go.PI.G
open Go Go.PI Go.Proofs
open Go.Code (pl pr)
noncomputable def j5t:Code:=(Tryz.f144.body).getD .skip
noncomputable def jbC:Env Unit:=⟨tys,[],0⟩
noncomputable def j3J (a:qL) (b:qL) (i:Int) (rec:Int->Res) (k0:Unit->Res) (k1:Unit->Res):Res:=
 bif decide (i<(nI (List.length a))) then
  bif inb i (List.length a) then
   bif inb i (List.length b) then
    bif sNe (nth eS a i) (nth eS b i) then
     k1 ()
    else
     rec (Z8g (i+1))
   else none
  else none
 else
  k0 ()
noncomputable def j9j (a:qL) (b:qL):Int->(Int->Res)->((Unit->Res)×(Unit->Res))->Res:=λv rec q=>j3J a b v (λi=>rec (i)) q.1 q.2
noncomputable def jb2 (a:qL) (b:qL) (n:Nat) (i:Int) (k0:Unit->Res) (k1:Unit->Res):Res:=Z10 (j9j a b) n (i) (k0,k1)
noncomputable def j70:Z1l Unit:=λσ k=>rdN σ 26<|rdV σ 0 y9 false [.S] λa=>rdV σ 1 y9 false [.S] λb=>rdV σ 5 (.int .i64) false [] λi=>jb2 a b Z0Y i (λ(_:Unit)=>k (.exit 0) (mkS 26 26 [] [])) (λ(_:Unit)=>k .ret (mkS 26 26 [(4,.val ⟨.bool,false,false,[]⟩)] []))
theorem jil (a:qL) (b:qL) (n:Nat) (v:Int) (k:Z6G Unit):Z3X (Z0R jbC [] .o (pl (pl (pr (pl (pr (pr j5t))))))) (λσ=>σ.forget [0,1,5] []) (Z8a ([],[]) [(0,[],[])] ([4],[])) n (mkS 26 26 [(0,.val ⟨y9,false,a,[.S]⟩),(1,.val ⟨y9,false,b,[.S]⟩),(5,.val ⟨(.int .i64),false,v,[]⟩)] []) k=Z10 (j9j a b) n v ((λ(k:Z6G Unit)=>(((λ(_:Unit)=>k (.exit 0) (mkS 26 26 [] [])),(λ(_:Unit)=>k .ret (mkS 26 26 [(4,.val ⟨.bool,false,false,[]⟩)] []))):(Unit->Res)×(Unit->Res))) k):=Z80 (λv:Int=>(mkS 26 26 [(0,.val ⟨y9,false,a,[.S]⟩),(1,.val ⟨y9,false,b,[.S]⟩),(5,.val ⟨(.int .i64),false,v,[]⟩)] [])) (j9j a b) (λ(k:Z6G Unit)=>(((λ(_:Unit)=>k (.exit 0) (mkS 26 26 [] [])),(λ(_:Unit)=>k .ret (mkS 26 26 [(4,.val ⟨.bool,false,false,[]⟩)] []))):(Unit->Res)×(Unit->Res))) (λv rec k=>by kernel_rfl) n v k
theorem jiX {W0:Base} {M:Nat->Prop} (hnp:W0.np<=0):Z1W Tryz.prog W0 M (pl (pr (pl (pr (pr j5t))))) j70:=show Z1W Tryz.prog W0 M (Code.loop (pl (pl (pr (pl (pr (pr j5t))))))) j70 from Z8X (Z6Q follows j00 (Z7K Z8W) hnp [] (pl (pl (pr (pl (pr (pr j5t)))))) .o trivial) (ks:=[0,1,5]) (bs:=[]) (fX:=(Z8a ([],[]) [(0,[],[])] ([4],[]))) (Z8U _ _ _) Z0Y (by
 intro σ k r h
 obtain ⟨hn,h1⟩:=Z8G h
 obtain ⟨a,hs0,h2⟩:=Z8J h1
 obtain ⟨b,hs1,h3⟩:=Z8J h2
 obtain ⟨i,hs5,h4⟩:=Z8J h3
 refine ⟨_,?_,(jil a b Z0Y (i) k).trans h4⟩
 exact Z9e hn ⟨hs0,hs1,hs5,trivial⟩ trivial)
noncomputable def j84 (a:qL) (b:qL) (k0:Bool->Res):Res:=
 bif ((nI (List.length a)) != (nI (List.length b))) then
  k0 false
 else
  jb2 a b Z0Y 0
   (λ(_:Unit)=>
    k0 true)
   (λ(_:Unit)=>
    k0 false)
noncomputable def jf0:Sig Unit:=⟨[.look y9 false,.look y9 false],[false],λvals ext k=>av vals y9 λa vals=>av vals y9 λb vals=>nl vals<|nl ext<|j84 a b (λ(r0:Bool)=>k [⟨.bool,false,r0,[]⟩] [] [])⟩
theorem jkN (a:qL) (a_a:Bool) (t_a:List Tag) (b:qL) (a_b:Bool) (t_b:List Tag) (k:qK):Z6X jbC [j70] (.t .o (.t .o (.t (.t .o (.t (.x 0) .o)) .o))) false Tryz.f144 [.look y9 false,.look y9 false] [false] [⟨y9,a_a,a,t_a⟩,⟨y9,a_b,b,t_b⟩] [] k=j84 a b (λ(r0:Bool)=>k [⟨.bool,false,r0,[]⟩] [] []):=by kernel_rfl
theorem jkU:Z1k Tryz.prog 144 jf0:=Z8N (Γ:=jbC) (X:=[j70]) (ht:=(.t .o (.t .o (.t (.t .o (.t (.x 0) .o)) .o)))) (fz:=false) (c:=j5t) follows j00 Z8W (Z1A.mk trivial ((Z1A.mk trivial ((Z1A.mk ((Z1A.mk trivial ((Z1A.mk (Z1A.x_mk (λW0 M hnp=>jiX (W0:=W0) (M:=M) hnp)) trivial)))) trivial))))) Tryz.func144 (by kernel_rfl) (by kernel_rfl) (by decide) (by
 intro vals ext k r h
 obtain ⟨a,a_a,t_a,vals,rfl,h1⟩:=Z8T h
 obtain ⟨b,a_b,t_b,vals,rfl,h2⟩:=Z8T h1
 obtain ⟨rfl,h3⟩:=Z90 h2
 obtain ⟨rfl,h4⟩:=Z90 h3
 exact (jkN a a_a t_a b a_b t_b k).trans h4)
noncomputable def j42:Code:=(Tryz.f128.body).getD .skip
noncomputable def ja8:Env Unit:=⟨tys,[(125,j1W)],1⟩
noncomputable def j2W (a:qL) (k_:Int) (i:Int) (rec:qL->Int->Int->Res) (k0:qL->Int->Res):Res:=
 bif decide (i<(nI (List.length a))) then
  j0r k_ λ(r:qB)=>
   bif inb i (List.length a) then
    rec (upd a i r) (Z8g (k_+1)) (Z8g (i+1))
   else none
 else
  k0 a k_
noncomputable def j4p:(qL×Int×Int)->(qL×Int×Int->Res)->((qL->Int->Res))->Res:=λv rec q=>j2W v.1 v.2.1 v.2.2 (λa k_ i=>rec (a,k_,i)) q
noncomputable def j9l (n:Nat) (a:qL) (k_:Int) (i:Int) (k0:qL->Int->Res):Res:=Z10 (j4p) n (a,k_,i) (k0)
noncomputable def j5h:Z1l Unit:=λσ k=>rdN σ 20<|rdV σ 0 y9 false [.O] λa=>rdV σ 1 (.int .i64) false [] λk_=>rdV σ 5 (.int .i64) false [] λi=>j9l Z0Y a k_ i (λ(a1:qL) (k_1:Int)=>k (.exit 0) (mkS 20 20 [(0,.val ⟨y9,false,a1,[.O]⟩),(1,.val ⟨(.int .i64),false,k_1,[]⟩)] []))
theorem jh0  (n:Nat) (v:qL×Int×Int) (k:Z6G Unit):Z3X (Z0R ja8 [] .o (pl (pl (pr (pl (pr j42)))))) (λσ=>σ.forget [0,1,5] []) (Z8a ([],[]) [(0,[0,1],[])] ([],[])) n (mkS 20 20 [(0,.val ⟨y9,false,v.1,[.O]⟩),(1,.val ⟨(.int .i64),false,v.2.1,[]⟩),(5,.val ⟨(.int .i64),false,v.2.2,[]⟩)] []) k=Z10 (j4p) n v ((λ(k:Z6G Unit)=>(((λ(a1:qL) (k_1:Int)=>k (.exit 0) (mkS 20 20 [(0,.val ⟨y9,false,a1,[.O]⟩),(1,.val ⟨(.int .i64),false,k_1,[]⟩)] []))):(qL->Int->Res))) k):=Z80 (λv:qL×Int×Int=>(mkS 20 20 [(0,.val ⟨y9,false,v.1,[.O]⟩),(1,.val ⟨(.int .i64),false,v.2.1,[]⟩),(5,.val ⟨(.int .i64),false,v.2.2,[]⟩)] [])) (j4p) (λ(k:Z6G Unit)=>(((λ(a1:qL) (k_1:Int)=>k (.exit 0) (mkS 20 20 [(0,.val ⟨y9,false,a1,[.O]⟩),(1,.val ⟨(.int .i64),false,k_1,[]⟩)] []))):(qL->Int->Res))) (λv rec k=>by kernel_rfl) n v k
theorem jhb {W0:Base} {M:Nat->Prop} (hnp:W0.np<=1):Z1W Tryz.prog W0 M (pl (pr (pl (pr j42)))) j5h:=show Z1W Tryz.prog W0 M (Code.loop (pl (pl (pr (pl (pr j42)))))) j5h from Z8X (Z6Q follows j00 (Z7K (Z8C j09 Z8W)) hnp [] (pl (pl (pr (pl (pr j42))))) .o trivial) (ks:=[0,1,5]) (bs:=[]) (fX:=(Z8a ([],[]) [(0,[0,1],[])] ([],[]))) (Z8U _ _ _) Z0Y (by
 intro σ k r h
 obtain ⟨hn,h1⟩:=Z8G h
 obtain ⟨a,hs0,h2⟩:=Z8J h1
 obtain ⟨k_,hs1,h3⟩:=Z8J h2
 obtain ⟨i,hs5,h4⟩:=Z8J h3
 refine ⟨_,?_,(jh0  Z0Y (a,k_,i) k).trans h4⟩
 exact Z9e hn ⟨hs0,hs1,hs5,trivial⟩ trivial)
noncomputable def j5I (a:qL) (k_:Int) (k0:Int->qL->Res):Res:=
 j9l Z0Y a k_ 0 λ(a1:qL) (k_1:Int)=>
  k0 k_1 a1
noncomputable def jdX:Sig Unit:=⟨[.inout y9 false,.borrow (.int .i64) false],[false],λvals ext k=>ao vals y9 [.O] λa vals=>av vals (.int .i64) λk_ vals=>nl vals<|nl ext<|j5I a k_ (λ(r0:Int) (i0:qL)=>k [⟨(.int .i64),false,r0,[]⟩] [⟨y9,false,i0,[.O]⟩] [])⟩
theorem jic (a_a:Bool) (a:qL) (k_:Int) (a_k_:Bool) (t_k_:List Tag) (k:qK):Z6X ja8 [j5h] (.t .o (.t (.t .o (.t (.x 0) .o)) .o)) false Tryz.f128 [.inout y9 false,.borrow (.int .i64) false] [false] [⟨y9,a_a,a,[.O]⟩,⟨(.int .i64),a_k_,k_,t_k_⟩] [] k=j5I a k_ (λ(r0:Int) (i0:qL)=>k [⟨(.int .i64),false,r0,[]⟩] [⟨y9,false,i0,[.O]⟩] []):=by kernel_rfl
theorem j0B:Z1k Tryz.prog 128 jdX:=Z8N (Γ:=ja8) (X:=[j5h]) (ht:=(.t .o (.t (.t .o (.t (.x 0) .o)) .o))) (fz:=false) (c:=j42) follows j00 (Z8C j09 Z8W) (Z1A.mk trivial ((Z1A.mk ((Z1A.mk trivial ((Z1A.mk (Z1A.x_mk (λW0 M hnp=>jhb (W0:=W0) (M:=M) hnp)) trivial)))) trivial))) Tryz.func128 (by kernel_rfl) (by kernel_rfl) (by decide) (by
 intro vals ext k r h
 obtain ⟨a_a,a,vals,rfl,h1⟩:=Z8S h
 obtain ⟨k_,a_k_,t_k_,vals,rfl,h2⟩:=Z8T h1
 obtain ⟨rfl,h3⟩:=Z90 h2
 obtain ⟨rfl,h4⟩:=Z90 h3
 exact (jic a_a a k_ a_k_ t_k_ k).trans h4)
noncomputable def j41:Code:=(Tryz.f131.body).getD .skip
noncomputable def ja7:Env Unit:=⟨tys,[(125,j1W)],0⟩
noncomputable def j2V (a:qL) (k_:Int) (i:Int) (rec:Int->Int->Res) (k0:Int->Res) (k1:Unit->Res):Res:=
 bif decide (i<(nI (List.length a))) then
  bif inb i (List.length a) then
   j0r k_ λ(r:qB)=>
    bif sNe (nth eS a i) r then
     k1 ()
    else
     rec (Z8g (k_+1)) (Z8g (i+1))
  else none
 else
  k0 k_
noncomputable def j4o (a:qL):(Int×Int)->(Int×Int->Res)->((Int->Res)×(Unit->Res))->Res:=λv rec q=>j2V a v.1 v.2 (λk_ i=>rec (k_,i)) q.1 q.2
noncomputable def j9k (a:qL) (n:Nat) (k_:Int) (i:Int) (k0:Int->Res) (k1:Unit->Res):Res:=Z10 (j4o a) n (k_,i) (k0,k1)
noncomputable def j5g:Z1l Unit:=λσ k=>rdN σ 22<|rdV σ 0 y9 false [.S] λa=>rdV σ 1 (.int .i64) false [] λk_=>rdV σ 5 (.int .i64) false [] λi=>j9k a Z0Y k_ i (λ(k_1:Int)=>k (.exit 0) (mkS 22 22 [(1,.val ⟨(.int .i64),false,k_1,[]⟩)] [])) (λ(_:Unit)=>k .ret (mkS 22 22 [(4,.val ⟨(.int .i64),false,(-1),[]⟩)] []))
theorem jgZ (a:qL) (n:Nat) (v:Int×Int) (k:Z6G Unit):Z3X (Z0R ja7 [] .o (pl (pl (pr (pl (pr j41)))))) (λσ=>σ.forget [0,1,5] []) (Z8a ([],[]) [(0,[1],[])] ([4],[])) n (mkS 22 22 [(0,.val ⟨y9,false,a,[.S]⟩),(1,.val ⟨(.int .i64),false,v.1,[]⟩),(5,.val ⟨(.int .i64),false,v.2,[]⟩)] []) k=Z10 (j4o a) n v ((λ(k:Z6G Unit)=>(((λ(k_1:Int)=>k (.exit 0) (mkS 22 22 [(1,.val ⟨(.int .i64),false,k_1,[]⟩)] [])),(λ(_:Unit)=>k .ret (mkS 22 22 [(4,.val ⟨(.int .i64),false,(-1),[]⟩)] []))):(Int->Res)×(Unit->Res))) k):=Z80 (λv:Int×Int=>(mkS 22 22 [(0,.val ⟨y9,false,a,[.S]⟩),(1,.val ⟨(.int .i64),false,v.1,[]⟩),(5,.val ⟨(.int .i64),false,v.2,[]⟩)] [])) (j4o a) (λ(k:Z6G Unit)=>(((λ(k_1:Int)=>k (.exit 0) (mkS 22 22 [(1,.val ⟨(.int .i64),false,k_1,[]⟩)] [])),(λ(_:Unit)=>k .ret (mkS 22 22 [(4,.val ⟨(.int .i64),false,(-1),[]⟩)] []))):(Int->Res)×(Unit->Res))) (λv rec k=>by kernel_rfl) n v k
theorem jha {W0:Base} {M:Nat->Prop} (hnp:W0.np<=0):Z1W Tryz.prog W0 M (pl (pr (pl (pr j41)))) j5g:=show Z1W Tryz.prog W0 M (Code.loop (pl (pl (pr (pl (pr j41)))))) j5g from Z8X (Z6Q follows j00 (Z7K (Z8C j09 Z8W)) hnp [] (pl (pl (pr (pl (pr j41))))) .o trivial) (ks:=[0,1,5]) (bs:=[]) (fX:=(Z8a ([],[]) [(0,[1],[])] ([4],[]))) (Z8U _ _ _) Z0Y (by
 intro σ k r h
 obtain ⟨hn,h1⟩:=Z8G h
 obtain ⟨a,hs0,h2⟩:=Z8J h1
 obtain ⟨k_,hs1,h3⟩:=Z8J h2
 obtain ⟨i,hs5,h4⟩:=Z8J h3
 refine ⟨_,?_,(jgZ a Z0Y (k_,i) k).trans h4⟩
 exact Z9e hn ⟨hs0,hs1,hs5,trivial⟩ trivial)
noncomputable def j5E (a:qL) (k_:Int) (k0:Int->Res):Res:=
 j9k a Z0Y k_ 0
  (λ(k_1:Int)=>
   k0 k_1)
  (λ(_:Unit)=>
   k0 (-1))
noncomputable def jdW:Sig Unit:=⟨[.look y9 false,.look (.int .i64) false],[false],λvals ext k=>av vals y9 λa vals=>av vals (.int .i64) λk_ vals=>nl vals<|nl ext<|j5E a k_ (λ(r0:Int)=>k [⟨(.int .i64),false,r0,[]⟩] [] [])⟩
theorem jib (a:qL) (a_a:Bool) (t_a:List Tag) (k_:Int) (a_k_:Bool) (t_k_:List Tag) (k:qK):Z6X ja7 [j5g] (.t .o (.t (.t .o (.t (.x 0) .o)) .o)) false Tryz.f131 [.look y9 false,.look (.int .i64) false] [false] [⟨y9,a_a,a,t_a⟩,⟨(.int .i64),a_k_,k_,t_k_⟩] [] k=j5E a k_ (λ(r0:Int)=>k [⟨(.int .i64),false,r0,[]⟩] [] []):=by kernel_rfl
theorem jdQ:Z1k Tryz.prog 131 jdW:=Z8N (Γ:=ja7) (X:=[j5g]) (ht:=(.t .o (.t (.t .o (.t (.x 0) .o)) .o))) (fz:=false) (c:=j41) follows j00 (Z8C j09 Z8W) (Z1A.mk trivial ((Z1A.mk ((Z1A.mk trivial ((Z1A.mk (Z1A.x_mk (λW0 M hnp=>jha (W0:=W0) (M:=M) hnp)) trivial)))) trivial))) Tryz.func131 (by kernel_rfl) (by kernel_rfl) (by decide) (by
 intro vals ext k r h
 obtain ⟨a,a_a,t_a,vals,rfl,h1⟩:=Z8T h
 obtain ⟨k_,a_k_,t_k_,vals,rfl,h2⟩:=Z8T h1
 obtain ⟨rfl,h3⟩:=Z90 h2
 obtain ⟨rfl,h4⟩:=Z90 h3
 exact (jib a a_a t_a k_ a_k_ t_k_ k).trans h4)
end Go.PI.G
namespace Go.PI.G
open Go Go.PI Go.Proofs
open Go.Code (pl pr)
noncomputable def jqD:Code:=(Tryz.f225.body).getD .skip
noncomputable def jiG:Env Unit:=⟨tys,[(144,jf0),(259,jhT)],0⟩
noncomputable def jcA (a:qG) (b:qG) (k0:Bool->Res):Res:=
 bif (a.1 != b.1) then
  k0 false
 else
  bif sNe a.2.1 b.2.1 then
   k0 false
  else
   jbf a.2.2.1 b.2.2.1 λ(r:Bool)=>
    bif !r then
     k0 false
    else
     j84 a.2.2.2.1 b.2.2.2.1 λ(r1:Bool)=>
      bif !r1 then
       k0 false
      else
       bif sNe a.2.2.2.2.1 b.2.2.2.2.1 then
        k0 false
       else
        bif sNe a.2.2.2.2.2 b.2.2.2.2.2 then
         k0 false
        else
         k0 true
noncomputable def jjh:Sig Unit:=⟨[.look y14 true,.look y14 true],[false],λvals ext k=>av vals y14 λa vals=>av vals y14 λb vals=>nl vals<|nl ext<|jcA a b (λ(r0:Bool)=>k [⟨.bool,false,r0,[]⟩] [] [])⟩
theorem jqi (a:qG) (a_a:Bool) (t_a:List Tag) (b:qG) (a_b:Bool) (t_b:List Tag) (k:qK):Z6X jiG [] .o false Tryz.f225 [.look y14 true,.look y14 true] [false] [⟨y14,a_a,a,t_a⟩,⟨y14,a_b,b,t_b⟩] [] k=jcA a b (λ(r0:Bool)=>k [⟨.bool,false,r0,[]⟩] [] []):=by kernel_rfl
theorem jqt:Z1k Tryz.prog 225 jjh:=Z8N (Γ:=jiG) (X:=[]) (ht:= .o) (fz:=false) (c:=jqD) follows j00 (Z8C jkU (Z8C jpN Z8W)) trivial Tryz.func225 (by kernel_rfl) (by kernel_rfl) (by decide) (by
 intro vals ext k r h
 obtain ⟨a,a_a,t_a,vals,rfl,h1⟩:=Z8T h
 obtain ⟨b,a_b,t_b,vals,rfl,h2⟩:=Z8T h1
 obtain ⟨rfl,h3⟩:=Z90 h2
 obtain ⟨rfl,h4⟩:=Z90 h3
 exact (jqi a a_a t_a b a_b t_b k).trans h4)
end Go.PI.G
namespace Go.PI.G
open Go Go.PI Go.Proofs
open Go.Code (pl pr)
noncomputable def j8T:Code:=(Tryz.f223.body).getD .skip
noncomputable def je7:Env Unit:=⟨tys,[(258,jf1)],0⟩
noncomputable def j5D (a:List qV) (b:List qV) (i:Int) (rec:Int->Res) (k0:Unit->Res) (k1:Unit->Res):Res:=
 bif decide (i<(nI (List.length a))) then
  bif inb i (List.length a) then
   bif inb i (List.length b) then
    jaI (nth (0,0,eS) a i) (nth (0,0,eS) b i) λ(r:Bool)=>
     bif !r then
      k1 ()
     else
      rec (Z8g (i+1))
   else none
  else none
 else
  k0 ()
noncomputable def jbH (a:List qV) (b:List qV):Int->(Int->Res)->((Unit->Res)×(Unit->Res))->Res:=λv rec q=>j5D a b v (λi=>rec (i)) q.1 q.2
noncomputable def jdw (a:List qV) (b:List qV) (n:Nat) (i:Int) (k0:Unit->Res) (k1:Unit->Res):Res:=Z10 (jbH a b) n (i) (k0,k1)
noncomputable def j9Y:Z1l Unit:=λσ k=>rdN σ 27<|rdV σ 0 y3 false [.S] λa=>rdV σ 1 y3 false [.S] λb=>rdV σ 5 (.int .i64) false [] λi=>jdw a b Z0Y i (λ(_:Unit)=>k (.exit 0) (mkS 27 27 [] [])) (λ(_:Unit)=>k .ret (mkS 27 27 [(4,.val ⟨.bool,false,false,[]⟩)] []))
theorem jns (a:List qV) (b:List qV) (n:Nat) (v:Int) (k:Z6G Unit):Z3X (Z0R je7 [] .o (pl (pl (pr (pl (pr (pr j8T))))))) (λσ=>σ.forget [0,1,5] []) (Z8a ([],[]) [(0,[],[])] ([4],[])) n (mkS 27 27 [(0,.val ⟨y3,false,a,[.S]⟩),(1,.val ⟨y3,false,b,[.S]⟩),(5,.val ⟨(.int .i64),false,v,[]⟩)] []) k=Z10 (jbH a b) n v ((λ(k:Z6G Unit)=>(((λ(_:Unit)=>k (.exit 0) (mkS 27 27 [] [])),(λ(_:Unit)=>k .ret (mkS 27 27 [(4,.val ⟨.bool,false,false,[]⟩)] []))):(Unit->Res)×(Unit->Res))) k):=Z80 (λv:Int=>(mkS 27 27 [(0,.val ⟨y3,false,a,[.S]⟩),(1,.val ⟨y3,false,b,[.S]⟩),(5,.val ⟨(.int .i64),false,v,[]⟩)] [])) (jbH a b) (λ(k:Z6G Unit)=>(((λ(_:Unit)=>k (.exit 0) (mkS 27 27 [] [])),(λ(_:Unit)=>k .ret (mkS 27 27 [(4,.val ⟨.bool,false,false,[]⟩)] []))):(Unit->Res)×(Unit->Res))) (λv rec k=>by kernel_rfl) n v k
theorem jnL {W0:Base} {M:Nat->Prop} (hnp:W0.np<=0):Z1W Tryz.prog W0 M (pl (pr (pl (pr (pr j8T))))) j9Y:=show Z1W Tryz.prog W0 M (Code.loop (pl (pl (pr (pl (pr (pr j8T))))))) j9Y from Z8X (Z6Q follows j00 (Z7K (Z8C jeC Z8W)) hnp [] (pl (pl (pr (pl (pr (pr j8T)))))) .o trivial) (ks:=[0,1,5]) (bs:=[]) (fX:=(Z8a ([],[]) [(0,[],[])] ([4],[]))) (Z8U _ _ _) Z0Y (by
 intro σ k r h
 obtain ⟨hn,h1⟩:=Z8G h
 obtain ⟨a,hs0,h2⟩:=Z8J h1
 obtain ⟨b,hs1,h3⟩:=Z8J h2
 obtain ⟨i,hs5,h4⟩:=Z8J h3
 refine ⟨_,?_,(jns a b Z0Y (i) k).trans h4⟩
 exact Z9e hn ⟨hs0,hs1,hs5,trivial⟩ trivial)
noncomputable def j9e (a:List qV) (b:List qV) (k0:Bool->Res):Res:=
 bif ((nI (List.length a)) != (nI (List.length b))) then
  k0 false
 else
  jdw a b Z0Y 0
   (λ(_:Unit)=>
    k0 true)
   (λ(_:Unit)=>
    k0 false)
noncomputable def jef:Sig Unit:=⟨[.look y3 false,.look y3 false],[false],λvals ext k=>av vals y3 λa vals=>av vals y3 λb vals=>nl vals<|nl ext<|j9e a b (λ(r0:Bool)=>k [⟨.bool,false,r0,[]⟩] [] [])⟩
theorem jpE (a:List qV) (a_a:Bool) (t_a:List Tag) (b:List qV) (a_b:Bool) (t_b:List Tag) (k:qK):Z6X je7 [j9Y] (.t .o (.t .o (.t (.t .o (.t (.x 0) .o)) .o))) false Tryz.f223 [.look y3 false,.look y3 false] [false] [⟨y3,a_a,a,t_a⟩,⟨y3,a_b,b,t_b⟩] [] k=j9e a b (λ(r0:Bool)=>k [⟨.bool,false,r0,[]⟩] [] []):=by kernel_rfl
theorem jhA:Z1k Tryz.prog 223 jef:=Z8N (Γ:=je7) (X:=[j9Y]) (ht:=(.t .o (.t .o (.t (.t .o (.t (.x 0) .o)) .o)))) (fz:=false) (c:=j8T) follows j00 (Z8C jeC Z8W) (Z1A.mk trivial ((Z1A.mk trivial ((Z1A.mk ((Z1A.mk trivial ((Z1A.mk (Z1A.x_mk (λW0 M hnp=>jnL (W0:=W0) (M:=M) hnp)) trivial)))) trivial))))) Tryz.func223 (by kernel_rfl) (by kernel_rfl) (by decide) (by
 intro vals ext k r h
 obtain ⟨a,a_a,t_a,vals,rfl,h1⟩:=Z8T h
 obtain ⟨b,a_b,t_b,vals,rfl,h2⟩:=Z8T h1
 obtain ⟨rfl,h3⟩:=Z90 h2
 obtain ⟨rfl,h4⟩:=Z90 h3
 exact (jpE a a_a t_a b a_b t_b k).trans h4)
noncomputable def j6u:Code:=(Tryz.f126.body).getD .skip
noncomputable def jco:Env Unit:=⟨tys,[(125,j1W)],1⟩
noncomputable def j4c (a:List qV) (k_:Int) (i:Int) (rec:qW->Int->Int->Res) (k0:qW->Int->Res):Res:=
 bif decide (i<(nI (List.length a))) then
  bif inb i (List.length a) then
   bif inb i (List.length (upd a i (k_,(nth (0,0,eS) a i).2))) then
    j0r (Z8g ((Z8g (k_+1))+1)) λ(r:qB)=>
     bif inb i (List.length (upd (upd a i (k_,(nth (0,0,eS) a i).2)) i ((nth (0,0,eS) (upd a i (k_,(nth (0,0,eS) a i).2)) i).1,Z8g (k_+1),(nth (0,0,eS) (upd a i (k_,(nth (0,0,eS) a i).2)) i).2.2))) then
      rec (upd (upd (upd a i (k_,(nth (0,0,eS) a i).2)) i ((nth (0,0,eS) (upd a i (k_,(nth (0,0,eS) a i).2)) i).1,Z8g (k_+1),(nth (0,0,eS) (upd a i (k_,(nth (0,0,eS) a i).2)) i).2.2)) i ((nth (0,0,eS) (upd (upd a i (k_,(nth (0,0,eS) a i).2)) i ((nth (0,0,eS) (upd a i (k_,(nth (0,0,eS) a i).2)) i).1,Z8g (k_+1),(nth (0,0,eS) (upd a i (k_,(nth (0,0,eS) a i).2)) i).2.2)) i).1,(nth (0,0,eS) (upd (upd a i (k_,(nth (0,0,eS) a i).2)) i ((nth (0,0,eS) (upd a i (k_,(nth (0,0,eS) a i).2)) i).1,Z8g (k_+1),(nth (0,0,eS) (upd a i (k_,(nth (0,0,eS) a i).2)) i).2.2)) i).2.1,r)) (Z8g ((Z8g ((Z8g (k_+1))+1))+1)) (Z8g (i+1))
     else none
   else none
  else none
 else
  k0 a k_
noncomputable def j6O:(qW×Int×Int)->(qW×Int×Int->Res)->((qW->Int->Res))->Res:=λv rec q=>j4c v.1 v.2.1 v.2.2 (λa k_ i=>rec (a,k_,i)) q
noncomputable def jbM (n:Nat) (a:List qV) (k_:Int) (i:Int) (k0:qW->Int->Res):Res:=Z10 (j6O) n (a,k_,i) (k0)
noncomputable def j7D:Z1l Unit:=λσ k=>rdN σ 35<|rdV σ 0 y3 false [.O] λa=>rdV σ 1 (.int .i64) false [] λk_=>rdV σ 5 (.int .i64) false [] λi=>jbM Z0Y a k_ i (λ(a1:List qV) (k_1:Int)=>k (.exit 0) (mkS 35 35 [(0,.val ⟨y3,false,a1,[.O]⟩),(1,.val ⟨(.int .i64),false,k_1,[]⟩)] []))
theorem jjV  (n:Nat) (v:qW×Int×Int) (k:Z6G Unit):Z3X (Z0R jco [] .o (pl (pl (pr (pl (pr j6u)))))) (λσ=>σ.forget [0,1,5] []) (Z8a ([],[]) [(0,[0,1],[])] ([],[])) n (mkS 35 35 [(0,.val ⟨y3,false,v.1,[.O]⟩),(1,.val ⟨(.int .i64),false,v.2.1,[]⟩),(5,.val ⟨(.int .i64),false,v.2.2,[]⟩)] []) k=Z10 (j6O) n v ((λ(k:Z6G Unit)=>(((λ(a1:List qV) (k_1:Int)=>k (.exit 0) (mkS 35 35 [(0,.val ⟨y3,false,a1,[.O]⟩),(1,.val ⟨(.int .i64),false,k_1,[]⟩)] []))):(qW->Int->Res))) k):=Z80 (λv:qW×Int×Int=>(mkS 35 35 [(0,.val ⟨y3,false,v.1,[.O]⟩),(1,.val ⟨(.int .i64),false,v.2.1,[]⟩),(5,.val ⟨(.int .i64),false,v.2.2,[]⟩)] [])) (j6O) (λ(k:Z6G Unit)=>(((λ(a1:List qV) (k_1:Int)=>k (.exit 0) (mkS 35 35 [(0,.val ⟨y3,false,a1,[.O]⟩),(1,.val ⟨(.int .i64),false,k_1,[]⟩)] []))):(qW->Int->Res))) (λv rec k=>by kernel_rfl) n v k
theorem jkn {W0:Base} {M:Nat->Prop} (hnp:W0.np<=1):Z1W Tryz.prog W0 M (pl (pr (pl (pr j6u)))) j7D:=show Z1W Tryz.prog W0 M (Code.loop (pl (pl (pr (pl (pr j6u)))))) j7D from Z8X (Z6Q follows j00 (Z7K (Z8C j09 Z8W)) hnp [] (pl (pl (pr (pl (pr j6u))))) .o trivial) (ks:=[0,1,5]) (bs:=[]) (fX:=(Z8a ([],[]) [(0,[0,1],[])] ([],[]))) (Z8U _ _ _) Z0Y (by
 intro σ k r h
 obtain ⟨hn,h1⟩:=Z8G h
 obtain ⟨a,hs0,h2⟩:=Z8J h1
 obtain ⟨k_,hs1,h3⟩:=Z8J h2
 obtain ⟨i,hs5,h4⟩:=Z8J h3
 refine ⟨_,?_,(jjV  Z0Y (a,k_,i) k).trans h4⟩
 exact Z9e hn ⟨hs0,hs1,hs5,trivial⟩ trivial)
noncomputable def j6e (a:List qV) (k_:Int) (k0:Int->qW->Res):Res:=
 jbM Z0Y a k_ 0 λ(a1:List qV) (k_1:Int)=>
  k0 k_1 a1
noncomputable def jfT:Sig Unit:=⟨[.inout y3 false,.borrow (.int .i64) false],[false],λvals ext k=>ao vals y3 [.O] λa vals=>av vals (.int .i64) λk_ vals=>nl vals<|nl ext<|j6e a k_ (λ(r0:Int) (i0:List qV)=>k [⟨(.int .i64),false,r0,[]⟩] [⟨y3,false,i0,[.O]⟩] [])⟩
theorem jmV (a_a:Bool) (a:List qV) (k_:Int) (a_k_:Bool) (t_k_:List Tag) (k:qK):Z6X jco [j7D] (.t .o (.t (.t .o (.t (.x 0) .o)) .o)) false Tryz.f126 [.inout y3 false,.borrow (.int .i64) false] [false] [⟨y3,a_a,a,[.O]⟩,⟨(.int .i64),a_k_,k_,t_k_⟩] [] k=j6e a k_ (λ(r0:Int) (i0:List qV)=>k [⟨(.int .i64),false,r0,[]⟩] [⟨y3,false,i0,[.O]⟩] []):=by kernel_rfl
theorem j14:Z1k Tryz.prog 126 jfT:=Z8N (Γ:=jco) (X:=[j7D]) (ht:=(.t .o (.t (.t .o (.t (.x 0) .o)) .o))) (fz:=false) (c:=j6u) follows j00 (Z8C j09 Z8W) (Z1A.mk trivial ((Z1A.mk ((Z1A.mk trivial ((Z1A.mk (Z1A.x_mk (λW0 M hnp=>jkn (W0:=W0) (M:=M) hnp)) trivial)))) trivial))) Tryz.func126 (by kernel_rfl) (by kernel_rfl) (by decide) (by
 intro vals ext k r h
 obtain ⟨a_a,a,vals,rfl,h1⟩:=Z8S h
 obtain ⟨k_,a_k_,t_k_,vals,rfl,h2⟩:=Z8T h1
 obtain ⟨rfl,h3⟩:=Z90 h2
 obtain ⟨rfl,h4⟩:=Z90 h3
 exact (jmV a_a a k_ a_k_ t_k_ k).trans h4)
noncomputable def j6s:Code:=(Tryz.f129.body).getD .skip
noncomputable def jcm:Env Unit:=⟨tys,[(125,j1W)],0⟩
noncomputable def j48 (a:List qV) (k_:Int) (i:Int) (rec:Int->Int->Res) (k0:Int->Res) (k1:Unit->Res):Res:=
 bif decide (i<(nI (List.length a))) then
  bif inb i (List.length a) then
   bif ((nth (0,0,eS) a i).1 != k_) then
    k1 ()
   else
    bif inb i (List.length a) then
     bif ((nth (0,0,eS) a i).2.1 != (Z8g (k_+1))) then
      k1 ()
     else
      bif inb i (List.length a) then
       j0r (Z8g ((Z8g (k_+1))+1)) λ(r:qB)=>
        bif sNe (nth (0,0,eS) a i).2.2 r then
         k1 ()
        else
         rec (Z8g ((Z8g ((Z8g (k_+1))+1))+1)) (Z8g (i+1))
      else none
    else none
  else none
 else
  k0 k_
noncomputable def j6M (a:List qV):(Int×Int)->(Int×Int->Res)->((Int->Res)×(Unit->Res))->Res:=λv rec q=>j48 a v.1 v.2 (λk_ i=>rec (k_,i)) q.1 q.2
noncomputable def jbJ (a:List qV) (n:Nat) (k_:Int) (i:Int) (k0:Int->Res) (k1:Unit->Res):Res:=Z10 (j6M a) n (k_,i) (k0,k1)
noncomputable def j7A:Z1l Unit:=λσ k=>rdN σ 41<|rdV σ 0 y3 false [.S] λa=>rdV σ 1 (.int .i64) false [] λk_=>rdV σ 5 (.int .i64) false [] λi=>jbJ a Z0Y k_ i (λ(k_1:Int)=>k (.exit 0) (mkS 41 41 [(1,.val ⟨(.int .i64),false,k_1,[]⟩)] [])) (λ(_:Unit)=>k .ret (mkS 41 41 [(4,.val ⟨(.int .i64),false,(-1),[]⟩)] []))
theorem jjP (a:List qV) (n:Nat) (v:Int×Int) (k:Z6G Unit):Z3X (Z0R jcm [] .o (pl (pl (pr (pl (pr j6s)))))) (λσ=>σ.forget [0,1,5] []) (Z8a ([],[]) [(0,[1],[])] ([4],[])) n (mkS 41 41 [(0,.val ⟨y3,false,a,[.S]⟩),(1,.val ⟨(.int .i64),false,v.1,[]⟩),(5,.val ⟨(.int .i64),false,v.2,[]⟩)] []) k=Z10 (j6M a) n v ((λ(k:Z6G Unit)=>(((λ(k_1:Int)=>k (.exit 0) (mkS 41 41 [(1,.val ⟨(.int .i64),false,k_1,[]⟩)] [])),(λ(_:Unit)=>k .ret (mkS 41 41 [(4,.val ⟨(.int .i64),false,(-1),[]⟩)] []))):(Int->Res)×(Unit->Res))) k):=Z80 (λv:Int×Int=>(mkS 41 41 [(0,.val ⟨y3,false,a,[.S]⟩),(1,.val ⟨(.int .i64),false,v.1,[]⟩),(5,.val ⟨(.int .i64),false,v.2,[]⟩)] [])) (j6M a) (λ(k:Z6G Unit)=>(((λ(k_1:Int)=>k (.exit 0) (mkS 41 41 [(1,.val ⟨(.int .i64),false,k_1,[]⟩)] [])),(λ(_:Unit)=>k .ret (mkS 41 41 [(4,.val ⟨(.int .i64),false,(-1),[]⟩)] []))):(Int->Res)×(Unit->Res))) (λv rec k=>by kernel_rfl) n v k
theorem jkh {W0:Base} {M:Nat->Prop} (hnp:W0.np<=0):Z1W Tryz.prog W0 M (pl (pr (pl (pr j6s)))) j7A:=show Z1W Tryz.prog W0 M (Code.loop (pl (pl (pr (pl (pr j6s)))))) j7A from Z8X (Z6Q follows j00 (Z7K (Z8C j09 Z8W)) hnp [] (pl (pl (pr (pl (pr j6s))))) .o trivial) (ks:=[0,1,5]) (bs:=[]) (fX:=(Z8a ([],[]) [(0,[1],[])] ([4],[]))) (Z8U _ _ _) Z0Y (by
 intro σ k r h
 obtain ⟨hn,h1⟩:=Z8G h
 obtain ⟨a,hs0,h2⟩:=Z8J h1
 obtain ⟨k_,hs1,h3⟩:=Z8J h2
 obtain ⟨i,hs5,h4⟩:=Z8J h3
 refine ⟨_,?_,(jjP a Z0Y (k_,i) k).trans h4⟩
 exact Z9e hn ⟨hs0,hs1,hs5,trivial⟩ trivial)
noncomputable def j6d (a:List qV) (k_:Int) (k0:Int->Res):Res:=
 jbJ a Z0Y k_ 0
  (λ(k_1:Int)=>
   k0 k_1)
  (λ(_:Unit)=>
   k0 (-1))
noncomputable def jfR:Sig Unit:=⟨[.look y3 false,.look (.int .i64) false],[false],λvals ext k=>av vals y3 λa vals=>av vals (.int .i64) λk_ vals=>nl vals<|nl ext<|j6d a k_ (λ(r0:Int)=>k [⟨(.int .i64),false,r0,[]⟩] [] [])⟩
theorem jmS (a:List qV) (a_a:Bool) (t_a:List Tag) (k_:Int) (a_k_:Bool) (t_k_:List Tag) (k:qK):Z6X jcm [j7A] (.t .o (.t (.t .o (.t (.x 0) .o)) .o)) false Tryz.f129 [.look y3 false,.look (.int .i64) false] [false] [⟨y3,a_a,a,t_a⟩,⟨(.int .i64),a_k_,k_,t_k_⟩] [] k=j6d a k_ (λ(r0:Int)=>k [⟨(.int .i64),false,r0,[]⟩] [] []):=by kernel_rfl
theorem jfl:Z1k Tryz.prog 129 jfR:=Z8N (Γ:=jcm) (X:=[j7A]) (ht:=(.t .o (.t (.t .o (.t (.x 0) .o)) .o))) (fz:=false) (c:=j6s) follows j00 (Z8C j09 Z8W) (Z1A.mk trivial ((Z1A.mk ((Z1A.mk trivial ((Z1A.mk (Z1A.x_mk (λW0 M hnp=>jkh (W0:=W0) (M:=M) hnp)) trivial)))) trivial))) Tryz.func129 (by kernel_rfl) (by kernel_rfl) (by decide) (by
 intro vals ext k r h
 obtain ⟨a,a_a,t_a,vals,rfl,h1⟩:=Z8T h
 obtain ⟨k_,a_k_,t_k_,vals,rfl,h2⟩:=Z8T h1
 obtain ⟨rfl,h3⟩:=Z90 h2
 obtain ⟨rfl,h4⟩:=Z90 h3
 exact (jmS a a_a t_a k_ a_k_ t_k_ k).trans h4)
end Go.PI.G
namespace Go.PI.G
open Go Go.PI Go.Proofs
open Go.Code (pl pr)
noncomputable def jqF:Code:=(Tryz.f224.body).getD .skip
noncomputable def jiI:Env Unit:=⟨tys,[(223,jef)],0⟩
noncomputable def jcC (a:List qV) (b:List qV) (k0:Bool->Res):Res:=
 j9e a b λ(r:Bool)=>
  bif !r then
   k0 false
  else
   k0 true
noncomputable def jjj:Sig Unit:=⟨[.look y3 true,.look y3 true],[false],λvals ext k=>av vals y3 λa vals=>av vals y3 λb vals=>nl vals<|nl ext<|jcC a b (λ(r0:Bool)=>k [⟨.bool,false,r0,[]⟩] [] [])⟩
theorem jqk (a:List qV) (a_a:Bool) (t_a:List Tag) (b:List qV) (a_b:Bool) (t_b:List Tag) (k:qK):Z6X jiI [] .o false Tryz.f224 [.look y3 true,.look y3 true] [false] [⟨y3,a_a,a,t_a⟩,⟨y3,a_b,b,t_b⟩] [] k=jcC a b (λ(r0:Bool)=>k [⟨.bool,false,r0,[]⟩] [] []):=by kernel_rfl
theorem jqv:Z1k Tryz.prog 224 jjj:=Z8N (Γ:=jiI) (X:=[]) (ht:= .o) (fz:=false) (c:=jqF) follows j00 (Z8C jhA Z8W) trivial Tryz.func224 (by kernel_rfl) (by kernel_rfl) (by decide) (by
 intro vals ext k r h
 obtain ⟨a,a_a,t_a,vals,rfl,h1⟩:=Z8T h
 obtain ⟨b,a_b,t_b,vals,rfl,h2⟩:=Z8T h1
 obtain ⟨rfl,h3⟩:=Z90 h2
 obtain ⟨rfl,h4⟩:=Z90 h3
 exact (jqk a a_a t_a b a_b t_b k).trans h4)
end Go.PI.G
namespace Go.PI.G
open Go Go.PI Go.Proofs
open Go.Code (pl pr)
noncomputable def jpV:Code:=(Tryz.f179.body).getD .skip
noncomputable def jhH:Env Unit:=⟨tys,[(223,jef),(224,jjj),(225,jjh)],0⟩
noncomputable def jbh (a:qS) (b:qS) (k0:Bool->Res):Res:=
 bif (a.1 != b.1) then
  k0 false
 else
  bif sNe a.2.1 b.2.1 then
   k0 false
  else
   j9e a.2.2.1 b.2.2.1 λ(r:Bool)=>
    bif !r then
     k0 false
    else
     jcC a.2.2.2.1 b.2.2.2.1 λ(r1:Bool)=>
      bif !r1 then
       k0 false
      else
       jcA a.2.2.2.2 b.2.2.2.2 λ(r2:Bool)=>
        bif !r2 then
         k0 false
        else
         k0 true
noncomputable def jhV:Sig Unit:=⟨[.look y18 true,.look y18 true],[false],λvals ext k=>av vals y18 λa vals=>av vals y18 λb vals=>nl vals<|nl ext<|jbh a b (λ(r0:Bool)=>k [⟨.bool,false,r0,[]⟩] [] [])⟩
theorem jpD (a:qS) (a_a:Bool) (t_a:List Tag) (b:qS) (a_b:Bool) (t_b:List Tag) (k:qK):Z6X jhH [] .o false Tryz.f179 [.look y18 true,.look y18 true] [false] [⟨y18,a_a,a,t_a⟩,⟨y18,a_b,b,t_b⟩] [] k=jbh a b (λ(r0:Bool)=>k [⟨.bool,false,r0,[]⟩] [] []):=by kernel_rfl
theorem jpO:Z1k Tryz.prog 179 jhV:=Z8N (Γ:=jhH) (X:=[]) (ht:= .o) (fz:=false) (c:=jpV) follows j00 (Z8C jhA (Z8C jqv (Z8C jqt Z8W))) trivial Tryz.func179 (by kernel_rfl) (by kernel_rfl) (by decide) (by
 intro vals ext k r h
 obtain ⟨a,a_a,t_a,vals,rfl,h1⟩:=Z8T h
 obtain ⟨b,a_b,t_b,vals,rfl,h2⟩:=Z8T h1
 obtain ⟨rfl,h3⟩:=Z90 h2
 obtain ⟨rfl,h4⟩:=Z90 h3
 exact (jpD a a_a t_a b a_b t_b k).trans h4)
end Go.PI.G
namespace Go.PI.G
open Go Go.PI Go.Proofs
open Go.Code (pl pr)
noncomputable def jqE:Code:=(Tryz.f112.body).getD .skip
noncomputable def jiH:Env Unit:=⟨tys,[(179,jhV)],0⟩
noncomputable def jcB (a:Int×Int×qS) (b:Int×Int×qS) (k0:Bool->Res):Res:=
 bif (a.1 != b.1) then
  k0 false
 else
  bif (a.2.1 != b.2.1) then
   k0 false
  else
   jbh a.2.2 b.2.2 λ(r:Bool)=>
    bif !r then
     k0 false
    else
     k0 true
noncomputable def jji:Sig Unit:=⟨[.look y20 true,.look y20 true],[false],λvals ext k=>av vals y20 λa vals=>av vals y20 λb vals=>nl vals<|nl ext<|jcB a b (λ(r0:Bool)=>k [⟨.bool,false,r0,[]⟩] [] [])⟩
theorem jqj (a:Int×Int×qS) (a_a:Bool) (t_a:List Tag) (b:Int×Int×qS) (a_b:Bool) (t_b:List Tag) (k:qK):Z6X jiH [] .o false Tryz.f112 [.look y20 true,.look y20 true] [false] [⟨y20,a_a,a,t_a⟩,⟨y20,a_b,b,t_b⟩] [] k=jcB a b (λ(r0:Bool)=>k [⟨.bool,false,r0,[]⟩] [] []):=by kernel_rfl
theorem jqu:Z1k Tryz.prog 112 jji:=Z8N (Γ:=jiH) (X:=[]) (ht:= .o) (fz:=false) (c:=jqE) follows j00 (Z8C jpO Z8W) trivial Tryz.func112 (by kernel_rfl) (by kernel_rfl) (by decide) (by
 intro vals ext k r h
 obtain ⟨a,a_a,t_a,vals,rfl,h1⟩:=Z8T h
 obtain ⟨b,a_b,t_b,vals,rfl,h2⟩:=Z8T h1
 obtain ⟨rfl,h3⟩:=Z90 h2
 obtain ⟨rfl,h4⟩:=Z90 h3
 exact (jqj a a_a t_a b a_b t_b k).trans h4)
end Go.PI.G
namespace Go.PI.G
open Go Go.PI Go.Proofs
open Go.Code (pl pr)
noncomputable def jpU:Code:=(Tryz.f34.body).getD .skip
noncomputable def jhG:Env Unit:=⟨tys,[(112,jji)],0⟩
noncomputable def jbg (a:qQ) (b:qQ) (k0:Bool->Res):Res:=
 bif (a.1 != b.1) then
  k0 false
 else
  jcB a.2.1 b.2.1 λ(r:Bool)=>
   bif !r then
    k0 false
   else
    bif (a.2.2.1 != b.2.2.1) then
     k0 false
    else
     bif (a.2.2.2.1 != b.2.2.2.1) then
      k0 false
     else
      bif (a.2.2.2.2 != b.2.2.2.2) then
       k0 false
      else
       k0 true
noncomputable def jhU:Sig Unit:=⟨[.look y24 true,.look y24 true],[false],λvals ext k=>av vals y24 λa vals=>av vals y24 λb vals=>nl vals<|nl ext<|jbg a b (λ(r0:Bool)=>k [⟨.bool,false,r0,[]⟩] [] [])⟩
theorem jpC (a:qQ) (a_a:Bool) (t_a:List Tag) (b:qQ) (a_b:Bool) (t_b:List Tag) (k:qK):Z6X jhG [] .o false Tryz.f34 [.look y24 true,.look y24 true] [false] [⟨y24,a_a,a,t_a⟩,⟨y24,a_b,b,t_b⟩] [] k=jbg a b (λ(r0:Bool)=>k [⟨.bool,false,r0,[]⟩] [] []):=by kernel_rfl
theorem jhz:Z1k Tryz.prog 34 jhU:=Z8N (Γ:=jhG) (X:=[]) (ht:= .o) (fz:=false) (c:=jpU) follows j00 (Z8C jqu Z8W) trivial Tryz.func34 (by kernel_rfl) (by kernel_rfl) (by decide) (by
 intro vals ext k r h
 obtain ⟨a,a_a,t_a,vals,rfl,h1⟩:=Z8T h
 obtain ⟨b,a_b,t_b,vals,rfl,h2⟩:=Z8T h1
 obtain ⟨rfl,h3⟩:=Z90 h2
 obtain ⟨rfl,h4⟩:=Z90 h3
 exact (jpC a a_a t_a b a_b t_b k).trans h4)
end Go.PI.G
