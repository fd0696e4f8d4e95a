/-
  Program's code interpreted over typed values; printed texts; plain laws. No conditions.
-/
import Derived.Test.YtiieddiheadocaaGreatPc
import Derived.Test.YtiieddiheadocaaGreatUa
import Derived.Test.YtiieddiheadocaaGreatUh
import Derived.Test.YtiieddiheadocaaGreatUg
set_option linter.unusedVariables false
set_option maxRecDepth 100000
namespace Go.PI.G
open Go Go.PI Go.Proofs
open Go.Code (pl pr)
noncomputable def j7P:Code:=(Tryz.f44.body).getD .skip
noncomputable def jdk:Env Unit:=⟨tys,[(34,jhU)],0⟩
noncomputable def j4K (a:List qQ) (b:List qQ) (i:Int) (rec:Int->Res) (k0:Unit->Res) (k1:Unit->Res):Res:=
 bif decide (i<(nI (List.length a))) then
  bif inb i (List.length a) then
   bif inb i (List.length b) then
    jbg (nth (0,(0,0,0,eS,[],[],0,eS,[],[],eS,eS),0,0,0) a i) (nth (0,(0,0,0,eS,[],[],0,eS,[],[],eS,eS),0,0,0) b i) λ(r:Bool)=>
     bif !r then
      k1 ()
     else
      rec (Z8g (i+1))
   else none
  else none
 else
  k0 ()
noncomputable def jb1 (a:List qQ) (b:List qQ):Int->(Int->Res)->((Unit->Res)×(Unit->Res))->Res:=λv rec q=>j4K a b v (λi=>rec (i)) q.1 q.2
noncomputable def jcD (a:List qQ) (b:List qQ) (n:Nat) (i:Int) (k0:Unit->Res) (k1:Unit->Res):Res:=Z10 (jb1 a b) n (i) (k0,k1)
noncomputable def j8F:Z1l Unit:=λσ k=>rdN σ 27<|rdV σ 0 y25 false [.S] λa=>rdV σ 1 y25 false [.S] λb=>rdV σ 5 (.int .i64) false [] λi=>jcD a b Z0Y i (λ(_:Unit)=>k (.exit 0) (mkS 27 27 [] [])) (λ(_:Unit)=>k .ret (mkS 27 27 [(4,.val ⟨.bool,false,false,[]⟩)] []))
theorem jlm (a:List qQ) (b:List qQ) (n:Nat) (v:Int) (k:Z6G Unit):Z3X (Z0R jdk [] .o (pl (pl (pr (pl (pr (pr j7P))))))) (λσ=>σ.forget [0,1,5] []) (Z8a ([],[]) [(0,[],[])] ([4],[])) n (mkS 27 27 [(0,.val ⟨y25,false,a,[.S]⟩),(1,.val ⟨y25,false,b,[.S]⟩),(5,.val ⟨(.int .i64),false,v,[]⟩)] []) k=Z10 (jb1 a b) n v ((λ(k:Z6G Unit)=>(((λ(_:Unit)=>k (.exit 0) (mkS 27 27 [] [])),(λ(_:Unit)=>k .ret (mkS 27 27 [(4,.val ⟨.bool,false,false,[]⟩)] []))):(Unit->Res)×(Unit->Res))) k):=Z80 (λv:Int=>(mkS 27 27 [(0,.val ⟨y25,false,a,[.S]⟩),(1,.val ⟨y25,false,b,[.S]⟩),(5,.val ⟨(.int .i64),false,v,[]⟩)] [])) (jb1 a b) (λ(k:Z6G Unit)=>(((λ(_:Unit)=>k (.exit 0) (mkS 27 27 [] [])),(λ(_:Unit)=>k .ret (mkS 27 27 [(4,.val ⟨.bool,false,false,[]⟩)] []))):(Unit->Res)×(Unit->Res))) (λv rec k=>by kernel_rfl) n v k
theorem jm9 {W0:Base} {M:Nat->Prop} (hnp:W0.np<=0):Z1W Tryz.prog W0 M (pl (pr (pl (pr (pr j7P))))) j8F:=show Z1W Tryz.prog W0 M (Code.loop (pl (pl (pr (pl (pr (pr j7P))))))) j8F from Z8X (Z6Q follows j00 (Z7K (Z8C jhz Z8W)) hnp [] (pl (pl (pr (pl (pr (pr j7P)))))) .o trivial) (ks:=[0,1,5]) (bs:=[]) (fX:=(Z8a ([],[]) [(0,[],[])] ([4],[]))) (Z8U _ _ _) Z0Y (by
 intro σ k r h
 obtain ⟨hn,h1⟩:=Z8G h
 obtain ⟨a,hs0,h2⟩:=Z8J h1
 obtain ⟨b,hs1,h3⟩:=Z8J h2
 obtain ⟨i,hs5,h4⟩:=Z8J h3
 refine ⟨_,?_,(jlm a b Z0Y (i) k).trans h4⟩
 exact Z9e hn ⟨hs0,hs1,hs5,trivial⟩ trivial)
noncomputable def j83 (a:List qQ) (b:List qQ) (k0:Bool->Res):Res:=
 bif ((nI (List.length a)) != (nI (List.length b))) then
  k0 false
 else
  jcD a b Z0Y 0
   (λ(_:Unit)=>
    k0 true)
   (λ(_:Unit)=>
    k0 false)
noncomputable def jgG:Sig Unit:=⟨[.look y25 false,.look y25 false],[false],λvals ext k=>av vals y25 λa vals=>av vals y25 λb vals=>nl vals<|nl ext<|j83 a b (λ(r0:Bool)=>k [⟨.bool,false,r0,[]⟩] [] [])⟩
theorem jof (a:List qQ) (a_a:Bool) (t_a:List Tag) (b:List qQ) (a_b:Bool) (t_b:List Tag) (k:qK):Z6X jdk [j8F] (.t .o (.t .o (.t (.t .o (.t (.x 0) .o)) .o))) false Tryz.f44 [.look y25 false,.look y25 false] [false] [⟨y25,a_a,a,t_a⟩,⟨y25,a_b,b,t_b⟩] [] k=j83 a b (λ(r0:Bool)=>k [⟨.bool,false,r0,[]⟩] [] []):=by kernel_rfl
theorem jox:Z1k Tryz.prog 44 jgG:=Z8N (Γ:=jdk) (X:=[j8F]) (ht:=(.t .o (.t .o (.t (.t .o (.t (.x 0) .o)) .o)))) (fz:=false) (c:=j7P) follows j00 (Z8C jhz Z8W) (Z1A.mk trivial ((Z1A.mk trivial ((Z1A.mk ((Z1A.mk trivial ((Z1A.mk (Z1A.x_mk (λW0 M hnp=>jm9 (W0:=W0) (M:=M) hnp)) trivial)))) trivial))))) Tryz.func44 (by kernel_rfl) (by kernel_rfl) (by decide) (by
 intro vals ext k r h
 obtain ⟨a,a_a,t_a,vals,rfl,h1⟩:=Z8T h
 obtain ⟨b,a_b,t_b,vals,rfl,h2⟩:=Z8T h1
 obtain ⟨rfl,h3⟩:=Z90 h2
 obtain ⟨rfl,h4⟩:=Z90 h3
 exact (jof a a_a t_a b a_b t_b k).trans h4)
noncomputable def j05:Code:=(Tryz.f45.body).getD .skip
noncomputable def j0F:Env Unit:=⟨tys,[(125,j1W),(126,jfT),(127,jfS),(128,jdX)],1⟩
noncomputable def j4L (a:List qQ) (k_:Int) (i:Int) (k0:(List qQ)->Res):Res:=
 bif inb i (List.length a) then
  k0 (upd a i ((nth (0,(0,0,0,eS,[],[],0,eS,[],[],eS,eS),0,0,0) a i).1,((nth (0,(0,0,0,eS,[],[],0,eS,[],[],eS,eS),0,0,0) a i).2.1.1,k_,(nth (0,(0,0,0,eS,[],[],0,eS,[],[],eS,eS),0,0,0) a i).2.1.2.2),(nth (0,(0,0,0,eS,[],[],0,eS,[],[],eS,eS),0,0,0) a i).2.2))
 else none
noncomputable def j0a:Z1l Unit:=λσ k=>rdN σ 158<|rdV σ 0 y25 false [.O] λa=>rdV σ 1 (.int .i64) false [] λk_=>rdV σ 5 (.int .i64) false [] λi=>j4L a k_ i (λ(a1:List qQ)=>k .normal (mkS 158 158 [(0,.val ⟨y25,false,a1,[.O]⟩),(1,.val ⟨(.int .i64),false,k_,[]⟩),(5,.val ⟨(.int .i64),false,i,[]⟩)] []))
theorem jin (a:List qQ) (k_:Int) (i:Int) (k:Z6G Unit):Z0R j0F [] .o (pl (pr (pr (pr (pr (pl (pl (pr (pl (pl (pr (pl (pr j05))))))))))))) (mkS 158 158 [(0,.val ⟨y25,false,a,[.O]⟩),(1,.val ⟨(.int .i64),false,k_,[]⟩),(5,.val ⟨(.int .i64),false,i,[]⟩)] []) (λe σ=>k e ((Z8a ([0,1,5],[]) [] ([],[])) e σ))=j4L a k_ i (λ(a1:List qQ)=>k .normal (mkS 158 158 [(0,.val ⟨y25,false,a1,[.O]⟩),(1,.val ⟨(.int .i64),false,k_,[]⟩),(5,.val ⟨(.int .i64),false,i,[]⟩)] [])):=by kernel_rfl
theorem jiZ {W0:Base} {M:Nat->Prop} (hnp:W0.np<=1):Z1W Tryz.prog W0 M (pl (pr (pr (pr (pr (pl (pl (pr (pl (pl (pr (pl (pr j05))))))))))))) j0a:=Z91 (Z6Q follows j00 (Z7K (Z8C j09 (Z8C j14 (Z8C j13 (Z8C j0B Z8W))))) hnp [] ((pl (pr (pr (pr (pr (pl (pl (pr (pl (pl (pr (pl (pr j05)))))))))))))) .o trivial) (fg:=(Z8a ([0,1,5],[]) [] ([],[]))) (Z8U _ _ _) (by
 intro σ k r h
 obtain ⟨hn,h1⟩:=Z8G h
 obtain ⟨a,hs0,h2⟩:=Z8J h1
 obtain ⟨k_,hs1,h3⟩:=Z8J h2
 obtain ⟨i,hs5,h4⟩:=Z8J h3
 refine ⟨_,?_,(jin a k_ i k).trans h4⟩
 exact Z9e hn ⟨hs0,hs1,hs5,trivial⟩ trivial)
noncomputable def j4M (a:List qQ) (k_:Int) (i:Int) (k0:(List qQ)->Res):Res:=
 j0r k_ λ(r:qB)=>
  bif inb i (List.length a) then
   k0 (upd a i ((nth (0,(0,0,0,eS,[],[],0,eS,[],[],eS,eS),0,0,0) a i).1,((nth (0,(0,0,0,eS,[],[],0,eS,[],[],eS,eS),0,0,0) a i).2.1.1,(nth (0,(0,0,0,eS,[],[],0,eS,[],[],eS,eS),0,0,0) a i).2.1.2.1,(nth (0,(0,0,0,eS,[],[],0,eS,[],[],eS,eS),0,0,0) a i).2.1.2.2.1,r,(nth (0,(0,0,0,eS,[],[],0,eS,[],[],eS,eS),0,0,0) a i).2.1.2.2.2.2),(nth (0,(0,0,0,eS,[],[],0,eS,[],[],eS,eS),0,0,0) a i).2.2))
  else none
noncomputable def j0c:Z1l Unit:=λσ k=>rdN σ 158<|rdV σ 0 y25 false [.O] λa=>rdV σ 1 (.int .i64) false [] λk_=>rdV σ 5 (.int .i64) false [] λi=>j4M a k_ i (λ(a1:List qQ)=>k .normal (mkS 158 158 [(0,.val ⟨y25,false,a1,[.O]⟩),(1,.val ⟨(.int .i64),false,k_,[]⟩),(5,.val ⟨(.int .i64),false,i,[]⟩)] []))
theorem jio (a:List qQ) (k_:Int) (i:Int) (k:Z6G Unit):Z0R j0F [j0a] .o (pl (pr (pr (pr (pr (pr (pr (pr (pr (pl (pl (pr (pl (pl (pr (pl (pr j05))))))))))))))))) (mkS 158 158 [(0,.val ⟨y25,false,a,[.O]⟩),(1,.val ⟨(.int .i64),false,k_,[]⟩),(5,.val ⟨(.int .i64),false,i,[]⟩)] []) (λe σ=>k e ((Z8a ([0,1,5],[]) [] ([],[])) e σ))=j4M a k_ i (λ(a1:List qQ)=>k .normal (mkS 158 158 [(0,.val ⟨y25,false,a1,[.O]⟩),(1,.val ⟨(.int .i64),false,k_,[]⟩),(5,.val ⟨(.int .i64),false,i,[]⟩)] [])):=by kernel_rfl
theorem jj0 {W0:Base} {M:Nat->Prop} (hnp:W0.np<=1):Z1W Tryz.prog W0 M (pl (pr (pr (pr (pr (pr (pr (pr (pr (pl (pl (pr (pl (pl (pr (pl (pr j05))))))))))))))))) j0c:=Z91 (Z6Q follows j00 (Z7K (Z8C j09 (Z8C j14 (Z8C j13 (Z8C j0B Z8W))))) hnp [j0a] ((pl (pr (pr (pr (pr (pr (pr (pr (pr (pl (pl (pr (pl (pl (pr (pl (pr j05)))))))))))))))))) .o trivial) (fg:=(Z8a ([0,1,5],[]) [] ([],[]))) (Z8U _ _ _) (by
 intro σ k r h
 obtain ⟨hn,h1⟩:=Z8G h
 obtain ⟨a,hs0,h2⟩:=Z8J h1
 obtain ⟨k_,hs1,h3⟩:=Z8J h2
 obtain ⟨i,hs5,h4⟩:=Z8J h3
 refine ⟨_,?_,(jio a k_ i k).trans h4⟩
 exact Z9e hn ⟨hs0,hs1,hs5,trivial⟩ trivial)
noncomputable def j4N (a:List qQ) (k_:Int) (i:Int) (k0:(List qQ)->Int->Res):Res:=
 bif inb i (List.length a) then
  j6e (nth (0,(0,0,0,eS,[],[],0,eS,[],[],eS,eS),0,0,0) a i).2.1.2.2.2.2.2.1 k_ λ(r:Int) (a1:List qV)=>
   k0 (upd a i ((nth (0,(0,0,0,eS,[],[],0,eS,[],[],eS,eS),0,0,0) a i).1,((nth (0,(0,0,0,eS,[],[],0,eS,[],[],eS,eS),0,0,0) a i).2.1.1,(nth (0,(0,0,0,eS,[],[],0,eS,[],[],eS,eS),0,0,0) a i).2.1.2.1,(nth (0,(0,0,0,eS,[],[],0,eS,[],[],eS,eS),0,0,0) a i).2.1.2.2.1,(nth (0,(0,0,0,eS,[],[],0,eS,[],[],eS,eS),0,0,0) a i).2.1.2.2.2.1,(nth (0,(0,0,0,eS,[],[],0,eS,[],[],eS,eS),0,0,0) a i).2.1.2.2.2.2.1,a1,(nth (0,(0,0,0,eS,[],[],0,eS,[],[],eS,eS),0,0,0) a i).2.1.2.2.2.2.2.2),(nth (0,(0,0,0,eS,[],[],0,eS,[],[],eS,eS),0,0,0) a i).2.2)) r
 else none
noncomputable def j0f:Z1l Unit:=λσ k=>rdN σ 158<|rdV σ 0 y25 false [.O] λa=>rdV σ 1 (.int .i64) false [] λk_=>rdV σ 5 (.int .i64) false [] λi=>j4N a k_ i (λ(a2:List qQ) (k_1:Int)=>k .normal (mkS 158 158 [(0,.val ⟨y25,false,a2,[.O]⟩),(1,.val ⟨(.int .i64),false,k_1,[]⟩),(5,.val ⟨(.int .i64),false,i,[]⟩)] []))
theorem jip (a:List qQ) (k_:Int) (i:Int) (k:Z6G Unit):Z0R j0F [j0a,j0c] .o (pl (pr (pr (pr (pr (pr (pr (pr (pr (pr (pr (pr (pl (pl (pr (pl (pl (pr (pl (pr j05)))))))))))))))))))) (mkS 158 158 [(0,.val ⟨y25,false,a,[.O]⟩),(1,.val ⟨(.int .i64),false,k_,[]⟩),(5,.val ⟨(.int .i64),false,i,[]⟩)] []) (λe σ=>k e ((Z8a ([0,1,5],[]) [] ([],[])) e σ))=j4N a k_ i (λ(a2:List qQ) (k_1:Int)=>k .normal (mkS 158 158 [(0,.val ⟨y25,false,a2,[.O]⟩),(1,.val ⟨(.int .i64),false,k_1,[]⟩),(5,.val ⟨(.int .i64),false,i,[]⟩)] [])):=by kernel_rfl
theorem jj1 {W0:Base} {M:Nat->Prop} (hnp:W0.np<=1):Z1W Tryz.prog W0 M (pl (pr (pr (pr (pr (pr (pr (pr (pr (pr (pr (pr (pl (pl (pr (pl (pl (pr (pl (pr j05)))))))))))))))))))) j0f:=Z91 (Z6Q follows j00 (Z7K (Z8C j09 (Z8C j14 (Z8C j13 (Z8C j0B Z8W))))) hnp [j0a,j0c] ((pl (pr (pr (pr (pr (pr (pr (pr (pr (pr (pr (pr (pl (pl (pr (pl (pl (pr (pl (pr j05))))))))))))))))))))) .o trivial) (fg:=(Z8a ([0,1,5],[]) [] ([],[]))) (Z8U _ _ _) (by
 intro σ k r h
 obtain ⟨hn,h1⟩:=Z8G h
 obtain ⟨a,hs0,h2⟩:=Z8J h1
 obtain ⟨k_,hs1,h3⟩:=Z8J h2
 obtain ⟨i,hs5,h4⟩:=Z8J h3
 refine ⟨_,?_,(jip a k_ i k).trans h4⟩
 exact Z9e hn ⟨hs0,hs1,hs5,trivial⟩ trivial)
noncomputable def j4O (a:List qQ) (k_:Int) (i:Int) (k0:(List qQ)->Res):Res:=
 bif inb i (List.length a) then
  k0 (upd a i ((nth (0,(0,0,0,eS,[],[],0,eS,[],[],eS,eS),0,0,0) a i).1,((nth (0,(0,0,0,eS,[],[],0,eS,[],[],eS,eS),0,0,0) a i).2.1.1,(nth (0,(0,0,0,eS,[],[],0,eS,[],[],eS,eS),0,0,0) a i).2.1.2.1,(nth (0,(0,0,0,eS,[],[],0,eS,[],[],eS,eS),0,0,0) a i).2.1.2.2.1,(nth (0,(0,0,0,eS,[],[],0,eS,[],[],eS,eS),0,0,0) a i).2.1.2.2.2.1,(nth (0,(0,0,0,eS,[],[],0,eS,[],[],eS,eS),0,0,0) a i).2.1.2.2.2.2.1,(nth (0,(0,0,0,eS,[],[],0,eS,[],[],eS,eS),0,0,0) a i).2.1.2.2.2.2.2.1,k_,(nth (0,(0,0,0,eS,[],[],0,eS,[],[],eS,eS),0,0,0) a i).2.1.2.2.2.2.2.2.2),(nth (0,(0,0,0,eS,[],[],0,eS,[],[],eS,eS),0,0,0) a i).2.2))
 else none
noncomputable def j0m:Z1l Unit:=λσ k=>rdN σ 158<|rdV σ 0 y25 false [.O] λa=>rdV σ 1 (.int .i64) false [] λk_=>rdV σ 5 (.int .i64) false [] λi=>j4O a k_ i (λ(a1:List qQ)=>k .normal (mkS 158 158 [(0,.val ⟨y25,false,a1,[.O]⟩),(1,.val ⟨(.int .i64),false,k_,[]⟩),(5,.val ⟨(.int .i64),false,i,[]⟩)] []))
theorem jiq (a:List qQ) (k_:Int) (i:Int) (k:Z6G Unit):Z0R j0F [j0a,j0c,j0f] .o (pl (pr (pr (pr (pr (pr (pr (pr (pr (pr (pr (pr (pr (pl (pl (pr (pl (pl (pr (pl (pr j05))))))))))))))))))))) (mkS 158 158 [(0,.val ⟨y25,false,a,[.O]⟩),(1,.val ⟨(.int .i64),false,k_,[]⟩),(5,.val ⟨(.int .i64),false,i,[]⟩)] []) (λe σ=>k e ((Z8a ([0,1,5],[]) [] ([],[])) e σ))=j4O a k_ i (λ(a1:List qQ)=>k .normal (mkS 158 158 [(0,.val ⟨y25,false,a1,[.O]⟩),(1,.val ⟨(.int .i64),false,k_,[]⟩),(5,.val ⟨(.int .i64),false,i,[]⟩)] [])):=by kernel_rfl
theorem jj2 {W0:Base} {M:Nat->Prop} (hnp:W0.np<=1):Z1W Tryz.prog W0 M (pl (pr (pr (pr (pr (pr (pr (pr (pr (pr (pr (pr (pr (pl (pl (pr (pl (pl (pr (pl (pr j05))))))))))))))))))))) j0m:=Z91 (Z6Q follows j00 (Z7K (Z8C j09 (Z8C j14 (Z8C j13 (Z8C j0B Z8W))))) hnp [j0a,j0c,j0f] ((pl (pr (pr (pr (pr (pr (pr (pr (pr (pr (pr (pr (pr (pl (pl (pr (pl (pl (pr (pl (pr j05)))))))))))))))))))))) .o trivial) (fg:=(Z8a ([0,1,5],[]) [] ([],[]))) (Z8U _ _ _) (by
 intro σ k r h
 obtain ⟨hn,h1⟩:=Z8G h
 obtain ⟨a,hs0,h2⟩:=Z8J h1
 obtain ⟨k_,hs1,h3⟩:=Z8J h2
 obtain ⟨i,hs5,h4⟩:=Z8J h3
 refine ⟨_,?_,(jiq a k_ i k).trans h4⟩
 exact Z9e hn ⟨hs0,hs1,hs5,trivial⟩ trivial)
noncomputable def j4P (a:List qQ) (k_:Int) (i:Int) (k0:(List qQ)->Res):Res:=
 j0r k_ λ(r:qB)=>
  bif inb i (List.length a) then
   k0 (upd a i ((nth (0,(0,0,0,eS,[],[],0,eS,[],[],eS,eS),0,0,0) a i).1,((nth (0,(0,0,0,eS,[],[],0,eS,[],[],eS,eS),0,0,0) a i).2.1.1,(nth (0,(0,0,0,eS,[],[],0,eS,[],[],eS,eS),0,0,0) a i).2.1.2.1,(nth (0,(0,0,0,eS,[],[],0,eS,[],[],eS,eS),0,0,0) a i).2.1.2.2.1,(nth (0,(0,0,0,eS,[],[],0,eS,[],[],eS,eS),0,0,0) a i).2.1.2.2.2.1,(nth (0,(0,0,0,eS,[],[],0,eS,[],[],eS,eS),0,0,0) a i).2.1.2.2.2.2.1,(nth (0,(0,0,0,eS,[],[],0,eS,[],[],eS,eS),0,0,0) a i).2.1.2.2.2.2.2.1,(nth (0,(0,0,0,eS,[],[],0,eS,[],[],eS,eS),0,0,0) a i).2.1.2.2.2.2.2.2.1,r,(nth (0,(0,0,0,eS,[],[],0,eS,[],[],eS,eS),0,0,0) a i).2.1.2.2.2.2.2.2.2.2),(nth (0,(0,0,0,eS,[],[],0,eS,[],[],eS,eS),0,0,0) a i).2.2))
  else none
noncomputable def j0q:Z1l Unit:=λσ k=>rdN σ 158<|rdV σ 0 y25 false [.O] λa=>rdV σ 1 (.int .i64) false [] λk_=>rdV σ 5 (.int .i64) false [] λi=>j4P a k_ i (λ(a1:List qQ)=>k .normal (mkS 158 158 [(0,.val ⟨y25,false,a1,[.O]⟩),(1,.val ⟨(.int .i64),false,k_,[]⟩),(5,.val ⟨(.int .i64),false,i,[]⟩)] []))
theorem jir (a:List qQ) (k_:Int) (i:Int) (k:Z6G Unit):Z0R j0F [j0a,j0c,j0f,j0m] .o (pl (pr (pr (pr (pr (pr (pr (pr (pr (pr (pr (pr (pr (pr (pr (pl (pl (pr (pl (pl (pr (pl (pr j05))))))))))))))))))))))) (mkS 158 158 [(0,.val ⟨y25,false,a,[.O]⟩),(1,.val ⟨(.int .i64),false,k_,[]⟩),(5,.val ⟨(.int .i64),false,i,[]⟩)] []) (λe σ=>k e ((Z8a ([0,1,5],[]) [] ([],[])) e σ))=j4P a k_ i (λ(a1:List qQ)=>k .normal (mkS 158 158 [(0,.val ⟨y25,false,a1,[.O]⟩),(1,.val ⟨(.int .i64),false,k_,[]⟩),(5,.val ⟨(.int .i64),false,i,[]⟩)] [])):=by kernel_rfl
theorem jj3 {W0:Base} {M:Nat->Prop} (hnp:W0.np<=1):Z1W Tryz.prog W0 M (pl (pr (pr (pr (pr (pr (pr (pr (pr (pr (pr (pr (pr (pr (pr (pl (pl (pr (pl (pl (pr (pl (pr j05))))))))))))))))))))))) j0q:=Z91 (Z6Q follows j00 (Z7K (Z8C j09 (Z8C j14 (Z8C j13 (Z8C j0B Z8W))))) hnp [j0a,j0c,j0f,j0m] ((pl (pr (pr (pr (pr (pr (pr (pr (pr (pr (pr (pr (pr (pr (pr (pl (pl (pr (pl (pl (pr (pl (pr j05)))))))))))))))))))))))) .o trivial) (fg:=(Z8a ([0,1,5],[]) [] ([],[]))) (Z8U _ _ _) (by
 intro σ k r h
 obtain ⟨hn,h1⟩:=Z8G h
 obtain ⟨a,hs0,h2⟩:=Z8J h1
 obtain ⟨k_,hs1,h3⟩:=Z8J h2
 obtain ⟨i,hs5,h4⟩:=Z8J h3
 refine ⟨_,?_,(jir a k_ i k).trans h4⟩
 exact Z9e hn ⟨hs0,hs1,hs5,trivial⟩ trivial)
noncomputable def j4Q (a:List qQ) (k_:Int) (i:Int) (k0:(List qQ)->Int->Res):Res:=
 bif inb i (List.length a) then
  j91 (nth (0,(0,0,0,eS,[],[],0,eS,[],[],eS,eS),0,0,0) a i).2.1.2.2.2.2.2.2.2.2.1 k_ λ(r:Int) (a1:List qC)=>
   k0 (upd a i ((nth (0,(0,0,0,eS,[],[],0,eS,[],[],eS,eS),0,0,0) a i).1,((nth (0,(0,0,0,eS,[],[],0,eS,[],[],eS,eS),0,0,0) a i).2.1.1,(nth (0,(0,0,0,eS,[],[],0,eS,[],[],eS,eS),0,0,0) a i).2.1.2.1,(nth (0,(0,0,0,eS,[],[],0,eS,[],[],eS,eS),0,0,0) a i).2.1.2.2.1,(nth (0,(0,0,0,eS,[],[],0,eS,[],[],eS,eS),0,0,0) a i).2.1.2.2.2.1,(nth (0,(0,0,0,eS,[],[],0,eS,[],[],eS,eS),0,0,0) a i).2.1.2.2.2.2.1,(nth (0,(0,0,0,eS,[],[],0,eS,[],[],eS,eS),0,0,0) a i).2.1.2.2.2.2.2.1,(nth (0,(0,0,0,eS,[],[],0,eS,[],[],eS,eS),0,0,0) a i).2.1.2.2.2.2.2.2.1,(nth (0,(0,0,0,eS,[],[],0,eS,[],[],eS,eS),0,0,0) a i).2.1.2.2.2.2.2.2.2.1,a1,(nth (0,(0,0,0,eS,[],[],0,eS,[],[],eS,eS),0,0,0) a i).2.1.2.2.2.2.2.2.2.2.2),(nth (0,(0,0,0,eS,[],[],0,eS,[],[],eS,eS),0,0,0) a i).2.2)) r
 else none
noncomputable def j0v:Z1l Unit:=λσ k=>rdN σ 158<|rdV σ 0 y25 false [.O] λa=>rdV σ 1 (.int .i64) false [] λk_=>rdV σ 5 (.int .i64) false [] λi=>j4Q a k_ i (λ(a2:List qQ) (k_1:Int)=>k .normal (mkS 158 158 [(0,.val ⟨y25,false,a2,[.O]⟩),(1,.val ⟨(.int .i64),false,k_1,[]⟩),(5,.val ⟨(.int .i64),false,i,[]⟩)] []))
theorem jis (a:List qQ) (k_:Int) (i:Int) (k:Z6G Unit):Z0R j0F [j0a,j0c,j0f,j0m,j0q] .o (pl (pr (pr (pr (pr (pr (pr (pr (pr (pr (pr (pr (pr (pr (pr (pr (pr (pl (pl (pr (pl (pl (pr (pl (pr j05))))))))))))))))))))))))) (mkS 158 158 [(0,.val ⟨y25,false,a,[.O]⟩),(1,.val ⟨(.int .i64),false,k_,[]⟩),(5,.val ⟨(.int .i64),false,i,[]⟩)] []) (λe σ=>k e ((Z8a ([0,1,5],[]) [] ([],[])) e σ))=j4Q a k_ i (λ(a2:List qQ) (k_1:Int)=>k .normal (mkS 158 158 [(0,.val ⟨y25,false,a2,[.O]⟩),(1,.val ⟨(.int .i64),false,k_1,[]⟩),(5,.val ⟨(.int .i64),false,i,[]⟩)] [])):=by kernel_rfl
theorem jj4 {W0:Base} {M:Nat->Prop} (hnp:W0.np<=1):Z1W Tryz.prog W0 M (pl (pr (pr (pr (pr (pr (pr (pr (pr (pr (pr (pr (pr (pr (pr (pr (pr (pl (pl (pr (pl (pl (pr (pl (pr j05))))))))))))))))))))))))) j0v:=Z91 (Z6Q follows j00 (Z7K (Z8C j09 (Z8C j14 (Z8C j13 (Z8C j0B Z8W))))) hnp [j0a,j0c,j0f,j0m,j0q] ((pl (pr (pr (pr (pr (pr (pr (pr (pr (pr (pr (pr (pr (pr (pr (pr (pr (pl (pl (pr (pl (pl (pr (pl (pr j05)))))))))))))))))))))))))) .o trivial) (fg:=(Z8a ([0,1,5],[]) [] ([],[]))) (Z8U _ _ _) (by
 intro σ k r h
 obtain ⟨hn,h1⟩:=Z8G h
 obtain ⟨a,hs0,h2⟩:=Z8J h1
 obtain ⟨k_,hs1,h3⟩:=Z8J h2
 obtain ⟨i,hs5,h4⟩:=Z8J h3
 refine ⟨_,?_,(jis a k_ i k).trans h4⟩
 exact Z9e hn ⟨hs0,hs1,hs5,trivial⟩ trivial)
noncomputable def j4R (a:List qQ) (k_:Int) (i:Int) (k0:(List qQ)->Int->Res):Res:=
 bif inb i (List.length a) then
  j5I (nth (0,(0,0,0,eS,[],[],0,eS,[],[],eS,eS),0,0,0) a i).2.1.2.2.2.2.2.2.2.2.2.1 k_ λ(r:Int) (a1:qL)=>
   k0 (upd a i ((nth (0,(0,0,0,eS,[],[],0,eS,[],[],eS,eS),0,0,0) a i).1,((nth (0,(0,0,0,eS,[],[],0,eS,[],[],eS,eS),0,0,0) a i).2.1.1,(nth (0,(0,0,0,eS,[],[],0,eS,[],[],eS,eS),0,0,0) a i).2.1.2.1,(nth (0,(0,0,0,eS,[],[],0,eS,[],[],eS,eS),0,0,0) a i).2.1.2.2.1,(nth (0,(0,0,0,eS,[],[],0,eS,[],[],eS,eS),0,0,0) a i).2.1.2.2.2.1,(nth (0,(0,0,0,eS,[],[],0,eS,[],[],eS,eS),0,0,0) a i).2.1.2.2.2.2.1,(nth (0,(0,0,0,eS,[],[],0,eS,[],[],eS,eS),0,0,0) a i).2.1.2.2.2.2.2.1,(nth (0,(0,0,0,eS,[],[],0,eS,[],[],eS,eS),0,0,0) a i).2.1.2.2.2.2.2.2.1,(nth (0,(0,0,0,eS,[],[],0,eS,[],[],eS,eS),0,0,0) a i).2.1.2.2.2.2.2.2.2.1,(nth (0,(0,0,0,eS,[],[],0,eS,[],[],eS,eS),0,0,0) a i).2.1.2.2.2.2.2.2.2.2.1,a1,(nth (0,(0,0,0,eS,[],[],0,eS,[],[],eS,eS),0,0,0) a i).2.1.2.2.2.2.2.2.2.2.2.2),(nth (0,(0,0,0,eS,[],[],0,eS,[],[],eS,eS),0,0,0) a i).2.2)) r
 else none
noncomputable def j0G:Z1l Unit:=λσ k=>rdN σ 158<|rdV σ 0 y25 false [.O] λa=>rdV σ 1 (.int .i64) false [] λk_=>rdV σ 5 (.int .i64) false [] λi=>j4R a k_ i (λ(a2:List qQ) (k_1:Int)=>k .normal (mkS 158 158 [(0,.val ⟨y25,false,a2,[.O]⟩),(1,.val ⟨(.int .i64),false,k_1,[]⟩),(5,.val ⟨(.int .i64),false,i,[]⟩)] []))
theorem jit (a:List qQ) (k_:Int) (i:Int) (k:Z6G Unit):Z0R j0F [j0a,j0c,j0f,j0m,j0q,j0v] .o (pl (pr (pr (pr (pr (pr (pr (pr (pr (pr (pr (pr (pr (pr (pr (pr (pr (pr (pl (pl (pr (pl (pl (pr (pl (pr j05)))))))))))))))))))))))))) (mkS 158 158 [(0,.val ⟨y25,false,a,[.O]⟩),(1,.val ⟨(.int .i64),false,k_,[]⟩),(5,.val ⟨(.int .i64),false,i,[]⟩)] []) (λe σ=>k e ((Z8a ([0,1,5],[]) [] ([],[])) e σ))=j4R a k_ i (λ(a2:List qQ) (k_1:Int)=>k .normal (mkS 158 158 [(0,.val ⟨y25,false,a2,[.O]⟩),(1,.val ⟨(.int .i64),false,k_1,[]⟩),(5,.val ⟨(.int .i64),false,i,[]⟩)] [])):=by kernel_rfl
theorem jj5 {W0:Base} {M:Nat->Prop} (hnp:W0.np<=1):Z1W Tryz.prog W0 M (pl (pr (pr (pr (pr (pr (pr (pr (pr (pr (pr (pr (pr (pr (pr (pr (pr (pr (pl (pl (pr (pl (pl (pr (pl (pr j05)))))))))))))))))))))))))) j0G:=Z91 (Z6Q follows j00 (Z7K (Z8C j09 (Z8C j14 (Z8C j13 (Z8C j0B Z8W))))) hnp [j0a,j0c,j0f,j0m,j0q,j0v] ((pl (pr (pr (pr (pr (pr (pr (pr (pr (pr (pr (pr (pr (pr (pr (pr (pr (pr (pl (pl (pr (pl (pl (pr (pl (pr j05))))))))))))))))))))))))))) .o trivial) (fg:=(Z8a ([0,1,5],[]) [] ([],[]))) (Z8U _ _ _) (by
 intro σ k r h
 obtain ⟨hn,h1⟩:=Z8G h
 obtain ⟨a,hs0,h2⟩:=Z8J h1
 obtain ⟨k_,hs1,h3⟩:=Z8J h2
 obtain ⟨i,hs5,h4⟩:=Z8J h3
 refine ⟨_,?_,(jit a k_ i k).trans h4⟩
 exact Z9e hn ⟨hs0,hs1,hs5,trivial⟩ trivial)
noncomputable def j4S (a:List qQ) (k_:Int) (i:Int) (k0:(List qQ)->Res):Res:=
 j0r k_ λ(r:qB)=>
  bif inb i (List.length a) then
   k0 (upd a i ((nth (0,(0,0,0,eS,[],[],0,eS,[],[],eS,eS),0,0,0) a i).1,((nth (0,(0,0,0,eS,[],[],0,eS,[],[],eS,eS),0,0,0) a i).2.1.1,(nth (0,(0,0,0,eS,[],[],0,eS,[],[],eS,eS),0,0,0) a i).2.1.2.1,(nth (0,(0,0,0,eS,[],[],0,eS,[],[],eS,eS),0,0,0) a i).2.1.2.2.1,(nth (0,(0,0,0,eS,[],[],0,eS,[],[],eS,eS),0,0,0) a i).2.1.2.2.2.1,(nth (0,(0,0,0,eS,[],[],0,eS,[],[],eS,eS),0,0,0) a i).2.1.2.2.2.2.1,(nth (0,(0,0,0,eS,[],[],0,eS,[],[],eS,eS),0,0,0) a i).2.1.2.2.2.2.2.1,(nth (0,(0,0,0,eS,[],[],0,eS,[],[],eS,eS),0,0,0) a i).2.1.2.2.2.2.2.2.1,(nth (0,(0,0,0,eS,[],[],0,eS,[],[],eS,eS),0,0,0) a i).2.1.2.2.2.2.2.2.2.1,(nth (0,(0,0,0,eS,[],[],0,eS,[],[],eS,eS),0,0,0) a i).2.1.2.2.2.2.2.2.2.2.1,(nth (0,(0,0,0,eS,[],[],0,eS,[],[],eS,eS),0,0,0) a i).2.1.2.2.2.2.2.2.2.2.2.1,r,(nth (0,(0,0,0,eS,[],[],0,eS,[],[],eS,eS),0,0,0) a i).2.1.2.2.2.2.2.2.2.2.2.2.2),(nth (0,(0,0,0,eS,[],[],0,eS,[],[],eS,eS),0,0,0) a i).2.2))
  else none
noncomputable def j1i:Z1l Unit:=λσ k=>rdN σ 158<|rdV σ 0 y25 false [.O] λa=>rdV σ 1 (.int .i64) false [] λk_=>rdV σ 5 (.int .i64) false [] λi=>j4S a k_ i (λ(a1:List qQ)=>k .normal (mkS 158 158 [(0,.val ⟨y25,false,a1,[.O]⟩),(1,.val ⟨(.int .i64),false,k_,[]⟩),(5,.val ⟨(.int .i64),false,i,[]⟩)] []))
theorem jiu (a:List qQ) (k_:Int) (i:Int) (k:Z6G Unit):Z0R j0F [j0a,j0c,j0f,j0m,j0q,j0v,j0G] .o (pl (pr (pr (pr (pr (pr (pr (pr (pr (pr (pr (pr (pr (pr (pr (pr (pr (pr (pr (pl (pl (pr (pl (pl (pr (pl (pr j05))))))))))))))))))))))))))) (mkS 158 158 [(0,.val ⟨y25,false,a,[.O]⟩),(1,.val ⟨(.int .i64),false,k_,[]⟩),(5,.val ⟨(.int .i64),false,i,[]⟩)] []) (λe σ=>k e ((Z8a ([0,1,5],[]) [] ([],[])) e σ))=j4S a k_ i (λ(a1:List qQ)=>k .normal (mkS 158 158 [(0,.val ⟨y25,false,a1,[.O]⟩),(1,.val ⟨(.int .i64),false,k_,[]⟩),(5,.val ⟨(.int .i64),false,i,[]⟩)] [])):=by kernel_rfl
theorem jj6 {W0:Base} {M:Nat->Prop} (hnp:W0.np<=1):Z1W Tryz.prog W0 M (pl (pr (pr (pr (pr (pr (pr (pr (pr (pr (pr (pr (pr (pr (pr (pr (pr (pr (pr (pl (pl (pr (pl (pl (pr (pl (pr j05))))))))))))))))))))))))))) j1i:=Z91 (Z6Q follows j00 (Z7K (Z8C j09 (Z8C j14 (Z8C j13 (Z8C j0B Z8W))))) hnp [j0a,j0c,j0f,j0m,j0q,j0v,j0G] ((pl (pr (pr (pr (pr (pr (pr (pr (pr (pr (pr (pr (pr (pr (pr (pr (pr (pr (pr (pl (pl (pr (pl (pl (pr (pl (pr j05)))))))))))))))))))))))))))) .o trivial) (fg:=(Z8a ([0,1,5],[]) [] ([],[]))) (Z8U _ _ _) (by
 intro σ k r h
 obtain ⟨hn,h1⟩:=Z8G h
 obtain ⟨a,hs0,h2⟩:=Z8J h1
 obtain ⟨k_,hs1,h3⟩:=Z8J h2
 obtain ⟨i,hs5,h4⟩:=Z8J h3
 refine ⟨_,?_,(jiu a k_ i k).trans h4⟩
 exact Z9e hn ⟨hs0,hs1,hs5,trivial⟩ trivial)
noncomputable def j4T (a:List qQ) (k_:Int) (i:Int) (k0:(List qQ)->Res):Res:=
 j0r k_ λ(r:qB)=>
  bif inb i (List.length a) then
   k0 (upd a i ((nth (0,(0,0,0,eS,[],[],0,eS,[],[],eS,eS),0,0,0) a i).1,((nth (0,(0,0,0,eS,[],[],0,eS,[],[],eS,eS),0,0,0) a i).2.1.1,(nth (0,(0,0,0,eS,[],[],0,eS,[],[],eS,eS),0,0,0) a i).2.1.2.1,(nth (0,(0,0,0,eS,[],[],0,eS,[],[],eS,eS),0,0,0) a i).2.1.2.2.1,(nth (0,(0,0,0,eS,[],[],0,eS,[],[],eS,eS),0,0,0) a i).2.1.2.2.2.1,(nth (0,(0,0,0,eS,[],[],0,eS,[],[],eS,eS),0,0,0) a i).2.1.2.2.2.2.1,(nth (0,(0,0,0,eS,[],[],0,eS,[],[],eS,eS),0,0,0) a i).2.1.2.2.2.2.2.1,(nth (0,(0,0,0,eS,[],[],0,eS,[],[],eS,eS),0,0,0) a i).2.1.2.2.2.2.2.2.1,(nth (0,(0,0,0,eS,[],[],0,eS,[],[],eS,eS),0,0,0) a i).2.1.2.2.2.2.2.2.2.1,(nth (0,(0,0,0,eS,[],[],0,eS,[],[],eS,eS),0,0,0) a i).2.1.2.2.2.2.2.2.2.2.1,(nth (0,(0,0,0,eS,[],[],0,eS,[],[],eS,eS),0,0,0) a i).2.1.2.2.2.2.2.2.2.2.2.1,(nth (0,(0,0,0,eS,[],[],0,eS,[],[],eS,eS),0,0,0) a i).2.1.2.2.2.2.2.2.2.2.2.2.1,r),(nth (0,(0,0,0,eS,[],[],0,eS,[],[],eS,eS),0,0,0) a i).2.2))
  else none
noncomputable def j2e:Z1l Unit:=λσ k=>rdN σ 158<|rdV σ 0 y25 false [.O] λa=>rdV σ 1 (.int .i64) false [] λk_=>rdV σ 5 (.int .i64) false [] λi=>j4T a k_ i (λ(a1:List qQ)=>k .normal (mkS 158 158 [(0,.val ⟨y25,false,a1,[.O]⟩),(1,.val ⟨(.int .i64),false,k_,[]⟩),(5,.val ⟨(.int .i64),false,i,[]⟩)] []))
theorem jiv (a:List qQ) (k_:Int) (i:Int) (k:Z6G Unit):Z0R j0F [j0a,j0c,j0f,j0m,j0q,j0v,j0G,j1i] .o (pl (pr (pr (pr (pr (pr (pr (pr (pr (pr (pr (pr (pr (pr (pr (pr (pr (pr (pr (pr (pr (pl (pl (pr (pl (pl (pr (pl (pr j05))))))))))))))))))))))))))))) (mkS 158 158 [(0,.val ⟨y25,false,a,[.O]⟩),(1,.val ⟨(.int .i64),false,k_,[]⟩),(5,.val ⟨(.int .i64),false,i,[]⟩)] []) (λe σ=>k e ((Z8a ([0,1,5],[]) [] ([],[])) e σ))=j4T a k_ i (λ(a1:List qQ)=>k .normal (mkS 158 158 [(0,.val ⟨y25,false,a1,[.O]⟩),(1,.val ⟨(.int .i64),false,k_,[]⟩),(5,.val ⟨(.int .i64),false,i,[]⟩)] [])):=by kernel_rfl
theorem jj7 {W0:Base} {M:Nat->Prop} (hnp:W0.np<=1):Z1W Tryz.prog W0 M (pl (pr (pr (pr (pr (pr (pr (pr (pr (pr (pr (pr (pr (pr (pr (pr (pr (pr (pr (pr (pr (pl (pl (pr (pl (pl (pr (pl (pr j05))))))))))))))))))))))))))))) j2e:=Z91 (Z6Q follows j00 (Z7K (Z8C j09 (Z8C j14 (Z8C j13 (Z8C j0B Z8W))))) hnp [j0a,j0c,j0f,j0m,j0q,j0v,j0G,j1i] ((pl (pr (pr (pr (pr (pr (pr (pr (pr (pr (pr (pr (pr (pr (pr (pr (pr (pr (pr (pr (pr (pl (pl (pr (pl (pl (pr (pl (pr j05)))))))))))))))))))))))))))))) .o trivial) (fg:=(Z8a ([0,1,5],[]) [] ([],[]))) (Z8U _ _ _) (by
 intro σ k r h
 obtain ⟨hn,h1⟩:=Z8G h
 obtain ⟨a,hs0,h2⟩:=Z8J h1
 obtain ⟨k_,hs1,h3⟩:=Z8J h2
 obtain ⟨i,hs5,h4⟩:=Z8J h3
 refine ⟨_,?_,(jiv a k_ i k).trans h4⟩
 exact Z9e hn ⟨hs0,hs1,hs5,trivial⟩ trivial)
noncomputable def j4U (a:List qQ) (k_:Int) (i:Int) (k0:(List qQ)->Res):Res:=
 bif inb i (List.length a) then
  k0 (upd a i ((nth (0,(0,0,0,eS,[],[],0,eS,[],[],eS,eS),0,0,0) a i).1,(nth (0,(0,0,0,eS,[],[],0,eS,[],[],eS,eS),0,0,0) a i).2.1,(nth (0,(0,0,0,eS,[],[],0,eS,[],[],eS,eS),0,0,0) a i).2.2.1,k_,(nth (0,(0,0,0,eS,[],[],0,eS,[],[],eS,eS),0,0,0) a i).2.2.2.2))
 else none
noncomputable def j4k:Z1l Unit:=λσ k=>rdN σ 158<|rdV σ 0 y25 false [.O] λa=>rdV σ 1 (.int .i64) false [] λk_=>rdV σ 5 (.int .i64) false [] λi=>j4U a k_ i (λ(a1:List qQ)=>k .normal (mkS 158 158 [(0,.val ⟨y25,false,a1,[.O]⟩),(1,.val ⟨(.int .i64),false,k_,[]⟩),(5,.val ⟨(.int .i64),false,i,[]⟩)] []))
theorem jiw (a:List qQ) (k_:Int) (i:Int) (k:Z6G Unit):Z0R j0F [j0a,j0c,j0f,j0m,j0q,j0v,j0G,j1i,j2e] .o (pl (pr (pr (pr (pr (pr (pr (pr (pr (pr (pr (pr (pr (pr (pr (pr (pr (pr (pr (pr (pr (pr (pr (pr (pr (pl (pl (pr (pl (pl (pr (pl (pr j05))))))))))))))))))))))))))))))))) (mkS 158 158 [(0,.val ⟨y25,false,a,[.O]⟩),(1,.val ⟨(.int .i64),false,k_,[]⟩),(5,.val ⟨(.int .i64),false,i,[]⟩)] []) (λe σ=>k e ((Z8a ([0,1,5],[]) [] ([],[])) e σ))=j4U a k_ i (λ(a1:List qQ)=>k .normal (mkS 158 158 [(0,.val ⟨y25,false,a1,[.O]⟩),(1,.val ⟨(.int .i64),false,k_,[]⟩),(5,.val ⟨(.int .i64),false,i,[]⟩)] [])):=by kernel_rfl
theorem jj8 {W0:Base} {M:Nat->Prop} (hnp:W0.np<=1):Z1W Tryz.prog W0 M (pl (pr (pr (pr (pr (pr (pr (pr (pr (pr (pr (pr (pr (pr (pr (pr (pr (pr (pr (pr (pr (pr (pr (pr (pr (pl (pl (pr (pl (pl (pr (pl (pr j05))))))))))))))))))))))))))))))))) j4k:=Z91 (Z6Q follows j00 (Z7K (Z8C j09 (Z8C j14 (Z8C j13 (Z8C j0B Z8W))))) hnp [j0a,j0c,j0f,j0m,j0q,j0v,j0G,j1i,j2e] ((pl (pr (pr (pr (pr (pr (pr (pr (pr (pr (pr (pr (pr (pr (pr (pr (pr (pr (pr (pr (pr (pr (pr (pr (pr (pl (pl (pr (pl (pl (pr (pl (pr j05)))))))))))))))))))))))))))))))))) .o trivial) (fg:=(Z8a ([0,1,5],[]) [] ([],[]))) (Z8U _ _ _) (by
 intro σ k r h
 obtain ⟨hn,h1⟩:=Z8G h
 obtain ⟨a,hs0,h2⟩:=Z8J h1
 obtain ⟨k_,hs1,h3⟩:=Z8J h2
 obtain ⟨i,hs5,h4⟩:=Z8J h3
 refine ⟨_,?_,(jiw a k_ i k).trans h4⟩
 exact Z9e hn ⟨hs0,hs1,hs5,trivial⟩ trivial)
noncomputable def j3j (a:List qQ) (k_:Int) (i:Int) (rec:(List qQ)->Int->Int->Res) (k0:(List qQ)->Int->Res):Res:=
 bif decide (i<(nI (List.length a))) then
  bif inb i (List.length a) then
   bif inb i (List.length (upd a i (k_,(nth (0,(0,0,0,eS,[],[],0,eS,[],[],eS,eS),0,0,0) a i).2))) then
    j4L (upd (upd a i (k_,(nth (0,(0,0,0,eS,[],[],0,eS,[],[],eS,eS),0,0,0) a i).2)) i ((nth (0,(0,0,0,eS,[],[],0,eS,[],[],eS,eS),0,0,0) (upd a i (k_,(nth (0,(0,0,0,eS,[],[],0,eS,[],[],eS,eS),0,0,0) a i).2)) i).1,(Z8g (k_+1),(nth (0,(0,0,0,eS,[],[],0,eS,[],[],eS,eS),0,0,0) (upd a i (k_,(nth (0,(0,0,0,eS,[],[],0,eS,[],[],eS,eS),0,0,0) a i).2)) i).2.1.2),(nth (0,(0,0,0,eS,[],[],0,eS,[],[],eS,eS),0,0,0) (upd a i (k_,(nth (0,(0,0,0,eS,[],[],0,eS,[],[],eS,eS),0,0,0) a i).2)) i).2.2)) (Z8g ((Z8g (k_+1))+1)) i λ(a1:List qQ)=>
     bif inb i (List.length a1) then
      j4M (upd a1 i ((nth (0,(0,0,0,eS,[],[],0,eS,[],[],eS,eS),0,0,0) a1 i).1,((nth (0,(0,0,0,eS,[],[],0,eS,[],[],eS,eS),0,0,0) a1 i).2.1.1,(nth (0,(0,0,0,eS,[],[],0,eS,[],[],eS,eS),0,0,0) a1 i).2.1.2.1,Z8g ((Z8g ((Z8g (k_+1))+1))+1),(nth (0,(0,0,0,eS,[],[],0,eS,[],[],eS,eS),0,0,0) a1 i).2.1.2.2.2),(nth (0,(0,0,0,eS,[],[],0,eS,[],[],eS,eS),0,0,0) a1 i).2.2)) (Z8g ((Z8g ((Z8g ((Z8g (k_+1))+1))+1))+1)) i λ(a2:List qQ)=>
       bif inb i (List.length a2) then
        j6e (nth (0,(0,0,0,eS,[],[],0,eS,[],[],eS,eS),0,0,0) a2 i).2.1.2.2.2.2.1 (Z8g ((Z8g ((Z8g ((Z8g ((Z8g (k_+1))+1))+1))+1))+1)) λ(r:Int) (a3:List qV)=>
         j4N (upd a2 i ((nth (0,(0,0,0,eS,[],[],0,eS,[],[],eS,eS),0,0,0) a2 i).1,((nth (0,(0,0,0,eS,[],[],0,eS,[],[],eS,eS),0,0,0) a2 i).2.1.1,(nth (0,(0,0,0,eS,[],[],0,eS,[],[],eS,eS),0,0,0) a2 i).2.1.2.1,(nth (0,(0,0,0,eS,[],[],0,eS,[],[],eS,eS),0,0,0) a2 i).2.1.2.2.1,(nth (0,(0,0,0,eS,[],[],0,eS,[],[],eS,eS),0,0,0) a2 i).2.1.2.2.2.1,a3,(nth (0,(0,0,0,eS,[],[],0,eS,[],[],eS,eS),0,0,0) a2 i).2.1.2.2.2.2.2),(nth (0,(0,0,0,eS,[],[],0,eS,[],[],eS,eS),0,0,0) a2 i).2.2)) r i λ(a4:List qQ) (k_1:Int)=>
          j4O a4 k_1 i λ(a5:List qQ)=>
           j4P a5 (Z8g (k_1+1)) i λ(a6:List qQ)=>
            j4Q a6 (Z8g ((Z8g (k_1+1))+1)) i λ(a7:List qQ) (k_2:Int)=>
             j4R a7 k_2 i λ(a8:List qQ) (k_3:Int)=>
              j4S a8 k_3 i λ(a9:List qQ)=>
               j4T a9 (Z8g (k_3+1)) i λ(a10:List qQ)=>
                bif inb i (List.length a10) then
                 j4U (upd a10 i ((nth (0,(0,0,0,eS,[],[],0,eS,[],[],eS,eS),0,0,0) a10 i).1,(nth (0,(0,0,0,eS,[],[],0,eS,[],[],eS,eS),0,0,0) a10 i).2.1,Z8g ((Z8g (k_3+1))+1),(nth (0,(0,0,0,eS,[],[],0,eS,[],[],eS,eS),0,0,0) a10 i).2.2.2)) (Z8g ((Z8g ((Z8g (k_3+1))+1))+1)) i λ(a11:List qQ)=>
                  bif inb i (List.length a11) then
                   rec (upd a11 i ((nth (0,(0,0,0,eS,[],[],0,eS,[],[],eS,eS),0,0,0) a11 i).1,(nth (0,(0,0,0,eS,[],[],0,eS,[],[],eS,eS),0,0,0) a11 i).2.1,(nth (0,(0,0,0,eS,[],[],0,eS,[],[],eS,eS),0,0,0) a11 i).2.2.1,(nth (0,(0,0,0,eS,[],[],0,eS,[],[],eS,eS),0,0,0) a11 i).2.2.2.1,Z8g ((Z8g ((Z8g ((Z8g (k_3+1))+1))+1))+1))) (Z8g ((Z8g ((Z8g ((Z8g ((Z8g (k_3+1))+1))+1))+1))+1)) (Z8g (i+1))
                  else none
                else none
       else none
     else none
   else none
  else none
 else
  k0 a k_
noncomputable def j5b:((List qQ)×Int×Int)->((List qQ)×Int×Int->Res)->(((List qQ)->Int->Res))->Res:=λv rec q=>j3j v.1 v.2.1 v.2.2 (λa k_ i=>rec (a,k_,i)) q
noncomputable def jaf (n:Nat) (a:List qQ) (k_:Int) (i:Int) (k0:(List qQ)->Int->Res):Res:=Z10 (j5b) n (a,k_,i) (k0)
noncomputable def j5Z:Z1l Unit:=λσ k=>rdN σ 158<|rdV σ 0 y25 false [.O] λa=>rdV σ 1 (.int .i64) false [] λk_=>rdV σ 5 (.int .i64) false [] λi=>jaf Z0Y a k_ i (λ(a12:List qQ) (k_4:Int)=>k (.exit 0) (mkS 158 158 [(0,.val ⟨y25,false,a12,[.O]⟩),(1,.val ⟨(.int .i64),false,k_4,[]⟩)] []))
theorem ji2  (n:Nat) (v:(List qQ)×Int×Int) (k:Z6G Unit):Z3X (Z0R j0F [j0a,j0c,j0f,j0m,j0q,j0v,j0G,j1i,j2e,j4k] (.t .o (.t (.t (.t .o (.t .o (.t .o (.t .o (.t (.x 0) (.t .o (.t .o (.t .o (.t (.x 1) (.t .o (.t .o (.t (.x 2) (.t (.x 3) (.t .o (.t (.x 4) (.t .o (.t (.x 5) (.t (.x 6) (.t (.x 7) (.t .o (.t (.x 8) (.t .o (.t .o (.t .o (.t (.x 9) .o))))))))))))))))))))))))) .o) .o)) (pl (pl (pr (pl (pr j05)))))) (λσ=>σ.forget [0,1,5] []) (Z8a ([],[]) [(0,[0,1],[])] ([],[])) n (mkS 158 158 [(0,.val ⟨y25,false,v.1,[.O]⟩),(1,.val ⟨(.int .i64),false,v.2.1,[]⟩),(5,.val ⟨(.int .i64),false,v.2.2,[]⟩)] []) k=Z10 (j5b) n v ((λ(k:Z6G Unit)=>(((λ(a12:List qQ) (k_4:Int)=>k (.exit 0) (mkS 158 158 [(0,.val ⟨y25,false,a12,[.O]⟩),(1,.val ⟨(.int .i64),false,k_4,[]⟩)] []))):((List qQ)->Int->Res))) k):=Z80 (λv:(List qQ)×Int×Int=>(mkS 158 158 [(0,.val ⟨y25,false,v.1,[.O]⟩),(1,.val ⟨(.int .i64),false,v.2.1,[]⟩),(5,.val ⟨(.int .i64),false,v.2.2,[]⟩)] [])) (j5b) (λ(k:Z6G Unit)=>(((λ(a12:List qQ) (k_4:Int)=>k (.exit 0) (mkS 158 158 [(0,.val ⟨y25,false,a12,[.O]⟩),(1,.val ⟨(.int .i64),false,k_4,[]⟩)] []))):((List qQ)->Int->Res))) (λv rec k=>by kernel_rfl) n v k
theorem ji7 {W0:Base} {M:Nat->Prop} (hnp:W0.np<=1):Z1W Tryz.prog W0 M (pl (pr (pl (pr j05)))) j5Z:=show Z1W Tryz.prog W0 M (Code.loop (pl (pl (pr (pl (pr j05)))))) j5Z from Z8X (Z6Q follows j00 (Z7K (Z8C j09 (Z8C j14 (Z8C j13 (Z8C j0B Z8W))))) hnp [j0a,j0c,j0f,j0m,j0q,j0v,j0G,j1i,j2e,j4k] (pl (pl (pr (pl (pr j05))))) (.t .o (.t (.t (.t .o (.t .o (.t .o (.t .o (.t (.x 0) (.t .o (.t .o (.t .o (.t (.x 1) (.t .o (.t .o (.t (.x 2) (.t (.x 3) (.t .o (.t (.x 4) (.t .o (.t (.x 5) (.t (.x 6) (.t (.x 7) (.t .o (.t (.x 8) (.t .o (.t .o (.t .o (.t (.x 9) .o))))))))))))))))))))))))) .o) .o)) (Z1A.mk trivial ((Z1A.mk ((Z1A.mk ((Z1A.mk trivial ((Z1A.mk trivial ((Z1A.mk trivial ((Z1A.mk trivial ((Z1A.mk (Z1A.x_mk (λW0 M hnp=>jiZ (W0:=W0) (M:=M) hnp)) ((Z1A.mk trivial ((Z1A.mk trivial ((Z1A.mk trivial ((Z1A.mk (Z1A.x_mk (λW0 M hnp=>jj0 (W0:=W0) (M:=M) hnp)) ((Z1A.mk trivial ((Z1A.mk trivial ((Z1A.mk (Z1A.x_mk (λW0 M hnp=>jj1 (W0:=W0) (M:=M) hnp)) ((Z1A.mk (Z1A.x_mk (λW0 M hnp=>jj2 (W0:=W0) (M:=M) hnp)) ((Z1A.mk trivial ((Z1A.mk (Z1A.x_mk (λW0 M hnp=>jj3 (W0:=W0) (M:=M) hnp)) ((Z1A.mk trivial ((Z1A.mk (Z1A.x_mk (λW0 M hnp=>jj4 (W0:=W0) (M:=M) hnp)) ((Z1A.mk (Z1A.x_mk (λW0 M hnp=>jj5 (W0:=W0) (M:=M) hnp)) ((Z1A.mk (Z1A.x_mk (λW0 M hnp=>jj6 (W0:=W0) (M:=M) hnp)) ((Z1A.mk trivial ((Z1A.mk (Z1A.x_mk (λW0 M hnp=>jj7 (W0:=W0) (M:=M) hnp)) ((Z1A.mk trivial ((Z1A.mk trivial ((Z1A.mk trivial ((Z1A.mk (Z1A.x_mk (λW0 M hnp=>jj8 (W0:=W0) (M:=M) hnp)) trivial)))))))))))))))))))))))))))))))))))))))))))))))))) trivial)) trivial)))) (ks:=[0,1,5]) (bs:=[]) (fX:=(Z8a ([],[]) [(0,[0,1],[])] ([],[]))) (Z8U _ _ _) Z0Y (by
 intro σ k r h
 obtain ⟨hn,h1⟩:=Z8G h
 obtain ⟨a,hs0,h2⟩:=Z8J h1
 obtain ⟨k_,hs1,h3⟩:=Z8J h2
 obtain ⟨i,hs5,h4⟩:=Z8J h3
 refine ⟨_,?_,(ji2  Z0Y (a,k_,i) k).trans h4⟩
 exact Z9e hn ⟨hs0,hs1,hs5,trivial⟩ trivial)
noncomputable def j85 (a:List qQ) (k_:Int) (k0:Int->(List qQ)->Res):Res:=
 jaf Z0Y a k_ 0 λ(a1:List qQ) (k_1:Int)=>
  k0 k_1 a1
noncomputable def jf3:Sig Unit:=⟨[.inout y25 false,.borrow (.int .i64) false],[false],λvals ext k=>ao vals y25 [.O] λa vals=>av vals (.int .i64) λk_ vals=>nl vals<|nl ext<|j85 a k_ (λ(r0:Int) (i0:List qQ)=>k [⟨(.int .i64),false,r0,[]⟩] [⟨y25,false,i0,[.O]⟩] [])⟩
theorem jkP (a_a:Bool) (a:List qQ) (k_:Int) (a_k_:Bool) (t_k_:List Tag) (k:qK):Z6X j0F [j0a,j0c,j0f,j0m,j0q,j0v,j0G,j1i,j2e,j4k,j5Z] (.t .o (.t (.t .o (.t (.x 10) .o)) .o)) false Tryz.f45 [.inout y25 false,.borrow (.int .i64) false] [false] [⟨y25,a_a,a,[.O]⟩,⟨(.int .i64),a_k_,k_,t_k_⟩] [] k=j85 a k_ (λ(r0:Int) (i0:List qQ)=>k [⟨(.int .i64),false,r0,[]⟩] [⟨y25,false,i0,[.O]⟩] []):=by kernel_rfl
theorem jkW:Z1k Tryz.prog 45 jf3:=Z8N (Γ:=j0F) (X:=[j0a,j0c,j0f,j0m,j0q,j0v,j0G,j1i,j2e,j4k,j5Z]) (ht:=(.t .o (.t (.t .o (.t (.x 10) .o)) .o))) (fz:=false) (c:=j05) follows j00 (Z8C j09 (Z8C j14 (Z8C j13 (Z8C j0B Z8W)))) (Z1A.mk trivial ((Z1A.mk ((Z1A.mk trivial ((Z1A.mk (Z1A.x_mk (λW0 M hnp=>ji7 (W0:=W0) (M:=M) hnp)) trivial)))) trivial))) Tryz.func45 (by kernel_rfl) (by kernel_rfl) (by decide) (by
 intro vals ext k r h
 obtain ⟨a_a,a,vals,rfl,h1⟩:=Z8S h
 obtain ⟨k_,a_k_,t_k_,vals,rfl,h2⟩:=Z8T h1
 obtain ⟨rfl,h3⟩:=Z90 h2
 obtain ⟨rfl,h4⟩:=Z90 h3
 exact (jkP a_a a k_ a_k_ t_k_ k).trans h4)
noncomputable def j5u:Code:=(Tryz.f46.body).getD .skip
noncomputable def jbD:Env Unit:=⟨tys,[(125,j1W),(129,jfR),(130,jfQ),(131,jdW)],0⟩
noncomputable def j3K (a:List qQ) (k_:Int) (i:Int) (rec:Int->Int->Res) (k0:Int->Res) (k1:Unit->Res):Res:=
 bif decide (i<(nI (List.length a))) then
  bif inb i (List.length a) then
   bif ((nth (0,(0,0,0,eS,[],[],0,eS,[],[],eS,eS),0,0,0) a i).1 != k_) then
    k1 ()
   else
    bif inb i (List.length a) then
     bif ((nth (0,(0,0,0,eS,[],[],0,eS,[],[],eS,eS),0,0,0) a i).2.1.1 != (Z8g (k_+1))) then
      k1 ()
     else
      bif inb i (List.length a) then
       bif ((nth (0,(0,0,0,eS,[],[],0,eS,[],[],eS,eS),0,0,0) a i).2.1.2.1 != (Z8g ((Z8g (k_+1))+1))) then
        k1 ()
       else
        bif inb i (List.length a) then
         bif ((nth (0,(0,0,0,eS,[],[],0,eS,[],[],eS,eS),0,0,0) a i).2.1.2.2.1 != (Z8g ((Z8g ((Z8g (k_+1))+1))+1))) then
          k1 ()
         else
          bif inb i (List.length a) then
           j0r (Z8g ((Z8g ((Z8g ((Z8g (k_+1))+1))+1))+1)) λ(r:qB)=>
            bif sNe (nth (0,(0,0,0,eS,[],[],0,eS,[],[],eS,eS),0,0,0) a i).2.1.2.2.2.1 r then
             k1 ()
            else
             bif inb i (List.length a) then
              j6d (nth (0,(0,0,0,eS,[],[],0,eS,[],[],eS,eS),0,0,0) a i).2.1.2.2.2.2.1 (Z8g ((Z8g ((Z8g ((Z8g ((Z8g (k_+1))+1))+1))+1))+1)) λ(r1:Int)=>
               bif decide (r1<0) then
                k1 ()
               else
                bif inb i (List.length a) then
                 j6d (nth (0,(0,0,0,eS,[],[],0,eS,[],[],eS,eS),0,0,0) a i).2.1.2.2.2.2.2.1 r1 λ(r2:Int)=>
                  bif decide (r2<0) then
                   k1 ()
                  else
                   bif inb i (List.length a) then
                    bif ((nth (0,(0,0,0,eS,[],[],0,eS,[],[],eS,eS),0,0,0) a i).2.1.2.2.2.2.2.2.1 != r2) then
                     k1 ()
                    else
                     bif inb i (List.length a) then
                      j0r (Z8g (r2+1)) λ(r3:qB)=>
                       bif sNe (nth (0,(0,0,0,eS,[],[],0,eS,[],[],eS,eS),0,0,0) a i).2.1.2.2.2.2.2.2.2.1 r3 then
                        k1 ()
                       else
                        bif inb i (List.length a) then
                         j90 (nth (0,(0,0,0,eS,[],[],0,eS,[],[],eS,eS),0,0,0) a i).2.1.2.2.2.2.2.2.2.2.1 (Z8g ((Z8g (r2+1))+1)) λ(r4:Int)=>
                          bif decide (r4<0) then
                           k1 ()
                          else
                           bif inb i (List.length a) then
                            j5E (nth (0,(0,0,0,eS,[],[],0,eS,[],[],eS,eS),0,0,0) a i).2.1.2.2.2.2.2.2.2.2.2.1 r4 λ(r5:Int)=>
                             bif decide (r5<0) then
                              k1 ()
                             else
                              bif inb i (List.length a) then
                               j0r r5 λ(r6:qB)=>
                                bif sNe (nth (0,(0,0,0,eS,[],[],0,eS,[],[],eS,eS),0,0,0) a i).2.1.2.2.2.2.2.2.2.2.2.2.1 r6 then
                                 k1 ()
                                else
                                 bif inb i (List.length a) then
                                  j0r (Z8g (r5+1)) λ(r7:qB)=>
                                   bif sNe (nth (0,(0,0,0,eS,[],[],0,eS,[],[],eS,eS),0,0,0) a i).2.1.2.2.2.2.2.2.2.2.2.2.2 r7 then
                                    k1 ()
                                   else
                                    bif inb i (List.length a) then
                                     bif ((nth (0,(0,0,0,eS,[],[],0,eS,[],[],eS,eS),0,0,0) a i).2.2.1 != (Z8g ((Z8g (r5+1))+1))) then
                                      k1 ()
                                     else
                                      bif inb i (List.length a) then
                                       bif ((nth (0,(0,0,0,eS,[],[],0,eS,[],[],eS,eS),0,0,0) a i).2.2.2.1 != (Z8g ((Z8g ((Z8g (r5+1))+1))+1))) then
                                        k1 ()
                                       else
                                        bif inb i (List.length a) then
                                         bif ((nth (0,(0,0,0,eS,[],[],0,eS,[],[],eS,eS),0,0,0) a i).2.2.2.2 != (Z8g ((Z8g ((Z8g ((Z8g (r5+1))+1))+1))+1))) then
                                          k1 ()
                                         else
                                          rec (Z8g ((Z8g ((Z8g ((Z8g ((Z8g (r5+1))+1))+1))+1))+1)) (Z8g (i+1))
                                        else none
                                      else none
                                    else none
                                 else none
                              else none
                           else none
                        else none
                     else none
                   else none
                else none
             else none
          else none
        else none
      else none
    else none
  else none
 else
  k0 k_
noncomputable def j5U (a:List qQ):(Int×Int)->(Int×Int->Res)->((Int->Res)×(Unit->Res))->Res:=λv rec q=>j3K a v.1 v.2 (λk_ i=>rec (k_,i)) q.1 q.2
noncomputable def jb3 (a:List qQ) (n:Nat) (k_:Int) (i:Int) (k0:Int->Res) (k1:Unit->Res):Res:=Z10 (j5U a) n (k_,i) (k0,k1)
noncomputable def j71:Z1l Unit:=λσ k=>rdN σ 190<|rdV σ 0 y25 false [.S] λa=>rdV σ 1 (.int .i64) false [] λk_=>rdV σ 5 (.int .i64) false [] λi=>jb3 a Z0Y k_ i (λ(k_1:Int)=>k (.exit 0) (mkS 190 190 [(1,.val ⟨(.int .i64),false,k_1,[]⟩)] [])) (λ(_:Unit)=>k .ret (mkS 190 190 [(4,.val ⟨(.int .i64),false,(-1),[]⟩)] []))
theorem jim (a:List qQ) (n:Nat) (v:Int×Int) (k:Z6G Unit):Z3X (Z0R jbD [] .o (pl (pl (pr (pl (pr j5u)))))) (λσ=>σ.forget [0,1,5] []) (Z8a ([],[]) [(0,[1],[])] ([4],[])) n (mkS 190 190 [(0,.val ⟨y25,false,a,[.S]⟩),(1,.val ⟨(.int .i64),false,v.1,[]⟩),(5,.val ⟨(.int .i64),false,v.2,[]⟩)] []) k=Z10 (j5U a) n v ((λ(k:Z6G Unit)=>(((λ(k_1:Int)=>k (.exit 0) (mkS 190 190 [(1,.val ⟨(.int .i64),false,k_1,[]⟩)] [])),(λ(_:Unit)=>k .ret (mkS 190 190 [(4,.val ⟨(.int .i64),false,(-1),[]⟩)] []))):(Int->Res)×(Unit->Res))) k):=Z80 (λv:Int×Int=>(mkS 190 190 [(0,.val ⟨y25,false,a,[.S]⟩),(1,.val ⟨(.int .i64),false,v.1,[]⟩),(5,.val ⟨(.int .i64),false,v.2,[]⟩)] [])) (j5U a) (λ(k:Z6G Unit)=>(((λ(k_1:Int)=>k (.exit 0) (mkS 190 190 [(1,.val ⟨(.int .i64),false,k_1,[]⟩)] [])),(λ(_:Unit)=>k .ret (mkS 190 190 [(4,.val ⟨(.int .i64),false,(-1),[]⟩)] []))):(Int->Res)×(Unit->Res))) (λv rec k=>by kernel_rfl) n v k
theorem jiY {W0:Base} {M:Nat->Prop} (hnp:W0.np<=0):Z1W Tryz.prog W0 M (pl (pr (pl (pr j5u)))) j71:=show Z1W Tryz.prog W0 M (Code.loop (pl (pl (pr (pl (pr j5u)))))) j71 from Z8X (Z6Q follows j00 (Z7K (Z8C j09 (Z8C jfl (Z8C jfk (Z8C jdQ Z8W))))) hnp [] (pl (pl (pr (pl (pr j5u))))) .o trivial) (ks:=[0,1,5]) (bs:=[]) (fX:=(Z8a ([],[]) [(0,[1],[])] ([4],[]))) (Z8U _ _ _) Z0Y (by
 intro σ k r h
 obtain ⟨hn,h1⟩:=Z8G h
 obtain ⟨a,hs0,h2⟩:=Z8J h1
 obtain ⟨k_,hs1,h3⟩:=Z8J h2
 obtain ⟨i,hs5,h4⟩:=Z8J h3
 refine ⟨_,?_,(jim a Z0Y (k_,i) k).trans h4⟩
 exact Z9e hn ⟨hs0,hs1,hs5,trivial⟩ trivial)
noncomputable def j5p (a:List qQ) (k_:Int) (k0:Int->Res):Res:=
 jb3 a Z0Y k_ 0
  (λ(k_1:Int)=>
   k0 k_1)
  (λ(_:Unit)=>
   k0 (-1))
noncomputable def jf2:Sig Unit:=⟨[.look y25 false,.look (.int .i64) false],[false],λvals ext k=>av vals y25 λa vals=>av vals (.int .i64) λk_ vals=>nl vals<|nl ext<|j5p a k_ (λ(r0:Int)=>k [⟨(.int .i64),false,r0,[]⟩] [] [])⟩
theorem jkO (a:List qQ) (a_a:Bool) (t_a:List Tag) (k_:Int) (a_k_:Bool) (t_k_:List Tag) (k:qK):Z6X jbD [j71] (.t .o (.t (.t .o (.t (.x 0) .o)) .o)) false Tryz.f46 [.look y25 false,.look (.int .i64) false] [false] [⟨y25,a_a,a,t_a⟩,⟨(.int .i64),a_k_,k_,t_k_⟩] [] k=j5p a k_ (λ(r0:Int)=>k [⟨(.int .i64),false,r0,[]⟩] [] []):=by kernel_rfl
theorem jkV:Z1k Tryz.prog 46 jf2:=Z8N (Γ:=jbD) (X:=[j71]) (ht:=(.t .o (.t (.t .o (.t (.x 0) .o)) .o))) (fz:=false) (c:=j5u) follows j00 (Z8C j09 (Z8C jfl (Z8C jfk (Z8C jdQ Z8W)))) (Z1A.mk trivial ((Z1A.mk ((Z1A.mk trivial ((Z1A.mk (Z1A.x_mk (λW0 M hnp=>jiY (W0:=W0) (M:=M) hnp)) trivial)))) trivial))) Tryz.func46 (by kernel_rfl) (by kernel_rfl) (by decide) (by
 intro vals ext k r h
 obtain ⟨a,a_a,t_a,vals,rfl,h1⟩:=Z8T h
 obtain ⟨k_,a_k_,t_k_,vals,rfl,h2⟩:=Z8T h1
 obtain ⟨rfl,h3⟩:=Z90 h2
 obtain ⟨rfl,h4⟩:=Z90 h3
 exact (jkO a a_a t_a k_ a_k_ t_k_ k).trans h4)
end Go.PI.G
namespace Go.PI.G
open Go Go.PI Go.Proofs
open Go.Code (pl pr)
noncomputable def jeE:Code:=(Tryz.f8.body).getD .skip
noncomputable def ja6:Env Unit:=⟨tys,[(42,jen),(43,jem),(44,jgG),(45,jf3),(46,jf2)],0⟩
noncomputable def j2z (aText:qB) (k0:Bool->Res):Res:=
 bif decide ((nI (ByteArray.size aText))>1048576) then
  k0 true
 else
  j6R aText λ(r:List qQ) (r1:Int)=>
   j4n aText λ(r2:List qQ) (r3:Int)=>
    j83 r2 r λ(r4:Bool)=>
     bif !r4 then
      k0 false
     else
      bif (r3 != r1) then
       k0 false
      else
       j85 r2 1 λ(r5:Int) (a:List qQ)=>
        j5p a 1 λ(r6:Int)=>
         bif decide (r6<0) then
          k0 false
         else
          bif (r6 != r5) then
           k0 false
          else
           j4n aText λ(r7:List qQ) (r8:Int)=>
            j83 r7 r λ(r9:Bool)=>
             bif !r9 then
              k0 false
             else
              bif (r8 != r1) then
               k0 false
              else
               j5p a 1 λ(r10:Int)=>
                bif decide (r10<0) then
                 k0 false
                else
                 bif (r10 != r5) then
                  k0 false
                 else
                  k0 true
noncomputable def j2b:Sig Unit:=⟨[.borrow .str false],[false],λvals ext k=>av vals .str λaText vals=>nl vals<|nl ext<|j2z aText (λ(r0:Bool)=>k [⟨.bool,false,r0,[]⟩] [] [])⟩
theorem jez (aText:qB) (a_aText:Bool) (t_aText:List Tag) (k:qK):Z6X ja6 [] .o false Tryz.f8 [.borrow .str false] [false] [⟨.str,a_aText,aText,t_aText⟩] [] k=j2z aText (λ(r0:Bool)=>k [⟨.bool,false,r0,[]⟩] [] []):=by kernel_rfl
theorem jeB:Z1k Tryz.prog 8 j2b:=Z8N (Γ:=ja6) (X:=[]) (ht:= .o) (fz:=false) (c:=jeE) follows j00 (Z8C jjF (Z8C jjE (Z8C jox (Z8C jkW (Z8C jkV Z8W))))) trivial Tryz.func8 (by kernel_rfl) (by kernel_rfl) (by decide) (by
 intro vals ext k r h
 obtain ⟨aText,a_aText,t_aText,vals,rfl,h1⟩:=Z8T h
 obtain ⟨rfl,h2⟩:=Z90 h1
 obtain ⟨rfl,h3⟩:=Z90 h2
 exact (jez aText a_aText t_aText k).trans h3)
end Go.PI.G
namespace Go.PI.G
open Go Go.PI
abbrev V:=Int×Int×ByteArray
theorem jtN (n:Int):wu8 n=n % 256:=by
 unfold wu8 IntKind.wrap
 simp [IntKind.bits,IntKind.signed]
theorem jg4 {n:Int} (h:0<=n/\n<256):wu8 n=n:=by rw [jtN];omega
theorem j0d (s:ByteArray):(Z19 s).length=s.size:=by unfold Z19;simp
theorem jiW (l:List Int):(Z2X l).size=l.length:=by
 show ((l.map λn=>UInt8.ofNat n.toNat).toArray).size=_
 simp
def isB (l:List Int):Prop:=∀ x∈l,0<=x/\x<256
theorem j9h (s:ByteArray):isB (Z19 s):=by
 intro x hx
 unfold Z19 at hx
 obtain ⟨b,_,rfl⟩:=List.mem_map.1 hx
 have:=UInt8.toNat_lt b
 omega
theorem j4q (s:ByteArray):Z2X (Z19 s)=s:=by
 unfold Z2X Z19
 rw [List.map_map]
 have:(λb:UInt8=>b)=(λn:Int=>UInt8.ofNat n.toNat) ∘ λb:UInt8=>(b.toNat:Int):=by
  funext b;simp
 rw [<-this]
 simp
theorem j9S {l:List Int} (h:isB l):Z19 (Z2X l)=l:=by
 unfold Z2X Z19
 simp only [List.map_map]
 have:l.map ((λb:UInt8=>(b.toNat:Int)) ∘ λn:Int=>UInt8.ofNat n.toNat)=l.map id:=by
  refine List.map_congr_left λx hx=> ?_
  have:=h x hx
  simp only [Function.comp,id]
  rw [UInt8.toNat_ofNat']
  omega
 rw [this,List.map_id]
theorem j0t (a b:ByteArray):sEq a b=true↔a=b:=by
 unfold sEq
 rw [beq_iff_eq]
 constructor
 ·intro h
  rw [ByteArray.ext_iff]
  have h1:a.toList=a.data.toList:=by rw [ByteArray.toList_eq]
  have h2:b.toList=b.data.toList:=by rw [ByteArray.toList_eq]
  rw [h1,h2] at h
  exact Array.toList_inj.1 h
 ·rintro rfl;rfl
theorem jex (a b:ByteArray):sNe a b=false↔a=b:=by
 unfold sNe
 rw [Bool.not_eq_false']
 exact j0t a b
def j1C (n:Int):Bool:=decide (-1099511627775<=n/\n<=1099511627775)
def j0w (v:V):Bool:=
 bif v.1==0 then (v.2.1==0)&&sEq v.2.2 eS
 else bif v.1==1 then ((v.2.1==0)||(v.2.1==1))&&sEq v.2.2 eS
 else bif v.1==2 then j1C v.2.1&&sEq v.2.2 eS
 else bif v.1==3 then (v.2.1==0)&&decide (nI v.2.2.size<=30)
 else false
theorem jsu (x:Int):decide (0<=x/\x<=1)=((x==0)||(x==1)):=by
 by_cases h:0<=x/\x<=1
 ·rw [decide_eq_true h]
  have:x=0\/x=1:=by omega
  rcases this with rfl | rfl<;>rfl
 ·rw [decide_eq_false h]
  have h1:(x==0)=false:=by simp;omega
  have h2:(x==1)=false:=by simp;omega
  rw [h1,h2];rfl
theorem jho {v:V} (h:j0w v=true):v=(0,0,eS)\/(∃ n,(n=0\/n=1)/\v=(1,n,eS))\/(∃ n,(-1099511627775<=n/\n<=1099511627775)/\v=(2,n,eS))\/∃ s:ByteArray,s.size<=30/\v=(3,0,s):=by
 obtain ⟨t,n,s⟩:=v
 unfold j0w at h
 simp only at h
 cases h0:t==0
 ·cases h1:t==1
  ·cases h2:t==2
   ·cases h3:t==3
    ·rw [h0,h1,h2,h3] at h;cases h
    ·rw [h0,h1,h2,h3] at h
     simp only [cond_false,cond_true,Bool.and_eq_true,beq_iff_eq,decide_eq_true_eq] at h h3
     obtain ⟨rfl,h⟩:=h
     subst h3
     exact .inr (.inr (.inr ⟨s,by unfold nI at h;omega,rfl⟩))
   ·rw [h0,h1,h2] at h
    simp only [cond_false,cond_true,Bool.and_eq_true,beq_iff_eq] at h h2
    obtain ⟨h,hs⟩:=h
    rw [j0t] at hs
    subst hs;subst h2
    exact .inr (.inr (.inl ⟨n,of_decide_eq_true h,rfl⟩))
  ·rw [h0,h1] at h
   simp only [cond_false,cond_true,Bool.and_eq_true,Bool.or_eq_true,beq_iff_eq] at h h1
   obtain ⟨h,hs⟩:=h
   rw [j0t] at hs
   subst hs;subst h1
   exact .inr (.inl ⟨n,h,rfl⟩)
 ·rw [h0] at h
  simp only [cond_true,Bool.and_eq_true,beq_iff_eq] at h h0
  obtain ⟨h,hs⟩:=h
  rw [j0t] at hs
  subst hs;subst h0;subst h
  exact .inl rfl
theorem jsO {v:V} (h:j0w v=true):v.2.2.size<=30:=by
 rcases jho h with rfl | ⟨n,_,rfl⟩ | ⟨n,_,rfl⟩ | ⟨s,hs,rfl⟩
 ·show (0:Nat)<=30;omega
 ·show (0:Nat)<=30;omega
 ·show (0:Nat)<=30;omega
 ·exact hs
theorem jh7 {l m:List Int} (hl:isB l) (hm:isB m):isB (l++m):=λx hx=>(List.mem_append.1 hx).elim (hl x) (hm x)
theorem jae {x:Int} {l:List Int} (hx:0<=x/\x<256) (hl:isB l):isB (x::l):=λy hy=>(List.mem_cons.1 hy).elim (λh=>h ▸ hx) (hl y)
theorem jc3:isB []:=λ_ h=>by cases h
end Go.PI.G
namespace Go.PI.G
open Go Go.PI
def msr:(τ:Ty)->El τ->Nat
 | .str,s=>ByteArray.size s
 | .slice e,l=>List.length (α:=El e) l+(List.map (msr e) l).sum
 | .pair a b,x=>msr a x.1+msr b x.2
 | .int _,_=>0
 | .bool,_=>0
 | .unit,_=>0
def wgt:(τ:Ty)->El τ->Nat
 | .str,_=>1
 | .slice e,l=>(List.map (wgt e) l).sum
 | .pair a b,x=>wgt a x.1+wgt b x.2
 | .int _,_=>1
 | .bool,_=>1
 | .unit,_=>0
def j5X:Ty->Nat
 | .slice e=>j5X e
 | .pair a b=>j5X a+j5X b
 | .unit=>0
 | _=>1
theorem jnY {α:Type} (f g:α->Nat) (c:Nat) (h:∀ x,f x<=(g x+1) * c):(l:List α)->(l.map f).sum<=(l.length+(l.map g).sum) * c
 | []=>by simp
 | x::l=>by
  have h1:=h x
  have h2:=jnY f g c h l
  simp only [List.map_cons,List.sum_cons,List.length_cons]
  have:(l.length+1+(g x+(l.map g).sum)) * c=(g x+1) * c+(l.length+(l.map g).sum) * c:=by
   rw [<-Nat.add_mul];congr 1;omega
  omega
theorem jo2:(τ:Ty)->(x:El τ)->wgt τ x<=(msr τ x+1) * j5X τ
 | .str,_=>by simp [wgt,j5X]
 | .int _,_=>by simp [wgt,j5X]
 | .bool,_=>by simp [wgt,j5X]
 | .unit,_=>by simp [wgt]
 | .pair a b,x=>by
  have h1:=jo2 a x.1
  have h2:=jo2 b x.2
  simp only [wgt,msr,j5X,Nat.mul_add]
  have e1:(msr a x.1+1) * j5X a<=(msr a x.1+msr b x.2+1) * j5X a:=Nat.mul_le_mul_right _ (by omega)
  have e2:(msr b x.2+1) * j5X b<=(msr a x.1+msr b x.2+1) * j5X b:=Nat.mul_le_mul_right _ (by omega)
  omega
 | .slice e,l=>by
  have h1:=jnY (wgt e) (msr e) (j5X e) (jo2 e) l
  simp only [wgt,msr,j5X]
  have e1:(List.length (α:=El e) l+(List.map (msr e) l).sum) * j5X e<=(List.length (α:=El e) l+(List.map (msr e) l).sum+1) * j5X e:=Nat.mul_le_mul_right _ (by omega)
  exact Nat.le_trans h1 e1
theorem j1M {a b:Ty} {x:El (.pair a b)}:msr a x.1<=msr (.pair a b) x:=Nat.le_add_right _ _
theorem j06 {a b:Ty} {x:El (.pair a b)}:msr b x.2<=msr (.pair a b) x:=Nat.le_add_left _ _
def dgt (x:Int):ByteArray:=Z2X [wu8 (Z8g (48+x))]
theorem jeG (x:Int):(dgt x).size=1:=rfl
def jgY (n:Nat):ByteArray:=if h:n<10 then dgt n else jgY (n / 10)++dgt ((n % 10:Nat):Int)
termination_by n
decreasing_by omega
def mT (k:Int):ByteArray:=(⟨#[109]⟩:ByteArray)++jgY k.toNat
def mk:(τ:Ty)->El τ->Int->El τ
 | .str,_,k=>mT k
 | .slice e,l,k=>mkL (wgt e) (mk e) l k
 | .pair a b,x,k=>(mk a x.1 k,mk b x.2 (k+(wgt a x.1:Int)))
 | .int .u8,_,k=>wu8 k
 | .int _,_,k=>k
 | .bool,_,k=>(Int.tmod k 3==0)
 | .unit,x,_=>x
theorem jsq (e:Ty) (l:List (El e)):msr (.slice e) l=l.length+(l.map (msr e)).sum:=rfl
theorem j6h {e:Ty} {l:List (El e)} {n:Nat} (h:msr (.slice e) l<=n):l.length<=n:=by
 have:msr (.slice e) l=l.length+(l.map (msr e)).sum:=rfl
 omega
theorem j86 {e:Ty} {l:List (El e)} {n:Nat} (h:msr (.slice e) l<=n) {x:El e} (hx:x∈l):msr e x<=n:=by
 have h1:msr (.slice e) l=l.length+(l.map (msr e)).sum:=rfl
 have:=Z8d (msr e) l x hx
 omega
theorem jsP {τ:Ty} {x:El τ} (hw:j5X τ<=200) (h:msr τ x<=1048576):wgt τ x<=209715400:=by
 have h1:=jo2 τ x
 have h2:(msr τ x+1) * j5X τ<=1048577 * 200:=Nat.mul_le_mul (by omega) hw
 omega
theorem j4B (a b:Ty) (x:El (.pair a b)):wgt (.pair a b) x=wgt a x.1+wgt b x.2:=rfl
theorem j6l (k:IntKind) (x:El (.int k)):wgt (.int k) x=1:=rfl
theorem j4A (x:El .bool):wgt .bool x=1:=rfl
theorem j6m (x:El .str):wgt .str x=1:=rfl
theorem j6g (a b:Ty) (x:El (.pair a b)) (k:Int):mk (.pair a b) x k=(mk a x.1 k,mk b x.2 (k+(wgt a x.1:Int))):=rfl
theorem j4z (e:Ty) (l:El (.slice e)) (k:Int):mk (.slice e) l k=mkL (wgt e) (mk e) l k:=rfl
theorem j92 (x:El (.int .i64)) (k:Int):mk (.int .i64) x k=k:=rfl
theorem jby (x:El (.int .u8)) (k:Int):mk (.int .u8) x k=wu8 k:=rfl
theorem j6f (x:El .bool) (k:Int):mk .bool x k=(Int.tmod k 3==0):=rfl
theorem j93 (x:El .str) (k:Int):mk .str x k=mT k:=rfl
theorem jjr {α:Type} (z:α) (l:List α) (i:Nat) (v:α) (h:i<l.length):nth z (upd l (i:Int) v) (i:Int)=v:=by
 rw [Z99,Z92 _ _ _ (by simpa using h)];simp
theorem jjA {α:Type} (l:List α) (i:Int) (u v:α):upd (upd l i u) i v=upd l i v:=by
 unfold upd;simp
theorem jjz {α:Type} (l:List α) (i:Int) (v:α):(upd l i v).length=l.length:=by unfold upd;simp
end Go.PI.G
namespace Go.PI.G
open Go Go.PI
theorem j0i {i n:Nat} (h:i<n):inb (i:Int) n=true:=Z9c (by omega) (by omega)
theorem j03 {n:Int} (h: -9223372036854775808<=n/\n<9223372036854775808):Z8g n=n:=Z9b h.1 h.2
theorem jmB (n:Nat):Int.tdiv (n:Int) 10=((n / 10:Nat):Int):=by
 rw [Int.tdiv_eq_ediv_of_nonneg (by omega)];omega
theorem jmC (n:Nat):Int.tmod (n:Int) 10=((n % 10:Nat):Int):=by
 rw [Int.tmod_eq_emod_of_nonneg (by omega)];omega
theorem joF {n:Nat} (h:n<10):jgY n=dgt n:=by rw [jgY,dif_pos h]
theorem jrw {n:Nat} (h:¬ n<10):jgY n=jgY (n / 10)++dgt ((n % 10:Nat):Int):=by rw [jgY,dif_neg h]
theorem jp9:∀ (d n:Nat),n<10 ^ (d+1)->(jgY n).size<=d+1
 | 0,n,h=>by rw [joF (by omega),jeG];exact Nat.le_refl _
 | d+1,n,h=>by
  by_cases h1:n<10
  ·rw [joF h1,jeG];omega
  ·rw [jrw h1,ByteArray.size_append,jeG]
   have:n / 10<10 ^ (d+1):=Nat.div_lt_of_lt_mul (by rw [Nat.pow_succ] at h;omega)
   have:=jp9 d (n / 10) this
   omega
theorem j3b (s:ByteArray):s++eS=s:=by
 show s++ByteArray.empty=s
 simp
theorem jn9 (s:ByteArray):eS++s=s:=by
 show ByteArray.empty++s=s
 simp
end Go.PI.G
namespace Go.PI.G
open Go Go.PI
abbrev C:=ByteArray×Int×Bool×Bool×V
abbrev T:=ByteArray×List C×List ByteArray
abbrev yV:Ty:= .pair (.int .i64) (.pair (.int .i64) .str)
abbrev yC:Ty:= .pair .str (.pair (.int .i64) (.pair .bool (.pair .bool yV)))
abbrev zV:V:=(0,0,eS)
abbrev zC:C:=(eS,0,false,false,0,0,eS)
theorem jh3 {α:Type} (p:α->Bool) (l:List α): -1<=Z8b p l/\Z8b p l<(l.length:Int):=by
 unfold Z8b
 cases h:l.findIdx? p with
 | none=>simp only [];omega
 | some i=>
  have:=(List.findIdx?_eq_some_iff_findIdx_eq.1 h).1
  simp only [];omega
theorem jn8 {α:Type} {f:Nat->α->Bool}:(l:List α)->(i:Nat)->Z5P f i l=false->∀ (j:Nat) (h:j<l.length),f (i+j) l[j]=false
 | [],_,_,j,h=>by simp at h
 | x::l,i,h,j,hj=>by
  simp only [Z5P,Bool.or_eq_false_iff] at h
  cases j with
  | zero=>simpa using h.1
  | succ j=>
   have:=jn8 l (i+1) h.2 j (by simpa using hj)
   rw [show i+(j+1)=i+1+j by omega]
   simpa using this
def j0Y (s:ByteArray):Bool:= !((Z19 s).any λb=>decide (b<97)||decide (b>122))&&(decide (1<=s.size)&&decide (s.size<=8))
def jh9 (v:V):Bool:=(v.1==0)&&((v.2.1==0)&&sEq v.2.2 eS)
def j1G (c:C):Bool:=j0Y c.1&&(decide (1<=c.2.1/\c.2.1<=3)&&(j0w c.2.2.2.2&&(bif c.2.2.2.1 then (c.2.2.2.2.1==c.2.1)||((c.2.2.2.2.1==0)&& !c.2.2.1) else jh9 c.2.2.2.2)))
def j19 (l:List C) (n:ByteArray):Int:=Z8b (λc=>sEq c.1 n) l
theorem jbe (l:List C) (n:ByteArray): -1<=j19 l n/\j19 l n<(l.length:Int):=jh3 _ _
theorem jg3:j0w (0,0,eS)=true:=by
 show (((0:Int)==0)&&sEq eS eS)=true
 rw [Z8L];rfl
theorem jrW:jh9 (0,0,eS)=true:=by
 show (((0:Int)==0)&&(((0:Int)==0)&&sEq eS eS))=true
 rw [Z8L];rfl
def j6K (l:List C):Int->List ByteArray->Bool
 | _,[]=>true
 | last,k::ks=> !decide (j19 l k<=last)&&((nth zC l (j19 l k)).2.2.1&&j6K l (j19 l k) ks)
def jch (l:List C):Bool:= !Z5P (λi c=> !j1G c||(j19 l c.1 != (i:Int))) 0 l
def jfa (t:T):Bool:=(j0Y t.1&&(decide (1<=t.2.1.length)&&(decide (t.2.1.length<=8)&&decide (1<=t.2.2.length))))&&(jch t.2.1&&j6K t.2.1 (-1) t.2.2)
theorem j2C {t:T} (h:jfa t=true):j0Y t.1=true/\1<=t.2.1.length/\t.2.1.length<=8/\1<=t.2.2.length/\jch t.2.1=true/\j6K t.2.1 (-1) t.2.2=true:=by
 unfold jfa at h
 simp only [Bool.and_eq_true,decide_eq_true_eq] at h
 exact ⟨h.1.1,h.1.2.1,h.1.2.2.1,h.1.2.2.2,h.2.1,h.2.2⟩
theorem jeR {l:List C}:(ks:List ByteArray)->(last:Int)-> -1<=last->j6K l last ks=true->∀ k∈ks,0<=j19 l k/\j19 l k<(l.length:Int)
 | [],_,_,_,k,hk=>by cases hk
 | q::ks,last,h0,h,k,hk=>by
  simp only [j6K,Bool.and_eq_true,Bool.not_eq_true',decide_eq_false_iff_not] at h
  have h1:=(jh3 (λc:C=>sEq c.1 q) l).2
  have h2:0<=j19 l q:=by omega
  rcases List.mem_cons.1 hk with rfl | hk
  ·exact ⟨h2,h1⟩
  ·exact jeR ks (j19 l q) (by omega) h.2.2 k hk
theorem j8b {l:List C} (h:jch l=true) (i:Nat) (hi:i<l.length):j1G l[i]=true:=by
 unfold jch at h
 have:=jn8 l 0 (by simpa using h) i hi
 simp only [Bool.or_eq_false_iff,Bool.not_eq_false'] at this
 exact this.1
end Go.PI.G
