/-
  Program's code interpreted over typed values; printed texts; plain laws. No conditions.
-/
import Derived.Test.YtiieddiheadocaaGreatTa
import Derived.Test.YtiieddiheadocaaGreatTg
set_option linter.unusedVariables false
set_option maxRecDepth 100000
namespace Go.PI.G
open Go Go.PI Go.Proofs
open Go.Code (pl pr)
noncomputable def j8a:Code:=(Tryz.f259.body).getD .skip
noncomputable def jdk:Env Unit:=⟨tys,[(291,jid)],0⟩
noncomputable def j57 (a:List qC) (b:List qC) (i:Int) (rec:Int->Res) (k0:Unit->Res) (k1:Unit->Res):Res:=
 bif decide (i<(nI (List.length a))) then
  bif inb i (List.length a) then
   bif inb i (List.length b) then
    jbQ (nth (eS,0,false,false,0,0,eS) a i) (nth (eS,0,false,false,0,0,eS) b i) λ(r:Bool)=>
     bif !r then
      k1 ()
     else
      rec (Z8g (i+1))
   else none
  else none
 else
  k0 ()
noncomputable def jaX (a:List qC) (b:List qC):Int->(Int->Res)->((Unit->Res)×(Unit->Res))->Res:=λv rec q=>j57 a b v (λi=>rec (i)) q.1 q.2
noncomputable def jcL (a:List qC) (b:List qC) (n:Nat) (i:Int) (k0:Unit->Res) (k1:Unit->Res):Res:=Z10 (jaX a b) n (i) (k0,k1)
noncomputable def j9h:Z1l Unit:=λσ k=>rdN σ 27<|rdV σ 0 y8 false [.S] λa=>rdV σ 1 y8 false [.S] λb=>rdV σ 5 (.int .i64) false [] λi=>jcL a b Z0Y i (λ(_:Unit)=>k (.exit 0) (mkS 27 27 [] [])) (λ(_:Unit)=>k .ret (mkS 27 27 [(4,.val ⟨.bool,false,false,[]⟩)] []))
theorem jmr (a:List qC) (b:List qC) (n:Nat) (v:Int) (k:Z6G Unit):Z3X (Z0R jdk [] .o (pl (pl (pr (pl (pr (pr j8a))))))) (λσ=>σ.forget [0,1,5] []) (Z8a ([],[]) [(0,[],[])] ([4],[])) n (mkS 27 27 [(0,.val ⟨y8,false,a,[.S]⟩),(1,.val ⟨y8,false,b,[.S]⟩),(5,.val ⟨(.int .i64),false,v,[]⟩)] []) k=Z10 (jaX a b) n v ((λ(k:Z6G Unit)=>(((λ(_:Unit)=>k (.exit 0) (mkS 27 27 [] [])),(λ(_:Unit)=>k .ret (mkS 27 27 [(4,.val ⟨.bool,false,false,[]⟩)] []))):(Unit->Res)×(Unit->Res))) k):=Z80 (λv:Int=>(mkS 27 27 [(0,.val ⟨y8,false,a,[.S]⟩),(1,.val ⟨y8,false,b,[.S]⟩),(5,.val ⟨(.int .i64),false,v,[]⟩)] [])) (jaX a b) (λ(k:Z6G Unit)=>(((λ(_:Unit)=>k (.exit 0) (mkS 27 27 [] [])),(λ(_:Unit)=>k .ret (mkS 27 27 [(4,.val ⟨.bool,false,false,[]⟩)] []))):(Unit->Res)×(Unit->Res))) (λv rec k=>by kernel_rfl) n v k
theorem jmJ {W0:Base} {M:Nat->Prop} (hnp:W0.np<=0):Z1W Tryz.prog W0 M (pl (pr (pl (pr (pr j8a))))) j9h:=show Z1W Tryz.prog W0 M (Code.loop (pl (pl (pr (pl (pr (pr j8a))))))) j9h from Z8X (Z6Q follows j01 (Z7K (Z8C jhx Z8W)) hnp [] (pl (pl (pr (pl (pr (pr j8a)))))) .o trivial) (ks:=[0,1,5]) (bs:=[]) (fX:=(Z8a ([],[]) [(0,[],[])] ([4],[]))) (Z8U _ _ _) Z0Y (by
 intro σ k r h
 obtain ⟨hn,h1⟩:=Z8G h
 obtain ⟨a,hs0,h2⟩:=Z8J h1
 obtain ⟨b,hs1,h3⟩:=Z8J h2
 obtain ⟨i,hs5,h4⟩:=Z8J h3
 refine ⟨_,?_,(jmr a b Z0Y (i) k).trans h4⟩
 exact Z9e hn ⟨hs0,hs1,hs5,trivial⟩ trivial)
noncomputable def jaz (a:List qC) (b:List qC) (k0:Bool->Res):Res:=
 bif ((nI (List.length a)) != (nI (List.length b))) then
  k0 false
 else
  jcL a b Z0Y 0
   (λ(_:Unit)=>
    k0 true)
   (λ(_:Unit)=>
    k0 false)
noncomputable def jhh:Sig Unit:=⟨[.look y8 false,.look y8 false],[false],λvals ext k=>av vals y8 λa vals=>av vals y8 λb vals=>nl vals<|nl ext<|jaz a b (λ(r0:Bool)=>k [⟨.bool,false,r0,[]⟩] [] [])⟩
theorem joZ (a:List qC) (a_a:Bool) (t_a:List Tag) (b:List qC) (a_b:Bool) (t_b:List Tag) (k:qK):Z6X jdk [j9h] (.t .o (.t .o (.t (.t .o (.t (.x 0) .o)) .o))) false Tryz.f259 [.look y8 false,.look y8 false] [false] [⟨y8,a_a,a,t_a⟩,⟨y8,a_b,b,t_b⟩] [] k=jaz a b (λ(r0:Bool)=>k [⟨.bool,false,r0,[]⟩] [] []):=by kernel_rfl
theorem jpb:Z1k Tryz.prog 259 jhh:=Z8N (Γ:=jdk) (X:=[j9h]) (ht:=(.t .o (.t .o (.t (.t .o (.t (.x 0) .o)) .o)))) (fz:=false) (c:=j8a) follows j01 (Z8C jhx Z8W) (Z1A.mk trivial ((Z1A.mk trivial ((Z1A.mk ((Z1A.mk trivial ((Z1A.mk (Z1A.x_mk (λW0 M hnp=>jmJ (W0:=W0) (M:=M) hnp)) trivial)))) trivial))))) Tryz.func259 (by kernel_rfl) (by kernel_rfl) (by decide) (by
 intro vals ext k r h
 obtain ⟨a,a_a,t_a,vals,rfl,h1⟩:=Z8T h
 obtain ⟨b,a_b,t_b,vals,rfl,h2⟩:=Z8T h1
 obtain ⟨rfl,h3⟩:=Z90 h2
 obtain ⟨rfl,h4⟩:=Z90 h3
 exact (joZ a a_a t_a b a_b t_b k).trans h4)
noncomputable def j0B:Code:=(Tryz.f127.body).getD .skip
noncomputable def j4a:Env Unit:=⟨tys,[(125,j3a)],1⟩
noncomputable def j5a (a:List qC) (k_:Int) (i:Int) (k0:qE->Res):Res:=
 bif inb i (List.length a) then
  k0 (upd a i ((nth (eS,0,false,false,0,0,eS) a i).1,(nth (eS,0,false,false,0,0,eS) a i).2.1,((Int.tmod k_ 3)==0),(nth (eS,0,false,false,0,0,eS) a i).2.2.2))
 else none
noncomputable def j1k:Z1l Unit:=λσ k=>rdN σ 71<|rdV σ 0 y8 false [.O] λa=>rdV σ 1 (.int .i64) false [] λk_=>rdV σ 5 (.int .i64) false [] λi=>j5a a k_ i (λ(a1:List qC)=>k .normal (mkS 71 71 [(0,.val ⟨y8,false,a1,[.O]⟩),(1,.val ⟨(.int .i64),false,k_,[]⟩),(5,.val ⟨(.int .i64),false,i,[]⟩)] []))
theorem jiH (a:List qC) (k_:Int) (i:Int) (k:Z6G Unit):Z0R j4a [] .o (pl (pr (pr (pr (pr (pl (pl (pr (pl (pl (pr (pl (pr j0B))))))))))))) (mkS 71 71 [(0,.val ⟨y8,false,a,[.O]⟩),(1,.val ⟨(.int .i64),false,k_,[]⟩),(5,.val ⟨(.int .i64),false,i,[]⟩)] []) (λe σ=>k e ((Z8a ([0,1,5],[]) [] ([],[])) e σ))=j5a a k_ i (λ(a1:List qC)=>k .normal (mkS 71 71 [(0,.val ⟨y8,false,a1,[.O]⟩),(1,.val ⟨(.int .i64),false,k_,[]⟩),(5,.val ⟨(.int .i64),false,i,[]⟩)] [])):=by kernel_rfl
theorem jj9 {W0:Base} {M:Nat->Prop} (hnp:W0.np<=1):Z1W Tryz.prog W0 M (pl (pr (pr (pr (pr (pl (pl (pr (pl (pl (pr (pl (pr j0B))))))))))))) j1k:=Z91 (Z6Q follows j01 (Z7K (Z8C j0w Z8W)) hnp [] ((pl (pr (pr (pr (pr (pl (pl (pr (pl (pl (pr (pl (pr j0B)))))))))))))) .o trivial) (fg:=(Z8a ([0,1,5],[]) [] ([],[]))) (Z8U _ _ _) (by
 intro σ k r h
 obtain ⟨hn,h1⟩:=Z8G h
 obtain ⟨a,hs0,h2⟩:=Z8J h1
 obtain ⟨k_,hs1,h3⟩:=Z8J h2
 obtain ⟨i,hs5,h4⟩:=Z8J h3
 refine ⟨_,?_,(jiH a k_ i k).trans h4⟩
 exact Z9e hn ⟨hs0,hs1,hs5,trivial⟩ trivial)
noncomputable def j5b (a:List qC) (k_:Int) (i:Int) (k0:qE->Res):Res:=
 bif inb i (List.length a) then
  k0 (upd a i ((nth (eS,0,false,false,0,0,eS) a i).1,(nth (eS,0,false,false,0,0,eS) a i).2.1,(nth (eS,0,false,false,0,0,eS) a i).2.2.1,(nth (eS,0,false,false,0,0,eS) a i).2.2.2.1,k_,(nth (eS,0,false,false,0,0,eS) a i).2.2.2.2.2))
 else none
noncomputable def j2f:Z1l Unit:=λσ k=>rdN σ 71<|rdV σ 0 y8 false [.O] λa=>rdV σ 1 (.int .i64) false [] λk_=>rdV σ 5 (.int .i64) false [] λi=>j5b a k_ i (λ(a1:List qC)=>k .normal (mkS 71 71 [(0,.val ⟨y8,false,a1,[.O]⟩),(1,.val ⟨(.int .i64),false,k_,[]⟩),(5,.val ⟨(.int .i64),false,i,[]⟩)] []))
theorem jiI (a:List qC) (k_:Int) (i:Int) (k:Z6G Unit):Z0R j4a [j1k] .o (pl (pr (pr (pr (pr (pr (pr (pr (pr (pl (pl (pr (pl (pl (pr (pl (pr j0B))))))))))))))))) (mkS 71 71 [(0,.val ⟨y8,false,a,[.O]⟩),(1,.val ⟨(.int .i64),false,k_,[]⟩),(5,.val ⟨(.int .i64),false,i,[]⟩)] []) (λe σ=>k e ((Z8a ([0,1,5],[]) [] ([],[])) e σ))=j5b a k_ i (λ(a1:List qC)=>k .normal (mkS 71 71 [(0,.val ⟨y8,false,a1,[.O]⟩),(1,.val ⟨(.int .i64),false,k_,[]⟩),(5,.val ⟨(.int .i64),false,i,[]⟩)] [])):=by kernel_rfl
theorem jja {W0:Base} {M:Nat->Prop} (hnp:W0.np<=1):Z1W Tryz.prog W0 M (pl (pr (pr (pr (pr (pr (pr (pr (pr (pl (pl (pr (pl (pl (pr (pl (pr j0B))))))))))))))))) j2f:=Z91 (Z6Q follows j01 (Z7K (Z8C j0w Z8W)) hnp [j1k] ((pl (pr (pr (pr (pr (pr (pr (pr (pr (pl (pl (pr (pl (pl (pr (pl (pr j0B)))))))))))))))))) .o trivial) (fg:=(Z8a ([0,1,5],[]) [] ([],[]))) (Z8U _ _ _) (by
 intro σ k r h
 obtain ⟨hn,h1⟩:=Z8G h
 obtain ⟨a,hs0,h2⟩:=Z8J h1
 obtain ⟨k_,hs1,h3⟩:=Z8J h2
 obtain ⟨i,hs5,h4⟩:=Z8J h3
 refine ⟨_,?_,(jiI a k_ i k).trans h4⟩
 exact Z9e hn ⟨hs0,hs1,hs5,trivial⟩ trivial)
noncomputable def j5c (a:List qC) (k_:Int) (i:Int) (k0:qE->Res):Res:=
 j1m k_ λ(r:qB)=>
  bif inb i (List.length a) then
   k0 (upd a i ((nth (eS,0,false,false,0,0,eS) a i).1,(nth (eS,0,false,false,0,0,eS) a i).2.1,(nth (eS,0,false,false,0,0,eS) a i).2.2.1,(nth (eS,0,false,false,0,0,eS) a i).2.2.2.1,(nth (eS,0,false,false,0,0,eS) a i).2.2.2.2.1,(nth (eS,0,false,false,0,0,eS) a i).2.2.2.2.2.1,r))
  else none
noncomputable def j4E:Z1l Unit:=λσ k=>rdN σ 71<|rdV σ 0 y8 false [.O] λa=>rdV σ 1 (.int .i64) false [] λk_=>rdV σ 5 (.int .i64) false [] λi=>j5c a k_ i (λ(a1:List qC)=>k .normal (mkS 71 71 [(0,.val ⟨y8,false,a1,[.O]⟩),(1,.val ⟨(.int .i64),false,k_,[]⟩),(5,.val ⟨(.int .i64),false,i,[]⟩)] []))
theorem jiJ (a:List qC) (k_:Int) (i:Int) (k:Z6G Unit):Z0R j4a [j1k,j2f] .o (pl (pr (pr (pr (pr (pr (pr (pr (pr (pr (pr (pr (pr (pl (pl (pr (pl (pl (pr (pl (pr j0B))))))))))))))))))))) (mkS 71 71 [(0,.val ⟨y8,false,a,[.O]⟩),(1,.val ⟨(.int .i64),false,k_,[]⟩),(5,.val ⟨(.int .i64),false,i,[]⟩)] []) (λe σ=>k e ((Z8a ([0,1,5],[]) [] ([],[])) e σ))=j5c a k_ i (λ(a1:List qC)=>k .normal (mkS 71 71 [(0,.val ⟨y8,false,a1,[.O]⟩),(1,.val ⟨(.int .i64),false,k_,[]⟩),(5,.val ⟨(.int .i64),false,i,[]⟩)] [])):=by kernel_rfl
theorem jjb {W0:Base} {M:Nat->Prop} (hnp:W0.np<=1):Z1W Tryz.prog W0 M (pl (pr (pr (pr (pr (pr (pr (pr (pr (pr (pr (pr (pr (pl (pl (pr (pl (pl (pr (pl (pr j0B))))))))))))))))))))) j4E:=Z91 (Z6Q follows j01 (Z7K (Z8C j0w Z8W)) hnp [j1k,j2f] ((pl (pr (pr (pr (pr (pr (pr (pr (pr (pr (pr (pr (pr (pl (pl (pr (pl (pl (pr (pl (pr j0B)))))))))))))))))))))) .o trivial) (fg:=(Z8a ([0,1,5],[]) [] ([],[]))) (Z8U _ _ _) (by
 intro σ k r h
 obtain ⟨hn,h1⟩:=Z8G h
 obtain ⟨a,hs0,h2⟩:=Z8J h1
 obtain ⟨k_,hs1,h3⟩:=Z8J h2
 obtain ⟨i,hs5,h4⟩:=Z8J h3
 refine ⟨_,?_,(jiJ a k_ i k).trans h4⟩
 exact Z9e hn ⟨hs0,hs1,hs5,trivial⟩ trivial)
noncomputable def j40 (a:List qC) (k_:Int) (i:Int) (rec:qE->Int->Int->Res) (k0:qE->Int->Res):Res:=
 bif decide (i<(nI (List.length a))) then
  j1m k_ λ(r:qB)=>
   bif inb i (List.length a) then
    bif inb i (List.length (upd a i (r,(nth (eS,0,false,false,0,0,eS) a i).2))) then
     j5a (upd (upd a i (r,(nth (eS,0,false,false,0,0,eS) a i).2)) i ((nth (eS,0,false,false,0,0,eS) (upd a i (r,(nth (eS,0,false,false,0,0,eS) a i).2)) i).1,Z8g (k_+1),(nth (eS,0,false,false,0,0,eS) (upd a i (r,(nth (eS,0,false,false,0,0,eS) a i).2)) i).2.2)) (Z8g ((Z8g (k_+1))+1)) i λ(a1:List qC)=>
      bif inb i (List.length a1) then
       j5b (upd a1 i ((nth (eS,0,false,false,0,0,eS) a1 i).1,(nth (eS,0,false,false,0,0,eS) a1 i).2.1,(nth (eS,0,false,false,0,0,eS) a1 i).2.2.1,((Int.tmod (Z8g ((Z8g ((Z8g (k_+1))+1))+1)) 3)==0),(nth (eS,0,false,false,0,0,eS) a1 i).2.2.2.2)) (Z8g ((Z8g ((Z8g ((Z8g (k_+1))+1))+1))+1)) i λ(a2:List qC)=>
        bif inb i (List.length a2) then
         j5c (upd a2 i ((nth (eS,0,false,false,0,0,eS) a2 i).1,(nth (eS,0,false,false,0,0,eS) a2 i).2.1,(nth (eS,0,false,false,0,0,eS) a2 i).2.2.1,(nth (eS,0,false,false,0,0,eS) a2 i).2.2.2.1,(nth (eS,0,false,false,0,0,eS) a2 i).2.2.2.2.1,Z8g ((Z8g ((Z8g ((Z8g ((Z8g (k_+1))+1))+1))+1))+1),(nth (eS,0,false,false,0,0,eS) a2 i).2.2.2.2.2.2)) (Z8g ((Z8g ((Z8g ((Z8g ((Z8g ((Z8g (k_+1))+1))+1))+1))+1))+1)) i λ(a3:List qC)=>
          rec a3 (Z8g ((Z8g ((Z8g ((Z8g ((Z8g ((Z8g ((Z8g (k_+1))+1))+1))+1))+1))+1))+1)) (Z8g (i+1))
        else none
      else none
    else none
   else none
 else
  k0 a k_
noncomputable def j6b:(qE×Int×Int)->(qE×Int×Int->Res)->((qE->Int->Res))->Res:=λv rec q=>j40 v.1 v.2.1 v.2.2 (λa k_ i=>rec (a,k_,i)) q
noncomputable def jb1 (n:Nat) (a:List qC) (k_:Int) (i:Int) (k0:qE->Int->Res):Res:=Z10 (j6b) n (a,k_,i) (k0)
noncomputable def j6Y:Z1l Unit:=λσ k=>rdN σ 71<|rdV σ 0 y8 false [.O] λa=>rdV σ 1 (.int .i64) false [] λk_=>rdV σ 5 (.int .i64) false [] λi=>jb1 Z0Y a k_ i (λ(a4:List qC) (k_1:Int)=>k (.exit 0) (mkS 71 71 [(0,.val ⟨y8,false,a4,[.O]⟩),(1,.val ⟨(.int .i64),false,k_1,[]⟩)] []))
theorem jiG  (n:Nat) (v:qE×Int×Int) (k:Z6G Unit):Z3X (Z0R j4a [j1k,j2f,j4E] (.t .o (.t (.t (.t .o (.t .o (.t .o (.t .o (.t (.x 0) (.t .o (.t .o (.t .o (.t (.x 1) (.t .o (.t .o (.t .o (.t (.x 2) .o))))))))))))) .o) .o)) (pl (pl (pr (pl (pr j0B)))))) (λσ=>σ.forget [0,1,5] []) (Z8a ([],[]) [(0,[0,1],[])] ([],[])) n (mkS 71 71 [(0,.val ⟨y8,false,v.1,[.O]⟩),(1,.val ⟨(.int .i64),false,v.2.1,[]⟩),(5,.val ⟨(.int .i64),false,v.2.2,[]⟩)] []) k=Z10 (j6b) n v ((λ(k:Z6G Unit)=>(((λ(a4:List qC) (k_1:Int)=>k (.exit 0) (mkS 71 71 [(0,.val ⟨y8,false,a4,[.O]⟩),(1,.val ⟨(.int .i64),false,k_1,[]⟩)] []))):(qE->Int->Res))) k):=Z80 (λv:qE×Int×Int=>(mkS 71 71 [(0,.val ⟨y8,false,v.1,[.O]⟩),(1,.val ⟨(.int .i64),false,v.2.1,[]⟩),(5,.val ⟨(.int .i64),false,v.2.2,[]⟩)] [])) (j6b) (λ(k:Z6G Unit)=>(((λ(a4:List qC) (k_1:Int)=>k (.exit 0) (mkS 71 71 [(0,.val ⟨y8,false,a4,[.O]⟩),(1,.val ⟨(.int .i64),false,k_1,[]⟩)] []))):(qE->Int->Res))) (λv rec k=>by kernel_rfl) n v k
theorem jj8 {W0:Base} {M:Nat->Prop} (hnp:W0.np<=1):Z1W Tryz.prog W0 M (pl (pr (pl (pr j0B)))) j6Y:=show Z1W Tryz.prog W0 M (Code.loop (pl (pl (pr (pl (pr j0B)))))) j6Y from Z8X (Z6Q follows j01 (Z7K (Z8C j0w Z8W)) hnp [j1k,j2f,j4E] (pl (pl (pr (pl (pr j0B))))) (.t .o (.t (.t (.t .o (.t .o (.t .o (.t .o (.t (.x 0) (.t .o (.t .o (.t .o (.t (.x 1) (.t .o (.t .o (.t .o (.t (.x 2) .o))))))))))))) .o) .o)) (Z1A.mk trivial ((Z1A.mk ((Z1A.mk ((Z1A.mk trivial ((Z1A.mk trivial ((Z1A.mk trivial ((Z1A.mk trivial ((Z1A.mk (Z1A.x_mk (λW0 M hnp=>jj9 (W0:=W0) (M:=M) hnp)) ((Z1A.mk trivial ((Z1A.mk trivial ((Z1A.mk trivial ((Z1A.mk (Z1A.x_mk (λW0 M hnp=>jja (W0:=W0) (M:=M) hnp)) ((Z1A.mk trivial ((Z1A.mk trivial ((Z1A.mk trivial ((Z1A.mk (Z1A.x_mk (λW0 M hnp=>jjb (W0:=W0) (M:=M) hnp)) trivial)))))))))))))))))))))))))) trivial)) trivial)))) (ks:=[0,1,5]) (bs:=[]) (fX:=(Z8a ([],[]) [(0,[0,1],[])] ([],[]))) (Z8U _ _ _) Z0Y (by
 intro σ k r h
 obtain ⟨hn,h1⟩:=Z8G h
 obtain ⟨a,hs0,h2⟩:=Z8J h1
 obtain ⟨k_,hs1,h3⟩:=Z8J h2
 obtain ⟨i,hs5,h4⟩:=Z8J h3
 refine ⟨_,?_,(jiG  Z0Y (a,k_,i) k).trans h4⟩
 exact Z9e hn ⟨hs0,hs1,hs5,trivial⟩ trivial)
noncomputable def j8j (a:List qC) (k_:Int) (k0:Int->qE->Res):Res:=
 jb1 Z0Y a k_ 0 λ(a1:List qC) (k_1:Int)=>
  k0 k_1 a1
noncomputable def jf4:Sig Unit:=⟨[.inout y8 false,.borrow (.int .i64) false],[false],λvals ext k=>ao vals y8 [.O] λa vals=>av vals (.int .i64) λk_ vals=>nl vals<|nl ext<|j8j a k_ (λ(r0:Int) (i0:List qC)=>k [⟨(.int .i64),false,r0,[]⟩] [⟨y8,false,i0,[.O]⟩] [])⟩
theorem jlK (a_a:Bool) (a:List qC) (k_:Int) (a_k_:Bool) (t_k_:List Tag) (k:qK):Z6X j4a [j1k,j2f,j4E,j6Y] (.t .o (.t (.t .o (.t (.x 3) .o)) .o)) false Tryz.f127 [.inout y8 false,.borrow (.int .i64) false] [false] [⟨y8,a_a,a,[.O]⟩,⟨(.int .i64),a_k_,k_,t_k_⟩] [] k=j8j a k_ (λ(r0:Int) (i0:List qC)=>k [⟨(.int .i64),false,r0,[]⟩] [⟨y8,false,i0,[.O]⟩] []):=by kernel_rfl
theorem jm2:Z1k Tryz.prog 127 jf4:=Z8N (Γ:=j4a) (X:=[j1k,j2f,j4E,j6Y]) (ht:=(.t .o (.t (.t .o (.t (.x 3) .o)) .o))) (fz:=false) (c:=j0B) follows j01 (Z8C j0w Z8W) (Z1A.mk trivial ((Z1A.mk ((Z1A.mk trivial ((Z1A.mk (Z1A.x_mk (λW0 M hnp=>jj8 (W0:=W0) (M:=M) hnp)) trivial)))) trivial))) Tryz.func127 (by kernel_rfl) (by kernel_rfl) (by decide) (by
 intro vals ext k r h
 obtain ⟨a_a,a,vals,rfl,h1⟩:=Z8S h
 obtain ⟨k_,a_k_,t_k_,vals,rfl,h2⟩:=Z8T h1
 obtain ⟨rfl,h3⟩:=Z90 h2
 obtain ⟨rfl,h4⟩:=Z90 h3
 exact (jlK a_a a k_ a_k_ t_k_ k).trans h4)
noncomputable def j5P:Code:=(Tryz.f130.body).getD .skip
noncomputable def jbC:Env Unit:=⟨tys,[(125,j3a)],0⟩
noncomputable def j3Y (a:List qC) (k_:Int) (i:Int) (rec:Int->Int->Res) (k0:Int->Res) (k1:Unit->Res):Res:=
 bif decide (i<(nI (List.length a))) then
  bif inb i (List.length a) then
   j1m k_ λ(r:qB)=>
    bif sNe (nth (eS,0,false,false,0,0,eS) a i).1 r then
     k1 ()
    else
     bif inb i (List.length a) then
      bif ((nth (eS,0,false,false,0,0,eS) a i).2.1 != (Z8g (k_+1))) then
       k1 ()
      else
       bif inb i (List.length a) then
        bif !((nth (eS,0,false,false,0,0,eS) a i).2.2.1==((Int.tmod (Z8g ((Z8g (k_+1))+1)) 3)==0)) then
         k1 ()
        else
         bif inb i (List.length a) then
          bif !((nth (eS,0,false,false,0,0,eS) a i).2.2.2.1==((Int.tmod (Z8g ((Z8g ((Z8g (k_+1))+1))+1)) 3)==0)) then
           k1 ()
          else
           bif inb i (List.length a) then
            bif ((nth (eS,0,false,false,0,0,eS) a i).2.2.2.2.1 != (Z8g ((Z8g ((Z8g ((Z8g (k_+1))+1))+1))+1))) then
             k1 ()
            else
             bif inb i (List.length a) then
              bif ((nth (eS,0,false,false,0,0,eS) a i).2.2.2.2.2.1 != (Z8g ((Z8g ((Z8g ((Z8g ((Z8g (k_+1))+1))+1))+1))+1))) then
               k1 ()
              else
               bif inb i (List.length a) then
                j1m (Z8g ((Z8g ((Z8g ((Z8g ((Z8g ((Z8g (k_+1))+1))+1))+1))+1))+1)) λ(r1:qB)=>
                 bif sNe (nth (eS,0,false,false,0,0,eS) a i).2.2.2.2.2.2 r1 then
                  k1 ()
                 else
                  rec (Z8g ((Z8g ((Z8g ((Z8g ((Z8g ((Z8g ((Z8g (k_+1))+1))+1))+1))+1))+1))+1)) (Z8g (i+1))
               else none
             else none
           else none
         else none
       else none
     else none
  else none
 else
  k0 k_
noncomputable def j69 (a:List qC):(Int×Int)->(Int×Int->Res)->((Int->Res)×(Unit->Res))->Res:=λv rec q=>j3Y a v.1 v.2 (λk_ i=>rec (k_,i)) q.1 q.2
noncomputable def jaZ (a:List qC) (n:Nat) (k_:Int) (i:Int) (k0:Int->Res) (k1:Unit->Res):Res:=Z10 (j69 a) n (k_,i) (k0,k1)
noncomputable def j6W:Z1l Unit:=λσ k=>rdN σ 85<|rdV σ 0 y8 false [.S] λa=>rdV σ 1 (.int .i64) false [] λk_=>rdV σ 5 (.int .i64) false [] λi=>jaZ a Z0Y k_ i (λ(k_1:Int)=>k (.exit 0) (mkS 85 85 [(1,.val ⟨(.int .i64),false,k_1,[]⟩)] [])) (λ(_:Unit)=>k .ret (mkS 85 85 [(4,.val ⟨(.int .i64),false,(-1),[]⟩)] []))
theorem jiE (a:List qC) (n:Nat) (v:Int×Int) (k:Z6G Unit):Z3X (Z0R jbC [] .o (pl (pl (pr (pl (pr j5P)))))) (λσ=>σ.forget [0,1,5] []) (Z8a ([],[]) [(0,[1],[])] ([4],[])) n (mkS 85 85 [(0,.val ⟨y8,false,a,[.S]⟩),(1,.val ⟨(.int .i64),false,v.1,[]⟩),(5,.val ⟨(.int .i64),false,v.2,[]⟩)] []) k=Z10 (j69 a) n v ((λ(k:Z6G Unit)=>(((λ(k_1:Int)=>k (.exit 0) (mkS 85 85 [(1,.val ⟨(.int .i64),false,k_1,[]⟩)] [])),(λ(_:Unit)=>k .ret (mkS 85 85 [(4,.val ⟨(.int .i64),false,(-1),[]⟩)] []))):(Int->Res)×(Unit->Res))) k):=Z80 (λv:Int×Int=>(mkS 85 85 [(0,.val ⟨y8,false,a,[.S]⟩),(1,.val ⟨(.int .i64),false,v.1,[]⟩),(5,.val ⟨(.int .i64),false,v.2,[]⟩)] [])) (j69 a) (λ(k:Z6G Unit)=>(((λ(k_1:Int)=>k (.exit 0) (mkS 85 85 [(1,.val ⟨(.int .i64),false,k_1,[]⟩)] [])),(λ(_:Unit)=>k .ret (mkS 85 85 [(4,.val ⟨(.int .i64),false,(-1),[]⟩)] []))):(Int->Res)×(Unit->Res))) (λv rec k=>by kernel_rfl) n v k
theorem jj6 {W0:Base} {M:Nat->Prop} (hnp:W0.np<=0):Z1W Tryz.prog W0 M (pl (pr (pl (pr j5P)))) j6W:=show Z1W Tryz.prog W0 M (Code.loop (pl (pl (pr (pl (pr j5P)))))) j6W from Z8X (Z6Q follows j01 (Z7K (Z8C j0w Z8W)) hnp [] (pl (pl (pr (pl (pr j5P))))) .o trivial) (ks:=[0,1,5]) (bs:=[]) (fX:=(Z8a ([],[]) [(0,[1],[])] ([4],[]))) (Z8U _ _ _) Z0Y (by
 intro σ k r h
 obtain ⟨hn,h1⟩:=Z8G h
 obtain ⟨a,hs0,h2⟩:=Z8J h1
 obtain ⟨k_,hs1,h3⟩:=Z8J h2
 obtain ⟨i,hs5,h4⟩:=Z8J h3
 refine ⟨_,?_,(jiE a Z0Y (k_,i) k).trans h4⟩
 exact Z9e hn ⟨hs0,hs1,hs5,trivial⟩ trivial)
noncomputable def j8h (a:List qC) (k_:Int) (k0:Int->Res):Res:=
 jaZ a Z0Y k_ 0
  (λ(k_1:Int)=>
   k0 k_1)
  (λ(_:Unit)=>
   k0 (-1))
noncomputable def jf1:Sig Unit:=⟨[.look y8 false,.look (.int .i64) false],[false],λvals ext k=>av vals y8 λa vals=>av vals (.int .i64) λk_ vals=>nl vals<|nl ext<|j8h a k_ (λ(r0:Int)=>k [⟨(.int .i64),false,r0,[]⟩] [] [])⟩
theorem jlG (a:List qC) (a_a:Bool) (t_a:List Tag) (k_:Int) (a_k_:Bool) (t_k_:List Tag) (k:qK):Z6X jbC [j6W] (.t .o (.t (.t .o (.t (.x 0) .o)) .o)) false Tryz.f130 [.look y8 false,.look (.int .i64) false] [false] [⟨y8,a_a,a,t_a⟩,⟨(.int .i64),a_k_,k_,t_k_⟩] [] k=j8h a k_ (λ(r0:Int)=>k [⟨(.int .i64),false,r0,[]⟩] [] []):=by kernel_rfl
theorem jm0:Z1k Tryz.prog 130 jf1:=Z8N (Γ:=jbC) (X:=[j6W]) (ht:=(.t .o (.t (.t .o (.t (.x 0) .o)) .o))) (fz:=false) (c:=j5P) follows j01 (Z8C j0w Z8W) (Z1A.mk trivial ((Z1A.mk ((Z1A.mk trivial ((Z1A.mk (Z1A.x_mk (λW0 M hnp=>jj6 (W0:=W0) (M:=M) hnp)) trivial)))) trivial))) Tryz.func130 (by kernel_rfl) (by kernel_rfl) (by decide) (by
 intro vals ext k r h
 obtain ⟨a,a_a,t_a,vals,rfl,h1⟩:=Z8T h
 obtain ⟨k_,a_k_,t_k_,vals,rfl,h2⟩:=Z8T h1
 obtain ⟨rfl,h3⟩:=Z90 h2
 obtain ⟨rfl,h4⟩:=Z90 h3
 exact (jlG a a_a t_a k_ a_k_ t_k_ k).trans h4)
end Go.PI.G
namespace Go.PI.G
open Go Go.PI Go.Proofs
open Go.Code (pl pr)
noncomputable def j4Z:Code:=(Tryz.f144.body).getD .skip
noncomputable def jaU:Env Unit:=⟨tys,[],0⟩
noncomputable def j3y (a:qL) (b:qL) (i:Int) (rec:Int->Res) (k0:Unit->Res) (k1:Unit->Res):Res:=
 bif decide (i<(nI (List.length a))) then
  bif inb i (List.length a) then
   bif inb i (List.length b) then
    bif sNe (nth eS a i) (nth eS b i) then
     k1 ()
    else
     rec (Z8g (i+1))
   else none
  else none
 else
  k0 ()
noncomputable def j8D (a:qL) (b:qL):Int->(Int->Res)->((Unit->Res)×(Unit->Res))->Res:=λv rec q=>j3y a b v (λi=>rec (i)) q.1 q.2
noncomputable def jan (a:qL) (b:qL) (n:Nat) (i:Int) (k0:Unit->Res) (k1:Unit->Res):Res:=Z10 (j8D a b) n (i) (k0,k1)
noncomputable def j6o:Z1l Unit:=λσ k=>rdN σ 26<|rdV σ 0 y9 false [.S] λa=>rdV σ 1 y9 false [.S] λb=>rdV σ 5 (.int .i64) false [] λi=>jan a b Z0Y i (λ(_:Unit)=>k (.exit 0) (mkS 26 26 [] [])) (λ(_:Unit)=>k .ret (mkS 26 26 [(4,.val ⟨.bool,false,false,[]⟩)] []))
theorem jhF (a:qL) (b:qL) (n:Nat) (v:Int) (k:Z6G Unit):Z3X (Z0R jaU [] .o (pl (pl (pr (pl (pr (pr j4Z))))))) (λσ=>σ.forget [0,1,5] []) (Z8a ([],[]) [(0,[],[])] ([4],[])) n (mkS 26 26 [(0,.val ⟨y9,false,a,[.S]⟩),(1,.val ⟨y9,false,b,[.S]⟩),(5,.val ⟨(.int .i64),false,v,[]⟩)] []) k=Z10 (j8D a b) n v ((λ(k:Z6G Unit)=>(((λ(_:Unit)=>k (.exit 0) (mkS 26 26 [] [])),(λ(_:Unit)=>k .ret (mkS 26 26 [(4,.val ⟨.bool,false,false,[]⟩)] []))):(Unit->Res)×(Unit->Res))) k):=Z80 (λv:Int=>(mkS 26 26 [(0,.val ⟨y9,false,a,[.S]⟩),(1,.val ⟨y9,false,b,[.S]⟩),(5,.val ⟨(.int .i64),false,v,[]⟩)] [])) (j8D a b) (λ(k:Z6G Unit)=>(((λ(_:Unit)=>k (.exit 0) (mkS 26 26 [] [])),(λ(_:Unit)=>k .ret (mkS 26 26 [(4,.val ⟨.bool,false,false,[]⟩)] []))):(Unit->Res)×(Unit->Res))) (λv rec k=>by kernel_rfl) n v k
theorem ji5 {W0:Base} {M:Nat->Prop} (hnp:W0.np<=0):Z1W Tryz.prog W0 M (pl (pr (pl (pr (pr j4Z))))) j6o:=show Z1W Tryz.prog W0 M (Code.loop (pl (pl (pr (pl (pr (pr j4Z))))))) j6o from Z8X (Z6Q follows j01 (Z7K Z8W) hnp [] (pl (pl (pr (pl (pr (pr j4Z)))))) .o trivial) (ks:=[0,1,5]) (bs:=[]) (fX:=(Z8a ([],[]) [(0,[],[])] ([4],[]))) (Z8U _ _ _) Z0Y (by
 intro σ k r h
 obtain ⟨hn,h1⟩:=Z8G h
 obtain ⟨a,hs0,h2⟩:=Z8J h1
 obtain ⟨b,hs1,h3⟩:=Z8J h2
 obtain ⟨i,hs5,h4⟩:=Z8J h3
 refine ⟨_,?_,(jhF a b Z0Y (i) k).trans h4⟩
 exact Z9e hn ⟨hs0,hs1,hs5,trivial⟩ trivial)
noncomputable def j7p (a:qL) (b:qL) (k0:Bool->Res):Res:=
 bif ((nI (List.length a)) != (nI (List.length b))) then
  k0 false
 else
  jan a b Z0Y 0
   (λ(_:Unit)=>
    k0 true)
   (λ(_:Unit)=>
    k0 false)
noncomputable def jea:Sig Unit:=⟨[.look y9 false,.look y9 false],[false],λvals ext k=>av vals y9 λa vals=>av vals y9 λb vals=>nl vals<|nl ext<|j7p a b (λ(r0:Bool)=>k [⟨.bool,false,r0,[]⟩] [] [])⟩
theorem jjG (a:qL) (a_a:Bool) (t_a:List Tag) (b:qL) (a_b:Bool) (t_b:List Tag) (k:qK):Z6X jaU [j6o] (.t .o (.t .o (.t (.t .o (.t (.x 0) .o)) .o))) false Tryz.f144 [.look y9 false,.look y9 false] [false] [⟨y9,a_a,a,t_a⟩,⟨y9,a_b,b,t_b⟩] [] k=j7p a b (λ(r0:Bool)=>k [⟨.bool,false,r0,[]⟩] [] []):=by kernel_rfl
theorem jjL:Z1k Tryz.prog 144 jea:=Z8N (Γ:=jaU) (X:=[j6o]) (ht:=(.t .o (.t .o (.t (.t .o (.t (.x 0) .o)) .o)))) (fz:=false) (c:=j4Z) follows j01 Z8W (Z1A.mk trivial ((Z1A.mk trivial ((Z1A.mk ((Z1A.mk trivial ((Z1A.mk (Z1A.x_mk (λW0 M hnp=>ji5 (W0:=W0) (M:=M) hnp)) trivial)))) trivial))))) Tryz.func144 (by kernel_rfl) (by kernel_rfl) (by decide) (by
 intro vals ext k r h
 obtain ⟨a,a_a,t_a,vals,rfl,h1⟩:=Z8T h
 obtain ⟨b,a_b,t_b,vals,rfl,h2⟩:=Z8T h1
 obtain ⟨rfl,h3⟩:=Z90 h2
 obtain ⟨rfl,h4⟩:=Z90 h3
 exact (jjG a a_a t_a b a_b t_b k).trans h4)
noncomputable def j3T:Code:=(Tryz.f128.body).getD .skip
noncomputable def j9r:Env Unit:=⟨tys,[(125,j3a)],1⟩
noncomputable def j2O (a:qL) (k_:Int) (i:Int) (rec:qL->Int->Int->Res) (k0:qL->Int->Res):Res:=
 bif decide (i<(nI (List.length a))) then
  j1m k_ λ(r:qB)=>
   bif inb i (List.length a) then
    rec (upd a i r) (Z8g (k_+1)) (Z8g (i+1))
   else none
 else
  k0 a k_
noncomputable def j4d:(qL×Int×Int)->(qL×Int×Int->Res)->((qL->Int->Res))->Res:=λv rec q=>j2O v.1 v.2.1 v.2.2 (λa k_ i=>rec (a,k_,i)) q
noncomputable def j8F (n:Nat) (a:qL) (k_:Int) (i:Int) (k0:qL->Int->Res):Res:=Z10 (j4d) n (a,k_,i) (k0)
noncomputable def j4P:Z1l Unit:=λσ k=>rdN σ 20<|rdV σ 0 y9 false [.O] λa=>rdV σ 1 (.int .i64) false [] λk_=>rdV σ 5 (.int .i64) false [] λi=>j8F Z0Y a k_ i (λ(a1:qL) (k_1:Int)=>k (.exit 0) (mkS 20 20 [(0,.val ⟨y9,false,a1,[.O]⟩),(1,.val ⟨(.int .i64),false,k_1,[]⟩)] []))
theorem jgq  (n:Nat) (v:qL×Int×Int) (k:Z6G Unit):Z3X (Z0R j9r [] .o (pl (pl (pr (pl (pr j3T)))))) (λσ=>σ.forget [0,1,5] []) (Z8a ([],[]) [(0,[0,1],[])] ([],[])) n (mkS 20 20 [(0,.val ⟨y9,false,v.1,[.O]⟩),(1,.val ⟨(.int .i64),false,v.2.1,[]⟩),(5,.val ⟨(.int .i64),false,v.2.2,[]⟩)] []) k=Z10 (j4d) n v ((λ(k:Z6G Unit)=>(((λ(a1:qL) (k_1:Int)=>k (.exit 0) (mkS 20 20 [(0,.val ⟨y9,false,a1,[.O]⟩),(1,.val ⟨(.int .i64),false,k_1,[]⟩)] []))):(qL->Int->Res))) k):=Z80 (λv:qL×Int×Int=>(mkS 20 20 [(0,.val ⟨y9,false,v.1,[.O]⟩),(1,.val ⟨(.int .i64),false,v.2.1,[]⟩),(5,.val ⟨(.int .i64),false,v.2.2,[]⟩)] [])) (j4d) (λ(k:Z6G Unit)=>(((λ(a1:qL) (k_1:Int)=>k (.exit 0) (mkS 20 20 [(0,.val ⟨y9,false,a1,[.O]⟩),(1,.val ⟨(.int .i64),false,k_1,[]⟩)] []))):(qL->Int->Res))) (λv rec k=>by kernel_rfl) n v k
theorem jgB {W0:Base} {M:Nat->Prop} (hnp:W0.np<=1):Z1W Tryz.prog W0 M (pl (pr (pl (pr j3T)))) j4P:=show Z1W Tryz.prog W0 M (Code.loop (pl (pl (pr (pl (pr j3T)))))) j4P from Z8X (Z6Q follows j01 (Z7K (Z8C j0w Z8W)) hnp [] (pl (pl (pr (pl (pr j3T))))) .o trivial) (ks:=[0,1,5]) (bs:=[]) (fX:=(Z8a ([],[]) [(0,[0,1],[])] ([],[]))) (Z8U _ _ _) Z0Y (by
 intro σ k r h
 obtain ⟨hn,h1⟩:=Z8G h
 obtain ⟨a,hs0,h2⟩:=Z8J h1
 obtain ⟨k_,hs1,h3⟩:=Z8J h2
 obtain ⟨i,hs5,h4⟩:=Z8J h3
 refine ⟨_,?_,(jgq  Z0Y (a,k_,i) k).trans h4⟩
 exact Z9e hn ⟨hs0,hs1,hs5,trivial⟩ trivial)
noncomputable def j5d (a:qL) (k_:Int) (k0:Int->qL->Res):Res:=
 j8F Z0Y a k_ 0 λ(a1:qL) (k_1:Int)=>
  k0 k_1 a1
noncomputable def jdb:Sig Unit:=⟨[.inout y9 false,.borrow (.int .i64) false],[false],λvals ext k=>ao vals y9 [.O] λa vals=>av vals (.int .i64) λk_ vals=>nl vals<|nl ext<|j5d a k_ (λ(r0:Int) (i0:qL)=>k [⟨(.int .i64),false,r0,[]⟩] [⟨y9,false,i0,[.O]⟩] [])⟩
theorem jhu (a_a:Bool) (a:qL) (k_:Int) (a_k_:Bool) (t_k_:List Tag) (k:qK):Z6X j9r [j4P] (.t .o (.t (.t .o (.t (.x 0) .o)) .o)) false Tryz.f128 [.inout y9 false,.borrow (.int .i64) false] [false] [⟨y9,a_a,a,[.O]⟩,⟨(.int .i64),a_k_,k_,t_k_⟩] [] k=j5d a k_ (λ(r0:Int) (i0:qL)=>k [⟨(.int .i64),false,r0,[]⟩] [⟨y9,false,i0,[.O]⟩] []):=by kernel_rfl
theorem jhz:Z1k Tryz.prog 128 jdb:=Z8N (Γ:=j9r) (X:=[j4P]) (ht:=(.t .o (.t (.t .o (.t (.x 0) .o)) .o))) (fz:=false) (c:=j3T) follows j01 (Z8C j0w Z8W) (Z1A.mk trivial ((Z1A.mk ((Z1A.mk trivial ((Z1A.mk (Z1A.x_mk (λW0 M hnp=>jgB (W0:=W0) (M:=M) hnp)) trivial)))) trivial))) Tryz.func128 (by kernel_rfl) (by kernel_rfl) (by decide) (by
 intro vals ext k r h
 obtain ⟨a_a,a,vals,rfl,h1⟩:=Z8S h
 obtain ⟨k_,a_k_,t_k_,vals,rfl,h2⟩:=Z8T h1
 obtain ⟨rfl,h3⟩:=Z90 h2
 obtain ⟨rfl,h4⟩:=Z90 h3
 exact (jhu a_a a k_ a_k_ t_k_ k).trans h4)
noncomputable def j3S:Code:=(Tryz.f131.body).getD .skip
noncomputable def j9q:Env Unit:=⟨tys,[(125,j3a)],0⟩
noncomputable def j2N (a:qL) (k_:Int) (i:Int) (rec:Int->Int->Res) (k0:Int->Res) (k1:Unit->Res):Res:=
 bif decide (i<(nI (List.length a))) then
  bif inb i (List.length a) then
   j1m k_ λ(r:qB)=>
    bif sNe (nth eS a i) r then
     k1 ()
    else
     rec (Z8g (k_+1)) (Z8g (i+1))
  else none
 else
  k0 k_
noncomputable def j4c (a:qL):(Int×Int)->(Int×Int->Res)->((Int->Res)×(Unit->Res))->Res:=λv rec q=>j2N a v.1 v.2 (λk_ i=>rec (k_,i)) q.1 q.2
noncomputable def j8E (a:qL) (n:Nat) (k_:Int) (i:Int) (k0:Int->Res) (k1:Unit->Res):Res:=Z10 (j4c a) n (k_,i) (k0,k1)
noncomputable def j4O:Z1l Unit:=λσ k=>rdN σ 22<|rdV σ 0 y9 false [.S] λa=>rdV σ 1 (.int .i64) false [] λk_=>rdV σ 5 (.int .i64) false [] λi=>j8E a Z0Y k_ i (λ(k_1:Int)=>k (.exit 0) (mkS 22 22 [(1,.val ⟨(.int .i64),false,k_1,[]⟩)] [])) (λ(_:Unit)=>k .ret (mkS 22 22 [(4,.val ⟨(.int .i64),false,(-1),[]⟩)] []))
theorem jgp (a:qL) (n:Nat) (v:Int×Int) (k:Z6G Unit):Z3X (Z0R j9q [] .o (pl (pl (pr (pl (pr j3S)))))) (λσ=>σ.forget [0,1,5] []) (Z8a ([],[]) [(0,[1],[])] ([4],[])) n (mkS 22 22 [(0,.val ⟨y9,false,a,[.S]⟩),(1,.val ⟨(.int .i64),false,v.1,[]⟩),(5,.val ⟨(.int .i64),false,v.2,[]⟩)] []) k=Z10 (j4c a) n v ((λ(k:Z6G Unit)=>(((λ(k_1:Int)=>k (.exit 0) (mkS 22 22 [(1,.val ⟨(.int .i64),false,k_1,[]⟩)] [])),(λ(_:Unit)=>k .ret (mkS 22 22 [(4,.val ⟨(.int .i64),false,(-1),[]⟩)] []))):(Int->Res)×(Unit->Res))) k):=Z80 (λv:Int×Int=>(mkS 22 22 [(0,.val ⟨y9,false,a,[.S]⟩),(1,.val ⟨(.int .i64),false,v.1,[]⟩),(5,.val ⟨(.int .i64),false,v.2,[]⟩)] [])) (j4c a) (λ(k:Z6G Unit)=>(((λ(k_1:Int)=>k (.exit 0) (mkS 22 22 [(1,.val ⟨(.int .i64),false,k_1,[]⟩)] [])),(λ(_:Unit)=>k .ret (mkS 22 22 [(4,.val ⟨(.int .i64),false,(-1),[]⟩)] []))):(Int->Res)×(Unit->Res))) (λv rec k=>by kernel_rfl) n v k
theorem jgA {W0:Base} {M:Nat->Prop} (hnp:W0.np<=0):Z1W Tryz.prog W0 M (pl (pr (pl (pr j3S)))) j4O:=show Z1W Tryz.prog W0 M (Code.loop (pl (pl (pr (pl (pr j3S)))))) j4O from Z8X (Z6Q follows j01 (Z7K (Z8C j0w Z8W)) hnp [] (pl (pl (pr (pl (pr j3S))))) .o trivial) (ks:=[0,1,5]) (bs:=[]) (fX:=(Z8a ([],[]) [(0,[1],[])] ([4],[]))) (Z8U _ _ _) Z0Y (by
 intro σ k r h
 obtain ⟨hn,h1⟩:=Z8G h
 obtain ⟨a,hs0,h2⟩:=Z8J h1
 obtain ⟨k_,hs1,h3⟩:=Z8J h2
 obtain ⟨i,hs5,h4⟩:=Z8J h3
 refine ⟨_,?_,(jgp a Z0Y (k_,i) k).trans h4⟩
 exact Z9e hn ⟨hs0,hs1,hs5,trivial⟩ trivial)
noncomputable def j59 (a:qL) (k_:Int) (k0:Int->Res):Res:=
 j8E a Z0Y k_ 0
  (λ(k_1:Int)=>
   k0 k_1)
  (λ(_:Unit)=>
   k0 (-1))
noncomputable def jda:Sig Unit:=⟨[.look y9 false,.look (.int .i64) false],[false],λvals ext k=>av vals y9 λa vals=>av vals (.int .i64) λk_ vals=>nl vals<|nl ext<|j59 a k_ (λ(r0:Int)=>k [⟨(.int .i64),false,r0,[]⟩] [] [])⟩
theorem jht (a:qL) (a_a:Bool) (t_a:List Tag) (k_:Int) (a_k_:Bool) (t_k_:List Tag) (k:qK):Z6X j9q [j4O] (.t .o (.t (.t .o (.t (.x 0) .o)) .o)) false Tryz.f131 [.look y9 false,.look (.int .i64) false] [false] [⟨y9,a_a,a,t_a⟩,⟨(.int .i64),a_k_,k_,t_k_⟩] [] k=j59 a k_ (λ(r0:Int)=>k [⟨(.int .i64),false,r0,[]⟩] [] []):=by kernel_rfl
theorem jhy:Z1k Tryz.prog 131 jda:=Z8N (Γ:=j9q) (X:=[j4O]) (ht:=(.t .o (.t (.t .o (.t (.x 0) .o)) .o))) (fz:=false) (c:=j3S) follows j01 (Z8C j0w Z8W) (Z1A.mk trivial ((Z1A.mk ((Z1A.mk trivial ((Z1A.mk (Z1A.x_mk (λW0 M hnp=>jgA (W0:=W0) (M:=M) hnp)) trivial)))) trivial))) Tryz.func131 (by kernel_rfl) (by kernel_rfl) (by decide) (by
 intro vals ext k r h
 obtain ⟨a,a_a,t_a,vals,rfl,h1⟩:=Z8T h
 obtain ⟨k_,a_k_,t_k_,vals,rfl,h2⟩:=Z8T h1
 obtain ⟨rfl,h3⟩:=Z90 h2
 obtain ⟨rfl,h4⟩:=Z90 h3
 exact (jht a a_a t_a k_ a_k_ t_k_ k).trans h4)
end Go.PI.G
namespace Go.PI.G
open Go Go.PI Go.Proofs
open Go.Code (pl pr)
noncomputable def jq1:Code:=(Tryz.f225.body).getD .skip
noncomputable def jhP:Env Unit:=⟨tys,[(144,jea),(259,jhh)],0⟩
noncomputable def jbR (a:qG) (b:qG) (k0:Bool->Res):Res:=
 bif (a.1 != b.1) then
  k0 false
 else
  bif sNe a.2.1 b.2.1 then
   k0 false
  else
   jaz a.2.2.1 b.2.2.1 λ(r:Bool)=>
    bif !r then
     k0 false
    else
     j7p a.2.2.2.1 b.2.2.2.1 λ(r1:Bool)=>
      bif !r1 then
       k0 false
      else
       bif sNe a.2.2.2.2.1 b.2.2.2.2.1 then
        k0 false
       else
        bif sNe a.2.2.2.2.2 b.2.2.2.2.2 then
         k0 false
        else
         k0 true
noncomputable def jie:Sig Unit:=⟨[.look y14 true,.look y14 true],[false],λvals ext k=>av vals y14 λa vals=>av vals y14 λb vals=>nl vals<|nl ext<|jbR a b (λ(r0:Bool)=>k [⟨.bool,false,r0,[]⟩] [] [])⟩
theorem jpG (a:qG) (a_a:Bool) (t_a:List Tag) (b:qG) (a_b:Bool) (t_b:List Tag) (k:qK):Z6X jhP [] .o false Tryz.f225 [.look y14 true,.look y14 true] [false] [⟨y14,a_a,a,t_a⟩,⟨y14,a_b,b,t_b⟩] [] k=jbR a b (λ(r0:Bool)=>k [⟨.bool,false,r0,[]⟩] [] []):=by kernel_rfl
theorem jpR:Z1k Tryz.prog 225 jie:=Z8N (Γ:=jhP) (X:=[]) (ht:= .o) (fz:=false) (c:=jq1) follows j01 (Z8C jjL (Z8C jpb Z8W)) trivial Tryz.func225 (by kernel_rfl) (by kernel_rfl) (by decide) (by
 intro vals ext k r h
 obtain ⟨a,a_a,t_a,vals,rfl,h1⟩:=Z8T h
 obtain ⟨b,a_b,t_b,vals,rfl,h2⟩:=Z8T h1
 obtain ⟨rfl,h3⟩:=Z90 h2
 obtain ⟨rfl,h4⟩:=Z90 h3
 exact (jpG a a_a t_a b a_b t_b k).trans h4)
noncomputable def jnN:Code:=(Tryz.f227.body).getD .skip
noncomputable def jfM:Env Unit:=⟨tys,[(127,jf4),(128,jdb)],1⟩
noncomputable def j9B (a:qG) (k_:Int) (k0:Int->qG->Res):Res:=
 j8j a.2.2.1 k_ λ(r:Int) (a1:List qC)=>
  j5d a.2.2.2.1 r λ(r1:Int) (a2:qL)=>
   k0 r1 (a.1,a.2.1,a1,a2,a.2.2.2.2)
noncomputable def jg6:Sig Unit:=⟨[.inout y14 true,.borrow (.int .i64) false],[false],λvals ext k=>ao vals y14 [.O,.O] λa vals=>av vals (.int .i64) λk_ vals=>nl vals<|nl ext<|j9B a k_ (λ(r0:Int) (i0:qG)=>k [⟨(.int .i64),false,r0,[]⟩] [⟨y14,true,i0,[.O,.O]⟩] [])⟩
theorem jnj (a_a:Bool) (a:qG) (k_:Int) (a_k_:Bool) (t_k_:List Tag) (k:qK):Z6X jfM [] .o false Tryz.f227 [.inout y14 true,.borrow (.int .i64) false] [false] [⟨y14,a_a,a,[.O,.O]⟩,⟨(.int .i64),a_k_,k_,t_k_⟩] [] k=j9B a k_ (λ(r0:Int) (i0:qG)=>k [⟨(.int .i64),false,r0,[]⟩] [⟨y14,true,i0,[.O,.O]⟩] []):=by kernel_rfl
theorem jnG:Z1k Tryz.prog 227 jg6:=Z8N (Γ:=jfM) (X:=[]) (ht:= .o) (fz:=false) (c:=jnN) follows j01 (Z8C jm2 (Z8C jhz Z8W)) trivial Tryz.func227 (by kernel_rfl) (by kernel_rfl) (by decide) (by
 intro vals ext k r h
 obtain ⟨a_a,a,vals,rfl,h1⟩:=Z8S h
 obtain ⟨k_,a_k_,t_k_,vals,rfl,h2⟩:=Z8T h1
 obtain ⟨rfl,h3⟩:=Z90 h2
 obtain ⟨rfl,h4⟩:=Z90 h3
 exact (jnj a_a a k_ a_k_ t_k_ k).trans h4)
noncomputable def jnK:Code:=(Tryz.f229.body).getD .skip
noncomputable def jfJ:Env Unit:=⟨tys,[(130,jf1),(131,jda)],0⟩
noncomputable def j9y (a:qG) (k_:Int) (k0:Int->Res):Res:=
 j8h a.2.2.1 k_ λ(r:Int)=>
  bif decide (r<0) then
   k0 (-1)
  else
   j59 a.2.2.2.1 r λ(r1:Int)=>
    bif decide (r1<0) then
     k0 (-1)
    else
     k0 r1
noncomputable def jg3:Sig Unit:=⟨[.look y14 true,.look (.int .i64) false],[false],λvals ext k=>av vals y14 λa vals=>av vals (.int .i64) λk_ vals=>nl vals<|nl ext<|j9y a k_ (λ(r0:Int)=>k [⟨(.int .i64),false,r0,[]⟩] [] [])⟩
theorem jng (a:qG) (a_a:Bool) (t_a:List Tag) (k_:Int) (a_k_:Bool) (t_k_:List Tag) (k:qK):Z6X jfJ [] .o false Tryz.f229 [.look y14 true,.look (.int .i64) false] [false] [⟨y14,a_a,a,t_a⟩,⟨(.int .i64),a_k_,k_,t_k_⟩] [] k=j9y a k_ (λ(r0:Int)=>k [⟨(.int .i64),false,r0,[]⟩] [] []):=by kernel_rfl
theorem jnD:Z1k Tryz.prog 229 jg3:=Z8N (Γ:=jfJ) (X:=[]) (ht:= .o) (fz:=false) (c:=jnK) follows j01 (Z8C jm0 (Z8C jhy Z8W)) trivial Tryz.func229 (by kernel_rfl) (by kernel_rfl) (by decide) (by
 intro vals ext k r h
 obtain ⟨a,a_a,t_a,vals,rfl,h1⟩:=Z8T h
 obtain ⟨k_,a_k_,t_k_,vals,rfl,h2⟩:=Z8T h1
 obtain ⟨rfl,h3⟩:=Z90 h2
 obtain ⟨rfl,h4⟩:=Z90 h3
 exact (jng a a_a t_a k_ a_k_ t_k_ k).trans h4)
end Go.PI.G
namespace Go.PI.G
open Go Go.PI Go.Proofs
open Go.Code (pl pr)
noncomputable def j8b:Code:=(Tryz.f223.body).getD .skip
noncomputable def jdl:Env Unit:=⟨tys,[(258,jeb)],0⟩
noncomputable def j58 (a:List qV) (b:List qV) (i:Int) (rec:Int->Res) (k0:Unit->Res) (k1:Unit->Res):Res:=
 bif decide (i<(nI (List.length a))) then
  bif inb i (List.length a) then
   bif inb i (List.length b) then
    ja5 (nth (0,0,eS) a i) (nth (0,0,eS) b i) λ(r:Bool)=>
     bif !r then
      k1 ()
     else
      rec (Z8g (i+1))
   else none
  else none
 else
  k0 ()
noncomputable def jaY (a:List qV) (b:List qV):Int->(Int->Res)->((Unit->Res)×(Unit->Res))->Res:=λv rec q=>j58 a b v (λi=>rec (i)) q.1 q.2
noncomputable def jcM (a:List qV) (b:List qV) (n:Nat) (i:Int) (k0:Unit->Res) (k1:Unit->Res):Res:=Z10 (jaY a b) n (i) (k0,k1)
noncomputable def j9i:Z1l Unit:=λσ k=>rdN σ 27<|rdV σ 0 y3 false [.S] λa=>rdV σ 1 y3 false [.S] λb=>rdV σ 5 (.int .i64) false [] λi=>jcM a b Z0Y i (λ(_:Unit)=>k (.exit 0) (mkS 27 27 [] [])) (λ(_:Unit)=>k .ret (mkS 27 27 [(4,.val ⟨.bool,false,false,[]⟩)] []))
theorem jms (a:List qV) (b:List qV) (n:Nat) (v:Int) (k:Z6G Unit):Z3X (Z0R jdl [] .o (pl (pl (pr (pl (pr (pr j8b))))))) (λσ=>σ.forget [0,1,5] []) (Z8a ([],[]) [(0,[],[])] ([4],[])) n (mkS 27 27 [(0,.val ⟨y3,false,a,[.S]⟩),(1,.val ⟨y3,false,b,[.S]⟩),(5,.val ⟨(.int .i64),false,v,[]⟩)] []) k=Z10 (jaY a b) n v ((λ(k:Z6G Unit)=>(((λ(_:Unit)=>k (.exit 0) (mkS 27 27 [] [])),(λ(_:Unit)=>k .ret (mkS 27 27 [(4,.val ⟨.bool,false,false,[]⟩)] []))):(Unit->Res)×(Unit->Res))) k):=Z80 (λv:Int=>(mkS 27 27 [(0,.val ⟨y3,false,a,[.S]⟩),(1,.val ⟨y3,false,b,[.S]⟩),(5,.val ⟨(.int .i64),false,v,[]⟩)] [])) (jaY a b) (λ(k:Z6G Unit)=>(((λ(_:Unit)=>k (.exit 0) (mkS 27 27 [] [])),(λ(_:Unit)=>k .ret (mkS 27 27 [(4,.val ⟨.bool,false,false,[]⟩)] []))):(Unit->Res)×(Unit->Res))) (λv rec k=>by kernel_rfl) n v k
theorem jmK {W0:Base} {M:Nat->Prop} (hnp:W0.np<=0):Z1W Tryz.prog W0 M (pl (pr (pl (pr (pr j8b))))) j9i:=show Z1W Tryz.prog W0 M (Code.loop (pl (pl (pr (pl (pr (pr j8b))))))) j9i from Z8X (Z6Q follows j01 (Z7K (Z8C jdK Z8W)) hnp [] (pl (pl (pr (pl (pr (pr j8b)))))) .o trivial) (ks:=[0,1,5]) (bs:=[]) (fX:=(Z8a ([],[]) [(0,[],[])] ([4],[]))) (Z8U _ _ _) Z0Y (by
 intro σ k r h
 obtain ⟨hn,h1⟩:=Z8G h
 obtain ⟨a,hs0,h2⟩:=Z8J h1
 obtain ⟨b,hs1,h3⟩:=Z8J h2
 obtain ⟨i,hs5,h4⟩:=Z8J h3
 refine ⟨_,?_,(jms a b Z0Y (i) k).trans h4⟩
 exact Z9e hn ⟨hs0,hs1,hs5,trivial⟩ trivial)
noncomputable def j8x (a:List qV) (b:List qV) (k0:Bool->Res):Res:=
 bif ((nI (List.length a)) != (nI (List.length b))) then
  k0 false
 else
  jcM a b Z0Y 0
   (λ(_:Unit)=>
    k0 true)
   (λ(_:Unit)=>
    k0 false)
noncomputable def jds:Sig Unit:=⟨[.look y3 false,.look y3 false],[false],λvals ext k=>av vals y3 λa vals=>av vals y3 λb vals=>nl vals<|nl ext<|j8x a b (λ(r0:Bool)=>k [⟨.bool,false,r0,[]⟩] [] [])⟩
theorem jp2 (a:List qV) (a_a:Bool) (t_a:List Tag) (b:List qV) (a_b:Bool) (t_b:List Tag) (k:qK):Z6X jdl [j9i] (.t .o (.t .o (.t (.t .o (.t (.x 0) .o)) .o))) false Tryz.f223 [.look y3 false,.look y3 false] [false] [⟨y3,a_a,a,t_a⟩,⟨y3,a_b,b,t_b⟩] [] k=j8x a b (λ(r0:Bool)=>k [⟨.bool,false,r0,[]⟩] [] []):=by kernel_rfl
theorem jgY:Z1k Tryz.prog 223 jds:=Z8N (Γ:=jdl) (X:=[j9i]) (ht:=(.t .o (.t .o (.t (.t .o (.t (.x 0) .o)) .o)))) (fz:=false) (c:=j8b) follows j01 (Z8C jdK Z8W) (Z1A.mk trivial ((Z1A.mk trivial ((Z1A.mk ((Z1A.mk trivial ((Z1A.mk (Z1A.x_mk (λW0 M hnp=>jmK (W0:=W0) (M:=M) hnp)) trivial)))) trivial))))) Tryz.func223 (by kernel_rfl) (by kernel_rfl) (by decide) (by
 intro vals ext k r h
 obtain ⟨a,a_a,t_a,vals,rfl,h1⟩:=Z8T h
 obtain ⟨b,a_b,t_b,vals,rfl,h2⟩:=Z8T h1
 obtain ⟨rfl,h3⟩:=Z90 h2
 obtain ⟨rfl,h4⟩:=Z90 h3
 exact (jp2 a a_a t_a b a_b t_b k).trans h4)
noncomputable def j5S:Code:=(Tryz.f126.body).getD .skip
noncomputable def jbF:Env Unit:=⟨tys,[(125,j3a)],1⟩
noncomputable def j43 (a:List qV) (k_:Int) (i:Int) (rec:qW->Int->Int->Res) (k0:qW->Int->Res):Res:=
 bif decide (i<(nI (List.length a))) then
  bif inb i (List.length a) then
   bif inb i (List.length (upd a i (k_,(nth (0,0,eS) a i).2))) then
    j1m (Z8g ((Z8g (k_+1))+1)) λ(r:qB)=>
     bif inb i (List.length (upd (upd a i (k_,(nth (0,0,eS) a i).2)) i ((nth (0,0,eS) (upd a i (k_,(nth (0,0,eS) a i).2)) i).1,Z8g (k_+1),(nth (0,0,eS) (upd a i (k_,(nth (0,0,eS) a i).2)) i).2.2))) then
      rec (upd (upd (upd a i (k_,(nth (0,0,eS) a i).2)) i ((nth (0,0,eS) (upd a i (k_,(nth (0,0,eS) a i).2)) i).1,Z8g (k_+1),(nth (0,0,eS) (upd a i (k_,(nth (0,0,eS) a i).2)) i).2.2)) i ((nth (0,0,eS) (upd (upd a i (k_,(nth (0,0,eS) a i).2)) i ((nth (0,0,eS) (upd a i (k_,(nth (0,0,eS) a i).2)) i).1,Z8g (k_+1),(nth (0,0,eS) (upd a i (k_,(nth (0,0,eS) a i).2)) i).2.2)) i).1,(nth (0,0,eS) (upd (upd a i (k_,(nth (0,0,eS) a i).2)) i ((nth (0,0,eS) (upd a i (k_,(nth (0,0,eS) a i).2)) i).1,Z8g (k_+1),(nth (0,0,eS) (upd a i (k_,(nth (0,0,eS) a i).2)) i).2.2)) i).2.1,r)) (Z8g ((Z8g ((Z8g (k_+1))+1))+1)) (Z8g (i+1))
     else none
   else none
  else none
 else
  k0 a k_
noncomputable def j6c:(qW×Int×Int)->(qW×Int×Int->Res)->((qW->Int->Res))->Res:=λv rec q=>j43 v.1 v.2.1 v.2.2 (λa k_ i=>rec (a,k_,i)) q
noncomputable def jb3 (n:Nat) (a:List qV) (k_:Int) (i:Int) (k0:qW->Int->Res):Res:=Z10 (j6c) n (a,k_,i) (k0)
noncomputable def j70:Z1l Unit:=λσ k=>rdN σ 35<|rdV σ 0 y3 false [.O] λa=>rdV σ 1 (.int .i64) false [] λk_=>rdV σ 5 (.int .i64) false [] λi=>jb3 Z0Y a k_ i (λ(a1:List qV) (k_1:Int)=>k (.exit 0) (mkS 35 35 [(0,.val ⟨y3,false,a1,[.O]⟩),(1,.val ⟨(.int .i64),false,k_1,[]⟩)] []))
theorem jiL  (n:Nat) (v:qW×Int×Int) (k:Z6G Unit):Z3X (Z0R jbF [] .o (pl (pl (pr (pl (pr j5S)))))) (λσ=>σ.forget [0,1,5] []) (Z8a ([],[]) [(0,[0,1],[])] ([],[])) n (mkS 35 35 [(0,.val ⟨y3,false,v.1,[.O]⟩),(1,.val ⟨(.int .i64),false,v.2.1,[]⟩),(5,.val ⟨(.int .i64),false,v.2.2,[]⟩)] []) k=Z10 (j6c) n v ((λ(k:Z6G Unit)=>(((λ(a1:List qV) (k_1:Int)=>k (.exit 0) (mkS 35 35 [(0,.val ⟨y3,false,a1,[.O]⟩),(1,.val ⟨(.int .i64),false,k_1,[]⟩)] []))):(qW->Int->Res))) k):=Z80 (λv:qW×Int×Int=>(mkS 35 35 [(0,.val ⟨y3,false,v.1,[.O]⟩),(1,.val ⟨(.int .i64),false,v.2.1,[]⟩),(5,.val ⟨(.int .i64),false,v.2.2,[]⟩)] [])) (j6c) (λ(k:Z6G Unit)=>(((λ(a1:List qV) (k_1:Int)=>k (.exit 0) (mkS 35 35 [(0,.val ⟨y3,false,a1,[.O]⟩),(1,.val ⟨(.int .i64),false,k_1,[]⟩)] []))):(qW->Int->Res))) (λv rec k=>by kernel_rfl) n v k
theorem jjd {W0:Base} {M:Nat->Prop} (hnp:W0.np<=1):Z1W Tryz.prog W0 M (pl (pr (pl (pr j5S)))) j70:=show Z1W Tryz.prog W0 M (Code.loop (pl (pl (pr (pl (pr j5S)))))) j70 from Z8X (Z6Q follows j01 (Z7K (Z8C j0w Z8W)) hnp [] (pl (pl (pr (pl (pr j5S))))) .o trivial) (ks:=[0,1,5]) (bs:=[]) (fX:=(Z8a ([],[]) [(0,[0,1],[])] ([],[]))) (Z8U _ _ _) Z0Y (by
 intro σ k r h
 obtain ⟨hn,h1⟩:=Z8G h
 obtain ⟨a,hs0,h2⟩:=Z8J h1
 obtain ⟨k_,hs1,h3⟩:=Z8J h2
 obtain ⟨i,hs5,h4⟩:=Z8J h3
 refine ⟨_,?_,(jiL  Z0Y (a,k_,i) k).trans h4⟩
 exact Z9e hn ⟨hs0,hs1,hs5,trivial⟩ trivial)
noncomputable def j5I (a:List qV) (k_:Int) (k0:Int->qW->Res):Res:=
 jb3 Z0Y a k_ 0 λ(a1:List qV) (k_1:Int)=>
  k0 k_1 a1
noncomputable def jc1:Sig Unit:=⟨[.inout y3 false,.borrow (.int .i64) false],[false],λvals ext k=>ao vals y3 [.O] λa vals=>av vals (.int .i64) λk_ vals=>nl vals<|nl ext<|j5I a k_ (λ(r0:Int) (i0:List qV)=>k [⟨(.int .i64),false,r0,[]⟩] [⟨y3,false,i0,[.O]⟩] [])⟩
theorem jlO (a_a:Bool) (a:List qV) (k_:Int) (a_k_:Bool) (t_k_:List Tag) (k:qK):Z6X jbF [j70] (.t .o (.t (.t .o (.t (.x 0) .o)) .o)) false Tryz.f126 [.inout y3 false,.borrow (.int .i64) false] [false] [⟨y3,a_a,a,[.O]⟩,⟨(.int .i64),a_k_,k_,t_k_⟩] [] k=j5I a k_ (λ(r0:Int) (i0:List qV)=>k [⟨(.int .i64),false,r0,[]⟩] [⟨y3,false,i0,[.O]⟩] []):=by kernel_rfl
theorem jev:Z1k Tryz.prog 126 jc1:=Z8N (Γ:=jbF) (X:=[j70]) (ht:=(.t .o (.t (.t .o (.t (.x 0) .o)) .o))) (fz:=false) (c:=j5S) follows j01 (Z8C j0w Z8W) (Z1A.mk trivial ((Z1A.mk ((Z1A.mk trivial ((Z1A.mk (Z1A.x_mk (λW0 M hnp=>jjd (W0:=W0) (M:=M) hnp)) trivial)))) trivial))) Tryz.func126 (by kernel_rfl) (by kernel_rfl) (by decide) (by
 intro vals ext k r h
 obtain ⟨a_a,a,vals,rfl,h1⟩:=Z8S h
 obtain ⟨k_,a_k_,t_k_,vals,rfl,h2⟩:=Z8T h1
 obtain ⟨rfl,h3⟩:=Z90 h2
 obtain ⟨rfl,h4⟩:=Z90 h3
 exact (jlO a_a a k_ a_k_ t_k_ k).trans h4)
noncomputable def j5Q:Code:=(Tryz.f129.body).getD .skip
noncomputable def jbD:Env Unit:=⟨tys,[(125,j3a)],0⟩
noncomputable def j3Z (a:List qV) (k_:Int) (i:Int) (rec:Int->Int->Res) (k0:Int->Res) (k1:Unit->Res):Res:=
 bif decide (i<(nI (List.length a))) then
  bif inb i (List.length a) then
   bif ((nth (0,0,eS) a i).1 != k_) then
    k1 ()
   else
    bif inb i (List.length a) then
     bif ((nth (0,0,eS) a i).2.1 != (Z8g (k_+1))) then
      k1 ()
     else
      bif inb i (List.length a) then
       j1m (Z8g ((Z8g (k_+1))+1)) λ(r:qB)=>
        bif sNe (nth (0,0,eS) a i).2.2 r then
         k1 ()
        else
         rec (Z8g ((Z8g ((Z8g (k_+1))+1))+1)) (Z8g (i+1))
      else none
    else none
  else none
 else
  k0 k_
noncomputable def j6a (a:List qV):(Int×Int)->(Int×Int->Res)->((Int->Res)×(Unit->Res))->Res:=λv rec q=>j3Z a v.1 v.2 (λk_ i=>rec (k_,i)) q.1 q.2
noncomputable def jb0 (a:List qV) (n:Nat) (k_:Int) (i:Int) (k0:Int->Res) (k1:Unit->Res):Res:=Z10 (j6a a) n (k_,i) (k0,k1)
noncomputable def j6X:Z1l Unit:=λσ k=>rdN σ 41<|rdV σ 0 y3 false [.S] λa=>rdV σ 1 (.int .i64) false [] λk_=>rdV σ 5 (.int .i64) false [] λi=>jb0 a Z0Y k_ i (λ(k_1:Int)=>k (.exit 0) (mkS 41 41 [(1,.val ⟨(.int .i64),false,k_1,[]⟩)] [])) (λ(_:Unit)=>k .ret (mkS 41 41 [(4,.val ⟨(.int .i64),false,(-1),[]⟩)] []))
theorem jiF (a:List qV) (n:Nat) (v:Int×Int) (k:Z6G Unit):Z3X (Z0R jbD [] .o (pl (pl (pr (pl (pr j5Q)))))) (λσ=>σ.forget [0,1,5] []) (Z8a ([],[]) [(0,[1],[])] ([4],[])) n (mkS 41 41 [(0,.val ⟨y3,false,a,[.S]⟩),(1,.val ⟨(.int .i64),false,v.1,[]⟩),(5,.val ⟨(.int .i64),false,v.2,[]⟩)] []) k=Z10 (j6a a) n v ((λ(k:Z6G Unit)=>(((λ(k_1:Int)=>k (.exit 0) (mkS 41 41 [(1,.val ⟨(.int .i64),false,k_1,[]⟩)] [])),(λ(_:Unit)=>k .ret (mkS 41 41 [(4,.val ⟨(.int .i64),false,(-1),[]⟩)] []))):(Int->Res)×(Unit->Res))) k):=Z80 (λv:Int×Int=>(mkS 41 41 [(0,.val ⟨y3,false,a,[.S]⟩),(1,.val ⟨(.int .i64),false,v.1,[]⟩),(5,.val ⟨(.int .i64),false,v.2,[]⟩)] [])) (j6a a) (λ(k:Z6G Unit)=>(((λ(k_1:Int)=>k (.exit 0) (mkS 41 41 [(1,.val ⟨(.int .i64),false,k_1,[]⟩)] [])),(λ(_:Unit)=>k .ret (mkS 41 41 [(4,.val ⟨(.int .i64),false,(-1),[]⟩)] []))):(Int->Res)×(Unit->Res))) (λv rec k=>by kernel_rfl) n v k
theorem jj7 {W0:Base} {M:Nat->Prop} (hnp:W0.np<=0):Z1W Tryz.prog W0 M (pl (pr (pl (pr j5Q)))) j6X:=show Z1W Tryz.prog W0 M (Code.loop (pl (pl (pr (pl (pr j5Q)))))) j6X from Z8X (Z6Q follows j01 (Z7K (Z8C j0w Z8W)) hnp [] (pl (pl (pr (pl (pr j5Q))))) .o trivial) (ks:=[0,1,5]) (bs:=[]) (fX:=(Z8a ([],[]) [(0,[1],[])] ([4],[]))) (Z8U _ _ _) Z0Y (by
 intro σ k r h
 obtain ⟨hn,h1⟩:=Z8G h
 obtain ⟨a,hs0,h2⟩:=Z8J h1
 obtain ⟨k_,hs1,h3⟩:=Z8J h2
 obtain ⟨i,hs5,h4⟩:=Z8J h3
 refine ⟨_,?_,(jiF a Z0Y (k_,i) k).trans h4⟩
 exact Z9e hn ⟨hs0,hs1,hs5,trivial⟩ trivial)
noncomputable def j5H (a:List qV) (k_:Int) (k0:Int->Res):Res:=
 jb0 a Z0Y k_ 0
  (λ(k_1:Int)=>
   k0 k_1)
  (λ(_:Unit)=>
   k0 (-1))
noncomputable def jc0:Sig Unit:=⟨[.look y3 false,.look (.int .i64) false],[false],λvals ext k=>av vals y3 λa vals=>av vals (.int .i64) λk_ vals=>nl vals<|nl ext<|j5H a k_ (λ(r0:Int)=>k [⟨(.int .i64),false,r0,[]⟩] [] [])⟩
theorem jlJ (a:List qV) (a_a:Bool) (t_a:List Tag) (k_:Int) (a_k_:Bool) (t_k_:List Tag) (k:qK):Z6X jbD [j6X] (.t .o (.t (.t .o (.t (.x 0) .o)) .o)) false Tryz.f129 [.look y3 false,.look (.int .i64) false] [false] [⟨y3,a_a,a,t_a⟩,⟨(.int .i64),a_k_,k_,t_k_⟩] [] k=j5H a k_ (λ(r0:Int)=>k [⟨(.int .i64),false,r0,[]⟩] [] []):=by kernel_rfl
theorem jet:Z1k Tryz.prog 129 jc0:=Z8N (Γ:=jbD) (X:=[j6X]) (ht:=(.t .o (.t (.t .o (.t (.x 0) .o)) .o))) (fz:=false) (c:=j5Q) follows j01 (Z8C j0w Z8W) (Z1A.mk trivial ((Z1A.mk ((Z1A.mk trivial ((Z1A.mk (Z1A.x_mk (λW0 M hnp=>jj7 (W0:=W0) (M:=M) hnp)) trivial)))) trivial))) Tryz.func129 (by kernel_rfl) (by kernel_rfl) (by decide) (by
 intro vals ext k r h
 obtain ⟨a,a_a,t_a,vals,rfl,h1⟩:=Z8T h
 obtain ⟨k_,a_k_,t_k_,vals,rfl,h2⟩:=Z8T h1
 obtain ⟨rfl,h3⟩:=Z90 h2
 obtain ⟨rfl,h4⟩:=Z90 h3
 exact (jlJ a a_a t_a k_ a_k_ t_k_ k).trans h4)
end Go.PI.G
namespace Go.PI.G
open Go Go.PI Go.Proofs
open Go.Code (pl pr)
noncomputable def jq3:Code:=(Tryz.f224.body).getD .skip
noncomputable def jhR:Env Unit:=⟨tys,[(223,jds)],0⟩
noncomputable def jbT (a:List qV) (b:List qV) (k0:Bool->Res):Res:=
 j8x a b λ(r:Bool)=>
  bif !r then
   k0 false
  else
   k0 true
noncomputable def jig:Sig Unit:=⟨[.look y3 true,.look y3 true],[false],λvals ext k=>av vals y3 λa vals=>av vals y3 λb vals=>nl vals<|nl ext<|jbT a b (λ(r0:Bool)=>k [⟨.bool,false,r0,[]⟩] [] [])⟩
theorem jpI (a:List qV) (a_a:Bool) (t_a:List Tag) (b:List qV) (a_b:Bool) (t_b:List Tag) (k:qK):Z6X jhR [] .o false Tryz.f224 [.look y3 true,.look y3 true] [false] [⟨y3,a_a,a,t_a⟩,⟨y3,a_b,b,t_b⟩] [] k=jbT a b (λ(r0:Bool)=>k [⟨.bool,false,r0,[]⟩] [] []):=by kernel_rfl
theorem jpT:Z1k Tryz.prog 224 jig:=Z8N (Γ:=jhR) (X:=[]) (ht:= .o) (fz:=false) (c:=jq3) follows j01 (Z8C jgY Z8W) trivial Tryz.func224 (by kernel_rfl) (by kernel_rfl) (by decide) (by
 intro vals ext k r h
 obtain ⟨a,a_a,t_a,vals,rfl,h1⟩:=Z8T h
 obtain ⟨b,a_b,t_b,vals,rfl,h2⟩:=Z8T h1
 obtain ⟨rfl,h3⟩:=Z90 h2
 obtain ⟨rfl,h4⟩:=Z90 h3
 exact (jpI a a_a t_a b a_b t_b k).trans h4)
noncomputable def jnP:Code:=(Tryz.f226.body).getD .skip
noncomputable def jfO:Env Unit:=⟨tys,[(126,jc1)],1⟩
noncomputable def j9D (a:List qV) (k_:Int) (k0:Int->qW->Res):Res:=
 j5I a k_ λ(r:Int) (a1:List qV)=>
  k0 r a1
noncomputable def jg8:Sig Unit:=⟨[.inout y3 true,.borrow (.int .i64) false],[false],λvals ext k=>ao vals y3 [.O] λa vals=>av vals (.int .i64) λk_ vals=>nl vals<|nl ext<|j9D a k_ (λ(r0:Int) (i0:List qV)=>k [⟨(.int .i64),false,r0,[]⟩] [⟨y3,true,i0,[.O]⟩] [])⟩
theorem jnl (a_a:Bool) (a:List qV) (k_:Int) (a_k_:Bool) (t_k_:List Tag) (k:qK):Z6X jfO [] .o false Tryz.f226 [.inout y3 true,.borrow (.int .i64) false] [false] [⟨y3,a_a,a,[.O]⟩,⟨(.int .i64),a_k_,k_,t_k_⟩] [] k=j9D a k_ (λ(r0:Int) (i0:List qV)=>k [⟨(.int .i64),false,r0,[]⟩] [⟨y3,true,i0,[.O]⟩] []):=by kernel_rfl
theorem jnI:Z1k Tryz.prog 226 jg8:=Z8N (Γ:=jfO) (X:=[]) (ht:= .o) (fz:=false) (c:=jnP) follows j01 (Z8C jev Z8W) trivial Tryz.func226 (by kernel_rfl) (by kernel_rfl) (by decide) (by
 intro vals ext k r h
 obtain ⟨a_a,a,vals,rfl,h1⟩:=Z8S h
 obtain ⟨k_,a_k_,t_k_,vals,rfl,h2⟩:=Z8T h1
 obtain ⟨rfl,h3⟩:=Z90 h2
 obtain ⟨rfl,h4⟩:=Z90 h3
 exact (jnl a_a a k_ a_k_ t_k_ k).trans h4)
noncomputable def jnM:Code:=(Tryz.f228.body).getD .skip
noncomputable def jfL:Env Unit:=⟨tys,[(129,jc0)],0⟩
noncomputable def j9A (a:List qV) (k_:Int) (k0:Int->Res):Res:=
 j5H a k_ λ(r:Int)=>
  bif decide (r<0) then
   k0 (-1)
  else
   k0 r
noncomputable def jg5:Sig Unit:=⟨[.look y3 true,.look (.int .i64) false],[false],λvals ext k=>av vals y3 λa vals=>av vals (.int .i64) λk_ vals=>nl vals<|nl ext<|j9A a k_ (λ(r0:Int)=>k [⟨(.int .i64),false,r0,[]⟩] [] [])⟩
theorem jni (a:List qV) (a_a:Bool) (t_a:List Tag) (k_:Int) (a_k_:Bool) (t_k_:List Tag) (k:qK):Z6X jfL [] .o false Tryz.f228 [.look y3 true,.look (.int .i64) false] [false] [⟨y3,a_a,a,t_a⟩,⟨(.int .i64),a_k_,k_,t_k_⟩] [] k=j9A a k_ (λ(r0:Int)=>k [⟨(.int .i64),false,r0,[]⟩] [] []):=by kernel_rfl
theorem jnF:Z1k Tryz.prog 228 jg5:=Z8N (Γ:=jfL) (X:=[]) (ht:= .o) (fz:=false) (c:=jnM) follows j01 (Z8C jet Z8W) trivial Tryz.func228 (by kernel_rfl) (by kernel_rfl) (by decide) (by
 intro vals ext k r h
 obtain ⟨a,a_a,t_a,vals,rfl,h1⟩:=Z8T h
 obtain ⟨k_,a_k_,t_k_,vals,rfl,h2⟩:=Z8T h1
 obtain ⟨rfl,h3⟩:=Z90 h2
 obtain ⟨rfl,h4⟩:=Z90 h3
 exact (jni a a_a t_a k_ a_k_ t_k_ k).trans h4)
end Go.PI.G
namespace Go.PI.G
open Go Go.PI Go.Proofs
open Go.Code (pl pr)
noncomputable def jpj:Code:=(Tryz.f179.body).getD .skip
noncomputable def jh5:Env Unit:=⟨tys,[(223,jds),(224,jig),(225,jie)],0⟩
noncomputable def jaA (a:qS) (b:qS) (k0:Bool->Res):Res:=
 bif (a.1 != b.1) then
  k0 false
 else
  bif sNe a.2.1 b.2.1 then
   k0 false
  else
   j8x a.2.2.1 b.2.2.1 λ(r:Bool)=>
    bif !r then
     k0 false
    else
     jbT a.2.2.2.1 b.2.2.2.1 λ(r1:Bool)=>
      bif !r1 then
       k0 false
      else
       jbR a.2.2.2.2 b.2.2.2.2 λ(r2:Bool)=>
        bif !r2 then
         k0 false
        else
         k0 true
noncomputable def jhj:Sig Unit:=⟨[.look y18 true,.look y18 true],[false],λvals ext k=>av vals y18 λa vals=>av vals y18 λb vals=>nl vals<|nl ext<|jaA a b (λ(r0:Bool)=>k [⟨.bool,false,r0,[]⟩] [] [])⟩
theorem jp1 (a:qS) (a_a:Bool) (t_a:List Tag) (b:qS) (a_b:Bool) (t_b:List Tag) (k:qK):Z6X jh5 [] .o false Tryz.f179 [.look y18 true,.look y18 true] [false] [⟨y18,a_a,a,t_a⟩,⟨y18,a_b,b,t_b⟩] [] k=jaA a b (λ(r0:Bool)=>k [⟨.bool,false,r0,[]⟩] [] []):=by kernel_rfl
theorem jpc:Z1k Tryz.prog 179 jhj:=Z8N (Γ:=jh5) (X:=[]) (ht:= .o) (fz:=false) (c:=jpj) follows j01 (Z8C jgY (Z8C jpT (Z8C jpR Z8W))) trivial Tryz.func179 (by kernel_rfl) (by kernel_rfl) (by decide) (by
 intro vals ext k r h
 obtain ⟨a,a_a,t_a,vals,rfl,h1⟩:=Z8T h
 obtain ⟨b,a_b,t_b,vals,rfl,h2⟩:=Z8T h1
 obtain ⟨rfl,h3⟩:=Z90 h2
 obtain ⟨rfl,h4⟩:=Z90 h3
 exact (jp1 a a_a t_a b a_b t_b k).trans h4)
noncomputable def jmh:Code:=(Tryz.f180.body).getD .skip
noncomputable def jeI:Env Unit:=⟨tys,[(126,jc1),(226,jg8),(227,jg6)],1⟩
noncomputable def j8l (a:qS) (k_:Int) (k0:Int->qS->Res):Res:=
 j5I a.2.2.1 k_ λ(r:Int) (a1:List qV)=>
  j9D a.2.2.2.1 r λ(r1:Int) (a2:List qV)=>
   j9B a.2.2.2.2 r1 λ(r2:Int) (a3:qG)=>
    k0 r2 (a.1,a.2.1,a1,a2,a3)
noncomputable def jf6:Sig Unit:=⟨[.inout y18 true,.borrow (.int .i64) false],[false],λvals ext k=>ao vals y18 [.O,.O,.O,.O] λa vals=>av vals (.int .i64) λk_ vals=>nl vals<|nl ext<|j8l a k_ (λ(r0:Int) (i0:qS)=>k [⟨(.int .i64),false,r0,[]⟩] [⟨y18,true,i0,[.O,.O,.O,.O]⟩] [])⟩
theorem jlM (a_a:Bool) (a:qS) (k_:Int) (a_k_:Bool) (t_k_:List Tag) (k:qK):Z6X jeI [] .o false Tryz.f180 [.inout y18 true,.borrow (.int .i64) false] [false] [⟨y18,a_a,a,[.O,.O,.O,.O]⟩,⟨(.int .i64),a_k_,k_,t_k_⟩] [] k=j8l a k_ (λ(r0:Int) (i0:qS)=>k [⟨(.int .i64),false,r0,[]⟩] [⟨y18,true,i0,[.O,.O,.O,.O]⟩] []):=by kernel_rfl
theorem jm3:Z1k Tryz.prog 180 jf6:=Z8N (Γ:=jeI) (X:=[]) (ht:= .o) (fz:=false) (c:=jmh) follows j01 (Z8C jev (Z8C jnI (Z8C jnG Z8W))) trivial Tryz.func180 (by kernel_rfl) (by kernel_rfl) (by decide) (by
 intro vals ext k r h
 obtain ⟨a_a,a,vals,rfl,h1⟩:=Z8S h
 obtain ⟨k_,a_k_,t_k_,vals,rfl,h2⟩:=Z8T h1
 obtain ⟨rfl,h3⟩:=Z90 h2
 obtain ⟨rfl,h4⟩:=Z90 h3
 exact (jlM a_a a k_ a_k_ t_k_ k).trans h4)
noncomputable def jmf:Code:=(Tryz.f181.body).getD .skip
noncomputable def jeG:Env Unit:=⟨tys,[(129,jc0),(228,jg5),(229,jg3)],0⟩
noncomputable def j8i (a:qS) (k_:Int) (k0:Int->Res):Res:=
 j5H a.2.2.1 k_ λ(r:Int)=>
  bif decide (r<0) then
   k0 (-1)
  else
   j9A a.2.2.2.1 r λ(r1:Int)=>
    bif decide (r1<0) then
     k0 (-1)
    else
     j9y a.2.2.2.2 r1 λ(r2:Int)=>
      bif decide (r2<0) then
       k0 (-1)
      else
       k0 r2
noncomputable def jf3:Sig Unit:=⟨[.look y18 true,.look (.int .i64) false],[false],λvals ext k=>av vals y18 λa vals=>av vals (.int .i64) λk_ vals=>nl vals<|nl ext<|j8i a k_ (λ(r0:Int)=>k [⟨(.int .i64),false,r0,[]⟩] [] [])⟩
theorem jlI (a:qS) (a_a:Bool) (t_a:List Tag) (k_:Int) (a_k_:Bool) (t_k_:List Tag) (k:qK):Z6X jeG [] .o false Tryz.f181 [.look y18 true,.look (.int .i64) false] [false] [⟨y18,a_a,a,t_a⟩,⟨(.int .i64),a_k_,k_,t_k_⟩] [] k=j8i a k_ (λ(r0:Int)=>k [⟨(.int .i64),false,r0,[]⟩] [] []):=by kernel_rfl
theorem jm1:Z1k Tryz.prog 181 jf3:=Z8N (Γ:=jeG) (X:=[]) (ht:= .o) (fz:=false) (c:=jmf) follows j01 (Z8C jet (Z8C jnF (Z8C jnD Z8W))) trivial Tryz.func181 (by kernel_rfl) (by kernel_rfl) (by decide) (by
 intro vals ext k r h
 obtain ⟨a,a_a,t_a,vals,rfl,h1⟩:=Z8T h
 obtain ⟨k_,a_k_,t_k_,vals,rfl,h2⟩:=Z8T h1
 obtain ⟨rfl,h3⟩:=Z90 h2
 obtain ⟨rfl,h4⟩:=Z90 h3
 exact (jlI a a_a t_a k_ a_k_ t_k_ k).trans h4)
end Go.PI.G
namespace Go.PI.G
open Go Go.PI Go.Proofs
open Go.Code (pl pr)
noncomputable def jq2:Code:=(Tryz.f112.body).getD .skip
noncomputable def jhQ:Env Unit:=⟨tys,[(179,jhj)],0⟩
noncomputable def jbS (a:Int×Int×qS) (b:Int×Int×qS) (k0:Bool->Res):Res:=
 bif (a.1 != b.1) then
  k0 false
 else
  bif (a.2.1 != b.2.1) then
   k0 false
  else
   jaA a.2.2 b.2.2 λ(r:Bool)=>
    bif !r then
     k0 false
    else
     k0 true
noncomputable def jif:Sig Unit:=⟨[.look y20 true,.look y20 true],[false],λvals ext k=>av vals y20 λa vals=>av vals y20 λb vals=>nl vals<|nl ext<|jbS a b (λ(r0:Bool)=>k [⟨.bool,false,r0,[]⟩] [] [])⟩
theorem jpH (a:Int×Int×qS) (a_a:Bool) (t_a:List Tag) (b:Int×Int×qS) (a_b:Bool) (t_b:List Tag) (k:qK):Z6X jhQ [] .o false Tryz.f112 [.look y20 true,.look y20 true] [false] [⟨y20,a_a,a,t_a⟩,⟨y20,a_b,b,t_b⟩] [] k=jbS a b (λ(r0:Bool)=>k [⟨.bool,false,r0,[]⟩] [] []):=by kernel_rfl
theorem jpS:Z1k Tryz.prog 112 jif:=Z8N (Γ:=jhQ) (X:=[]) (ht:= .o) (fz:=false) (c:=jq2) follows j01 (Z8C jpc Z8W) trivial Tryz.func112 (by kernel_rfl) (by kernel_rfl) (by decide) (by
 intro vals ext k r h
 obtain ⟨a,a_a,t_a,vals,rfl,h1⟩:=Z8T h
 obtain ⟨b,a_b,t_b,vals,rfl,h2⟩:=Z8T h1
 obtain ⟨rfl,h3⟩:=Z90 h2
 obtain ⟨rfl,h4⟩:=Z90 h3
 exact (jpH a a_a t_a b a_b t_b k).trans h4)
noncomputable def jnO:Code:=(Tryz.f113.body).getD .skip
noncomputable def jfN:Env Unit:=⟨tys,[(180,jf6)],1⟩
noncomputable def j9C (a:Int×Int×qS) (k_:Int) (k0:Int->qP->Res):Res:=
 j8l a.2.2 k_ λ(r:Int) (a1:qS)=>
  k0 r (a.1,a.2.1,a1)
noncomputable def jg7:Sig Unit:=⟨[.inout y20 true,.borrow (.int .i64) false],[false],λvals ext k=>ao vals y20 [.O,.O,.O,.O] λa vals=>av vals (.int .i64) λk_ vals=>nl vals<|nl ext<|j9C a k_ (λ(r0:Int) (i0:Int×Int×qS)=>k [⟨(.int .i64),false,r0,[]⟩] [⟨y20,true,i0,[.O,.O,.O,.O]⟩] [])⟩
theorem jnk (a_a:Bool) (a:Int×Int×qS) (k_:Int) (a_k_:Bool) (t_k_:List Tag) (k:qK):Z6X jfN [] .o false Tryz.f113 [.inout y20 true,.borrow (.int .i64) false] [false] [⟨y20,a_a,a,[.O,.O,.O,.O]⟩,⟨(.int .i64),a_k_,k_,t_k_⟩] [] k=j9C a k_ (λ(r0:Int) (i0:Int×Int×qS)=>k [⟨(.int .i64),false,r0,[]⟩] [⟨y20,true,i0,[.O,.O,.O,.O]⟩] []):=by kernel_rfl
theorem jnH:Z1k Tryz.prog 113 jg7:=Z8N (Γ:=jfN) (X:=[]) (ht:= .o) (fz:=false) (c:=jnO) follows j01 (Z8C jm3 Z8W) trivial Tryz.func113 (by kernel_rfl) (by kernel_rfl) (by decide) (by
 intro vals ext k r h
 obtain ⟨a_a,a,vals,rfl,h1⟩:=Z8S h
 obtain ⟨k_,a_k_,t_k_,vals,rfl,h2⟩:=Z8T h1
 obtain ⟨rfl,h3⟩:=Z90 h2
 obtain ⟨rfl,h4⟩:=Z90 h3
 exact (jnk a_a a k_ a_k_ t_k_ k).trans h4)
noncomputable def jnL:Code:=(Tryz.f114.body).getD .skip
noncomputable def jfK:Env Unit:=⟨tys,[(181,jf3)],0⟩
noncomputable def j9z (a:Int×Int×qS) (k_:Int) (k0:Int->Res):Res:=
 j8i a.2.2 k_ λ(r:Int)=>
  bif decide (r<0) then
   k0 (-1)
  else
   k0 r
noncomputable def jg4:Sig Unit:=⟨[.look y20 true,.look (.int .i64) false],[false],λvals ext k=>av vals y20 λa vals=>av vals (.int .i64) λk_ vals=>nl vals<|nl ext<|j9z a k_ (λ(r0:Int)=>k [⟨(.int .i64),false,r0,[]⟩] [] [])⟩
theorem jnh (a:Int×Int×qS) (a_a:Bool) (t_a:List Tag) (k_:Int) (a_k_:Bool) (t_k_:List Tag) (k:qK):Z6X jfK [] .o false Tryz.f114 [.look y20 true,.look (.int .i64) false] [false] [⟨y20,a_a,a,t_a⟩,⟨(.int .i64),a_k_,k_,t_k_⟩] [] k=j9z a k_ (λ(r0:Int)=>k [⟨(.int .i64),false,r0,[]⟩] [] []):=by kernel_rfl
theorem jnE:Z1k Tryz.prog 114 jg4:=Z8N (Γ:=jfK) (X:=[]) (ht:= .o) (fz:=false) (c:=jnL) follows j01 (Z8C jm1 Z8W) trivial Tryz.func114 (by kernel_rfl) (by kernel_rfl) (by decide) (by
 intro vals ext k r h
 obtain ⟨a,a_a,t_a,vals,rfl,h1⟩:=Z8T h
 obtain ⟨k_,a_k_,t_k_,vals,rfl,h2⟩:=Z8T h1
 obtain ⟨rfl,h3⟩:=Z90 h2
 obtain ⟨rfl,h4⟩:=Z90 h3
 exact (jnh a a_a t_a k_ a_k_ t_k_ k).trans h4)
end Go.PI.G
