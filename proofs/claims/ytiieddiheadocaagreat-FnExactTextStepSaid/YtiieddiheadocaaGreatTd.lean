/-
  Program's code interpreted over typed values; printed texts; plain laws. No conditions.
-/
import Derived.Test.YtiieddiheadocaaGreatTa
import Derived.Test.YtiieddiheadocaaGreatTb
import Derived.Test.YtiieddiheadocaaGreatTc
set_option linter.unusedVariables false
set_option maxRecDepth 100000
namespace Go.PI.G
open Go Go.PI Go.Proofs
open Go.Code (pl pr)
noncomputable def j7d:Code:=(Tryz.f69.body).getD .skip
noncomputable def jcE:Env Unit:=⟨tys,[(157,jc3)],0⟩
noncomputable def j4y (t5:List qV) (t6:Int) (t7:Int) (rec:Int->Res) (k0:Unit->Res) (k1:Unit->Res):Res:=
 bif decide (t7<t6) then
  bif inb t7 (List.length t5) then
   j7P (nth (0,0,eS) t5 t7) λ(r:Bool)=>
    bif !r then
     k1 ()
    else
     rec (Z8g (t7+1))
  else none
 else
  k0 ()
noncomputable def j6P (t5:List qV) (t6:Int):Int->(Int->Res)->((Unit->Res)×(Unit->Res))->Res:=λv rec q=>j4y t5 t6 v (λt7=>rec (t7)) q.1 q.2
noncomputable def jcc (t5:List qV) (t6:Int) (n:Nat) (t7:Int) (k0:Unit->Res) (k1:Unit->Res):Res:=Z10 (j6P t5 t6) n (t7) (k0,k1)
noncomputable def j81:Z1l Unit:=λσ k=>rdN σ 23<|rdV σ 0 y3 false [.S] λl=>rdV σ 5 y3 false [.S] λt5=>rdV σ 6 (.int .i64) false [] λt6=>rdV σ 7 (.int .i64) false [] λt7=>jcc t5 t6 Z0Y t7 (λ(_:Unit)=>k (.exit 0) (mkS 23 23 [(0,.val ⟨y3,false,l,[.S]⟩)] [])) (λ(_:Unit)=>k .ret (mkS 23 23 [(2,.val ⟨.bool,false,false,[]⟩)] []))
theorem jkv (l:List qV) (t5:List qV) (t6:Int) (n:Nat) (v:Int) (k:Z6G Unit):Z3X (Z0R jcE [] .o (pl (pl (pr (pl (pr j7d)))))) (λσ=>σ.forget [0,5,6,7] []) (Z8a ([],[]) [(0,[0],[])] ([2],[])) n (mkS 23 23 [(0,.val ⟨y3,false,l,[.S]⟩),(5,.val ⟨y3,false,t5,[.S]⟩),(6,.val ⟨(.int .i64),false,t6,[]⟩),(7,.val ⟨(.int .i64),false,v,[]⟩)] []) k=Z10 (j6P t5 t6) n v ((λ(k:Z6G Unit)=>(((λ(_:Unit)=>k (.exit 0) (mkS 23 23 [(0,.val ⟨y3,false,l,[.S]⟩)] [])),(λ(_:Unit)=>k .ret (mkS 23 23 [(2,.val ⟨.bool,false,false,[]⟩)] []))):(Unit->Res)×(Unit->Res))) k):=Z80 (λv:Int=>(mkS 23 23 [(0,.val ⟨y3,false,l,[.S]⟩),(5,.val ⟨y3,false,t5,[.S]⟩),(6,.val ⟨(.int .i64),false,t6,[]⟩),(7,.val ⟨(.int .i64),false,v,[]⟩)] [])) (j6P t5 t6) (λ(k:Z6G Unit)=>(((λ(_:Unit)=>k (.exit 0) (mkS 23 23 [(0,.val ⟨y3,false,l,[.S]⟩)] [])),(λ(_:Unit)=>k .ret (mkS 23 23 [(2,.val ⟨.bool,false,false,[]⟩)] []))):(Unit->Res)×(Unit->Res))) (λv rec k=>by kernel_rfl) n v k
theorem jli {W0:Base} {M:Nat->Prop} (hnp:W0.np<=0):Z1W Tryz.prog W0 M (pl (pr (pl (pr j7d)))) j81:=show Z1W Tryz.prog W0 M (Code.loop (pl (pl (pr (pl (pr j7d)))))) j81 from Z8X (Z6Q follows j01 (Z7K (Z8C j79 Z8W)) hnp [] (pl (pl (pr (pl (pr j7d))))) .o trivial) (ks:=[0,5,6,7]) (bs:=[]) (fX:=(Z8a ([],[]) [(0,[0],[])] ([2],[]))) (Z8U _ _ _) Z0Y (by
 intro σ k r h
 obtain ⟨hn,h1⟩:=Z8G h
 obtain ⟨l,hs0,h2⟩:=Z8J h1
 obtain ⟨t5,hs5,h3⟩:=Z8J h2
 obtain ⟨t6,hs6,h4⟩:=Z8J h3
 obtain ⟨t7,hs7,h5⟩:=Z8J h4
 refine ⟨_,?_,(jkv l t5 t6 Z0Y (t7) k).trans h5⟩
 exact Z9e hn ⟨hs0,hs5,hs6,hs7,trivial⟩ trivial)
noncomputable def j48 (l:List qV) (k0:Bool->Res):Res:=
 jcc l (nI (List.length l)) Z0Y 0
  (λ(_:Unit)=>
   bif decide ((nI (List.length l))>=1) then
    k0 (decide ((nI (List.length l))<=8))
   else
    k0 false)
  (λ(_:Unit)=>
   k0 false)
noncomputable def jge:Sig Unit:=⟨[.look y3 false],[false],λvals ext k=>av vals y3 λl vals=>nl vals<|nl ext<|j48 l (λ(r0:Bool)=>k [⟨.bool,false,r0,[]⟩] [] [])⟩
theorem jnx (l:List qV) (a_l:Bool) (t_l:List Tag) (k:qK):Z6X jcE [j81] (.t .o (.t (.t .o (.t (.x 0) .o)) .o)) false Tryz.f69 [.look y3 false] [false] [⟨y3,a_l,l,t_l⟩] [] k=j48 l (λ(r0:Bool)=>k [⟨.bool,false,r0,[]⟩] [] []):=by kernel_rfl
theorem jfB:Z1k Tryz.prog 69 jge:=Z8N (Γ:=jcE) (X:=[j81]) (ht:=(.t .o (.t (.t .o (.t (.x 0) .o)) .o))) (fz:=false) (c:=j7d) follows j01 (Z8C j79 Z8W) (Z1A.mk trivial ((Z1A.mk ((Z1A.mk trivial ((Z1A.mk (Z1A.x_mk (λW0 M hnp=>jli (W0:=W0) (M:=M) hnp)) trivial)))) trivial))) Tryz.func69 (by kernel_rfl) (by kernel_rfl) (by decide) (by
 intro vals ext k r h
 obtain ⟨l,a_l,t_l,vals,rfl,h1⟩:=Z8T h
 obtain ⟨rfl,h2⟩:=Z90 h1
 obtain ⟨rfl,h3⟩:=Z90 h2
 exact (jnx l a_l t_l k).trans h3)
noncomputable def jmi:Code:=(Tryz.f70.body).getD .skip
noncomputable def jeJ:Env Unit:=⟨tys,[],0⟩
noncomputable def j2s (d:qG) (k0:Bool->Res):Res:=
 bif (d.1==0) then
  bif sEq d.2.1 eS then
   bif ((nI (List.length d.2.2.1))==0) then
    bif ((nI (List.length d.2.2.2.1))==0) then
     bif sEq d.2.2.2.2.1 eS then
      k0 (sEq d.2.2.2.2.2 eS)
     else
      k0 false
    else
     k0 false
   else
    k0 false
  else
   k0 false
 else
  k0 false
noncomputable def jc4:Sig Unit:=⟨[.look y14 true],[false],λvals ext k=>av vals y14 λd vals=>nl vals<|nl ext<|j2s d (λ(r0:Bool)=>k [⟨.bool,false,r0,[]⟩] [] [])⟩
theorem jlT (d:qG) (a_d:Bool) (t_d:List Tag) (k:qK):Z6X jeJ [] .o false Tryz.f70 [.look y14 true] [false] [⟨y14,a_d,d,t_d⟩] [] k=j2s d (λ(r0:Bool)=>k [⟨.bool,false,r0,[]⟩] [] []):=by kernel_rfl
theorem jbu:Z1k Tryz.prog 70 jc4:=Z8N (Γ:=jeJ) (X:=[]) (ht:= .o) (fz:=false) (c:=jmi) follows j01 Z8W trivial Tryz.func70 (by kernel_rfl) (by kernel_rfl) (by decide) (by
 intro vals ext k r h
 obtain ⟨d,a_d,t_d,vals,rfl,h1⟩:=Z8T h
 obtain ⟨rfl,h2⟩:=Z90 h1
 obtain ⟨rfl,h3⟩:=Z90 h2
 exact (jlT d a_d t_d k).trans h3)
noncomputable def jaK:Code:=(Tryz.f13.body).getD .skip
noncomputable def jdm:Env Unit:=⟨tys,[(68,j8n),(69,jge),(70,jc4),(71,jed)],0⟩
noncomputable def jaf (noKey:Bool) (noRow:Bool) (s:qS) (k0:Bool->Res):Res:=
 bif (s.1==1) then
  bif noKey then
   j48 s.2.2.2.1 λ(r:Bool)=>
    bif r then
     j2s s.2.2.2.2 λ(r1:Bool)=>
      k0 r1
    else
     k0 false
  else
   k0 false
 else
  bif (s.1==2) then
   j48 s.2.2.1 λ(r2:Bool)=>
    bif r2 then
     j48 s.2.2.2.1 λ(r3:Bool)=>
      bif r3 then
       j2s s.2.2.2.2 λ(r4:Bool)=>
        k0 r4
      else
       k0 false
    else
     k0 false
  else
   bif (s.1==3) then
    j48 s.2.2.1 λ(r5:Bool)=>
     bif r5 then
      bif noRow then
       j2s s.2.2.2.2 λ(r6:Bool)=>
        k0 r6
      else
       k0 false
     else
      k0 false
   else
    bif (s.1==4) then
     bif noKey then
      bif noRow then
       j2s s.2.2.2.2 λ(r7:Bool)=>
        k0 r7
      else
       k0 false
     else
      k0 false
    else
     bif (s.1==5) then
      bif noKey then
       bif noRow then
        jae s.2.2.2.2 λ(r8:Bool)=>
         bif r8 then
          k0 (sEq s.2.2.2.2.2.1 s.2.1)
         else
          k0 false
       else
        k0 false
      else
       k0 false
     else
      k0 false
noncomputable def jcm:Z1l Unit:=λσ k=>rdN σ 93<|rdT σ 1 (.ptr ⟨true,1,[]⟩)<|rdV σ 3 .bool false [] λnoKey=>rdV σ 4 .bool false [] λnoRow=>rdB σ 1 y18 [.S,.S,.S,.S] λa s=>jaf noKey noRow s (λ(t2:Bool)=>k .ret (mkS 93 93 [(2,.val ⟨.bool,false,t2,[]⟩)] []))
theorem jmt (noKey:Bool) (noRow:Bool) (a:Bool) (s:qS) (k:Z6G Unit):Z0R jdm [] .o (pr (pr (pr (pr jaK)))) (mkS 93 93 [(1,.ptr ⟨true,1,[]⟩),(3,.val ⟨.bool,false,noKey,[]⟩),(4,.val ⟨.bool,false,noRow,[]⟩)] [(1,⟨y18,a,s,[.S,.S,.S,.S]⟩)]) (λe σ=>k e ((Z8a ([],[]) [] ([2],[])) e σ))=jaf noKey noRow s (λ(t2:Bool)=>k .ret (mkS 93 93 [(2,.val ⟨.bool,false,t2,[]⟩)] [])):=by kernel_rfl
theorem jmL {W0:Base} {M:Nat->Prop} (hnp:W0.np<=0):Z1W Tryz.prog W0 M (pr (pr (pr (pr jaK)))) jcm:=Z91 (Z6Q follows j01 (Z7K (Z8C j2r (Z8C jfB (Z8C jbu (Z8C jdL Z8W))))) hnp [] ((pr (pr (pr (pr jaK))))) .o trivial) (fg:=(Z8a ([],[]) [] ([2],[]))) (Z8U _ _ _) (by
 intro σ k r h
 obtain ⟨hn,h1⟩:=Z8G h
 obtain ⟨hs1,h2⟩:=Z8H h1
 obtain ⟨noKey,hs3,h3⟩:=Z8J h2
 obtain ⟨noRow,hs4,h4⟩:=Z8J h3
 obtain ⟨a,s,hb1,h5⟩:=Z8D h4
 refine ⟨_,?_,(jmt noKey noRow a s k).trans h5⟩
 exact Z9e hn ⟨hs1,hs3,hs4,trivial⟩ ⟨hb1,trivial⟩)
noncomputable def j8A (s:qS) (k0:Bool->Res):Res:=
 j26 s.2.1 λ(r:Bool)=>
  bif !r then
   k0 false
  else
   jaf ((nI (List.length s.2.2.1))==0) ((nI (List.length s.2.2.2.1))==0) s λ(t:Bool)=>
    k0 t
noncomputable def jdt:Sig Unit:=⟨[.look y18 true],[false],λvals ext k=>av vals y18 λs vals=>nl vals<|nl ext<|j8A s (λ(r0:Bool)=>k [⟨.bool,false,r0,[]⟩] [] [])⟩
theorem jp3 (s:qS) (a_s:Bool) (t_s:List Tag) (k:qK):Z6X jdm [jcm] (.t .o (.t .o (.t .o (.t .o (.x 0))))) false Tryz.f13 [.look y18 true] [false] [⟨y18,a_s,s,t_s⟩] [] k=j8A s (λ(r0:Bool)=>k [⟨.bool,false,r0,[]⟩] [] []):=by kernel_rfl
theorem jaI:Z1k Tryz.prog 13 jdt:=Z8N (Γ:=jdm) (X:=[jcm]) (ht:=(.t .o (.t .o (.t .o (.t .o (.x 0)))))) (fz:=false) (c:=jaK) follows j01 (Z8C j2r (Z8C jfB (Z8C jbu (Z8C jdL Z8W)))) (Z1A.mk trivial ((Z1A.mk trivial ((Z1A.mk trivial ((Z1A.mk trivial (Z1A.x_mk (λW0 M hnp=>jmL (W0:=W0) (M:=M) hnp))))))))) Tryz.func13 (by kernel_rfl) (by kernel_rfl) (by decide) (by
 intro vals ext k r h
 obtain ⟨s,a_s,t_s,vals,rfl,h1⟩:=Z8T h
 obtain ⟨rfl,h2⟩:=Z90 h1
 obtain ⟨rfl,h3⟩:=Z90 h2
 exact (jp3 s a_s t_s k).trans h3)
noncomputable def jm9:Code:=(Tryz.f204.body).getD .skip
noncomputable def jeA:Env Unit:=⟨tys,[(205,jbY)],0⟩
noncomputable def jaN (v_:Int×Int×qB) (k0:Bool->Res):Res:=
 j7F v_ λ(r:Bool)=>
  k0 (!r)
noncomputable def jeW:Sig Unit:=⟨[.look y2 true],[false],λvals ext k=>av vals y2 λv_ vals=>nl vals<|nl ext<|jaN v_ (λ(r0:Bool)=>k [⟨.bool,false,r0,[]⟩] [] [])⟩
theorem jlz (v_:Int×Int×qB) (a_v_:Bool) (t_v_:List Tag) (k:qK):Z6X jeA [] .o false Tryz.f204 [.look y2 true] [false] [⟨y2,a_v_,v_,t_v_⟩] [] k=jaN v_ (λ(r0:Bool)=>k [⟨.bool,false,r0,[]⟩] [] []):=by kernel_rfl
theorem jer:Z1k Tryz.prog 204 jeW:=Z8N (Γ:=jeA) (X:=[]) (ht:= .o) (fz:=false) (c:=jm9) follows j01 (Z8C j9k Z8W) trivial Tryz.func204 (by kernel_rfl) (by kernel_rfl) (by decide) (by
 intro vals ext k r h
 obtain ⟨v_,a_v_,t_v_,vals,rfl,h1⟩:=Z8T h
 obtain ⟨rfl,h2⟩:=Z90 h1
 obtain ⟨rfl,h3⟩:=Z90 h2
 exact (jlz v_ a_v_ t_v_ k).trans h3)
noncomputable def j2o:Code:=(Tryz.f248.body).getD .skip
noncomputable def j6v:Env Unit:=⟨tys,[(204,jeW)],0⟩
noncomputable def j1Q (s:List qV) (t7:Int) (t8:Int) (rec:Int->Res) (k0:Unit->Res) (k1:Int->Res):Res:=
 bif decide (t8<t7) then
  bif inb t8 (List.length s) then
   jaN (nth (0,0,eS) s t8) λ(r:Bool)=>
    bif r then
     k1 t8
    else
     rec (Z8g (t8+1))
  else none
 else
  k0 ()
noncomputable def j30 (s:List qV) (t7:Int):Int->(Int->Res)->((Unit->Res)×(Int->Res))->Res:=λv rec q=>j1Q s t7 v (λt8=>rec (t8)) q.1 q.2
noncomputable def j5w (s:List qV) (t7:Int) (n:Nat) (t8:Int) (k0:Unit->Res) (k1:Int->Res):Res:=Z10 (j30 s t7) n (t8) (k0,k1)
noncomputable def j3l:Z1l Unit:=λσ k=>rdN σ 19<|rdV σ 0 y3 false [.S] λs=>rdC σ 1 204 [] .unit [] λf=>rdV σ 7 (.int .i64) false [] λt7=>rdV σ 8 (.int .i64) false [] λt8=>j5w s t7 Z0Y t8 (λ(_:Unit)=>k (.exit 0) (mkS 19 19 [] [])) (λ(t4:Int)=>k .ret (mkS 19 19 [(4,.val ⟨(.int .i64),false,t4,[]⟩)] []))
theorem jdQ (s:List qV) (f:Unit) (t7:Int) (n:Nat) (v:Int) (k:Z6G Unit):Z3X (Z0R j6v [] .o (pl (pl (pr (pl (pr j2o)))))) (λσ=>σ.forget [0,1,7,8] []) (Z8a ([],[]) [(0,[],[])] ([4],[])) n (mkS 19 19 [(0,.val ⟨y3,false,s,[.S]⟩),(1,.sclos 204 [] ⟨.unit,false,f,[]⟩),(7,.val ⟨(.int .i64),false,t7,[]⟩),(8,.val ⟨(.int .i64),false,v,[]⟩)] []) k=Z10 (j30 s t7) n v ((λ(k:Z6G Unit)=>(((λ(_:Unit)=>k (.exit 0) (mkS 19 19 [] [])),(λ(t4:Int)=>k .ret (mkS 19 19 [(4,.val ⟨(.int .i64),false,t4,[]⟩)] []))):(Unit->Res)×(Int->Res))) k):=Z80 (λv:Int=>(mkS 19 19 [(0,.val ⟨y3,false,s,[.S]⟩),(1,.sclos 204 [] ⟨.unit,false,f,[]⟩),(7,.val ⟨(.int .i64),false,t7,[]⟩),(8,.val ⟨(.int .i64),false,v,[]⟩)] [])) (j30 s t7) (λ(k:Z6G Unit)=>(((λ(_:Unit)=>k (.exit 0) (mkS 19 19 [] [])),(λ(t4:Int)=>k .ret (mkS 19 19 [(4,.val ⟨(.int .i64),false,t4,[]⟩)] []))):(Unit->Res)×(Int->Res))) (λv rec k=>by kernel_rfl) n v k
theorem je3 {W0:Base} {M:Nat->Prop} (hnp:W0.np<=0):Z1W Tryz.prog W0 M (pl (pr (pl (pr j2o)))) j3l:=show Z1W Tryz.prog W0 M (Code.loop (pl (pl (pr (pl (pr j2o)))))) j3l from Z8X (Z6Q follows j01 (Z7K (Z8C jer Z8W)) hnp [] (pl (pl (pr (pl (pr j2o))))) .o trivial) (ks:=[0,1,7,8]) (bs:=[]) (fX:=(Z8a ([],[]) [(0,[],[])] ([4],[]))) (Z8U _ _ _) Z0Y (by
 intro σ k r h
 obtain ⟨hn,h1⟩:=Z8G h
 obtain ⟨s,hs0,h2⟩:=Z8J h1
 obtain ⟨f,hs1,h3⟩:=Z8E h2
 obtain ⟨t7,hs7,h4⟩:=Z8J h3
 obtain ⟨t8,hs8,h5⟩:=Z8J h4
 refine ⟨_,?_,(jdQ s f t7 Z0Y (t8) k).trans h5⟩
 exact Z9e hn ⟨hs0,hs1,hs7,hs8,trivial⟩ trivial)
noncomputable def j4L (s:List qV) (f:Unit) (k0:Int->Res):Res:=
 j5w s (nI (List.length s)) Z0Y 0
  (λ(_:Unit)=>
   k0 (-1))
  (λ(t:Int)=>
   k0 t)
noncomputable def jaC:Sig Unit:=⟨[.look y3 false,.rclos 204 []],[false],λvals ext k=>av vals y3 λs vals=>av vals .unit λf vals=>nl vals<|nl ext<|j4L s f (λ(r0:Int)=>k [⟨(.int .i64),false,r0,[]⟩] [] [])⟩
theorem jfl (s:List qV) (a_s:Bool) (t_s:List Tag) (f:Unit) (a_f:Bool) (t_f:List Tag) (k:qK):Z6X j6v [j3l] (.t .o (.t (.t .o (.t (.x 0) .o)) .o)) false Tryz.f248 [.look y3 false,.rclos 204 []] [false] [⟨y3,a_s,s,t_s⟩,⟨.unit,a_f,f,t_f⟩] [] k=j4L s f (λ(r0:Int)=>k [⟨(.int .i64),false,r0,[]⟩] [] []):=by kernel_rfl
theorem jfo:Z1k Tryz.prog 248 jaC:=Z8N (Γ:=j6v) (X:=[j3l]) (ht:=(.t .o (.t (.t .o (.t (.x 0) .o)) .o))) (fz:=false) (c:=j2o) follows j01 (Z8C jer Z8W) (Z1A.mk trivial ((Z1A.mk ((Z1A.mk trivial ((Z1A.mk (Z1A.x_mk (λW0 M hnp=>je3 (W0:=W0) (M:=M) hnp)) trivial)))) trivial))) Tryz.func248 (by kernel_rfl) (by kernel_rfl) (by decide) (by
 intro vals ext k r h
 obtain ⟨s,a_s,t_s,vals,rfl,h1⟩:=Z8T h
 obtain ⟨f,a_f,t_f,vals,rfl,h2⟩:=Z8T h1
 obtain ⟨rfl,h3⟩:=Z90 h2
 obtain ⟨rfl,h4⟩:=Z90 h3
 exact (jfl s a_s t_s f a_f t_f k).trans h4)
noncomputable def jdB:Code:=(Tryz.f203.body).getD .skip
noncomputable def j8Q:Env Unit:=⟨tys,[(248,jaC)],0⟩
noncomputable def j3u (s:List qV) (f:Unit) (k0:Bool->Res):Res:=
 j4L s f λ(r:Int)=>
  k0 (decide (r>=0))
noncomputable def j93:Sig Unit:=⟨[.look y3 false,.rclos 204 []],[false],λvals ext k=>av vals y3 λs vals=>av vals .unit λf vals=>nl vals<|nl ext<|j3u s f (λ(r0:Bool)=>k [⟨.bool,false,r0,[]⟩] [] [])⟩
theorem jdz (s:List qV) (a_s:Bool) (t_s:List Tag) (f:Unit) (a_f:Bool) (t_f:List Tag) (k:qK):Z6X j8Q [] .o false Tryz.f203 [.look y3 false,.rclos 204 []] [false] [⟨y3,a_s,s,t_s⟩,⟨.unit,a_f,f,t_f⟩] [] k=j3u s f (λ(r0:Bool)=>k [⟨.bool,false,r0,[]⟩] [] []):=by kernel_rfl
theorem jdA:Z1k Tryz.prog 203 j93:=Z8N (Γ:=j8Q) (X:=[]) (ht:= .o) (fz:=false) (c:=jdB) follows j01 (Z8C jfo Z8W) trivial Tryz.func203 (by kernel_rfl) (by kernel_rfl) (by decide) (by
 intro vals ext k r h
 obtain ⟨s,a_s,t_s,vals,rfl,h1⟩:=Z8T h
 obtain ⟨f,a_f,t_f,vals,rfl,h2⟩:=Z8T h1
 obtain ⟨rfl,h3⟩:=Z90 h2
 obtain ⟨rfl,h4⟩:=Z90 h3
 exact (jdz s a_s t_s f a_f t_f k).trans h4)
noncomputable def jnJ:Code:=(Tryz.f154.body).getD .skip
noncomputable def jfI:Env Unit:=⟨tys,[(174,j1B),(203,j93)],0⟩
noncomputable def j3W (l:List qV) (k0:Bool->Res):Res:=
 j0K (nI (List.length l)) 1 8 λ(r:Bool)=>
  bif r then
   j3u l () λ(r1:Bool)=>
    k0 (!r1)
  else
   k0 false
noncomputable def jg1:Sig Unit:=⟨[.look y3 false],[false],λvals ext k=>av vals y3 λl vals=>nl vals<|nl ext<|j3W l (λ(r0:Bool)=>k [⟨.bool,false,r0,[]⟩] [] [])⟩
theorem jne (l:List qV) (a_l:Bool) (t_l:List Tag) (k:qK):Z6X jfI [] .o false Tryz.f154 [.look y3 false] [false] [⟨y3,a_l,l,t_l⟩] [] k=j3W l (λ(r0:Bool)=>k [⟨.bool,false,r0,[]⟩] [] []):=by kernel_rfl
theorem jfx:Z1k Tryz.prog 154 jg1:=Z8N (Γ:=jfI) (X:=[]) (ht:= .o) (fz:=false) (c:=jnJ) follows j01 (Z8C j0r (Z8C jdA Z8W)) trivial Tryz.func154 (by kernel_rfl) (by kernel_rfl) (by decide) (by
 intro vals ext k r h
 obtain ⟨l,a_l,t_l,vals,rfl,h1⟩:=Z8T h
 obtain ⟨rfl,h2⟩:=Z90 h1
 obtain ⟨rfl,h3⟩:=Z90 h2
 exact (jne l a_l t_l k).trans h3)
noncomputable def jaJ:Code:=(Tryz.f58.body).getD .skip
noncomputable def jdf:Env Unit:=⟨tys,[(151,je7),(152,j8m),(153,j92),(154,jg1)],0⟩
noncomputable def ja1 (s:qS) (k0:Bool->Res):Res:=
 bif (s.1==1) then
  bif ((nI (List.length s.2.2.1))==0) then
   j3W s.2.2.2.1 λ(r:Bool)=>
    k0 r
  else
   k0 false
 else
  bif (s.1==2) then
   j3W s.2.2.1 λ(r1:Bool)=>
    bif r1 then
     j3W s.2.2.2.1 λ(r2:Bool)=>
      k0 r2
    else
     k0 false
  else
   bif (s.1==3) then
    j3W s.2.2.1 λ(r3:Bool)=>
     bif r3 then
      k0 ((nI (List.length s.2.2.2.1))==0)
     else
      k0 false
   else
    bif (s.1==4) then
     bif ((nI (List.length s.2.2.1))==0) then
      k0 ((nI (List.length s.2.2.2.1))==0)
     else
      k0 false
    else
     k0 false
noncomputable def jck:Z1l Unit:=λσ k=>rdN σ 91<|rdT σ 1 (.ptr ⟨true,1,[]⟩)<|rdB σ 1 y18 [.S,.S,.S,.S] λa s=>ja1 s (λ(t2:Bool)=>k .ret (mkS 91 91 [(2,.val ⟨.bool,false,t2,[]⟩)] []))
theorem jmm (a:Bool) (s:qS) (k:Z6G Unit):Z0R jdf [] .o (pr (pr (pr jaJ))) (mkS 91 91 [(1,.ptr ⟨true,1,[]⟩)] [(1,⟨y18,a,s,[.S,.S,.S,.S]⟩)]) (λe σ=>k e ((Z8a ([],[]) [] ([2],[])) e σ))=ja1 s (λ(t2:Bool)=>k .ret (mkS 91 91 [(2,.val ⟨.bool,false,t2,[]⟩)] [])):=by kernel_rfl
theorem jmE {W0:Base} {M:Nat->Prop} (hnp:W0.np<=0):Z1W Tryz.prog W0 M (pr (pr (pr jaJ))) jck:=Z91 (Z6Q follows j01 (Z7K (Z8C jbo (Z8C j4k (Z8C j8J (Z8C jfx Z8W))))) hnp [] ((pr (pr (pr jaJ)))) .o trivial) (fg:=(Z8a ([],[]) [] ([2],[]))) (Z8U _ _ _) (by
 intro σ k r h
 obtain ⟨hn,h1⟩:=Z8G h
 obtain ⟨hs1,h2⟩:=Z8H h1
 obtain ⟨a,s,hb1,h3⟩:=Z8D h2
 refine ⟨_,?_,(jmm a s k).trans h3⟩
 exact Z9e hn ⟨hs1,trivial⟩ ⟨hb1,trivial⟩)
noncomputable def j8t (s:qS) (k0:Bool->Res):Res:=
 bif (s.1==5) then
  ja0 s.2.2.2.2 λ(r:Bool)=>
   bif r then
    bif sEq s.2.1 s.2.2.2.2.2.1 then
     bif ((nI (List.length s.2.2.1))==0) then
      k0 ((nI (List.length s.2.2.2.1))==0)
     else
      k0 false
    else
     k0 false
   else
    k0 false
 else
  j2p s.2.1 λ(r1:Bool)=>
   bif !r1 then
    k0 false
   else
    j0Y s.2.2.2.2 (0,eS,[],[],eS,eS) λ(r2:Bool)=>
     bif !r2 then
      k0 false
     else
      ja1 s λ(t:Bool)=>
       k0 t
noncomputable def jdq:Sig Unit:=⟨[.look y18 true],[false],λvals ext k=>av vals y18 λs vals=>nl vals<|nl ext<|j8t s (λ(r0:Bool)=>k [⟨.bool,false,r0,[]⟩] [] [])⟩
theorem joR (s:qS) (a_s:Bool) (t_s:List Tag) (k:qK):Z6X jdf [jck] (.t .o (.t .o (.t .o (.x 0)))) false Tryz.f58 [.look y18 true] [false] [⟨y18,a_s,s,t_s⟩] [] k=j8t s (λ(r0:Bool)=>k [⟨.bool,false,r0,[]⟩] [] []):=by kernel_rfl
theorem jgT:Z1k Tryz.prog 58 jdq:=Z8N (Γ:=jdf) (X:=[jck]) (ht:=(.t .o (.t .o (.t .o (.x 0))))) (fz:=false) (c:=jaJ) follows j01 (Z8C jbo (Z8C j4k (Z8C j8J (Z8C jfx Z8W)))) (Z1A.mk trivial ((Z1A.mk trivial ((Z1A.mk trivial (Z1A.x_mk (λW0 M hnp=>jmE (W0:=W0) (M:=M) hnp))))))) Tryz.func58 (by kernel_rfl) (by kernel_rfl) (by decide) (by
 intro vals ext k r h
 obtain ⟨s,a_s,t_s,vals,rfl,h1⟩:=Z8T h
 obtain ⟨rfl,h2⟩:=Z90 h1
 obtain ⟨rfl,h3⟩:=Z90 h2
 exact (joR s a_s t_s k).trans h3)
end Go.PI.G
