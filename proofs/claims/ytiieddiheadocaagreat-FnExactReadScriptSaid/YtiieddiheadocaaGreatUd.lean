/-
  Program's code interpreted over typed values; printed texts; plain laws. No conditions.
-/
import Derived.Test.YtiieddiheadocaaGreatUa
import Derived.Test.YtiieddiheadocaaGreatUb
import Derived.Test.YtiieddiheadocaaGreatUc
set_option linter.unusedVariables false
set_option maxRecDepth 100000
namespace Go.PI.G
open Go Go.PI Go.Proofs
open Go.Code (pl pr)
noncomputable def j7R:Code:=(Tryz.f69.body).getD .skip
noncomputable def jdn:Env Unit:=⟨tys,[(157,jcL)],0⟩
noncomputable def j50 (t5:List qV) (t6:Int) (t7:Int) (rec:Int->Res) (k0:Unit->Res) (k1:Unit->Res):Res:=
 bif decide (t7<t6) then
  bif inb t7 (List.length t5) then
   j8w (nth (0,0,eS) t5 t7) λ(r:Bool)=>
    bif !r then
     k1 ()
    else
     rec (Z8g (t7+1))
  else none
 else
  k0 ()
noncomputable def j7r (t5:List qV) (t6:Int):Int->(Int->Res)->((Unit->Res)×(Unit->Res))->Res:=λv rec q=>j50 t5 t6 v (λt7=>rec (t7)) q.1 q.2
noncomputable def jcV (t5:List qV) (t6:Int) (n:Nat) (t7:Int) (k0:Unit->Res) (k1:Unit->Res):Res:=Z10 (j7r t5 t6) n (t7) (k0,k1)
noncomputable def j8J:Z1l Unit:=λσ k=>rdN σ 23<|rdV σ 0 y3 false [.S] λl=>rdV σ 5 y3 false [.S] λt5=>rdV σ 6 (.int .i64) false [] λt6=>rdV σ 7 (.int .i64) false [] λt7=>jcV t5 t6 Z0Y t7 (λ(_:Unit)=>k (.exit 0) (mkS 23 23 [(0,.val ⟨y3,false,l,[.S]⟩)] [])) (λ(_:Unit)=>k .ret (mkS 23 23 [(2,.val ⟨.bool,false,false,[]⟩)] []))
theorem jlI (l:List qV) (t5:List qV) (t6:Int) (n:Nat) (v:Int) (k:Z6G Unit):Z3X (Z0R jdn [] .o (pl (pl (pr (pl (pr j7R)))))) (λσ=>σ.forget [0,5,6,7] []) (Z8a ([],[]) [(0,[0],[])] ([2],[])) n (mkS 23 23 [(0,.val ⟨y3,false,l,[.S]⟩),(5,.val ⟨y3,false,t5,[.S]⟩),(6,.val ⟨(.int .i64),false,t6,[]⟩),(7,.val ⟨(.int .i64),false,v,[]⟩)] []) k=Z10 (j7r t5 t6) n v ((λ(k:Z6G Unit)=>(((λ(_:Unit)=>k (.exit 0) (mkS 23 23 [(0,.val ⟨y3,false,l,[.S]⟩)] [])),(λ(_:Unit)=>k .ret (mkS 23 23 [(2,.val ⟨.bool,false,false,[]⟩)] []))):(Unit->Res)×(Unit->Res))) k):=Z80 (λv:Int=>(mkS 23 23 [(0,.val ⟨y3,false,l,[.S]⟩),(5,.val ⟨y3,false,t5,[.S]⟩),(6,.val ⟨(.int .i64),false,t6,[]⟩),(7,.val ⟨(.int .i64),false,v,[]⟩)] [])) (j7r t5 t6) (λ(k:Z6G Unit)=>(((λ(_:Unit)=>k (.exit 0) (mkS 23 23 [(0,.val ⟨y3,false,l,[.S]⟩)] [])),(λ(_:Unit)=>k .ret (mkS 23 23 [(2,.val ⟨.bool,false,false,[]⟩)] []))):(Unit->Res)×(Unit->Res))) (λv rec k=>by kernel_rfl) n v k
theorem jmv {W0:Base} {M:Nat->Prop} (hnp:W0.np<=0):Z1W Tryz.prog W0 M (pl (pr (pl (pr j7R)))) j8J:=show Z1W Tryz.prog W0 M (Code.loop (pl (pl (pr (pl (pr j7R)))))) j8J from Z8X (Z6Q follows j00 (Z7K (Z8C j7M Z8W)) hnp [] (pl (pl (pr (pl (pr j7R))))) .o trivial) (ks:=[0,5,6,7]) (bs:=[]) (fX:=(Z8a ([],[]) [(0,[0],[])] ([2],[]))) (Z8U _ _ _) Z0Y (by
 intro σ k r h
 obtain ⟨hn,h1⟩:=Z8G h
 obtain ⟨l,hs0,h2⟩:=Z8J h1
 obtain ⟨t5,hs5,h3⟩:=Z8J h2
 obtain ⟨t6,hs6,h4⟩:=Z8J h3
 obtain ⟨t7,hs7,h5⟩:=Z8J h4
 refine ⟨_,?_,(jlI l t5 t6 Z0Y (t7) k).trans h5⟩
 exact Z9e hn ⟨hs0,hs5,hs6,hs7,trivial⟩ trivial)
noncomputable def j4i (l:List qV) (k0:Bool->Res):Res:=
 jcV l (nI (List.length l)) Z0Y 0
  (λ(_:Unit)=>
   bif decide ((nI (List.length l))>=1) then
    k0 (decide ((nI (List.length l))<=8))
   else
    k0 false)
  (λ(_:Unit)=>
   k0 false)
noncomputable def jgM:Sig Unit:=⟨[.look y3 false],[false],λvals ext k=>av vals y3 λl vals=>nl vals<|nl ext<|j4i l (λ(r0:Bool)=>k [⟨.bool,false,r0,[]⟩] [] [])⟩
theorem jor (l:List qV) (a_l:Bool) (t_l:List Tag) (k:qK):Z6X jdn [j8J] (.t .o (.t (.t .o (.t (.x 0) .o)) .o)) false Tryz.f69 [.look y3 false] [false] [⟨y3,a_l,l,t_l⟩] [] k=j4i l (λ(r0:Bool)=>k [⟨.bool,false,r0,[]⟩] [] []):=by kernel_rfl
theorem jgl:Z1k Tryz.prog 69 jgM:=Z8N (Γ:=jdn) (X:=[j8J]) (ht:=(.t .o (.t (.t .o (.t (.x 0) .o)) .o))) (fz:=false) (c:=j7R) follows j00 (Z8C j7M Z8W) (Z1A.mk trivial ((Z1A.mk ((Z1A.mk trivial ((Z1A.mk (Z1A.x_mk (λW0 M hnp=>jmv (W0:=W0) (M:=M) hnp)) trivial)))) trivial))) Tryz.func69 (by kernel_rfl) (by kernel_rfl) (by decide) (by
 intro vals ext k r h
 obtain ⟨l,a_l,t_l,vals,rfl,h1⟩:=Z8T h
 obtain ⟨rfl,h2⟩:=Z90 h1
 obtain ⟨rfl,h3⟩:=Z90 h2
 exact (jor l a_l t_l k).trans h3)
noncomputable def jnh:Code:=(Tryz.f70.body).getD .skip
noncomputable def jfx:Env Unit:=⟨tys,[],0⟩
noncomputable def j2B (d:qG) (k0:Bool->Res):Res:=
 bif (d.1==0) then
  bif sEq d.2.1 eS then
   bif ((nI (List.length d.2.2.1))==0) then
    bif ((nI (List.length d.2.2.2.1))==0) then
     bif sEq d.2.2.2.2.1 eS then
      k0 (sEq d.2.2.2.2.2 eS)
     else
      k0 false
    else
     k0 false
   else
    k0 false
  else
   k0 false
 else
  k0 false
noncomputable def jcM:Sig Unit:=⟨[.look y14 true],[false],λvals ext k=>av vals y14 λd vals=>nl vals<|nl ext<|j2B d (λ(r0:Bool)=>k [⟨.bool,false,r0,[]⟩] [] [])⟩
theorem jn0 (d:qG) (a_d:Bool) (t_d:List Tag) (k:qK):Z6X jfx [] .o false Tryz.f70 [.look y14 true] [false] [⟨y14,a_d,d,t_d⟩] [] k=j2B d (λ(r0:Bool)=>k [⟨.bool,false,r0,[]⟩] [] []):=by kernel_rfl
theorem jcd:Z1k Tryz.prog 70 jcM:=Z8N (Γ:=jfx) (X:=[]) (ht:= .o) (fz:=false) (c:=jnh) follows j00 Z8W trivial Tryz.func70 (by kernel_rfl) (by kernel_rfl) (by decide) (by
 intro vals ext k r h
 obtain ⟨d,a_d,t_d,vals,rfl,h1⟩:=Z8T h
 obtain ⟨rfl,h2⟩:=Z90 h1
 obtain ⟨rfl,h3⟩:=Z90 h2
 exact (jn0 d a_d t_d k).trans h3)
noncomputable def jbr:Code:=(Tryz.f13.body).getD .skip
noncomputable def je8:Env Unit:=⟨tys,[(68,j95),(69,jgM),(70,jcM),(71,jf5)],0⟩
noncomputable def jaR (noKey:Bool) (noRow:Bool) (s:qS) (k0:Bool->Res):Res:=
 bif (s.1==1) then
  bif noKey then
   j4i s.2.2.2.1 λ(r:Bool)=>
    bif r then
     j2B s.2.2.2.2 λ(r1:Bool)=>
      k0 r1
    else
     k0 false
  else
   k0 false
 else
  bif (s.1==2) then
   j4i s.2.2.1 λ(r2:Bool)=>
    bif r2 then
     j4i s.2.2.2.1 λ(r3:Bool)=>
      bif r3 then
       j2B s.2.2.2.2 λ(r4:Bool)=>
        k0 r4
      else
       k0 false
    else
     k0 false
  else
   bif (s.1==3) then
    j4i s.2.2.1 λ(r5:Bool)=>
     bif r5 then
      bif noRow then
       j2B s.2.2.2.2 λ(r6:Bool)=>
        k0 r6
      else
       k0 false
     else
      k0 false
   else
    bif (s.1==4) then
     bif noKey then
      bif noRow then
       j2B s.2.2.2.2 λ(r7:Bool)=>
        k0 r7
      else
       k0 false
     else
      k0 false
    else
     bif (s.1==5) then
      bif noKey then
       bif noRow then
        jaQ s.2.2.2.2 λ(r8:Bool)=>
         bif r8 then
          k0 (sEq s.2.2.2.2.2.1 s.2.1)
         else
          k0 false
       else
        k0 false
      else
       k0 false
     else
      k0 false
noncomputable def jd4:Z1l Unit:=λσ k=>rdN σ 93<|rdT σ 1 (.ptr ⟨true,1,[]⟩)<|rdV σ 3 .bool false [] λnoKey=>rdV σ 4 .bool false [] λnoRow=>rdB σ 1 y18 [.S,.S,.S,.S] λa s=>jaR noKey noRow s (λ(t2:Bool)=>k .ret (mkS 93 93 [(2,.val ⟨.bool,false,t2,[]⟩)] []))
theorem jnu (noKey:Bool) (noRow:Bool) (a:Bool) (s:qS) (k:Z6G Unit):Z0R je8 [] .o (pr (pr (pr (pr jbr)))) (mkS 93 93 [(1,.ptr ⟨true,1,[]⟩),(3,.val ⟨.bool,false,noKey,[]⟩),(4,.val ⟨.bool,false,noRow,[]⟩)] [(1,⟨y18,a,s,[.S,.S,.S,.S]⟩)]) (λe σ=>k e ((Z8a ([],[]) [] ([2],[])) e σ))=jaR noKey noRow s (λ(t2:Bool)=>k .ret (mkS 93 93 [(2,.val ⟨.bool,false,t2,[]⟩)] [])):=by kernel_rfl
theorem jnM {W0:Base} {M:Nat->Prop} (hnp:W0.np<=0):Z1W Tryz.prog W0 M (pr (pr (pr (pr jbr)))) jd4:=Z91 (Z6Q follows j00 (Z7K (Z8C j2A (Z8C jgl (Z8C jcd (Z8C jeD Z8W))))) hnp [] ((pr (pr (pr (pr jbr))))) .o trivial) (fg:=(Z8a ([],[]) [] ([2],[]))) (Z8U _ _ _) (by
 intro σ k r h
 obtain ⟨hn,h1⟩:=Z8G h
 obtain ⟨hs1,h2⟩:=Z8H h1
 obtain ⟨noKey,hs3,h3⟩:=Z8J h2
 obtain ⟨noRow,hs4,h4⟩:=Z8J h3
 obtain ⟨a,s,hb1,h5⟩:=Z8D h4
 refine ⟨_,?_,(jnu noKey noRow a s k).trans h5⟩
 exact Z9e hn ⟨hs1,hs3,hs4,trivial⟩ ⟨hb1,trivial⟩)
noncomputable def j9g (s:qS) (k0:Bool->Res):Res:=
 j2f s.2.1 λ(r:Bool)=>
  bif !r then
   k0 false
  else
   jaR ((nI (List.length s.2.2.1))==0) ((nI (List.length s.2.2.2.1))==0) s λ(t:Bool)=>
    k0 t
noncomputable def jeg:Sig Unit:=⟨[.look y18 true],[false],λvals ext k=>av vals y18 λs vals=>nl vals<|nl ext<|j9g s (λ(r0:Bool)=>k [⟨.bool,false,r0,[]⟩] [] [])⟩
theorem jpF (s:qS) (a_s:Bool) (t_s:List Tag) (k:qK):Z6X je8 [jd4] (.t .o (.t .o (.t .o (.t .o (.x 0))))) false Tryz.f13 [.look y18 true] [false] [⟨y18,a_s,s,t_s⟩] [] k=j9g s (λ(r0:Bool)=>k [⟨.bool,false,r0,[]⟩] [] []):=by kernel_rfl
theorem jbp:Z1k Tryz.prog 13 jeg:=Z8N (Γ:=je8) (X:=[jd4]) (ht:=(.t .o (.t .o (.t .o (.t .o (.x 0)))))) (fz:=false) (c:=jbr) follows j00 (Z8C j2A (Z8C jgl (Z8C jcd (Z8C jeD Z8W)))) (Z1A.mk trivial ((Z1A.mk trivial ((Z1A.mk trivial ((Z1A.mk trivial (Z1A.x_mk (λW0 M hnp=>jnM (W0:=W0) (M:=M) hnp))))))))) Tryz.func13 (by kernel_rfl) (by kernel_rfl) (by decide) (by
 intro vals ext k r h
 obtain ⟨s,a_s,t_s,vals,rfl,h1⟩:=Z8T h
 obtain ⟨rfl,h2⟩:=Z90 h1
 obtain ⟨rfl,h3⟩:=Z90 h2
 exact (jpF s a_s t_s k).trans h3)
noncomputable def jnc:Code:=(Tryz.f204.body).getD .skip
noncomputable def jfs:Env Unit:=⟨tys,[(205,jcI)],0⟩
noncomputable def jbu (v_:Int×Int×qB) (k0:Bool->Res):Res:=
 j8m v_ λ(r:Bool)=>
  k0 (!r)
noncomputable def jfL:Sig Unit:=⟨[.look y2 true],[false],λvals ext k=>av vals y2 λv_ vals=>nl vals<|nl ext<|jbu v_ (λ(r0:Bool)=>k [⟨.bool,false,r0,[]⟩] [] [])⟩
theorem jmK (v_:Int×Int×qB) (a_v_:Bool) (t_v_:List Tag) (k:qK):Z6X jfs [] .o false Tryz.f204 [.look y2 true] [false] [⟨y2,a_v_,v_,t_v_⟩] [] k=jbu v_ (λ(r0:Bool)=>k [⟨.bool,false,r0,[]⟩] [] []):=by kernel_rfl
theorem jfj:Z1k Tryz.prog 204 jfL:=Z8N (Γ:=jfs) (X:=[]) (ht:= .o) (fz:=false) (c:=jnc) follows j00 (Z8C ja0 Z8W) trivial Tryz.func204 (by kernel_rfl) (by kernel_rfl) (by decide) (by
 intro vals ext k r h
 obtain ⟨v_,a_v_,t_v_,vals,rfl,h1⟩:=Z8T h
 obtain ⟨rfl,h2⟩:=Z90 h1
 obtain ⟨rfl,h3⟩:=Z90 h2
 exact (jmK v_ a_v_ t_v_ k).trans h3)
noncomputable def j2x:Code:=(Tryz.f248.body).getD .skip
noncomputable def j77:Env Unit:=⟨tys,[(204,jfL)],0⟩
noncomputable def j1Y (s:List qV) (t7:Int) (t8:Int) (rec:Int->Res) (k0:Unit->Res) (k1:Int->Res):Res:=
 bif decide (t8<t7) then
  bif inb t8 (List.length s) then
   jbu (nth (0,0,eS) s t8) λ(r:Bool)=>
    bif r then
     k1 t8
    else
     rec (Z8g (t8+1))
  else none
 else
  k0 ()
noncomputable def j38 (s:List qV) (t7:Int):Int->(Int->Res)->((Unit->Res)×(Int->Res))->Res:=λv rec q=>j1Y s t7 v (λt8=>rec (t8)) q.1 q.2
noncomputable def j64 (s:List qV) (t7:Int) (n:Nat) (t8:Int) (k0:Unit->Res) (k1:Int->Res):Res:=Z10 (j38 s t7) n (t8) (k0,k1)
noncomputable def j3x:Z1l Unit:=λσ k=>rdN σ 19<|rdV σ 0 y3 false [.S] λs=>rdC σ 1 204 [] .unit [] λf=>rdV σ 7 (.int .i64) false [] λt7=>rdV σ 8 (.int .i64) false [] λt8=>j64 s t7 Z0Y t8 (λ(_:Unit)=>k (.exit 0) (mkS 19 19 [] [])) (λ(t4:Int)=>k .ret (mkS 19 19 [(4,.val ⟨(.int .i64),false,t4,[]⟩)] []))
theorem jeI (s:List qV) (f:Unit) (t7:Int) (n:Nat) (v:Int) (k:Z6G Unit):Z3X (Z0R j77 [] .o (pl (pl (pr (pl (pr j2x)))))) (λσ=>σ.forget [0,1,7,8] []) (Z8a ([],[]) [(0,[],[])] ([4],[])) n (mkS 19 19 [(0,.val ⟨y3,false,s,[.S]⟩),(1,.sclos 204 [] ⟨.unit,false,f,[]⟩),(7,.val ⟨(.int .i64),false,t7,[]⟩),(8,.val ⟨(.int .i64),false,v,[]⟩)] []) k=Z10 (j38 s t7) n v ((λ(k:Z6G Unit)=>(((λ(_:Unit)=>k (.exit 0) (mkS 19 19 [] [])),(λ(t4:Int)=>k .ret (mkS 19 19 [(4,.val ⟨(.int .i64),false,t4,[]⟩)] []))):(Unit->Res)×(Int->Res))) k):=Z80 (λv:Int=>(mkS 19 19 [(0,.val ⟨y3,false,s,[.S]⟩),(1,.sclos 204 [] ⟨.unit,false,f,[]⟩),(7,.val ⟨(.int .i64),false,t7,[]⟩),(8,.val ⟨(.int .i64),false,v,[]⟩)] [])) (j38 s t7) (λ(k:Z6G Unit)=>(((λ(_:Unit)=>k (.exit 0) (mkS 19 19 [] [])),(λ(t4:Int)=>k .ret (mkS 19 19 [(4,.val ⟨(.int .i64),false,t4,[]⟩)] []))):(Unit->Res)×(Int->Res))) (λv rec k=>by kernel_rfl) n v k
theorem jeT {W0:Base} {M:Nat->Prop} (hnp:W0.np<=0):Z1W Tryz.prog W0 M (pl (pr (pl (pr j2x)))) j3x:=show Z1W Tryz.prog W0 M (Code.loop (pl (pl (pr (pl (pr j2x)))))) j3x from Z8X (Z6Q follows j00 (Z7K (Z8C jfj Z8W)) hnp [] (pl (pl (pr (pl (pr j2x))))) .o trivial) (ks:=[0,1,7,8]) (bs:=[]) (fX:=(Z8a ([],[]) [(0,[],[])] ([4],[]))) (Z8U _ _ _) Z0Y (by
 intro σ k r h
 obtain ⟨hn,h1⟩:=Z8G h
 obtain ⟨s,hs0,h2⟩:=Z8J h1
 obtain ⟨f,hs1,h3⟩:=Z8E h2
 obtain ⟨t7,hs7,h4⟩:=Z8J h3
 obtain ⟨t8,hs8,h5⟩:=Z8J h4
 refine ⟨_,?_,(jeI s f t7 Z0Y (t8) k).trans h5⟩
 exact Z9e hn ⟨hs0,hs1,hs7,hs8,trivial⟩ trivial)
noncomputable def j5d (s:List qV) (f:Unit) (k0:Int->Res):Res:=
 j64 s (nI (List.length s)) Z0Y 0
  (λ(_:Unit)=>
   k0 (-1))
  (λ(t:Int)=>
   k0 t)
noncomputable def jbj:Sig Unit:=⟨[.look y3 false,.rclos 204 []],[false],λvals ext k=>av vals y3 λs vals=>av vals .unit λf vals=>nl vals<|nl ext<|j5d s f (λ(r0:Int)=>k [⟨(.int .i64),false,r0,[]⟩] [] [])⟩
theorem jg7 (s:List qV) (a_s:Bool) (t_s:List Tag) (f:Unit) (a_f:Bool) (t_f:List Tag) (k:qK):Z6X j77 [j3x] (.t .o (.t (.t .o (.t (.x 0) .o)) .o)) false Tryz.f248 [.look y3 false,.rclos 204 []] [false] [⟨y3,a_s,s,t_s⟩,⟨.unit,a_f,f,t_f⟩] [] k=j5d s f (λ(r0:Int)=>k [⟨(.int .i64),false,r0,[]⟩] [] []):=by kernel_rfl
theorem jg9:Z1k Tryz.prog 248 jbj:=Z8N (Γ:=j77) (X:=[j3x]) (ht:=(.t .o (.t (.t .o (.t (.x 0) .o)) .o))) (fz:=false) (c:=j2x) follows j00 (Z8C jfj Z8W) (Z1A.mk trivial ((Z1A.mk ((Z1A.mk trivial ((Z1A.mk (Z1A.x_mk (λW0 M hnp=>jeT (W0:=W0) (M:=M) hnp)) trivial)))) trivial))) Tryz.func248 (by kernel_rfl) (by kernel_rfl) (by decide) (by
 intro vals ext k r h
 obtain ⟨s,a_s,t_s,vals,rfl,h1⟩:=Z8T h
 obtain ⟨f,a_f,t_f,vals,rfl,h2⟩:=Z8T h1
 obtain ⟨rfl,h3⟩:=Z90 h2
 obtain ⟨rfl,h4⟩:=Z90 h3
 exact (jg7 s a_s t_s f a_f t_f k).trans h4)
noncomputable def jeq:Code:=(Tryz.f203.body).getD .skip
noncomputable def j9w:Env Unit:=⟨tys,[(248,jbj)],0⟩
noncomputable def j3F (s:List qV) (f:Unit) (k0:Bool->Res):Res:=
 j5d s f λ(r:Int)=>
  k0 (decide (r>=0))
noncomputable def j9J:Sig Unit:=⟨[.look y3 false,.rclos 204 []],[false],λvals ext k=>av vals y3 λs vals=>av vals .unit λf vals=>nl vals<|nl ext<|j3F s f (λ(r0:Bool)=>k [⟨.bool,false,r0,[]⟩] [] [])⟩
theorem jeo (s:List qV) (a_s:Bool) (t_s:List Tag) (f:Unit) (a_f:Bool) (t_f:List Tag) (k:qK):Z6X j9w [] .o false Tryz.f203 [.look y3 false,.rclos 204 []] [false] [⟨y3,a_s,s,t_s⟩,⟨.unit,a_f,f,t_f⟩] [] k=j3F s f (λ(r0:Bool)=>k [⟨.bool,false,r0,[]⟩] [] []):=by kernel_rfl
theorem jep:Z1k Tryz.prog 203 j9J:=Z8N (Γ:=j9w) (X:=[]) (ht:= .o) (fz:=false) (c:=jeq) follows j00 (Z8C jg9 Z8W) trivial Tryz.func203 (by kernel_rfl) (by kernel_rfl) (by decide) (by
 intro vals ext k r h
 obtain ⟨s,a_s,t_s,vals,rfl,h1⟩:=Z8T h
 obtain ⟨f,a_f,t_f,vals,rfl,h2⟩:=Z8T h1
 obtain ⟨rfl,h3⟩:=Z90 h2
 obtain ⟨rfl,h4⟩:=Z90 h3
 exact (jeo s a_s t_s f a_f t_f k).trans h4)
noncomputable def joy:Code:=(Tryz.f154.body).getD .skip
noncomputable def jgs:Env Unit:=⟨tys,[(174,j1H),(203,j9J)],0⟩
noncomputable def j45 (l:List qV) (k0:Bool->Res):Res:=
 j0O (nI (List.length l)) 1 8 λ(r:Bool)=>
  bif r then
   j3F l () λ(r1:Bool)=>
    k0 (!r1)
  else
   k0 false
noncomputable def jgE:Sig Unit:=⟨[.look y3 false],[false],λvals ext k=>av vals y3 λl vals=>nl vals<|nl ext<|j45 l (λ(r0:Bool)=>k [⟨.bool,false,r0,[]⟩] [] [])⟩
theorem jod (l:List qV) (a_l:Bool) (t_l:List Tag) (k:qK):Z6X jgs [] .o false Tryz.f154 [.look y3 false] [false] [⟨y3,a_l,l,t_l⟩] [] k=j45 l (λ(r0:Bool)=>k [⟨.bool,false,r0,[]⟩] [] []):=by kernel_rfl
theorem jgh:Z1k Tryz.prog 154 jgE:=Z8N (Γ:=jgs) (X:=[]) (ht:= .o) (fz:=false) (c:=joy) follows j00 (Z8C j0s (Z8C jep Z8W)) trivial Tryz.func154 (by kernel_rfl) (by kernel_rfl) (by decide) (by
 intro vals ext k r h
 obtain ⟨l,a_l,t_l,vals,rfl,h1⟩:=Z8T h
 obtain ⟨rfl,h2⟩:=Z90 h1
 obtain ⟨rfl,h3⟩:=Z90 h2
 exact (jod l a_l t_l k).trans h3)
noncomputable def jbq:Code:=(Tryz.f58.body).getD .skip
noncomputable def je1:Env Unit:=⟨tys,[(151,jeX),(152,j94),(153,j9I),(154,jgE)],0⟩
noncomputable def jaE (s:qS) (k0:Bool->Res):Res:=
 bif (s.1==1) then
  bif ((nI (List.length s.2.2.1))==0) then
   j45 s.2.2.2.1 λ(r:Bool)=>
    k0 r
  else
   k0 false
 else
  bif (s.1==2) then
   j45 s.2.2.1 λ(r1:Bool)=>
    bif r1 then
     j45 s.2.2.2.1 λ(r2:Bool)=>
      k0 r2
    else
     k0 false
  else
   bif (s.1==3) then
    j45 s.2.2.1 λ(r3:Bool)=>
     bif r3 then
      k0 ((nI (List.length s.2.2.2.1))==0)
     else
      k0 false
   else
    bif (s.1==4) then
     bif ((nI (List.length s.2.2.1))==0) then
      k0 ((nI (List.length s.2.2.2.1))==0)
     else
      k0 false
    else
     k0 false
noncomputable def jd2:Z1l Unit:=λσ k=>rdN σ 91<|rdT σ 1 (.ptr ⟨true,1,[]⟩)<|rdB σ 1 y18 [.S,.S,.S,.S] λa s=>jaE s (λ(t2:Bool)=>k .ret (mkS 91 91 [(2,.val ⟨.bool,false,t2,[]⟩)] []))
theorem jnm (a:Bool) (s:qS) (k:Z6G Unit):Z0R je1 [] .o (pr (pr (pr jbq))) (mkS 91 91 [(1,.ptr ⟨true,1,[]⟩)] [(1,⟨y18,a,s,[.S,.S,.S,.S]⟩)]) (λe σ=>k e ((Z8a ([],[]) [] ([2],[])) e σ))=jaE s (λ(t2:Bool)=>k .ret (mkS 91 91 [(2,.val ⟨.bool,false,t2,[]⟩)] [])):=by kernel_rfl
theorem jnF {W0:Base} {M:Nat->Prop} (hnp:W0.np<=0):Z1W Tryz.prog W0 M (pr (pr (pr jbq))) jd2:=Z91 (Z6Q follows j00 (Z7K (Z8C jc7 (Z8C j4w (Z8C j9p (Z8C jgh Z8W))))) hnp [] ((pr (pr (pr jbq)))) .o trivial) (fg:=(Z8a ([],[]) [] ([2],[]))) (Z8U _ _ _) (by
 intro σ k r h
 obtain ⟨hn,h1⟩:=Z8G h
 obtain ⟨hs1,h2⟩:=Z8H h1
 obtain ⟨a,s,hb1,h3⟩:=Z8D h2
 refine ⟨_,?_,(jnm a s k).trans h3⟩
 exact Z9e hn ⟨hs1,trivial⟩ ⟨hb1,trivial⟩)
noncomputable def j9b (s:qS) (k0:Bool->Res):Res:=
 bif (s.1==5) then
  jaD s.2.2.2.2 λ(r:Bool)=>
   bif r then
    bif sEq s.2.1 s.2.2.2.2.2.1 then
     bif ((nI (List.length s.2.2.1))==0) then
      k0 ((nI (List.length s.2.2.2.1))==0)
     else
      k0 false
    else
     k0 false
   else
    k0 false
 else
  j2y s.2.1 λ(r1:Bool)=>
   bif !r1 then
    k0 false
   else
    j15 s.2.2.2.2 (0,eS,[],[],eS,eS) λ(r2:Bool)=>
     bif !r2 then
      k0 false
     else
      jaE s λ(t:Bool)=>
       k0 t
noncomputable def jed:Sig Unit:=⟨[.look y18 true],[false],λvals ext k=>av vals y18 λs vals=>nl vals<|nl ext<|j9b s (λ(r0:Bool)=>k [⟨.bool,false,r0,[]⟩] [] [])⟩
theorem jpt (s:qS) (a_s:Bool) (t_s:List Tag) (k:qK):Z6X je1 [jd2] (.t .o (.t .o (.t .o (.x 0)))) false Tryz.f58 [.look y18 true] [false] [⟨y18,a_s,s,t_s⟩] [] k=j9b s (λ(r0:Bool)=>k [⟨.bool,false,r0,[]⟩] [] []):=by kernel_rfl
theorem jhv:Z1k Tryz.prog 58 jed:=Z8N (Γ:=je1) (X:=[jd2]) (ht:=(.t .o (.t .o (.t .o (.x 0))))) (fz:=false) (c:=jbq) follows j00 (Z8C jc7 (Z8C j4w (Z8C j9p (Z8C jgh Z8W)))) (Z1A.mk trivial ((Z1A.mk trivial ((Z1A.mk trivial (Z1A.x_mk (λW0 M hnp=>jnF (W0:=W0) (M:=M) hnp))))))) Tryz.func58 (by kernel_rfl) (by kernel_rfl) (by decide) (by
 intro vals ext k r h
 obtain ⟨s,a_s,t_s,vals,rfl,h1⟩:=Z8T h
 obtain ⟨rfl,h2⟩:=Z90 h1
 obtain ⟨rfl,h3⟩:=Z90 h2
 exact (jpt s a_s t_s k).trans h3)
end Go.PI.G
