/-
  Program's code interpreted over typed values; printed texts; plain laws. No conditions.
-/
import Derived.Test.YtiieddiheadocaaGreatUa
import Derived.Test.YtiieddiheadocaaGreatUc
import Derived.Test.YtiieddiheadocaaGreatUb
import Derived.Test.YtiieddiheadocaaGreatUd
import Derived.Test.YtiieddiheadocaaGreatUe
set_option linter.unusedVariables false
set_option maxRecDepth 100000
namespace Go.PI.G
open Go Go.PI Go.Proofs
open Go.Code (pl pr)
noncomputable def jkZ:Code:=(Tryz.f102.body).getD .skip
noncomputable def jeQ:Env Unit:=⟨tys,[(70,jcM)],0⟩
noncomputable def j5s (s:qS) (k0:Bool->Res):Res:=
 bif (s.1==0) then
  bif sEq s.2.1 eS then
   bif ((nI (List.length s.2.2.1))==0) then
    bif ((nI (List.length s.2.2.2.1))==0) then
     j2B s.2.2.2.2 λ(r:Bool)=>
      k0 r
    else
     k0 false
   else
    k0 false
  else
   k0 false
 else
  k0 false
noncomputable def jbO:Sig Unit:=⟨[.look y18 true],[false],λvals ext k=>av vals y18 λs vals=>nl vals<|nl ext<|j5s s (λ(r0:Bool)=>k [⟨.bool,false,r0,[]⟩] [] [])⟩
theorem jkR (s:qS) (a_s:Bool) (t_s:List Tag) (k:qK):Z6X jeQ [] .o false Tryz.f102 [.look y18 true] [false] [⟨y18,a_s,s,t_s⟩] [] k=j5s s (λ(r0:Bool)=>k [⟨.bool,false,r0,[]⟩] [] []):=by kernel_rfl
theorem jbB:Z1k Tryz.prog 102 jbO:=Z8N (Γ:=jeQ) (X:=[]) (ht:= .o) (fz:=false) (c:=jkZ) follows j00 (Z8C jcd Z8W) trivial Tryz.func102 (by kernel_rfl) (by kernel_rfl) (by decide) (by
 intro vals ext k r h
 obtain ⟨s,a_s,t_s,vals,rfl,h1⟩:=Z8T h
 obtain ⟨rfl,h2⟩:=Z90 h1
 obtain ⟨rfl,h3⟩:=Z90 h2
 exact (jkR s a_s t_s k).trans h3)
noncomputable def jcg:Code:=(Tryz.f29.body).getD .skip
noncomputable def jeO:Env Unit:=⟨tys,[(13,jeg),(102,jbO)],0⟩
noncomputable def jbz (r:Int×Int×qS) (k0:Bool->Res):Res:=
 bif decide (r.1<1) then
  k0 true
 else
  bif decide (r.1>4) then
   k0 true
  else
   bif decide (r.2.1<1) then
    k0 true
   else
    k0 (decide (r.2.1>1000000))
noncomputable def jdI:Z1l Unit:=λσ k=>rdN σ 30<|rdT σ 1 (.ptr ⟨true,1,[]⟩)<|rdB σ 1 y20 [.S,.S,.S,.S] λa r=>jbz r (λ(t20:Bool)=>k .normal (mkS 30 30 [(1,.ptr ⟨true,1,[]⟩),(20,.val ⟨.bool,false,t20,[]⟩)] [(1,⟨y20,a,r,[.S,.S,.S,.S]⟩)]))
theorem joM (a:Bool) (r:Int×Int×qS) (k:Z6G Unit):Z0R jeO [] .o (pl (pl (pr jcg))) (mkS 30 30 [(1,.ptr ⟨true,1,[]⟩)] [(1,⟨y20,a,r,[.S,.S,.S,.S]⟩)]) (λe σ=>k e ((Z8a ([1,20],[1]) [] ([],[])) e σ))=jbz r (λ(t20:Bool)=>k .normal (mkS 30 30 [(1,.ptr ⟨true,1,[]⟩),(20,.val ⟨.bool,false,t20,[]⟩)] [(1,⟨y20,a,r,[.S,.S,.S,.S]⟩)])):=by kernel_rfl
theorem joY {W0:Base} {M:Nat->Prop} (hnp:W0.np<=0):Z1W Tryz.prog W0 M (pl (pl (pr jcg))) jdI:=Z91 (Z6Q follows j00 (Z7K (Z8C jbp (Z8C jbB Z8W))) hnp [] ((pl (pl (pr jcg)))) .o trivial) (fg:=(Z8a ([1,20],[1]) [] ([],[]))) (Z8U _ _ _) (by
 intro σ k r h
 obtain ⟨hn,h1⟩:=Z8G h
 obtain ⟨hs1,h2⟩:=Z8H h1
 obtain ⟨a,r,hb1,h3⟩:=Z8D h2
 refine ⟨_,?_,(joM a r k).trans h3⟩
 exact Z9e hn ⟨hs1,trivial⟩ ⟨hb1,trivial⟩)
noncomputable def jcQ (r:Int×Int×qS) (k0:Bool->Res):Res:=
 jbz r λ(t:Bool)=>
  bif t then
   k0 false
  else
   bif (r.1==2) then
    j9g r.2.2 λ(r1:Bool)=>
     k0 r1
   else
    j5s r.2.2 λ(r2:Bool)=>
     k0 r2
noncomputable def jjl:Sig Unit:=⟨[.look y20 true],[false],λvals ext k=>av vals y20 λr vals=>nl vals<|nl ext<|jcQ r (λ(r0:Bool)=>k [⟨.bool,false,r0,[]⟩] [] [])⟩
theorem jqp (r:Int×Int×qS) (a_r:Bool) (t_r:List Tag) (k:qK):Z6X jeO [jdI] (.t .o (.t (.t (.x 0) .o) .o)) false Tryz.f29 [.look y20 true] [false] [⟨y20,a_r,r,t_r⟩] [] k=jcQ r (λ(r0:Bool)=>k [⟨.bool,false,r0,[]⟩] [] []):=by kernel_rfl
theorem jih:Z1k Tryz.prog 29 jjl:=Z8N (Γ:=jeO) (X:=[jdI]) (ht:=(.t .o (.t (.t (.x 0) .o) .o))) (fz:=false) (c:=jcg) follows j00 (Z8C jbp (Z8C jbB Z8W)) (Z1A.mk trivial ((Z1A.mk ((Z1A.mk (Z1A.x_mk (λW0 M hnp=>joY (W0:=W0) (M:=M) hnp)) trivial)) trivial))) Tryz.func29 (by kernel_rfl) (by kernel_rfl) (by decide) (by
 intro vals ext k r h
 obtain ⟨r,a_r,t_r,vals,rfl,h1⟩:=Z8T h
 obtain ⟨rfl,h2⟩:=Z90 h1
 obtain ⟨rfl,h3⟩:=Z90 h2
 exact (jqp r a_r t_r k).trans h3)
noncomputable def jau:Code:=(Tryz.f103.body).getD .skip
noncomputable def jdl:Env Unit:=⟨tys,[(29,jjl),(175,(j2k j0U)),(176,jcK)],0⟩
noncomputable def j6S (r:Int×Int×qS) (k0:qB->Res):Res:=
 Z6L
  (bif inb r.1 5 then
   bif lim ((ByteArray.size (nth eS [eS,j0h,j0W,j0b,j0g] r.1))+1) then
    j0U r.2.1 λ(r1:qB)=>
     bif lim ((ByteArray.size ((nth eS [eS,j0h,j0W,j0b,j0g] r.1)++j0e))+(ByteArray.size r1)) then
      k0 (((nth eS [eS,j0h,j0W,j0b,j0g] r.1)++j0e)++r1)
     else none
   else none
  else none)
  (j0U r.2.1 λ(r2:qB)=>
   bif inb r.1 5 then
    bif lim ((ByteArray.size (nth eS [eS,j0h,j0W,j0b,j0g] r.1))+1) then
     bif lim ((ByteArray.size ((nth eS [eS,j0h,j0W,j0b,j0g] r.1)++j0e))+(ByteArray.size r2)) then
      k0 (((nth eS [eS,j0h,j0W,j0b,j0g] r.1)++j0e)++r2)
     else none
    else none
   else none)
noncomputable def jbY:Z1l Unit:=λσ k=>rdN σ 27<|rdT σ 1 (.ptr ⟨true,1,[]⟩)<|rdB σ 1 y20 [.S,.S,.S,.S] λa r=>j6S r (λ(out:qB)=>k .normal (mkS 27 27 [(1,.ptr ⟨true,1,[]⟩),(3,.val ⟨.str,false,out,[]⟩)] [(1,⟨y20,a,r,[.S,.S,.S,.S]⟩)]))
theorem jln (a:Bool) (r:Int×Int×qS) (k:Z6G Unit):Z0R jdl [] .o (pl (pr (pr jau))) (mkS 27 27 [(1,.ptr ⟨true,1,[]⟩)] [(1,⟨y20,a,r,[.S,.S,.S,.S]⟩)]) (λe σ=>k e ((Z8a ([1,3],[1]) [] ([],[])) e σ))=j6S r (λ(out:qB)=>k .normal (mkS 27 27 [(1,.ptr ⟨true,1,[]⟩),(3,.val ⟨.str,false,out,[]⟩)] [(1,⟨y20,a,r,[.S,.S,.S,.S]⟩)])):=by kernel_rfl
theorem jma {W0:Base} {M:Nat->Prop} (hnp:W0.np<=0):Z1W Tryz.prog W0 M (pl (pr (pr jau))) jbY:=Z91 (Z6Q follows j00 (Z7K (Z8C jih (Z8C j1K (Z8C j9r Z8W)))) hnp [] ((pl (pr (pr jau)))) .o trivial) (fg:=(Z8a ([1,3],[1]) [] ([],[]))) (Z8U _ _ _) (by
 intro σ k r h
 obtain ⟨hn,h1⟩:=Z8G h
 obtain ⟨hs1,h2⟩:=Z8H h1
 obtain ⟨a,r,hb1,h3⟩:=Z8D h2
 refine ⟨_,?_,(jln a r k).trans h3⟩
 exact Z9e hn ⟨hs1,trivial⟩ ⟨hb1,trivial⟩)
noncomputable def j4e (r:Int×Int×qS) (k0:qB->Res):Res:=
 jcQ r λ(r1:Bool)=>
  bif !r1 then
   k0 eS
  else
   j6S r λ(out:qB)=>
    bif (r.1==2) then
     bif lim ((ByteArray.size out)+1) then
      j6i r.2.2 λ(r2:qB)=>
       bif lim ((ByteArray.size (out++j0e))+(ByteArray.size r2)) then
        k0 ((out++j0e)++r2)
       else none
     else none
    else
     k0 out
noncomputable def jdC:Sig Unit:=⟨[.look y20 true],[false],λvals ext k=>av vals y20 λr vals=>nl vals<|nl ext<|j4e r (λ(r0:qB)=>k [⟨.str,false,r0,[]⟩] [] [])⟩
theorem joi (r:Int×Int×qS) (a_r:Bool) (t_r:List Tag) (k:qK):Z6X jdl [jbY] (.t .o (.t .o (.t (.x 0) .o))) false Tryz.f103 [.look y20 true] [false] [⟨y20,a_r,r,t_r⟩] [] k=j4e r (λ(r0:qB)=>k [⟨.str,false,r0,[]⟩] [] []):=by kernel_rfl
theorem j2g:Z1k Tryz.prog 103 jdC:=Z8N (Γ:=jdl) (X:=[jbY]) (ht:=(.t .o (.t .o (.t (.x 0) .o)))) (fz:=false) (c:=jau) follows j00 (Z8C jih (Z8C j1K (Z8C j9r Z8W))) (Z1A.mk trivial ((Z1A.mk trivial ((Z1A.mk (Z1A.x_mk (λW0 M hnp=>jma (W0:=W0) (M:=M) hnp)) trivial))))) Tryz.func103 (by kernel_rfl) (by kernel_rfl) (by decide) (by
 intro vals ext k r h
 obtain ⟨r,a_r,t_r,vals,rfl,h1⟩:=Z8T h
 obtain ⟨rfl,h2⟩:=Z90 h1
 obtain ⟨rfl,h3⟩:=Z90 h2
 exact (joi r a_r t_r k).trans h3)
noncomputable def j2S:Code:=(Tryz.f111.body).getD .skip
noncomputable def jaz:Env Unit:=⟨tys,[(103,jdC),(109,jaj),(110,jaL),(178,jfW)],0⟩
noncomputable def j4X (w:qL) (t23:qL) (t24:Int) (t25:Int) (r:Int×Int×qS) (rec:Int->qP->Res) (k0:qP->Res):Res:=
 bif decide (t25<t24) then
  bif inb t25 (List.length t23) then
   bif decide (t25>0) then
    bif inb 0 (List.length w) then
     bif sEq (nth eS t23 t25) (nth eS w 0) then
      rec (Z8g (t25+1)) (t25,r.2)
     else
      rec (Z8g (t25+1)) r
    else none
   else
    rec (Z8g (t25+1)) r
  else none
 else
  k0 r
noncomputable def j7o (w:qL) (t23:qL) (t24:Int):(Int×qP)->(Int×qP->Res)->((qP->Res))->Res:=λv rec q=>j4X w t23 t24 v.1 v.2 (λt25 r=>rec (t25,r)) q
noncomputable def jcS (w:qL) (t23:qL) (t24:Int) (n:Nat) (t25:Int) (r:Int×Int×qS) (k0:qP->Res):Res:=Z10 (j7o w t23 t24) n (t25,r) (k0)
noncomputable def j3X:Z1l Unit:=λσ k=>rdN σ 68<|rdV σ 0 .str false [] λs=>rdT σ 2 (.ptr ⟨true,2,[]⟩)<|rdV σ 4 y9 false [.S] λw=>rdT σ 5 (.ptr ⟨true,5,[]⟩)<|rdV σ 23 y9 false [.O] λt23=>rdV σ 24 (.int .i64) false [] λt24=>rdV σ 25 (.int .i64) false [] λt25=>rdB σ 2 y20 [.O,.O,.O,.O] λa t2=>rdB σ 5 y20 [.O,.O,.O,.O] λa1 r=>jcS w t23 t24 Z0Y t25 r (λ(r1:Int×Int×qS)=>k (.exit 0) (mkS 68 68 [(0,.val ⟨.str,false,s,[]⟩),(2,.ptr ⟨true,2,[]⟩),(4,.val ⟨y9,false,w,[.S]⟩),(5,.ptr ⟨true,5,[]⟩)] [(2,⟨y20,a,t2,[.O,.O,.O,.O]⟩),(5,⟨y20,a1,r1,[.O,.O,.O,.O]⟩)]))
theorem jlz (s:qB) (w:qL) (t23:qL) (t24:Int) (a:Bool) (t2:Int×Int×qS) (a1:Bool) (n:Nat) (v:Int×qP) (k:Z6G Unit):Z3X (Z0R jaz [] .o (pl (pl (pr (pl (pr (pr (pr (pr (pr j2S)))))))))) (λσ=>σ.forget [0,2,4,5,23,24,25] [2,5]) (Z8a ([],[]) [(0,[0,2,4,5],[2,5])] ([],[])) n (mkS 68 68 [(0,.val ⟨.str,false,s,[]⟩),(2,.ptr ⟨true,2,[]⟩),(4,.val ⟨y9,false,w,[.S]⟩),(5,.ptr ⟨true,5,[]⟩),(23,.val ⟨y9,false,t23,[.O]⟩),(24,.val ⟨(.int .i64),false,t24,[]⟩),(25,.val ⟨(.int .i64),false,v.1,[]⟩)] [(2,⟨y20,a,t2,[.O,.O,.O,.O]⟩),(5,⟨y20,a1,v.2,[.O,.O,.O,.O]⟩)]) k=Z10 (j7o w t23 t24) n v ((λ(k:Z6G Unit)=>(((λ(r1:Int×Int×qS)=>k (.exit 0) (mkS 68 68 [(0,.val ⟨.str,false,s,[]⟩),(2,.ptr ⟨true,2,[]⟩),(4,.val ⟨y9,false,w,[.S]⟩),(5,.ptr ⟨true,5,[]⟩)] [(2,⟨y20,a,t2,[.O,.O,.O,.O]⟩),(5,⟨y20,a1,r1,[.O,.O,.O,.O]⟩)]))):(qP->Res))) k):=Z80 (λv:Int×qP=>(mkS 68 68 [(0,.val ⟨.str,false,s,[]⟩),(2,.ptr ⟨true,2,[]⟩),(4,.val ⟨y9,false,w,[.S]⟩),(5,.ptr ⟨true,5,[]⟩),(23,.val ⟨y9,false,t23,[.O]⟩),(24,.val ⟨(.int .i64),false,t24,[]⟩),(25,.val ⟨(.int .i64),false,v.1,[]⟩)] [(2,⟨y20,a,t2,[.O,.O,.O,.O]⟩),(5,⟨y20,a1,v.2,[.O,.O,.O,.O]⟩)])) (j7o w t23 t24) (λ(k:Z6G Unit)=>(((λ(r1:Int×Int×qS)=>k (.exit 0) (mkS 68 68 [(0,.val ⟨.str,false,s,[]⟩),(2,.ptr ⟨true,2,[]⟩),(4,.val ⟨y9,false,w,[.S]⟩),(5,.ptr ⟨true,5,[]⟩)] [(2,⟨y20,a,t2,[.O,.O,.O,.O]⟩),(5,⟨y20,a1,r1,[.O,.O,.O,.O]⟩)]))):(qP->Res))) (λv rec k=>by kernel_rfl) n v k
theorem jmm {W0:Base} {M:Nat->Prop} (hnp:W0.np<=0):Z1W Tryz.prog W0 M (pl (pr (pl (pr (pr (pr (pr (pr j2S)))))))) j3X:=show Z1W Tryz.prog W0 M (Code.loop (pl (pl (pr (pl (pr (pr (pr (pr (pr j2S)))))))))) j3X from Z8X (Z6Q follows j00 (Z7K (Z8C j2g (Z8C j0S (Z8C j11 (Z8C jcc Z8W))))) hnp [] (pl (pl (pr (pl (pr (pr (pr (pr (pr j2S))))))))) .o trivial) (ks:=[0,2,4,5,23,24,25]) (bs:=[2,5]) (fX:=(Z8a ([],[]) [(0,[0,2,4,5],[2,5])] ([],[]))) (Z8U _ _ _) Z0Y (by
 intro σ k r h
 obtain ⟨hn,h1⟩:=Z8G h
 obtain ⟨s,hs0,h2⟩:=Z8J h1
 obtain ⟨hs2,h3⟩:=Z8H h2
 obtain ⟨w,hs4,h4⟩:=Z8J h3
 obtain ⟨hs5,h5⟩:=Z8H h4
 obtain ⟨t23,hs23,h6⟩:=Z8J h5
 obtain ⟨t24,hs24,h7⟩:=Z8J h6
 obtain ⟨t25,hs25,h8⟩:=Z8J h7
 obtain ⟨a,t2,hb2,h9⟩:=Z8D h8
 obtain ⟨a1,r,hb5,h10⟩:=Z8D h9
 refine ⟨_,?_,(jlz s w t23 t24 a t2 a1 Z0Y (t25,r) k).trans h10⟩
 exact Z9e hn ⟨hs0,hs2,hs4,hs5,hs23,hs24,hs25,trivial⟩ ⟨hb2,hb5,trivial⟩)
noncomputable def j3q (s:qB) (w:qL) (r:Int×Int×qS) (k0:qP->Res):Res:=
 bif (r.1==2) then
  bif decide ((nI (List.length w))>2) then
   bif inb 1 (List.length w) then
    bif Z6R (Z8g (4+(nI (ByteArray.size (nth eS w 1))))) (nI (ByteArray.size s)) (ByteArray.size s) then
     j3D (Z9k s (Z8g (4+(nI (ByteArray.size (nth eS w 1))))) (nI (ByteArray.size s))) λ(r1:qS) (r2:Bool)=>
      k0 (r.1,r.2.1,r1)
    else none
   else none
  else
   k0 r
 else
  k0 r
noncomputable def jc1:Z1l Unit:=λσ k=>rdN σ 68<|rdV σ 0 .str false [] λs=>rdT σ 2 (.ptr ⟨true,2,[]⟩)<|rdV σ 4 y9 false [.S] λw=>rdT σ 5 (.ptr ⟨true,5,[]⟩)<|rdB σ 2 y20 [.O,.O,.O,.O] λa t2=>rdB σ 5 y20 [.O,.O,.O,.O] λa1 r=>j3q s w r (λ(r3:Int×Int×qS)=>k .normal (mkS 68 68 [(0,.val ⟨.str,false,s,[]⟩),(2,.ptr ⟨true,2,[]⟩),(5,.ptr ⟨true,5,[]⟩)] [(2,⟨y20,a,t2,[.O,.O,.O,.O]⟩),(5,⟨y20,a1,r3,[.O,.O,.O,.O]⟩)]))
theorem jlA (s:qB) (w:qL) (a:Bool) (t2:Int×Int×qS) (a1:Bool) (r:Int×Int×qS) (k:Z6G Unit):Z0R jaz [j3X] .o (pl (pr (pr (pr (pr (pr (pr j2S))))))) (mkS 68 68 [(0,.val ⟨.str,false,s,[]⟩),(2,.ptr ⟨true,2,[]⟩),(4,.val ⟨y9,false,w,[.S]⟩),(5,.ptr ⟨true,5,[]⟩)] [(2,⟨y20,a,t2,[.O,.O,.O,.O]⟩),(5,⟨y20,a1,r,[.O,.O,.O,.O]⟩)]) (λe σ=>k e ((Z8a ([0,2,5],[2,5]) [] ([],[])) e σ))=j3q s w r (λ(r3:Int×Int×qS)=>k .normal (mkS 68 68 [(0,.val ⟨.str,false,s,[]⟩),(2,.ptr ⟨true,2,[]⟩),(5,.ptr ⟨true,5,[]⟩)] [(2,⟨y20,a,t2,[.O,.O,.O,.O]⟩),(5,⟨y20,a1,r3,[.O,.O,.O,.O]⟩)])):=by kernel_rfl
theorem jmn {W0:Base} {M:Nat->Prop} (hnp:W0.np<=0):Z1W Tryz.prog W0 M (pl (pr (pr (pr (pr (pr (pr j2S))))))) jc1:=Z91 (Z6Q follows j00 (Z7K (Z8C j2g (Z8C j0S (Z8C j11 (Z8C jcc Z8W))))) hnp [j3X] ((pl (pr (pr (pr (pr (pr (pr j2S)))))))) .o trivial) (fg:=(Z8a ([0,2,5],[2,5]) [] ([],[]))) (Z8U _ _ _) (by
 intro σ k r h
 obtain ⟨hn,h1⟩:=Z8G h
 obtain ⟨s,hs0,h2⟩:=Z8J h1
 obtain ⟨hs2,h3⟩:=Z8H h2
 obtain ⟨w,hs4,h4⟩:=Z8J h3
 obtain ⟨hs5,h5⟩:=Z8H h4
 obtain ⟨a,t2,hb2,h6⟩:=Z8D h5
 obtain ⟨a1,r,hb5,h7⟩:=Z8D h6
 refine ⟨_,?_,(jlA s w a t2 a1 r k).trans h7⟩
 exact Z9e hn ⟨hs0,hs2,hs4,hs5,trivial⟩ ⟨hb2,hb5,trivial⟩)
noncomputable def j5L (s:qB) (k0:qP->Bool->Res):Res:=
 j6X s λ(r:qL)=>
  bif decide ((nI (List.length r))<2) then
   k0 (0,0,0,eS,[],[],0,eS,[],[],eS,eS) false
  else
   bif inb 1 (List.length r) then
    j3p (nth eS r 1) λ(r1:Int) (r2:Bool)=>
     jcS r [eS,j0h,j0W,j0b,j0g] 5 Z0Y 0 (0,r1,0,eS,[],[],0,eS,[],[],eS,eS) λ(r3:Int×Int×qS)=>
      j3q s r r3 λ(r4:Int×Int×qS)=>
       j4e r4 λ(r5:qB)=>
        bif sNe r5 s then
         k0 (0,0,0,eS,[],[],0,eS,[],[],eS,eS) false
        else
         k0 r4 true
   else none
noncomputable def jgJ:Sig Unit:=⟨[.borrow .str false],[true,false],λvals ext k=>av vals .str λs vals=>nl vals<|nl ext<|j5L s (λ(r0:Int×Int×qS) (r1:Bool)=>k [⟨y20,true,r0,[.O,.O,.O,.O]⟩,⟨.bool,false,r1,[]⟩] [] [])⟩
theorem jom (s:qB) (a_s:Bool) (t_s:List Tag) (k:qK):Z6X jaz [j3X,jc1] (.t .o (.t .o (.t .o (.t .o (.t .o (.t (.t .o (.t (.x 0) .o)) (.t (.x 1) .o))))))) false Tryz.f111 [.borrow .str false] [true,false] [⟨.str,a_s,s,t_s⟩] [] k=j5L s (λ(r0:Int×Int×qS) (r1:Bool)=>k [⟨y20,true,r0,[.O,.O,.O,.O]⟩,⟨.bool,false,r1,[]⟩] [] []):=by kernel_rfl
theorem j7K:Z1k Tryz.prog 111 jgJ:=Z8N (Γ:=jaz) (X:=[j3X,jc1]) (ht:=(.t .o (.t .o (.t .o (.t .o (.t .o (.t (.t .o (.t (.x 0) .o)) (.t (.x 1) .o)))))))) (fz:=false) (c:=j2S) follows j00 (Z8C j2g (Z8C j0S (Z8C j11 (Z8C jcc Z8W)))) (Z1A.mk trivial ((Z1A.mk trivial ((Z1A.mk trivial ((Z1A.mk trivial ((Z1A.mk trivial ((Z1A.mk ((Z1A.mk trivial ((Z1A.mk (Z1A.x_mk (λW0 M hnp=>jmm (W0:=W0) (M:=M) hnp)) trivial)))) ((Z1A.mk (Z1A.x_mk (λW0 M hnp=>jmn (W0:=W0) (M:=M) hnp)) trivial))))))))))))) Tryz.func111 (by kernel_rfl) (by kernel_rfl) (by decide) (by
 intro vals ext k r h
 obtain ⟨s,a_s,t_s,vals,rfl,h1⟩:=Z8T h
 obtain ⟨rfl,h2⟩:=Z90 h1
 obtain ⟨rfl,h3⟩:=Z90 h2
 exact (jom s a_s t_s k).trans h3)
noncomputable def jpR:Code:=(Tryz.f108.body).getD .skip
noncomputable def jhD:Env Unit:=⟨tys,[(65,jai)],0⟩
noncomputable def j7a (w:qL) (n_:Int) (k0:qB->Res):Res:=
 bif decide ((nI (List.length w))<=n_) then
  k0 eS
 else
  bif Z6R n_ (nI (List.length w)) (List.length w) then
   j1h (sub w n_ (nI (List.length w))) λ(r:qB)=>
    k0 r
  else none
noncomputable def jee:Sig Unit:=⟨[.look y9 false,.look (.int .i64) false],[false],λvals ext k=>av vals y9 λw vals=>av vals (.int .i64) λn_ vals=>nl vals<|nl ext<|j7a w n_ (λ(r0:qB)=>k [⟨.str,false,r0,[]⟩] [] [])⟩
theorem jpv (w:qL) (a_w:Bool) (t_w:List Tag) (n_:Int) (a_n_:Bool) (t_n_:List Tag) (k:qK):Z6X jhD [] .o false Tryz.f108 [.look y9 false,.look (.int .i64) false] [false] [⟨y9,a_w,w,t_w⟩,⟨(.int .i64),a_n_,n_,t_n_⟩] [] k=j7a w n_ (λ(r0:qB)=>k [⟨.str,false,r0,[]⟩] [] []):=by kernel_rfl
theorem j65:Z1k Tryz.prog 108 jee:=Z8N (Γ:=jhD) (X:=[]) (ht:= .o) (fz:=false) (c:=jpR) follows j00 (Z8C j7I Z8W) trivial Tryz.func108 (by kernel_rfl) (by kernel_rfl) (by decide) (by
 intro vals ext k r h
 obtain ⟨w,a_w,t_w,vals,rfl,h1⟩:=Z8T h
 obtain ⟨n_,a_n_,t_n_,vals,rfl,h2⟩:=Z8T h1
 obtain ⟨rfl,h3⟩:=Z90 h2
 obtain ⟨rfl,h4⟩:=Z90 h3
 exact (jpv w a_w t_w n_ a_n_ t_n_ k).trans h4)
noncomputable def jnf:Code:=(Tryz.f101.body).getD .skip
noncomputable def jfv:Env Unit:=⟨tys,[(153,j9I)],0⟩
noncomputable def j6c (s:qS) (k0:Bool->Res):Res:=
 bif (s.1==0) then
  bif sEq s.2.1 eS then
   bif ((nI (List.length s.2.2.1))==0) then
    bif ((nI (List.length s.2.2.2.1))==0) then
     j15 s.2.2.2.2 (0,eS,[],[],eS,eS) λ(r:Bool)=>
      k0 r
    else
     k0 false
   else
    k0 false
  else
   k0 false
 else
  k0 false
noncomputable def jcJ:Sig Unit:=⟨[.look y18 true],[false],λvals ext k=>av vals y18 λs vals=>nl vals<|nl ext<|j6c s (λ(r0:Bool)=>k [⟨.bool,false,r0,[]⟩] [] [])⟩
theorem jmO (s:qS) (a_s:Bool) (t_s:List Tag) (k:qK):Z6X jfv [] .o false Tryz.f101 [.look y18 true] [false] [⟨y18,a_s,s,t_s⟩] [] k=j6c s (λ(r0:Bool)=>k [⟨.bool,false,r0,[]⟩] [] []):=by kernel_rfl
theorem j9q:Z1k Tryz.prog 101 jcJ:=Z8N (Γ:=jfv) (X:=[]) (ht:= .o) (fz:=false) (c:=jnf) follows j00 (Z8C j9p Z8W) trivial Tryz.func101 (by kernel_rfl) (by kernel_rfl) (by decide) (by
 intro vals ext k r h
 obtain ⟨s,a_s,t_s,vals,rfl,h1⟩:=Z8T h
 obtain ⟨rfl,h2⟩:=Z90 h1
 obtain ⟨rfl,h3⟩:=Z90 h2
 exact (jmO s a_s t_s k).trans h3)
noncomputable def jqz:Code:=(Tryz.f97.body).getD .skip
noncomputable def jiC:Env Unit:=⟨tys,[(58,jed),(101,jcJ),(174,j1H)],0⟩
noncomputable def jcw (r:Int×Int×qS) (k0:Bool->Res):Res:=
 j0O r.1 1 4 λ(r1:Bool)=>
  bif !r1 then
   k0 false
  else
   j0O r.2.1 1 1000000 λ(r2:Bool)=>
    bif !r2 then
     k0 false
    else
     bif (r.1==2) then
      j9b r.2.2 λ(r3:Bool)=>
       k0 r3
     else
      j6c r.2.2 λ(r4:Bool)=>
       k0 r4
noncomputable def jjf:Sig Unit:=⟨[.look y20 true],[false],λvals ext k=>av vals y20 λr vals=>nl vals<|nl ext<|jcw r (λ(r0:Bool)=>k [⟨.bool,false,r0,[]⟩] [] [])⟩
theorem jqc (r:Int×Int×qS) (a_r:Bool) (t_r:List Tag) (k:qK):Z6X jiC [] .o false Tryz.f97 [.look y20 true] [false] [⟨y20,a_r,r,t_r⟩] [] k=jcw r (λ(r0:Bool)=>k [⟨.bool,false,r0,[]⟩] [] []):=by kernel_rfl
theorem jie:Z1k Tryz.prog 97 jjf:=Z8N (Γ:=jiC) (X:=[]) (ht:= .o) (fz:=false) (c:=jqz) follows j00 (Z8C jhv (Z8C j9q (Z8C j0s Z8W))) trivial Tryz.func97 (by kernel_rfl) (by kernel_rfl) (by decide) (by
 intro vals ext k r h
 obtain ⟨r,a_r,t_r,vals,rfl,h1⟩:=Z8T h
 obtain ⟨rfl,h2⟩:=Z90 h1
 obtain ⟨rfl,h3⟩:=Z90 h2
 exact (jqc r a_r t_r k).trans h3)
noncomputable def jar:Code:=(Tryz.f27.body).getD .skip
noncomputable def jdh:Env Unit:=⟨tys,[(12,jcH),(97,jjf),(98,(j1N j0T))],0⟩
noncomputable def j6z (r:Int×Int×qS) (k0:qB->Res):Res:=
 Z6L
  (bif inb (Z8g (r.1-1)) 4 then
   bif lim ((ByteArray.size (nth eS [j0h,j0W,j0b,j0g] (Z8g (r.1-1))))+1) then
    j0T r.2.1 λ(r1:qB)=>
     bif lim ((ByteArray.size ((nth eS [j0h,j0W,j0b,j0g] (Z8g (r.1-1)))++j0e))+(ByteArray.size r1)) then
      k0 (((nth eS [j0h,j0W,j0b,j0g] (Z8g (r.1-1)))++j0e)++r1)
     else none
   else none
  else none)
  (j0T r.2.1 λ(r2:qB)=>
   bif inb (Z8g (r.1-1)) 4 then
    bif lim ((ByteArray.size (nth eS [j0h,j0W,j0b,j0g] (Z8g (r.1-1))))+1) then
     bif lim ((ByteArray.size ((nth eS [j0h,j0W,j0b,j0g] (Z8g (r.1-1)))++j0e))+(ByteArray.size r2)) then
      k0 (((nth eS [j0h,j0W,j0b,j0g] (Z8g (r.1-1)))++j0e)++r2)
     else none
    else none
   else none)
noncomputable def jbS:Z1l Unit:=λσ k=>rdN σ 28<|rdT σ 1 (.ptr ⟨true,1,[]⟩)<|rdB σ 1 y20 [.S,.S,.S,.S] λa r=>j6z r (λ(s:qB)=>k .normal (mkS 28 28 [(1,.ptr ⟨true,1,[]⟩),(3,.val ⟨.str,false,s,[]⟩)] [(1,⟨y20,a,r,[.S,.S,.S,.S]⟩)]))
theorem jl7 (a:Bool) (r:Int×Int×qS) (k:Z6G Unit):Z0R jdh [] .o (pl (pr (pr jar))) (mkS 28 28 [(1,.ptr ⟨true,1,[]⟩)] [(1,⟨y20,a,r,[.S,.S,.S,.S]⟩)]) (λe σ=>k e ((Z8a ([1,3],[1]) [] ([],[])) e σ))=j6z r (λ(s:qB)=>k .normal (mkS 28 28 [(1,.ptr ⟨true,1,[]⟩),(3,.val ⟨.str,false,s,[]⟩)] [(1,⟨y20,a,r,[.S,.S,.S,.S]⟩)])):=by kernel_rfl
theorem jlU {W0:Base} {M:Nat->Prop} (hnp:W0.np<=0):Z1W Tryz.prog W0 M (pl (pr (pr jar))) jbS:=Z91 (Z6Q follows j00 (Z7K (Z8C j9o (Z8C jie (Z8C j1c Z8W)))) hnp [] ((pl (pr (pr jar)))) .o trivial) (fg:=(Z8a ([1,3],[1]) [] ([],[]))) (Z8U _ _ _) (by
 intro σ k r h
 obtain ⟨hn,h1⟩:=Z8G h
 obtain ⟨hs1,h2⟩:=Z8H h1
 obtain ⟨a,r,hb1,h3⟩:=Z8D h2
 refine ⟨_,?_,(jl7 a r k).trans h3⟩
 exact Z9e hn ⟨hs1,trivial⟩ ⟨hb1,trivial⟩)
noncomputable def j82 (r:Int×Int×qS) (k0:qB->Res):Res:=
 jcw r λ(r1:Bool)=>
  bif !r1 then
   k0 eS
  else
   j6z r λ(s:qB)=>
    bif (r.1==2) then
     bif lim ((ByteArray.size s)+1) then
      j4y r.2.2 λ(r2:qB)=>
       bif lim ((ByteArray.size (s++j0e))+(ByteArray.size r2)) then
        k0 ((s++j0e)++r2)
       else none
     else none
    else
     k0 s
noncomputable def jdz:Sig Unit:=⟨[.look y20 true],[false],λvals ext k=>av vals y20 λr vals=>nl vals<|nl ext<|j82 r (λ(r0:qB)=>k [⟨.str,false,r0,[]⟩] [] [])⟩
theorem jo6 (r:Int×Int×qS) (a_r:Bool) (t_r:List Tag) (k:qK):Z6X jdh [jbS] (.t .o (.t .o (.t (.x 0) .o))) false Tryz.f27 [.look y20 true] [false] [⟨y20,a_r,r,t_r⟩] [] k=j82 r (λ(r0:qB)=>k [⟨.str,false,r0,[]⟩] [] []):=by kernel_rfl
theorem j7H:Z1k Tryz.prog 27 jdz:=Z8N (Γ:=jdh) (X:=[jbS]) (ht:=(.t .o (.t .o (.t (.x 0) .o)))) (fz:=false) (c:=jar) follows j00 (Z8C j9o (Z8C jie (Z8C j1c Z8W))) (Z1A.mk trivial ((Z1A.mk trivial ((Z1A.mk (Z1A.x_mk (λW0 M hnp=>jlU (W0:=W0) (M:=M) hnp)) trivial))))) Tryz.func27 (by kernel_rfl) (by kernel_rfl) (by decide) (by
 intro vals ext k r h
 obtain ⟨r,a_r,t_r,vals,rfl,h1⟩:=Z8T h
 obtain ⟨rfl,h2⟩:=Z90 h1
 obtain ⟨rfl,h3⟩:=Z90 h2
 exact (jo6 r a_r t_r k).trans h3)
noncomputable def jas:Code:=(Tryz.f31.body).getD .skip
noncomputable def jdi:Env Unit:=⟨tys,[(15,jfK),(27,jdz),(79,jah),(81,j2Y),(107,jaJ),(108,jee)],0⟩
noncomputable def j6C (w:qL) (t29:Bool) (r:Int×Int×qS) (k0:qP->Res):Res:=
 bif t29 then
  j7a w 2 λ(r1:qB)=>
   j68 r1 λ(r2:qS) (r3:Bool)=>
    k0 (r.1,r.2.1,r2)
 else
  k0 r
noncomputable def jbV:Z1l Unit:=λσ k=>rdN σ 43<|rdV σ 0 .str false [] λs=>rdT σ 2 (.ptr ⟨true,2,[]⟩)<|rdV σ 4 y9 false [.S] λw=>rdT σ 5 (.ptr ⟨true,5,[]⟩)<|rdV σ 29 .bool false [] λt29=>rdB σ 2 y20 [.O,.O,.O,.O] λa t2=>rdB σ 5 y20 [.O,.O,.O,.O] λa1 r=>j6C w t29 r (λ(r4:Int×Int×qS)=>k .normal (mkS 43 43 [(0,.val ⟨.str,false,s,[]⟩),(2,.ptr ⟨true,2,[]⟩),(5,.ptr ⟨true,5,[]⟩)] [(2,⟨y20,a,t2,[.O,.O,.O,.O]⟩),(5,⟨y20,a1,r4,[.O,.O,.O,.O]⟩)]))
theorem jlf (s:qB) (w:qL) (t29:Bool) (a:Bool) (t2:Int×Int×qS) (a1:Bool) (r:Int×Int×qS) (k:Z6G Unit):Z0R jdi [] .o (pr (pl (pr (pr (pr (pr (pr jas))))))) (mkS 43 43 [(0,.val ⟨.str,false,s,[]⟩),(2,.ptr ⟨true,2,[]⟩),(4,.val ⟨y9,false,w,[.S]⟩),(5,.ptr ⟨true,5,[]⟩),(29,.val ⟨.bool,false,t29,[]⟩)] [(2,⟨y20,a,t2,[.O,.O,.O,.O]⟩),(5,⟨y20,a1,r,[.O,.O,.O,.O]⟩)]) (λe σ=>k e ((Z8a ([0,2,5],[2,5]) [] ([],[])) e σ))=j6C w t29 r (λ(r4:Int×Int×qS)=>k .normal (mkS 43 43 [(0,.val ⟨.str,false,s,[]⟩),(2,.ptr ⟨true,2,[]⟩),(5,.ptr ⟨true,5,[]⟩)] [(2,⟨y20,a,t2,[.O,.O,.O,.O]⟩),(5,⟨y20,a1,r4,[.O,.O,.O,.O]⟩)])):=by kernel_rfl
theorem jm2 {W0:Base} {M:Nat->Prop} (hnp:W0.np<=0):Z1W Tryz.prog W0 M (pr (pl (pr (pr (pr (pr (pr jas))))))) jbV:=Z91 (Z6Q follows j00 (Z7K (Z8C jfi (Z8C j7H (Z8C j22 (Z8C j0C (Z8C j1J (Z8C j65 Z8W))))))) hnp [] ((pr (pl (pr (pr (pr (pr (pr jas)))))))) .o trivial) (fg:=(Z8a ([0,2,5],[2,5]) [] ([],[]))) (Z8U _ _ _) (by
 intro σ k r h
 obtain ⟨hn,h1⟩:=Z8G h
 obtain ⟨s,hs0,h2⟩:=Z8J h1
 obtain ⟨hs2,h3⟩:=Z8H h2
 obtain ⟨w,hs4,h4⟩:=Z8J h3
 obtain ⟨hs5,h5⟩:=Z8H h4
 obtain ⟨t29,hs29,h6⟩:=Z8J h5
 obtain ⟨a,t2,hb2,h7⟩:=Z8D h6
 obtain ⟨a1,r,hb5,h8⟩:=Z8D h7
 refine ⟨_,?_,(jlf s w t29 a t2 a1 r k).trans h8⟩
 exact Z9e hn ⟨hs0,hs2,hs4,hs5,hs29,trivial⟩ ⟨hb2,hb5,trivial⟩)
noncomputable def jac (s:qB) (k0:qP->Bool->Res):Res:=
 j6G s λ(r:qL)=>
  bif decide ((nI (List.length r))<2) then
   k0 (0,0,0,eS,[],[],0,eS,[],[],eS,eS) false
  else
   bif inb 0 (List.length r) then
    j0P [j0h,j0W,j0b,j0g] (nth eS r 0) λ(r1:Int)=>
     bif inb 1 (List.length r) then
      j3g (nth eS r 1) λ(r2:Int) (r3:Bool)=>
       j6C r ((Z8g (1+r1))==2) (Z8g (1+r1),r2,0,eS,[],[],0,eS,[],[],eS,eS) λ(r4:Int×Int×qS)=>
        j82 r4 λ(r5:qB)=>
         bif sNe r5 s then
          k0 (0,0,0,eS,[],[],0,eS,[],[],eS,eS) false
         else
          k0 r4 true
     else none
   else none
noncomputable def jgD:Sig Unit:=⟨[.borrow .str false],[true,false],λvals ext k=>av vals .str λs vals=>nl vals<|nl ext<|jac s (λ(r0:Int×Int×qS) (r1:Bool)=>k [⟨y20,true,r0,[.O,.O,.O,.O]⟩,⟨.bool,false,r1,[]⟩] [] [])⟩
theorem joa (s:qB) (a_s:Bool) (t_s:List Tag) (k:qK):Z6X jdi [jbV] (.t .o (.t .o (.t .o (.t .o (.t .o (.t (.t .o (.x 0)) .o)))))) false Tryz.f31 [.borrow .str false] [true,false] [⟨.str,a_s,s,t_s⟩] [] k=jac s (λ(r0:Int×Int×qS) (r1:Bool)=>k [⟨y20,true,r0,[.O,.O,.O,.O]⟩,⟨.bool,false,r1,[]⟩] [] []):=by kernel_rfl
theorem jap:Z1k Tryz.prog 31 jgD:=Z8N (Γ:=jdi) (X:=[jbV]) (ht:=(.t .o (.t .o (.t .o (.t .o (.t .o (.t (.t .o (.x 0)) .o))))))) (fz:=false) (c:=jas) follows j00 (Z8C jfi (Z8C j7H (Z8C j22 (Z8C j0C (Z8C j1J (Z8C j65 Z8W)))))) (Z1A.mk trivial ((Z1A.mk trivial ((Z1A.mk trivial ((Z1A.mk trivial ((Z1A.mk trivial ((Z1A.mk ((Z1A.mk trivial (Z1A.x_mk (λW0 M hnp=>jm2 (W0:=W0) (M:=M) hnp)))) trivial))))))))))) Tryz.func31 (by kernel_rfl) (by kernel_rfl) (by decide) (by
 intro vals ext k r h
 obtain ⟨s,a_s,t_s,vals,rfl,h1⟩:=Z8T h
 obtain ⟨rfl,h2⟩:=Z90 h1
 obtain ⟨rfl,h3⟩:=Z90 h2
 exact (joa s a_s t_s k).trans h3)
end Go.PI.G
