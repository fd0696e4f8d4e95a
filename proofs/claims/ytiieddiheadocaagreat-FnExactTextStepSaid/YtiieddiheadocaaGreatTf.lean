/-
  Program's code interpreted over typed values; printed texts; plain laws. No conditions.
-/
import Derived.Test.YtiieddiheadocaaGreatTa
import Derived.Test.YtiieddiheadocaaGreatTc
import Derived.Test.YtiieddiheadocaaGreatTb
import Derived.Test.YtiieddiheadocaaGreatTd
import Derived.Test.YtiieddiheadocaaGreatTe
set_option linter.unusedVariables false
set_option maxRecDepth 100000
namespace Go.PI.G
open Go Go.PI Go.Proofs
open Go.Code (pl pr)
noncomputable def jjO:Code:=(Tryz.f102.body).getD .skip
noncomputable def jdY:Env Unit:=⟨tys,[(70,jc4)],0⟩
noncomputable def j4Y (s:qS) (k0:Bool->Res):Res:=
 bif (s.1==0) then
  bif sEq s.2.1 eS then
   bif ((nI (List.length s.2.2.1))==0) then
    bif ((nI (List.length s.2.2.2.1))==0) then
     j2s s.2.2.2.2 λ(r:Bool)=>
      k0 r
    else
     k0 false
   else
    k0 false
  else
   k0 false
 else
  k0 false
noncomputable def jb5:Sig Unit:=⟨[.look y18 true],[false],λvals ext k=>av vals y18 λs vals=>nl vals<|nl ext<|j4Y s (λ(r0:Bool)=>k [⟨.bool,false,r0,[]⟩] [] [])⟩
theorem jjI (s:qS) (a_s:Bool) (t_s:List Tag) (k:qK):Z6X jdY [] .o false Tryz.f102 [.look y18 true] [false] [⟨y18,a_s,s,t_s⟩] [] k=j4Y s (λ(r0:Bool)=>k [⟨.bool,false,r0,[]⟩] [] []):=by kernel_rfl
theorem jaT:Z1k Tryz.prog 102 jb5:=Z8N (Γ:=jdY) (X:=[]) (ht:= .o) (fz:=false) (c:=jjO) follows j01 (Z8C jbu Z8W) trivial Tryz.func102 (by kernel_rfl) (by kernel_rfl) (by decide) (by
 intro vals ext k r h
 obtain ⟨s,a_s,t_s,vals,rfl,h1⟩:=Z8T h
 obtain ⟨rfl,h2⟩:=Z90 h1
 obtain ⟨rfl,h3⟩:=Z90 h2
 exact (jjI s a_s t_s k).trans h3)
noncomputable def jbx:Code:=(Tryz.f29.body).getD .skip
noncomputable def jdW:Env Unit:=⟨tys,[(13,jdt),(102,jb5)],0⟩
noncomputable def jaR (r:Int×Int×qS) (k0:Bool->Res):Res:=
 bif decide (r.1<1) then
  k0 true
 else
  bif decide (r.1>4) then
   k0 true
  else
   bif decide (r.2.1<1) then
    k0 true
   else
    k0 (decide (r.2.1>1000000))
noncomputable def jcY:Z1l Unit:=λσ k=>rdN σ 30<|rdT σ 1 (.ptr ⟨true,1,[]⟩)<|rdB σ 1 y20 [.S,.S,.S,.S] λa r=>jaR r (λ(t20:Bool)=>k .normal (mkS 30 30 [(1,.ptr ⟨true,1,[]⟩),(20,.val ⟨.bool,false,t20,[]⟩)] [(1,⟨y20,a,r,[.S,.S,.S,.S]⟩)]))
theorem jo3 (a:Bool) (r:Int×Int×qS) (k:Z6G Unit):Z0R jdW [] .o (pl (pl (pr jbx))) (mkS 30 30 [(1,.ptr ⟨true,1,[]⟩)] [(1,⟨y20,a,r,[.S,.S,.S,.S]⟩)]) (λe σ=>k e ((Z8a ([1,20],[1]) [] ([],[])) e σ))=jaR r (λ(t20:Bool)=>k .normal (mkS 30 30 [(1,.ptr ⟨true,1,[]⟩),(20,.val ⟨.bool,false,t20,[]⟩)] [(1,⟨y20,a,r,[.S,.S,.S,.S]⟩)])):=by kernel_rfl
theorem joi {W0:Base} {M:Nat->Prop} (hnp:W0.np<=0):Z1W Tryz.prog W0 M (pl (pl (pr jbx))) jcY:=Z91 (Z6Q follows j01 (Z7K (Z8C jaI (Z8C jaT Z8W))) hnp [] ((pl (pl (pr jbx)))) .o trivial) (fg:=(Z8a ([1,20],[1]) [] ([],[]))) (Z8U _ _ _) (by
 intro σ k r h
 obtain ⟨hn,h1⟩:=Z8G h
 obtain ⟨hs1,h2⟩:=Z8H h1
 obtain ⟨a,r,hb1,h3⟩:=Z8D h2
 refine ⟨_,?_,(jo3 a r k).trans h3⟩
 exact Z9e hn ⟨hs1,trivial⟩ ⟨hb1,trivial⟩)
noncomputable def jc7 (r:Int×Int×qS) (k0:Bool->Res):Res:=
 jaR r λ(t:Bool)=>
  bif t then
   k0 false
  else
   bif (r.1==2) then
    j8A r.2.2 λ(r1:Bool)=>
     k0 r1
   else
    j4Y r.2.2 λ(r2:Bool)=>
     k0 r2
noncomputable def jii:Sig Unit:=⟨[.look y20 true],[false],λvals ext k=>av vals y20 λr vals=>nl vals<|nl ext<|jc7 r (λ(r0:Bool)=>k [⟨.bool,false,r0,[]⟩] [] [])⟩
theorem jpN (r:Int×Int×qS) (a_r:Bool) (t_r:List Tag) (k:qK):Z6X jdW [jcY] (.t .o (.t (.t (.x 0) .o) .o)) false Tryz.f29 [.look y20 true] [false] [⟨y20,a_r,r,t_r⟩] [] k=jc7 r (λ(r0:Bool)=>k [⟨.bool,false,r0,[]⟩] [] []):=by kernel_rfl
theorem jhB:Z1k Tryz.prog 29 jii:=Z8N (Γ:=jdW) (X:=[jcY]) (ht:=(.t .o (.t (.t (.x 0) .o) .o))) (fz:=false) (c:=jbx) follows j01 (Z8C jaI (Z8C jaT Z8W)) (Z1A.mk trivial ((Z1A.mk ((Z1A.mk (Z1A.x_mk (λW0 M hnp=>joi (W0:=W0) (M:=M) hnp)) trivial)) trivial))) Tryz.func29 (by kernel_rfl) (by kernel_rfl) (by decide) (by
 intro vals ext k r h
 obtain ⟨r,a_r,t_r,vals,rfl,h1⟩:=Z8T h
 obtain ⟨rfl,h2⟩:=Z90 h1
 obtain ⟨rfl,h3⟩:=Z90 h2
 exact (jpN r a_r t_r k).trans h3)
noncomputable def j9R:Code:=(Tryz.f103.body).getD .skip
noncomputable def jcC:Env Unit:=⟨tys,[(29,jii),(175,(j2b j0P)),(176,jc2)],0⟩
noncomputable def j6g (r:Int×Int×qS) (k0:qB->Res):Res:=
 Z6L
  (bif inb r.1 5 then
   bif lim ((ByteArray.size (nth eS [eS,j0i,j0R,j09,j0h] r.1))+1) then
    j0P r.2.1 λ(r1:qB)=>
     bif lim ((ByteArray.size ((nth eS [eS,j0i,j0R,j09,j0h] r.1)++j0c))+(ByteArray.size r1)) then
      k0 (((nth eS [eS,j0i,j0R,j09,j0h] r.1)++j0c)++r1)
     else none
   else none
  else none)
  (j0P r.2.1 λ(r2:qB)=>
   bif inb r.1 5 then
    bif lim ((ByteArray.size (nth eS [eS,j0i,j0R,j09,j0h] r.1))+1) then
     bif lim ((ByteArray.size ((nth eS [eS,j0i,j0R,j09,j0h] r.1)++j0c))+(ByteArray.size r2)) then
      k0 (((nth eS [eS,j0i,j0R,j09,j0h] r.1)++j0c)++r2)
     else none
    else none
   else none)
noncomputable def jbf:Z1l Unit:=λσ k=>rdN σ 27<|rdT σ 1 (.ptr ⟨true,1,[]⟩)<|rdB σ 1 y20 [.S,.S,.S,.S] λa r=>j6g r (λ(out:qB)=>k .normal (mkS 27 27 [(1,.ptr ⟨true,1,[]⟩),(3,.val ⟨.str,false,out,[]⟩)] [(1,⟨y20,a,r,[.S,.S,.S,.S]⟩)]))
theorem jka (a:Bool) (r:Int×Int×qS) (k:Z6G Unit):Z0R jcC [] .o (pl (pr (pr j9R))) (mkS 27 27 [(1,.ptr ⟨true,1,[]⟩)] [(1,⟨y20,a,r,[.S,.S,.S,.S]⟩)]) (λe σ=>k e ((Z8a ([1,3],[1]) [] ([],[])) e σ))=j6g r (λ(out:qB)=>k .normal (mkS 27 27 [(1,.ptr ⟨true,1,[]⟩),(3,.val ⟨.str,false,out,[]⟩)] [(1,⟨y20,a,r,[.S,.S,.S,.S]⟩)])):=by kernel_rfl
theorem jkX {W0:Base} {M:Nat->Prop} (hnp:W0.np<=0):Z1W Tryz.prog W0 M (pl (pr (pr j9R))) jbf:=Z91 (Z6Q follows j01 (Z7K (Z8C jhB (Z8C j1E (Z8C j8L Z8W)))) hnp [] ((pl (pr (pr j9R)))) .o trivial) (fg:=(Z8a ([1,3],[1]) [] ([],[]))) (Z8U _ _ _) (by
 intro σ k r h
 obtain ⟨hn,h1⟩:=Z8G h
 obtain ⟨hs1,h2⟩:=Z8H h1
 obtain ⟨a,r,hb1,h3⟩:=Z8D h2
 refine ⟨_,?_,(jka a r k).trans h3⟩
 exact Z9e hn ⟨hs1,trivial⟩ ⟨hb1,trivial⟩)
noncomputable def j44 (r:Int×Int×qS) (k0:qB->Res):Res:=
 jc7 r λ(r1:Bool)=>
  bif !r1 then
   k0 eS
  else
   j6g r λ(out:qB)=>
    bif (r.1==2) then
     bif lim ((ByteArray.size out)+1) then
      j5J r.2.2 λ(r2:qB)=>
       bif lim ((ByteArray.size (out++j0c))+(ByteArray.size r2)) then
        k0 ((out++j0c)++r2)
       else none
     else none
    else
     k0 out
noncomputable def jcS:Sig Unit:=⟨[.look y20 true],[false],λvals ext k=>av vals y20 λr vals=>nl vals<|nl ext<|j44 r (λ(r0:qB)=>k [⟨.str,false,r0,[]⟩] [] [])⟩
theorem jno (r:Int×Int×qS) (a_r:Bool) (t_r:List Tag) (k:qK):Z6X jcC [jbf] (.t .o (.t .o (.t (.x 0) .o))) false Tryz.f103 [.look y20 true] [false] [⟨y20,a_r,r,t_r⟩] [] k=j44 r (λ(r0:qB)=>k [⟨.str,false,r0,[]⟩] [] []):=by kernel_rfl
theorem j27:Z1k Tryz.prog 103 jcS:=Z8N (Γ:=jcC) (X:=[jbf]) (ht:=(.t .o (.t .o (.t (.x 0) .o)))) (fz:=false) (c:=j9R) follows j01 (Z8C jhB (Z8C j1E (Z8C j8L Z8W))) (Z1A.mk trivial ((Z1A.mk trivial ((Z1A.mk (Z1A.x_mk (λW0 M hnp=>jkX (W0:=W0) (M:=M) hnp)) trivial))))) Tryz.func103 (by kernel_rfl) (by kernel_rfl) (by decide) (by
 intro vals ext k r h
 obtain ⟨r,a_r,t_r,vals,rfl,h1⟩:=Z8T h
 obtain ⟨rfl,h2⟩:=Z90 h1
 obtain ⟨rfl,h3⟩:=Z90 h2
 exact (jno r a_r t_r k).trans h3)
noncomputable def j2K:Code:=(Tryz.f111.body).getD .skip
noncomputable def j9W:Env Unit:=⟨tys,[(103,jcS),(109,j9H),(110,ja9),(178,jf9)],0⟩
noncomputable def j4v (w:qL) (t23:qL) (t24:Int) (t25:Int) (r:Int×Int×qS) (rec:Int->qP->Res) (k0:qP->Res):Res:=
 bif decide (t25<t24) then
  bif inb t25 (List.length t23) then
   bif decide (t25>0) then
    bif inb 0 (List.length w) then
     bif sEq (nth eS t23 t25) (nth eS w 0) then
      rec (Z8g (t25+1)) (t25,r.2)
     else
      rec (Z8g (t25+1)) r
    else none
   else
    rec (Z8g (t25+1)) r
  else none
 else
  k0 r
noncomputable def j6M (w:qL) (t23:qL) (t24:Int):(Int×qP)->(Int×qP->Res)->((qP->Res))->Res:=λv rec q=>j4v w t23 t24 v.1 v.2 (λt25 r=>rec (t25,r)) q
noncomputable def jc9 (w:qL) (t23:qL) (t24:Int) (n:Nat) (t25:Int) (r:Int×Int×qS) (k0:qP->Res):Res:=Z10 (j6M w t23 t24) n (t25,r) (k0)
noncomputable def j3N:Z1l Unit:=λσ k=>rdN σ 68<|rdV σ 0 .str false [] λs=>rdT σ 2 (.ptr ⟨true,2,[]⟩)<|rdV σ 4 y9 false [.S] λw=>rdT σ 5 (.ptr ⟨true,5,[]⟩)<|rdV σ 23 y9 false [.O] λt23=>rdV σ 24 (.int .i64) false [] λt24=>rdV σ 25 (.int .i64) false [] λt25=>rdB σ 2 y20 [.O,.O,.O,.O] λa t2=>rdB σ 5 y20 [.O,.O,.O,.O] λa1 r=>jc9 w t23 t24 Z0Y t25 r (λ(r1:Int×Int×qS)=>k (.exit 0) (mkS 68 68 [(0,.val ⟨.str,false,s,[]⟩),(2,.ptr ⟨true,2,[]⟩),(4,.val ⟨y9,false,w,[.S]⟩),(5,.ptr ⟨true,5,[]⟩)] [(2,⟨y20,a,t2,[.O,.O,.O,.O]⟩),(5,⟨y20,a1,r1,[.O,.O,.O,.O]⟩)]))
theorem jkm (s:qB) (w:qL) (t23:qL) (t24:Int) (a:Bool) (t2:Int×Int×qS) (a1:Bool) (n:Nat) (v:Int×qP) (k:Z6G Unit):Z3X (Z0R j9W [] .o (pl (pl (pr (pl (pr (pr (pr (pr (pr j2K)))))))))) (λσ=>σ.forget [0,2,4,5,23,24,25] [2,5]) (Z8a ([],[]) [(0,[0,2,4,5],[2,5])] ([],[])) n (mkS 68 68 [(0,.val ⟨.str,false,s,[]⟩),(2,.ptr ⟨true,2,[]⟩),(4,.val ⟨y9,false,w,[.S]⟩),(5,.ptr ⟨true,5,[]⟩),(23,.val ⟨y9,false,t23,[.O]⟩),(24,.val ⟨(.int .i64),false,t24,[]⟩),(25,.val ⟨(.int .i64),false,v.1,[]⟩)] [(2,⟨y20,a,t2,[.O,.O,.O,.O]⟩),(5,⟨y20,a1,v.2,[.O,.O,.O,.O]⟩)]) k=Z10 (j6M w t23 t24) n v ((λ(k:Z6G Unit)=>(((λ(r1:Int×Int×qS)=>k (.exit 0) (mkS 68 68 [(0,.val ⟨.str,false,s,[]⟩),(2,.ptr ⟨true,2,[]⟩),(4,.val ⟨y9,false,w,[.S]⟩),(5,.ptr ⟨true,5,[]⟩)] [(2,⟨y20,a,t2,[.O,.O,.O,.O]⟩),(5,⟨y20,a1,r1,[.O,.O,.O,.O]⟩)]))):(qP->Res))) k):=Z80 (λv:Int×qP=>(mkS 68 68 [(0,.val ⟨.str,false,s,[]⟩),(2,.ptr ⟨true,2,[]⟩),(4,.val ⟨y9,false,w,[.S]⟩),(5,.ptr ⟨true,5,[]⟩),(23,.val ⟨y9,false,t23,[.O]⟩),(24,.val ⟨(.int .i64),false,t24,[]⟩),(25,.val ⟨(.int .i64),false,v.1,[]⟩)] [(2,⟨y20,a,t2,[.O,.O,.O,.O]⟩),(5,⟨y20,a1,v.2,[.O,.O,.O,.O]⟩)])) (j6M w t23 t24) (λ(k:Z6G Unit)=>(((λ(r1:Int×Int×qS)=>k (.exit 0) (mkS 68 68 [(0,.val ⟨.str,false,s,[]⟩),(2,.ptr ⟨true,2,[]⟩),(4,.val ⟨y9,false,w,[.S]⟩),(5,.ptr ⟨true,5,[]⟩)] [(2,⟨y20,a,t2,[.O,.O,.O,.O]⟩),(5,⟨y20,a1,r1,[.O,.O,.O,.O]⟩)]))):(qP->Res))) (λv rec k=>by kernel_rfl) n v k
theorem jl9 {W0:Base} {M:Nat->Prop} (hnp:W0.np<=0):Z1W Tryz.prog W0 M (pl (pr (pl (pr (pr (pr (pr (pr j2K)))))))) j3N:=show Z1W Tryz.prog W0 M (Code.loop (pl (pl (pr (pl (pr (pr (pr (pr (pr j2K)))))))))) j3N from Z8X (Z6Q follows j01 (Z7K (Z8C j27 (Z8C j0N (Z8C j0W (Z8C jbt Z8W))))) hnp [] (pl (pl (pr (pl (pr (pr (pr (pr (pr j2K))))))))) .o trivial) (ks:=[0,2,4,5,23,24,25]) (bs:=[2,5]) (fX:=(Z8a ([],[]) [(0,[0,2,4,5],[2,5])] ([],[]))) (Z8U _ _ _) Z0Y (by
 intro σ k r h
 obtain ⟨hn,h1⟩:=Z8G h
 obtain ⟨s,hs0,h2⟩:=Z8J h1
 obtain ⟨hs2,h3⟩:=Z8H h2
 obtain ⟨w,hs4,h4⟩:=Z8J h3
 obtain ⟨hs5,h5⟩:=Z8H h4
 obtain ⟨t23,hs23,h6⟩:=Z8J h5
 obtain ⟨t24,hs24,h7⟩:=Z8J h6
 obtain ⟨t25,hs25,h8⟩:=Z8J h7
 obtain ⟨a,t2,hb2,h9⟩:=Z8D h8
 obtain ⟨a1,r,hb5,h10⟩:=Z8D h9
 refine ⟨_,?_,(jkm s w t23 t24 a t2 a1 Z0Y (t25,r) k).trans h10⟩
 exact Z9e hn ⟨hs0,hs2,hs4,hs5,hs23,hs24,hs25,trivial⟩ ⟨hb2,hb5,trivial⟩)
noncomputable def j3e (s:qB) (w:qL) (r:Int×Int×qS) (k0:qP->Res):Res:=
 bif (r.1==2) then
  bif decide ((nI (List.length w))>2) then
   bif inb 1 (List.length w) then
    bif Z6R (Z8g (4+(nI (ByteArray.size (nth eS w 1))))) (nI (ByteArray.size s)) (ByteArray.size s) then
     j3r (Z9k s (Z8g (4+(nI (ByteArray.size (nth eS w 1))))) (nI (ByteArray.size s))) λ(r1:qS) (r2:Bool)=>
      k0 (r.1,r.2.1,r1)
    else none
   else none
  else
   k0 r
 else
  k0 r
noncomputable def jbi:Z1l Unit:=λσ k=>rdN σ 68<|rdV σ 0 .str false [] λs=>rdT σ 2 (.ptr ⟨true,2,[]⟩)<|rdV σ 4 y9 false [.S] λw=>rdT σ 5 (.ptr ⟨true,5,[]⟩)<|rdB σ 2 y20 [.O,.O,.O,.O] λa t2=>rdB σ 5 y20 [.O,.O,.O,.O] λa1 r=>j3e s w r (λ(r3:Int×Int×qS)=>k .normal (mkS 68 68 [(0,.val ⟨.str,false,s,[]⟩),(2,.ptr ⟨true,2,[]⟩),(5,.ptr ⟨true,5,[]⟩)] [(2,⟨y20,a,t2,[.O,.O,.O,.O]⟩),(5,⟨y20,a1,r3,[.O,.O,.O,.O]⟩)]))
theorem jkn (s:qB) (w:qL) (a:Bool) (t2:Int×Int×qS) (a1:Bool) (r:Int×Int×qS) (k:Z6G Unit):Z0R j9W [j3N] .o (pl (pr (pr (pr (pr (pr (pr j2K))))))) (mkS 68 68 [(0,.val ⟨.str,false,s,[]⟩),(2,.ptr ⟨true,2,[]⟩),(4,.val ⟨y9,false,w,[.S]⟩),(5,.ptr ⟨true,5,[]⟩)] [(2,⟨y20,a,t2,[.O,.O,.O,.O]⟩),(5,⟨y20,a1,r,[.O,.O,.O,.O]⟩)]) (λe σ=>k e ((Z8a ([0,2,5],[2,5]) [] ([],[])) e σ))=j3e s w r (λ(r3:Int×Int×qS)=>k .normal (mkS 68 68 [(0,.val ⟨.str,false,s,[]⟩),(2,.ptr ⟨true,2,[]⟩),(5,.ptr ⟨true,5,[]⟩)] [(2,⟨y20,a,t2,[.O,.O,.O,.O]⟩),(5,⟨y20,a1,r3,[.O,.O,.O,.O]⟩)])):=by kernel_rfl
theorem jla {W0:Base} {M:Nat->Prop} (hnp:W0.np<=0):Z1W Tryz.prog W0 M (pl (pr (pr (pr (pr (pr (pr j2K))))))) jbi:=Z91 (Z6Q follows j01 (Z7K (Z8C j27 (Z8C j0N (Z8C j0W (Z8C jbt Z8W))))) hnp [j3N] ((pl (pr (pr (pr (pr (pr (pr j2K)))))))) .o trivial) (fg:=(Z8a ([0,2,5],[2,5]) [] ([],[]))) (Z8U _ _ _) (by
 intro σ k r h
 obtain ⟨hn,h1⟩:=Z8G h
 obtain ⟨s,hs0,h2⟩:=Z8J h1
 obtain ⟨hs2,h3⟩:=Z8H h2
 obtain ⟨w,hs4,h4⟩:=Z8J h3
 obtain ⟨hs5,h5⟩:=Z8H h4
 obtain ⟨a,t2,hb2,h6⟩:=Z8D h5
 obtain ⟨a1,r,hb5,h7⟩:=Z8D h6
 refine ⟨_,?_,(jkn s w a t2 a1 r k).trans h7⟩
 exact Z9e hn ⟨hs0,hs2,hs4,hs5,trivial⟩ ⟨hb2,hb5,trivial⟩)
noncomputable def j5g (s:qB) (k0:qP->Bool->Res):Res:=
 j6l s λ(r:qL)=>
  bif decide ((nI (List.length r))<2) then
   k0 (0,0,0,eS,[],[],0,eS,[],[],eS,eS) false
  else
   bif inb 1 (List.length r) then
    j3d (nth eS r 1) λ(r1:Int) (r2:Bool)=>
     jc9 r [eS,j0i,j0R,j09,j0h] 5 Z0Y 0 (0,r1,0,eS,[],[],0,eS,[],[],eS,eS) λ(r3:Int×Int×qS)=>
      j3e s r r3 λ(r4:Int×Int×qS)=>
       j44 r4 λ(r5:qB)=>
        bif sNe r5 s then
         k0 (0,0,0,eS,[],[],0,eS,[],[],eS,eS) false
        else
         k0 r4 true
   else none
noncomputable def jgb:Sig Unit:=⟨[.borrow .str false],[true,false],λvals ext k=>av vals .str λs vals=>nl vals<|nl ext<|j5g s (λ(r0:Int×Int×qS) (r1:Bool)=>k [⟨y20,true,r0,[.O,.O,.O,.O]⟩,⟨.bool,false,r1,[]⟩] [] [])⟩
theorem jns (s:qB) (a_s:Bool) (t_s:List Tag) (k:qK):Z6X j9W [j3N,jbi] (.t .o (.t .o (.t .o (.t .o (.t .o (.t (.t .o (.t (.x 0) .o)) (.t (.x 1) .o))))))) false Tryz.f111 [.borrow .str false] [true,false] [⟨.str,a_s,s,t_s⟩] [] k=j5g s (λ(r0:Int×Int×qS) (r1:Bool)=>k [⟨y20,true,r0,[.O,.O,.O,.O]⟩,⟨.bool,false,r1,[]⟩] [] []):=by kernel_rfl
theorem j77:Z1k Tryz.prog 111 jgb:=Z8N (Γ:=j9W) (X:=[j3N,jbi]) (ht:=(.t .o (.t .o (.t .o (.t .o (.t .o (.t (.t .o (.t (.x 0) .o)) (.t (.x 1) .o)))))))) (fz:=false) (c:=j2K) follows j01 (Z8C j27 (Z8C j0N (Z8C j0W (Z8C jbt Z8W)))) (Z1A.mk trivial ((Z1A.mk trivial ((Z1A.mk trivial ((Z1A.mk trivial ((Z1A.mk trivial ((Z1A.mk ((Z1A.mk trivial ((Z1A.mk (Z1A.x_mk (λW0 M hnp=>jl9 (W0:=W0) (M:=M) hnp)) trivial)))) ((Z1A.mk (Z1A.x_mk (λW0 M hnp=>jla (W0:=W0) (M:=M) hnp)) trivial))))))))))))) Tryz.func111 (by kernel_rfl) (by kernel_rfl) (by decide) (by
 intro vals ext k r h
 obtain ⟨s,a_s,t_s,vals,rfl,h1⟩:=Z8T h
 obtain ⟨rfl,h2⟩:=Z90 h1
 obtain ⟨rfl,h3⟩:=Z90 h2
 exact (jns s a_s t_s k).trans h3)
noncomputable def jpf:Code:=(Tryz.f108.body).getD .skip
noncomputable def jh1:Env Unit:=⟨tys,[(65,j9G)],0⟩
noncomputable def j6y (w:qL) (n_:Int) (k0:qB->Res):Res:=
 bif decide ((nI (List.length w))<=n_) then
  k0 eS
 else
  bif Z6R n_ (nI (List.length w)) (List.length w) then
   j1b (sub w n_ (nI (List.length w))) λ(r:qB)=>
    k0 r
  else none
noncomputable def jdr:Sig Unit:=⟨[.look y9 false,.look (.int .i64) false],[false],λvals ext k=>av vals y9 λw vals=>av vals (.int .i64) λn_ vals=>nl vals<|nl ext<|j6y w n_ (λ(r0:qB)=>k [⟨.str,false,r0,[]⟩] [] [])⟩
theorem joT (w:qL) (a_w:Bool) (t_w:List Tag) (n_:Int) (a_n_:Bool) (t_n_:List Tag) (k:qK):Z6X jh1 [] .o false Tryz.f108 [.look y9 false,.look (.int .i64) false] [false] [⟨y9,a_w,w,t_w⟩,⟨(.int .i64),a_n_,n_,t_n_⟩] [] k=j6y w n_ (λ(r0:qB)=>k [⟨.str,false,r0,[]⟩] [] []):=by kernel_rfl
theorem j5x:Z1k Tryz.prog 108 jdr:=Z8N (Γ:=jh1) (X:=[]) (ht:= .o) (fz:=false) (c:=jpf) follows j01 (Z8C j75 Z8W) trivial Tryz.func108 (by kernel_rfl) (by kernel_rfl) (by decide) (by
 intro vals ext k r h
 obtain ⟨w,a_w,t_w,vals,rfl,h1⟩:=Z8T h
 obtain ⟨n_,a_n_,t_n_,vals,rfl,h2⟩:=Z8T h1
 obtain ⟨rfl,h3⟩:=Z90 h2
 obtain ⟨rfl,h4⟩:=Z90 h3
 exact (joT w a_w t_w n_ a_n_ t_n_ k).trans h4)
noncomputable def jmc:Code:=(Tryz.f101.body).getD .skip
noncomputable def jeD:Env Unit:=⟨tys,[(153,j92)],0⟩
noncomputable def j5F (s:qS) (k0:Bool->Res):Res:=
 bif (s.1==0) then
  bif sEq s.2.1 eS then
   bif ((nI (List.length s.2.2.1))==0) then
    bif ((nI (List.length s.2.2.2.1))==0) then
     j0Y s.2.2.2.2 (0,eS,[],[],eS,eS) λ(r:Bool)=>
      k0 r
    else
     k0 false
   else
    k0 false
  else
   k0 false
 else
  k0 false
noncomputable def jbZ:Sig Unit:=⟨[.look y18 true],[false],λvals ext k=>av vals y18 λs vals=>nl vals<|nl ext<|j5F s (λ(r0:Bool)=>k [⟨.bool,false,r0,[]⟩] [] [])⟩
theorem jlD (s:qS) (a_s:Bool) (t_s:List Tag) (k:qK):Z6X jeD [] .o false Tryz.f101 [.look y18 true] [false] [⟨y18,a_s,s,t_s⟩] [] k=j5F s (λ(r0:Bool)=>k [⟨.bool,false,r0,[]⟩] [] []):=by kernel_rfl
theorem j8K:Z1k Tryz.prog 101 jbZ:=Z8N (Γ:=jeD) (X:=[]) (ht:= .o) (fz:=false) (c:=jmc) follows j01 (Z8C j8J Z8W) trivial Tryz.func101 (by kernel_rfl) (by kernel_rfl) (by decide) (by
 intro vals ext k r h
 obtain ⟨s,a_s,t_s,vals,rfl,h1⟩:=Z8T h
 obtain ⟨rfl,h2⟩:=Z90 h1
 obtain ⟨rfl,h3⟩:=Z90 h2
 exact (jlD s a_s t_s k).trans h3)
noncomputable def jpX:Code:=(Tryz.f97.body).getD .skip
noncomputable def jhL:Env Unit:=⟨tys,[(58,jdq),(101,jbZ),(174,j1B)],0⟩
noncomputable def jbN (r:Int×Int×qS) (k0:Bool->Res):Res:=
 j0K r.1 1 4 λ(r1:Bool)=>
  bif !r1 then
   k0 false
  else
   j0K r.2.1 1 1000000 λ(r2:Bool)=>
    bif !r2 then
     k0 false
    else
     bif (r.1==2) then
      j8t r.2.2 λ(r3:Bool)=>
       k0 r3
     else
      j5F r.2.2 λ(r4:Bool)=>
       k0 r4
noncomputable def jic:Sig Unit:=⟨[.look y20 true],[false],λvals ext k=>av vals y20 λr vals=>nl vals<|nl ext<|jbN r (λ(r0:Bool)=>k [⟨.bool,false,r0,[]⟩] [] [])⟩
theorem jpA (r:Int×Int×qS) (a_r:Bool) (t_r:List Tag) (k:qK):Z6X jhL [] .o false Tryz.f97 [.look y20 true] [false] [⟨y20,a_r,r,t_r⟩] [] k=jbN r (λ(r0:Bool)=>k [⟨.bool,false,r0,[]⟩] [] []):=by kernel_rfl
theorem jhw:Z1k Tryz.prog 97 jic:=Z8N (Γ:=jhL) (X:=[]) (ht:= .o) (fz:=false) (c:=jpX) follows j01 (Z8C jgT (Z8C j8K (Z8C j0r Z8W))) trivial Tryz.func97 (by kernel_rfl) (by kernel_rfl) (by decide) (by
 intro vals ext k r h
 obtain ⟨r,a_r,t_r,vals,rfl,h1⟩:=Z8T h
 obtain ⟨rfl,h2⟩:=Z90 h1
 obtain ⟨rfl,h3⟩:=Z90 h2
 exact (jpA r a_r t_r k).trans h3)
noncomputable def j9O:Code:=(Tryz.f27.body).getD .skip
noncomputable def jcz:Env Unit:=⟨tys,[(12,jbX),(97,jic),(98,(j1G j0O))],0⟩
noncomputable def j5X (r:Int×Int×qS) (k0:qB->Res):Res:=
 Z6L
  (bif inb (Z8g (r.1-1)) 4 then
   bif lim ((ByteArray.size (nth eS [j0i,j0R,j09,j0h] (Z8g (r.1-1))))+1) then
    j0O r.2.1 λ(r1:qB)=>
     bif lim ((ByteArray.size ((nth eS [j0i,j0R,j09,j0h] (Z8g (r.1-1)))++j0c))+(ByteArray.size r1)) then
      k0 (((nth eS [j0i,j0R,j09,j0h] (Z8g (r.1-1)))++j0c)++r1)
     else none
   else none
  else none)
  (j0O r.2.1 λ(r2:qB)=>
   bif inb (Z8g (r.1-1)) 4 then
    bif lim ((ByteArray.size (nth eS [j0i,j0R,j09,j0h] (Z8g (r.1-1))))+1) then
     bif lim ((ByteArray.size ((nth eS [j0i,j0R,j09,j0h] (Z8g (r.1-1)))++j0c))+(ByteArray.size r2)) then
      k0 (((nth eS [j0i,j0R,j09,j0h] (Z8g (r.1-1)))++j0c)++r2)
     else none
    else none
   else none)
noncomputable def jb9:Z1l Unit:=λσ k=>rdN σ 28<|rdT σ 1 (.ptr ⟨true,1,[]⟩)<|rdB σ 1 y20 [.S,.S,.S,.S] λa r=>j5X r (λ(s:qB)=>k .normal (mkS 28 28 [(1,.ptr ⟨true,1,[]⟩),(3,.val ⟨.str,false,s,[]⟩)] [(1,⟨y20,a,r,[.S,.S,.S,.S]⟩)]))
theorem jjV (a:Bool) (r:Int×Int×qS) (k:Z6G Unit):Z0R jcz [] .o (pl (pr (pr j9O))) (mkS 28 28 [(1,.ptr ⟨true,1,[]⟩)] [(1,⟨y20,a,r,[.S,.S,.S,.S]⟩)]) (λe σ=>k e ((Z8a ([1,3],[1]) [] ([],[])) e σ))=j5X r (λ(s:qB)=>k .normal (mkS 28 28 [(1,.ptr ⟨true,1,[]⟩),(3,.val ⟨.str,false,s,[]⟩)] [(1,⟨y20,a,r,[.S,.S,.S,.S]⟩)])):=by kernel_rfl
theorem jkI {W0:Base} {M:Nat->Prop} (hnp:W0.np<=0):Z1W Tryz.prog W0 M (pl (pr (pr j9O))) jb9:=Z91 (Z6Q follows j01 (Z7K (Z8C j8I (Z8C jhw (Z8C j16 Z8W)))) hnp [] ((pl (pr (pr j9O)))) .o trivial) (fg:=(Z8a ([1,3],[1]) [] ([],[]))) (Z8U _ _ _) (by
 intro σ k r h
 obtain ⟨hn,h1⟩:=Z8G h
 obtain ⟨hs1,h2⟩:=Z8H h1
 obtain ⟨a,r,hb1,h3⟩:=Z8D h2
 refine ⟨_,?_,(jjV a r k).trans h3⟩
 exact Z9e hn ⟨hs1,trivial⟩ ⟨hb1,trivial⟩)
noncomputable def j7o (r:Int×Int×qS) (k0:qB->Res):Res:=
 jbN r λ(r1:Bool)=>
  bif !r1 then
   k0 eS
  else
   j5X r λ(s:qB)=>
    bif (r.1==2) then
     bif lim ((ByteArray.size s)+1) then
      j4m r.2.2 λ(r2:qB)=>
       bif lim ((ByteArray.size (s++j0c))+(ByteArray.size r2)) then
        k0 ((s++j0c)++r2)
       else none
     else none
    else
     k0 s
noncomputable def jcP:Sig Unit:=⟨[.look y20 true],[false],λvals ext k=>av vals y20 λr vals=>nl vals<|nl ext<|j7o r (λ(r0:qB)=>k [⟨.str,false,r0,[]⟩] [] [])⟩
theorem jn7 (r:Int×Int×qS) (a_r:Bool) (t_r:List Tag) (k:qK):Z6X jcz [jb9] (.t .o (.t .o (.t (.x 0) .o))) false Tryz.f27 [.look y20 true] [false] [⟨y20,a_r,r,t_r⟩] [] k=j7o r (λ(r0:qB)=>k [⟨.str,false,r0,[]⟩] [] []):=by kernel_rfl
theorem j74:Z1k Tryz.prog 27 jcP:=Z8N (Γ:=jcz) (X:=[jb9]) (ht:=(.t .o (.t .o (.t (.x 0) .o)))) (fz:=false) (c:=j9O) follows j01 (Z8C j8I (Z8C jhw (Z8C j16 Z8W))) (Z1A.mk trivial ((Z1A.mk trivial ((Z1A.mk (Z1A.x_mk (λW0 M hnp=>jkI (W0:=W0) (M:=M) hnp)) trivial))))) Tryz.func27 (by kernel_rfl) (by kernel_rfl) (by decide) (by
 intro vals ext k r h
 obtain ⟨r,a_r,t_r,vals,rfl,h1⟩:=Z8T h
 obtain ⟨rfl,h2⟩:=Z90 h1
 obtain ⟨rfl,h3⟩:=Z90 h2
 exact (jn7 r a_r t_r k).trans h3)
noncomputable def j9P:Code:=(Tryz.f31.body).getD .skip
noncomputable def jcA:Env Unit:=⟨tys,[(15,jeV),(27,jcP),(79,j9F),(81,j2Q),(107,ja7),(108,jdr)],0⟩
noncomputable def j60 (w:qL) (t29:Bool) (r:Int×Int×qS) (k0:qP->Res):Res:=
 bif t29 then
  j6y w 2 λ(r1:qB)=>
   j5B r1 λ(r2:qS) (r3:Bool)=>
    k0 (r.1,r.2.1,r2)
 else
  k0 r
noncomputable def jbc:Z1l Unit:=λσ k=>rdN σ 43<|rdV σ 0 .str false [] λs=>rdT σ 2 (.ptr ⟨true,2,[]⟩)<|rdV σ 4 y9 false [.S] λw=>rdT σ 5 (.ptr ⟨true,5,[]⟩)<|rdV σ 29 .bool false [] λt29=>rdB σ 2 y20 [.O,.O,.O,.O] λa t2=>rdB σ 5 y20 [.O,.O,.O,.O] λa1 r=>j60 w t29 r (λ(r4:Int×Int×qS)=>k .normal (mkS 43 43 [(0,.val ⟨.str,false,s,[]⟩),(2,.ptr ⟨true,2,[]⟩),(5,.ptr ⟨true,5,[]⟩)] [(2,⟨y20,a,t2,[.O,.O,.O,.O]⟩),(5,⟨y20,a1,r4,[.O,.O,.O,.O]⟩)]))
theorem jk3 (s:qB) (w:qL) (t29:Bool) (a:Bool) (t2:Int×Int×qS) (a1:Bool) (r:Int×Int×qS) (k:Z6G Unit):Z0R jcA [] .o (pr (pl (pr (pr (pr (pr (pr j9P))))))) (mkS 43 43 [(0,.val ⟨.str,false,s,[]⟩),(2,.ptr ⟨true,2,[]⟩),(4,.val ⟨y9,false,w,[.S]⟩),(5,.ptr ⟨true,5,[]⟩),(29,.val ⟨.bool,false,t29,[]⟩)] [(2,⟨y20,a,t2,[.O,.O,.O,.O]⟩),(5,⟨y20,a1,r,[.O,.O,.O,.O]⟩)]) (λe σ=>k e ((Z8a ([0,2,5],[2,5]) [] ([],[])) e σ))=j60 w t29 r (λ(r4:Int×Int×qS)=>k .normal (mkS 43 43 [(0,.val ⟨.str,false,s,[]⟩),(2,.ptr ⟨true,2,[]⟩),(5,.ptr ⟨true,5,[]⟩)] [(2,⟨y20,a,t2,[.O,.O,.O,.O]⟩),(5,⟨y20,a1,r4,[.O,.O,.O,.O]⟩)])):=by kernel_rfl
theorem jkQ {W0:Base} {M:Nat->Prop} (hnp:W0.np<=0):Z1W Tryz.prog W0 M (pr (pl (pr (pr (pr (pr (pr j9P))))))) jbc:=Z91 (Z6Q follows j01 (Z7K (Z8C jeq (Z8C j74 (Z8C j1U (Z8C j0A (Z8C j1D (Z8C j5x Z8W))))))) hnp [] ((pr (pl (pr (pr (pr (pr (pr j9P)))))))) .o trivial) (fg:=(Z8a ([0,2,5],[2,5]) [] ([],[]))) (Z8U _ _ _) (by
 intro σ k r h
 obtain ⟨hn,h1⟩:=Z8G h
 obtain ⟨s,hs0,h2⟩:=Z8J h1
 obtain ⟨hs2,h3⟩:=Z8H h2
 obtain ⟨w,hs4,h4⟩:=Z8J h3
 obtain ⟨hs5,h5⟩:=Z8H h4
 obtain ⟨t29,hs29,h6⟩:=Z8J h5
 obtain ⟨a,t2,hb2,h7⟩:=Z8D h6
 obtain ⟨a1,r,hb5,h8⟩:=Z8D h7
 refine ⟨_,?_,(jk3 s w t29 a t2 a1 r k).trans h8⟩
 exact Z9e hn ⟨hs0,hs2,hs4,hs5,hs29,trivial⟩ ⟨hb2,hb5,trivial⟩)
noncomputable def j9v (s:qB) (k0:qP->Bool->Res):Res:=
 j64 s λ(r:qL)=>
  bif decide ((nI (List.length r))<2) then
   k0 (0,0,0,eS,[],[],0,eS,[],[],eS,eS) false
  else
   bif inb 0 (List.length r) then
    j0L [j0i,j0R,j09,j0h] (nth eS r 0) λ(r1:Int)=>
     bif inb 1 (List.length r) then
      j36 (nth eS r 1) λ(r2:Int) (r3:Bool)=>
       j60 r ((Z8g (1+r1))==2) (Z8g (1+r1),r2,0,eS,[],[],0,eS,[],[],eS,eS) λ(r4:Int×Int×qS)=>
        j7o r4 λ(r5:qB)=>
         bif sNe r5 s then
          k0 (0,0,0,eS,[],[],0,eS,[],[],eS,eS) false
         else
          k0 r4 true
     else none
   else none
noncomputable def jg0:Sig Unit:=⟨[.borrow .str false],[true,false],λvals ext k=>av vals .str λs vals=>nl vals<|nl ext<|j9v s (λ(r0:Int×Int×qS) (r1:Bool)=>k [⟨y20,true,r0,[.O,.O,.O,.O]⟩,⟨.bool,false,r1,[]⟩] [] [])⟩
theorem jnb (s:qB) (a_s:Bool) (t_s:List Tag) (k:qK):Z6X jcA [jbc] (.t .o (.t .o (.t .o (.t .o (.t .o (.t (.t .o (.x 0)) .o)))))) false Tryz.f31 [.borrow .str false] [true,false] [⟨.str,a_s,s,t_s⟩] [] k=j9v s (λ(r0:Int×Int×qS) (r1:Bool)=>k [⟨y20,true,r0,[.O,.O,.O,.O]⟩,⟨.bool,false,r1,[]⟩] [] []):=by kernel_rfl
theorem j9M:Z1k Tryz.prog 31 jg0:=Z8N (Γ:=jcA) (X:=[jbc]) (ht:=(.t .o (.t .o (.t .o (.t .o (.t .o (.t (.t .o (.x 0)) .o))))))) (fz:=false) (c:=j9P) follows j01 (Z8C jeq (Z8C j74 (Z8C j1U (Z8C j0A (Z8C j1D (Z8C j5x Z8W)))))) (Z1A.mk trivial ((Z1A.mk trivial ((Z1A.mk trivial ((Z1A.mk trivial ((Z1A.mk trivial ((Z1A.mk ((Z1A.mk trivial (Z1A.x_mk (λW0 M hnp=>jkQ (W0:=W0) (M:=M) hnp)))) trivial))))))))))) Tryz.func31 (by kernel_rfl) (by kernel_rfl) (by decide) (by
 intro vals ext k r h
 obtain ⟨s,a_s,t_s,vals,rfl,h1⟩:=Z8T h
 obtain ⟨rfl,h2⟩:=Z90 h1
 obtain ⟨rfl,h3⟩:=Z90 h2
 exact (jnb s a_s t_s k).trans h3)
end Go.PI.G
