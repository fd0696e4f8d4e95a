/-
  Program's code interpreted over typed values; printed texts; plain laws. No conditions.
-/
import Derived.Test.YtiieddiheadocaaGreatUa
import Derived.Test.YtiieddiheadocaaGreatUb
import Derived.Test.YtiieddiheadocaaGreatUe
import Derived.Test.YtiieddiheadocaaGreatUf
set_option linter.unusedVariables false
set_option maxRecDepth 100000
namespace Go.PI.G
open Go Go.PI Go.Proofs
open Go.Code (pl pr)
noncomputable def jnj:Code:=(Tryz.f123.body).getD .skip
noncomputable def jfz:Env Unit:=⟨tys,[(177,jcN)],0⟩
noncomputable def j99 (text:qB) (k0:qL->Res):Res:=
 j6j text 10 λ(r:qL)=>
  bif inb (Z8g ((nI (List.length r))-1)) (List.length r) then
   bif sEq (nth eS r (Z8g ((nI (List.length r))-1))) eS then
    bif Z6R 0 (Z8g ((nI (List.length r))-1)) (List.length r) then
     k0 (sub r 0 (Z8g ((nI (List.length r))-1)))
    else none
   else
    k0 r
  else none
noncomputable def jfX:Sig Unit:=⟨[.borrow .str false],[false],λvals ext k=>av vals .str λtext vals=>nl vals<|nl ext<|j99 text (λ(r0:qL)=>k [⟨y9,false,r0,[.S]⟩] [] [])⟩
theorem jn3 (text:qB) (a_text:Bool) (t_text:List Tag) (k:qK):Z6X jfz [] .o false Tryz.f123 [.borrow .str false] [false] [⟨.str,a_text,text,t_text⟩] [] k=j99 text (λ(r0:qL)=>k [⟨y9,false,r0,[.S]⟩] [] []):=by kernel_rfl
theorem jfo:Z1k Tryz.prog 123 jfX:=Z8N (Γ:=jfz) (X:=[]) (ht:= .o) (fz:=false) (c:=jnj) follows j00 (Z8C jfn Z8W) trivial Tryz.func123 (by kernel_rfl) (by kernel_rfl) (by decide) (by
 intro vals ext k r h
 obtain ⟨text,a_text,t_text,vals,rfl,h1⟩:=Z8T h
 obtain ⟨rfl,h2⟩:=Z90 h1
 obtain ⟨rfl,h3⟩:=Z90 h2
 exact (jn3 text a_text t_text k).trans h3)
noncomputable def joB:Code:=(Tryz.f104.body).getD .skip
noncomputable def jgw:Env Unit:=⟨tys,[],0⟩
noncomputable def jd0 (s:qQ) (k0:qB->Int->Res):Res:=
 bif (s.1==2) then
  k0 j0H 1
 else
  bif (s.1==4) then
   k0 j0I 1
  else
   bif (s.1==5) then
    k0 j0N 0
   else
    bif (s.1==6) then
     k0 j0M 0
    else
     bif (s.1==7) then
      k0 j0L 0
     else
      bif (s.1 != 3) then
       k0 eS 0
      else
       bif decide (s.2.2.1<1) then
        k0 eS 0
       else
        bif decide (s.2.2.1>4) then
         k0 eS 0
        else
         bif inb s.2.2.1 5 then
          k0 (nth eS [eS,j0p,j0j,j0o,j0z] s.2.2.1) 2
         else none
noncomputable def jgP:Sig Unit:=⟨[.look y24 true],[false,false],λvals ext k=>av vals y24 λs vals=>nl vals<|nl ext<|jd0 s (λ(r0:qB) (r1:Int)=>k [⟨.str,false,r0,[]⟩,⟨(.int .i64),false,r1,[]⟩] [] [])⟩
theorem jov (s:qQ) (a_s:Bool) (t_s:List Tag) (k:qK):Z6X jgw [] .o false Tryz.f104 [.look y24 true] [false,false] [⟨y24,a_s,s,t_s⟩] [] k=jd0 s (λ(r0:qB) (r1:Int)=>k [⟨.str,false,r0,[]⟩,⟨(.int .i64),false,r1,[]⟩] [] []):=by kernel_rfl
theorem j5l:Z1k Tryz.prog 104 jgP:=Z8N (Γ:=jgw) (X:=[]) (ht:= .o) (fz:=false) (c:=joB) follows j00 Z8W trivial Tryz.func104 (by kernel_rfl) (by kernel_rfl) (by decide) (by
 intro vals ext k r h
 obtain ⟨s,a_s,t_s,vals,rfl,h1⟩:=Z8T h
 obtain ⟨rfl,h2⟩:=Z90 h1
 obtain ⟨rfl,h3⟩:=Z90 h2
 exact (jov s a_s t_s k).trans h3)
noncomputable def jpY:Code:=(Tryz.f105.body).getD .skip
noncomputable def jhK:Env Unit:=⟨tys,[(175,(j2k j0U))],0⟩
noncomputable def j7f (n_:Int) (k0:qB->Bool->Res):Res:=
 j0U n_ λ(r:qB)=>
  bif lim (1+(ByteArray.size r)) then
   bif decide (n_>=0) then
    k0 (j0e++r) (sNe r eS)
   else
    k0 (j0e++r) false
  else none
noncomputable def jhY:Sig Unit:=⟨[.look (.int .i64) false],[false,false],λvals ext k=>av vals (.int .i64) λn_ vals=>nl vals<|nl ext<|j7f n_ (λ(r0:qB) (r1:Bool)=>k [⟨.str,false,r0,[]⟩,⟨.bool,false,r1,[]⟩] [] [])⟩
theorem jpL (n_:Int) (a_n_:Bool) (t_n_:List Tag) (k:qK):Z6X jhK [] .o false Tryz.f105 [.look (.int .i64) false] [false,false] [⟨(.int .i64),a_n_,n_,t_n_⟩] [] k=j7f n_ (λ(r0:qB) (r1:Bool)=>k [⟨.str,false,r0,[]⟩,⟨.bool,false,r1,[]⟩] [] []):=by kernel_rfl
theorem j66:Z1k Tryz.prog 105 jhY:=Z8N (Γ:=jhK) (X:=[]) (ht:= .o) (fz:=false) (c:=jpY) follows j00 (Z8C j1K Z8W) trivial Tryz.func105 (by kernel_rfl) (by kernel_rfl) (by decide) (by
 intro vals ext k r h
 obtain ⟨n_,a_n_,t_n_,vals,rfl,h1⟩:=Z8T h
 obtain ⟨rfl,h2⟩:=Z90 h1
 obtain ⟨rfl,h3⟩:=Z90 h2
 exact (jpL n_ a_n_ t_n_ k).trans h3)
noncomputable def jpZ:Code:=(Tryz.f106.body).getD .skip
noncomputable def jhL:Env Unit:=⟨tys,[(102,jbO)],0⟩
noncomputable def jbm (r:Int×Int×qS) (k0:Bool->Res):Res:=
 bif (r.1==0) then
  bif (r.2.1==0) then
   j5s r.2.2 λ(r1:Bool)=>
    k0 r1
  else
   k0 false
 else
  k0 false
noncomputable def jhZ:Sig Unit:=⟨[.look y20 true],[false],λvals ext k=>av vals y20 λr vals=>nl vals<|nl ext<|jbm r (λ(r0:Bool)=>k [⟨.bool,false,r0,[]⟩] [] [])⟩
theorem jpM (r:Int×Int×qS) (a_r:Bool) (t_r:List Tag) (k:qK):Z6X jhL [] .o false Tryz.f106 [.look y20 true] [false] [⟨y20,a_r,r,t_r⟩] [] k=jbm r (λ(r0:Bool)=>k [⟨.bool,false,r0,[]⟩] [] []):=by kernel_rfl
theorem j67:Z1k Tryz.prog 106 jhZ:=Z8N (Γ:=jhL) (X:=[]) (ht:= .o) (fz:=false) (c:=jpZ) follows j00 (Z8C jbB Z8W) trivial Tryz.func106 (by kernel_rfl) (by kernel_rfl) (by decide) (by
 intro vals ext k r h
 obtain ⟨r,a_r,t_r,vals,rfl,h1⟩:=Z8T h
 obtain ⟨rfl,h2⟩:=Z90 h1
 obtain ⟨rfl,h3⟩:=Z90 h2
 exact (jpM r a_r t_r k).trans h3)
noncomputable def j0u:Code:=(Tryz.f30.body).getD .skip
noncomputable def j3c:Env Unit:=⟨tys,[(103,jdC),(104,jgP),(105,jhY),(106,jhZ)],0⟩
noncomputable def j8s (t:qB) (s:qQ) (k0:Bool->Res):Res:=
 bif sEq t eS then
  k0 true
 else
  bif (s.2.2.1 != 0) then
   k0 true
  else
   bif (s.2.2.2.1 != 0) then
    k0 true
   else
    k0 (s.2.2.2.2 != 0)
noncomputable def j0V:Z1l Unit:=λσ k=>rdN σ 135<|rdT σ 1 (.ptr ⟨true,1,[]⟩)<|rdV σ 3 .str false [] λt=>rdB σ 1 y24 [.S,.S,.S,.S] λa s=>j8s t s (λ(t34:Bool)=>k .normal (mkS 135 135 [(3,.val ⟨.str,false,t,[]⟩),(34,.val ⟨.bool,false,t34,[]⟩)] []))
theorem jjW (t:qB) (a:Bool) (s:qQ) (k:Z6G Unit):Z0R j3c [] .o (pl (pl (pr (pl (pr (pl (pr j0u))))))) (mkS 135 135 [(1,.ptr ⟨true,1,[]⟩),(3,.val ⟨.str,false,t,[]⟩)] [(1,⟨y24,a,s,[.S,.S,.S,.S]⟩)]) (λe σ=>k e ((Z8a ([3,34],[]) [] ([],[])) e σ))=j8s t s (λ(t34:Bool)=>k .normal (mkS 135 135 [(3,.val ⟨.str,false,t,[]⟩),(34,.val ⟨.bool,false,t34,[]⟩)] [])):=by kernel_rfl
theorem jko {W0:Base} {M:Nat->Prop} (hnp:W0.np<=0):Z1W Tryz.prog W0 M (pl (pl (pr (pl (pr (pl (pr j0u))))))) j0V:=Z91 (Z6Q follows j00 (Z7K (Z8C j2g (Z8C j5l (Z8C j66 (Z8C j67 Z8W))))) hnp [] ((pl (pl (pr (pl (pr (pl (pr j0u)))))))) .o trivial) (fg:=(Z8a ([3,34],[]) [] ([],[]))) (Z8U _ _ _) (by
 intro σ k r h
 obtain ⟨hn,h1⟩:=Z8G h
 obtain ⟨hs1,h2⟩:=Z8H h1
 obtain ⟨t,hs3,h3⟩:=Z8J h2
 obtain ⟨a,s,hb1,h4⟩:=Z8D h3
 refine ⟨_,?_,(jjW t a s k).trans h4⟩
 exact Z9e hn ⟨hs1,hs3,trivial⟩ ⟨hb1,trivial⟩)
noncomputable def j1D (w:qB) (x:Bool) (y:Bool) (z:Bool) (s:qQ) (k0:Bool->Res):Res:=
 bif sEq w eS then
  k0 true
 else
  jbm s.2.1 λ(r:Bool)=>
   bif !r then
    k0 true
   else
    bif !x then
     k0 true
    else
     bif !y then
      k0 true
     else
      k0 (!z)
noncomputable def j1s:Z1l Unit:=λσ k=>rdN σ 135<|rdT σ 1 (.ptr ⟨true,1,[]⟩)<|rdV σ 4 .str false [] λw=>rdV σ 5 (.int .i64) false [] λn_=>rdV σ 6 .str false [] λa=>rdV σ 7 .bool false [] λx=>rdV σ 8 .str false [] λb=>rdV σ 9 .bool false [] λy=>rdV σ 10 .str false [] λc=>rdV σ 11 .bool false [] λz=>rdB σ 1 y24 [.S,.S,.S,.S] λa1 s=>j1D w x y z s (λ(t79:Bool)=>k .normal (mkS 135 135 [(1,.ptr ⟨true,1,[]⟩),(4,.val ⟨.str,false,w,[]⟩),(5,.val ⟨(.int .i64),false,n_,[]⟩),(6,.val ⟨.str,false,a,[]⟩),(8,.val ⟨.str,false,b,[]⟩),(10,.val ⟨.str,false,c,[]⟩),(79,.val ⟨.bool,false,t79,[]⟩)] [(1,⟨y24,a1,s,[.S,.S,.S,.S]⟩)]))
theorem jjX (w:qB) (n_:Int) (a:qB) (x:Bool) (b:qB) (y:Bool) (c:qB) (z:Bool) (a1:Bool) (s:qQ) (k:Z6G Unit):Z0R j3c [j0V] .o (pl (pl (pr (pr (pr (pr (pr (pr j0u)))))))) (mkS 135 135 [(1,.ptr ⟨true,1,[]⟩),(4,.val ⟨.str,false,w,[]⟩),(5,.val ⟨(.int .i64),false,n_,[]⟩),(6,.val ⟨.str,false,a,[]⟩),(7,.val ⟨.bool,false,x,[]⟩),(8,.val ⟨.str,false,b,[]⟩),(9,.val ⟨.bool,false,y,[]⟩),(10,.val ⟨.str,false,c,[]⟩),(11,.val ⟨.bool,false,z,[]⟩)] [(1,⟨y24,a1,s,[.S,.S,.S,.S]⟩)]) (λe σ=>k e ((Z8a ([1,4,5,6,8,10,79],[1]) [] ([],[])) e σ))=j1D w x y z s (λ(t79:Bool)=>k .normal (mkS 135 135 [(1,.ptr ⟨true,1,[]⟩),(4,.val ⟨.str,false,w,[]⟩),(5,.val ⟨(.int .i64),false,n_,[]⟩),(6,.val ⟨.str,false,a,[]⟩),(8,.val ⟨.str,false,b,[]⟩),(10,.val ⟨.str,false,c,[]⟩),(79,.val ⟨.bool,false,t79,[]⟩)] [(1,⟨y24,a1,s,[.S,.S,.S,.S]⟩)])):=by kernel_rfl
theorem jkp {W0:Base} {M:Nat->Prop} (hnp:W0.np<=0):Z1W Tryz.prog W0 M (pl (pl (pr (pr (pr (pr (pr (pr j0u)))))))) j1s:=Z91 (Z6Q follows j00 (Z7K (Z8C j2g (Z8C j5l (Z8C j66 (Z8C j67 Z8W))))) hnp [j0V] ((pl (pl (pr (pr (pr (pr (pr (pr j0u))))))))) .o trivial) (fg:=(Z8a ([1,4,5,6,8,10,79],[1]) [] ([],[]))) (Z8U _ _ _) (by
 intro σ k r h
 obtain ⟨hn,h1⟩:=Z8G h
 obtain ⟨hs1,h2⟩:=Z8H h1
 obtain ⟨w,hs4,h3⟩:=Z8J h2
 obtain ⟨n_,hs5,h4⟩:=Z8J h3
 obtain ⟨a,hs6,h5⟩:=Z8J h4
 obtain ⟨x,hs7,h6⟩:=Z8J h5
 obtain ⟨b,hs8,h7⟩:=Z8J h6
 obtain ⟨y,hs9,h8⟩:=Z8J h7
 obtain ⟨c,hs10,h9⟩:=Z8J h8
 obtain ⟨z,hs11,h10⟩:=Z8J h9
 obtain ⟨a1,s,hb1,h11⟩:=Z8D h10
 refine ⟨_,?_,(jjX w n_ a x b y c z a1 s k).trans h11⟩
 exact Z9e hn ⟨hs1,hs4,hs5,hs6,hs7,hs8,hs9,hs10,hs11,trivial⟩ ⟨hb1,trivial⟩)
noncomputable def j1j (n_:Int) (s:qQ) (k0:Unit->Res) (k1:Unit->Res):Res:=
 bif (n_==0) then
  bif (s.2.2.1==0) then
   bif (s.2.2.2.1==0) then
    bif (s.2.2.2.2==0) then
     k1 ()
    else
     k0 ()
   else
    k0 ()
  else
   k0 ()
 else
  k0 ()
noncomputable def j2p:Z1l Unit:=λσ k=>rdN σ 135<|rdT σ 1 (.ptr ⟨true,1,[]⟩)<|rdV σ 4 .str false [] λw=>rdV σ 5 (.int .i64) false [] λn_=>rdV σ 6 .str false [] λa=>rdV σ 8 .str false [] λb=>rdV σ 10 .str false [] λc=>rdB σ 1 y24 [.S,.S,.S,.S] λa1 s=>j1j n_ s (λ(_:Unit)=>k .normal (mkS 135 135 [(1,.ptr ⟨true,1,[]⟩),(4,.val ⟨.str,false,w,[]⟩),(5,.val ⟨(.int .i64),false,n_,[]⟩),(6,.val ⟨.str,false,a,[]⟩),(8,.val ⟨.str,false,b,[]⟩),(10,.val ⟨.str,false,c,[]⟩)] [(1,⟨y24,a1,s,[.S,.S,.S,.S]⟩)])) (λ(_:Unit)=>k .ret (mkS 135 135 [(2,.val ⟨.str,false,w,[]⟩)] []))
theorem jjY (w:qB) (n_:Int) (a:qB) (b:qB) (c:qB) (a1:Bool) (s:qQ) (k:Z6G Unit):Z0R j3c [j0V,j1s] .o (pl (pr (pr (pr (pr (pr (pr (pr j0u)))))))) (mkS 135 135 [(1,.ptr ⟨true,1,[]⟩),(4,.val ⟨.str,false,w,[]⟩),(5,.val ⟨(.int .i64),false,n_,[]⟩),(6,.val ⟨.str,false,a,[]⟩),(8,.val ⟨.str,false,b,[]⟩),(10,.val ⟨.str,false,c,[]⟩)] [(1,⟨y24,a1,s,[.S,.S,.S,.S]⟩)]) (λe σ=>k e ((Z8a ([1,4,5,6,8,10],[1]) [] ([2],[])) e σ))=j1j n_ s (λ(_:Unit)=>k .normal (mkS 135 135 [(1,.ptr ⟨true,1,[]⟩),(4,.val ⟨.str,false,w,[]⟩),(5,.val ⟨(.int .i64),false,n_,[]⟩),(6,.val ⟨.str,false,a,[]⟩),(8,.val ⟨.str,false,b,[]⟩),(10,.val ⟨.str,false,c,[]⟩)] [(1,⟨y24,a1,s,[.S,.S,.S,.S]⟩)])) (λ(_:Unit)=>k .ret (mkS 135 135 [(2,.val ⟨.str,false,w,[]⟩)] [])):=by kernel_rfl
theorem jkq {W0:Base} {M:Nat->Prop} (hnp:W0.np<=0):Z1W Tryz.prog W0 M (pl (pr (pr (pr (pr (pr (pr (pr j0u)))))))) j2p:=Z91 (Z6Q follows j00 (Z7K (Z8C j2g (Z8C j5l (Z8C j66 (Z8C j67 Z8W))))) hnp [j0V,j1s] ((pl (pr (pr (pr (pr (pr (pr (pr j0u))))))))) .o trivial) (fg:=(Z8a ([1,4,5,6,8,10],[1]) [] ([2],[]))) (Z8U _ _ _) (by
 intro σ k r h
 obtain ⟨hn,h1⟩:=Z8G h
 obtain ⟨hs1,h2⟩:=Z8H h1
 obtain ⟨w,hs4,h3⟩:=Z8J h2
 obtain ⟨n_,hs5,h4⟩:=Z8J h3
 obtain ⟨a,hs6,h5⟩:=Z8J h4
 obtain ⟨b,hs8,h6⟩:=Z8J h5
 obtain ⟨c,hs10,h7⟩:=Z8J h6
 obtain ⟨a1,s,hb1,h8⟩:=Z8D h7
 refine ⟨_,?_,(jjY w n_ a b c a1 s k).trans h8⟩
 exact Z9e hn ⟨hs1,hs4,hs5,hs6,hs8,hs10,trivial⟩ ⟨hb1,trivial⟩)
noncomputable def j1k (w:qB) (n_:Int) (a:qB) (s:qQ) (k0:Unit->Res) (k1:Unit->Res):Res:=
 bif (n_==1) then
  bif (s.2.2.2.1==0) then
   bif (s.2.2.2.2==0) then
    bif lim ((ByteArray.size w)+(ByteArray.size a)) then
     k1 ()
    else none
   else
    k0 ()
  else
   k0 ()
 else
  k0 ()
noncomputable def j57:Z1l Unit:=λσ k=>rdN σ 135<|rdT σ 1 (.ptr ⟨true,1,[]⟩)<|rdV σ 4 .str false [] λw=>rdV σ 5 (.int .i64) false [] λn_=>rdV σ 6 .str false [] λa=>rdV σ 8 .str false [] λb=>rdV σ 10 .str false [] λc=>rdB σ 1 y24 [.S,.S,.S,.S] λa1 s=>j1k w n_ a s (λ(_:Unit)=>k .normal (mkS 135 135 [(1,.ptr ⟨true,1,[]⟩),(4,.val ⟨.str,false,w,[]⟩),(5,.val ⟨(.int .i64),false,n_,[]⟩),(8,.val ⟨.str,false,b,[]⟩),(10,.val ⟨.str,false,c,[]⟩)] [(1,⟨y24,a1,s,[.S,.S,.S,.S]⟩)])) (λ(_:Unit)=>k .ret (mkS 135 135 [(2,.val ⟨.str,false,(w++a),[]⟩)] []))
theorem jjZ (w:qB) (n_:Int) (a:qB) (b:qB) (c:qB) (a1:Bool) (s:qQ) (k:Z6G Unit):Z0R j3c [j0V,j1s,j2p] .o (pl (pr (pr (pr (pr (pr (pr (pr (pr j0u))))))))) (mkS 135 135 [(1,.ptr ⟨true,1,[]⟩),(4,.val ⟨.str,false,w,[]⟩),(5,.val ⟨(.int .i64),false,n_,[]⟩),(6,.val ⟨.str,false,a,[]⟩),(8,.val ⟨.str,false,b,[]⟩),(10,.val ⟨.str,false,c,[]⟩)] [(1,⟨y24,a1,s,[.S,.S,.S,.S]⟩)]) (λe σ=>k e ((Z8a ([1,4,5,8,10],[1]) [] ([2],[])) e σ))=j1k w n_ a s (λ(_:Unit)=>k .normal (mkS 135 135 [(1,.ptr ⟨true,1,[]⟩),(4,.val ⟨.str,false,w,[]⟩),(5,.val ⟨(.int .i64),false,n_,[]⟩),(8,.val ⟨.str,false,b,[]⟩),(10,.val ⟨.str,false,c,[]⟩)] [(1,⟨y24,a1,s,[.S,.S,.S,.S]⟩)])) (λ(_:Unit)=>k .ret (mkS 135 135 [(2,.val ⟨.str,false,(w++a),[]⟩)] [])):=by kernel_rfl
theorem jkr {W0:Base} {M:Nat->Prop} (hnp:W0.np<=0):Z1W Tryz.prog W0 M (pl (pr (pr (pr (pr (pr (pr (pr (pr j0u))))))))) j57:=Z91 (Z6Q follows j00 (Z7K (Z8C j2g (Z8C j5l (Z8C j66 (Z8C j67 Z8W))))) hnp [j0V,j1s,j2p] ((pl (pr (pr (pr (pr (pr (pr (pr (pr j0u)))))))))) .o trivial) (fg:=(Z8a ([1,4,5,8,10],[1]) [] ([2],[]))) (Z8U _ _ _) (by
 intro σ k r h
 obtain ⟨hn,h1⟩:=Z8G h
 obtain ⟨hs1,h2⟩:=Z8H h1
 obtain ⟨w,hs4,h3⟩:=Z8J h2
 obtain ⟨n_,hs5,h4⟩:=Z8J h3
 obtain ⟨a,hs6,h5⟩:=Z8J h4
 obtain ⟨b,hs8,h6⟩:=Z8J h5
 obtain ⟨c,hs10,h7⟩:=Z8J h6
 obtain ⟨a1,s,hb1,h8⟩:=Z8D h7
 refine ⟨_,?_,(jjZ w n_ a b c a1 s k).trans h8⟩
 exact Z9e hn ⟨hs1,hs4,hs5,hs6,hs8,hs10,trivial⟩ ⟨hb1,trivial⟩)
noncomputable def j1l (w:qB) (n_:Int) (b:qB) (c:qB) (s:qQ) (k0:Unit->Res) (k1:Unit->Res):Res:=
 bif (n_==2) then
  bif (s.2.2.1==4) then
   bif lim ((ByteArray.size w)+(ByteArray.size b)) then
    bif lim ((ByteArray.size (w++b))+(ByteArray.size c)) then
     k1 ()
    else none
   else none
  else
   k0 ()
 else
  k0 ()
noncomputable def jba:Z1l Unit:=λσ k=>rdN σ 135<|rdT σ 1 (.ptr ⟨true,1,[]⟩)<|rdV σ 4 .str false [] λw=>rdV σ 5 (.int .i64) false [] λn_=>rdV σ 8 .str false [] λb=>rdV σ 10 .str false [] λc=>rdB σ 1 y24 [.S,.S,.S,.S] λa s=>j1l w n_ b c s (λ(_:Unit)=>k .normal (mkS 135 135 [(1,.ptr ⟨true,1,[]⟩),(4,.val ⟨.str,false,w,[]⟩),(5,.val ⟨(.int .i64),false,n_,[]⟩),(8,.val ⟨.str,false,b,[]⟩)] [(1,⟨y24,a,s,[.S,.S,.S,.S]⟩)])) (λ(_:Unit)=>k .ret (mkS 135 135 [(2,.val ⟨.str,false,((w++b)++c),[]⟩)] []))
theorem jk0 (w:qB) (n_:Int) (b:qB) (c:qB) (a:Bool) (s:qQ) (k:Z6G Unit):Z0R j3c [j0V,j1s,j2p,j57] .o (pl (pr (pr (pr (pr (pr (pr (pr (pr (pr j0u)))))))))) (mkS 135 135 [(1,.ptr ⟨true,1,[]⟩),(4,.val ⟨.str,false,w,[]⟩),(5,.val ⟨(.int .i64),false,n_,[]⟩),(8,.val ⟨.str,false,b,[]⟩),(10,.val ⟨.str,false,c,[]⟩)] [(1,⟨y24,a,s,[.S,.S,.S,.S]⟩)]) (λe σ=>k e ((Z8a ([1,4,5,8],[1]) [] ([2],[])) e σ))=j1l w n_ b c s (λ(_:Unit)=>k .normal (mkS 135 135 [(1,.ptr ⟨true,1,[]⟩),(4,.val ⟨.str,false,w,[]⟩),(5,.val ⟨(.int .i64),false,n_,[]⟩),(8,.val ⟨.str,false,b,[]⟩)] [(1,⟨y24,a,s,[.S,.S,.S,.S]⟩)])) (λ(_:Unit)=>k .ret (mkS 135 135 [(2,.val ⟨.str,false,((w++b)++c),[]⟩)] [])):=by kernel_rfl
theorem jks {W0:Base} {M:Nat->Prop} (hnp:W0.np<=0):Z1W Tryz.prog W0 M (pl (pr (pr (pr (pr (pr (pr (pr (pr (pr j0u)))))))))) jba:=Z91 (Z6Q follows j00 (Z7K (Z8C j2g (Z8C j5l (Z8C j66 (Z8C j67 Z8W))))) hnp [j0V,j1s,j2p,j57] ((pl (pr (pr (pr (pr (pr (pr (pr (pr (pr j0u))))))))))) .o trivial) (fg:=(Z8a ([1,4,5,8],[1]) [] ([2],[]))) (Z8U _ _ _) (by
 intro σ k r h
 obtain ⟨hn,h1⟩:=Z8G h
 obtain ⟨hs1,h2⟩:=Z8H h1
 obtain ⟨w,hs4,h3⟩:=Z8J h2
 obtain ⟨n_,hs5,h4⟩:=Z8J h3
 obtain ⟨b,hs8,h5⟩:=Z8J h4
 obtain ⟨c,hs10,h6⟩:=Z8J h5
 obtain ⟨a,s,hb1,h7⟩:=Z8D h6
 refine ⟨_,?_,(jk0 w n_ b c a s k).trans h7⟩
 exact Z9e hn ⟨hs1,hs4,hs5,hs8,hs10,trivial⟩ ⟨hb1,trivial⟩)
noncomputable def j97 (s:qQ) (k0:qB->Res):Res:=
 bif (s.1==1) then
  j4e s.2.1 λ(r:qB)=>
   j8s r s λ(t:Bool)=>
    bif t then
     k0 eS
    else
     bif lim (4+(ByteArray.size r)) then
      k0 (jfc++r)
     else none
 else
  jd0 s λ(r1:qB) (r2:Int)=>
   j7f s.2.2.1 λ(r3:qB) (r4:Bool)=>
    j7f s.2.2.2.1 λ(r5:qB) (r6:Bool)=>
     j7f s.2.2.2.2 λ(r7:qB) (r8:Bool)=>
      j1D r1 r4 r6 r8 s λ(t1:Bool)=>
       bif t1 then
        k0 eS
       else
        j1j r2 s
         (λ(_:Unit)=>
          j1k r1 r2 r3 s
           (λ(_:Unit)=>
            j1l r1 r2 r5 r7 s
             (λ(_:Unit)=>
              bif (r2==2) then
               bif (s.2.2.2.2==0) then
                bif lim ((ByteArray.size r1)+(ByteArray.size r5)) then
                 k0 (r1++r5)
                else none
               else
                k0 eS
              else
               k0 eS)
             (λ(_:Unit)=>
              k0 ((r1++r5)++r7)))
           (λ(_:Unit)=>
            k0 (r1++r3)))
         (λ(_:Unit)=>
          k0 r1)
noncomputable def jfU:Sig Unit:=⟨[.look y24 true],[false],λvals ext k=>av vals y24 λs vals=>nl vals<|nl ext<|j97 s (λ(r0:qB)=>k [⟨.str,false,r0,[]⟩] [] [])⟩
theorem jmW (s:qQ) (a_s:Bool) (t_s:List Tag) (k:qK):Z6X j3c [j0V,j1s,j2p,j57,jba] (.t .o (.t (.t .o (.t (.t .o (.t (.t (.x 0) .o) .o)) .o)) (.t .o (.t .o (.t .o (.t .o (.t (.t (.x 1) .o) (.t (.x 2) (.t (.x 3) (.t (.x 4) .o)))))))))) false Tryz.f30 [.look y24 true] [false] [⟨y24,a_s,s,t_s⟩] [] k=j97 s (λ(r0:qB)=>k [⟨.str,false,r0,[]⟩] [] []):=by kernel_rfl
theorem j6n:Z1k Tryz.prog 30 jfU:=Z8N (Γ:=j3c) (X:=[j0V,j1s,j2p,j57,jba]) (ht:=(.t .o (.t (.t .o (.t (.t .o (.t (.t (.x 0) .o) .o)) .o)) (.t .o (.t .o (.t .o (.t .o (.t (.t (.x 1) .o) (.t (.x 2) (.t (.x 3) (.t (.x 4) .o))))))))))) (fz:=false) (c:=j0u) follows j00 (Z8C j2g (Z8C j5l (Z8C j66 (Z8C j67 Z8W)))) (Z1A.mk trivial ((Z1A.mk ((Z1A.mk trivial ((Z1A.mk ((Z1A.mk trivial ((Z1A.mk ((Z1A.mk (Z1A.x_mk (λW0 M hnp=>jko (W0:=W0) (M:=M) hnp)) trivial)) trivial)))) trivial)))) ((Z1A.mk trivial ((Z1A.mk trivial ((Z1A.mk trivial ((Z1A.mk trivial ((Z1A.mk ((Z1A.mk (Z1A.x_mk (λW0 M hnp=>jkp (W0:=W0) (M:=M) hnp)) trivial)) ((Z1A.mk (Z1A.x_mk (λW0 M hnp=>jkq (W0:=W0) (M:=M) hnp)) ((Z1A.mk (Z1A.x_mk (λW0 M hnp=>jkr (W0:=W0) (M:=M) hnp)) ((Z1A.mk (Z1A.x_mk (λW0 M hnp=>jks (W0:=W0) (M:=M) hnp)) trivial))))))))))))))))))) Tryz.func30 (by kernel_rfl) (by kernel_rfl) (by decide) (by
 intro vals ext k r h
 obtain ⟨s,a_s,t_s,vals,rfl,h1⟩:=Z8T h
 obtain ⟨rfl,h2⟩:=Z90 h1
 obtain ⟨rfl,h3⟩:=Z90 h2
 exact (jmW s a_s t_s k).trans h3)
noncomputable def j0y:Code:=(Tryz.f33.body).getD .skip
noncomputable def j4m:Env Unit:=⟨tys,[(30,jfU),(109,jaj),(110,jaL),(111,jgJ)],0⟩
noncomputable def j30 (w:qL) (v_:List Int) (i:Int) (rec:(List Int)->Int->Res) (k0:(List Int)->Res):Res:=
 bif decide (i<(nI (List.length w))) then
  bif decide (i<3) then
   bif inb i (List.length w) then
    j3p (nth eS w i) λ(r:Int) (r1:Bool)=>
     bif inb (Z8g (i-1)) (List.length v_) then
      rec (upd v_ (Z8g (i-1)) r) (Z8g (i+1))
     else none
   else none
  else
   k0 v_
 else
  k0 v_
noncomputable def j6U (w:qL):((List Int)×Int)->((List Int)×Int->Res)->(((List Int)->Res))->Res:=λv rec q=>j30 w v.1 v.2 (λv_ i=>rec (v_,i)) q
noncomputable def j8u (w:qL) (n:Nat) (v_:List Int) (i:Int) (k0:(List Int)->Res):Res:=Z10 (j6U w) n (v_,i) (k0)
noncomputable def j18:Z1l Unit:=λσ k=>rdN σ 108<|rdV σ 0 .str false [] λs=>rdT σ 2 (.ptr ⟨true,2,[]⟩)<|rdV σ 4 y9 false [.S] λw=>rdT σ 5 (.ptr ⟨true,5,[]⟩)<|rdV σ 6 y26 false [.O] λv_=>rdV σ 7 (.int .i64) false [] λi=>rdB σ 2 y24 [.O,.O,.O,.O] λa t2=>rdB σ 5 y24 [.O,.O,.O,.O] λa1 x=>j8u w Z0Y v_ i (λ(v_1:List Int)=>k (.exit 0) (mkS 108 108 [(0,.val ⟨.str,false,s,[]⟩),(2,.ptr ⟨true,2,[]⟩),(4,.val ⟨y9,false,w,[.S]⟩),(5,.ptr ⟨true,5,[]⟩),(6,.val ⟨y26,false,v_1,[.O]⟩)] [(2,⟨y24,a,t2,[.O,.O,.O,.O]⟩),(5,⟨y24,a1,x,[.O,.O,.O,.O]⟩)]))
theorem jk2 (s:qB) (w:qL) (a:Bool) (t2:qQ) (a1:Bool) (x:qQ) (n:Nat) (v:(List Int)×Int) (k:Z6G Unit):Z3X (Z0R j4m [] .o (pl (pl (pr (pl (pr (pr (pr (pr j0y))))))))) (λσ=>σ.forget [0,2,4,5,6,7] [2,5]) (Z8a ([],[]) [(0,[0,2,4,5,6],[2,5])] ([],[])) n (mkS 108 108 [(0,.val ⟨.str,false,s,[]⟩),(2,.ptr ⟨true,2,[]⟩),(4,.val ⟨y9,false,w,[.S]⟩),(5,.ptr ⟨true,5,[]⟩),(6,.val ⟨y26,false,v.1,[.O]⟩),(7,.val ⟨(.int .i64),false,v.2,[]⟩)] [(2,⟨y24,a,t2,[.O,.O,.O,.O]⟩),(5,⟨y24,a1,x,[.O,.O,.O,.O]⟩)]) k=Z10 (j6U w) n v ((λ(k:Z6G Unit)=>(((λ(v_1:List Int)=>k (.exit 0) (mkS 108 108 [(0,.val ⟨.str,false,s,[]⟩),(2,.ptr ⟨true,2,[]⟩),(4,.val ⟨y9,false,w,[.S]⟩),(5,.ptr ⟨true,5,[]⟩),(6,.val ⟨y26,false,v_1,[.O]⟩)] [(2,⟨y24,a,t2,[.O,.O,.O,.O]⟩),(5,⟨y24,a1,x,[.O,.O,.O,.O]⟩)]))):((List Int)->Res))) k):=Z80 (λv:(List Int)×Int=>(mkS 108 108 [(0,.val ⟨.str,false,s,[]⟩),(2,.ptr ⟨true,2,[]⟩),(4,.val ⟨y9,false,w,[.S]⟩),(5,.ptr ⟨true,5,[]⟩),(6,.val ⟨y26,false,v.1,[.O]⟩),(7,.val ⟨(.int .i64),false,v.2,[]⟩)] [(2,⟨y24,a,t2,[.O,.O,.O,.O]⟩),(5,⟨y24,a1,x,[.O,.O,.O,.O]⟩)])) (j6U w) (λ(k:Z6G Unit)=>(((λ(v_1:List Int)=>k (.exit 0) (mkS 108 108 [(0,.val ⟨.str,false,s,[]⟩),(2,.ptr ⟨true,2,[]⟩),(4,.val ⟨y9,false,w,[.S]⟩),(5,.ptr ⟨true,5,[]⟩),(6,.val ⟨y26,false,v_1,[.O]⟩)] [(2,⟨y24,a,t2,[.O,.O,.O,.O]⟩),(5,⟨y24,a1,x,[.O,.O,.O,.O]⟩)]))):((List Int)->Res))) (λv rec k=>by kernel_rfl) n v k
theorem jku {W0:Base} {M:Nat->Prop} (hnp:W0.np<=0):Z1W Tryz.prog W0 M (pl (pr (pl (pr (pr (pr (pr j0y))))))) j18:=show Z1W Tryz.prog W0 M (Code.loop (pl (pl (pr (pl (pr (pr (pr (pr j0y))))))))) j18 from Z8X (Z6Q follows j00 (Z7K (Z8C j6n (Z8C j0S (Z8C j11 (Z8C j7K Z8W))))) hnp [] (pl (pl (pr (pl (pr (pr (pr (pr j0y)))))))) .o trivial) (ks:=[0,2,4,5,6,7]) (bs:=[2,5]) (fX:=(Z8a ([],[]) [(0,[0,2,4,5,6],[2,5])] ([],[]))) (Z8U _ _ _) Z0Y (by
 intro σ k r h
 obtain ⟨hn,h1⟩:=Z8G h
 obtain ⟨s,hs0,h2⟩:=Z8J h1
 obtain ⟨hs2,h3⟩:=Z8H h2
 obtain ⟨w,hs4,h4⟩:=Z8J h3
 obtain ⟨hs5,h5⟩:=Z8H h4
 obtain ⟨v_,hs6,h6⟩:=Z8J h5
 obtain ⟨i,hs7,h7⟩:=Z8J h6
 obtain ⟨a,t2,hb2,h8⟩:=Z8D h7
 obtain ⟨a1,x,hb5,h9⟩:=Z8D h8
 refine ⟨_,?_,(jk2 s w a t2 a1 x Z0Y (v_,i) k).trans h9⟩
 exact Z9e hn ⟨hs0,hs2,hs4,hs5,hs6,hs7,trivial⟩ ⟨hb2,hb5,trivial⟩)
noncomputable def j4g (w:qL) (v_:List Int) (t36:qL) (t37:Int) (t38:Int) (x:qQ) (rec:Int->qQ->Res) (k0:qQ->Res):Res:=
 bif decide (t38<t37) then
  bif inb t38 (List.length t36) then
   bif decide (t38>0) then
    bif inb 0 (List.length w) then
     bif sEq (nth eS t36 t38) (nth eS w 0) then
      bif inb 0 (List.length v_) then
       bif inb 1 (List.length v_) then
        rec (Z8g (t38+1)) (3,(0,0,0,eS,[],[],0,eS,[],[],eS,eS),t38,nth 0 v_ 0,nth 0 v_ 1)
       else none
      else none
     else
      rec (Z8g (t38+1)) x
    else none
   else
    rec (Z8g (t38+1)) x
  else none
 else
  k0 x
noncomputable def j6V (w:qL) (v_:List Int) (t36:qL) (t37:Int):(Int×qQ)->(Int×qQ->Res)->((qQ->Res))->Res:=λv rec q=>j4g w v_ t36 t37 v.1 v.2 (λt38 x=>rec (t38,x)) q
noncomputable def jbP (w:qL) (v_:List Int) (t36:qL) (t37:Int) (n:Nat) (t38:Int) (x:qQ) (k0:qQ->Res):Res:=Z10 (j6V w v_ t36 t37) n (t38,x) (k0)
noncomputable def j1R:Z1l Unit:=λσ k=>rdN σ 108<|rdV σ 0 .str false [] λs=>rdT σ 2 (.ptr ⟨true,2,[]⟩)<|rdV σ 4 y9 false [.S] λw=>rdT σ 5 (.ptr ⟨true,5,[]⟩)<|rdV σ 6 y26 false [.O] λv_=>rdV σ 36 y9 false [.O] λt36=>rdV σ 37 (.int .i64) false [] λt37=>rdV σ 38 (.int .i64) false [] λt38=>rdB σ 2 y24 [.O,.O,.O,.O] λa t2=>rdB σ 5 y24 [.O,.O,.O,.O] λa1 x=>jbP w v_ t36 t37 Z0Y t38 x (λ(x1:qQ)=>k (.exit 2) (mkS 108 108 [(0,.val ⟨.str,false,s,[]⟩),(2,.ptr ⟨true,2,[]⟩),(4,.val ⟨y9,false,w,[.S]⟩),(5,.ptr ⟨true,5,[]⟩),(6,.val ⟨y26,false,v_,[.O]⟩)] [(2,⟨y24,a,t2,[.O,.O,.O,.O]⟩),(5,⟨y24,a1,x1,[.O,.O,.O,.O]⟩)]))
theorem jk3 (s:qB) (w:qL) (v_:List Int) (t36:qL) (t37:Int) (a:Bool) (t2:qQ) (a1:Bool) (n:Nat) (v:Int×qQ) (k:Z6G Unit):Z3X (Z0R j4m [j18] .o (pl (pl (pr (pl (pr (pr (pr (pr (pr j0y)))))))))) (λσ=>σ.forget [0,2,4,5,6,36,37,38] [2,5]) (Z8a ([],[]) [(2,[0,2,4,5,6],[2,5])] ([],[])) n (mkS 108 108 [(0,.val ⟨.str,false,s,[]⟩),(2,.ptr ⟨true,2,[]⟩),(4,.val ⟨y9,false,w,[.S]⟩),(5,.ptr ⟨true,5,[]⟩),(6,.val ⟨y26,false,v_,[.O]⟩),(36,.val ⟨y9,false,t36,[.O]⟩),(37,.val ⟨(.int .i64),false,t37,[]⟩),(38,.val ⟨(.int .i64),false,v.1,[]⟩)] [(2,⟨y24,a,t2,[.O,.O,.O,.O]⟩),(5,⟨y24,a1,v.2,[.O,.O,.O,.O]⟩)]) k=Z10 (j6V w v_ t36 t37) n v ((λ(k:Z6G Unit)=>(((λ(x1:qQ)=>k (.exit 2) (mkS 108 108 [(0,.val ⟨.str,false,s,[]⟩),(2,.ptr ⟨true,2,[]⟩),(4,.val ⟨y9,false,w,[.S]⟩),(5,.ptr ⟨true,5,[]⟩),(6,.val ⟨y26,false,v_,[.O]⟩)] [(2,⟨y24,a,t2,[.O,.O,.O,.O]⟩),(5,⟨y24,a1,x1,[.O,.O,.O,.O]⟩)]))):(qQ->Res))) k):=Z80 (λv:Int×qQ=>(mkS 108 108 [(0,.val ⟨.str,false,s,[]⟩),(2,.ptr ⟨true,2,[]⟩),(4,.val ⟨y9,false,w,[.S]⟩),(5,.ptr ⟨true,5,[]⟩),(6,.val ⟨y26,false,v_,[.O]⟩),(36,.val ⟨y9,false,t36,[.O]⟩),(37,.val ⟨(.int .i64),false,t37,[]⟩),(38,.val ⟨(.int .i64),false,v.1,[]⟩)] [(2,⟨y24,a,t2,[.O,.O,.O,.O]⟩),(5,⟨y24,a1,v.2,[.O,.O,.O,.O]⟩)])) (j6V w v_ t36 t37) (λ(k:Z6G Unit)=>(((λ(x1:qQ)=>k (.exit 2) (mkS 108 108 [(0,.val ⟨.str,false,s,[]⟩),(2,.ptr ⟨true,2,[]⟩),(4,.val ⟨y9,false,w,[.S]⟩),(5,.ptr ⟨true,5,[]⟩),(6,.val ⟨y26,false,v_,[.O]⟩)] [(2,⟨y24,a,t2,[.O,.O,.O,.O]⟩),(5,⟨y24,a1,x1,[.O,.O,.O,.O]⟩)]))):(qQ->Res))) (λv rec k=>by kernel_rfl) n v k
theorem jkv {W0:Base} {M:Nat->Prop} (hnp:W0.np<=0):Z1W Tryz.prog W0 M (pl (pr (pl (pr (pr (pr (pr (pr j0y)))))))) j1R:=show Z1W Tryz.prog W0 M (Code.loop (pl (pl (pr (pl (pr (pr (pr (pr (pr j0y)))))))))) j1R from Z8X (Z6Q follows j00 (Z7K (Z8C j6n (Z8C j0S (Z8C j11 (Z8C j7K Z8W))))) hnp [j18] (pl (pl (pr (pl (pr (pr (pr (pr (pr j0y))))))))) .o trivial) (ks:=[0,2,4,5,6,36,37,38]) (bs:=[2,5]) (fX:=(Z8a ([],[]) [(2,[0,2,4,5,6],[2,5])] ([],[]))) (Z8U _ _ _) Z0Y (by
 intro σ k r h
 obtain ⟨hn,h1⟩:=Z8G h
 obtain ⟨s,hs0,h2⟩:=Z8J h1
 obtain ⟨hs2,h3⟩:=Z8H h2
 obtain ⟨w,hs4,h4⟩:=Z8J h3
 obtain ⟨hs5,h5⟩:=Z8H h4
 obtain ⟨v_,hs6,h6⟩:=Z8J h5
 obtain ⟨t36,hs36,h7⟩:=Z8J h6
 obtain ⟨t37,hs37,h8⟩:=Z8J h7
 obtain ⟨t38,hs38,h9⟩:=Z8J h8
 obtain ⟨a,t2,hb2,h10⟩:=Z8D h9
 obtain ⟨a1,x,hb5,h11⟩:=Z8D h10
 refine ⟨_,?_,(jk3 s w v_ t36 t37 a t2 a1 Z0Y (t38,x) k).trans h11⟩
 exact Z9e hn ⟨hs0,hs2,hs4,hs5,hs6,hs36,hs37,hs38,trivial⟩ ⟨hb2,hb5,trivial⟩)
noncomputable def j2E (s:qB) (v_:List Int) (t63:qB) (x:qQ) (k0:qQ->Res):Res:=
 bif sEq t63 j0E then
  bif decide ((nI (ByteArray.size s))>4) then
   bif Z6R 4 (nI (ByteArray.size s)) (ByteArray.size s) then
    j5L (Z9k s 4 (nI (ByteArray.size s))) λ(r:Int×Int×qS) (r1:Bool)=>
     k0 (1,r,x.2.2)
   else none
  else
   k0 (1,x.2)
 else
  bif sEq t63 j0H then
   bif inb 0 (List.length v_) then
    k0 (2,(0,0,0,eS,[],[],0,eS,[],[],eS,eS),nth 0 v_ 0,0,0)
   else none
  else
   bif sEq t63 j0I then
    bif inb 0 (List.length v_) then
     k0 (4,(0,0,0,eS,[],[],0,eS,[],[],eS,eS),nth 0 v_ 0,0,0)
    else none
   else
    bif sEq t63 j0N then
     k0 (5,x.2)
    else
     bif sEq t63 j0M then
      k0 (6,x.2)
     else
      bif sEq t63 j0L then
       k0 (7,x.2)
      else
       k0 x
noncomputable def j58:Z1l Unit:=λσ k=>rdN σ 108<|rdV σ 0 .str false [] λs=>rdT σ 2 (.ptr ⟨true,2,[]⟩)<|rdT σ 5 (.ptr ⟨true,5,[]⟩)<|rdV σ 6 y26 false [.O] λv_=>rdV σ 63 .str false [] λt63=>rdB σ 2 y24 [.O,.O,.O,.O] λa t2=>rdB σ 5 y24 [.O,.O,.O,.O] λa1 x=>j2E s v_ t63 x (λ(x1:qQ)=>k .normal (mkS 108 108 [(0,.val ⟨.str,false,s,[]⟩),(2,.ptr ⟨true,2,[]⟩),(5,.ptr ⟨true,5,[]⟩)] [(2,⟨y24,a,t2,[.O,.O,.O,.O]⟩),(5,⟨y24,a1,x1,[.O,.O,.O,.O]⟩)]))
theorem jk4 (s:qB) (v_:List Int) (t63:qB) (a:Bool) (t2:qQ) (a1:Bool) (x:qQ) (k:Z6G Unit):Z0R j4m [j18,j1R] .o (pr (pl (pr (pr (pr (pr (pr (pr j0y)))))))) (mkS 108 108 [(0,.val ⟨.str,false,s,[]⟩),(2,.ptr ⟨true,2,[]⟩),(5,.ptr ⟨true,5,[]⟩),(6,.val ⟨y26,false,v_,[.O]⟩),(63,.val ⟨.str,false,t63,[]⟩)] [(2,⟨y24,a,t2,[.O,.O,.O,.O]⟩),(5,⟨y24,a1,x,[.O,.O,.O,.O]⟩)]) (λe σ=>k e ((Z8a ([0,2,5],[2,5]) [] ([],[])) e σ))=j2E s v_ t63 x (λ(x1:qQ)=>k .normal (mkS 108 108 [(0,.val ⟨.str,false,s,[]⟩),(2,.ptr ⟨true,2,[]⟩),(5,.ptr ⟨true,5,[]⟩)] [(2,⟨y24,a,t2,[.O,.O,.O,.O]⟩),(5,⟨y24,a1,x1,[.O,.O,.O,.O]⟩)])):=by kernel_rfl
theorem jkw {W0:Base} {M:Nat->Prop} (hnp:W0.np<=0):Z1W Tryz.prog W0 M (pr (pl (pr (pr (pr (pr (pr (pr j0y)))))))) j58:=Z91 (Z6Q follows j00 (Z7K (Z8C j6n (Z8C j0S (Z8C j11 (Z8C j7K Z8W))))) hnp [j18,j1R] ((pr (pl (pr (pr (pr (pr (pr (pr j0y))))))))) .o trivial) (fg:=(Z8a ([0,2,5],[2,5]) [] ([],[]))) (Z8U _ _ _) (by
 intro σ k r h
 obtain ⟨hn,h1⟩:=Z8G h
 obtain ⟨s,hs0,h2⟩:=Z8J h1
 obtain ⟨hs2,h3⟩:=Z8H h2
 obtain ⟨hs5,h4⟩:=Z8H h3
 obtain ⟨v_,hs6,h5⟩:=Z8J h4
 obtain ⟨t63,hs63,h6⟩:=Z8J h5
 obtain ⟨a,t2,hb2,h7⟩:=Z8D h6
 obtain ⟨a1,x,hb5,h8⟩:=Z8D h7
 refine ⟨_,?_,(jk4 s v_ t63 a t2 a1 x k).trans h8⟩
 exact Z9e hn ⟨hs0,hs2,hs5,hs6,hs63,trivial⟩ ⟨hb2,hb5,trivial⟩)
noncomputable def j2F (s:qB) (x:qQ) (k0:Bool->qQ->Res):Res:=
 bif sEq s eS then
  k0 false (0,(0,0,0,eS,[],[],0,eS,[],[],eS,eS),0,0,0)
 else
  j97 x λ(r:qB)=>
   bif sNe r s then
    k0 false (0,(0,0,0,eS,[],[],0,eS,[],[],eS,eS),0,0,0)
   else
    k0 true x
noncomputable def jbc:Z1l Unit:=λσ k=>rdN σ 108<|rdV σ 0 .str false [] λs=>rdT σ 2 (.ptr ⟨true,2,[]⟩)<|rdT σ 5 (.ptr ⟨true,5,[]⟩)<|rdB σ 2 y24 [.O,.O,.O,.O] λa t2=>rdB σ 5 y24 [.O,.O,.O,.O] λa1 x=>j2F s x (λ(t3:Bool) (t21:qQ)=>k .ret (mkS 108 108 [(2,.ptr ⟨true,2,[]⟩),(3,.val ⟨.bool,false,t3,[]⟩)] [(2,⟨y24,a,t21,[.O,.O,.O,.O]⟩)]))
theorem jk5 (s:qB) (a:Bool) (t2:qQ) (a1:Bool) (x:qQ) (k:Z6G Unit):Z0R j4m [j18,j1R,j58] .o (pr (pr (pr (pr (pr (pr (pr j0y))))))) (mkS 108 108 [(0,.val ⟨.str,false,s,[]⟩),(2,.ptr ⟨true,2,[]⟩),(5,.ptr ⟨true,5,[]⟩)] [(2,⟨y24,a,t2,[.O,.O,.O,.O]⟩),(5,⟨y24,a1,x,[.O,.O,.O,.O]⟩)]) (λe σ=>k e ((Z8a ([],[]) [] ([2,3],[2])) e σ))=j2F s x (λ(t3:Bool) (t21:qQ)=>k .ret (mkS 108 108 [(2,.ptr ⟨true,2,[]⟩),(3,.val ⟨.bool,false,t3,[]⟩)] [(2,⟨y24,a,t21,[.O,.O,.O,.O]⟩)])):=by kernel_rfl
theorem jkx {W0:Base} {M:Nat->Prop} (hnp:W0.np<=0):Z1W Tryz.prog W0 M (pr (pr (pr (pr (pr (pr (pr j0y))))))) jbc:=Z91 (Z6Q follows j00 (Z7K (Z8C j6n (Z8C j0S (Z8C j11 (Z8C j7K Z8W))))) hnp [j18,j1R,j58] ((pr (pr (pr (pr (pr (pr (pr j0y)))))))) .o trivial) (fg:=(Z8a ([],[]) [] ([2,3],[2]))) (Z8U _ _ _) (by
 intro σ k r h
 obtain ⟨hn,h1⟩:=Z8G h
 obtain ⟨s,hs0,h2⟩:=Z8J h1
 obtain ⟨hs2,h3⟩:=Z8H h2
 obtain ⟨hs5,h4⟩:=Z8H h3
 obtain ⟨a,t2,hb2,h5⟩:=Z8D h4
 obtain ⟨a1,x,hb5,h6⟩:=Z8D h5
 refine ⟨_,?_,(jk5 s a t2 a1 x k).trans h6⟩
 exact Z9e hn ⟨hs0,hs2,hs5,trivial⟩ ⟨hb2,hb5,trivial⟩)
noncomputable def j98 (s:qB) (k0:qQ->Bool->Res):Res:=
 j6X s λ(r:qL)=>
  j8u r Z0Y [0,0] 1 λ(v_:List Int)=>
   jbP r v_ [eS,j0p,j0j,j0o,j0z] 5 Z0Y 0 (0,(0,0,0,eS,[],[],0,eS,[],[],eS,eS),0,0,0) λ(x:qQ)=>
    bif inb 0 (List.length r) then
     j2E s v_ (nth eS r 0) x λ(x1:qQ)=>
      j2F s x1 λ(t:Bool) (t1:qQ)=>
       k0 t1 t
    else none
noncomputable def jfV:Sig Unit:=⟨[.borrow .str false],[true,false],λvals ext k=>av vals .str λs vals=>nl vals<|nl ext<|j98 s (λ(r0:qQ) (r1:Bool)=>k [⟨y24,true,r0,[.O,.O,.O,.O]⟩,⟨.bool,false,r1,[]⟩] [] [])⟩
theorem jmY (s:qB) (a_s:Bool) (t_s:List Tag) (k:qK):Z6X j4m [j18,j1R,j58,jbc] (.t .o (.t .o (.t .o (.t .o (.t (.t .o (.t (.x 0) .o)) (.t (.t .o (.t (.x 1) .o)) (.t (.t .o (.x 2)) (.x 3)))))))) false Tryz.f33 [.borrow .str false] [true,false] [⟨.str,a_s,s,t_s⟩] [] k=j98 s (λ(r0:qQ) (r1:Bool)=>k [⟨y24,true,r0,[.O,.O,.O,.O]⟩,⟨.bool,false,r1,[]⟩] [] []):=by kernel_rfl
theorem jfm:Z1k Tryz.prog 33 jfV:=Z8N (Γ:=j4m) (X:=[j18,j1R,j58,jbc]) (ht:=(.t .o (.t .o (.t .o (.t .o (.t (.t .o (.t (.x 0) .o)) (.t (.t .o (.t (.x 1) .o)) (.t (.t .o (.x 2)) (.x 3))))))))) (fz:=false) (c:=j0y) follows j00 (Z8C j6n (Z8C j0S (Z8C j11 (Z8C j7K Z8W)))) (Z1A.mk trivial ((Z1A.mk trivial ((Z1A.mk trivial ((Z1A.mk trivial ((Z1A.mk ((Z1A.mk trivial ((Z1A.mk (Z1A.x_mk (λW0 M hnp=>jku (W0:=W0) (M:=M) hnp)) trivial)))) ((Z1A.mk ((Z1A.mk trivial ((Z1A.mk (Z1A.x_mk (λW0 M hnp=>jkv (W0:=W0) (M:=M) hnp)) trivial)))) ((Z1A.mk ((Z1A.mk trivial (Z1A.x_mk (λW0 M hnp=>jkw (W0:=W0) (M:=M) hnp)))) (Z1A.x_mk (λW0 M hnp=>jkx (W0:=W0) (M:=M) hnp))))))))))))))) Tryz.func33 (by kernel_rfl) (by kernel_rfl) (by decide) (by
 intro vals ext k r h
 obtain ⟨s,a_s,t_s,vals,rfl,h1⟩:=Z8T h
 obtain ⟨rfl,h2⟩:=Z90 h1
 obtain ⟨rfl,h3⟩:=Z90 h2
 exact (jmY s a_s t_s k).trans h3)
noncomputable def j4D:Code:=(Tryz.f42.body).getD .skip
noncomputable def jaZ:Env Unit:=⟨tys,[(33,jfV),(123,jfX)],0⟩
noncomputable def j3m (t14:qL) (t15:Int) (out:List qQ) (t16:Int) (rec:(List qQ)->Int->Res) (k0:(List qQ)->Res) (k1:Int->Res):Res:=
 bif decide (t16<t15) then
  bif inb t16 (List.length t14) then
   bif sEq (nth eS t14 t16) eS then
    rec out (Z8g (t16+1))
   else
    bif inb 0 (ByteArray.size (nth eS t14 t16)) then
     bif ((bt (nth eS t14 t16) 0)==35) then
      rec out (Z8g (t16+1))
     else
      j98 (nth eS t14 t16) λ(r:qQ) (r1:Bool)=>
       bif !r1 then
        k1 (Z8g (t16+1))
       else
        bif ((nI (List.length out))==300) then
         k1 (Z8g (t16+1))
        else
         bif lim ((List.length out)+1) then
          rec (out++[r]) (Z8g (t16+1))
         else none
    else none
  else none
 else
  k0 out
noncomputable def j3n (t14:qL) (t15:Int):((List qQ)×Int)->((List qQ)×Int->Res)->(((List qQ)->Res)×(Int->Res))->Res:=λv rec q=>j3m t14 t15 v.1 v.2 (λout t16=>rec (out,t16)) q.1 q.2
noncomputable def jak (t14:qL) (t15:Int) (n:Nat) (out:List qQ) (t16:Int) (k0:(List qQ)->Res) (k1:Int->Res):Res:=Z10 (j3n t14 t15) n (out,t16) (k0,k1)
noncomputable def j60:Z1l Unit:=λσ k=>rdN σ 48<|rdV σ 4 y25 false [.O] λout=>rdV σ 14 y9 false [.S] λt14=>rdV σ 15 (.int .i64) false [] λt15=>rdV σ 16 (.int .i64) false [] λt16=>jak t14 t15 Z0Y out t16 (λ(out1:List qQ)=>k (.exit 0) (mkS 48 48 [(4,.val ⟨y25,false,out1,[.O]⟩)] [])) (λ(t3:Int)=>k .ret (mkS 48 48 [(2,.val ⟨y25,false,[],[.O]⟩),(3,.val ⟨(.int .i64),false,t3,[]⟩)] []))
theorem ji3 (t14:qL) (t15:Int) (n:Nat) (v:(List qQ)×Int) (k:Z6G Unit):Z3X (Z0R jaZ [] .o (pl (pl (pr (pl (pr (pr (pr j4D)))))))) (λσ=>σ.forget [4,14,15,16] []) (Z8a ([],[]) [(0,[4],[])] ([2,3],[])) n (mkS 48 48 [(4,.val ⟨y25,false,v.1,[.O]⟩),(14,.val ⟨y9,false,t14,[.S]⟩),(15,.val ⟨(.int .i64),false,t15,[]⟩),(16,.val ⟨(.int .i64),false,v.2,[]⟩)] []) k=Z10 (j3n t14 t15) n v ((λ(k:Z6G Unit)=>(((λ(out1:List qQ)=>k (.exit 0) (mkS 48 48 [(4,.val ⟨y25,false,out1,[.O]⟩)] [])),(λ(t3:Int)=>k .ret (mkS 48 48 [(2,.val ⟨y25,false,[],[.O]⟩),(3,.val ⟨(.int .i64),false,t3,[]⟩)] []))):((List qQ)->Res)×(Int->Res))) k):=Z80 (λv:(List qQ)×Int=>(mkS 48 48 [(4,.val ⟨y25,false,v.1,[.O]⟩),(14,.val ⟨y9,false,t14,[.S]⟩),(15,.val ⟨(.int .i64),false,t15,[]⟩),(16,.val ⟨(.int .i64),false,v.2,[]⟩)] [])) (j3n t14 t15) (λ(k:Z6G Unit)=>(((λ(out1:List qQ)=>k (.exit 0) (mkS 48 48 [(4,.val ⟨y25,false,out1,[.O]⟩)] [])),(λ(t3:Int)=>k .ret (mkS 48 48 [(2,.val ⟨y25,false,[],[.O]⟩),(3,.val ⟨(.int .i64),false,t3,[]⟩)] []))):((List qQ)->Res)×(Int->Res))) (λv rec k=>by kernel_rfl) n v k
theorem ji8 {W0:Base} {M:Nat->Prop} (hnp:W0.np<=0):Z1W Tryz.prog W0 M (pl (pr (pl (pr (pr (pr j4D)))))) j60:=show Z1W Tryz.prog W0 M (Code.loop (pl (pl (pr (pl (pr (pr (pr j4D)))))))) j60 from Z8X (Z6Q follows j00 (Z7K (Z8C jfm (Z8C jfo Z8W))) hnp [] (pl (pl (pr (pl (pr (pr (pr j4D))))))) .o trivial) (ks:=[4,14,15,16]) (bs:=[]) (fX:=(Z8a ([],[]) [(0,[4],[])] ([2,3],[]))) (Z8U _ _ _) Z0Y (by
 intro σ k r h
 obtain ⟨hn,h1⟩:=Z8G h
 obtain ⟨out,hs4,h2⟩:=Z8J h1
 obtain ⟨t14,hs14,h3⟩:=Z8J h2
 obtain ⟨t15,hs15,h4⟩:=Z8J h3
 obtain ⟨t16,hs16,h5⟩:=Z8J h4
 refine ⟨_,?_,(ji3 t14 t15 Z0Y (out,t16) k).trans h5⟩
 exact Z9e hn ⟨hs4,hs14,hs15,hs16,trivial⟩ trivial)
noncomputable def j6R (text:qB) (k0:(List qQ)->Int->Res):Res:=
 bif decide ((nI (ByteArray.size text))>20000) then
  k0 [] 1
 else
  j99 text λ(r:qL)=>
   jak r (nI (List.length r)) Z0Y [] 0
    (λ(out:List qQ)=>
     k0 out 0)
    (λ(t:Int)=>
     k0 [] t)
noncomputable def jen:Sig Unit:=⟨[.borrow .str false],[false,false],λvals ext k=>av vals .str λtext vals=>nl vals<|nl ext<|j6R text (λ(r0:List qQ) (r1:Int)=>k [⟨y25,false,r0,[.O]⟩,⟨(.int .i64),false,r1,[]⟩] [] [])⟩
theorem jjC (text:qB) (a_text:Bool) (t_text:List Tag) (k:qK):Z6X jaZ [j60] (.t .o (.t .o (.t .o (.t (.t .o (.t (.x 0) .o)) .o)))) false Tryz.f42 [.borrow .str false] [false,false] [⟨.str,a_text,text,t_text⟩] [] k=j6R text (λ(r0:List qQ) (r1:Int)=>k [⟨y25,false,r0,[.O]⟩,⟨(.int .i64),false,r1,[]⟩] [] []):=by kernel_rfl
theorem jjF:Z1k Tryz.prog 42 jen:=Z8N (Γ:=jaZ) (X:=[j60]) (ht:=(.t .o (.t .o (.t .o (.t (.t .o (.t (.x 0) .o)) .o))))) (fz:=false) (c:=j4D) follows j00 (Z8C jfm (Z8C jfo Z8W)) (Z1A.mk trivial ((Z1A.mk trivial ((Z1A.mk trivial ((Z1A.mk ((Z1A.mk trivial ((Z1A.mk (Z1A.x_mk (λW0 M hnp=>ji8 (W0:=W0) (M:=M) hnp)) trivial)))) trivial))))))) Tryz.func42 (by kernel_rfl) (by kernel_rfl) (by decide) (by
 intro vals ext k r h
 obtain ⟨text,a_text,t_text,vals,rfl,h1⟩:=Z8T h
 obtain ⟨rfl,h2⟩:=Z90 h1
 obtain ⟨rfl,h3⟩:=Z90 h2
 exact (jjC text a_text t_text k).trans h3)
noncomputable def jat:Code:=(Tryz.f99.body).getD .skip
noncomputable def jdj:Env Unit:=⟨tys,[],0⟩
noncomputable def j9H (t8:Int) (s:qQ) (x:qQ) (k0:qQ->Res):Res:=
 bif (t8==2) then
  k0 (x.1,x.2.1,s.2.2.1,x.2.2.2)
 else
  bif (t8==4) then
   k0 (x.1,x.2.1,s.2.2.1,x.2.2.2)
  else
   bif (t8==3) then
    bif (s.2.2.1==4) then
     k0 (x.1,x.2.1,s.2.2.1,s.2.2.2.1,s.2.2.2.2)
    else
     k0 (x.1,x.2.1,s.2.2.1,s.2.2.2.1,x.2.2.2.2)
   else
    k0 x
noncomputable def jbX:Z1l Unit:=λσ k=>rdN σ 30<|rdT σ 1 (.ptr ⟨true,1,[]⟩)<|rdT σ 2 (.ptr ⟨true,2,[]⟩)<|rdT σ 3 (.ptr ⟨true,3,[]⟩)<|rdV σ 8 (.int .i64) false [] λt8=>rdB σ 1 y24 [.S,.S,.S,.S] λa s=>rdB σ 2 y24 [.O,.O,.O,.O] λa1 t2=>rdB σ 3 y24 [.O,.O,.O,.O] λa2 x=>j9H t8 s x (λ(x1:qQ)=>k .normal (mkS 30 30 [(2,.ptr ⟨true,2,[]⟩),(3,.ptr ⟨true,3,[]⟩)] [(2,⟨y24,a1,t2,[.O,.O,.O,.O]⟩),(3,⟨y24,a2,x1,[.O,.O,.O,.O]⟩)]))
theorem jll (t8:Int) (a:Bool) (s:qQ) (a1:Bool) (t2:qQ) (a2:Bool) (x:qQ) (k:Z6G Unit):Z0R jdj [] .o (pr (pl (pr (pr jat)))) (mkS 30 30 [(1,.ptr ⟨true,1,[]⟩),(2,.ptr ⟨true,2,[]⟩),(3,.ptr ⟨true,3,[]⟩),(8,.val ⟨(.int .i64),false,t8,[]⟩)] [(1,⟨y24,a,s,[.S,.S,.S,.S]⟩),(2,⟨y24,a1,t2,[.O,.O,.O,.O]⟩),(3,⟨y24,a2,x,[.O,.O,.O,.O]⟩)]) (λe σ=>k e ((Z8a ([2,3],[2,3]) [] ([],[])) e σ))=j9H t8 s x (λ(x1:qQ)=>k .normal (mkS 30 30 [(2,.ptr ⟨true,2,[]⟩),(3,.ptr ⟨true,3,[]⟩)] [(2,⟨y24,a1,t2,[.O,.O,.O,.O]⟩),(3,⟨y24,a2,x1,[.O,.O,.O,.O]⟩)])):=by kernel_rfl
theorem jm8 {W0:Base} {M:Nat->Prop} (hnp:W0.np<=0):Z1W Tryz.prog W0 M (pr (pl (pr (pr jat)))) jbX:=Z91 (Z6Q follows j00 (Z7K Z8W) hnp [] ((pr (pl (pr (pr jat))))) .o trivial) (fg:=(Z8a ([2,3],[2,3]) [] ([],[]))) (Z8U _ _ _) (by
 intro σ k r h
 obtain ⟨hn,h1⟩:=Z8G h
 obtain ⟨hs1,h2⟩:=Z8H h1
 obtain ⟨hs2,h3⟩:=Z8H h2
 obtain ⟨hs3,h4⟩:=Z8H h3
 obtain ⟨t8,hs8,h5⟩:=Z8J h4
 obtain ⟨a,s,hb1,h6⟩:=Z8D h5
 obtain ⟨a1,t2,hb2,h7⟩:=Z8D h6
 obtain ⟨a2,x,hb3,h8⟩:=Z8D h7
 refine ⟨_,?_,(jll t8 a s a1 t2 a2 x k).trans h8⟩
 exact Z9e hn ⟨hs1,hs2,hs3,hs8,trivial⟩ ⟨hb1,hb2,hb3,trivial⟩)
noncomputable def jad (s:qQ) (k0:qQ->Res):Res:=
 j9H s.1 s (s.1,(0,0,0,eS,[],[],0,eS,[],[],eS,eS),0,0,0) λ(x:qQ)=>
  k0 x
noncomputable def jgF:Sig Unit:=⟨[.borrow y24 true],[true],λvals ext k=>av vals y24 λs vals=>nl vals<|nl ext<|jad s (λ(r0:qQ)=>k [⟨y24,true,r0,[.O,.O,.O,.O]⟩] [] [])⟩
theorem joe (s:qQ) (a_s:Bool) (t_s:List Tag) (k:qK):Z6X jdj [jbX] (.t .o (.t .o (.t (.t .o (.x 0)) .o))) false Tryz.f99 [.borrow y24 true] [true] [⟨y24,a_s,s,t_s⟩] [] k=jad s (λ(r0:qQ)=>k [⟨y24,true,r0,[.O,.O,.O,.O]⟩] [] []):=by kernel_rfl
theorem jd7:Z1k Tryz.prog 99 jgF:=Z8N (Γ:=jdj) (X:=[jbX]) (ht:=(.t .o (.t .o (.t (.t .o (.x 0)) .o)))) (fz:=false) (c:=jat) follows j00 Z8W (Z1A.mk trivial ((Z1A.mk trivial ((Z1A.mk ((Z1A.mk trivial (Z1A.x_mk (λW0 M hnp=>jm8 (W0:=W0) (M:=M) hnp)))) trivial))))) Tryz.func99 (by kernel_rfl) (by kernel_rfl) (by decide) (by
 intro vals ext k r h
 obtain ⟨s,a_s,t_s,vals,rfl,h1⟩:=Z8T h
 obtain ⟨rfl,h2⟩:=Z90 h1
 obtain ⟨rfl,h3⟩:=Z90 h2
 exact (joe s a_s t_s k).trans h3)
noncomputable def jng:Code:=(Tryz.f100.body).getD .skip
noncomputable def jfw:Env Unit:=⟨tys,[(174,j1H)],0⟩
noncomputable def j8Z (s:qQ) (k0:qB->(List Int)->Res):Res:=
 bif (s.1==2) then
  Z6L
   (k0 j0H [s.2.2.1])
   (k0 j0H [s.2.2.1])
 else
  bif (s.1==3) then
   j0O s.2.2.1 1 3 λ(r:Bool)=>
    bif r then
     Z6L
      (bif inb (Z8g (s.2.2.1-1)) 3 then
       Z6L
        (k0 (nth eS [j0p,j0j,j0o] (Z8g (s.2.2.1-1))) [s.2.2.2.1])
        (k0 (nth eS [j0p,j0j,j0o] (Z8g (s.2.2.1-1))) [s.2.2.2.1])
      else none)
      (bif inb (Z8g (s.2.2.1-1)) 3 then
       k0 (nth eS [j0p,j0j,j0o] (Z8g (s.2.2.1-1))) [s.2.2.2.1]
      else none)
    else
     bif (s.2.2.1==4) then
      Z6L
       (k0 j0z [s.2.2.2.1,s.2.2.2.2])
       (k0 j0z [s.2.2.2.1,s.2.2.2.2])
     else
      k0 eS []
  else
   bif (s.1==4) then
    Z6L
     (k0 j0I [s.2.2.1])
     (k0 j0I [s.2.2.1])
   else
    bif (s.1==5) then
     k0 j0N []
    else
     bif (s.1==6) then
      k0 j0M []
     else
      bif (s.1==7) then
       k0 j0L []
      else
       k0 eS []
noncomputable def jfO:Sig Unit:=⟨[.borrow y24 true],[false,false],λvals ext k=>av vals y24 λs vals=>nl vals<|nl ext<|j8Z s (λ(r0:qB) (r1:List Int)=>k [⟨.str,false,r0,[]⟩,⟨y26,false,r1,[.O]⟩] [] [])⟩
theorem jmP (s:qQ) (a_s:Bool) (t_s:List Tag) (k:qK):Z6X jfw [] .o false Tryz.f100 [.borrow y24 true] [false,false] [⟨y24,a_s,s,t_s⟩] [] k=j8Z s (λ(r0:qB) (r1:List Int)=>k [⟨.str,false,r0,[]⟩,⟨y26,false,r1,[.O]⟩] [] []):=by kernel_rfl
theorem jca:Z1k Tryz.prog 100 jfO:=Z8N (Γ:=jfw) (X:=[]) (ht:= .o) (fz:=false) (c:=jng) follows j00 (Z8C j0s Z8W) trivial Tryz.func100 (by kernel_rfl) (by kernel_rfl) (by decide) (by
 intro vals ext k r h
 obtain ⟨s,a_s,t_s,vals,rfl,h1⟩:=Z8T h
 obtain ⟨rfl,h2⟩:=Z90 h1
 obtain ⟨rfl,h3⟩:=Z90 h2
 exact (jmP s a_s t_s k).trans h3)
noncomputable def j2q:Code:=(Tryz.f28.body).getD .skip
noncomputable def j9v:Env Unit:=⟨tys,[(27,jdz),(98,(j1N j0T)),(99,jgF),(100,jfO),(101,jcJ)],0⟩
noncomputable def j5v (word:qB) (s:qQ) (k0:Bool->Res):Res:=
 bif sEq word eS then
  k0 true
 else
  bif (s.2.1.1 != 0) then
   k0 true
  else
   bif (s.2.1.2.1 != 0) then
    k0 true
   else
    j6c s.2.1.2.2 λ(r:Bool)=>
     k0 (!r)
noncomputable def j54:Z1l Unit:=λσ k=>rdN σ 87<|rdT σ 1 (.ptr ⟨true,1,[]⟩)<|rdV σ 5 .str false [] λword=>rdV σ 6 y26 false [.O] λl=>rdB σ 1 y24 [.S,.S,.S,.S] λa s=>j5v word s (λ(t66:Bool)=>k .normal (mkS 87 87 [(5,.val ⟨.str,false,word,[]⟩),(6,.val ⟨y26,false,l,[.O]⟩),(66,.val ⟨.bool,false,t66,[]⟩)] []))
theorem jjH (word:qB) (l:List Int) (a:Bool) (s:qQ) (k:Z6G Unit):Z0R j9v [] .o (pl (pl (pr (pr (pr (pr (pr j2q))))))) (mkS 87 87 [(1,.ptr ⟨true,1,[]⟩),(5,.val ⟨.str,false,word,[]⟩),(6,.val ⟨y26,false,l,[.O]⟩)] [(1,⟨y24,a,s,[.S,.S,.S,.S]⟩)]) (λe σ=>k e ((Z8a ([5,6,66],[]) [] ([],[])) e σ))=j5v word s (λ(t66:Bool)=>k .normal (mkS 87 87 [(5,.val ⟨.str,false,word,[]⟩),(6,.val ⟨y26,false,l,[.O]⟩),(66,.val ⟨.bool,false,t66,[]⟩)] [])):=by kernel_rfl
theorem jk9 {W0:Base} {M:Nat->Prop} (hnp:W0.np<=0):Z1W Tryz.prog W0 M (pl (pl (pr (pr (pr (pr (pr j2q))))))) j54:=Z91 (Z6Q follows j00 (Z7K (Z8C j7H (Z8C j1c (Z8C jd7 (Z8C jca (Z8C j9q Z8W)))))) hnp [] ((pl (pl (pr (pr (pr (pr (pr j2q)))))))) .o trivial) (fg:=(Z8a ([5,6,66],[]) [] ([],[]))) (Z8U _ _ _) (by
 intro σ k r h
 obtain ⟨hn,h1⟩:=Z8G h
 obtain ⟨hs1,h2⟩:=Z8H h1
 obtain ⟨word,hs5,h3⟩:=Z8J h2
 obtain ⟨l,hs6,h4⟩:=Z8J h3
 obtain ⟨a,s,hb1,h5⟩:=Z8D h4
 refine ⟨_,?_,(jjH word l a s k).trans h5⟩
 exact Z9e hn ⟨hs1,hs5,hs6,trivial⟩ ⟨hb1,trivial⟩)
noncomputable def j44 (l:List Int) (t68:Int) (word:qB) (t69:Int) (rec:qB->Int->Res) (k0:qB->Res) (k1:Unit->Res):Res:=
 bif decide (t69<t68) then
  bif inb t69 (List.length l) then
   j0T (nth 0 l t69) λ(r:qB)=>
    bif decide ((nth 0 l t69)<0) then
     k1 ()
    else
     bif sEq r eS then
      k1 ()
     else
      bif lim ((ByteArray.size word)+1) then
       bif lim ((ByteArray.size (word++j0e))+(ByteArray.size r)) then
        rec ((word++j0e)++r) (Z8g (t69+1))
       else none
      else none
  else none
 else
  k0 word
noncomputable def j6A (l:List Int) (t68:Int):(qB×Int)->(qB×Int->Res)->((qB->Res)×(Unit->Res))->Res:=λv rec q=>j44 l t68 v.1 v.2 (λword t69=>rec (word,t69)) q.1 q.2
noncomputable def j8j (l:List Int) (t68:Int) (n:Nat) (word:qB) (t69:Int) (k0:qB->Res) (k1:Unit->Res):Res:=Z10 (j6A l t68) n (word,t69) (k0,k1)
noncomputable def j7w:Z1l Unit:=λσ k=>rdN σ 87<|rdV σ 5 .str false [] λword=>rdV σ 6 y26 false [.O] λl=>rdT σ 67 (.ref ⟨false,6,[]⟩ false)<|rdV σ 68 (.int .i64) false [] λt68=>rdV σ 69 (.int .i64) false [] λt69=>j8j l t68 Z0Y word t69 (λ(word1:qB)=>k (.exit 0) (mkS 87 87 [(5,.val ⟨.str,false,word1,[]⟩)] [])) (λ(_:Unit)=>k .ret (mkS 87 87 [(2,.val ⟨.str,false,eS,[]⟩)] []))
theorem jjG (l:List Int) (t68:Int) (n:Nat) (v:qB×Int) (k:Z6G Unit):Z3X (Z0R j9v [j54] .o (pl (pl (pr (pl (pr (pr (pr (pr (pr (pr j2q))))))))))) (λσ=>σ.forget [5,6,67,68,69] []) (Z8a ([],[]) [(0,[5],[])] ([2],[])) n (mkS 87 87 [(5,.val ⟨.str,false,v.1,[]⟩),(6,.val ⟨y26,false,l,[.O]⟩),(67,.ref ⟨false,6,[]⟩ false),(68,.val ⟨(.int .i64),false,t68,[]⟩),(69,.val ⟨(.int .i64),false,v.2,[]⟩)] []) k=Z10 (j6A l t68) n v ((λ(k:Z6G Unit)=>(((λ(word1:qB)=>k (.exit 0) (mkS 87 87 [(5,.val ⟨.str,false,word1,[]⟩)] [])),(λ(_:Unit)=>k .ret (mkS 87 87 [(2,.val ⟨.str,false,eS,[]⟩)] []))):(qB->Res)×(Unit->Res))) k):=Z80 (λv:qB×Int=>(mkS 87 87 [(5,.val ⟨.str,false,v.1,[]⟩),(6,.val ⟨y26,false,l,[.O]⟩),(67,.ref ⟨false,6,[]⟩ false),(68,.val ⟨(.int .i64),false,t68,[]⟩),(69,.val ⟨(.int .i64),false,v.2,[]⟩)] [])) (j6A l t68) (λ(k:Z6G Unit)=>(((λ(word1:qB)=>k (.exit 0) (mkS 87 87 [(5,.val ⟨.str,false,word1,[]⟩)] [])),(λ(_:Unit)=>k .ret (mkS 87 87 [(2,.val ⟨.str,false,eS,[]⟩)] []))):(qB->Res)×(Unit->Res))) (λv rec k=>by kernel_rfl) n v k
theorem jk8 {W0:Base} {M:Nat->Prop} (hnp:W0.np<=0):Z1W Tryz.prog W0 M (pl (pr (pl (pr (pr (pr (pr (pr (pr j2q))))))))) j7w:=show Z1W Tryz.prog W0 M (Code.loop (pl (pl (pr (pl (pr (pr (pr (pr (pr (pr j2q))))))))))) j7w from Z8X (Z6Q follows j00 (Z7K (Z8C j7H (Z8C j1c (Z8C jd7 (Z8C jca (Z8C j9q Z8W)))))) hnp [j54] (pl (pl (pr (pl (pr (pr (pr (pr (pr (pr j2q)))))))))) .o trivial) (ks:=[5,6,67,68,69]) (bs:=[]) (fX:=(Z8a ([],[]) [(0,[5],[])] ([2],[]))) (Z8U _ _ _) Z0Y (by
 intro σ k r h
 obtain ⟨hn,h1⟩:=Z8G h
 obtain ⟨word,hs5,h2⟩:=Z8J h1
 obtain ⟨l,hs6,h3⟩:=Z8J h2
 obtain ⟨hs67,h4⟩:=Z8H h3
 obtain ⟨t68,hs68,h5⟩:=Z8J h4
 obtain ⟨t69,hs69,h6⟩:=Z8J h5
 refine ⟨_,?_,(jjG l t68 Z0Y (word,t69) k).trans h6⟩
 exact Z9e hn ⟨hs5,hs6,hs67,hs68,hs69,trivial⟩ trivial)
noncomputable def j8W (s:qQ) (k0:qB->Res):Res:=
 jad s λ(r:qQ)=>
  bif (s.2.2.1 != r.2.2.1) then
   k0 eS
  else
   bif (s.2.2.2.1 != r.2.2.2.1) then
    k0 eS
   else
    bif (s.2.2.2.2 != r.2.2.2.2) then
     k0 eS
    else
     bif (s.1==1) then
      j82 s.2.1 λ(r1:qB)=>
       bif sEq r1 eS then
        k0 eS
       else
        bif lim (4+(ByteArray.size r1)) then
         k0 (jfc++r1)
        else none
     else
      j8Z s λ(r2:qB) (r3:List Int)=>
       j5v r2 s λ(t:Bool)=>
        bif t then
         k0 eS
        else
         j8j r3 (nI (List.length r3)) Z0Y r2 0
          (λ(word:qB)=>
           k0 word)
          (λ(_:Unit)=>
           k0 eS)
noncomputable def jfI:Sig Unit:=⟨[.look y24 true],[false],λvals ext k=>av vals y24 λs vals=>nl vals<|nl ext<|j8W s (λ(r0:qB)=>k [⟨.str,false,r0,[]⟩] [] [])⟩
theorem jmG (s:qQ) (a_s:Bool) (t_s:List Tag) (k:qK):Z6X j9v [j54,j7w] (.t .o (.t .o (.t .o (.t .o (.t .o (.t (.t (.x 0) .o) (.t (.t .o (.t (.x 1) .o)) .o))))))) false Tryz.f28 [.look y24 true] [false] [⟨y24,a_s,s,t_s⟩] [] k=j8W s (λ(r0:qB)=>k [⟨.str,false,r0,[]⟩] [] []):=by kernel_rfl
theorem j9n:Z1k Tryz.prog 28 jfI:=Z8N (Γ:=j9v) (X:=[j54,j7w]) (ht:=(.t .o (.t .o (.t .o (.t .o (.t .o (.t (.t (.x 0) .o) (.t (.t .o (.t (.x 1) .o)) .o)))))))) (fz:=false) (c:=j2q) follows j00 (Z8C j7H (Z8C j1c (Z8C jd7 (Z8C jca (Z8C j9q Z8W))))) (Z1A.mk trivial ((Z1A.mk trivial ((Z1A.mk trivial ((Z1A.mk trivial ((Z1A.mk trivial ((Z1A.mk ((Z1A.mk (Z1A.x_mk (λW0 M hnp=>jk9 (W0:=W0) (M:=M) hnp)) trivial)) ((Z1A.mk ((Z1A.mk trivial ((Z1A.mk (Z1A.x_mk (λW0 M hnp=>jk8 (W0:=W0) (M:=M) hnp)) trivial)))) trivial))))))))))))) Tryz.func28 (by kernel_rfl) (by kernel_rfl) (by decide) (by
 intro vals ext k r h
 obtain ⟨s,a_s,t_s,vals,rfl,h1⟩:=Z8T h
 obtain ⟨rfl,h2⟩:=Z90 h1
 obtain ⟨rfl,h3⟩:=Z90 h2
 exact (jmG s a_s t_s k).trans h3)
noncomputable def j1g:Code:=(Tryz.f32.body).getD .skip
noncomputable def j6y:Env Unit:=⟨tys,[(28,jfI),(31,jgD),(79,jah),(107,jaJ),(108,jee)],0⟩
noncomputable def j2U (w:qL) (n_:List Int) (i:Int) (rec:(List Int)->Int->Res) (k0:(List Int)->Res):Res:=
 bif decide (i<(nI (List.length w))) then
  bif decide (i<3) then
   bif inb i (List.length w) then
    j3g (nth eS w i) λ(r:Int) (r1:Bool)=>
     bif inb (Z8g (i-1)) (List.length n_) then
      rec (upd n_ (Z8g (i-1)) r) (Z8g (i+1))
     else none
   else none
  else
   k0 n_
 else
  k0 n_
noncomputable def j6D (w:qL):((List Int)×Int)->((List Int)×Int->Res)->(((List Int)->Res))->Res:=λv rec q=>j2U w v.1 v.2 (λn_ i=>rec (n_,i)) q
noncomputable def j8k (w:qL) (n:Nat) (n_:List Int) (i:Int) (k0:(List Int)->Res):Res:=Z10 (j6D w) n (n_,i) (k0)
noncomputable def j1Q:Z1l Unit:=λσ k=>rdN σ 105<|rdV σ 0 .str false [] λs=>rdT σ 2 (.ptr ⟨true,2,[]⟩)<|rdV σ 4 y9 false [.S] λw=>rdV σ 5 y26 false [.O] λn_=>rdV σ 6 (.int .i64) false [] λi=>rdB σ 2 y24 [.O,.O,.O,.O] λa t2=>j8k w Z0Y n_ i (λ(n_1:List Int)=>k (.exit 0) (mkS 105 105 [(0,.val ⟨.str,false,s,[]⟩),(2,.ptr ⟨true,2,[]⟩),(4,.val ⟨y9,false,w,[.S]⟩),(5,.val ⟨y26,false,n_1,[.O]⟩)] [(2,⟨y24,a,t2,[.O,.O,.O,.O]⟩)]))
theorem jjI (s:qB) (w:qL) (a:Bool) (t2:qQ) (n:Nat) (v:(List Int)×Int) (k:Z6G Unit):Z3X (Z0R j6y [] .o (pl (pl (pr (pl (pr (pr (pr j1g)))))))) (λσ=>σ.forget [0,2,4,5,6] [2]) (Z8a ([],[]) [(0,[0,2,4,5],[2])] ([],[])) n (mkS 105 105 [(0,.val ⟨.str,false,s,[]⟩),(2,.ptr ⟨true,2,[]⟩),(4,.val ⟨y9,false,w,[.S]⟩),(5,.val ⟨y26,false,v.1,[.O]⟩),(6,.val ⟨(.int .i64),false,v.2,[]⟩)] [(2,⟨y24,a,t2,[.O,.O,.O,.O]⟩)]) k=Z10 (j6D w) n v ((λ(k:Z6G Unit)=>(((λ(n_1:List Int)=>k (.exit 0) (mkS 105 105 [(0,.val ⟨.str,false,s,[]⟩),(2,.ptr ⟨true,2,[]⟩),(4,.val ⟨y9,false,w,[.S]⟩),(5,.val ⟨y26,false,n_1,[.O]⟩)] [(2,⟨y24,a,t2,[.O,.O,.O,.O]⟩)]))):((List Int)->Res))) k):=Z80 (λv:(List Int)×Int=>(mkS 105 105 [(0,.val ⟨.str,false,s,[]⟩),(2,.ptr ⟨true,2,[]⟩),(4,.val ⟨y9,false,w,[.S]⟩),(5,.val ⟨y26,false,v.1,[.O]⟩),(6,.val ⟨(.int .i64),false,v.2,[]⟩)] [(2,⟨y24,a,t2,[.O,.O,.O,.O]⟩)])) (j6D w) (λ(k:Z6G Unit)=>(((λ(n_1:List Int)=>k (.exit 0) (mkS 105 105 [(0,.val ⟨.str,false,s,[]⟩),(2,.ptr ⟨true,2,[]⟩),(4,.val ⟨y9,false,w,[.S]⟩),(5,.val ⟨y26,false,n_1,[.O]⟩)] [(2,⟨y24,a,t2,[.O,.O,.O,.O]⟩)]))):((List Int)->Res))) (λv rec k=>by kernel_rfl) n v k
theorem jka {W0:Base} {M:Nat->Prop} (hnp:W0.np<=0):Z1W Tryz.prog W0 M (pl (pr (pl (pr (pr (pr j1g)))))) j1Q:=show Z1W Tryz.prog W0 M (Code.loop (pl (pl (pr (pl (pr (pr (pr j1g)))))))) j1Q from Z8X (Z6Q follows j00 (Z7K (Z8C j9n (Z8C jap (Z8C j22 (Z8C j1J (Z8C j65 Z8W)))))) hnp [] (pl (pl (pr (pl (pr (pr (pr j1g))))))) .o trivial) (ks:=[0,2,4,5,6]) (bs:=[2]) (fX:=(Z8a ([],[]) [(0,[0,2,4,5],[2])] ([],[]))) (Z8U _ _ _) Z0Y (by
 intro σ k r h
 obtain ⟨hn,h1⟩:=Z8G h
 obtain ⟨s,hs0,h2⟩:=Z8J h1
 obtain ⟨hs2,h3⟩:=Z8H h2
 obtain ⟨w,hs4,h4⟩:=Z8J h3
 obtain ⟨n_,hs5,h5⟩:=Z8J h4
 obtain ⟨i,hs6,h6⟩:=Z8J h5
 obtain ⟨a,t2,hb2,h7⟩:=Z8D h6
 refine ⟨_,?_,(jjI s w a t2 Z0Y (n_,i) k).trans h7⟩
 exact Z9e hn ⟨hs0,hs2,hs4,hs5,hs6,trivial⟩ ⟨hb2,trivial⟩)
noncomputable def j5w (w:qL) (n_:List Int) (t36:qB) (x:qQ) (k0:qQ->Res):Res:=
 bif sEq t36 j0E then
  j7a w 1 λ(r:qB)=>
   jac r λ(r1:Int×Int×qS) (r2:Bool)=>
    k0 (1,r1,x.2.2)
 else
  bif sEq t36 j0H then
   bif inb 0 (List.length n_) then
    k0 (2,(0,0,0,eS,[],[],0,eS,[],[],eS,eS),nth 0 n_ 0,0,0)
   else none
  else
   bif sEq t36 j0p then
    bif inb 0 (List.length n_) then
     k0 (3,(0,0,0,eS,[],[],0,eS,[],[],eS,eS),1,nth 0 n_ 0,0)
    else none
   else
    bif sEq t36 j0j then
     bif inb 0 (List.length n_) then
      k0 (3,(0,0,0,eS,[],[],0,eS,[],[],eS,eS),2,nth 0 n_ 0,0)
     else none
    else
     bif sEq t36 j0o then
      bif inb 0 (List.length n_) then
       k0 (3,(0,0,0,eS,[],[],0,eS,[],[],eS,eS),3,nth 0 n_ 0,0)
      else none
     else
      bif sEq t36 j0z then
       bif inb 0 (List.length n_) then
        bif inb 1 (List.length n_) then
         k0 (3,(0,0,0,eS,[],[],0,eS,[],[],eS,eS),4,nth 0 n_ 0,nth 0 n_ 1)
        else none
       else none
      else
       bif sEq t36 j0I then
        bif inb 0 (List.length n_) then
         k0 (4,(0,0,0,eS,[],[],0,eS,[],[],eS,eS),nth 0 n_ 0,0,0)
        else none
       else
        bif sEq t36 j0N then
         k0 (5,x.2)
        else
         bif sEq t36 j0M then
          k0 (6,x.2)
         else
          bif sEq t36 j0L then
           k0 (7,x.2)
          else
           k0 x
noncomputable def j55:Z1l Unit:=λσ k=>rdN σ 105<|rdV σ 0 .str false [] λs=>rdT σ 2 (.ptr ⟨true,2,[]⟩)<|rdV σ 4 y9 false [.S] λw=>rdV σ 5 y26 false [.O] λn_=>rdT σ 7 (.ptr ⟨true,7,[]⟩)<|rdV σ 36 .str false [] λt36=>rdB σ 2 y24 [.O,.O,.O,.O] λa t2=>rdB σ 7 y24 [.O,.O,.O,.O] λa1 x=>j5w w n_ t36 x (λ(x1:qQ)=>k .normal (mkS 105 105 [(0,.val ⟨.str,false,s,[]⟩),(2,.ptr ⟨true,2,[]⟩),(7,.ptr ⟨true,7,[]⟩)] [(2,⟨y24,a,t2,[.O,.O,.O,.O]⟩),(7,⟨y24,a1,x1,[.O,.O,.O,.O]⟩)]))
theorem jjJ (s:qB) (w:qL) (n_:List Int) (t36:qB) (a:Bool) (t2:qQ) (a1:Bool) (x:qQ) (k:Z6G Unit):Z0R j6y [j1Q] .o (pr (pl (pr (pr (pr (pr (pr j1g))))))) (mkS 105 105 [(0,.val ⟨.str,false,s,[]⟩),(2,.ptr ⟨true,2,[]⟩),(4,.val ⟨y9,false,w,[.S]⟩),(5,.val ⟨y26,false,n_,[.O]⟩),(7,.ptr ⟨true,7,[]⟩),(36,.val ⟨.str,false,t36,[]⟩)] [(2,⟨y24,a,t2,[.O,.O,.O,.O]⟩),(7,⟨y24,a1,x,[.O,.O,.O,.O]⟩)]) (λe σ=>k e ((Z8a ([0,2,7],[2,7]) [] ([],[])) e σ))=j5w w n_ t36 x (λ(x1:qQ)=>k .normal (mkS 105 105 [(0,.val ⟨.str,false,s,[]⟩),(2,.ptr ⟨true,2,[]⟩),(7,.ptr ⟨true,7,[]⟩)] [(2,⟨y24,a,t2,[.O,.O,.O,.O]⟩),(7,⟨y24,a1,x1,[.O,.O,.O,.O]⟩)])):=by kernel_rfl
theorem jkb {W0:Base} {M:Nat->Prop} (hnp:W0.np<=0):Z1W Tryz.prog W0 M (pr (pl (pr (pr (pr (pr (pr j1g))))))) j55:=Z91 (Z6Q follows j00 (Z7K (Z8C j9n (Z8C jap (Z8C j22 (Z8C j1J (Z8C j65 Z8W)))))) hnp [j1Q] ((pr (pl (pr (pr (pr (pr (pr j1g)))))))) .o trivial) (fg:=(Z8a ([0,2,7],[2,7]) [] ([],[]))) (Z8U _ _ _) (by
 intro σ k r h
 obtain ⟨hn,h1⟩:=Z8G h
 obtain ⟨s,hs0,h2⟩:=Z8J h1
 obtain ⟨hs2,h3⟩:=Z8H h2
 obtain ⟨w,hs4,h4⟩:=Z8J h3
 obtain ⟨n_,hs5,h5⟩:=Z8J h4
 obtain ⟨hs7,h6⟩:=Z8H h5
 obtain ⟨t36,hs36,h7⟩:=Z8J h6
 obtain ⟨a,t2,hb2,h8⟩:=Z8D h7
 obtain ⟨a1,x,hb7,h9⟩:=Z8D h8
 refine ⟨_,?_,(jjJ s w n_ t36 a t2 a1 x k).trans h9⟩
 exact Z9e hn ⟨hs0,hs2,hs4,hs5,hs7,hs36,trivial⟩ ⟨hb2,hb7,trivial⟩)
noncomputable def j5x (s:qB) (x:qQ) (k0:Bool->qQ->Res):Res:=
 bif sEq s eS then
  k0 false (0,(0,0,0,eS,[],[],0,eS,[],[],eS,eS),0,0,0)
 else
  j8W x λ(r:qB)=>
   bif sNe r s then
    k0 false (0,(0,0,0,eS,[],[],0,eS,[],[],eS,eS),0,0,0)
   else
    k0 true x
noncomputable def jb8:Z1l Unit:=λσ k=>rdN σ 105<|rdV σ 0 .str false [] λs=>rdT σ 2 (.ptr ⟨true,2,[]⟩)<|rdT σ 7 (.ptr ⟨true,7,[]⟩)<|rdB σ 2 y24 [.O,.O,.O,.O] λa t2=>rdB σ 7 y24 [.O,.O,.O,.O] λa1 x=>j5x s x (λ(t3:Bool) (t21:qQ)=>k .ret (mkS 105 105 [(2,.ptr ⟨true,2,[]⟩),(3,.val ⟨.bool,false,t3,[]⟩)] [(2,⟨y24,a,t21,[.O,.O,.O,.O]⟩)]))
theorem jjK (s:qB) (a:Bool) (t2:qQ) (a1:Bool) (x:qQ) (k:Z6G Unit):Z0R j6y [j1Q,j55] .o (pr (pr (pr (pr (pr (pr j1g)))))) (mkS 105 105 [(0,.val ⟨.str,false,s,[]⟩),(2,.ptr ⟨true,2,[]⟩),(7,.ptr ⟨true,7,[]⟩)] [(2,⟨y24,a,t2,[.O,.O,.O,.O]⟩),(7,⟨y24,a1,x,[.O,.O,.O,.O]⟩)]) (λe σ=>k e ((Z8a ([],[]) [] ([2,3],[2])) e σ))=j5x s x (λ(t3:Bool) (t21:qQ)=>k .ret (mkS 105 105 [(2,.ptr ⟨true,2,[]⟩),(3,.val ⟨.bool,false,t3,[]⟩)] [(2,⟨y24,a,t21,[.O,.O,.O,.O]⟩)])):=by kernel_rfl
theorem jkc {W0:Base} {M:Nat->Prop} (hnp:W0.np<=0):Z1W Tryz.prog W0 M (pr (pr (pr (pr (pr (pr j1g)))))) jb8:=Z91 (Z6Q follows j00 (Z7K (Z8C j9n (Z8C jap (Z8C j22 (Z8C j1J (Z8C j65 Z8W)))))) hnp [j1Q,j55] ((pr (pr (pr (pr (pr (pr j1g))))))) .o trivial) (fg:=(Z8a ([],[]) [] ([2,3],[2]))) (Z8U _ _ _) (by
 intro σ k r h
 obtain ⟨hn,h1⟩:=Z8G h
 obtain ⟨s,hs0,h2⟩:=Z8J h1
 obtain ⟨hs2,h3⟩:=Z8H h2
 obtain ⟨hs7,h4⟩:=Z8H h3
 obtain ⟨a,t2,hb2,h5⟩:=Z8D h4
 obtain ⟨a1,x,hb7,h6⟩:=Z8D h5
 refine ⟨_,?_,(jjK s a t2 a1 x k).trans h6⟩
 exact Z9e hn ⟨hs0,hs2,hs7,trivial⟩ ⟨hb2,hb7,trivial⟩)
noncomputable def j8X (s:qB) (k0:qQ->Bool->Res):Res:=
 j6G s λ(r:qL)=>
  j8k r Z0Y [0,0] 1 λ(n_:List Int)=>
   bif inb 0 (List.length r) then
    j5w r n_ (nth eS r 0) (0,(0,0,0,eS,[],[],0,eS,[],[],eS,eS),0,0,0) λ(x:qQ)=>
     j5x s x λ(t:Bool) (t1:qQ)=>
      k0 t1 t
   else none
noncomputable def jfJ:Sig Unit:=⟨[.borrow .str false],[true,false],λvals ext k=>av vals .str λs vals=>nl vals<|nl ext<|j8X s (λ(r0:qQ) (r1:Bool)=>k [⟨y24,true,r0,[.O,.O,.O,.O]⟩,⟨.bool,false,r1,[]⟩] [] [])⟩
theorem jmI (s:qB) (a_s:Bool) (t_s:List Tag) (k:qK):Z6X j6y [j1Q,j55,jb8] (.t .o (.t .o (.t .o (.t (.t .o (.t (.x 0) .o)) (.t .o (.t (.t .o (.x 1)) (.x 2))))))) false Tryz.f32 [.borrow .str false] [true,false] [⟨.str,a_s,s,t_s⟩] [] k=j8X s (λ(r0:qQ) (r1:Bool)=>k [⟨y24,true,r0,[.O,.O,.O,.O]⟩,⟨.bool,false,r1,[]⟩] [] []):=by kernel_rfl
theorem jfh:Z1k Tryz.prog 32 jfJ:=Z8N (Γ:=j6y) (X:=[j1Q,j55,jb8]) (ht:=(.t .o (.t .o (.t .o (.t (.t .o (.t (.x 0) .o)) (.t .o (.t (.t .o (.x 1)) (.x 2)))))))) (fz:=false) (c:=j1g) follows j00 (Z8C j9n (Z8C jap (Z8C j22 (Z8C j1J (Z8C j65 Z8W))))) (Z1A.mk trivial ((Z1A.mk trivial ((Z1A.mk trivial ((Z1A.mk ((Z1A.mk trivial ((Z1A.mk (Z1A.x_mk (λW0 M hnp=>jka (W0:=W0) (M:=M) hnp)) trivial)))) ((Z1A.mk trivial ((Z1A.mk ((Z1A.mk trivial (Z1A.x_mk (λW0 M hnp=>jkb (W0:=W0) (M:=M) hnp)))) (Z1A.x_mk (λW0 M hnp=>jkc (W0:=W0) (M:=M) hnp))))))))))))) Tryz.func32 (by kernel_rfl) (by kernel_rfl) (by decide) (by
 intro vals ext k r h
 obtain ⟨s,a_s,t_s,vals,rfl,h1⟩:=Z8T h
 obtain ⟨rfl,h2⟩:=Z90 h1
 obtain ⟨rfl,h3⟩:=Z90 h2
 exact (jmI s a_s t_s k).trans h3)
noncomputable def j4C:Code:=(Tryz.f43.body).getD .skip
noncomputable def jaY:Env Unit:=⟨tys,[(32,jfJ),(124,jhh)],0⟩
noncomputable def j3e (t16:qL) (t17:Int) (out:List qQ) (t18:Int) (rec:(List qQ)->Int->Res) (k0:(List qQ)->Res) (k1:Int->Res):Res:=
 bif decide (t18<t17) then
  bif inb t18 (List.length t16) then
   bif sEq (nth eS t16 t18) eS then
    rec out (Z8g (t18+1))
   else
    bif inb 0 (ByteArray.size (nth eS t16 t18)) then
     bif ((bt (nth eS t16 t18) 0)==35) then
      rec out (Z8g (t18+1))
     else
      j8X (nth eS t16 t18) λ(r:qQ) (r1:Bool)=>
       bif !r1 then
        k1 (Z8g (t18+1))
       else
        bif ((nI (List.length out))==300) then
         k1 (Z8g (t18+1))
        else
         bif lim ((List.length out)+1) then
          rec (out++[r]) (Z8g (t18+1))
         else none
    else none
  else none
 else
  k0 out
noncomputable def j3f (t16:qL) (t17:Int):((List qQ)×Int)->((List qQ)×Int->Res)->(((List qQ)->Res)×(Int->Res))->Res:=λv rec q=>j3e t16 t17 v.1 v.2 (λout t18=>rec (out,t18)) q.1 q.2
noncomputable def jdT (t16:qL) (t17:Int) (n:Nat) (out:List qQ) (t18:Int) (k0:(List qQ)->Res) (k1:Int->Res):Res:=Z10 (j3f t16 t17) n (out,t18) (k0,k1)
noncomputable def j5Y:Z1l Unit:=λσ k=>rdN σ 50<|rdV σ 5 y25 false [.O] λout=>rdV σ 16 y9 false [.S] λt16=>rdV σ 17 (.int .i64) false [] λt17=>rdV σ 18 (.int .i64) false [] λt18=>jdT t16 t17 Z0Y out t18 (λ(out1:List qQ)=>k (.exit 0) (mkS 50 50 [(5,.val ⟨y25,false,out1,[.O]⟩)] [])) (λ(t3:Int)=>k .ret (mkS 50 50 [(2,.val ⟨y25,false,[],[.O]⟩),(3,.val ⟨(.int .i64),false,t3,[]⟩)] []))
theorem ji1 (t16:qL) (t17:Int) (n:Nat) (v:(List qQ)×Int) (k:Z6G Unit):Z3X (Z0R jaY [] .o (pl (pl (pr (pl (pr (pr (pr (pr j4C))))))))) (λσ=>σ.forget [5,16,17,18] []) (Z8a ([],[]) [(0,[5],[])] ([2,3],[])) n (mkS 50 50 [(5,.val ⟨y25,false,v.1,[.O]⟩),(16,.val ⟨y9,false,t16,[.S]⟩),(17,.val ⟨(.int .i64),false,t17,[]⟩),(18,.val ⟨(.int .i64),false,v.2,[]⟩)] []) k=Z10 (j3f t16 t17) n v ((λ(k:Z6G Unit)=>(((λ(out1:List qQ)=>k (.exit 0) (mkS 50 50 [(5,.val ⟨y25,false,out1,[.O]⟩)] [])),(λ(t3:Int)=>k .ret (mkS 50 50 [(2,.val ⟨y25,false,[],[.O]⟩),(3,.val ⟨(.int .i64),false,t3,[]⟩)] []))):((List qQ)->Res)×(Int->Res))) k):=Z80 (λv:(List qQ)×Int=>(mkS 50 50 [(5,.val ⟨y25,false,v.1,[.O]⟩),(16,.val ⟨y9,false,t16,[.S]⟩),(17,.val ⟨(.int .i64),false,t17,[]⟩),(18,.val ⟨(.int .i64),false,v.2,[]⟩)] [])) (j3f t16 t17) (λ(k:Z6G Unit)=>(((λ(out1:List qQ)=>k (.exit 0) (mkS 50 50 [(5,.val ⟨y25,false,out1,[.O]⟩)] [])),(λ(t3:Int)=>k .ret (mkS 50 50 [(2,.val ⟨y25,false,[],[.O]⟩),(3,.val ⟨(.int .i64),false,t3,[]⟩)] []))):((List qQ)->Res)×(Int->Res))) (λv rec k=>by kernel_rfl) n v k
theorem ji6 {W0:Base} {M:Nat->Prop} (hnp:W0.np<=0):Z1W Tryz.prog W0 M (pl (pr (pl (pr (pr (pr (pr j4C))))))) j5Y:=show Z1W Tryz.prog W0 M (Code.loop (pl (pl (pr (pl (pr (pr (pr (pr j4C))))))))) j5Y from Z8X (Z6Q follows j00 (Z7K (Z8C jfh (Z8C jgT Z8W))) hnp [] (pl (pl (pr (pl (pr (pr (pr (pr j4C)))))))) .o trivial) (ks:=[5,16,17,18]) (bs:=[]) (fX:=(Z8a ([],[]) [(0,[5],[])] ([2,3],[]))) (Z8U _ _ _) Z0Y (by
 intro σ k r h
 obtain ⟨hn,h1⟩:=Z8G h
 obtain ⟨out,hs5,h2⟩:=Z8J h1
 obtain ⟨t16,hs16,h3⟩:=Z8J h2
 obtain ⟨t17,hs17,h4⟩:=Z8J h3
 obtain ⟨t18,hs18,h5⟩:=Z8J h4
 refine ⟨_,?_,(ji1 t16 t17 Z0Y (out,t18) k).trans h5⟩
 exact Z9e hn ⟨hs5,hs16,hs17,hs18,trivial⟩ trivial)
noncomputable def j4n (text:qB) (k0:(List qQ)->Int->Res):Res:=
 bif decide ((nI (ByteArray.size text))>20000) then
  k0 [] 1
 else
  jds text 10 λ(r:qL)=>
   jdT r (nI (List.length r)) Z0Y [] 0
    (λ(out:List qQ)=>
     k0 out 0)
    (λ(t:Int)=>
     k0 [] t)
noncomputable def jem:Sig Unit:=⟨[.borrow .str false],[false,false],λvals ext k=>av vals .str λtext vals=>nl vals<|nl ext<|j4n text (λ(r0:List qQ) (r1:Int)=>k [⟨y25,false,r0,[.O]⟩,⟨(.int .i64),false,r1,[]⟩] [] [])⟩
theorem jjB (text:qB) (a_text:Bool) (t_text:List Tag) (k:qK):Z6X jaY [j5Y] (.t .o (.t .o (.t .o (.t .o (.t (.t .o (.t (.x 0) .o)) .o))))) false Tryz.f43 [.borrow .str false] [false,false] [⟨.str,a_text,text,t_text⟩] [] k=j4n text (λ(r0:List qQ) (r1:Int)=>k [⟨y25,false,r0,[.O]⟩,⟨(.int .i64),false,r1,[]⟩] [] []):=by kernel_rfl
theorem jjE:Z1k Tryz.prog 43 jem:=Z8N (Γ:=jaY) (X:=[j5Y]) (ht:=(.t .o (.t .o (.t .o (.t .o (.t (.t .o (.t (.x 0) .o)) .o)))))) (fz:=false) (c:=j4C) follows j00 (Z8C jfh (Z8C jgT Z8W)) (Z1A.mk trivial ((Z1A.mk trivial ((Z1A.mk trivial ((Z1A.mk trivial ((Z1A.mk ((Z1A.mk trivial ((Z1A.mk (Z1A.x_mk (λW0 M hnp=>ji6 (W0:=W0) (M:=M) hnp)) trivial)))) trivial))))))))) Tryz.func43 (by kernel_rfl) (by kernel_rfl) (by decide) (by
 intro vals ext k r h
 obtain ⟨text,a_text,t_text,vals,rfl,h1⟩:=Z8T h
 obtain ⟨rfl,h2⟩:=Z90 h1
 obtain ⟨rfl,h3⟩:=Z90 h2
 exact (jjB text a_text t_text k).trans h3)
end Go.PI.G
