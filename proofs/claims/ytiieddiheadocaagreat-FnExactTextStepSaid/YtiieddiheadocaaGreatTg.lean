/-
  Program's code interpreted over typed values; printed texts; plain laws. No conditions.
-/
import Derived.Test.YtiieddiheadocaaGreatTa
import Derived.Test.YtiieddiheadocaaGreatTb
import Derived.Test.YtiieddiheadocaaGreatTe
import Derived.Test.YtiieddiheadocaaGreatTf
set_option linter.unusedVariables false
set_option maxRecDepth 100000
namespace Go.PI.G
open Go Go.PI Go.Proofs
open Go.Code (pl pr)
noncomputable def jnS:Code:=(Tryz.f104.body).getD .skip
noncomputable def jfS:Env Unit:=⟨tys,[],0⟩
noncomputable def jch (s:qQ) (k0:qB->Int->Res):Res:=
 bif (s.1==2) then
  k0 j0D 1
 else
  bif (s.1==4) then
   k0 j0E 1
  else
   bif (s.1==5) then
    k0 j0J 0
   else
    bif (s.1==6) then
     k0 j0I 0
    else
     bif (s.1==7) then
      k0 j0H 0
     else
      bif (s.1 != 3) then
       k0 eS 0
      else
       bif decide (s.2.2.1<1) then
        k0 eS 0
       else
        bif decide (s.2.2.1>4) then
         k0 eS 0
        else
         bif inb s.2.2.1 5 then
          k0 (nth eS [eS,j0q,j0j,j0p,j0y] s.2.2.1) 2
         else none
noncomputable def jgh:Sig Unit:=⟨[.look y24 true],[false,false],λvals ext k=>av vals y24 λs vals=>nl vals<|nl ext<|jch s (λ(r0:qB) (r1:Int)=>k [⟨.str,false,r0,[]⟩,⟨(.int .i64),false,r1,[]⟩] [] [])⟩
theorem jnB (s:qQ) (a_s:Bool) (t_s:List Tag) (k:qK):Z6X jfS [] .o false Tryz.f104 [.look y24 true] [false,false] [⟨y24,a_s,s,t_s⟩] [] k=jch s (λ(r0:qB) (r1:Int)=>k [⟨.str,false,r0,[]⟩,⟨(.int .i64),false,r1,[]⟩] [] []):=by kernel_rfl
theorem j4S:Z1k Tryz.prog 104 jgh:=Z8N (Γ:=jfS) (X:=[]) (ht:= .o) (fz:=false) (c:=jnS) follows j01 Z8W trivial Tryz.func104 (by kernel_rfl) (by kernel_rfl) (by decide) (by
 intro vals ext k r h
 obtain ⟨s,a_s,t_s,vals,rfl,h1⟩:=Z8T h
 obtain ⟨rfl,h2⟩:=Z90 h1
 obtain ⟨rfl,h3⟩:=Z90 h2
 exact (jnB s a_s t_s k).trans h3)
noncomputable def jpm:Code:=(Tryz.f105.body).getD .skip
noncomputable def jh8:Env Unit:=⟨tys,[(175,(j2b j0P))],0⟩
noncomputable def j6D (n_:Int) (k0:qB->Bool->Res):Res:=
 j0P n_ λ(r:qB)=>
  bif lim (1+(ByteArray.size r)) then
   bif decide (n_>=0) then
    k0 (j0c++r) (sNe r eS)
   else
    k0 (j0c++r) false
  else none
noncomputable def jhm:Sig Unit:=⟨[.look (.int .i64) false],[false,false],λvals ext k=>av vals (.int .i64) λn_ vals=>nl vals<|nl ext<|j6D n_ (λ(r0:qB) (r1:Bool)=>k [⟨.str,false,r0,[]⟩,⟨.bool,false,r1,[]⟩] [] [])⟩
theorem jp9 (n_:Int) (a_n_:Bool) (t_n_:List Tag) (k:qK):Z6X jh8 [] .o false Tryz.f105 [.look (.int .i64) false] [false,false] [⟨(.int .i64),a_n_,n_,t_n_⟩] [] k=j6D n_ (λ(r0:qB) (r1:Bool)=>k [⟨.str,false,r0,[]⟩,⟨.bool,false,r1,[]⟩] [] []):=by kernel_rfl
theorem j5y:Z1k Tryz.prog 105 jhm:=Z8N (Γ:=jh8) (X:=[]) (ht:= .o) (fz:=false) (c:=jpm) follows j01 (Z8C j1E Z8W) trivial Tryz.func105 (by kernel_rfl) (by kernel_rfl) (by decide) (by
 intro vals ext k r h
 obtain ⟨n_,a_n_,t_n_,vals,rfl,h1⟩:=Z8T h
 obtain ⟨rfl,h2⟩:=Z90 h1
 obtain ⟨rfl,h3⟩:=Z90 h2
 exact (jp9 n_ a_n_ t_n_ k).trans h3)
noncomputable def jpn:Code:=(Tryz.f106.body).getD .skip
noncomputable def jh9:Env Unit:=⟨tys,[(102,jb5)],0⟩
noncomputable def jaF (r:Int×Int×qS) (k0:Bool->Res):Res:=
 bif (r.1==0) then
  bif (r.2.1==0) then
   j4Y r.2.2 λ(r1:Bool)=>
    k0 r1
  else
   k0 false
 else
  k0 false
noncomputable def jhn:Sig Unit:=⟨[.look y20 true],[false],λvals ext k=>av vals y20 λr vals=>nl vals<|nl ext<|jaF r (λ(r0:Bool)=>k [⟨.bool,false,r0,[]⟩] [] [])⟩
theorem jpa (r:Int×Int×qS) (a_r:Bool) (t_r:List Tag) (k:qK):Z6X jh9 [] .o false Tryz.f106 [.look y20 true] [false] [⟨y20,a_r,r,t_r⟩] [] k=jaF r (λ(r0:Bool)=>k [⟨.bool,false,r0,[]⟩] [] []):=by kernel_rfl
theorem j5z:Z1k Tryz.prog 106 jhn:=Z8N (Γ:=jh9) (X:=[]) (ht:= .o) (fz:=false) (c:=jpn) follows j01 (Z8C jaT Z8W) trivial Tryz.func106 (by kernel_rfl) (by kernel_rfl) (by decide) (by
 intro vals ext k r h
 obtain ⟨r,a_r,t_r,vals,rfl,h1⟩:=Z8T h
 obtain ⟨rfl,h2⟩:=Z90 h1
 obtain ⟨rfl,h3⟩:=Z90 h2
 exact (jpa r a_r t_r k).trans h3)
noncomputable def j0s:Code:=(Tryz.f30.body).getD .skip
noncomputable def j34:Env Unit:=⟨tys,[(103,jcS),(104,jgh),(105,jhm),(106,jhn)],0⟩
noncomputable def j7L (t:qB) (s:qQ) (k0:Bool->Res):Res:=
 bif sEq t eS then
  k0 true
 else
  bif (s.2.2.1 != 0) then
   k0 true
  else
   bif (s.2.2.2.1 != 0) then
    k0 true
   else
    k0 (s.2.2.2.2 != 0)
noncomputable def j0Q:Z1l Unit:=λσ k=>rdN σ 135<|rdT σ 1 (.ptr ⟨true,1,[]⟩)<|rdV σ 3 .str false [] λt=>rdB σ 1 y24 [.S,.S,.S,.S] λa s=>j7L t s (λ(t34:Bool)=>k .normal (mkS 135 135 [(3,.val ⟨.str,false,t,[]⟩),(34,.val ⟨.bool,false,t34,[]⟩)] []))
theorem jiM (t:qB) (a:Bool) (s:qQ) (k:Z6G Unit):Z0R j34 [] .o (pl (pl (pr (pl (pr (pl (pr j0s))))))) (mkS 135 135 [(1,.ptr ⟨true,1,[]⟩),(3,.val ⟨.str,false,t,[]⟩)] [(1,⟨y24,a,s,[.S,.S,.S,.S]⟩)]) (λe σ=>k e ((Z8a ([3,34],[]) [] ([],[])) e σ))=j7L t s (λ(t34:Bool)=>k .normal (mkS 135 135 [(3,.val ⟨.str,false,t,[]⟩),(34,.val ⟨.bool,false,t34,[]⟩)] [])):=by kernel_rfl
theorem jje {W0:Base} {M:Nat->Prop} (hnp:W0.np<=0):Z1W Tryz.prog W0 M (pl (pl (pr (pl (pr (pl (pr j0s))))))) j0Q:=Z91 (Z6Q follows j01 (Z7K (Z8C j27 (Z8C j4S (Z8C j5y (Z8C j5z Z8W))))) hnp [] ((pl (pl (pr (pl (pr (pl (pr j0s)))))))) .o trivial) (fg:=(Z8a ([3,34],[]) [] ([],[]))) (Z8U _ _ _) (by
 intro σ k r h
 obtain ⟨hn,h1⟩:=Z8G h
 obtain ⟨hs1,h2⟩:=Z8H h1
 obtain ⟨t,hs3,h3⟩:=Z8J h2
 obtain ⟨a,s,hb1,h4⟩:=Z8D h3
 refine ⟨_,?_,(jiM t a s k).trans h4⟩
 exact Z9e hn ⟨hs1,hs3,trivial⟩ ⟨hb1,trivial⟩)
noncomputable def j1x (w:qB) (x:Bool) (y:Bool) (z:Bool) (s:qQ) (k0:Bool->Res):Res:=
 bif sEq w eS then
  k0 true
 else
  jaF s.2.1 λ(r:Bool)=>
   bif !r then
    k0 true
   else
    bif !x then
     k0 true
    else
     bif !y then
      k0 true
     else
      k0 (!z)
noncomputable def j1l:Z1l Unit:=λσ k=>rdN σ 135<|rdT σ 1 (.ptr ⟨true,1,[]⟩)<|rdV σ 4 .str false [] λw=>rdV σ 5 (.int .i64) false [] λn_=>rdV σ 6 .str false [] λa=>rdV σ 7 .bool false [] λx=>rdV σ 8 .str false [] λb=>rdV σ 9 .bool false [] λy=>rdV σ 10 .str false [] λc=>rdV σ 11 .bool false [] λz=>rdB σ 1 y24 [.S,.S,.S,.S] λa1 s=>j1x w x y z s (λ(t79:Bool)=>k .normal (mkS 135 135 [(1,.ptr ⟨true,1,[]⟩),(4,.val ⟨.str,false,w,[]⟩),(5,.val ⟨(.int .i64),false,n_,[]⟩),(6,.val ⟨.str,false,a,[]⟩),(8,.val ⟨.str,false,b,[]⟩),(10,.val ⟨.str,false,c,[]⟩),(79,.val ⟨.bool,false,t79,[]⟩)] [(1,⟨y24,a1,s,[.S,.S,.S,.S]⟩)]))
theorem jiN (w:qB) (n_:Int) (a:qB) (x:Bool) (b:qB) (y:Bool) (c:qB) (z:Bool) (a1:Bool) (s:qQ) (k:Z6G Unit):Z0R j34 [j0Q] .o (pl (pl (pr (pr (pr (pr (pr (pr j0s)))))))) (mkS 135 135 [(1,.ptr ⟨true,1,[]⟩),(4,.val ⟨.str,false,w,[]⟩),(5,.val ⟨(.int .i64),false,n_,[]⟩),(6,.val ⟨.str,false,a,[]⟩),(7,.val ⟨.bool,false,x,[]⟩),(8,.val ⟨.str,false,b,[]⟩),(9,.val ⟨.bool,false,y,[]⟩),(10,.val ⟨.str,false,c,[]⟩),(11,.val ⟨.bool,false,z,[]⟩)] [(1,⟨y24,a1,s,[.S,.S,.S,.S]⟩)]) (λe σ=>k e ((Z8a ([1,4,5,6,8,10,79],[1]) [] ([],[])) e σ))=j1x w x y z s (λ(t79:Bool)=>k .normal (mkS 135 135 [(1,.ptr ⟨true,1,[]⟩),(4,.val ⟨.str,false,w,[]⟩),(5,.val ⟨(.int .i64),false,n_,[]⟩),(6,.val ⟨.str,false,a,[]⟩),(8,.val ⟨.str,false,b,[]⟩),(10,.val ⟨.str,false,c,[]⟩),(79,.val ⟨.bool,false,t79,[]⟩)] [(1,⟨y24,a1,s,[.S,.S,.S,.S]⟩)])):=by kernel_rfl
theorem jjf {W0:Base} {M:Nat->Prop} (hnp:W0.np<=0):Z1W Tryz.prog W0 M (pl (pl (pr (pr (pr (pr (pr (pr j0s)))))))) j1l:=Z91 (Z6Q follows j01 (Z7K (Z8C j27 (Z8C j4S (Z8C j5y (Z8C j5z Z8W))))) hnp [j0Q] ((pl (pl (pr (pr (pr (pr (pr (pr j0s))))))))) .o trivial) (fg:=(Z8a ([1,4,5,6,8,10,79],[1]) [] ([],[]))) (Z8U _ _ _) (by
 intro σ k r h
 obtain ⟨hn,h1⟩:=Z8G h
 obtain ⟨hs1,h2⟩:=Z8H h1
 obtain ⟨w,hs4,h3⟩:=Z8J h2
 obtain ⟨n_,hs5,h4⟩:=Z8J h3
 obtain ⟨a,hs6,h5⟩:=Z8J h4
 obtain ⟨x,hs7,h6⟩:=Z8J h5
 obtain ⟨b,hs8,h7⟩:=Z8J h6
 obtain ⟨y,hs9,h8⟩:=Z8J h7
 obtain ⟨c,hs10,h9⟩:=Z8J h8
 obtain ⟨z,hs11,h10⟩:=Z8J h9
 obtain ⟨a1,s,hb1,h11⟩:=Z8D h10
 refine ⟨_,?_,(jiN w n_ a x b y c z a1 s k).trans h11⟩
 exact Z9e hn ⟨hs1,hs4,hs5,hs6,hs7,hs8,hs9,hs10,hs11,trivial⟩ ⟨hb1,trivial⟩)
noncomputable def j1c (n_:Int) (s:qQ) (k0:Unit->Res) (k1:Unit->Res):Res:=
 bif (n_==0) then
  bif (s.2.2.1==0) then
   bif (s.2.2.2.1==0) then
    bif (s.2.2.2.2==0) then
     k1 ()
    else
     k0 ()
   else
    k0 ()
  else
   k0 ()
 else
  k0 ()
noncomputable def j2g:Z1l Unit:=λσ k=>rdN σ 135<|rdT σ 1 (.ptr ⟨true,1,[]⟩)<|rdV σ 4 .str false [] λw=>rdV σ 5 (.int .i64) false [] λn_=>rdV σ 6 .str false [] λa=>rdV σ 8 .str false [] λb=>rdV σ 10 .str false [] λc=>rdB σ 1 y24 [.S,.S,.S,.S] λa1 s=>j1c n_ s (λ(_:Unit)=>k .normal (mkS 135 135 [(1,.ptr ⟨true,1,[]⟩),(4,.val ⟨.str,false,w,[]⟩),(5,.val ⟨(.int .i64),false,n_,[]⟩),(6,.val ⟨.str,false,a,[]⟩),(8,.val ⟨.str,false,b,[]⟩),(10,.val ⟨.str,false,c,[]⟩)] [(1,⟨y24,a1,s,[.S,.S,.S,.S]⟩)])) (λ(_:Unit)=>k .ret (mkS 135 135 [(2,.val ⟨.str,false,w,[]⟩)] []))
theorem jiO (w:qB) (n_:Int) (a:qB) (b:qB) (c:qB) (a1:Bool) (s:qQ) (k:Z6G Unit):Z0R j34 [j0Q,j1l] .o (pl (pr (pr (pr (pr (pr (pr (pr j0s)))))))) (mkS 135 135 [(1,.ptr ⟨true,1,[]⟩),(4,.val ⟨.str,false,w,[]⟩),(5,.val ⟨(.int .i64),false,n_,[]⟩),(6,.val ⟨.str,false,a,[]⟩),(8,.val ⟨.str,false,b,[]⟩),(10,.val ⟨.str,false,c,[]⟩)] [(1,⟨y24,a1,s,[.S,.S,.S,.S]⟩)]) (λe σ=>k e ((Z8a ([1,4,5,6,8,10],[1]) [] ([2],[])) e σ))=j1c n_ s (λ(_:Unit)=>k .normal (mkS 135 135 [(1,.ptr ⟨true,1,[]⟩),(4,.val ⟨.str,false,w,[]⟩),(5,.val ⟨(.int .i64),false,n_,[]⟩),(6,.val ⟨.str,false,a,[]⟩),(8,.val ⟨.str,false,b,[]⟩),(10,.val ⟨.str,false,c,[]⟩)] [(1,⟨y24,a1,s,[.S,.S,.S,.S]⟩)])) (λ(_:Unit)=>k .ret (mkS 135 135 [(2,.val ⟨.str,false,w,[]⟩)] [])):=by kernel_rfl
theorem jjg {W0:Base} {M:Nat->Prop} (hnp:W0.np<=0):Z1W Tryz.prog W0 M (pl (pr (pr (pr (pr (pr (pr (pr j0s)))))))) j2g:=Z91 (Z6Q follows j01 (Z7K (Z8C j27 (Z8C j4S (Z8C j5y (Z8C j5z Z8W))))) hnp [j0Q,j1l] ((pl (pr (pr (pr (pr (pr (pr (pr j0s))))))))) .o trivial) (fg:=(Z8a ([1,4,5,6,8,10],[1]) [] ([2],[]))) (Z8U _ _ _) (by
 intro σ k r h
 obtain ⟨hn,h1⟩:=Z8G h
 obtain ⟨hs1,h2⟩:=Z8H h1
 obtain ⟨w,hs4,h3⟩:=Z8J h2
 obtain ⟨n_,hs5,h4⟩:=Z8J h3
 obtain ⟨a,hs6,h5⟩:=Z8J h4
 obtain ⟨b,hs8,h6⟩:=Z8J h5
 obtain ⟨c,hs10,h7⟩:=Z8J h6
 obtain ⟨a1,s,hb1,h8⟩:=Z8D h7
 refine ⟨_,?_,(jiO w n_ a b c a1 s k).trans h8⟩
 exact Z9e hn ⟨hs1,hs4,hs5,hs6,hs8,hs10,trivial⟩ ⟨hb1,trivial⟩)
noncomputable def j1d (w:qB) (n_:Int) (a:qB) (s:qQ) (k0:Unit->Res) (k1:Unit->Res):Res:=
 bif (n_==1) then
  bif (s.2.2.2.1==0) then
   bif (s.2.2.2.2==0) then
    bif lim ((ByteArray.size w)+(ByteArray.size a)) then
     k1 ()
    else none
   else
    k0 ()
  else
   k0 ()
 else
  k0 ()
noncomputable def j4F:Z1l Unit:=λσ k=>rdN σ 135<|rdT σ 1 (.ptr ⟨true,1,[]⟩)<|rdV σ 4 .str false [] λw=>rdV σ 5 (.int .i64) false [] λn_=>rdV σ 6 .str false [] λa=>rdV σ 8 .str false [] λb=>rdV σ 10 .str false [] λc=>rdB σ 1 y24 [.S,.S,.S,.S] λa1 s=>j1d w n_ a s (λ(_:Unit)=>k .normal (mkS 135 135 [(1,.ptr ⟨true,1,[]⟩),(4,.val ⟨.str,false,w,[]⟩),(5,.val ⟨(.int .i64),false,n_,[]⟩),(8,.val ⟨.str,false,b,[]⟩),(10,.val ⟨.str,false,c,[]⟩)] [(1,⟨y24,a1,s,[.S,.S,.S,.S]⟩)])) (λ(_:Unit)=>k .ret (mkS 135 135 [(2,.val ⟨.str,false,(w++a),[]⟩)] []))
theorem jiP (w:qB) (n_:Int) (a:qB) (b:qB) (c:qB) (a1:Bool) (s:qQ) (k:Z6G Unit):Z0R j34 [j0Q,j1l,j2g] .o (pl (pr (pr (pr (pr (pr (pr (pr (pr j0s))))))))) (mkS 135 135 [(1,.ptr ⟨true,1,[]⟩),(4,.val ⟨.str,false,w,[]⟩),(5,.val ⟨(.int .i64),false,n_,[]⟩),(6,.val ⟨.str,false,a,[]⟩),(8,.val ⟨.str,false,b,[]⟩),(10,.val ⟨.str,false,c,[]⟩)] [(1,⟨y24,a1,s,[.S,.S,.S,.S]⟩)]) (λe σ=>k e ((Z8a ([1,4,5,8,10],[1]) [] ([2],[])) e σ))=j1d w n_ a s (λ(_:Unit)=>k .normal (mkS 135 135 [(1,.ptr ⟨true,1,[]⟩),(4,.val ⟨.str,false,w,[]⟩),(5,.val ⟨(.int .i64),false,n_,[]⟩),(8,.val ⟨.str,false,b,[]⟩),(10,.val ⟨.str,false,c,[]⟩)] [(1,⟨y24,a1,s,[.S,.S,.S,.S]⟩)])) (λ(_:Unit)=>k .ret (mkS 135 135 [(2,.val ⟨.str,false,(w++a),[]⟩)] [])):=by kernel_rfl
theorem jjh {W0:Base} {M:Nat->Prop} (hnp:W0.np<=0):Z1W Tryz.prog W0 M (pl (pr (pr (pr (pr (pr (pr (pr (pr j0s))))))))) j4F:=Z91 (Z6Q follows j01 (Z7K (Z8C j27 (Z8C j4S (Z8C j5y (Z8C j5z Z8W))))) hnp [j0Q,j1l,j2g] ((pl (pr (pr (pr (pr (pr (pr (pr (pr j0s)))))))))) .o trivial) (fg:=(Z8a ([1,4,5,8,10],[1]) [] ([2],[]))) (Z8U _ _ _) (by
 intro σ k r h
 obtain ⟨hn,h1⟩:=Z8G h
 obtain ⟨hs1,h2⟩:=Z8H h1
 obtain ⟨w,hs4,h3⟩:=Z8J h2
 obtain ⟨n_,hs5,h4⟩:=Z8J h3
 obtain ⟨a,hs6,h5⟩:=Z8J h4
 obtain ⟨b,hs8,h6⟩:=Z8J h5
 obtain ⟨c,hs10,h7⟩:=Z8J h6
 obtain ⟨a1,s,hb1,h8⟩:=Z8D h7
 refine ⟨_,?_,(jiP w n_ a b c a1 s k).trans h8⟩
 exact Z9e hn ⟨hs1,hs4,hs5,hs6,hs8,hs10,trivial⟩ ⟨hb1,trivial⟩)
noncomputable def j1e (w:qB) (n_:Int) (b:qB) (c:qB) (s:qQ) (k0:Unit->Res) (k1:Unit->Res):Res:=
 bif (n_==2) then
  bif (s.2.2.1==4) then
   bif lim ((ByteArray.size w)+(ByteArray.size b)) then
    bif lim ((ByteArray.size (w++b))+(ByteArray.size c)) then
     k1 ()
    else none
   else none
  else
   k0 ()
 else
  k0 ()
noncomputable def jau:Z1l Unit:=λσ k=>rdN σ 135<|rdT σ 1 (.ptr ⟨true,1,[]⟩)<|rdV σ 4 .str false [] λw=>rdV σ 5 (.int .i64) false [] λn_=>rdV σ 8 .str false [] λb=>rdV σ 10 .str false [] λc=>rdB σ 1 y24 [.S,.S,.S,.S] λa s=>j1e w n_ b c s (λ(_:Unit)=>k .normal (mkS 135 135 [(1,.ptr ⟨true,1,[]⟩),(4,.val ⟨.str,false,w,[]⟩),(5,.val ⟨(.int .i64),false,n_,[]⟩),(8,.val ⟨.str,false,b,[]⟩)] [(1,⟨y24,a,s,[.S,.S,.S,.S]⟩)])) (λ(_:Unit)=>k .ret (mkS 135 135 [(2,.val ⟨.str,false,((w++b)++c),[]⟩)] []))
theorem jiQ (w:qB) (n_:Int) (b:qB) (c:qB) (a:Bool) (s:qQ) (k:Z6G Unit):Z0R j34 [j0Q,j1l,j2g,j4F] .o (pl (pr (pr (pr (pr (pr (pr (pr (pr (pr j0s)))))))))) (mkS 135 135 [(1,.ptr ⟨true,1,[]⟩),(4,.val ⟨.str,false,w,[]⟩),(5,.val ⟨(.int .i64),false,n_,[]⟩),(8,.val ⟨.str,false,b,[]⟩),(10,.val ⟨.str,false,c,[]⟩)] [(1,⟨y24,a,s,[.S,.S,.S,.S]⟩)]) (λe σ=>k e ((Z8a ([1,4,5,8],[1]) [] ([2],[])) e σ))=j1e w n_ b c s (λ(_:Unit)=>k .normal (mkS 135 135 [(1,.ptr ⟨true,1,[]⟩),(4,.val ⟨.str,false,w,[]⟩),(5,.val ⟨(.int .i64),false,n_,[]⟩),(8,.val ⟨.str,false,b,[]⟩)] [(1,⟨y24,a,s,[.S,.S,.S,.S]⟩)])) (λ(_:Unit)=>k .ret (mkS 135 135 [(2,.val ⟨.str,false,((w++b)++c),[]⟩)] [])):=by kernel_rfl
theorem jji {W0:Base} {M:Nat->Prop} (hnp:W0.np<=0):Z1W Tryz.prog W0 M (pl (pr (pr (pr (pr (pr (pr (pr (pr (pr j0s)))))))))) jau:=Z91 (Z6Q follows j01 (Z7K (Z8C j27 (Z8C j4S (Z8C j5y (Z8C j5z Z8W))))) hnp [j0Q,j1l,j2g,j4F] ((pl (pr (pr (pr (pr (pr (pr (pr (pr (pr j0s))))))))))) .o trivial) (fg:=(Z8a ([1,4,5,8],[1]) [] ([2],[]))) (Z8U _ _ _) (by
 intro σ k r h
 obtain ⟨hn,h1⟩:=Z8G h
 obtain ⟨hs1,h2⟩:=Z8H h1
 obtain ⟨w,hs4,h3⟩:=Z8J h2
 obtain ⟨n_,hs5,h4⟩:=Z8J h3
 obtain ⟨b,hs8,h5⟩:=Z8J h4
 obtain ⟨c,hs10,h6⟩:=Z8J h5
 obtain ⟨a,s,hb1,h7⟩:=Z8D h6
 refine ⟨_,?_,(jiQ w n_ b c a s k).trans h7⟩
 exact Z9e hn ⟨hs1,hs4,hs5,hs8,hs10,trivial⟩ ⟨hb1,trivial⟩)
noncomputable def j8p (s:qQ) (k0:qB->Res):Res:=
 bif (s.1==1) then
  j44 s.2.1 λ(r:qB)=>
   j7L r s λ(t:Bool)=>
    bif t then
     k0 eS
    else
     bif lim (4+(ByteArray.size r)) then
      k0 (jek++r)
     else none
 else
  jch s λ(r1:qB) (r2:Int)=>
   j6D s.2.2.1 λ(r3:qB) (r4:Bool)=>
    j6D s.2.2.2.1 λ(r5:qB) (r6:Bool)=>
     j6D s.2.2.2.2 λ(r7:qB) (r8:Bool)=>
      j1x r1 r4 r6 r8 s λ(t1:Bool)=>
       bif t1 then
        k0 eS
       else
        j1c r2 s
         (λ(_:Unit)=>
          j1d r1 r2 r3 s
           (λ(_:Unit)=>
            j1e r1 r2 r5 r7 s
             (λ(_:Unit)=>
              bif (r2==2) then
               bif (s.2.2.2.2==0) then
                bif lim ((ByteArray.size r1)+(ByteArray.size r5)) then
                 k0 (r1++r5)
                else none
               else
                k0 eS
              else
               k0 eS)
             (λ(_:Unit)=>
              k0 ((r1++r5)++r7)))
           (λ(_:Unit)=>
            k0 (r1++r3)))
         (λ(_:Unit)=>
          k0 r1)
noncomputable def jf7:Sig Unit:=⟨[.look y24 true],[false],λvals ext k=>av vals y24 λs vals=>nl vals<|nl ext<|j8p s (λ(r0:qB)=>k [⟨.str,false,r0,[]⟩] [] [])⟩
theorem jlP (s:qQ) (a_s:Bool) (t_s:List Tag) (k:qK):Z6X j34 [j0Q,j1l,j2g,j4F,jau] (.t .o (.t (.t .o (.t (.t .o (.t (.t (.x 0) .o) .o)) .o)) (.t .o (.t .o (.t .o (.t .o (.t (.t (.x 1) .o) (.t (.x 2) (.t (.x 3) (.t (.x 4) .o)))))))))) false Tryz.f30 [.look y24 true] [false] [⟨y24,a_s,s,t_s⟩] [] k=j8p s (λ(r0:qB)=>k [⟨.str,false,r0,[]⟩] [] []):=by kernel_rfl
theorem j5L:Z1k Tryz.prog 30 jf7:=Z8N (Γ:=j34) (X:=[j0Q,j1l,j2g,j4F,jau]) (ht:=(.t .o (.t (.t .o (.t (.t .o (.t (.t (.x 0) .o) .o)) .o)) (.t .o (.t .o (.t .o (.t .o (.t (.t (.x 1) .o) (.t (.x 2) (.t (.x 3) (.t (.x 4) .o))))))))))) (fz:=false) (c:=j0s) follows j01 (Z8C j27 (Z8C j4S (Z8C j5y (Z8C j5z Z8W)))) (Z1A.mk trivial ((Z1A.mk ((Z1A.mk trivial ((Z1A.mk ((Z1A.mk trivial ((Z1A.mk ((Z1A.mk (Z1A.x_mk (λW0 M hnp=>jje (W0:=W0) (M:=M) hnp)) trivial)) trivial)))) trivial)))) ((Z1A.mk trivial ((Z1A.mk trivial ((Z1A.mk trivial ((Z1A.mk trivial ((Z1A.mk ((Z1A.mk (Z1A.x_mk (λW0 M hnp=>jjf (W0:=W0) (M:=M) hnp)) trivial)) ((Z1A.mk (Z1A.x_mk (λW0 M hnp=>jjg (W0:=W0) (M:=M) hnp)) ((Z1A.mk (Z1A.x_mk (λW0 M hnp=>jjh (W0:=W0) (M:=M) hnp)) ((Z1A.mk (Z1A.x_mk (λW0 M hnp=>jji (W0:=W0) (M:=M) hnp)) trivial))))))))))))))))))) Tryz.func30 (by kernel_rfl) (by kernel_rfl) (by decide) (by
 intro vals ext k r h
 obtain ⟨s,a_s,t_s,vals,rfl,h1⟩:=Z8T h
 obtain ⟨rfl,h2⟩:=Z90 h1
 obtain ⟨rfl,h3⟩:=Z90 h2
 exact (jlP s a_s t_s k).trans h3)
noncomputable def j0x:Code:=(Tryz.f33.body).getD .skip
noncomputable def j4b:Env Unit:=⟨tys,[(30,jf7),(109,j9H),(110,ja9),(111,jgb)],0⟩
noncomputable def j2S (w:qL) (v_:List Int) (i:Int) (rec:(List Int)->Int->Res) (k0:(List Int)->Res):Res:=
 bif decide (i<(nI (List.length w))) then
  bif decide (i<3) then
   bif inb i (List.length w) then
    j3d (nth eS w i) λ(r:Int) (r1:Bool)=>
     bif inb (Z8g (i-1)) (List.length v_) then
      rec (upd v_ (Z8g (i-1)) r) (Z8g (i+1))
     else none
   else none
  else
   k0 v_
 else
  k0 v_
noncomputable def j6i (w:qL):((List Int)×Int)->((List Int)×Int->Res)->(((List Int)->Res))->Res:=λv rec q=>j2S w v.1 v.2 (λv_ i=>rec (v_,i)) q
noncomputable def j7N (w:qL) (n:Nat) (v_:List Int) (i:Int) (k0:(List Int)->Res):Res:=Z10 (j6i w) n (v_,i) (k0)
noncomputable def j12:Z1l Unit:=λσ k=>rdN σ 108<|rdV σ 0 .str false [] λs=>rdT σ 2 (.ptr ⟨true,2,[]⟩)<|rdV σ 4 y9 false [.S] λw=>rdT σ 5 (.ptr ⟨true,5,[]⟩)<|rdV σ 6 y25 false [.O] λv_=>rdV σ 7 (.int .i64) false [] λi=>rdB σ 2 y24 [.O,.O,.O,.O] λa t2=>rdB σ 5 y24 [.O,.O,.O,.O] λa1 x=>j7N w Z0Y v_ i (λ(v_1:List Int)=>k (.exit 0) (mkS 108 108 [(0,.val ⟨.str,false,s,[]⟩),(2,.ptr ⟨true,2,[]⟩),(4,.val ⟨y9,false,w,[.S]⟩),(5,.ptr ⟨true,5,[]⟩),(6,.val ⟨y25,false,v_1,[.O]⟩)] [(2,⟨y24,a,t2,[.O,.O,.O,.O]⟩),(5,⟨y24,a1,x,[.O,.O,.O,.O]⟩)]))
theorem jiS (s:qB) (w:qL) (a:Bool) (t2:qQ) (a1:Bool) (x:qQ) (n:Nat) (v:(List Int)×Int) (k:Z6G Unit):Z3X (Z0R j4b [] .o (pl (pl (pr (pl (pr (pr (pr (pr j0x))))))))) (λσ=>σ.forget [0,2,4,5,6,7] [2,5]) (Z8a ([],[]) [(0,[0,2,4,5,6],[2,5])] ([],[])) n (mkS 108 108 [(0,.val ⟨.str,false,s,[]⟩),(2,.ptr ⟨true,2,[]⟩),(4,.val ⟨y9,false,w,[.S]⟩),(5,.ptr ⟨true,5,[]⟩),(6,.val ⟨y25,false,v.1,[.O]⟩),(7,.val ⟨(.int .i64),false,v.2,[]⟩)] [(2,⟨y24,a,t2,[.O,.O,.O,.O]⟩),(5,⟨y24,a1,x,[.O,.O,.O,.O]⟩)]) k=Z10 (j6i w) n v ((λ(k:Z6G Unit)=>(((λ(v_1:List Int)=>k (.exit 0) (mkS 108 108 [(0,.val ⟨.str,false,s,[]⟩),(2,.ptr ⟨true,2,[]⟩),(4,.val ⟨y9,false,w,[.S]⟩),(5,.ptr ⟨true,5,[]⟩),(6,.val ⟨y25,false,v_1,[.O]⟩)] [(2,⟨y24,a,t2,[.O,.O,.O,.O]⟩),(5,⟨y24,a1,x,[.O,.O,.O,.O]⟩)]))):((List Int)->Res))) k):=Z80 (λv:(List Int)×Int=>(mkS 108 108 [(0,.val ⟨.str,false,s,[]⟩),(2,.ptr ⟨true,2,[]⟩),(4,.val ⟨y9,false,w,[.S]⟩),(5,.ptr ⟨true,5,[]⟩),(6,.val ⟨y25,false,v.1,[.O]⟩),(7,.val ⟨(.int .i64),false,v.2,[]⟩)] [(2,⟨y24,a,t2,[.O,.O,.O,.O]⟩),(5,⟨y24,a1,x,[.O,.O,.O,.O]⟩)])) (j6i w) (λ(k:Z6G Unit)=>(((λ(v_1:List Int)=>k (.exit 0) (mkS 108 108 [(0,.val ⟨.str,false,s,[]⟩),(2,.ptr ⟨true,2,[]⟩),(4,.val ⟨y9,false,w,[.S]⟩),(5,.ptr ⟨true,5,[]⟩),(6,.val ⟨y25,false,v_1,[.O]⟩)] [(2,⟨y24,a,t2,[.O,.O,.O,.O]⟩),(5,⟨y24,a1,x,[.O,.O,.O,.O]⟩)]))):((List Int)->Res))) (λv rec k=>by kernel_rfl) n v k
theorem jjk {W0:Base} {M:Nat->Prop} (hnp:W0.np<=0):Z1W Tryz.prog W0 M (pl (pr (pl (pr (pr (pr (pr j0x))))))) j12:=show Z1W Tryz.prog W0 M (Code.loop (pl (pl (pr (pl (pr (pr (pr (pr j0x))))))))) j12 from Z8X (Z6Q follows j01 (Z7K (Z8C j5L (Z8C j0N (Z8C j0W (Z8C j77 Z8W))))) hnp [] (pl (pl (pr (pl (pr (pr (pr (pr j0x)))))))) .o trivial) (ks:=[0,2,4,5,6,7]) (bs:=[2,5]) (fX:=(Z8a ([],[]) [(0,[0,2,4,5,6],[2,5])] ([],[]))) (Z8U _ _ _) Z0Y (by
 intro σ k r h
 obtain ⟨hn,h1⟩:=Z8G h
 obtain ⟨s,hs0,h2⟩:=Z8J h1
 obtain ⟨hs2,h3⟩:=Z8H h2
 obtain ⟨w,hs4,h4⟩:=Z8J h3
 obtain ⟨hs5,h5⟩:=Z8H h4
 obtain ⟨v_,hs6,h6⟩:=Z8J h5
 obtain ⟨i,hs7,h7⟩:=Z8J h6
 obtain ⟨a,t2,hb2,h8⟩:=Z8D h7
 obtain ⟨a1,x,hb5,h9⟩:=Z8D h8
 refine ⟨_,?_,(jiS s w a t2 a1 x Z0Y (v_,i) k).trans h9⟩
 exact Z9e hn ⟨hs0,hs2,hs4,hs5,hs6,hs7,trivial⟩ ⟨hb2,hb5,trivial⟩)
noncomputable def j46 (w:qL) (v_:List Int) (t36:qL) (t37:Int) (t38:Int) (x:qQ) (rec:Int->qQ->Res) (k0:qQ->Res):Res:=
 bif decide (t38<t37) then
  bif inb t38 (List.length t36) then
   bif decide (t38>0) then
    bif inb 0 (List.length w) then
     bif sEq (nth eS t36 t38) (nth eS w 0) then
      bif inb 0 (List.length v_) then
       bif inb 1 (List.length v_) then
        rec (Z8g (t38+1)) (3,(0,0,0,eS,[],[],0,eS,[],[],eS,eS),t38,nth 0 v_ 0,nth 0 v_ 1)
       else none
      else none
     else
      rec (Z8g (t38+1)) x
    else none
   else
    rec (Z8g (t38+1)) x
  else none
 else
  k0 x
noncomputable def j6j (w:qL) (v_:List Int) (t36:qL) (t37:Int):(Int×qQ)->(Int×qQ->Res)->((qQ->Res))->Res:=λv rec q=>j46 w v_ t36 t37 v.1 v.2 (λt38 x=>rec (t38,x)) q
noncomputable def jb6 (w:qL) (v_:List Int) (t36:qL) (t37:Int) (n:Nat) (t38:Int) (x:qQ) (k0:qQ->Res):Res:=Z10 (j6j w v_ t36 t37) n (t38,x) (k0)
noncomputable def j1K:Z1l Unit:=λσ k=>rdN σ 108<|rdV σ 0 .str false [] λs=>rdT σ 2 (.ptr ⟨true,2,[]⟩)<|rdV σ 4 y9 false [.S] λw=>rdT σ 5 (.ptr ⟨true,5,[]⟩)<|rdV σ 6 y25 false [.O] λv_=>rdV σ 36 y9 false [.O] λt36=>rdV σ 37 (.int .i64) false [] λt37=>rdV σ 38 (.int .i64) false [] λt38=>rdB σ 2 y24 [.O,.O,.O,.O] λa t2=>rdB σ 5 y24 [.O,.O,.O,.O] λa1 x=>jb6 w v_ t36 t37 Z0Y t38 x (λ(x1:qQ)=>k (.exit 2) (mkS 108 108 [(0,.val ⟨.str,false,s,[]⟩),(2,.ptr ⟨true,2,[]⟩),(4,.val ⟨y9,false,w,[.S]⟩),(5,.ptr ⟨true,5,[]⟩),(6,.val ⟨y25,false,v_,[.O]⟩)] [(2,⟨y24,a,t2,[.O,.O,.O,.O]⟩),(5,⟨y24,a1,x1,[.O,.O,.O,.O]⟩)]))
theorem jiT (s:qB) (w:qL) (v_:List Int) (t36:qL) (t37:Int) (a:Bool) (t2:qQ) (a1:Bool) (n:Nat) (v:Int×qQ) (k:Z6G Unit):Z3X (Z0R j4b [j12] .o (pl (pl (pr (pl (pr (pr (pr (pr (pr j0x)))))))))) (λσ=>σ.forget [0,2,4,5,6,36,37,38] [2,5]) (Z8a ([],[]) [(2,[0,2,4,5,6],[2,5])] ([],[])) n (mkS 108 108 [(0,.val ⟨.str,false,s,[]⟩),(2,.ptr ⟨true,2,[]⟩),(4,.val ⟨y9,false,w,[.S]⟩),(5,.ptr ⟨true,5,[]⟩),(6,.val ⟨y25,false,v_,[.O]⟩),(36,.val ⟨y9,false,t36,[.O]⟩),(37,.val ⟨(.int .i64),false,t37,[]⟩),(38,.val ⟨(.int .i64),false,v.1,[]⟩)] [(2,⟨y24,a,t2,[.O,.O,.O,.O]⟩),(5,⟨y24,a1,v.2,[.O,.O,.O,.O]⟩)]) k=Z10 (j6j w v_ t36 t37) n v ((λ(k:Z6G Unit)=>(((λ(x1:qQ)=>k (.exit 2) (mkS 108 108 [(0,.val ⟨.str,false,s,[]⟩),(2,.ptr ⟨true,2,[]⟩),(4,.val ⟨y9,false,w,[.S]⟩),(5,.ptr ⟨true,5,[]⟩),(6,.val ⟨y25,false,v_,[.O]⟩)] [(2,⟨y24,a,t2,[.O,.O,.O,.O]⟩),(5,⟨y24,a1,x1,[.O,.O,.O,.O]⟩)]))):(qQ->Res))) k):=Z80 (λv:Int×qQ=>(mkS 108 108 [(0,.val ⟨.str,false,s,[]⟩),(2,.ptr ⟨true,2,[]⟩),(4,.val ⟨y9,false,w,[.S]⟩),(5,.ptr ⟨true,5,[]⟩),(6,.val ⟨y25,false,v_,[.O]⟩),(36,.val ⟨y9,false,t36,[.O]⟩),(37,.val ⟨(.int .i64),false,t37,[]⟩),(38,.val ⟨(.int .i64),false,v.1,[]⟩)] [(2,⟨y24,a,t2,[.O,.O,.O,.O]⟩),(5,⟨y24,a1,v.2,[.O,.O,.O,.O]⟩)])) (j6j w v_ t36 t37) (λ(k:Z6G Unit)=>(((λ(x1:qQ)=>k (.exit 2) (mkS 108 108 [(0,.val ⟨.str,false,s,[]⟩),(2,.ptr ⟨true,2,[]⟩),(4,.val ⟨y9,false,w,[.S]⟩),(5,.ptr ⟨true,5,[]⟩),(6,.val ⟨y25,false,v_,[.O]⟩)] [(2,⟨y24,a,t2,[.O,.O,.O,.O]⟩),(5,⟨y24,a1,x1,[.O,.O,.O,.O]⟩)]))):(qQ->Res))) (λv rec k=>by kernel_rfl) n v k
theorem jjl {W0:Base} {M:Nat->Prop} (hnp:W0.np<=0):Z1W Tryz.prog W0 M (pl (pr (pl (pr (pr (pr (pr (pr j0x)))))))) j1K:=show Z1W Tryz.prog W0 M (Code.loop (pl (pl (pr (pl (pr (pr (pr (pr (pr j0x)))))))))) j1K from Z8X (Z6Q follows j01 (Z7K (Z8C j5L (Z8C j0N (Z8C j0W (Z8C j77 Z8W))))) hnp [j12] (pl (pl (pr (pl (pr (pr (pr (pr (pr j0x))))))))) .o trivial) (ks:=[0,2,4,5,6,36,37,38]) (bs:=[2,5]) (fX:=(Z8a ([],[]) [(2,[0,2,4,5,6],[2,5])] ([],[]))) (Z8U _ _ _) Z0Y (by
 intro σ k r h
 obtain ⟨hn,h1⟩:=Z8G h
 obtain ⟨s,hs0,h2⟩:=Z8J h1
 obtain ⟨hs2,h3⟩:=Z8H h2
 obtain ⟨w,hs4,h4⟩:=Z8J h3
 obtain ⟨hs5,h5⟩:=Z8H h4
 obtain ⟨v_,hs6,h6⟩:=Z8J h5
 obtain ⟨t36,hs36,h7⟩:=Z8J h6
 obtain ⟨t37,hs37,h8⟩:=Z8J h7
 obtain ⟨t38,hs38,h9⟩:=Z8J h8
 obtain ⟨a,t2,hb2,h10⟩:=Z8D h9
 obtain ⟨a1,x,hb5,h11⟩:=Z8D h10
 refine ⟨_,?_,(jiT s w v_ t36 t37 a t2 a1 Z0Y (t38,x) k).trans h11⟩
 exact Z9e hn ⟨hs0,hs2,hs4,hs5,hs6,hs36,hs37,hs38,trivial⟩ ⟨hb2,hb5,trivial⟩)
noncomputable def j2w (s:qB) (v_:List Int) (t63:qB) (x:qQ) (k0:qQ->Res):Res:=
 bif sEq t63 j0C then
  bif decide ((nI (ByteArray.size s))>4) then
   bif Z6R 4 (nI (ByteArray.size s)) (ByteArray.size s) then
    j5g (Z9k s 4 (nI (ByteArray.size s))) λ(r:Int×Int×qS) (r1:Bool)=>
     k0 (1,r,x.2.2)
   else none
  else
   k0 (1,x.2)
 else
  bif sEq t63 j0D then
   bif inb 0 (List.length v_) then
    k0 (2,(0,0,0,eS,[],[],0,eS,[],[],eS,eS),nth 0 v_ 0,0,0)
   else none
  else
   bif sEq t63 j0E then
    bif inb 0 (List.length v_) then
     k0 (4,(0,0,0,eS,[],[],0,eS,[],[],eS,eS),nth 0 v_ 0,0,0)
    else none
   else
    bif sEq t63 j0J then
     k0 (5,x.2)
    else
     bif sEq t63 j0I then
      k0 (6,x.2)
     else
      bif sEq t63 j0H then
       k0 (7,x.2)
      else
       k0 x
noncomputable def j4G:Z1l Unit:=λσ k=>rdN σ 108<|rdV σ 0 .str false [] λs=>rdT σ 2 (.ptr ⟨true,2,[]⟩)<|rdT σ 5 (.ptr ⟨true,5,[]⟩)<|rdV σ 6 y25 false [.O] λv_=>rdV σ 63 .str false [] λt63=>rdB σ 2 y24 [.O,.O,.O,.O] λa t2=>rdB σ 5 y24 [.O,.O,.O,.O] λa1 x=>j2w s v_ t63 x (λ(x1:qQ)=>k .normal (mkS 108 108 [(0,.val ⟨.str,false,s,[]⟩),(2,.ptr ⟨true,2,[]⟩),(5,.ptr ⟨true,5,[]⟩)] [(2,⟨y24,a,t2,[.O,.O,.O,.O]⟩),(5,⟨y24,a1,x1,[.O,.O,.O,.O]⟩)]))
theorem jiU (s:qB) (v_:List Int) (t63:qB) (a:Bool) (t2:qQ) (a1:Bool) (x:qQ) (k:Z6G Unit):Z0R j4b [j12,j1K] .o (pr (pl (pr (pr (pr (pr (pr (pr j0x)))))))) (mkS 108 108 [(0,.val ⟨.str,false,s,[]⟩),(2,.ptr ⟨true,2,[]⟩),(5,.ptr ⟨true,5,[]⟩),(6,.val ⟨y25,false,v_,[.O]⟩),(63,.val ⟨.str,false,t63,[]⟩)] [(2,⟨y24,a,t2,[.O,.O,.O,.O]⟩),(5,⟨y24,a1,x,[.O,.O,.O,.O]⟩)]) (λe σ=>k e ((Z8a ([0,2,5],[2,5]) [] ([],[])) e σ))=j2w s v_ t63 x (λ(x1:qQ)=>k .normal (mkS 108 108 [(0,.val ⟨.str,false,s,[]⟩),(2,.ptr ⟨true,2,[]⟩),(5,.ptr ⟨true,5,[]⟩)] [(2,⟨y24,a,t2,[.O,.O,.O,.O]⟩),(5,⟨y24,a1,x1,[.O,.O,.O,.O]⟩)])):=by kernel_rfl
theorem jjm {W0:Base} {M:Nat->Prop} (hnp:W0.np<=0):Z1W Tryz.prog W0 M (pr (pl (pr (pr (pr (pr (pr (pr j0x)))))))) j4G:=Z91 (Z6Q follows j01 (Z7K (Z8C j5L (Z8C j0N (Z8C j0W (Z8C j77 Z8W))))) hnp [j12,j1K] ((pr (pl (pr (pr (pr (pr (pr (pr j0x))))))))) .o trivial) (fg:=(Z8a ([0,2,5],[2,5]) [] ([],[]))) (Z8U _ _ _) (by
 intro σ k r h
 obtain ⟨hn,h1⟩:=Z8G h
 obtain ⟨s,hs0,h2⟩:=Z8J h1
 obtain ⟨hs2,h3⟩:=Z8H h2
 obtain ⟨hs5,h4⟩:=Z8H h3
 obtain ⟨v_,hs6,h5⟩:=Z8J h4
 obtain ⟨t63,hs63,h6⟩:=Z8J h5
 obtain ⟨a,t2,hb2,h7⟩:=Z8D h6
 obtain ⟨a1,x,hb5,h8⟩:=Z8D h7
 refine ⟨_,?_,(jiU s v_ t63 a t2 a1 x k).trans h8⟩
 exact Z9e hn ⟨hs0,hs2,hs5,hs6,hs63,trivial⟩ ⟨hb2,hb5,trivial⟩)
noncomputable def j2x (s:qB) (x:qQ) (k0:Bool->qQ->Res):Res:=
 bif sEq s eS then
  k0 false (0,(0,0,0,eS,[],[],0,eS,[],[],eS,eS),0,0,0)
 else
  j8p x λ(r:qB)=>
   bif sNe r s then
    k0 false (0,(0,0,0,eS,[],[],0,eS,[],[],eS,eS),0,0,0)
   else
    k0 true x
noncomputable def jaw:Z1l Unit:=λσ k=>rdN σ 108<|rdV σ 0 .str false [] λs=>rdT σ 2 (.ptr ⟨true,2,[]⟩)<|rdT σ 5 (.ptr ⟨true,5,[]⟩)<|rdB σ 2 y24 [.O,.O,.O,.O] λa t2=>rdB σ 5 y24 [.O,.O,.O,.O] λa1 x=>j2x s x (λ(t3:Bool) (t21:qQ)=>k .ret (mkS 108 108 [(2,.ptr ⟨true,2,[]⟩),(3,.val ⟨.bool,false,t3,[]⟩)] [(2,⟨y24,a,t21,[.O,.O,.O,.O]⟩)]))
theorem jiV (s:qB) (a:Bool) (t2:qQ) (a1:Bool) (x:qQ) (k:Z6G Unit):Z0R j4b [j12,j1K,j4G] .o (pr (pr (pr (pr (pr (pr (pr j0x))))))) (mkS 108 108 [(0,.val ⟨.str,false,s,[]⟩),(2,.ptr ⟨true,2,[]⟩),(5,.ptr ⟨true,5,[]⟩)] [(2,⟨y24,a,t2,[.O,.O,.O,.O]⟩),(5,⟨y24,a1,x,[.O,.O,.O,.O]⟩)]) (λe σ=>k e ((Z8a ([],[]) [] ([2,3],[2])) e σ))=j2x s x (λ(t3:Bool) (t21:qQ)=>k .ret (mkS 108 108 [(2,.ptr ⟨true,2,[]⟩),(3,.val ⟨.bool,false,t3,[]⟩)] [(2,⟨y24,a,t21,[.O,.O,.O,.O]⟩)])):=by kernel_rfl
theorem jjn {W0:Base} {M:Nat->Prop} (hnp:W0.np<=0):Z1W Tryz.prog W0 M (pr (pr (pr (pr (pr (pr (pr j0x))))))) jaw:=Z91 (Z6Q follows j01 (Z7K (Z8C j5L (Z8C j0N (Z8C j0W (Z8C j77 Z8W))))) hnp [j12,j1K,j4G] ((pr (pr (pr (pr (pr (pr (pr j0x)))))))) .o trivial) (fg:=(Z8a ([],[]) [] ([2,3],[2]))) (Z8U _ _ _) (by
 intro σ k r h
 obtain ⟨hn,h1⟩:=Z8G h
 obtain ⟨s,hs0,h2⟩:=Z8J h1
 obtain ⟨hs2,h3⟩:=Z8H h2
 obtain ⟨hs5,h4⟩:=Z8H h3
 obtain ⟨a,t2,hb2,h5⟩:=Z8D h4
 obtain ⟨a1,x,hb5,h6⟩:=Z8D h5
 refine ⟨_,?_,(jiV s a t2 a1 x k).trans h6⟩
 exact Z9e hn ⟨hs0,hs2,hs5,trivial⟩ ⟨hb2,hb5,trivial⟩)
noncomputable def j8q (s:qB) (k0:qQ->Bool->Res):Res:=
 j6l s λ(r:qL)=>
  j7N r Z0Y [0,0] 1 λ(v_:List Int)=>
   jb6 r v_ [eS,j0q,j0j,j0p,j0y] 5 Z0Y 0 (0,(0,0,0,eS,[],[],0,eS,[],[],eS,eS),0,0,0) λ(x:qQ)=>
    bif inb 0 (List.length r) then
     j2w s v_ (nth eS r 0) x λ(x1:qQ)=>
      j2x s x1 λ(t:Bool) (t1:qQ)=>
       k0 t1 t
    else none
noncomputable def jf8:Sig Unit:=⟨[.borrow .str false],[true,false],λvals ext k=>av vals .str λs vals=>nl vals<|nl ext<|j8q s (λ(r0:qQ) (r1:Bool)=>k [⟨y24,true,r0,[.O,.O,.O,.O]⟩,⟨.bool,false,r1,[]⟩] [] [])⟩
theorem jlR (s:qB) (a_s:Bool) (t_s:List Tag) (k:qK):Z6X j4b [j12,j1K,j4G,jaw] (.t .o (.t .o (.t .o (.t .o (.t (.t .o (.t (.x 0) .o)) (.t (.t .o (.t (.x 1) .o)) (.t (.t .o (.x 2)) (.x 3)))))))) false Tryz.f33 [.borrow .str false] [true,false] [⟨.str,a_s,s,t_s⟩] [] k=j8q s (λ(r0:qQ) (r1:Bool)=>k [⟨y24,true,r0,[.O,.O,.O,.O]⟩,⟨.bool,false,r1,[]⟩] [] []):=by kernel_rfl
theorem jew:Z1k Tryz.prog 33 jf8:=Z8N (Γ:=j4b) (X:=[j12,j1K,j4G,jaw]) (ht:=(.t .o (.t .o (.t .o (.t .o (.t (.t .o (.t (.x 0) .o)) (.t (.t .o (.t (.x 1) .o)) (.t (.t .o (.x 2)) (.x 3))))))))) (fz:=false) (c:=j0x) follows j01 (Z8C j5L (Z8C j0N (Z8C j0W (Z8C j77 Z8W)))) (Z1A.mk trivial ((Z1A.mk trivial ((Z1A.mk trivial ((Z1A.mk trivial ((Z1A.mk ((Z1A.mk trivial ((Z1A.mk (Z1A.x_mk (λW0 M hnp=>jjk (W0:=W0) (M:=M) hnp)) trivial)))) ((Z1A.mk ((Z1A.mk trivial ((Z1A.mk (Z1A.x_mk (λW0 M hnp=>jjl (W0:=W0) (M:=M) hnp)) trivial)))) ((Z1A.mk ((Z1A.mk trivial (Z1A.x_mk (λW0 M hnp=>jjm (W0:=W0) (M:=M) hnp)))) (Z1A.x_mk (λW0 M hnp=>jjn (W0:=W0) (M:=M) hnp))))))))))))))) Tryz.func33 (by kernel_rfl) (by kernel_rfl) (by decide) (by
 intro vals ext k r h
 obtain ⟨s,a_s,t_s,vals,rfl,h1⟩:=Z8T h
 obtain ⟨rfl,h2⟩:=Z90 h1
 obtain ⟨rfl,h3⟩:=Z90 h2
 exact (jlR s a_s t_s k).trans h3)
noncomputable def j9Q:Code:=(Tryz.f99.body).getD .skip
noncomputable def jcB:Env Unit:=⟨tys,[],0⟩
noncomputable def j91 (t8:Int) (s:qQ) (x:qQ) (k0:qQ->Res):Res:=
 bif (t8==2) then
  k0 (x.1,x.2.1,s.2.2.1,x.2.2.2)
 else
  bif (t8==4) then
   k0 (x.1,x.2.1,s.2.2.1,x.2.2.2)
  else
   bif (t8==3) then
    bif (s.2.2.1==4) then
     k0 (x.1,x.2.1,s.2.2.1,s.2.2.2.1,s.2.2.2.2)
    else
     k0 (x.1,x.2.1,s.2.2.1,s.2.2.2.1,x.2.2.2.2)
   else
    k0 x
noncomputable def jbe:Z1l Unit:=λσ k=>rdN σ 30<|rdT σ 1 (.ptr ⟨true,1,[]⟩)<|rdT σ 2 (.ptr ⟨true,2,[]⟩)<|rdT σ 3 (.ptr ⟨true,3,[]⟩)<|rdV σ 8 (.int .i64) false [] λt8=>rdB σ 1 y24 [.S,.S,.S,.S] λa s=>rdB σ 2 y24 [.O,.O,.O,.O] λa1 t2=>rdB σ 3 y24 [.O,.O,.O,.O] λa2 x=>j91 t8 s x (λ(x1:qQ)=>k .normal (mkS 30 30 [(2,.ptr ⟨true,2,[]⟩),(3,.ptr ⟨true,3,[]⟩)] [(2,⟨y24,a1,t2,[.O,.O,.O,.O]⟩),(3,⟨y24,a2,x1,[.O,.O,.O,.O]⟩)]))
theorem jk9 (t8:Int) (a:Bool) (s:qQ) (a1:Bool) (t2:qQ) (a2:Bool) (x:qQ) (k:Z6G Unit):Z0R jcB [] .o (pr (pl (pr (pr j9Q)))) (mkS 30 30 [(1,.ptr ⟨true,1,[]⟩),(2,.ptr ⟨true,2,[]⟩),(3,.ptr ⟨true,3,[]⟩),(8,.val ⟨(.int .i64),false,t8,[]⟩)] [(1,⟨y24,a,s,[.S,.S,.S,.S]⟩),(2,⟨y24,a1,t2,[.O,.O,.O,.O]⟩),(3,⟨y24,a2,x,[.O,.O,.O,.O]⟩)]) (λe σ=>k e ((Z8a ([2,3],[2,3]) [] ([],[])) e σ))=j91 t8 s x (λ(x1:qQ)=>k .normal (mkS 30 30 [(2,.ptr ⟨true,2,[]⟩),(3,.ptr ⟨true,3,[]⟩)] [(2,⟨y24,a1,t2,[.O,.O,.O,.O]⟩),(3,⟨y24,a2,x1,[.O,.O,.O,.O]⟩)])):=by kernel_rfl
theorem jkW {W0:Base} {M:Nat->Prop} (hnp:W0.np<=0):Z1W Tryz.prog W0 M (pr (pl (pr (pr j9Q)))) jbe:=Z91 (Z6Q follows j01 (Z7K Z8W) hnp [] ((pr (pl (pr (pr j9Q))))) .o trivial) (fg:=(Z8a ([2,3],[2,3]) [] ([],[]))) (Z8U _ _ _) (by
 intro σ k r h
 obtain ⟨hn,h1⟩:=Z8G h
 obtain ⟨hs1,h2⟩:=Z8H h1
 obtain ⟨hs2,h3⟩:=Z8H h2
 obtain ⟨hs3,h4⟩:=Z8H h3
 obtain ⟨t8,hs8,h5⟩:=Z8J h4
 obtain ⟨a,s,hb1,h6⟩:=Z8D h5
 obtain ⟨a1,t2,hb2,h7⟩:=Z8D h6
 obtain ⟨a2,x,hb3,h8⟩:=Z8D h7
 refine ⟨_,?_,(jk9 t8 a s a1 t2 a2 x k).trans h8⟩
 exact Z9e hn ⟨hs1,hs2,hs3,hs8,trivial⟩ ⟨hb1,hb2,hb3,trivial⟩)
noncomputable def j9w (s:qQ) (k0:qQ->Res):Res:=
 j91 s.1 s (s.1,(0,0,0,eS,[],[],0,eS,[],[],eS,eS),0,0,0) λ(x:qQ)=>
  k0 x
noncomputable def jg2:Sig Unit:=⟨[.borrow y24 true],[true],λvals ext k=>av vals y24 λs vals=>nl vals<|nl ext<|j9w s (λ(r0:qQ)=>k [⟨y24,true,r0,[.O,.O,.O,.O]⟩] [] [])⟩
theorem jnf (s:qQ) (a_s:Bool) (t_s:List Tag) (k:qK):Z6X jcB [jbe] (.t .o (.t .o (.t (.t .o (.x 0)) .o))) false Tryz.f99 [.borrow y24 true] [true] [⟨y24,a_s,s,t_s⟩] [] k=j9w s (λ(r0:qQ)=>k [⟨y24,true,r0,[.O,.O,.O,.O]⟩] [] []):=by kernel_rfl
theorem jcp:Z1k Tryz.prog 99 jg2:=Z8N (Γ:=jcB) (X:=[jbe]) (ht:=(.t .o (.t .o (.t (.t .o (.x 0)) .o)))) (fz:=false) (c:=j9Q) follows j01 Z8W (Z1A.mk trivial ((Z1A.mk trivial ((Z1A.mk ((Z1A.mk trivial (Z1A.x_mk (λW0 M hnp=>jkW (W0:=W0) (M:=M) hnp)))) trivial))))) Tryz.func99 (by kernel_rfl) (by kernel_rfl) (by decide) (by
 intro vals ext k r h
 obtain ⟨s,a_s,t_s,vals,rfl,h1⟩:=Z8T h
 obtain ⟨rfl,h2⟩:=Z90 h1
 obtain ⟨rfl,h3⟩:=Z90 h2
 exact (jnf s a_s t_s k).trans h3)
noncomputable def jmd:Code:=(Tryz.f100.body).getD .skip
noncomputable def jeE:Env Unit:=⟨tys,[(174,j1B)],0⟩
noncomputable def j8g (s:qQ) (k0:qB->(List Int)->Res):Res:=
 bif (s.1==2) then
  Z6L
   (k0 j0D [s.2.2.1])
   (k0 j0D [s.2.2.1])
 else
  bif (s.1==3) then
   j0K s.2.2.1 1 3 λ(r:Bool)=>
    bif r then
     Z6L
      (bif inb (Z8g (s.2.2.1-1)) 3 then
       Z6L
        (k0 (nth eS [j0q,j0j,j0p] (Z8g (s.2.2.1-1))) [s.2.2.2.1])
        (k0 (nth eS [j0q,j0j,j0p] (Z8g (s.2.2.1-1))) [s.2.2.2.1])
      else none)
      (bif inb (Z8g (s.2.2.1-1)) 3 then
       k0 (nth eS [j0q,j0j,j0p] (Z8g (s.2.2.1-1))) [s.2.2.2.1]
      else none)
    else
     bif (s.2.2.1==4) then
      Z6L
       (k0 j0y [s.2.2.2.1,s.2.2.2.2])
       (k0 j0y [s.2.2.2.1,s.2.2.2.2])
     else
      k0 eS []
  else
   bif (s.1==4) then
    Z6L
     (k0 j0E [s.2.2.1])
     (k0 j0E [s.2.2.1])
   else
    bif (s.1==5) then
     k0 j0J []
    else
     bif (s.1==6) then
      k0 j0I []
     else
      bif (s.1==7) then
       k0 j0H []
      else
       k0 eS []
noncomputable def jeZ:Sig Unit:=⟨[.borrow y24 true],[false,false],λvals ext k=>av vals y24 λs vals=>nl vals<|nl ext<|j8g s (λ(r0:qB) (r1:List Int)=>k [⟨.str,false,r0,[]⟩,⟨y25,false,r1,[.O]⟩] [] [])⟩
theorem jlE (s:qQ) (a_s:Bool) (t_s:List Tag) (k:qK):Z6X jeE [] .o false Tryz.f100 [.borrow y24 true] [false,false] [⟨y24,a_s,s,t_s⟩] [] k=j8g s (λ(r0:qB) (r1:List Int)=>k [⟨.str,false,r0,[]⟩,⟨y25,false,r1,[.O]⟩] [] []):=by kernel_rfl
theorem jbr:Z1k Tryz.prog 100 jeZ:=Z8N (Γ:=jeE) (X:=[]) (ht:= .o) (fz:=false) (c:=jmd) follows j01 (Z8C j0r Z8W) trivial Tryz.func100 (by kernel_rfl) (by kernel_rfl) (by decide) (by
 intro vals ext k r h
 obtain ⟨s,a_s,t_s,vals,rfl,h1⟩:=Z8T h
 obtain ⟨rfl,h2⟩:=Z90 h1
 obtain ⟨rfl,h3⟩:=Z90 h2
 exact (jlE s a_s t_s k).trans h3)
noncomputable def j2h:Code:=(Tryz.f28.body).getD .skip
noncomputable def j8P:Env Unit:=⟨tys,[(27,jcP),(98,(j1G j0O)),(99,jg2),(100,jeZ),(101,jbZ)],0⟩
noncomputable def j50 (word:qB) (s:qQ) (k0:Bool->Res):Res:=
 bif sEq word eS then
  k0 true
 else
  bif (s.2.1.1 != 0) then
   k0 true
  else
   bif (s.2.1.2.1 != 0) then
    k0 true
   else
    j5F s.2.1.2.2 λ(r:Bool)=>
     k0 (!r)
noncomputable def j4C:Z1l Unit:=λσ k=>rdN σ 87<|rdT σ 1 (.ptr ⟨true,1,[]⟩)<|rdV σ 5 .str false [] λword=>rdV σ 6 y25 false [.O] λl=>rdB σ 1 y24 [.S,.S,.S,.S] λa s=>j50 word s (λ(t66:Bool)=>k .normal (mkS 87 87 [(5,.val ⟨.str,false,word,[]⟩),(6,.val ⟨y25,false,l,[.O]⟩),(66,.val ⟨.bool,false,t66,[]⟩)] []))
theorem jix (word:qB) (l:List Int) (a:Bool) (s:qQ) (k:Z6G Unit):Z0R j8P [] .o (pl (pl (pr (pr (pr (pr (pr j2h))))))) (mkS 87 87 [(1,.ptr ⟨true,1,[]⟩),(5,.val ⟨.str,false,word,[]⟩),(6,.val ⟨y25,false,l,[.O]⟩)] [(1,⟨y24,a,s,[.S,.S,.S,.S]⟩)]) (λe σ=>k e ((Z8a ([5,6,66],[]) [] ([],[])) e σ))=j50 word s (λ(t66:Bool)=>k .normal (mkS 87 87 [(5,.val ⟨.str,false,word,[]⟩),(6,.val ⟨y25,false,l,[.O]⟩),(66,.val ⟨.bool,false,t66,[]⟩)] [])):=by kernel_rfl
theorem jiZ {W0:Base} {M:Nat->Prop} (hnp:W0.np<=0):Z1W Tryz.prog W0 M (pl (pl (pr (pr (pr (pr (pr j2h))))))) j4C:=Z91 (Z6Q follows j01 (Z7K (Z8C j74 (Z8C j16 (Z8C jcp (Z8C jbr (Z8C j8K Z8W)))))) hnp [] ((pl (pl (pr (pr (pr (pr (pr j2h)))))))) .o trivial) (fg:=(Z8a ([5,6,66],[]) [] ([],[]))) (Z8U _ _ _) (by
 intro σ k r h
 obtain ⟨hn,h1⟩:=Z8G h
 obtain ⟨hs1,h2⟩:=Z8H h1
 obtain ⟨word,hs5,h3⟩:=Z8J h2
 obtain ⟨l,hs6,h4⟩:=Z8J h3
 obtain ⟨a,s,hb1,h5⟩:=Z8D h4
 refine ⟨_,?_,(jix word l a s k).trans h5⟩
 exact Z9e hn ⟨hs1,hs5,hs6,trivial⟩ ⟨hb1,trivial⟩)
noncomputable def j3V (l:List Int) (t68:Int) (word:qB) (t69:Int) (rec:qB->Int->Res) (k0:qB->Res) (k1:Unit->Res):Res:=
 bif decide (t69<t68) then
  bif inb t69 (List.length l) then
   j0O (nth 0 l t69) λ(r:qB)=>
    bif decide ((nth 0 l t69)<0) then
     k1 ()
    else
     bif sEq r eS then
      k1 ()
     else
      bif lim ((ByteArray.size word)+1) then
       bif lim ((ByteArray.size (word++j0c))+(ByteArray.size r)) then
        rec ((word++j0c)++r) (Z8g (t69+1))
       else none
      else none
  else none
 else
  k0 word
noncomputable def j5Y (l:List Int) (t68:Int):(qB×Int)->(qB×Int->Res)->((qB->Res)×(Unit->Res))->Res:=λv rec q=>j3V l t68 v.1 v.2 (λword t69=>rec (word,t69)) q.1 q.2
noncomputable def j7C (l:List Int) (t68:Int) (n:Nat) (word:qB) (t69:Int) (k0:qB->Res) (k1:Unit->Res):Res:=Z10 (j5Y l t68) n (word,t69) (k0,k1)
noncomputable def j6T:Z1l Unit:=λσ k=>rdN σ 87<|rdV σ 5 .str false [] λword=>rdV σ 6 y25 false [.O] λl=>rdT σ 67 (.ref ⟨false,6,[]⟩ false)<|rdV σ 68 (.int .i64) false [] λt68=>rdV σ 69 (.int .i64) false [] λt69=>j7C l t68 Z0Y word t69 (λ(word1:qB)=>k (.exit 0) (mkS 87 87 [(5,.val ⟨.str,false,word1,[]⟩)] [])) (λ(_:Unit)=>k .ret (mkS 87 87 [(2,.val ⟨.str,false,eS,[]⟩)] []))
theorem jiw (l:List Int) (t68:Int) (n:Nat) (v:qB×Int) (k:Z6G Unit):Z3X (Z0R j8P [j4C] .o (pl (pl (pr (pl (pr (pr (pr (pr (pr (pr j2h))))))))))) (λσ=>σ.forget [5,6,67,68,69] []) (Z8a ([],[]) [(0,[5],[])] ([2],[])) n (mkS 87 87 [(5,.val ⟨.str,false,v.1,[]⟩),(6,.val ⟨y25,false,l,[.O]⟩),(67,.ref ⟨false,6,[]⟩ false),(68,.val ⟨(.int .i64),false,t68,[]⟩),(69,.val ⟨(.int .i64),false,v.2,[]⟩)] []) k=Z10 (j5Y l t68) n v ((λ(k:Z6G Unit)=>(((λ(word1:qB)=>k (.exit 0) (mkS 87 87 [(5,.val ⟨.str,false,word1,[]⟩)] [])),(λ(_:Unit)=>k .ret (mkS 87 87 [(2,.val ⟨.str,false,eS,[]⟩)] []))):(qB->Res)×(Unit->Res))) k):=Z80 (λv:qB×Int=>(mkS 87 87 [(5,.val ⟨.str,false,v.1,[]⟩),(6,.val ⟨y25,false,l,[.O]⟩),(67,.ref ⟨false,6,[]⟩ false),(68,.val ⟨(.int .i64),false,t68,[]⟩),(69,.val ⟨(.int .i64),false,v.2,[]⟩)] [])) (j5Y l t68) (λ(k:Z6G Unit)=>(((λ(word1:qB)=>k (.exit 0) (mkS 87 87 [(5,.val ⟨.str,false,word1,[]⟩)] [])),(λ(_:Unit)=>k .ret (mkS 87 87 [(2,.val ⟨.str,false,eS,[]⟩)] []))):(qB->Res)×(Unit->Res))) (λv rec k=>by kernel_rfl) n v k
theorem jiY {W0:Base} {M:Nat->Prop} (hnp:W0.np<=0):Z1W Tryz.prog W0 M (pl (pr (pl (pr (pr (pr (pr (pr (pr j2h))))))))) j6T:=show Z1W Tryz.prog W0 M (Code.loop (pl (pl (pr (pl (pr (pr (pr (pr (pr (pr j2h))))))))))) j6T from Z8X (Z6Q follows j01 (Z7K (Z8C j74 (Z8C j16 (Z8C jcp (Z8C jbr (Z8C j8K Z8W)))))) hnp [j4C] (pl (pl (pr (pl (pr (pr (pr (pr (pr (pr j2h)))))))))) .o trivial) (ks:=[5,6,67,68,69]) (bs:=[]) (fX:=(Z8a ([],[]) [(0,[5],[])] ([2],[]))) (Z8U _ _ _) Z0Y (by
 intro σ k r h
 obtain ⟨hn,h1⟩:=Z8G h
 obtain ⟨word,hs5,h2⟩:=Z8J h1
 obtain ⟨l,hs6,h3⟩:=Z8J h2
 obtain ⟨hs67,h4⟩:=Z8H h3
 obtain ⟨t68,hs68,h5⟩:=Z8J h4
 obtain ⟨t69,hs69,h6⟩:=Z8J h5
 refine ⟨_,?_,(jiw l t68 Z0Y (word,t69) k).trans h6⟩
 exact Z9e hn ⟨hs5,hs6,hs67,hs68,hs69,trivial⟩ trivial)
noncomputable def j8e (s:qQ) (k0:qB->Res):Res:=
 j9w s λ(r:qQ)=>
  bif (s.2.2.1 != r.2.2.1) then
   k0 eS
  else
   bif (s.2.2.2.1 != r.2.2.2.1) then
    k0 eS
   else
    bif (s.2.2.2.2 != r.2.2.2.2) then
     k0 eS
    else
     bif (s.1==1) then
      j7o s.2.1 λ(r1:qB)=>
       bif sEq r1 eS then
        k0 eS
       else
        bif lim (4+(ByteArray.size r1)) then
         k0 (jek++r1)
        else none
     else
      j8g s λ(r2:qB) (r3:List Int)=>
       j50 r2 s λ(t:Bool)=>
        bif t then
         k0 eS
        else
         j7C r3 (nI (List.length r3)) Z0Y r2 0
          (λ(word:qB)=>
           k0 word)
          (λ(_:Unit)=>
           k0 eS)
noncomputable def jeT:Sig Unit:=⟨[.look y24 true],[false],λvals ext k=>av vals y24 λs vals=>nl vals<|nl ext<|j8e s (λ(r0:qB)=>k [⟨.str,false,r0,[]⟩] [] [])⟩
theorem jlv (s:qQ) (a_s:Bool) (t_s:List Tag) (k:qK):Z6X j8P [j4C,j6T] (.t .o (.t .o (.t .o (.t .o (.t .o (.t (.t (.x 0) .o) (.t (.t .o (.t (.x 1) .o)) .o))))))) false Tryz.f28 [.look y24 true] [false] [⟨y24,a_s,s,t_s⟩] [] k=j8e s (λ(r0:qB)=>k [⟨.str,false,r0,[]⟩] [] []):=by kernel_rfl
theorem j8H:Z1k Tryz.prog 28 jeT:=Z8N (Γ:=j8P) (X:=[j4C,j6T]) (ht:=(.t .o (.t .o (.t .o (.t .o (.t .o (.t (.t (.x 0) .o) (.t (.t .o (.t (.x 1) .o)) .o)))))))) (fz:=false) (c:=j2h) follows j01 (Z8C j74 (Z8C j16 (Z8C jcp (Z8C jbr (Z8C j8K Z8W))))) (Z1A.mk trivial ((Z1A.mk trivial ((Z1A.mk trivial ((Z1A.mk trivial ((Z1A.mk trivial ((Z1A.mk ((Z1A.mk (Z1A.x_mk (λW0 M hnp=>jiZ (W0:=W0) (M:=M) hnp)) trivial)) ((Z1A.mk ((Z1A.mk trivial ((Z1A.mk (Z1A.x_mk (λW0 M hnp=>jiY (W0:=W0) (M:=M) hnp)) trivial)))) trivial))))))))))))) Tryz.func28 (by kernel_rfl) (by kernel_rfl) (by decide) (by
 intro vals ext k r h
 obtain ⟨s,a_s,t_s,vals,rfl,h1⟩:=Z8T h
 obtain ⟨rfl,h2⟩:=Z90 h1
 obtain ⟨rfl,h3⟩:=Z90 h2
 exact (jlv s a_s t_s k).trans h3)
noncomputable def j1a:Code:=(Tryz.f32.body).getD .skip
noncomputable def j5W:Env Unit:=⟨tys,[(28,jeT),(31,jg0),(79,j9F),(107,ja7),(108,jdr)],0⟩
noncomputable def j2M (w:qL) (n_:List Int) (i:Int) (rec:(List Int)->Int->Res) (k0:(List Int)->Res):Res:=
 bif decide (i<(nI (List.length w))) then
  bif decide (i<3) then
   bif inb i (List.length w) then
    j36 (nth eS w i) λ(r:Int) (r1:Bool)=>
     bif inb (Z8g (i-1)) (List.length n_) then
      rec (upd n_ (Z8g (i-1)) r) (Z8g (i+1))
     else none
   else none
  else
   k0 n_
 else
  k0 n_
noncomputable def j61 (w:qL):((List Int)×Int)->((List Int)×Int->Res)->(((List Int)->Res))->Res:=λv rec q=>j2M w v.1 v.2 (λn_ i=>rec (n_,i)) q
noncomputable def j7D (w:qL) (n:Nat) (n_:List Int) (i:Int) (k0:(List Int)->Res):Res:=Z10 (j61 w) n (n_,i) (k0)
noncomputable def j1J:Z1l Unit:=λσ k=>rdN σ 105<|rdV σ 0 .str false [] λs=>rdT σ 2 (.ptr ⟨true,2,[]⟩)<|rdV σ 4 y9 false [.S] λw=>rdV σ 5 y25 false [.O] λn_=>rdV σ 6 (.int .i64) false [] λi=>rdB σ 2 y24 [.O,.O,.O,.O] λa t2=>j7D w Z0Y n_ i (λ(n_1:List Int)=>k (.exit 0) (mkS 105 105 [(0,.val ⟨.str,false,s,[]⟩),(2,.ptr ⟨true,2,[]⟩),(4,.val ⟨y9,false,w,[.S]⟩),(5,.val ⟨y25,false,n_1,[.O]⟩)] [(2,⟨y24,a,t2,[.O,.O,.O,.O]⟩)]))
theorem jiy (s:qB) (w:qL) (a:Bool) (t2:qQ) (n:Nat) (v:(List Int)×Int) (k:Z6G Unit):Z3X (Z0R j5W [] .o (pl (pl (pr (pl (pr (pr (pr j1a)))))))) (λσ=>σ.forget [0,2,4,5,6] [2]) (Z8a ([],[]) [(0,[0,2,4,5],[2])] ([],[])) n (mkS 105 105 [(0,.val ⟨.str,false,s,[]⟩),(2,.ptr ⟨true,2,[]⟩),(4,.val ⟨y9,false,w,[.S]⟩),(5,.val ⟨y25,false,v.1,[.O]⟩),(6,.val ⟨(.int .i64),false,v.2,[]⟩)] [(2,⟨y24,a,t2,[.O,.O,.O,.O]⟩)]) k=Z10 (j61 w) n v ((λ(k:Z6G Unit)=>(((λ(n_1:List Int)=>k (.exit 0) (mkS 105 105 [(0,.val ⟨.str,false,s,[]⟩),(2,.ptr ⟨true,2,[]⟩),(4,.val ⟨y9,false,w,[.S]⟩),(5,.val ⟨y25,false,n_1,[.O]⟩)] [(2,⟨y24,a,t2,[.O,.O,.O,.O]⟩)]))):((List Int)->Res))) k):=Z80 (λv:(List Int)×Int=>(mkS 105 105 [(0,.val ⟨.str,false,s,[]⟩),(2,.ptr ⟨true,2,[]⟩),(4,.val ⟨y9,false,w,[.S]⟩),(5,.val ⟨y25,false,v.1,[.O]⟩),(6,.val ⟨(.int .i64),false,v.2,[]⟩)] [(2,⟨y24,a,t2,[.O,.O,.O,.O]⟩)])) (j61 w) (λ(k:Z6G Unit)=>(((λ(n_1:List Int)=>k (.exit 0) (mkS 105 105 [(0,.val ⟨.str,false,s,[]⟩),(2,.ptr ⟨true,2,[]⟩),(4,.val ⟨y9,false,w,[.S]⟩),(5,.val ⟨y25,false,n_1,[.O]⟩)] [(2,⟨y24,a,t2,[.O,.O,.O,.O]⟩)]))):((List Int)->Res))) (λv rec k=>by kernel_rfl) n v k
theorem jj0 {W0:Base} {M:Nat->Prop} (hnp:W0.np<=0):Z1W Tryz.prog W0 M (pl (pr (pl (pr (pr (pr j1a)))))) j1J:=show Z1W Tryz.prog W0 M (Code.loop (pl (pl (pr (pl (pr (pr (pr j1a)))))))) j1J from Z8X (Z6Q follows j01 (Z7K (Z8C j8H (Z8C j9M (Z8C j1U (Z8C j1D (Z8C j5x Z8W)))))) hnp [] (pl (pl (pr (pl (pr (pr (pr j1a))))))) .o trivial) (ks:=[0,2,4,5,6]) (bs:=[2]) (fX:=(Z8a ([],[]) [(0,[0,2,4,5],[2])] ([],[]))) (Z8U _ _ _) Z0Y (by
 intro σ k r h
 obtain ⟨hn,h1⟩:=Z8G h
 obtain ⟨s,hs0,h2⟩:=Z8J h1
 obtain ⟨hs2,h3⟩:=Z8H h2
 obtain ⟨w,hs4,h4⟩:=Z8J h3
 obtain ⟨n_,hs5,h5⟩:=Z8J h4
 obtain ⟨i,hs6,h6⟩:=Z8J h5
 obtain ⟨a,t2,hb2,h7⟩:=Z8D h6
 refine ⟨_,?_,(jiy s w a t2 Z0Y (n_,i) k).trans h7⟩
 exact Z9e hn ⟨hs0,hs2,hs4,hs5,hs6,trivial⟩ ⟨hb2,trivial⟩)
noncomputable def j51 (w:qL) (n_:List Int) (t36:qB) (x:qQ) (k0:qQ->Res):Res:=
 bif sEq t36 j0C then
  j6y w 1 λ(r:qB)=>
   j9v r λ(r1:Int×Int×qS) (r2:Bool)=>
    k0 (1,r1,x.2.2)
 else
  bif sEq t36 j0D then
   bif inb 0 (List.length n_) then
    k0 (2,(0,0,0,eS,[],[],0,eS,[],[],eS,eS),nth 0 n_ 0,0,0)
   else none
  else
   bif sEq t36 j0q then
    bif inb 0 (List.length n_) then
     k0 (3,(0,0,0,eS,[],[],0,eS,[],[],eS,eS),1,nth 0 n_ 0,0)
    else none
   else
    bif sEq t36 j0j then
     bif inb 0 (List.length n_) then
      k0 (3,(0,0,0,eS,[],[],0,eS,[],[],eS,eS),2,nth 0 n_ 0,0)
     else none
    else
     bif sEq t36 j0p then
      bif inb 0 (List.length n_) then
       k0 (3,(0,0,0,eS,[],[],0,eS,[],[],eS,eS),3,nth 0 n_ 0,0)
      else none
     else
      bif sEq t36 j0y then
       bif inb 0 (List.length n_) then
        bif inb 1 (List.length n_) then
         k0 (3,(0,0,0,eS,[],[],0,eS,[],[],eS,eS),4,nth 0 n_ 0,nth 0 n_ 1)
        else none
       else none
      else
       bif sEq t36 j0E then
        bif inb 0 (List.length n_) then
         k0 (4,(0,0,0,eS,[],[],0,eS,[],[],eS,eS),nth 0 n_ 0,0,0)
        else none
       else
        bif sEq t36 j0J then
         k0 (5,x.2)
        else
         bif sEq t36 j0I then
          k0 (6,x.2)
         else
          bif sEq t36 j0H then
           k0 (7,x.2)
          else
           k0 x
noncomputable def j4D:Z1l Unit:=λσ k=>rdN σ 105<|rdV σ 0 .str false [] λs=>rdT σ 2 (.ptr ⟨true,2,[]⟩)<|rdV σ 4 y9 false [.S] λw=>rdV σ 5 y25 false [.O] λn_=>rdT σ 7 (.ptr ⟨true,7,[]⟩)<|rdV σ 36 .str false [] λt36=>rdB σ 2 y24 [.O,.O,.O,.O] λa t2=>rdB σ 7 y24 [.O,.O,.O,.O] λa1 x=>j51 w n_ t36 x (λ(x1:qQ)=>k .normal (mkS 105 105 [(0,.val ⟨.str,false,s,[]⟩),(2,.ptr ⟨true,2,[]⟩),(7,.ptr ⟨true,7,[]⟩)] [(2,⟨y24,a,t2,[.O,.O,.O,.O]⟩),(7,⟨y24,a1,x1,[.O,.O,.O,.O]⟩)]))
theorem jiz (s:qB) (w:qL) (n_:List Int) (t36:qB) (a:Bool) (t2:qQ) (a1:Bool) (x:qQ) (k:Z6G Unit):Z0R j5W [j1J] .o (pr (pl (pr (pr (pr (pr (pr j1a))))))) (mkS 105 105 [(0,.val ⟨.str,false,s,[]⟩),(2,.ptr ⟨true,2,[]⟩),(4,.val ⟨y9,false,w,[.S]⟩),(5,.val ⟨y25,false,n_,[.O]⟩),(7,.ptr ⟨true,7,[]⟩),(36,.val ⟨.str,false,t36,[]⟩)] [(2,⟨y24,a,t2,[.O,.O,.O,.O]⟩),(7,⟨y24,a1,x,[.O,.O,.O,.O]⟩)]) (λe σ=>k e ((Z8a ([0,2,7],[2,7]) [] ([],[])) e σ))=j51 w n_ t36 x (λ(x1:qQ)=>k .normal (mkS 105 105 [(0,.val ⟨.str,false,s,[]⟩),(2,.ptr ⟨true,2,[]⟩),(7,.ptr ⟨true,7,[]⟩)] [(2,⟨y24,a,t2,[.O,.O,.O,.O]⟩),(7,⟨y24,a1,x1,[.O,.O,.O,.O]⟩)])):=by kernel_rfl
theorem jj1 {W0:Base} {M:Nat->Prop} (hnp:W0.np<=0):Z1W Tryz.prog W0 M (pr (pl (pr (pr (pr (pr (pr j1a))))))) j4D:=Z91 (Z6Q follows j01 (Z7K (Z8C j8H (Z8C j9M (Z8C j1U (Z8C j1D (Z8C j5x Z8W)))))) hnp [j1J] ((pr (pl (pr (pr (pr (pr (pr j1a)))))))) .o trivial) (fg:=(Z8a ([0,2,7],[2,7]) [] ([],[]))) (Z8U _ _ _) (by
 intro σ k r h
 obtain ⟨hn,h1⟩:=Z8G h
 obtain ⟨s,hs0,h2⟩:=Z8J h1
 obtain ⟨hs2,h3⟩:=Z8H h2
 obtain ⟨w,hs4,h4⟩:=Z8J h3
 obtain ⟨n_,hs5,h5⟩:=Z8J h4
 obtain ⟨hs7,h6⟩:=Z8H h5
 obtain ⟨t36,hs36,h7⟩:=Z8J h6
 obtain ⟨a,t2,hb2,h8⟩:=Z8D h7
 obtain ⟨a1,x,hb7,h9⟩:=Z8D h8
 refine ⟨_,?_,(jiz s w n_ t36 a t2 a1 x k).trans h9⟩
 exact Z9e hn ⟨hs0,hs2,hs4,hs5,hs7,hs36,trivial⟩ ⟨hb2,hb7,trivial⟩)
noncomputable def j52 (s:qB) (x:qQ) (k0:Bool->qQ->Res):Res:=
 bif sEq s eS then
  k0 false (0,(0,0,0,eS,[],[],0,eS,[],[],eS,eS),0,0,0)
 else
  j8e x λ(r:qB)=>
   bif sNe r s then
    k0 false (0,(0,0,0,eS,[],[],0,eS,[],[],eS,eS),0,0,0)
   else
    k0 true x
noncomputable def jas:Z1l Unit:=λσ k=>rdN σ 105<|rdV σ 0 .str false [] λs=>rdT σ 2 (.ptr ⟨true,2,[]⟩)<|rdT σ 7 (.ptr ⟨true,7,[]⟩)<|rdB σ 2 y24 [.O,.O,.O,.O] λa t2=>rdB σ 7 y24 [.O,.O,.O,.O] λa1 x=>j52 s x (λ(t3:Bool) (t21:qQ)=>k .ret (mkS 105 105 [(2,.ptr ⟨true,2,[]⟩),(3,.val ⟨.bool,false,t3,[]⟩)] [(2,⟨y24,a,t21,[.O,.O,.O,.O]⟩)]))
theorem jiA (s:qB) (a:Bool) (t2:qQ) (a1:Bool) (x:qQ) (k:Z6G Unit):Z0R j5W [j1J,j4D] .o (pr (pr (pr (pr (pr (pr j1a)))))) (mkS 105 105 [(0,.val ⟨.str,false,s,[]⟩),(2,.ptr ⟨true,2,[]⟩),(7,.ptr ⟨true,7,[]⟩)] [(2,⟨y24,a,t2,[.O,.O,.O,.O]⟩),(7,⟨y24,a1,x,[.O,.O,.O,.O]⟩)]) (λe σ=>k e ((Z8a ([],[]) [] ([2,3],[2])) e σ))=j52 s x (λ(t3:Bool) (t21:qQ)=>k .ret (mkS 105 105 [(2,.ptr ⟨true,2,[]⟩),(3,.val ⟨.bool,false,t3,[]⟩)] [(2,⟨y24,a,t21,[.O,.O,.O,.O]⟩)])):=by kernel_rfl
theorem jj2 {W0:Base} {M:Nat->Prop} (hnp:W0.np<=0):Z1W Tryz.prog W0 M (pr (pr (pr (pr (pr (pr j1a)))))) jas:=Z91 (Z6Q follows j01 (Z7K (Z8C j8H (Z8C j9M (Z8C j1U (Z8C j1D (Z8C j5x Z8W)))))) hnp [j1J,j4D] ((pr (pr (pr (pr (pr (pr j1a))))))) .o trivial) (fg:=(Z8a ([],[]) [] ([2,3],[2]))) (Z8U _ _ _) (by
 intro σ k r h
 obtain ⟨hn,h1⟩:=Z8G h
 obtain ⟨s,hs0,h2⟩:=Z8J h1
 obtain ⟨hs2,h3⟩:=Z8H h2
 obtain ⟨hs7,h4⟩:=Z8H h3
 obtain ⟨a,t2,hb2,h5⟩:=Z8D h4
 obtain ⟨a1,x,hb7,h6⟩:=Z8D h5
 refine ⟨_,?_,(jiA s a t2 a1 x k).trans h6⟩
 exact Z9e hn ⟨hs0,hs2,hs7,trivial⟩ ⟨hb2,hb7,trivial⟩)
noncomputable def j5A (s:qB) (k0:qQ->Bool->Res):Res:=
 j64 s λ(r:qL)=>
  j7D r Z0Y [0,0] 1 λ(n_:List Int)=>
   bif inb 0 (List.length r) then
    j51 r n_ (nth eS r 0) (0,(0,0,0,eS,[],[],0,eS,[],[],eS,eS),0,0,0) λ(x:qQ)=>
     j52 s x λ(t:Bool) (t1:qQ)=>
      k0 t1 t
   else none
noncomputable def jeU:Sig Unit:=⟨[.borrow .str false],[true,false],λvals ext k=>av vals .str λs vals=>nl vals<|nl ext<|j5A s (λ(r0:qQ) (r1:Bool)=>k [⟨y24,true,r0,[.O,.O,.O,.O]⟩,⟨.bool,false,r1,[]⟩] [] [])⟩
theorem jlx (s:qB) (a_s:Bool) (t_s:List Tag) (k:qK):Z6X j5W [j1J,j4D,jas] (.t .o (.t .o (.t .o (.t (.t .o (.t (.x 0) .o)) (.t .o (.t (.t .o (.x 1)) (.x 2))))))) false Tryz.f32 [.borrow .str false] [true,false] [⟨.str,a_s,s,t_s⟩] [] k=j5A s (λ(r0:qQ) (r1:Bool)=>k [⟨y24,true,r0,[.O,.O,.O,.O]⟩,⟨.bool,false,r1,[]⟩] [] []):=by kernel_rfl
theorem jep:Z1k Tryz.prog 32 jeU:=Z8N (Γ:=j5W) (X:=[j1J,j4D,jas]) (ht:=(.t .o (.t .o (.t .o (.t (.t .o (.t (.x 0) .o)) (.t .o (.t (.t .o (.x 1)) (.x 2)))))))) (fz:=false) (c:=j1a) follows j01 (Z8C j8H (Z8C j9M (Z8C j1U (Z8C j1D (Z8C j5x Z8W))))) (Z1A.mk trivial ((Z1A.mk trivial ((Z1A.mk trivial ((Z1A.mk ((Z1A.mk trivial ((Z1A.mk (Z1A.x_mk (λW0 M hnp=>jj0 (W0:=W0) (M:=M) hnp)) trivial)))) ((Z1A.mk trivial ((Z1A.mk ((Z1A.mk trivial (Z1A.x_mk (λW0 M hnp=>jj1 (W0:=W0) (M:=M) hnp)))) (Z1A.x_mk (λW0 M hnp=>jj2 (W0:=W0) (M:=M) hnp))))))))))))) Tryz.func32 (by kernel_rfl) (by kernel_rfl) (by decide) (by
 intro vals ext k r h
 obtain ⟨s,a_s,t_s,vals,rfl,h1⟩:=Z8T h
 obtain ⟨rfl,h2⟩:=Z90 h1
 obtain ⟨rfl,h3⟩:=Z90 h2
 exact (jlx s a_s t_s k).trans h3)
end Go.PI.G
namespace Go.PI.G
open Go Go.PI Go.Proofs
open Go.Code (pl pr)
noncomputable def jq4:Code:=(Tryz.f258.body).getD .skip
noncomputable def jhS:Env Unit:=⟨tys,[],0⟩
noncomputable def ja5 (a:Int×Int×qB) (b:Int×Int×qB) (k0:Bool->Res):Res:=
 bif (a.1 != b.1) then
  k0 false
 else
  bif (a.2.1 != b.2.1) then
   k0 false
  else
   bif sNe a.2.2 b.2.2 then
    k0 false
   else
    k0 true
noncomputable def jeb:Sig Unit:=⟨[.look y2 true,.look y2 true],[false],λvals ext k=>av vals y2 λa vals=>av vals y2 λb vals=>nl vals<|nl ext<|ja5 a b (λ(r0:Bool)=>k [⟨.bool,false,r0,[]⟩] [] [])⟩
theorem jpJ (a:Int×Int×qB) (a_a:Bool) (t_a:List Tag) (b:Int×Int×qB) (a_b:Bool) (t_b:List Tag) (k:qK):Z6X jhS [] .o false Tryz.f258 [.look y2 true,.look y2 true] [false] [⟨y2,a_a,a,t_a⟩,⟨y2,a_b,b,t_b⟩] [] k=ja5 a b (λ(r0:Bool)=>k [⟨.bool,false,r0,[]⟩] [] []):=by kernel_rfl
theorem jdK:Z1k Tryz.prog 258 jeb:=Z8N (Γ:=jhS) (X:=[]) (ht:= .o) (fz:=false) (c:=jq4) follows j01 Z8W trivial Tryz.func258 (by kernel_rfl) (by kernel_rfl) (by decide) (by
 intro vals ext k r h
 obtain ⟨a,a_a,t_a,vals,rfl,h1⟩:=Z8T h
 obtain ⟨b,a_b,t_b,vals,rfl,h2⟩:=Z8T h1
 obtain ⟨rfl,h3⟩:=Z90 h2
 obtain ⟨rfl,h4⟩:=Z90 h3
 exact (jpJ a a_a t_a b a_b t_b k).trans h4)
end Go.PI.G
namespace Go.PI.G
open Go Go.PI Go.Proofs
open Go.Code (pl pr)
noncomputable def jq0:Code:=(Tryz.f291.body).getD .skip
noncomputable def jhO:Env Unit:=⟨tys,[(258,jeb)],0⟩
noncomputable def jbQ (a:qB×Int×Bool×Bool×Int×Int×qB) (b:qB×Int×Bool×Bool×Int×Int×qB) (k0:Bool->Res):Res:=
 bif sNe a.1 b.1 then
  k0 false
 else
  bif (a.2.1 != b.2.1) then
   k0 false
  else
   bif !(a.2.2.1==b.2.2.1) then
    k0 false
   else
    bif !(a.2.2.2.1==b.2.2.2.1) then
     k0 false
    else
     ja5 a.2.2.2.2 b.2.2.2.2 λ(r:Bool)=>
      bif !r then
       k0 false
      else
       k0 true
noncomputable def jid:Sig Unit:=⟨[.look y7 true,.look y7 true],[false],λvals ext k=>av vals y7 λa vals=>av vals y7 λb vals=>nl vals<|nl ext<|jbQ a b (λ(r0:Bool)=>k [⟨.bool,false,r0,[]⟩] [] [])⟩
theorem jpF (a:qB×Int×Bool×Bool×Int×Int×qB) (a_a:Bool) (t_a:List Tag) (b:qB×Int×Bool×Bool×Int×Int×qB) (a_b:Bool) (t_b:List Tag) (k:qK):Z6X jhO [] .o false Tryz.f291 [.look y7 true,.look y7 true] [false] [⟨y7,a_a,a,t_a⟩,⟨y7,a_b,b,t_b⟩] [] k=jbQ a b (λ(r0:Bool)=>k [⟨.bool,false,r0,[]⟩] [] []):=by kernel_rfl
theorem jhx:Z1k Tryz.prog 291 jid:=Z8N (Γ:=jhO) (X:=[]) (ht:= .o) (fz:=false) (c:=jq0) follows j01 (Z8C jdK Z8W) trivial Tryz.func291 (by kernel_rfl) (by kernel_rfl) (by decide) (by
 intro vals ext k r h
 obtain ⟨a,a_a,t_a,vals,rfl,h1⟩:=Z8T h
 obtain ⟨b,a_b,t_b,vals,rfl,h2⟩:=Z8T h1
 obtain ⟨rfl,h3⟩:=Z90 h2
 obtain ⟨rfl,h4⟩:=Z90 h3
 exact (jpF a a_a t_a b a_b t_b k).trans h4)
end Go.PI.G
namespace Go.PI.G
open Go Go.PI Go.Proofs
open Go.Code (pl pr)
noncomputable def j5R:Code:=(Tryz.f125.body).getD .skip
noncomputable def jbE:Env Unit:=⟨tys,[],0⟩
noncomputable def j41 (k_:Int) (out:qB) (rec:Int->qB->Res) (k0:qB->Res):Res:=
 bif decide (k_>0) then
  bif lim ((ByteArray.size (Z2X [wu8 (Z8g (48+(Int.tmod k_ 10)))]))+(ByteArray.size out)) then
   rec (Z8g (Int.tdiv k_ 10)) ((Z2X [wu8 (Z8g (48+(Int.tmod k_ 10)))])++out)
  else none
 else
  k0 out
noncomputable def j42:(Int×qB)->(Int×qB->Res)->((qB->Res))->Res:=λv rec q=>j41 v.1 v.2 (λk_ out=>rec (k_,out)) q
noncomputable def jb2 (n:Nat) (k_:Int) (out:qB) (k0:qB->Res):Res:=Z10 (j42) n (k_,out) (k0)
noncomputable def j6Z:Z1l Unit:=λσ k=>rdN σ 20<|rdV σ 0 (.int .i64) false [] λk_=>rdV σ 3 .str false [] λout=>jb2 Z0Y k_ out (λ(out1:qB)=>k (.exit 0) (mkS 20 20 [(3,.val ⟨.str,false,out1,[]⟩)] []))
theorem jiK  (n:Nat) (v:Int×qB) (k:Z6G Unit):Z3X (Z0R jbE [] .o (pl (pl (pl (pr (pr (pr j5R))))))) (λσ=>σ.forget [0,3] []) (Z8a ([],[]) [(0,[3],[])] ([],[])) n (mkS 20 20 [(0,.val ⟨(.int .i64),false,v.1,[]⟩),(3,.val ⟨.str,false,v.2,[]⟩)] []) k=Z10 (j42) n v ((λ(k:Z6G Unit)=>(((λ(out1:qB)=>k (.exit 0) (mkS 20 20 [(3,.val ⟨.str,false,out1,[]⟩)] []))):(qB->Res))) k):=Z80 (λv:Int×qB=>(mkS 20 20 [(0,.val ⟨(.int .i64),false,v.1,[]⟩),(3,.val ⟨.str,false,v.2,[]⟩)] [])) (j42) (λ(k:Z6G Unit)=>(((λ(out1:qB)=>k (.exit 0) (mkS 20 20 [(3,.val ⟨.str,false,out1,[]⟩)] []))):(qB->Res))) (λv rec k=>by kernel_rfl) n v k
theorem jjc {W0:Base} {M:Nat->Prop} (hnp:W0.np<=0):Z1W Tryz.prog W0 M (pl (pl (pr (pr (pr j5R))))) j6Z:=show Z1W Tryz.prog W0 M (Code.loop (pl (pl (pl (pr (pr (pr j5R))))))) j6Z from Z8X (Z6Q follows j01 (Z7K Z8W) hnp [] (pl (pl (pl (pr (pr (pr j5R)))))) .o trivial) (ks:=[0,3]) (bs:=[]) (fX:=(Z8a ([],[]) [(0,[3],[])] ([],[]))) (Z8U _ _ _) Z0Y (by
 intro σ k r h
 obtain ⟨hn,h1⟩:=Z8G h
 obtain ⟨k_,hs0,h2⟩:=Z8J h1
 obtain ⟨out,hs3,h3⟩:=Z8J h2
 refine ⟨_,?_,(jiK  Z0Y (k_,out) k).trans h3⟩
 exact Z9e hn ⟨hs0,hs3,trivial⟩ trivial)
noncomputable def j1m (k_:Int) (k0:qB->Res):Res:=
 bif decide (k_<=0) then
  k0 jtp
 else
  jb2 Z0Y k_ eS λ(out:qB)=>
   bif lim (1+(ByteArray.size out)) then
    k0 (z_m++out)
   else none
noncomputable def j3a:Sig Unit:=⟨[.look (.int .i64) false],[false],λvals ext k=>av vals (.int .i64) λk_ vals=>nl vals<|nl ext<|j1m k_ (λ(r0:qB)=>k [⟨.str,false,r0,[]⟩] [] [])⟩
theorem jlN (k_:Int) (a_k_:Bool) (t_k_:List Tag) (k:qK):Z6X jbE [j6Z] (.t .o (.t .o (.t .o (.t (.t (.x 0) .o) .o)))) false Tryz.f125 [.look (.int .i64) false] [false] [⟨(.int .i64),a_k_,k_,t_k_⟩] [] k=j1m k_ (λ(r0:qB)=>k [⟨.str,false,r0,[]⟩] [] []):=by kernel_rfl
theorem j0w:Z1k Tryz.prog 125 j3a:=Z8N (Γ:=jbE) (X:=[j6Z]) (ht:=(.t .o (.t .o (.t .o (.t (.t (.x 0) .o) .o))))) (fz:=false) (c:=j5R) follows j01 Z8W (Z1A.mk trivial ((Z1A.mk trivial ((Z1A.mk trivial ((Z1A.mk ((Z1A.mk (Z1A.x_mk (λW0 M hnp=>jjc (W0:=W0) (M:=M) hnp)) trivial)) trivial))))))) Tryz.func125 (by kernel_rfl) (by kernel_rfl) (by decide) (by
 intro vals ext k r h
 obtain ⟨k_,a_k_,t_k_,vals,rfl,h1⟩:=Z8T h
 obtain ⟨rfl,h2⟩:=Z90 h1
 obtain ⟨rfl,h3⟩:=Z90 h2
 exact (jlN k_ a_k_ t_k_ k).trans h3)
end Go.PI.G
