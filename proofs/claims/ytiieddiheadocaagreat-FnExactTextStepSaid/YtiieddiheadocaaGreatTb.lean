/-
  Program's code interpreted over typed values; printed texts; plain laws. No conditions.
-/
import Derived.Test.YtiieddiheadocaaGreatTa
set_option linter.unusedVariables false
set_option maxRecDepth 100000
namespace Go.PI.G
open Go Go.PI Go.Proofs
open Go.Code (pl pr)
noncomputable def jpl:Code:=(Tryz.f208.body).getD .skip
noncomputable def jh7:Env Unit:=⟨tys,[],0⟩
noncomputable def jaD (n_:Int) (k0:Bool->Res):Res:=
 bif decide (n_>=(-1099511627775)) then
  k0 (decide (n_<=1099511627775))
 else
  k0 false
noncomputable def jdv:Sig Unit:=⟨[.look (.int .i64) false],[false],λvals ext k=>av vals (.int .i64) λn_ vals=>nl vals<|nl ext<|jaD n_ (λ(r0:Bool)=>k [⟨.bool,false,r0,[]⟩] [] [])⟩
theorem jp6 (n_:Int) (a_n_:Bool) (t_n_:List Tag) (k:qK):Z6X jh7 [] .o false Tryz.f208 [.look (.int .i64) false] [false] [⟨(.int .i64),a_n_,n_,t_n_⟩] [] k=jaD n_ (λ(r0:Bool)=>k [⟨.bool,false,r0,[]⟩] [] []):=by kernel_rfl
theorem jgZ:Z1k Tryz.prog 208 jdv:=Z8N (Γ:=jh7) (X:=[]) (ht:= .o) (fz:=false) (c:=jpl) follows j01 Z8W trivial Tryz.func208 (by kernel_rfl) (by kernel_rfl) (by decide) (by
 intro vals ext k r h
 obtain ⟨n_,a_n_,t_n_,vals,rfl,h1⟩:=Z8T h
 obtain ⟨rfl,h2⟩:=Z90 h1
 obtain ⟨rfl,h3⟩:=Z90 h2
 exact (jp6 n_ a_n_ t_n_ k).trans h3)
noncomputable def jfE:Code:=(Tryz.f175.body).getD .skip
noncomputable def j2b (self:Int->(qB->Res)->Res):Sig Unit:=⟨[.look (.int .i64) false],[false],λvals ext k=>av vals (.int .i64) λn_ vals=>nl vals<|nl ext<|self n_ (λ(r0:qB)=>k [⟨.str,false,r0,[]⟩] [] [])⟩
noncomputable def jfQ (self:Int->(qB->Res)->Res):Env Unit:=⟨tys,[(175,(j2b self)),(208,jdv)],0⟩
noncomputable def j0X (self:Int->(qB->Res)->Res) (n_:Int) (k0:qB->Res):Res:=
 jaD n_ λ(r:Bool)=>
  bif !r then
   k0 eS
  else
   bif decide (n_<0) then
    self (Z8g (0-n_)) λ(r1:qB)=>
     bif lim (1+(ByteArray.size r1)) then
      k0 (z__++r1)
     else none
   else
    bif decide (n_<10) then
     k0 (Z2X [wu8 (Z8g (48+n_))])
    else
     Z6L
      (self (Z8g (Int.tdiv n_ 10)) λ(r2:qB)=>
       bif lim ((ByteArray.size r2)+(ByteArray.size (Z2X [wu8 (Z8g (48+(Int.tmod n_ 10)))]))) then
        k0 (r2++(Z2X [wu8 (Z8g (48+(Int.tmod n_ 10)))]))
       else none)
      (self (Z8g (Int.tdiv n_ 10)) λ(r3:qB)=>
       bif lim ((ByteArray.size r3)+(ByteArray.size (Z2X [wu8 (Z8g (48+(Int.tmod n_ 10)))]))) then
        k0 (r3++(Z2X [wu8 (Z8g (48+(Int.tmod n_ 10)))]))
       else none)
theorem jnn (self:Int->(qB->Res)->Res) (n_:Int) (a_n_:Bool) (t_n_:List Tag) (k:qK):Z6X (jfQ self) [] .o false Tryz.f175 [.look (.int .i64) false] [false] [⟨(.int .i64),a_n_,n_,t_n_⟩] [] k=j0X self n_ (λ(r0:qB)=>k [⟨.str,false,r0,[]⟩] [] []):=by kernel_rfl
theorem jlX (self:Int->(qB->Res)->Res) (hself:Z1k Tryz.prog 175 (j2b self)):Z1k Tryz.prog 175 (j2b (j0X self)):=Z8N (Γ:=(jfQ self)) (X:=[]) (ht:= .o) (fz:=false) (c:=jfE) follows j01 (Z8C hself (Z8C jgZ Z8W)) trivial Tryz.func175 (by kernel_rfl) (by kernel_rfl) (by decide) (by
 intro vals ext k r h
 obtain ⟨n_,a_n_,t_n_,vals,rfl,h1⟩:=Z8T h
 obtain ⟨rfl,h2⟩:=Z90 h1
 obtain ⟨rfl,h3⟩:=Z90 h2
 exact (jnn self n_ a_n_ t_n_ k).trans h3)
noncomputable def j0P:Int->(qB->Res)->Res:=Z8f (λ_ _=>none) j0X Z0Y
theorem j1E:Z1k Tryz.prog 175 (j2b j0P):=Z7O (C:=λt=>Z1k Tryz.prog 175 (j2b t)) (Z8j (c:=jfE) Tryz.func175 (by kernel_rfl) (by kernel_rfl) (by
 intro vals ext k r h
 obtain ⟨n_,a_n_,t_n_,vals,rfl,h1⟩:=Z8T h
 obtain ⟨rfl,h2⟩:=Z90 h1
 obtain ⟨rfl,h3⟩:=Z90 h2
 cases h3)) (λt h=>jlX t h) Z0Y
noncomputable def j1o:Code:=(Tryz.f110.body).getD .skip
noncomputable def j7m:Env Unit:=⟨tys,[(175,(j2b j0P))],0⟩
noncomputable def j4g (s:qB) (i:Int) (k0:Unit->Res) (k1:Unit->Res):Res:=
 bif (i==0) then
  bif inb 0 (ByteArray.size s) then
   bif ((bt s 0)==45) then
    k1 ()
   else
    k0 ()
  else none
 else
  k0 ()
noncomputable def j2D:Z1l Unit:=λσ k=>rdN σ 55<|rdV σ 0 .str false [] λs=>rdV σ 4 (.int .i64) false [] λn_=>rdV σ 5 (.int .i64) false [] λi=>j4g s i (λ(_:Unit)=>k .normal (mkS 55 55 [(0,.val ⟨.str,false,s,[]⟩),(4,.val ⟨(.int .i64),false,n_,[]⟩),(5,.val ⟨(.int .i64),false,i,[]⟩)] [])) (λ(_:Unit)=>k (.exit 1) (mkS 55 55 [(0,.val ⟨.str,false,s,[]⟩),(4,.val ⟨(.int .i64),false,n_,[]⟩),(5,.val ⟨(.int .i64),false,i,[]⟩),(23,.val ⟨.str,false,s,[]⟩),(24,.val ⟨(.int .u8),false,bt s 0,[]⟩),(25,.val ⟨.bool,false,((bt s 0)==45),[]⟩)] []))
theorem jkk (s:qB) (n_:Int) (i:Int) (k:Z6G Unit):Z0R j7m [] .o (pl (pl (pl (pr (pl (pl (pr (pl (pr (pr (pr j1o))))))))))) (mkS 55 55 [(0,.val ⟨.str,false,s,[]⟩),(4,.val ⟨(.int .i64),false,n_,[]⟩),(5,.val ⟨(.int .i64),false,i,[]⟩)] []) (λe σ=>k e ((Z8a ([0,4,5],[]) [(1,[0,4,5,23,24,25],[])] ([],[])) e σ))=j4g s i (λ(_:Unit)=>k .normal (mkS 55 55 [(0,.val ⟨.str,false,s,[]⟩),(4,.val ⟨(.int .i64),false,n_,[]⟩),(5,.val ⟨(.int .i64),false,i,[]⟩)] [])) (λ(_:Unit)=>k (.exit 1) (mkS 55 55 [(0,.val ⟨.str,false,s,[]⟩),(4,.val ⟨(.int .i64),false,n_,[]⟩),(5,.val ⟨(.int .i64),false,i,[]⟩),(23,.val ⟨.str,false,s,[]⟩),(24,.val ⟨(.int .u8),false,bt s 0,[]⟩),(25,.val ⟨.bool,false,((bt s 0)==45),[]⟩)] [])):=by kernel_rfl
theorem jl7 {W0:Base} {M:Nat->Prop} (hnp:W0.np<=0):Z1W Tryz.prog W0 M (pl (pl (pl (pr (pl (pl (pr (pl (pr (pr (pr j1o))))))))))) j2D:=Z91 (Z6Q follows j01 (Z7K (Z8C j1E Z8W)) hnp [] ((pl (pl (pl (pr (pl (pl (pr (pl (pr (pr (pr j1o)))))))))))) .o trivial) (fg:=(Z8a ([0,4,5],[]) [(1,[0,4,5,23,24,25],[])] ([],[]))) (Z8U _ _ _) (by
 intro σ k r h
 obtain ⟨hn,h1⟩:=Z8G h
 obtain ⟨s,hs0,h2⟩:=Z8J h1
 obtain ⟨n_,hs4,h3⟩:=Z8J h2
 obtain ⟨i,hs5,h4⟩:=Z8J h3
 refine ⟨_,?_,(jkk s n_ i k).trans h4⟩
 exact Z9e hn ⟨hs0,hs4,hs5,trivial⟩ trivial)
noncomputable def j2e (s:qB) (n_:Int) (i:Int) (rec:Int->Int->Res) (k0:Int->Res) (k1:Unit->Res):Res:=
 bif decide (i<(nI (ByteArray.size s))) then
  j4g s i
   (λ(_:Unit)=>
    bif inb i (ByteArray.size s) then
     bif decide ((bt s i)<48) then
      k1 ()
     else
      bif inb i (ByteArray.size s) then
       bif decide ((bt s i)>57) then
        k1 ()
       else
        bif inb i (ByteArray.size s) then
         rec (Z8g ((Z8g (n_ * 10))+(Z8g (wu8 ((bt s i)-48))))) (Z8g (i+1))
        else none
      else none
    else none)
   (λ(_:Unit)=>
    rec n_ (Z8g (i+1)))
 else
  k0 n_
noncomputable def j3n (s:qB):(Int×Int)->(Int×Int->Res)->((Int->Res)×(Unit->Res))->Res:=λv rec q=>j2e s v.1 v.2 (λn_ i=>rec (n_,i)) q.1 q.2
noncomputable def jc8 (s:qB) (n:Nat) (n_:Int) (i:Int) (k0:Int->Res) (k1:Unit->Res):Res:=Z10 (j3n s) n (n_,i) (k0,k1)
noncomputable def j3M:Z1l Unit:=λσ k=>rdN σ 55<|rdV σ 0 .str false [] λs=>rdV σ 4 (.int .i64) false [] λn_=>rdV σ 5 (.int .i64) false [] λi=>jc8 s Z0Y n_ i (λ(n_1:Int)=>k (.exit 0) (mkS 55 55 [(0,.val ⟨.str,false,s,[]⟩),(4,.val ⟨(.int .i64),false,n_1,[]⟩)] [])) (λ(_:Unit)=>k .ret (mkS 55 55 [(2,.val ⟨(.int .i64),false,0,[]⟩),(3,.val ⟨.bool,false,false,[]⟩)] []))
theorem jkj (s:qB) (n:Nat) (v:Int×Int) (k:Z6G Unit):Z3X (Z0R j7m [j2D] (.t .o (.t (.t (.t (.x 0) .o) .o) .o)) (pl (pl (pr (pl (pr (pr (pr j1o)))))))) (λσ=>σ.forget [0,4,5] []) (Z8a ([],[]) [(0,[0,4],[])] ([2,3],[])) n (mkS 55 55 [(0,.val ⟨.str,false,s,[]⟩),(4,.val ⟨(.int .i64),false,v.1,[]⟩),(5,.val ⟨(.int .i64),false,v.2,[]⟩)] []) k=Z10 (j3n s) n v ((λ(k:Z6G Unit)=>(((λ(n_1:Int)=>k (.exit 0) (mkS 55 55 [(0,.val ⟨.str,false,s,[]⟩),(4,.val ⟨(.int .i64),false,n_1,[]⟩)] [])),(λ(_:Unit)=>k .ret (mkS 55 55 [(2,.val ⟨(.int .i64),false,0,[]⟩),(3,.val ⟨.bool,false,false,[]⟩)] []))):(Int->Res)×(Unit->Res))) k):=Z80 (λv:Int×Int=>(mkS 55 55 [(0,.val ⟨.str,false,s,[]⟩),(4,.val ⟨(.int .i64),false,v.1,[]⟩),(5,.val ⟨(.int .i64),false,v.2,[]⟩)] [])) (j3n s) (λ(k:Z6G Unit)=>(((λ(n_1:Int)=>k (.exit 0) (mkS 55 55 [(0,.val ⟨.str,false,s,[]⟩),(4,.val ⟨(.int .i64),false,n_1,[]⟩)] [])),(λ(_:Unit)=>k .ret (mkS 55 55 [(2,.val ⟨(.int .i64),false,0,[]⟩),(3,.val ⟨.bool,false,false,[]⟩)] []))):(Int->Res)×(Unit->Res))) (λv rec k=>by kernel_rfl) n v k
theorem jl6 {W0:Base} {M:Nat->Prop} (hnp:W0.np<=0):Z1W Tryz.prog W0 M (pl (pr (pl (pr (pr (pr j1o)))))) j3M:=show Z1W Tryz.prog W0 M (Code.loop (pl (pl (pr (pl (pr (pr (pr j1o)))))))) j3M from Z8X (Z6Q follows j01 (Z7K (Z8C j1E Z8W)) hnp [j2D] (pl (pl (pr (pl (pr (pr (pr j1o))))))) (.t .o (.t (.t (.t (.x 0) .o) .o) .o)) (Z1A.mk trivial ((Z1A.mk ((Z1A.mk ((Z1A.mk (Z1A.x_mk (λW0 M hnp=>jl7 (W0:=W0) (M:=M) hnp)) trivial)) trivial)) trivial)))) (ks:=[0,4,5]) (bs:=[]) (fX:=(Z8a ([],[]) [(0,[0,4],[])] ([2,3],[]))) (Z8U _ _ _) Z0Y (by
 intro σ k r h
 obtain ⟨hn,h1⟩:=Z8G h
 obtain ⟨s,hs0,h2⟩:=Z8J h1
 obtain ⟨n_,hs4,h3⟩:=Z8J h2
 obtain ⟨i,hs5,h4⟩:=Z8J h3
 refine ⟨_,?_,(jkj s Z0Y (n_,i) k).trans h4⟩
 exact Z9e hn ⟨hs0,hs4,hs5,trivial⟩ trivial)
noncomputable def j99 (n_:Int) (t47:Bool) (k0:Int->Res):Res:=
 bif t47 then
  k0 (Z8g (0-n_))
 else
  k0 n_
noncomputable def jbh:Z1l Unit:=λσ k=>rdN σ 55<|rdV σ 0 .str false [] λs=>rdV σ 4 (.int .i64) false [] λn_=>rdV σ 47 .bool false [] λt47=>j99 n_ t47 (λ(n_1:Int)=>k .normal (mkS 55 55 [(0,.val ⟨.str,false,s,[]⟩),(4,.val ⟨(.int .i64),false,n_1,[]⟩)] []))
theorem jkl (s:qB) (n_:Int) (t47:Bool) (k:Z6G Unit):Z0R j7m [j2D,j3M] .o (pr (pl (pr (pr (pr (pr j1o)))))) (mkS 55 55 [(0,.val ⟨.str,false,s,[]⟩),(4,.val ⟨(.int .i64),false,n_,[]⟩),(47,.val ⟨.bool,false,t47,[]⟩)] []) (λe σ=>k e ((Z8a ([0,4],[]) [] ([],[])) e σ))=j99 n_ t47 (λ(n_1:Int)=>k .normal (mkS 55 55 [(0,.val ⟨.str,false,s,[]⟩),(4,.val ⟨(.int .i64),false,n_1,[]⟩)] [])):=by kernel_rfl
theorem jl8 {W0:Base} {M:Nat->Prop} (hnp:W0.np<=0):Z1W Tryz.prog W0 M (pr (pl (pr (pr (pr (pr j1o)))))) jbh:=Z91 (Z6Q follows j01 (Z7K (Z8C j1E Z8W)) hnp [j2D,j3M] ((pr (pl (pr (pr (pr (pr j1o))))))) .o trivial) (fg:=(Z8a ([0,4],[]) [] ([],[]))) (Z8U _ _ _) (by
 intro σ k r h
 obtain ⟨hn,h1⟩:=Z8G h
 obtain ⟨s,hs0,h2⟩:=Z8J h1
 obtain ⟨n_,hs4,h3⟩:=Z8J h2
 obtain ⟨t47,hs47,h4⟩:=Z8J h3
 refine ⟨_,?_,(jkl s n_ t47 k).trans h4⟩
 exact Z9e hn ⟨hs0,hs4,hs47,trivial⟩ trivial)
noncomputable def j3d (s:qB) (k0:Int->Bool->Res):Res:=
 bif decide ((nI (ByteArray.size s))<1) then
  k0 0 false
 else
  bif decide ((nI (ByteArray.size s))>14) then
   k0 0 false
  else
   jc8 s Z0Y 0 0
    (λ(n_:Int)=>
     bif inb 0 (ByteArray.size s) then
      j99 n_ ((bt s 0)==45) λ(n_1:Int)=>
       j0P n_1 λ(r:qB)=>
        bif sNe r s then
         k0 0 false
        else
         k0 n_1 true
     else none)
    (λ(_:Unit)=>
     k0 0 false)
noncomputable def ja9:Sig Unit:=⟨[.look .str false],[false,false],λvals ext k=>av vals .str λs vals=>nl vals<|nl ext<|j3d s (λ(r0:Int) (r1:Bool)=>k [⟨(.int .i64),false,r0,[]⟩,⟨.bool,false,r1,[]⟩] [] [])⟩
theorem jnr (s:qB) (a_s:Bool) (t_s:List Tag) (k:qK):Z6X j7m [j2D,j3M,jbh] (.t .o (.t .o (.t .o (.t (.t .o (.t (.x 1) .o)) (.t (.t .o (.x 2)) .o))))) false Tryz.f110 [.look .str false] [false,false] [⟨.str,a_s,s,t_s⟩] [] k=j3d s (λ(r0:Int) (r1:Bool)=>k [⟨(.int .i64),false,r0,[]⟩,⟨.bool,false,r1,[]⟩] [] []):=by kernel_rfl
theorem j0W:Z1k Tryz.prog 110 ja9:=Z8N (Γ:=j7m) (X:=[j2D,j3M,jbh]) (ht:=(.t .o (.t .o (.t .o (.t (.t .o (.t (.x 1) .o)) (.t (.t .o (.x 2)) .o)))))) (fz:=false) (c:=j1o) follows j01 (Z8C j1E Z8W) (Z1A.mk trivial ((Z1A.mk trivial ((Z1A.mk trivial ((Z1A.mk ((Z1A.mk trivial ((Z1A.mk (Z1A.x_mk (λW0 M hnp=>jl6 (W0:=W0) (M:=M) hnp)) trivial)))) ((Z1A.mk ((Z1A.mk trivial (Z1A.x_mk (λW0 M hnp=>jl8 (W0:=W0) (M:=M) hnp)))) trivial))))))))) Tryz.func110 (by kernel_rfl) (by kernel_rfl) (by decide) (by
 intro vals ext k r h
 obtain ⟨s,a_s,t_s,vals,rfl,h1⟩:=Z8T h
 obtain ⟨rfl,h2⟩:=Z90 h1
 obtain ⟨rfl,h3⟩:=Z90 h2
 exact (jnr s a_s t_s k).trans h3)
noncomputable def jpk:Code:=(Tryz.f287.body).getD .skip
noncomputable def jh6:Env Unit:=⟨tys,[],0⟩
noncomputable def j6C (d:Int) (k0:Int->Res):Res:=
 bif inb (Int.tmod d 16) 16 then
  k0 (bt j0k (Int.tmod d 16))
 else none
noncomputable def jdu:Sig Unit:=⟨[.look (.int .i64) false],[false],λvals ext k=>av vals (.int .i64) λd vals=>nl vals<|nl ext<|j6C d (λ(r0:Int)=>k [⟨(.int .u8),false,r0,[]⟩] [] [])⟩
theorem jp5 (d:Int) (a_d:Bool) (t_d:List Tag) (k:qK):Z6X jh6 [] .o false Tryz.f287 [.look (.int .i64) false] [false] [⟨(.int .i64),a_d,d,t_d⟩] [] k=j6C d (λ(r0:Int)=>k [⟨(.int .u8),false,r0,[]⟩] [] []):=by kernel_rfl
theorem j85:Z1k Tryz.prog 287 jdu:=Z8N (Γ:=jh6) (X:=[]) (ht:= .o) (fz:=false) (c:=jpk) follows j01 Z8W trivial Tryz.func287 (by kernel_rfl) (by kernel_rfl) (by decide) (by
 intro vals ext k r h
 obtain ⟨d,a_d,t_d,vals,rfl,h1⟩:=Z8T h
 obtain ⟨rfl,h2⟩:=Z90 h1
 obtain ⟨rfl,h3⟩:=Z90 h2
 exact (jp5 d a_d t_d k).trans h3)
noncomputable def j7c:Code:=(Tryz.f289.body).getD .skip
noncomputable def jcD:Env Unit:=⟨tys,[(287,jdu)],0⟩
noncomputable def j4x (b:Int) (d:Int) (rec:Int->Res) (k0:Unit->Res) (k1:Int->Res):Res:=
 bif decide (d<16) then
  j6C d λ(r:Int)=>
   bif (r==b) then
    k1 d
   else
    rec (Z8g (d+1))
 else
  k0 ()
noncomputable def j6O (b:Int):Int->(Int->Res)->((Unit->Res)×(Int->Res))->Res:=λv rec q=>j4x b v (λd=>rec (d)) q.1 q.2
noncomputable def jcb (b:Int) (n:Nat) (d:Int) (k0:Unit->Res) (k1:Int->Res):Res:=Z10 (j6O b) n (d) (k0,k1)
noncomputable def j80:Z1l Unit:=λσ k=>rdN σ 13<|rdV σ 0 (.int .u8) false [] λb=>rdV σ 3 (.int .i64) false [] λd=>jcb b Z0Y d (λ(_:Unit)=>k (.exit 0) (mkS 13 13 [] [])) (λ(t2:Int)=>k .ret (mkS 13 13 [(2,.val ⟨(.int .i64),false,t2,[]⟩)] []))
theorem jku (b:Int) (n:Nat) (v:Int) (k:Z6G Unit):Z3X (Z0R jcD [] .o (pl (pl (pr (pl (pr j7c)))))) (λσ=>σ.forget [0,3] []) (Z8a ([],[]) [(0,[],[])] ([2],[])) n (mkS 13 13 [(0,.val ⟨(.int .u8),false,b,[]⟩),(3,.val ⟨(.int .i64),false,v,[]⟩)] []) k=Z10 (j6O b) n v ((λ(k:Z6G Unit)=>(((λ(_:Unit)=>k (.exit 0) (mkS 13 13 [] [])),(λ(t2:Int)=>k .ret (mkS 13 13 [(2,.val ⟨(.int .i64),false,t2,[]⟩)] []))):(Unit->Res)×(Int->Res))) k):=Z80 (λv:Int=>(mkS 13 13 [(0,.val ⟨(.int .u8),false,b,[]⟩),(3,.val ⟨(.int .i64),false,v,[]⟩)] [])) (j6O b) (λ(k:Z6G Unit)=>(((λ(_:Unit)=>k (.exit 0) (mkS 13 13 [] [])),(λ(t2:Int)=>k .ret (mkS 13 13 [(2,.val ⟨(.int .i64),false,t2,[]⟩)] []))):(Unit->Res)×(Int->Res))) (λv rec k=>by kernel_rfl) n v k
theorem jlh {W0:Base} {M:Nat->Prop} (hnp:W0.np<=0):Z1W Tryz.prog W0 M (pl (pr (pl (pr j7c)))) j80:=show Z1W Tryz.prog W0 M (Code.loop (pl (pl (pr (pl (pr j7c)))))) j80 from Z8X (Z6Q follows j01 (Z7K (Z8C j85 Z8W)) hnp [] (pl (pl (pr (pl (pr j7c))))) .o trivial) (ks:=[0,3]) (bs:=[]) (fX:=(Z8a ([],[]) [(0,[],[])] ([2],[]))) (Z8U _ _ _) Z0Y (by
 intro σ k r h
 obtain ⟨hn,h1⟩:=Z8G h
 obtain ⟨b,hs0,h2⟩:=Z8J h1
 obtain ⟨d,hs3,h3⟩:=Z8J h2
 refine ⟨_,?_,(jku b Z0Y (d) k).trans h3⟩
 exact Z9e hn ⟨hs0,hs3,trivial⟩ trivial)
noncomputable def j7r (b:Int) (k0:Int->Res):Res:=
 jcb b Z0Y 0
  (λ(_:Unit)=>
   k0 0)
  (λ(t:Int)=>
   k0 t)
noncomputable def jgd:Sig Unit:=⟨[.look (.int .u8) false],[false],λvals ext k=>av vals (.int .u8) λb vals=>nl vals<|nl ext<|j7r b (λ(r0:Int)=>k [⟨(.int .i64),false,r0,[]⟩] [] [])⟩
theorem jnw (b:Int) (a_b:Bool) (t_b:List Tag) (k:qK):Z6X jcD [j80] (.t .o (.t (.t .o (.t (.x 0) .o)) .o)) false Tryz.f289 [.look (.int .u8) false] [false] [⟨(.int .u8),a_b,b,t_b⟩] [] k=j7r b (λ(r0:Int)=>k [⟨(.int .i64),false,r0,[]⟩] [] []):=by kernel_rfl
theorem j7a:Z1k Tryz.prog 289 jgd:=Z8N (Γ:=jcD) (X:=[j80]) (ht:=(.t .o (.t (.t .o (.t (.x 0) .o)) .o))) (fz:=false) (c:=j7c) follows j01 (Z8C j85 Z8W) (Z1A.mk trivial ((Z1A.mk ((Z1A.mk trivial ((Z1A.mk (Z1A.x_mk (λW0 M hnp=>jlh (W0:=W0) (M:=M) hnp)) trivial)))) trivial))) Tryz.func289 (by kernel_rfl) (by kernel_rfl) (by decide) (by
 intro vals ext k r h
 obtain ⟨b,a_b,t_b,vals,rfl,h1⟩:=Z8T h
 obtain ⟨rfl,h2⟩:=Z90 h1
 obtain ⟨rfl,h3⟩:=Z90 h2
 exact (jnw b a_b t_b k).trans h3)
noncomputable def jq6:Code:=(Tryz.f157.body).getD .skip
noncomputable def jhU:Env Unit:=⟨tys,[(208,jdv)],0⟩
noncomputable def j7P (v_:Int×Int×qB) (k0:Bool->Res):Res:=
 bif (v_.1==0) then
  bif (v_.2.1==0) then
   k0 (sEq v_.2.2 eS)
  else
   k0 false
 else
  bif (v_.1==1) then
   bif (v_.2.1==0) then
    k0 (sEq v_.2.2 eS)
   else
    bif (v_.2.1==1) then
     k0 (sEq v_.2.2 eS)
    else
     k0 false
  else
   bif (v_.1==2) then
    jaD v_.2.1 λ(r:Bool)=>
     bif r then
      k0 (sEq v_.2.2 eS)
     else
      k0 false
   else
    bif (v_.1==3) then
     bif (v_.2.1==0) then
      k0 (decide ((nI (ByteArray.size v_.2.2))<=30))
     else
      k0 false
    else
     k0 false
noncomputable def jc3:Sig Unit:=⟨[.look y2 true],[false],λvals ext k=>av vals y2 λv_ vals=>nl vals<|nl ext<|j7P v_ (λ(r0:Bool)=>k [⟨.bool,false,r0,[]⟩] [] [])⟩
theorem jpO (v_:Int×Int×qB) (a_v_:Bool) (t_v_:List Tag) (k:qK):Z6X jhU [] .o false Tryz.f157 [.look y2 true] [false] [⟨y2,a_v_,v_,t_v_⟩] [] k=j7P v_ (λ(r0:Bool)=>k [⟨.bool,false,r0,[]⟩] [] []):=by kernel_rfl
theorem j79:Z1k Tryz.prog 157 jc3:=Z8N (Γ:=jhU) (X:=[]) (ht:= .o) (fz:=false) (c:=jq6) follows j01 (Z8C jgZ Z8W) trivial Tryz.func157 (by kernel_rfl) (by kernel_rfl) (by decide) (by
 intro vals ext k r h
 obtain ⟨v_,a_v_,t_v_,vals,rfl,h1⟩:=Z8T h
 obtain ⟨rfl,h2⟩:=Z90 h1
 obtain ⟨rfl,h3⟩:=Z90 h2
 exact (jpO v_ a_v_ t_v_ k).trans h3)
noncomputable def jnR:Code:=(Tryz.f286.body).getD .skip
noncomputable def jfR:Env Unit:=⟨tys,[],0⟩
noncomputable def jca (n_:Int) (k0:qB->Res):Res:=
 bif (n_==1) then
  k0 j1r
 else
  k0 j19
noncomputable def jgc:Sig Unit:=⟨[.look (.int .i64) false],[false],λvals ext k=>av vals (.int .i64) λn_ vals=>nl vals<|nl ext<|jca n_ (λ(r0:qB)=>k [⟨.str,false,r0,[]⟩] [] [])⟩
theorem jnv (n_:Int) (a_n_:Bool) (t_n_:List Tag) (k:qK):Z6X jfR [] .o false Tryz.f286 [.look (.int .i64) false] [false] [⟨(.int .i64),a_n_,n_,t_n_⟩] [] k=jca n_ (λ(r0:qB)=>k [⟨.str,false,r0,[]⟩] [] []):=by kernel_rfl
theorem jcq:Z1k Tryz.prog 286 jgc:=Z8N (Γ:=jfR) (X:=[]) (ht:= .o) (fz:=false) (c:=jnR) follows j01 Z8W trivial Tryz.func286 (by kernel_rfl) (by kernel_rfl) (by decide) (by
 intro vals ext k r h
 obtain ⟨n_,a_n_,t_n_,vals,rfl,h1⟩:=Z8T h
 obtain ⟨rfl,h2⟩:=Z90 h1
 obtain ⟨rfl,h3⟩:=Z90 h2
 exact (jnv n_ a_n_ t_n_ k).trans h3)
noncomputable def j2L:Code:=(Tryz.f253.body).getD .skip
noncomputable def j9X:Env Unit:=⟨tys,[(157,jc3),(175,(j2b j0P)),(286,jgc),(287,jdu)],0⟩
noncomputable def j6k (b:Int) (k0:Bool->Res):Res:=
 bif decide (b>=33) then
  bif decide (b<=126) then
   bif (b != 39) then
    k0 (b != 37)
   else
    k0 false
  else
   k0 false
 else
  k0 false
noncomputable def j5p:Z1l Unit:=λσ k=>rdN σ 68<|rdT σ 1 (.ptr ⟨true,1,[]⟩)<|rdV σ 3 y0 false [.O] λout=>rdV σ 4 (.int .i64) false [] λi=>rdV σ 5 (.int .u8) false [] λb=>rdB σ 1 y2 [] λa v_=>j6k b (λ(t48:Bool)=>k .normal (mkS 68 68 [(1,.ptr ⟨true,1,[]⟩),(3,.val ⟨y0,false,out,[.O]⟩),(4,.val ⟨(.int .i64),false,i,[]⟩),(5,.val ⟨(.int .u8),false,b,[]⟩),(48,.val ⟨.bool,false,t48,[]⟩)] [(1,⟨y2,a,v_,[]⟩)]))
theorem jkt (out:List Int) (i:Int) (b:Int) (a:Bool) (v_:Int×Int×qB) (k:Z6G Unit):Z0R j9X [] .o (pl (pr (pl (pl (pr (pl (pl (pr (pl (pr (pr (pr (pr j2L))))))))))))) (mkS 68 68 [(1,.ptr ⟨true,1,[]⟩),(3,.val ⟨y0,false,out,[.O]⟩),(4,.val ⟨(.int .i64),false,i,[]⟩),(5,.val ⟨(.int .u8),false,b,[]⟩)] [(1,⟨y2,a,v_,[]⟩)]) (λe σ=>k e ((Z8a ([1,3,4,5,48],[1]) [] ([],[])) e σ))=j6k b (λ(t48:Bool)=>k .normal (mkS 68 68 [(1,.ptr ⟨true,1,[]⟩),(3,.val ⟨y0,false,out,[.O]⟩),(4,.val ⟨(.int .i64),false,i,[]⟩),(5,.val ⟨(.int .u8),false,b,[]⟩),(48,.val ⟨.bool,false,t48,[]⟩)] [(1,⟨y2,a,v_,[]⟩)])):=by kernel_rfl
theorem jlg {W0:Base} {M:Nat->Prop} (hnp:W0.np<=0):Z1W Tryz.prog W0 M (pl (pr (pl (pl (pr (pl (pl (pr (pl (pr (pr (pr (pr j2L))))))))))))) j5p:=Z91 (Z6Q follows j01 (Z7K (Z8C j79 (Z8C j1E (Z8C jcq (Z8C j85 Z8W))))) hnp [] ((pl (pr (pl (pl (pr (pl (pl (pr (pl (pr (pr (pr (pr j2L)))))))))))))) .o trivial) (fg:=(Z8a ([1,3,4,5,48],[1]) [] ([],[]))) (Z8U _ _ _) (by
 intro σ k r h
 obtain ⟨hn,h1⟩:=Z8G h
 obtain ⟨hs1,h2⟩:=Z8H h1
 obtain ⟨out,hs3,h3⟩:=Z8J h2
 obtain ⟨i,hs4,h4⟩:=Z8J h3
 obtain ⟨b,hs5,h5⟩:=Z8J h4
 obtain ⟨a,v_,hb1,h6⟩:=Z8D h5
 refine ⟨_,?_,(jkt out i b a v_ k).trans h6⟩
 exact Z9e hn ⟨hs1,hs3,hs4,hs5,trivial⟩ ⟨hb1,trivial⟩)
noncomputable def j4w (v_:Int×Int×qB) (out:List Int) (i:Int) (rec:(List Int)->Int->Res) (k0:(List Int)->Res):Res:=
 bif decide (i<(nI (ByteArray.size v_.2.2))) then
  bif inb i (ByteArray.size v_.2.2) then
   j6k (bt v_.2.2 i) λ(t:Bool)=>
    bif t then
     bif lim ((List.length out)+1) then
      rec (out++[bt v_.2.2 i]) (Z8g (i+1))
     else none
    else
     j6C (Z8g (Int.tdiv (Z8g (bt v_.2.2 i)) 16)) λ(r:Int)=>
      j6C (Int.tmod (Z8g (bt v_.2.2 i)) 16) λ(r1:Int)=>
       bif lim ((List.length out)+3) then
        rec (out++[37,r,r1]) (Z8g (i+1))
       else none
  else none
 else
  k0 out
noncomputable def j6N (v_:Int×Int×qB):((List Int)×Int)->((List Int)×Int->Res)->(((List Int)->Res))->Res:=λv rec q=>j4w v_ v.1 v.2 (λout i=>rec (out,i)) q
noncomputable def j9a (v_:Int×Int×qB) (n:Nat) (out:List Int) (i:Int) (k0:(List Int)->Res):Res:=Z10 (j6N v_) n (out,i) (k0)
noncomputable def j7Z:Z1l Unit:=λσ k=>rdN σ 68<|rdT σ 1 (.ptr ⟨true,1,[]⟩)<|rdV σ 3 y0 false [.O] λout=>rdV σ 4 (.int .i64) false [] λi=>rdB σ 1 y2 [] λa v_=>j9a v_ Z0Y out i (λ(out1:List Int)=>k (.exit 1) (mkS 68 68 [(3,.val ⟨y0,false,out1,[.O]⟩)] []))
theorem jks (a:Bool) (v_:Int×Int×qB) (n:Nat) (v:(List Int)×Int) (k:Z6G Unit):Z3X (Z0R j9X [j5p] (.t .o (.t (.t (.t .o (.t (.x 0) .o)) .o) .o)) (pl (pl (pr (pl (pr (pr (pr (pr j2L))))))))) (λσ=>σ.forget [1,3,4] [1]) (Z8a ([],[]) [(1,[3],[])] ([],[])) n (mkS 68 68 [(1,.ptr ⟨true,1,[]⟩),(3,.val ⟨y0,false,v.1,[.O]⟩),(4,.val ⟨(.int .i64),false,v.2,[]⟩)] [(1,⟨y2,a,v_,[]⟩)]) k=Z10 (j6N v_) n v ((λ(k:Z6G Unit)=>(((λ(out1:List Int)=>k (.exit 1) (mkS 68 68 [(3,.val ⟨y0,false,out1,[.O]⟩)] []))):((List Int)->Res))) k):=Z80 (λv:(List Int)×Int=>(mkS 68 68 [(1,.ptr ⟨true,1,[]⟩),(3,.val ⟨y0,false,v.1,[.O]⟩),(4,.val ⟨(.int .i64),false,v.2,[]⟩)] [(1,⟨y2,a,v_,[]⟩)])) (j6N v_) (λ(k:Z6G Unit)=>(((λ(out1:List Int)=>k (.exit 1) (mkS 68 68 [(3,.val ⟨y0,false,out1,[.O]⟩)] []))):((List Int)->Res))) (λv rec k=>by kernel_rfl) n v k
theorem jlf {W0:Base} {M:Nat->Prop} (hnp:W0.np<=0):Z1W Tryz.prog W0 M (pl (pr (pl (pr (pr (pr (pr j2L))))))) j7Z:=show Z1W Tryz.prog W0 M (Code.loop (pl (pl (pr (pl (pr (pr (pr (pr j2L))))))))) j7Z from Z8X (Z6Q follows j01 (Z7K (Z8C j79 (Z8C j1E (Z8C jcq (Z8C j85 Z8W))))) hnp [j5p] (pl (pl (pr (pl (pr (pr (pr (pr j2L)))))))) (.t .o (.t (.t (.t .o (.t (.x 0) .o)) .o) .o)) (Z1A.mk trivial ((Z1A.mk ((Z1A.mk ((Z1A.mk trivial ((Z1A.mk (Z1A.x_mk (λW0 M hnp=>jlg (W0:=W0) (M:=M) hnp)) trivial)))) trivial)) trivial)))) (ks:=[1,3,4]) (bs:=[1]) (fX:=(Z8a ([],[]) [(1,[3],[])] ([],[]))) (Z8U _ _ _) Z0Y (by
 intro σ k r h
 obtain ⟨hn,h1⟩:=Z8G h
 obtain ⟨hs1,h2⟩:=Z8H h1
 obtain ⟨out,hs3,h3⟩:=Z8J h2
 obtain ⟨i,hs4,h4⟩:=Z8J h3
 obtain ⟨a,v_,hb1,h5⟩:=Z8D h4
 refine ⟨_,?_,(jks a v_ Z0Y (out,i) k).trans h5⟩
 exact Z9e hn ⟨hs1,hs3,hs4,trivial⟩ ⟨hb1,trivial⟩)
noncomputable def j5h (v_:Int×Int×qB) (k0:qB->Res):Res:=
 j7P v_ λ(r:Bool)=>
  bif !r then
   k0 eS
  else
   bif (v_.1==0) then
    k0 j6q
   else
    bif (v_.1==1) then
     jca v_.2.1 λ(r1:qB)=>
      k0 r1
    else
     bif (v_.1==2) then
      j0P v_.2.1 λ(r2:qB)=>
       k0 r2
     else
      j9a v_ Z0Y [39] 0 λ(out:List Int)=>
       bif lim ((List.length out)+1) then
        k0 (Z2X (out++[39]))
       else none
noncomputable def jaa:Sig Unit:=⟨[.look y2 true],[false],λvals ext k=>av vals y2 λv_ vals=>nl vals<|nl ext<|j5h v_ (λ(r0:qB)=>k [⟨.str,false,r0,[]⟩] [] [])⟩
theorem jnu (v_:Int×Int×qB) (a_v_:Bool) (t_v_:List Tag) (k:qK):Z6X j9X [j5p,j7Z] (.t .o (.t .o (.t .o (.t .o (.t (.t .o (.t (.x 1) .o)) .o))))) false Tryz.f253 [.look y2 true] [false] [⟨y2,a_v_,v_,t_v_⟩] [] k=j5h v_ (λ(r0:qB)=>k [⟨.str,false,r0,[]⟩] [] []):=by kernel_rfl
theorem j28:Z1k Tryz.prog 253 jaa:=Z8N (Γ:=j9X) (X:=[j5p,j7Z]) (ht:=(.t .o (.t .o (.t .o (.t .o (.t (.t .o (.t (.x 1) .o)) .o)))))) (fz:=false) (c:=j2L) follows j01 (Z8C j79 (Z8C j1E (Z8C jcq (Z8C j85 Z8W)))) (Z1A.mk trivial ((Z1A.mk trivial ((Z1A.mk trivial ((Z1A.mk trivial ((Z1A.mk ((Z1A.mk trivial ((Z1A.mk (Z1A.x_mk (λW0 M hnp=>jlf (W0:=W0) (M:=M) hnp)) trivial)))) trivial))))))))) Tryz.func253 (by kernel_rfl) (by kernel_rfl) (by decide) (by
 intro vals ext k r h
 obtain ⟨v_,a_v_,t_v_,vals,rfl,h1⟩:=Z8T h
 obtain ⟨rfl,h2⟩:=Z90 h1
 obtain ⟨rfl,h3⟩:=Z90 h2
 exact (jnu v_ a_v_ t_v_ k).trans h3)
noncomputable def j0G:Code:=(Tryz.f255.body).getD .skip
noncomputable def j4U:Env Unit:=⟨tys,[(110,ja9),(253,jaa),(289,jgd)],0⟩
noncomputable def j3f (n_:Int) (t15:Bool) (v_:Int×Int×qB) (k0:qV->Res):Res:=
 bif t15 then
  k0 (2,n_,eS)
 else
  k0 v_
noncomputable def j1z:Z1l Unit:=λσ k=>rdN σ 93<|rdV σ 0 .str false [] λs=>rdT σ 2 (.ptr ⟨true,2,[]⟩)<|rdT σ 4 (.ptr ⟨true,4,[]⟩)<|rdV σ 5 (.int .i64) false [] λn_=>rdV σ 15 .bool false [] λt15=>rdB σ 2 y2 [] λa t2=>rdB σ 4 y2 [] λa1 v_=>j3f n_ t15 v_ (λ(v_1:Int×Int×qB)=>k .normal (mkS 93 93 [(0,.val ⟨.str,false,s,[]⟩),(2,.ptr ⟨true,2,[]⟩),(4,.ptr ⟨true,4,[]⟩)] [(2,⟨y2,a,t2,[]⟩),(4,⟨y2,a1,v_1,[]⟩)]))
theorem jkp (s:qB) (n_:Int) (t15:Bool) (a:Bool) (t2:Int×Int×qB) (a1:Bool) (v_:Int×Int×qB) (k:Z6G Unit):Z0R j4U [] .o (pr (pl (pr (pr (pr j0G))))) (mkS 93 93 [(0,.val ⟨.str,false,s,[]⟩),(2,.ptr ⟨true,2,[]⟩),(4,.ptr ⟨true,4,[]⟩),(5,.val ⟨(.int .i64),false,n_,[]⟩),(15,.val ⟨.bool,false,t15,[]⟩)] [(2,⟨y2,a,t2,[]⟩),(4,⟨y2,a1,v_,[]⟩)]) (λe σ=>k e ((Z8a ([0,2,4],[2,4]) [] ([],[])) e σ))=j3f n_ t15 v_ (λ(v_1:Int×Int×qB)=>k .normal (mkS 93 93 [(0,.val ⟨.str,false,s,[]⟩),(2,.ptr ⟨true,2,[]⟩),(4,.ptr ⟨true,4,[]⟩)] [(2,⟨y2,a,t2,[]⟩),(4,⟨y2,a1,v_1,[]⟩)])):=by kernel_rfl
theorem jlc {W0:Base} {M:Nat->Prop} (hnp:W0.np<=0):Z1W Tryz.prog W0 M (pr (pl (pr (pr (pr j0G))))) j1z:=Z91 (Z6Q follows j01 (Z7K (Z8C j0W (Z8C j28 (Z8C j7a Z8W)))) hnp [] ((pr (pl (pr (pr (pr j0G)))))) .o trivial) (fg:=(Z8a ([0,2,4],[2,4]) [] ([],[]))) (Z8U _ _ _) (by
 intro σ k r h
 obtain ⟨hn,h1⟩:=Z8G h
 obtain ⟨s,hs0,h2⟩:=Z8J h1
 obtain ⟨hs2,h3⟩:=Z8H h2
 obtain ⟨hs4,h4⟩:=Z8H h3
 obtain ⟨n_,hs5,h5⟩:=Z8J h4
 obtain ⟨t15,hs15,h6⟩:=Z8J h5
 obtain ⟨a,t2,hb2,h7⟩:=Z8D h6
 obtain ⟨a1,v_,hb4,h8⟩:=Z8D h7
 refine ⟨_,?_,(jkp s n_ t15 a t2 a1 v_ k).trans h8⟩
 exact Z9e hn ⟨hs0,hs2,hs4,hs5,hs15,trivial⟩ ⟨hb2,hb4,trivial⟩)
noncomputable def j3g (s:qB) (v_:Int×Int×qB) (k0:qV->Res):Res:=
 bif sEq s j1r then
  k0 (1,Z8g (5-(nI (ByteArray.size s))),eS)
 else
  bif sEq s j19 then
   k0 (1,Z8g (5-(nI (ByteArray.size s))),eS)
  else
   k0 v_
noncomputable def j2E:Z1l Unit:=λσ k=>rdN σ 93<|rdV σ 0 .str false [] λs=>rdT σ 2 (.ptr ⟨true,2,[]⟩)<|rdT σ 4 (.ptr ⟨true,4,[]⟩)<|rdB σ 2 y2 [] λa t2=>rdB σ 4 y2 [] λa1 v_=>j3g s v_ (λ(v_1:Int×Int×qB)=>k .normal (mkS 93 93 [(0,.val ⟨.str,false,s,[]⟩),(2,.ptr ⟨true,2,[]⟩),(4,.ptr ⟨true,4,[]⟩)] [(2,⟨y2,a,t2,[]⟩),(4,⟨y2,a1,v_1,[]⟩)]))
theorem jkq (s:qB) (a:Bool) (t2:Int×Int×qB) (a1:Bool) (v_:Int×Int×qB) (k:Z6G Unit):Z0R j4U [j1z] .o (pl (pr (pr (pr (pr j0G))))) (mkS 93 93 [(0,.val ⟨.str,false,s,[]⟩),(2,.ptr ⟨true,2,[]⟩),(4,.ptr ⟨true,4,[]⟩)] [(2,⟨y2,a,t2,[]⟩),(4,⟨y2,a1,v_,[]⟩)]) (λe σ=>k e ((Z8a ([0,2,4],[2,4]) [] ([],[])) e σ))=j3g s v_ (λ(v_1:Int×Int×qB)=>k .normal (mkS 93 93 [(0,.val ⟨.str,false,s,[]⟩),(2,.ptr ⟨true,2,[]⟩),(4,.ptr ⟨true,4,[]⟩)] [(2,⟨y2,a,t2,[]⟩),(4,⟨y2,a1,v_1,[]⟩)])):=by kernel_rfl
theorem jld {W0:Base} {M:Nat->Prop} (hnp:W0.np<=0):Z1W Tryz.prog W0 M (pl (pr (pr (pr (pr j0G))))) j2E:=Z91 (Z6Q follows j01 (Z7K (Z8C j0W (Z8C j28 (Z8C j7a Z8W)))) hnp [j1z] ((pl (pr (pr (pr (pr j0G)))))) .o trivial) (fg:=(Z8a ([0,2,4],[2,4]) [] ([],[]))) (Z8U _ _ _) (by
 intro σ k r h
 obtain ⟨hn,h1⟩:=Z8G h
 obtain ⟨s,hs0,h2⟩:=Z8J h1
 obtain ⟨hs2,h3⟩:=Z8H h2
 obtain ⟨hs4,h4⟩:=Z8H h3
 obtain ⟨a,t2,hb2,h5⟩:=Z8D h4
 obtain ⟨a1,v_,hb4,h6⟩:=Z8D h5
 refine ⟨_,?_,(jkq s a t2 a1 v_ k).trans h6⟩
 exact Z9e hn ⟨hs0,hs2,hs4,trivial⟩ ⟨hb2,hb4,trivial⟩)
noncomputable def j1H (s:qB) (b:List Int) (i:Int) (rec:(List Int)->Int->Res) (k0:(List Int)->Res):Res:=
 bif decide (i<(Z8g ((nI (ByteArray.size s))-1))) then
  bif inb i (ByteArray.size s) then
   bif ((bt s i)==37) then
    bif decide ((Z8g (i+2))<(nI (ByteArray.size s))) then
     bif inb (Z8g (i+1)) (ByteArray.size s) then
      bif inb (Z8g (i+2)) (ByteArray.size s) then
       j7r (bt s (Z8g (i+1))) λ(r:Int)=>
        j7r (bt s (Z8g (i+2))) λ(r1:Int)=>
         bif lim ((List.length b)+1) then
          rec (b++[wu8 (Z8g ((Z8g (16 * r))+r1))]) (Z8g ((Z8g (i+2))+1))
         else none
      else none
     else none
    else
     bif inb i (ByteArray.size s) then
      bif lim ((List.length b)+1) then
       rec (b++[bt s i]) (Z8g (i+1))
      else none
     else none
   else
    bif inb i (ByteArray.size s) then
     bif lim ((List.length b)+1) then
      rec (b++[bt s i]) (Z8g (i+1))
     else none
    else none
  else none
 else
  k0 b
noncomputable def j3o (s:qB):((List Int)×Int)->((List Int)×Int->Res)->(((List Int)->Res))->Res:=λv rec q=>j1H s v.1 v.2 (λb i=>rec (b,i)) q
noncomputable def jfd (s:qB) (n:Nat) (b:List Int) (i:Int) (k0:(List Int)->Res):Res:=Z10 (j3o s) n (b,i) (k0)
noncomputable def j3O:Z1l Unit:=λσ k=>rdN σ 93<|rdV σ 0 .str false [] λs=>rdT σ 2 (.ptr ⟨true,2,[]⟩)<|rdT σ 4 (.ptr ⟨true,4,[]⟩)<|rdV σ 7 y0 false [.O] λb=>rdV σ 8 (.int .i64) false [] λi=>rdB σ 2 y2 [] λa t2=>rdB σ 4 y2 [] λa1 v_=>jfd s Z0Y b i (λ(b1:List Int)=>k (.exit 0) (mkS 93 93 [(0,.val ⟨.str,false,s,[]⟩),(2,.ptr ⟨true,2,[]⟩),(4,.ptr ⟨true,4,[]⟩),(7,.val ⟨y0,false,b1,[.O]⟩)] [(2,⟨y2,a,t2,[]⟩),(4,⟨y2,a1,v_,[]⟩)]))
theorem jko (s:qB) (a:Bool) (t2:Int×Int×qB) (a1:Bool) (v_:Int×Int×qB) (n:Nat) (v:(List Int)×Int) (k:Z6G Unit):Z3X (Z0R j4U [j1z,j2E] .o (pl (pl (pr (pl (pr (pl (pr (pl (pr (pr (pr (pr (pr j0G)))))))))))))) (λσ=>σ.forget [0,2,4,7,8] [2,4]) (Z8a ([],[]) [(0,[0,2,4,7],[2,4])] ([],[])) n (mkS 93 93 [(0,.val ⟨.str,false,s,[]⟩),(2,.ptr ⟨true,2,[]⟩),(4,.ptr ⟨true,4,[]⟩),(7,.val ⟨y0,false,v.1,[.O]⟩),(8,.val ⟨(.int .i64),false,v.2,[]⟩)] [(2,⟨y2,a,t2,[]⟩),(4,⟨y2,a1,v_,[]⟩)]) k=Z10 (j3o s) n v ((λ(k:Z6G Unit)=>(((λ(b1:List Int)=>k (.exit 0) (mkS 93 93 [(0,.val ⟨.str,false,s,[]⟩),(2,.ptr ⟨true,2,[]⟩),(4,.ptr ⟨true,4,[]⟩),(7,.val ⟨y0,false,b1,[.O]⟩)] [(2,⟨y2,a,t2,[]⟩),(4,⟨y2,a1,v_,[]⟩)]))):((List Int)->Res))) k):=Z80 (λv:(List Int)×Int=>(mkS 93 93 [(0,.val ⟨.str,false,s,[]⟩),(2,.ptr ⟨true,2,[]⟩),(4,.ptr ⟨true,4,[]⟩),(7,.val ⟨y0,false,v.1,[.O]⟩),(8,.val ⟨(.int .i64),false,v.2,[]⟩)] [(2,⟨y2,a,t2,[]⟩),(4,⟨y2,a1,v_,[]⟩)])) (j3o s) (λ(k:Z6G Unit)=>(((λ(b1:List Int)=>k (.exit 0) (mkS 93 93 [(0,.val ⟨.str,false,s,[]⟩),(2,.ptr ⟨true,2,[]⟩),(4,.ptr ⟨true,4,[]⟩),(7,.val ⟨y0,false,b1,[.O]⟩)] [(2,⟨y2,a,t2,[]⟩),(4,⟨y2,a1,v_,[]⟩)]))):((List Int)->Res))) (λv rec k=>by kernel_rfl) n v k
theorem jlb {W0:Base} {M:Nat->Prop} (hnp:W0.np<=0):Z1W Tryz.prog W0 M (pl (pr (pl (pr (pl (pr (pl (pr (pr (pr (pr (pr j0G)))))))))))) j3O:=show Z1W Tryz.prog W0 M (Code.loop (pl (pl (pr (pl (pr (pl (pr (pl (pr (pr (pr (pr (pr j0G)))))))))))))) j3O from Z8X (Z6Q follows j01 (Z7K (Z8C j0W (Z8C j28 (Z8C j7a Z8W)))) hnp [j1z,j2E] (pl (pl (pr (pl (pr (pl (pr (pl (pr (pr (pr (pr (pr j0G))))))))))))) .o trivial) (ks:=[0,2,4,7,8]) (bs:=[2,4]) (fX:=(Z8a ([],[]) [(0,[0,2,4,7],[2,4])] ([],[]))) (Z8U _ _ _) Z0Y (by
 intro σ k r h
 obtain ⟨hn,h1⟩:=Z8G h
 obtain ⟨s,hs0,h2⟩:=Z8J h1
 obtain ⟨hs2,h3⟩:=Z8H h2
 obtain ⟨hs4,h4⟩:=Z8H h3
 obtain ⟨b,hs7,h5⟩:=Z8J h4
 obtain ⟨i,hs8,h6⟩:=Z8J h5
 obtain ⟨a,t2,hb2,h7⟩:=Z8D h6
 obtain ⟨a1,v_,hb4,h8⟩:=Z8D h7
 refine ⟨_,?_,(jko s a t2 a1 v_ Z0Y (b,i) k).trans h8⟩
 exact Z9e hn ⟨hs0,hs2,hs4,hs7,hs8,trivial⟩ ⟨hb2,hb4,trivial⟩)
noncomputable def j3h (s:qB) (v_:Int×Int×qB) (k0:qV->Res):Res:=
 bif decide ((nI (ByteArray.size s))>1) then
  bif inb 0 (ByteArray.size s) then
   bif ((bt s 0)==39) then
    bif decide ((nI (ByteArray.size s))<94) then
     jfd s Z0Y [] 1 λ(b:List Int)=>
      k0 (3,0,Z2X b)
    else
     k0 v_
   else
    k0 v_
  else none
 else
  k0 v_
noncomputable def jbj:Z1l Unit:=λσ k=>rdN σ 93<|rdV σ 0 .str false [] λs=>rdT σ 2 (.ptr ⟨true,2,[]⟩)<|rdT σ 4 (.ptr ⟨true,4,[]⟩)<|rdB σ 2 y2 [] λa t2=>rdB σ 4 y2 [] λa1 v_=>j3h s v_ (λ(v_1:Int×Int×qB)=>k .normal (mkS 93 93 [(0,.val ⟨.str,false,s,[]⟩),(2,.ptr ⟨true,2,[]⟩),(4,.ptr ⟨true,4,[]⟩)] [(2,⟨y2,a,t2,[]⟩),(4,⟨y2,a1,v_1,[]⟩)]))
theorem jkr (s:qB) (a:Bool) (t2:Int×Int×qB) (a1:Bool) (v_:Int×Int×qB) (k:Z6G Unit):Z0R j4U [j1z,j2E,j3O] (.t .o (.t (.t .o (.t (.t .o (.t (.x 2) .o)) .o)) .o)) (pl (pr (pr (pr (pr (pr j0G)))))) (mkS 93 93 [(0,.val ⟨.str,false,s,[]⟩),(2,.ptr ⟨true,2,[]⟩),(4,.ptr ⟨true,4,[]⟩)] [(2,⟨y2,a,t2,[]⟩),(4,⟨y2,a1,v_,[]⟩)]) (λe σ=>k e ((Z8a ([0,2,4],[2,4]) [] ([],[])) e σ))=j3h s v_ (λ(v_1:Int×Int×qB)=>k .normal (mkS 93 93 [(0,.val ⟨.str,false,s,[]⟩),(2,.ptr ⟨true,2,[]⟩),(4,.ptr ⟨true,4,[]⟩)] [(2,⟨y2,a,t2,[]⟩),(4,⟨y2,a1,v_1,[]⟩)])):=by kernel_rfl
theorem jle {W0:Base} {M:Nat->Prop} (hnp:W0.np<=0):Z1W Tryz.prog W0 M (pl (pr (pr (pr (pr (pr j0G)))))) jbj:=Z91 (Z6Q follows j01 (Z7K (Z8C j0W (Z8C j28 (Z8C j7a Z8W)))) hnp [j1z,j2E,j3O] ((pl (pr (pr (pr (pr (pr j0G))))))) (.t .o (.t (.t .o (.t (.t .o (.t (.x 2) .o)) .o)) .o)) (Z1A.mk trivial ((Z1A.mk ((Z1A.mk trivial ((Z1A.mk ((Z1A.mk trivial ((Z1A.mk (Z1A.x_mk (λW0 M hnp=>jlb (W0:=W0) (M:=M) hnp)) trivial)))) trivial)))) trivial)))) (fg:=(Z8a ([0,2,4],[2,4]) [] ([],[]))) (Z8U _ _ _) (by
 intro σ k r h
 obtain ⟨hn,h1⟩:=Z8G h
 obtain ⟨s,hs0,h2⟩:=Z8J h1
 obtain ⟨hs2,h3⟩:=Z8H h2
 obtain ⟨hs4,h4⟩:=Z8H h3
 obtain ⟨a,t2,hb2,h5⟩:=Z8D h4
 obtain ⟨a1,v_,hb4,h6⟩:=Z8D h5
 refine ⟨_,?_,(jkr s a t2 a1 v_ k).trans h6⟩
 exact Z9e hn ⟨hs0,hs2,hs4,trivial⟩ ⟨hb2,hb4,trivial⟩)
noncomputable def j47 (s:qB) (k0:qV->Bool->Res):Res:=
 j3d s λ(r:Int) (r1:Bool)=>
  j3f r r1 (0,0,eS) λ(v_:Int×Int×qB)=>
   j3g s v_ λ(v_1:Int×Int×qB)=>
    j3h s v_1 λ(v_2:Int×Int×qB)=>
     j5h v_2 λ(r2:qB)=>
      bif sNe r2 s then
       k0 (0,0,eS) false
      else
       k0 v_2 true
noncomputable def jcT:Sig Unit:=⟨[.look .str false],[true,false],λvals ext k=>av vals .str λs vals=>nl vals<|nl ext<|j47 s (λ(r0:Int×Int×qB) (r1:Bool)=>k [⟨y2,true,r0,[]⟩,⟨.bool,false,r1,[]⟩] [] [])⟩
theorem jnt (s:qB) (a_s:Bool) (t_s:List Tag) (k:qK):Z6X j4U [j1z,j2E,j3O,jbj] (.t .o (.t .o (.t .o (.t (.t .o (.x 0)) (.t (.x 1) (.t (.x 3) .o)))))) false Tryz.f255 [.look .str false] [true,false] [⟨.str,a_s,s,t_s⟩] [] k=j47 s (λ(r0:Int×Int×qB) (r1:Bool)=>k [⟨y2,true,r0,[]⟩,⟨.bool,false,r1,[]⟩] [] []):=by kernel_rfl
theorem j78:Z1k Tryz.prog 255 jcT:=Z8N (Γ:=j4U) (X:=[j1z,j2E,j3O,jbj]) (ht:=(.t .o (.t .o (.t .o (.t (.t .o (.x 0)) (.t (.x 1) (.t (.x 3) .o))))))) (fz:=false) (c:=j0G) follows j01 (Z8C j0W (Z8C j28 (Z8C j7a Z8W))) (Z1A.mk trivial ((Z1A.mk trivial ((Z1A.mk trivial ((Z1A.mk ((Z1A.mk trivial (Z1A.x_mk (λW0 M hnp=>jlc (W0:=W0) (M:=M) hnp)))) ((Z1A.mk (Z1A.x_mk (λW0 M hnp=>jld (W0:=W0) (M:=M) hnp)) ((Z1A.mk (Z1A.x_mk (λW0 M hnp=>jle (W0:=W0) (M:=M) hnp)) trivial))))))))))) Tryz.func255 (by kernel_rfl) (by kernel_rfl) (by decide) (by
 intro vals ext k r h
 obtain ⟨s,a_s,t_s,vals,rfl,h1⟩:=Z8T h
 obtain ⟨rfl,h2⟩:=Z90 h1
 obtain ⟨rfl,h3⟩:=Z90 h2
 exact (jnt s a_s t_s k).trans h3)
noncomputable def j8c:Code:=(Tryz.f68.body).getD .skip
noncomputable def jdn:Env Unit:=⟨tys,[],0⟩
noncomputable def j5i (s:qB) (i:Int) (rec:Int->Res) (k0:Unit->Res) (k1:Unit->Res):Res:=
 bif decide (i<(nI (ByteArray.size s))) then
  bif inb i (ByteArray.size s) then
   bif decide ((bt s i)<97) then
    k1 ()
   else
    bif inb i (ByteArray.size s) then
     bif decide ((bt s i)>122) then
      k1 ()
     else
      rec (Z8g (i+1))
    else none
  else none
 else
  k0 ()
noncomputable def j7Q (s:qB):Int->(Int->Res)->((Unit->Res)×(Unit->Res))->Res:=λv rec q=>j5i s v (λi=>rec (i)) q.1 q.2
noncomputable def jcV (s:qB) (n:Nat) (i:Int) (k0:Unit->Res) (k1:Unit->Res):Res:=Z10 (j7Q s) n (i) (k0,k1)
noncomputable def j9j:Z1l Unit:=λσ k=>rdN σ 28<|rdV σ 0 .str false [] λs=>rdV σ 3 (.int .i64) false [] λi=>jcV s Z0Y i (λ(_:Unit)=>k (.exit 0) (mkS 28 28 [(0,.val ⟨.str,false,s,[]⟩)] [])) (λ(_:Unit)=>k .ret (mkS 28 28 [(2,.val ⟨.bool,false,false,[]⟩)] []))
theorem jmu (s:qB) (n:Nat) (v:Int) (k:Z6G Unit):Z3X (Z0R jdn [] .o (pl (pl (pr (pl (pr j8c)))))) (λσ=>σ.forget [0,3] []) (Z8a ([],[]) [(0,[0],[])] ([2],[])) n (mkS 28 28 [(0,.val ⟨.str,false,s,[]⟩),(3,.val ⟨(.int .i64),false,v,[]⟩)] []) k=Z10 (j7Q s) n v ((λ(k:Z6G Unit)=>(((λ(_:Unit)=>k (.exit 0) (mkS 28 28 [(0,.val ⟨.str,false,s,[]⟩)] [])),(λ(_:Unit)=>k .ret (mkS 28 28 [(2,.val ⟨.bool,false,false,[]⟩)] []))):(Unit->Res)×(Unit->Res))) k):=Z80 (λv:Int=>(mkS 28 28 [(0,.val ⟨.str,false,s,[]⟩),(3,.val ⟨(.int .i64),false,v,[]⟩)] [])) (j7Q s) (λ(k:Z6G Unit)=>(((λ(_:Unit)=>k (.exit 0) (mkS 28 28 [(0,.val ⟨.str,false,s,[]⟩)] [])),(λ(_:Unit)=>k .ret (mkS 28 28 [(2,.val ⟨.bool,false,false,[]⟩)] []))):(Unit->Res)×(Unit->Res))) (λv rec k=>by kernel_rfl) n v k
theorem jmM {W0:Base} {M:Nat->Prop} (hnp:W0.np<=0):Z1W Tryz.prog W0 M (pl (pr (pl (pr j8c)))) j9j:=show Z1W Tryz.prog W0 M (Code.loop (pl (pl (pr (pl (pr j8c)))))) j9j from Z8X (Z6Q follows j01 (Z7K Z8W) hnp [] (pl (pl (pr (pl (pr j8c))))) .o trivial) (ks:=[0,3]) (bs:=[]) (fX:=(Z8a ([],[]) [(0,[0],[])] ([2],[]))) (Z8U _ _ _) Z0Y (by
 intro σ k r h
 obtain ⟨hn,h1⟩:=Z8G h
 obtain ⟨s,hs0,h2⟩:=Z8J h1
 obtain ⟨i,hs3,h3⟩:=Z8J h2
 refine ⟨_,?_,(jmu s Z0Y (i) k).trans h3⟩
 exact Z9e hn ⟨hs0,hs3,trivial⟩ trivial)
noncomputable def j26 (s:qB) (k0:Bool->Res):Res:=
 jcV s Z0Y 0
  (λ(_:Unit)=>
   bif decide ((nI (ByteArray.size s))>=1) then
    k0 (decide ((nI (ByteArray.size s))<=8))
   else
    k0 false)
  (λ(_:Unit)=>
   k0 false)
noncomputable def j8n:Sig Unit:=⟨[.look .str false],[false],λvals ext k=>av vals .str λs vals=>nl vals<|nl ext<|j26 s (λ(r0:Bool)=>k [⟨.bool,false,r0,[]⟩] [] [])⟩
theorem jp4 (s:qB) (a_s:Bool) (t_s:List Tag) (k:qK):Z6X jdn [j9j] (.t .o (.t (.t .o (.t (.x 0) .o)) .o)) false Tryz.f68 [.look .str false] [false] [⟨.str,a_s,s,t_s⟩] [] k=j26 s (λ(r0:Bool)=>k [⟨.bool,false,r0,[]⟩] [] []):=by kernel_rfl
theorem j2r:Z1k Tryz.prog 68 j8n:=Z8N (Γ:=jdn) (X:=[j9j]) (ht:=(.t .o (.t (.t .o (.t (.x 0) .o)) .o))) (fz:=false) (c:=j8c) follows j01 Z8W (Z1A.mk trivial ((Z1A.mk ((Z1A.mk trivial ((Z1A.mk (Z1A.x_mk (λW0 M hnp=>jmM (W0:=W0) (M:=M) hnp)) trivial)))) trivial))) Tryz.func68 (by kernel_rfl) (by kernel_rfl) (by decide) (by
 intro vals ext k r h
 obtain ⟨s,a_s,t_s,vals,rfl,h1⟩:=Z8T h
 obtain ⟨rfl,h2⟩:=Z90 h1
 obtain ⟨rfl,h3⟩:=Z90 h2
 exact (jp4 s a_s t_s k).trans h3)
noncomputable def jph:Code:=(Tryz.f174.body).getD .skip
noncomputable def jh3:Env Unit:=⟨tys,[],0⟩
noncomputable def j0K (x:Int) (lo:Int) (hi:Int) (k0:Bool->Res):Res:=
 bif decide (x>=lo) then
  k0 (decide (x<=hi))
 else
  k0 false
noncomputable def j1B:Sig Unit:=⟨[.look (.int .i64) false,.look (.int .i64) false,.look (.int .i64) false],[false],λvals ext k=>av vals (.int .i64) λx vals=>av vals (.int .i64) λlo vals=>av vals (.int .i64) λhi vals=>nl vals<|nl ext<|j0K x lo hi (λ(r0:Bool)=>k [⟨.bool,false,r0,[]⟩] [] [])⟩
theorem joY (x:Int) (a_x:Bool) (t_x:List Tag) (lo:Int) (a_lo:Bool) (t_lo:List Tag) (hi:Int) (a_hi:Bool) (t_hi:List Tag) (k:qK):Z6X jh3 [] .o false Tryz.f174 [.look (.int .i64) false,.look (.int .i64) false,.look (.int .i64) false] [false] [⟨(.int .i64),a_x,x,t_x⟩,⟨(.int .i64),a_lo,lo,t_lo⟩,⟨(.int .i64),a_hi,hi,t_hi⟩] [] k=j0K x lo hi (λ(r0:Bool)=>k [⟨.bool,false,r0,[]⟩] [] []):=by kernel_rfl
theorem j0r:Z1k Tryz.prog 174 j1B:=Z8N (Γ:=jh3) (X:=[]) (ht:= .o) (fz:=false) (c:=jph) follows j01 Z8W trivial Tryz.func174 (by kernel_rfl) (by kernel_rfl) (by decide) (by
 intro vals ext k r h
 obtain ⟨x,a_x,t_x,vals,rfl,h1⟩:=Z8T h
 obtain ⟨lo,a_lo,t_lo,vals,rfl,h2⟩:=Z8T h1
 obtain ⟨hi,a_hi,t_hi,vals,rfl,h3⟩:=Z8T h2
 obtain ⟨rfl,h4⟩:=Z90 h3
 obtain ⟨rfl,h5⟩:=Z90 h4
 exact (joY x a_x t_x lo a_lo t_lo hi a_hi t_hi k).trans h5)
noncomputable def j4T:Code:=(Tryz.f98.body).getD .skip
noncomputable def j1G (self:Int->(qB->Res)->Res):Sig Unit:=⟨[.look (.int .i64) false],[false],λvals ext k=>av vals (.int .i64) λn_ vals=>nl vals<|nl ext<|self n_ (λ(r0:qB)=>k [⟨.str,false,r0,[]⟩] [] [])⟩
noncomputable def jcy (self:Int->(qB->Res)->Res):Env Unit:=⟨tys,[(98,(j1G self)),(174,j1B)],0⟩
noncomputable def jam (self:Int->(qB->Res)->Res) (n_:Int) (s:qB) (rec:Int->qB->Res) (k0:Int->qB->Res):Res:=
 bif decide (n_>9) then
  bif lim ((ByteArray.size (Z2X [wu8 (Z8g (48+(Int.tmod n_ 10)))]))+(ByteArray.size s)) then
   rec (Z8g (Int.tdiv n_ 10)) ((Z2X [wu8 (Z8g (48+(Int.tmod n_ 10)))])++s)
  else none
 else
  k0 n_ s
noncomputable def j3m (self:Int->(qB->Res)->Res):(Int×qB)->(Int×qB->Res)->((Int->qB->Res))->Res:=λv rec q=>jam self v.1 v.2 (λn_ s=>rec (n_,s)) q
noncomputable def jbM (self:Int->(qB->Res)->Res) (n:Nat) (n_:Int) (s:qB) (k0:Int->qB->Res):Res:=Z10 (j3m self) n (n_,s) (k0)
noncomputable def j7V (self:Int->(qB->Res)->Res):Z1l Unit:=λσ k=>rdN σ 32<|rdV σ 0 (.int .i64) false [] λn_=>rdV σ 3 .str false [] λs=>jbM self Z0Y n_ s (λ(n_1:Int) (s1:qB)=>k (.exit 0) (mkS 32 32 [(0,.val ⟨(.int .i64),false,n_1,[]⟩),(3,.val ⟨.str,false,s1,[]⟩)] []))
theorem jjU (self:Int->(qB->Res)->Res)  (n:Nat) (v:Int×qB) (k:Z6G Unit):Z3X (Z0R (jcy self) [] .o (pl (pl (pl (pr (pr (pr (pr j4T)))))))) (λσ=>σ.forget [0,3] []) (Z8a ([],[]) [(0,[0,3],[])] ([],[])) n (mkS 32 32 [(0,.val ⟨(.int .i64),false,v.1,[]⟩),(3,.val ⟨.str,false,v.2,[]⟩)] []) k=Z10 (j3m self) n v ((λ(k:Z6G Unit)=>(((λ(n_1:Int) (s1:qB)=>k (.exit 0) (mkS 32 32 [(0,.val ⟨(.int .i64),false,n_1,[]⟩),(3,.val ⟨.str,false,s1,[]⟩)] []))):(Int->qB->Res))) k):=Z80 (λv:Int×qB=>(mkS 32 32 [(0,.val ⟨(.int .i64),false,v.1,[]⟩),(3,.val ⟨.str,false,v.2,[]⟩)] [])) (j3m self) (λ(k:Z6G Unit)=>(((λ(n_1:Int) (s1:qB)=>k (.exit 0) (mkS 32 32 [(0,.val ⟨(.int .i64),false,n_1,[]⟩),(3,.val ⟨.str,false,s1,[]⟩)] []))):(Int->qB->Res))) (λv rec k=>by kernel_rfl) n v k
theorem jkH (self:Int->(qB->Res)->Res) (hself:Z1k Tryz.prog 98 (j1G self)) {W0:Base} {M:Nat->Prop} (hnp:W0.np<=0):Z1W Tryz.prog W0 M (pl (pl (pr (pr (pr (pr j4T)))))) (j7V self):=show Z1W Tryz.prog W0 M (Code.loop (pl (pl (pl (pr (pr (pr (pr j4T)))))))) (j7V self) from Z8X (Z6Q follows j01 (Z7K (Z8C hself (Z8C j0r Z8W))) hnp [] (pl (pl (pl (pr (pr (pr (pr j4T))))))) .o trivial) (ks:=[0,3]) (bs:=[]) (fX:=(Z8a ([],[]) [(0,[0,3],[])] ([],[]))) (Z8U _ _ _) Z0Y (by
 intro σ k r h
 obtain ⟨hn,h1⟩:=Z8G h
 obtain ⟨n_,hs0,h2⟩:=Z8J h1
 obtain ⟨s,hs3,h3⟩:=Z8J h2
 refine ⟨_,?_,(jjU self  Z0Y (n_,s) k).trans h3⟩
 exact Z9e hn ⟨hs0,hs3,trivial⟩ trivial)
noncomputable def j18 (self:Int->(qB->Res)->Res) (n_:Int) (k0:qB->Res):Res:=
 j0K n_ (-1099511627775) 1099511627775 λ(r:Bool)=>
  bif !r then
   k0 eS
  else
   bif decide (n_<0) then
    self (Z8g (0-n_)) λ(r1:qB)=>
     bif lim (1+(ByteArray.size r1)) then
      k0 (z__++r1)
     else none
   else
    jbM self Z0Y n_ eS λ(n_1:Int) (s:qB)=>
     bif lim ((ByteArray.size (Z2X [wu8 (Z8g (48+n_1))]))+(ByteArray.size s)) then
      k0 ((Z2X [wu8 (Z8g (48+n_1))])++s)
     else none
theorem jn6 (self:Int->(qB->Res)->Res) (n_:Int) (a_n_:Bool) (t_n_:List Tag) (k:qK):Z6X (jcy self) [(j7V self)] (.t .o (.t .o (.t .o (.t .o (.t (.t (.x 0) .o) .o))))) false Tryz.f98 [.look (.int .i64) false] [false] [⟨(.int .i64),a_n_,n_,t_n_⟩] [] k=j18 self n_ (λ(r0:qB)=>k [⟨.str,false,r0,[]⟩] [] []):=by kernel_rfl
theorem jlW (self:Int->(qB->Res)->Res) (hself:Z1k Tryz.prog 98 (j1G self)):Z1k Tryz.prog 98 (j1G (j18 self)):=Z8N (Γ:=(jcy self)) (X:=[(j7V self)]) (ht:=(.t .o (.t .o (.t .o (.t .o (.t (.t (.x 0) .o) .o)))))) (fz:=false) (c:=j4T) follows j01 (Z8C hself (Z8C j0r Z8W)) (Z1A.mk trivial ((Z1A.mk trivial ((Z1A.mk trivial ((Z1A.mk trivial ((Z1A.mk ((Z1A.mk (Z1A.x_mk (λW0 M hnp=>jkH self hself (W0:=W0) (M:=M) hnp)) trivial)) trivial))))))))) Tryz.func98 (by kernel_rfl) (by kernel_rfl) (by decide) (by
 intro vals ext k r h
 obtain ⟨n_,a_n_,t_n_,vals,rfl,h1⟩:=Z8T h
 obtain ⟨rfl,h2⟩:=Z90 h1
 obtain ⟨rfl,h3⟩:=Z90 h2
 exact (jn6 self n_ a_n_ t_n_ k).trans h3)
noncomputable def j0O:Int->(qB->Res)->Res:=Z8f (λ_ _=>none) j18 Z0Y
theorem j16:Z1k Tryz.prog 98 (j1G j0O):=Z7O (C:=λt=>Z1k Tryz.prog 98 (j1G t)) (Z8j (c:=j4T) Tryz.func98 (by kernel_rfl) (by kernel_rfl) (by
 intro vals ext k r h
 obtain ⟨n_,a_n_,t_n_,vals,rfl,h1⟩:=Z8T h
 obtain ⟨rfl,h2⟩:=Z90 h1
 obtain ⟨rfl,h3⟩:=Z90 h2
 cases h3)) (λt h=>jlW t h) Z0Y
noncomputable def j1n:Code:=(Tryz.f107.body).getD .skip
noncomputable def j7h:Env Unit:=⟨tys,[(98,(j1G j0O)),(174,j1B)],0⟩
noncomputable def j8X (s:qB) (at_:Int) (k0:Int->Res):Res:=
 bif decide ((nI (ByteArray.size s))>0) then
  bif inb 0 (ByteArray.size s) then
   bif ((bt s 0)==45) then
    k0 1
   else
    k0 at_
  else none
 else
  k0 at_
noncomputable def j2z:Z1l Unit:=λσ k=>rdN σ 55<|rdV σ 0 .str false [] λs=>rdV σ 4 (.int .i64) false [] λat_=>j8X s at_ (λ(at_1:Int)=>k .normal (mkS 55 55 [(0,.val ⟨.str,false,s,[]⟩),(4,.val ⟨(.int .i64),false,at_1,[]⟩)] []))
theorem jk1 (s:qB) (at_:Int) (k:Z6G Unit):Z0R j7h [] .o (pl (pr (pr j1n))) (mkS 55 55 [(0,.val ⟨.str,false,s,[]⟩),(4,.val ⟨(.int .i64),false,at_,[]⟩)] []) (λe σ=>k e ((Z8a ([0,4],[]) [] ([],[])) e σ))=j8X s at_ (λ(at_1:Int)=>k .normal (mkS 55 55 [(0,.val ⟨.str,false,s,[]⟩),(4,.val ⟨(.int .i64),false,at_1,[]⟩)] [])):=by kernel_rfl
theorem jkO {W0:Base} {M:Nat->Prop} (hnp:W0.np<=0):Z1W Tryz.prog W0 M (pl (pr (pr j1n))) j2z:=Z91 (Z6Q follows j01 (Z7K (Z8C j16 (Z8C j0r Z8W))) hnp [] ((pl (pr (pr j1n)))) .o trivial) (fg:=(Z8a ([0,4],[]) [] ([],[]))) (Z8U _ _ _) (by
 intro σ k r h
 obtain ⟨hn,h1⟩:=Z8G h
 obtain ⟨s,hs0,h2⟩:=Z8J h1
 obtain ⟨at_,hs4,h3⟩:=Z8J h2
 refine ⟨_,?_,(jk1 s at_ k).trans h3⟩
 exact Z9e hn ⟨hs0,hs4,trivial⟩ trivial)
noncomputable def j4q (s:qB) (n_:Int) (i:Int) (rec:Int->Int->Res) (k0:Int->Res) (k1:Unit->Res):Res:=
 bif decide (i<(nI (ByteArray.size s))) then
  bif inb i (ByteArray.size s) then
   bif decide ((bt s i)<48) then
    k1 ()
   else
    bif inb i (ByteArray.size s) then
     bif decide ((bt s i)>57) then
      k1 ()
     else
      bif inb i (ByteArray.size s) then
       rec (Z8g ((Z8g (10 * n_))+(Z8g (wu8 ((bt s i)-48))))) (Z8g (i+1))
      else none
    else none
  else none
 else
  k0 n_
noncomputable def j4r (s:qB):(Int×Int)->(Int×Int->Res)->((Int->Res)×(Unit->Res))->Res:=λv rec q=>j4q s v.1 v.2 (λn_ i=>rec (n_,i)) q.1 q.2
noncomputable def j8W (s:qB) (n:Nat) (n_:Int) (i:Int) (k0:Int->Res) (k1:Unit->Res):Res:=Z10 (j4r s) n (n_,i) (k0,k1)
noncomputable def j3J:Z1l Unit:=λσ k=>rdN σ 55<|rdV σ 0 .str false [] λs=>rdV σ 4 (.int .i64) false [] λat_=>rdV σ 5 (.int .i64) false [] λn_=>rdV σ 6 (.int .i64) false [] λi=>j8W s Z0Y n_ i (λ(n_1:Int)=>k (.exit 0) (mkS 55 55 [(0,.val ⟨.str,false,s,[]⟩),(4,.val ⟨(.int .i64),false,at_,[]⟩),(5,.val ⟨(.int .i64),false,n_1,[]⟩)] [])) (λ(_:Unit)=>k .ret (mkS 55 55 [(2,.val ⟨(.int .i64),false,0,[]⟩),(3,.val ⟨.bool,false,false,[]⟩)] []))
theorem jk0 (s:qB) (at_:Int) (n:Nat) (v:Int×Int) (k:Z6G Unit):Z3X (Z0R j7h [j2z] .o (pl (pl (pr (pl (pr (pr (pr (pr (pr j1n)))))))))) (λσ=>σ.forget [0,4,5,6] []) (Z8a ([],[]) [(0,[0,4,5],[])] ([2,3],[])) n (mkS 55 55 [(0,.val ⟨.str,false,s,[]⟩),(4,.val ⟨(.int .i64),false,at_,[]⟩),(5,.val ⟨(.int .i64),false,v.1,[]⟩),(6,.val ⟨(.int .i64),false,v.2,[]⟩)] []) k=Z10 (j4r s) n v ((λ(k:Z6G Unit)=>(((λ(n_1:Int)=>k (.exit 0) (mkS 55 55 [(0,.val ⟨.str,false,s,[]⟩),(4,.val ⟨(.int .i64),false,at_,[]⟩),(5,.val ⟨(.int .i64),false,n_1,[]⟩)] [])),(λ(_:Unit)=>k .ret (mkS 55 55 [(2,.val ⟨(.int .i64),false,0,[]⟩),(3,.val ⟨.bool,false,false,[]⟩)] []))):(Int->Res)×(Unit->Res))) k):=Z80 (λv:Int×Int=>(mkS 55 55 [(0,.val ⟨.str,false,s,[]⟩),(4,.val ⟨(.int .i64),false,at_,[]⟩),(5,.val ⟨(.int .i64),false,v.1,[]⟩),(6,.val ⟨(.int .i64),false,v.2,[]⟩)] [])) (j4r s) (λ(k:Z6G Unit)=>(((λ(n_1:Int)=>k (.exit 0) (mkS 55 55 [(0,.val ⟨.str,false,s,[]⟩),(4,.val ⟨(.int .i64),false,at_,[]⟩),(5,.val ⟨(.int .i64),false,n_1,[]⟩)] [])),(λ(_:Unit)=>k .ret (mkS 55 55 [(2,.val ⟨(.int .i64),false,0,[]⟩),(3,.val ⟨.bool,false,false,[]⟩)] []))):(Int->Res)×(Unit->Res))) (λv rec k=>by kernel_rfl) n v k
theorem jkN {W0:Base} {M:Nat->Prop} (hnp:W0.np<=0):Z1W Tryz.prog W0 M (pl (pr (pl (pr (pr (pr (pr (pr j1n)))))))) j3J:=show Z1W Tryz.prog W0 M (Code.loop (pl (pl (pr (pl (pr (pr (pr (pr (pr j1n)))))))))) j3J from Z8X (Z6Q follows j01 (Z7K (Z8C j16 (Z8C j0r Z8W))) hnp [j2z] (pl (pl (pr (pl (pr (pr (pr (pr (pr j1n))))))))) .o trivial) (ks:=[0,4,5,6]) (bs:=[]) (fX:=(Z8a ([],[]) [(0,[0,4,5],[])] ([2,3],[]))) (Z8U _ _ _) Z0Y (by
 intro σ k r h
 obtain ⟨hn,h1⟩:=Z8G h
 obtain ⟨s,hs0,h2⟩:=Z8J h1
 obtain ⟨at_,hs4,h3⟩:=Z8J h2
 obtain ⟨n_,hs5,h4⟩:=Z8J h3
 obtain ⟨i,hs6,h5⟩:=Z8J h4
 refine ⟨_,?_,(jk0 s at_ Z0Y (n_,i) k).trans h5⟩
 exact Z9e hn ⟨hs0,hs4,hs5,hs6,trivial⟩ trivial)
noncomputable def j5Z (n_:Int) (t47:Bool) (k0:Int->Res):Res:=
 bif t47 then
  k0 (Z8g (0-n_))
 else
  k0 n_
noncomputable def jbb:Z1l Unit:=λσ k=>rdN σ 55<|rdV σ 0 .str false [] λs=>rdV σ 5 (.int .i64) false [] λn_=>rdV σ 47 .bool false [] λt47=>j5Z n_ t47 (λ(n_1:Int)=>k .normal (mkS 55 55 [(0,.val ⟨.str,false,s,[]⟩),(5,.val ⟨(.int .i64),false,n_1,[]⟩)] []))
theorem jk2 (s:qB) (n_:Int) (t47:Bool) (k:Z6G Unit):Z0R j7h [j2z,j3J] .o (pr (pl (pr (pr (pr (pr (pr (pr j1n)))))))) (mkS 55 55 [(0,.val ⟨.str,false,s,[]⟩),(5,.val ⟨(.int .i64),false,n_,[]⟩),(47,.val ⟨.bool,false,t47,[]⟩)] []) (λe σ=>k e ((Z8a ([0,5],[]) [] ([],[])) e σ))=j5Z n_ t47 (λ(n_1:Int)=>k .normal (mkS 55 55 [(0,.val ⟨.str,false,s,[]⟩),(5,.val ⟨(.int .i64),false,n_1,[]⟩)] [])):=by kernel_rfl
theorem jkP {W0:Base} {M:Nat->Prop} (hnp:W0.np<=0):Z1W Tryz.prog W0 M (pr (pl (pr (pr (pr (pr (pr (pr j1n)))))))) jbb:=Z91 (Z6Q follows j01 (Z7K (Z8C j16 (Z8C j0r Z8W))) hnp [j2z,j3J] ((pr (pl (pr (pr (pr (pr (pr (pr j1n))))))))) .o trivial) (fg:=(Z8a ([0,5],[]) [] ([],[]))) (Z8U _ _ _) (by
 intro σ k r h
 obtain ⟨hn,h1⟩:=Z8G h
 obtain ⟨s,hs0,h2⟩:=Z8J h1
 obtain ⟨n_,hs5,h3⟩:=Z8J h2
 obtain ⟨t47,hs47,h4⟩:=Z8J h3
 refine ⟨_,?_,(jk2 s n_ t47 k).trans h4⟩
 exact Z9e hn ⟨hs0,hs5,hs47,trivial⟩ trivial)
noncomputable def j36 (s:qB) (k0:Int->Bool->Res):Res:=
 j8X s 0 λ(at_:Int)=>
  j0K (Z8g ((nI (ByteArray.size s))-at_)) 1 13 λ(r:Bool)=>
   bif !r then
    k0 0 false
   else
    j8W s Z0Y 0 at_
     (λ(n_:Int)=>
      j5Z n_ (at_==1) λ(n_1:Int)=>
       j0O n_1 λ(r1:qB)=>
        bif sNe r1 s then
         k0 0 false
        else
         k0 n_1 true)
     (λ(_:Unit)=>
      k0 0 false)
noncomputable def ja7:Sig Unit:=⟨[.look .str false],[false,false],λvals ext k=>av vals .str λs vals=>nl vals<|nl ext<|j36 s (λ(r0:Int) (r1:Bool)=>k [⟨(.int .i64),false,r0,[]⟩,⟨.bool,false,r1,[]⟩] [] [])⟩
theorem jna (s:qB) (a_s:Bool) (t_s:List Tag) (k:qK):Z6X j7h [j2z,j3J,jbb] (.t .o (.t .o (.t (.x 0) (.t .o (.t .o (.t (.t .o (.t (.x 1) .o)) (.t (.t .o (.x 2)) .o))))))) false Tryz.f107 [.look .str false] [false,false] [⟨.str,a_s,s,t_s⟩] [] k=j36 s (λ(r0:Int) (r1:Bool)=>k [⟨(.int .i64),false,r0,[]⟩,⟨.bool,false,r1,[]⟩] [] []):=by kernel_rfl
theorem j1D:Z1k Tryz.prog 107 ja7:=Z8N (Γ:=j7h) (X:=[j2z,j3J,jbb]) (ht:=(.t .o (.t .o (.t (.x 0) (.t .o (.t .o (.t (.t .o (.t (.x 1) .o)) (.t (.t .o (.x 2)) .o)))))))) (fz:=false) (c:=j1n) follows j01 (Z8C j16 (Z8C j0r Z8W)) (Z1A.mk trivial ((Z1A.mk trivial ((Z1A.mk (Z1A.x_mk (λW0 M hnp=>jkO (W0:=W0) (M:=M) hnp)) ((Z1A.mk trivial ((Z1A.mk trivial ((Z1A.mk ((Z1A.mk trivial ((Z1A.mk (Z1A.x_mk (λW0 M hnp=>jkN (W0:=W0) (M:=M) hnp)) trivial)))) ((Z1A.mk ((Z1A.mk trivial (Z1A.x_mk (λW0 M hnp=>jkP (W0:=W0) (M:=M) hnp)))) trivial))))))))))))) Tryz.func107 (by kernel_rfl) (by kernel_rfl) (by decide) (by
 intro vals ext k r h
 obtain ⟨s,a_s,t_s,vals,rfl,h1⟩:=Z8T h
 obtain ⟨rfl,h2⟩:=Z90 h1
 obtain ⟨rfl,h3⟩:=Z90 h2
 exact (jna s a_s t_s k).trans h3)
noncomputable def j87:Code:=(Tryz.f249.body).getD .skip
noncomputable def jdh:Env Unit:=⟨tys,[],0⟩
noncomputable def j55 (b:Int) (t4:Int) (rec:Int->Res) (k0:Unit->Res) (k1:Int->Res):Res:=
 bif decide (t4<16) then
  bif inb t4 16 then
   bif ((bt j0k t4)==b) then
    k1 t4
   else
    rec (Z8g (t4+1))
  else none
 else
  k0 ()
noncomputable def j7I (b:Int):Int->(Int->Res)->((Unit->Res)×(Int->Res))->Res:=λv rec q=>j55 b v (λt4=>rec (t4)) q.1 q.2
noncomputable def jcJ (b:Int) (n:Nat) (t4:Int) (k0:Unit->Res) (k1:Int->Res):Res:=Z10 (j7I b) n (t4) (k0,k1)
noncomputable def j9e:Z1l Unit:=λσ k=>rdN σ 13<|rdV σ 0 (.int .u8) false [] λb=>rdV σ 4 (.int .i64) false [] λt4=>jcJ b Z0Y t4 (λ(_:Unit)=>k (.exit 0) (mkS 13 13 [] [])) (λ(t2:Int)=>k .ret (mkS 13 13 [(2,.val ⟨(.int .i64),false,t2,[]⟩)] []))
theorem jmo (b:Int) (n:Nat) (v:Int) (k:Z6G Unit):Z3X (Z0R jdh [] .o (pl (pl (pr (pl (pr j87)))))) (λσ=>σ.forget [0,4] []) (Z8a ([],[]) [(0,[],[])] ([2],[])) n (mkS 13 13 [(0,.val ⟨(.int .u8),false,b,[]⟩),(4,.val ⟨(.int .i64),false,v,[]⟩)] []) k=Z10 (j7I b) n v ((λ(k:Z6G Unit)=>(((λ(_:Unit)=>k (.exit 0) (mkS 13 13 [] [])),(λ(t2:Int)=>k .ret (mkS 13 13 [(2,.val ⟨(.int .i64),false,t2,[]⟩)] []))):(Unit->Res)×(Int->Res))) k):=Z80 (λv:Int=>(mkS 13 13 [(0,.val ⟨(.int .u8),false,b,[]⟩),(4,.val ⟨(.int .i64),false,v,[]⟩)] [])) (j7I b) (λ(k:Z6G Unit)=>(((λ(_:Unit)=>k (.exit 0) (mkS 13 13 [] [])),(λ(t2:Int)=>k .ret (mkS 13 13 [(2,.val ⟨(.int .i64),false,t2,[]⟩)] []))):(Unit->Res)×(Int->Res))) (λv rec k=>by kernel_rfl) n v k
theorem jmG {W0:Base} {M:Nat->Prop} (hnp:W0.np<=0):Z1W Tryz.prog W0 M (pl (pr (pl (pr j87)))) j9e:=show Z1W Tryz.prog W0 M (Code.loop (pl (pl (pr (pl (pr j87)))))) j9e from Z8X (Z6Q follows j01 (Z7K Z8W) hnp [] (pl (pl (pr (pl (pr j87))))) .o trivial) (ks:=[0,4]) (bs:=[]) (fX:=(Z8a ([],[]) [(0,[],[])] ([2],[]))) (Z8U _ _ _) Z0Y (by
 intro σ k r h
 obtain ⟨hn,h1⟩:=Z8G h
 obtain ⟨b,hs0,h2⟩:=Z8J h1
 obtain ⟨t4,hs4,h3⟩:=Z8J h2
 refine ⟨_,?_,(jmo b Z0Y (t4) k).trans h3⟩
 exact Z9e hn ⟨hs0,hs4,trivial⟩ trivial)
noncomputable def j8u (b:Int) (k0:Int->Res):Res:=
 jcJ b Z0Y 0
  (λ(_:Unit)=>
   k0 (-1))
  (λ(t:Int)=>
   k0 t)
noncomputable def jhd:Sig Unit:=⟨[.look (.int .u8) false],[false],λvals ext k=>av vals (.int .u8) λb vals=>nl vals<|nl ext<|j8u b (λ(r0:Int)=>k [⟨(.int .i64),false,r0,[]⟩] [] [])⟩
theorem joU (b:Int) (a_b:Bool) (t_b:List Tag) (k:qK):Z6X jdh [j9e] (.t .o (.t (.t .o (.t (.x 0) .o)) .o)) false Tryz.f249 [.look (.int .u8) false] [false] [⟨(.int .u8),a_b,b,t_b⟩] [] k=j8u b (λ(r0:Int)=>k [⟨(.int .i64),false,r0,[]⟩] [] []):=by kernel_rfl
theorem jgU:Z1k Tryz.prog 249 jhd:=Z8N (Γ:=jdh) (X:=[j9e]) (ht:=(.t .o (.t (.t .o (.t (.x 0) .o)) .o))) (fz:=false) (c:=j87) follows j01 Z8W (Z1A.mk trivial ((Z1A.mk ((Z1A.mk trivial ((Z1A.mk (Z1A.x_mk (λW0 M hnp=>jmG (W0:=W0) (M:=M) hnp)) trivial)))) trivial))) Tryz.func249 (by kernel_rfl) (by kernel_rfl) (by decide) (by
 intro vals ext k r h
 obtain ⟨b,a_b,t_b,vals,rfl,h1⟩:=Z8T h
 obtain ⟨rfl,h2⟩:=Z90 h1
 obtain ⟨rfl,h3⟩:=Z90 h2
 exact (joU b a_b t_b k).trans h3)
noncomputable def j88:Code:=(Tryz.f211.body).getD .skip
noncomputable def jdi:Env Unit:=⟨tys,[(249,jhd)],0⟩
noncomputable def j20 (s:qB) (out:List Int) (i:Int) (rec:(List Int)->Int->Res) (k0:(List Int)->Res) (k1:Unit->Res):Res:=
 bif decide (i<(nI (ByteArray.size s))) then
  bif inb i (ByteArray.size s) then
   bif ((bt s i) != 37) then
    bif inb i (ByteArray.size s) then
     bif lim ((List.length out)+1) then
      rec (out++[bt s i]) (Z8g (i+1))
     else none
    else none
   else
    bif decide ((Z8g (i+2))>=(nI (ByteArray.size s))) then
     k1 ()
    else
     bif inb (Z8g (i+1)) (ByteArray.size s) then
      bif inb (Z8g (i+2)) (ByteArray.size s) then
       j8u (bt s (Z8g (i+1))) λ(r:Int)=>
        j8u (bt s (Z8g (i+2))) λ(r1:Int)=>
         bif decide (r<0) then
          k1 ()
         else
          bif decide (r1<0) then
           k1 ()
          else
           bif lim ((List.length out)+1) then
            rec (out++[wu8 (Z8g ((Z8g (16 * r))+r1))]) (Z8g ((Z8g (i+2))+1))
           else none
      else none
     else none
  else none
 else
  k0 out
noncomputable def j21 (s:qB):((List Int)×Int)->((List Int)×Int->Res)->(((List Int)->Res)×(Unit->Res))->Res:=λv rec q=>j20 s v.1 v.2 (λout i=>rec (out,i)) q.1 q.2
noncomputable def jfT (s:qB) (n:Nat) (out:List Int) (i:Int) (k0:(List Int)->Res) (k1:Unit->Res):Res:=Z10 (j21 s) n (out,i) (k0,k1)
noncomputable def j9f:Z1l Unit:=λσ k=>rdN σ 58<|rdV σ 0 .str false [] λs=>rdV σ 4 y0 false [.O] λout=>rdV σ 5 (.int .i64) false [] λi=>jfT s Z0Y out i (λ(out1:List Int)=>k (.exit 0) (mkS 58 58 [(4,.val ⟨y0,false,out1,[.O]⟩)] [])) (λ(_:Unit)=>k .ret (mkS 58 58 [(2,.val ⟨.str,false,eS,[]⟩),(3,.val ⟨.bool,false,false,[]⟩)] []))
theorem jmp (s:qB) (n:Nat) (v:(List Int)×Int) (k:Z6G Unit):Z3X (Z0R jdi [] .o (pl (pl (pr (pl (pr (pr j88))))))) (λσ=>σ.forget [0,4,5] []) (Z8a ([],[]) [(0,[4],[])] ([2,3],[])) n (mkS 58 58 [(0,.val ⟨.str,false,s,[]⟩),(4,.val ⟨y0,false,v.1,[.O]⟩),(5,.val ⟨(.int .i64),false,v.2,[]⟩)] []) k=Z10 (j21 s) n v ((λ(k:Z6G Unit)=>(((λ(out1:List Int)=>k (.exit 0) (mkS 58 58 [(4,.val ⟨y0,false,out1,[.O]⟩)] [])),(λ(_:Unit)=>k .ret (mkS 58 58 [(2,.val ⟨.str,false,eS,[]⟩),(3,.val ⟨.bool,false,false,[]⟩)] []))):((List Int)->Res)×(Unit->Res))) k):=Z80 (λv:(List Int)×Int=>(mkS 58 58 [(0,.val ⟨.str,false,s,[]⟩),(4,.val ⟨y0,false,v.1,[.O]⟩),(5,.val ⟨(.int .i64),false,v.2,[]⟩)] [])) (j21 s) (λ(k:Z6G Unit)=>(((λ(out1:List Int)=>k (.exit 0) (mkS 58 58 [(4,.val ⟨y0,false,out1,[.O]⟩)] [])),(λ(_:Unit)=>k .ret (mkS 58 58 [(2,.val ⟨.str,false,eS,[]⟩),(3,.val ⟨.bool,false,false,[]⟩)] []))):((List Int)->Res)×(Unit->Res))) (λv rec k=>by kernel_rfl) n v k
theorem jmH {W0:Base} {M:Nat->Prop} (hnp:W0.np<=0):Z1W Tryz.prog W0 M (pl (pr (pl (pr (pr j88))))) j9f:=show Z1W Tryz.prog W0 M (Code.loop (pl (pl (pr (pl (pr (pr j88))))))) j9f from Z8X (Z6Q follows j01 (Z7K (Z8C jgU Z8W)) hnp [] (pl (pl (pr (pl (pr (pr j88)))))) .o trivial) (ks:=[0,4,5]) (bs:=[]) (fX:=(Z8a ([],[]) [(0,[4],[])] ([2,3],[]))) (Z8U _ _ _) Z0Y (by
 intro σ k r h
 obtain ⟨hn,h1⟩:=Z8G h
 obtain ⟨s,hs0,h2⟩:=Z8J h1
 obtain ⟨out,hs4,h3⟩:=Z8J h2
 obtain ⟨i,hs5,h4⟩:=Z8J h3
 refine ⟨_,?_,(jmp s Z0Y (out,i) k).trans h4⟩
 exact Z9e hn ⟨hs0,hs4,hs5,trivial⟩ trivial)
noncomputable def j8v (s:qB) (k0:qB->Bool->Res):Res:=
 jfT s Z0Y [] 0
  (λ(out:List Int)=>
   k0 (Z2X out) true)
  (λ(_:Unit)=>
   k0 eS false)
noncomputable def jhe:Sig Unit:=⟨[.look .str false],[false,false],λvals ext k=>av vals .str λs vals=>nl vals<|nl ext<|j8v s (λ(r0:qB) (r1:Bool)=>k [⟨.str,false,r0,[]⟩,⟨.bool,false,r1,[]⟩] [] [])⟩
theorem joV (s:qB) (a_s:Bool) (t_s:List Tag) (k:qK):Z6X jdi [j9f] (.t .o (.t .o (.t (.t .o (.t (.x 0) .o)) .o))) false Tryz.f211 [.look .str false] [false,false] [⟨.str,a_s,s,t_s⟩] [] k=j8v s (λ(r0:qB) (r1:Bool)=>k [⟨.str,false,r0,[]⟩,⟨.bool,false,r1,[]⟩] [] []):=by kernel_rfl
theorem jaH:Z1k Tryz.prog 211 jhe:=Z8N (Γ:=jdi) (X:=[j9f]) (ht:=(.t .o (.t .o (.t (.t .o (.t (.x 0) .o)) .o)))) (fz:=false) (c:=j88) follows j01 (Z8C jgU Z8W) (Z1A.mk trivial ((Z1A.mk trivial ((Z1A.mk ((Z1A.mk trivial ((Z1A.mk (Z1A.x_mk (λW0 M hnp=>jmH (W0:=W0) (M:=M) hnp)) trivial)))) trivial))))) Tryz.func211 (by kernel_rfl) (by kernel_rfl) (by decide) (by
 intro vals ext k r h
 obtain ⟨s,a_s,t_s,vals,rfl,h1⟩:=Z8T h
 obtain ⟨rfl,h2⟩:=Z90 h1
 obtain ⟨rfl,h3⟩:=Z90 h2
 exact (joV s a_s t_s k).trans h3)
noncomputable def jpY:Code:=(Tryz.f205.body).getD .skip
noncomputable def jhM:Env Unit:=⟨tys,[(174,j1B)],0⟩
noncomputable def j7F (v_:Int×Int×qB) (k0:Bool->Res):Res:=
 bif (v_.1==0) then
  k0 ((v_.1==0)&&((v_.2.1==0)&&(sEq v_.2.2 eS)))
 else
  bif (v_.1==1) then
   j0K v_.2.1 0 1 λ(r:Bool)=>
    bif r then
     k0 (sEq v_.2.2 eS)
    else
     k0 false
  else
   bif (v_.1==2) then
    j0K v_.2.1 (-1099511627775) 1099511627775 λ(r1:Bool)=>
     bif r1 then
      k0 (sEq v_.2.2 eS)
     else
      k0 false
   else
    bif (v_.1==3) then
     bif (v_.2.1==0) then
      k0 (decide ((nI (ByteArray.size v_.2.2))<=30))
     else
      k0 false
    else
     k0 false
noncomputable def jbY:Sig Unit:=⟨[.look y2 true],[false],λvals ext k=>av vals y2 λv_ vals=>nl vals<|nl ext<|j7F v_ (λ(r0:Bool)=>k [⟨.bool,false,r0,[]⟩] [] [])⟩
theorem jpB (v_:Int×Int×qB) (a_v_:Bool) (t_v_:List Tag) (k:qK):Z6X jhM [] .o false Tryz.f205 [.look y2 true] [false] [⟨y2,a_v_,v_,t_v_⟩] [] k=j7F v_ (λ(r0:Bool)=>k [⟨.bool,false,r0,[]⟩] [] []):=by kernel_rfl
theorem j9k:Z1k Tryz.prog 205 jbY:=Z8N (Γ:=jhM) (X:=[]) (ht:= .o) (fz:=false) (c:=jpY) follows j01 (Z8C j0r Z8W) trivial Tryz.func205 (by kernel_rfl) (by kernel_rfl) (by decide) (by
 intro vals ext k r h
 obtain ⟨v_,a_v_,t_v_,vals,rfl,h1⟩:=Z8T h
 obtain ⟨rfl,h2⟩:=Z90 h1
 obtain ⟨rfl,h3⟩:=Z90 h2
 exact (jpB v_ a_v_ t_v_ k).trans h3)
noncomputable def jma:Code:=(Tryz.f206.body).getD .skip
noncomputable def jeB:Env Unit:=⟨tys,[],0⟩
noncomputable def jaO (n_:Int) (k0:qB->Res):Res:=
 bif (n_==1) then
  k0 j1r
 else
  k0 j19
noncomputable def jeX:Sig Unit:=⟨[.look (.int .i64) false],[false],λvals ext k=>av vals (.int .i64) λn_ vals=>nl vals<|nl ext<|jaO n_ (λ(r0:qB)=>k [⟨.str,false,r0,[]⟩] [] [])⟩
theorem jlA (n_:Int) (a_n_:Bool) (t_n_:List Tag) (k:qK):Z6X jeB [] .o false Tryz.f206 [.look (.int .i64) false] [false] [⟨(.int .i64),a_n_,n_,t_n_⟩] [] k=jaO n_ (λ(r0:qB)=>k [⟨.str,false,r0,[]⟩] [] []):=by kernel_rfl
theorem jbp:Z1k Tryz.prog 206 jeX:=Z8N (Γ:=jeB) (X:=[]) (ht:= .o) (fz:=false) (c:=jma) follows j01 Z8W trivial Tryz.func206 (by kernel_rfl) (by kernel_rfl) (by decide) (by
 intro vals ext k r h
 obtain ⟨n_,a_n_,t_n_,vals,rfl,h1⟩:=Z8T h
 obtain ⟨rfl,h2⟩:=Z90 h1
 obtain ⟨rfl,h3⟩:=Z90 h2
 exact (jlA n_ a_n_ t_n_ k).trans h3)
noncomputable def j2H:Code:=(Tryz.f155.body).getD .skip
noncomputable def j9V:Env Unit:=⟨tys,[(98,(j1G j0O)),(174,j1B),(205,jbY),(206,jeX)],0⟩
noncomputable def j63 (b:Int) (k0:Bool->Res):Res:=
 j0K (Z8g b) 33 126 λ(r:Bool)=>
  bif r then
   bif (b != 39) then
    k0 (b != 37)
   else
    k0 false
  else
   k0 false
noncomputable def j5m:Z1l Unit:=λσ k=>rdN σ 68<|rdT σ 1 (.ptr ⟨true,1,[]⟩)<|rdV σ 3 y0 false [.O] λout=>rdV σ 4 (.int .i64) false [] λi=>rdV σ 5 (.int .u8) false [] λb=>rdB σ 1 y2 [] λa v_=>j63 b (λ(t50:Bool)=>k .normal (mkS 68 68 [(1,.ptr ⟨true,1,[]⟩),(3,.val ⟨y0,false,out,[.O]⟩),(4,.val ⟨(.int .i64),false,i,[]⟩),(5,.val ⟨(.int .u8),false,b,[]⟩),(50,.val ⟨.bool,false,t50,[]⟩)] [(1,⟨y2,a,v_,[]⟩)]))
theorem jk8 (out:List Int) (i:Int) (b:Int) (a:Bool) (v_:Int×Int×qB) (k:Z6G Unit):Z0R j9V [] .o (pl (pr (pl (pl (pr (pl (pl (pr (pl (pr (pr (pr j2H)))))))))))) (mkS 68 68 [(1,.ptr ⟨true,1,[]⟩),(3,.val ⟨y0,false,out,[.O]⟩),(4,.val ⟨(.int .i64),false,i,[]⟩),(5,.val ⟨(.int .u8),false,b,[]⟩)] [(1,⟨y2,a,v_,[]⟩)]) (λe σ=>k e ((Z8a ([1,3,4,5,50],[1]) [] ([],[])) e σ))=j63 b (λ(t50:Bool)=>k .normal (mkS 68 68 [(1,.ptr ⟨true,1,[]⟩),(3,.val ⟨y0,false,out,[.O]⟩),(4,.val ⟨(.int .i64),false,i,[]⟩),(5,.val ⟨(.int .u8),false,b,[]⟩),(50,.val ⟨.bool,false,t50,[]⟩)] [(1,⟨y2,a,v_,[]⟩)])):=by kernel_rfl
theorem jkV {W0:Base} {M:Nat->Prop} (hnp:W0.np<=0):Z1W Tryz.prog W0 M (pl (pr (pl (pl (pr (pl (pl (pr (pl (pr (pr (pr j2H)))))))))))) j5m:=Z91 (Z6Q follows j01 (Z7K (Z8C j16 (Z8C j0r (Z8C j9k (Z8C jbp Z8W))))) hnp [] ((pl (pr (pl (pl (pr (pl (pl (pr (pl (pr (pr (pr j2H))))))))))))) .o trivial) (fg:=(Z8a ([1,3,4,5,50],[1]) [] ([],[]))) (Z8U _ _ _) (by
 intro σ k r h
 obtain ⟨hn,h1⟩:=Z8G h
 obtain ⟨hs1,h2⟩:=Z8H h1
 obtain ⟨out,hs3,h3⟩:=Z8J h2
 obtain ⟨i,hs4,h4⟩:=Z8J h3
 obtain ⟨b,hs5,h5⟩:=Z8J h4
 obtain ⟨a,v_,hb1,h6⟩:=Z8D h5
 refine ⟨_,?_,(jk8 out i b a v_ k).trans h6⟩
 exact Z9e hn ⟨hs1,hs3,hs4,hs5,trivial⟩ ⟨hb1,trivial⟩)
noncomputable def j4s (v_:Int×Int×qB) (out:List Int) (i:Int) (rec:(List Int)->Int->Res) (k0:(List Int)->Res):Res:=
 bif decide (i<(nI (ByteArray.size v_.2.2))) then
  bif inb i (ByteArray.size v_.2.2) then
   j63 (bt v_.2.2 i) λ(t:Bool)=>
    bif t then
     bif lim ((List.length out)+1) then
      rec (out++[bt v_.2.2 i]) (Z8g (i+1))
     else none
    else
     bif inb (Z9n .u8 (bt v_.2.2 i) 4) 16 then
      bif inb (Z9j .u8 (bt v_.2.2 i) 15) 16 then
       bif lim ((List.length out)+3) then
        rec (out++[37,bt j0k (Z9n .u8 (bt v_.2.2 i) 4),bt j0k (Z9j .u8 (bt v_.2.2 i) 15)]) (Z8g (i+1))
       else none
      else none
     else none
  else none
 else
  k0 out
noncomputable def j6I (v_:Int×Int×qB):((List Int)×Int)->((List Int)×Int->Res)->(((List Int)->Res))->Res:=λv rec q=>j4s v_ v.1 v.2 (λout i=>rec (out,i)) q
noncomputable def j8Y (v_:Int×Int×qB) (n:Nat) (out:List Int) (i:Int) (k0:(List Int)->Res):Res:=Z10 (j6I v_) n (out,i) (k0)
noncomputable def j7X:Z1l Unit:=λσ k=>rdN σ 68<|rdT σ 1 (.ptr ⟨true,1,[]⟩)<|rdV σ 3 y0 false [.O] λout=>rdV σ 4 (.int .i64) false [] λi=>rdB σ 1 y2 [] λa v_=>j8Y v_ Z0Y out i (λ(out1:List Int)=>k (.exit 1) (mkS 68 68 [(3,.val ⟨y0,false,out1,[.O]⟩)] []))
theorem jk7 (a:Bool) (v_:Int×Int×qB) (n:Nat) (v:(List Int)×Int) (k:Z6G Unit):Z3X (Z0R j9V [j5m] (.t .o (.t (.t (.t .o (.t (.x 0) .o)) .o) .o)) (pl (pl (pr (pl (pr (pr (pr j2H)))))))) (λσ=>σ.forget [1,3,4] [1]) (Z8a ([],[]) [(1,[3],[])] ([],[])) n (mkS 68 68 [(1,.ptr ⟨true,1,[]⟩),(3,.val ⟨y0,false,v.1,[.O]⟩),(4,.val ⟨(.int .i64),false,v.2,[]⟩)] [(1,⟨y2,a,v_,[]⟩)]) k=Z10 (j6I v_) n v ((λ(k:Z6G Unit)=>(((λ(out1:List Int)=>k (.exit 1) (mkS 68 68 [(3,.val ⟨y0,false,out1,[.O]⟩)] []))):((List Int)->Res))) k):=Z80 (λv:(List Int)×Int=>(mkS 68 68 [(1,.ptr ⟨true,1,[]⟩),(3,.val ⟨y0,false,v.1,[.O]⟩),(4,.val ⟨(.int .i64),false,v.2,[]⟩)] [(1,⟨y2,a,v_,[]⟩)])) (j6I v_) (λ(k:Z6G Unit)=>(((λ(out1:List Int)=>k (.exit 1) (mkS 68 68 [(3,.val ⟨y0,false,out1,[.O]⟩)] []))):((List Int)->Res))) (λv rec k=>by kernel_rfl) n v k
theorem jkU {W0:Base} {M:Nat->Prop} (hnp:W0.np<=0):Z1W Tryz.prog W0 M (pl (pr (pl (pr (pr (pr j2H)))))) j7X:=show Z1W Tryz.prog W0 M (Code.loop (pl (pl (pr (pl (pr (pr (pr j2H)))))))) j7X from Z8X (Z6Q follows j01 (Z7K (Z8C j16 (Z8C j0r (Z8C j9k (Z8C jbp Z8W))))) hnp [j5m] (pl (pl (pr (pl (pr (pr (pr j2H))))))) (.t .o (.t (.t (.t .o (.t (.x 0) .o)) .o) .o)) (Z1A.mk trivial ((Z1A.mk ((Z1A.mk ((Z1A.mk trivial ((Z1A.mk (Z1A.x_mk (λW0 M hnp=>jkV (W0:=W0) (M:=M) hnp)) trivial)))) trivial)) trivial)))) (ks:=[1,3,4]) (bs:=[1]) (fX:=(Z8a ([],[]) [(1,[3],[])] ([],[]))) (Z8U _ _ _) Z0Y (by
 intro σ k r h
 obtain ⟨hn,h1⟩:=Z8G h
 obtain ⟨hs1,h2⟩:=Z8H h1
 obtain ⟨out,hs3,h3⟩:=Z8J h2
 obtain ⟨i,hs4,h4⟩:=Z8J h3
 obtain ⟨a,v_,hb1,h5⟩:=Z8D h4
 refine ⟨_,?_,(jk7 a v_ Z0Y (out,i) k).trans h5⟩
 exact Z9e hn ⟨hs1,hs3,hs4,trivial⟩ ⟨hb1,trivial⟩)
noncomputable def j53 (v_:Int×Int×qB) (k0:qB->Res):Res:=
 j7F v_ λ(r:Bool)=>
  bif !r then
   k0 eS
  else
   bif (v_.1==0) then
    k0 j6q
   else
    bif (v_.1==1) then
     jaO v_.2.1 λ(r1:qB)=>
      k0 r1
    else
     bif (v_.1==2) then
      j0O v_.2.1 λ(r2:qB)=>
       k0 r2
     else
      j8Y v_ Z0Y [39] 0 λ(out:List Int)=>
       bif lim ((List.length out)+1) then
        k0 (Z2X (out++[39]))
       else none
noncomputable def ja8:Sig Unit:=⟨[.look y2 true],[false],λvals ext k=>av vals y2 λv_ vals=>nl vals<|nl ext<|j53 v_ (λ(r0:qB)=>k [⟨.str,false,r0,[]⟩] [] [])⟩
theorem jnd (v_:Int×Int×qB) (a_v_:Bool) (t_v_:List Tag) (k:qK):Z6X j9V [j5m,j7X] (.t .o (.t .o (.t .o (.t (.t .o (.t (.x 1) .o)) .o)))) false Tryz.f155 [.look y2 true] [false] [⟨y2,a_v_,v_,t_v_⟩] [] k=j53 v_ (λ(r0:qB)=>k [⟨.str,false,r0,[]⟩] [] []):=by kernel_rfl
theorem j2F:Z1k Tryz.prog 155 ja8:=Z8N (Γ:=j9V) (X:=[j5m,j7X]) (ht:=(.t .o (.t .o (.t .o (.t (.t .o (.t (.x 1) .o)) .o))))) (fz:=false) (c:=j2H) follows j01 (Z8C j16 (Z8C j0r (Z8C j9k (Z8C jbp Z8W)))) (Z1A.mk trivial ((Z1A.mk trivial ((Z1A.mk trivial ((Z1A.mk ((Z1A.mk trivial ((Z1A.mk (Z1A.x_mk (λW0 M hnp=>jkU (W0:=W0) (M:=M) hnp)) trivial)))) trivial))))))) Tryz.func155 (by kernel_rfl) (by kernel_rfl) (by decide) (by
 intro vals ext k r h
 obtain ⟨v_,a_v_,t_v_,vals,rfl,h1⟩:=Z8T h
 obtain ⟨rfl,h2⟩:=Z90 h1
 obtain ⟨rfl,h3⟩:=Z90 h2
 exact (jnd v_ a_v_ t_v_ k).trans h3)
noncomputable def j1F:Code:=(Tryz.f163.body).getD .skip
noncomputable def j7i:Env Unit:=⟨tys,[(107,ja7),(155,ja8),(211,jhe)],0⟩
noncomputable def j62 (s:qB) (k0:Bool->Res):Res:=
 bif sEq s j1r then
  k0 true
 else
  k0 (sEq s j19)
noncomputable def j2A:Z1l Unit:=λσ k=>rdN σ 72<|rdV σ 0 .str false [] λs=>rdT σ 2 (.ptr ⟨true,2,[]⟩)<|rdT σ 4 (.ptr ⟨true,4,[]⟩)<|rdB σ 2 y2 [] λa t2=>rdB σ 4 y2 [] λa1 v_=>j62 s (λ(t20:Bool)=>k .normal (mkS 72 72 [(0,.val ⟨.str,false,s,[]⟩),(2,.ptr ⟨true,2,[]⟩),(4,.ptr ⟨true,4,[]⟩),(20,.val ⟨.bool,false,t20,[]⟩)] [(2,⟨y2,a,t2,[]⟩),(4,⟨y2,a1,v_,[]⟩)]))
theorem jk4 (s:qB) (a:Bool) (t2:Int×Int×qB) (a1:Bool) (v_:Int×Int×qB) (k:Z6G Unit):Z0R j7i [] .o (pl (pr (pr (pl (pl (pr (pr j1F))))))) (mkS 72 72 [(0,.val ⟨.str,false,s,[]⟩),(2,.ptr ⟨true,2,[]⟩),(4,.ptr ⟨true,4,[]⟩)] [(2,⟨y2,a,t2,[]⟩),(4,⟨y2,a1,v_,[]⟩)]) (λe σ=>k e ((Z8a ([0,2,4,20],[2,4]) [] ([],[])) e σ))=j62 s (λ(t20:Bool)=>k .normal (mkS 72 72 [(0,.val ⟨.str,false,s,[]⟩),(2,.ptr ⟨true,2,[]⟩),(4,.ptr ⟨true,4,[]⟩),(20,.val ⟨.bool,false,t20,[]⟩)] [(2,⟨y2,a,t2,[]⟩),(4,⟨y2,a1,v_,[]⟩)])):=by kernel_rfl
theorem jkR {W0:Base} {M:Nat->Prop} (hnp:W0.np<=0):Z1W Tryz.prog W0 M (pl (pr (pr (pl (pl (pr (pr j1F))))))) j2A:=Z91 (Z6Q follows j01 (Z7K (Z8C j1D (Z8C j2F (Z8C jaH Z8W)))) hnp [] ((pl (pr (pr (pl (pl (pr (pr j1F)))))))) .o trivial) (fg:=(Z8a ([0,2,4,20],[2,4]) [] ([],[]))) (Z8U _ _ _) (by
 intro σ k r h
 obtain ⟨hn,h1⟩:=Z8G h
 obtain ⟨s,hs0,h2⟩:=Z8J h1
 obtain ⟨hs2,h3⟩:=Z8H h2
 obtain ⟨hs4,h4⟩:=Z8H h3
 obtain ⟨a,t2,hb2,h5⟩:=Z8D h4
 obtain ⟨a1,v_,hb4,h6⟩:=Z8D h5
 refine ⟨_,?_,(jk4 s a t2 a1 v_ k).trans h6⟩
 exact Z9e hn ⟨hs0,hs2,hs4,trivial⟩ ⟨hb2,hb4,trivial⟩)
noncomputable def j38 (s:qB) (k0:Bool->Res):Res:=
 bif decide ((nI (ByteArray.size s))>1) then
  bif inb 0 (ByteArray.size s) then
   bif ((bt s 0)==39) then
    bif inb (Z8g ((nI (ByteArray.size s))-1)) (ByteArray.size s) then
     k0 ((bt s (Z8g ((nI (ByteArray.size s))-1)))==39)
    else none
   else
    k0 false
  else none
 else
  k0 false
noncomputable def j5l:Z1l Unit:=λσ k=>rdN σ 72<|rdV σ 0 .str false [] λs=>rdT σ 2 (.ptr ⟨true,2,[]⟩)<|rdT σ 4 (.ptr ⟨true,4,[]⟩)<|rdB σ 2 y2 [] λa t2=>rdB σ 4 y2 [] λa1 v_=>j38 s (λ(t31:Bool)=>k .normal (mkS 72 72 [(0,.val ⟨.str,false,s,[]⟩),(2,.ptr ⟨true,2,[]⟩),(4,.ptr ⟨true,4,[]⟩),(31,.val ⟨.bool,false,t31,[]⟩)] [(2,⟨y2,a,t2,[]⟩),(4,⟨y2,a1,v_,[]⟩)]))
theorem jk5 (s:qB) (a:Bool) (t2:Int×Int×qB) (a1:Bool) (v_:Int×Int×qB) (k:Z6G Unit):Z0R j7i [j2A] .o (pl (pr (pr (pr (pr (pl (pl (pr (pr j1F))))))))) (mkS 72 72 [(0,.val ⟨.str,false,s,[]⟩),(2,.ptr ⟨true,2,[]⟩),(4,.ptr ⟨true,4,[]⟩)] [(2,⟨y2,a,t2,[]⟩),(4,⟨y2,a1,v_,[]⟩)]) (λe σ=>k e ((Z8a ([0,2,4,31],[2,4]) [] ([],[])) e σ))=j38 s (λ(t31:Bool)=>k .normal (mkS 72 72 [(0,.val ⟨.str,false,s,[]⟩),(2,.ptr ⟨true,2,[]⟩),(4,.ptr ⟨true,4,[]⟩),(31,.val ⟨.bool,false,t31,[]⟩)] [(2,⟨y2,a,t2,[]⟩),(4,⟨y2,a1,v_,[]⟩)])):=by kernel_rfl
theorem jkS {W0:Base} {M:Nat->Prop} (hnp:W0.np<=0):Z1W Tryz.prog W0 M (pl (pr (pr (pr (pr (pl (pl (pr (pr j1F))))))))) j5l:=Z91 (Z6Q follows j01 (Z7K (Z8C j1D (Z8C j2F (Z8C jaH Z8W)))) hnp [j2A] ((pl (pr (pr (pr (pr (pl (pl (pr (pr j1F)))))))))) .o trivial) (fg:=(Z8a ([0,2,4,31],[2,4]) [] ([],[]))) (Z8U _ _ _) (by
 intro σ k r h
 obtain ⟨hn,h1⟩:=Z8G h
 obtain ⟨s,hs0,h2⟩:=Z8J h1
 obtain ⟨hs2,h3⟩:=Z8H h2
 obtain ⟨hs4,h4⟩:=Z8H h3
 obtain ⟨a,t2,hb2,h5⟩:=Z8D h4
 obtain ⟨a1,v_,hb4,h6⟩:=Z8D h5
 refine ⟨_,?_,(jk5 s a t2 a1 v_ k).trans h6⟩
 exact Z9e hn ⟨hs0,hs2,hs4,trivial⟩ ⟨hb2,hb4,trivial⟩)
noncomputable def j2i (s:qB) (v_:Int×Int×qB) (k0:qV->Res) (k1:Unit->Res):Res:=
 bif sEq s j6q then
  k0 v_
 else
  j62 s λ(t:Bool)=>
   bif t then
    bif sEq s j1r then
     k0 (1,1,eS)
    else
     k0 (1,0,eS)
   else
    j38 s λ(t1:Bool)=>
     bif t1 then
      bif Z6R 1 (Z8g ((nI (ByteArray.size s))-1)) (ByteArray.size s) then
       j8v (Z9k s 1 (Z8g ((nI (ByteArray.size s))-1))) λ(r:qB) (r1:Bool)=>
        bif !r1 then
         k1 ()
        else
         k0 (3,0,r)
      else none
     else
      j36 s λ(r2:Int) (r3:Bool)=>
       k0 (2,r2,eS)
noncomputable def jbd:Z1l Unit:=λσ k=>rdN σ 72<|rdV σ 0 .str false [] λs=>rdT σ 2 (.ptr ⟨true,2,[]⟩)<|rdT σ 4 (.ptr ⟨true,4,[]⟩)<|rdB σ 2 y2 [] λa t2=>rdB σ 4 y2 [] λa1 v_=>j2i s v_ (λ(v_1:Int×Int×qB)=>k .normal (mkS 72 72 [(0,.val ⟨.str,false,s,[]⟩),(2,.ptr ⟨true,2,[]⟩),(4,.ptr ⟨true,4,[]⟩)] [(2,⟨y2,a,t2,[]⟩),(4,⟨y2,a1,v_1,[]⟩)])) (λ(_:Unit)=>k .ret (mkS 72 72 [(2,.ptr ⟨true,2,[]⟩),(3,.val ⟨.bool,false,false,[]⟩)] [(2,⟨y2,a,(0,0,eS),[]⟩)]))
theorem jk6 (s:qB) (a:Bool) (t2:Int×Int×qB) (a1:Bool) (v_:Int×Int×qB) (k:Z6G Unit):Z0R j7i [j2A,j5l] (.t (.t .o (.t .o (.t (.x 0) (.t .o (.t (.x 1) .o))))) .o) (pl (pr (pr j1F))) (mkS 72 72 [(0,.val ⟨.str,false,s,[]⟩),(2,.ptr ⟨true,2,[]⟩),(4,.ptr ⟨true,4,[]⟩)] [(2,⟨y2,a,t2,[]⟩),(4,⟨y2,a1,v_,[]⟩)]) (λe σ=>k e ((Z8a ([0,2,4],[2,4]) [] ([2,3],[2])) e σ))=j2i s v_ (λ(v_1:Int×Int×qB)=>k .normal (mkS 72 72 [(0,.val ⟨.str,false,s,[]⟩),(2,.ptr ⟨true,2,[]⟩),(4,.ptr ⟨true,4,[]⟩)] [(2,⟨y2,a,t2,[]⟩),(4,⟨y2,a1,v_1,[]⟩)])) (λ(_:Unit)=>k .ret (mkS 72 72 [(2,.ptr ⟨true,2,[]⟩),(3,.val ⟨.bool,false,false,[]⟩)] [(2,⟨y2,a,(0,0,eS),[]⟩)])):=by kernel_rfl
theorem jkT {W0:Base} {M:Nat->Prop} (hnp:W0.np<=0):Z1W Tryz.prog W0 M (pl (pr (pr j1F))) jbd:=Z91 (Z6Q follows j01 (Z7K (Z8C j1D (Z8C j2F (Z8C jaH Z8W)))) hnp [j2A,j5l] ((pl (pr (pr j1F)))) (.t (.t .o (.t .o (.t (.x 0) (.t .o (.t (.x 1) .o))))) .o) (Z1A.mk ((Z1A.mk trivial ((Z1A.mk trivial ((Z1A.mk (Z1A.x_mk (λW0 M hnp=>jkR (W0:=W0) (M:=M) hnp)) ((Z1A.mk trivial ((Z1A.mk (Z1A.x_mk (λW0 M hnp=>jkS (W0:=W0) (M:=M) hnp)) trivial)))))))))) trivial)) (fg:=(Z8a ([0,2,4],[2,4]) [] ([2,3],[2]))) (Z8U _ _ _) (by
 intro σ k r h
 obtain ⟨hn,h1⟩:=Z8G h
 obtain ⟨s,hs0,h2⟩:=Z8J h1
 obtain ⟨hs2,h3⟩:=Z8H h2
 obtain ⟨hs4,h4⟩:=Z8H h3
 obtain ⟨a,t2,hb2,h5⟩:=Z8D h4
 obtain ⟨a1,v_,hb4,h6⟩:=Z8D h5
 refine ⟨_,?_,(jk6 s a t2 a1 v_ k).trans h6⟩
 exact Z9e hn ⟨hs0,hs2,hs4,trivial⟩ ⟨hb2,hb4,trivial⟩)
noncomputable def j37 (s:qB) (k0:qV->Bool->Res):Res:=
 j2i s (0,0,eS)
  (λ(v_:Int×Int×qB)=>
   bif sEq s eS then
    k0 (0,0,eS) false
   else
    j53 v_ λ(r:qB)=>
     bif sNe r s then
      k0 (0,0,eS) false
     else
      k0 v_ true)
  (λ(_:Unit)=>
   k0 (0,0,eS) false)
noncomputable def jcQ:Sig Unit:=⟨[.look .str false],[true,false],λvals ext k=>av vals .str λs vals=>nl vals<|nl ext<|j37 s (λ(r0:Int×Int×qB) (r1:Bool)=>k [⟨y2,true,r0,[]⟩,⟨.bool,false,r1,[]⟩] [] [])⟩
theorem jnc (s:qB) (a_s:Bool) (t_s:List Tag) (k:qK):Z6X j7i [j2A,j5l,jbd] (.t .o (.t .o (.t (.x 2) .o))) false Tryz.f163 [.look .str false] [true,false] [⟨.str,a_s,s,t_s⟩] [] k=j37 s (λ(r0:Int×Int×qB) (r1:Bool)=>k [⟨y2,true,r0,[]⟩,⟨.bool,false,r1,[]⟩] [] []):=by kernel_rfl
theorem j4R:Z1k Tryz.prog 163 jcQ:=Z8N (Γ:=j7i) (X:=[j2A,j5l,jbd]) (ht:=(.t .o (.t .o (.t (.x 2) .o)))) (fz:=false) (c:=j1F) follows j01 (Z8C j1D (Z8C j2F (Z8C jaH Z8W))) (Z1A.mk trivial ((Z1A.mk trivial ((Z1A.mk (Z1A.x_mk (λW0 M hnp=>jkT (W0:=W0) (M:=M) hnp)) trivial))))) Tryz.func163 (by kernel_rfl) (by kernel_rfl) (by decide) (by
 intro vals ext k r h
 obtain ⟨s,a_s,t_s,vals,rfl,h1⟩:=Z8T h
 obtain ⟨rfl,h2⟩:=Z90 h1
 obtain ⟨rfl,h3⟩:=Z90 h2
 exact (jnc s a_s t_s k).trans h3)
noncomputable def j86:Code:=(Tryz.f152.body).getD .skip
noncomputable def jdg:Env Unit:=⟨tys,[(174,j1B)],0⟩
noncomputable def j54 (s:qB) (i:Int) (rec:Int->Res) (k0:Unit->Res) (k1:Unit->Res):Res:=
 bif decide (i<(nI (ByteArray.size s))) then
  bif inb i (ByteArray.size s) then
   bif decide ((bt s i)<97) then
    k1 ()
   else
    bif inb i (ByteArray.size s) then
     bif decide ((bt s i)>122) then
      k1 ()
     else
      rec (Z8g (i+1))
    else none
  else none
 else
  k0 ()
noncomputable def j7G (s:qB):Int->(Int->Res)->((Unit->Res)×(Unit->Res))->Res:=λv rec q=>j54 s v (λi=>rec (i)) q.1 q.2
noncomputable def jcI (s:qB) (n:Nat) (i:Int) (k0:Unit->Res) (k1:Unit->Res):Res:=Z10 (j7G s) n (i) (k0,k1)
noncomputable def j9d:Z1l Unit:=λσ k=>rdN σ 23<|rdV σ 0 .str false [] λs=>rdV σ 3 (.int .i64) false [] λi=>jcI s Z0Y i (λ(_:Unit)=>k (.exit 0) (mkS 23 23 [(0,.val ⟨.str,false,s,[]⟩)] [])) (λ(_:Unit)=>k .ret (mkS 23 23 [(2,.val ⟨.bool,false,false,[]⟩)] []))
theorem jmn (s:qB) (n:Nat) (v:Int) (k:Z6G Unit):Z3X (Z0R jdg [] .o (pl (pl (pr (pl (pr j86)))))) (λσ=>σ.forget [0,3] []) (Z8a ([],[]) [(0,[0],[])] ([2],[])) n (mkS 23 23 [(0,.val ⟨.str,false,s,[]⟩),(3,.val ⟨(.int .i64),false,v,[]⟩)] []) k=Z10 (j7G s) n v ((λ(k:Z6G Unit)=>(((λ(_:Unit)=>k (.exit 0) (mkS 23 23 [(0,.val ⟨.str,false,s,[]⟩)] [])),(λ(_:Unit)=>k .ret (mkS 23 23 [(2,.val ⟨.bool,false,false,[]⟩)] []))):(Unit->Res)×(Unit->Res))) k):=Z80 (λv:Int=>(mkS 23 23 [(0,.val ⟨.str,false,s,[]⟩),(3,.val ⟨(.int .i64),false,v,[]⟩)] [])) (j7G s) (λ(k:Z6G Unit)=>(((λ(_:Unit)=>k (.exit 0) (mkS 23 23 [(0,.val ⟨.str,false,s,[]⟩)] [])),(λ(_:Unit)=>k .ret (mkS 23 23 [(2,.val ⟨.bool,false,false,[]⟩)] []))):(Unit->Res)×(Unit->Res))) (λv rec k=>by kernel_rfl) n v k
theorem jmF {W0:Base} {M:Nat->Prop} (hnp:W0.np<=0):Z1W Tryz.prog W0 M (pl (pr (pl (pr j86)))) j9d:=show Z1W Tryz.prog W0 M (Code.loop (pl (pl (pr (pl (pr j86)))))) j9d from Z8X (Z6Q follows j01 (Z7K (Z8C j0r Z8W)) hnp [] (pl (pl (pr (pl (pr j86))))) .o trivial) (ks:=[0,3]) (bs:=[]) (fX:=(Z8a ([],[]) [(0,[0],[])] ([2],[]))) (Z8U _ _ _) Z0Y (by
 intro σ k r h
 obtain ⟨hn,h1⟩:=Z8G h
 obtain ⟨s,hs0,h2⟩:=Z8J h1
 obtain ⟨i,hs3,h3⟩:=Z8J h2
 refine ⟨_,?_,(jmn s Z0Y (i) k).trans h3⟩
 exact Z9e hn ⟨hs0,hs3,trivial⟩ trivial)
noncomputable def j2p (s:qB) (k0:Bool->Res):Res:=
 jcI s Z0Y 0
  (λ(_:Unit)=>
   j0K (nI (ByteArray.size s)) 1 8 λ(r:Bool)=>
    k0 r)
  (λ(_:Unit)=>
   k0 false)
noncomputable def j8m:Sig Unit:=⟨[.look .str false],[false],λvals ext k=>av vals .str λs vals=>nl vals<|nl ext<|j2p s (λ(r0:Bool)=>k [⟨.bool,false,r0,[]⟩] [] [])⟩
theorem joS (s:qB) (a_s:Bool) (t_s:List Tag) (k:qK):Z6X jdg [j9d] (.t .o (.t (.t .o (.t (.x 0) .o)) .o)) false Tryz.f152 [.look .str false] [false] [⟨.str,a_s,s,t_s⟩] [] k=j2p s (λ(r0:Bool)=>k [⟨.bool,false,r0,[]⟩] [] []):=by kernel_rfl
theorem j4k:Z1k Tryz.prog 152 j8m:=Z8N (Γ:=jdg) (X:=[j9d]) (ht:=(.t .o (.t (.t .o (.t (.x 0) .o)) .o))) (fz:=false) (c:=j86) follows j01 (Z8C j0r Z8W) (Z1A.mk trivial ((Z1A.mk ((Z1A.mk trivial ((Z1A.mk (Z1A.x_mk (λW0 M hnp=>jmF (W0:=W0) (M:=M) hnp)) trivial)))) trivial))) Tryz.func152 (by kernel_rfl) (by kernel_rfl) (by decide) (by
 intro vals ext k r h
 obtain ⟨s,a_s,t_s,vals,rfl,h1⟩:=Z8T h
 obtain ⟨rfl,h2⟩:=Z90 h1
 obtain ⟨rfl,h3⟩:=Z90 h2
 exact (joS s a_s t_s k).trans h3)
end Go.PI.G
