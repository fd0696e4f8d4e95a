/-
  Program's code interpreted over typed values; printed texts; plain laws. No conditions.
-/
import Derived.Test.YtiieddiheadocaaGreatUa
set_option linter.unusedVariables false
set_option maxRecDepth 100000
namespace Go.PI.G
open Go Go.PI Go.Proofs
open Go.Code (pl pr)
noncomputable def jpX:Code:=(Tryz.f208.body).getD .skip
noncomputable def jhJ:Env Unit:=⟨tys,[],0⟩
noncomputable def jbk (n_:Int) (k0:Bool->Res):Res:=
 bif decide (n_>=(-1099511627775)) then
  k0 (decide (n_<=1099511627775))
 else
  k0 false
noncomputable def jei:Sig Unit:=⟨[.look (.int .i64) false],[false],λvals ext k=>av vals (.int .i64) λn_ vals=>nl vals<|nl ext<|jbk n_ (λ(r0:Bool)=>k [⟨.bool,false,r0,[]⟩] [] [])⟩
theorem jpI (n_:Int) (a_n_:Bool) (t_n_:List Tag) (k:qK):Z6X jhJ [] .o false Tryz.f208 [.look (.int .i64) false] [false] [⟨(.int .i64),a_n_,n_,t_n_⟩] [] k=jbk n_ (λ(r0:Bool)=>k [⟨.bool,false,r0,[]⟩] [] []):=by kernel_rfl
theorem jhB:Z1k Tryz.prog 208 jei:=Z8N (Γ:=jhJ) (X:=[]) (ht:= .o) (fz:=false) (c:=jpX) follows j00 Z8W trivial Tryz.func208 (by kernel_rfl) (by kernel_rfl) (by decide) (by
 intro vals ext k r h
 obtain ⟨n_,a_n_,t_n_,vals,rfl,h1⟩:=Z8T h
 obtain ⟨rfl,h2⟩:=Z90 h1
 obtain ⟨rfl,h3⟩:=Z90 h2
 exact (jpI n_ a_n_ t_n_ k).trans h3)
noncomputable def jgo:Code:=(Tryz.f175.body).getD .skip
noncomputable def j2k (self:Int->(qB->Res)->Res):Sig Unit:=⟨[.look (.int .i64) false],[false],λvals ext k=>av vals (.int .i64) λn_ vals=>nl vals<|nl ext<|self n_ (λ(r0:qB)=>k [⟨.str,false,r0,[]⟩] [] [])⟩
noncomputable def jgu (self:Int->(qB->Res)->Res):Env Unit:=⟨tys,[(175,(j2k self)),(208,jei)],0⟩
noncomputable def j12 (self:Int->(qB->Res)->Res) (n_:Int) (k0:qB->Res):Res:=
 jbk n_ λ(r:Bool)=>
  bif !r then
   k0 eS
  else
   bif decide (n_<0) then
    self (Z8g (0-n_)) λ(r1:qB)=>
     bif lim (1+(ByteArray.size r1)) then
      k0 (z__++r1)
     else none
   else
    bif decide (n_<10) then
     k0 (Z2X [wu8 (Z8g (48+n_))])
    else
     Z6L
      (self (Z8g (Int.tdiv n_ 10)) λ(r2:qB)=>
       bif lim ((ByteArray.size r2)+(ByteArray.size (Z2X [wu8 (Z8g (48+(Int.tmod n_ 10)))]))) then
        k0 (r2++(Z2X [wu8 (Z8g (48+(Int.tmod n_ 10)))]))
       else none)
      (self (Z8g (Int.tdiv n_ 10)) λ(r3:qB)=>
       bif lim ((ByteArray.size r3)+(ByteArray.size (Z2X [wu8 (Z8g (48+(Int.tmod n_ 10)))]))) then
        k0 (r3++(Z2X [wu8 (Z8g (48+(Int.tmod n_ 10)))]))
       else none)
theorem joh (self:Int->(qB->Res)->Res) (n_:Int) (a_n_:Bool) (t_n_:List Tag) (k:qK):Z6X (jgu self) [] .o false Tryz.f175 [.look (.int .i64) false] [false] [⟨(.int .i64),a_n_,n_,t_n_⟩] [] k=j12 self n_ (λ(r0:qB)=>k [⟨.str,false,r0,[]⟩] [] []):=by kernel_rfl
theorem jn5 (self:Int->(qB->Res)->Res) (hself:Z1k Tryz.prog 175 (j2k self)):Z1k Tryz.prog 175 (j2k (j12 self)):=Z8N (Γ:=(jgu self)) (X:=[]) (ht:= .o) (fz:=false) (c:=jgo) follows j00 (Z8C hself (Z8C jhB Z8W)) trivial Tryz.func175 (by kernel_rfl) (by kernel_rfl) (by decide) (by
 intro vals ext k r h
 obtain ⟨n_,a_n_,t_n_,vals,rfl,h1⟩:=Z8T h
 obtain ⟨rfl,h2⟩:=Z90 h1
 obtain ⟨rfl,h3⟩:=Z90 h2
 exact (joh self n_ a_n_ t_n_ k).trans h3)
noncomputable def j0U:Int->(qB->Res)->Res:=Z8f (λ_ _=>none) j12 Z0Y
theorem j1K:Z1k Tryz.prog 175 (j2k j0U):=Z7O (C:=λt=>Z1k Tryz.prog 175 (j2k t)) (Z8j (c:=jgo) Tryz.func175 (by kernel_rfl) (by kernel_rfl) (by
 intro vals ext k r h
 obtain ⟨n_,a_n_,t_n_,vals,rfl,h1⟩:=Z8T h
 obtain ⟨rfl,h2⟩:=Z90 h1
 obtain ⟨rfl,h3⟩:=Z90 h2
 cases h3)) (λt h=>jn5 t h) Z0Y
noncomputable def j1u:Code:=(Tryz.f110.body).getD .skip
noncomputable def j80:Env Unit:=⟨tys,[(175,(j2k j0U))],0⟩
noncomputable def j4s (s:qB) (i:Int) (k0:Unit->Res) (k1:Unit->Res):Res:=
 bif (i==0) then
  bif inb 0 (ByteArray.size s) then
   bif ((bt s 0)==45) then
    k1 ()
   else
    k0 ()
  else none
 else
  k0 ()
noncomputable def j2L:Z1l Unit:=λσ k=>rdN σ 55<|rdV σ 0 .str false [] λs=>rdV σ 4 (.int .i64) false [] λn_=>rdV σ 5 (.int .i64) false [] λi=>j4s s i (λ(_:Unit)=>k .normal (mkS 55 55 [(0,.val ⟨.str,false,s,[]⟩),(4,.val ⟨(.int .i64),false,n_,[]⟩),(5,.val ⟨(.int .i64),false,i,[]⟩)] [])) (λ(_:Unit)=>k (.exit 1) (mkS 55 55 [(0,.val ⟨.str,false,s,[]⟩),(4,.val ⟨(.int .i64),false,n_,[]⟩),(5,.val ⟨(.int .i64),false,i,[]⟩),(23,.val ⟨.str,false,s,[]⟩),(24,.val ⟨(.int .u8),false,bt s 0,[]⟩),(25,.val ⟨.bool,false,((bt s 0)==45),[]⟩)] []))
theorem jlx (s:qB) (n_:Int) (i:Int) (k:Z6G Unit):Z0R j80 [] .o (pl (pl (pl (pr (pl (pl (pr (pl (pr (pr (pr j1u))))))))))) (mkS 55 55 [(0,.val ⟨.str,false,s,[]⟩),(4,.val ⟨(.int .i64),false,n_,[]⟩),(5,.val ⟨(.int .i64),false,i,[]⟩)] []) (λe σ=>k e ((Z8a ([0,4,5],[]) [(1,[0,4,5,23,24,25],[])] ([],[])) e σ))=j4s s i (λ(_:Unit)=>k .normal (mkS 55 55 [(0,.val ⟨.str,false,s,[]⟩),(4,.val ⟨(.int .i64),false,n_,[]⟩),(5,.val ⟨(.int .i64),false,i,[]⟩)] [])) (λ(_:Unit)=>k (.exit 1) (mkS 55 55 [(0,.val ⟨.str,false,s,[]⟩),(4,.val ⟨(.int .i64),false,n_,[]⟩),(5,.val ⟨(.int .i64),false,i,[]⟩),(23,.val ⟨.str,false,s,[]⟩),(24,.val ⟨(.int .u8),false,bt s 0,[]⟩),(25,.val ⟨.bool,false,((bt s 0)==45),[]⟩)] [])):=by kernel_rfl
theorem jmk {W0:Base} {M:Nat->Prop} (hnp:W0.np<=0):Z1W Tryz.prog W0 M (pl (pl (pl (pr (pl (pl (pr (pl (pr (pr (pr j1u))))))))))) j2L:=Z91 (Z6Q follows j00 (Z7K (Z8C j1K Z8W)) hnp [] ((pl (pl (pl (pr (pl (pl (pr (pl (pr (pr (pr j1u)))))))))))) .o trivial) (fg:=(Z8a ([0,4,5],[]) [(1,[0,4,5,23,24,25],[])] ([],[]))) (Z8U _ _ _) (by
 intro σ k r h
 obtain ⟨hn,h1⟩:=Z8G h
 obtain ⟨s,hs0,h2⟩:=Z8J h1
 obtain ⟨n_,hs4,h3⟩:=Z8J h2
 obtain ⟨i,hs5,h4⟩:=Z8J h3
 refine ⟨_,?_,(jlx s n_ i k).trans h4⟩
 exact Z9e hn ⟨hs0,hs4,hs5,trivial⟩ trivial)
noncomputable def j2n (s:qB) (n_:Int) (i:Int) (rec:Int->Int->Res) (k0:Int->Res) (k1:Unit->Res):Res:=
 bif decide (i<(nI (ByteArray.size s))) then
  j4s s i
   (λ(_:Unit)=>
    bif inb i (ByteArray.size s) then
     bif decide ((bt s i)<48) then
      k1 ()
     else
      bif inb i (ByteArray.size s) then
       bif decide ((bt s i)>57) then
        k1 ()
       else
        bif inb i (ByteArray.size s) then
         rec (Z8g ((Z8g (n_ * 10))+(Z8g (wu8 ((bt s i)-48))))) (Z8g (i+1))
        else none
      else none
    else none)
   (λ(_:Unit)=>
    rec n_ (Z8g (i+1)))
 else
  k0 n_
noncomputable def j3z (s:qB):(Int×Int)->(Int×Int->Res)->((Int->Res)×(Unit->Res))->Res:=λv rec q=>j2n s v.1 v.2 (λn_ i=>rec (n_,i)) q.1 q.2
noncomputable def jcR (s:qB) (n:Nat) (n_:Int) (i:Int) (k0:Int->Res) (k1:Unit->Res):Res:=Z10 (j3z s) n (n_,i) (k0,k1)
noncomputable def j3W:Z1l Unit:=λσ k=>rdN σ 55<|rdV σ 0 .str false [] λs=>rdV σ 4 (.int .i64) false [] λn_=>rdV σ 5 (.int .i64) false [] λi=>jcR s Z0Y n_ i (λ(n_1:Int)=>k (.exit 0) (mkS 55 55 [(0,.val ⟨.str,false,s,[]⟩),(4,.val ⟨(.int .i64),false,n_1,[]⟩)] [])) (λ(_:Unit)=>k .ret (mkS 55 55 [(2,.val ⟨(.int .i64),false,0,[]⟩),(3,.val ⟨.bool,false,false,[]⟩)] []))
theorem jlw (s:qB) (n:Nat) (v:Int×Int) (k:Z6G Unit):Z3X (Z0R j80 [j2L] (.t .o (.t (.t (.t (.x 0) .o) .o) .o)) (pl (pl (pr (pl (pr (pr (pr j1u)))))))) (λσ=>σ.forget [0,4,5] []) (Z8a ([],[]) [(0,[0,4],[])] ([2,3],[])) n (mkS 55 55 [(0,.val ⟨.str,false,s,[]⟩),(4,.val ⟨(.int .i64),false,v.1,[]⟩),(5,.val ⟨(.int .i64),false,v.2,[]⟩)] []) k=Z10 (j3z s) n v ((λ(k:Z6G Unit)=>(((λ(n_1:Int)=>k (.exit 0) (mkS 55 55 [(0,.val ⟨.str,false,s,[]⟩),(4,.val ⟨(.int .i64),false,n_1,[]⟩)] [])),(λ(_:Unit)=>k .ret (mkS 55 55 [(2,.val ⟨(.int .i64),false,0,[]⟩),(3,.val ⟨.bool,false,false,[]⟩)] []))):(Int->Res)×(Unit->Res))) k):=Z80 (λv:Int×Int=>(mkS 55 55 [(0,.val ⟨.str,false,s,[]⟩),(4,.val ⟨(.int .i64),false,v.1,[]⟩),(5,.val ⟨(.int .i64),false,v.2,[]⟩)] [])) (j3z s) (λ(k:Z6G Unit)=>(((λ(n_1:Int)=>k (.exit 0) (mkS 55 55 [(0,.val ⟨.str,false,s,[]⟩),(4,.val ⟨(.int .i64),false,n_1,[]⟩)] [])),(λ(_:Unit)=>k .ret (mkS 55 55 [(2,.val ⟨(.int .i64),false,0,[]⟩),(3,.val ⟨.bool,false,false,[]⟩)] []))):(Int->Res)×(Unit->Res))) (λv rec k=>by kernel_rfl) n v k
theorem jmj {W0:Base} {M:Nat->Prop} (hnp:W0.np<=0):Z1W Tryz.prog W0 M (pl (pr (pl (pr (pr (pr j1u)))))) j3W:=show Z1W Tryz.prog W0 M (Code.loop (pl (pl (pr (pl (pr (pr (pr j1u)))))))) j3W from Z8X (Z6Q follows j00 (Z7K (Z8C j1K Z8W)) hnp [j2L] (pl (pl (pr (pl (pr (pr (pr j1u))))))) (.t .o (.t (.t (.t (.x 0) .o) .o) .o)) (Z1A.mk trivial ((Z1A.mk ((Z1A.mk ((Z1A.mk (Z1A.x_mk (λW0 M hnp=>jmk (W0:=W0) (M:=M) hnp)) trivial)) trivial)) trivial)))) (ks:=[0,4,5]) (bs:=[]) (fX:=(Z8a ([],[]) [(0,[0,4],[])] ([2,3],[]))) (Z8U _ _ _) Z0Y (by
 intro σ k r h
 obtain ⟨hn,h1⟩:=Z8G h
 obtain ⟨s,hs0,h2⟩:=Z8J h1
 obtain ⟨n_,hs4,h3⟩:=Z8J h2
 obtain ⟨i,hs5,h4⟩:=Z8J h3
 refine ⟨_,?_,(jlw s Z0Y (n_,i) k).trans h4⟩
 exact Z9e hn ⟨hs0,hs4,hs5,trivial⟩ trivial)
noncomputable def j9P (n_:Int) (t47:Bool) (k0:Int->Res):Res:=
 bif t47 then
  k0 (Z8g (0-n_))
 else
  k0 n_
noncomputable def jc0:Z1l Unit:=λσ k=>rdN σ 55<|rdV σ 0 .str false [] λs=>rdV σ 4 (.int .i64) false [] λn_=>rdV σ 47 .bool false [] λt47=>j9P n_ t47 (λ(n_1:Int)=>k .normal (mkS 55 55 [(0,.val ⟨.str,false,s,[]⟩),(4,.val ⟨(.int .i64),false,n_1,[]⟩)] []))
theorem jly (s:qB) (n_:Int) (t47:Bool) (k:Z6G Unit):Z0R j80 [j2L,j3W] .o (pr (pl (pr (pr (pr (pr j1u)))))) (mkS 55 55 [(0,.val ⟨.str,false,s,[]⟩),(4,.val ⟨(.int .i64),false,n_,[]⟩),(47,.val ⟨.bool,false,t47,[]⟩)] []) (λe σ=>k e ((Z8a ([0,4],[]) [] ([],[])) e σ))=j9P n_ t47 (λ(n_1:Int)=>k .normal (mkS 55 55 [(0,.val ⟨.str,false,s,[]⟩),(4,.val ⟨(.int .i64),false,n_1,[]⟩)] [])):=by kernel_rfl
theorem jml {W0:Base} {M:Nat->Prop} (hnp:W0.np<=0):Z1W Tryz.prog W0 M (pr (pl (pr (pr (pr (pr j1u)))))) jc0:=Z91 (Z6Q follows j00 (Z7K (Z8C j1K Z8W)) hnp [j2L,j3W] ((pr (pl (pr (pr (pr (pr j1u))))))) .o trivial) (fg:=(Z8a ([0,4],[]) [] ([],[]))) (Z8U _ _ _) (by
 intro σ k r h
 obtain ⟨hn,h1⟩:=Z8G h
 obtain ⟨s,hs0,h2⟩:=Z8J h1
 obtain ⟨n_,hs4,h3⟩:=Z8J h2
 obtain ⟨t47,hs47,h4⟩:=Z8J h3
 refine ⟨_,?_,(jly s n_ t47 k).trans h4⟩
 exact Z9e hn ⟨hs0,hs4,hs47,trivial⟩ trivial)
noncomputable def j3p (s:qB) (k0:Int->Bool->Res):Res:=
 bif decide ((nI (ByteArray.size s))<1) then
  k0 0 false
 else
  bif decide ((nI (ByteArray.size s))>14) then
   k0 0 false
  else
   jcR s Z0Y 0 0
    (λ(n_:Int)=>
     bif inb 0 (ByteArray.size s) then
      j9P n_ ((bt s 0)==45) λ(n_1:Int)=>
       j0U n_1 λ(r:qB)=>
        bif sNe r s then
         k0 0 false
        else
         k0 n_1 true
     else none)
    (λ(_:Unit)=>
     k0 0 false)
noncomputable def jaL:Sig Unit:=⟨[.look .str false],[false,false],λvals ext k=>av vals .str λs vals=>nl vals<|nl ext<|j3p s (λ(r0:Int) (r1:Bool)=>k [⟨(.int .i64),false,r0,[]⟩,⟨.bool,false,r1,[]⟩] [] [])⟩
theorem jol (s:qB) (a_s:Bool) (t_s:List Tag) (k:qK):Z6X j80 [j2L,j3W,jc0] (.t .o (.t .o (.t .o (.t (.t .o (.t (.x 1) .o)) (.t (.t .o (.x 2)) .o))))) false Tryz.f110 [.look .str false] [false,false] [⟨.str,a_s,s,t_s⟩] [] k=j3p s (λ(r0:Int) (r1:Bool)=>k [⟨(.int .i64),false,r0,[]⟩,⟨.bool,false,r1,[]⟩] [] []):=by kernel_rfl
theorem j11:Z1k Tryz.prog 110 jaL:=Z8N (Γ:=j80) (X:=[j2L,j3W,jc0]) (ht:=(.t .o (.t .o (.t .o (.t (.t .o (.t (.x 1) .o)) (.t (.t .o (.x 2)) .o)))))) (fz:=false) (c:=j1u) follows j00 (Z8C j1K Z8W) (Z1A.mk trivial ((Z1A.mk trivial ((Z1A.mk trivial ((Z1A.mk ((Z1A.mk trivial ((Z1A.mk (Z1A.x_mk (λW0 M hnp=>jmj (W0:=W0) (M:=M) hnp)) trivial)))) ((Z1A.mk ((Z1A.mk trivial (Z1A.x_mk (λW0 M hnp=>jml (W0:=W0) (M:=M) hnp)))) trivial))))))))) Tryz.func110 (by kernel_rfl) (by kernel_rfl) (by decide) (by
 intro vals ext k r h
 obtain ⟨s,a_s,t_s,vals,rfl,h1⟩:=Z8T h
 obtain ⟨rfl,h2⟩:=Z90 h1
 obtain ⟨rfl,h3⟩:=Z90 h2
 exact (jol s a_s t_s k).trans h3)
noncomputable def jpW:Code:=(Tryz.f287.body).getD .skip
noncomputable def jhI:Env Unit:=⟨tys,[],0⟩
noncomputable def j7e (d:Int) (k0:Int->Res):Res:=
 bif inb (Int.tmod d 16) 16 then
  k0 (bt j0k (Int.tmod d 16))
 else none
noncomputable def jeh:Sig Unit:=⟨[.look (.int .i64) false],[false],λvals ext k=>av vals (.int .i64) λd vals=>nl vals<|nl ext<|j7e d (λ(r0:Int)=>k [⟨(.int .u8),false,r0,[]⟩] [] [])⟩
theorem jpH (d:Int) (a_d:Bool) (t_d:List Tag) (k:qK):Z6X jhI [] .o false Tryz.f287 [.look (.int .i64) false] [false] [⟨(.int .i64),a_d,d,t_d⟩] [] k=j7e d (λ(r0:Int)=>k [⟨(.int .u8),false,r0,[]⟩] [] []):=by kernel_rfl
theorem j8N:Z1k Tryz.prog 287 jeh:=Z8N (Γ:=jhI) (X:=[]) (ht:= .o) (fz:=false) (c:=jpW) follows j00 Z8W trivial Tryz.func287 (by kernel_rfl) (by kernel_rfl) (by decide) (by
 intro vals ext k r h
 obtain ⟨d,a_d,t_d,vals,rfl,h1⟩:=Z8T h
 obtain ⟨rfl,h2⟩:=Z90 h1
 obtain ⟨rfl,h3⟩:=Z90 h2
 exact (jpH d a_d t_d k).trans h3)
noncomputable def j7Q:Code:=(Tryz.f289.body).getD .skip
noncomputable def jdm:Env Unit:=⟨tys,[(287,jeh)],0⟩
noncomputable def j4Z (b:Int) (d:Int) (rec:Int->Res) (k0:Unit->Res) (k1:Int->Res):Res:=
 bif decide (d<16) then
  j7e d λ(r:Int)=>
   bif (r==b) then
    k1 d
   else
    rec (Z8g (d+1))
 else
  k0 ()
noncomputable def j7q (b:Int):Int->(Int->Res)->((Unit->Res)×(Int->Res))->Res:=λv rec q=>j4Z b v (λd=>rec (d)) q.1 q.2
noncomputable def jcU (b:Int) (n:Nat) (d:Int) (k0:Unit->Res) (k1:Int->Res):Res:=Z10 (j7q b) n (d) (k0,k1)
noncomputable def j8I:Z1l Unit:=λσ k=>rdN σ 13<|rdV σ 0 (.int .u8) false [] λb=>rdV σ 3 (.int .i64) false [] λd=>jcU b Z0Y d (λ(_:Unit)=>k (.exit 0) (mkS 13 13 [] [])) (λ(t2:Int)=>k .ret (mkS 13 13 [(2,.val ⟨(.int .i64),false,t2,[]⟩)] []))
theorem jlH (b:Int) (n:Nat) (v:Int) (k:Z6G Unit):Z3X (Z0R jdm [] .o (pl (pl (pr (pl (pr j7Q)))))) (λσ=>σ.forget [0,3] []) (Z8a ([],[]) [(0,[],[])] ([2],[])) n (mkS 13 13 [(0,.val ⟨(.int .u8),false,b,[]⟩),(3,.val ⟨(.int .i64),false,v,[]⟩)] []) k=Z10 (j7q b) n v ((λ(k:Z6G Unit)=>(((λ(_:Unit)=>k (.exit 0) (mkS 13 13 [] [])),(λ(t2:Int)=>k .ret (mkS 13 13 [(2,.val ⟨(.int .i64),false,t2,[]⟩)] []))):(Unit->Res)×(Int->Res))) k):=Z80 (λv:Int=>(mkS 13 13 [(0,.val ⟨(.int .u8),false,b,[]⟩),(3,.val ⟨(.int .i64),false,v,[]⟩)] [])) (j7q b) (λ(k:Z6G Unit)=>(((λ(_:Unit)=>k (.exit 0) (mkS 13 13 [] [])),(λ(t2:Int)=>k .ret (mkS 13 13 [(2,.val ⟨(.int .i64),false,t2,[]⟩)] []))):(Unit->Res)×(Int->Res))) (λv rec k=>by kernel_rfl) n v k
theorem jmu {W0:Base} {M:Nat->Prop} (hnp:W0.np<=0):Z1W Tryz.prog W0 M (pl (pr (pl (pr j7Q)))) j8I:=show Z1W Tryz.prog W0 M (Code.loop (pl (pl (pr (pl (pr j7Q)))))) j8I from Z8X (Z6Q follows j00 (Z7K (Z8C j8N Z8W)) hnp [] (pl (pl (pr (pl (pr j7Q))))) .o trivial) (ks:=[0,3]) (bs:=[]) (fX:=(Z8a ([],[]) [(0,[],[])] ([2],[]))) (Z8U _ _ _) Z0Y (by
 intro σ k r h
 obtain ⟨hn,h1⟩:=Z8G h
 obtain ⟨b,hs0,h2⟩:=Z8J h1
 obtain ⟨d,hs3,h3⟩:=Z8J h2
 refine ⟨_,?_,(jlH b Z0Y (d) k).trans h3⟩
 exact Z9e hn ⟨hs0,hs3,trivial⟩ trivial)
noncomputable def j88 (b:Int) (k0:Int->Res):Res:=
 jcU b Z0Y 0
  (λ(_:Unit)=>
   k0 0)
  (λ(t:Int)=>
   k0 t)
noncomputable def jgL:Sig Unit:=⟨[.look (.int .u8) false],[false],λvals ext k=>av vals (.int .u8) λb vals=>nl vals<|nl ext<|j88 b (λ(r0:Int)=>k [⟨(.int .i64),false,r0,[]⟩] [] [])⟩
theorem joq (b:Int) (a_b:Bool) (t_b:List Tag) (k:qK):Z6X jdm [j8I] (.t .o (.t (.t .o (.t (.x 0) .o)) .o)) false Tryz.f289 [.look (.int .u8) false] [false] [⟨(.int .u8),a_b,b,t_b⟩] [] k=j88 b (λ(r0:Int)=>k [⟨(.int .i64),false,r0,[]⟩] [] []):=by kernel_rfl
theorem j7N:Z1k Tryz.prog 289 jgL:=Z8N (Γ:=jdm) (X:=[j8I]) (ht:=(.t .o (.t (.t .o (.t (.x 0) .o)) .o))) (fz:=false) (c:=j7Q) follows j00 (Z8C j8N Z8W) (Z1A.mk trivial ((Z1A.mk ((Z1A.mk trivial ((Z1A.mk (Z1A.x_mk (λW0 M hnp=>jmu (W0:=W0) (M:=M) hnp)) trivial)))) trivial))) Tryz.func289 (by kernel_rfl) (by kernel_rfl) (by decide) (by
 intro vals ext k r h
 obtain ⟨b,a_b,t_b,vals,rfl,h1⟩:=Z8T h
 obtain ⟨rfl,h2⟩:=Z90 h1
 obtain ⟨rfl,h3⟩:=Z90 h2
 exact (joq b a_b t_b k).trans h3)
noncomputable def jqI:Code:=(Tryz.f157.body).getD .skip
noncomputable def jiL:Env Unit:=⟨tys,[(208,jei)],0⟩
noncomputable def j8w (v_:Int×Int×qB) (k0:Bool->Res):Res:=
 bif (v_.1==0) then
  bif (v_.2.1==0) then
   k0 (sEq v_.2.2 eS)
  else
   k0 false
 else
  bif (v_.1==1) then
   bif (v_.2.1==0) then
    k0 (sEq v_.2.2 eS)
   else
    bif (v_.2.1==1) then
     k0 (sEq v_.2.2 eS)
    else
     k0 false
  else
   bif (v_.1==2) then
    jbk v_.2.1 λ(r:Bool)=>
     bif r then
      k0 (sEq v_.2.2 eS)
     else
      k0 false
   else
    bif (v_.1==3) then
     bif (v_.2.1==0) then
      k0 (decide ((nI (ByteArray.size v_.2.2))<=30))
     else
      k0 false
    else
     k0 false
noncomputable def jcL:Sig Unit:=⟨[.look y2 true],[false],λvals ext k=>av vals y2 λv_ vals=>nl vals<|nl ext<|j8w v_ (λ(r0:Bool)=>k [⟨.bool,false,r0,[]⟩] [] [])⟩
theorem jqq (v_:Int×Int×qB) (a_v_:Bool) (t_v_:List Tag) (k:qK):Z6X jiL [] .o false Tryz.f157 [.look y2 true] [false] [⟨y2,a_v_,v_,t_v_⟩] [] k=j8w v_ (λ(r0:Bool)=>k [⟨.bool,false,r0,[]⟩] [] []):=by kernel_rfl
theorem j7M:Z1k Tryz.prog 157 jcL:=Z8N (Γ:=jiL) (X:=[]) (ht:= .o) (fz:=false) (c:=jqI) follows j00 (Z8C jhB Z8W) trivial Tryz.func157 (by kernel_rfl) (by kernel_rfl) (by decide) (by
 intro vals ext k r h
 obtain ⟨v_,a_v_,t_v_,vals,rfl,h1⟩:=Z8T h
 obtain ⟨rfl,h2⟩:=Z90 h1
 obtain ⟨rfl,h3⟩:=Z90 h2
 exact (jqq v_ a_v_ t_v_ k).trans h3)
noncomputable def joA:Code:=(Tryz.f286.body).getD .skip
noncomputable def jgv:Env Unit:=⟨tys,[],0⟩
noncomputable def jcT (n_:Int) (k0:qB->Res):Res:=
 bif (n_==1) then
  k0 j1x
 else
  k0 j1f
noncomputable def jgK:Sig Unit:=⟨[.look (.int .i64) false],[false],λvals ext k=>av vals (.int .i64) λn_ vals=>nl vals<|nl ext<|jcT n_ (λ(r0:qB)=>k [⟨.str,false,r0,[]⟩] [] [])⟩
theorem jop (n_:Int) (a_n_:Bool) (t_n_:List Tag) (k:qK):Z6X jgv [] .o false Tryz.f286 [.look (.int .i64) false] [false] [⟨(.int .i64),a_n_,n_,t_n_⟩] [] k=jcT n_ (λ(r0:qB)=>k [⟨.str,false,r0,[]⟩] [] []):=by kernel_rfl
theorem jd8:Z1k Tryz.prog 286 jgK:=Z8N (Γ:=jgv) (X:=[]) (ht:= .o) (fz:=false) (c:=joA) follows j00 Z8W trivial Tryz.func286 (by kernel_rfl) (by kernel_rfl) (by decide) (by
 intro vals ext k r h
 obtain ⟨n_,a_n_,t_n_,vals,rfl,h1⟩:=Z8T h
 obtain ⟨rfl,h2⟩:=Z90 h1
 obtain ⟨rfl,h3⟩:=Z90 h2
 exact (jop n_ a_n_ t_n_ k).trans h3)
noncomputable def j2T:Code:=(Tryz.f253.body).getD .skip
noncomputable def jaA:Env Unit:=⟨tys,[(157,jcL),(175,(j2k j0U)),(286,jgK),(287,jeh)],0⟩
noncomputable def j6W (b:Int) (k0:Bool->Res):Res:=
 bif decide (b>=33) then
  bif decide (b<=126) then
   bif (b != 39) then
    k0 (b != 37)
   else
    k0 false
  else
   k0 false
 else
  k0 false
noncomputable def j5T:Z1l Unit:=λσ k=>rdN σ 68<|rdT σ 1 (.ptr ⟨true,1,[]⟩)<|rdV σ 3 y0 false [.O] λout=>rdV σ 4 (.int .i64) false [] λi=>rdV σ 5 (.int .u8) false [] λb=>rdB σ 1 y2 [] λa v_=>j6W b (λ(t48:Bool)=>k .normal (mkS 68 68 [(1,.ptr ⟨true,1,[]⟩),(3,.val ⟨y0,false,out,[.O]⟩),(4,.val ⟨(.int .i64),false,i,[]⟩),(5,.val ⟨(.int .u8),false,b,[]⟩),(48,.val ⟨.bool,false,t48,[]⟩)] [(1,⟨y2,a,v_,[]⟩)]))
theorem jlG (out:List Int) (i:Int) (b:Int) (a:Bool) (v_:Int×Int×qB) (k:Z6G Unit):Z0R jaA [] .o (pl (pr (pl (pl (pr (pl (pl (pr (pl (pr (pr (pr (pr j2T))))))))))))) (mkS 68 68 [(1,.ptr ⟨true,1,[]⟩),(3,.val ⟨y0,false,out,[.O]⟩),(4,.val ⟨(.int .i64),false,i,[]⟩),(5,.val ⟨(.int .u8),false,b,[]⟩)] [(1,⟨y2,a,v_,[]⟩)]) (λe σ=>k e ((Z8a ([1,3,4,5,48],[1]) [] ([],[])) e σ))=j6W b (λ(t48:Bool)=>k .normal (mkS 68 68 [(1,.ptr ⟨true,1,[]⟩),(3,.val ⟨y0,false,out,[.O]⟩),(4,.val ⟨(.int .i64),false,i,[]⟩),(5,.val ⟨(.int .u8),false,b,[]⟩),(48,.val ⟨.bool,false,t48,[]⟩)] [(1,⟨y2,a,v_,[]⟩)])):=by kernel_rfl
theorem jmt {W0:Base} {M:Nat->Prop} (hnp:W0.np<=0):Z1W Tryz.prog W0 M (pl (pr (pl (pl (pr (pl (pl (pr (pl (pr (pr (pr (pr j2T))))))))))))) j5T:=Z91 (Z6Q follows j00 (Z7K (Z8C j7M (Z8C j1K (Z8C jd8 (Z8C j8N Z8W))))) hnp [] ((pl (pr (pl (pl (pr (pl (pl (pr (pl (pr (pr (pr (pr j2T)))))))))))))) .o trivial) (fg:=(Z8a ([1,3,4,5,48],[1]) [] ([],[]))) (Z8U _ _ _) (by
 intro σ k r h
 obtain ⟨hn,h1⟩:=Z8G h
 obtain ⟨hs1,h2⟩:=Z8H h1
 obtain ⟨out,hs3,h3⟩:=Z8J h2
 obtain ⟨i,hs4,h4⟩:=Z8J h3
 obtain ⟨b,hs5,h5⟩:=Z8J h4
 obtain ⟨a,v_,hb1,h6⟩:=Z8D h5
 refine ⟨_,?_,(jlG out i b a v_ k).trans h6⟩
 exact Z9e hn ⟨hs1,hs3,hs4,hs5,trivial⟩ ⟨hb1,trivial⟩)
noncomputable def j4Y (v_:Int×Int×qB) (out:List Int) (i:Int) (rec:(List Int)->Int->Res) (k0:(List Int)->Res):Res:=
 bif decide (i<(nI (ByteArray.size v_.2.2))) then
  bif inb i (ByteArray.size v_.2.2) then
   j6W (bt v_.2.2 i) λ(t:Bool)=>
    bif t then
     bif lim ((List.length out)+1) then
      rec (out++[bt v_.2.2 i]) (Z8g (i+1))
     else none
    else
     j7e (Z8g (Int.tdiv (Z8g (bt v_.2.2 i)) 16)) λ(r:Int)=>
      j7e (Int.tmod (Z8g (bt v_.2.2 i)) 16) λ(r1:Int)=>
       bif lim ((List.length out)+3) then
        rec (out++[37,r,r1]) (Z8g (i+1))
       else none
  else none
 else
  k0 out
noncomputable def j7p (v_:Int×Int×qB):((List Int)×Int)->((List Int)×Int->Res)->(((List Int)->Res))->Res:=λv rec q=>j4Y v_ v.1 v.2 (λout i=>rec (out,i)) q
noncomputable def j9Q (v_:Int×Int×qB) (n:Nat) (out:List Int) (i:Int) (k0:(List Int)->Res):Res:=Z10 (j7p v_) n (out,i) (k0)
noncomputable def j8H:Z1l Unit:=λσ k=>rdN σ 68<|rdT σ 1 (.ptr ⟨true,1,[]⟩)<|rdV σ 3 y0 false [.O] λout=>rdV σ 4 (.int .i64) false [] λi=>rdB σ 1 y2 [] λa v_=>j9Q v_ Z0Y out i (λ(out1:List Int)=>k (.exit 1) (mkS 68 68 [(3,.val ⟨y0,false,out1,[.O]⟩)] []))
theorem jlF (a:Bool) (v_:Int×Int×qB) (n:Nat) (v:(List Int)×Int) (k:Z6G Unit):Z3X (Z0R jaA [j5T] (.t .o (.t (.t (.t .o (.t (.x 0) .o)) .o) .o)) (pl (pl (pr (pl (pr (pr (pr (pr j2T))))))))) (λσ=>σ.forget [1,3,4] [1]) (Z8a ([],[]) [(1,[3],[])] ([],[])) n (mkS 68 68 [(1,.ptr ⟨true,1,[]⟩),(3,.val ⟨y0,false,v.1,[.O]⟩),(4,.val ⟨(.int .i64),false,v.2,[]⟩)] [(1,⟨y2,a,v_,[]⟩)]) k=Z10 (j7p v_) n v ((λ(k:Z6G Unit)=>(((λ(out1:List Int)=>k (.exit 1) (mkS 68 68 [(3,.val ⟨y0,false,out1,[.O]⟩)] []))):((List Int)->Res))) k):=Z80 (λv:(List Int)×Int=>(mkS 68 68 [(1,.ptr ⟨true,1,[]⟩),(3,.val ⟨y0,false,v.1,[.O]⟩),(4,.val ⟨(.int .i64),false,v.2,[]⟩)] [(1,⟨y2,a,v_,[]⟩)])) (j7p v_) (λ(k:Z6G Unit)=>(((λ(out1:List Int)=>k (.exit 1) (mkS 68 68 [(3,.val ⟨y0,false,out1,[.O]⟩)] []))):((List Int)->Res))) (λv rec k=>by kernel_rfl) n v k
theorem jms {W0:Base} {M:Nat->Prop} (hnp:W0.np<=0):Z1W Tryz.prog W0 M (pl (pr (pl (pr (pr (pr (pr j2T))))))) j8H:=show Z1W Tryz.prog W0 M (Code.loop (pl (pl (pr (pl (pr (pr (pr (pr j2T))))))))) j8H from Z8X (Z6Q follows j00 (Z7K (Z8C j7M (Z8C j1K (Z8C jd8 (Z8C j8N Z8W))))) hnp [j5T] (pl (pl (pr (pl (pr (pr (pr (pr j2T)))))))) (.t .o (.t (.t (.t .o (.t (.x 0) .o)) .o) .o)) (Z1A.mk trivial ((Z1A.mk ((Z1A.mk ((Z1A.mk trivial ((Z1A.mk (Z1A.x_mk (λW0 M hnp=>jmt (W0:=W0) (M:=M) hnp)) trivial)))) trivial)) trivial)))) (ks:=[1,3,4]) (bs:=[1]) (fX:=(Z8a ([],[]) [(1,[3],[])] ([],[]))) (Z8U _ _ _) Z0Y (by
 intro σ k r h
 obtain ⟨hn,h1⟩:=Z8G h
 obtain ⟨hs1,h2⟩:=Z8H h1
 obtain ⟨out,hs3,h3⟩:=Z8J h2
 obtain ⟨i,hs4,h4⟩:=Z8J h3
 obtain ⟨a,v_,hb1,h5⟩:=Z8D h4
 refine ⟨_,?_,(jlF a v_ Z0Y (out,i) k).trans h5⟩
 exact Z9e hn ⟨hs1,hs3,hs4,trivial⟩ ⟨hb1,trivial⟩)
noncomputable def j5M (v_:Int×Int×qB) (k0:qB->Res):Res:=
 j8w v_ λ(r:Bool)=>
  bif !r then
   k0 eS
  else
   bif (v_.1==0) then
    k0 j73
   else
    bif (v_.1==1) then
     jcT v_.2.1 λ(r1:qB)=>
      k0 r1
    else
     bif (v_.1==2) then
      j0U v_.2.1 λ(r2:qB)=>
       k0 r2
     else
      j9Q v_ Z0Y [39] 0 λ(out:List Int)=>
       bif lim ((List.length out)+1) then
        k0 (Z2X (out++[39]))
       else none
noncomputable def jaM:Sig Unit:=⟨[.look y2 true],[false],λvals ext k=>av vals y2 λv_ vals=>nl vals<|nl ext<|j5M v_ (λ(r0:qB)=>k [⟨.str,false,r0,[]⟩] [] [])⟩
theorem joo (v_:Int×Int×qB) (a_v_:Bool) (t_v_:List Tag) (k:qK):Z6X jaA [j5T,j8H] (.t .o (.t .o (.t .o (.t .o (.t (.t .o (.t (.x 1) .o)) .o))))) false Tryz.f253 [.look y2 true] [false] [⟨y2,a_v_,v_,t_v_⟩] [] k=j5M v_ (λ(r0:qB)=>k [⟨.str,false,r0,[]⟩] [] []):=by kernel_rfl
theorem j2h:Z1k Tryz.prog 253 jaM:=Z8N (Γ:=jaA) (X:=[j5T,j8H]) (ht:=(.t .o (.t .o (.t .o (.t .o (.t (.t .o (.t (.x 1) .o)) .o)))))) (fz:=false) (c:=j2T) follows j00 (Z8C j7M (Z8C j1K (Z8C jd8 (Z8C j8N Z8W)))) (Z1A.mk trivial ((Z1A.mk trivial ((Z1A.mk trivial ((Z1A.mk trivial ((Z1A.mk ((Z1A.mk trivial ((Z1A.mk (Z1A.x_mk (λW0 M hnp=>jms (W0:=W0) (M:=M) hnp)) trivial)))) trivial))))))))) Tryz.func253 (by kernel_rfl) (by kernel_rfl) (by decide) (by
 intro vals ext k r h
 obtain ⟨v_,a_v_,t_v_,vals,rfl,h1⟩:=Z8T h
 obtain ⟨rfl,h2⟩:=Z90 h1
 obtain ⟨rfl,h3⟩:=Z90 h2
 exact (joo v_ a_v_ t_v_ k).trans h3)
noncomputable def j0K:Code:=(Tryz.f255.body).getD .skip
noncomputable def j5n:Env Unit:=⟨tys,[(110,jaL),(253,jaM),(289,jgL)],0⟩
noncomputable def j3r (n_:Int) (t15:Bool) (v_:Int×Int×qB) (k0:qV->Res):Res:=
 bif t15 then
  k0 (2,n_,eS)
 else
  k0 v_
noncomputable def j1F:Z1l Unit:=λσ k=>rdN σ 93<|rdV σ 0 .str false [] λs=>rdT σ 2 (.ptr ⟨true,2,[]⟩)<|rdT σ 4 (.ptr ⟨true,4,[]⟩)<|rdV σ 5 (.int .i64) false [] λn_=>rdV σ 15 .bool false [] λt15=>rdB σ 2 y2 [] λa t2=>rdB σ 4 y2 [] λa1 v_=>j3r n_ t15 v_ (λ(v_1:Int×Int×qB)=>k .normal (mkS 93 93 [(0,.val ⟨.str,false,s,[]⟩),(2,.ptr ⟨true,2,[]⟩),(4,.ptr ⟨true,4,[]⟩)] [(2,⟨y2,a,t2,[]⟩),(4,⟨y2,a1,v_1,[]⟩)]))
theorem jlC (s:qB) (n_:Int) (t15:Bool) (a:Bool) (t2:Int×Int×qB) (a1:Bool) (v_:Int×Int×qB) (k:Z6G Unit):Z0R j5n [] .o (pr (pl (pr (pr (pr j0K))))) (mkS 93 93 [(0,.val ⟨.str,false,s,[]⟩),(2,.ptr ⟨true,2,[]⟩),(4,.ptr ⟨true,4,[]⟩),(5,.val ⟨(.int .i64),false,n_,[]⟩),(15,.val ⟨.bool,false,t15,[]⟩)] [(2,⟨y2,a,t2,[]⟩),(4,⟨y2,a1,v_,[]⟩)]) (λe σ=>k e ((Z8a ([0,2,4],[2,4]) [] ([],[])) e σ))=j3r n_ t15 v_ (λ(v_1:Int×Int×qB)=>k .normal (mkS 93 93 [(0,.val ⟨.str,false,s,[]⟩),(2,.ptr ⟨true,2,[]⟩),(4,.ptr ⟨true,4,[]⟩)] [(2,⟨y2,a,t2,[]⟩),(4,⟨y2,a1,v_1,[]⟩)])):=by kernel_rfl
theorem jmp {W0:Base} {M:Nat->Prop} (hnp:W0.np<=0):Z1W Tryz.prog W0 M (pr (pl (pr (pr (pr j0K))))) j1F:=Z91 (Z6Q follows j00 (Z7K (Z8C j11 (Z8C j2h (Z8C j7N Z8W)))) hnp [] ((pr (pl (pr (pr (pr j0K)))))) .o trivial) (fg:=(Z8a ([0,2,4],[2,4]) [] ([],[]))) (Z8U _ _ _) (by
 intro σ k r h
 obtain ⟨hn,h1⟩:=Z8G h
 obtain ⟨s,hs0,h2⟩:=Z8J h1
 obtain ⟨hs2,h3⟩:=Z8H h2
 obtain ⟨hs4,h4⟩:=Z8H h3
 obtain ⟨n_,hs5,h5⟩:=Z8J h4
 obtain ⟨t15,hs15,h6⟩:=Z8J h5
 obtain ⟨a,t2,hb2,h7⟩:=Z8D h6
 obtain ⟨a1,v_,hb4,h8⟩:=Z8D h7
 refine ⟨_,?_,(jlC s n_ t15 a t2 a1 v_ k).trans h8⟩
 exact Z9e hn ⟨hs0,hs2,hs4,hs5,hs15,trivial⟩ ⟨hb2,hb4,trivial⟩)
noncomputable def j3s (s:qB) (v_:Int×Int×qB) (k0:qV->Res):Res:=
 bif sEq s j1x then
  k0 (1,Z8g (5-(nI (ByteArray.size s))),eS)
 else
  bif sEq s j1f then
   k0 (1,Z8g (5-(nI (ByteArray.size s))),eS)
  else
   k0 v_
noncomputable def j2M:Z1l Unit:=λσ k=>rdN σ 93<|rdV σ 0 .str false [] λs=>rdT σ 2 (.ptr ⟨true,2,[]⟩)<|rdT σ 4 (.ptr ⟨true,4,[]⟩)<|rdB σ 2 y2 [] λa t2=>rdB σ 4 y2 [] λa1 v_=>j3s s v_ (λ(v_1:Int×Int×qB)=>k .normal (mkS 93 93 [(0,.val ⟨.str,false,s,[]⟩),(2,.ptr ⟨true,2,[]⟩),(4,.ptr ⟨true,4,[]⟩)] [(2,⟨y2,a,t2,[]⟩),(4,⟨y2,a1,v_1,[]⟩)]))
theorem jlD (s:qB) (a:Bool) (t2:Int×Int×qB) (a1:Bool) (v_:Int×Int×qB) (k:Z6G Unit):Z0R j5n [j1F] .o (pl (pr (pr (pr (pr j0K))))) (mkS 93 93 [(0,.val ⟨.str,false,s,[]⟩),(2,.ptr ⟨true,2,[]⟩),(4,.ptr ⟨true,4,[]⟩)] [(2,⟨y2,a,t2,[]⟩),(4,⟨y2,a1,v_,[]⟩)]) (λe σ=>k e ((Z8a ([0,2,4],[2,4]) [] ([],[])) e σ))=j3s s v_ (λ(v_1:Int×Int×qB)=>k .normal (mkS 93 93 [(0,.val ⟨.str,false,s,[]⟩),(2,.ptr ⟨true,2,[]⟩),(4,.ptr ⟨true,4,[]⟩)] [(2,⟨y2,a,t2,[]⟩),(4,⟨y2,a1,v_1,[]⟩)])):=by kernel_rfl
theorem jmq {W0:Base} {M:Nat->Prop} (hnp:W0.np<=0):Z1W Tryz.prog W0 M (pl (pr (pr (pr (pr j0K))))) j2M:=Z91 (Z6Q follows j00 (Z7K (Z8C j11 (Z8C j2h (Z8C j7N Z8W)))) hnp [j1F] ((pl (pr (pr (pr (pr j0K)))))) .o trivial) (fg:=(Z8a ([0,2,4],[2,4]) [] ([],[]))) (Z8U _ _ _) (by
 intro σ k r h
 obtain ⟨hn,h1⟩:=Z8G h
 obtain ⟨s,hs0,h2⟩:=Z8J h1
 obtain ⟨hs2,h3⟩:=Z8H h2
 obtain ⟨hs4,h4⟩:=Z8H h3
 obtain ⟨a,t2,hb2,h5⟩:=Z8D h4
 obtain ⟨a1,v_,hb4,h6⟩:=Z8D h5
 refine ⟨_,?_,(jlD s a t2 a1 v_ k).trans h6⟩
 exact Z9e hn ⟨hs0,hs2,hs4,trivial⟩ ⟨hb2,hb4,trivial⟩)
noncomputable def j1O (s:qB) (b:List Int) (i:Int) (rec:(List Int)->Int->Res) (k0:(List Int)->Res):Res:=
 bif decide (i<(Z8g ((nI (ByteArray.size s))-1))) then
  bif inb i (ByteArray.size s) then
   bif ((bt s i)==37) then
    bif decide ((Z8g (i+2))<(nI (ByteArray.size s))) then
     bif inb (Z8g (i+1)) (ByteArray.size s) then
      bif inb (Z8g (i+2)) (ByteArray.size s) then
       j88 (bt s (Z8g (i+1))) λ(r:Int)=>
        j88 (bt s (Z8g (i+2))) λ(r1:Int)=>
         bif lim ((List.length b)+1) then
          rec (b++[wu8 (Z8g ((Z8g (16 * r))+r1))]) (Z8g ((Z8g (i+2))+1))
         else none
      else none
     else none
    else
     bif inb i (ByteArray.size s) then
      bif lim ((List.length b)+1) then
       rec (b++[bt s i]) (Z8g (i+1))
      else none
     else none
   else
    bif inb i (ByteArray.size s) then
     bif lim ((List.length b)+1) then
      rec (b++[bt s i]) (Z8g (i+1))
     else none
    else none
  else none
 else
  k0 b
noncomputable def j3A (s:qB):((List Int)×Int)->((List Int)×Int->Res)->(((List Int)->Res))->Res:=λv rec q=>j1O s v.1 v.2 (λb i=>rec (b,i)) q
noncomputable def jg0 (s:qB) (n:Nat) (b:List Int) (i:Int) (k0:(List Int)->Res):Res:=Z10 (j3A s) n (b,i) (k0)
noncomputable def j3Y:Z1l Unit:=λσ k=>rdN σ 93<|rdV σ 0 .str false [] λs=>rdT σ 2 (.ptr ⟨true,2,[]⟩)<|rdT σ 4 (.ptr ⟨true,4,[]⟩)<|rdV σ 7 y0 false [.O] λb=>rdV σ 8 (.int .i64) false [] λi=>rdB σ 2 y2 [] λa t2=>rdB σ 4 y2 [] λa1 v_=>jg0 s Z0Y b i (λ(b1:List Int)=>k (.exit 0) (mkS 93 93 [(0,.val ⟨.str,false,s,[]⟩),(2,.ptr ⟨true,2,[]⟩),(4,.ptr ⟨true,4,[]⟩),(7,.val ⟨y0,false,b1,[.O]⟩)] [(2,⟨y2,a,t2,[]⟩),(4,⟨y2,a1,v_,[]⟩)]))
theorem jlB (s:qB) (a:Bool) (t2:Int×Int×qB) (a1:Bool) (v_:Int×Int×qB) (n:Nat) (v:(List Int)×Int) (k:Z6G Unit):Z3X (Z0R j5n [j1F,j2M] .o (pl (pl (pr (pl (pr (pl (pr (pl (pr (pr (pr (pr (pr j0K)))))))))))))) (λσ=>σ.forget [0,2,4,7,8] [2,4]) (Z8a ([],[]) [(0,[0,2,4,7],[2,4])] ([],[])) n (mkS 93 93 [(0,.val ⟨.str,false,s,[]⟩),(2,.ptr ⟨true,2,[]⟩),(4,.ptr ⟨true,4,[]⟩),(7,.val ⟨y0,false,v.1,[.O]⟩),(8,.val ⟨(.int .i64),false,v.2,[]⟩)] [(2,⟨y2,a,t2,[]⟩),(4,⟨y2,a1,v_,[]⟩)]) k=Z10 (j3A s) n v ((λ(k:Z6G Unit)=>(((λ(b1:List Int)=>k (.exit 0) (mkS 93 93 [(0,.val ⟨.str,false,s,[]⟩),(2,.ptr ⟨true,2,[]⟩),(4,.ptr ⟨true,4,[]⟩),(7,.val ⟨y0,false,b1,[.O]⟩)] [(2,⟨y2,a,t2,[]⟩),(4,⟨y2,a1,v_,[]⟩)]))):((List Int)->Res))) k):=Z80 (λv:(List Int)×Int=>(mkS 93 93 [(0,.val ⟨.str,false,s,[]⟩),(2,.ptr ⟨true,2,[]⟩),(4,.ptr ⟨true,4,[]⟩),(7,.val ⟨y0,false,v.1,[.O]⟩),(8,.val ⟨(.int .i64),false,v.2,[]⟩)] [(2,⟨y2,a,t2,[]⟩),(4,⟨y2,a1,v_,[]⟩)])) (j3A s) (λ(k:Z6G Unit)=>(((λ(b1:List Int)=>k (.exit 0) (mkS 93 93 [(0,.val ⟨.str,false,s,[]⟩),(2,.ptr ⟨true,2,[]⟩),(4,.ptr ⟨true,4,[]⟩),(7,.val ⟨y0,false,b1,[.O]⟩)] [(2,⟨y2,a,t2,[]⟩),(4,⟨y2,a1,v_,[]⟩)]))):((List Int)->Res))) (λv rec k=>by kernel_rfl) n v k
theorem jmo {W0:Base} {M:Nat->Prop} (hnp:W0.np<=0):Z1W Tryz.prog W0 M (pl (pr (pl (pr (pl (pr (pl (pr (pr (pr (pr (pr j0K)))))))))))) j3Y:=show Z1W Tryz.prog W0 M (Code.loop (pl (pl (pr (pl (pr (pl (pr (pl (pr (pr (pr (pr (pr j0K)))))))))))))) j3Y from Z8X (Z6Q follows j00 (Z7K (Z8C j11 (Z8C j2h (Z8C j7N Z8W)))) hnp [j1F,j2M] (pl (pl (pr (pl (pr (pl (pr (pl (pr (pr (pr (pr (pr j0K))))))))))))) .o trivial) (ks:=[0,2,4,7,8]) (bs:=[2,4]) (fX:=(Z8a ([],[]) [(0,[0,2,4,7],[2,4])] ([],[]))) (Z8U _ _ _) Z0Y (by
 intro σ k r h
 obtain ⟨hn,h1⟩:=Z8G h
 obtain ⟨s,hs0,h2⟩:=Z8J h1
 obtain ⟨hs2,h3⟩:=Z8H h2
 obtain ⟨hs4,h4⟩:=Z8H h3
 obtain ⟨b,hs7,h5⟩:=Z8J h4
 obtain ⟨i,hs8,h6⟩:=Z8J h5
 obtain ⟨a,t2,hb2,h7⟩:=Z8D h6
 obtain ⟨a1,v_,hb4,h8⟩:=Z8D h7
 refine ⟨_,?_,(jlB s a t2 a1 v_ Z0Y (b,i) k).trans h8⟩
 exact Z9e hn ⟨hs0,hs2,hs4,hs7,hs8,trivial⟩ ⟨hb2,hb4,trivial⟩)
noncomputable def j3t (s:qB) (v_:Int×Int×qB) (k0:qV->Res):Res:=
 bif decide ((nI (ByteArray.size s))>1) then
  bif inb 0 (ByteArray.size s) then
   bif ((bt s 0)==39) then
    bif decide ((nI (ByteArray.size s))<94) then
     jg0 s Z0Y [] 1 λ(b:List Int)=>
      k0 (3,0,Z2X b)
    else
     k0 v_
   else
    k0 v_
  else none
 else
  k0 v_
noncomputable def jc2:Z1l Unit:=λσ k=>rdN σ 93<|rdV σ 0 .str false [] λs=>rdT σ 2 (.ptr ⟨true,2,[]⟩)<|rdT σ 4 (.ptr ⟨true,4,[]⟩)<|rdB σ 2 y2 [] λa t2=>rdB σ 4 y2 [] λa1 v_=>j3t s v_ (λ(v_1:Int×Int×qB)=>k .normal (mkS 93 93 [(0,.val ⟨.str,false,s,[]⟩),(2,.ptr ⟨true,2,[]⟩),(4,.ptr ⟨true,4,[]⟩)] [(2,⟨y2,a,t2,[]⟩),(4,⟨y2,a1,v_1,[]⟩)]))
theorem jlE (s:qB) (a:Bool) (t2:Int×Int×qB) (a1:Bool) (v_:Int×Int×qB) (k:Z6G Unit):Z0R j5n [j1F,j2M,j3Y] (.t .o (.t (.t .o (.t (.t .o (.t (.x 2) .o)) .o)) .o)) (pl (pr (pr (pr (pr (pr j0K)))))) (mkS 93 93 [(0,.val ⟨.str,false,s,[]⟩),(2,.ptr ⟨true,2,[]⟩),(4,.ptr ⟨true,4,[]⟩)] [(2,⟨y2,a,t2,[]⟩),(4,⟨y2,a1,v_,[]⟩)]) (λe σ=>k e ((Z8a ([0,2,4],[2,4]) [] ([],[])) e σ))=j3t s v_ (λ(v_1:Int×Int×qB)=>k .normal (mkS 93 93 [(0,.val ⟨.str,false,s,[]⟩),(2,.ptr ⟨true,2,[]⟩),(4,.ptr ⟨true,4,[]⟩)] [(2,⟨y2,a,t2,[]⟩),(4,⟨y2,a1,v_1,[]⟩)])):=by kernel_rfl
theorem jmr {W0:Base} {M:Nat->Prop} (hnp:W0.np<=0):Z1W Tryz.prog W0 M (pl (pr (pr (pr (pr (pr j0K)))))) jc2:=Z91 (Z6Q follows j00 (Z7K (Z8C j11 (Z8C j2h (Z8C j7N Z8W)))) hnp [j1F,j2M,j3Y] ((pl (pr (pr (pr (pr (pr j0K))))))) (.t .o (.t (.t .o (.t (.t .o (.t (.x 2) .o)) .o)) .o)) (Z1A.mk trivial ((Z1A.mk ((Z1A.mk trivial ((Z1A.mk ((Z1A.mk trivial ((Z1A.mk (Z1A.x_mk (λW0 M hnp=>jmo (W0:=W0) (M:=M) hnp)) trivial)))) trivial)))) trivial)))) (fg:=(Z8a ([0,2,4],[2,4]) [] ([],[]))) (Z8U _ _ _) (by
 intro σ k r h
 obtain ⟨hn,h1⟩:=Z8G h
 obtain ⟨s,hs0,h2⟩:=Z8J h1
 obtain ⟨hs2,h3⟩:=Z8H h2
 obtain ⟨hs4,h4⟩:=Z8H h3
 obtain ⟨a,t2,hb2,h5⟩:=Z8D h4
 obtain ⟨a1,v_,hb4,h6⟩:=Z8D h5
 refine ⟨_,?_,(jlE s a t2 a1 v_ k).trans h6⟩
 exact Z9e hn ⟨hs0,hs2,hs4,trivial⟩ ⟨hb2,hb4,trivial⟩)
noncomputable def j4h (s:qB) (k0:qV->Bool->Res):Res:=
 j3p s λ(r:Int) (r1:Bool)=>
  j3r r r1 (0,0,eS) λ(v_:Int×Int×qB)=>
   j3s s v_ λ(v_1:Int×Int×qB)=>
    j3t s v_1 λ(v_2:Int×Int×qB)=>
     j5M v_2 λ(r2:qB)=>
      bif sNe r2 s then
       k0 (0,0,eS) false
      else
       k0 v_2 true
noncomputable def jdD:Sig Unit:=⟨[.look .str false],[true,false],λvals ext k=>av vals .str λs vals=>nl vals<|nl ext<|j4h s (λ(r0:Int×Int×qB) (r1:Bool)=>k [⟨y2,true,r0,[]⟩,⟨.bool,false,r1,[]⟩] [] [])⟩
theorem jon (s:qB) (a_s:Bool) (t_s:List Tag) (k:qK):Z6X j5n [j1F,j2M,j3Y,jc2] (.t .o (.t .o (.t .o (.t (.t .o (.x 0)) (.t (.x 1) (.t (.x 3) .o)))))) false Tryz.f255 [.look .str false] [true,false] [⟨.str,a_s,s,t_s⟩] [] k=j4h s (λ(r0:Int×Int×qB) (r1:Bool)=>k [⟨y2,true,r0,[]⟩,⟨.bool,false,r1,[]⟩] [] []):=by kernel_rfl
theorem j7L:Z1k Tryz.prog 255 jdD:=Z8N (Γ:=j5n) (X:=[j1F,j2M,j3Y,jc2]) (ht:=(.t .o (.t .o (.t .o (.t (.t .o (.x 0)) (.t (.x 1) (.t (.x 3) .o))))))) (fz:=false) (c:=j0K) follows j00 (Z8C j11 (Z8C j2h (Z8C j7N Z8W))) (Z1A.mk trivial ((Z1A.mk trivial ((Z1A.mk trivial ((Z1A.mk ((Z1A.mk trivial (Z1A.x_mk (λW0 M hnp=>jmp (W0:=W0) (M:=M) hnp)))) ((Z1A.mk (Z1A.x_mk (λW0 M hnp=>jmq (W0:=W0) (M:=M) hnp)) ((Z1A.mk (Z1A.x_mk (λW0 M hnp=>jmr (W0:=W0) (M:=M) hnp)) trivial))))))))))) Tryz.func255 (by kernel_rfl) (by kernel_rfl) (by decide) (by
 intro vals ext k r h
 obtain ⟨s,a_s,t_s,vals,rfl,h1⟩:=Z8T h
 obtain ⟨rfl,h2⟩:=Z90 h1
 obtain ⟨rfl,h3⟩:=Z90 h2
 exact (jon s a_s t_s k).trans h3)
noncomputable def j8U:Code:=(Tryz.f68.body).getD .skip
noncomputable def je9:Env Unit:=⟨tys,[],0⟩
noncomputable def j5N (s:qB) (i:Int) (rec:Int->Res) (k0:Unit->Res) (k1:Unit->Res):Res:=
 bif decide (i<(nI (ByteArray.size s))) then
  bif inb i (ByteArray.size s) then
   bif decide ((bt s i)<97) then
    k1 ()
   else
    bif inb i (ByteArray.size s) then
     bif decide ((bt s i)>122) then
      k1 ()
     else
      rec (Z8g (i+1))
    else none
  else none
 else
  k0 ()
noncomputable def j8x (s:qB):Int->(Int->Res)->((Unit->Res)×(Unit->Res))->Res:=λv rec q=>j5N s v (λi=>rec (i)) q.1 q.2
noncomputable def jdF (s:qB) (n:Nat) (i:Int) (k0:Unit->Res) (k1:Unit->Res):Res:=Z10 (j8x s) n (i) (k0,k1)
noncomputable def j9Z:Z1l Unit:=λσ k=>rdN σ 28<|rdV σ 0 .str false [] λs=>rdV σ 3 (.int .i64) false [] λi=>jdF s Z0Y i (λ(_:Unit)=>k (.exit 0) (mkS 28 28 [(0,.val ⟨.str,false,s,[]⟩)] [])) (λ(_:Unit)=>k .ret (mkS 28 28 [(2,.val ⟨.bool,false,false,[]⟩)] []))
theorem jnv (s:qB) (n:Nat) (v:Int) (k:Z6G Unit):Z3X (Z0R je9 [] .o (pl (pl (pr (pl (pr j8U)))))) (λσ=>σ.forget [0,3] []) (Z8a ([],[]) [(0,[0],[])] ([2],[])) n (mkS 28 28 [(0,.val ⟨.str,false,s,[]⟩),(3,.val ⟨(.int .i64),false,v,[]⟩)] []) k=Z10 (j8x s) n v ((λ(k:Z6G Unit)=>(((λ(_:Unit)=>k (.exit 0) (mkS 28 28 [(0,.val ⟨.str,false,s,[]⟩)] [])),(λ(_:Unit)=>k .ret (mkS 28 28 [(2,.val ⟨.bool,false,false,[]⟩)] []))):(Unit->Res)×(Unit->Res))) k):=Z80 (λv:Int=>(mkS 28 28 [(0,.val ⟨.str,false,s,[]⟩),(3,.val ⟨(.int .i64),false,v,[]⟩)] [])) (j8x s) (λ(k:Z6G Unit)=>(((λ(_:Unit)=>k (.exit 0) (mkS 28 28 [(0,.val ⟨.str,false,s,[]⟩)] [])),(λ(_:Unit)=>k .ret (mkS 28 28 [(2,.val ⟨.bool,false,false,[]⟩)] []))):(Unit->Res)×(Unit->Res))) (λv rec k=>by kernel_rfl) n v k
theorem jnN {W0:Base} {M:Nat->Prop} (hnp:W0.np<=0):Z1W Tryz.prog W0 M (pl (pr (pl (pr j8U)))) j9Z:=show Z1W Tryz.prog W0 M (Code.loop (pl (pl (pr (pl (pr j8U)))))) j9Z from Z8X (Z6Q follows j00 (Z7K Z8W) hnp [] (pl (pl (pr (pl (pr j8U))))) .o trivial) (ks:=[0,3]) (bs:=[]) (fX:=(Z8a ([],[]) [(0,[0],[])] ([2],[]))) (Z8U _ _ _) Z0Y (by
 intro σ k r h
 obtain ⟨hn,h1⟩:=Z8G h
 obtain ⟨s,hs0,h2⟩:=Z8J h1
 obtain ⟨i,hs3,h3⟩:=Z8J h2
 refine ⟨_,?_,(jnv s Z0Y (i) k).trans h3⟩
 exact Z9e hn ⟨hs0,hs3,trivial⟩ trivial)
noncomputable def j2f (s:qB) (k0:Bool->Res):Res:=
 jdF s Z0Y 0
  (λ(_:Unit)=>
   bif decide ((nI (ByteArray.size s))>=1) then
    k0 (decide ((nI (ByteArray.size s))<=8))
   else
    k0 false)
  (λ(_:Unit)=>
   k0 false)
noncomputable def j95:Sig Unit:=⟨[.look .str false],[false],λvals ext k=>av vals .str λs vals=>nl vals<|nl ext<|j2f s (λ(r0:Bool)=>k [⟨.bool,false,r0,[]⟩] [] [])⟩
theorem jpG (s:qB) (a_s:Bool) (t_s:List Tag) (k:qK):Z6X je9 [j9Z] (.t .o (.t (.t .o (.t (.x 0) .o)) .o)) false Tryz.f68 [.look .str false] [false] [⟨.str,a_s,s,t_s⟩] [] k=j2f s (λ(r0:Bool)=>k [⟨.bool,false,r0,[]⟩] [] []):=by kernel_rfl
theorem j2A:Z1k Tryz.prog 68 j95:=Z8N (Γ:=je9) (X:=[j9Z]) (ht:=(.t .o (.t (.t .o (.t (.x 0) .o)) .o))) (fz:=false) (c:=j8U) follows j00 Z8W (Z1A.mk trivial ((Z1A.mk ((Z1A.mk trivial ((Z1A.mk (Z1A.x_mk (λW0 M hnp=>jnN (W0:=W0) (M:=M) hnp)) trivial)))) trivial))) Tryz.func68 (by kernel_rfl) (by kernel_rfl) (by decide) (by
 intro vals ext k r h
 obtain ⟨s,a_s,t_s,vals,rfl,h1⟩:=Z8T h
 obtain ⟨rfl,h2⟩:=Z90 h1
 obtain ⟨rfl,h3⟩:=Z90 h2
 exact (jpG s a_s t_s k).trans h3)
noncomputable def jpT:Code:=(Tryz.f174.body).getD .skip
noncomputable def jhF:Env Unit:=⟨tys,[],0⟩
noncomputable def j0O (x:Int) (lo:Int) (hi:Int) (k0:Bool->Res):Res:=
 bif decide (x>=lo) then
  k0 (decide (x<=hi))
 else
  k0 false
noncomputable def j1H:Sig Unit:=⟨[.look (.int .i64) false,.look (.int .i64) false,.look (.int .i64) false],[false],λvals ext k=>av vals (.int .i64) λx vals=>av vals (.int .i64) λlo vals=>av vals (.int .i64) λhi vals=>nl vals<|nl ext<|j0O x lo hi (λ(r0:Bool)=>k [⟨.bool,false,r0,[]⟩] [] [])⟩
theorem jpA (x:Int) (a_x:Bool) (t_x:List Tag) (lo:Int) (a_lo:Bool) (t_lo:List Tag) (hi:Int) (a_hi:Bool) (t_hi:List Tag) (k:qK):Z6X jhF [] .o false Tryz.f174 [.look (.int .i64) false,.look (.int .i64) false,.look (.int .i64) false] [false] [⟨(.int .i64),a_x,x,t_x⟩,⟨(.int .i64),a_lo,lo,t_lo⟩,⟨(.int .i64),a_hi,hi,t_hi⟩] [] k=j0O x lo hi (λ(r0:Bool)=>k [⟨.bool,false,r0,[]⟩] [] []):=by kernel_rfl
theorem j0s:Z1k Tryz.prog 174 j1H:=Z8N (Γ:=jhF) (X:=[]) (ht:= .o) (fz:=false) (c:=jpT) follows j00 Z8W trivial Tryz.func174 (by kernel_rfl) (by kernel_rfl) (by decide) (by
 intro vals ext k r h
 obtain ⟨x,a_x,t_x,vals,rfl,h1⟩:=Z8T h
 obtain ⟨lo,a_lo,t_lo,vals,rfl,h2⟩:=Z8T h1
 obtain ⟨hi,a_hi,t_hi,vals,rfl,h3⟩:=Z8T h2
 obtain ⟨rfl,h4⟩:=Z90 h3
 obtain ⟨rfl,h5⟩:=Z90 h4
 exact (jpA x a_x t_x lo a_lo t_lo hi a_hi t_hi k).trans h5)
noncomputable def j5m:Code:=(Tryz.f98.body).getD .skip
noncomputable def j1N (self:Int->(qB->Res)->Res):Sig Unit:=⟨[.look (.int .i64) false],[false],λvals ext k=>av vals (.int .i64) λn_ vals=>nl vals<|nl ext<|self n_ (λ(r0:qB)=>k [⟨.str,false,r0,[]⟩] [] [])⟩
noncomputable def jdg (self:Int->(qB->Res)->Res):Env Unit:=⟨tys,[(98,(j1N self)),(174,j1H)],0⟩
noncomputable def jb0 (self:Int->(qB->Res)->Res) (n_:Int) (s:qB) (rec:Int->qB->Res) (k0:Int->qB->Res):Res:=
 bif decide (n_>9) then
  bif lim ((ByteArray.size (Z2X [wu8 (Z8g (48+(Int.tmod n_ 10)))]))+(ByteArray.size s)) then
   rec (Z8g (Int.tdiv n_ 10)) ((Z2X [wu8 (Z8g (48+(Int.tmod n_ 10)))])++s)
  else none
 else
  k0 n_ s
noncomputable def j3y (self:Int->(qB->Res)->Res):(Int×qB)->(Int×qB->Res)->((Int->qB->Res))->Res:=λv rec q=>jb0 self v.1 v.2 (λn_ s=>rec (n_,s)) q
noncomputable def jcv (self:Int->(qB->Res)->Res) (n:Nat) (n_:Int) (s:qB) (k0:Int->qB->Res):Res:=Z10 (j3y self) n (n_,s) (k0)
noncomputable def j8C (self:Int->(qB->Res)->Res):Z1l Unit:=λσ k=>rdN σ 32<|rdV σ 0 (.int .i64) false [] λn_=>rdV σ 3 .str false [] λs=>jcv self Z0Y n_ s (λ(n_1:Int) (s1:qB)=>k (.exit 0) (mkS 32 32 [(0,.val ⟨(.int .i64),false,n_1,[]⟩),(3,.val ⟨.str,false,s1,[]⟩)] []))
theorem jl6 (self:Int->(qB->Res)->Res)  (n:Nat) (v:Int×qB) (k:Z6G Unit):Z3X (Z0R (jdg self) [] .o (pl (pl (pl (pr (pr (pr (pr j5m)))))))) (λσ=>σ.forget [0,3] []) (Z8a ([],[]) [(0,[0,3],[])] ([],[])) n (mkS 32 32 [(0,.val ⟨(.int .i64),false,v.1,[]⟩),(3,.val ⟨.str,false,v.2,[]⟩)] []) k=Z10 (j3y self) n v ((λ(k:Z6G Unit)=>(((λ(n_1:Int) (s1:qB)=>k (.exit 0) (mkS 32 32 [(0,.val ⟨(.int .i64),false,n_1,[]⟩),(3,.val ⟨.str,false,s1,[]⟩)] []))):(Int->qB->Res))) k):=Z80 (λv:Int×qB=>(mkS 32 32 [(0,.val ⟨(.int .i64),false,v.1,[]⟩),(3,.val ⟨.str,false,v.2,[]⟩)] [])) (j3y self) (λ(k:Z6G Unit)=>(((λ(n_1:Int) (s1:qB)=>k (.exit 0) (mkS 32 32 [(0,.val ⟨(.int .i64),false,n_1,[]⟩),(3,.val ⟨.str,false,s1,[]⟩)] []))):(Int->qB->Res))) (λv rec k=>by kernel_rfl) n v k
theorem jlT (self:Int->(qB->Res)->Res) (hself:Z1k Tryz.prog 98 (j1N self)) {W0:Base} {M:Nat->Prop} (hnp:W0.np<=0):Z1W Tryz.prog W0 M (pl (pl (pr (pr (pr (pr j5m)))))) (j8C self):=show Z1W Tryz.prog W0 M (Code.loop (pl (pl (pl (pr (pr (pr (pr j5m)))))))) (j8C self) from Z8X (Z6Q follows j00 (Z7K (Z8C hself (Z8C j0s Z8W))) hnp [] (pl (pl (pl (pr (pr (pr (pr j5m))))))) .o trivial) (ks:=[0,3]) (bs:=[]) (fX:=(Z8a ([],[]) [(0,[0,3],[])] ([],[]))) (Z8U _ _ _) Z0Y (by
 intro σ k r h
 obtain ⟨hn,h1⟩:=Z8G h
 obtain ⟨n_,hs0,h2⟩:=Z8J h1
 obtain ⟨s,hs3,h3⟩:=Z8J h2
 refine ⟨_,?_,(jl6 self  Z0Y (n_,s) k).trans h3⟩
 exact Z9e hn ⟨hs0,hs3,trivial⟩ trivial)
noncomputable def j1e (self:Int->(qB->Res)->Res) (n_:Int) (k0:qB->Res):Res:=
 j0O n_ (-1099511627775) 1099511627775 λ(r:Bool)=>
  bif !r then
   k0 eS
  else
   bif decide (n_<0) then
    self (Z8g (0-n_)) λ(r1:qB)=>
     bif lim (1+(ByteArray.size r1)) then
      k0 (z__++r1)
     else none
   else
    jcv self Z0Y n_ eS λ(n_1:Int) (s:qB)=>
     bif lim ((ByteArray.size (Z2X [wu8 (Z8g (48+n_1))]))+(ByteArray.size s)) then
      k0 ((Z2X [wu8 (Z8g (48+n_1))])++s)
     else none
theorem jo5 (self:Int->(qB->Res)->Res) (n_:Int) (a_n_:Bool) (t_n_:List Tag) (k:qK):Z6X (jdg self) [(j8C self)] (.t .o (.t .o (.t .o (.t .o (.t (.t (.x 0) .o) .o))))) false Tryz.f98 [.look (.int .i64) false] [false] [⟨(.int .i64),a_n_,n_,t_n_⟩] [] k=j1e self n_ (λ(r0:qB)=>k [⟨.str,false,r0,[]⟩] [] []):=by kernel_rfl
theorem jn4 (self:Int->(qB->Res)->Res) (hself:Z1k Tryz.prog 98 (j1N self)):Z1k Tryz.prog 98 (j1N (j1e self)):=Z8N (Γ:=(jdg self)) (X:=[(j8C self)]) (ht:=(.t .o (.t .o (.t .o (.t .o (.t (.t (.x 0) .o) .o)))))) (fz:=false) (c:=j5m) follows j00 (Z8C hself (Z8C j0s Z8W)) (Z1A.mk trivial ((Z1A.mk trivial ((Z1A.mk trivial ((Z1A.mk trivial ((Z1A.mk ((Z1A.mk (Z1A.x_mk (λW0 M hnp=>jlT self hself (W0:=W0) (M:=M) hnp)) trivial)) trivial))))))))) Tryz.func98 (by kernel_rfl) (by kernel_rfl) (by decide) (by
 intro vals ext k r h
 obtain ⟨n_,a_n_,t_n_,vals,rfl,h1⟩:=Z8T h
 obtain ⟨rfl,h2⟩:=Z90 h1
 obtain ⟨rfl,h3⟩:=Z90 h2
 exact (jo5 self n_ a_n_ t_n_ k).trans h3)
noncomputable def j0T:Int->(qB->Res)->Res:=Z8f (λ_ _=>none) j1e Z0Y
theorem j1c:Z1k Tryz.prog 98 (j1N j0T):=Z7O (C:=λt=>Z1k Tryz.prog 98 (j1N t)) (Z8j (c:=j5m) Tryz.func98 (by kernel_rfl) (by kernel_rfl) (by
 intro vals ext k r h
 obtain ⟨n_,a_n_,t_n_,vals,rfl,h1⟩:=Z8T h
 obtain ⟨rfl,h2⟩:=Z90 h1
 obtain ⟨rfl,h3⟩:=Z90 h2
 cases h3)) (λt h=>jn4 t h) Z0Y
noncomputable def j1t:Code:=(Tryz.f107.body).getD .skip
noncomputable def j7V:Env Unit:=⟨tys,[(98,(j1N j0T)),(174,j1H)],0⟩
noncomputable def j9D (s:qB) (at_:Int) (k0:Int->Res):Res:=
 bif decide ((nI (ByteArray.size s))>0) then
  bif inb 0 (ByteArray.size s) then
   bif ((bt s 0)==45) then
    k0 1
   else
    k0 at_
  else none
 else
  k0 at_
noncomputable def j2H:Z1l Unit:=λσ k=>rdN σ 55<|rdV σ 0 .str false [] λs=>rdV σ 4 (.int .i64) false [] λat_=>j9D s at_ (λ(at_1:Int)=>k .normal (mkS 55 55 [(0,.val ⟨.str,false,s,[]⟩),(4,.val ⟨(.int .i64),false,at_1,[]⟩)] []))
theorem jld (s:qB) (at_:Int) (k:Z6G Unit):Z0R j7V [] .o (pl (pr (pr j1t))) (mkS 55 55 [(0,.val ⟨.str,false,s,[]⟩),(4,.val ⟨(.int .i64),false,at_,[]⟩)] []) (λe σ=>k e ((Z8a ([0,4],[]) [] ([],[])) e σ))=j9D s at_ (λ(at_1:Int)=>k .normal (mkS 55 55 [(0,.val ⟨.str,false,s,[]⟩),(4,.val ⟨(.int .i64),false,at_1,[]⟩)] [])):=by kernel_rfl
theorem jm0 {W0:Base} {M:Nat->Prop} (hnp:W0.np<=0):Z1W Tryz.prog W0 M (pl (pr (pr j1t))) j2H:=Z91 (Z6Q follows j00 (Z7K (Z8C j1c (Z8C j0s Z8W))) hnp [] ((pl (pr (pr j1t)))) .o trivial) (fg:=(Z8a ([0,4],[]) [] ([],[]))) (Z8U _ _ _) (by
 intro σ k r h
 obtain ⟨hn,h1⟩:=Z8G h
 obtain ⟨s,hs0,h2⟩:=Z8J h1
 obtain ⟨at_,hs4,h3⟩:=Z8J h2
 refine ⟨_,?_,(jld s at_ k).trans h3⟩
 exact Z9e hn ⟨hs0,hs4,trivial⟩ trivial)
noncomputable def j4H (s:qB) (n_:Int) (i:Int) (rec:Int->Int->Res) (k0:Int->Res) (k1:Unit->Res):Res:=
 bif decide (i<(nI (ByteArray.size s))) then
  bif inb i (ByteArray.size s) then
   bif decide ((bt s i)<48) then
    k1 ()
   else
    bif inb i (ByteArray.size s) then
     bif decide ((bt s i)>57) then
      k1 ()
     else
      bif inb i (ByteArray.size s) then
       rec (Z8g ((Z8g (10 * n_))+(Z8g (wu8 ((bt s i)-48))))) (Z8g (i+1))
      else none
    else none
  else none
 else
  k0 n_
noncomputable def j4I (s:qB):(Int×Int)->(Int×Int->Res)->((Int->Res)×(Unit->Res))->Res:=λv rec q=>j4H s v.1 v.2 (λn_ i=>rec (n_,i)) q.1 q.2
noncomputable def j9C (s:qB) (n:Nat) (n_:Int) (i:Int) (k0:Int->Res) (k1:Unit->Res):Res:=Z10 (j4I s) n (n_,i) (k0,k1)
noncomputable def j3T:Z1l Unit:=λσ k=>rdN σ 55<|rdV σ 0 .str false [] λs=>rdV σ 4 (.int .i64) false [] λat_=>rdV σ 5 (.int .i64) false [] λn_=>rdV σ 6 (.int .i64) false [] λi=>j9C s Z0Y n_ i (λ(n_1:Int)=>k (.exit 0) (mkS 55 55 [(0,.val ⟨.str,false,s,[]⟩),(4,.val ⟨(.int .i64),false,at_,[]⟩),(5,.val ⟨(.int .i64),false,n_1,[]⟩)] [])) (λ(_:Unit)=>k .ret (mkS 55 55 [(2,.val ⟨(.int .i64),false,0,[]⟩),(3,.val ⟨.bool,false,false,[]⟩)] []))
theorem jlc (s:qB) (at_:Int) (n:Nat) (v:Int×Int) (k:Z6G Unit):Z3X (Z0R j7V [j2H] .o (pl (pl (pr (pl (pr (pr (pr (pr (pr j1t)))))))))) (λσ=>σ.forget [0,4,5,6] []) (Z8a ([],[]) [(0,[0,4,5],[])] ([2,3],[])) n (mkS 55 55 [(0,.val ⟨.str,false,s,[]⟩),(4,.val ⟨(.int .i64),false,at_,[]⟩),(5,.val ⟨(.int .i64),false,v.1,[]⟩),(6,.val ⟨(.int .i64),false,v.2,[]⟩)] []) k=Z10 (j4I s) n v ((λ(k:Z6G Unit)=>(((λ(n_1:Int)=>k (.exit 0) (mkS 55 55 [(0,.val ⟨.str,false,s,[]⟩),(4,.val ⟨(.int .i64),false,at_,[]⟩),(5,.val ⟨(.int .i64),false,n_1,[]⟩)] [])),(λ(_:Unit)=>k .ret (mkS 55 55 [(2,.val ⟨(.int .i64),false,0,[]⟩),(3,.val ⟨.bool,false,false,[]⟩)] []))):(Int->Res)×(Unit->Res))) k):=Z80 (λv:Int×Int=>(mkS 55 55 [(0,.val ⟨.str,false,s,[]⟩),(4,.val ⟨(.int .i64),false,at_,[]⟩),(5,.val ⟨(.int .i64),false,v.1,[]⟩),(6,.val ⟨(.int .i64),false,v.2,[]⟩)] [])) (j4I s) (λ(k:Z6G Unit)=>(((λ(n_1:Int)=>k (.exit 0) (mkS 55 55 [(0,.val ⟨.str,false,s,[]⟩),(4,.val ⟨(.int .i64),false,at_,[]⟩),(5,.val ⟨(.int .i64),false,n_1,[]⟩)] [])),(λ(_:Unit)=>k .ret (mkS 55 55 [(2,.val ⟨(.int .i64),false,0,[]⟩),(3,.val ⟨.bool,false,false,[]⟩)] []))):(Int->Res)×(Unit->Res))) (λv rec k=>by kernel_rfl) n v k
theorem jlZ {W0:Base} {M:Nat->Prop} (hnp:W0.np<=0):Z1W Tryz.prog W0 M (pl (pr (pl (pr (pr (pr (pr (pr j1t)))))))) j3T:=show Z1W Tryz.prog W0 M (Code.loop (pl (pl (pr (pl (pr (pr (pr (pr (pr j1t)))))))))) j3T from Z8X (Z6Q follows j00 (Z7K (Z8C j1c (Z8C j0s Z8W))) hnp [j2H] (pl (pl (pr (pl (pr (pr (pr (pr (pr j1t))))))))) .o trivial) (ks:=[0,4,5,6]) (bs:=[]) (fX:=(Z8a ([],[]) [(0,[0,4,5],[])] ([2,3],[]))) (Z8U _ _ _) Z0Y (by
 intro σ k r h
 obtain ⟨hn,h1⟩:=Z8G h
 obtain ⟨s,hs0,h2⟩:=Z8J h1
 obtain ⟨at_,hs4,h3⟩:=Z8J h2
 obtain ⟨n_,hs5,h4⟩:=Z8J h3
 obtain ⟨i,hs6,h5⟩:=Z8J h4
 refine ⟨_,?_,(jlc s at_ Z0Y (n_,i) k).trans h5⟩
 exact Z9e hn ⟨hs0,hs4,hs5,hs6,trivial⟩ trivial)
noncomputable def j6B (n_:Int) (t47:Bool) (k0:Int->Res):Res:=
 bif t47 then
  k0 (Z8g (0-n_))
 else
  k0 n_
noncomputable def jbU:Z1l Unit:=λσ k=>rdN σ 55<|rdV σ 0 .str false [] λs=>rdV σ 5 (.int .i64) false [] λn_=>rdV σ 47 .bool false [] λt47=>j6B n_ t47 (λ(n_1:Int)=>k .normal (mkS 55 55 [(0,.val ⟨.str,false,s,[]⟩),(5,.val ⟨(.int .i64),false,n_1,[]⟩)] []))
theorem jle (s:qB) (n_:Int) (t47:Bool) (k:Z6G Unit):Z0R j7V [j2H,j3T] .o (pr (pl (pr (pr (pr (pr (pr (pr j1t)))))))) (mkS 55 55 [(0,.val ⟨.str,false,s,[]⟩),(5,.val ⟨(.int .i64),false,n_,[]⟩),(47,.val ⟨.bool,false,t47,[]⟩)] []) (λe σ=>k e ((Z8a ([0,5],[]) [] ([],[])) e σ))=j6B n_ t47 (λ(n_1:Int)=>k .normal (mkS 55 55 [(0,.val ⟨.str,false,s,[]⟩),(5,.val ⟨(.int .i64),false,n_1,[]⟩)] [])):=by kernel_rfl
theorem jm1 {W0:Base} {M:Nat->Prop} (hnp:W0.np<=0):Z1W Tryz.prog W0 M (pr (pl (pr (pr (pr (pr (pr (pr j1t)))))))) jbU:=Z91 (Z6Q follows j00 (Z7K (Z8C j1c (Z8C j0s Z8W))) hnp [j2H,j3T] ((pr (pl (pr (pr (pr (pr (pr (pr j1t))))))))) .o trivial) (fg:=(Z8a ([0,5],[]) [] ([],[]))) (Z8U _ _ _) (by
 intro σ k r h
 obtain ⟨hn,h1⟩:=Z8G h
 obtain ⟨s,hs0,h2⟩:=Z8J h1
 obtain ⟨n_,hs5,h3⟩:=Z8J h2
 obtain ⟨t47,hs47,h4⟩:=Z8J h3
 refine ⟨_,?_,(jle s n_ t47 k).trans h4⟩
 exact Z9e hn ⟨hs0,hs5,hs47,trivial⟩ trivial)
noncomputable def j3g (s:qB) (k0:Int->Bool->Res):Res:=
 j9D s 0 λ(at_:Int)=>
  j0O (Z8g ((nI (ByteArray.size s))-at_)) 1 13 λ(r:Bool)=>
   bif !r then
    k0 0 false
   else
    j9C s Z0Y 0 at_
     (λ(n_:Int)=>
      j6B n_ (at_==1) λ(n_1:Int)=>
       j0T n_1 λ(r1:qB)=>
        bif sNe r1 s then
         k0 0 false
        else
         k0 n_1 true)
     (λ(_:Unit)=>
      k0 0 false)
noncomputable def jaJ:Sig Unit:=⟨[.look .str false],[false,false],λvals ext k=>av vals .str λs vals=>nl vals<|nl ext<|j3g s (λ(r0:Int) (r1:Bool)=>k [⟨(.int .i64),false,r0,[]⟩,⟨.bool,false,r1,[]⟩] [] [])⟩
theorem jo9 (s:qB) (a_s:Bool) (t_s:List Tag) (k:qK):Z6X j7V [j2H,j3T,jbU] (.t .o (.t .o (.t (.x 0) (.t .o (.t .o (.t (.t .o (.t (.x 1) .o)) (.t (.t .o (.x 2)) .o))))))) false Tryz.f107 [.look .str false] [false,false] [⟨.str,a_s,s,t_s⟩] [] k=j3g s (λ(r0:Int) (r1:Bool)=>k [⟨(.int .i64),false,r0,[]⟩,⟨.bool,false,r1,[]⟩] [] []):=by kernel_rfl
theorem j1J:Z1k Tryz.prog 107 jaJ:=Z8N (Γ:=j7V) (X:=[j2H,j3T,jbU]) (ht:=(.t .o (.t .o (.t (.x 0) (.t .o (.t .o (.t (.t .o (.t (.x 1) .o)) (.t (.t .o (.x 2)) .o)))))))) (fz:=false) (c:=j1t) follows j00 (Z8C j1c (Z8C j0s Z8W)) (Z1A.mk trivial ((Z1A.mk trivial ((Z1A.mk (Z1A.x_mk (λW0 M hnp=>jm0 (W0:=W0) (M:=M) hnp)) ((Z1A.mk trivial ((Z1A.mk trivial ((Z1A.mk ((Z1A.mk trivial ((Z1A.mk (Z1A.x_mk (λW0 M hnp=>jlZ (W0:=W0) (M:=M) hnp)) trivial)))) ((Z1A.mk ((Z1A.mk trivial (Z1A.x_mk (λW0 M hnp=>jm1 (W0:=W0) (M:=M) hnp)))) trivial))))))))))))) Tryz.func107 (by kernel_rfl) (by kernel_rfl) (by decide) (by
 intro vals ext k r h
 obtain ⟨s,a_s,t_s,vals,rfl,h1⟩:=Z8T h
 obtain ⟨rfl,h2⟩:=Z90 h1
 obtain ⟨rfl,h3⟩:=Z90 h2
 exact (jo9 s a_s t_s k).trans h3)
noncomputable def j8P:Code:=(Tryz.f249.body).getD .skip
noncomputable def je3:Env Unit:=⟨tys,[],0⟩
noncomputable def j5A (b:Int) (t4:Int) (rec:Int->Res) (k0:Unit->Res) (k1:Int->Res):Res:=
 bif decide (t4<16) then
  bif inb t4 16 then
   bif ((bt j0k t4)==b) then
    k1 t4
   else
    rec (Z8g (t4+1))
  else none
 else
  k0 ()
noncomputable def j8p (b:Int):Int->(Int->Res)->((Unit->Res)×(Int->Res))->Res:=λv rec q=>j5A b v (λt4=>rec (t4)) q.1 q.2
noncomputable def jdt (b:Int) (n:Nat) (t4:Int) (k0:Unit->Res) (k1:Int->Res):Res:=Z10 (j8p b) n (t4) (k0,k1)
noncomputable def j9U:Z1l Unit:=λσ k=>rdN σ 13<|rdV σ 0 (.int .u8) false [] λb=>rdV σ 4 (.int .i64) false [] λt4=>jdt b Z0Y t4 (λ(_:Unit)=>k (.exit 0) (mkS 13 13 [] [])) (λ(t2:Int)=>k .ret (mkS 13 13 [(2,.val ⟨(.int .i64),false,t2,[]⟩)] []))
theorem jno (b:Int) (n:Nat) (v:Int) (k:Z6G Unit):Z3X (Z0R je3 [] .o (pl (pl (pr (pl (pr j8P)))))) (λσ=>σ.forget [0,4] []) (Z8a ([],[]) [(0,[],[])] ([2],[])) n (mkS 13 13 [(0,.val ⟨(.int .u8),false,b,[]⟩),(4,.val ⟨(.int .i64),false,v,[]⟩)] []) k=Z10 (j8p b) n v ((λ(k:Z6G Unit)=>(((λ(_:Unit)=>k (.exit 0) (mkS 13 13 [] [])),(λ(t2:Int)=>k .ret (mkS 13 13 [(2,.val ⟨(.int .i64),false,t2,[]⟩)] []))):(Unit->Res)×(Int->Res))) k):=Z80 (λv:Int=>(mkS 13 13 [(0,.val ⟨(.int .u8),false,b,[]⟩),(4,.val ⟨(.int .i64),false,v,[]⟩)] [])) (j8p b) (λ(k:Z6G Unit)=>(((λ(_:Unit)=>k (.exit 0) (mkS 13 13 [] [])),(λ(t2:Int)=>k .ret (mkS 13 13 [(2,.val ⟨(.int .i64),false,t2,[]⟩)] []))):(Unit->Res)×(Int->Res))) (λv rec k=>by kernel_rfl) n v k
theorem jnH {W0:Base} {M:Nat->Prop} (hnp:W0.np<=0):Z1W Tryz.prog W0 M (pl (pr (pl (pr j8P)))) j9U:=show Z1W Tryz.prog W0 M (Code.loop (pl (pl (pr (pl (pr j8P)))))) j9U from Z8X (Z6Q follows j00 (Z7K Z8W) hnp [] (pl (pl (pr (pl (pr j8P))))) .o trivial) (ks:=[0,4]) (bs:=[]) (fX:=(Z8a ([],[]) [(0,[],[])] ([2],[]))) (Z8U _ _ _) Z0Y (by
 intro σ k r h
 obtain ⟨hn,h1⟩:=Z8G h
 obtain ⟨b,hs0,h2⟩:=Z8J h1
 obtain ⟨t4,hs4,h3⟩:=Z8J h2
 refine ⟨_,?_,(jno b Z0Y (t4) k).trans h3⟩
 exact Z9e hn ⟨hs0,hs4,trivial⟩ trivial)
noncomputable def j9c (b:Int) (k0:Int->Res):Res:=
 jdt b Z0Y 0
  (λ(_:Unit)=>
   k0 (-1))
  (λ(t:Int)=>
   k0 t)
noncomputable def jhP:Sig Unit:=⟨[.look (.int .u8) false],[false],λvals ext k=>av vals (.int .u8) λb vals=>nl vals<|nl ext<|j9c b (λ(r0:Int)=>k [⟨(.int .i64),false,r0,[]⟩] [] [])⟩
theorem jpw (b:Int) (a_b:Bool) (t_b:List Tag) (k:qK):Z6X je3 [j9U] (.t .o (.t (.t .o (.t (.x 0) .o)) .o)) false Tryz.f249 [.look (.int .u8) false] [false] [⟨(.int .u8),a_b,b,t_b⟩] [] k=j9c b (λ(r0:Int)=>k [⟨(.int .i64),false,r0,[]⟩] [] []):=by kernel_rfl
theorem jhw:Z1k Tryz.prog 249 jhP:=Z8N (Γ:=je3) (X:=[j9U]) (ht:=(.t .o (.t (.t .o (.t (.x 0) .o)) .o))) (fz:=false) (c:=j8P) follows j00 Z8W (Z1A.mk trivial ((Z1A.mk ((Z1A.mk trivial ((Z1A.mk (Z1A.x_mk (λW0 M hnp=>jnH (W0:=W0) (M:=M) hnp)) trivial)))) trivial))) Tryz.func249 (by kernel_rfl) (by kernel_rfl) (by decide) (by
 intro vals ext k r h
 obtain ⟨b,a_b,t_b,vals,rfl,h1⟩:=Z8T h
 obtain ⟨rfl,h2⟩:=Z90 h1
 obtain ⟨rfl,h3⟩:=Z90 h2
 exact (jpw b a_b t_b k).trans h3)
noncomputable def j8Q:Code:=(Tryz.f211.body).getD .skip
noncomputable def je4:Env Unit:=⟨tys,[(249,jhP)],0⟩
noncomputable def j28 (s:qB) (out:List Int) (i:Int) (rec:(List Int)->Int->Res) (k0:(List Int)->Res) (k1:Unit->Res):Res:=
 bif decide (i<(nI (ByteArray.size s))) then
  bif inb i (ByteArray.size s) then
   bif ((bt s i) != 37) then
    bif inb i (ByteArray.size s) then
     bif lim ((List.length out)+1) then
      rec (out++[bt s i]) (Z8g (i+1))
     else none
    else none
   else
    bif decide ((Z8g (i+2))>=(nI (ByteArray.size s))) then
     k1 ()
    else
     bif inb (Z8g (i+1)) (ByteArray.size s) then
      bif inb (Z8g (i+2)) (ByteArray.size s) then
       j9c (bt s (Z8g (i+1))) λ(r:Int)=>
        j9c (bt s (Z8g (i+2))) λ(r1:Int)=>
         bif decide (r<0) then
          k1 ()
         else
          bif decide (r1<0) then
           k1 ()
          else
           bif lim ((List.length out)+1) then
            rec (out++[wu8 (Z8g ((Z8g (16 * r))+r1))]) (Z8g ((Z8g (i+2))+1))
           else none
      else none
     else none
  else none
 else
  k0 out
noncomputable def j29 (s:qB):((List Int)×Int)->((List Int)×Int->Res)->(((List Int)->Res)×(Unit->Res))->Res:=λv rec q=>j28 s v.1 v.2 (λout i=>rec (out,i)) q.1 q.2
noncomputable def jgx (s:qB) (n:Nat) (out:List Int) (i:Int) (k0:(List Int)->Res) (k1:Unit->Res):Res:=Z10 (j29 s) n (out,i) (k0,k1)
noncomputable def j9V:Z1l Unit:=λσ k=>rdN σ 58<|rdV σ 0 .str false [] λs=>rdV σ 4 y0 false [.O] λout=>rdV σ 5 (.int .i64) false [] λi=>jgx s Z0Y out i (λ(out1:List Int)=>k (.exit 0) (mkS 58 58 [(4,.val ⟨y0,false,out1,[.O]⟩)] [])) (λ(_:Unit)=>k .ret (mkS 58 58 [(2,.val ⟨.str,false,eS,[]⟩),(3,.val ⟨.bool,false,false,[]⟩)] []))
theorem jnp (s:qB) (n:Nat) (v:(List Int)×Int) (k:Z6G Unit):Z3X (Z0R je4 [] .o (pl (pl (pr (pl (pr (pr j8Q))))))) (λσ=>σ.forget [0,4,5] []) (Z8a ([],[]) [(0,[4],[])] ([2,3],[])) n (mkS 58 58 [(0,.val ⟨.str,false,s,[]⟩),(4,.val ⟨y0,false,v.1,[.O]⟩),(5,.val ⟨(.int .i64),false,v.2,[]⟩)] []) k=Z10 (j29 s) n v ((λ(k:Z6G Unit)=>(((λ(out1:List Int)=>k (.exit 0) (mkS 58 58 [(4,.val ⟨y0,false,out1,[.O]⟩)] [])),(λ(_:Unit)=>k .ret (mkS 58 58 [(2,.val ⟨.str,false,eS,[]⟩),(3,.val ⟨.bool,false,false,[]⟩)] []))):((List Int)->Res)×(Unit->Res))) k):=Z80 (λv:(List Int)×Int=>(mkS 58 58 [(0,.val ⟨.str,false,s,[]⟩),(4,.val ⟨y0,false,v.1,[.O]⟩),(5,.val ⟨(.int .i64),false,v.2,[]⟩)] [])) (j29 s) (λ(k:Z6G Unit)=>(((λ(out1:List Int)=>k (.exit 0) (mkS 58 58 [(4,.val ⟨y0,false,out1,[.O]⟩)] [])),(λ(_:Unit)=>k .ret (mkS 58 58 [(2,.val ⟨.str,false,eS,[]⟩),(3,.val ⟨.bool,false,false,[]⟩)] []))):((List Int)->Res)×(Unit->Res))) (λv rec k=>by kernel_rfl) n v k
theorem jnI {W0:Base} {M:Nat->Prop} (hnp:W0.np<=0):Z1W Tryz.prog W0 M (pl (pr (pl (pr (pr j8Q))))) j9V:=show Z1W Tryz.prog W0 M (Code.loop (pl (pl (pr (pl (pr (pr j8Q))))))) j9V from Z8X (Z6Q follows j00 (Z7K (Z8C jhw Z8W)) hnp [] (pl (pl (pr (pl (pr (pr j8Q)))))) .o trivial) (ks:=[0,4,5]) (bs:=[]) (fX:=(Z8a ([],[]) [(0,[4],[])] ([2,3],[]))) (Z8U _ _ _) Z0Y (by
 intro σ k r h
 obtain ⟨hn,h1⟩:=Z8G h
 obtain ⟨s,hs0,h2⟩:=Z8J h1
 obtain ⟨out,hs4,h3⟩:=Z8J h2
 obtain ⟨i,hs5,h4⟩:=Z8J h3
 refine ⟨_,?_,(jnp s Z0Y (out,i) k).trans h4⟩
 exact Z9e hn ⟨hs0,hs4,hs5,trivial⟩ trivial)
noncomputable def j9d (s:qB) (k0:qB->Bool->Res):Res:=
 jgx s Z0Y [] 0
  (λ(out:List Int)=>
   k0 (Z2X out) true)
  (λ(_:Unit)=>
   k0 eS false)
noncomputable def jhQ:Sig Unit:=⟨[.look .str false],[false,false],λvals ext k=>av vals .str λs vals=>nl vals<|nl ext<|j9d s (λ(r0:qB) (r1:Bool)=>k [⟨.str,false,r0,[]⟩,⟨.bool,false,r1,[]⟩] [] [])⟩
theorem jpx (s:qB) (a_s:Bool) (t_s:List Tag) (k:qK):Z6X je4 [j9V] (.t .o (.t .o (.t (.t .o (.t (.x 0) .o)) .o))) false Tryz.f211 [.look .str false] [false,false] [⟨.str,a_s,s,t_s⟩] [] k=j9d s (λ(r0:qB) (r1:Bool)=>k [⟨.str,false,r0,[]⟩,⟨.bool,false,r1,[]⟩] [] []):=by kernel_rfl
theorem jbo:Z1k Tryz.prog 211 jhQ:=Z8N (Γ:=je4) (X:=[j9V]) (ht:=(.t .o (.t .o (.t (.t .o (.t (.x 0) .o)) .o)))) (fz:=false) (c:=j8Q) follows j00 (Z8C jhw Z8W) (Z1A.mk trivial ((Z1A.mk trivial ((Z1A.mk ((Z1A.mk trivial ((Z1A.mk (Z1A.x_mk (λW0 M hnp=>jnI (W0:=W0) (M:=M) hnp)) trivial)))) trivial))))) Tryz.func211 (by kernel_rfl) (by kernel_rfl) (by decide) (by
 intro vals ext k r h
 obtain ⟨s,a_s,t_s,vals,rfl,h1⟩:=Z8T h
 obtain ⟨rfl,h2⟩:=Z90 h1
 obtain ⟨rfl,h3⟩:=Z90 h2
 exact (jpx s a_s t_s k).trans h3)
noncomputable def jqA:Code:=(Tryz.f205.body).getD .skip
noncomputable def jiD:Env Unit:=⟨tys,[(174,j1H)],0⟩
noncomputable def j8m (v_:Int×Int×qB) (k0:Bool->Res):Res:=
 bif (v_.1==0) then
  k0 ((v_.1==0)&&((v_.2.1==0)&&(sEq v_.2.2 eS)))
 else
  bif (v_.1==1) then
   j0O v_.2.1 0 1 λ(r:Bool)=>
    bif r then
     k0 (sEq v_.2.2 eS)
    else
     k0 false
  else
   bif (v_.1==2) then
    j0O v_.2.1 (-1099511627775) 1099511627775 λ(r1:Bool)=>
     bif r1 then
      k0 (sEq v_.2.2 eS)
     else
      k0 false
   else
    bif (v_.1==3) then
     bif (v_.2.1==0) then
      k0 (decide ((nI (ByteArray.size v_.2.2))<=30))
     else
      k0 false
    else
     k0 false
noncomputable def jcI:Sig Unit:=⟨[.look y2 true],[false],λvals ext k=>av vals y2 λv_ vals=>nl vals<|nl ext<|j8m v_ (λ(r0:Bool)=>k [⟨.bool,false,r0,[]⟩] [] [])⟩
theorem jqd (v_:Int×Int×qB) (a_v_:Bool) (t_v_:List Tag) (k:qK):Z6X jiD [] .o false Tryz.f205 [.look y2 true] [false] [⟨y2,a_v_,v_,t_v_⟩] [] k=j8m v_ (λ(r0:Bool)=>k [⟨.bool,false,r0,[]⟩] [] []):=by kernel_rfl
theorem ja0:Z1k Tryz.prog 205 jcI:=Z8N (Γ:=jiD) (X:=[]) (ht:= .o) (fz:=false) (c:=jqA) follows j00 (Z8C j0s Z8W) trivial Tryz.func205 (by kernel_rfl) (by kernel_rfl) (by decide) (by
 intro vals ext k r h
 obtain ⟨v_,a_v_,t_v_,vals,rfl,h1⟩:=Z8T h
 obtain ⟨rfl,h2⟩:=Z90 h1
 obtain ⟨rfl,h3⟩:=Z90 h2
 exact (jqd v_ a_v_ t_v_ k).trans h3)
noncomputable def jnd:Code:=(Tryz.f206.body).getD .skip
noncomputable def jft:Env Unit:=⟨tys,[],0⟩
noncomputable def jbv (n_:Int) (k0:qB->Res):Res:=
 bif (n_==1) then
  k0 j1x
 else
  k0 j1f
noncomputable def jfM:Sig Unit:=⟨[.look (.int .i64) false],[false],λvals ext k=>av vals (.int .i64) λn_ vals=>nl vals<|nl ext<|jbv n_ (λ(r0:qB)=>k [⟨.str,false,r0,[]⟩] [] [])⟩
theorem jmL (n_:Int) (a_n_:Bool) (t_n_:List Tag) (k:qK):Z6X jft [] .o false Tryz.f206 [.look (.int .i64) false] [false] [⟨(.int .i64),a_n_,n_,t_n_⟩] [] k=jbv n_ (λ(r0:qB)=>k [⟨.str,false,r0,[]⟩] [] []):=by kernel_rfl
theorem jc8:Z1k Tryz.prog 206 jfM:=Z8N (Γ:=jft) (X:=[]) (ht:= .o) (fz:=false) (c:=jnd) follows j00 Z8W trivial Tryz.func206 (by kernel_rfl) (by kernel_rfl) (by decide) (by
 intro vals ext k r h
 obtain ⟨n_,a_n_,t_n_,vals,rfl,h1⟩:=Z8T h
 obtain ⟨rfl,h2⟩:=Z90 h1
 obtain ⟨rfl,h3⟩:=Z90 h2
 exact (jmL n_ a_n_ t_n_ k).trans h3)
noncomputable def j2P:Code:=(Tryz.f155.body).getD .skip
noncomputable def jay:Env Unit:=⟨tys,[(98,(j1N j0T)),(174,j1H),(205,jcI),(206,jfM)],0⟩
noncomputable def j6F (b:Int) (k0:Bool->Res):Res:=
 j0O (Z8g b) 33 126 λ(r:Bool)=>
  bif r then
   bif (b != 39) then
    k0 (b != 37)
   else
    k0 false
  else
   k0 false
noncomputable def j5R:Z1l Unit:=λσ k=>rdN σ 68<|rdT σ 1 (.ptr ⟨true,1,[]⟩)<|rdV σ 3 y0 false [.O] λout=>rdV σ 4 (.int .i64) false [] λi=>rdV σ 5 (.int .u8) false [] λb=>rdB σ 1 y2 [] λa v_=>j6F b (λ(t50:Bool)=>k .normal (mkS 68 68 [(1,.ptr ⟨true,1,[]⟩),(3,.val ⟨y0,false,out,[.O]⟩),(4,.val ⟨(.int .i64),false,i,[]⟩),(5,.val ⟨(.int .u8),false,b,[]⟩),(50,.val ⟨.bool,false,t50,[]⟩)] [(1,⟨y2,a,v_,[]⟩)]))
theorem jlk (out:List Int) (i:Int) (b:Int) (a:Bool) (v_:Int×Int×qB) (k:Z6G Unit):Z0R jay [] .o (pl (pr (pl (pl (pr (pl (pl (pr (pl (pr (pr (pr j2P)))))))))))) (mkS 68 68 [(1,.ptr ⟨true,1,[]⟩),(3,.val ⟨y0,false,out,[.O]⟩),(4,.val ⟨(.int .i64),false,i,[]⟩),(5,.val ⟨(.int .u8),false,b,[]⟩)] [(1,⟨y2,a,v_,[]⟩)]) (λe σ=>k e ((Z8a ([1,3,4,5,50],[1]) [] ([],[])) e σ))=j6F b (λ(t50:Bool)=>k .normal (mkS 68 68 [(1,.ptr ⟨true,1,[]⟩),(3,.val ⟨y0,false,out,[.O]⟩),(4,.val ⟨(.int .i64),false,i,[]⟩),(5,.val ⟨(.int .u8),false,b,[]⟩),(50,.val ⟨.bool,false,t50,[]⟩)] [(1,⟨y2,a,v_,[]⟩)])):=by kernel_rfl
theorem jm7 {W0:Base} {M:Nat->Prop} (hnp:W0.np<=0):Z1W Tryz.prog W0 M (pl (pr (pl (pl (pr (pl (pl (pr (pl (pr (pr (pr j2P)))))))))))) j5R:=Z91 (Z6Q follows j00 (Z7K (Z8C j1c (Z8C j0s (Z8C ja0 (Z8C jc8 Z8W))))) hnp [] ((pl (pr (pl (pl (pr (pl (pl (pr (pl (pr (pr (pr j2P))))))))))))) .o trivial) (fg:=(Z8a ([1,3,4,5,50],[1]) [] ([],[]))) (Z8U _ _ _) (by
 intro σ k r h
 obtain ⟨hn,h1⟩:=Z8G h
 obtain ⟨hs1,h2⟩:=Z8H h1
 obtain ⟨out,hs3,h3⟩:=Z8J h2
 obtain ⟨i,hs4,h4⟩:=Z8J h3
 obtain ⟨b,hs5,h5⟩:=Z8J h4
 obtain ⟨a,v_,hb1,h6⟩:=Z8D h5
 refine ⟨_,?_,(jlk out i b a v_ k).trans h6⟩
 exact Z9e hn ⟨hs1,hs3,hs4,hs5,trivial⟩ ⟨hb1,trivial⟩)
noncomputable def j4J (v_:Int×Int×qB) (out:List Int) (i:Int) (rec:(List Int)->Int->Res) (k0:(List Int)->Res):Res:=
 bif decide (i<(nI (ByteArray.size v_.2.2))) then
  bif inb i (ByteArray.size v_.2.2) then
   j6F (bt v_.2.2 i) λ(t:Bool)=>
    bif t then
     bif lim ((List.length out)+1) then
      rec (out++[bt v_.2.2 i]) (Z8g (i+1))
     else none
    else
     bif inb (Z9n .u8 (bt v_.2.2 i) 4) 16 then
      bif inb (Z9j .u8 (bt v_.2.2 i) 15) 16 then
       bif lim ((List.length out)+3) then
        rec (out++[37,bt j0k (Z9n .u8 (bt v_.2.2 i) 4),bt j0k (Z9j .u8 (bt v_.2.2 i) 15)]) (Z8g (i+1))
       else none
      else none
     else none
  else none
 else
  k0 out
noncomputable def j7k (v_:Int×Int×qB):((List Int)×Int)->((List Int)×Int->Res)->(((List Int)->Res))->Res:=λv rec q=>j4J v_ v.1 v.2 (λout i=>rec (out,i)) q
noncomputable def j9E (v_:Int×Int×qB) (n:Nat) (out:List Int) (i:Int) (k0:(List Int)->Res):Res:=Z10 (j7k v_) n (out,i) (k0)
noncomputable def j8E:Z1l Unit:=λσ k=>rdN σ 68<|rdT σ 1 (.ptr ⟨true,1,[]⟩)<|rdV σ 3 y0 false [.O] λout=>rdV σ 4 (.int .i64) false [] λi=>rdB σ 1 y2 [] λa v_=>j9E v_ Z0Y out i (λ(out1:List Int)=>k (.exit 1) (mkS 68 68 [(3,.val ⟨y0,false,out1,[.O]⟩)] []))
theorem jlj (a:Bool) (v_:Int×Int×qB) (n:Nat) (v:(List Int)×Int) (k:Z6G Unit):Z3X (Z0R jay [j5R] (.t .o (.t (.t (.t .o (.t (.x 0) .o)) .o) .o)) (pl (pl (pr (pl (pr (pr (pr j2P)))))))) (λσ=>σ.forget [1,3,4] [1]) (Z8a ([],[]) [(1,[3],[])] ([],[])) n (mkS 68 68 [(1,.ptr ⟨true,1,[]⟩),(3,.val ⟨y0,false,v.1,[.O]⟩),(4,.val ⟨(.int .i64),false,v.2,[]⟩)] [(1,⟨y2,a,v_,[]⟩)]) k=Z10 (j7k v_) n v ((λ(k:Z6G Unit)=>(((λ(out1:List Int)=>k (.exit 1) (mkS 68 68 [(3,.val ⟨y0,false,out1,[.O]⟩)] []))):((List Int)->Res))) k):=Z80 (λv:(List Int)×Int=>(mkS 68 68 [(1,.ptr ⟨true,1,[]⟩),(3,.val ⟨y0,false,v.1,[.O]⟩),(4,.val ⟨(.int .i64),false,v.2,[]⟩)] [(1,⟨y2,a,v_,[]⟩)])) (j7k v_) (λ(k:Z6G Unit)=>(((λ(out1:List Int)=>k (.exit 1) (mkS 68 68 [(3,.val ⟨y0,false,out1,[.O]⟩)] []))):((List Int)->Res))) (λv rec k=>by kernel_rfl) n v k
theorem jm6 {W0:Base} {M:Nat->Prop} (hnp:W0.np<=0):Z1W Tryz.prog W0 M (pl (pr (pl (pr (pr (pr j2P)))))) j8E:=show Z1W Tryz.prog W0 M (Code.loop (pl (pl (pr (pl (pr (pr (pr j2P)))))))) j8E from Z8X (Z6Q follows j00 (Z7K (Z8C j1c (Z8C j0s (Z8C ja0 (Z8C jc8 Z8W))))) hnp [j5R] (pl (pl (pr (pl (pr (pr (pr j2P))))))) (.t .o (.t (.t (.t .o (.t (.x 0) .o)) .o) .o)) (Z1A.mk trivial ((Z1A.mk ((Z1A.mk ((Z1A.mk trivial ((Z1A.mk (Z1A.x_mk (λW0 M hnp=>jm7 (W0:=W0) (M:=M) hnp)) trivial)))) trivial)) trivial)))) (ks:=[1,3,4]) (bs:=[1]) (fX:=(Z8a ([],[]) [(1,[3],[])] ([],[]))) (Z8U _ _ _) Z0Y (by
 intro σ k r h
 obtain ⟨hn,h1⟩:=Z8G h
 obtain ⟨hs1,h2⟩:=Z8H h1
 obtain ⟨out,hs3,h3⟩:=Z8J h2
 obtain ⟨i,hs4,h4⟩:=Z8J h3
 obtain ⟨a,v_,hb1,h5⟩:=Z8D h4
 refine ⟨_,?_,(jlj a v_ Z0Y (out,i) k).trans h5⟩
 exact Z9e hn ⟨hs1,hs3,hs4,trivial⟩ ⟨hb1,trivial⟩)
noncomputable def j5y (v_:Int×Int×qB) (k0:qB->Res):Res:=
 j8m v_ λ(r:Bool)=>
  bif !r then
   k0 eS
  else
   bif (v_.1==0) then
    k0 j73
   else
    bif (v_.1==1) then
     jbv v_.2.1 λ(r1:qB)=>
      k0 r1
    else
     bif (v_.1==2) then
      j0T v_.2.1 λ(r2:qB)=>
       k0 r2
     else
      j9E v_ Z0Y [39] 0 λ(out:List Int)=>
       bif lim ((List.length out)+1) then
        k0 (Z2X (out++[39]))
       else none
noncomputable def jaK:Sig Unit:=⟨[.look y2 true],[false],λvals ext k=>av vals y2 λv_ vals=>nl vals<|nl ext<|j5y v_ (λ(r0:qB)=>k [⟨.str,false,r0,[]⟩] [] [])⟩
theorem joc (v_:Int×Int×qB) (a_v_:Bool) (t_v_:List Tag) (k:qK):Z6X jay [j5R,j8E] (.t .o (.t .o (.t .o (.t (.t .o (.t (.x 1) .o)) .o)))) false Tryz.f155 [.look y2 true] [false] [⟨y2,a_v_,v_,t_v_⟩] [] k=j5y v_ (λ(r0:qB)=>k [⟨.str,false,r0,[]⟩] [] []):=by kernel_rfl
theorem j2N:Z1k Tryz.prog 155 jaK:=Z8N (Γ:=jay) (X:=[j5R,j8E]) (ht:=(.t .o (.t .o (.t .o (.t (.t .o (.t (.x 1) .o)) .o))))) (fz:=false) (c:=j2P) follows j00 (Z8C j1c (Z8C j0s (Z8C ja0 (Z8C jc8 Z8W)))) (Z1A.mk trivial ((Z1A.mk trivial ((Z1A.mk trivial ((Z1A.mk ((Z1A.mk trivial ((Z1A.mk (Z1A.x_mk (λW0 M hnp=>jm6 (W0:=W0) (M:=M) hnp)) trivial)))) trivial))))))) Tryz.func155 (by kernel_rfl) (by kernel_rfl) (by decide) (by
 intro vals ext k r h
 obtain ⟨v_,a_v_,t_v_,vals,rfl,h1⟩:=Z8T h
 obtain ⟨rfl,h2⟩:=Z90 h1
 obtain ⟨rfl,h3⟩:=Z90 h2
 exact (joc v_ a_v_ t_v_ k).trans h3)
noncomputable def j1L:Code:=(Tryz.f163.body).getD .skip
noncomputable def j7W:Env Unit:=⟨tys,[(107,jaJ),(155,jaK),(211,jhQ)],0⟩
noncomputable def j6E (s:qB) (k0:Bool->Res):Res:=
 bif sEq s j1x then
  k0 true
 else
  k0 (sEq s j1f)
noncomputable def j2I:Z1l Unit:=λσ k=>rdN σ 72<|rdV σ 0 .str false [] λs=>rdT σ 2 (.ptr ⟨true,2,[]⟩)<|rdT σ 4 (.ptr ⟨true,4,[]⟩)<|rdB σ 2 y2 [] λa t2=>rdB σ 4 y2 [] λa1 v_=>j6E s (λ(t20:Bool)=>k .normal (mkS 72 72 [(0,.val ⟨.str,false,s,[]⟩),(2,.ptr ⟨true,2,[]⟩),(4,.ptr ⟨true,4,[]⟩),(20,.val ⟨.bool,false,t20,[]⟩)] [(2,⟨y2,a,t2,[]⟩),(4,⟨y2,a1,v_,[]⟩)]))
theorem jlg (s:qB) (a:Bool) (t2:Int×Int×qB) (a1:Bool) (v_:Int×Int×qB) (k:Z6G Unit):Z0R j7W [] .o (pl (pr (pr (pl (pl (pr (pr j1L))))))) (mkS 72 72 [(0,.val ⟨.str,false,s,[]⟩),(2,.ptr ⟨true,2,[]⟩),(4,.ptr ⟨true,4,[]⟩)] [(2,⟨y2,a,t2,[]⟩),(4,⟨y2,a1,v_,[]⟩)]) (λe σ=>k e ((Z8a ([0,2,4,20],[2,4]) [] ([],[])) e σ))=j6E s (λ(t20:Bool)=>k .normal (mkS 72 72 [(0,.val ⟨.str,false,s,[]⟩),(2,.ptr ⟨true,2,[]⟩),(4,.ptr ⟨true,4,[]⟩),(20,.val ⟨.bool,false,t20,[]⟩)] [(2,⟨y2,a,t2,[]⟩),(4,⟨y2,a1,v_,[]⟩)])):=by kernel_rfl
theorem jm3 {W0:Base} {M:Nat->Prop} (hnp:W0.np<=0):Z1W Tryz.prog W0 M (pl (pr (pr (pl (pl (pr (pr j1L))))))) j2I:=Z91 (Z6Q follows j00 (Z7K (Z8C j1J (Z8C j2N (Z8C jbo Z8W)))) hnp [] ((pl (pr (pr (pl (pl (pr (pr j1L)))))))) .o trivial) (fg:=(Z8a ([0,2,4,20],[2,4]) [] ([],[]))) (Z8U _ _ _) (by
 intro σ k r h
 obtain ⟨hn,h1⟩:=Z8G h
 obtain ⟨s,hs0,h2⟩:=Z8J h1
 obtain ⟨hs2,h3⟩:=Z8H h2
 obtain ⟨hs4,h4⟩:=Z8H h3
 obtain ⟨a,t2,hb2,h5⟩:=Z8D h4
 obtain ⟨a1,v_,hb4,h6⟩:=Z8D h5
 refine ⟨_,?_,(jlg s a t2 a1 v_ k).trans h6⟩
 exact Z9e hn ⟨hs0,hs2,hs4,trivial⟩ ⟨hb2,hb4,trivial⟩)
noncomputable def j3i (s:qB) (k0:Bool->Res):Res:=
 bif decide ((nI (ByteArray.size s))>1) then
  bif inb 0 (ByteArray.size s) then
   bif ((bt s 0)==39) then
    bif inb (Z8g ((nI (ByteArray.size s))-1)) (ByteArray.size s) then
     k0 ((bt s (Z8g ((nI (ByteArray.size s))-1)))==39)
    else none
   else
    k0 false
  else none
 else
  k0 false
noncomputable def j5Q:Z1l Unit:=λσ k=>rdN σ 72<|rdV σ 0 .str false [] λs=>rdT σ 2 (.ptr ⟨true,2,[]⟩)<|rdT σ 4 (.ptr ⟨true,4,[]⟩)<|rdB σ 2 y2 [] λa t2=>rdB σ 4 y2 [] λa1 v_=>j3i s (λ(t31:Bool)=>k .normal (mkS 72 72 [(0,.val ⟨.str,false,s,[]⟩),(2,.ptr ⟨true,2,[]⟩),(4,.ptr ⟨true,4,[]⟩),(31,.val ⟨.bool,false,t31,[]⟩)] [(2,⟨y2,a,t2,[]⟩),(4,⟨y2,a1,v_,[]⟩)]))
theorem jlh (s:qB) (a:Bool) (t2:Int×Int×qB) (a1:Bool) (v_:Int×Int×qB) (k:Z6G Unit):Z0R j7W [j2I] .o (pl (pr (pr (pr (pr (pl (pl (pr (pr j1L))))))))) (mkS 72 72 [(0,.val ⟨.str,false,s,[]⟩),(2,.ptr ⟨true,2,[]⟩),(4,.ptr ⟨true,4,[]⟩)] [(2,⟨y2,a,t2,[]⟩),(4,⟨y2,a1,v_,[]⟩)]) (λe σ=>k e ((Z8a ([0,2,4,31],[2,4]) [] ([],[])) e σ))=j3i s (λ(t31:Bool)=>k .normal (mkS 72 72 [(0,.val ⟨.str,false,s,[]⟩),(2,.ptr ⟨true,2,[]⟩),(4,.ptr ⟨true,4,[]⟩),(31,.val ⟨.bool,false,t31,[]⟩)] [(2,⟨y2,a,t2,[]⟩),(4,⟨y2,a1,v_,[]⟩)])):=by kernel_rfl
theorem jm4 {W0:Base} {M:Nat->Prop} (hnp:W0.np<=0):Z1W Tryz.prog W0 M (pl (pr (pr (pr (pr (pl (pl (pr (pr j1L))))))))) j5Q:=Z91 (Z6Q follows j00 (Z7K (Z8C j1J (Z8C j2N (Z8C jbo Z8W)))) hnp [j2I] ((pl (pr (pr (pr (pr (pl (pl (pr (pr j1L)))))))))) .o trivial) (fg:=(Z8a ([0,2,4,31],[2,4]) [] ([],[]))) (Z8U _ _ _) (by
 intro σ k r h
 obtain ⟨hn,h1⟩:=Z8G h
 obtain ⟨s,hs0,h2⟩:=Z8J h1
 obtain ⟨hs2,h3⟩:=Z8H h2
 obtain ⟨hs4,h4⟩:=Z8H h3
 obtain ⟨a,t2,hb2,h5⟩:=Z8D h4
 obtain ⟨a1,v_,hb4,h6⟩:=Z8D h5
 refine ⟨_,?_,(jlh s a t2 a1 v_ k).trans h6⟩
 exact Z9e hn ⟨hs0,hs2,hs4,trivial⟩ ⟨hb2,hb4,trivial⟩)
noncomputable def j2r (s:qB) (v_:Int×Int×qB) (k0:qV->Res) (k1:Unit->Res):Res:=
 bif sEq s j73 then
  k0 v_
 else
  j6E s λ(t:Bool)=>
   bif t then
    bif sEq s j1x then
     k0 (1,1,eS)
    else
     k0 (1,0,eS)
   else
    j3i s λ(t1:Bool)=>
     bif t1 then
      bif Z6R 1 (Z8g ((nI (ByteArray.size s))-1)) (ByteArray.size s) then
       j9d (Z9k s 1 (Z8g ((nI (ByteArray.size s))-1))) λ(r:qB) (r1:Bool)=>
        bif !r1 then
         k1 ()
        else
         k0 (3,0,r)
      else none
     else
      j3g s λ(r2:Int) (r3:Bool)=>
       k0 (2,r2,eS)
noncomputable def jbW:Z1l Unit:=λσ k=>rdN σ 72<|rdV σ 0 .str false [] λs=>rdT σ 2 (.ptr ⟨true,2,[]⟩)<|rdT σ 4 (.ptr ⟨true,4,[]⟩)<|rdB σ 2 y2 [] λa t2=>rdB σ 4 y2 [] λa1 v_=>j2r s v_ (λ(v_1:Int×Int×qB)=>k .normal (mkS 72 72 [(0,.val ⟨.str,false,s,[]⟩),(2,.ptr ⟨true,2,[]⟩),(4,.ptr ⟨true,4,[]⟩)] [(2,⟨y2,a,t2,[]⟩),(4,⟨y2,a1,v_1,[]⟩)])) (λ(_:Unit)=>k .ret (mkS 72 72 [(2,.ptr ⟨true,2,[]⟩),(3,.val ⟨.bool,false,false,[]⟩)] [(2,⟨y2,a,(0,0,eS),[]⟩)]))
theorem jli (s:qB) (a:Bool) (t2:Int×Int×qB) (a1:Bool) (v_:Int×Int×qB) (k:Z6G Unit):Z0R j7W [j2I,j5Q] (.t (.t .o (.t .o (.t (.x 0) (.t .o (.t (.x 1) .o))))) .o) (pl (pr (pr j1L))) (mkS 72 72 [(0,.val ⟨.str,false,s,[]⟩),(2,.ptr ⟨true,2,[]⟩),(4,.ptr ⟨true,4,[]⟩)] [(2,⟨y2,a,t2,[]⟩),(4,⟨y2,a1,v_,[]⟩)]) (λe σ=>k e ((Z8a ([0,2,4],[2,4]) [] ([2,3],[2])) e σ))=j2r s v_ (λ(v_1:Int×Int×qB)=>k .normal (mkS 72 72 [(0,.val ⟨.str,false,s,[]⟩),(2,.ptr ⟨true,2,[]⟩),(4,.ptr ⟨true,4,[]⟩)] [(2,⟨y2,a,t2,[]⟩),(4,⟨y2,a1,v_1,[]⟩)])) (λ(_:Unit)=>k .ret (mkS 72 72 [(2,.ptr ⟨true,2,[]⟩),(3,.val ⟨.bool,false,false,[]⟩)] [(2,⟨y2,a,(0,0,eS),[]⟩)])):=by kernel_rfl
theorem jm5 {W0:Base} {M:Nat->Prop} (hnp:W0.np<=0):Z1W Tryz.prog W0 M (pl (pr (pr j1L))) jbW:=Z91 (Z6Q follows j00 (Z7K (Z8C j1J (Z8C j2N (Z8C jbo Z8W)))) hnp [j2I,j5Q] ((pl (pr (pr j1L)))) (.t (.t .o (.t .o (.t (.x 0) (.t .o (.t (.x 1) .o))))) .o) (Z1A.mk ((Z1A.mk trivial ((Z1A.mk trivial ((Z1A.mk (Z1A.x_mk (λW0 M hnp=>jm3 (W0:=W0) (M:=M) hnp)) ((Z1A.mk trivial ((Z1A.mk (Z1A.x_mk (λW0 M hnp=>jm4 (W0:=W0) (M:=M) hnp)) trivial)))))))))) trivial)) (fg:=(Z8a ([0,2,4],[2,4]) [] ([2,3],[2]))) (Z8U _ _ _) (by
 intro σ k r h
 obtain ⟨hn,h1⟩:=Z8G h
 obtain ⟨s,hs0,h2⟩:=Z8J h1
 obtain ⟨hs2,h3⟩:=Z8H h2
 obtain ⟨hs4,h4⟩:=Z8H h3
 obtain ⟨a,t2,hb2,h5⟩:=Z8D h4
 obtain ⟨a1,v_,hb4,h6⟩:=Z8D h5
 refine ⟨_,?_,(jli s a t2 a1 v_ k).trans h6⟩
 exact Z9e hn ⟨hs0,hs2,hs4,trivial⟩ ⟨hb2,hb4,trivial⟩)
noncomputable def j3h (s:qB) (k0:qV->Bool->Res):Res:=
 j2r s (0,0,eS)
  (λ(v_:Int×Int×qB)=>
   bif sEq s eS then
    k0 (0,0,eS) false
   else
    j5y v_ λ(r:qB)=>
     bif sNe r s then
      k0 (0,0,eS) false
     else
      k0 v_ true)
  (λ(_:Unit)=>
   k0 (0,0,eS) false)
noncomputable def jdA:Sig Unit:=⟨[.look .str false],[true,false],λvals ext k=>av vals .str λs vals=>nl vals<|nl ext<|j3h s (λ(r0:Int×Int×qB) (r1:Bool)=>k [⟨y2,true,r0,[]⟩,⟨.bool,false,r1,[]⟩] [] [])⟩
theorem job (s:qB) (a_s:Bool) (t_s:List Tag) (k:qK):Z6X j7W [j2I,j5Q,jbW] (.t .o (.t .o (.t (.x 2) .o))) false Tryz.f163 [.look .str false] [true,false] [⟨.str,a_s,s,t_s⟩] [] k=j3h s (λ(r0:Int×Int×qB) (r1:Bool)=>k [⟨y2,true,r0,[]⟩,⟨.bool,false,r1,[]⟩] [] []):=by kernel_rfl
theorem j5k:Z1k Tryz.prog 163 jdA:=Z8N (Γ:=j7W) (X:=[j2I,j5Q,jbW]) (ht:=(.t .o (.t .o (.t (.x 2) .o)))) (fz:=false) (c:=j1L) follows j00 (Z8C j1J (Z8C j2N (Z8C jbo Z8W))) (Z1A.mk trivial ((Z1A.mk trivial ((Z1A.mk (Z1A.x_mk (λW0 M hnp=>jm5 (W0:=W0) (M:=M) hnp)) trivial))))) Tryz.func163 (by kernel_rfl) (by kernel_rfl) (by decide) (by
 intro vals ext k r h
 obtain ⟨s,a_s,t_s,vals,rfl,h1⟩:=Z8T h
 obtain ⟨rfl,h2⟩:=Z90 h1
 obtain ⟨rfl,h3⟩:=Z90 h2
 exact (job s a_s t_s k).trans h3)
noncomputable def j8O:Code:=(Tryz.f152.body).getD .skip
noncomputable def je2:Env Unit:=⟨tys,[(174,j1H)],0⟩
noncomputable def j5z (s:qB) (i:Int) (rec:Int->Res) (k0:Unit->Res) (k1:Unit->Res):Res:=
 bif decide (i<(nI (ByteArray.size s))) then
  bif inb i (ByteArray.size s) then
   bif decide ((bt s i)<97) then
    k1 ()
   else
    bif inb i (ByteArray.size s) then
     bif decide ((bt s i)>122) then
      k1 ()
     else
      rec (Z8g (i+1))
    else none
  else none
 else
  k0 ()
noncomputable def j8n (s:qB):Int->(Int->Res)->((Unit->Res)×(Unit->Res))->Res:=λv rec q=>j5z s v (λi=>rec (i)) q.1 q.2
noncomputable def jdr (s:qB) (n:Nat) (i:Int) (k0:Unit->Res) (k1:Unit->Res):Res:=Z10 (j8n s) n (i) (k0,k1)
noncomputable def j9T:Z1l Unit:=λσ k=>rdN σ 23<|rdV σ 0 .str false [] λs=>rdV σ 3 (.int .i64) false [] λi=>jdr s Z0Y i (λ(_:Unit)=>k (.exit 0) (mkS 23 23 [(0,.val ⟨.str,false,s,[]⟩)] [])) (λ(_:Unit)=>k .ret (mkS 23 23 [(2,.val ⟨.bool,false,false,[]⟩)] []))
theorem jnn (s:qB) (n:Nat) (v:Int) (k:Z6G Unit):Z3X (Z0R je2 [] .o (pl (pl (pr (pl (pr j8O)))))) (λσ=>σ.forget [0,3] []) (Z8a ([],[]) [(0,[0],[])] ([2],[])) n (mkS 23 23 [(0,.val ⟨.str,false,s,[]⟩),(3,.val ⟨(.int .i64),false,v,[]⟩)] []) k=Z10 (j8n s) n v ((λ(k:Z6G Unit)=>(((λ(_:Unit)=>k (.exit 0) (mkS 23 23 [(0,.val ⟨.str,false,s,[]⟩)] [])),(λ(_:Unit)=>k .ret (mkS 23 23 [(2,.val ⟨.bool,false,false,[]⟩)] []))):(Unit->Res)×(Unit->Res))) k):=Z80 (λv:Int=>(mkS 23 23 [(0,.val ⟨.str,false,s,[]⟩),(3,.val ⟨(.int .i64),false,v,[]⟩)] [])) (j8n s) (λ(k:Z6G Unit)=>(((λ(_:Unit)=>k (.exit 0) (mkS 23 23 [(0,.val ⟨.str,false,s,[]⟩)] [])),(λ(_:Unit)=>k .ret (mkS 23 23 [(2,.val ⟨.bool,false,false,[]⟩)] []))):(Unit->Res)×(Unit->Res))) (λv rec k=>by kernel_rfl) n v k
theorem jnG {W0:Base} {M:Nat->Prop} (hnp:W0.np<=0):Z1W Tryz.prog W0 M (pl (pr (pl (pr j8O)))) j9T:=show Z1W Tryz.prog W0 M (Code.loop (pl (pl (pr (pl (pr j8O)))))) j9T from Z8X (Z6Q follows j00 (Z7K (Z8C j0s Z8W)) hnp [] (pl (pl (pr (pl (pr j8O))))) .o trivial) (ks:=[0,3]) (bs:=[]) (fX:=(Z8a ([],[]) [(0,[0],[])] ([2],[]))) (Z8U _ _ _) Z0Y (by
 intro σ k r h
 obtain ⟨hn,h1⟩:=Z8G h
 obtain ⟨s,hs0,h2⟩:=Z8J h1
 obtain ⟨i,hs3,h3⟩:=Z8J h2
 refine ⟨_,?_,(jnn s Z0Y (i) k).trans h3⟩
 exact Z9e hn ⟨hs0,hs3,trivial⟩ trivial)
noncomputable def j2y (s:qB) (k0:Bool->Res):Res:=
 jdr s Z0Y 0
  (λ(_:Unit)=>
   j0O (nI (ByteArray.size s)) 1 8 λ(r:Bool)=>
    k0 r)
  (λ(_:Unit)=>
   k0 false)
noncomputable def j94:Sig Unit:=⟨[.look .str false],[false],λvals ext k=>av vals .str λs vals=>nl vals<|nl ext<|j2y s (λ(r0:Bool)=>k [⟨.bool,false,r0,[]⟩] [] [])⟩
theorem jpu (s:qB) (a_s:Bool) (t_s:List Tag) (k:qK):Z6X je2 [j9T] (.t .o (.t (.t .o (.t (.x 0) .o)) .o)) false Tryz.f152 [.look .str false] [false] [⟨.str,a_s,s,t_s⟩] [] k=j2y s (λ(r0:Bool)=>k [⟨.bool,false,r0,[]⟩] [] []):=by kernel_rfl
theorem j4w:Z1k Tryz.prog 152 j94:=Z8N (Γ:=je2) (X:=[j9T]) (ht:=(.t .o (.t (.t .o (.t (.x 0) .o)) .o))) (fz:=false) (c:=j8O) follows j00 (Z8C j0s Z8W) (Z1A.mk trivial ((Z1A.mk ((Z1A.mk trivial ((Z1A.mk (Z1A.x_mk (λW0 M hnp=>jnG (W0:=W0) (M:=M) hnp)) trivial)))) trivial))) Tryz.func152 (by kernel_rfl) (by kernel_rfl) (by decide) (by
 intro vals ext k r h
 obtain ⟨s,a_s,t_s,vals,rfl,h1⟩:=Z8T h
 obtain ⟨rfl,h2⟩:=Z90 h1
 obtain ⟨rfl,h3⟩:=Z90 h2
 exact (jpu s a_s t_s k).trans h3)
end Go.PI.G
