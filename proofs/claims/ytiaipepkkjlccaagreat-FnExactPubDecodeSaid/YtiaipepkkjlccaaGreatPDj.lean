/-
  Program's code interpreted over typed values; printed texts; plain laws. No conditions.
-/
import Derived.Test.YtiaipepkkjlccaaGreatPc
import Derived.Test.YtiaipepkkjlccaaGreatPDd
import Derived.Test.YtiaipepkkjlccaaGreatPDi
import Derived.Test.YtiaipepkkjlccaaGreatPDh
import Derived.Test.YtiaipepkkjlccaaGreatPDe
import Derived.Test.YtiaipepkkjlccaaGreatPDg
set_option linter.unusedVariables false
set_option maxRecDepth 100000
set_option linter.unusedSimpArgs false
namespace Go.PI.G
noncomputable section
open Go Go.PI Go.Proofs
open Go.Code (pl pr)
def j5l (a:List qP)(left:Int)(i:Int)(rec:Int->Int->Res)(b:Int->Res)(d:Unit->Res):Res:=bif decide (i<(nI a.length)) then bif inb i a.length then jgc (nth (0,0,0,eS,[],[],0,eS,[],[],eS,eS) a i) left λr=>bif decide (r<0) then d () else rec r (Z9J (i+1)) else none else b left
def jha (a:List qP):(Int×Int)->(Int×Int->Res)->((Int->Res)×(Unit->Res))->Res:=λv rec q=>j5l a v.1 v.2 (λleft i=>rec (left,i)) q.1 q.2
def jek (a:List qP)(n:Nat)(left:Int)(i:Int)(b:Int->Res)(d:Unit->Res):Res:=Z1e (jha a) n (left,i) (b,d)
def jiv:Z1c Unit:=NdL 27 27 [.R 0 y20 .S,.I 1,.I 5] [] (λd f=>(d.2.1,d.2.2.1)) (λd v=>(d.1,v.1,v.2,())) (λf v=>()) (λd f=>jha d.1) λd f g=>((λb=>g (.exit 0) [(1,vI b)] []),(λ_=>g .ret [(4,vI (-1))] []))
theorem jpy:CN 0 122 Tryz.f11 jiv:=lK (Za5 jlJ Zar) [] oN ([],[]) [(0,[1],[])] ([4],[]) λ_ _ _ _ _=>by kernel_rfl
def jbn (a:List qP)(left:Int)(d:Int->Res):Res:=bif decide ((Z9J (left-(nI a.length)))<0) then d (-1) else jek a Z1b (Z9J (left-(nI a.length))) 0 (λb=>d b) (λ_=>d (-1))
def jfy:Sig Unit:=sg [.look y20 false,.look tI false] [false] [(y20,none),(tI,none)] [] λb f k=>jbn b.1 b.2.1 (λd=>k [wI d] [] [])
theorem jrY:SO 11 jfy:=fK (np:=0) (Za5 jlJ Zar) [jiv] (oI 122 0 @jpy oN) false Tryz.func11 λ_ _ _ _=>by kernel_rfl
def j5o (a:List qP)(b:List qP)(i:Int)(rec:(List qP)->Int->Res)(d:(List qP)->Res):Res:=bif decide (i<(nI a.length)) then bif inb i a.length then jge (nth (0,0,0,eS,[],[],0,eS,[],[],eS,eS) a i) λr=>bif inb i b.length then rec (upd b i r) (Z9J (i+1)) else none else none else d b
def jbO (a:List qP):((List qP)×Int)->((List qP)×Int->Res)->(((List qP)->Res))->Res:=λv rec q=>j5o a v.1 v.2 (λb i=>rec (b,i)) q
def jqE (a:List qP)(n:Nat)(b:List qP)(i:Int)(d:(List qP)->Res):Res:=Z1e (jbO a) n (b,i) (d)
def jiy:Z1c Unit:=NdL 23 23 [.R 0 y20 .S,.R 3 y20 .O,.I 4] [] (λb f=>(b.2.1,b.2.2.1)) (λb v=>(b.1,v.1,v.2,())) (λf v=>()) (λb f=>jbO b.1) λb f g=>((λd=>g (.exit 0) [(3,v1 y20 d .O)] []))
theorem jpB:CN 0 58 Tryz.f14 jiy:=lK (Za5 jlL Zar) [] oN ([],[]) [(0,[3],[])] ([],[]) λ_ _ _ _ _=>by kernel_rfl
def j3a (a:List qP)(d:(List qP)->Res):Res:=bif Z9H (nI a.length) (nI a.length) then jqE a Z1b (Z9g (nI a.length) (0,0,0,eS,[],[],0,eS,[],[],eS,eS)) 0 λb=>d b else none
def jbA:Sig Unit:=sg [.borrow y20 false] [false] [(y20,none)] [] λd f k=>j3a d.1 (λb=>k [w1 y20 b .O] [] [])
theorem js1:SO 14 jbA:=fK (np:=0) (Za5 jlL Zar) [jiy] (oI 58 0 @jpB oN) false Tryz.func14 λ_ _ _ _=>by kernel_rfl
def j58 (a:List qP)(b:List qP)(i:Int)(rec:Int->Res)(d:Unit->Res)(f:Unit->Res):Res:=bif decide (i<(nI a.length)) then bif inb i a.length then bif inb i b.length then jga (nth (0,0,0,eS,[],[],0,eS,[],[],eS,eS) a i) (nth (0,0,0,eS,[],[],0,eS,[],[],eS,eS) b i) λr=>bif !r then f () else rec (Z9J (i+1)) else none else none else d ()
def jh1 (a:List qP)(b:List qP):Int->(Int->Res)->((Unit->Res)×(Unit->Res))->Res:=λv rec q=>j58 a b v (λi=>rec (i)) q.1 q.2
def jjC (a:List qP)(b:List qP)(n:Nat)(i:Int)(d:Unit->Res)(f:Unit->Res):Res:=Z1e (jh1 a b) n (i) (d,f)
def jis:Z1c Unit:=NdL 27 27 [.R 0 y20 .S,.R 1 y20 .S,.I 5] [] (λb d=>(b.2.2.1)) (λb v=>(b.1,b.2.1,v,())) (λd v=>()) (λb d=>jh1 b.1 b.2.1) λb d f=>((λ_=>f (.exit 0) [] []),(λ_=>f .ret [(4,vB false)] []))
theorem jpv:CN 0 58 Tryz.f18 jis:=lK (Za5 jlG Zar) [] oN ([],[]) [(0,[],[])] ([4],[]) λ_ _ _ _ _=>by kernel_rfl
def jbl (a:List qP)(b:List qP)(d:Bool->Res):Res:=bif ((nI a.length) != (nI b.length)) then d false else jjC a b Z1b 0 (λ_=>d true) (λ_=>d false)
def jfx:Sig Unit:=sg [.look y20 false,.look y20 false] [false] [(y20,none),(y20,none)] [] λb f k=>jbl b.1 b.2.1 (λd=>k [wB d] [] [])
theorem jrW:SO 18 jfx:=fK (np:=0) (Za5 jlG Zar) [jis] (oI 58 0 @jpv oN) false Tryz.func18 λ_ _ _ _=>by kernel_rfl
theorem j13:FS [(51,j6w),(52,j1w),(53,j6x),(54,j9w)]:=(Za5 j9M (Za5 j0c (Za5 jhQ (Za5 jhP Zar))))
def j5d (a:List qP)(d:Int)(i:Int)(b:(List qP)->Res):Res:=bif inb i a.length then b (upd a i ((nth (0,0,0,eS,[],[],0,eS,[],[],eS,eS) a i).1,(nth (0,0,0,eS,[],[],0,eS,[],[],eS,eS) a i).2.1,d,(nth (0,0,0,eS,[],[],0,eS,[],[],eS,eS) a i).2.2.2)) else none
def j0y:Z1c Unit:=Nd 118 118 [.R 0 y20 .O,.I 1,.I 5] [] λb g f=>j5d b.1 b.2.1 b.2.2.1 (λd=>f .normal [(0,v1 y20 d .O),(1,vI b.2.1),(5,vI b.2.2.1)] [])
theorem jmZ:CN 1 13470 Tryz.f20 j0y:=nK j13 [] oN ([0,1,5],[]) [] ([],[]) λ_ _ _=>by kernel_rfl
def j5e (a:List qP)(f:Int)(i:Int)(d:(List qP)->Int->Res):Res:=bif inb i a.length then j1I (nth (0,0,0,eS,[],[],0,eS,[],[],eS,eS) a i).2.2.2.2.1 f λr b=>d (upd a i ((nth (0,0,0,eS,[],[],0,eS,[],[],eS,eS) a i).1,(nth (0,0,0,eS,[],[],0,eS,[],[],eS,eS) a i).2.1,(nth (0,0,0,eS,[],[],0,eS,[],[],eS,eS) a i).2.2.1,(nth (0,0,0,eS,[],[],0,eS,[],[],eS,eS) a i).2.2.2.1,b,(nth (0,0,0,eS,[],[],0,eS,[],[],eS,eS) a i).2.2.2.2.2)) r else none
def j0K:Z1c Unit:=Nd 118 118 [.R 0 y20 .O,.I 1,.I 5] [] λb h g=>j5e b.1 b.2.1 b.2.2.1 (λf d=>g .normal [(0,v1 y20 f .O),(1,vI d),(5,vI b.2.2.1)] [])
theorem jn0:CN 1 215550 Tryz.f20 j0K:=nK j13 [j0y] oN ([0,1,5],[]) [] ([],[]) λ_ _ _=>by kernel_rfl
def j5f (a:List qP)(d:Int)(i:Int)(b:(List qP)->Res):Res:=bif inb i a.length then b (upd a i ((nth (0,0,0,eS,[],[],0,eS,[],[],eS,eS) a i).1,(nth (0,0,0,eS,[],[],0,eS,[],[],eS,eS) a i).2.1,(nth (0,0,0,eS,[],[],0,eS,[],[],eS,eS) a i).2.2.1,(nth (0,0,0,eS,[],[],0,eS,[],[],eS,eS) a i).2.2.2.1,(nth (0,0,0,eS,[],[],0,eS,[],[],eS,eS) a i).2.2.2.2.1,(nth (0,0,0,eS,[],[],0,eS,[],[],eS,eS) a i).2.2.2.2.2.1,d,(nth (0,0,0,eS,[],[],0,eS,[],[],eS,eS) a i).2.2.2.2.2.2.2)) else none
def j10:Z1c Unit:=Nd 118 118 [.R 0 y20 .O,.I 1,.I 5] [] λb g f=>j5f b.1 b.2.1 b.2.2.1 (λd=>f .normal [(0,v1 y20 d .O),(1,vI b.2.1),(5,vI b.2.2.1)] [])
theorem jn1:CN 1 862206 Tryz.f20 j10:=nK j13 [j0y,j0K] oN ([0,1,5],[]) [] ([],[]) λ_ _ _=>by kernel_rfl
def j5g (a:List qP)(f:Int)(i:Int)(d:(List qP)->Int->Res):Res:=bif inb i a.length then j65 (nth (0,0,0,eS,[],[],0,eS,[],[],eS,eS) a i).2.2.2.2.2.2.2.2.1 f λr b=>d (upd a i ((nth (0,0,0,eS,[],[],0,eS,[],[],eS,eS) a i).1,(nth (0,0,0,eS,[],[],0,eS,[],[],eS,eS) a i).2.1,(nth (0,0,0,eS,[],[],0,eS,[],[],eS,eS) a i).2.2.1,(nth (0,0,0,eS,[],[],0,eS,[],[],eS,eS) a i).2.2.2.1,(nth (0,0,0,eS,[],[],0,eS,[],[],eS,eS) a i).2.2.2.2.1,(nth (0,0,0,eS,[],[],0,eS,[],[],eS,eS) a i).2.2.2.2.2.1,(nth (0,0,0,eS,[],[],0,eS,[],[],eS,eS) a i).2.2.2.2.2.2.1,(nth (0,0,0,eS,[],[],0,eS,[],[],eS,eS) a i).2.2.2.2.2.2.2.1,b,(nth (0,0,0,eS,[],[],0,eS,[],[],eS,eS) a i).2.2.2.2.2.2.2.2.2)) r else none
def j1v:Z1c Unit:=Nd 118 118 [.R 0 y20 .O,.I 1,.I 5] [] λb h g=>j5g b.1 b.2.1 b.2.2.1 (λf d=>g .normal [(0,v1 y20 f .O),(1,vI d),(5,vI b.2.2.1)] [])
theorem jn2:CN 1 13795326 Tryz.f20 j1v:=nK j13 [j0y,j0K,j10] oN ([0,1,5],[]) [] ([],[]) λ_ _ _=>by kernel_rfl
def j5h (a:List qP)(f:Int)(i:Int)(d:(List qP)->Int->Res):Res:=bif inb i a.length then j0P (nth (0,0,0,eS,[],[],0,eS,[],[],eS,eS) a i).2.2.2.2.2.2.2.2.2.1 f λr b=>d (upd a i ((nth (0,0,0,eS,[],[],0,eS,[],[],eS,eS) a i).1,(nth (0,0,0,eS,[],[],0,eS,[],[],eS,eS) a i).2.1,(nth (0,0,0,eS,[],[],0,eS,[],[],eS,eS) a i).2.2.1,(nth (0,0,0,eS,[],[],0,eS,[],[],eS,eS) a i).2.2.2.1,(nth (0,0,0,eS,[],[],0,eS,[],[],eS,eS) a i).2.2.2.2.1,(nth (0,0,0,eS,[],[],0,eS,[],[],eS,eS) a i).2.2.2.2.2.1,(nth (0,0,0,eS,[],[],0,eS,[],[],eS,eS) a i).2.2.2.2.2.2.1,(nth (0,0,0,eS,[],[],0,eS,[],[],eS,eS) a i).2.2.2.2.2.2.2.1,(nth (0,0,0,eS,[],[],0,eS,[],[],eS,eS) a i).2.2.2.2.2.2.2.2.1,b,(nth (0,0,0,eS,[],[],0,eS,[],[],eS,eS) a i).2.2.2.2.2.2.2.2.2.2)) r else none
def j2F:Z1c Unit:=Nd 118 118 [.R 0 y20 .O,.I 1,.I 5] [] λb h g=>j5h b.1 b.2.1 b.2.2.1 (λf d=>g .normal [(0,v1 y20 f .O),(1,vI d),(5,vI b.2.2.1)] [])
theorem jn3:CN 1 27590654 Tryz.f20 j2F:=nK j13 [j0y,j0K,j10,j1v] oN ([0,1,5],[]) [] ([],[]) λ_ _ _=>by kernel_rfl
def j5i (a:List qP)(d:Int)(i:Int)(b:(List qP)->Res):Res:=j05 d λr=>bif inb i a.length then b (upd a i ((nth (0,0,0,eS,[],[],0,eS,[],[],eS,eS) a i).1,(nth (0,0,0,eS,[],[],0,eS,[],[],eS,eS) a i).2.1,(nth (0,0,0,eS,[],[],0,eS,[],[],eS,eS) a i).2.2.1,(nth (0,0,0,eS,[],[],0,eS,[],[],eS,eS) a i).2.2.2.1,(nth (0,0,0,eS,[],[],0,eS,[],[],eS,eS) a i).2.2.2.2.1,(nth (0,0,0,eS,[],[],0,eS,[],[],eS,eS) a i).2.2.2.2.2.1,(nth (0,0,0,eS,[],[],0,eS,[],[],eS,eS) a i).2.2.2.2.2.2.1,(nth (0,0,0,eS,[],[],0,eS,[],[],eS,eS) a i).2.2.2.2.2.2.2.1,(nth (0,0,0,eS,[],[],0,eS,[],[],eS,eS) a i).2.2.2.2.2.2.2.2.1,(nth (0,0,0,eS,[],[],0,eS,[],[],eS,eS) a i).2.2.2.2.2.2.2.2.2.1,r,(nth (0,0,0,eS,[],[],0,eS,[],[],eS,eS) a i).2.2.2.2.2.2.2.2.2.2.2)) else none
def j4x:Z1c Unit:=Nd 118 118 [.R 0 y20 .O,.I 1,.I 5] [] λb g f=>j5i b.1 b.2.1 b.2.2.1 (λd=>f .normal [(0,v1 y20 d .O),(1,vI b.2.1),(5,vI b.2.2.1)] [])
theorem jn4:CN 1 55181310 Tryz.f20 j4x:=nK j13 [j0y,j0K,j10,j1v,j2F] oN ([0,1,5],[]) [] ([],[]) λ_ _ _=>by kernel_rfl
def j5j (a:List qP)(d:Int)(i:Int)(b:(List qP)->Res):Res:=j05 d λr=>bif inb i a.length then b (upd a i ((nth (0,0,0,eS,[],[],0,eS,[],[],eS,eS) a i).1,(nth (0,0,0,eS,[],[],0,eS,[],[],eS,eS) a i).2.1,(nth (0,0,0,eS,[],[],0,eS,[],[],eS,eS) a i).2.2.1,(nth (0,0,0,eS,[],[],0,eS,[],[],eS,eS) a i).2.2.2.1,(nth (0,0,0,eS,[],[],0,eS,[],[],eS,eS) a i).2.2.2.2.1,(nth (0,0,0,eS,[],[],0,eS,[],[],eS,eS) a i).2.2.2.2.2.1,(nth (0,0,0,eS,[],[],0,eS,[],[],eS,eS) a i).2.2.2.2.2.2.1,(nth (0,0,0,eS,[],[],0,eS,[],[],eS,eS) a i).2.2.2.2.2.2.2.1,(nth (0,0,0,eS,[],[],0,eS,[],[],eS,eS) a i).2.2.2.2.2.2.2.2.1,(nth (0,0,0,eS,[],[],0,eS,[],[],eS,eS) a i).2.2.2.2.2.2.2.2.2.1,(nth (0,0,0,eS,[],[],0,eS,[],[],eS,eS) a i).2.2.2.2.2.2.2.2.2.2.1,r)) else none
def j7i:Z1c Unit:=Nd 118 118 [.R 0 y20 .O,.I 1,.I 5] [] λb g f=>j5j b.1 b.2.1 b.2.2.1 (λd=>f .normal [(0,v1 y20 d .O),(1,vI b.2.1),(5,vI b.2.2.1)] [])
theorem jn5:CN 1 220725246 Tryz.f20 j7i:=nK j13 [j0y,j0K,j10,j1v,j2F,j4x] oN ([0,1,5],[]) [] ([],[]) λ_ _ _=>by kernel_rfl
def j1X (a:List qP)(f:Int)(i:Int)(rec:(List qP)->Int->Int->Res)(y:(List qP)->Int->Res):Res:=bif decide (i<(nI a.length)) then bif inb i a.length then bif inb i (List.length (upd a i (f,(nth (0,0,0,eS,[],[],0,eS,[],[],eS,eS) a i).2))) then j5d (upd (upd a i (f,(nth (0,0,0,eS,[],[],0,eS,[],[],eS,eS) a i).2)) i ((nth (0,0,0,eS,[],[],0,eS,[],[],eS,eS) (upd a i (f,(nth (0,0,0,eS,[],[],0,eS,[],[],eS,eS) a i).2)) i).1,Z9J (f+1),(nth (0,0,0,eS,[],[],0,eS,[],[],eS,eS) (upd a i (f,(nth (0,0,0,eS,[],[],0,eS,[],[],eS,eS) a i).2)) i).2.2)) (Z9J ((Z9J (f+1))+1)) i λh=>j05 (Z9J ((Z9J ((Z9J (f+1))+1))+1)) λr=>bif inb i h.length then j5e (upd h i ((nth (0,0,0,eS,[],[],0,eS,[],[],eS,eS) h i).1,(nth (0,0,0,eS,[],[],0,eS,[],[],eS,eS) h i).2.1,(nth (0,0,0,eS,[],[],0,eS,[],[],eS,eS) h i).2.2.1,r,(nth (0,0,0,eS,[],[],0,eS,[],[],eS,eS) h i).2.2.2.2)) (Z9J ((Z9J ((Z9J ((Z9J (f+1))+1))+1))+1)) i λd j=>bif inb i d.length then j1I (nth (0,0,0,eS,[],[],0,eS,[],[],eS,eS) d i).2.2.2.2.2.1 j λl m=>j5f (upd d i ((nth (0,0,0,eS,[],[],0,eS,[],[],eS,eS) d i).1,(nth (0,0,0,eS,[],[],0,eS,[],[],eS,eS) d i).2.1,(nth (0,0,0,eS,[],[],0,eS,[],[],eS,eS) d i).2.2.1,(nth (0,0,0,eS,[],[],0,eS,[],[],eS,eS) d i).2.2.2.1,(nth (0,0,0,eS,[],[],0,eS,[],[],eS,eS) d i).2.2.2.2.1,m,(nth (0,0,0,eS,[],[],0,eS,[],[],eS,eS) d i).2.2.2.2.2.2)) l i λb=>j05 (Z9J (l+1)) λz=>bif inb i b.length then j5g (upd b i ((nth (0,0,0,eS,[],[],0,eS,[],[],eS,eS) b i).1,(nth (0,0,0,eS,[],[],0,eS,[],[],eS,eS) b i).2.1,(nth (0,0,0,eS,[],[],0,eS,[],[],eS,eS) b i).2.2.1,(nth (0,0,0,eS,[],[],0,eS,[],[],eS,eS) b i).2.2.2.1,(nth (0,0,0,eS,[],[],0,eS,[],[],eS,eS) b i).2.2.2.2.1,(nth (0,0,0,eS,[],[],0,eS,[],[],eS,eS) b i).2.2.2.2.2.1,(nth (0,0,0,eS,[],[],0,eS,[],[],eS,eS) b i).2.2.2.2.2.2.1,z,(nth (0,0,0,eS,[],[],0,eS,[],[],eS,eS) b i).2.2.2.2.2.2.2.2)) (Z9J ((Z9J (l+1))+1)) i λn k=>j5h n k i λp g=>j5i p g i λq=>j5j q (Z9J (g+1)) i λw=>rec w (Z9J ((Z9J (g+1))+1)) (Z9J (i+1)) else none else none else none else none else none else y a f
def j6t:((List qP)×Int×Int)->((List qP)×Int×Int->Res)->(((List qP)->Int->Res))->Res:=λv rec q=>j1X v.1 v.2.1 v.2.2 (λa b i=>rec (a,b,i)) q
def jh6 (n:Nat)(a:List qP)(d:Int)(i:Int)(b:(List qP)->Int->Res):Res:=Z1e (j6t) n (a,d,i) (b)
def jg1:Z1c Unit:=NdL 118 118 [.R 0 y20 .O,.I 1,.I 5] [] (λb f=>(b.1,b.2.1,b.2.2.1)) (λb v=>(v.1,v.2.1,v.2.2,())) (λf v=>()) (λb f=>j6t) λb f h=>((λg d=>h (.exit 0) [(0,v1 y20 g .O),(1,vI d)] []))
theorem jmY:CN 1 26 Tryz.f20 jg1:=lK j13 [j0y,j0K,j10,j1v,j2F,j4x,j7i] (oI 414 0 @jmZ (oI 6654 1 @jn0 (oI 26622 2 @jn1 (oI 425982 3 @jn2 (oI 851966 4 @jn3 (oI 1703934 5 @jn4 (oI 6815742 6 @jn5 oN))))))) ([],[]) [(0,[0,1],[])] ([],[]) λ_ _ _ _ _=>by delta j6t j1X j0y j1w j0K j6x j10 j1v j2F j4x j7i;refine gz j5d λ_ b=>gz j05 λ_ d=>gz j5e λ_ f=>gz j1I λ_ g=>gz j5f λ_ h=>gz j5g λ_ i=>gz j5h λ_ j=>gz j5i λ_ k=>gz j5j λ_ l=> ?_;rewrite[<-b,<-d,<-f,<-g,<-h,<-i,<-j,<-k,<-l];kernel_rfl
def j8T (a:List qP)(g:Int)(f:Int->(List qP)->Res):Res:=jh6 Z1b a g 0 λd b=>f b d
def jd9:Sig Unit:=sg [.inout y20 false,.borrow tI false] [false] [(y20,some [.O]),(tI,none)] [] λb g k=>j8T b.1 b.2.1 (λf d=>k [wI f] [w1 y20 d .O] [])
theorem joV:SO 20 jd9:=fK (np:=1) j13 [j0y,j0K,j10,j1v,j2F,j4x,j7i,jg1] (oI 26 7 @jmY oN) false Tryz.func20 λ_ _ _ _=>by kernel_rfl
end
end Go.PI.G
namespace Go.PI.G
noncomputable section
open Go Go.PI Go.Proofs
open Go.Code (pl pr)
theorem jaO:Fns Tryz.prog [(10,jhk),(11,jfy),(12,jbT),(13,jda),(14,jbA),(15,j8r),(16,j9v),(17,jhj),(18,jfx),(19,jev),(20,jd9),(21,jb1),(22,jb0)]:=(Za5 jsT (Za5 jrY (Za5 jnL (Za5 jsW (Za5 js1 (Za5 jnI (Za5 joS (Za5 jsQ (Za5 jrW (Za5 jqj (Za5 joV (Za5 jmM (Za5 jmL Zar)))))))))))))
def j1b (l:List qP)(d:Int)(k:List (Int×Int×List (qS×qL×qL)))(B:List qP)(g:List (Int×Int×List (qS×qL×qL)))(m:qL)(A:qL)(b:Bool->Res):Res:=j9Y A 1 λr C=>j8T B r λn D=>bif decide (n<0) then b false else j2I g k λp=>bif !p then b false else j6r g 1 λh f=>j3G f 1 λi=>bif decide (i<0) then b false else bif (i != h) then b false else j4B m λq=>j3a l λw=>j1S q w d λy=>j2I y k λz=>bif !z then b false else j3G f 1 λj=>bif decide (j<0) then b false else bif (j != h) then b false else b true
def j4I:Z1c Unit:=λσ k=>rdN σ 97<|rd1 σ 1 y20 .S λd=>rdI σ 2 λb=>rdT σ 3 (pB 3)<|rd1 σ 8 y42 .O λi=>rdT σ 9 (pB 9)<|rd1 σ 10 y20 .O λl=>rd1 σ 11 y42 .O λg=>rdB σ 3 y8 [.S] λa f=>rdB σ 9 y8 [.O] λm j=>j1b d b i l g f j (λh=>k .ret (mkS 97 97 [(6,vB h)] []))
theorem jgg:CN 0 16383 Tryz.f4 j4I:=λj=>jsK follows j2e jaO j [] oN ([],[]) [] ([6],[]) λσ k _ h=>rN h λF h=>rV h λH A h=>rV h λb B h=>rT h λC h=>rV h λK D h=>rT h λE h=>rV h λM d h=>rV h λJ f h=>rB h λa I g h=>rB h λG L i h=>⟨_,ZaL (m:=97) F (sC A (sC B (sC C (sC D (sC E (sC d (sC f sN))))))) (bC g (bC i bN)),.trans (by delta j1b jev jd9 j9v jb1 jb0 jda jbA j8r;refine gz j9Y λ_ l=>gz j8T λ_ n=>gz j2I λ_ p=>gz j6r λ_ q=>gz j3G λ_ r=>gz j4B λ_ w=>gz j3a λ_ y=>gz j1S λ_ z=> ?_;rewrite[<-l,<-n,<-p,<-q,<-r,<-w,<-y,<-z];kernel_rfl) h⟩
def j1T (g:qL)(f:List qP)(b:Int)(d:Bool->Res):Res:=jcR g 1048576 λr=>bif decide (r<0) then d true else jbn f r λp=>bif decide (p<0) then d true else j4B g λq=>j3a f λw=>j4T q w b λm=>j4B g λk=>j3a f λl=>j1S k l b λn=>j2I n m λy=>bif !y then d false else j4B g λz=>jcO k z λh=>bif !h then d false else j3a f λi=>jbl l i λj=>bif !j then d false else j1b f b m l n g k λt=>d t
def j1t:Sig Unit:=⟨[.borrow y8 true,.borrow y20 false,.borrow tI false],[false],λvals ext k=>av vals y8 λf vals=>av vals y20 λd vals=>av vals tI λb vals=>nl vals<|nl ext<|j1T f d b (λg=>k [wB g] [] [])⟩
theorem jhG:Z16 Tryz.prog 4 j1t:=jxK (np:=0) follows j2e jaO [j4I] (oI 16383 0 @jgg oN) false Tryz.func4 λ_ _ k _ h=>aV h λ_ _ _ _ _ h=>aV h λ_ _ _ _ _ h=>aV h λ_ _ _ _ _ h=>nL h λ_ h=>nL h λ_ h=>by subst_vars;exact .trans (by delta j1T jhk jfy jda jbA jbT j8r j9v jhj jfx j4I;refine gz jcR λ_ b=>gz jbn λ_ d=>gz j4B λ_ f=>gz j3a λ_ g=>gz j4T λ_ i=>gz j1S λ_ j=>gz j2I λ_ l=>gz jcO λ_ m=>gz jbl λ_ n=>gz j1b λ_ p=> ?_;rewrite[<-b,<-d,<-f,<-g,<-i,<-j,<-l,<-m,<-n,<-p];kernel_rfl) h
end
end Go.PI.G
namespace Go.PI.G
open Go Go.PI
abbrev V:=Int×Int×ByteArray
theorem jf0 (s:ByteArray):(Z1m s).length=s.size:=by unfold Z1m;simp
theorem j0i (a b:ByteArray):sEq a b=true↔a=b:=by
 unfold sEq;rw[QG];constructor
 ·intro h;rw[ByteArray.ext_iff];have d:a.toList=a.data.toList:=by rw[ByteArray.toList_eq]
  have f:b.toList=b.data.toList:=by rw[ByteArray.toList_eq]
  rw[d,f]at h;exact Array.toList_inj.1 h
 ·rintro rfl;rfl
def jtK (n:Int):Bool:=decide (-1099511627775<=n/\n<=1099511627775)
def j0w (v:V):Bool:=
 bif v.1==0 then (v.2.1==0)&&sEq v.2.2 eS
 else bif v.1==1 then ((v.2.1==0)||(v.2.1==1))&&sEq v.2.2 eS
 else bif v.1==2 then jtK v.2.1&&sEq v.2.2 eS
 else bif v.1==3 then (v.2.1==0)&&decide (nI v.2.2.size<=30)
 else false
theorem jwp (x:Int):decide (0<=x/\x<=1)=((x==0)||(x==1)):=by
 by_cases h:0<=x/\x<=1
 ·rw[Q3 h];have:x=0\/x=1:=by omega
  rcases this with rfl | rfl<;>rfl
 ·rw[Q2 h];have b:(x==0)=false:=by simp;omega
  have d:(x==1)=false:=by simp;omega
  rw[b,d];rfl
theorem jkF {v:V}(h:j0w v=true):v=(0,0,eS)\/(∃n,(n=0\/n=1)/\v=(1,n,eS))\/(∃n,(-1099511627775<=n/\n<=1099511627775)/\v=(2,n,eS))\/∃s:ByteArray,s.size<=30/\v=(3,0,s):=by
 obtain⟨t,n,s⟩:=v;unfold j0w at h;simp only at h;cases d:t==0
 ·cases f:t==1
  ·cases g:t==2
   ·cases i:t==3
    ·rw[d,f,g,i]at h;cases h
    ·rw[d,f,g,i]at h;simp only[Q0,Q1,Q6,QG,Ql]at h i;obtain⟨rfl,h⟩:=h;subst i;exact .inr (.inr (.inr ⟨s,by unfold nI at h;omega,rfl⟩))
   ·rw[d,f,g]at h;simp only[Q0,Q1,Q6,QG]at h g;obtain⟨h,b⟩:=h;rw[j0i]at b;subst b;subst g;exact .inr (.inr (.inl ⟨n,QT h,rfl⟩))
  ·rw[d,f]at h;simp only[Q0,Q1,Q6,Xq,QG]at h f;obtain⟨h,b⟩:=h;rw[j0i]at b;subst b;subst f;exact .inr (.inl ⟨n,h,rfl⟩)
 ·rw[d]at h;simp only[Q1,Q6,QG]at h d;obtain⟨h,b⟩:=h;rw[j0i]at b;subst b;subst d;subst h;exact .inl rfl
theorem jwH {v:V}(h:j0w v=true):v.2.2.size<=30:=by
 rcases jkF h with rfl | ⟨n,_,rfl⟩ | ⟨n,_,rfl⟩ | ⟨s,b,rfl⟩
 ·show (0:Nat)<=30;omega
 ·show (0:Nat)<=30;omega
 ·show (0:Nat)<=30;omega
 ·exact b
def be (n:Nat):Nat->List Int
 | 0=>[]
 |s+1=>((n / 256 ^ s % 256:Nat):Int)::be n s
theorem jvR (n:Nat):(s:Nat)->(be n s).length=s
 | 0=>rfl
 |s+1=>by simp[be,jvR n s]
noncomputable def wB (v:V):List Int:=
 bif v.1==1 then [1,v.2.1]
 else bif v.1==2 then 2::(bif decide (v.2.1<0) then 1 else 0)::be v.2.1.natAbs 6
 else bif v.1==3 then 3::nI v.2.2.size::Z1m v.2.2
 else [0]
theorem jyi {v:V}(h:j0w v=true):(wB v).length<=32:=by
 rcases jkF h with rfl | ⟨n,_,rfl⟩ | ⟨n,_,rfl⟩ | ⟨s,b,rfl⟩
 ·show (1:Nat)<=32;omega
 ·show (2:Nat)<=32;omega
 ·show (2::(bif decide (n<0) then 1 else 0)::be n.natAbs 6).length<=32
  simp[jvR]
 ·show (3::nI s.size::Z1m s).length<=32
  simp[jf0];omega
theorem je8:(l:List V)->(∀v∈l,j0w v=true)->(l.flatMap wB).length<=32 * l.length
 | [],_=>by simp
 |v::l,h=>by
  have d:=jyi (h v (by simp))
  have f:=je8 l λv b=>h v (Qa _ b)
  simp only[QH,Q5,Q8];omega
end Go.PI.G
namespace Go.PI.G
open Go Go.PI Go.Proofs
theorem j6P (x b d:Int)(k:Bool->Res):j0d x b d k=k (decide (b<=x/\x<=d)):=by
 unfold j0d;by_cases h:x>=b
 ·rw[Q3 h,Q1];congr 1;exact Xt.2 (by omega)
 ·rw[Q2 h,Q0];congr 1;exact(Q2 (by omega)).symm
end Go.PI.G
namespace Go.PI.G
open Go Go.PI Go.Proofs
theorem jwh (n:Int)(k:Bool->Res):jiX n k=k (jtK n):=j6P n _ _ k
theorem jaF (v:V)(k:Bool->Res):j1L v k=k (j0w v):=by
 unfold j1L j0w;cases v.1==0
 ·cases v.1==1
  ·cases v.1==2
   ·cases v.1==3
    ·rfl
    ·cases v.2.1==0<;>rfl
   ·rw[Q0,Q0,Q1,jwh];cases jtK v.2.1<;>rfl
  ·cases v.2.1==0
   ·cases v.2.1==1<;>rfl
   ·rfl
 ·cases v.2.1==0<;>rfl
theorem jas (v:V)(k:Bool->Res):j1p v k=k (j0w v):=by
 unfold j1p j0w;simp only[j6P,jwp];cases v.1==0
 ·cases v.1==1
  ·cases v.1==2
   ·cases v.1==3
    ·rfl
    ·cases v.2.1==0<;>rfl
   ·rw[Q0,Q0,Q1,Q0,Q0,Q1];show (bif jtK v.2.1 then _ else _)=_
    cases jtK v.2.1<;>rfl
  ·cases v.2.1==0
   ·cases v.2.1==1<;>rfl
   ·rfl
 ·cases v.2.1==0<;>rfl
end Go.PI.G
namespace Go.PI.G
noncomputable section
open Go Go.PI
def msr:(τ:Ty)->El τ->Nat
 |.str,s=>ByteArray.size s
 |.slice e,l=>List.length (α:=El e) l+(List.map (msr e) l).sum
 |.pair a b,x=>msr a x.1+msr b x.2
 |.int _,_=>0
 |.bool,_=>0
 |.unit,_=>0
def wgt:(τ:Ty)->El τ->Nat
 |.str,_=>1
 |.slice e,l=>(List.map (wgt e) l).sum
 |.pair a b,x=>wgt a x.1+wgt b x.2
 |.int _,_=>1
 |.bool,_=>1
 |.unit,_=>0
def jba:(τ:Ty)->El τ->Nat
 |.slice e,l=>(List.map (wgt e) l).sum
 |.pair a b,x=>jba a x.1+jba b x.2
 |.str,_=>0
 |.int _,_=>0
 |.bool,_=>0
 |.unit,_=>0
def j5V:Ty->Nat
 |.slice e=>j5V e
 |.pair a b=>j5V a+j5V b
 |.unit=>0
 |_=>1
theorem jq7 {α:Type}(f g:α->Nat)(c:Nat)(h:∀x,f x<=(g x+1) * c):(l:List α)->(l.map f).sum<=(l.length+(l.map g).sum) * c
 | []=>by simp
 |x::l=>by
  have b:=h x;have d:=jq7 f g c h l;simp only[Qz,QX,Q8];have:(l.length+1+(g x+(l.map g).sum)) * c=(g x+1) * c+(l.length+(l.map g).sum) * c:=by
   rw[<-QC];congr 1;omega
  omega
theorem jq9:(τ:Ty)->(x:El τ)->wgt τ x<=(msr τ x+1) * j5V τ
 |.str,_=>by simp[wgt,j5V]
 |.int _,_=>by simp[wgt,j5V]
 |.bool,_=>by simp[wgt,j5V]
 |.unit,_=>by simp[wgt]
 |.pair a b,x=>by
  have f:=jq9 a x.1;have h:=jq9 b x.2;simp only[wgt,msr,j5V,Nat.mul_add];have d:(msr a x.1+1) * j5V a<=(msr a x.1+msr b x.2+1) * j5V a:=Qt _ (by omega)
  have g:(msr b x.2+1) * j5V b<=(msr a x.1+msr b x.2+1) * j5V b:=Qt _ (by omega)
  omega
 |.slice e,l=>by
  have f:=jq7 (wgt e) (msr e) (j5V e) (jq9 e) l;simp only[wgt,msr,j5V];have d:(List.length (α:=El e) l+(List.map (msr e) l).sum) * j5V e<=(List.length (α:=El e) l+(List.map (msr e) l).sum+1) * j5V e:=Qt _ (by omega)
  exact Qx f d
theorem jiZ:(τ:Ty)->(x:El τ)->jba τ x<=wgt τ x
 |.str,_=>Qg _
 |.int _,_=>Qg _
 |.bool,_=>Qg _
 |.unit,_=>Qq _
 |.pair a b,x=>Nat.add_le_add (jiZ a x.1) (jiZ b x.2)
 |.slice e,l=>Qq _
theorem j0l {a b:Ty}{x:El (.pair a b)}:msr a x.1<=msr (.pair a b) x:=Nat.le_add_right _ _
theorem j02 {a b:Ty}{x:El (.pair a b)}:msr b x.2<=msr (.pair a b) x:=Nat.le_add_left _ _
def dgt (x:Int):ByteArray:=Z3A [wu8 (Z9J (48+x))]
theorem jgU (x:Int):(dgt x).size=1:=rfl
def jkc (n:Nat):ByteArray:=if h:n<10 then dgt n else jkc (n / 10)++dgt ((n % 10:Nat):Int)
termination_by n
decreasing_by omega
def mT (k:Int):ByteArray:=(⟨#[109]⟩:ByteArray)++jkc k.toNat
def mk:(τ:Ty)->El τ->Int->El τ
 |.str,_,k=>mT k
 |.slice e,l,k=>mkL (wgt e) (mk e) l k
 |.pair a b,x,k=>(mk a x.1 k,mk b x.2 (k+(wgt a x.1:Int)))
 |.int .u8,_,k=>wu8 k
 |.int _,_,k=>k
 |.bool,_,k=>(Int.tmod k 3==0)
 |.unit,x,_=>x
def mkT:(τ:Ty)->El τ->Int->El τ
 |.slice e,l,k=>mkL (wgt e) (mk e) l k
 |.pair a b,x,k=>(mkT a x.1 k,mkT b x.2 (k+(jba a x.1:Int)))
 |.str,x,_=>x
 |.int _,x,_=>x
 |.bool,x,_=>x
 |.unit,x,_=>x
theorem jf6 (e:Ty)(l:List (El e)):msr (.slice e) l=l.length+(l.map (msr e)).sum:=rfl
theorem j0f {e:Ty}{l:List (El e)}{n:Nat}(h:msr (.slice e) l<=n):l.length<=n:=by
 have:msr (.slice e) l=l.length+(l.map (msr e)).sum:=rfl;omega
theorem j0b {e:Ty}{l:List (El e)}{n:Nat}(h:msr (.slice e) l<=n){x:El e}(b:x∈l):msr e x<=n:=by
 have d:msr (.slice e) l=l.length+(l.map (msr e)).sum:=rfl;have:=Z9G (msr e) l x b;omega
theorem jmF {τ:Ty}{x:El τ}(b:j5V τ<=200)(h:msr τ x<=1048576):wgt τ x<=209715400:=by
 have d:=jq9 τ x;have f:(msr τ x+1) * j5V τ<=1048577 * 200:=YK (by omega) b
 omega
theorem j1e (a b:Ty)(x:El (.pair a b)):wgt (.pair a b) x=wgt a x.1+wgt b x.2:=rfl
theorem j28 (k:IntKind)(x:El (.int k)):wgt (.int k) x=1:=rfl
theorem j1d (x:El .bool):wgt .bool x=1:=rfl
theorem j29 (x:El .str):wgt .str x=1:=rfl
theorem j20 (a b:Ty)(x:El (.pair a b))(k:Int):mk (.pair a b) x k=(mk a x.1 k,mk b x.2 (k+(wgt a x.1:Int))):=rfl
theorem j1c (e:Ty)(l:El (.slice e))(k:Int):mk (.slice e) l k=mkL (wgt e) (mk e) l k:=rfl
theorem j3q (x:El (.int .i64))(k:Int):mk (.int .i64) x k=k:=rfl
theorem j6v (x:El (.int .u8))(k:Int):mk (.int .u8) x k=wu8 k:=rfl
theorem j1Z (x:El .bool)(k:Int):mk .bool x k=(Int.tmod k 3==0):=rfl
theorem j3r (x:El .str)(k:Int):mk .str x k=mT k:=rfl
theorem jru (e:Ty)(l:El (.slice e))(k:Int):mkT (.slice e) l k=mkL (wgt e) (mk e) l k:=rfl
theorem jv3 (i:IntKind)(x:El (.int i))(k:Int):mkT (.int i) x k=x:=rfl
theorem jtF (x:El .bool)(k:Int):mkT .bool x k=x:=rfl
theorem jv4 (x:El .str)(k:Int):mkT .str x k=x:=rfl
theorem jrP (a b:Ty)(x:El (.pair a b)):jba (.pair a b) x=jba a x.1+jba b x.2:=rfl
theorem jkG (i:IntKind)(x:El (.int i)):jba (.int i) x=0:=rfl
theorem jio (x:El .bool):jba .bool x=0:=rfl
theorem jkH (x:El .str):jba .str x=0:=rfl
theorem jgo {α:Type}(z:α)(l:List α)(i:Nat)(v:α)(h:i<l.length):nth z (upd l (i:Int) v) (i:Int)=v:=by
 rw[ZaE,Zax _ _ _ (by simpa using h)];simp
theorem jgr {α:Type}(l:List α)(i:Int)(u v:α):upd (upd l i u) i v=upd l i v:=by
 unfold upd;simp
theorem jgq {α:Type}(l:List α)(i:Int)(v:α):(upd l i v).length=l.length:=by unfold upd;simp
end
end Go.PI.G
namespace Go.PI.G
open Go Go.PI
theorem jxx {left:Int}(h:0<=left):szR left 0=left:=by unfold szR;rw[QM (by omega)];omega
theorem jq8 {left:Int}{n rest:Nat}{F:Int->Res}{k:Int->Res}(f:0<=left)(g:left<=1048576)(d:n<=maxLen)(b:(n:Int)<=left->F (left-n)=k (szR (left-n) rest)) :
  (bif decide (Z9J (left-nI n)<0) then k (-1) else F (Z9J (left-nI n)))=k (szR left (n+rest)):=by
 unfold maxLen at d;rw[ZaG (by unfold nI;omega) (by unfold nI;omega)]
 unfold nI;by_cases h:(n:Int)<=left
 ·rw[Za3 (by omega),Q0,b h,Zaj h]
 ·rw[Za4 (by omega),Q1,Zak h]
theorem jhu {left:Int}{k:Int->Res}(b:0<=left):k left=k (szR left 0):=by rw[jxx b]
theorem j00 {i n:Nat}(h:i<n):inb (i:Int) n=true:=ZaJ (by omega) (by omega)
theorem j01 {n:Int}(h: -9223372036854775808<=n/\n<9223372036854775808):Z9J n=n:=ZaG h.1 h.2
theorem jxB (n:Nat):Int.tdiv (n:Int) 10=((n / 10:Nat):Int):=by
 rw[Int.tdiv_eq_ediv_of_nonneg (by omega)];omega
theorem jxC (n:Nat):Int.tmod (n:Int) 10=((n % 10:Nat):Int):=by
 rw[Int.tmod_eq_emod_of_nonneg (by omega)];omega
theorem jqv {n:Nat}(h:n<10):jkc n=dgt n:=by rw[jkc,Yr h]
theorem juT {n:Nat}(h:¬ n<10):jkc n=jkc (n / 10)++dgt ((n % 10:Nat):Int):=by rw[jkc,Yy h]
theorem jrm:∀(d n:Nat),n<10 ^ (d+1)->(jkc n).size<=d+1
 | 0,n,h=>by rw[jqv (by omega),jgU];exact Qq _
 |d+1,n,h=>by
  by_cases b:n<10
  ·rw[jqv b,jgU];omega
  ·rw[juT b,Qi,jgU];have:n / 10<10 ^ (d+1):=Nat.div_lt_of_lt_mul (by rw[Nat.pow_succ]at h;omega)
   have:=jrm d (n / 10) this;omega
theorem jye (s:ByteArray):s++eS=s:=by
 show s++ByteArray.empty=s
 simp
end Go.PI.G
namespace Go.PI.G
noncomputable section
open Go Go.PI
abbrev C:=ByteArray×Int×Bool×Bool×V
abbrev T:=ByteArray×List C×List ByteArray
abbrev DB:=List T×List (List (List V))
abbrev yV:Ty:= .pair (.int .i64) (.pair (.int .i64) .str)
abbrev yC:Ty:= .pair .str (.pair (.int .i64) (.pair .bool (.pair .bool yV)))
abbrev yT:Ty:= .pair .str (.pair (.slice yC) (.slice .str))
abbrev yDB:Ty:= .pair (.slice yT) (.slice (.slice (.slice yV)))
abbrev zV:V:=(0,0,eS)
abbrev zC:C:=(eS,0,false,false,0,0,eS)
abbrev zT:T:=(eS,[],[])
theorem jg8 {α:Type}(p:α->Bool)(l:List α): -1<=Z9E p l/\Z9E p l<(l.length:Int):=by
 unfold Z9E;cases h:l.findIdx? p with
 |none=>simp only[];omega
 |some i=>
  have:=(List.findIdx?_eq_some_iff_findIdx_eq.1 h).1;simp only[];omega
theorem jg7 {α:Type}{f:Nat->α->Bool}:(l:List α)->(i:Nat)->Z70 f i l=false->∀(j:Nat) (h:j<l.length),f (i+j) l[j]=false
 | [],_,_,j,h=>by simp at h
 |x::l,i,h,j,b=>by
  simp only[Z70,Xb]at h;cases j with
  |zero=>simpa using h.1
  |succ j=>
   have:=jg7 l (i+1) h.2 j (by simpa using b)
   rw[show i+(j+1)=i+1+j by omega]
   simpa using this
def j0g (s:ByteArray):Bool:= !((Z1m s).any λb=>decide (b<97)||decide (b>122))&&(decide (1<=s.size)&&decide (s.size<=8))
def veq (a b:V):Bool:=(a.1==b.1)&&((a.2.1==b.2.1)&&sEq a.2.2 b.2.2)
theorem jjX (a b:V):veq a b=true↔a=b:=by
 obtain⟨d,f,g⟩:=a;obtain⟨h,i,j⟩:=b;unfold veq;simp only[Q6,QG,j0i,Qs]
def vlt (a b:V):Bool:=j0w a&&(j0w b&&(bif a.1 != b.1 then decide (a.1<b.1) else bif a.2.1 != b.2.1 then decide (a.2.1<b.2.1) else sLt a.2.2 b.2.2))
def jmI (v:V):Bool:=(v.1==0)&&((v.2.1==0)&&sEq v.2.2 eS)
def j19 (c:C):Bool:=j0g c.1&&(decide (1<=c.2.1/\c.2.1<=3)&&(j0w c.2.2.2.2&&(bif c.2.2.2.1 then (c.2.2.2.2.1==c.2.1)||((c.2.2.2.2.1==0)&& !c.2.2.1) else jmI c.2.2.2.2)))
def j03 (l:List C)(n:ByteArray):Int:=Z9E (λc=>sEq c.1 n) l
theorem jbg (l:List C)(n:ByteArray): -1<=j03 l n/\j03 l n<(l.length:Int):=jg8 _ _
theorem jwG:j0w (0,0,eS)=true:=by
 show (((0:Int)==0)&&sEq eS eS)=true
 rw[Zag];rfl
theorem jvy:jmI (0,0,eS)=true:=by
 show (((0:Int)==0)&&(((0:Int)==0)&&sEq eS eS))=true
 rw[Zag];rfl
def j1D (l:List C):Int->List ByteArray->Bool
 |_,[]=>true
 |b,k::ks=> !decide (j03 l k<=b)&&((nth zC l (j03 l k)).2.2.1&&j1D l (j03 l k) ks)
def j6a (l:List C):Bool:= !Z70 (λi c=> !j19 c||(j03 l c.1 != (i:Int))) 0 l
def j06 (t:T):Bool:=(j0g t.1&&(decide (1<=t.2.1.length)&&(decide (t.2.1.length<=8)&&decide (1<=t.2.2.length))))&&(j6a t.2.1&&j1D t.2.1 (-1) t.2.2)
def j07 (l:List T)(n:ByteArray):Int:=Z9E (λt=>sEq t.1 n) l
def j2Z (c:List T):Bool:=decide (c.length<=6)&& !Z70 (λi t=> !j06 t||(decide (0<i)&&sGe (nth zT c ((i:Int)-1)).1 t.1)) 0 c
def j4Y (c:C)(v:V):Bool:=j0w v&&((v.1==c.2.1)||((v.1==0)&& !c.2.2.1))
def j0z (l:List C)(r:List V):Bool:=decide (r.length=l.length)&& !Z70 (λi c=> !j4Y c (nth zV r (i:Int))) 0 l
def j09 (t:T)(r:List V):List V:=t.2.2.map λk=>nth zV r (j03 t.2.1 k)
def klt:List V->List V->Bool
 | [],[]=>false
 | [],_::_=>true
 |_::_,[]=>false
 |x::xs,y::ys=>bif veq x y then klt xs ys else vlt x y
def j0e (t:T)(l:List (List V)):Bool:=j06 t&&(decide (l.length<=60)&& !Z70 (λi r=> !j0z t.2.1 r||(decide (0<i)&& !klt (j09 t (nth [] l ((i:Int)-1))) (j09 t r))) 0 l)
def dbB (d:DB):Bool:=j2Z d.1&&(decide (d.2.length=d.1.length)&& !Z70 (λi t=> !j0e t (nth [] d.2 (i:Int))) 0 d.1)
theorem j2s {t:T}(h:j06 t=true):j0g t.1=true/\1<=t.2.1.length/\t.2.1.length<=8/\1<=t.2.2.length/\j6a t.2.1=true/\j1D t.2.1 (-1) t.2.2=true:=by
 unfold j06 at h;simp only[Q6,Ql]at h;exact⟨h.1.1,h.1.2.1,h.1.2.2.1,h.1.2.2.2,h.2.1,h.2.2⟩
theorem j1E {l:List C}:(ks:List ByteArray)->(b:Int)-> -1<=b->j1D l b ks=true->∀k∈ks,0<=j03 l k/\j03 l k<(l.length:Int)
 | [],_,_,_,k,d=>by cases d
 |q::ks,b,i,h,k,d=>by
  simp only[j1D,Q6,QF,Xk]at h;have f:=(jg8 (λc:C=>sEq c.1 q) l).2
  have g:0<=j03 l q:=by omega
  rcases Qp.1 d with rfl | d
  ·exact⟨g,f⟩
  ·exact j1E ks (j03 l q) (by omega) h.2.2 k d
theorem jxV {c:C}(h:j19 c=true):1<=c.2.1/\c.2.1<=3:=by
 unfold j19 at h;simp only[Q6,Ql]at h;exact h.2.1
theorem jrj {l:List C}(h:j6a l=true)(i:Nat)(b:i<l.length):j19 l[i]=true:=by
 unfold j6a at h;have:=jg7 l 0 (by simpa using h) i b
 simp only[Xb,Xa]at this;exact this.1
end
end Go.PI.G
namespace Go.PI.G
open Go Go.PI Go.Proofs
theorem jvS (s:ByteArray)(i:Nat)(h:i<(Z1m s).length):bt s (i:Int)=(Z1m s)[i]:=by
 have g:=jf0 s;have d:i<s.data.size:=by
  have:i<s.size:=by omega
  exact this
 have f:(Z1m s)[i]=((s.data.toList.map λb:UInt8=>(b.toNat:Int))[i]'(by simpa using d)):=rfl
 rw[f,Xn];unfold bt;simp[Xp d]
theorem jxH (s:ByteArray)(x:Bool)(k:Bool->Res):(bif x then k false else (bif decide ((nI (ByteArray.size s))>=1) then k (decide ((nI (ByteArray.size s))<=8)) else k false))=k (!x&&(decide (1<=s.size)&&decide (s.size<=8))):=by
 cases x
 ·unfold nI;by_cases b:1<=s.size
  ·rw[Q0,Q3 (show (s.size:Int)>=1 by omega),Q1,Q3 b]
   congr 1;by_cases d:s.size<=8
   ·rw[Q3 (show (s.size:Int)<=8 by omega),Q3 d];rfl
   ·rw[Q2 (show ¬ (s.size:Int)<=8 by omega),Q2 d];rfl
  ·rw[Q0,Q2 (show ¬ (s.size:Int)>=1 by omega),Q0,Q2 b];rfl
 ·rfl
theorem j3e (s:ByteArray)(h:s.size<=LIM)(k:Bool->Res):j0x s k=k (j0g s):=by
 unfold j0x jjR;have g:=jf0 s;have:=Za1 (Z1m s) (λi=>i) (λb=>decide (b<97)||decide (b>122)) (step:=jbZ s) ((λ(_:Unit)=>bif decide ((nI (ByteArray.size s))>=1) then k (decide ((nI (ByteArray.size s))<=8)) else k false),(λ(_:Unit)=>k false)) (bif decide ((nI (ByteArray.size s))>=1) then k (decide ((nI (ByteArray.size s))<=8)) else k false) (k false) (by omega) (λi rec f=>by
  show j5x s _ _ _ _=_
  unfold j5x;unfold LIM at h;have d:i<s.size:=by omega
  rw[ZaP d,Q1,j00 d,Q1,Q1,jvS s i f,j01 (n:=(i:Int)+1) (by omega)]
  cases decide ((Z1m s)[i]<97)
  ·cases decide ((Z1m s)[i]>122)<;>rfl
  ·rfl) (λrec=>by
  show j5x s _ _ _ _=_
  unfold j5x;rw[g,ZaO,Q0])
 refine this.trans ?_;exact jxH s _ k
theorem j37 (s:ByteArray)(h:s.size<=LIM)(k:Bool->Res):j0r s k=k (j0g s):=by
 unfold j0r jee;have j:=jf0 s;have:=Za1 (Z1m s) (λi=>i) (λb=>decide (b<97)||decide (b>122)) (step:=j8l s) ((λ(_:Unit)=>j0d (nI (ByteArray.size s)) 1 8 λ(r:Bool)=>k r),(λ(_:Unit)=>k false)) (j0d (nI (ByteArray.size s)) 1 8 λ(r:Bool)=>k r) (k false) (by omega) (λi rec g=>by
  show j53 s _ _ _ _=_
  unfold j53;unfold LIM at h;have d:i<s.size:=by omega
  rw[ZaP d,Q1,j00 d,Q1,Q1,jvS s i g,j01 (n:=(i:Int)+1) (by omega)]
  cases decide ((Z1m s)[i]<97)
  ·cases decide ((Z1m s)[i]>122)<;>rfl
  ·rfl) (λrec=>by
  show j53 s _ _ _ _=_
  unfold j53;rw[j,ZaO,Q0])
 refine this.trans ?_;rw[j6P];have f:decide (1<=nI s.size/\nI s.size<=8)=(decide (1<=s.size)&&decide (s.size<=8)):=by
  rw[<-Bool.decide_and];exact Xt.2 (by unfold nI;omega)
 rw[f];unfold j0g;cases (Z1m s).any λb=>decide (b<97)||decide (b>122)<;>rfl
end Go.PI.G
namespace Go.PI.G
open Go Go.PI Go.Proofs
theorem jpX (c:C)(h:c.1.size<=LIM)(k:Bool->Res):j6E c k=k (j19 c):=by
 obtain⟨n,ty,w,r,d⟩:=c;unfold j6E j19;dsimp only at h ⊢;rw[j3e n h,jaF];cases j0g n
 ·rfl
 ·rw[Q4,Q0,Qd];by_cases p:1<=ty/\ty<=3
  ·rw[Q2 (show ¬ ty<1 by omega),Q0,Q2 (show ¬ ty>3 by omega),Q0,Q3 p,Qd]
   cases r
   ·rw[QQ,Q1,Q0];have:j0w d=false->jmI d=false:=λj=>by
     cases i:jmI d with
     |false=>rfl
     |true=>
      unfold jmI at i;simp only[Q6,QG,j0i]at i;have:d=(0,0,eS):=by
       obtain⟨a,b,c⟩:=d;simp only at i;rw[i.1,i.2.1,i.2.2]
      rw[this,jwG]at j;cases j
    cases j:j0w d
    ·rw[QW];exact Xv k (this j)
    ·rfl
   ·rw[Q4,Q0,Q1];cases j:j0w d
    ·rfl
    ·rw[Q1,Qd];have g:(d.1==0)=true->((d.1==0)&&((d.2.1==0)&&sEq d.2.2 eS))=true:=λf=>by
      rcases jkF j with rfl | ⟨m,_,rfl⟩ | ⟨m,_,rfl⟩ | ⟨m,_,rfl⟩
      ·exact jvy
      ·cases f
      ·cases f
      ·cases f
     cases f:d.1==0
     ·rw[QW,Q0];cases d.1==ty<;>rfl
     ·have:=g f;rw[f]at this;rw[this,Q1,Q1];have l:(d.1==ty)=false:=by
       simp only[QG]at f;rw[f];simp;omega
      rw[l,XY,Qd]
  ·rw[Q2 p];by_cases q:ty<1
   ·rw[Q3 q];rfl
   ·rw[Q2 q,Q0,Q3 (show ty>3 by omega)];rfl
theorem jp9 (c:C)(h:c.1.size<=LIM)(k:Bool->Res):j6e c k=k (j19 c):=by
 obtain⟨n,ty,f,d,b⟩:=c;unfold j6e j19;dsimp only at h ⊢;rw[j37 n h,j6P,jas];cases j0g n
 ·rfl
 ·cases decide (1<=ty/\ty<=3)
  ·rfl
  ·cases j0w b
   ·rfl
   ·cases d
    ·rfl
    ·cases b.1==ty
     ·cases b.1==0<;>rfl
     ·rfl
theorem j8d (t:T)(n:ByteArray)(h:t.2.1.length<=LIM)(k:Int->Res):j0Q t n k=k (j03 t.2.1 n):=by
 unfold j0Q jlk;refine Z9R t.2.1 (λi=>i) (λc=>sEq c.1 n) (step:=jdk n t.2.1 (nI t.2.1.length)) _ k h (λi rec b=> ?_) (λrec=> ?_)
 ·show j6D n _ _ _ _ _ _=_
  unfold j6D;unfold LIM at h;rw[ZaP b,Q1,j00 b,Q1,Zax _ _ _ b,j01 (n:=(i:Int)+1) (by omega)]
 ·show j6D n _ _ _ _ _ _=_
  unfold j6D;rw[ZaO,Q0]
theorem j9R (t:T)(n:ByteArray)(h:t.2.1.length<=LIM)(k:Int->Res):j0n t n k=k (j03 t.2.1 n):=by
 unfold j0n j8u jaP;refine Z9R t.2.1 (λi=>i) (λc=>sEq c.1 n) (step:=j4C t.2.1 n (nI t.2.1.length)) _ k h (λi rec b=> ?_) (λrec=> ?_)
 ·show j15 _ n _ _ _ _ _=_
  unfold j15 jiO;unfold LIM at h;rw[ZaP b,Q1,j00 b,Q1,Zax _ _ _ b,j01 (n:=(i:Int)+1) (by omega)]
 ·show j15 _ n _ _ _ _ _=_
  unfold j15;rw[ZaO,Q0]
theorem j3b {t:T}(h:msr yT t<=1048576):t.1.size<=1048576/\t.2.1.length<=1048576/\t.2.2.length<=1048576/\(∀c∈t.2.1,c.1.size<=1048576)/\∀x∈t.2.2,x.size<=1048576:=by
 have i:msr yT t=t.1.size+(msr (.slice yC) t.2.1+msr (.slice .str) t.2.2):=rfl;have b:msr (.slice yC) t.2.1<=1048576:=by omega
 have d:msr (.slice .str) t.2.2<=1048576:=by omega
 refine⟨by omega,j0f b,j0f d,λc f=> ?_,λx g=>j0b d g⟩
 have:=j0b b f;have j:msr yC c=c.1.size+msr (.pair (.int .i64) (.pair .bool (.pair .bool yV))) c.2:=rfl;omega
noncomputable def tSm (t:T):Prop:=t.1.size<=1048576/\t.2.1.length<=1048576/\t.2.2.length<=1048576/\(∀c∈t.2.1,c.1.size<=1048576)/\∀x∈t.2.2,x.size<=1048576
theorem jsA (t:T)(h:tSm t)(a b:Unit->Res):j9G t.2.1 (nI t.2.1.length) t Z1b 0 a b=bif j6a t.2.1 then a () else b ():=by
 have f:=h;obtain⟨j,k,l,g,m⟩:=f;unfold j9G;have:=Z9O t.2.1 (λi=>i) (λi c=> !j19 c||(j03 t.2.1 c.1 != (i:Int))) (step:=j4p t.2.1 (nI t.2.1.length) t) (a,b) (a ()) (b ()) (by unfold LIM;omega) (λi rec d=>by
  show j2B _ _ t _ _ _ _=_
  unfold j2B;rw[ZaP d,Q1,j00 d,Q1,Zax _ _ _ d,jpX _ (by have:=g _ (Q7 d);unfold LIM;omega),j8d t _ (by unfold LIM;omega),j01 (n:=(i:Int)+1) (by omega)]
  cases j19 t.2.1[i]
  ·rfl
  ·cases j03 t.2.1 t.2.1[i].1 != (i:Int)<;>rfl) (λrec=>by
  show j2B _ _ t _ _ _ _=_
  unfold j2B;rw[ZaO,Q0])
 refine this.trans ?_;unfold j6a;cases Z70 (λi c=> !j19 c||(j03 t.2.1 c.1 != (i:Int))) 0 t.2.1<;>rfl
theorem jsa (t:T)(h:tSm t)(a b:Unit->Res):j9n t.2.1 (nI t.2.1.length) t Z1b 0 a b=bif j6a t.2.1 then a () else b ():=by
 have f:=h;obtain⟨j,k,l,g,m⟩:=f;unfold j9n;have:=Z9O t.2.1 (λi=>i) (λi c=> !j19 c||(j03 t.2.1 c.1 != (i:Int))) (step:=j45 t.2.1 (nI t.2.1.length) t) (a,b) (a ()) (b ()) (by unfold LIM;omega) (λi rec d=>by
  show j2x _ _ t _ _ _ _=_
  unfold j2x;rw[ZaP d,Q1,j00 d,Q1,Zax _ _ _ d,jp9 _ (by have:=g _ (Q7 d);unfold LIM;omega),j9R t _ (by unfold LIM;omega),j01 (n:=(i:Int)+1) (by omega)]
  cases j19 t.2.1[i]
  ·rfl
  ·cases j03 t.2.1 t.2.1[i].1 != (i:Int)<;>rfl) (λrec=>by
  show j2x _ _ t _ _ _ _=_
  unfold j2x;rw[ZaO,Q0])
 refine this.trans ?_;unfold j6a;cases Z70 (λi c=> !j19 c||(j03 t.2.1 c.1 != (i:Int))) 0 t.2.1<;>rfl
noncomputable def jav (l:List C)(b:Int)(k:ByteArray):Except Unit Int:=bif decide (j03 l k<=b) then .error () else bif !(nth zC l (j03 l k)).2.2.1 then .error () else .ok (j03 l k)
theorem jlW (l:List C):(ks:List ByteArray)->(i:Nat)->(b:Int)->(∃z,Z1R (λ_ b k=>jav l b k) i ks b= .ok z/\j1D l b ks=true)\/(Z1R (λ_ b k=>jav l b k) i ks b= .error ()/\j1D l b ks=false)
 | [],_,b=> .inl ⟨b,rfl,rfl⟩
 |k::ks,i,b=>by
  have d:=jlW l ks (i+1) (j03 l k);simp only[Z1R,j1D,jav]at d ⊢;cases decide (j03 l k<=b)
  ·cases (nth zC l (j03 l k)).2.2.1
   ·exact .inr ⟨rfl,rfl⟩
   ·exact d
  ·exact .inr ⟨rfl,rfl⟩
theorem jsC (t:T)(h:tSm t)(a b:Unit->Res):j9H t.2.2 (nI t.2.2.length) t Z1b (-1) 0 a b=bif j1D t.2.1 (-1) t.2.2 then a () else b ():=by
 have q:=h;obtain⟨w,y,A,B,C⟩:=q;unfold j9H;have:=Z3Y t.2.2 (λi d=>(d,i)) (λ_ d k=>jav t.2.1 d k) (λ_ d=> -1<=d) (step:=j77 t.2.2 (nI t.2.2.length) t) (a,b) (λ_=>a ()) (λ_=>b ()) (-1) (by unfold LIM;omega) (by omega) (λi d m l p g=>by
  unfold jav at g;have:=(jbg t.2.1 t.2.2[i]).1;cases f:decide (j03 t.2.1 t.2.2[i]<=d)
  ·rw[f,Q0]at g;cases j:(nth zC t.2.1 (j03 t.2.1 t.2.2[i])).2.2.1
   ·rw[j]at g;cases g
   ·rw[j]at g;cases g;exact this
  ·rw[f]at g;cases g) (λi d rec l p=>by
  show j4q _ _ t _ _ _ _ _=_
  unfold j4q;dsimp only;rw[ZaP l,cond_true,j00 l,cond_true,Zax _ _ _ l,j8d t _ (by unfold LIM;omega),j01 (n:=(i:Int)+1) (by omega)]
  unfold jav;by_cases f:j03 t.2.1 t.2.2[i]<=d
  ·rw[Q3 f];rfl
  ·have r:=(jbg t.2.1 t.2.2[i]).2;rw[Q2 f,Q0,Q0,ZaJ (by omega) r,Q1]
   cases (nth zC t.2.1 (j03 t.2.1 t.2.2[i])).2.2.1<;>rfl) (λd rec _=>by
  show j4q _ _ t _ _ _ _ _=_
  unfold j4q;dsimp only;rw[ZaO,cond_false])
 refine this.trans ?_;rcases jlW t.2.1 t.2.2 0 (-1)with⟨z,f,j⟩ | ⟨f,j⟩<;>rw[f,j]<;>rfl
theorem jsc (t:T)(h:tSm t)(a b:Unit->Res):j9o t.2.2 (nI t.2.2.length) t Z1b (-1) 0 a b=bif j1D t.2.1 (-1) t.2.2 then a () else b ():=by
 have q:=h;obtain⟨w,y,A,B,C⟩:=q;unfold j9o;have:=Z3Y t.2.2 (λi d=>(d,i)) (λ_ d k=>jav t.2.1 d k) (λ_ d=> -1<=d) (step:=j71 t.2.2 (nI t.2.2.length) t) (a,b) (λ_=>a ()) (λ_=>b ()) (-1) (by unfold LIM;omega) (by omega) (λi d m l p g=>by
  unfold jav at g;have:=(jbg t.2.1 t.2.2[i]).1;cases f:decide (j03 t.2.1 t.2.2[i]<=d)
  ·rw[f,Q0]at g;cases j:(nth zC t.2.1 (j03 t.2.1 t.2.2[i])).2.2.1
   ·rw[j]at g;cases g
   ·rw[j]at g;cases g;exact this
  ·rw[f]at g;cases g) (λi d rec l p=>by
  show j46 _ _ t _ _ _ _ _=_
  unfold j46;dsimp only;rw[ZaP l,cond_true,j00 l,cond_true,Zax _ _ _ l,j9R t _ (by unfold LIM;omega),j01 (n:=(i:Int)+1) (by omega)]
  unfold jav;by_cases f:j03 t.2.1 t.2.2[i]<=d
  ·rw[Q3 f];rfl
  ·have r:=(jbg t.2.1 t.2.2[i]).2;rw[Q2 f,Q0,Q0,ZaJ (by omega) r,Q1]
   cases (nth zC t.2.1 (j03 t.2.1 t.2.2[i])).2.2.1<;>rfl) (λd rec _=>by
  show j46 _ _ t _ _ _ _ _=_
  unfold j46;dsimp only;rw[ZaO,cond_false])
 refine this.trans ?_;rcases jlW t.2.1 t.2.2 0 (-1)with⟨z,f,j⟩ | ⟨f,j⟩<;>rw[f,j]<;>rfl
theorem jxA (t:T)(k:Bool->Res):j6N t k=j0x t.1 λw=>k (!(w&&(decide (1<=t.2.1.length)&&(decide (t.2.1.length<=8)&&decide (1<=t.2.2.length))))):=by
 unfold j6N;congr 1;funext w;unfold nI;cases w
 ·rfl
 ·rw[Q4,Q0,Qd];by_cases b:1<=t.2.1.length
  ·rw[Q2 (show ¬ (t.2.1.length:Int)<1 by omega),Q0,Q3 b,Qd]
   by_cases d:t.2.1.length<=8
   ·rw[Q2 (show ¬ (t.2.1.length:Int)>8 by omega),Q0,Q3 d,Qd]
    congr 1;by_cases f:1<=t.2.2.length
    ·rw[Q2 (show ¬ (t.2.2.length:Int)<1 by omega),Q3 f];rfl
    ·rw[Q3 (show (t.2.2.length:Int)<1 by omega),Q2 f];rfl
   ·rw[Q3 (show (t.2.1.length:Int)>8 by omega),Q2 d];rfl
  ·rw[Q3 (show (t.2.1.length:Int)<1 by omega),Q2 b];rfl
theorem jnD (t:T)(h:tSm t)(k:Bool->Res):j0C t k=k (j06 t):=by
 have b:=h;obtain⟨d,f,g,i,j⟩:=b;unfold j0C j06;rw[jxA,j3e _ (by unfold LIM;omega),jsA t h,jsC t h]
 cases j0g t.1&&(decide (1<=t.2.1.length)&&(decide (t.2.1.length<=8)&&decide (1<=t.2.2.length)))
 ·rfl
 ·cases j6a t.2.1
  ·rfl
  ·cases j1D t.2.1 (-1) t.2.2<;>rfl
theorem jnr (t:T)(h:tSm t)(k:Bool->Res):j0R t k=k (j06 t):=by
 have d:=h;obtain⟨g,i,j,l,m⟩:=d;unfold j0R j06;rw[j37 _ (by unfold LIM;omega),j6P,jsa t h,jsc t h]
 have b:decide (1<=nI t.2.1.length/\nI t.2.1.length<=8)=(decide (1<=t.2.1.length)&&decide (t.2.1.length<=8)):=by
  rw[<-Bool.decide_and];exact Xt.2 (by unfold nI;omega)
 have f:decide (nI t.2.2.length>0)=decide (1<=t.2.2.length):=Xt.2 (by unfold nI;omega)
 rw[b,f];cases j6a t.2.1
 ·rw[QW,XF];rfl
 ·cases j1D t.2.1 (-1) t.2.2
  ·rw[XF,XF];rfl
  ·cases j0g t.1
   ·rfl
   ·cases decide (1<=t.2.1.length)
    ·rfl
    ·cases decide (t.2.1.length<=8)
     ·rfl
     ·cases decide (1<=t.2.2.length)<;>rfl
theorem jgk (t:T)(h:msr yT t<=1048576)(k:Bool->Res):j0C t k=k (j06 t):=jnD t (j3b h) k
theorem jkh (t:T)(h:msr yT t<=1048576)(k:Bool->Res):j0R t k=k (j06 t):=jnr t (j3b h) k
theorem jt7 (c:List T)(i:Nat)(d:i<c.length)(b:c.length<=LIM)(x:Res)(y:Res):(bif decide ((i:Int)>0) then (bif inb (Z9J ((i:Int)-1)) c.length then (bif sGe (nth zT c (Z9J ((i:Int)-1))).1 c[i].1 then x else y) else none) else y) =
  bif (decide (0<i)&&sGe (nth zT c ((i:Int)-1)).1 c[i].1) then x else y:=by
 by_cases h:0<i
 ·unfold LIM at b;rw[Q3 (show (i:Int)>0 by omega),Q3 h,Q1,j01 (by omega),ZaJ (by omega) (by omega),Q1,Qd]
 ·rw[Q2 (show ¬ (i:Int)>0 by omega),Q2 h];rfl
end Go.PI.G
namespace Go.PI.G
open Go Go.PI
def free (b:Int)(s:ByteArray):Prop:=b ∉ Z1m s
theorem j4H {s:ByteArray}(h:j0g s=true):1<=s.size/\s.size<=8:=by
 unfold j0g at h;simp only[Q6,Ql]at h;exact h.2
end Go.PI.G
namespace Go.PI.G
open Go Go.PI
abbrev D:=Int×ByteArray×List C×List ByteArray×ByteArray×ByteArray
abbrev ST:=Int×ByteArray×List V×List V×D
abbrev yD:Ty:= .pair (.int .i64) (.pair .str (.pair (.slice yC) (.pair (.slice .str) (.pair .str .str))))
abbrev yST:Ty:= .pair (.int .i64) (.pair .str (.pair (.slice yV) (.pair (.slice yV) yD)))
abbrev zD:D:=(0,eS,[],[],eS,eS)
abbrev zST:ST:=(0,eS,[],[],0,eS,[],[],eS,eS)
theorem jsL:∃m,Z1b=m+1:=⟨Z1b-1,by have:=Z2a (n:=1) (by omega);omega⟩
theorem j4Q (n:Nat):(nI n==0)=(n==0):=by
 unfold nI;cases n with
 |zero=>rfl
 |succ n=>show ((((n+1:Nat):Int))==0)=false;simp;omega
theorem jwl (n:Nat):(nI n==1)=(n==1):=by
 unfold nI;by_cases h:n=1
 ·subst h;rfl
 ·have b:(n==1)=false:=by simp[h]
  have d:((n:Int)==1)=false:=by simp;omega
  rw[b,d]
theorem jvx (m n:Nat):(nI m != nI n)= !(m==n):=by
 unfold nI;by_cases h:m=n
 ·subst h;simp
 ·have b:(m==n)=false:=by simp[h]
  have d:((m:Int) != n)=true:=by simp;omega
  rw[b,d];rfl
def noD (d:D):Bool:=(d.1==0)&&(sEq d.2.1 eS&&((d.2.2.1.length==0)&&((d.2.2.2.1.length==0)&&(sEq d.2.2.2.2.1 eS&&sEq d.2.2.2.2.2 eS))))
def jf8 (d:D):Bool:=(d.2.2.1.length==0)&&(d.2.2.2.1.length==0)
noncomputable def j1a (d:D):Bool:=j0g d.2.1 &&
 (bif d.1==1 then sEq d.2.2.2.2.1 eS&&(sEq d.2.2.2.2.2 eS&&j06 (d.2.1,d.2.2.1,d.2.2.2.1))
  else bif d.1==2 then jf8 d&&(sEq d.2.2.2.2.1 eS&&sEq d.2.2.2.2.2 eS)
  else bif d.1==3 then (d.2.2.1.length==1)&&(j19 (nth zC d.2.2.1 0)&&(((nth zC d.2.2.1 0).2.2.2.1|| !(nth zC d.2.2.1 0).2.2.1)&&((d.2.2.2.1.length==0)&&(sEq d.2.2.2.2.1 eS&&sEq d.2.2.2.2.2 eS))))
  else bif d.1==4 then jf8 d&&(j0g d.2.2.2.2.1&&sEq d.2.2.2.2.2 eS)
  else bif d.1==5 then jf8 d&&(j0g d.2.2.2.2.1&&j0g d.2.2.2.2.2)
  else false)
def j2t (l:List V):Bool:=l.all j0w&&(decide (1<=l.length)&&decide (l.length<=8))
noncomputable def stB (s:ST):Bool:=j0g s.2.1 &&
 (bif s.1==1 then (s.2.2.1.length==0)&&(j2t s.2.2.2.1&&noD s.2.2.2.2)
  else bif s.1==2 then j2t s.2.2.1&&(j2t s.2.2.2.1&&noD s.2.2.2.2)
  else bif s.1==3 then j2t s.2.2.1&&((s.2.2.2.1.length==0)&&noD s.2.2.2.2)
  else bif s.1==4 then (s.2.2.1.length==0)&&((s.2.2.2.1.length==0)&&noD s.2.2.2.2)
  else bif s.1==5 then (s.2.2.1.length==0)&&((s.2.2.2.1.length==0)&&(j1a s.2.2.2.2&&sEq s.2.2.2.2.2.1 s.2.1))
  else false)
def dSm (d:D):Prop:=d.2.1.size<=1048576/\d.2.2.1.length<=1048576/\d.2.2.2.1.length<=1048576/\(∀c∈d.2.2.1,c.1.size<=1048576)/\(∀x∈d.2.2.2.1,x.size<=1048576)/\d.2.2.2.2.1.size<=1048576/\d.2.2.2.2.2.size<=1048576
def j12 (s:ST):Prop:=s.2.1.size<=1048576/\s.2.2.1.length<=1048576/\s.2.2.2.1.length<=1048576/\dSm s.2.2.2.2
theorem jjE (d:D):noD d=true↔d=zD:=by
 obtain⟨a,b,c,e,f,g⟩:=d;unfold noD;simp only[Q6,QG,j0i,Qs,Qv]
theorem j8h {d:D}(h:j1a d=true):j0g d.2.1=true /\
  ((∃t cs ks,d=(1,t,cs,ks,eS,eS)/\j06 (t,cs,ks)=true)\/(∃t,d=(2,t,[],[],eS,eS))\/(∃t c,d=(3,t,[c],[],eS,eS)/\j19 c=true) \/
   (∃t n,d=(4,t,[],[],n,eS)/\j0g n=true)\/∃t n m,d=(5,t,[],[],n,m)/\j0g n=true/\j0g m=true):=by
 obtain⟨k,t,cs,ks,n,m⟩:=d;unfold j1a jf8 at h;dsimp only at h ⊢;rw[Bool.and_eq_true]at h;refine⟨h.1,?_⟩;have h:=h.2;cases g:k==1
 ·cases i:k==2
  ·cases j:k==3
   ·cases l:k==4
    ·cases p:k==5
     ·rw[g,i,j,l,p]at h;cases h
     ·rw[g,i,j,l,p]at h;simp only[Q0,Q1,Q6,QG]at h p;obtain⟨⟨a,b⟩,c,e⟩:=h;rw[Qv]at a b;subst a;subst b;subst p;exact .inr (.inr (.inr (.inr ⟨t,n,m,rfl,c,e⟩)))
    ·rw[g,i,j,l]at h;simp only[Q0,Q1,Q6,QG,j0i]at h l;obtain⟨⟨a,b⟩,c,e⟩:=h;rw[Qv]at a b;subst a;subst b;subst l;subst e;exact .inr (.inr (.inr (.inl ⟨t,n,rfl,c⟩)))
   ·rw[g,i,j]at h;simp only[Q0,Q1,Q6,QG,j0i]at h j;obtain⟨a,b,_,c,e,f⟩:=h;obtain⟨c0,rfl⟩:=List.length_eq_one_iff.1 a;rw[Qv]at c;subst c;subst j;subst e;subst f;exact .inr (.inr (.inl ⟨t,c0,rfl,b⟩))
  ·rw[g,i]at h;simp only[Q0,Q1,Q6,QG,j0i]at h i;obtain⟨⟨a,b⟩,e,f⟩:=h;rw[Qv]at a b;subst a;subst b;subst i;subst e;subst f;exact .inr (.inl ⟨t,rfl⟩)
 ·rw[g]at h;simp only[Q1,Q6,QG,j0i]at h g;obtain⟨e,f,a⟩:=h;subst g;subst e;subst f;exact .inl ⟨t,cs,ks,rfl,a⟩
theorem jrL {s:ST}(h:stB s=true):j0g s.2.1=true /\
  ((∃t r,s=(1,t,[],r,zD)/\j2t r=true)\/(∃t q r,s=(2,t,q,r,zD)/\j2t q=true/\j2t r=true)\/(∃t q,s=(3,t,q,[],zD)/\j2t q=true) \/
   (∃t,s=(4,t,[],[],zD))\/∃d:D,s=(5,d.2.1,[],[],d)/\j1a d=true):=by
 obtain⟨k,t,q,r,d⟩:=s;unfold stB at h;dsimp only at h ⊢;rw[Bool.and_eq_true]at h;refine⟨h.1,?_⟩;have h:=h.2;cases f:k==1
 ·cases g:k==2
  ·cases i:k==3
   ·cases j:k==4
    ·cases l:k==5
     ·rw[f,g,i,j,l]at h;cases h
     ·rw[f,g,i,j,l]at h;simp only[Q0,Q1,Q6,QG,j0i]at h l;obtain⟨a,b,c,e⟩:=h;rw[Qv]at a b;subst a;subst b;subst l;subst e;exact .inr (.inr (.inr (.inr ⟨d,rfl,c⟩)))
    ·rw[f,g,i,j]at h;simp only[Q0,Q1,Q6,QG,jjE]at h j;obtain⟨a,b,c⟩:=h;rw[Qv]at a b;subst a;subst b;subst j;subst c;exact .inr (.inr (.inr (.inl ⟨t,rfl⟩)))
   ·rw[f,g,i]at h;simp only[Q0,Q1,Q6,QG,jjE]at h i;obtain⟨a,b,c⟩:=h;rw[Qv]at b;subst b;subst i;subst c;exact .inr (.inr (.inl ⟨t,q,rfl,a⟩))
  ·rw[f,g]at h;simp only[Q0,Q1,Q6,QG,jjE]at h g;obtain⟨a,b,c⟩:=h;subst g;subst c;exact .inr (.inl ⟨t,q,r,rfl,a,b⟩)
 ·rw[f]at h;simp only[Q1,Q6,QG,jjE]at h f;obtain⟨a,b,c⟩:=h;rw[Qv]at a;subst a;subst f;subst c;exact .inl ⟨t,r,rfl,b⟩
theorem juM {l:List V}(h:j2t l=true):1<=l.length/\l.length<=8/\∀v∈l,j0w v=true:=by
 unfold j2t at h;simp only[Q6,Ql,QD]at h;exact⟨h.2.1,h.2.2,h.1⟩
end Go.PI.G
namespace Go.PI.G
open Go Go.PI Go.Proofs
theorem jf2 (l:List ByteArray)(k:Bool->Res):j2V l [] k=k (l.length==0):=by
 unfold j2V;rw[jvx];cases l with
 |nil=>
  obtain⟨m,b⟩:=jsL;rw[show (!(([]:List ByteArray).length==([]:List ByteArray).length))=false from rfl,Q0]
  unfold jbv;rw[b,Z9X];rfl
 |cons x l=>rfl
theorem jhW (l:List C)(k:Bool->Res):j1Q l [] k=k (l.length==0):=by
 unfold j1Q;rw[jvx];cases l with
 |nil=>
  obtain⟨m,b⟩:=jsL;rw[show (!(([]:List C).length==([]:List C).length))=false from rfl,Q0]
  unfold j9g;rw[b,Z9X];rfl
 |cons x l=>rfl
theorem jvl (l:List C)(h:l.length<=LIM)(k:Bool->Res):j1Q l l k=k true:=by
 unfold j1Q j9g;rw[jvx,Xe,Q4,Q0];have:=Za1 l (λi=>i) (λ_=>false) (step:=j7V l l (nI l.length)) ((λ(_:Unit)=>k true),(λ(_:Unit)=>k false)) (k true) (k false) h (λi rec b=>by
  show j22 _ _ _ _ _ _ _=_
  unfold j22;unfold LIM at h;have d:∀x:Bool,(x==x)=true:=by decide
  rw[ZaP b,Q1,j00 b,Q1,Q1];simp only[Zag,Xe,d,Xm,Q4,Q0];rw[j01 (by omega)]) (λrec=>by
  show j22 _ _ _ _ _ _ _=_
  unfold j22;rw[ZaO,Q0])
 refine this.trans ?_;have:(l.any λ_=>false)=false:=by simp
 rw[this,Q0]
theorem jxJ {d:D}(h:dSm d):tSm (d.2.1,d.2.2.1,d.2.2.2.1):=⟨h.1,h.2.1,h.2.2.1,h.2.2.2.1,h.2.2.2.2.1⟩
theorem jyc (d:D)(K:Bool->Res):j8W d K=K (jf8 d):=by
 unfold j8W jf8;rw[j4Q,j4Q];cases d.2.2.1.length==0<;>rfl
theorem jky (d:D)(h:dSm d)(k:Bool->Res):j3f d k=k (j1a d):=by
 have i:=jxJ h;obtain⟨w,y,z,j,A,B,C⟩:=h;obtain⟨b,t,cs,ks,n,m⟩:=d;dsimp only at w y z j A B C i;unfold j3f j1a;rw[jyc];generalize r:jf8 (b,t,cs,ks,n,m)=g;dsimp only;rw[j3e _ (by unfold LIM;omega),j4Q]
 cases j0g t
 ·rfl
 ·rw[Q4,Q0,Qd];cases b==1
  ·cases b==2
   ·cases b==3
    ·cases b==4
     ·cases b==5
      ·rfl
      ·rw[Q0,Q0,Q0,Q0,Q1,Q0,Q0,Q0,Q0,Q1,j3e n (by unfold LIM;omega),j3e m (by unfold LIM;omega)]
       cases g
       ·rfl
       ·cases j0g n<;>rfl
     ·rw[Q0,Q0,Q0,Q1,Q0,Q0,Q0,Q1,j3e n (by unfold LIM;omega)]
      cases g
      ·rfl
      ·cases j0g n<;>rfl
    ·rw[Q0,Q0,Q1,Q0,Q0,Q1,jwl];cases q:cs.length==1
     ·rfl
     ·have f:cs.length=1:=by simpa using q
      have p:inb 0 cs.length=true:=by rw[f];rfl
      have l:(nth zC cs 0).1.size<=LIM:=by
       have:=j (nth zC cs 0) (by rw[show (0:Int)=((0:Nat):Int) by rfl,Zax _ _ _ (by omega)];exact Q7 _)
       unfold LIM;omega
      rw[Q1,p,Q1,jpX _ l,Qd];cases j19 (nth zC cs 0)
      ·rfl
      ·rw[Q1,Q1,Q1,Qd];cases (nth zC cs 0).2.2.2.1
       ·cases (nth zC cs 0).2.2.1
        ·cases ks.length==0
         ·rfl
         ·cases sEq n eS<;>rfl
        ·rfl
       ·cases ks.length==0
        ·rfl
        ·cases sEq n eS<;>rfl
   ·rw[Q0,Q1,Q0,Q1];cases g
    ·rfl
    ·cases sEq n eS<;>rfl
  ·rw[Q1,Q1,jnD _ i];cases sEq n eS
   ·rfl
   ·cases sEq m eS<;>rfl
theorem jnq (d:D)(h:dSm d)(k:T->Res):j3Q d k=k (d.2.1,d.2.2.1,d.2.2.2.1):=by
 unfold j3Q j4L j0t;have b:=h.2.1;have f:=h.2.2.1;dsimp only;rw[ZaK (by unfold LIM;omega),cond_true,ZaK (by unfold LIM;omega),cond_true]
theorem jke (d:D)(h:dSm d)(k:Bool->Res):j38 d k=k (j1a d):=by
 have i:=jxJ h;have f:=jnq d h;obtain⟨z,A,B,j,C,E,F⟩:=h;obtain⟨b,t,cs,ks,n,m⟩:=d;dsimp only at z A B j C E F i f;unfold j38 j1a jf8;dsimp only;rw[j37 _ (by unfold LIM;omega)]
 have l:cs.length<=LIM:=by unfold LIM;omega
 have G:ks.length<=LIM:=by unfold LIM;omega
 cases j0g t
 ·rfl
 ·rw[Q4,Q0,Qd];cases q:b==1
  ·cases b==2
   ·cases b==3
    ·cases b==4
     ·cases b==5
      ·rfl
      ·rw[cond_false,cond_false,cond_false,cond_false,cond_true,cond_false,cond_false,cond_false,cond_false,cond_true];unfold j0m;dsimp only;rw[beq_self_eq_true,cond_true,Zag,cond_true,jhW,jf2,Zag,cond_true,Zag,j37 n (by unfold LIM;omega),j37 m (by unfold LIM;omega)]
       cases cs.length==0
       ·rfl
       ·cases ks.length==0
        ·rfl
        ·cases j0g n<;>rfl
     ·rw[cond_false,cond_false,cond_false,cond_true,cond_false,cond_false,cond_false,cond_true];unfold j0m;dsimp only;rw[beq_self_eq_true,cond_true,Zag,cond_true,jhW,jf2,Zag,cond_true,j37 n (by unfold LIM;omega)]
      cases cs.length==0
      ·rfl
      ·cases ks.length==0
       ·rfl
       ·cases sEq m eS<;>cases j0g n<;>rfl
    ·rw[cond_false,cond_false,cond_true,cond_false,cond_false,cond_true,jwl];unfold j0m;dsimp only;rw[beq_self_eq_true,cond_true,Zag,cond_true,jvl _ l,cond_true,jf2];cases y:cs.length==1
     ·cases ks.length==0
      ·rfl
      ·cases sEq n eS
       ·rfl
       ·cases sEq m eS<;>rfl
     ·have g:cs.length=1:=by simpa using y
      have w:inb 0 cs.length=true:=by rw[g];rfl
      have r:(nth zC cs 0).1.size<=LIM:=by
       have:=j (nth zC cs 0) (by rw[show (0:Int)=((0:Nat):Int) by rfl,Zax _ _ _ (by omega)];exact Q7 _)
       unfold LIM;omega
      rw[w,jp9 _ r];cases ks.length==0
      ·cases j19 (nth zC cs 0)<;>cases (nth zC cs 0).2.2.2.1<;>cases (nth zC cs 0).2.2.1<;>rfl
      ·cases sEq n eS
       ·cases j19 (nth zC cs 0)<;>cases (nth zC cs 0).2.2.2.1<;>cases (nth zC cs 0).2.2.1<;>rfl
       ·cases sEq m eS<;>cases j19 (nth zC cs 0)<;>cases (nth zC cs 0).2.2.2.1<;>cases (nth zC cs 0).2.2.1<;>rfl
   ·rw[cond_false,cond_true,cond_false,cond_true];unfold j0m;dsimp only;rw[beq_self_eq_true,cond_true,Zag,cond_true,jhW,jf2];cases cs.length==0
    ·rfl
    ·cases ks.length==0
     ·rfl
     ·cases sEq n eS<;>rfl
  ·have p:b=1:=by simpa using q
   subst p;rw[Q1,Q1,f,jnr _ i];cases j06 (t,cs,ks)
   ·cases sEq n eS
    ·rfl
    ·cases sEq m eS<;>rfl
   ·cases sEq n eS<;>cases sEq m eS<;>rfl
theorem jq3 (d:D)(k:Bool->Res):j1N d k=k (noD d):=by
 unfold j1N noD;rw[j4Q,j4Q];cases d.1==0
 ·rfl
 ·cases sEq d.2.1 eS
  ·rfl
  ·cases d.2.2.1.length==0
   ·rfl
   ·cases d.2.2.2.1.length==0
    ·rfl
    ·cases sEq d.2.2.2.2.1 eS<;>rfl
theorem jpb (d:D)(k:Bool->Res):j0m d zD k=k (noD d):=by
 unfold j0m noD;rw[jhW,jf2];cases d.1==0
 ·rfl
 ·cases sEq d.2.1 eS
  ·rfl
  ·cases d.2.2.1.length==0
   ·rfl
   ·cases d.2.2.2.1.length==0
    ·rfl
    ·cases sEq d.2.2.2.2.1 eS<;>rfl
theorem jnE (l:List V)(h:l.length<=LIM)(k:Bool->Res):j3z l k=k (j2t l):=by
 unfold j3z jil j2t;have:=Za1 l (λi=>i) (λv=> !j0w v) (step:=jb9 l (nI l.length)) ((λ(_:Unit)=>bif decide ((nI l.length)>=1) then k (decide ((nI l.length)<=8)) else k false),(λ(_:Unit)=>k false)) (bif decide ((nI l.length)>=1) then k (decide ((nI l.length)<=8)) else k false) (k false) h (λi rec d=>by
  show j4v _ _ _ _ _ _=_
  unfold j4v;unfold LIM at h;rw[ZaP d,Q1,j00 d,Q1,Zax _ _ _ d,jaF,j01 (n:=(i:Int)+1) (by omega)]) (λrec=>by
  show j4v _ _ _ _ _ _=_
  unfold j4v;rw[ZaO,Q0])
 refine this.trans ?_;have b:(l.any λv=> !j0w v)= !l.all j0w:=by rw[Y5];simp
 rw[b];unfold nI;cases l.all j0w
 ·rfl
 ·rw[Q4,Q0,Qd];by_cases f:1<=l.length
  ·rw[Q3 (show (l.length:Int)>=1 by omega),Q1,Q3 f,Qd]
   congr 1;exact Xt.2 (by omega)
  ·rw[Q2 (show ¬ (l.length:Int)>=1 by omega),Q0,Q2 f,QW]
theorem jns (l:List V)(h:l.length<=LIM)(k:Bool->Res):j2h l k=k (j2t l):=by
 unfold j2h j2P j8w jaR j2t;rw[j6P];have f:decide (1<=nI l.length/\nI l.length<=8)=(decide (1<=l.length)&&decide (l.length<=8)):=by
  rw[<-Bool.decide_and];exact Xt.2 (by unfold nI;omega)
 rw[f];cases decide (1<=l.length)&&decide (l.length<=8)
 ·rw[XF];rfl
 ·rw[Q1,Xm];have:=Z9R l (λi=>i) (λv=> !j0w v) (step:=j4E l (nI l.length)) ((λ(_:Unit)=>k (!decide ((-1:Int)>=0))),(λ(t:Int)=>k (!decide (t>=0)))) (λr=>k (!decide (r>=0))) h (λi rec b=>by
   show j17 _ _ _ _ _ _=_
   unfold j17 jfq;unfold LIM at h;rw[ZaP b,Q1,j00 b,Q1,Zax _ _ _ b,jas,j01 (n:=(i:Int)+1) (by omega)]) (λrec=>by
   show j17 _ _ _ _ _ _=_
   unfold j17;rw[ZaO,Q0])
  refine this.trans ?_;congr 1;unfold Z9E;cases d:l.findIdx? λv=> !j0w v with
  |none=>
   rw[Y8]at d;symm;show l.all j0w=true
   rw[QD];intro v j;simpa using d v j
  |some i=>
   dsimp only;rw[decide_eq_true (show (i:Int)>=0 by omega)]
   obtain⟨b,g,_⟩:=Xl.1 d;symm;show l.all j0w=false
   rw[List.all_eq_false];exact⟨l[i],Q7 _,by simpa using g⟩
theorem jig (s:ST)(h:j12 s)(k:Bool->Res):j2g s k=k (stB s):=by
 obtain⟨g,i,j,f⟩:=h;unfold j2g stB j82;have b:s.2.2.1.length<=LIM:=by unfold LIM;omega
 have d:s.2.2.2.1.length<=LIM:=by unfold LIM;omega
 rw[j3e _ (by unfold LIM;omega),j4Q,j4Q]
 simp only[jnE _ b,jnE _ d,jq3,jky _ f];cases j0g s.2.1
 ·rfl
 ·rw[Q4,Q0,Qd];cases s.1==1
  ·cases s.1==2
   ·cases s.1==3
    ·cases s.1==4
     ·cases s.1==5
      ·rfl
      ·cases s.2.2.1.length==0
       ·rfl
       ·cases s.2.2.2.1.length==0
        ·rfl
        ·cases j1a s.2.2.2.2<;>rfl
     ·cases s.2.2.1.length==0
      ·rfl
      ·cases s.2.2.2.1.length==0<;>rfl
    ·cases j2t s.2.2.1
     ·rfl
     ·cases s.2.2.2.1.length==0<;>rfl
   ·cases j2t s.2.2.1
    ·rfl
    ·cases j2t s.2.2.2.1<;>rfl
  ·cases s.2.2.1.length==0
   ·rfl
   ·cases j2t s.2.2.2.1<;>rfl
theorem jvZ {d:D}(h:j1a d=true):j0g d.2.1=true:=by
 unfold j1a at h;rw[Q6]at h;exact h.1
theorem ji0 (s:ST)(h:j12 s)(k:Bool->Res):j1i s k=k (stB s):=by
 obtain⟨n,p,q,m⟩:=h;unfold j1i stB j7u;have d:s.2.2.1.length<=LIM:=by unfold LIM;omega
 have f:s.2.2.2.1.length<=LIM:=by unfold LIM;omega
 rw[j37 _ (by unfold LIM;omega),j4Q,j4Q]
 simp only[jns _ d,jns _ f,jpb,jke _ m];cases i:s.1==5
 ·rw[Q0];cases j0g s.2.1
  ·rfl
  ·rw[Q4,Q0,Qd];cases s.1==1
   ·cases s.1==2
    ·cases s.1==3
     ·cases s.1==4
      ·cases noD s.2.2.2.2<;>rfl
      ·cases noD s.2.2.2.2<;>cases s.2.2.1.length==0<;>cases s.2.2.2.1.length==0<;>rfl
     ·cases noD s.2.2.2.2<;>cases j2t s.2.2.1<;>cases s.2.2.2.1.length==0<;>rfl
    ·cases noD s.2.2.2.2<;>cases j2t s.2.2.1<;>cases j2t s.2.2.2.1<;>rfl
   ·cases noD s.2.2.2.2<;>cases s.2.2.1.length==0<;>cases j2t s.2.2.2.1<;>rfl
 ·have g:s.1=5:=by simpa using i
  rw[Q1,g,show ((5:Int)==1)=false from rfl,show ((5:Int)==2)=false from rfl,show ((5:Int)==3)=false from rfl,show ((5:Int)==4)=false from rfl,Q0,Q0,Q0,Q0,Q1]
  cases j:j1a s.2.2.2.2
  ·rw[Q0];cases j0g s.2.1<;>cases s.2.2.1.length==0<;>cases s.2.2.2.1.length==0<;>rfl
  ·rw[Q1,Zaf s.2.1];cases l:sEq s.2.2.2.2.2.1 s.2.1
   ·rw[Q0];cases j0g s.2.1<;>cases s.2.2.1.length==0<;>cases s.2.2.2.1.length==0<;>rfl
   ·have b:=jvZ j;rw[(j0i _ _).1 l]at b;rw[b];cases s.2.2.1.length==0<;>cases s.2.2.2.1.length==0<;>rfl
end Go.PI.G
