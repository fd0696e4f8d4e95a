/-
  Program's code interpreted over typed values; printed texts; plain laws. No conditions.
-/
import Derived.Test.YtnemiodjnhfejaaGreatPc
import Derived.Test.YtnemiodjnhfejaaGreatPTd
import Derived.Test.YtnemiodjnhfejaaGreatPTh
import Derived.Test.YtnemiodjnhfejaaGreatPTe
set_option linter.unusedVariables false
set_option maxRecDepth 100000
namespace Go.PI.G
noncomputable section
open Go Go.PI Go.Proofs
open Go.Code (pl pr)
def j4l (a:List qP) (left:Int) (i:Int) (rec:Int->Int->Res) (b:Int->Res) (d:Unit->Res):Res:=bif decide (i<(nI (List.length a))) then bif inb i (List.length a) then jdS (nth (0,0,0,eS,[],[],0,eS,[],[],eS,eS) a i) left λr=>bif decide (r<0) then d () else rec r (Z9K (i+1)) else none else b left
def jez (a:List qP):(Int×Int)->(Int×Int->Res)->((Int->Res)×(Unit->Res))->Res:=λv rec q=>j4l a v.1 v.2 (λleft i=>rec (left,i)) q.1 q.2
def jcc (a:List qP) (n:Nat) (left:Int) (i:Int) (b:Int->Res) (d:Unit->Res):Res:=Z1f (jez a) n (left,i) (b,d)
def jfJ:Z1d Unit:=NdL 27 27 [.R 0 y20 .S,.I 1,.I 5] [] (λd f=>(d.2.1,d.2.2.1)) (λd v=>(d.1,v.1,v.2,())) (λf v=>()) (λd f=>jez d.1) λd f g=>((λb=>g (.exit 0) [(1,vI b)] []),(λ_=>g .ret [(4,vI (-1))] []))
theorem jlR:CN 0 122 Tryz.f26 jfJ:=lK (Za6 jiA Zas) [] oN ([],[]) [(0,[1],[])] ([4],[]) λ_ _ _ _ _=>by kernel_rfl
def j9C (a:List qP) (left:Int) (d:Int->Res):Res:=bif decide ((Z9K (left-(nI (List.length a))))<0) then d (-1) else jcc a Z1c (Z9K (left-(nI (List.length a)))) 0 (λb=>d b) (λ_=>d (-1))
def jdh:Sig Unit:=sg [.look y20 false,.look tI false] [false] [(y20,none),(tI,none)] [] λb f k=>j9C b.1 b.2.1 (λd=>k [wI d] [] [])
theorem jnR:SO 26 jdh:=fK (np:=0) (Za6 jiA Zas) [jfJ] (oI 122 0 @jlR oN) false Tryz.func26 λ_ _ _ _=>by kernel_rfl
def j4o (a:List qP) (b:List qP) (i:Int) (rec:(List qP)->Int->Res) (d:(List qP)->Res):Res:=bif decide (i<(nI (List.length a))) then bif inb i (List.length a) then jdU (nth (0,0,0,eS,[],[],0,eS,[],[],eS,eS) a i) λr=>bif inb i (List.length b) then rec (upd b i r) (Z9K (i+1)) else none else none else d b
def jad (a:List qP):((List qP)×Int)->((List qP)×Int->Res)->(((List qP)->Res))->Res:=λv rec q=>j4o a v.1 v.2 (λb i=>rec (b,i)) q
def jmI (a:List qP) (n:Nat) (b:List qP) (i:Int) (d:(List qP)->Res):Res:=Z1f (jad a) n (b,i) (d)
def jfM:Z1d Unit:=NdL 23 23 [.R 0 y20 .S,.R 3 y20 .O,.I 4] [] (λb f=>(b.2.1,b.2.2.1)) (λb v=>(b.1,v.1,v.2,())) (λf v=>()) (λb f=>jad b.1) λb f g=>((λd=>g (.exit 0) [(3,v1 y20 d .O)] []))
theorem jlU:CN 0 58 Tryz.f28 jfM:=lK (Za6 jiC Zas) [] oN ([],[]) [(0,[3],[])] ([],[]) λ_ _ _ _ _=>by kernel_rfl
def j2y (a:List qP) (d:(List qP)->Res):Res:=bif Z9I (nI (List.length a)) (nI (List.length a)) then jmI a Z1c (Z9h (nI (List.length a)) (0,0,0,eS,[],[],0,eS,[],[],eS,eS)) 0 λb=>d b else none
def j9W:Sig Unit:=sg [.borrow y20 false] [false] [(y20,none)] [] λd f k=>j2y d.1 (λb=>k [w1 y20 b .O] [] [])
theorem jnU:SO 28 j9W:=fK (np:=0) (Za6 jiC Zas) [jfM] (oI 58 0 @jlU oN) false Tryz.func28 λ_ _ _ _=>by kernel_rfl
def j48 (a:List qP) (b:List qP) (i:Int) (rec:Int->Res) (d:Unit->Res) (f:Unit->Res):Res:=bif decide (i<(nI (List.length a))) then bif inb i (List.length a) then bif inb i (List.length b) then jdQ (nth (0,0,0,eS,[],[],0,eS,[],[],eS,eS) a i) (nth (0,0,0,eS,[],[],0,eS,[],[],eS,eS) b i) λr=>bif !r then f () else rec (Z9K (i+1)) else none else none else d ()
def jer (a:List qP) (b:List qP):Int->(Int->Res)->((Unit->Res)×(Unit->Res))->Res:=λv rec q=>j48 a b v (λi=>rec (i)) q.1 q.2
def jgO (a:List qP) (b:List qP) (n:Nat) (i:Int) (d:Unit->Res) (f:Unit->Res):Res:=Z1f (jer a b) n (i) (d,f)
def jfG:Z1d Unit:=NdL 27 27 [.R 0 y20 .S,.R 1 y20 .S,.I 5] [] (λb d=>(b.2.2.1)) (λb v=>(b.1,b.2.1,v,())) (λd v=>()) (λb d=>jer b.1 b.2.1) λb d f=>((λ_=>f (.exit 0) [] []),(λ_=>f .ret [(4,vB false)] []))
theorem jlO:CN 0 58 Tryz.f30 jfG:=lK (Za6 jiw Zas) [] oN ([],[]) [(0,[],[])] ([4],[]) λ_ _ _ _ _=>by kernel_rfl
def j9z (a:List qP) (b:List qP) (d:Bool->Res):Res:=bif ((nI (List.length a)) != (nI (List.length b))) then d false else jgO a b Z1c 0 (λ_=>d true) (λ_=>d false)
def jdg:Sig Unit:=sg [.look y20 false,.look y20 false] [false] [(y20,none),(y20,none)] [] λb f k=>j9z b.1 b.2.1 (λd=>k [wB d] [] [])
theorem jnO:SO 30 jdg:=fK (np:=0) (Za6 jiw Zas) [jfG] (oI 58 0 @jlO oN) false Tryz.func30 λ_ _ _ _=>by kernel_rfl
theorem j10:FS [(51,j5m),(98,jcT),(110,j82),(111,jfr)]:=(Za6 j7T (Za6 jiy (Za6 j0n (Za6 jlb Zas))))
def j4d (a:List qP) (d:Int) (i:Int) (b:(List qP)->Res):Res:=bif inb i (List.length a) then b (upd a i ((nth (0,0,0,eS,[],[],0,eS,[],[],eS,eS) a i).1,(nth (0,0,0,eS,[],[],0,eS,[],[],eS,eS) a i).2.1,d,(nth (0,0,0,eS,[],[],0,eS,[],[],eS,eS) a i).2.2.2)) else none
def j0t:Z1d Unit:=Nd 118 118 [.R 0 y20 .O,.I 1,.I 5] [] λb g f=>j4d b.1 b.2.1 b.2.2.1 (λd=>f .normal [(0,v1 y20 d .O),(1,vI b.2.1),(5,vI b.2.2.1)] [])
theorem jjD:CN 1 13470 Tryz.f45 j0t:=nK j10 [] oN ([0,1,5],[]) [] ([],[]) λ_ _ _=>by kernel_rfl
def j4e (a:List qP) (f:Int) (i:Int) (d:(List qP)->Int->Res):Res:=bif inb i (List.length a) then j1r (nth (0,0,0,eS,[],[],0,eS,[],[],eS,eS) a i).2.2.2.2.1 f λr b=>d (upd a i ((nth (0,0,0,eS,[],[],0,eS,[],[],eS,eS) a i).1,(nth (0,0,0,eS,[],[],0,eS,[],[],eS,eS) a i).2.1,(nth (0,0,0,eS,[],[],0,eS,[],[],eS,eS) a i).2.2.1,(nth (0,0,0,eS,[],[],0,eS,[],[],eS,eS) a i).2.2.2.1,b,(nth (0,0,0,eS,[],[],0,eS,[],[],eS,eS) a i).2.2.2.2.2)) r else none
def j0I:Z1d Unit:=Nd 118 118 [.R 0 y20 .O,.I 1,.I 5] [] λb h g=>j4e b.1 b.2.1 b.2.2.1 (λf d=>g .normal [(0,v1 y20 f .O),(1,vI d),(5,vI b.2.2.1)] [])
theorem jjE:CN 1 215550 Tryz.f45 j0I:=nK j10 [j0t] oN ([0,1,5],[]) [] ([],[]) λ_ _ _=>by kernel_rfl
def j4f (a:List qP) (d:Int) (i:Int) (b:(List qP)->Res):Res:=bif inb i (List.length a) then b (upd a i ((nth (0,0,0,eS,[],[],0,eS,[],[],eS,eS) a i).1,(nth (0,0,0,eS,[],[],0,eS,[],[],eS,eS) a i).2.1,(nth (0,0,0,eS,[],[],0,eS,[],[],eS,eS) a i).2.2.1,(nth (0,0,0,eS,[],[],0,eS,[],[],eS,eS) a i).2.2.2.1,(nth (0,0,0,eS,[],[],0,eS,[],[],eS,eS) a i).2.2.2.2.1,(nth (0,0,0,eS,[],[],0,eS,[],[],eS,eS) a i).2.2.2.2.2.1,d,(nth (0,0,0,eS,[],[],0,eS,[],[],eS,eS) a i).2.2.2.2.2.2.2)) else none
def j0Y:Z1d Unit:=Nd 118 118 [.R 0 y20 .O,.I 1,.I 5] [] λb g f=>j4f b.1 b.2.1 b.2.2.1 (λd=>f .normal [(0,v1 y20 d .O),(1,vI b.2.1),(5,vI b.2.2.1)] [])
theorem jjF:CN 1 862206 Tryz.f45 j0Y:=nK j10 [j0t,j0I] oN ([0,1,5],[]) [] ([],[]) λ_ _ _=>by kernel_rfl
def j4g (a:List qP) (f:Int) (i:Int) (d:(List qP)->Int->Res):Res:=bif inb i (List.length a) then j9O (nth (0,0,0,eS,[],[],0,eS,[],[],eS,eS) a i).2.2.2.2.2.2.2.2.1 f λr b=>d (upd a i ((nth (0,0,0,eS,[],[],0,eS,[],[],eS,eS) a i).1,(nth (0,0,0,eS,[],[],0,eS,[],[],eS,eS) a i).2.1,(nth (0,0,0,eS,[],[],0,eS,[],[],eS,eS) a i).2.2.1,(nth (0,0,0,eS,[],[],0,eS,[],[],eS,eS) a i).2.2.2.1,(nth (0,0,0,eS,[],[],0,eS,[],[],eS,eS) a i).2.2.2.2.1,(nth (0,0,0,eS,[],[],0,eS,[],[],eS,eS) a i).2.2.2.2.2.1,(nth (0,0,0,eS,[],[],0,eS,[],[],eS,eS) a i).2.2.2.2.2.2.1,(nth (0,0,0,eS,[],[],0,eS,[],[],eS,eS) a i).2.2.2.2.2.2.2.1,b,(nth (0,0,0,eS,[],[],0,eS,[],[],eS,eS) a i).2.2.2.2.2.2.2.2.2)) r else none
def j1h:Z1d Unit:=Nd 118 118 [.R 0 y20 .O,.I 1,.I 5] [] λb h g=>j4g b.1 b.2.1 b.2.2.1 (λf d=>g .normal [(0,v1 y20 f .O),(1,vI d),(5,vI b.2.2.1)] [])
theorem jjG:CN 1 13795326 Tryz.f45 j1h:=nK j10 [j0t,j0I,j0Y] oN ([0,1,5],[]) [] ([],[]) λ_ _ _=>by kernel_rfl
def j4h (a:List qP) (f:Int) (i:Int) (d:(List qP)->Int->Res):Res:=bif inb i (List.length a) then j77 (nth (0,0,0,eS,[],[],0,eS,[],[],eS,eS) a i).2.2.2.2.2.2.2.2.2.1 f λr b=>d (upd a i ((nth (0,0,0,eS,[],[],0,eS,[],[],eS,eS) a i).1,(nth (0,0,0,eS,[],[],0,eS,[],[],eS,eS) a i).2.1,(nth (0,0,0,eS,[],[],0,eS,[],[],eS,eS) a i).2.2.1,(nth (0,0,0,eS,[],[],0,eS,[],[],eS,eS) a i).2.2.2.1,(nth (0,0,0,eS,[],[],0,eS,[],[],eS,eS) a i).2.2.2.2.1,(nth (0,0,0,eS,[],[],0,eS,[],[],eS,eS) a i).2.2.2.2.2.1,(nth (0,0,0,eS,[],[],0,eS,[],[],eS,eS) a i).2.2.2.2.2.2.1,(nth (0,0,0,eS,[],[],0,eS,[],[],eS,eS) a i).2.2.2.2.2.2.2.1,(nth (0,0,0,eS,[],[],0,eS,[],[],eS,eS) a i).2.2.2.2.2.2.2.2.1,b,(nth (0,0,0,eS,[],[],0,eS,[],[],eS,eS) a i).2.2.2.2.2.2.2.2.2.2)) r else none
def j23:Z1d Unit:=Nd 118 118 [.R 0 y20 .O,.I 1,.I 5] [] λb h g=>j4h b.1 b.2.1 b.2.2.1 (λf d=>g .normal [(0,v1 y20 f .O),(1,vI d),(5,vI b.2.2.1)] [])
theorem jjH:CN 1 27590654 Tryz.f45 j23:=nK j10 [j0t,j0I,j0Y,j1h] oN ([0,1,5],[]) [] ([],[]) λ_ _ _=>by kernel_rfl
def j4i (a:List qP) (d:Int) (i:Int) (b:(List qP)->Res):Res:=j0o d λr=>bif inb i (List.length a) then b (upd a i ((nth (0,0,0,eS,[],[],0,eS,[],[],eS,eS) a i).1,(nth (0,0,0,eS,[],[],0,eS,[],[],eS,eS) a i).2.1,(nth (0,0,0,eS,[],[],0,eS,[],[],eS,eS) a i).2.2.1,(nth (0,0,0,eS,[],[],0,eS,[],[],eS,eS) a i).2.2.2.1,(nth (0,0,0,eS,[],[],0,eS,[],[],eS,eS) a i).2.2.2.2.1,(nth (0,0,0,eS,[],[],0,eS,[],[],eS,eS) a i).2.2.2.2.2.1,(nth (0,0,0,eS,[],[],0,eS,[],[],eS,eS) a i).2.2.2.2.2.2.1,(nth (0,0,0,eS,[],[],0,eS,[],[],eS,eS) a i).2.2.2.2.2.2.2.1,(nth (0,0,0,eS,[],[],0,eS,[],[],eS,eS) a i).2.2.2.2.2.2.2.2.1,(nth (0,0,0,eS,[],[],0,eS,[],[],eS,eS) a i).2.2.2.2.2.2.2.2.2.1,r,(nth (0,0,0,eS,[],[],0,eS,[],[],eS,eS) a i).2.2.2.2.2.2.2.2.2.2.2)) else none
def j3z:Z1d Unit:=Nd 118 118 [.R 0 y20 .O,.I 1,.I 5] [] λb g f=>j4i b.1 b.2.1 b.2.2.1 (λd=>f .normal [(0,v1 y20 d .O),(1,vI b.2.1),(5,vI b.2.2.1)] [])
theorem jjI:CN 1 55181310 Tryz.f45 j3z:=nK j10 [j0t,j0I,j0Y,j1h,j23] oN ([0,1,5],[]) [] ([],[]) λ_ _ _=>by kernel_rfl
def j4j (a:List qP) (d:Int) (i:Int) (b:(List qP)->Res):Res:=j0o d λr=>bif inb i (List.length a) then b (upd a i ((nth (0,0,0,eS,[],[],0,eS,[],[],eS,eS) a i).1,(nth (0,0,0,eS,[],[],0,eS,[],[],eS,eS) a i).2.1,(nth (0,0,0,eS,[],[],0,eS,[],[],eS,eS) a i).2.2.1,(nth (0,0,0,eS,[],[],0,eS,[],[],eS,eS) a i).2.2.2.1,(nth (0,0,0,eS,[],[],0,eS,[],[],eS,eS) a i).2.2.2.2.1,(nth (0,0,0,eS,[],[],0,eS,[],[],eS,eS) a i).2.2.2.2.2.1,(nth (0,0,0,eS,[],[],0,eS,[],[],eS,eS) a i).2.2.2.2.2.2.1,(nth (0,0,0,eS,[],[],0,eS,[],[],eS,eS) a i).2.2.2.2.2.2.2.1,(nth (0,0,0,eS,[],[],0,eS,[],[],eS,eS) a i).2.2.2.2.2.2.2.2.1,(nth (0,0,0,eS,[],[],0,eS,[],[],eS,eS) a i).2.2.2.2.2.2.2.2.2.1,(nth (0,0,0,eS,[],[],0,eS,[],[],eS,eS) a i).2.2.2.2.2.2.2.2.2.2.1,r)) else none
def j64:Z1d Unit:=Nd 118 118 [.R 0 y20 .O,.I 1,.I 5] [] λb g f=>j4j b.1 b.2.1 b.2.2.1 (λd=>f .normal [(0,v1 y20 d .O),(1,vI b.2.1),(5,vI b.2.2.1)] [])
theorem jjJ:CN 1 220725246 Tryz.f45 j64:=nK j10 [j0t,j0I,j0Y,j1h,j23,j3z] oN ([0,1,5],[]) [] ([],[]) λ_ _ _=>by kernel_rfl
def j1D (a:List qP) (f:Int) (i:Int) (rec:(List qP)->Int->Int->Res) (y:(List qP)->Int->Res):Res:=bif decide (i<(nI (List.length a))) then bif inb i (List.length a) then bif inb i (List.length (upd a i (f,(nth (0,0,0,eS,[],[],0,eS,[],[],eS,eS) a i).2))) then j4d (upd (upd a i (f,(nth (0,0,0,eS,[],[],0,eS,[],[],eS,eS) a i).2)) i ((nth (0,0,0,eS,[],[],0,eS,[],[],eS,eS) (upd a i (f,(nth (0,0,0,eS,[],[],0,eS,[],[],eS,eS) a i).2)) i).1,Z9K (f+1),(nth (0,0,0,eS,[],[],0,eS,[],[],eS,eS) (upd a i (f,(nth (0,0,0,eS,[],[],0,eS,[],[],eS,eS) a i).2)) i).2.2)) (Z9K ((Z9K (f+1))+1)) i λh=>j0o (Z9K ((Z9K ((Z9K (f+1))+1))+1)) λr=>bif inb i (List.length h) then j4e (upd h i ((nth (0,0,0,eS,[],[],0,eS,[],[],eS,eS) h i).1,(nth (0,0,0,eS,[],[],0,eS,[],[],eS,eS) h i).2.1,(nth (0,0,0,eS,[],[],0,eS,[],[],eS,eS) h i).2.2.1,r,(nth (0,0,0,eS,[],[],0,eS,[],[],eS,eS) h i).2.2.2.2)) (Z9K ((Z9K ((Z9K ((Z9K (f+1))+1))+1))+1)) i λd j=>bif inb i (List.length d) then j1r (nth (0,0,0,eS,[],[],0,eS,[],[],eS,eS) d i).2.2.2.2.2.1 j λl m=>j4f (upd d i ((nth (0,0,0,eS,[],[],0,eS,[],[],eS,eS) d i).1,(nth (0,0,0,eS,[],[],0,eS,[],[],eS,eS) d i).2.1,(nth (0,0,0,eS,[],[],0,eS,[],[],eS,eS) d i).2.2.1,(nth (0,0,0,eS,[],[],0,eS,[],[],eS,eS) d i).2.2.2.1,(nth (0,0,0,eS,[],[],0,eS,[],[],eS,eS) d i).2.2.2.2.1,m,(nth (0,0,0,eS,[],[],0,eS,[],[],eS,eS) d i).2.2.2.2.2.2)) l i λb=>j0o (Z9K (l+1)) λz=>bif inb i (List.length b) then j4g (upd b i ((nth (0,0,0,eS,[],[],0,eS,[],[],eS,eS) b i).1,(nth (0,0,0,eS,[],[],0,eS,[],[],eS,eS) b i).2.1,(nth (0,0,0,eS,[],[],0,eS,[],[],eS,eS) b i).2.2.1,(nth (0,0,0,eS,[],[],0,eS,[],[],eS,eS) b i).2.2.2.1,(nth (0,0,0,eS,[],[],0,eS,[],[],eS,eS) b i).2.2.2.2.1,(nth (0,0,0,eS,[],[],0,eS,[],[],eS,eS) b i).2.2.2.2.2.1,(nth (0,0,0,eS,[],[],0,eS,[],[],eS,eS) b i).2.2.2.2.2.2.1,z,(nth (0,0,0,eS,[],[],0,eS,[],[],eS,eS) b i).2.2.2.2.2.2.2.2)) (Z9K ((Z9K (l+1))+1)) i λn k=>j4h n k i λp g=>j4i p g i λq=>j4j q (Z9K (g+1)) i λw=>rec w (Z9K ((Z9K (g+1))+1)) (Z9K (i+1)) else none else none else none else none else none else y a f
def j5i:((List qP)×Int×Int)->((List qP)×Int×Int->Res)->(((List qP)->Int->Res))->Res:=λv rec q=>j1D v.1 v.2.1 v.2.2 (λa b i=>rec (a,b,i)) q
def jev (n:Nat) (a:List qP) (d:Int) (i:Int) (b:(List qP)->Int->Res):Res:=Z1f (j5i) n (a,d,i) (b)
def jdJ:Z1d Unit:=NdL 118 118 [.R 0 y20 .O,.I 1,.I 5] [] (λb f=>(b.1,b.2.1,b.2.2.1)) (λb v=>(v.1,v.2.1,v.2.2,())) (λf v=>()) (λb f=>j5i) λb f h=>((λg d=>h (.exit 0) [(0,v1 y20 g .O),(1,vI d)] []))
theorem jjC:CN 1 26 Tryz.f45 jdJ:=lK j10 [j0t,j0I,j0Y,j1h,j23,j3z,j64] (oI 414 0 @jjD (oI 6654 1 @jjE (oI 26622 2 @jjF (oI 425982 3 @jjG (oI 851966 4 @jjH (oI 1703934 5 @jjI (oI 6815742 6 @jjJ oN))))))) ([],[]) [(0,[0,1],[])] ([],[]) λ_ _ _ _ _=>by delta j5i j1D j0t j82 j0I j5m j0Y j1h j23 j3z j64;refine gz j4d λ_ b=>gz j0o λ_ d=>gz j4e λ_ f=>gz j1r λ_ g=>gz j4f λ_ h=>gz j4g λ_ i=>gz j4h λ_ j=>gz j4i λ_ k=>gz j4j λ_ l=> ?_;rewrite [<-b,<-d,<-f,<-g,<-h,<-i,<-j,<-k,<-l];kernel_rfl
def j7w (a:List qP) (g:Int) (f:Int->(List qP)->Res):Res:=jev Z1c a g 0 λd b=>f b d
def jbm:Sig Unit:=sg [.inout y20 false,.borrow tI false] [false] [(y20,some [.O]),(tI,none)] [] λb g k=>j7w b.1 b.2.1 (λf d=>k [wI f] [w1 y20 d .O] [])
theorem jlc:SO 45 jbm:=fK (np:=1) j10 [j0t,j0I,j0Y,j1h,j23,j3z,j64,jdJ] (oI 26 7 @jjC oN) false Tryz.func45 λ_ _ _ _=>by kernel_rfl
end
end Go.PI.G
namespace Go.PI.G
open Go Go.PI Go.Proofs
open Go.Code (pl pr)
noncomputable def jcK (a:Int×qW×Bool) (b:Int×qW×Bool) (d:Bool->Res):Res:=bif (a.1 != b.1) then d false else j8W a.2.1 b.2.1 λr=>bif !r then d false else bif !(a.2.2==b.2.2) then d false else d true
noncomputable def jow:Sig Unit:=sg [.look y25 true,.look y25 true] [false] [(y25,none),(y25,none)] [] λb f k=>jcK b.1 b.2.1 (λd=>k [wB d] [] [])
theorem jhV:SO 129 jow:=fK (np:=0) (Za6 jix Zas) [] oN false Tryz.func129 λ_ _ _ _=>by kernel_rfl
end Go.PI.G
namespace Go.PI.G
noncomputable section
open Go Go.PI Go.Proofs
open Go.Code (pl pr)
def j3k (a:List (Int×qW×Bool)) (b:List (Int×qW×Bool)) (i:Int) (rec:Int->Res) (d:Unit->Res) (f:Unit->Res):Res:=bif decide (i<(nI (List.length a))) then bif inb i (List.length a) then bif inb i (List.length b) then jcK (nth (0,[],false) a i) (nth (0,[],false) b i) λr=>bif !r then f () else rec (Z9K (i+1)) else none else none else d ()
def jdC (a:List (Int×qW×Bool)) (b:List (Int×qW×Bool)):Int->(Int->Res)->((Unit->Res)×(Unit->Res))->Res:=λv rec q=>j3k a b v (λi=>rec (i)) q.1 q.2
def jfl (a:List (Int×qW×Bool)) (b:List (Int×qW×Bool)) (n:Nat) (i:Int) (d:Unit->Res) (f:Unit->Res):Res:=Z1f (jdC a b) n (i) (d,f)
def jeV:Z1d Unit:=NdL 27 27 [.R 0 y26 .S,.R 1 y26 .S,.I 5] [] (λb d=>(b.2.2.1)) (λb v=>(b.1,b.2.1,v,())) (λd v=>()) (λb d=>jdC b.1 b.2.1) λb d f=>((λ_=>f (.exit 0) [] []),(λ_=>f .ret [(4,vB false)] []))
theorem jkI:CN 0 58 Tryz.f61 jeV:=lK (Za6 jhV Zas) [] oN ([],[]) [(0,[],[])] ([4],[]) λ_ _ _ _ _=>by kernel_rfl
def j2F (a:List (Int×qW×Bool)) (b:List (Int×qW×Bool)) (d:Bool->Res):Res:=bif ((nI (List.length a)) != (nI (List.length b))) then d false else jfl a b Z1c 0 (λ_=>d true) (λ_=>d false)
def j8Z:Sig Unit:=sg [.look y26 false,.look y26 false] [false] [(y26,none),(y26,none)] [] λb f k=>j2F b.1 b.2.1 (λd=>k [wB d] [] [])
theorem jmu:SO 61 j8Z:=fK (np:=0) (Za6 jhV Zas) [jeV] (oI 58 0 @jkI oN) false Tryz.func61 λ_ _ _ _=>by kernel_rfl
def j2g (a:List (Int×qW×Bool)) (b:Int) (i:Int) (rec:(List (Int×qW×Bool))->Int->Int->Res) (f:(List (Int×qW×Bool))->Int->Res):Res:=bif decide (i<(nI (List.length a))) then bif inb i (List.length a) then bif inb i (List.length (upd a i (b,(nth (0,[],false) a i).2))) then j1r (nth (0,[],false) (upd a i (b,(nth (0,[],false) a i).2)) i).2.1 (Z9K (b+1)) λr d=>bif inb i (List.length (upd (upd a i (b,(nth (0,[],false) a i).2)) i ((nth (0,[],false) (upd a i (b,(nth (0,[],false) a i).2)) i).1,d,(nth (0,[],false) (upd a i (b,(nth (0,[],false) a i).2)) i).2.2))) then rec (upd (upd (upd a i (b,(nth (0,[],false) a i).2)) i ((nth (0,[],false) (upd a i (b,(nth (0,[],false) a i).2)) i).1,d,(nth (0,[],false) (upd a i (b,(nth (0,[],false) a i).2)) i).2.2)) i ((nth (0,[],false) (upd (upd a i (b,(nth (0,[],false) a i).2)) i ((nth (0,[],false) (upd a i (b,(nth (0,[],false) a i).2)) i).1,d,(nth (0,[],false) (upd a i (b,(nth (0,[],false) a i).2)) i).2.2)) i).1,(nth (0,[],false) (upd (upd a i (b,(nth (0,[],false) a i).2)) i ((nth (0,[],false) (upd a i (b,(nth (0,[],false) a i).2)) i).1,d,(nth (0,[],false) (upd a i (b,(nth (0,[],false) a i).2)) i).2.2)) i).2.1,((Int.tmod r 3)==0))) (Z9K (r+1)) (Z9K (i+1)) else none else none else none else f a b
def j7P:((List (Int×qW×Bool))×Int×Int)->((List (Int×qW×Bool))×Int×Int->Res)->(((List (Int×qW×Bool))->Int->Res))->Res:=λv rec q=>j2g v.1 v.2.1 v.2.2 (λa b i=>rec (a,b,i)) q
def jdF (n:Nat) (a:List (Int×qW×Bool)) (d:Int) (i:Int) (b:(List (Int×qW×Bool))->Int->Res):Res:=Z1f (j7P) n (a,d,i) (b)
def jcZ:Z1d Unit:=NdL 37 37 [.R 0 y26 .O,.I 1,.I 5] [] (λb f=>(b.1,b.2.1,b.2.2.1)) (λb v=>(v.1,v.2.1,v.2.2,())) (λf v=>()) (λb f=>j7P) λb f h=>((λg d=>h (.exit 0) [(0,v1 y26 g .O),(1,vI d)] []))
theorem jiT:CN 1 26 Tryz.f62 jcZ:=lK (Za6 j7T Zas) [] oN ([],[]) [(0,[0,1],[])] ([],[]) λ_ _ _ _ _=>by kernel_rfl
def j6l (a:List (Int×qW×Bool)) (g:Int) (f:Int->(List (Int×qW×Bool))->Res):Res:=jdF Z1c a g 0 λd b=>f b d
def jag:Sig Unit:=sg [.inout y26 false,.borrow tI false] [false] [(y26,some [.O]),(tI,none)] [] λb g k=>j6l b.1 b.2.1 (λf d=>k [wI f] [w1 y26 d .O] [])
theorem jki:SO 62 jag:=fK (np:=1) (Za6 j7T Zas) [jcZ] (oI 26 0 @jiT oN) false Tryz.func62 λ_ _ _ _=>by kernel_rfl
def j2f (a:List (Int×qW×Bool)) (d:Int) (i:Int) (rec:Int->Int->Res) (f:Int->Res) (b:Unit->Res):Res:=bif decide (i<(nI (List.length a))) then bif inb i (List.length a) then bif ((nth (0,[],false) a i).1 != d) then b () else bif inb i (List.length a) then j9N (nth (0,[],false) a i).2.1 (Z9K (d+1)) λr=>bif decide (r<0) then b () else bif inb i (List.length a) then bif !((nth (0,[],false) a i).2.2==((Int.tmod r 3)==0)) then b () else rec (Z9K (r+1)) (Z9K (i+1)) else none else none else none else f d
def j7O (a:List (Int×qW×Bool)):(Int×Int)->(Int×Int->Res)->((Int->Res)×(Unit->Res))->Res:=λv rec q=>j2f a v.1 v.2 (λb i=>rec (b,i)) q.1 q.2
def jdE (a:List (Int×qW×Bool)) (n:Nat) (f:Int) (i:Int) (b:Int->Res) (d:Unit->Res):Res:=Z1f (j7O a) n (f,i) (b,d)
def jcY:Z1d Unit:=NdL 43 43 [.R 0 y26 .S,.I 1,.I 5] [] (λb f=>(b.2.1,b.2.2.1)) (λb v=>(b.1,v.1,v.2,())) (λf v=>()) (λb f=>j7O b.1) λb f g=>((λd=>g (.exit 0) [(1,vI d)] []),(λ_=>g .ret [(4,vI (-1))] []))
theorem jiS:CN 0 26 Tryz.f63 jcY:=lK (Za6 jf8 Zas) [] oN ([],[]) [(0,[1],[])] ([4],[]) λ_ _ _ _ _=>by kernel_rfl
def j3Q (a:List (Int×qW×Bool)) (f:Int) (d:Int->Res):Res:=jdE a Z1c f 0 (λb=>d b) (λ_=>d (-1))
def jaf:Sig Unit:=sg [.look y26 false,.look tI false] [false] [(y26,none),(tI,none)] [] λb f k=>j3Q b.1 b.2.1 (λd=>k [wI d] [] [])
theorem jkh:SO 63 jaf:=fK (np:=0) (Za6 jf8 Zas) [jcY] (oI 26 0 @jiS oN) false Tryz.func63 λ_ _ _ _=>by kernel_rfl
end
end Go.PI.G
namespace Go.PI.G
noncomputable section
open Go Go.PI Go.Proofs
open Go.Code (pl pr)
theorem jcO:Fns Tryz.prog [(26,jdh),(28,j9W),(30,jdg),(37,j9V),(39,j7z),(41,j9U),(45,jbm),(51,j5m),(59,jgd),(60,jcM),(61,j8Z),(62,jag),(63,jaf)]:=(Za6 jnR (Za6 jnU (Za6 jnO (Za6 jd5 (Za6 jd6 (Za6 jd4 (Za6 jlc (Za6 j7T (Za6 jqa (Za6 jq4 (Za6 jmu (Za6 jki (Za6 jkh Zas)))))))))))))
def j2d (m:List qP) (b:qB) (f:List qV) (l:List (Int×qW×Bool)) (A:List qP) (B:List qV) (h:List (Int×qW×Bool)) (d:Bool->Res):Res:=j7w A 1 λr a=>j1r B r λn C=>bif decide (n<0) then d false else j2F h l λp=>bif !p then d false else j6l h 1 λi g=>j3Q g 1 λj=>bif decide (j<0) then d false else bif (j != i) then d false else j2y m λq=>j18 f λw=>j6X q b w λy=>j2F y l λz=>bif !z then d false else j3Q g 1 λk=>bif decide (k<0) then d false else bif (k != i) then d false else d true
def j7l:Z1d Unit:=λσ k=>rdN σ 100<|rd1 σ 0 y20 .S λf=>rdS σ 1 λb=>rd1 σ 2 y3 .S λd=>rd1 σ 8 y26 .O λi=>rd1 σ 9 y20 .O λj=>rd1 σ 10 y3 .O λl=>rd1 σ 11 y26 .O λg=>j2d f b d i j l g (λh=>k .ret (mkS 100 100 [(6,vB h)] []))
theorem jhs:CN 0 32767 Tryz.f12 j7l:=λg=>jlz follows j1y jcO g [] oN ([],[]) [] ([6],[]) λσ k _ h=>rN h λE h=>rV h λF z h=>rV h λb A h=>rV h λi B h=>rV h λH C h=>rV h λI D h=>rV h λJ d h=>rV h λG f h=>⟨_,ZaM (m:=100) E (sC z (sC A (sC B (sC C (sC D (sC d (sC f sN))))))) bN,.trans (by delta j2d jbm j5m j8Z jag jaf j9W j7z jcM;refine gz j7w λ_ j=>gz j1r λ_ l=>gz j2F λ_ n=>gz j6l λ_ p=>gz j3Q λ_ q=>gz j2y λ_ r=>gz j18 λ_ w=>gz j6X λ_ y=> ?_;rewrite [<-j,<-l,<-n,<-p,<-q,<-r,<-w,<-y];kernel_rfl) h⟩
def j46 (g:List qP) (b:qB) (d:List qV) (f:Bool->Res):Res:=bif decide ((nI (ByteArray.size b))>1048576) then f true else j9C g 1048576 λr=>bif decide (r<0) then f true else j3H d r λp=>bif decide (p<0) then f true else j2y g λq=>j18 d λw=>jaM q b w λm=>j2y g λk=>j18 d λl=>j6X k b l λn=>j2F n m λy=>bif !y then f false else j2y g λz=>j9z k z λh=>bif !h then f false else j18 d λi=>j3G l i λj=>bif !j then f false else j2d g b d m k l n λt=>f t
def j2J:Sig Unit:=⟨[.borrow y20 false,.borrow .str false,.borrow y3 false],[false],λvals ext k=>av vals y20 λf vals=>av vals .str λb vals=>av vals y3 λd vals=>nl vals<|nl ext<|j46 f b d (λg=>k [wB g] [] [])⟩
theorem jiu:Z17 Tryz.prog 12 j2J:=jtd (np:=0) follows j1y jcO [j7l] (oI 32767 0 @jhs oN) false Tryz.func12 λ_ _ k _ h=>aV h λ_ _ _ _ _ h=>aV h λ_ _ _ _ _ h=>aV h λ_ _ _ _ _ h=>nL h λ_ h=>nL h λ_ h=>by subst_vars;exact .trans (by delta j46 jdh j9V j9W j7z jgd jcM j8Z jdg j9U j7l;refine gz j9C λ_ b=>gz j3H λ_ d=>gz j2y λ_ f=>gz j18 λ_ g=>gz jaM λ_ i=>gz j6X λ_ j=>gz j2F λ_ l=>gz j9z λ_ m=>gz j3G λ_ n=>gz j2d λ_ p=> ?_;rewrite [<-b,<-d,<-f,<-g,<-i,<-j,<-l,<-m,<-n,<-p];kernel_rfl) h
end
end Go.PI.G
namespace Go.PI.G
open Go Go.PI
abbrev V:=Int×Int×ByteArray
theorem jcN (s:ByteArray):(Z1n s).length=s.size:=by unfold Z1n;simp
theorem j0a (a b:ByteArray):sEq a b=true↔a=b:=by
 unfold sEq
 rw [beq_iff_eq]
 constructor
 ·intro h
  rw [ByteArray.ext_iff]
  have d:a.toList=a.data.toList:=by rw [ByteArray.toList_eq]
  have f:b.toList=b.data.toList:=by rw [ByteArray.toList_eq]
  rw [d,f] at h
  exact Array.toList_inj.1 h
 ·rintro rfl;rfl
def jps (n:Int):Bool:=decide (-1099511627775<=n/\n<=1099511627775)
def j0w (v:V):Bool:=
 bif v.1==0 then (v.2.1==0)&&sEq v.2.2 eS
 else bif v.1==1 then ((v.2.1==0)||(v.2.1==1))&&sEq v.2.2 eS
 else bif v.1==2 then jps v.2.1&&sEq v.2.2 eS
 else bif v.1==3 then (v.2.1==0)&&decide (nI v.2.2.size<=30)
 else false
theorem jrV (x:Int):decide (0<=x/\x<=1)=((x==0)||(x==1)):=by
 by_cases h:0<=x/\x<=1
 ·rw [decide_eq_true h]
  have:x=0\/x=1:=by omega
  rcases this with rfl | rfl<;>rfl
 ·rw [decide_eq_false h]
  have b:(x==0)=false:=by simp;omega
  have d:(x==1)=false:=by simp;omega
  rw [b,d];rfl
theorem jhG {v:V} (h:j0w v=true):v=(0,0,eS)\/(∃ n,(n=0\/n=1)/\v=(1,n,eS))\/(∃ n,(-1099511627775<=n/\n<=1099511627775)/\v=(2,n,eS))\/∃ s:ByteArray,s.size<=30/\v=(3,0,s):=by
 obtain ⟨t,n,s⟩:=v
 unfold j0w at h
 simp only at h
 cases d:t==0
 ·cases f:t==1
  ·cases g:t==2
   ·cases i:t==3
    ·rw [d,f,g,i] at h;cases h
    ·rw [d,f,g,i] at h
     simp only [cond_false,cond_true,Bool.and_eq_true,beq_iff_eq,decide_eq_true_eq] at h i
     obtain ⟨rfl,h⟩:=h
     subst i
     exact .inr (.inr (.inr ⟨s,by unfold nI at h;omega,rfl⟩))
   ·rw [d,f,g] at h
    simp only [cond_false,cond_true,Bool.and_eq_true,beq_iff_eq] at h g
    obtain ⟨h,b⟩:=h
    rw [j0a] at b
    subst b;subst g
    exact .inr (.inr (.inl ⟨n,of_decide_eq_true h,rfl⟩))
  ·rw [d,f] at h
   simp only [cond_false,cond_true,Bool.and_eq_true,Bool.or_eq_true,beq_iff_eq] at h f
   obtain ⟨h,b⟩:=h
   rw [j0a] at b
   subst b;subst f
   exact .inr (.inl ⟨n,h,rfl⟩)
 ·rw [d] at h
  simp only [cond_true,Bool.and_eq_true,beq_iff_eq] at h d
  obtain ⟨h,b⟩:=h
  rw [j0a] at b
  subst b;subst d;subst h
  exact .inl rfl
theorem jsc {v:V} (h:j0w v=true):v.2.2.size<=30:=by
 rcases jhG h with rfl | ⟨n,_,rfl⟩ | ⟨n,_,rfl⟩ | ⟨s,b,rfl⟩
 ·show (0:Nat)<=30;omega
 ·show (0:Nat)<=30;omega
 ·show (0:Nat)<=30;omega
 ·exact b
def be (n:Nat):Nat->List Int
 | 0=>[]
 | s+1=>((n / 256 ^ s % 256:Nat):Int)::be n s
theorem jrt (n:Nat):(s:Nat)->(be n s).length=s
 | 0=>rfl
 | s+1=>by simp [be,jrt n s]
noncomputable def wB (v:V):List Int:=
 bif v.1==1 then [1,v.2.1]
 else bif v.1==2 then 2::(bif decide (v.2.1<0) then 1 else 0)::be v.2.1.natAbs 6
 else bif v.1==3 then 3::nI v.2.2.size::Z1n v.2.2
 else [0]
theorem jtK {v:V} (h:j0w v=true):(wB v).length<=32:=by
 rcases jhG h with rfl | ⟨n,_,rfl⟩ | ⟨n,_,rfl⟩ | ⟨s,b,rfl⟩
 ·show (1:Nat)<=32;omega
 ·show (2:Nat)<=32;omega
 ·show (2::(bif decide (n<0) then 1 else 0)::be n.natAbs 6).length<=32
  simp [jrt]
 ·show (3::nI s.size::Z1n s).length<=32
  simp [jcN];omega
theorem jc2:(l:List V)->(∀ v∈l,j0w v=true)->(l.flatMap wB).length<=32 * l.length
 | [],_=>by simp
 | v::l,h=>by
  have d:=jtK (h v (by simp))
  have f:=jc2 l λv b=>h v (List.mem_cons_of_mem _ b)
  simp only [List.flatMap_cons,List.length_append,List.length_cons]
  omega
end Go.PI.G
set_option linter.unusedSimpArgs false
namespace Go.PI.G
open Go Go.PI Go.Proofs
theorem j70 (x b d:Int) (k:Bool->Res):j0i x b d k=k (decide (b<=x/\x<=d)):=by
 unfold j0i
 by_cases h:x>=b
 ·rw [decide_eq_true h,cond_true]
  congr 1
  exact decide_eq_decide.2 (by omega)
 ·rw [decide_eq_false h,cond_false]
  congr 1
  exact (decide_eq_false (by omega)).symm
end Go.PI.G
namespace Go.PI.G
open Go Go.PI Go.Proofs
theorem jrQ (n:Int) (k:Bool->Res):jgf n k=k (jps n):=j70 n _ _ k
theorem j92 (v:V) (k:Bool->Res):j1u v k=k (j0w v):=by
 unfold j1u j0w
 cases v.1==0
 ·cases v.1==1
  ·cases v.1==2
   ·cases v.1==3
    ·rfl
    ·cases v.2.1==0<;>rfl
   ·rw [cond_false,cond_false,cond_true,jrQ]
    cases jps v.2.1<;>rfl
  ·cases v.2.1==0
   ·cases v.2.1==1<;>rfl
   ·rfl
 ·cases v.2.1==0<;>rfl
theorem j8Q (v:V) (k:Bool->Res):j1d v k=k (j0w v):=by
 unfold j1d j0w
 simp only [j70,jrV]
 cases v.1==0
 ·cases v.1==1
  ·cases v.1==2
   ·cases v.1==3
    ·rfl
    ·cases v.2.1==0<;>rfl
   ·rw [cond_false,cond_false,cond_true,cond_false,cond_false,cond_true]
    show (bif jps v.2.1 then _ else _)=_
    cases jps v.2.1<;>rfl
  ·cases v.2.1==0
   ·cases v.2.1==1<;>rfl
   ·rfl
 ·cases v.2.1==0<;>rfl
end Go.PI.G
namespace Go.PI.G
noncomputable section
open Go Go.PI
def msr:(τ:Ty)->El τ->Nat
 | .str,s=>ByteArray.size s
 | .slice e,l=>List.length (α:=El e) l+(List.map (msr e) l).sum
 | .pair a b,x=>msr a x.1+msr b x.2
 | .int _,_=>0
 | .bool,_=>0
 | .unit,_=>0
def wgt:(τ:Ty)->El τ->Nat
 | .str,_=>1
 | .slice e,l=>(List.map (wgt e) l).sum
 | .pair a b,x=>wgt a x.1+wgt b x.2
 | .int _,_=>1
 | .bool,_=>1
 | .unit,_=>0
def j4P:Ty->Nat
 | .slice e=>j4P e
 | .pair a b=>j4P a+j4P b
 | .unit=>0
 | _=>1
theorem jmk {α:Type} (f g:α->Nat) (c:Nat) (h:∀ x,f x<=(g x+1) * c):(l:List α)->(l.map f).sum<=(l.length+(l.map g).sum) * c
 | []=>by simp
 | x::l=>by
  have b:=h x
  have d:=jmk f g c h l
  simp only [List.map_cons,List.sum_cons,List.length_cons]
  have:(l.length+1+(g x+(l.map g).sum)) * c=(g x+1) * c+(l.length+(l.map g).sum) * c:=by
   rw [<-Nat.add_mul];congr 1;omega
  omega
theorem jmn:(τ:Ty)->(x:El τ)->wgt τ x<=(msr τ x+1) * j4P τ
 | .str,_=>by simp [wgt,j4P]
 | .int _,_=>by simp [wgt,j4P]
 | .bool,_=>by simp [wgt,j4P]
 | .unit,_=>by simp [wgt]
 | .pair a b,x=>by
  have f:=jmn a x.1
  have h:=jmn b x.2
  simp only [wgt,msr,j4P,Nat.mul_add]
  have d:(msr a x.1+1) * j4P a<=(msr a x.1+msr b x.2+1) * j4P a:=Nat.mul_le_mul_right _ (by omega)
  have g:(msr b x.2+1) * j4P b<=(msr a x.1+msr b x.2+1) * j4P b:=Nat.mul_le_mul_right _ (by omega)
  omega
 | .slice e,l=>by
  have f:=jmk (wgt e) (msr e) (j4P e) (jmn e) l
  simp only [wgt,msr,j4P]
  have d:(List.length (α:=El e) l+(List.map (msr e) l).sum) * j4P e<=(List.length (α:=El e) l+(List.map (msr e) l).sum+1) * j4P e:=Nat.mul_le_mul_right _ (by omega)
  exact Nat.le_trans f d
theorem j2q {a b:Ty} {x:El (.pair a b)}:msr a x.1<=msr (.pair a b) x:=Nat.le_add_right _ _
theorem j03 {a b:Ty} {x:El (.pair a b)}:msr b x.2<=msr (.pair a b) x:=Nat.le_add_left _ _
def dgt (x:Int):ByteArray:=Z3B [wu8 (Z9K (48+x))]
theorem jel (x:Int):(dgt x).size=1:=rfl
def jhi (n:Nat):ByteArray:=if h:n<10 then dgt n else jhi (n / 10)++dgt ((n % 10:Nat):Int)
termination_by n
decreasing_by omega
def mT (k:Int):ByteArray:=(⟨#[109]⟩:ByteArray)++jhi k.toNat
def mk:(τ:Ty)->El τ->Int->El τ
 | .str,_,k=>mT k
 | .slice e,l,k=>mkL (wgt e) (mk e) l k
 | .pair a b,x,k=>(mk a x.1 k,mk b x.2 (k+(wgt a x.1:Int)))
 | .int .u8,_,k=>wu8 k
 | .int _,_,k=>k
 | .bool,_,k=>(Int.tmod k 3==0)
 | .unit,x,_=>x
theorem jns (e:Ty) (l:List (El e)):msr (.slice e) l=l.length+(l.map (msr e)).sum:=rfl
theorem j0l {e:Ty} {l:List (El e)} {n:Nat} (h:msr (.slice e) l<=n):l.length<=n:=by
 have:msr (.slice e) l=l.length+(l.map (msr e)).sum:=rfl
 omega
theorem j0M {e:Ty} {l:List (El e)} {n:Nat} (h:msr (.slice e) l<=n) {x:El e} (b:x∈l):msr e x<=n:=by
 have d:msr (.slice e) l=l.length+(l.map (msr e)).sum:=rfl
 have:=Z9H (msr e) l x b
 omega
theorem jjn {τ:Ty} {x:El τ} (b:j4P τ<=200) (h:msr τ x<=1048576):wgt τ x<=209715400:=by
 have d:=jmn τ x
 have f:(msr τ x+1) * j4P τ<=1048577 * 200:=Nat.mul_le_mul (by omega) b
 omega
theorem j3a (a b:Ty) (x:El (.pair a b)):wgt (.pair a b) x=wgt a x.1+wgt b x.2:=rfl
theorem j4X (k:IntKind) (x:El (.int k)):wgt (.int k) x=1:=rfl
theorem j39 (x:El .bool):wgt .bool x=1:=rfl
theorem j4Y (x:El .str):wgt .str x=1:=rfl
theorem j4U (a b:Ty) (x:El (.pair a b)) (k:Int):mk (.pair a b) x k=(mk a x.1 k,mk b x.2 (k+(wgt a x.1:Int))):=rfl
theorem j35 (e:Ty) (l:El (.slice e)) (k:Int):mk (.slice e) l k=mkL (wgt e) (mk e) l k:=rfl
theorem j7x (x:El (.int .i64)) (k:Int):mk (.int .i64) x k=k:=rfl
theorem j9P (x:El (.int .u8)) (k:Int):mk (.int .u8) x k=wu8 k:=rfl
theorem j4T (x:El .bool) (k:Int):mk .bool x k=(Int.tmod k 3==0):=rfl
theorem j7y (x:El .str) (k:Int):mk .str x k=mT k:=rfl
theorem jgR {α:Type} (z:α) (l:List α) (i:Nat) (v:α) (h:i<l.length):nth z (upd l (i:Int) v) (i:Int)=v:=by
 rw [ZaF,Zay _ _ _ (by simpa using h)];simp
theorem jh6 {α:Type} (l:List α) (i:Int) (u v:α):upd (upd l i u) i v=upd l i v:=by
 unfold upd;simp
theorem jh5 {α:Type} (l:List α) (i:Int) (v:α):(upd l i v).length=l.length:=by unfold upd;simp
end
end Go.PI.G
namespace Go.PI.G
open Go Go.PI
theorem jt0 {left:Int} (h:0<=left):szR left 0=left:=by unfold szR;rw [if_pos (by omega)];omega
theorem jml {left:Int} {n rest:Nat} {F:Int->Res} {k:Int->Res} (f:0<=left) (g:left<=1048576) (d:n<=maxLen) (b:(n:Int)<=left->F (left-n)=k (szR (left-n) rest)) :
  (bif decide (Z9K (left-nI n)<0) then k (-1) else F (Z9K (left-nI n)))=k (szR left (n+rest)):=by
 unfold maxLen at d
 rw [ZaH (by unfold nI;omega) (by unfold nI;omega)]
 unfold nI
 by_cases h:(n:Int)<=left
 ·rw [Za4 (by omega),cond_false,b h,Zak h]
 ·rw [Za5 (by omega),cond_true,Zal h]
theorem jh4 {left:Int} {k:Int->Res} (b:0<=left):k left=k (szR left 0):=by rw [jt0 b]
theorem j00 {i n:Nat} (h:i<n):inb (i:Int) n=true:=ZaK (by omega) (by omega)
theorem j01 {n:Int} (h: -9223372036854775808<=n/\n<9223372036854775808):Z9K n=n:=ZaH h.1 h.2
theorem jt4 (n:Nat):Int.tdiv (n:Int) 10=((n / 10:Nat):Int):=by
 rw [Int.tdiv_eq_ediv_of_nonneg (by omega)];omega
theorem jt5 (n:Nat):Int.tmod (n:Int) 10=((n % 10:Nat):Int):=by
 rw [Int.tmod_eq_emod_of_nonneg (by omega)];omega
theorem jmC {n:Nat} (h:n<10):jhi n=dgt n:=by rw [jhi,dif_pos h]
theorem jqI {n:Nat} (h:¬ n<10):jhi n=jhi (n / 10)++dgt ((n % 10:Nat):Int):=by rw [jhi,dif_neg h]
theorem jnm:∀ (d n:Nat),n<10 ^ (d+1)->(jhi n).size<=d+1
 | 0,n,h=>by rw [jmC (by omega),jel];exact Nat.le_refl _
 | d+1,n,h=>by
  by_cases b:n<10
  ·rw [jmC b,jel];omega
  ·rw [jqI b,ByteArray.size_append,jel]
   have:n / 10<10 ^ (d+1):=Nat.div_lt_of_lt_mul (by rw [Nat.pow_succ] at h;omega)
   have:=jnm d (n / 10) this
   omega
theorem jtG (s:ByteArray):s++eS=s:=by
 show s++ByteArray.empty=s
 simp
end Go.PI.G
namespace Go.PI.G
noncomputable section
open Go Go.PI
abbrev C:=ByteArray×Int×Bool×Bool×V
abbrev T:=ByteArray×List C×List ByteArray
abbrev DB:=List T×List (List (List V))
abbrev yV:Ty:= .pair (.int .i64) (.pair (.int .i64) .str)
abbrev yC:Ty:= .pair .str (.pair (.int .i64) (.pair .bool (.pair .bool yV)))
abbrev yT:Ty:= .pair .str (.pair (.slice yC) (.slice .str))
abbrev yDB:Ty:= .pair (.slice yT) (.slice (.slice (.slice yV)))
abbrev zV:V:=(0,0,eS)
abbrev zC:C:=(eS,0,false,false,0,0,eS)
abbrev zT:T:=(eS,[],[])
theorem jdO {α:Type} (p:α->Bool) (l:List α): -1<=Z9F p l/\Z9F p l<(l.length:Int):=by
 unfold Z9F
 cases h:l.findIdx? p with
 | none=>simp only [];omega
 | some i=>
  have:=(List.findIdx?_eq_some_iff_findIdx_eq.1 h).1
  simp only [];omega
theorem jdN {α:Type} {f:Nat->α->Bool}:(l:List α)->(i:Nat)->Z71 f i l=false->∀ (j:Nat) (h:j<l.length),f (i+j) l[j]=false
 | [],_,_,j,h=>by simp at h
 | x::l,i,h,j,b=>by
  simp only [Z71,Bool.or_eq_false_iff] at h
  cases j with
  | zero=>simpa using h.1
  | succ j=>
   have:=jdN l (i+1) h.2 j (by simpa using b)
   rw [show i+(j+1)=i+1+j by omega]
   simpa using this
def j0u (s:ByteArray):Bool:= !((Z1n s).any λb=>decide (b<97)||decide (b>122))&&(decide (1<=s.size)&&decide (s.size<=8))
def veq (a b:V):Bool:=(a.1==b.1)&&((a.2.1==b.2.1)&&sEq a.2.2 b.2.2)
theorem je3 (a b:V):veq a b=true↔a=b:=by
 obtain ⟨d,f,g⟩:=a
 obtain ⟨h,i,j⟩:=b
 unfold veq
 simp only [Bool.and_eq_true,beq_iff_eq,j0a,Prod.mk.injEq]
def vlt (a b:V):Bool:=j0w a&&(j0w b&&(bif a.1 != b.1 then decide (a.1<b.1) else bif a.2.1 != b.2.1 then decide (a.2.1<b.2.1) else sLt a.2.2 b.2.2))
def jjq (v:V):Bool:=(v.1==0)&&((v.2.1==0)&&sEq v.2.2 eS)
def j1a (c:C):Bool:=j0u c.1&&(decide (1<=c.2.1/\c.2.1<=3)&&(j0w c.2.2.2.2&&(bif c.2.2.2.1 then (c.2.2.2.2.1==c.2.1)||((c.2.2.2.2.1==0)&& !c.2.2.1) else jjq c.2.2.2.2)))
def j02 (l:List C) (n:ByteArray):Int:=Z9F (λc=>sEq c.1 n) l
theorem j9v (l:List C) (n:ByteArray): -1<=j02 l n/\j02 l n<(l.length:Int):=jdO _ _
theorem jsb:j0w (0,0,eS)=true:=by
 show (((0:Int)==0)&&sEq eS eS)=true
 rw [Zah];rfl
theorem jr8:jjq (0,0,eS)=true:=by
 show (((0:Int)==0)&&(((0:Int)==0)&&sEq eS eS))=true
 rw [Zah];rfl
def j1m (l:List C):Int->List ByteArray->Bool
 | _,[]=>true
 | b,k::ks=> !decide (j02 l k<=b)&&((nth zC l (j02 l k)).2.2.1&&j1m l (j02 l k) ks)
def j53 (l:List C):Bool:= !Z71 (λi c=> !j1a c||(j02 l c.1 != (i:Int))) 0 l
def j05 (t:T):Bool:=(j0u t.1&&(decide (1<=t.2.1.length)&&(decide (t.2.1.length<=8)&&decide (1<=t.2.2.length))))&&(j53 t.2.1&&j1m t.2.1 (-1) t.2.2)
def j04 (l:List T) (n:ByteArray):Int:=Z9F (λt=>sEq t.1 n) l
def j2m (c:List T):Bool:=decide (c.length<=6)&& !Z71 (λi t=> !j05 t||(decide (0<i)&&sGe (nth zT c ((i:Int)-1)).1 t.1)) 0 c
def j3Z (c:C) (v:V):Bool:=j0w v&&((v.1==c.2.1)||((v.1==0)&& !c.2.2.1))
def j0v (l:List C) (r:List V):Bool:=decide (r.length=l.length)&& !Z71 (λi c=> !j3Z c (nth zV r (i:Int))) 0 l
def j07 (t:T) (r:List V):List V:=t.2.2.map λk=>nth zV r (j02 t.2.1 k)
def klt:List V->List V->Bool
 | [],[]=>false
 | [],_::_=>true
 | _::_,[]=>false
 | x::xs,y::ys=>bif veq x y then klt xs ys else vlt x y
def j09 (t:T) (l:List (List V)):Bool:=j05 t&&(decide (l.length<=60)&& !Z71 (λi r=> !j0v t.2.1 r||(decide (0<i)&& !klt (j07 t (nth [] l ((i:Int)-1))) (j07 t r))) 0 l)
def dbB (d:DB):Bool:=j2m d.1&&(decide (d.2.length=d.1.length)&& !Z71 (λi t=> !j09 t (nth [] d.2 (i:Int))) 0 d.1)
theorem j1x {t:T} (h:j05 t=true):j0u t.1=true/\1<=t.2.1.length/\t.2.1.length<=8/\1<=t.2.2.length/\j53 t.2.1=true/\j1m t.2.1 (-1) t.2.2=true:=by
 unfold j05 at h
 simp only [Bool.and_eq_true,decide_eq_true_eq] at h
 exact ⟨h.1.1,h.1.2.1,h.1.2.2.1,h.1.2.2.2,h.2.1,h.2.2⟩
theorem j1n {l:List C}:(ks:List ByteArray)->(b:Int)-> -1<=b->j1m l b ks=true->∀ k∈ks,0<=j02 l k/\j02 l k<(l.length:Int)
 | [],_,_,_,k,d=>by cases d
 | q::ks,b,i,h,k,d=>by
  simp only [j1m,Bool.and_eq_true,Bool.not_eq_true',decide_eq_false_iff_not] at h
  have f:=(jdO (λc:C=>sEq c.1 q) l).2
  have g:0<=j02 l q:=by omega
  rcases List.mem_cons.1 d with rfl | d
  ·exact ⟨g,f⟩
  ·exact j1n ks (j02 l q) (by omega) h.2.2 k d
theorem jtn {c:C} (h:j1a c=true):1<=c.2.1/\c.2.1<=3:=by
 unfold j1a at h
 simp only [Bool.and_eq_true,decide_eq_true_eq] at h
 exact h.2.1
theorem jni {l:List C} (h:j53 l=true) (i:Nat) (b:i<l.length):j1a l[i]=true:=by
 unfold j53 at h
 have:=jdN l 0 (by simpa using h) i b
 simp only [Bool.or_eq_false_iff,Bool.not_eq_false'] at this
 exact this.1
end
end Go.PI.G
namespace Go.PI.G
open Go Go.PI Go.Proofs
theorem jru (s:ByteArray) (i:Nat) (h:i<(Z1n s).length):bt s (i:Int)=(Z1n s)[i]:=by
 have g:=jcN s
 have d:i<s.data.size:=by
  have:i<s.size:=by omega
  exact this
 have f:(Z1n s)[i]=((s.data.toList.map λb:UInt8=>(b.toNat:Int))[i]'(by simpa using d)):=rfl
 rw [f,List.getElem_map]
 unfold bt
 simp [Array.getElem?_eq_getElem d]
theorem jta (s:ByteArray) (x:Bool) (k:Bool->Res):(bif x then k false else (bif decide ((nI (ByteArray.size s))>=1) then k (decide ((nI (ByteArray.size s))<=8)) else k false))=k (!x&&(decide (1<=s.size)&&decide (s.size<=8))):=by
 cases x
 ·unfold nI
  by_cases b:1<=s.size
  ·rw [cond_false,decide_eq_true (show (s.size:Int)>=1 by omega),cond_true,decide_eq_true b]
   congr 1
   by_cases d:s.size<=8
   ·rw [decide_eq_true (show (s.size:Int)<=8 by omega),decide_eq_true d];rfl
   ·rw [decide_eq_false (show ¬ (s.size:Int)<=8 by omega),decide_eq_false d];rfl
  ·rw [cond_false,decide_eq_false (show ¬ (s.size:Int)>=1 by omega),cond_false,decide_eq_false b];rfl
 ·rfl
theorem j5I (s:ByteArray) (h:s.size<=LIM) (k:Bool->Res):j0K s k=k (j0u s):=by
 unfold j0K jgX
 have g:=jcN s
 have:=Za2 (Z1n s) (λi=>i) (λb=>decide (b<97)||decide (b>122)) (step:=jal s) ((λ(_:Unit)=>bif decide ((nI (ByteArray.size s))>=1) then k (decide ((nI (ByteArray.size s))<=8)) else k false),(λ(_:Unit)=>k false)) (bif decide ((nI (ByteArray.size s))>=1) then k (decide ((nI (ByteArray.size s))<=8)) else k false) (k false) (by omega) (λi rec f=>by
  show j4x s _ _ _ _=_
  unfold j4x
  unfold LIM at h
  have d:i<s.size:=by omega
  rw [ZaQ d,cond_true,j00 d,cond_true,cond_true,jru s i f,j01 (n:=(i:Int)+1) (by omega)]
  cases decide ((Z1n s)[i]<97)
  ·cases decide ((Z1n s)[i]>122)<;>rfl
  ·rfl) (λrec=>by
  show j4x s _ _ _ _=_
  unfold j4x
  rw [g,ZaP,cond_false])
 refine this.trans ?_
 exact jta s _ k
theorem j5E (s:ByteArray) (h:s.size<=LIM) (k:Bool->Res):j0C s k=k (j0u s):=by
 unfold j0C jc6
 have j:=jcN s
 have:=Za2 (Z1n s) (λi=>i) (λb=>decide (b<97)||decide (b>122)) (step:=j74 s) ((λ(_:Unit)=>j0i (nI (ByteArray.size s)) 1 8 λ(r:Bool)=>k r),(λ(_:Unit)=>k false)) (j0i (nI (ByteArray.size s)) 1 8 λ(r:Bool)=>k r) (k false) (by omega) (λi rec g=>by
  show j42 s _ _ _ _=_
  unfold j42
  unfold LIM at h
  have d:i<s.size:=by omega
  rw [ZaQ d,cond_true,j00 d,cond_true,cond_true,jru s i g,j01 (n:=(i:Int)+1) (by omega)]
  cases decide ((Z1n s)[i]<97)
  ·cases decide ((Z1n s)[i]>122)<;>rfl
  ·rfl) (λrec=>by
  show j42 s _ _ _ _=_
  unfold j42
  rw [j,ZaP,cond_false])
 refine this.trans ?_
 rw [j70]
 have f:decide (1<=nI s.size/\nI s.size<=8)=(decide (1<=s.size)&&decide (s.size<=8)):=by
  rw [<-Bool.decide_and]
  exact decide_eq_decide.2 (by unfold nI;omega)
 rw [f]
 unfold j0u
 cases (Z1n s).any λb=>decide (b<97)||decide (b>122)<;>rfl
end Go.PI.G
namespace Go.PI.G
open Go Go.PI Go.Proofs
theorem jmf (c:C) (h:c.1.size<=LIM) (k:Bool->Res):j5s c k=k (j1a c):=by
 obtain ⟨n,ty,w,r,d⟩:=c
 unfold j5s j1a
 dsimp only at h ⊢
 rw [j5I n h,j92]
 cases j0u n
 ·rfl
 ·rw [Bool.not_true,cond_false,Bool.true_and]
  by_cases p:1<=ty/\ty<=3
  ·rw [decide_eq_false (show ¬ ty<1 by omega),cond_false,decide_eq_false (show ¬ ty>3 by omega),cond_false,decide_eq_true p,Bool.true_and]
   cases r
   ·rw [Bool.not_false,cond_true,cond_false]
    have:j0w d=false->jjq d=false:=λj=>by
     cases i:jjq d with
     | false=>rfl
     | true=>
      unfold jjq at i
      simp only [Bool.and_eq_true,beq_iff_eq,j0a] at i
      have:d=(0,0,eS):=by
       obtain ⟨a,b,c⟩:=d
       simp only at i
       rw [i.1,i.2.1,i.2.2]
      rw [this,jsb] at j
      cases j
    cases j:j0w d
    ·rw [Bool.false_and]
     exact congrArg k (this j)
    ·rfl
   ·rw [Bool.not_true,cond_false,cond_true]
    cases j:j0w d
    ·rfl
    ·rw [cond_true,Bool.true_and]
     have g:(d.1==0)=true->((d.1==0)&&((d.2.1==0)&&sEq d.2.2 eS))=true:=λf=>by
      rcases jhG j with rfl | ⟨m,_,rfl⟩ | ⟨m,_,rfl⟩ | ⟨m,_,rfl⟩
      ·exact jr8
      ·cases f
      ·cases f
      ·cases f
     cases f:d.1==0
     ·rw [Bool.false_and,cond_false]
      cases d.1==ty<;>rfl
     ·have:=g f
      rw [f] at this
      rw [this,cond_true,cond_true]
      have l:(d.1==ty)=false:=by
       simp only [beq_iff_eq] at f
       rw [f];simp;omega
      rw [l,Bool.false_or,Bool.true_and]
  ·rw [decide_eq_false p]
   by_cases q:ty<1
   ·rw [decide_eq_true q];rfl
   ·rw [decide_eq_false q,cond_false,decide_eq_true (show ty>3 by omega)];rfl
theorem jlp (c:C) (h:c.1.size<=LIM) (k:Bool->Res):j56 c k=k (j1a c):=by
 obtain ⟨n,ty,f,d,b⟩:=c
 unfold j56 j1a
 dsimp only at h ⊢
 rw [j5E n h,j70,j8Q]
 cases j0u n
 ·rfl
 ·cases decide (1<=ty/\ty<=3)
  ·rfl
  ·cases j0w b
   ·rfl
   ·cases d
    ·rfl
    ·cases b.1==ty
     ·cases b.1==0<;>rfl
     ·rfl
theorem j6Y (t:T) (n:ByteArray) (h:t.2.1.length<=LIM) (k:Int->Res):j0Q t n k=k (j02 t.2.1 n):=by
 unfold j0Q jib
 refine Z9S t.2.1 (λi=>i) (λc=>sEq c.1 n) (step:=jbs n t.2.1 (nI t.2.1.length)) _ k h (λi rec b=> ?_) (λrec=> ?_)
 ·show j5r n _ _ _ _ _ _=_
  unfold j5r
  unfold LIM at h
  rw [ZaQ b,cond_true,j00 b,cond_true,Zay _ _ _ b,j01 (n:=(i:Int)+1) (by omega)]
 ·show j5r n _ _ _ _ _ _=_
  unfold j5r
  rw [ZaP,cond_false]
theorem j8g (t:T) (n:ByteArray) (h:t.2.1.length<=LIM) (k:Int->Res):j0h t n k=k (j02 t.2.1 n):=by
 unfold j0h j7a j99
 refine Z9S t.2.1 (λi=>i) (λc=>sEq c.1 n) (step:=j3C t.2.1 n (nI t.2.1.length)) _ k h (λi rec b=> ?_) (λrec=> ?_)
 ·show j12 _ n _ _ _ _ _=_
  unfold j12 jg3
  unfold LIM at h
  rw [ZaQ b,cond_true,j00 b,cond_true,Zay _ _ _ b,j01 (n:=(i:Int)+1) (by omega)]
 ·show j12 _ n _ _ _ _ _=_
  unfold j12
  rw [ZaP,cond_false]
theorem j2U {t:T} (h:msr yT t<=1048576):t.1.size<=1048576/\t.2.1.length<=1048576/\t.2.2.length<=1048576/\(∀ c∈t.2.1,c.1.size<=1048576)/\∀ x∈t.2.2,x.size<=1048576:=by
 have i:msr yT t=t.1.size+(msr (.slice yC) t.2.1+msr (.slice .str) t.2.2):=rfl
 have b:msr (.slice yC) t.2.1<=1048576:=by omega
 have d:msr (.slice .str) t.2.2<=1048576:=by omega
 refine ⟨by omega,j0l b,j0l d,λc f=> ?_,λx g=>j0M d g⟩
 have:=j0M b f
 have j:msr yC c=c.1.size+msr (.pair (.int .i64) (.pair .bool (.pair .bool yV))) c.2:=rfl
 omega
noncomputable def tSm (t:T):Prop:=t.1.size<=1048576/\t.2.1.length<=1048576/\t.2.2.length<=1048576/\(∀ c∈t.2.1,c.1.size<=1048576)/\∀ x∈t.2.2,x.size<=1048576
theorem joC (t:T) (h:tSm t) (a b:Unit->Res):j89 t.2.1 (nI t.2.1.length) t Z1c 0 a b=bif j53 t.2.1 then a () else b ():=by
 have f:=h
 obtain ⟨j,k,l,g,m⟩:=f
 unfold j89
 have:=Z9P t.2.1 (λi=>i) (λi c=> !j1a c||(j02 t.2.1 c.1 != (i:Int))) (step:=j3r t.2.1 (nI t.2.1.length) t) (a,b) (a ()) (b ()) (by unfold LIM;omega) (λi rec d=>by
  show j1Z _ _ t _ _ _ _=_
  unfold j1Z
  rw [ZaQ d,cond_true,j00 d,cond_true,Zay _ _ _ d,jmf _ (by have:=g _ (List.getElem_mem d);unfold LIM;omega),j6Y t _ (by unfold LIM;omega),j01 (n:=(i:Int)+1) (by omega)]
  cases j1a t.2.1[i]
  ·rfl
  ·cases j02 t.2.1 t.2.1[i].1 != (i:Int)<;>rfl) (λrec=>by
  show j1Z _ _ t _ _ _ _=_
  unfold j1Z
  rw [ZaP,cond_false])
 refine this.trans ?_
 unfold j53
 cases Z71 (λi c=> !j1a c||(j02 t.2.1 c.1 != (i:Int))) 0 t.2.1<;>rfl
theorem jo3 (t:T) (h:tSm t) (a b:Unit->Res):j7X t.2.1 (nI t.2.1.length) t Z1c 0 a b=bif j53 t.2.1 then a () else b ():=by
 have f:=h
 obtain ⟨j,k,l,g,m⟩:=f
 unfold j7X
 have:=Z9P t.2.1 (λi=>i) (λi c=> !j1a c||(j02 t.2.1 c.1 != (i:Int))) (step:=j3h t.2.1 (nI t.2.1.length) t) (a,b) (a ()) (b ()) (by unfold LIM;omega) (λi rec d=>by
  show j1X _ _ t _ _ _ _=_
  unfold j1X
  rw [ZaQ d,cond_true,j00 d,cond_true,Zay _ _ _ d,jlp _ (by have:=g _ (List.getElem_mem d);unfold LIM;omega),j8g t _ (by unfold LIM;omega),j01 (n:=(i:Int)+1) (by omega)]
  cases j1a t.2.1[i]
  ·rfl
  ·cases j02 t.2.1 t.2.1[i].1 != (i:Int)<;>rfl) (λrec=>by
  show j1X _ _ t _ _ _ _=_
  unfold j1X
  rw [ZaP,cond_false])
 refine this.trans ?_
 unfold j53
 cases Z71 (λi c=> !j1a c||(j02 t.2.1 c.1 != (i:Int))) 0 t.2.1<;>rfl
noncomputable def j8U (l:List C) (b:Int) (k:ByteArray):Except Unit Int:=bif decide (j02 l k<=b) then .error () else bif !(nth zC l (j02 l k)).2.2.1 then .error () else .ok (j02 l k)
theorem jiQ (l:List C):(ks:List ByteArray)->(i:Nat)->(b:Int)->(∃ z,Z1S (λ_ b k=>j8U l b k) i ks b= .ok z/\j1m l b ks=true)\/(Z1S (λ_ b k=>j8U l b k) i ks b= .error ()/\j1m l b ks=false)
 | [],_,b=> .inl ⟨b,rfl,rfl⟩
 | k::ks,i,b=>by
  have d:=jiQ l ks (i+1) (j02 l k)
  simp only [Z1S,j1m,j8U] at d ⊢
  cases decide (j02 l k<=b)
  ·cases (nth zC l (j02 l k)).2.2.1
   ·exact .inr ⟨rfl,rfl⟩
   ·exact d
  ·exact .inr ⟨rfl,rfl⟩
theorem joD (t:T) (h:tSm t) (a b:Unit->Res):j8a t.2.2 (nI t.2.2.length) t Z1c (-1) 0 a b=bif j1m t.2.1 (-1) t.2.2 then a () else b ():=by
 have q:=h
 obtain ⟨w,y,A,B,C⟩:=q
 unfold j8a
 have:=Z3Z t.2.2 (λi d=>(d,i)) (λ_ d k=>j8U t.2.1 d k) (λ_ d=> -1<=d) (step:=j5T t.2.2 (nI t.2.2.length) t) (a,b) (λ_=>a ()) (λ_=>b ()) (-1) (by unfold LIM;omega) (by omega) (λi d m l p g=>by
  unfold j8U at g
  have:=(j9v t.2.1 t.2.2[i]).1
  cases f:decide (j02 t.2.1 t.2.2[i]<=d)
  ·rw [f,cond_false] at g
   cases j:(nth zC t.2.1 (j02 t.2.1 t.2.2[i])).2.2.1
   ·rw [j] at g;cases g
   ·rw [j] at g
    cases g
    exact this
  ·rw [f] at g;cases g) (λi d rec l p=>by
  show j3s _ _ t _ _ _ _ _=_
  unfold j3s
  dsimp only
  rw [ZaQ l,cond_true,j00 l,cond_true,Zay _ _ _ l,j6Y t _ (by unfold LIM;omega),j01 (n:=(i:Int)+1) (by omega)]
  unfold j8U
  by_cases f:j02 t.2.1 t.2.2[i]<=d
  ·rw [decide_eq_true f];rfl
  ·have r:=(j9v t.2.1 t.2.2[i]).2
   rw [decide_eq_false f,cond_false,cond_false,ZaK (by omega) r,cond_true]
   cases (nth zC t.2.1 (j02 t.2.1 t.2.2[i])).2.2.1<;>rfl) (λd rec _=>by
  show j3s _ _ t _ _ _ _ _=_
  unfold j3s
  dsimp only
  rw [ZaP,cond_false])
 refine this.trans ?_
 rcases jiQ t.2.1 t.2.2 0 (-1) with ⟨z,f,j⟩ | ⟨f,j⟩<;>rw [f,j]<;>rfl
theorem jo4 (t:T) (h:tSm t) (a b:Unit->Res):j7Y t.2.2 (nI t.2.2.length) t Z1c (-1) 0 a b=bif j1m t.2.1 (-1) t.2.2 then a () else b ():=by
 have q:=h
 obtain ⟨w,y,A,B,C⟩:=q
 unfold j7Y
 have:=Z3Z t.2.2 (λi d=>(d,i)) (λ_ d k=>j8U t.2.1 d k) (λ_ d=> -1<=d) (step:=j5N t.2.2 (nI t.2.2.length) t) (a,b) (λ_=>a ()) (λ_=>b ()) (-1) (by unfold LIM;omega) (by omega) (λi d m l p g=>by
  unfold j8U at g
  have:=(j9v t.2.1 t.2.2[i]).1
  cases f:decide (j02 t.2.1 t.2.2[i]<=d)
  ·rw [f,cond_false] at g
   cases j:(nth zC t.2.1 (j02 t.2.1 t.2.2[i])).2.2.1
   ·rw [j] at g;cases g
   ·rw [j] at g
    cases g
    exact this
  ·rw [f] at g;cases g) (λi d rec l p=>by
  show j3i _ _ t _ _ _ _ _=_
  unfold j3i
  dsimp only
  rw [ZaQ l,cond_true,j00 l,cond_true,Zay _ _ _ l,j8g t _ (by unfold LIM;omega),j01 (n:=(i:Int)+1) (by omega)]
  unfold j8U
  by_cases f:j02 t.2.1 t.2.2[i]<=d
  ·rw [decide_eq_true f];rfl
  ·have r:=(j9v t.2.1 t.2.2[i]).2
   rw [decide_eq_false f,cond_false,cond_false,ZaK (by omega) r,cond_true]
   cases (nth zC t.2.1 (j02 t.2.1 t.2.2[i])).2.2.1<;>rfl) (λd rec _=>by
  show j3i _ _ t _ _ _ _ _=_
  unfold j3i
  dsimp only
  rw [ZaP,cond_false])
 refine this.trans ?_
 rcases jiQ t.2.1 t.2.2 0 (-1) with ⟨z,f,j⟩ | ⟨f,j⟩<;>rw [f,j]<;>rfl
theorem jt3 (t:T) (k:Bool->Res):j5y t k=j0K t.1 λw=>k (!(w&&(decide (1<=t.2.1.length)&&(decide (t.2.1.length<=8)&&decide (1<=t.2.2.length))))):=by
 unfold j5y
 congr 1
 funext w
 unfold nI
 cases w
 ·rfl
 ·rw [Bool.not_true,cond_false,Bool.true_and]
  by_cases b:1<=t.2.1.length
  ·rw [decide_eq_false (show ¬ (t.2.1.length:Int)<1 by omega),cond_false,decide_eq_true b,Bool.true_and]
   by_cases d:t.2.1.length<=8
   ·rw [decide_eq_false (show ¬ (t.2.1.length:Int)>8 by omega),cond_false,decide_eq_true d,Bool.true_and]
    congr 1
    by_cases f:1<=t.2.2.length
    ·rw [decide_eq_false (show ¬ (t.2.2.length:Int)<1 by omega),decide_eq_true f];rfl
    ·rw [decide_eq_true (show (t.2.2.length:Int)<1 by omega),decide_eq_false f];rfl
   ·rw [decide_eq_true (show (t.2.1.length:Int)>8 by omega),decide_eq_false d];rfl
  ·rw [decide_eq_true (show (t.2.1.length:Int)<1 by omega),decide_eq_false b];rfl
theorem jka (t:T) (h:tSm t) (k:Bool->Res):j0B t k=k (j05 t):=by
 have b:=h
 obtain ⟨d,f,g,i,j⟩:=b
 unfold j0B j05
 rw [jt3,j5I _ (by unfold LIM;omega),joC t h,joD t h]
 cases j0u t.1&&(decide (1<=t.2.1.length)&&(decide (t.2.1.length<=8)&&decide (1<=t.2.2.length)))
 ·rfl
 ·cases j53 t.2.1
  ·rfl
  ·cases j1m t.2.1 (-1) t.2.2<;>rfl
theorem jjZ (t:T) (h:tSm t) (k:Bool->Res):j0S t k=k (j05 t):=by
 have d:=h
 obtain ⟨g,i,j,l,m⟩:=d
 unfold j0S j05
 rw [j5E _ (by unfold LIM;omega),j70,jo3 t h,jo4 t h]
 have b:decide (1<=nI t.2.1.length/\nI t.2.1.length<=8)=(decide (1<=t.2.1.length)&&decide (t.2.1.length<=8)):=by
  rw [<-Bool.decide_and]
  exact decide_eq_decide.2 (by unfold nI;omega)
 have f:decide (nI t.2.2.length>0)=decide (1<=t.2.2.length):=decide_eq_decide.2 (by unfold nI;omega)
 rw [b,f]
 cases j53 t.2.1
 ·rw [Bool.false_and,Bool.and_false];rfl
 ·cases j1m t.2.1 (-1) t.2.2
  ·rw [Bool.and_false,Bool.and_false];rfl
  ·cases j0u t.1
   ·rfl
   ·cases decide (1<=t.2.1.length)
    ·rfl
    ·cases decide (t.2.1.length<=8)
     ·rfl
     ·cases decide (1<=t.2.2.length)<;>rfl
theorem jdY (t:T) (h:msr yT t<=1048576) (k:Bool->Res):j0B t k=k (j05 t):=jka t (j2U h) k
theorem jhn (t:T) (h:msr yT t<=1048576) (k:Bool->Res):j0S t k=k (j05 t):=jjZ t (j2U h) k
theorem joV (c:List T) (i:Nat) (d:i<c.length) (b:c.length<=LIM) (x:Res) (y:Res):(bif decide ((i:Int)>0) then (bif inb (Z9K ((i:Int)-1)) c.length then (bif sGe (nth zT c (Z9K ((i:Int)-1))).1 c[i].1 then x else y) else none) else y) =
  bif (decide (0<i)&&sGe (nth zT c ((i:Int)-1)).1 c[i].1) then x else y:=by
 by_cases h:0<i
 ·unfold LIM at b
  rw [decide_eq_true (show (i:Int)>0 by omega),decide_eq_true h,cond_true,j01 (by omega),ZaK (by omega) (by omega),cond_true,Bool.true_and]
 ·rw [decide_eq_false (show ¬ (i:Int)>0 by omega),decide_eq_false h];rfl
end Go.PI.G
namespace Go.PI.G
open Go Go.PI
def free (b:Int) (s:ByteArray):Prop:=b ∉ Z1n s
theorem jhH {s:ByteArray} (h:j0u s=true):1<=s.size/\s.size<=8:=by
 unfold j0u at h
 simp only [Bool.and_eq_true,decide_eq_true_eq] at h
 exact h.2
end Go.PI.G
namespace Go.PI.G
open Go Go.PI
abbrev D:=Int×ByteArray×List C×List ByteArray×ByteArray×ByteArray
abbrev ST:=Int×ByteArray×List V×List V×D
abbrev yD:Ty:= .pair (.int .i64) (.pair .str (.pair (.slice yC) (.pair (.slice .str) (.pair .str .str))))
abbrev yST:Ty:= .pair (.int .i64) (.pair .str (.pair (.slice yV) (.pair (.slice yV) yD)))
abbrev zD:D:=(0,eS,[],[],eS,eS)
abbrev zST:ST:=(0,eS,[],[],0,eS,[],[],eS,eS)
theorem joJ:∃ m,Z1c=m+1:=⟨Z1c-1,by have:=Z2b (n:=1) (by omega);omega⟩
theorem j3R (n:Nat):(nI n==0)=(n==0):=by
 unfold nI
 cases n with
 | zero=>rfl
 | succ n=>show ((((n+1:Nat):Int))==0)=false;simp;omega
theorem jrS (n:Nat):(nI n==1)=(n==1):=by
 unfold nI
 by_cases h:n=1
 ·subst h;rfl
 ·have b:(n==1)=false:=by simp [h]
  have d:((n:Int)==1)=false:=by simp;omega
  rw [b,d]
theorem jr7 (m n:Nat):(nI m != nI n)= !(m==n):=by
 unfold nI
 by_cases h:m=n
 ·subst h;simp
 ·have b:(m==n)=false:=by simp [h]
  have d:((m:Int) != n)=true:=by simp;omega
  rw [b,d];rfl
def noD (d:D):Bool:=(d.1==0)&&(sEq d.2.1 eS&&((d.2.2.1.length==0)&&((d.2.2.2.1.length==0)&&(sEq d.2.2.2.2.1 eS&&sEq d.2.2.2.2.2 eS))))
def jcR (d:D):Bool:=(d.2.2.1.length==0)&&(d.2.2.2.1.length==0)
noncomputable def j1b (d:D):Bool:=j0u d.2.1 &&
 (bif d.1==1 then sEq d.2.2.2.2.1 eS&&(sEq d.2.2.2.2.2 eS&&j05 (d.2.1,d.2.2.1,d.2.2.2.1))
  else bif d.1==2 then jcR d&&(sEq d.2.2.2.2.1 eS&&sEq d.2.2.2.2.2 eS)
  else bif d.1==3 then (d.2.2.1.length==1)&&(j1a (nth zC d.2.2.1 0)&&(((nth zC d.2.2.1 0).2.2.2.1|| !(nth zC d.2.2.1 0).2.2.1)&&((d.2.2.2.1.length==0)&&(sEq d.2.2.2.2.1 eS&&sEq d.2.2.2.2.2 eS))))
  else bif d.1==4 then jcR d&&(j0u d.2.2.2.2.1&&sEq d.2.2.2.2.2 eS)
  else bif d.1==5 then jcR d&&(j0u d.2.2.2.2.1&&j0u d.2.2.2.2.2)
  else false)
def j31 (l:List V):Bool:=l.all j0w&&(decide (1<=l.length)&&decide (l.length<=8))
noncomputable def stB (s:ST):Bool:=j0u s.2.1 &&
 (bif s.1==1 then (s.2.2.1.length==0)&&(j31 s.2.2.2.1&&noD s.2.2.2.2)
  else bif s.1==2 then j31 s.2.2.1&&(j31 s.2.2.2.1&&noD s.2.2.2.2)
  else bif s.1==3 then j31 s.2.2.1&&((s.2.2.2.1.length==0)&&noD s.2.2.2.2)
  else bif s.1==4 then (s.2.2.1.length==0)&&((s.2.2.2.1.length==0)&&noD s.2.2.2.2)
  else bif s.1==5 then (s.2.2.1.length==0)&&((s.2.2.2.1.length==0)&&(j1b s.2.2.2.2&&sEq s.2.2.2.2.2.1 s.2.1))
  else false)
def dSm (d:D):Prop:=d.2.1.size<=1048576/\d.2.2.1.length<=1048576/\d.2.2.2.1.length<=1048576/\(∀ c∈d.2.2.1,c.1.size<=1048576)/\(∀ x∈d.2.2.2.1,x.size<=1048576)/\d.2.2.2.2.1.size<=1048576/\d.2.2.2.2.2.size<=1048576
def j15 (s:ST):Prop:=s.2.1.size<=1048576/\s.2.2.1.length<=1048576/\s.2.2.2.1.length<=1048576/\dSm s.2.2.2.2
theorem jgQ (d:D):noD d=true↔d=zD:=by
 obtain ⟨a,b,c,e,f,g⟩:=d
 unfold noD
 simp only [Bool.and_eq_true,beq_iff_eq,j0a,Prod.mk.injEq,List.length_eq_zero_iff]
theorem j8P {d:D} (h:j1b d=true):j0u d.2.1=true /\
  ((∃ t cs ks,d=(1,t,cs,ks,eS,eS)/\j05 (t,cs,ks)=true)\/(∃ t,d=(2,t,[],[],eS,eS))\/(∃ t c,d=(3,t,[c],[],eS,eS)/\j1a c=true) \/
   (∃ t n,d=(4,t,[],[],n,eS)/\j0u n=true)\/∃ t n m,d=(5,t,[],[],n,m)/\j0u n=true/\j0u m=true):=by
 obtain ⟨k,t,cs,ks,n,m⟩:=d
 unfold j1b jcR at h
 dsimp only at h ⊢
 rw [Bool.and_eq_true] at h
 refine ⟨h.1,?_⟩
 have h:=h.2
 cases g:k==1
 ·cases i:k==2
  ·cases j:k==3
   ·cases l:k==4
    ·cases p:k==5
     ·rw [g,i,j,l,p] at h;cases h
     ·rw [g,i,j,l,p] at h
      simp only [cond_false,cond_true,Bool.and_eq_true,beq_iff_eq] at h p
      obtain ⟨⟨a,b⟩,c,e⟩:=h
      rw [List.length_eq_zero_iff] at a b
      subst a;subst b;subst p
      exact .inr (.inr (.inr (.inr ⟨t,n,m,rfl,c,e⟩)))
    ·rw [g,i,j,l] at h
     simp only [cond_false,cond_true,Bool.and_eq_true,beq_iff_eq,j0a] at h l
     obtain ⟨⟨a,b⟩,c,e⟩:=h
     rw [List.length_eq_zero_iff] at a b
     subst a;subst b;subst l;subst e
     exact .inr (.inr (.inr (.inl ⟨t,n,rfl,c⟩)))
   ·rw [g,i,j] at h
    simp only [cond_false,cond_true,Bool.and_eq_true,beq_iff_eq,j0a] at h j
    obtain ⟨a,b,_,c,e,f⟩:=h
    obtain ⟨c0,rfl⟩:=List.length_eq_one_iff.1 a
    rw [List.length_eq_zero_iff] at c
    subst c;subst j;subst e;subst f
    exact .inr (.inr (.inl ⟨t,c0,rfl,b⟩))
  ·rw [g,i] at h
   simp only [cond_false,cond_true,Bool.and_eq_true,beq_iff_eq,j0a] at h i
   obtain ⟨⟨a,b⟩,e,f⟩:=h
   rw [List.length_eq_zero_iff] at a b
   subst a;subst b;subst i;subst e;subst f
   exact .inr (.inl ⟨t,rfl⟩)
 ·rw [g] at h
  simp only [cond_true,Bool.and_eq_true,beq_iff_eq,j0a] at h g
  obtain ⟨e,f,a⟩:=h
  subst g;subst e;subst f
  exact .inl ⟨t,cs,ks,rfl,a⟩
theorem js3 {s:ST} (h:stB s=true):j0u s.2.1=true /\
  ((∃ t r,s=(1,t,[],r,zD)/\j31 r=true)\/(∃ t q r,s=(2,t,q,r,zD)/\j31 q=true/\j31 r=true)\/(∃ t q,s=(3,t,q,[],zD)/\j31 q=true) \/
   (∃ t,s=(4,t,[],[],zD))\/∃ d:D,s=(5,d.2.1,[],[],d)/\j1b d=true):=by
 obtain ⟨k,t,q,r,d⟩:=s
 unfold stB at h
 dsimp only at h ⊢
 rw [Bool.and_eq_true] at h
 refine ⟨h.1,?_⟩
 have h:=h.2
 cases f:k==1
 ·cases g:k==2
  ·cases i:k==3
   ·cases j:k==4
    ·cases l:k==5
     ·rw [f,g,i,j,l] at h;cases h
     ·rw [f,g,i,j,l] at h
      simp only [cond_false,cond_true,Bool.and_eq_true,beq_iff_eq,j0a] at h l
      obtain ⟨a,b,c,e⟩:=h
      rw [List.length_eq_zero_iff] at a b
      subst a;subst b;subst l;subst e
      exact .inr (.inr (.inr (.inr ⟨d,rfl,c⟩)))
    ·rw [f,g,i,j] at h
     simp only [cond_false,cond_true,Bool.and_eq_true,beq_iff_eq,jgQ] at h j
     obtain ⟨a,b,c⟩:=h
     rw [List.length_eq_zero_iff] at a b
     subst a;subst b;subst j;subst c
     exact .inr (.inr (.inr (.inl ⟨t,rfl⟩)))
   ·rw [f,g,i] at h
    simp only [cond_false,cond_true,Bool.and_eq_true,beq_iff_eq,jgQ] at h i
    obtain ⟨a,b,c⟩:=h
    rw [List.length_eq_zero_iff] at b
    subst b;subst i;subst c
    exact .inr (.inr (.inl ⟨t,q,rfl,a⟩))
  ·rw [f,g] at h
   simp only [cond_false,cond_true,Bool.and_eq_true,beq_iff_eq,jgQ] at h g
   obtain ⟨a,b,c⟩:=h
   subst g;subst c
   exact .inr (.inl ⟨t,q,r,rfl,a,b⟩)
 ·rw [f] at h
  simp only [cond_true,Bool.and_eq_true,beq_iff_eq,jgQ] at h f
  obtain ⟨a,b,c⟩:=h
  rw [List.length_eq_zero_iff] at a
  subst a;subst f;subst c
  exact .inl ⟨t,r,rfl,b⟩
end Go.PI.G
