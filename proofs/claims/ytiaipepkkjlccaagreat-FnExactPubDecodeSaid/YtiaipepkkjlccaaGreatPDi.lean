/-
  Program's code interpreted over typed values; printed texts; plain laws. No conditions.
-/
import Derived.Test.YtiaipepkkjlccaaGreatPDd
import Derived.Test.YtiaipepkkjlccaaGreatPDh
set_option linter.unusedVariables false
set_option maxRecDepth 100000
set_option linter.unusedSimpArgs false
namespace Go.PI.G
noncomputable section
open Go Go.PI Go.Proofs
open Go.Code (pl pr)
def j5k (a:List qC)(left:Int)(i:Int)(rec:Int->Int->Res)(b:Int->Res)(d:Unit->Res):Res:=bif decide (i<(nI a.length)) then bif inb i a.length then jgb (nth (eS,0,false,false,0,0,eS) a i) left λr=>bif decide (r<0) then d () else rec r (Z9J (i+1)) else none else b left
def jh9 (a:List qC):(Int×Int)->(Int×Int->Res)->((Int->Res)×(Unit->Res))->Res:=λv rec q=>j5k a v.1 v.2 (λleft i=>rec (left,i)) q.1 q.2
def jej (a:List qC)(n:Nat)(left:Int)(i:Int)(b:Int->Res)(d:Unit->Res):Res:=Z1e (jh9 a) n (left,i) (b,d)
def jiu:Z1c Unit:=NdL 27 27 [.R 0 y7 .S,.I 1,.I 5] [] (λd f=>(d.2.1,d.2.2.1)) (λd v=>(d.1,v.1,v.2,())) (λf v=>()) (λd f=>jh9 d.1) λd f g=>((λb=>g (.exit 0) [(1,vI b)] []),(λ_=>g .ret [(4,vI (-1))] []))
theorem jpx:CN 0 122 Tryz.f165 jiu:=lK (Za5 jlI Zar) [] oN ([],[]) [(0,[1],[])] ([4],[]) λ_ _ _ _ _=>by kernel_rfl
def jbm (a:List qC)(left:Int)(d:Int->Res):Res:=bif decide ((Z9J (left-(nI a.length)))<0) then d (-1) else jej a Z1b (Z9J (left-(nI a.length))) 0 (λb=>d b) (λ_=>d (-1))
def jld:Sig Unit:=sg [.look y7 false,.look tI false] [false] [(y7,none),(tI,none)] [] λb f k=>jbm b.1 b.2.1 (λd=>k [wI d] [] [])
theorem jrX:SO 165 jld:=fK (np:=0) (Za5 jlI Zar) [jiu] (oI 122 0 @jpx oN) false Tryz.func165 λ_ _ _ _=>by kernel_rfl
def j5n (a:List qC)(b:List qC)(i:Int)(rec:qE->Int->Res)(d:qE->Res):Res:=bif decide (i<(nI a.length)) then bif inb i a.length then jgd (nth (eS,0,false,false,0,0,eS) a i) λr=>bif inb i b.length then rec (upd b i r) (Z9J (i+1)) else none else none else d b
def jbN (a:List qC):(qE×Int)->(qE×Int->Res)->((qE->Res))->Res:=λv rec q=>j5n a v.1 v.2 (λb i=>rec (b,i)) q
def jqD (a:List qC)(n:Nat)(b:List qC)(i:Int)(d:qE->Res):Res:=Z1e (jbN a) n (b,i) (d)
def jix:Z1c Unit:=NdL 23 23 [.R 0 y7 .S,.R 3 y7 .O,.I 4] [] (λb f=>(b.2.1,b.2.2.1)) (λb v=>(b.1,v.1,v.2,())) (λf v=>()) (λb f=>jbN b.1) λb f g=>((λd=>g (.exit 0) [(3,v1 y7 d .O)] []))
theorem jpA:CN 0 58 Tryz.f172 jix:=lK (Za5 jlK Zar) [] oN ([],[]) [(0,[3],[])] ([],[]) λ_ _ _ _ _=>by kernel_rfl
def jbp (a:List qC)(d:qE->Res):Res:=bif Z9H (nI a.length) (nI a.length) then jqD a Z1b (Z9g (nI a.length) (eS,0,false,false,0,0,eS)) 0 λb=>d b else none
def jlf:Sig Unit:=sg [.borrow y7 false] [false] [(y7,none)] [] λd f k=>jbp d.1 (λb=>k [w1 y7 b .O] [] [])
theorem js0:SO 172 jlf:=fK (np:=0) (Za5 jlK Zar) [jix] (oI 58 0 @jpA oN) false Tryz.func172 λ_ _ _ _=>by kernel_rfl
def j57 (a:List qC)(b:List qC)(i:Int)(rec:Int->Res)(d:Unit->Res)(f:Unit->Res):Res:=bif decide (i<(nI a.length)) then bif inb i a.length then bif inb i b.length then jg9 (nth (eS,0,false,false,0,0,eS) a i) (nth (eS,0,false,false,0,0,eS) b i) λr=>bif !r then f () else rec (Z9J (i+1)) else none else none else d ()
def jh0 (a:List qC)(b:List qC):Int->(Int->Res)->((Unit->Res)×(Unit->Res))->Res:=λv rec q=>j57 a b v (λi=>rec (i)) q.1 q.2
def jjB (a:List qC)(b:List qC)(n:Nat)(i:Int)(d:Unit->Res)(f:Unit->Res):Res:=Z1e (jh0 a b) n (i) (d,f)
def jir:Z1c Unit:=NdL 27 27 [.R 0 y7 .S,.R 1 y7 .S,.I 5] [] (λb d=>(b.2.2.1)) (λb v=>(b.1,b.2.1,v,())) (λd v=>()) (λb d=>jh0 b.1 b.2.1) λb d f=>((λ_=>f (.exit 0) [] []),(λ_=>f .ret [(4,vB false)] []))
theorem jpu:CN 0 58 Tryz.f181 jir:=lK (Za5 jlF Zar) [] oN ([],[]) [(0,[],[])] ([4],[]) λ_ _ _ _ _=>by kernel_rfl
def jbj (a:List qC)(b:List qC)(d:Bool->Res):Res:=bif ((nI a.length) != (nI b.length)) then d false else jjB a b Z1b 0 (λ_=>d true) (λ_=>d false)
def jla:Sig Unit:=sg [.look y7 false,.look y7 false] [false] [(y7,none),(y7,none)] [] λb f k=>jbj b.1 b.2.1 (λd=>k [wB d] [] [])
theorem jrV:SO 181 jla:=fK (np:=0) (Za5 jlF Zar) [jir] (oI 58 0 @jpu oN) false Tryz.func181 λ_ _ _ _=>by kernel_rfl
def j5a (a:List qC)(d:Int)(i:Int)(b:qE->Res):Res:=bif inb i a.length then b (upd a i ((nth (eS,0,false,false,0,0,eS) a i).1,(nth (eS,0,false,false,0,0,eS) a i).2.1,((Int.tmod d 3)==0),(nth (eS,0,false,false,0,0,eS) a i).2.2.2)) else none
def j2E:Z1c Unit:=Nd 71 71 [.R 0 y7 .O,.I 1,.I 5] [] λb g f=>j5a b.1 b.2.1 b.2.2.1 (λd=>f .normal [(0,v1 y7 d .O),(1,vI b.2.1),(5,vI b.2.2.1)] [])
theorem jmV:CN 1 13470 Tryz.f54 j2E:=nK (Za5 j0c Zar) [] oN ([0,1,5],[]) [] ([],[]) λ_ _ _=>by kernel_rfl
def j5b (a:List qC)(d:Int)(i:Int)(b:qE->Res):Res:=bif inb i a.length then b (upd a i ((nth (eS,0,false,false,0,0,eS) a i).1,(nth (eS,0,false,false,0,0,eS) a i).2.1,(nth (eS,0,false,false,0,0,eS) a i).2.2.1,(nth (eS,0,false,false,0,0,eS) a i).2.2.2.1,d,(nth (eS,0,false,false,0,0,eS) a i).2.2.2.2.2)) else none
def j4w:Z1c Unit:=Nd 71 71 [.R 0 y7 .O,.I 1,.I 5] [] λb g f=>j5b b.1 b.2.1 b.2.2.1 (λd=>f .normal [(0,v1 y7 d .O),(1,vI b.2.1),(5,vI b.2.2.1)] [])
theorem jmW:CN 1 215550 Tryz.f54 j4w:=nK (Za5 j0c Zar) [j2E] oN ([0,1,5],[]) [] ([],[]) λ_ _ _=>by kernel_rfl
def j5c (a:List qC)(d:Int)(i:Int)(b:qE->Res):Res:=j05 d λr=>bif inb i a.length then b (upd a i ((nth (eS,0,false,false,0,0,eS) a i).1,(nth (eS,0,false,false,0,0,eS) a i).2.1,(nth (eS,0,false,false,0,0,eS) a i).2.2.1,(nth (eS,0,false,false,0,0,eS) a i).2.2.2.1,(nth (eS,0,false,false,0,0,eS) a i).2.2.2.2.1,(nth (eS,0,false,false,0,0,eS) a i).2.2.2.2.2.1,r)) else none
def j7h:Z1c Unit:=Nd 71 71 [.R 0 y7 .O,.I 1,.I 5] [] λb g f=>j5c b.1 b.2.1 b.2.2.1 (λd=>f .normal [(0,v1 y7 d .O),(1,vI b.2.1),(5,vI b.2.2.1)] [])
theorem jmX:CN 1 3448830 Tryz.f54 j7h:=nK (Za5 j0c Zar) [j2E,j4w] oN ([0,1,5],[]) [] ([],[]) λ_ _ _=>by kernel_rfl
def j1W (a:List qC)(b:Int)(i:Int)(rec:qE->Int->Int->Res)(h:qE->Int->Res):Res:=bif decide (i<(nI a.length)) then j05 b λr=>bif inb i a.length then bif inb i (List.length (upd a i (r,(nth (eS,0,false,false,0,0,eS) a i).2))) then j5a (upd (upd a i (r,(nth (eS,0,false,false,0,0,eS) a i).2)) i ((nth (eS,0,false,false,0,0,eS) (upd a i (r,(nth (eS,0,false,false,0,0,eS) a i).2)) i).1,Z9J (b+1),(nth (eS,0,false,false,0,0,eS) (upd a i (r,(nth (eS,0,false,false,0,0,eS) a i).2)) i).2.2)) (Z9J ((Z9J (b+1))+1)) i λf=>bif inb i f.length then j5b (upd f i ((nth (eS,0,false,false,0,0,eS) f i).1,(nth (eS,0,false,false,0,0,eS) f i).2.1,(nth (eS,0,false,false,0,0,eS) f i).2.2.1,((Int.tmod (Z9J ((Z9J ((Z9J (b+1))+1))+1)) 3)==0),(nth (eS,0,false,false,0,0,eS) f i).2.2.2.2)) (Z9J ((Z9J ((Z9J ((Z9J (b+1))+1))+1))+1)) i λd=>bif inb i d.length then j5c (upd d i ((nth (eS,0,false,false,0,0,eS) d i).1,(nth (eS,0,false,false,0,0,eS) d i).2.1,(nth (eS,0,false,false,0,0,eS) d i).2.2.1,(nth (eS,0,false,false,0,0,eS) d i).2.2.2.1,(nth (eS,0,false,false,0,0,eS) d i).2.2.2.2.1,Z9J ((Z9J ((Z9J ((Z9J ((Z9J (b+1))+1))+1))+1))+1),(nth (eS,0,false,false,0,0,eS) d i).2.2.2.2.2.2)) (Z9J ((Z9J ((Z9J ((Z9J ((Z9J ((Z9J (b+1))+1))+1))+1))+1))+1)) i λg=>rec g (Z9J ((Z9J ((Z9J ((Z9J ((Z9J ((Z9J ((Z9J (b+1))+1))+1))+1))+1))+1))+1)) (Z9J (i+1)) else none else none else none else none else h a b
def j6s:(qE×Int×Int)->(qE×Int×Int->Res)->((qE->Int->Res))->Res:=λv rec q=>j1W v.1 v.2.1 v.2.2 (λa b i=>rec (a,b,i)) q
def jh5 (n:Nat)(a:List qC)(d:Int)(i:Int)(b:qE->Int->Res):Res:=Z1e (j6s) n (a,d,i) (b)
def jg0:Z1c Unit:=NdL 71 71 [.R 0 y7 .O,.I 1,.I 5] [] (λb f=>(b.1,b.2.1,b.2.2.1)) (λb v=>(v.1,v.2.1,v.2.2,())) (λf v=>()) (λb f=>j6s) λb f h=>((λg d=>h (.exit 0) [(0,v1 y7 g .O),(1,vI d)] []))
theorem jmU:CN 1 26 Tryz.f54 jg0:=lK (Za5 j0c Zar) [j2E,j4w,j7h] (oI 414 0 @jmV (oI 6654 1 @jmW (oI 106494 2 @jmX oN))) ([],[]) [(0,[0,1],[])] ([],[]) λ_ _ _ _ _=>by delta j6s j1W j1w j2E j4w j7h;refine gz j05 λ_ b=>gz j5a λ_ d=>gz j5b λ_ f=>gz j5c λ_ g=> ?_;rewrite[<-b,<-d,<-f,<-g];kernel_rfl
def j65 (a:List qC)(g:Int)(f:Int->qE->Res):Res:=jh5 Z1b a g 0 λd b=>f b d
def j9w:Sig Unit:=sg [.inout y7 false,.borrow tI false] [false] [(y7,some [.O]),(tI,none)] [] λb g k=>j65 b.1 b.2.1 (λf d=>k [wI f] [w1 y7 d .O] [])
theorem jhP:SO 54 j9w:=fK (np:=1) (Za5 j0c Zar) [j2E,j4w,j7h,jg0] (oI 26 3 @jmU oN) false Tryz.func54 λ_ _ _ _=>by kernel_rfl
def j1U (a:List qC)(b:Int)(i:Int)(rec:Int->Int->Res)(f:Int->Res)(d:Unit->Res):Res:=bif decide (i<(nI a.length)) then bif inb i a.length then j05 b λr=>bif sNe (nth (eS,0,false,false,0,0,eS) a i).1 r then d () else bif inb i a.length then bif ((nth (eS,0,false,false,0,0,eS) a i).2.1 != (Z9J (b+1))) then d () else bif inb i a.length then bif !((nth (eS,0,false,false,0,0,eS) a i).2.2.1==((Int.tmod (Z9J ((Z9J (b+1))+1)) 3)==0)) then d () else bif inb i a.length then bif !((nth (eS,0,false,false,0,0,eS) a i).2.2.2.1==((Int.tmod (Z9J ((Z9J ((Z9J (b+1))+1))+1)) 3)==0)) then d () else bif inb i a.length then bif ((nth (eS,0,false,false,0,0,eS) a i).2.2.2.2.1 != (Z9J ((Z9J ((Z9J ((Z9J (b+1))+1))+1))+1))) then d () else bif inb i a.length then bif ((nth (eS,0,false,false,0,0,eS) a i).2.2.2.2.2.1 != (Z9J ((Z9J ((Z9J ((Z9J ((Z9J (b+1))+1))+1))+1))+1))) then d () else bif inb i a.length then j05 (Z9J ((Z9J ((Z9J ((Z9J ((Z9J ((Z9J (b+1))+1))+1))+1))+1))+1)) λg=>bif sNe (nth (eS,0,false,false,0,0,eS) a i).2.2.2.2.2.2 g then d () else rec (Z9J ((Z9J ((Z9J ((Z9J ((Z9J ((Z9J ((Z9J (b+1))+1))+1))+1))+1))+1))+1)) (Z9J (i+1)) else none else none else none else none else none else none else none else f b
def j6q (a:List qC):(Int×Int)->(Int×Int->Res)->((Int->Res)×(Unit->Res))->Res:=λv rec q=>j1U a v.1 v.2 (λb i=>rec (b,i)) q.1 q.2
def jh3 (a:List qC)(n:Nat)(f:Int)(i:Int)(b:Int->Res)(d:Unit->Res):Res:=Z1e (j6q a) n (f,i) (b,d)
def jfY:Z1c Unit:=NdL 85 85 [.R 0 y7 .S,.I 1,.I 5] [] (λb f=>(b.2.1,b.2.2.1)) (λb v=>(b.1,v.1,v.2,())) (λf v=>()) (λb f=>j6q b.1) λb f g=>((λd=>g (.exit 0) [(1,vI d)] []),(λ_=>g .ret [(4,vI (-1))] []))
theorem jmS:CN 0 26 Tryz.f87 jfY:=lK (Za5 j0c Zar) [] oN ([],[]) [(0,[1],[])] ([4],[]) λ_ _ _ _ _=>by delta j6q j1U j1w;refine gz j05 λ_ b=> ?_;rewrite[<-b];kernel_rfl
def j8S (a:List qC)(f:Int)(d:Int->Res):Res:=jh3 a Z1b f 0 (λb=>d b) (λ_=>d (-1))
def jd7:Sig Unit:=sg [.look y7 false,.look tI false] [false] [(y7,none),(tI,none)] [] λb f k=>j8S b.1 b.2.1 (λd=>k [wI d] [] [])
theorem joT:SO 87 jd7:=fK (np:=0) (Za5 j0c Zar) [jfY] (oI 26 0 @jmS oN) false Tryz.func87 λ_ _ _ _=>by kernel_rfl
end
end Go.PI.G
namespace Go.PI.G
noncomputable section
open Go Go.PI Go.Proofs
open Go.Code (pl pr)
def j2T (a:qL)(left:Int)(i:Int)(rec:Int->Int->Res)(b:Int->Res)(d:Unit->Res):Res:=bif decide (i<(nI a.length)) then bif inb i a.length then bif decide ((Z9J (left-(nI (ByteArray.size (nth eS a i)))))<0) then d () else rec (Z9J (left-(nI (ByteArray.size (nth eS a i))))) (Z9J (i+1)) else none else b left
def jdS (a:qL):(Int×Int)->(Int×Int->Res)->((Int->Res)×(Unit->Res))->Res:=λv rec q=>j2T a v.1 v.2 (λleft i=>rec (left,i)) q.1 q.2
def jaY (a:qL)(n:Nat)(left:Int)(i:Int)(b:Int->Res)(d:Unit->Res):Res:=Z1e (jdS a) n (left,i) (b,d)
def jfi:Z1c Unit:=NdL 28 28 [.R 0 y8 .S,.I 1,.I 5] [] (λd f=>(d.2.1,d.2.2.1)) (λd v=>(d.1,v.1,v.2,())) (λf v=>()) (λd f=>jdS d.1) λd f g=>((λb=>g (.exit 0) [(1,vI b)] []),(λ_=>g .ret [(4,vI (-1))] []))
theorem jm8:CN 0 122 Tryz.f40 jfi:=lK Zar [] oN ([],[]) [(0,[1],[])] ([4],[]) λ_ _ _ _ _=>by kernel_rfl
def j4N (a:qL)(left:Int)(d:Int->Res):Res:=bif decide ((Z9J (left-(nI a.length)))<0) then d (-1) else jaY a Z1b (Z9J (left-(nI a.length))) 0 (λb=>d b) (λ_=>d (-1))
def jhl:Sig Unit:=sg [.look y8 false,.look tI false] [false] [(y8,none),(tI,none)] [] λb f k=>j4N b.1 b.2.1 (λd=>k [wI d] [] [])
theorem jgC:SO 40 jhl:=fK (np:=0) Zar [jfi] (oI 122 0 @jm8 oN) false Tryz.func40 λ_ _ _ _=>by kernel_rfl
def j2U (a:qL)(b:qL)(i:Int)(rec:qL->Int->Res)(d:qL->Res):Res:=bif decide (i<(nI a.length)) then bif inb i a.length then bif inb i b.length then rec (upd b i (nth eS a i)) (Z9J (i+1)) else none else none else d b
def j9e (a:qL):(qL×Int)->(qL×Int->Res)->((qL->Res))->Res:=λv rec q=>j2U a v.1 v.2 (λb i=>rec (b,i)) q
def jmN (a:qL)(n:Nat)(b:qL)(i:Int)(d:qL->Res):Res:=Z1e (j9e a) n (b,i) (d)
def jfj:Z1c Unit:=NdL 22 22 [.R 0 y8 .S,.R 3 y8 .O,.I 4] [] (λb f=>(b.2.1,b.2.2.1)) (λb v=>(b.1,v.1,v.2,())) (λf v=>()) (λb f=>j9e b.1) λb f g=>((λd=>g (.exit 0) [(3,v1 y8 d .O)] []))
theorem jm9:CN 0 58 Tryz.f44 jfj:=lK Zar [] oN ([],[]) [(0,[3],[])] ([],[]) λ_ _ _ _ _=>by kernel_rfl
def j4O (a:qL)(d:qL->Res):Res:=bif Z9H (nI a.length) (nI a.length) then jmN a Z1b (Z9g (nI a.length) eS) 0 λb=>d b else none
def jhm:Sig Unit:=sg [.borrow y8 false] [false] [(y8,none)] [] λd f k=>j4O d.1 (λb=>k [w1 y8 b .O] [] [])
theorem jgE:SO 44 jhm:=fK (np:=0) Zar [jfj] (oI 58 0 @jm9 oN) false Tryz.func44 λ_ _ _ _=>by kernel_rfl
def j2S (a:qL)(b:qL)(i:Int)(rec:Int->Res)(d:Unit->Res)(f:Unit->Res):Res:=bif decide (i<(nI a.length)) then bif inb i a.length then bif inb i b.length then bif sNe (nth eS a i) (nth eS b i) then f () else rec (Z9J (i+1)) else none else none else d ()
def jdP (a:qL)(b:qL):Int->(Int->Res)->((Unit->Res)×(Unit->Res))->Res:=λv rec q=>j2S a b v (λi=>rec (i)) q.1 q.2
def jfT (a:qL)(b:qL)(n:Nat)(i:Int)(d:Unit->Res)(f:Unit->Res):Res:=Z1e (jdP a b) n (i) (d,f)
def jff:Z1c Unit:=NdL 26 26 [.R 0 y8 .S,.R 1 y8 .S,.I 5] [] (λb d=>(b.2.2.1)) (λb v=>(b.1,b.2.1,v,())) (λd v=>()) (λb d=>jdP b.1 b.2.1) λb d f=>((λ_=>f (.exit 0) [] []),(λ_=>f .ret [(4,vB false)] []))
theorem jlZ:CN 0 58 Tryz.f49 jff:=lK Zar [] oN ([],[]) [(0,[],[])] ([4],[]) λ_ _ _ _ _=>by kernel_rfl
def j1r (a:qL)(b:qL)(d:Bool->Res):Res:=bif ((nI a.length) != (nI b.length)) then d false else jfT a b Z1b 0 (λ_=>d true) (λ_=>d false)
def jbS:Sig Unit:=sg [.look y8 false,.look y8 false] [false] [(y8,none),(y8,none)] [] λb f k=>j1r b.1 b.2.1 (λd=>k [wB d] [] [])
theorem jbG:SO 49 jbS:=fK (np:=0) Zar [jff] (oI 58 0 @jlZ oN) false Tryz.func49 λ_ _ _ _=>by kernel_rfl
def j1Y (a:qL)(b:Int)(i:Int)(rec:qL->Int->Int->Res)(d:qL->Int->Res):Res:=bif decide (i<(nI a.length)) then j05 b λr=>bif inb i a.length then rec (upd a i r) (Z9J (b+1)) (Z9J (i+1)) else none else d a b
def j7A:(qL×Int×Int)->(qL×Int×Int->Res)->((qL->Int->Res))->Res:=λv rec q=>j1Y v.1 v.2.1 v.2.2 (λa b i=>rec (a,b,i)) q
def jdR (n:Nat)(a:qL)(d:Int)(i:Int)(b:qL->Int->Res):Res:=Z1e (j7A) n (a,d,i) (b)
def jdE:Z1c Unit:=NdL 20 20 [.R 0 y8 .O,.I 1,.I 5] [] (λb f=>(b.1,b.2.1,b.2.2.1)) (λb v=>(v.1,v.2.1,v.2.2,())) (λf v=>()) (λb f=>j7A) λb f h=>((λg d=>h (.exit 0) [(0,v1 y8 g .O),(1,vI d)] []))
theorem jkn:CN 1 26 Tryz.f51 jdE:=lK (Za5 j0c Zar) [] oN ([],[]) [(0,[0,1],[])] ([],[]) λ_ _ _ _ _=>by kernel_rfl
def j0P (a:qL)(g:Int)(f:Int->qL->Res):Res:=jdR Z1b a g 0 λd b=>f b d
def j6w:Sig Unit:=sg [.inout y8 false,.borrow tI false] [false] [(y8,some [.O]),(tI,none)] [] λb g k=>j0P b.1 b.2.1 (λf d=>k [wI f] [w1 y8 d .O] [])
theorem j9M:SO 51 j6w:=fK (np:=1) (Za5 j0c Zar) [jdE] (oI 26 0 @jkn oN) false Tryz.func51 λ_ _ _ _=>by kernel_rfl
def j1V (a:qL)(b:Int)(i:Int)(rec:Int->Int->Res)(d:Int->Res)(f:Unit->Res):Res:=bif decide (i<(nI a.length)) then bif inb i a.length then j05 b λr=>bif sNe (nth eS a i) r then f () else rec (Z9J (b+1)) (Z9J (i+1)) else none else d b
def j7z (a:qL):(Int×Int)->(Int×Int->Res)->((Int->Res)×(Unit->Res))->Res:=λv rec q=>j1V a v.1 v.2 (λb i=>rec (b,i)) q.1 q.2
def jdQ (a:qL)(n:Nat)(f:Int)(i:Int)(b:Int->Res)(d:Unit->Res):Res:=Z1e (j7z a) n (f,i) (b,d)
def jdD:Z1c Unit:=NdL 22 22 [.R 0 y8 .S,.I 1,.I 5] [] (λb f=>(b.2.1,b.2.2.1)) (λb v=>(b.1,v.1,v.2,())) (λf v=>()) (λb f=>j7z b.1) λb f g=>((λd=>g (.exit 0) [(1,vI d)] []),(λ_=>g .ret [(4,vI (-1))] []))
theorem jkm:CN 0 26 Tryz.f88 jdD:=lK (Za5 j0c Zar) [] oN ([],[]) [(0,[1],[])] ([4],[]) λ_ _ _ _ _=>by kernel_rfl
def j1P (a:qL)(f:Int)(d:Int->Res):Res:=jdQ a Z1b f 0 (λb=>d b) (λ_=>d (-1))
def ja2:Sig Unit:=sg [.look y8 false,.look tI false] [false] [(y8,none),(tI,none)] [] λb f k=>j1P b.1 b.2.1 (λd=>k [wI d] [] [])
theorem jlH:SO 88 ja2:=fK (np:=0) (Za5 j0c Zar) [jdD] (oI 26 0 @jkm oN) false Tryz.func88 λ_ _ _ _=>by kernel_rfl
end
end Go.PI.G
namespace Go.PI.G
noncomputable section
open Go Go.PI Go.Proofs
open Go.Code (pl pr)
def jaz (a:qG)(left:Int)(b:Int->Res):Res:=bif decide ((Z9J (left-(nI a.2.1.size)))<0) then b (-1) else jbm a.2.2.1 (Z9J (left-(nI a.2.1.size))) λr=>bif decide (r<0) then b (-1) else j4N a.2.2.2.1 r λd=>bif decide (d<0) then b (-1) else bif decide ((Z9J (d-(nI a.2.2.2.2.1.size)))<0) then b (-1) else bif decide ((Z9J ((Z9J (d-(nI a.2.2.2.2.1.size)))-(nI a.2.2.2.2.2.size)))<0) then b (-1) else b (Z9J ((Z9J (d-(nI a.2.2.2.2.1.size)))-(nI a.2.2.2.2.2.size)))
def jmr:Sig Unit:=sg [.look y13 true,.look tI false] [false] [(y13,none),(tI,none)] [] λb f k=>jaz b.1 b.2.1 (λd=>k [wI d] [] [])
theorem jsS:SO 116 jmr:=fK (np:=0) (Za5 jgC (Za5 jrX Zar)) [] oN false Tryz.func116 λ_ _ _ _=>by delta jaz jld jhl;refine gz jbm λ_ b=>gz j4N λ_ d=> ?_;rewrite[<-b,<-d];kernel_rfl
def jaA (a:qG)(b:qG->Res):Res:=jbp a.2.2.1 λr=>j4O a.2.2.2.1 λd=>b (a.1,a.2.1,r,d,a.2.2.2.2.1,a.2.2.2.2.2)
def jmt:Sig Unit:=sg [.borrow y13 true] [true] [(y13,none)] [] λd f k=>jaA d.1 (λb=>k [⟨y13,true,b,[.O,.O]⟩] [] [])
theorem jsV:SO 125 jmt:=fK (np:=0) (Za5 jgE (Za5 js0 Zar)) [] oN false Tryz.func125 λ_ _ _ _=>by delta jaA jlf jhm;refine gz jbp λ_ b=>gz j4O λ_ d=> ?_;rewrite[<-b,<-d];kernel_rfl
def jaw (a:qG)(b:qG)(d:Bool->Res):Res:=bif (a.1 != b.1) then d false else bif sNe a.2.1 b.2.1 then d false else jbj a.2.2.1 b.2.2.1 λr=>bif !r then d false else j1r a.2.2.2.1 b.2.2.2.1 λf=>bif !f then d false else bif sNe a.2.2.2.2.1 b.2.2.2.2.1 then d false else bif sNe a.2.2.2.2.2 b.2.2.2.2.2 then d false else d true
def jmp:Sig Unit:=sg [.look y13 true,.look y13 true] [false] [(y13,none),(y13,none)] [] λb f k=>jaw b.1 b.2.1 (λd=>k [wB d] [] [])
theorem jsP:SO 136 jmp:=fK (np:=0) (Za5 jbG (Za5 jrV Zar)) [] oN false Tryz.func136 λ_ _ _ _=>by delta jaw jla jbS;refine gz jbj λ_ b=>gz j1r λ_ d=> ?_;rewrite[<-b,<-d];kernel_rfl
end
end Go.PI.G
namespace Go.PI.G
noncomputable section
open Go Go.PI Go.Proofs
open Go.Code (pl pr)
def j5m (a:List qV)(left:Int)(i:Int)(rec:Int->Int->Res)(b:Int->Res)(d:Unit->Res):Res:=bif decide (i<(nI a.length)) then bif inb i a.length then jcT (nth (0,0,eS) a i) left λr=>bif decide (r<0) then d () else rec r (Z9J (i+1)) else none else b left
def jhb (a:List qV):(Int×Int)->(Int×Int->Res)->((Int->Res)×(Unit->Res))->Res:=λv rec q=>j5m a v.1 v.2 (λleft i=>rec (left,i)) q.1 q.2
def jel (a:List qV)(n:Nat)(left:Int)(i:Int)(b:Int->Res)(d:Unit->Res):Res:=Z1e (jhb a) n (left,i) (b,d)
def jiw:Z1c Unit:=NdL 27 27 [.R 0 y2 .S,.I 1,.I 5] [] (λd f=>(d.2.1,d.2.2.1)) (λd v=>(d.1,v.1,v.2,())) (λf v=>()) (λd f=>jhb d.1) λd f g=>((λb=>g (.exit 0) [(1,vI b)] []),(λ_=>g .ret [(4,vI (-1))] []))
theorem jpz:CN 0 122 Tryz.f114 jiw:=lK (Za5 jgD Zar) [] oN ([],[]) [(0,[1],[])] ([4],[]) λ_ _ _ _ _=>by kernel_rfl
def j95 (a:List qV)(left:Int)(d:Int->Res):Res:=bif decide ((Z9J (left-(nI a.length)))<0) then d (-1) else jel a Z1b (Z9J (left-(nI a.length))) 0 (λb=>d b) (λ_=>d (-1))
def jle:Sig Unit:=sg [.look y2 false,.look tI false] [false] [(y2,none),(tI,none)] [] λb f k=>j95 b.1 b.2.1 (λd=>k [wI d] [] [])
theorem jkX:SO 114 jle:=fK (np:=0) (Za5 jgD Zar) [jiw] (oI 122 0 @jpz oN) false Tryz.func114 λ_ _ _ _=>by kernel_rfl
def j5p (a:List qV)(b:List qV)(i:Int)(rec:qW->Int->Res)(d:qW->Res):Res:=bif decide (i<(nI a.length)) then bif inb i a.length then jcV (nth (0,0,eS) a i) λr=>bif inb i b.length then rec (upd b i r) (Z9J (i+1)) else none else none else d b
def jbP (a:List qV):(qW×Int)->(qW×Int->Res)->((qW->Res))->Res:=λv rec q=>j5p a v.1 v.2 (λb i=>rec (b,i)) q
def jqF (a:List qV)(n:Nat)(b:List qV)(i:Int)(d:qW->Res):Res:=Z1e (jbP a) n (b,i) (d)
def jiz:Z1c Unit:=NdL 23 23 [.R 0 y2 .S,.R 3 y2 .O,.I 4] [] (λb f=>(b.2.1,b.2.2.1)) (λb v=>(b.1,v.1,v.2,())) (λf v=>()) (λb f=>jbP b.1) λb f g=>((λd=>g (.exit 0) [(3,v1 y2 d .O)] []))
theorem jpC:CN 0 58 Tryz.f123 jiz:=lK (Za5 jgF Zar) [] oN ([],[]) [(0,[3],[])] ([],[]) λ_ _ _ _ _=>by kernel_rfl
def j96 (a:List qV)(d:qW->Res):Res:=bif Z9H (nI a.length) (nI a.length) then jqF a Z1b (Z9g (nI a.length) (0,0,eS)) 0 λb=>d b else none
def jlg:Sig Unit:=sg [.borrow y2 false] [false] [(y2,none)] [] λd f k=>j96 d.1 (λb=>k [w1 y2 b .O] [] [])
theorem jkY:SO 123 jlg:=fK (np:=0) (Za5 jgF Zar) [jiz] (oI 58 0 @jpC oN) false Tryz.func123 λ_ _ _ _=>by kernel_rfl
def j59 (a:List qV)(b:List qV)(i:Int)(rec:Int->Res)(d:Unit->Res)(f:Unit->Res):Res:=bif decide (i<(nI a.length)) then bif inb i a.length then bif inb i b.length then jcQ (nth (0,0,eS) a i) (nth (0,0,eS) b i) λr=>bif !r then f () else rec (Z9J (i+1)) else none else none else d ()
def jh2 (a:List qV)(b:List qV):Int->(Int->Res)->((Unit->Res)×(Unit->Res))->Res:=λv rec q=>j59 a b v (λi=>rec (i)) q.1 q.2
def jjD (a:List qV)(b:List qV)(n:Nat)(i:Int)(d:Unit->Res)(f:Unit->Res):Res:=Z1e (jh2 a b) n (i) (d,f)
def jit:Z1c Unit:=NdL 27 27 [.R 0 y2 .S,.R 1 y2 .S,.I 5] [] (λb d=>(b.2.2.1)) (λb v=>(b.1,b.2.1,v,())) (λd v=>()) (λb d=>jh2 b.1 b.2.1) λb d f=>((λ_=>f (.exit 0) [] []),(λ_=>f .ret [(4,vB false)] []))
theorem jpw:CN 0 58 Tryz.f134 jit:=lK (Za5 jgz Zar) [] oN ([],[]) [(0,[],[])] ([4],[]) λ_ _ _ _ _=>by kernel_rfl
def j94 (a:List qV)(b:List qV)(d:Bool->Res):Res:=bif ((nI a.length) != (nI b.length)) then d false else jjD a b Z1b 0 (λ_=>d true) (λ_=>d false)
def jlc:Sig Unit:=sg [.look y2 false,.look y2 false] [false] [(y2,none),(y2,none)] [] λb f k=>j94 b.1 b.2.1 (λd=>k [wB d] [] [])
theorem jkW:SO 134 jlc:=fK (np:=0) (Za5 jgz Zar) [jit] (oI 58 0 @jpw oN) false Tryz.func134 λ_ _ _ _=>by kernel_rfl
def j3p (a:List qV)(b:Int)(i:Int)(rec:qW->Int->Int->Res)(d:qW->Int->Res):Res:=bif decide (i<(nI a.length)) then bif inb i a.length then bif inb i (List.length (upd a i (b,(nth (0,0,eS) a i).2))) then j05 (Z9J ((Z9J (b+1))+1)) λr=>bif inb i (List.length (upd (upd a i (b,(nth (0,0,eS) a i).2)) i ((nth (0,0,eS) (upd a i (b,(nth (0,0,eS) a i).2)) i).1,Z9J (b+1),(nth (0,0,eS) (upd a i (b,(nth (0,0,eS) a i).2)) i).2.2))) then rec (upd (upd (upd a i (b,(nth (0,0,eS) a i).2)) i ((nth (0,0,eS) (upd a i (b,(nth (0,0,eS) a i).2)) i).1,Z9J (b+1),(nth (0,0,eS) (upd a i (b,(nth (0,0,eS) a i).2)) i).2.2)) i ((nth (0,0,eS) (upd (upd a i (b,(nth (0,0,eS) a i).2)) i ((nth (0,0,eS) (upd a i (b,(nth (0,0,eS) a i).2)) i).1,Z9J (b+1),(nth (0,0,eS) (upd a i (b,(nth (0,0,eS) a i).2)) i).2.2)) i).1,(nth (0,0,eS) (upd (upd a i (b,(nth (0,0,eS) a i).2)) i ((nth (0,0,eS) (upd a i (b,(nth (0,0,eS) a i).2)) i).1,Z9J (b+1),(nth (0,0,eS) (upd a i (b,(nth (0,0,eS) a i).2)) i).2.2)) i).2.1,r)) (Z9J ((Z9J ((Z9J (b+1))+1))+1)) (Z9J (i+1)) else none else none else none else d a b
def j9Z:(qW×Int×Int)->(qW×Int×Int->Res)->((qW->Int->Res))->Res:=λv rec q=>j3p v.1 v.2.1 v.2.2 (λa b i=>rec (a,b,i)) q
def jh8 (n:Nat)(a:List qV)(d:Int)(i:Int)(b:qW->Int->Res):Res:=Z1e (j9Z) n (a,d,i) (b)
def jg3:Z1c Unit:=NdL 35 35 [.R 0 y2 .O,.I 1,.I 5] [] (λb f=>(b.1,b.2.1,b.2.2.1)) (λb v=>(v.1,v.2.1,v.2.2,())) (λf v=>()) (λb f=>j9Z) λb f h=>((λg d=>h (.exit 0) [(0,v1 y2 g .O),(1,vI d)] []))
theorem jn7:CN 1 26 Tryz.f53 jg3:=lK (Za5 j0c Zar) [] oN ([],[]) [(0,[0,1],[])] ([],[]) λ_ _ _ _ _=>by kernel_rfl
def j1I (a:List qV)(g:Int)(f:Int->qW->Res):Res:=jh8 Z1b a g 0 λd b=>f b d
def j6x:Sig Unit:=sg [.inout y2 false,.borrow tI false] [false] [(y2,some [.O]),(tI,none)] [] λb g k=>j1I b.1 b.2.1 (λf d=>k [wI f] [w1 y2 d .O] [])
theorem jhQ:SO 53 j6x:=fK (np:=1) (Za5 j0c Zar) [jg3] (oI 26 0 @jn7 oN) false Tryz.func53 λ_ _ _ _=>by kernel_rfl
def j3n (a:List qV)(b:Int)(i:Int)(rec:Int->Int->Res)(f:Int->Res)(d:Unit->Res):Res:=bif decide (i<(nI a.length)) then bif inb i a.length then bif ((nth (0,0,eS) a i).1 != b) then d () else bif inb i a.length then bif ((nth (0,0,eS) a i).2.1 != (Z9J (b+1))) then d () else bif inb i a.length then j05 (Z9J ((Z9J (b+1))+1)) λr=>bif sNe (nth (0,0,eS) a i).2.2 r then d () else rec (Z9J ((Z9J ((Z9J (b+1))+1))+1)) (Z9J (i+1)) else none else none else none else f b
def j9X (a:List qV):(Int×Int)->(Int×Int->Res)->((Int->Res)×(Unit->Res))->Res:=λv rec q=>j3n a v.1 v.2 (λb i=>rec (b,i)) q.1 q.2
def jh4 (a:List qV)(n:Nat)(f:Int)(i:Int)(b:Int->Res)(d:Unit->Res):Res:=Z1e (j9X a) n (f,i) (b,d)
def jfZ:Z1c Unit:=NdL 41 41 [.R 0 y2 .S,.I 1,.I 5] [] (λb f=>(b.2.1,b.2.2.1)) (λb v=>(b.1,v.1,v.2,())) (λf v=>()) (λb f=>j9X b.1) λb f g=>((λd=>g (.exit 0) [(1,vI d)] []),(λ_=>g .ret [(4,vI (-1))] []))
theorem jmT:CN 0 26 Tryz.f86 jfZ:=lK (Za5 j0c Zar) [] oN ([],[]) [(0,[1],[])] ([4],[]) λ_ _ _ _ _=>by kernel_rfl
def j64 (a:List qV)(f:Int)(d:Int->Res):Res:=jh4 a Z1b f 0 (λb=>d b) (λ_=>d (-1))
def jd8:Sig Unit:=sg [.look y2 false,.look tI false] [false] [(y2,none),(tI,none)] [] λb f k=>j64 b.1 b.2.1 (λd=>k [wI d] [] [])
theorem joU:SO 86 jd8:=fK (np:=0) (Za5 j0c Zar) [jfZ] (oI 26 0 @jmT oN) false Tryz.func86 λ_ _ _ _=>by kernel_rfl
end
end Go.PI.G
namespace Go.PI.G
noncomputable section
open Go Go.PI Go.Proofs
open Go.Code (pl pr)
def jcS (a:List qV)(left:Int)(b:Int->Res):Res:=j95 a left λr=>bif decide (r<0) then b (-1) else b r
def jms:Sig Unit:=sg [.look y2 true,.look tI false] [false] [(y2,none),(tI,none)] [] λb f k=>jcS b.1 b.2.1 (λd=>k [wI d] [] [])
theorem jsU:SO 115 jms:=fK (np:=0) (Za5 jkX Zar) [] oN false Tryz.func115 λ_ _ _ _=>by kernel_rfl
def jcU (a:List qV)(b:qW->Res):Res:=j96 a λr=>b r
def jmu:Sig Unit:=sg [.borrow y2 true] [true] [(y2,none)] [] λd f k=>jcU d.1 (λb=>k [⟨y2,true,b,[.O]⟩] [] [])
theorem jsX:SO 124 jmu:=fK (np:=0) (Za5 jkY Zar) [] oN false Tryz.func124 λ_ _ _ _=>by kernel_rfl
def jcP (a:List qV)(b:List qV)(d:Bool->Res):Res:=j94 a b λr=>bif !r then d false else d true
def jmq:Sig Unit:=sg [.look y2 true,.look y2 true] [false] [(y2,none),(y2,none)] [] λb f k=>jcP b.1 b.2.1 (λd=>k [wB d] [] [])
theorem jsR:SO 135 jmq:=fK (np:=0) (Za5 jkW Zar) [] oN false Tryz.func135 λ_ _ _ _=>by kernel_rfl
end
end Go.PI.G
namespace Go.PI.G
noncomputable section
open Go Go.PI Go.Proofs
open Go.Code (pl pr)
def jbo (a:qS)(left:Int)(b:Int->Res):Res:=bif decide ((Z9J (left-(nI a.2.1.size)))<0) then b (-1) else j95 a.2.2.1 (Z9J (left-(nI a.2.1.size))) λr=>bif decide (r<0) then b (-1) else jcS a.2.2.2.1 r λd=>bif decide (d<0) then b (-1) else jaz a.2.2.2.2 d λf=>bif decide (f<0) then b (-1) else b f
def jsw:Sig Unit:=sg [.look y17 true,.look tI false] [false] [(y17,none),(tI,none)] [] λb f k=>jbo b.1 b.2.1 (λd=>k [wI d] [] [])
theorem jrZ:SO 71 jsw:=fK (np:=0) (Za5 jkX (Za5 jsU (Za5 jsS Zar))) [] oN false Tryz.func71 λ_ _ _ _=>by delta jbo jle jms jmr;refine gz j95 λ_ b=>gz jcS λ_ d=>gz jaz λ_ f=> ?_;rewrite[<-b,<-d,<-f];kernel_rfl
def jbq (a:qS)(b:qS->Res):Res:=j96 a.2.2.1 λr=>jcU a.2.2.2.1 λd=>jaA a.2.2.2.2 λf=>b (a.1,a.2.1,r,d,f)
def jsx:Sig Unit:=sg [.borrow y17 true] [true] [(y17,none)] [] λd f k=>jbq d.1 (λb=>k [⟨y17,true,b,[.O,.O,.O,.O]⟩] [] [])
theorem js2:SO 77 jsx:=fK (np:=0) (Za5 jkY (Za5 jsX (Za5 jsV Zar))) [] oN false Tryz.func77 λ_ _ _ _=>by delta jbq jlg jmu jmt;refine gz j96 λ_ b=>gz jcU λ_ d=>gz jaA λ_ f=> ?_;rewrite[<-b,<-d,<-f];kernel_rfl
def j6U (a:qS)(b:qS)(d:Bool->Res):Res:=bif (a.1 != b.1) then d false else bif sNe a.2.1 b.2.1 then d false else j94 a.2.2.1 b.2.2.1 λr=>bif !r then d false else jcP a.2.2.2.1 b.2.2.2.1 λf=>bif !f then d false else jaw a.2.2.2.2 b.2.2.2.2 λg=>bif !g then d false else d true
def jlb:Sig Unit:=sg [.look y17 true,.look y17 true] [false] [(y17,none),(y17,none)] [] λb f k=>j6U b.1 b.2.1 (λd=>k [wB d] [] [])
theorem jkV:SO 85 jlb:=fK (np:=0) (Za5 jkW (Za5 jsR (Za5 jsP Zar))) [] oN false Tryz.func85 λ_ _ _ _=>by delta j6U jlc jmq jmp;refine gz j94 λ_ b=>gz jcP λ_ d=>gz jaw λ_ f=> ?_;rewrite[<-b,<-d,<-f];kernel_rfl
end
end Go.PI.G
namespace Go.PI.G
open Go Go.PI Go.Proofs
open Go.Code (pl pr)
noncomputable def jbk (a:qS×qL×qL)(b:qS×qL×qL)(d:Bool->Res):Res:=j6U a.1 b.1 λr=>bif !r then d false else j1r a.2.1 b.2.1 λf=>bif !f then d false else j1r a.2.2 b.2.2 λg=>bif !g then d false else d true
noncomputable def jsv:Sig Unit:=sg [.look y38 true,.look y38 true] [false] [(y38,none),(y38,none)] [] λb f k=>jbk b.1 b.2.1 (λd=>k [wB d] [] [])
theorem jkU:SO 133 jsv:=fK (np:=0) (Za5 jbG (Za5 jkV Zar)) [] oN false Tryz.func133 λ_ _ _ _=>by delta jbk jlb jbS;refine gz j6U λ_ b=>gz j1r λ_ d=> ?_;rewrite[<-b,<-d];kernel_rfl
end Go.PI.G
namespace Go.PI.G
noncomputable section
open Go Go.PI Go.Proofs
open Go.Code (pl pr)
def j48 (a:List (qS×qL×qL))(b:List (qS×qL×qL))(i:Int)(rec:Int->Res)(d:Unit->Res)(f:Unit->Res):Res:=bif decide (i<(nI a.length)) then bif inb i a.length then bif inb i b.length then jbk (nth ((0,eS,[],[],0,eS,[],[],eS,eS),[],[]) a i) (nth ((0,eS,[],[],0,eS,[],[],eS,eS),[],[]) b i) λr=>bif !r then f () else rec (Z9J (i+1)) else none else none else d ()
def jfS (a:List (qS×qL×qL))(b:List (qS×qL×qL)):Int->(Int->Res)->((Unit->Res)×(Unit->Res))->Res:=λv rec q=>j48 a b v (λi=>rec (i)) q.1 q.2
def ji6 (a:List (qS×qL×qL))(b:List (qS×qL×qL))(n:Nat)(i:Int)(d:Unit->Res)(f:Unit->Res):Res:=Z1e (jfS a b) n (i) (d,f)
def jhz:Z1c Unit:=NdL 27 27 [.R 0 y39 .S,.R 1 y39 .S,.I 5] [] (λb d=>(b.2.2.1)) (λb v=>(b.1,b.2.1,v,())) (λd v=>()) (λb d=>jfS b.1 b.2.1) λb d f=>((λ_=>f (.exit 0) [] []),(λ_=>f .ret [(4,vB false)] []))
theorem jod:CN 0 58 Tryz.f84 jhz:=lK (Za5 jkU Zar) [] oN ([],[]) [(0,[],[])] ([4],[]) λ_ _ _ _ _=>by kernel_rfl
def jcN (a:List (qS×qL×qL))(b:List (qS×qL×qL))(d:Bool->Res):Res:=bif ((nI a.length) != (nI b.length)) then d false else ji6 a b Z1b 0 (λ_=>d true) (λ_=>d false)
def jr5:Sig Unit:=sg [.look y39 false,.look y39 false] [false] [(y39,none),(y39,none)] [] λb f k=>jcN b.1 b.2.1 (λd=>k [wB d] [] [])
theorem jqi:SO 84 jr5:=fK (np:=0) (Za5 jkU Zar) [jhz] (oI 58 0 @jod oN) false Tryz.func84 λ_ _ _ _=>by kernel_rfl
theorem j18:FS [(51,j6w),(52,j1w),(53,j6x),(54,j9w)]:=(Za5 j9M (Za5 j0c (Za5 jhQ (Za5 jhP Zar))))
def j49 (a:List (qS×qL×qL))(d:Int)(i:Int)(b:(List (qS×qL×qL))->Res):Res:=j05 d λr=>bif inb i a.length then b (upd a i (((nth ((0,eS,[],[],0,eS,[],[],eS,eS),[],[]) a i).1.1,r,(nth ((0,eS,[],[],0,eS,[],[],eS,eS),[],[]) a i).1.2.2),(nth ((0,eS,[],[],0,eS,[],[],eS,eS),[],[]) a i).2)) else none
def j0D:Z1c Unit:=Nd 118 118 [.R 0 y39 .O,.I 1,.I 5] [] λb g f=>j49 b.1 b.2.1 b.2.2.1 (λd=>f .normal [(0,v1 y39 d .O),(1,vI b.2.1),(5,vI b.2.2.1)] [])
theorem jm2:CN 1 3366 Tryz.f55 j0D:=nK j18 [] oN ([0,1,5],[]) [] ([],[]) λ_ _ _=>by kernel_rfl
def j4a (a:List (qS×qL×qL))(f:Int)(i:Int)(d:(List (qS×qL×qL))->Int->Res):Res:=bif inb i a.length then j1I (nth ((0,eS,[],[],0,eS,[],[],eS,eS),[],[]) a i).1.2.2.2.1 f λr b=>d (upd a i (((nth ((0,eS,[],[],0,eS,[],[],eS,eS),[],[]) a i).1.1,(nth ((0,eS,[],[],0,eS,[],[],eS,eS),[],[]) a i).1.2.1,(nth ((0,eS,[],[],0,eS,[],[],eS,eS),[],[]) a i).1.2.2.1,b,(nth ((0,eS,[],[],0,eS,[],[],eS,eS),[],[]) a i).1.2.2.2.2),(nth ((0,eS,[],[],0,eS,[],[],eS,eS),[],[]) a i).2)) r else none
def j0N:Z1c Unit:=Nd 118 118 [.R 0 y39 .O,.I 1,.I 5] [] λb h g=>j4a b.1 b.2.1 b.2.2.1 (λf d=>g .normal [(0,v1 y39 f .O),(1,vI d),(5,vI b.2.2.1)] [])
theorem jm3:CN 1 26942 Tryz.f55 j0N:=nK j18 [j0D] oN ([0,1,5],[]) [] ([],[]) λ_ _ _=>by kernel_rfl
def j4b (a:List (qS×qL×qL))(d:Int)(i:Int)(b:(List (qS×qL×qL))->Res):Res:=j05 d λr=>bif inb i a.length then b (upd a i (((nth ((0,eS,[],[],0,eS,[],[],eS,eS),[],[]) a i).1.1,(nth ((0,eS,[],[],0,eS,[],[],eS,eS),[],[]) a i).1.2.1,(nth ((0,eS,[],[],0,eS,[],[],eS,eS),[],[]) a i).1.2.2.1,(nth ((0,eS,[],[],0,eS,[],[],eS,eS),[],[]) a i).1.2.2.2.1,(nth ((0,eS,[],[],0,eS,[],[],eS,eS),[],[]) a i).1.2.2.2.2.1,r,(nth ((0,eS,[],[],0,eS,[],[],eS,eS),[],[]) a i).1.2.2.2.2.2.2),(nth ((0,eS,[],[],0,eS,[],[],eS,eS),[],[]) a i).2)) else none
def j1f:Z1c Unit:=Nd 118 118 [.R 0 y39 .O,.I 1,.I 5] [] λb g f=>j4b b.1 b.2.1 b.2.2.1 (λd=>f .normal [(0,v1 y39 d .O),(1,vI b.2.1),(5,vI b.2.2.1)] [])
theorem jm4:CN 1 215550 Tryz.f55 j1f:=nK j18 [j0D,j0N] oN ([0,1,5],[]) [] ([],[]) λ_ _ _=>by kernel_rfl
def j4c (a:List (qS×qL×qL))(f:Int)(i:Int)(d:(List (qS×qL×qL))->Int->Res):Res:=bif inb i a.length then j0P (nth ((0,eS,[],[],0,eS,[],[],eS,eS),[],[]) a i).1.2.2.2.2.2.2.2.1 f λr b=>d (upd a i (((nth ((0,eS,[],[],0,eS,[],[],eS,eS),[],[]) a i).1.1,(nth ((0,eS,[],[],0,eS,[],[],eS,eS),[],[]) a i).1.2.1,(nth ((0,eS,[],[],0,eS,[],[],eS,eS),[],[]) a i).1.2.2.1,(nth ((0,eS,[],[],0,eS,[],[],eS,eS),[],[]) a i).1.2.2.2.1,(nth ((0,eS,[],[],0,eS,[],[],eS,eS),[],[]) a i).1.2.2.2.2.1,(nth ((0,eS,[],[],0,eS,[],[],eS,eS),[],[]) a i).1.2.2.2.2.2.1,(nth ((0,eS,[],[],0,eS,[],[],eS,eS),[],[]) a i).1.2.2.2.2.2.2.1,b,(nth ((0,eS,[],[],0,eS,[],[],eS,eS),[],[]) a i).1.2.2.2.2.2.2.2.2),(nth ((0,eS,[],[],0,eS,[],[],eS,eS),[],[]) a i).2)) r else none
def j2a:Z1c Unit:=Nd 118 118 [.R 0 y39 .O,.I 1,.I 5] [] λb h g=>j4c b.1 b.2.1 b.2.2.1 (λf d=>g .normal [(0,v1 y39 f .O),(1,vI d),(5,vI b.2.2.1)] [])
theorem jm5:CN 1 1724414 Tryz.f55 j2a:=nK j18 [j0D,j0N,j1f] oN ([0,1,5],[]) [] ([],[]) λ_ _ _=>by kernel_rfl
def j4d (a:List (qS×qL×qL))(d:Int)(i:Int)(b:(List (qS×qL×qL))->Res):Res:=j05 d λr=>bif inb i a.length then b (upd a i (((nth ((0,eS,[],[],0,eS,[],[],eS,eS),[],[]) a i).1.1,(nth ((0,eS,[],[],0,eS,[],[],eS,eS),[],[]) a i).1.2.1,(nth ((0,eS,[],[],0,eS,[],[],eS,eS),[],[]) a i).1.2.2.1,(nth ((0,eS,[],[],0,eS,[],[],eS,eS),[],[]) a i).1.2.2.2.1,(nth ((0,eS,[],[],0,eS,[],[],eS,eS),[],[]) a i).1.2.2.2.2.1,(nth ((0,eS,[],[],0,eS,[],[],eS,eS),[],[]) a i).1.2.2.2.2.2.1,(nth ((0,eS,[],[],0,eS,[],[],eS,eS),[],[]) a i).1.2.2.2.2.2.2.1,(nth ((0,eS,[],[],0,eS,[],[],eS,eS),[],[]) a i).1.2.2.2.2.2.2.2.1,r,(nth ((0,eS,[],[],0,eS,[],[],eS,eS),[],[]) a i).1.2.2.2.2.2.2.2.2.2),(nth ((0,eS,[],[],0,eS,[],[],eS,eS),[],[]) a i).2)) else none
def j3B:Z1c Unit:=Nd 118 118 [.R 0 y39 .O,.I 1,.I 5] [] λb g f=>j4d b.1 b.2.1 b.2.2.1 (λd=>f .normal [(0,v1 y39 d .O),(1,vI b.2.1),(5,vI b.2.2.1)] [])
theorem jm6:CN 1 3448830 Tryz.f55 j3B:=nK j18 [j0D,j0N,j1f,j2a] oN ([0,1,5],[]) [] ([],[]) λ_ _ _=>by kernel_rfl
def j4e (a:List (qS×qL×qL))(d:Int)(i:Int)(b:(List (qS×qL×qL))->Res):Res:=j05 d λr=>bif inb i a.length then b (upd a i (((nth ((0,eS,[],[],0,eS,[],[],eS,eS),[],[]) a i).1.1,(nth ((0,eS,[],[],0,eS,[],[],eS,eS),[],[]) a i).1.2.1,(nth ((0,eS,[],[],0,eS,[],[],eS,eS),[],[]) a i).1.2.2.1,(nth ((0,eS,[],[],0,eS,[],[],eS,eS),[],[]) a i).1.2.2.2.1,(nth ((0,eS,[],[],0,eS,[],[],eS,eS),[],[]) a i).1.2.2.2.2.1,(nth ((0,eS,[],[],0,eS,[],[],eS,eS),[],[]) a i).1.2.2.2.2.2.1,(nth ((0,eS,[],[],0,eS,[],[],eS,eS),[],[]) a i).1.2.2.2.2.2.2.1,(nth ((0,eS,[],[],0,eS,[],[],eS,eS),[],[]) a i).1.2.2.2.2.2.2.2.1,(nth ((0,eS,[],[],0,eS,[],[],eS,eS),[],[]) a i).1.2.2.2.2.2.2.2.2.1,r),(nth ((0,eS,[],[],0,eS,[],[],eS,eS),[],[]) a i).2)) else none
def j6R:Z1c Unit:=Nd 118 118 [.R 0 y39 .O,.I 1,.I 5] [] λb g f=>j4e b.1 b.2.1 b.2.2.1 (λd=>f .normal [(0,v1 y39 d .O),(1,vI b.2.1),(5,vI b.2.2.1)] [])
theorem jm7:CN 1 13795326 Tryz.f55 j6R:=nK j18 [j0D,j0N,j1f,j2a,j3B] oN ([0,1,5],[]) [] ([],[]) λ_ _ _=>by kernel_rfl
def j1y (a:List (qS×qL×qL))(l:Int)(i:Int)(rec:(List (qS×qL×qL))->Int->Int->Res)(y:(List (qS×qL×qL))->Int->Res):Res:=bif decide (i<(nI a.length)) then bif inb i a.length then j49 (upd a i ((l,(nth ((0,eS,[],[],0,eS,[],[],eS,eS),[],[]) a i).1.2),(nth ((0,eS,[],[],0,eS,[],[],eS,eS),[],[]) a i).2)) (Z9J (l+1)) i λg=>bif inb i g.length then j1I (nth ((0,eS,[],[],0,eS,[],[],eS,eS),[],[]) g i).1.2.2.1 (Z9J ((Z9J (l+1))+1)) λr n=>j4a (upd g i (((nth ((0,eS,[],[],0,eS,[],[],eS,eS),[],[]) g i).1.1,(nth ((0,eS,[],[],0,eS,[],[],eS,eS),[],[]) g i).1.2.1,n,(nth ((0,eS,[],[],0,eS,[],[],eS,eS),[],[]) g i).1.2.2.2),(nth ((0,eS,[],[],0,eS,[],[],eS,eS),[],[]) g i).2)) r i λf h=>bif inb i f.length then j4b (upd f i (((nth ((0,eS,[],[],0,eS,[],[],eS,eS),[],[]) f i).1.1,(nth ((0,eS,[],[],0,eS,[],[],eS,eS),[],[]) f i).1.2.1,(nth ((0,eS,[],[],0,eS,[],[],eS,eS),[],[]) f i).1.2.2.1,(nth ((0,eS,[],[],0,eS,[],[],eS,eS),[],[]) f i).1.2.2.2.1,h,(nth ((0,eS,[],[],0,eS,[],[],eS,eS),[],[]) f i).1.2.2.2.2.2),(nth ((0,eS,[],[],0,eS,[],[],eS,eS),[],[]) f i).2)) (Z9J (h+1)) i λd=>bif inb i d.length then j65 (nth ((0,eS,[],[],0,eS,[],[],eS,eS),[],[]) d i).1.2.2.2.2.2.2.1 (Z9J ((Z9J (h+1))+1)) λz p=>j4c (upd d i (((nth ((0,eS,[],[],0,eS,[],[],eS,eS),[],[]) d i).1.1,(nth ((0,eS,[],[],0,eS,[],[],eS,eS),[],[]) d i).1.2.1,(nth ((0,eS,[],[],0,eS,[],[],eS,eS),[],[]) d i).1.2.2.1,(nth ((0,eS,[],[],0,eS,[],[],eS,eS),[],[]) d i).1.2.2.2.1,(nth ((0,eS,[],[],0,eS,[],[],eS,eS),[],[]) d i).1.2.2.2.2.1,(nth ((0,eS,[],[],0,eS,[],[],eS,eS),[],[]) d i).1.2.2.2.2.2.1,p,(nth ((0,eS,[],[],0,eS,[],[],eS,eS),[],[]) d i).1.2.2.2.2.2.2.2),(nth ((0,eS,[],[],0,eS,[],[],eS,eS),[],[]) d i).2)) z i λq j=>j4d q j i λw=>j4e w (Z9J (j+1)) i λb=>bif inb i b.length then j0P (nth ((0,eS,[],[],0,eS,[],[],eS,eS),[],[]) b i).2.1 (Z9J ((Z9J (j+1))+1)) λA k=>bif inb i (List.length (upd b i ((nth ((0,eS,[],[],0,eS,[],[],eS,eS),[],[]) b i).1,k,(nth ((0,eS,[],[],0,eS,[],[],eS,eS),[],[]) b i).2.2))) then j0P (nth ((0,eS,[],[],0,eS,[],[],eS,eS),[],[]) (upd b i ((nth ((0,eS,[],[],0,eS,[],[],eS,eS),[],[]) b i).1,k,(nth ((0,eS,[],[],0,eS,[],[],eS,eS),[],[]) b i).2.2)) i).2.2 A λB m=>rec (upd (upd b i ((nth ((0,eS,[],[],0,eS,[],[],eS,eS),[],[]) b i).1,k,(nth ((0,eS,[],[],0,eS,[],[],eS,eS),[],[]) b i).2.2)) i ((nth ((0,eS,[],[],0,eS,[],[],eS,eS),[],[]) (upd b i ((nth ((0,eS,[],[],0,eS,[],[],eS,eS),[],[]) b i).1,k,(nth ((0,eS,[],[],0,eS,[],[],eS,eS),[],[]) b i).2.2)) i).1,(nth ((0,eS,[],[],0,eS,[],[],eS,eS),[],[]) (upd b i ((nth ((0,eS,[],[],0,eS,[],[],eS,eS),[],[]) b i).1,k,(nth ((0,eS,[],[],0,eS,[],[],eS,eS),[],[]) b i).2.2)) i).2.1,m)) B (Z9J (i+1)) else none else none else none else none else none else none else y a l
def j5P:((List (qS×qL×qL))×Int×Int)->((List (qS×qL×qL))×Int×Int->Res)->(((List (qS×qL×qL))->Int->Res))->Res:=λv rec q=>j1y v.1 v.2.1 v.2.2 (λa b i=>rec (a,b,i)) q
def jfV (n:Nat)(a:List (qS×qL×qL))(d:Int)(i:Int)(b:(List (qS×qL×qL))->Int->Res):Res:=Z1e (j5P) n (a,d,i) (b)
def jfh:Z1c Unit:=NdL 118 118 [.R 0 y39 .O,.I 1,.I 5] [] (λb g=>(b.1,b.2.1,b.2.2.1)) (λb v=>(v.1,v.2.1,v.2.2,())) (λg v=>()) (λb g=>j5P) λb g h=>((λd f=>h (.exit 0) [(0,v1 y39 d .O),(1,vI f)] []))
theorem jm1:CN 1 26 Tryz.f55 jfh:=lK j18 [j0D,j0N,j1f,j2a,j3B,j6R] (oI 102 0 @jm2 (oI 830 1 @jm3 (oI 6654 2 @jm4 (oI 53246 3 @jm5 (oI 106494 4 @jm6 (oI 425982 5 @jm7 oN)))))) ([],[]) [(0,[0,1],[])] ([],[]) λ_ _ _ _ _=>by delta j5P j1y j0D j6x j0N j1f j9w j2a j3B j6R j6w;refine gz j49 λ_ b=>gz j1I λ_ d=>gz j4a λ_ f=>gz j4b λ_ g=>gz j65 λ_ h=>gz j4c λ_ i=>gz j4d λ_ j=>gz j4e λ_ k=>gz j0P λ_ l=> ?_;rewrite[<-b,<-d,<-f,<-g,<-h,<-i,<-j,<-k,<-l];kernel_rfl
def jay (a:List (qS×qL×qL))(g:Int)(f:Int->(List (qS×qL×qL))->Res):Res:=jfV Z1b a g 0 λd b=>f b d
def joJ:Sig Unit:=sg [.inout y39 false,.borrow tI false] [false] [(y39,some [.O]),(tI,none)] [] λb g k=>jay b.1 b.2.1 (λf d=>k [wI f] [w1 y39 d .O] [])
theorem jgB:SO 55 joJ:=fK (np:=1) j18 [j0D,j0N,j1f,j2a,j3B,j6R,jfh] (oI 26 6 @jm1 oN) false Tryz.func55 λ_ _ _ _=>by kernel_rfl
theorem jgt:FS [(52,j1w),(86,jd8),(87,jd7),(88,ja2)]:=(Za5 j0c (Za5 joU (Za5 joT (Za5 jlH Zar))))
def j1x (a:List (qS×qL×qL))(d:Int)(i:Int)(rec:Int->Int->Res)(m:Int->Res)(b:Unit->Res):Res:=bif decide (i<(nI a.length)) then bif inb i a.length then bif ((nth ((0,eS,[],[],0,eS,[],[],eS,eS),[],[]) a i).1.1 != d) then b () else bif inb i a.length then j05 (Z9J (d+1)) λr=>bif sNe (nth ((0,eS,[],[],0,eS,[],[],eS,eS),[],[]) a i).1.2.1 r then b () else bif inb i a.length then j64 (nth ((0,eS,[],[],0,eS,[],[],eS,eS),[],[]) a i).1.2.2.1 (Z9J ((Z9J (d+1))+1)) λh=>bif decide (h<0) then b () else bif inb i a.length then j64 (nth ((0,eS,[],[],0,eS,[],[],eS,eS),[],[]) a i).1.2.2.2.1 h λf=>bif decide (f<0) then b () else bif inb i a.length then bif ((nth ((0,eS,[],[],0,eS,[],[],eS,eS),[],[]) a i).1.2.2.2.2.1 != f) then b () else bif inb i a.length then j05 (Z9J (f+1)) λn=>bif sNe (nth ((0,eS,[],[],0,eS,[],[],eS,eS),[],[]) a i).1.2.2.2.2.2.1 n then b () else bif inb i a.length then j8S (nth ((0,eS,[],[],0,eS,[],[],eS,eS),[],[]) a i).1.2.2.2.2.2.2.1 (Z9J ((Z9J (f+1))+1)) λj=>bif decide (j<0) then b () else bif inb i a.length then j1P (nth ((0,eS,[],[],0,eS,[],[],eS,eS),[],[]) a i).1.2.2.2.2.2.2.2.1 j λg=>bif decide (g<0) then b () else bif inb i a.length then j05 g λp=>bif sNe (nth ((0,eS,[],[],0,eS,[],[],eS,eS),[],[]) a i).1.2.2.2.2.2.2.2.2.1 p then b () else bif inb i a.length then j05 (Z9J (g+1)) λq=>bif sNe (nth ((0,eS,[],[],0,eS,[],[],eS,eS),[],[]) a i).1.2.2.2.2.2.2.2.2.2 q then b () else bif inb i a.length then j1P (nth ((0,eS,[],[],0,eS,[],[],eS,eS),[],[]) a i).2.1 (Z9J ((Z9J (g+1))+1)) λk=>bif decide (k<0) then b () else bif inb i a.length then j1P (nth ((0,eS,[],[],0,eS,[],[],eS,eS),[],[]) a i).2.2 k λl=>bif decide (l<0) then b () else rec l (Z9J (i+1)) else none else none else none else none else none else none else none else none else none else none else none else none else m d
def j5O (a:List (qS×qL×qL)):(Int×Int)->(Int×Int->Res)->((Int->Res)×(Unit->Res))->Res:=λv rec q=>j1x a v.1 v.2 (λb i=>rec (b,i)) q.1 q.2
def jfU (a:List (qS×qL×qL))(n:Nat)(f:Int)(i:Int)(b:Int->Res)(d:Unit->Res):Res:=Z1e (j5O a) n (f,i) (b,d)
def jfg:Z1c Unit:=NdL 142 142 [.R 0 y39 .S,.I 1,.I 5] [] (λb f=>(b.2.1,b.2.2.1)) (λb v=>(b.1,v.1,v.2,())) (λf v=>()) (λb f=>j5O b.1) λb f g=>((λd=>g (.exit 0) [(1,vI d)] []),(λ_=>g .ret [(4,vI (-1))] []))
theorem jm0:CN 0 26 Tryz.f56 jfg:=lK jgt [] oN ([],[]) [(0,[1],[])] ([4],[]) λ_ _ _ _ _=>by delta j5O j1x j1w jd8 jd7 ja2;refine gz j05 λ_ b=>gz j64 λ_ d=>gz j8S λ_ f=>gz j1P λ_ g=> ?_;rewrite[<-b,<-d,<-f,<-g];kernel_rfl
def jax (a:List (qS×qL×qL))(f:Int)(d:Int->Res):Res:=jfU a Z1b f 0 (λb=>d b) (λ_=>d (-1))
def joI:Sig Unit:=sg [.look y39 false,.look tI false] [false] [(y39,none),(tI,none)] [] λb f k=>jax b.1 b.2.1 (λd=>k [wI d] [] [])
theorem jgA:SO 56 joI:=fK (np:=0) jgt [jfg] (oI 26 0 @jm0 oN) false Tryz.func56 λ_ _ _ _=>by kernel_rfl
end
end Go.PI.G
namespace Go.PI.G
open Go Go.PI Go.Proofs
open Go.Code (pl pr)
noncomputable def jcM (a:Int×Int×List (qS×qL×qL))(b:Int×Int×List (qS×qL×qL))(d:Bool->Res):Res:=bif (a.1 != b.1) then d false else bif (a.2.1 != b.2.1) then d false else jcN a.2.2 b.2.2 λr=>bif !r then d false else d true
noncomputable def jr4:Sig Unit:=sg [.look y41 true,.look y41 true] [false] [(y41,none),(y41,none)] [] λb f k=>jcM b.1 b.2.1 (λd=>k [wB d] [] [])
theorem jje:SO 48 jr4:=fK (np:=0) (Za5 jqi Zar) [] oN false Tryz.func48 λ_ _ _ _=>by kernel_rfl
end Go.PI.G
namespace Go.PI.G
noncomputable section
open Go Go.PI Go.Proofs
open Go.Code (pl pr)
def j3m (a:List (Int×Int×List (qS×qL×qL)))(b:List (Int×Int×List (qS×qL×qL)))(i:Int)(rec:Int->Res)(d:Unit->Res)(f:Unit->Res):Res:=bif decide (i<(nI a.length)) then bif inb i a.length then bif inb i b.length then jcM (nth (0,0,[]) a i) (nth (0,0,[]) b i) λr=>bif !r then f () else rec (Z9J (i+1)) else none else none else d ()
def jf3 (a:List (Int×Int×List (qS×qL×qL)))(b:List (Int×Int×List (qS×qL×qL))):Int->(Int->Res)->((Unit->Res)×(Unit->Res))->Res:=λv rec q=>j3m a b v (λi=>rec (i)) q.1 q.2
def jgZ (a:List (Int×Int×List (qS×qL×qL)))(b:List (Int×Int×List (qS×qL×qL)))(n:Nat)(i:Int)(d:Unit->Res)(f:Unit->Res):Res:=Z1e (jf3 a b) n (i) (d,f)
def jfX:Z1c Unit:=NdL 27 27 [.R 0 y42 .S,.R 1 y42 .S,.I 5] [] (λb d=>(b.2.2.1)) (λb v=>(b.1,b.2.1,v,())) (λd v=>()) (λb d=>jf3 b.1 b.2.1) λb d f=>((λ_=>f (.exit 0) [] []),(λ_=>f .ret [(4,vB false)] []))
theorem jmR:CN 0 58 Tryz.f16 jfX:=lK (Za5 jje Zar) [] oN ([],[]) [(0,[],[])] ([4],[]) λ_ _ _ _ _=>by kernel_rfl
def j2I (a:List (Int×Int×List (qS×qL×qL)))(b:List (Int×Int×List (qS×qL×qL)))(d:Bool->Res):Res:=bif ((nI a.length) != (nI b.length)) then d false else jgZ a b Z1b 0 (λ_=>d true) (λ_=>d false)
def j9v:Sig Unit:=sg [.look y42 false,.look y42 false] [false] [(y42,none),(y42,none)] [] λb f k=>j2I b.1 b.2.1 (λd=>k [wB d] [] [])
theorem joS:SO 16 j9v:=fK (np:=0) (Za5 jje Zar) [jfX] (oI 58 0 @jmR oN) false Tryz.func16 λ_ _ _ _=>by kernel_rfl
def j2j (a:List (Int×Int×List (qS×qL×qL)))(b:Int)(i:Int)(rec:(List (Int×Int×List (qS×qL×qL)))->Int->Int->Res)(f:(List (Int×Int×List (qS×qL×qL)))->Int->Res):Res:=bif decide (i<(nI a.length)) then bif inb i a.length then bif inb i (List.length (upd a i (b,(nth (0,0,[]) a i).2))) then bif inb i (List.length (upd (upd a i (b,(nth (0,0,[]) a i).2)) i ((nth (0,0,[]) (upd a i (b,(nth (0,0,[]) a i).2)) i).1,Z9J (b+1),(nth (0,0,[]) (upd a i (b,(nth (0,0,[]) a i).2)) i).2.2))) then jay (nth (0,0,[]) (upd (upd a i (b,(nth (0,0,[]) a i).2)) i ((nth (0,0,[]) (upd a i (b,(nth (0,0,[]) a i).2)) i).1,Z9J (b+1),(nth (0,0,[]) (upd a i (b,(nth (0,0,[]) a i).2)) i).2.2)) i).2.2 (Z9J ((Z9J (b+1))+1)) λr d=>rec (upd (upd (upd a i (b,(nth (0,0,[]) a i).2)) i ((nth (0,0,[]) (upd a i (b,(nth (0,0,[]) a i).2)) i).1,Z9J (b+1),(nth (0,0,[]) (upd a i (b,(nth (0,0,[]) a i).2)) i).2.2)) i ((nth (0,0,[]) (upd (upd a i (b,(nth (0,0,[]) a i).2)) i ((nth (0,0,[]) (upd a i (b,(nth (0,0,[]) a i).2)) i).1,Z9J (b+1),(nth (0,0,[]) (upd a i (b,(nth (0,0,[]) a i).2)) i).2.2)) i).1,(nth (0,0,[]) (upd (upd a i (b,(nth (0,0,[]) a i).2)) i ((nth (0,0,[]) (upd a i (b,(nth (0,0,[]) a i).2)) i).1,Z9J (b+1),(nth (0,0,[]) (upd a i (b,(nth (0,0,[]) a i).2)) i).2.2)) i).2.1,d)) r (Z9J (i+1)) else none else none else none else f a b
def j8p:((List (Int×Int×List (qS×qL×qL)))×Int×Int)->((List (Int×Int×List (qS×qL×qL)))×Int×Int->Res)->(((List (Int×Int×List (qS×qL×qL)))->Int->Res))->Res:=λv rec q=>j2j v.1 v.2.1 v.2.2 (λa b i=>rec (a,b,i)) q
def jf5 (n:Nat)(a:List (Int×Int×List (qS×qL×qL)))(d:Int)(i:Int)(b:(List (Int×Int×List (qS×qL×qL)))->Int->Res):Res:=Z1e (j8p) n (a,d,i) (b)
def jdY:Z1c Unit:=NdL 34 34 [.R 0 y42 .O,.I 1,.I 5] [] (λb f=>(b.1,b.2.1,b.2.2.1)) (λb v=>(v.1,v.2.1,v.2.2,())) (λf v=>()) (λb f=>j8p) λb f h=>((λg d=>h (.exit 0) [(0,v1 y42 g .O),(1,vI d)] []))
theorem jls:CN 1 26 Tryz.f21 jdY:=lK (Za5 jgB Zar) [] oN ([],[]) [(0,[0,1],[])] ([],[]) λ_ _ _ _ _=>by kernel_rfl
def j6r (a:List (Int×Int×List (qS×qL×qL)))(g:Int)(f:Int->(List (Int×Int×List (qS×qL×qL)))->Res):Res:=jf5 Z1b a g 0 λd b=>f b d
def jb1:Sig Unit:=sg [.inout y42 false,.borrow tI false] [false] [(y42,some [.O]),(tI,none)] [] λb g k=>j6r b.1 b.2.1 (λf d=>k [wI f] [w1 y42 d .O] [])
theorem jmM:SO 21 jb1:=fK (np:=1) (Za5 jgB Zar) [jdY] (oI 26 0 @jls oN) false Tryz.func21 λ_ _ _ _=>by kernel_rfl
def j2i (a:List (Int×Int×List (qS×qL×qL)))(b:Int)(i:Int)(rec:Int->Int->Res)(f:Int->Res)(d:Unit->Res):Res:=bif decide (i<(nI a.length)) then bif inb i a.length then bif ((nth (0,0,[]) a i).1 != b) then d () else bif inb i a.length then bif ((nth (0,0,[]) a i).2.1 != (Z9J (b+1))) then d () else bif inb i a.length then jax (nth (0,0,[]) a i).2.2 (Z9J ((Z9J (b+1))+1)) λr=>bif decide (r<0) then d () else rec r (Z9J (i+1)) else none else none else none else f b
def j8o (a:List (Int×Int×List (qS×qL×qL))):(Int×Int)->(Int×Int->Res)->((Int->Res)×(Unit->Res))->Res:=λv rec q=>j2i a v.1 v.2 (λb i=>rec (b,i)) q.1 q.2
def jf4 (a:List (Int×Int×List (qS×qL×qL)))(n:Nat)(f:Int)(i:Int)(b:Int->Res)(d:Unit->Res):Res:=Z1e (j8o a) n (f,i) (b,d)
def jdX:Z1c Unit:=NdL 40 40 [.R 0 y42 .S,.I 1,.I 5] [] (λb f=>(b.2.1,b.2.2.1)) (λb v=>(b.1,v.1,v.2,())) (λf v=>()) (λb f=>j8o b.1) λb f g=>((λd=>g (.exit 0) [(1,vI d)] []),(λ_=>g .ret [(4,vI (-1))] []))
theorem jlr:CN 0 26 Tryz.f22 jdX:=lK (Za5 jgA Zar) [] oN ([],[]) [(0,[1],[])] ([4],[]) λ_ _ _ _ _=>by kernel_rfl
def j3G (a:List (Int×Int×List (qS×qL×qL)))(f:Int)(d:Int->Res):Res:=jf4 a Z1b f 0 (λb=>d b) (λ_=>d (-1))
def jb0:Sig Unit:=sg [.look y42 false,.look tI false] [false] [(y42,none),(tI,none)] [] λb f k=>j3G b.1 b.2.1 (λd=>k [wI d] [] [])
theorem jmL:SO 22 jb0:=fK (np:=0) (Za5 jgA Zar) [jdX] (oI 26 0 @jlr oN) false Tryz.func22 λ_ _ _ _=>by kernel_rfl
end
end Go.PI.G
namespace Go.PI.G
noncomputable section
open Go Go.PI Go.Proofs
open Go.Code (pl pr)
def jcR (a:qL)(left:Int)(b:Int->Res):Res:=j4N a left λr=>bif decide (r<0) then b (-1) else b r
def jhk:Sig Unit:=sg [.look y8 true,.look tI false] [false] [(y8,none),(tI,none)] [] λb f k=>jcR b.1 b.2.1 (λd=>k [wI d] [] [])
theorem jsT:SO 10 jhk:=fK (np:=0) (Za5 jgC Zar) [] oN false Tryz.func10 λ_ _ _ _=>by kernel_rfl
def j4B (a:qL)(b:qL->Res):Res:=j4O a λr=>b r
def jda:Sig Unit:=sg [.borrow y8 true] [true] [(y8,none)] [] λd f k=>j4B d.1 (λb=>k [⟨y8,true,b,[.O]⟩] [] [])
theorem jsW:SO 13 jda:=fK (np:=0) (Za5 jgE Zar) [] oN false Tryz.func13 λ_ _ _ _=>by kernel_rfl
def jcO (a:qL)(b:qL)(d:Bool->Res):Res:=j1r a b λr=>bif !r then d false else d true
def jhj:Sig Unit:=sg [.look y8 true,.look y8 true] [false] [(y8,none),(y8,none)] [] λb f k=>jcO b.1 b.2.1 (λd=>k [wB d] [] [])
theorem jsQ:SO 17 jhj:=fK (np:=0) (Za5 jbG Zar) [] oN false Tryz.func17 λ_ _ _ _=>by kernel_rfl
def j9Y (a:qL)(f:Int)(d:Int->qL->Res):Res:=j0P a f λr b=>d r b
def jev:Sig Unit:=sg [.inout y8 true,.borrow tI false] [false] [(y8,some [.O]),(tI,none)] [] λb g k=>j9Y b.1 b.2.1 (λf d=>k [wI f] [⟨y8,true,d,[.O]⟩] [])
theorem jqj:SO 19 jev:=fK (np:=1) (Za5 j9M Zar) [] oN false Tryz.func19 λ_ _ _ _=>by kernel_rfl
end
end Go.PI.G
namespace Go.PI.G
noncomputable section
open Go Go.PI Go.Proofs
open Go.Code (pl pr)
def jgc (a:Int×Int×qS)(left:Int)(b:Int->Res):Res:=jbo a.2.2 left λr=>bif decide (r<0) then b (-1) else b r
def jtW:Sig Unit:=sg [.look y19 true,.look tI false] [false] [(y19,none),(tI,none)] [] λb f k=>jgc b.1 b.2.1 (λd=>k [wI d] [] [])
theorem jlJ:SO 41 jtW:=fK (np:=0) (Za5 jrZ Zar) [] oN false Tryz.func41 λ_ _ _ _=>by kernel_rfl
def jge (a:Int×Int×qS)(b:qP->Res):Res:=jbq a.2.2 λr=>b (a.1,a.2.1,r)
def jtZ:Sig Unit:=sg [.borrow y19 true] [true] [(y19,none)] [] λd f k=>jge d.1 (λb=>k [⟨y19,true,b,[.O,.O,.O,.O]⟩] [] [])
theorem jlL:SO 45 jtZ:=fK (np:=0) (Za5 js2 Zar) [] oN false Tryz.func45 λ_ _ _ _=>by kernel_rfl
def jga (a:Int×Int×qS)(b:Int×Int×qS)(d:Bool->Res):Res:=bif (a.1 != b.1) then d false else bif (a.2.1 != b.2.1) then d false else j6U a.2.2 b.2.2 λr=>bif !r then d false else d true
def jtT:Sig Unit:=sg [.look y19 true,.look y19 true] [false] [(y19,none),(y19,none)] [] λb f k=>jga b.1 b.2.1 (λd=>k [wB d] [] [])
theorem jlG:SO 50 jtT:=fK (np:=0) (Za5 jkV Zar) [] oN false Tryz.func50 λ_ _ _ _=>by kernel_rfl
end
end Go.PI.G
