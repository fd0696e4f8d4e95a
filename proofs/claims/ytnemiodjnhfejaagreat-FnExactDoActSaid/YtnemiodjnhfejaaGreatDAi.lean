/-
  Program's code interpreted over typed values; printed texts; plain laws. No conditions.
-/
import Derived.Test.YtnemiodjnhfejaaGreatPc
import Derived.Test.YtnemiodjnhfejaaGreatDAd
import Derived.Test.YtnemiodjnhfejaaGreatDAh
import Derived.Test.YtnemiodjnhfejaaGreatDAe
set_option linter.unusedVariables false
set_option maxRecDepth 100000
namespace Go.PI.G
noncomputable section
open Go Go.PI Go.Proofs
open Go.Code (pl pr)
def j4A (a:List qC) (left:Int) (i:Int) (rec:Int->Int->Res) (b:Int->Res) (d:Unit->Res):Res:=bif decide (i<(nI (List.length a))) then bif inb i (List.length a) then jee (nth (eS,0,false,false,0,0,eS) a i) left λr=>bif decide (r<0) then d () else rec r (Z9K (i+1)) else none else b left
def jf3 (a:List qC):(Int×Int)->(Int×Int->Res)->((Int->Res)×(Unit->Res))->Res:=λv rec q=>j4A a v.1 v.2 (λleft i=>rec (left,i)) q.1 q.2
def jcE (a:List qC) (n:Nat) (left:Int) (i:Int) (b:Int->Res) (d:Unit->Res):Res:=Z1f (jf3 a) n (left,i) (b,d)
def jgg:Z1d Unit:=NdL 27 27 [.R 0 y8 .S,.I 1,.I 5] [] (λd f=>(d.2.1,d.2.2.1)) (λd v=>(d.1,v.1,v.2,())) (λf v=>()) (λd f=>jf3 d.1) λd f g=>((λb=>g (.exit 0) [(1,vI b)] []),(λ_=>g .ret [(4,vI (-1))] []))
theorem jmC:CN 0 122 Tryz.f241 jgg:=lK (Za6 jjc Zas) [] oN ([],[]) [(0,[1],[])] ([4],[]) λ_ _ _ _ _=>by kernel_rfl
def ja9 (a:List qC) (left:Int) (d:Int->Res):Res:=bif decide ((Z9K (left-(nI (List.length a))))<0) then d (-1) else jcE a Z1c (Z9K (left-(nI (List.length a)))) 0 (λb=>d b) (λ_=>d (-1))
def jiF:Sig Unit:=sg [.look y8 false,.look tI false] [false] [(y8,none),(tI,none)] [] λb f k=>ja9 b.1 b.2.1 (λd=>k [wI d] [] [])
theorem joN:SO 241 jiF:=fK (np:=0) (Za6 jjc Zas) [jgg] (oI 122 0 @jmC oN) false Tryz.func241 λ_ _ _ _=>by kernel_rfl
def j4D (a:List qC) (b:List qC) (i:Int) (rec:qE->Int->Res) (d:qE->Res):Res:=bif decide (i<(nI (List.length a))) then bif inb i (List.length a) then jef (nth (eS,0,false,false,0,0,eS) a i) λr=>bif inb i (List.length b) then rec (upd b i r) (Z9K (i+1)) else none else none else d b
def jaE (a:List qC):(qE×Int)->(qE×Int->Res)->((qE->Res))->Res:=λv rec q=>j4D a v.1 v.2 (λb i=>rec (b,i)) q
def jnz (a:List qC) (n:Nat) (b:List qC) (i:Int) (d:qE->Res):Res:=Z1f (jaE a) n (b,i) (d)
def jgj:Z1d Unit:=NdL 23 23 [.R 0 y8 .S,.R 3 y8 .O,.I 4] [] (λb f=>(b.2.1,b.2.2.1)) (λb v=>(b.1,v.1,v.2,())) (λf v=>()) (λb f=>jaE b.1) λb f g=>((λd=>g (.exit 0) [(3,v1 y8 d .O)] []))
theorem jmF:CN 0 58 Tryz.f249 jgj:=lK (Za6 jjd Zas) [] oN ([],[]) [(0,[3],[])] ([],[]) λ_ _ _ _ _=>by kernel_rfl
def jac (a:List qC) (d:qE->Res):Res:=bif Z9I (nI (List.length a)) (nI (List.length a)) then jnz a Z1c (Z9h (nI (List.length a)) (eS,0,false,false,0,0,eS)) 0 λb=>d b else none
def jiH:Sig Unit:=sg [.borrow y8 false] [false] [(y8,none)] [] λd f k=>jac d.1 (λb=>k [w1 y8 b .O] [] [])
theorem joQ:SO 249 jiH:=fK (np:=0) (Za6 jjd Zas) [jgj] (oI 58 0 @jmF oN) false Tryz.func249 λ_ _ _ _=>by kernel_rfl
def j4m (a:List qC) (b:List qC) (i:Int) (rec:Int->Res) (d:Unit->Res) (f:Unit->Res):Res:=bif decide (i<(nI (List.length a))) then bif inb i (List.length a) then bif inb i (List.length b) then jed (nth (eS,0,false,false,0,0,eS) a i) (nth (eS,0,false,false,0,0,eS) b i) λr=>bif !r then f () else rec (Z9K (i+1)) else none else none else d ()
def jeT (a:List qC) (b:List qC):Int->(Int->Res)->((Unit->Res)×(Unit->Res))->Res:=λv rec q=>j4m a b v (λi=>rec (i)) q.1 q.2
def jhh (a:List qC) (b:List qC) (n:Nat) (i:Int) (d:Unit->Res) (f:Unit->Res):Res:=Z1f (jeT a b) n (i) (d,f)
def jgd:Z1d Unit:=NdL 27 27 [.R 0 y8 .S,.R 1 y8 .S,.I 5] [] (λb d=>(b.2.2.1)) (λb v=>(b.1,b.2.1,v,())) (λd v=>()) (λb d=>jeT b.1 b.2.1) λb d f=>((λ_=>f (.exit 0) [] []),(λ_=>f .ret [(4,vB false)] []))
theorem jmz:CN 0 58 Tryz.f258 jgd:=lK (Za6 jja Zas) [] oN ([],[]) [(0,[],[])] ([4],[]) λ_ _ _ _ _=>by kernel_rfl
def ja7 (a:List qC) (b:List qC) (d:Bool->Res):Res:=bif ((nI (List.length a)) != (nI (List.length b))) then d false else jhh a b Z1c 0 (λ_=>d true) (λ_=>d false)
def jiD:Sig Unit:=sg [.look y8 false,.look y8 false] [false] [(y8,none),(y8,none)] [] λb f k=>ja7 b.1 b.2.1 (λd=>k [wB d] [] [])
theorem joK:SO 258 jiD:=fK (np:=0) (Za6 jja Zas) [jgd] (oI 58 0 @jmz oN) false Tryz.func258 λ_ _ _ _=>by kernel_rfl
def j4q (a:List qC) (d:Int) (i:Int) (b:qE->Res):Res:=bif inb i (List.length a) then b (upd a i ((nth (eS,0,false,false,0,0,eS) a i).1,(nth (eS,0,false,false,0,0,eS) a i).2.1,((Int.tmod d 3)==0),(nth (eS,0,false,false,0,0,eS) a i).2.2.2)) else none
def j2j:Z1d Unit:=Nd 71 71 [.R 0 y8 .O,.I 1,.I 5] [] λb g f=>j4q b.1 b.2.1 b.2.2.1 (λd=>f .normal [(0,v1 y8 d .O),(1,vI b.2.1),(5,vI b.2.2.1)] [])
theorem jkn:CN 1 13470 Tryz.f111 j2j:=nK (Za6 j0c Zas) [] oN ([0,1,5],[]) [] ([],[]) λ_ _ _=>by kernel_rfl
def j4r (a:List qC) (d:Int) (i:Int) (b:qE->Res):Res:=bif inb i (List.length a) then b (upd a i ((nth (eS,0,false,false,0,0,eS) a i).1,(nth (eS,0,false,false,0,0,eS) a i).2.1,(nth (eS,0,false,false,0,0,eS) a i).2.2.1,(nth (eS,0,false,false,0,0,eS) a i).2.2.2.1,d,(nth (eS,0,false,false,0,0,eS) a i).2.2.2.2.2)) else none
def j3L:Z1d Unit:=Nd 71 71 [.R 0 y8 .O,.I 1,.I 5] [] λb g f=>j4r b.1 b.2.1 b.2.2.1 (λd=>f .normal [(0,v1 y8 d .O),(1,vI b.2.1),(5,vI b.2.2.1)] [])
theorem jko:CN 1 215550 Tryz.f111 j3L:=nK (Za6 j0c Zas) [j2j] oN ([0,1,5],[]) [] ([],[]) λ_ _ _=>by kernel_rfl
def j4s (a:List qC) (d:Int) (i:Int) (b:qE->Res):Res:=j06 d λr=>bif inb i (List.length a) then b (upd a i ((nth (eS,0,false,false,0,0,eS) a i).1,(nth (eS,0,false,false,0,0,eS) a i).2.1,(nth (eS,0,false,false,0,0,eS) a i).2.2.1,(nth (eS,0,false,false,0,0,eS) a i).2.2.2.1,(nth (eS,0,false,false,0,0,eS) a i).2.2.2.2.1,(nth (eS,0,false,false,0,0,eS) a i).2.2.2.2.2.1,r)) else none
def j6p:Z1d Unit:=Nd 71 71 [.R 0 y8 .O,.I 1,.I 5] [] λb g f=>j4s b.1 b.2.1 b.2.2.1 (λd=>f .normal [(0,v1 y8 d .O),(1,vI b.2.1),(5,vI b.2.2.1)] [])
theorem jkp:CN 1 3448830 Tryz.f111 j6p:=nK (Za6 j0c Zas) [j2j,j3L] oN ([0,1,5],[]) [] ([],[]) λ_ _ _=>by kernel_rfl
def j1I (a:List qC) (b:Int) (i:Int) (rec:qE->Int->Int->Res) (h:qE->Int->Res):Res:=bif decide (i<(nI (List.length a))) then j06 b λr=>bif inb i (List.length a) then bif inb i (List.length (upd a i (r,(nth (eS,0,false,false,0,0,eS) a i).2))) then j4q (upd (upd a i (r,(nth (eS,0,false,false,0,0,eS) a i).2)) i ((nth (eS,0,false,false,0,0,eS) (upd a i (r,(nth (eS,0,false,false,0,0,eS) a i).2)) i).1,Z9K (b+1),(nth (eS,0,false,false,0,0,eS) (upd a i (r,(nth (eS,0,false,false,0,0,eS) a i).2)) i).2.2)) (Z9K ((Z9K (b+1))+1)) i λf=>bif inb i (List.length f) then j4r (upd f i ((nth (eS,0,false,false,0,0,eS) f i).1,(nth (eS,0,false,false,0,0,eS) f i).2.1,(nth (eS,0,false,false,0,0,eS) f i).2.2.1,((Int.tmod (Z9K ((Z9K ((Z9K (b+1))+1))+1)) 3)==0),(nth (eS,0,false,false,0,0,eS) f i).2.2.2.2)) (Z9K ((Z9K ((Z9K ((Z9K (b+1))+1))+1))+1)) i λd=>bif inb i (List.length d) then j4s (upd d i ((nth (eS,0,false,false,0,0,eS) d i).1,(nth (eS,0,false,false,0,0,eS) d i).2.1,(nth (eS,0,false,false,0,0,eS) d i).2.2.1,(nth (eS,0,false,false,0,0,eS) d i).2.2.2.1,(nth (eS,0,false,false,0,0,eS) d i).2.2.2.2.1,Z9K ((Z9K ((Z9K ((Z9K ((Z9K (b+1))+1))+1))+1))+1),(nth (eS,0,false,false,0,0,eS) d i).2.2.2.2.2.2)) (Z9K ((Z9K ((Z9K ((Z9K ((Z9K ((Z9K (b+1))+1))+1))+1))+1))+1)) i λg=>rec g (Z9K ((Z9K ((Z9K ((Z9K ((Z9K ((Z9K ((Z9K (b+1))+1))+1))+1))+1))+1))+1)) (Z9K (i+1)) else none else none else none else none else h a b
def j5J:(qE×Int×Int)->(qE×Int×Int->Res)->((qE->Int->Res))->Res:=λv rec q=>j1I v.1 v.2.1 v.2.2 (λa b i=>rec (a,b,i)) q
def jeZ (n:Nat) (a:List qC) (d:Int) (i:Int) (b:qE->Int->Res):Res:=Z1f (j5J) n (a,d,i) (b)
def je4:Z1d Unit:=NdL 71 71 [.R 0 y8 .O,.I 1,.I 5] [] (λb f=>(b.1,b.2.1,b.2.2.1)) (λb v=>(v.1,v.2.1,v.2.2,())) (λf v=>()) (λb f=>j5J) λb f h=>((λg d=>h (.exit 0) [(0,v1 y8 g .O),(1,vI d)] []))
theorem jkm:CN 1 26 Tryz.f111 je4:=lK (Za6 j0c Zas) [j2j,j3L,j6p] (oI 414 0 @jkn (oI 6654 1 @jko (oI 106494 2 @jkp oN))) ([],[]) [(0,[0,1],[])] ([],[]) λ_ _ _ _ _=>by delta j5J j1I j23 j2j j3L j6p;refine gz j06 λ_ b=>gz j4q λ_ d=>gz j4r λ_ f=>gz j4s λ_ g=> ?_;rewrite [<-b,<-d,<-f,<-g];kernel_rfl
def j5g (a:List qC) (g:Int) (f:Int->qE->Res):Res:=jeZ Z1c a g 0 λd b=>f b d
def jbG:Sig Unit:=sg [.inout y8 false,.borrow tI false] [false] [(y8,some [.O]),(tI,none)] [] λb g k=>j5g b.1 b.2.1 (λf d=>k [wI f] [w1 y8 d .O] [])
theorem jfH:SO 111 jbG:=fK (np:=1) (Za6 j0c Zas) [j2j,j3L,j6p,je4] (oI 26 3 @jkm oN) false Tryz.func111 λ_ _ _ _=>by kernel_rfl
def j1F (a:List qC) (b:Int) (i:Int) (rec:Int->Int->Res) (f:Int->Res) (d:Unit->Res):Res:=bif decide (i<(nI (List.length a))) then bif inb i (List.length a) then j06 b λr=>bif sNe (nth (eS,0,false,false,0,0,eS) a i).1 r then d () else bif inb i (List.length a) then bif ((nth (eS,0,false,false,0,0,eS) a i).2.1 != (Z9K (b+1))) then d () else bif inb i (List.length a) then bif !((nth (eS,0,false,false,0,0,eS) a i).2.2.1==((Int.tmod (Z9K ((Z9K (b+1))+1)) 3)==0)) then d () else bif inb i (List.length a) then bif !((nth (eS,0,false,false,0,0,eS) a i).2.2.2.1==((Int.tmod (Z9K ((Z9K ((Z9K (b+1))+1))+1)) 3)==0)) then d () else bif inb i (List.length a) then bif ((nth (eS,0,false,false,0,0,eS) a i).2.2.2.2.1 != (Z9K ((Z9K ((Z9K ((Z9K (b+1))+1))+1))+1))) then d () else bif inb i (List.length a) then bif ((nth (eS,0,false,false,0,0,eS) a i).2.2.2.2.2.1 != (Z9K ((Z9K ((Z9K ((Z9K ((Z9K (b+1))+1))+1))+1))+1))) then d () else bif inb i (List.length a) then j06 (Z9K ((Z9K ((Z9K ((Z9K ((Z9K ((Z9K (b+1))+1))+1))+1))+1))+1)) λg=>bif sNe (nth (eS,0,false,false,0,0,eS) a i).2.2.2.2.2.2 g then d () else rec (Z9K ((Z9K ((Z9K ((Z9K ((Z9K ((Z9K ((Z9K (b+1))+1))+1))+1))+1))+1))+1)) (Z9K (i+1)) else none else none else none else none else none else none else none else f b
def j5H (a:List qC):(Int×Int)->(Int×Int->Res)->((Int->Res)×(Unit->Res))->Res:=λv rec q=>j1F a v.1 v.2 (λb i=>rec (b,i)) q.1 q.2
def jeW (a:List qC) (n:Nat) (f:Int) (i:Int) (b:Int->Res) (d:Unit->Res):Res:=Z1f (j5H a) n (f,i) (b,d)
def je1:Z1d Unit:=NdL 85 85 [.R 0 y8 .S,.I 1,.I 5] [] (λb f=>(b.2.1,b.2.2.1)) (λb v=>(b.1,v.1,v.2,())) (λf v=>()) (λb f=>j5H b.1) λb f g=>((λd=>g (.exit 0) [(1,vI d)] []),(λ_=>g .ret [(4,vI (-1))] []))
theorem jkj:CN 0 26 Tryz.f145 je1:=lK (Za6 j0c Zas) [] oN ([],[]) [(0,[1],[])] ([4],[]) λ_ _ _ _ _=>by delta j5H j1F j23;refine gz j06 λ_ b=> ?_;rewrite [<-b];kernel_rfl
def j7Q (a:List qC) (f:Int) (d:Int->Res):Res:=jeW a Z1c f 0 (λb=>d b) (λ_=>d (-1))
def jbE:Sig Unit:=sg [.look y8 false,.look tI false] [false] [(y8,none),(tI,none)] [] λb f k=>j7Q b.1 b.2.1 (λd=>k [wI d] [] [])
theorem jm0:SO 145 jbE:=fK (np:=0) (Za6 j0c Zas) [je1] (oI 26 0 @jkj oN) false Tryz.func145 λ_ _ _ _=>by kernel_rfl
end
end Go.PI.G
namespace Go.PI.G
noncomputable section
open Go Go.PI Go.Proofs
open Go.Code (pl pr)
def j2t (a:qL) (left:Int) (i:Int) (rec:Int->Int->Res) (b:Int->Res) (d:Unit->Res):Res:=bif decide (i<(nI (List.length a))) then bif inb i (List.length a) then bif decide ((Z9K (left-(nI (ByteArray.size (nth eS a i)))))<0) then d () else rec (Z9K (left-(nI (ByteArray.size (nth eS a i))))) (Z9K (i+1)) else none else b left
def jci (a:qL):(Int×Int)->(Int×Int->Res)->((Int->Res)×(Unit->Res))->Res:=λv rec q=>j2t a v.1 v.2 (λleft i=>rec (left,i)) q.1 q.2
def j9Q (a:qL) (n:Nat) (left:Int) (i:Int) (b:Int->Res) (d:Unit->Res):Res:=Z1f (jci a) n (left,i) (b,d)
def jdq:Z1d Unit:=NdL 28 28 [.R 0 y0 .S,.I 1,.I 5] [] (λd f=>(d.2.1,d.2.2.1)) (λd v=>(d.1,v.1,v.2,())) (λf v=>()) (λd f=>jci d.1) λd f g=>((λb=>g (.exit 0) [(1,vI b)] []),(λ_=>g .ret [(4,vI (-1))] []))
theorem jjx:CN 0 122 Tryz.f82 jdq:=lK Zas [] oN ([],[]) [(0,[1],[])] ([4],[]) λ_ _ _ _ _=>by kernel_rfl
def j6H (a:qL) (left:Int) (d:Int->Res):Res:=bif decide ((Z9K (left-(nI (List.length a))))<0) then d (-1) else j9Q a Z1c (Z9K (left-(nI (List.length a)))) 0 (λb=>d b) (λ_=>d (-1))
def jfg:Sig Unit:=sg [.look y0 false,.look tI false] [false] [(y0,none),(tI,none)] [] λb f k=>j6H b.1 b.2.1 (λd=>k [wI d] [] [])
theorem jla:SO 82 jfg:=fK (np:=0) Zas [jdq] (oI 122 0 @jjx oN) false Tryz.func82 λ_ _ _ _=>by kernel_rfl
def j2u (a:qL) (b:qL) (i:Int) (rec:qL->Int->Res) (d:qL->Res):Res:=bif decide (i<(nI (List.length a))) then bif inb i (List.length a) then bif inb i (List.length b) then rec (upd b i (nth eS a i)) (Z9K (i+1)) else none else none else d b
def j8f (a:qL):(qL×Int)->(qL×Int->Res)->((qL->Res))->Res:=λv rec q=>j2u a v.1 v.2 (λb i=>rec (b,i)) q
def jke (a:qL) (n:Nat) (b:qL) (i:Int) (d:qL->Res):Res:=Z1f (j8f a) n (b,i) (d)
def jdr:Z1d Unit:=NdL 22 22 [.R 0 y0 .S,.R 3 y0 .O,.I 4] [] (λb f=>(b.2.1,b.2.2.1)) (λb v=>(b.1,v.1,v.2,())) (λf v=>()) (λb f=>j8f b.1) λb f g=>((λd=>g (.exit 0) [(3,v1 y0 d .O)] []))
theorem jjy:CN 0 58 Tryz.f88 jdr:=lK Zas [] oN ([],[]) [(0,[3],[])] ([],[]) λ_ _ _ _ _=>by kernel_rfl
def j6I (a:qL) (d:qL->Res):Res:=bif Z9I (nI (List.length a)) (nI (List.length a)) then jke a Z1c (Z9h (nI (List.length a)) eS) 0 λb=>d b else none
def jfh:Sig Unit:=sg [.borrow y0 false] [false] [(y0,none)] [] λd f k=>j6I d.1 (λb=>k [w1 y0 b .O] [] [])
theorem jlb:SO 88 jfh:=fK (np:=0) Zas [jdr] (oI 58 0 @jjy oN) false Tryz.func88 λ_ _ _ _=>by kernel_rfl
def j2s (a:qL) (b:qL) (i:Int) (rec:Int->Res) (d:Unit->Res) (f:Unit->Res):Res:=bif decide (i<(nI (List.length a))) then bif inb i (List.length a) then bif inb i (List.length b) then bif sNe (nth eS a i) (nth eS b i) then f () else rec (Z9K (i+1)) else none else none else d ()
def jcf (a:qL) (b:qL):Int->(Int->Res)->((Unit->Res)×(Unit->Res))->Res:=λv rec q=>j2s a b v (λi=>rec (i)) q.1 q.2
def jdY (a:qL) (b:qL) (n:Nat) (i:Int) (d:Unit->Res) (f:Unit->Res):Res:=Z1f (jcf a b) n (i) (d,f)
def jdp:Z1d Unit:=NdL 26 26 [.R 0 y0 .S,.R 1 y0 .S,.I 5] [] (λb d=>(b.2.2.1)) (λb v=>(b.1,b.2.1,v,())) (λd v=>()) (λb d=>jcf b.1 b.2.1) λb d f=>((λ_=>f (.exit 0) [] []),(λ_=>f .ret [(4,vB false)] []))
theorem jjw:CN 0 58 Tryz.f97 jdp:=lK Zas [] oN ([],[]) [(0,[],[])] ([4],[]) λ_ _ _ _ _=>by kernel_rfl
def j6D (a:qL) (b:qL) (d:Bool->Res):Res:=bif ((nI (List.length a)) != (nI (List.length b))) then d false else jdY a b Z1c 0 (λ_=>d true) (λ_=>d false)
def jfe:Sig Unit:=sg [.look y0 false,.look y0 false] [false] [(y0,none),(y0,none)] [] λb f k=>j6D b.1 b.2.1 (λd=>k [wB d] [] [])
theorem jl9:SO 97 jfe:=fK (np:=0) Zas [jdp] (oI 58 0 @jjw oN) false Tryz.func97 λ_ _ _ _=>by kernel_rfl
def j1K (a:qL) (b:Int) (i:Int) (rec:qL->Int->Int->Res) (d:qL->Int->Res):Res:=bif decide (i<(nI (List.length a))) then j06 b λr=>bif inb i (List.length a) then rec (upd a i r) (Z9K (b+1)) (Z9K (i+1)) else none else d a b
def j6G:(qL×Int×Int)->(qL×Int×Int->Res)->((qL->Int->Res))->Res:=λv rec q=>j1K v.1 v.2.1 v.2.2 (λa b i=>rec (a,b,i)) q
def jch (n:Nat) (a:qL) (d:Int) (i:Int) (b:qL->Int->Res):Res:=Z1f (j6G) n (a,d,i) (b)
def jc4:Z1d Unit:=NdL 20 20 [.R 0 y0 .O,.I 1,.I 5] [] (λb f=>(b.1,b.2.1,b.2.2.1)) (λb v=>(v.1,v.2.1,v.2.2,())) (λf v=>()) (λb f=>j6G) λb f h=>((λg d=>h (.exit 0) [(0,v1 y0 g .O),(1,vI d)] []))
theorem ji3:CN 1 26 Tryz.f98 jc4:=lK (Za6 j0c Zas) [] oN ([],[]) [(0,[0,1],[])] ([],[]) λ_ _ _ _ _=>by kernel_rfl
def j2D (a:qL) (g:Int) (f:Int->qL->Res):Res:=jch Z1c a g 0 λd b=>f b d
def j8Y:Sig Unit:=sg [.inout y0 false,.borrow tI false] [false] [(y0,some [.O]),(tI,none)] [] λb g k=>j2D b.1 b.2.1 (λf d=>k [wI f] [w1 y0 d .O] [])
theorem jdg:SO 98 j8Y:=fK (np:=1) (Za6 j0c Zas) [jc4] (oI 26 0 @ji3 oN) false Tryz.func98 λ_ _ _ _=>by kernel_rfl
def j1H (a:qL) (b:Int) (i:Int) (rec:Int->Int->Res) (d:Int->Res) (f:Unit->Res):Res:=bif decide (i<(nI (List.length a))) then bif inb i (List.length a) then j06 b λr=>bif sNe (nth eS a i) r then f () else rec (Z9K (b+1)) (Z9K (i+1)) else none else d b
def j6E (a:qL):(Int×Int)->(Int×Int->Res)->((Int->Res)×(Unit->Res))->Res:=λv rec q=>j1H a v.1 v.2 (λb i=>rec (b,i)) q.1 q.2
def jcg (a:qL) (n:Nat) (f:Int) (i:Int) (b:Int->Res) (d:Unit->Res):Res:=Z1f (j6E a) n (f,i) (b,d)
def jc3:Z1d Unit:=NdL 22 22 [.R 0 y0 .S,.I 1,.I 5] [] (λb f=>(b.2.1,b.2.2.1)) (λb v=>(b.1,v.1,v.2,())) (λf v=>()) (λb f=>j6E b.1) λb f g=>((λd=>g (.exit 0) [(1,vI d)] []),(λ_=>g .ret [(4,vI (-1))] []))
theorem ji2:CN 0 26 Tryz.f146 jc3:=lK (Za6 j0c Zas) [] oN ([],[]) [(0,[1],[])] ([4],[]) λ_ _ _ _ _=>by kernel_rfl
def j4p (a:qL) (f:Int) (d:Int->Res):Res:=jcg a Z1c f 0 (λb=>d b) (λ_=>d (-1))
def j8X:Sig Unit:=sg [.look y0 false,.look tI false] [false] [(y0,none),(tI,none)] [] λb f k=>j4p b.1 b.2.1 (λd=>k [wI d] [] [])
theorem jjb:SO 146 j8X:=fK (np:=0) (Za6 j0c Zas) [jc3] (oI 26 0 @ji2 oN) false Tryz.func146 λ_ _ _ _=>by kernel_rfl
end
end Go.PI.G
namespace Go.PI.G
noncomputable section
open Go Go.PI Go.Proofs
open Go.Code (pl pr)
def j9v (a:qG) (left:Int) (b:Int->Res):Res:=bif decide ((Z9K (left-(nI (ByteArray.size a.2.1))))<0) then b (-1) else ja9 a.2.2.1 (Z9K (left-(nI (ByteArray.size a.2.1)))) λr=>bif decide (r<0) then b (-1) else j6H a.2.2.2.1 r λd=>bif decide (d<0) then b (-1) else bif decide ((Z9K (d-(nI (ByteArray.size a.2.2.2.2.1))))<0) then b (-1) else bif decide ((Z9K ((Z9K (d-(nI (ByteArray.size a.2.2.2.2.1))))-(nI (ByteArray.size a.2.2.2.2.2))))<0) then b (-1) else b (Z9K ((Z9K (d-(nI (ByteArray.size a.2.2.2.2.1))))-(nI (ByteArray.size a.2.2.2.2.2))))
def jjQ:Sig Unit:=sg [.look y13 true,.look tI false] [false] [(y13,none),(tI,none)] [] λb f k=>j9v b.1 b.2.1 (λd=>k [wI d] [] [])
theorem jpM:SO 185 jjQ:=fK (np:=0) (Za6 jla (Za6 joN Zas)) [] oN false Tryz.func185 λ_ _ _ _=>by delta j9v jiF jfg;refine gz ja9 λ_ b=>gz j6H λ_ d=> ?_;rewrite [<-b,<-d];kernel_rfl
def j9x (a:qG) (b:qG->Res):Res:=jac a.2.2.1 λr=>j6I a.2.2.2.1 λd=>b (a.1,a.2.1,r,d,a.2.2.2.2.1,a.2.2.2.2.2)
def jjS:Sig Unit:=sg [.borrow y13 true] [true] [(y13,none)] [] λd f k=>j9x d.1 (λb=>k [⟨y13,true,b,[.O,.O]⟩] [] [])
theorem jpO:SO 194 jjS:=fK (np:=0) (Za6 jlb (Za6 joQ Zas)) [] oN false Tryz.func194 λ_ _ _ _=>by delta j9x jiH jfh;refine gz jac λ_ b=>gz j6I λ_ d=> ?_;rewrite [<-b,<-d];kernel_rfl
def j9t (a:qG) (b:qG) (d:Bool->Res):Res:=bif (a.1 != b.1) then d false else bif sNe a.2.1 b.2.1 then d false else ja7 a.2.2.1 b.2.2.1 λr=>bif !r then d false else j6D a.2.2.2.1 b.2.2.2.1 λf=>bif !f then d false else bif sNe a.2.2.2.2.1 b.2.2.2.2.1 then d false else bif sNe a.2.2.2.2.2 b.2.2.2.2.2 then d false else d true
def jjO:Sig Unit:=sg [.look y13 true,.look y13 true] [false] [(y13,none),(y13,none)] [] λb f k=>j9t b.1 b.2.1 (λd=>k [wB d] [] [])
theorem jpK:SO 200 jjO:=fK (np:=0) (Za6 jl9 (Za6 joK Zas)) [] oN false Tryz.func200 λ_ _ _ _=>by delta j9t jiD jfe;refine gz ja7 λ_ b=>gz j6D λ_ d=> ?_;rewrite [<-b,<-d];kernel_rfl
def j6F (a:qG) (g:Int) (f:Int->qG->Res):Res:=j5g a.2.2.1 g λr b=>j2D a.2.2.2.1 r λh d=>f h (a.1,a.2.1,b,d,a.2.2.2.2)
def jhr:Sig Unit:=sg [.inout y13 true,.borrow tI false] [false] [(y13,some [.O,.O]),(tI,none)] [] λb g k=>j6F b.1 b.2.1 (λf d=>k [wI f] [⟨y13,true,d,[.O,.O]⟩] [])
theorem jnj:SO 207 jhr:=fK (np:=1) (Za6 jdg (Za6 jfH Zas)) [] oN false Tryz.func207 λ_ _ _ _=>by delta j6F jbG j8Y;refine gz j5g λ_ b=>gz j2D λ_ d=> ?_;rewrite [<-b,<-d];kernel_rfl
end
end Go.PI.G
namespace Go.PI.G
noncomputable section
open Go Go.PI Go.Proofs
open Go.Code (pl pr)
def j4C (a:List qV) (left:Int) (i:Int) (rec:Int->Int->Res) (b:Int->Res) (d:Unit->Res):Res:=bif decide (i<(nI (List.length a))) then bif inb i (List.length a) then jbt (nth (0,0,eS) a i) left λr=>bif decide (r<0) then d () else rec r (Z9K (i+1)) else none else b left
def jf5 (a:List qV):(Int×Int)->(Int×Int->Res)->((Int->Res)×(Unit->Res))->Res:=λv rec q=>j4C a v.1 v.2 (λleft i=>rec (left,i)) q.1 q.2
def jcG (a:List qV) (n:Nat) (left:Int) (i:Int) (b:Int->Res) (d:Unit->Res):Res:=Z1f (jf5 a) n (left,i) (b,d)
def jgi:Z1d Unit:=NdL 27 27 [.R 0 y3 .S,.I 1,.I 5] [] (λd f=>(d.2.1,d.2.2.1)) (λd v=>(d.1,v.1,v.2,())) (λf v=>()) (λd f=>jf5 d.1) λd f g=>((λb=>g (.exit 0) [(1,vI b)] []),(λ_=>g .ret [(4,vI (-1))] []))
theorem jmE:CN 0 122 Tryz.f37 jgi:=lK (Za6 jeB Zas) [] oN ([],[]) [(0,[1],[])] ([4],[]) λ_ _ _ _ _=>by kernel_rfl
def j87 (a:List qV) (left:Int) (d:Int->Res):Res:=bif decide ((Z9K (left-(nI (List.length a))))<0) then d (-1) else jcG a Z1c (Z9K (left-(nI (List.length a)))) 0 (λb=>d b) (λ_=>d (-1))
def jiG:Sig Unit:=sg [.look y3 false,.look tI false] [false] [(y3,none),(tI,none)] [] λb f k=>j87 b.1 b.2.1 (λd=>k [wI d] [] [])
theorem jiu:SO 37 jiG:=fK (np:=0) (Za6 jeB Zas) [jgi] (oI 122 0 @jmE oN) false Tryz.func37 λ_ _ _ _=>by kernel_rfl
def j4F (a:List qV) (b:List qV) (i:Int) (rec:qW->Int->Res) (d:qW->Res):Res:=bif decide (i<(nI (List.length a))) then bif inb i (List.length a) then jbv (nth (0,0,eS) a i) λr=>bif inb i (List.length b) then rec (upd b i r) (Z9K (i+1)) else none else none else d b
def jaG (a:List qV):(qW×Int)->(qW×Int->Res)->((qW->Res))->Res:=λv rec q=>j4F a v.1 v.2 (λb i=>rec (b,i)) q
def jnB (a:List qV) (n:Nat) (b:List qV) (i:Int) (d:qW->Res):Res:=Z1f (jaG a) n (b,i) (d)
def jgl:Z1d Unit:=NdL 23 23 [.R 0 y3 .S,.R 3 y3 .O,.I 4] [] (λb f=>(b.2.1,b.2.2.1)) (λb v=>(b.1,v.1,v.2,())) (λf v=>()) (λb f=>jaG b.1) λb f g=>((λd=>g (.exit 0) [(3,v1 y3 d .O)] []))
theorem jmH:CN 0 58 Tryz.f39 jgl:=lK (Za6 jeD Zas) [] oN ([],[]) [(0,[3],[])] ([],[]) λ_ _ _ _ _=>by kernel_rfl
def j88 (a:List qV) (d:qW->Res):Res:=bif Z9I (nI (List.length a)) (nI (List.length a)) then jnB a Z1c (Z9h (nI (List.length a)) (0,0,eS)) 0 λb=>d b else none
def jiI:Sig Unit:=sg [.borrow y3 false] [false] [(y3,none)] [] λd f k=>j88 d.1 (λb=>k [w1 y3 b .O] [] [])
theorem jiv:SO 39 jiI:=fK (np:=0) (Za6 jeD Zas) [jgl] (oI 58 0 @jmH oN) false Tryz.func39 λ_ _ _ _=>by kernel_rfl
def j4o (a:List qV) (b:List qV) (i:Int) (rec:Int->Res) (d:Unit->Res) (f:Unit->Res):Res:=bif decide (i<(nI (List.length a))) then bif inb i (List.length a) then bif inb i (List.length b) then jbr (nth (0,0,eS) a i) (nth (0,0,eS) b i) λr=>bif !r then f () else rec (Z9K (i+1)) else none else none else d ()
def jeV (a:List qV) (b:List qV):Int->(Int->Res)->((Unit->Res)×(Unit->Res))->Res:=λv rec q=>j4o a b v (λi=>rec (i)) q.1 q.2
def jhj (a:List qV) (b:List qV) (n:Nat) (i:Int) (d:Unit->Res) (f:Unit->Res):Res:=Z1f (jeV a b) n (i) (d,f)
def jgf:Z1d Unit:=NdL 27 27 [.R 0 y3 .S,.R 1 y3 .S,.I 5] [] (λb d=>(b.2.2.1)) (λb v=>(b.1,b.2.1,v,())) (λd v=>()) (λb d=>jeV b.1 b.2.1) λb d f=>((λ_=>f (.exit 0) [] []),(λ_=>f .ret [(4,vB false)] []))
theorem jmB:CN 0 58 Tryz.f41 jgf:=lK (Za6 jez Zas) [] oN ([],[]) [(0,[],[])] ([4],[]) λ_ _ _ _ _=>by kernel_rfl
def j86 (a:List qV) (b:List qV) (d:Bool->Res):Res:=bif ((nI (List.length a)) != (nI (List.length b))) then d false else jhj a b Z1c 0 (λ_=>d true) (λ_=>d false)
def jiE:Sig Unit:=sg [.look y3 false,.look y3 false] [false] [(y3,none),(y3,none)] [] λb f k=>j86 b.1 b.2.1 (λd=>k [wB d] [] [])
theorem jit:SO 41 jiE:=fK (np:=0) (Za6 jez Zas) [jgf] (oI 58 0 @jmB oN) false Tryz.func41 λ_ _ _ _=>by kernel_rfl
def j2W (a:List qV) (b:Int) (i:Int) (rec:qW->Int->Int->Res) (d:qW->Int->Res):Res:=bif decide (i<(nI (List.length a))) then bif inb i (List.length a) then bif inb i (List.length (upd a i (b,(nth (0,0,eS) a i).2))) then j06 (Z9K ((Z9K (b+1))+1)) λr=>bif inb i (List.length (upd (upd a i (b,(nth (0,0,eS) a i).2)) i ((nth (0,0,eS) (upd a i (b,(nth (0,0,eS) a i).2)) i).1,Z9K (b+1),(nth (0,0,eS) (upd a i (b,(nth (0,0,eS) a i).2)) i).2.2))) then rec (upd (upd (upd a i (b,(nth (0,0,eS) a i).2)) i ((nth (0,0,eS) (upd a i (b,(nth (0,0,eS) a i).2)) i).1,Z9K (b+1),(nth (0,0,eS) (upd a i (b,(nth (0,0,eS) a i).2)) i).2.2)) i ((nth (0,0,eS) (upd (upd a i (b,(nth (0,0,eS) a i).2)) i ((nth (0,0,eS) (upd a i (b,(nth (0,0,eS) a i).2)) i).1,Z9K (b+1),(nth (0,0,eS) (upd a i (b,(nth (0,0,eS) a i).2)) i).2.2)) i).1,(nth (0,0,eS) (upd (upd a i (b,(nth (0,0,eS) a i).2)) i ((nth (0,0,eS) (upd a i (b,(nth (0,0,eS) a i).2)) i).1,Z9K (b+1),(nth (0,0,eS) (upd a i (b,(nth (0,0,eS) a i).2)) i).2.2)) i).2.1,r)) (Z9K ((Z9K ((Z9K (b+1))+1))+1)) (Z9K (i+1)) else none else none else none else d a b
def j8T:(qW×Int×Int)->(qW×Int×Int->Res)->((qW->Int->Res))->Res:=λv rec q=>j2W v.1 v.2.1 v.2.2 (λa b i=>rec (a,b,i)) q
def jf2 (n:Nat) (a:List qV) (d:Int) (i:Int) (b:qW->Int->Res):Res:=Z1f (j8T) n (a,d,i) (b)
def je7:Z1d Unit:=NdL 35 35 [.R 0 y3 .O,.I 1,.I 5] [] (λb f=>(b.1,b.2.1,b.2.2.1)) (λb v=>(v.1,v.2.1,v.2.2,())) (λf v=>()) (λb f=>j8T) λb f h=>((λg d=>h (.exit 0) [(0,v1 y3 g .O),(1,vI d)] []))
theorem jkz:CN 1 26 Tryz.f51 je7:=lK (Za6 j0c Zas) [] oN ([],[]) [(0,[0,1],[])] ([],[]) λ_ _ _ _ _=>by kernel_rfl
def j1x (a:List qV) (g:Int) (f:Int->qW->Res):Res:=jf2 Z1c a g 0 λd b=>f b d
def j8s:Sig Unit:=sg [.inout y3 false,.borrow tI false] [false] [(y3,some [.O]),(tI,none)] [] λb g k=>j1x b.1 b.2.1 (λf d=>k [wI f] [w1 y3 d .O] [])
theorem jbe:SO 51 j8s:=fK (np:=1) (Za6 j0c Zas) [je7] (oI 26 0 @jkz oN) false Tryz.func51 λ_ _ _ _=>by kernel_rfl
def j2U (a:List qV) (b:Int) (i:Int) (rec:Int->Int->Res) (f:Int->Res) (d:Unit->Res):Res:=bif decide (i<(nI (List.length a))) then bif inb i (List.length a) then bif ((nth (0,0,eS) a i).1 != b) then d () else bif inb i (List.length a) then bif ((nth (0,0,eS) a i).2.1 != (Z9K (b+1))) then d () else bif inb i (List.length a) then j06 (Z9K ((Z9K (b+1))+1)) λr=>bif sNe (nth (0,0,eS) a i).2.2 r then d () else rec (Z9K ((Z9K ((Z9K (b+1))+1))+1)) (Z9K (i+1)) else none else none else none else f b
def j8Q (a:List qV):(Int×Int)->(Int×Int->Res)->((Int->Res)×(Unit->Res))->Res:=λv rec q=>j2U a v.1 v.2 (λb i=>rec (b,i)) q.1 q.2
def jeY (a:List qV) (n:Nat) (f:Int) (i:Int) (b:Int->Res) (d:Unit->Res):Res:=Z1f (j8Q a) n (f,i) (b,d)
def je3:Z1d Unit:=NdL 41 41 [.R 0 y3 .S,.I 1,.I 5] [] (λb f=>(b.2.1,b.2.2.1)) (λb v=>(b.1,v.1,v.2,())) (λf v=>()) (λb f=>j8Q b.1) λb f g=>((λd=>g (.exit 0) [(1,vI d)] []),(λ_=>g .ret [(4,vI (-1))] []))
theorem jkl:CN 0 26 Tryz.f118 je3:=lK (Za6 j0c Zas) [] oN ([],[]) [(0,[1],[])] ([4],[]) λ_ _ _ _ _=>by kernel_rfl
def j5f (a:List qV) (f:Int) (d:Int->Res):Res:=jeY a Z1c f 0 (λb=>d b) (λ_=>d (-1))
def jbF:Sig Unit:=sg [.look y3 false,.look tI false] [false] [(y3,none),(tI,none)] [] λb f k=>j5f b.1 b.2.1 (λd=>k [wI d] [] [])
theorem jm2:SO 118 jbF:=fK (np:=0) (Za6 j0c Zas) [je3] (oI 26 0 @jkl oN) false Tryz.func118 λ_ _ _ _=>by kernel_rfl
end
end Go.PI.G
namespace Go.PI.G
noncomputable section
open Go Go.PI Go.Proofs
open Go.Code (pl pr)
def jbs (a:List qV) (left:Int) (b:Int->Res):Res:=j87 a left λr=>bif decide (r<0) then b (-1) else b r
def jjR:Sig Unit:=sg [.look y3 true,.look tI false] [false] [(y3,none),(tI,none)] [] λb f k=>jbs b.1 b.2.1 (λd=>k [wI d] [] [])
theorem jpN:SO 184 jjR:=fK (np:=0) (Za6 jiu Zas) [] oN false Tryz.func184 λ_ _ _ _=>by kernel_rfl
def jbu (a:List qV) (b:qW->Res):Res:=j88 a λr=>b r
def jjT:Sig Unit:=sg [.borrow y3 true] [true] [(y3,none)] [] λd f k=>jbu d.1 (λb=>k [⟨y3,true,b,[.O]⟩] [] [])
theorem jpP:SO 193 jjT:=fK (np:=0) (Za6 jiv Zas) [] oN false Tryz.func193 λ_ _ _ _=>by kernel_rfl
def jbq (a:List qV) (b:List qV) (d:Bool->Res):Res:=j86 a b λr=>bif !r then d false else d true
def jjP:Sig Unit:=sg [.look y3 true,.look y3 true] [false] [(y3,none),(y3,none)] [] λb f k=>jbq b.1 b.2.1 (λd=>k [wB d] [] [])
theorem jpL:SO 50 jjP:=fK (np:=0) (Za6 jit Zas) [] oN false Tryz.func50 λ_ _ _ _=>by kernel_rfl
def j8S (a:List qV) (f:Int) (d:Int->qW->Res):Res:=j1x a f λr b=>d r b
def jhs:Sig Unit:=sg [.inout y3 true,.borrow tI false] [false] [(y3,some [.O]),(tI,none)] [] λb g k=>j8S b.1 b.2.1 (λf d=>k [wI f] [⟨y3,true,d,[.O]⟩] [])
theorem jnl:SO 52 jhs:=fK (np:=1) (Za6 jbe Zas) [] oN false Tryz.func52 λ_ _ _ _=>by kernel_rfl
end
end Go.PI.G
namespace Go.PI.G
noncomputable section
open Go Go.PI Go.Proofs
open Go.Code (pl pr)
def jab (a:qS) (left:Int) (b:Int->Res):Res:=bif decide ((Z9K (left-(nI (ByteArray.size a.2.1))))<0) then b (-1) else j87 a.2.2.1 (Z9K (left-(nI (ByteArray.size a.2.1)))) λr=>bif decide (r<0) then b (-1) else jbs a.2.2.2.1 r λd=>bif decide (d<0) then b (-1) else j9v a.2.2.2.2 d λf=>bif decide (f<0) then b (-1) else b f
def jpq:Sig Unit:=sg [.look y17 true,.look tI false] [false] [(y17,none),(tI,none)] [] λb f k=>jab b.1 b.2.1 (λd=>k [wI d] [] [])
theorem joP:SO 132 jpq:=fK (np:=0) (Za6 jiu (Za6 jpN (Za6 jpM Zas))) [] oN false Tryz.func132 λ_ _ _ _=>by delta jab jiG jjR jjQ;refine gz j87 λ_ b=>gz jbs λ_ d=>gz j9v λ_ f=> ?_;rewrite [<-b,<-d,<-f];kernel_rfl
def jad (a:qS) (b:qS->Res):Res:=j88 a.2.2.1 λr=>jbu a.2.2.2.1 λd=>j9x a.2.2.2.2 λf=>b (a.1,a.2.1,r,d,f)
def jpr:Sig Unit:=sg [.borrow y17 true] [true] [(y17,none)] [] λd f k=>jad d.1 (λb=>k [⟨y17,true,b,[.O,.O,.O,.O]⟩] [] [])
theorem joS:SO 137 jpr:=fK (np:=0) (Za6 jiv (Za6 jpP (Za6 jpO Zas))) [] oN false Tryz.func137 λ_ _ _ _=>by delta jad jiI jjT jjS;refine gz j88 λ_ b=>gz jbu λ_ d=>gz j9x λ_ f=> ?_;rewrite [<-b,<-d,<-f];kernel_rfl
def ja8 (a:qS) (b:qS) (d:Bool->Res):Res:=bif (a.1 != b.1) then d false else bif sNe a.2.1 b.2.1 then d false else j86 a.2.2.1 b.2.2.1 λr=>bif !r then d false else jbq a.2.2.2.1 b.2.2.2.1 λf=>bif !f then d false else j9t a.2.2.2.2 b.2.2.2.2 λg=>bif !g then d false else d true
def jpp:Sig Unit:=sg [.look y17 true,.look y17 true] [false] [(y17,none),(y17,none)] [] λb f k=>ja8 b.1 b.2.1 (λd=>k [wB d] [] [])
theorem joM:SO 140 jpp:=fK (np:=0) (Za6 jit (Za6 jpL (Za6 jpK Zas))) [] oN false Tryz.func140 λ_ _ _ _=>by delta ja8 jiE jjP jjO;refine gz j86 λ_ b=>gz jbq λ_ d=>gz j9t λ_ f=> ?_;rewrite [<-b,<-d,<-f];kernel_rfl
def j7R (a:qS) (h:Int) (g:Int->qS->Res):Res:=j1x a.2.2.1 h λr b=>j8S a.2.2.2.1 r λi d=>j6F a.2.2.2.2 i λj f=>g j (a.1,a.2.1,b,d,f)
def jmZ:Sig Unit:=sg [.inout y17 true,.borrow tI false] [false] [(y17,some [.O,.O,.O,.O]),(tI,none)] [] λb g k=>j7R b.1 b.2.1 (λf d=>k [wI f] [⟨y17,true,d,[.O,.O,.O,.O]⟩] [])
theorem jm4:SO 152 jmZ:=fK (np:=1) (Za6 jbe (Za6 jnl (Za6 jnj Zas))) [] oN false Tryz.func152 λ_ _ _ _=>by delta j7R j8s jhs jhr;refine gz j1x λ_ b=>gz j8S λ_ d=>gz j6F λ_ f=> ?_;rewrite [<-b,<-d,<-f];kernel_rfl
end
end Go.PI.G
namespace Go.PI.G
noncomputable section
open Go Go.PI Go.Proofs
open Go.Code (pl pr)
def j9w (a:Int×Int×qS) (left:Int) (b:Int->Res):Res:=jab a.2.2 left λr=>bif decide (r<0) then b (-1) else b r
def jff:Sig Unit:=sg [.look y19 true,.look tI false] [false] [(y19,none),(tI,none)] [] λb f k=>j9w b.1 b.2.1 (λd=>k [wI d] [] [])
theorem jeA:SO 75 jff:=fK (np:=0) (Za6 joP Zas) [] oN false Tryz.func75 λ_ _ _ _=>by kernel_rfl
def j21 (a:Int×Int×qS) (b:qP->Res):Res:=jad a.2.2 λr=>b (a.1,a.2.1,r)
def j8Z:Sig Unit:=sg [.borrow y19 true] [true] [(y19,none)] [] λd f k=>j21 d.1 (λb=>k [⟨y19,true,b,[.O,.O,.O,.O]⟩] [] [])
theorem jeC:SO 77 j8Z:=fK (np:=0) (Za6 joS Zas) [] oN false Tryz.func77 λ_ _ _ _=>by kernel_rfl
def j9u (a:Int×Int×qS) (b:Int×Int×qS) (d:Bool->Res):Res:=bif (a.1 != b.1) then d false else bif (a.2.1 != b.2.1) then d false else ja8 a.2.2 b.2.2 λr=>bif !r then d false else d true
def jfd:Sig Unit:=sg [.look y19 true,.look y19 true] [false] [(y19,none),(y19,none)] [] λb f k=>j9u b.1 b.2.1 (λd=>k [wB d] [] [])
theorem jey:SO 79 jfd:=fK (np:=0) (Za6 joM Zas) [] oN false Tryz.func79 λ_ _ _ _=>by kernel_rfl
def j8R (a:Int×Int×qS) (f:Int) (d:Int->qP->Res):Res:=j7R a.2.2 f λr b=>d r (a.1,a.2.1,b)
def jcM:Sig Unit:=sg [.inout y19 true,.borrow tI false] [false] [(y19,some [.O,.O,.O,.O]),(tI,none)] [] λb g k=>j8R b.1 b.2.1 (λf d=>k [wI f] [⟨y19,true,d,[.O,.O,.O,.O]⟩] [])
theorem jnk:SO 80 jcM:=fK (np:=1) (Za6 jm4 Zas) [] oN false Tryz.func80 λ_ _ _ _=>by kernel_rfl
end
end Go.PI.G
namespace Go.PI.G
noncomputable section
open Go Go.PI Go.Proofs
open Go.Code (pl pr)
def j4B (a:List qP) (left:Int) (i:Int) (rec:Int->Int->Res) (b:Int->Res) (d:Unit->Res):Res:=bif decide (i<(nI (List.length a))) then bif inb i (List.length a) then j9w (nth (0,0,0,eS,[],[],0,eS,[],[],eS,eS) a i) left λr=>bif decide (r<0) then d () else rec r (Z9K (i+1)) else none else b left
def jf4 (a:List qP):(Int×Int)->(Int×Int->Res)->((Int->Res)×(Unit->Res))->Res:=λv rec q=>j4B a v.1 v.2 (λleft i=>rec (left,i)) q.1 q.2
def jcF (a:List qP) (n:Nat) (left:Int) (i:Int) (b:Int->Res) (d:Unit->Res):Res:=Z1f (jf4 a) n (left,i) (b,d)
def jgh:Z1d Unit:=NdL 27 27 [.R 0 y20 .S,.I 1,.I 5] [] (λd f=>(d.2.1,d.2.2.1)) (λd v=>(d.1,v.1,v.2,())) (λf v=>()) (λd f=>jf4 d.1) λd f g=>((λb=>g (.exit 0) [(1,vI b)] []),(λ_=>g .ret [(4,vI (-1))] []))
theorem jmD:CN 0 122 Tryz.f26 jgh:=lK (Za6 jeA Zas) [] oN ([],[]) [(0,[1],[])] ([4],[]) λ_ _ _ _ _=>by kernel_rfl
def jaa (a:List qP) (left:Int) (d:Int->Res):Res:=bif decide ((Z9K (left-(nI (List.length a))))<0) then d (-1) else jcF a Z1c (Z9K (left-(nI (List.length a)))) 0 (λb=>d b) (λ_=>d (-1))
def jdG:Sig Unit:=sg [.look y20 false,.look tI false] [false] [(y20,none),(tI,none)] [] λb f k=>jaa b.1 b.2.1 (λd=>k [wI d] [] [])
theorem joO:SO 26 jdG:=fK (np:=0) (Za6 jeA Zas) [jgh] (oI 122 0 @jmD oN) false Tryz.func26 λ_ _ _ _=>by kernel_rfl
def j4E (a:List qP) (b:List qP) (i:Int) (rec:(List qP)->Int->Res) (d:(List qP)->Res):Res:=bif decide (i<(nI (List.length a))) then bif inb i (List.length a) then j21 (nth (0,0,0,eS,[],[],0,eS,[],[],eS,eS) a i) λr=>bif inb i (List.length b) then rec (upd b i r) (Z9K (i+1)) else none else none else d b
def jaF (a:List qP):((List qP)×Int)->((List qP)×Int->Res)->(((List qP)->Res))->Res:=λv rec q=>j4E a v.1 v.2 (λb i=>rec (b,i)) q
def jnA (a:List qP) (n:Nat) (b:List qP) (i:Int) (d:(List qP)->Res):Res:=Z1f (jaF a) n (b,i) (d)
def jgk:Z1d Unit:=NdL 23 23 [.R 0 y20 .S,.R 3 y20 .O,.I 4] [] (λb f=>(b.2.1,b.2.2.1)) (λb v=>(b.1,v.1,v.2,())) (λf v=>()) (λb f=>jaF b.1) λb f g=>((λd=>g (.exit 0) [(3,v1 y20 d .O)] []))
theorem jmG:CN 0 58 Tryz.f28 jgk:=lK (Za6 jeC Zas) [] oN ([],[]) [(0,[3],[])] ([],[]) λ_ _ _ _ _=>by kernel_rfl
def j1V (a:List qP) (d:(List qP)->Res):Res:=bif Z9I (nI (List.length a)) (nI (List.length a)) then jnA a Z1c (Z9h (nI (List.length a)) (0,0,0,eS,[],[],0,eS,[],[],eS,eS)) 0 λb=>d b else none
def j7V:Sig Unit:=sg [.borrow y20 false] [false] [(y20,none)] [] λd f k=>j1V d.1 (λb=>k [w1 y20 b .O] [] [])
theorem joR:SO 28 j7V:=fK (np:=0) (Za6 jeC Zas) [jgk] (oI 58 0 @jmG oN) false Tryz.func28 λ_ _ _ _=>by kernel_rfl
def j4n (a:List qP) (b:List qP) (i:Int) (rec:Int->Res) (d:Unit->Res) (f:Unit->Res):Res:=bif decide (i<(nI (List.length a))) then bif inb i (List.length a) then bif inb i (List.length b) then j9u (nth (0,0,0,eS,[],[],0,eS,[],[],eS,eS) a i) (nth (0,0,0,eS,[],[],0,eS,[],[],eS,eS) b i) λr=>bif !r then f () else rec (Z9K (i+1)) else none else none else d ()
def jeU (a:List qP) (b:List qP):Int->(Int->Res)->((Unit->Res)×(Unit->Res))->Res:=λv rec q=>j4n a b v (λi=>rec (i)) q.1 q.2
def jhi (a:List qP) (b:List qP) (n:Nat) (i:Int) (d:Unit->Res) (f:Unit->Res):Res:=Z1f (jeU a b) n (i) (d,f)
def jge:Z1d Unit:=NdL 27 27 [.R 0 y20 .S,.R 1 y20 .S,.I 5] [] (λb d=>(b.2.2.1)) (λb v=>(b.1,b.2.1,v,())) (λd v=>()) (λb d=>jeU b.1 b.2.1) λb d f=>((λ_=>f (.exit 0) [] []),(λ_=>f .ret [(4,vB false)] []))
theorem jmA:CN 0 58 Tryz.f30 jge:=lK (Za6 jey Zas) [] oN ([],[]) [(0,[],[])] ([4],[]) λ_ _ _ _ _=>by kernel_rfl
def j1U (a:List qP) (b:List qP) (d:Bool->Res):Res:=bif ((nI (List.length a)) != (nI (List.length b))) then d false else jhi a b Z1c 0 (λ_=>d true) (λ_=>d false)
def j7U:Sig Unit:=sg [.look y20 false,.look y20 false] [false] [(y20,none),(y20,none)] [] λb f k=>j1U b.1 b.2.1 (λd=>k [wB d] [] [])
theorem joL:SO 30 j7U:=fK (np:=0) (Za6 jey Zas) [jge] (oI 58 0 @jmA oN) false Tryz.func30 λ_ _ _ _=>by kernel_rfl
theorem j15:FS [(51,j8s),(98,j8Y),(110,j23),(111,jbG)]:=(Za6 jbe (Za6 jdg (Za6 j0c (Za6 jfH Zas))))
def j4t (a:List qP) (d:Int) (i:Int) (b:(List qP)->Res):Res:=bif inb i (List.length a) then b (upd a i ((nth (0,0,0,eS,[],[],0,eS,[],[],eS,eS) a i).1,(nth (0,0,0,eS,[],[],0,eS,[],[],eS,eS) a i).2.1,d,(nth (0,0,0,eS,[],[],0,eS,[],[],eS,eS) a i).2.2.2)) else none
def j0w:Z1d Unit:=Nd 118 118 [.R 0 y20 .O,.I 1,.I 5] [] λb g f=>j4t b.1 b.2.1 b.2.2.1 (λd=>f .normal [(0,v1 y20 d .O),(1,vI b.2.1),(5,vI b.2.2.1)] [])
theorem jkr:CN 1 13470 Tryz.f45 j0w:=nK j15 [] oN ([0,1,5],[]) [] ([],[]) λ_ _ _=>by kernel_rfl
def j4u (a:List qP) (f:Int) (i:Int) (d:(List qP)->Int->Res):Res:=bif inb i (List.length a) then j1x (nth (0,0,0,eS,[],[],0,eS,[],[],eS,eS) a i).2.2.2.2.1 f λr b=>d (upd a i ((nth (0,0,0,eS,[],[],0,eS,[],[],eS,eS) a i).1,(nth (0,0,0,eS,[],[],0,eS,[],[],eS,eS) a i).2.1,(nth (0,0,0,eS,[],[],0,eS,[],[],eS,eS) a i).2.2.1,(nth (0,0,0,eS,[],[],0,eS,[],[],eS,eS) a i).2.2.2.1,b,(nth (0,0,0,eS,[],[],0,eS,[],[],eS,eS) a i).2.2.2.2.2)) r else none
def j0M:Z1d Unit:=Nd 118 118 [.R 0 y20 .O,.I 1,.I 5] [] λb h g=>j4u b.1 b.2.1 b.2.2.1 (λf d=>g .normal [(0,v1 y20 f .O),(1,vI d),(5,vI b.2.2.1)] [])
theorem jks:CN 1 215550 Tryz.f45 j0M:=nK j15 [j0w] oN ([0,1,5],[]) [] ([],[]) λ_ _ _=>by kernel_rfl
def j4v (a:List qP) (d:Int) (i:Int) (b:(List qP)->Res):Res:=bif inb i (List.length a) then b (upd a i ((nth (0,0,0,eS,[],[],0,eS,[],[],eS,eS) a i).1,(nth (0,0,0,eS,[],[],0,eS,[],[],eS,eS) a i).2.1,(nth (0,0,0,eS,[],[],0,eS,[],[],eS,eS) a i).2.2.1,(nth (0,0,0,eS,[],[],0,eS,[],[],eS,eS) a i).2.2.2.1,(nth (0,0,0,eS,[],[],0,eS,[],[],eS,eS) a i).2.2.2.2.1,(nth (0,0,0,eS,[],[],0,eS,[],[],eS,eS) a i).2.2.2.2.2.1,d,(nth (0,0,0,eS,[],[],0,eS,[],[],eS,eS) a i).2.2.2.2.2.2.2)) else none
def j12:Z1d Unit:=Nd 118 118 [.R 0 y20 .O,.I 1,.I 5] [] λb g f=>j4v b.1 b.2.1 b.2.2.1 (λd=>f .normal [(0,v1 y20 d .O),(1,vI b.2.1),(5,vI b.2.2.1)] [])
theorem jkt:CN 1 862206 Tryz.f45 j12:=nK j15 [j0w,j0M] oN ([0,1,5],[]) [] ([],[]) λ_ _ _=>by kernel_rfl
def j4w (a:List qP) (f:Int) (i:Int) (d:(List qP)->Int->Res):Res:=bif inb i (List.length a) then j5g (nth (0,0,0,eS,[],[],0,eS,[],[],eS,eS) a i).2.2.2.2.2.2.2.2.1 f λr b=>d (upd a i ((nth (0,0,0,eS,[],[],0,eS,[],[],eS,eS) a i).1,(nth (0,0,0,eS,[],[],0,eS,[],[],eS,eS) a i).2.1,(nth (0,0,0,eS,[],[],0,eS,[],[],eS,eS) a i).2.2.1,(nth (0,0,0,eS,[],[],0,eS,[],[],eS,eS) a i).2.2.2.1,(nth (0,0,0,eS,[],[],0,eS,[],[],eS,eS) a i).2.2.2.2.1,(nth (0,0,0,eS,[],[],0,eS,[],[],eS,eS) a i).2.2.2.2.2.1,(nth (0,0,0,eS,[],[],0,eS,[],[],eS,eS) a i).2.2.2.2.2.2.1,(nth (0,0,0,eS,[],[],0,eS,[],[],eS,eS) a i).2.2.2.2.2.2.2.1,b,(nth (0,0,0,eS,[],[],0,eS,[],[],eS,eS) a i).2.2.2.2.2.2.2.2.2)) r else none
def j1o:Z1d Unit:=Nd 118 118 [.R 0 y20 .O,.I 1,.I 5] [] λb h g=>j4w b.1 b.2.1 b.2.2.1 (λf d=>g .normal [(0,v1 y20 f .O),(1,vI d),(5,vI b.2.2.1)] [])
theorem jku:CN 1 13795326 Tryz.f45 j1o:=nK j15 [j0w,j0M,j12] oN ([0,1,5],[]) [] ([],[]) λ_ _ _=>by kernel_rfl
def j4x (a:List qP) (f:Int) (i:Int) (d:(List qP)->Int->Res):Res:=bif inb i (List.length a) then j2D (nth (0,0,0,eS,[],[],0,eS,[],[],eS,eS) a i).2.2.2.2.2.2.2.2.2.1 f λr b=>d (upd a i ((nth (0,0,0,eS,[],[],0,eS,[],[],eS,eS) a i).1,(nth (0,0,0,eS,[],[],0,eS,[],[],eS,eS) a i).2.1,(nth (0,0,0,eS,[],[],0,eS,[],[],eS,eS) a i).2.2.1,(nth (0,0,0,eS,[],[],0,eS,[],[],eS,eS) a i).2.2.2.1,(nth (0,0,0,eS,[],[],0,eS,[],[],eS,eS) a i).2.2.2.2.1,(nth (0,0,0,eS,[],[],0,eS,[],[],eS,eS) a i).2.2.2.2.2.1,(nth (0,0,0,eS,[],[],0,eS,[],[],eS,eS) a i).2.2.2.2.2.2.1,(nth (0,0,0,eS,[],[],0,eS,[],[],eS,eS) a i).2.2.2.2.2.2.2.1,(nth (0,0,0,eS,[],[],0,eS,[],[],eS,eS) a i).2.2.2.2.2.2.2.2.1,b,(nth (0,0,0,eS,[],[],0,eS,[],[],eS,eS) a i).2.2.2.2.2.2.2.2.2.2)) r else none
def j2k:Z1d Unit:=Nd 118 118 [.R 0 y20 .O,.I 1,.I 5] [] λb h g=>j4x b.1 b.2.1 b.2.2.1 (λf d=>g .normal [(0,v1 y20 f .O),(1,vI d),(5,vI b.2.2.1)] [])
theorem jkv:CN 1 27590654 Tryz.f45 j2k:=nK j15 [j0w,j0M,j12,j1o] oN ([0,1,5],[]) [] ([],[]) λ_ _ _=>by kernel_rfl
def j4y (a:List qP) (d:Int) (i:Int) (b:(List qP)->Res):Res:=j06 d λr=>bif inb i (List.length a) then b (upd a i ((nth (0,0,0,eS,[],[],0,eS,[],[],eS,eS) a i).1,(nth (0,0,0,eS,[],[],0,eS,[],[],eS,eS) a i).2.1,(nth (0,0,0,eS,[],[],0,eS,[],[],eS,eS) a i).2.2.1,(nth (0,0,0,eS,[],[],0,eS,[],[],eS,eS) a i).2.2.2.1,(nth (0,0,0,eS,[],[],0,eS,[],[],eS,eS) a i).2.2.2.2.1,(nth (0,0,0,eS,[],[],0,eS,[],[],eS,eS) a i).2.2.2.2.2.1,(nth (0,0,0,eS,[],[],0,eS,[],[],eS,eS) a i).2.2.2.2.2.2.1,(nth (0,0,0,eS,[],[],0,eS,[],[],eS,eS) a i).2.2.2.2.2.2.2.1,(nth (0,0,0,eS,[],[],0,eS,[],[],eS,eS) a i).2.2.2.2.2.2.2.2.1,(nth (0,0,0,eS,[],[],0,eS,[],[],eS,eS) a i).2.2.2.2.2.2.2.2.2.1,r,(nth (0,0,0,eS,[],[],0,eS,[],[],eS,eS) a i).2.2.2.2.2.2.2.2.2.2.2)) else none
def j3M:Z1d Unit:=Nd 118 118 [.R 0 y20 .O,.I 1,.I 5] [] λb g f=>j4y b.1 b.2.1 b.2.2.1 (λd=>f .normal [(0,v1 y20 d .O),(1,vI b.2.1),(5,vI b.2.2.1)] [])
theorem jkw:CN 1 55181310 Tryz.f45 j3M:=nK j15 [j0w,j0M,j12,j1o,j2k] oN ([0,1,5],[]) [] ([],[]) λ_ _ _=>by kernel_rfl
def j4z (a:List qP) (d:Int) (i:Int) (b:(List qP)->Res):Res:=j06 d λr=>bif inb i (List.length a) then b (upd a i ((nth (0,0,0,eS,[],[],0,eS,[],[],eS,eS) a i).1,(nth (0,0,0,eS,[],[],0,eS,[],[],eS,eS) a i).2.1,(nth (0,0,0,eS,[],[],0,eS,[],[],eS,eS) a i).2.2.1,(nth (0,0,0,eS,[],[],0,eS,[],[],eS,eS) a i).2.2.2.1,(nth (0,0,0,eS,[],[],0,eS,[],[],eS,eS) a i).2.2.2.2.1,(nth (0,0,0,eS,[],[],0,eS,[],[],eS,eS) a i).2.2.2.2.2.1,(nth (0,0,0,eS,[],[],0,eS,[],[],eS,eS) a i).2.2.2.2.2.2.1,(nth (0,0,0,eS,[],[],0,eS,[],[],eS,eS) a i).2.2.2.2.2.2.2.1,(nth (0,0,0,eS,[],[],0,eS,[],[],eS,eS) a i).2.2.2.2.2.2.2.2.1,(nth (0,0,0,eS,[],[],0,eS,[],[],eS,eS) a i).2.2.2.2.2.2.2.2.2.1,(nth (0,0,0,eS,[],[],0,eS,[],[],eS,eS) a i).2.2.2.2.2.2.2.2.2.2.1,r)) else none
def j6q:Z1d Unit:=Nd 118 118 [.R 0 y20 .O,.I 1,.I 5] [] λb g f=>j4z b.1 b.2.1 b.2.2.1 (λd=>f .normal [(0,v1 y20 d .O),(1,vI b.2.1),(5,vI b.2.2.1)] [])
theorem jkx:CN 1 220725246 Tryz.f45 j6q:=nK j15 [j0w,j0M,j12,j1o,j2k,j3M] oN ([0,1,5],[]) [] ([],[]) λ_ _ _=>by kernel_rfl
def j1J (a:List qP) (f:Int) (i:Int) (rec:(List qP)->Int->Int->Res) (y:(List qP)->Int->Res):Res:=bif decide (i<(nI (List.length a))) then bif inb i (List.length a) then bif inb i (List.length (upd a i (f,(nth (0,0,0,eS,[],[],0,eS,[],[],eS,eS) a i).2))) then j4t (upd (upd a i (f,(nth (0,0,0,eS,[],[],0,eS,[],[],eS,eS) a i).2)) i ((nth (0,0,0,eS,[],[],0,eS,[],[],eS,eS) (upd a i (f,(nth (0,0,0,eS,[],[],0,eS,[],[],eS,eS) a i).2)) i).1,Z9K (f+1),(nth (0,0,0,eS,[],[],0,eS,[],[],eS,eS) (upd a i (f,(nth (0,0,0,eS,[],[],0,eS,[],[],eS,eS) a i).2)) i).2.2)) (Z9K ((Z9K (f+1))+1)) i λh=>j06 (Z9K ((Z9K ((Z9K (f+1))+1))+1)) λr=>bif inb i (List.length h) then j4u (upd h i ((nth (0,0,0,eS,[],[],0,eS,[],[],eS,eS) h i).1,(nth (0,0,0,eS,[],[],0,eS,[],[],eS,eS) h i).2.1,(nth (0,0,0,eS,[],[],0,eS,[],[],eS,eS) h i).2.2.1,r,(nth (0,0,0,eS,[],[],0,eS,[],[],eS,eS) h i).2.2.2.2)) (Z9K ((Z9K ((Z9K ((Z9K (f+1))+1))+1))+1)) i λd j=>bif inb i (List.length d) then j1x (nth (0,0,0,eS,[],[],0,eS,[],[],eS,eS) d i).2.2.2.2.2.1 j λl m=>j4v (upd d i ((nth (0,0,0,eS,[],[],0,eS,[],[],eS,eS) d i).1,(nth (0,0,0,eS,[],[],0,eS,[],[],eS,eS) d i).2.1,(nth (0,0,0,eS,[],[],0,eS,[],[],eS,eS) d i).2.2.1,(nth (0,0,0,eS,[],[],0,eS,[],[],eS,eS) d i).2.2.2.1,(nth (0,0,0,eS,[],[],0,eS,[],[],eS,eS) d i).2.2.2.2.1,m,(nth (0,0,0,eS,[],[],0,eS,[],[],eS,eS) d i).2.2.2.2.2.2)) l i λb=>j06 (Z9K (l+1)) λz=>bif inb i (List.length b) then j4w (upd b i ((nth (0,0,0,eS,[],[],0,eS,[],[],eS,eS) b i).1,(nth (0,0,0,eS,[],[],0,eS,[],[],eS,eS) b i).2.1,(nth (0,0,0,eS,[],[],0,eS,[],[],eS,eS) b i).2.2.1,(nth (0,0,0,eS,[],[],0,eS,[],[],eS,eS) b i).2.2.2.1,(nth (0,0,0,eS,[],[],0,eS,[],[],eS,eS) b i).2.2.2.2.1,(nth (0,0,0,eS,[],[],0,eS,[],[],eS,eS) b i).2.2.2.2.2.1,(nth (0,0,0,eS,[],[],0,eS,[],[],eS,eS) b i).2.2.2.2.2.2.1,z,(nth (0,0,0,eS,[],[],0,eS,[],[],eS,eS) b i).2.2.2.2.2.2.2.2)) (Z9K ((Z9K (l+1))+1)) i λn k=>j4x n k i λp g=>j4y p g i λq=>j4z q (Z9K (g+1)) i λw=>rec w (Z9K ((Z9K (g+1))+1)) (Z9K (i+1)) else none else none else none else none else none else y a f
def j5K:((List qP)×Int×Int)->((List qP)×Int×Int->Res)->(((List qP)->Int->Res))->Res:=λv rec q=>j1J v.1 v.2.1 v.2.2 (λa b i=>rec (a,b,i)) q
def jf0 (n:Nat) (a:List qP) (d:Int) (i:Int) (b:(List qP)->Int->Res):Res:=Z1f (j5K) n (a,d,i) (b)
def je5:Z1d Unit:=NdL 118 118 [.R 0 y20 .O,.I 1,.I 5] [] (λb f=>(b.1,b.2.1,b.2.2.1)) (λb v=>(v.1,v.2.1,v.2.2,())) (λf v=>()) (λb f=>j5K) λb f h=>((λg d=>h (.exit 0) [(0,v1 y20 g .O),(1,vI d)] []))
theorem jkq:CN 1 26 Tryz.f45 je5:=lK j15 [j0w,j0M,j12,j1o,j2k,j3M,j6q] (oI 414 0 @jkr (oI 6654 1 @jks (oI 26622 2 @jkt (oI 425982 3 @jku (oI 851966 4 @jkv (oI 1703934 5 @jkw (oI 6815742 6 @jkx oN))))))) ([],[]) [(0,[0,1],[])] ([],[]) λ_ _ _ _ _=>by delta j5K j1J j0w j23 j0M j8s j12 j1o j2k j3M j6q;refine gz j4t λ_ b=>gz j06 λ_ d=>gz j4u λ_ f=>gz j1x λ_ g=>gz j4v λ_ h=>gz j4w λ_ i=>gz j4x λ_ j=>gz j4y λ_ k=>gz j4z λ_ l=> ?_;rewrite [<-b,<-d,<-f,<-g,<-h,<-i,<-j,<-k,<-l];kernel_rfl
def j5h (a:List qP) (g:Int) (f:Int->(List qP)->Res):Res:=jf0 Z1c a g 0 λd b=>f b d
def jbH:Sig Unit:=sg [.inout y20 false,.borrow tI false] [false] [(y20,some [.O]),(tI,none)] [] λb g k=>j5h b.1 b.2.1 (λf d=>k [wI f] [w1 y20 d .O] [])
theorem jm3:SO 45 jbH:=fK (np:=1) j15 [j0w,j0M,j12,j1o,j2k,j3M,j6q,je5] (oI 26 7 @jkq oN) false Tryz.func45 λ_ _ _ _=>by kernel_rfl
theorem jfE:FS [(110,j23),(118,jbF),(145,jbE),(146,j8X)]:=(Za6 j0c (Za6 jm2 (Za6 jm0 (Za6 jjb Zas))))
def j1G (a:List qP) (d:Int) (i:Int) (rec:Int->Int->Res) (k:Int->Res) (b:Unit->Res):Res:=bif decide (i<(nI (List.length a))) then bif inb i (List.length a) then bif ((nth (0,0,0,eS,[],[],0,eS,[],[],eS,eS) a i).1 != d) then b () else bif inb i (List.length a) then bif ((nth (0,0,0,eS,[],[],0,eS,[],[],eS,eS) a i).2.1 != (Z9K (d+1))) then b () else bif inb i (List.length a) then bif ((nth (0,0,0,eS,[],[],0,eS,[],[],eS,eS) a i).2.2.1 != (Z9K ((Z9K (d+1))+1))) then b () else bif inb i (List.length a) then j06 (Z9K ((Z9K ((Z9K (d+1))+1))+1)) λr=>bif sNe (nth (0,0,0,eS,[],[],0,eS,[],[],eS,eS) a i).2.2.2.1 r then b () else bif inb i (List.length a) then j5f (nth (0,0,0,eS,[],[],0,eS,[],[],eS,eS) a i).2.2.2.2.1 (Z9K ((Z9K ((Z9K ((Z9K (d+1))+1))+1))+1)) λh=>bif decide (h<0) then b () else bif inb i (List.length a) then j5f (nth (0,0,0,eS,[],[],0,eS,[],[],eS,eS) a i).2.2.2.2.2.1 h λf=>bif decide (f<0) then b () else bif inb i (List.length a) then bif ((nth (0,0,0,eS,[],[],0,eS,[],[],eS,eS) a i).2.2.2.2.2.2.1 != f) then b () else bif inb i (List.length a) then j06 (Z9K (f+1)) λl=>bif sNe (nth (0,0,0,eS,[],[],0,eS,[],[],eS,eS) a i).2.2.2.2.2.2.2.1 l then b () else bif inb i (List.length a) then j7Q (nth (0,0,0,eS,[],[],0,eS,[],[],eS,eS) a i).2.2.2.2.2.2.2.2.1 (Z9K ((Z9K (f+1))+1)) λj=>bif decide (j<0) then b () else bif inb i (List.length a) then j4p (nth (0,0,0,eS,[],[],0,eS,[],[],eS,eS) a i).2.2.2.2.2.2.2.2.2.1 j λg=>bif decide (g<0) then b () else bif inb i (List.length a) then j06 g λm=>bif sNe (nth (0,0,0,eS,[],[],0,eS,[],[],eS,eS) a i).2.2.2.2.2.2.2.2.2.2.1 m then b () else bif inb i (List.length a) then j06 (Z9K (g+1)) λn=>bif sNe (nth (0,0,0,eS,[],[],0,eS,[],[],eS,eS) a i).2.2.2.2.2.2.2.2.2.2.2 n then b () else rec (Z9K ((Z9K (g+1))+1)) (Z9K (i+1)) else none else none else none else none else none else none else none else none else none else none else none else none else k d
def j5I (a:List qP):(Int×Int)->(Int×Int->Res)->((Int->Res)×(Unit->Res))->Res:=λv rec q=>j1G a v.1 v.2 (λb i=>rec (b,i)) q.1 q.2
def jeX (a:List qP) (n:Nat) (f:Int) (i:Int) (b:Int->Res) (d:Unit->Res):Res:=Z1f (j5I a) n (f,i) (b,d)
def je2:Z1d Unit:=NdL 142 142 [.R 0 y20 .S,.I 1,.I 5] [] (λb f=>(b.2.1,b.2.2.1)) (λb v=>(b.1,v.1,v.2,())) (λf v=>()) (λb f=>j5I b.1) λb f g=>((λd=>g (.exit 0) [(1,vI d)] []),(λ_=>g .ret [(4,vI (-1))] []))
theorem jkk:CN 0 26 Tryz.f81 je2:=lK jfE [] oN ([],[]) [(0,[1],[])] ([4],[]) λ_ _ _ _ _=>by delta j5I j1G j23 jbF jbE j8X;refine gz j06 λ_ b=>gz j5f λ_ d=>gz j7Q λ_ f=>gz j4p λ_ g=> ?_;rewrite [<-b,<-d,<-f,<-g];kernel_rfl
def j3i (a:List qP) (f:Int) (d:Int->Res):Res:=jeX a Z1c f 0 (λb=>d b) (λ_=>d (-1))
def j8r:Sig Unit:=sg [.look y20 false,.look tI false] [false] [(y20,none),(tI,none)] [] λb f k=>j3i b.1 b.2.1 (λd=>k [wI d] [] [])
theorem jm1:SO 81 j8r:=fK (np:=0) jfE [je2] (oI 26 0 @jkk oN) false Tryz.func81 λ_ _ _ _=>by kernel_rfl
end
end Go.PI.G
namespace Go.PI.G
noncomputable section
open Go Go.PI Go.Proofs
open Go.Code (pl pr)
theorem j53:Fns Tryz.prog [(26,jdG),(28,j7V),(30,j7U),(45,jbH),(75,jff),(76,jfj),(77,j8Z),(78,jbA),(79,jfd),(80,jcM),(81,j8r)]:=(Za6 joO (Za6 joR (Za6 joL (Za6 jm3 (Za6 jeA (Za6 jpS (Za6 jeC (Za6 jpE (Za6 jey (Za6 jnk (Za6 jm1 Zas)))))))))))
def j1Y (f:List qP) (p:List qP) (w1:Int) (h:List qP) (m:Int) (i:Int) (g:Int×Int×qS) (b:Bool->Res):Res:=bif (i != m) then b false else j1V f λr=>j21 g λj=>j5y r j λk l=>j1U k p λn=>bif !n then b false else bif (l != w1) then b false else j3i h 1 λd=>bif decide (d<0) then b false else bif (d != m) then b false else b true
def j1Q:Z1d Unit:=λσ k=>rdN σ 119<|rd1 σ 0 y20 .S λb=>rdT σ 3 (pB 3)<|rd1 σ 6 y20 .O λi=>rdI σ 7 λw1=>rd1 σ 10 y20 .O λf=>rdI σ 13 λm=>rdI σ 14 λg=>rdB σ 3 y19 [.S,.S,.S,.S] λa d=>j1Y b i w1 f m g d (λh=>k .ret (mkS 119 119 [(4,vB h)] []))
theorem jhm:CN 0 8388607 Tryz.f14 j1Q:=λi=>jk7 follows j1m j53 i [] oN ([],[]) [] ([4],[]) λσ k _ h=>rN h λA h=>rV h λB r h=>rT h λw h=>rV h λF y h=>rV h λw1 z h=>rV h λD b h=>rV h λm d h=>rV h λE f h=>rB h λa C g h=>⟨_,ZaM (m:=119) A (sC r (sC w (sC y (sC z (sC b (sC d (sC f sN))))))) (bC g bN),.trans (by delta j1Y j7V j8Z jbA j7U j8r;refine gz j1V λ_ j=>gz j21 λ_ l=>gz j5y λ_ n=>gz j1U λ_ p=>gz j3i λ_ q=> ?_;rewrite [<-j,<-l,<-n,<-p,<-q];kernel_rfl) h⟩
def j1Z (i:List qP) (h:List qP) (w1:Int) (p:List qP) (f:List qP) (k:Int) (j:Int×Int×qS) (q:Int×Int×qS) (b:Bool->Res):Res:=j5h p 1 λr w=>j8R q r λl y=>bif decide (l<0) then b false else j1U f h λm=>bif !m then b false else bif (k != w1) then b false else j5h f 1 λn d=>j3i d 1 λg=>bif decide (g<0) then b false else j1Y i h w1 d n g j λt=>b t
def j3f:Z1d Unit:=λσ k=>rdN σ 119<|rd1 σ 0 y20 .S λb=>rdT σ 3 (pB 3)<|rd1 σ 6 y20 .O λi=>rdI σ 7 λw1=>rd1 σ 8 y20 .O λj=>rdT σ 9 (pB 9)<|rd1 σ 10 y20 .O λf=>rdI σ 11 λg=>rdB σ 3 y19 [.S,.S,.S,.S] λa d=>rdB σ 9 y19 [.O,.O,.O,.O] λm l=>j1Z b i w1 j f g d l (λh=>k .ret (mkS 119 119 [(4,vB h)] []))
theorem jhn:CN 0 16383 Tryz.f14 j3f:=λi=>jk7 follows j1m j53 i [j1Q] (oI 1023 0 @jhm oN) ([],[]) [] ([4],[]) λσ k _ h=>rN h λC h=>rV h λE r h=>rT h λw h=>rV h λI y h=>rV h λw1 z h=>rV h λJ A h=>rT h λB h=>rV h λG b h=>rV h λH d h=>rB h λa F f h=>rB h λD K g h=>⟨_,ZaM (m:=119) C (sC r (sC w (sC y (sC z (sC A (sC B (sC b (sC d sN)))))))) (bC f (bC g bN)),.trans (by delta j1Z jbH jcM j7U j8r j1Q;refine gz j5h λ_ j=>gz j8R λ_ l=>gz j1U λ_ n=>gz j3i λ_ p=>gz j1Y λ_ q=> ?_;rewrite [<-j,<-l,<-n,<-p,<-q];kernel_rfl) h⟩
def j20 (g:List qP) (j:List qP) (w1:Int) (d:List qP) (h:Int×Int×qS) (f:Int×Int×qS) (b:Bool->Res):Res:=j5y d f λr i=>j1U r j λk=>bif !k then b false else bif (i != w1) then b false else j1V g λl=>j1U d l λm=>bif !m then b false else j21 h λn=>j9u f n λp=>bif !p then b false else j1Z g j w1 d r i h f λt=>b t
def j7d:Z1d Unit:=λσ k=>rdN σ 119<|rd1 σ 0 y20 .S λb=>rdT σ 3 (pB 3)<|rd1 σ 6 y20 .O λg=>rdI σ 7 λw1=>rd1 σ 8 y20 .O λh=>rdT σ 9 (pB 9)<|rdB σ 3 y19 [.S,.S,.S,.S] λa d=>rdB σ 9 y19 [.O,.O,.O,.O] λj i=>j20 b g w1 h d i (λf=>k .ret (mkS 119 119 [(4,vB f)] []))
theorem jho:CN 0 1023 Tryz.f14 j7d:=λf=>jk7 follows j1m j53 f [j1Q,j3f] (oI 31 1 @jhn oN) ([],[]) [] ([4],[]) λσ k _ h=>rN h λB h=>rV h λD q h=>rT h λr h=>rV h λF w h=>rV h λw1 y h=>rV h λG z h=>rT h λA h=>rB h λa E b h=>rB h λC H d h=>⟨_,ZaM (m:=119) B (sC q (sC r (sC w (sC y (sC z (sC A sN)))))) (bC b (bC d bN)),.trans (by delta j20 jbA j7U j7V j8Z jfd j3f;refine gz j5y λ_ g=>gz j1U λ_ i=>gz j1V λ_ j=>gz j21 λ_ l=>gz j9u λ_ n=>gz j1Z λ_ p=> ?_;rewrite [<-g,<-i,<-j,<-l,<-n,<-p];kernel_rfl) h⟩
def j3x (b:List qP) (d:Int×Int×qS) (f:Bool->Res):Res:=jaa b 1048576 λr=>bif decide (r<0) then f true else j9w d r λg=>bif decide (g<0) then f true else j1V b λh=>j21 d λi=>j9C h i λj k=>j1V b λl=>j21 d λm=>j20 b j k l d m λt=>f t
def j2v:Sig Unit:=⟨[.borrow y20 false,.borrow y19 true],[false],λvals ext k=>av vals y20 λb vals=>av vals y19 λd vals=>nl vals<|nl ext<|j3x b d (λf=>k [wB f] [] [])⟩
theorem jiU:Z17 Tryz.prog 14 j2v:=jtZ (np:=0) follows j1m j53 [j1Q,j3f,j7d] (oI 1023 2 @jho oN) false Tryz.func14 λ_ _ k _ h=>aV h λ_ _ _ _ _ h=>aV h λ_ _ _ _ _ h=>nL h λ_ h=>nL h λ_ h=>by subst_vars;exact .trans (by delta j3x jdG jff j7V j8Z jfj j7d;refine gz jaa λ_ b=>gz j9w λ_ d=>gz j1V λ_ f=>gz j21 λ_ g=>gz j9C λ_ i=>gz j20 λ_ j=> ?_;rewrite [<-b,<-d,<-f,<-g,<-i,<-j];kernel_rfl) h
end
end Go.PI.G
namespace Go.PI.G
open Go Go.PI
abbrev V:=Int×Int×ByteArray
theorem jdf (s:ByteArray):(Z1n s).length=s.size:=by unfold Z1n;simp
theorem j0e (a b:ByteArray):sEq a b=true↔a=b:=by
 unfold sEq
 rw [beq_iff_eq]
 constructor
 ·intro h
  rw [ByteArray.ext_iff]
  have d:a.toList=a.data.toList:=by rw [ByteArray.toList_eq]
  have f:b.toList=b.data.toList:=by rw [ByteArray.toList_eq]
  rw [d,f] at h
  exact Array.toList_inj.1 h
 ·rintro rfl;rfl
def jqu (n:Int):Bool:=decide (-1099511627775<=n/\n<=1099511627775)
def j0u (v:V):Bool:=
 bif v.1==0 then (v.2.1==0)&&sEq v.2.2 eS
 else bif v.1==1 then ((v.2.1==0)||(v.2.1==1))&&sEq v.2.2 eS
 else bif v.1==2 then jqu v.2.1&&sEq v.2.2 eS
 else bif v.1==3 then (v.2.1==0)&&decide (nI v.2.2.size<=30)
 else false
theorem jsN (x:Int):decide (0<=x/\x<=1)=((x==0)||(x==1)):=by
 by_cases h:0<=x/\x<=1
 ·rw [decide_eq_true h]
  have:x=0\/x=1:=by omega
  rcases this with rfl | rfl<;>rfl
 ·rw [decide_eq_false h]
  have b:(x==0)=false:=by simp;omega
  have d:(x==1)=false:=by simp;omega
  rw [b,d];rfl
theorem jig {v:V} (h:j0u v=true):v=(0,0,eS)\/(∃ n,(n=0\/n=1)/\v=(1,n,eS))\/(∃ n,(-1099511627775<=n/\n<=1099511627775)/\v=(2,n,eS))\/∃ s:ByteArray,s.size<=30/\v=(3,0,s):=by
 obtain ⟨t,n,s⟩:=v
 unfold j0u at h
 simp only at h
 cases d:t==0
 ·cases f:t==1
  ·cases g:t==2
   ·cases i:t==3
    ·rw [d,f,g,i] at h;cases h
    ·rw [d,f,g,i] at h
     simp only [cond_false,cond_true,Bool.and_eq_true,beq_iff_eq,decide_eq_true_eq] at h i
     obtain ⟨rfl,h⟩:=h
     subst i
     exact .inr (.inr (.inr ⟨s,by unfold nI at h;omega,rfl⟩))
   ·rw [d,f,g] at h
    simp only [cond_false,cond_true,Bool.and_eq_true,beq_iff_eq] at h g
    obtain ⟨h,b⟩:=h
    rw [j0e] at b
    subst b;subst g
    exact .inr (.inr (.inl ⟨n,of_decide_eq_true h,rfl⟩))
  ·rw [d,f] at h
   simp only [cond_false,cond_true,Bool.and_eq_true,Bool.or_eq_true,beq_iff_eq] at h f
   obtain ⟨h,b⟩:=h
   rw [j0e] at b
   subst b;subst f
   exact .inr (.inl ⟨n,h,rfl⟩)
 ·rw [d] at h
  simp only [cond_true,Bool.and_eq_true,beq_iff_eq] at h d
  obtain ⟨h,b⟩:=h
  rw [j0e] at b
  subst b;subst d;subst h
  exact .inl rfl
theorem jt0 {v:V} (h:j0u v=true):v.2.2.size<=30:=by
 rcases jig h with rfl | ⟨n,_,rfl⟩ | ⟨n,_,rfl⟩ | ⟨s,b,rfl⟩
 ·show (0:Nat)<=30;omega
 ·show (0:Nat)<=30;omega
 ·show (0:Nat)<=30;omega
 ·exact b
def be (n:Nat):Nat->List Int
 | 0=>[]
 | s+1=>((n / 256 ^ s % 256:Nat):Int)::be n s
theorem jsl (n:Nat):(s:Nat)->(be n s).length=s
 | 0=>rfl
 | s+1=>by simp [be,jsl n s]
noncomputable def wB (v:V):List Int:=
 bif v.1==1 then [1,v.2.1]
 else bif v.1==2 then 2::(bif decide (v.2.1<0) then 1 else 0)::be v.2.1.natAbs 6
 else bif v.1==3 then 3::nI v.2.2.size::Z1n v.2.2
 else [0]
theorem juv {v:V} (h:j0u v=true):(wB v).length<=32:=by
 rcases jig h with rfl | ⟨n,_,rfl⟩ | ⟨n,_,rfl⟩ | ⟨s,b,rfl⟩
 ·show (1:Nat)<=32;omega
 ·show (2:Nat)<=32;omega
 ·show (2::(bif decide (n<0) then 1 else 0)::be n.natAbs 6).length<=32
  simp [jsl]
 ·show (3::nI s.size::Z1n s).length<=32
  simp [jdf];omega
theorem jcu:(l:List V)->(∀ v∈l,j0u v=true)->(l.flatMap wB).length<=32 * l.length
 | [],_=>by simp
 | v::l,h=>by
  have d:=juv (h v (by simp))
  have f:=jcu l λv b=>h v (List.mem_cons_of_mem _ b)
  simp only [List.flatMap_cons,List.length_append,List.length_cons]
  omega
end Go.PI.G
set_option linter.unusedSimpArgs false
namespace Go.PI.G
open Go Go.PI Go.Proofs
theorem j7k (x b d:Int) (k:Bool->Res):j0k x b d k=k (decide (b<=x/\x<=d)):=by
 unfold j0k
 by_cases h:x>=b
 ·rw [decide_eq_true h,cond_true]
  congr 1
  exact decide_eq_decide.2 (by omega)
 ·rw [decide_eq_false h,cond_false]
  congr 1
  exact (decide_eq_false (by omega)).symm
end Go.PI.G
namespace Go.PI.G
open Go Go.PI Go.Proofs
theorem jsG (n:Int) (k:Bool->Res):jgN n k=k (jqu n):=j7k n _ _ k
theorem j9A (v:V) (k:Bool->Res):j1A v k=k (j0u v):=by
 unfold j1A j0u
 cases v.1==0
 ·cases v.1==1
  ·cases v.1==2
   ·cases v.1==3
    ·rfl
    ·cases v.2.1==0<;>rfl
   ·rw [cond_false,cond_false,cond_true,jsG]
    cases jqu v.2.1<;>rfl
  ·cases v.2.1==0
   ·cases v.2.1==1<;>rfl
   ·rfl
 ·cases v.2.1==0<;>rfl
theorem j9m (v:V) (k:Bool->Res):j1j v k=k (j0u v):=by
 unfold j1j j0u
 simp only [j7k,jsN]
 cases v.1==0
 ·cases v.1==1
  ·cases v.1==2
   ·cases v.1==3
    ·rfl
    ·cases v.2.1==0<;>rfl
   ·rw [cond_false,cond_false,cond_true,cond_false,cond_false,cond_true]
    show (bif jqu v.2.1 then _ else _)=_
    cases jqu v.2.1<;>rfl
  ·cases v.2.1==0
   ·cases v.2.1==1<;>rfl
   ·rfl
 ·cases v.2.1==0<;>rfl
end Go.PI.G
