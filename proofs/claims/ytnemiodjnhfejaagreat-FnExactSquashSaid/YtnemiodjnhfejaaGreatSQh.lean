/-
  Program's code interpreted over typed values; printed texts; plain laws. No conditions.
-/
import Derived.Test.YtnemiodjnhfejaaGreatSQc
import Derived.Test.YtnemiodjnhfejaaGreatSQg
set_option linter.unusedVariables false
set_option maxRecDepth 100000
namespace Go.PI.G
noncomputable section
open Go Go.PI Go.Proofs
open Go.Code (pl pr)
def j4E (a:List qC) (left:Int) (i:Int) (rec:Int->Int->Res) (b:Int->Res) (d:Unit->Res):Res:=bif decide (i<(nI (List.length a))) then bif inb i (List.length a) then jdX (nth (eS,0,false,false,0,0,eS) a i) left λr=>bif decide (r<0) then d () else rec r (Z9K (i+1)) else none else b left
def jeG (a:List qC):(Int×Int)->(Int×Int->Res)->((Int->Res)×(Unit->Res))->Res:=λv rec q=>j4E a v.1 v.2 (λleft i=>rec (left,i)) q.1 q.2
def jca (a:List qC) (n:Nat) (left:Int) (i:Int) (b:Int->Res) (d:Unit->Res):Res:=Z1f (jeG a) n (left,i) (b,d)
def jfI:Z1d Unit:=NdL 27 27 [.R 0 y8 .S,.I 1,.I 5] [] (λd f=>(d.2.1,d.2.2.1)) (λd v=>(d.1,v.1,v.2,())) (λf v=>()) (λd f=>jeG d.1) λd f g=>((λb=>g (.exit 0) [(1,vI b)] []),(λ_=>g .ret [(4,vI (-1))] []))
theorem jlD:CN 0 122 Tryz.f241 jfI:=lK (Za6 jii Zas) [] oN ([],[]) [(0,[1],[])] ([4],[]) λ_ _ _ _ _=>by kernel_rfl
def j63 (a:List qC) (left:Int) (d:Int->Res):Res:=bif decide ((Z9K (left-(nI (List.length a))))<0) then d (-1) else jca a Z1c (Z9K (left-(nI (List.length a)))) 0 (λb=>d b) (λ_=>d (-1))
def jdh:Sig Unit:=sg [.look y8 false,.look tI false] [false] [(y8,none),(tI,none)] [] λb f k=>j63 b.1 b.2.1 (λd=>k [wI d] [] [])
theorem jhG:SO 241 jdh:=fK (np:=0) (Za6 jii Zas) [jfI] (oI 122 0 @jlD oN) false Tryz.func241 λ_ _ _ _=>by kernel_rfl
def j4H (a:List qC) (b:List qC) (i:Int) (rec:qE->Int->Res) (d:qE->Res):Res:=bif decide (i<(nI (List.length a))) then bif inb i (List.length a) then jdY (nth (eS,0,false,false,0,0,eS) a i) λr=>bif inb i (List.length b) then rec (upd b i r) (Z9K (i+1)) else none else none else d b
def jal (a:List qC):(qE×Int)->(qE×Int->Res)->((qE->Res))->Res:=λv rec q=>j4H a v.1 v.2 (λb i=>rec (b,i)) q
def jmt (a:List qC) (n:Nat) (b:List qC) (i:Int) (d:qE->Res):Res:=Z1f (jal a) n (b,i) (d)
def jfL:Z1d Unit:=NdL 23 23 [.R 0 y8 .S,.R 3 y8 .O,.I 4] [] (λb f=>(b.2.1,b.2.2.1)) (λb v=>(b.1,v.1,v.2,())) (λf v=>()) (λb f=>jal b.1) λb f g=>((λd=>g (.exit 0) [(3,v1 y8 d .O)] []))
theorem jlG:CN 0 58 Tryz.f249 jfL:=lK (Za6 jij Zas) [] oN ([],[]) [(0,[3],[])] ([],[]) λ_ _ _ _ _=>by kernel_rfl
def j64 (a:List qC) (d:qE->Res):Res:=bif Z9I (nI (List.length a)) (nI (List.length a)) then jmt a Z1c (Z9h (nI (List.length a)) (eS,0,false,false,0,0,eS)) 0 λb=>d b else none
def jdi:Sig Unit:=sg [.borrow y8 false] [false] [(y8,none)] [] λd f k=>j64 d.1 (λb=>k [w1 y8 b .O] [] [])
theorem jhK:SO 249 jdi:=fK (np:=0) (Za6 jij Zas) [jfL] (oI 58 0 @jlG oN) false Tryz.func249 λ_ _ _ _=>by kernel_rfl
def j4x (a:List qC) (b:List qC) (i:Int) (rec:Int->Res) (d:Unit->Res) (f:Unit->Res):Res:=bif decide (i<(nI (List.length a))) then bif inb i (List.length a) then bif inb i (List.length b) then jdW (nth (eS,0,false,false,0,0,eS) a i) (nth (eS,0,false,false,0,0,eS) b i) λr=>bif !r then f () else rec (Z9K (i+1)) else none else none else d ()
def jew (a:List qC) (b:List qC):Int->(Int->Res)->((Unit->Res)×(Unit->Res))->Res:=λv rec q=>j4x a b v (λi=>rec (i)) q.1 q.2
def jgB (a:List qC) (b:List qC) (n:Nat) (i:Int) (d:Unit->Res) (f:Unit->Res):Res:=Z1f (jew a b) n (i) (d,f)
def jfF:Z1d Unit:=NdL 27 27 [.R 0 y8 .S,.R 1 y8 .S,.I 5] [] (λb d=>(b.2.2.1)) (λb v=>(b.1,b.2.1,v,())) (λd v=>()) (λb d=>jew b.1 b.2.1) λb d f=>((λ_=>f (.exit 0) [] []),(λ_=>f .ret [(4,vB false)] []))
theorem jlA:CN 0 58 Tryz.f258 jfF:=lK (Za6 jig Zas) [] oN ([],[]) [(0,[],[])] ([4],[]) λ_ _ _ _ _=>by kernel_rfl
def j62 (a:List qC) (b:List qC) (d:Bool->Res):Res:=bif ((nI (List.length a)) != (nI (List.length b))) then d false else jgB a b Z1c 0 (λ_=>d true) (λ_=>d false)
def jdf:Sig Unit:=sg [.look y8 false,.look y8 false] [false] [(y8,none),(y8,none)] [] λb f k=>j62 b.1 b.2.1 (λd=>k [wB d] [] [])
theorem jhC:SO 258 jdf:=fK (np:=0) (Za6 jig Zas) [jfF] (oI 58 0 @jlA oN) false Tryz.func258 λ_ _ _ _=>by kernel_rfl
def j4B (a:List qC) (d:Int) (i:Int) (b:qE->Res):Res:=bif inb i (List.length a) then b (upd a i ((nth (eS,0,false,false,0,0,eS) a i).1,(nth (eS,0,false,false,0,0,eS) a i).2.1,((Int.tmod d 3)==0),(nth (eS,0,false,false,0,0,eS) a i).2.2.2)) else none
def j2i:Z1d Unit:=Nd 71 71 [.R 0 y8 .O,.I 1,.I 5] [] λb g f=>j4B b.1 b.2.1 b.2.2.1 (λd=>f .normal [(0,v1 y8 d .O),(1,vI b.2.1),(5,vI b.2.2.1)] [])
theorem jjy:CN 1 13470 Tryz.f111 j2i:=nK (Za6 j0b Zas) [] oN ([0,1,5],[]) [] ([],[]) λ_ _ _=>by kernel_rfl
def j4C (a:List qC) (d:Int) (i:Int) (b:qE->Res):Res:=bif inb i (List.length a) then b (upd a i ((nth (eS,0,false,false,0,0,eS) a i).1,(nth (eS,0,false,false,0,0,eS) a i).2.1,(nth (eS,0,false,false,0,0,eS) a i).2.2.1,(nth (eS,0,false,false,0,0,eS) a i).2.2.2.1,d,(nth (eS,0,false,false,0,0,eS) a i).2.2.2.2.2)) else none
def j45:Z1d Unit:=Nd 71 71 [.R 0 y8 .O,.I 1,.I 5] [] λb g f=>j4C b.1 b.2.1 b.2.2.1 (λd=>f .normal [(0,v1 y8 d .O),(1,vI b.2.1),(5,vI b.2.2.1)] [])
theorem jjz:CN 1 215550 Tryz.f111 j45:=nK (Za6 j0b Zas) [j2i] oN ([0,1,5],[]) [] ([],[]) λ_ _ _=>by kernel_rfl
def j4D (a:List qC) (d:Int) (i:Int) (b:qE->Res):Res:=j09 d λr=>bif inb i (List.length a) then b (upd a i ((nth (eS,0,false,false,0,0,eS) a i).1,(nth (eS,0,false,false,0,0,eS) a i).2.1,(nth (eS,0,false,false,0,0,eS) a i).2.2.1,(nth (eS,0,false,false,0,0,eS) a i).2.2.2.1,(nth (eS,0,false,false,0,0,eS) a i).2.2.2.2.1,(nth (eS,0,false,false,0,0,eS) a i).2.2.2.2.2.1,r)) else none
def j6q:Z1d Unit:=Nd 71 71 [.R 0 y8 .O,.I 1,.I 5] [] λb g f=>j4D b.1 b.2.1 b.2.2.1 (λd=>f .normal [(0,v1 y8 d .O),(1,vI b.2.1),(5,vI b.2.2.1)] [])
theorem jjA:CN 1 3448830 Tryz.f111 j6q:=nK (Za6 j0b Zas) [j2i,j45] oN ([0,1,5],[]) [] ([],[]) λ_ _ _=>by kernel_rfl
def j1T (a:List qC) (b:Int) (i:Int) (rec:qE->Int->Int->Res) (h:qE->Int->Res):Res:=bif decide (i<(nI (List.length a))) then j09 b λr=>bif inb i (List.length a) then bif inb i (List.length (upd a i (r,(nth (eS,0,false,false,0,0,eS) a i).2))) then j4B (upd (upd a i (r,(nth (eS,0,false,false,0,0,eS) a i).2)) i ((nth (eS,0,false,false,0,0,eS) (upd a i (r,(nth (eS,0,false,false,0,0,eS) a i).2)) i).1,Z9K (b+1),(nth (eS,0,false,false,0,0,eS) (upd a i (r,(nth (eS,0,false,false,0,0,eS) a i).2)) i).2.2)) (Z9K ((Z9K (b+1))+1)) i λf=>bif inb i (List.length f) then j4C (upd f i ((nth (eS,0,false,false,0,0,eS) f i).1,(nth (eS,0,false,false,0,0,eS) f i).2.1,(nth (eS,0,false,false,0,0,eS) f i).2.2.1,((Int.tmod (Z9K ((Z9K ((Z9K (b+1))+1))+1)) 3)==0),(nth (eS,0,false,false,0,0,eS) f i).2.2.2.2)) (Z9K ((Z9K ((Z9K ((Z9K (b+1))+1))+1))+1)) i λd=>bif inb i (List.length d) then j4D (upd d i ((nth (eS,0,false,false,0,0,eS) d i).1,(nth (eS,0,false,false,0,0,eS) d i).2.1,(nth (eS,0,false,false,0,0,eS) d i).2.2.1,(nth (eS,0,false,false,0,0,eS) d i).2.2.2.1,(nth (eS,0,false,false,0,0,eS) d i).2.2.2.2.1,Z9K ((Z9K ((Z9K ((Z9K ((Z9K (b+1))+1))+1))+1))+1),(nth (eS,0,false,false,0,0,eS) d i).2.2.2.2.2.2)) (Z9K ((Z9K ((Z9K ((Z9K ((Z9K ((Z9K (b+1))+1))+1))+1))+1))+1)) i λg=>rec g (Z9K ((Z9K ((Z9K ((Z9K ((Z9K ((Z9K ((Z9K (b+1))+1))+1))+1))+1))+1))+1)) (Z9K (i+1)) else none else none else none else none else h a b
def j5H:(qE×Int×Int)->(qE×Int×Int->Res)->((qE->Int->Res))->Res:=λv rec q=>j1T v.1 v.2.1 v.2.2 (λa b i=>rec (a,b,i)) q
def jeC (n:Nat) (a:List qC) (d:Int) (i:Int) (b:qE->Int->Res):Res:=Z1f (j5H) n (a,d,i) (b)
def jdN:Z1d Unit:=NdL 71 71 [.R 0 y8 .O,.I 1,.I 5] [] (λb f=>(b.1,b.2.1,b.2.2.1)) (λb v=>(v.1,v.2.1,v.2.2,())) (λf v=>()) (λb f=>j5H) λb f h=>((λg d=>h (.exit 0) [(0,v1 y8 g .O),(1,vI d)] []))
theorem jjx:CN 1 26 Tryz.f111 jdN:=lK (Za6 j0b Zas) [j2i,j45,j6q] (oI 414 0 @jjy (oI 6654 1 @jjz (oI 106494 2 @jjA oN))) ([],[]) [(0,[0,1],[])] ([],[]) λ_ _ _ _ _=>by delta j5H j1T j14 j2i j45 j6q;refine gz j09 λ_ b=>gz j4B λ_ d=>gz j4C λ_ f=>gz j4D λ_ g=> ?_;rewrite [<-b,<-d,<-f,<-g];kernel_rfl
def j5n (a:List qC) (g:Int) (f:Int->qE->Res):Res:=jeC Z1c a g 0 λd b=>f b d
def j8c:Sig Unit:=sg [.inout y8 false,.borrow tI false] [false] [(y8,some [.O]),(tI,none)] [] λb g k=>j5n b.1 b.2.1 (λf d=>k [wI f] [w1 y8 d .O] [])
theorem jfe:SO 111 j8c:=fK (np:=1) (Za6 j0b Zas) [j2i,j45,j6q,jdN] (oI 26 3 @jjx oN) false Tryz.func111 λ_ _ _ _=>by kernel_rfl
def j1R (a:List qC) (b:Int) (i:Int) (rec:Int->Int->Res) (f:Int->Res) (d:Unit->Res):Res:=bif decide (i<(nI (List.length a))) then bif inb i (List.length a) then j09 b λr=>bif sNe (nth (eS,0,false,false,0,0,eS) a i).1 r then d () else bif inb i (List.length a) then bif ((nth (eS,0,false,false,0,0,eS) a i).2.1 != (Z9K (b+1))) then d () else bif inb i (List.length a) then bif !((nth (eS,0,false,false,0,0,eS) a i).2.2.1==((Int.tmod (Z9K ((Z9K (b+1))+1)) 3)==0)) then d () else bif inb i (List.length a) then bif !((nth (eS,0,false,false,0,0,eS) a i).2.2.2.1==((Int.tmod (Z9K ((Z9K ((Z9K (b+1))+1))+1)) 3)==0)) then d () else bif inb i (List.length a) then bif ((nth (eS,0,false,false,0,0,eS) a i).2.2.2.2.1 != (Z9K ((Z9K ((Z9K ((Z9K (b+1))+1))+1))+1))) then d () else bif inb i (List.length a) then bif ((nth (eS,0,false,false,0,0,eS) a i).2.2.2.2.2.1 != (Z9K ((Z9K ((Z9K ((Z9K ((Z9K (b+1))+1))+1))+1))+1))) then d () else bif inb i (List.length a) then j09 (Z9K ((Z9K ((Z9K ((Z9K ((Z9K ((Z9K (b+1))+1))+1))+1))+1))+1)) λg=>bif sNe (nth (eS,0,false,false,0,0,eS) a i).2.2.2.2.2.2 g then d () else rec (Z9K ((Z9K ((Z9K ((Z9K ((Z9K ((Z9K ((Z9K (b+1))+1))+1))+1))+1))+1))+1)) (Z9K (i+1)) else none else none else none else none else none else none else none else f b
def j5G (a:List qC):(Int×Int)->(Int×Int->Res)->((Int->Res)×(Unit->Res))->Res:=λv rec q=>j1R a v.1 v.2 (λb i=>rec (b,i)) q.1 q.2
def jeA (a:List qC) (n:Nat) (f:Int) (i:Int) (b:Int->Res) (d:Unit->Res):Res:=Z1f (j5G a) n (f,i) (b,d)
def jdL:Z1d Unit:=NdL 85 85 [.R 0 y8 .S,.I 1,.I 5] [] (λb f=>(b.2.1,b.2.2.1)) (λb v=>(b.1,v.1,v.2,())) (λf v=>()) (λb f=>j5G b.1) λb f g=>((λd=>g (.exit 0) [(1,vI d)] []),(λ_=>g .ret [(4,vI (-1))] []))
theorem jjv:CN 0 26 Tryz.f145 jdL:=lK (Za6 j0b Zas) [] oN ([],[]) [(0,[1],[])] ([4],[]) λ_ _ _ _ _=>by delta j5G j1R j14;refine gz j09 λ_ b=> ?_;rewrite [<-b];kernel_rfl
def j7F (a:List qC) (f:Int) (d:Int->Res):Res:=jeA a Z1c f 0 (λb=>d b) (λ_=>d (-1))
def jbm:Sig Unit:=sg [.look y8 false,.look tI false] [false] [(y8,none),(tI,none)] [] λb f k=>j7F b.1 b.2.1 (λd=>k [wI d] [] [])
theorem jla:SO 145 jbm:=fK (np:=0) (Za6 j0b Zas) [jdL] (oI 26 0 @jjv oN) false Tryz.func145 λ_ _ _ _=>by kernel_rfl
end
end Go.PI.G
namespace Go.PI.G
noncomputable section
open Go Go.PI Go.Proofs
open Go.Code (pl pr)
def j2s (a:qL) (left:Int) (i:Int) (rec:Int->Int->Res) (b:Int->Res) (d:Unit->Res):Res:=bif decide (i<(nI (List.length a))) then bif inb i (List.length a) then bif decide ((Z9K (left-(nI (ByteArray.size (nth eS a i)))))<0) then d () else rec (Z9K (left-(nI (ByteArray.size (nth eS a i))))) (Z9K (i+1)) else none else b left
def jbU (a:qL):(Int×Int)->(Int×Int->Res)->((Int->Res)×(Unit->Res))->Res:=λv rec q=>j2s a v.1 v.2 (λleft i=>rec (left,i)) q.1 q.2
def j9B (a:qL) (n:Nat) (left:Int) (i:Int) (b:Int->Res) (d:Unit->Res):Res:=Z1f (jbU a) n (left,i) (b,d)
def jd2:Z1d Unit:=NdL 28 28 [.R 0 y0 .S,.I 1,.I 5] [] (λd f=>(d.2.1,d.2.2.1)) (λd v=>(d.1,v.1,v.2,())) (λf v=>()) (λd f=>jbU d.1) λd f g=>((λb=>g (.exit 0) [(1,vI b)] []),(λ_=>g .ret [(4,vI (-1))] []))
theorem jiF:CN 0 122 Tryz.f82 jd2:=lK Zas [] oN ([],[]) [(0,[1],[])] ([4],[]) λ_ _ _ _ _=>by kernel_rfl
def j2F (a:qL) (left:Int) (d:Int->Res):Res:=bif decide ((Z9K (left-(nI (List.length a))))<0) then d (-1) else j9B a Z1c (Z9K (left-(nI (List.length a)))) 0 (λb=>d b) (λ_=>d (-1))
def jar:Sig Unit:=sg [.look y0 false,.look tI false] [false] [(y0,none),(tI,none)] [] λb f k=>j2F b.1 b.2.1 (λd=>k [wI d] [] [])
theorem jee:SO 82 jar:=fK (np:=0) Zas [jd2] (oI 122 0 @jiF oN) false Tryz.func82 λ_ _ _ _=>by kernel_rfl
def j2t (a:qL) (b:qL) (i:Int) (rec:qL->Int->Res) (d:qL->Res):Res:=bif decide (i<(nI (List.length a))) then bif inb i (List.length a) then bif inb i (List.length b) then rec (upd b i (nth eS a i)) (Z9K (i+1)) else none else none else d b
def j7Z (a:qL):(qL×Int)->(qL×Int->Res)->((qL->Res))->Res:=λv rec q=>j2t a v.1 v.2 (λb i=>rec (b,i)) q
def jjn (a:qL) (n:Nat) (b:qL) (i:Int) (d:qL->Res):Res:=Z1f (j7Z a) n (b,i) (d)
def jd3:Z1d Unit:=NdL 22 22 [.R 0 y0 .S,.R 3 y0 .O,.I 4] [] (λb f=>(b.2.1,b.2.2.1)) (λb v=>(b.1,v.1,v.2,())) (λf v=>()) (λb f=>j7Z b.1) λb f g=>((λd=>g (.exit 0) [(3,v1 y0 d .O)] []))
theorem jiG:CN 0 58 Tryz.f88 jd3:=lK Zas [] oN ([],[]) [(0,[3],[])] ([],[]) λ_ _ _ _ _=>by kernel_rfl
def j2G (a:qL) (d:qL->Res):Res:=bif Z9I (nI (List.length a)) (nI (List.length a)) then jjn a Z1c (Z9h (nI (List.length a)) eS) 0 λb=>d b else none
def jas:Sig Unit:=sg [.borrow y0 false] [false] [(y0,none)] [] λd f k=>j2G d.1 (λb=>k [w1 y0 b .O] [] [])
theorem jeh:SO 88 jas:=fK (np:=0) Zas [jd3] (oI 58 0 @jiG oN) false Tryz.func88 λ_ _ _ _=>by kernel_rfl
def j2q (a:qL) (b:qL) (i:Int) (rec:Int->Res) (d:Unit->Res) (f:Unit->Res):Res:=bif decide (i<(nI (List.length a))) then bif inb i (List.length a) then bif inb i (List.length b) then bif sNe (nth eS a i) (nth eS b i) then f () else rec (Z9K (i+1)) else none else none else d ()
def jbR (a:qL) (b:qL):Int->(Int->Res)->((Unit->Res)×(Unit->Res))->Res:=λv rec q=>j2q a b v (λi=>rec (i)) q.1 q.2
def jdD (a:qL) (b:qL) (n:Nat) (i:Int) (d:Unit->Res) (f:Unit->Res):Res:=Z1f (jbR a b) n (i) (d,f)
def jcY:Z1d Unit:=NdL 26 26 [.R 0 y0 .S,.R 1 y0 .S,.I 5] [] (λb d=>(b.2.2.1)) (λb v=>(b.1,b.2.1,v,())) (λd v=>()) (λb d=>jbR b.1 b.2.1) λb d f=>((λ_=>f (.exit 0) [] []),(λ_=>f .ret [(4,vB false)] []))
theorem jix:CN 0 58 Tryz.f97 jcY:=lK Zas [] oN ([],[]) [(0,[],[])] ([4],[]) λ_ _ _ _ _=>by kernel_rfl
def j2D (a:qL) (b:qL) (d:Bool->Res):Res:=bif ((nI (List.length a)) != (nI (List.length b))) then d false else jdD a b Z1c 0 (λ_=>d true) (λ_=>d false)
def jap:Sig Unit:=sg [.look y0 false,.look y0 false] [false] [(y0,none),(y0,none)] [] λb f k=>j2D b.1 b.2.1 (λd=>k [wB d] [] [])
theorem jeb:SO 97 jap:=fK (np:=0) Zas [jcY] (oI 58 0 @jix oN) false Tryz.func97 λ_ _ _ _=>by kernel_rfl
def j1U (a:qL) (b:Int) (i:Int) (rec:qL->Int->Int->Res) (d:qL->Int->Res):Res:=bif decide (i<(nI (List.length a))) then j09 b λr=>bif inb i (List.length a) then rec (upd a i r) (Z9K (b+1)) (Z9K (i+1)) else none else d a b
def j6H:(qL×Int×Int)->(qL×Int×Int->Res)->((qL->Int->Res))->Res:=λv rec q=>j1U v.1 v.2.1 v.2.2 (λa b i=>rec (a,b,i)) q
def jbT (n:Nat) (a:qL) (d:Int) (i:Int) (b:qL->Int->Res):Res:=Z1f (j6H) n (a,d,i) (b)
def jbI:Z1d Unit:=NdL 20 20 [.R 0 y0 .O,.I 1,.I 5] [] (λb f=>(b.1,b.2.1,b.2.2.1)) (λb v=>(v.1,v.2.1,v.2.2,())) (λf v=>()) (λb f=>j6H) λb f h=>((λg d=>h (.exit 0) [(0,v1 y0 g .O),(1,vI d)] []))
theorem jhg:CN 1 26 Tryz.f98 jbI:=lK (Za6 j0b Zas) [] oN ([],[]) [(0,[0,1],[])] ([],[]) λ_ _ _ _ _=>by kernel_rfl
def j1J (a:qL) (g:Int) (f:Int->qL->Res):Res:=jbT Z1c a g 0 λd b=>f b d
def j36:Sig Unit:=sg [.inout y0 false,.borrow tI false] [false] [(y0,some [.O]),(tI,none)] [] λb g k=>j1J b.1 b.2.1 (λf d=>k [wI f] [w1 y0 d .O] [])
theorem jcL:SO 98 j36:=fK (np:=1) (Za6 j0b Zas) [jbI] (oI 26 0 @jhg oN) false Tryz.func98 λ_ _ _ _=>by kernel_rfl
def j1S (a:qL) (b:Int) (i:Int) (rec:Int->Int->Res) (d:Int->Res) (f:Unit->Res):Res:=bif decide (i<(nI (List.length a))) then bif inb i (List.length a) then j09 b λr=>bif sNe (nth eS a i) r then f () else rec (Z9K (b+1)) (Z9K (i+1)) else none else d b
def j6F (a:qL):(Int×Int)->(Int×Int->Res)->((Int->Res)×(Unit->Res))->Res:=λv rec q=>j1S a v.1 v.2 (λb i=>rec (b,i)) q.1 q.2
def jbS (a:qL) (n:Nat) (f:Int) (i:Int) (b:Int->Res) (d:Unit->Res):Res:=Z1f (j6F a) n (f,i) (b,d)
def jbH:Z1d Unit:=NdL 22 22 [.R 0 y0 .S,.I 1,.I 5] [] (λb f=>(b.2.1,b.2.2.1)) (λb v=>(b.1,v.1,v.2,())) (λf v=>()) (λb f=>j6F b.1) λb f g=>((λd=>g (.exit 0) [(1,vI d)] []),(λ_=>g .ret [(4,vI (-1))] []))
theorem jhf:CN 0 26 Tryz.f146 jbH:=lK (Za6 j0b Zas) [] oN ([],[]) [(0,[1],[])] ([4],[]) λ_ _ _ _ _=>by kernel_rfl
def j4A (a:qL) (f:Int) (d:Int->Res):Res:=jbS a Z1c f 0 (λb=>d b) (λ_=>d (-1))
def j8O:Sig Unit:=sg [.look y0 false,.look tI false] [false] [(y0,none),(tI,none)] [] λb f k=>j4A b.1 b.2.1 (λd=>k [wI d] [] [])
theorem jih:SO 146 j8O:=fK (np:=0) (Za6 j0b Zas) [jbH] (oI 26 0 @jhf oN) false Tryz.func146 λ_ _ _ _=>by kernel_rfl
end
end Go.PI.G
namespace Go.PI.G
noncomputable section
open Go Go.PI Go.Proofs
open Go.Code (pl pr)
def j8I (a:qB×qE×qL) (left:Int) (b:Int->Res):Res:=bif decide ((Z9K (left-(nI (ByteArray.size a.1))))<0) then b (-1) else j63 a.2.1 (Z9K (left-(nI (ByteArray.size a.1)))) λr=>bif decide (r<0) then b (-1) else j2F a.2.2 r λd=>bif decide (d<0) then b (-1) else b d
def jmT:Sig Unit:=sg [.look y10 true,.look tI false] [false] [(y10,none),(tI,none)] [] λb f k=>j8I b.1 b.2.1 (λd=>k [wI d] [] [])
theorem jgn:SO 239 jmT:=fK (np:=0) (Za6 jee (Za6 jhG Zas)) [] oN false Tryz.func239 λ_ _ _ _=>by delta j8I jdh jar;refine gz j63 λ_ b=>gz j2F λ_ d=> ?_;rewrite [<-b,<-d];kernel_rfl
def j8K (a:qB×qE×qL) (b:qT->Res):Res:=j64 a.2.1 λr=>j2G a.2.2 λd=>b (a.1,r,d)
def jmU:Sig Unit:=sg [.borrow y10 true] [true] [(y10,none)] [] λd f k=>j8K d.1 (λb=>k [⟨y10,true,b,[.O,.O]⟩] [] [])
theorem jgo:SO 247 jmU:=fK (np:=0) (Za6 jeh (Za6 jhK Zas)) [] oN false Tryz.func247 λ_ _ _ _=>by delta j8K jdi jas;refine gz j64 λ_ b=>gz j2G λ_ d=> ?_;rewrite [<-b,<-d];kernel_rfl
def j8B (a:qB×qE×qL) (b:qB×qE×qL) (d:Bool->Res):Res:=bif sNe a.1 b.1 then d false else j62 a.2.1 b.2.1 λr=>bif !r then d false else j2D a.2.2 b.2.2 λf=>bif !f then d false else d true
def jmS:Sig Unit:=sg [.look y10 true,.look y10 true] [false] [(y10,none),(y10,none)] [] λb f k=>j8B b.1 b.2.1 (λd=>k [wB d] [] [])
theorem jgm:SO 259 jmS:=fK (np:=0) (Za6 jeb (Za6 jhC Zas)) [] oN false Tryz.func259 λ_ _ _ _=>by delta j8B jdf jap;refine gz j62 λ_ b=>gz j2D λ_ d=> ?_;rewrite [<-b,<-d];kernel_rfl
end
end Go.PI.G
namespace Go.PI.G
noncomputable section
open Go Go.PI Go.Proofs
open Go.Code (pl pr)
def j32 (a:List qT) (left:Int) (i:Int) (rec:Int->Int->Res) (b:Int->Res) (d:Unit->Res):Res:=bif decide (i<(nI (List.length a))) then bif inb i (List.length a) then j8I (nth (eS,[],[]) a i) left λr=>bif decide (r<0) then d () else rec r (Z9K (i+1)) else none else b left
def jcS (a:List qT):(Int×Int)->(Int×Int->Res)->((Int->Res)×(Unit->Res))->Res:=λv rec q=>j32 a v.1 v.2 (λleft i=>rec (left,i)) q.1 q.2
def jak (a:List qT) (n:Nat) (left:Int) (i:Int) (b:Int->Res) (d:Unit->Res):Res:=Z1f (jcS a) n (left,i) (b,d)
def jdR:Z1d Unit:=NdL 27 27 [.R 0 y11 .S,.I 1,.I 5] [] (λd f=>(d.2.1,d.2.2.1)) (λd v=>(d.1,v.1,v.2,())) (λf v=>()) (λd f=>jcS d.1) λd f g=>((λb=>g (.exit 0) [(1,vI b)] []),(λ_=>g .ret [(4,vI (-1))] []))
theorem jjE:CN 0 122 Tryz.f182 jdR:=lK (Za6 jgn Zas) [] oN ([],[]) [(0,[1],[])] ([4],[]) λ_ _ _ _ _=>by kernel_rfl
def ja9 (a:List qT) (left:Int) (d:Int->Res):Res:=bif decide ((Z9K (left-(nI (List.length a))))<0) then d (-1) else jak a Z1c (Z9K (left-(nI (List.length a)))) 0 (λb=>d b) (λ_=>d (-1))
def jlX:Sig Unit:=sg [.look y11 false,.look tI false] [false] [(y11,none),(tI,none)] [] λb f k=>ja9 b.1 b.2.1 (λd=>k [wI d] [] [])
theorem jlc:SO 182 jlX:=fK (np:=0) (Za6 jgn Zas) [jdR] (oI 122 0 @jjE oN) false Tryz.func182 λ_ _ _ _=>by kernel_rfl
def j34 (a:List qT) (b:List qT) (i:Int) (rec:qF->Int->Res) (d:qF->Res):Res:=bif decide (i<(nI (List.length a))) then bif inb i (List.length a) then j8K (nth (eS,[],[]) a i) λr=>bif inb i (List.length b) then rec (upd b i r) (Z9K (i+1)) else none else none else d b
def j8L (a:List qT):(qF×Int)->(qF×Int->Res)->((qF->Res))->Res:=λv rec q=>j34 a v.1 v.2 (λb i=>rec (b,i)) q
def jkt (a:List qT) (n:Nat) (b:List qT) (i:Int) (d:qF->Res):Res:=Z1f (j8L a) n (b,i) (d)
def jdS:Z1d Unit:=NdL 23 23 [.R 0 y11 .S,.R 3 y11 .O,.I 4] [] (λb f=>(b.2.1,b.2.2.1)) (λb v=>(b.1,v.1,v.2,())) (λf v=>()) (λb f=>j8L b.1) λb f g=>((λd=>g (.exit 0) [(3,v1 y11 d .O)] []))
theorem jjF:CN 0 58 Tryz.f191 jdS:=lK (Za6 jgo Zas) [] oN ([],[]) [(0,[3],[])] ([],[]) λ_ _ _ _ _=>by kernel_rfl
def jaa (a:List qT) (d:qF->Res):Res:=bif Z9I (nI (List.length a)) (nI (List.length a)) then jkt a Z1c (Z9h (nI (List.length a)) (eS,[],[])) 0 λb=>d b else none
def jlY:Sig Unit:=sg [.borrow y11 false] [false] [(y11,none)] [] λd f k=>jaa d.1 (λb=>k [w1 y11 b .O] [] [])
theorem jld:SO 191 jlY:=fK (np:=0) (Za6 jgo Zas) [jdS] (oI 58 0 @jjF oN) false Tryz.func191 λ_ _ _ _=>by kernel_rfl
def j2X (a:List qT) (b:List qT) (i:Int) (rec:Int->Res) (d:Unit->Res) (f:Unit->Res):Res:=bif decide (i<(nI (List.length a))) then bif inb i (List.length a) then bif inb i (List.length b) then j8B (nth (eS,[],[]) a i) (nth (eS,[],[]) b i) λr=>bif !r then f () else rec (Z9K (i+1)) else none else none else d ()
def jcQ (a:List qT) (b:List qT):Int->(Int->Res)->((Unit->Res)×(Unit->Res))->Res:=λv rec q=>j2X a b v (λi=>rec (i)) q.1 q.2
def jey (a:List qT) (b:List qT) (n:Nat) (i:Int) (d:Unit->Res) (f:Unit->Res):Res:=Z1f (jcQ a b) n (i) (d,f)
def jdK:Z1d Unit:=NdL 27 27 [.R 0 y11 .S,.R 1 y11 .S,.I 5] [] (λb d=>(b.2.2.1)) (λb v=>(b.1,b.2.1,v,())) (λd v=>()) (λb d=>jcQ b.1 b.2.1) λb d f=>((λ_=>f (.exit 0) [] []),(λ_=>f .ret [(4,vB false)] []))
theorem jju:CN 0 58 Tryz.f201 jdK:=lK (Za6 jgm Zas) [] oN ([],[]) [(0,[],[])] ([4],[]) λ_ _ _ _ _=>by kernel_rfl
def ja7 (a:List qT) (b:List qT) (d:Bool->Res):Res:=bif ((nI (List.length a)) != (nI (List.length b))) then d false else jey a b Z1c 0 (λ_=>d true) (λ_=>d false)
def jlV:Sig Unit:=sg [.look y11 false,.look y11 false] [false] [(y11,none),(y11,none)] [] λb f k=>ja7 b.1 b.2.1 (λd=>k [wB d] [] [])
theorem jl9:SO 201 jlV:=fK (np:=0) (Za6 jgm Zas) [jdK] (oI 58 0 @jju oN) false Tryz.func201 λ_ _ _ _=>by kernel_rfl
theorem jdz:FS [(98,j36),(110,j14),(111,j8c)]:=(Za6 jcL (Za6 j0b (Za6 jfe Zas)))
def j1i (a:List qT) (d:Int) (i:Int) (rec:qF->Int->Int->Res) (g:qF->Int->Res):Res:=bif decide (i<(nI (List.length a))) then j09 d λr=>bif inb i (List.length a) then bif inb i (List.length (upd a i (r,(nth (eS,[],[]) a i).2))) then j5n (nth (eS,[],[]) (upd a i (r,(nth (eS,[],[]) a i).2)) i).2.1 (Z9K (d+1)) λh b=>bif inb i (List.length (upd (upd a i (r,(nth (eS,[],[]) a i).2)) i ((nth (eS,[],[]) (upd a i (r,(nth (eS,[],[]) a i).2)) i).1,b,(nth (eS,[],[]) (upd a i (r,(nth (eS,[],[]) a i).2)) i).2.2))) then j1J (nth (eS,[],[]) (upd (upd a i (r,(nth (eS,[],[]) a i).2)) i ((nth (eS,[],[]) (upd a i (r,(nth (eS,[],[]) a i).2)) i).1,b,(nth (eS,[],[]) (upd a i (r,(nth (eS,[],[]) a i).2)) i).2.2)) i).2.2 h λj f=>rec (upd (upd (upd a i (r,(nth (eS,[],[]) a i).2)) i ((nth (eS,[],[]) (upd a i (r,(nth (eS,[],[]) a i).2)) i).1,b,(nth (eS,[],[]) (upd a i (r,(nth (eS,[],[]) a i).2)) i).2.2)) i ((nth (eS,[],[]) (upd (upd a i (r,(nth (eS,[],[]) a i).2)) i ((nth (eS,[],[]) (upd a i (r,(nth (eS,[],[]) a i).2)) i).1,b,(nth (eS,[],[]) (upd a i (r,(nth (eS,[],[]) a i).2)) i).2.2)) i).1,(nth (eS,[],[]) (upd (upd a i (r,(nth (eS,[],[]) a i).2)) i ((nth (eS,[],[]) (upd a i (r,(nth (eS,[],[]) a i).2)) i).1,b,(nth (eS,[],[]) (upd a i (r,(nth (eS,[],[]) a i).2)) i).2.2)) i).2.1,f)) j (Z9K (i+1)) else none else none else none else g a d
def j4a:(qF×Int×Int)->(qF×Int×Int->Res)->((qF->Int->Res))->Res:=λv rec q=>j1i v.1 v.2.1 v.2.2 (λa b i=>rec (a,b,i)) q
def jcR (n:Nat) (a:List qT) (d:Int) (i:Int) (b:qF->Int->Res):Res:=Z1f (j4a) n (a,d,i) (b)
def jbY:Z1d Unit:=NdL 35 35 [.R 0 y11 .O,.I 1,.I 5] [] (λb f=>(b.1,b.2.1,b.2.2.1)) (λb v=>(v.1,v.2.1,v.2.2,())) (λf v=>()) (λb f=>j4a) λb f h=>((λg d=>h (.exit 0) [(0,v1 y11 g .O),(1,vI d)] []))
theorem ji6:CN 1 26 Tryz.f203 jbY:=lK jdz [] oN ([],[]) [(0,[0,1],[])] ([],[]) λ_ _ _ _ _=>by delta j4a j1i j14 j8c j36;refine gz j09 λ_ b=>gz j5n λ_ d=>gz j1J λ_ f=> ?_;rewrite [<-b,<-d,<-f];kernel_rfl
def j89 (a:List qT) (g:Int) (f:Int->qF->Res):Res:=jcR Z1c a g 0 λd b=>f b d
def jjL:Sig Unit:=sg [.inout y11 false,.borrow tI false] [false] [(y11,some [.O]),(tI,none)] [] λb g k=>j89 b.1 b.2.1 (λf d=>k [wI f] [w1 y11 d .O] [])
theorem jjm:SO 203 jjL:=fK (np:=1) jdz [jbY] (oI 26 0 @ji6 oN) false Tryz.func203 λ_ _ _ _=>by kernel_rfl
end
end Go.PI.G
namespace Go.PI.G
noncomputable section
open Go Go.PI Go.Proofs
open Go.Code (pl pr)
def jbb (a:List qT) (left:Int) (b:Int->Res):Res:=ja9 a left λr=>bif decide (r<0) then b (-1) else b r
def jj0:Sig Unit:=sg [.look y11 true,.look tI false] [false] [(y11,none),(tI,none)] [] λb f k=>jbb b.1 b.2.1 (λd=>k [wI d] [] [])
theorem jop:SO 130 jj0:=fK (np:=0) (Za6 jlc Zas) [] oN false Tryz.func130 λ_ _ _ _=>by kernel_rfl
def jbf (a:List qT) (b:qF->Res):Res:=jaa a λr=>b r
def jj3:Sig Unit:=sg [.borrow y11 true] [true] [(y11,none)] [] λd f k=>jbf d.1 (λb=>k [⟨y11,true,b,[.O]⟩] [] [])
theorem jor:SO 135 jj3:=fK (np:=0) (Za6 jld Zas) [] oN false Tryz.func135 λ_ _ _ _=>by kernel_rfl
def jb9 (a:List qT) (b:List qT) (d:Bool->Res):Res:=ja7 a b λr=>bif !r then d false else d true
def jiX:Sig Unit:=sg [.look y11 true,.look y11 true] [false] [(y11,none),(y11,none)] [] λb f k=>jb9 b.1 b.2.1 (λd=>k [wB d] [] [])
theorem jon:SO 141 jiX:=fK (np:=0) (Za6 jl9 Zas) [] oN false Tryz.func141 λ_ _ _ _=>by kernel_rfl
def j8D (a:List qT) (f:Int) (d:Int->qF->Res):Res:=j89 a f λr b=>d r b
def jgI:Sig Unit:=sg [.inout y11 true,.borrow tI false] [false] [(y11,some [.O]),(tI,none)] [] λb g k=>j8D b.1 b.2.1 (λf d=>k [wI f] [⟨y11,true,d,[.O]⟩] [])
theorem jmc:SO 143 jgI:=fK (np:=1) (Za6 jjm Zas) [] oN false Tryz.func143 λ_ _ _ _=>by kernel_rfl
end
end Go.PI.G
namespace Go.PI.G
noncomputable section
open Go Go.PI Go.Proofs
open Go.Code (pl pr)
def j4G (a:List qV) (left:Int) (i:Int) (rec:Int->Int->Res) (b:Int->Res) (d:Unit->Res):Res:=bif decide (i<(nI (List.length a))) then bif inb i (List.length a) then jbe (nth (0,0,eS) a i) left λr=>bif decide (r<0) then d () else rec r (Z9K (i+1)) else none else b left
def jeI (a:List qV):(Int×Int)->(Int×Int->Res)->((Int->Res)×(Unit->Res))->Res:=λv rec q=>j4G a v.1 v.2 (λleft i=>rec (left,i)) q.1 q.2
def jcc (a:List qV) (n:Nat) (left:Int) (i:Int) (b:Int->Res) (d:Unit->Res):Res:=Z1f (jeI a) n (left,i) (b,d)
def jfK:Z1d Unit:=NdL 27 27 [.R 0 y3 .S,.I 1,.I 5] [] (λd f=>(d.2.1,d.2.2.1)) (λd v=>(d.1,v.1,v.2,())) (λf v=>()) (λd f=>jeI d.1) λd f g=>((λb=>g (.exit 0) [(1,vI b)] []),(λ_=>g .ret [(4,vI (-1))] []))
theorem jlF:CN 0 122 Tryz.f37 jfK:=lK (Za6 jef Zas) [] oN ([],[]) [(0,[1],[])] ([4],[]) λ_ _ _ _ _=>by kernel_rfl
def j7R (a:List qV) (left:Int) (d:Int->Res):Res:=bif decide ((Z9K (left-(nI (List.length a))))<0) then d (-1) else jcc a Z1c (Z9K (left-(nI (List.length a)))) 0 (λb=>d b) (λ_=>d (-1))
def jhV:Sig Unit:=sg [.look y3 false,.look tI false] [false] [(y3,none),(tI,none)] [] λb f k=>j7R b.1 b.2.1 (λd=>k [wI d] [] [])
theorem jhJ:SO 37 jhV:=fK (np:=0) (Za6 jef Zas) [jfK] (oI 122 0 @jlF oN) false Tryz.func37 λ_ _ _ _=>by kernel_rfl
def j4J (a:List qV) (b:List qV) (i:Int) (rec:qW->Int->Res) (d:qW->Res):Res:=bif decide (i<(nI (List.length a))) then bif inb i (List.length a) then jbg (nth (0,0,eS) a i) λr=>bif inb i (List.length b) then rec (upd b i r) (Z9K (i+1)) else none else none else d b
def jan (a:List qV):(qW×Int)->(qW×Int->Res)->((qW->Res))->Res:=λv rec q=>j4J a v.1 v.2 (λb i=>rec (b,i)) q
def jmv (a:List qV) (n:Nat) (b:List qV) (i:Int) (d:qW->Res):Res:=Z1f (jan a) n (b,i) (d)
def jfN:Z1d Unit:=NdL 23 23 [.R 0 y3 .S,.R 3 y3 .O,.I 4] [] (λb f=>(b.2.1,b.2.2.1)) (λb v=>(b.1,v.1,v.2,())) (λf v=>()) (λb f=>jan b.1) λb f g=>((λd=>g (.exit 0) [(3,v1 y3 d .O)] []))
theorem jlI:CN 0 58 Tryz.f39 jfN:=lK (Za6 jei Zas) [] oN ([],[]) [(0,[3],[])] ([],[]) λ_ _ _ _ _=>by kernel_rfl
def j7S (a:List qV) (d:qW->Res):Res:=bif Z9I (nI (List.length a)) (nI (List.length a)) then jmv a Z1c (Z9h (nI (List.length a)) (0,0,eS)) 0 λb=>d b else none
def jhW:Sig Unit:=sg [.borrow y3 false] [false] [(y3,none)] [] λd f k=>j7S d.1 (λb=>k [w1 y3 b .O] [] [])
theorem jhN:SO 39 jhW:=fK (np:=0) (Za6 jei Zas) [jfN] (oI 58 0 @jlI oN) false Tryz.func39 λ_ _ _ _=>by kernel_rfl
def j4z (a:List qV) (b:List qV) (i:Int) (rec:Int->Res) (d:Unit->Res) (f:Unit->Res):Res:=bif decide (i<(nI (List.length a))) then bif inb i (List.length a) then bif inb i (List.length b) then jba (nth (0,0,eS) a i) (nth (0,0,eS) b i) λr=>bif !r then f () else rec (Z9K (i+1)) else none else none else d ()
def jez (a:List qV) (b:List qV):Int->(Int->Res)->((Unit->Res)×(Unit->Res))->Res:=λv rec q=>j4z a b v (λi=>rec (i)) q.1 q.2
def jgD (a:List qV) (b:List qV) (n:Nat) (i:Int) (d:Unit->Res) (f:Unit->Res):Res:=Z1f (jez a b) n (i) (d,f)
def jfH:Z1d Unit:=NdL 27 27 [.R 0 y3 .S,.R 1 y3 .S,.I 5] [] (λb d=>(b.2.2.1)) (λb v=>(b.1,b.2.1,v,())) (λd v=>()) (λb d=>jez b.1 b.2.1) λb d f=>((λ_=>f (.exit 0) [] []),(λ_=>f .ret [(4,vB false)] []))
theorem jlC:CN 0 58 Tryz.f41 jfH:=lK (Za6 jec Zas) [] oN ([],[]) [(0,[],[])] ([4],[]) λ_ _ _ _ _=>by kernel_rfl
def j7P (a:List qV) (b:List qV) (d:Bool->Res):Res:=bif ((nI (List.length a)) != (nI (List.length b))) then d false else jgD a b Z1c 0 (λ_=>d true) (λ_=>d false)
def jhU:Sig Unit:=sg [.look y3 false,.look y3 false] [false] [(y3,none),(y3,none)] [] λb f k=>j7P b.1 b.2.1 (λd=>k [wB d] [] [])
theorem jhF:SO 41 jhU:=fK (np:=0) (Za6 jec Zas) [jfH] (oI 58 0 @jlC oN) false Tryz.func41 λ_ _ _ _=>by kernel_rfl
def j31 (a:List qV) (b:Int) (i:Int) (rec:qW->Int->Int->Res) (d:qW->Int->Res):Res:=bif decide (i<(nI (List.length a))) then bif inb i (List.length a) then bif inb i (List.length (upd a i (b,(nth (0,0,eS) a i).2))) then j09 (Z9K ((Z9K (b+1))+1)) λr=>bif inb i (List.length (upd (upd a i (b,(nth (0,0,eS) a i).2)) i ((nth (0,0,eS) (upd a i (b,(nth (0,0,eS) a i).2)) i).1,Z9K (b+1),(nth (0,0,eS) (upd a i (b,(nth (0,0,eS) a i).2)) i).2.2))) then rec (upd (upd (upd a i (b,(nth (0,0,eS) a i).2)) i ((nth (0,0,eS) (upd a i (b,(nth (0,0,eS) a i).2)) i).1,Z9K (b+1),(nth (0,0,eS) (upd a i (b,(nth (0,0,eS) a i).2)) i).2.2)) i ((nth (0,0,eS) (upd (upd a i (b,(nth (0,0,eS) a i).2)) i ((nth (0,0,eS) (upd a i (b,(nth (0,0,eS) a i).2)) i).1,Z9K (b+1),(nth (0,0,eS) (upd a i (b,(nth (0,0,eS) a i).2)) i).2.2)) i).1,(nth (0,0,eS) (upd (upd a i (b,(nth (0,0,eS) a i).2)) i ((nth (0,0,eS) (upd a i (b,(nth (0,0,eS) a i).2)) i).1,Z9K (b+1),(nth (0,0,eS) (upd a i (b,(nth (0,0,eS) a i).2)) i).2.2)) i).2.1,r)) (Z9K ((Z9K ((Z9K (b+1))+1))+1)) (Z9K (i+1)) else none else none else none else d a b
def j8F:(qW×Int×Int)->(qW×Int×Int->Res)->((qW->Int->Res))->Res:=λv rec q=>j31 v.1 v.2.1 v.2.2 (λa b i=>rec (a,b,i)) q
def jeF (n:Nat) (a:List qV) (d:Int) (i:Int) (b:qW->Int->Res):Res:=Z1f (j8F) n (a,d,i) (b)
def jdQ:Z1d Unit:=NdL 35 35 [.R 0 y3 .O,.I 1,.I 5] [] (λb f=>(b.1,b.2.1,b.2.2.1)) (λb v=>(v.1,v.2.1,v.2.2,())) (λf v=>()) (λb f=>j8F) λb f h=>((λg d=>h (.exit 0) [(0,v1 y3 g .O),(1,vI d)] []))
theorem jjD:CN 1 26 Tryz.f51 jdQ:=lK (Za6 j0b Zas) [] oN ([],[]) [(0,[0,1],[])] ([],[]) λ_ _ _ _ _=>by kernel_rfl
def j3v (a:List qV) (g:Int) (f:Int->qW->Res):Res:=jeF Z1c a g 0 λd b=>f b d
def jbo:Sig Unit:=sg [.inout y3 false,.borrow tI false] [false] [(y3,some [.O]),(tI,none)] [] λb g k=>j3v b.1 b.2.1 (λf d=>k [wI f] [w1 y3 d .O] [])
theorem jaX:SO 51 jbo:=fK (np:=1) (Za6 j0b Zas) [jdQ] (oI 26 0 @jjD oN) false Tryz.func51 λ_ _ _ _=>by kernel_rfl
def j2Y (a:List qV) (b:Int) (i:Int) (rec:Int->Int->Res) (f:Int->Res) (d:Unit->Res):Res:=bif decide (i<(nI (List.length a))) then bif inb i (List.length a) then bif ((nth (0,0,eS) a i).1 != b) then d () else bif inb i (List.length a) then bif ((nth (0,0,eS) a i).2.1 != (Z9K (b+1))) then d () else bif inb i (List.length a) then j09 (Z9K ((Z9K (b+1))+1)) λr=>bif sNe (nth (0,0,eS) a i).2.2 r then d () else rec (Z9K ((Z9K ((Z9K (b+1))+1))+1)) (Z9K (i+1)) else none else none else none else f b
def j8C (a:List qV):(Int×Int)->(Int×Int->Res)->((Int->Res)×(Unit->Res))->Res:=λv rec q=>j2Y a v.1 v.2 (λb i=>rec (b,i)) q.1 q.2
def jeB (a:List qV) (n:Nat) (f:Int) (i:Int) (b:Int->Res) (d:Unit->Res):Res:=Z1f (j8C a) n (f,i) (b,d)
def jdM:Z1d Unit:=NdL 41 41 [.R 0 y3 .S,.I 1,.I 5] [] (λb f=>(b.2.1,b.2.2.1)) (λb v=>(b.1,v.1,v.2,())) (λf v=>()) (λb f=>j8C b.1) λb f g=>((λd=>g (.exit 0) [(1,vI d)] []),(λ_=>g .ret [(4,vI (-1))] []))
theorem jjw:CN 0 26 Tryz.f118 jdM:=lK (Za6 j0b Zas) [] oN ([],[]) [(0,[1],[])] ([4],[]) λ_ _ _ _ _=>by kernel_rfl
def j5m (a:List qV) (f:Int) (d:Int->Res):Res:=jeB a Z1c f 0 (λb=>d b) (λ_=>d (-1))
def jbn:Sig Unit:=sg [.look y3 false,.look tI false] [false] [(y3,none),(tI,none)] [] λb f k=>j5m b.1 b.2.1 (λd=>k [wI d] [] [])
theorem jlb:SO 118 jbn:=fK (np:=0) (Za6 j0b Zas) [jdM] (oI 26 0 @jjw oN) false Tryz.func118 λ_ _ _ _=>by kernel_rfl
end
end Go.PI.G
namespace Go.PI.G
noncomputable section
open Go Go.PI Go.Proofs
open Go.Code (pl pr)
def j9i (a:List qV) (left:Int) (b:Int->Res):Res:=j7R a left λr=>bif decide (r<0) then b (-1) else b r
def jj2:Sig Unit:=sg [.look y3 true,.look tI false] [false] [(y3,none),(tI,none)] [] λb f k=>j9i b.1 b.2.1 (λd=>k [wI d] [] [])
theorem jed:SO 184 jj2:=fK (np:=0) (Za6 jhJ Zas) [] oN false Tryz.func184 λ_ _ _ _=>by kernel_rfl
def j9k (a:List qV) (b:qW->Res):Res:=j7S a λr=>b r
def jj5:Sig Unit:=sg [.borrow y3 true] [true] [(y3,none)] [] λd f k=>j9k d.1 (λb=>k [⟨y3,true,b,[.O]⟩] [] [])
theorem jeg:SO 193 jj5:=fK (np:=0) (Za6 jhN Zas) [] oN false Tryz.func193 λ_ _ _ _=>by kernel_rfl
def j9g (a:List qV) (b:List qV) (d:Bool->Res):Res:=j7P a b λr=>bif !r then d false else d true
def jiZ:Sig Unit:=sg [.look y3 true,.look y3 true] [false] [(y3,none),(y3,none)] [] λb f k=>j9g b.1 b.2.1 (λd=>k [wB d] [] [])
theorem jea:SO 50 jiZ:=fK (np:=0) (Za6 jhF Zas) [] oN false Tryz.func50 λ_ _ _ _=>by kernel_rfl
end
end Go.PI.G
namespace Go.PI.G
noncomputable section
open Go Go.PI Go.Proofs
open Go.Code (pl pr)
def j4F (a:List qW) (left:Int) (i:Int) (rec:Int->Int->Res) (b:Int->Res) (d:Unit->Res):Res:=bif decide (i<(nI (List.length a))) then bif inb i (List.length a) then j9i (nth [] a i) left λr=>bif decide (r<0) then d () else rec r (Z9K (i+1)) else none else b left
def jeH (a:List qW):(Int×Int)->(Int×Int->Res)->((Int->Res)×(Unit->Res))->Res:=λv rec q=>j4F a v.1 v.2 (λleft i=>rec (left,i)) q.1 q.2
def jcb (a:List qW) (n:Nat) (left:Int) (i:Int) (b:Int->Res) (d:Unit->Res):Res:=Z1f (jeH a) n (left,i) (b,d)
def jfJ:Z1d Unit:=NdL 27 27 [.R 0 y12 .S,.I 1,.I 5] [] (λd f=>(d.2.1,d.2.2.1)) (λd v=>(d.1,v.1,v.2,())) (λf v=>()) (λd f=>jeH d.1) λd f g=>((λb=>g (.exit 0) [(1,vI b)] []),(λ_=>g .ret [(4,vI (-1))] []))
theorem jlE:CN 0 122 Tryz.f240 jfJ:=lK (Za6 jed Zas) [] oN ([],[]) [(0,[1],[])] ([4],[]) λ_ _ _ _ _=>by kernel_rfl
def jcD (a:List qW) (left:Int) (d:Int->Res):Res:=bif decide ((Z9K (left-(nI (List.length a))))<0) then d (-1) else jcb a Z1c (Z9K (left-(nI (List.length a)))) 0 (λb=>d b) (λ_=>d (-1))
def jo5:Sig Unit:=sg [.look y12 false,.look tI false] [false] [(y12,none),(tI,none)] [] λb f k=>jcD b.1 b.2.1 (λd=>k [wI d] [] [])
theorem jnA:SO 240 jo5:=fK (np:=0) (Za6 jed Zas) [jfJ] (oI 122 0 @jlE oN) false Tryz.func240 λ_ _ _ _=>by kernel_rfl
def j4I (a:List qW) (b:List qW) (i:Int) (rec:qR->Int->Res) (d:qR->Res):Res:=bif decide (i<(nI (List.length a))) then bif inb i (List.length a) then j9k (nth [] a i) λr=>bif inb i (List.length b) then rec (upd b i r) (Z9K (i+1)) else none else none else d b
def jam (a:List qW):(qR×Int)->(qR×Int->Res)->((qR->Res))->Res:=λv rec q=>j4I a v.1 v.2 (λb i=>rec (b,i)) q
def jmu (a:List qW) (n:Nat) (b:List qW) (i:Int) (d:qR->Res):Res:=Z1f (jam a) n (b,i) (d)
def jfM:Z1d Unit:=NdL 23 23 [.R 0 y12 .S,.R 3 y12 .O,.I 4] [] (λb f=>(b.2.1,b.2.2.1)) (λb v=>(b.1,v.1,v.2,())) (λf v=>()) (λb f=>jam b.1) λb f g=>((λd=>g (.exit 0) [(3,v1 y12 d .O)] []))
theorem jlH:CN 0 58 Tryz.f248 jfM:=lK (Za6 jeg Zas) [] oN ([],[]) [(0,[3],[])] ([],[]) λ_ _ _ _ _=>by kernel_rfl
def jcF (a:List qW) (d:qR->Res):Res:=bif Z9I (nI (List.length a)) (nI (List.length a)) then jmu a Z1c (Z9h (nI (List.length a)) []) 0 λb=>d b else none
def jo8:Sig Unit:=sg [.borrow y12 false] [false] [(y12,none)] [] λd f k=>jcF d.1 (λb=>k [w1 y12 b .O] [] [])
theorem jnB:SO 248 jo8:=fK (np:=0) (Za6 jeg Zas) [jfM] (oI 58 0 @jlH oN) false Tryz.func248 λ_ _ _ _=>by kernel_rfl
def j4y (a:List qW) (b:List qW) (i:Int) (rec:Int->Res) (d:Unit->Res) (f:Unit->Res):Res:=bif decide (i<(nI (List.length a))) then bif inb i (List.length a) then bif inb i (List.length b) then j9g (nth [] a i) (nth [] b i) λr=>bif !r then f () else rec (Z9K (i+1)) else none else none else d ()
def jex (a:List qW) (b:List qW):Int->(Int->Res)->((Unit->Res)×(Unit->Res))->Res:=λv rec q=>j4y a b v (λi=>rec (i)) q.1 q.2
def jgC (a:List qW) (b:List qW) (n:Nat) (i:Int) (d:Unit->Res) (f:Unit->Res):Res:=Z1f (jex a b) n (i) (d,f)
def jfG:Z1d Unit:=NdL 27 27 [.R 0 y12 .S,.R 1 y12 .S,.I 5] [] (λb d=>(b.2.2.1)) (λb v=>(b.1,b.2.1,v,())) (λd v=>()) (λb d=>jex b.1 b.2.1) λb d f=>((λ_=>f (.exit 0) [] []),(λ_=>f .ret [(4,vB false)] []))
theorem jlB:CN 0 58 Tryz.f260 jfG:=lK (Za6 jea Zas) [] oN ([],[]) [(0,[],[])] ([4],[]) λ_ _ _ _ _=>by kernel_rfl
def jcB (a:List qW) (b:List qW) (d:Bool->Res):Res:=bif ((nI (List.length a)) != (nI (List.length b))) then d false else jgC a b Z1c 0 (λ_=>d true) (λ_=>d false)
def jo2:Sig Unit:=sg [.look y12 false,.look y12 false] [false] [(y12,none),(y12,none)] [] λb f k=>jcB b.1 b.2.1 (λd=>k [wB d] [] [])
theorem jny:SO 260 jo2:=fK (np:=0) (Za6 jea Zas) [jfG] (oI 58 0 @jlB oN) false Tryz.func260 λ_ _ _ _=>by kernel_rfl
def j2Z (a:List qW) (b:Int) (i:Int) (rec:qR->Int->Int->Res) (f:qR->Int->Res):Res:=bif decide (i<(nI (List.length a))) then bif inb i (List.length a) then j3v (nth [] a i) b λr d=>rec (upd a i d) r (Z9K (i+1)) else none else f a b
def j8E:(qR×Int×Int)->(qR×Int×Int->Res)->((qR->Int->Res))->Res:=λv rec q=>j2Z v.1 v.2.1 v.2.2 (λa b i=>rec (a,b,i)) q
def jeD (n:Nat) (a:List qW) (d:Int) (i:Int) (b:qR->Int->Res):Res:=Z1f (j8E) n (a,d,i) (b)
def jdO:Z1d Unit:=NdL 20 20 [.R 0 y12 .O,.I 1,.I 5] [] (λb f=>(b.1,b.2.1,b.2.2.1)) (λb v=>(v.1,v.2.1,v.2.2,())) (λf v=>()) (λb f=>j8E) λb f h=>((λg d=>h (.exit 0) [(0,v1 y12 g .O),(1,vI d)] []))
theorem jjB:CN 1 26 Tryz.f204 jdO:=lK (Za6 jaX Zas) [] oN ([],[]) [(0,[0,1],[])] ([],[]) λ_ _ _ _ _=>by kernel_rfl
def ja8 (a:List qW) (g:Int) (f:Int->qR->Res):Res:=jeD Z1c a g 0 λd b=>f b d
def jlW:Sig Unit:=sg [.inout y12 false,.borrow tI false] [false] [(y12,some [.O]),(tI,none)] [] λb g k=>ja8 b.1 b.2.1 (λf d=>k [wI f] [w1 y12 d .O] [])
theorem jff:SO 204 jlW:=fK (np:=1) (Za6 jaX Zas) [jdO] (oI 26 0 @jjB oN) false Tryz.func204 λ_ _ _ _=>by kernel_rfl
end
end Go.PI.G
namespace Go.PI.G
noncomputable section
open Go Go.PI Go.Proofs
open Go.Code (pl pr)
def jcE (a:List qW) (left:Int) (b:Int->Res):Res:=jcD a left λr=>bif decide (r<0) then b (-1) else b r
def jo6:Sig Unit:=sg [.look y12 true,.look tI false] [false] [(y12,none),(tI,none)] [] λb f k=>jcE b.1 b.2.1 (λd=>k [wI d] [] [])
theorem jhH:SO 183 jo6:=fK (np:=0) (Za6 jnA Zas) [] oN false Tryz.func183 λ_ _ _ _=>by kernel_rfl
def jcG (a:List qW) (b:qR->Res):Res:=jcF a λr=>b r
def jo9:Sig Unit:=sg [.borrow y12 true] [true] [(y12,none)] [] λd f k=>jcG d.1 (λb=>k [⟨y12,true,b,[.O]⟩] [] [])
theorem jhL:SO 192 jo9:=fK (np:=0) (Za6 jnB Zas) [] oN false Tryz.func192 λ_ _ _ _=>by kernel_rfl
def jcC (a:List qW) (b:List qW) (d:Bool->Res):Res:=jcB a b λr=>bif !r then d false else d true
def jo3:Sig Unit:=sg [.look y12 true,.look y12 true] [false] [(y12,none),(y12,none)] [] λb f k=>jcC b.1 b.2.1 (λd=>k [wB d] [] [])
theorem jhD:SO 202 jo3:=fK (np:=0) (Za6 jny Zas) [] oN false Tryz.func202 λ_ _ _ _=>by kernel_rfl
end
end Go.PI.G
namespace Go.PI.G
noncomputable section
open Go Go.PI Go.Proofs
open Go.Code (pl pr)
def j3N (a:List qR) (left:Int) (i:Int) (rec:Int->Int->Res) (b:Int->Res) (d:Unit->Res):Res:=bif decide (i<(nI (List.length a))) then bif inb i (List.length a) then jcE (nth [] a i) left λr=>bif decide (r<0) then d () else rec r (Z9K (i+1)) else none else b left
def jdH (a:List qR):(Int×Int)->(Int×Int->Res)->((Int->Res)×(Unit->Res))->Res:=λv rec q=>j3N a v.1 v.2 (λleft i=>rec (left,i)) q.1 q.2
def jbc (a:List qR) (n:Nat) (left:Int) (i:Int) (b:Int->Res) (d:Unit->Res):Res:=Z1f (jdH a) n (left,i) (b,d)
def jf0:Z1d Unit:=NdL 27 27 [.R 0 y13 .S,.I 1,.I 5] [] (λd f=>(d.2.1,d.2.2.1)) (λd v=>(d.1,v.1,v.2,())) (λf v=>()) (λd f=>jdH d.1) λd f g=>((λb=>g (.exit 0) [(1,vI b)] []),(λ_=>g .ret [(4,vI (-1))] []))
theorem jkJ:CN 0 122 Tryz.f131 jf0:=lK (Za6 jhH Zas) [] oN ([],[]) [(0,[1],[])] ([4],[]) λ_ _ _ _ _=>by kernel_rfl
def j8G (a:List qR) (left:Int) (d:Int->Res):Res:=bif decide ((Z9K (left-(nI (List.length a))))<0) then d (-1) else jbc a Z1c (Z9K (left-(nI (List.length a)))) 0 (λb=>d b) (λ_=>d (-1))
def jgJ:Sig Unit:=sg [.look y13 false,.look tI false] [false] [(y13,none),(tI,none)] [] λb f k=>j8G b.1 b.2.1 (λd=>k [wI d] [] [])
theorem jmd:SO 131 jgJ:=fK (np:=0) (Za6 jhH Zas) [jf0] (oI 122 0 @jkJ oN) false Tryz.func131 λ_ _ _ _=>by kernel_rfl
def j3P (a:List qR) (b:List qR) (i:Int) (rec:qX->Int->Res) (d:qX->Res):Res:=bif decide (i<(nI (List.length a))) then bif inb i (List.length a) then jcG (nth [] a i) λr=>bif inb i (List.length b) then rec (upd b i r) (Z9K (i+1)) else none else none else d b
def j9C (a:List qR):(qX×Int)->(qX×Int->Res)->((qX->Res))->Res:=λv rec q=>j3P a v.1 v.2 (λb i=>rec (b,i)) q
def jlr (a:List qR) (n:Nat) (b:List qR) (i:Int) (d:qX->Res):Res:=Z1f (j9C a) n (b,i) (d)
def jf2:Z1d Unit:=NdL 23 23 [.R 0 y13 .S,.R 3 y13 .O,.I 4] [] (λb f=>(b.2.1,b.2.2.1)) (λb v=>(b.1,v.1,v.2,())) (λf v=>()) (λb f=>j9C b.1) λb f g=>((λd=>g (.exit 0) [(3,v1 y13 d .O)] []))
theorem jkL:CN 0 58 Tryz.f136 jf2:=lK (Za6 jhL Zas) [] oN ([],[]) [(0,[3],[])] ([],[]) λ_ _ _ _ _=>by kernel_rfl
def j8J (a:List qR) (d:qX->Res):Res:=bif Z9I (nI (List.length a)) (nI (List.length a)) then jlr a Z1c (Z9h (nI (List.length a)) []) 0 λb=>d b else none
def jgK:Sig Unit:=sg [.borrow y13 false] [false] [(y13,none)] [] λd f k=>j8J d.1 (λb=>k [w1 y13 b .O] [] [])
theorem jmf:SO 136 jgK:=fK (np:=0) (Za6 jhL Zas) [jf2] (oI 58 0 @jkL oN) false Tryz.func136 λ_ _ _ _=>by kernel_rfl
def j3H (a:List qR) (b:List qR) (i:Int) (rec:Int->Res) (d:Unit->Res) (f:Unit->Res):Res:=bif decide (i<(nI (List.length a))) then bif inb i (List.length a) then bif inb i (List.length b) then jcC (nth [] a i) (nth [] b i) λr=>bif !r then f () else rec (Z9K (i+1)) else none else none else d ()
def jdB (a:List qR) (b:List qR):Int->(Int->Res)->((Unit->Res)×(Unit->Res))->Res:=λv rec q=>j3H a b v (λi=>rec (i)) q.1 q.2
def jfq (a:List qR) (b:List qR) (n:Nat) (i:Int) (d:Unit->Res) (f:Unit->Res):Res:=Z1f (jdB a b) n (i) (d,f)
def jeY:Z1d Unit:=NdL 27 27 [.R 0 y13 .S,.R 1 y13 .S,.I 5] [] (λb d=>(b.2.2.1)) (λb v=>(b.1,b.2.1,v,())) (λd v=>()) (λb d=>jdB b.1 b.2.1) λb d f=>((λ_=>f (.exit 0) [] []),(λ_=>f .ret [(4,vB false)] []))
theorem jkH:CN 0 58 Tryz.f142 jeY:=lK (Za6 jhD Zas) [] oN ([],[]) [(0,[],[])] ([4],[]) λ_ _ _ _ _=>by kernel_rfl
def j8A (a:List qR) (b:List qR) (d:Bool->Res):Res:=bif ((nI (List.length a)) != (nI (List.length b))) then d false else jfq a b Z1c 0 (λ_=>d true) (λ_=>d false)
def jgH:Sig Unit:=sg [.look y13 false,.look y13 false] [false] [(y13,none),(y13,none)] [] λb f k=>j8A b.1 b.2.1 (λd=>k [wB d] [] [])
theorem jma:SO 142 jgH:=fK (np:=0) (Za6 jhD Zas) [jeY] (oI 58 0 @jkH oN) false Tryz.func142 λ_ _ _ _=>by kernel_rfl
def j2r (a:List qR) (b:Int) (i:Int) (rec:qX->Int->Int->Res) (f:qX->Int->Res):Res:=bif decide (i<(nI (List.length a))) then bif inb i (List.length a) then ja8 (nth [] a i) b λr d=>rec (upd a i d) r (Z9K (i+1)) else none else f a b
def j7Y:(qX×Int×Int)->(qX×Int×Int->Res)->((qX->Int->Res))->Res:=λv rec q=>j2r v.1 v.2.1 v.2.2 (λa b i=>rec (a,b,i)) q
def jdF (n:Nat) (a:List qR) (d:Int) (i:Int) (b:qX->Int->Res):Res:=Z1f (j7Y) n (a,d,i) (b)
def jd0:Z1d Unit:=NdL 20 20 [.R 0 y13 .O,.I 1,.I 5] [] (λb f=>(b.1,b.2.1,b.2.2.1)) (λb v=>(v.1,v.2.1,v.2.2,())) (λf v=>()) (λb f=>j7Y) λb f h=>((λg d=>h (.exit 0) [(0,v1 y13 g .O),(1,vI d)] []))
theorem jiz:CN 1 26 Tryz.f144 jd0:=lK (Za6 jff Zas) [] oN ([],[]) [(0,[0,1],[])] ([],[]) λ_ _ _ _ _=>by kernel_rfl
def j6G (a:List qR) (g:Int) (f:Int->qX->Res):Res:=jdF Z1c a g 0 λd b=>f b d
def jeP:Sig Unit:=sg [.inout y13 false,.borrow tI false] [false] [(y13,some [.O]),(tI,none)] [] λb g k=>j6G b.1 b.2.1 (λf d=>k [wI f] [w1 y13 d .O] [])
theorem jkh:SO 144 jeP:=fK (np:=1) (Za6 jff Zas) [jd0] (oI 26 0 @jiz oN) false Tryz.func144 λ_ _ _ _=>by kernel_rfl
end
end Go.PI.G
namespace Go.PI.G
noncomputable section
open Go Go.PI Go.Proofs
open Go.Code (pl pr)
def jaQ (a:qF×List qR) (left:Int) (b:Int->Res):Res:=jbb a.1 left λr=>bif decide (r<0) then b (-1) else j8G a.2 r λd=>bif decide (d<0) then b (-1) else b d
def jg7:Sig Unit:=sg [.look y14 true,.look tI false] [false] [(y14,none),(tI,none)] [] λb f k=>jaQ b.1 b.2.1 (λd=>k [wI d] [] [])
theorem jps:SO 64 jg7:=fK (np:=0) (Za6 jop (Za6 jmd Zas)) [] oN false Tryz.func64 λ_ _ _ _=>by delta jaQ jj0 jgJ;refine gz jbb λ_ b=>gz j8G λ_ d=> ?_;rewrite [<-b,<-d];kernel_rfl
def j33 (a:qF×List qR) (b:qD->Res):Res:=jbf a.1 λr=>j8J a.2 λd=>b (r,d)
def ja1:Sig Unit:=sg [.borrow y14 true] [true] [(y14,none)] [] λd f k=>j33 d.1 (λb=>k [⟨y14,true,b,[.O,.O]⟩] [] [])
theorem jpt:SO 67 ja1:=fK (np:=0) (Za6 jor (Za6 jmf Zas)) [] oN false Tryz.func67 λ_ _ _ _=>by delta j33 jj3 jgK;refine gz jbf λ_ b=>gz j8J λ_ d=> ?_;rewrite [<-b,<-d];kernel_rfl
def jaP (a:qF×List qR) (b:qF×List qR) (d:Bool->Res):Res:=jb9 a.1 b.1 λr=>bif !r then d false else j8A a.2 b.2 λf=>bif !f then d false else d true
def jg6:Sig Unit:=sg [.look y14 true,.look y14 true] [false] [(y14,none),(y14,none)] [] λb f k=>jaP b.1 b.2.1 (λd=>k [wB d] [] [])
theorem jpr:SO 71 jg6:=fK (np:=0) (Za6 jon (Za6 jma Zas)) [] oN false Tryz.func71 λ_ _ _ _=>by delta jaP jiX jgH;refine gz jb9 λ_ b=>gz j8A λ_ d=> ?_;rewrite [<-b,<-d];kernel_rfl
def j7Q (a:qF×List qR) (g:Int) (f:Int->qD->Res):Res:=j8D a.1 g λr b=>j6G a.2 r λh d=>f h (b,d)
def jdg:Sig Unit:=sg [.inout y14 true,.borrow tI false] [false] [(y14,some [.O,.O]),(tI,none)] [] λb g k=>j7Q b.1 b.2.1 (λf d=>k [wI f] [⟨y14,true,d,[.O,.O]⟩] [])
theorem jnz:SO 72 jdg:=fK (np:=1) (Za6 jmc (Za6 jkh Zas)) [] oN false Tryz.func72 λ_ _ _ _=>by delta j7Q jgI jeP;refine gz j8D λ_ b=>gz j6G λ_ d=> ?_;rewrite [<-b,<-d];kernel_rfl
end
end Go.PI.G
namespace Go.PI.G
noncomputable section
open Go Go.PI Go.Proofs
open Go.Code (pl pr)
def j9h (a:qG) (left:Int) (b:Int->Res):Res:=bif decide ((Z9K (left-(nI (ByteArray.size a.2.1))))<0) then b (-1) else j63 a.2.2.1 (Z9K (left-(nI (ByteArray.size a.2.1)))) λr=>bif decide (r<0) then b (-1) else j2F a.2.2.2.1 r λd=>bif decide (d<0) then b (-1) else bif decide ((Z9K (d-(nI (ByteArray.size a.2.2.2.2.1))))<0) then b (-1) else bif decide ((Z9K ((Z9K (d-(nI (ByteArray.size a.2.2.2.2.1))))-(nI (ByteArray.size a.2.2.2.2.2))))<0) then b (-1) else b (Z9K ((Z9K (d-(nI (ByteArray.size a.2.2.2.2.1))))-(nI (ByteArray.size a.2.2.2.2.2))))
def jj1:Sig Unit:=sg [.look y19 true,.look tI false] [false] [(y19,none),(tI,none)] [] λb f k=>j9h b.1 b.2.1 (λd=>k [wI d] [] [])
theorem joq:SO 185 jj1:=fK (np:=0) (Za6 jee (Za6 jhG Zas)) [] oN false Tryz.func185 λ_ _ _ _=>by delta j9h jdh jar;refine gz j63 λ_ b=>gz j2F λ_ d=> ?_;rewrite [<-b,<-d];kernel_rfl
def j9j (a:qG) (b:qG->Res):Res:=j64 a.2.2.1 λr=>j2G a.2.2.2.1 λd=>b (a.1,a.2.1,r,d,a.2.2.2.2.1,a.2.2.2.2.2)
def jj4:Sig Unit:=sg [.borrow y19 true] [true] [(y19,none)] [] λd f k=>j9j d.1 (λb=>k [⟨y19,true,b,[.O,.O]⟩] [] [])
theorem jos:SO 194 jj4:=fK (np:=0) (Za6 jeh (Za6 jhK Zas)) [] oN false Tryz.func194 λ_ _ _ _=>by delta j9j jdi jas;refine gz j64 λ_ b=>gz j2G λ_ d=> ?_;rewrite [<-b,<-d];kernel_rfl
def j9f (a:qG) (b:qG) (d:Bool->Res):Res:=bif (a.1 != b.1) then d false else bif sNe a.2.1 b.2.1 then d false else j62 a.2.2.1 b.2.2.1 λr=>bif !r then d false else j2D a.2.2.2.1 b.2.2.2.1 λf=>bif !f then d false else bif sNe a.2.2.2.2.1 b.2.2.2.2.1 then d false else bif sNe a.2.2.2.2.2 b.2.2.2.2.2 then d false else d true
def jiY:Sig Unit:=sg [.look y19 true,.look y19 true] [false] [(y19,none),(y19,none)] [] λb f k=>j9f b.1 b.2.1 (λd=>k [wB d] [] [])
theorem joo:SO 200 jiY:=fK (np:=0) (Za6 jeb (Za6 jhC Zas)) [] oN false Tryz.func200 λ_ _ _ _=>by delta j9f jdf jap;refine gz j62 λ_ b=>gz j2D λ_ d=> ?_;rewrite [<-b,<-d];kernel_rfl
end
end Go.PI.G
namespace Go.PI.G
noncomputable section
open Go Go.PI Go.Proofs
open Go.Code (pl pr)
def j9W (a:qS) (left:Int) (b:Int->Res):Res:=bif decide ((Z9K (left-(nI (ByteArray.size a.2.1))))<0) then b (-1) else j7R a.2.2.1 (Z9K (left-(nI (ByteArray.size a.2.1)))) λr=>bif decide (r<0) then b (-1) else j9i a.2.2.2.1 r λd=>bif decide (d<0) then b (-1) else j9h a.2.2.2.2 d λf=>bif decide (f<0) then b (-1) else b f
def jo7:Sig Unit:=sg [.look y23 true,.look tI false] [false] [(y23,none),(tI,none)] [] λb f k=>j9W b.1 b.2.1 (λd=>k [wI d] [] [])
theorem jhI:SO 132 jo7:=fK (np:=0) (Za6 jhJ (Za6 jed (Za6 joq Zas))) [] oN false Tryz.func132 λ_ _ _ _=>by delta j9W jhV jj2 jj1;refine gz j7R λ_ b=>gz j9i λ_ d=>gz j9h λ_ f=> ?_;rewrite [<-b,<-d,<-f];kernel_rfl
def j9X (a:qS) (b:qS->Res):Res:=j7S a.2.2.1 λr=>j9k a.2.2.2.1 λd=>j9j a.2.2.2.2 λf=>b (a.1,a.2.1,r,d,f)
def joa:Sig Unit:=sg [.borrow y23 true] [true] [(y23,none)] [] λd f k=>j9X d.1 (λb=>k [⟨y23,true,b,[.O,.O,.O,.O]⟩] [] [])
theorem jhM:SO 137 joa:=fK (np:=0) (Za6 jhN (Za6 jeg (Za6 jos Zas))) [] oN false Tryz.func137 λ_ _ _ _=>by delta j9X jhW jj5 jj4;refine gz j7S λ_ b=>gz j9k λ_ d=>gz j9j λ_ f=> ?_;rewrite [<-b,<-d,<-f];kernel_rfl
def j9V (a:qS) (b:qS) (d:Bool->Res):Res:=bif (a.1 != b.1) then d false else bif sNe a.2.1 b.2.1 then d false else j7P a.2.2.1 b.2.2.1 λr=>bif !r then d false else j9g a.2.2.2.1 b.2.2.2.1 λf=>bif !f then d false else j9f a.2.2.2.2 b.2.2.2.2 λg=>bif !g then d false else d true
def jo4:Sig Unit:=sg [.look y23 true,.look y23 true] [false] [(y23,none),(y23,none)] [] λb f k=>j9V b.1 b.2.1 (λd=>k [wB d] [] [])
theorem jhE:SO 140 jo4:=fK (np:=0) (Za6 jhF (Za6 jea (Za6 joo Zas))) [] oN false Tryz.func140 λ_ _ _ _=>by delta j9V jhU jiZ jiY;refine gz j7P λ_ b=>gz j9g λ_ d=>gz j9f λ_ f=> ?_;rewrite [<-b,<-d,<-f];kernel_rfl
end
end Go.PI.G
