/-
  Program's code interpreted over typed values; printed texts; plain laws. No conditions.
-/
import Derived.Test.YtnemiodjnhfejaaGreatPc
import Derived.Test.YtnemiodjnhfejaaGreatRWd
import Derived.Test.YtnemiodjnhfejaaGreatRWh
import Derived.Test.YtnemiodjnhfejaaGreatRWe
set_option linter.unusedVariables false
set_option maxRecDepth 100000
namespace Go.PI.G
noncomputable section
open Go Go.PI Go.Proofs
open Go.Code (pl pr)
def j47 (a:List qV) (left:Int) (i:Int) (rec:Int->Int->Res) (b:Int->Res) (d:Unit->Res):Res:=bif decide (i<(nI (List.length a))) then bif inb i (List.length a) then jaH (nth (0,0,eS) a i) left λr=>bif decide (r<0) then d () else rec r (Z9K (i+1)) else none else b left
def jdS (a:List qV):(Int×Int)->(Int×Int->Res)->((Int->Res)×(Unit->Res))->Res:=λv rec q=>j47 a v.1 v.2 (λleft i=>rec (left,i)) q.1 q.2
def jbJ (a:List qV) (n:Nat) (left:Int) (i:Int) (b:Int->Res) (d:Unit->Res):Res:=Z1f (jdS a) n (left,i) (b,d)
def jeY:Z1d Unit:=NdL 27 27 [.R 0 y3 .S,.I 1,.I 5] [] (λd f=>(d.2.1,d.2.2.1)) (λd v=>(d.1,v.1,v.2,())) (λf v=>()) (λd f=>jdS d.1) λd f g=>((λb=>g (.exit 0) [(1,vI b)] []),(λ_=>g .ret [(4,vI (-1))] []))
theorem jkQ:CN 0 122 Tryz.f37 jeY:=lK (Za6 jdv Zas) [] oN ([],[]) [(0,[1],[])] ([4],[]) λ_ _ _ _ _=>by kernel_rfl
def j3v (a:List qV) (left:Int) (d:Int->Res):Res:=bif decide ((Z9K (left-(nI (List.length a))))<0) then d (-1) else jbJ a Z1c (Z9K (left-(nI (List.length a)))) 0 (λb=>d b) (λ_=>d (-1))
def j9x:Sig Unit:=sg [.look y3 false,.look tI false] [false] [(y3,none),(tI,none)] [] λb f k=>j3v b.1 b.2.1 (λd=>k [wI d] [] [])
theorem jcv:SO 37 j9x:=fK (np:=0) (Za6 jdv Zas) [jeY] (oI 122 0 @jkQ oN) false Tryz.func37 λ_ _ _ _=>by kernel_rfl
def j4a (a:List qV) (b:List qV) (i:Int) (rec:qW->Int->Res) (d:qW->Res):Res:=bif decide (i<(nI (List.length a))) then bif inb i (List.length a) then jaJ (nth (0,0,eS) a i) λr=>bif inb i (List.length b) then rec (upd b i r) (Z9K (i+1)) else none else none else d b
def j9L (a:List qV):(qW×Int)->(qW×Int->Res)->((qW->Res))->Res:=λv rec q=>j4a a v.1 v.2 (λb i=>rec (b,i)) q
def jlH (a:List qV) (n:Nat) (b:List qV) (i:Int) (d:qW->Res):Res:=Z1f (j9L a) n (b,i) (d)
def jf1:Z1d Unit:=NdL 23 23 [.R 0 y3 .S,.R 3 y3 .O,.I 4] [] (λb f=>(b.2.1,b.2.2.1)) (λb v=>(b.1,v.1,v.2,())) (λf v=>()) (λb f=>j9L b.1) λb f g=>((λd=>g (.exit 0) [(3,v1 y3 d .O)] []))
theorem jkT:CN 0 58 Tryz.f39 jf1:=lK (Za6 jdw Zas) [] oN ([],[]) [(0,[3],[])] ([],[]) λ_ _ _ _ _=>by kernel_rfl
def j0R (a:List qV) (d:qW->Res):Res:=bif Z9I (nI (List.length a)) (nI (List.length a)) then jlH a Z1c (Z9h (nI (List.length a)) (0,0,eS)) 0 λb=>d b else none
def j4H:Sig Unit:=sg [.borrow y3 false] [false] [(y3,none)] [] λd f k=>j0R d.1 (λb=>k [w1 y3 b .O] [] [])
theorem jcw:SO 39 j4H:=fK (np:=0) (Za6 jdw Zas) [jf1] (oI 58 0 @jkT oN) false Tryz.func39 λ_ _ _ _=>by kernel_rfl
def j3T (a:List qV) (b:List qV) (i:Int) (rec:Int->Res) (d:Unit->Res) (f:Unit->Res):Res:=bif decide (i<(nI (List.length a))) then bif inb i (List.length a) then bif inb i (List.length b) then jaF (nth (0,0,eS) a i) (nth (0,0,eS) b i) λr=>bif !r then f () else rec (Z9K (i+1)) else none else none else d ()
def jdK (a:List qV) (b:List qV):Int->(Int->Res)->((Unit->Res)×(Unit->Res))->Res:=λv rec q=>j3T a b v (λi=>rec (i)) q.1 q.2
def jg3 (a:List qV) (b:List qV) (n:Nat) (i:Int) (d:Unit->Res) (f:Unit->Res):Res:=Z1f (jdK a b) n (i) (d,f)
def jeV:Z1d Unit:=NdL 27 27 [.R 0 y3 .S,.R 1 y3 .S,.I 5] [] (λb d=>(b.2.2.1)) (λb v=>(b.1,b.2.1,v,())) (λd v=>()) (λb d=>jdK b.1 b.2.1) λb d f=>((λ_=>f (.exit 0) [] []),(λ_=>f .ret [(4,vB false)] []))
theorem jkN:CN 0 58 Tryz.f41 jeV:=lK (Za6 jdu Zas) [] oN ([],[]) [(0,[],[])] ([4],[]) λ_ _ _ _ _=>by kernel_rfl
def j3u (a:List qV) (b:List qV) (d:Bool->Res):Res:=bif ((nI (List.length a)) != (nI (List.length b))) then d false else jg3 a b Z1c 0 (λ_=>d true) (λ_=>d false)
def j9w:Sig Unit:=sg [.look y3 false,.look y3 false] [false] [(y3,none),(y3,none)] [] λb f k=>j3u b.1 b.2.1 (λd=>k [wB d] [] [])
theorem jcu:SO 41 j9w:=fK (np:=0) (Za6 jdu Zas) [jeV] (oI 58 0 @jkN oN) false Tryz.func41 λ_ _ _ _=>by kernel_rfl
def j2D (a:List qV) (b:Int) (i:Int) (rec:qW->Int->Int->Res) (d:qW->Int->Res):Res:=bif decide (i<(nI (List.length a))) then bif inb i (List.length a) then bif inb i (List.length (upd a i (b,(nth (0,0,eS) a i).2))) then j0k (Z9K ((Z9K (b+1))+1)) λr=>bif inb i (List.length (upd (upd a i (b,(nth (0,0,eS) a i).2)) i ((nth (0,0,eS) (upd a i (b,(nth (0,0,eS) a i).2)) i).1,Z9K (b+1),(nth (0,0,eS) (upd a i (b,(nth (0,0,eS) a i).2)) i).2.2))) then rec (upd (upd (upd a i (b,(nth (0,0,eS) a i).2)) i ((nth (0,0,eS) (upd a i (b,(nth (0,0,eS) a i).2)) i).1,Z9K (b+1),(nth (0,0,eS) (upd a i (b,(nth (0,0,eS) a i).2)) i).2.2)) i ((nth (0,0,eS) (upd (upd a i (b,(nth (0,0,eS) a i).2)) i ((nth (0,0,eS) (upd a i (b,(nth (0,0,eS) a i).2)) i).1,Z9K (b+1),(nth (0,0,eS) (upd a i (b,(nth (0,0,eS) a i).2)) i).2.2)) i).1,(nth (0,0,eS) (upd (upd a i (b,(nth (0,0,eS) a i).2)) i ((nth (0,0,eS) (upd a i (b,(nth (0,0,eS) a i).2)) i).1,Z9K (b+1),(nth (0,0,eS) (upd a i (b,(nth (0,0,eS) a i).2)) i).2.2)) i).2.1,r)) (Z9K ((Z9K ((Z9K (b+1))+1))+1)) (Z9K (i+1)) else none else none else none else d a b
def j7Y:(qW×Int×Int)->(qW×Int×Int->Res)->((qW->Int->Res))->Res:=λv rec q=>j2D v.1 v.2.1 v.2.2 (λa b i=>rec (a,b,i)) q
def jdP (n:Nat) (a:List qV) (d:Int) (i:Int) (b:qW->Int->Res):Res:=Z1f (j7Y) n (a,d,i) (b)
def jd4:Z1d Unit:=NdL 35 35 [.R 0 y3 .O,.I 1,.I 5] [] (λb f=>(b.1,b.2.1,b.2.2.1)) (λb v=>(v.1,v.2.1,v.2.2,())) (λf v=>()) (λb f=>j7Y) λb f h=>((λg d=>h (.exit 0) [(0,v1 y3 g .O),(1,vI d)] []))
theorem jiT:CN 1 26 Tryz.f51 jd4:=lK (Za6 j0j Zas) [] oN ([],[]) [(0,[0,1],[])] ([],[]) λ_ _ _ _ _=>by kernel_rfl
def j1o (a:List qV) (g:Int) (f:Int->qW->Res):Res:=jdP Z1c a g 0 λd b=>f b d
def j58:Sig Unit:=sg [.inout y3 false,.borrow tI false] [false] [(y3,some [.O]),(tI,none)] [] λb g k=>j1o b.1 b.2.1 (λf d=>k [wI f] [w1 y3 d .O] [])
theorem jaq:SO 51 j58:=fK (np:=1) (Za6 j0j Zas) [jd4] (oI 26 0 @jiT oN) false Tryz.func51 λ_ _ _ _=>by kernel_rfl
def j2B (a:List qV) (b:Int) (i:Int) (rec:Int->Int->Res) (f:Int->Res) (d:Unit->Res):Res:=bif decide (i<(nI (List.length a))) then bif inb i (List.length a) then bif ((nth (0,0,eS) a i).1 != b) then d () else bif inb i (List.length a) then bif ((nth (0,0,eS) a i).2.1 != (Z9K (b+1))) then d () else bif inb i (List.length a) then j0k (Z9K ((Z9K (b+1))+1)) λr=>bif sNe (nth (0,0,eS) a i).2.2 r then d () else rec (Z9K ((Z9K ((Z9K (b+1))+1))+1)) (Z9K (i+1)) else none else none else none else f b
def j7W (a:List qV):(Int×Int)->(Int×Int->Res)->((Int->Res)×(Unit->Res))->Res:=λv rec q=>j2B a v.1 v.2 (λb i=>rec (b,i)) q.1 q.2
def jdL (a:List qV) (n:Nat) (f:Int) (i:Int) (b:Int->Res) (d:Unit->Res):Res:=Z1f (j7W a) n (f,i) (b,d)
def jd0:Z1d Unit:=NdL 41 41 [.R 0 y3 .S,.I 1,.I 5] [] (λb f=>(b.2.1,b.2.2.1)) (λb v=>(b.1,v.1,v.2,())) (λf v=>()) (λb f=>j7W b.1) λb f g=>((λd=>g (.exit 0) [(1,vI d)] []),(λ_=>g .ret [(4,vI (-1))] []))
theorem jiF:CN 0 26 Tryz.f118 jd0:=lK (Za6 j0j Zas) [] oN ([],[]) [(0,[1],[])] ([4],[]) λ_ _ _ _ _=>by kernel_rfl
def j9r (a:List qV) (f:Int) (d:Int->Res):Res:=jdL a Z1c f 0 (λb=>d b) (λ_=>d (-1))
def jlb:Sig Unit:=sg [.look y3 false,.look tI false] [false] [(y3,none),(tI,none)] [] λb f k=>j9r b.1 b.2.1 (λd=>k [wI d] [] [])
theorem jke:SO 118 jlb:=fK (np:=0) (Za6 j0j Zas) [jd0] (oI 26 0 @jiF oN) false Tryz.func118 λ_ _ _ _=>by kernel_rfl
end
end Go.PI.G
namespace Go.PI.G
noncomputable section
open Go Go.PI Go.Proofs
open Go.Code (pl pr)
def jaG (a:List qV) (left:Int) (b:Int->Res):Res:=j3v a left λr=>bif decide (r<0) then b (-1) else b r
def jie:Sig Unit:=sg [.look y3 true,.look tI false] [false] [(y3,none),(tI,none)] [] λb f k=>jaG b.1 b.2.1 (λd=>k [wI d] [] [])
theorem jnF:SO 184 jie:=fK (np:=0) (Za6 jcv Zas) [] oN false Tryz.func184 λ_ _ _ _=>by kernel_rfl
def jaI (a:List qV) (b:qW->Res):Res:=j0R a λr=>b r
def jig:Sig Unit:=sg [.borrow y3 true] [true] [(y3,none)] [] λd f k=>jaI d.1 (λb=>k [⟨y3,true,b,[.O]⟩] [] [])
theorem jnH:SO 193 jig:=fK (np:=0) (Za6 jcw Zas) [] oN false Tryz.func193 λ_ _ _ _=>by kernel_rfl
def j1S (a:List qV) (b:List qV) (d:Bool->Res):Res:=j3u a b λr=>bif !r then d false else d true
def j6e:Sig Unit:=sg [.look y3 true,.look y3 true] [false] [(y3,none),(y3,none)] [] λb f k=>j1S b.1 b.2.1 (λd=>k [wB d] [] [])
theorem jhC:SO 50 j6e:=fK (np:=0) (Za6 jcu Zas) [] oN false Tryz.func50 λ_ _ _ _=>by kernel_rfl
def j7X (a:List qV) (f:Int) (d:Int->qW->Res):Res:=j1o a f λr b=>d r b
def jbQ:Sig Unit:=sg [.inout y3 true,.borrow tI false] [false] [(y3,some [.O]),(tI,none)] [] λb g k=>j7X b.1 b.2.1 (λf d=>k [wI f] [⟨y3,true,d,[.O]⟩] [])
theorem jlt:SO 52 jbQ:=fK (np:=1) (Za6 jaq Zas) [] oN false Tryz.func52 λ_ _ _ _=>by kernel_rfl
def j3U (a:List qV) (d:Int) (b:Int->Res):Res:=j9r a d λr=>bif decide (r<0) then b (-1) else b r
def j8B:Sig Unit:=sg [.look y3 true,.look tI false] [false] [(y3,none),(tI,none)] [] λb f k=>j3U b.1 b.2.1 (λd=>k [wI d] [] [])
theorem jls:SO 53 j8B:=fK (np:=0) (Za6 jke Zas) [] oN false Tryz.func53 λ_ _ _ _=>by kernel_rfl
end
end Go.PI.G
namespace Go.PI.G
noncomputable section
open Go Go.PI Go.Proofs
open Go.Code (pl pr)
def j9g (a:qS) (left:Int) (b:Int->Res):Res:=bif decide ((Z9K (left-(nI (ByteArray.size a.2.1))))<0) then b (-1) else j3v a.2.2.1 (Z9K (left-(nI (ByteArray.size a.2.1)))) λr=>bif decide (r<0) then b (-1) else jaG a.2.2.2.1 r λd=>bif decide (d<0) then b (-1) else j8w a.2.2.2.2 d λf=>bif decide (f<0) then b (-1) else b f
def jnm:Sig Unit:=sg [.look y17 true,.look tI false] [false] [(y17,none),(tI,none)] [] λb f k=>j9g b.1 b.2.1 (λd=>k [wI d] [] [])
theorem jmM:SO 132 jnm:=fK (np:=0) (Za6 jcv (Za6 jnF (Za6 jnE Zas))) [] oN false Tryz.func132 λ_ _ _ _=>by delta j9g j9x jie jid;refine gz j3v λ_ b=>gz jaG λ_ d=>gz j8w λ_ f=> ?_;rewrite [<-b,<-d,<-f];kernel_rfl
def j9i (a:qS) (b:qS->Res):Res:=j0R a.2.2.1 λr=>jaI a.2.2.2.1 λd=>j8x a.2.2.2.2 λf=>b (a.1,a.2.1,r,d,f)
def jnn:Sig Unit:=sg [.borrow y17 true] [true] [(y17,none)] [] λd f k=>j9i d.1 (λb=>k [⟨y17,true,b,[.O,.O,.O,.O]⟩] [] [])
theorem jmP:SO 137 jnn:=fK (np:=0) (Za6 jcw (Za6 jnH (Za6 jnG Zas))) [] oN false Tryz.func137 λ_ _ _ _=>by delta j9i j4H jig jif;refine gz j0R λ_ b=>gz jaI λ_ d=>gz j8x λ_ f=> ?_;rewrite [<-b,<-d,<-f];kernel_rfl
def j9d (a:qS) (b:qS) (d:Bool->Res):Res:=bif (a.1 != b.1) then d false else bif sNe a.2.1 b.2.1 then d false else j3u a.2.2.1 b.2.2.1 λr=>bif !r then d false else j1S a.2.2.2.1 b.2.2.2.1 λf=>bif !f then d false else j8v a.2.2.2.2 b.2.2.2.2 λg=>bif !g then d false else d true
def jnl:Sig Unit:=sg [.look y17 true,.look y17 true] [false] [(y17,none),(y17,none)] [] λb f k=>j9d b.1 b.2.1 (λd=>k [wB d] [] [])
theorem jmJ:SO 140 jnl:=fK (np:=0) (Za6 jcu (Za6 jhC (Za6 jnD Zas))) [] oN false Tryz.func140 λ_ _ _ _=>by delta j9d j9w j6e jic;refine gz j3u λ_ b=>gz j1S λ_ d=>gz j8v λ_ f=> ?_;rewrite [<-b,<-d,<-f];kernel_rfl
end
end Go.PI.G
namespace Go.PI.G
noncomputable section
open Go Go.PI Go.Proofs
open Go.Code (pl pr)
def jdc (a:Int×Int×qS) (left:Int) (b:Int->Res):Res:=j9g a.2.2 left λr=>bif decide (r<0) then b (-1) else b r
def jou:Sig Unit:=sg [.look y19 true,.look tI false] [false] [(y19,none),(tI,none)] [] λb f k=>jdc b.1 b.2.1 (λd=>k [wI d] [] [])
theorem jhF:SO 75 jou:=fK (np:=0) (Za6 jmM Zas) [] oN false Tryz.func75 λ_ _ _ _=>by kernel_rfl
def jde (a:Int×Int×qS) (b:qP->Res):Res:=j9i a.2.2 λr=>b (a.1,a.2.1,r)
def jox:Sig Unit:=sg [.borrow y19 true] [true] [(y19,none)] [] λd f k=>jde d.1 (λb=>k [⟨y19,true,b,[.O,.O,.O,.O]⟩] [] [])
theorem jhH:SO 77 jox:=fK (np:=0) (Za6 jmP Zas) [] oN false Tryz.func77 λ_ _ _ _=>by kernel_rfl
def jda (a:Int×Int×qS) (b:Int×Int×qS) (d:Bool->Res):Res:=bif (a.1 != b.1) then d false else bif (a.2.1 != b.2.1) then d false else j9d a.2.2 b.2.2 λr=>bif !r then d false else d true
def jor:Sig Unit:=sg [.look y19 true,.look y19 true] [false] [(y19,none),(y19,none)] [] λb f k=>jda b.1 b.2.1 (λd=>k [wB d] [] [])
theorem jhB:SO 79 jor:=fK (np:=0) (Za6 jmJ Zas) [] oN false Tryz.func79 λ_ _ _ _=>by kernel_rfl
end
end Go.PI.G
namespace Go.PI.G
noncomputable section
open Go Go.PI Go.Proofs
open Go.Code (pl pr)
def j46 (a:List qP) (left:Int) (i:Int) (rec:Int->Int->Res) (b:Int->Res) (d:Unit->Res):Res:=bif decide (i<(nI (List.length a))) then bif inb i (List.length a) then jdc (nth (0,0,0,eS,[],[],0,eS,[],[],eS,eS) a i) left λr=>bif decide (r<0) then d () else rec r (Z9K (i+1)) else none else b left
def jdR (a:List qP):(Int×Int)->(Int×Int->Res)->((Int->Res)×(Unit->Res))->Res:=λv rec q=>j46 a v.1 v.2 (λleft i=>rec (left,i)) q.1 q.2
def jbI (a:List qP) (n:Nat) (left:Int) (i:Int) (b:Int->Res) (d:Unit->Res):Res:=Z1f (jdR a) n (left,i) (b,d)
def jeX:Z1d Unit:=NdL 27 27 [.R 0 y20 .S,.I 1,.I 5] [] (λd f=>(d.2.1,d.2.2.1)) (λd v=>(d.1,v.1,v.2,())) (λf v=>()) (λd f=>jdR d.1) λd f g=>((λb=>g (.exit 0) [(1,vI b)] []),(λ_=>g .ret [(4,vI (-1))] []))
theorem jkP:CN 0 122 Tryz.f26 jeX:=lK (Za6 jhF Zas) [] oN ([],[]) [(0,[1],[])] ([4],[]) λ_ _ _ _ _=>by kernel_rfl
def j9f (a:List qP) (left:Int) (d:Int->Res):Res:=bif decide ((Z9K (left-(nI (List.length a))))<0) then d (-1) else jbI a Z1c (Z9K (left-(nI (List.length a)))) 0 (λb=>d b) (λ_=>d (-1))
def jcG:Sig Unit:=sg [.look y20 false,.look tI false] [false] [(y20,none),(tI,none)] [] λb f k=>j9f b.1 b.2.1 (λd=>k [wI d] [] [])
theorem jmL:SO 26 jcG:=fK (np:=0) (Za6 jhF Zas) [jeX] (oI 122 0 @jkP oN) false Tryz.func26 λ_ _ _ _=>by kernel_rfl
def j49 (a:List qP) (b:List qP) (i:Int) (rec:(List qP)->Int->Res) (d:(List qP)->Res):Res:=bif decide (i<(nI (List.length a))) then bif inb i (List.length a) then jde (nth (0,0,0,eS,[],[],0,eS,[],[],eS,eS) a i) λr=>bif inb i (List.length b) then rec (upd b i r) (Z9K (i+1)) else none else none else d b
def j9K (a:List qP):((List qP)×Int)->((List qP)×Int->Res)->(((List qP)->Res))->Res:=λv rec q=>j49 a v.1 v.2 (λb i=>rec (b,i)) q
def jlG (a:List qP) (n:Nat) (b:List qP) (i:Int) (d:(List qP)->Res):Res:=Z1f (j9K a) n (b,i) (d)
def jf0:Z1d Unit:=NdL 23 23 [.R 0 y20 .S,.R 3 y20 .O,.I 4] [] (λb f=>(b.2.1,b.2.2.1)) (λb v=>(b.1,v.1,v.2,())) (λf v=>()) (λb f=>j9K b.1) λb f g=>((λd=>g (.exit 0) [(3,v1 y20 d .O)] []))
theorem jkS:CN 0 58 Tryz.f28 jf0:=lK (Za6 jhH Zas) [] oN ([],[]) [(0,[3],[])] ([],[]) λ_ _ _ _ _=>by kernel_rfl
def j1O (a:List qP) (d:(List qP)->Res):Res:=bif Z9I (nI (List.length a)) (nI (List.length a)) then jlG a Z1c (Z9h (nI (List.length a)) (0,0,0,eS,[],[],0,eS,[],[],eS,eS)) 0 λb=>d b else none
def j7e:Sig Unit:=sg [.borrow y20 false] [false] [(y20,none)] [] λd f k=>j1O d.1 (λb=>k [w1 y20 b .O] [] [])
theorem jmO:SO 28 j7e:=fK (np:=0) (Za6 jhH Zas) [jf0] (oI 58 0 @jkS oN) false Tryz.func28 λ_ _ _ _=>by kernel_rfl
def j3S (a:List qP) (b:List qP) (i:Int) (rec:Int->Res) (d:Unit->Res) (f:Unit->Res):Res:=bif decide (i<(nI (List.length a))) then bif inb i (List.length a) then bif inb i (List.length b) then jda (nth (0,0,0,eS,[],[],0,eS,[],[],eS,eS) a i) (nth (0,0,0,eS,[],[],0,eS,[],[],eS,eS) b i) λr=>bif !r then f () else rec (Z9K (i+1)) else none else none else d ()
def jdJ (a:List qP) (b:List qP):Int->(Int->Res)->((Unit->Res)×(Unit->Res))->Res:=λv rec q=>j3S a b v (λi=>rec (i)) q.1 q.2
def jg2 (a:List qP) (b:List qP) (n:Nat) (i:Int) (d:Unit->Res) (f:Unit->Res):Res:=Z1f (jdJ a b) n (i) (d,f)
def jeU:Z1d Unit:=NdL 27 27 [.R 0 y20 .S,.R 1 y20 .S,.I 5] [] (λb d=>(b.2.2.1)) (λb v=>(b.1,b.2.1,v,())) (λd v=>()) (λb d=>jdJ b.1 b.2.1) λb d f=>((λ_=>f (.exit 0) [] []),(λ_=>f .ret [(4,vB false)] []))
theorem jkM:CN 0 58 Tryz.f30 jeU:=lK (Za6 jhB Zas) [] oN ([],[]) [(0,[],[])] ([4],[]) λ_ _ _ _ _=>by kernel_rfl
def j9c (a:List qP) (b:List qP) (d:Bool->Res):Res:=bif ((nI (List.length a)) != (nI (List.length b))) then d false else jg2 a b Z1c 0 (λ_=>d true) (λ_=>d false)
def jcF:Sig Unit:=sg [.look y20 false,.look y20 false] [false] [(y20,none),(y20,none)] [] λb f k=>j9c b.1 b.2.1 (λd=>k [wB d] [] [])
theorem jmI:SO 30 jcF:=fK (np:=0) (Za6 jhB Zas) [jeU] (oI 58 0 @jkM oN) false Tryz.func30 λ_ _ _ _=>by kernel_rfl
theorem j0X:FS [(51,j58),(98,jcm),(110,j7D),(111,jeI)]:=(Za6 jaq (Za6 jhD (Za6 j0j (Za6 jkf Zas))))
def j3Y (a:List qP) (d:Int) (i:Int) (b:(List qP)->Res):Res:=bif inb i (List.length a) then b (upd a i ((nth (0,0,0,eS,[],[],0,eS,[],[],eS,eS) a i).1,(nth (0,0,0,eS,[],[],0,eS,[],[],eS,eS) a i).2.1,d,(nth (0,0,0,eS,[],[],0,eS,[],[],eS,eS) a i).2.2.2)) else none
def j0p:Z1d Unit:=Nd 118 118 [.R 0 y20 .O,.I 1,.I 5] [] λb g f=>j3Y b.1 b.2.1 b.2.2.1 (λd=>f .normal [(0,v1 y20 d .O),(1,vI b.2.1),(5,vI b.2.2.1)] [])
theorem jiL:CN 1 13470 Tryz.f45 j0p:=nK j0X [] oN ([0,1,5],[]) [] ([],[]) λ_ _ _=>by kernel_rfl
def j3Z (a:List qP) (f:Int) (i:Int) (d:(List qP)->Int->Res):Res:=bif inb i (List.length a) then j1o (nth (0,0,0,eS,[],[],0,eS,[],[],eS,eS) a i).2.2.2.2.1 f λr b=>d (upd a i ((nth (0,0,0,eS,[],[],0,eS,[],[],eS,eS) a i).1,(nth (0,0,0,eS,[],[],0,eS,[],[],eS,eS) a i).2.1,(nth (0,0,0,eS,[],[],0,eS,[],[],eS,eS) a i).2.2.1,(nth (0,0,0,eS,[],[],0,eS,[],[],eS,eS) a i).2.2.2.1,b,(nth (0,0,0,eS,[],[],0,eS,[],[],eS,eS) a i).2.2.2.2.2)) r else none
def j0E:Z1d Unit:=Nd 118 118 [.R 0 y20 .O,.I 1,.I 5] [] λb h g=>j3Z b.1 b.2.1 b.2.2.1 (λf d=>g .normal [(0,v1 y20 f .O),(1,vI d),(5,vI b.2.2.1)] [])
theorem jiM:CN 1 215550 Tryz.f45 j0E:=nK j0X [j0p] oN ([0,1,5],[]) [] ([],[]) λ_ _ _=>by kernel_rfl
def j40 (a:List qP) (d:Int) (i:Int) (b:(List qP)->Res):Res:=bif inb i (List.length a) then b (upd a i ((nth (0,0,0,eS,[],[],0,eS,[],[],eS,eS) a i).1,(nth (0,0,0,eS,[],[],0,eS,[],[],eS,eS) a i).2.1,(nth (0,0,0,eS,[],[],0,eS,[],[],eS,eS) a i).2.2.1,(nth (0,0,0,eS,[],[],0,eS,[],[],eS,eS) a i).2.2.2.1,(nth (0,0,0,eS,[],[],0,eS,[],[],eS,eS) a i).2.2.2.2.1,(nth (0,0,0,eS,[],[],0,eS,[],[],eS,eS) a i).2.2.2.2.2.1,d,(nth (0,0,0,eS,[],[],0,eS,[],[],eS,eS) a i).2.2.2.2.2.2.2)) else none
def j0V:Z1d Unit:=Nd 118 118 [.R 0 y20 .O,.I 1,.I 5] [] λb g f=>j40 b.1 b.2.1 b.2.2.1 (λd=>f .normal [(0,v1 y20 d .O),(1,vI b.2.1),(5,vI b.2.2.1)] [])
theorem jiN:CN 1 862206 Tryz.f45 j0V:=nK j0X [j0p,j0E] oN ([0,1,5],[]) [] ([],[]) λ_ _ _=>by kernel_rfl
def j41 (a:List qP) (f:Int) (i:Int) (d:(List qP)->Int->Res):Res:=bif inb i (List.length a) then j9s (nth (0,0,0,eS,[],[],0,eS,[],[],eS,eS) a i).2.2.2.2.2.2.2.2.1 f λr b=>d (upd a i ((nth (0,0,0,eS,[],[],0,eS,[],[],eS,eS) a i).1,(nth (0,0,0,eS,[],[],0,eS,[],[],eS,eS) a i).2.1,(nth (0,0,0,eS,[],[],0,eS,[],[],eS,eS) a i).2.2.1,(nth (0,0,0,eS,[],[],0,eS,[],[],eS,eS) a i).2.2.2.1,(nth (0,0,0,eS,[],[],0,eS,[],[],eS,eS) a i).2.2.2.2.1,(nth (0,0,0,eS,[],[],0,eS,[],[],eS,eS) a i).2.2.2.2.2.1,(nth (0,0,0,eS,[],[],0,eS,[],[],eS,eS) a i).2.2.2.2.2.2.1,(nth (0,0,0,eS,[],[],0,eS,[],[],eS,eS) a i).2.2.2.2.2.2.2.1,b,(nth (0,0,0,eS,[],[],0,eS,[],[],eS,eS) a i).2.2.2.2.2.2.2.2.2)) r else none
def j1d:Z1d Unit:=Nd 118 118 [.R 0 y20 .O,.I 1,.I 5] [] λb h g=>j41 b.1 b.2.1 b.2.2.1 (λf d=>g .normal [(0,v1 y20 f .O),(1,vI d),(5,vI b.2.2.1)] [])
theorem jiO:CN 1 13795326 Tryz.f45 j1d:=nK j0X [j0p,j0E,j0V] oN ([0,1,5],[]) [] ([],[]) λ_ _ _=>by kernel_rfl
def j42 (a:List qP) (f:Int) (i:Int) (d:(List qP)->Int->Res):Res:=bif inb i (List.length a) then j6K (nth (0,0,0,eS,[],[],0,eS,[],[],eS,eS) a i).2.2.2.2.2.2.2.2.2.1 f λr b=>d (upd a i ((nth (0,0,0,eS,[],[],0,eS,[],[],eS,eS) a i).1,(nth (0,0,0,eS,[],[],0,eS,[],[],eS,eS) a i).2.1,(nth (0,0,0,eS,[],[],0,eS,[],[],eS,eS) a i).2.2.1,(nth (0,0,0,eS,[],[],0,eS,[],[],eS,eS) a i).2.2.2.1,(nth (0,0,0,eS,[],[],0,eS,[],[],eS,eS) a i).2.2.2.2.1,(nth (0,0,0,eS,[],[],0,eS,[],[],eS,eS) a i).2.2.2.2.2.1,(nth (0,0,0,eS,[],[],0,eS,[],[],eS,eS) a i).2.2.2.2.2.2.1,(nth (0,0,0,eS,[],[],0,eS,[],[],eS,eS) a i).2.2.2.2.2.2.2.1,(nth (0,0,0,eS,[],[],0,eS,[],[],eS,eS) a i).2.2.2.2.2.2.2.2.1,b,(nth (0,0,0,eS,[],[],0,eS,[],[],eS,eS) a i).2.2.2.2.2.2.2.2.2.2)) r else none
def j27:Z1d Unit:=Nd 118 118 [.R 0 y20 .O,.I 1,.I 5] [] λb h g=>j42 b.1 b.2.1 b.2.2.1 (λf d=>g .normal [(0,v1 y20 f .O),(1,vI d),(5,vI b.2.2.1)] [])
theorem jiP:CN 1 27590654 Tryz.f45 j27:=nK j0X [j0p,j0E,j0V,j1d] oN ([0,1,5],[]) [] ([],[]) λ_ _ _=>by kernel_rfl
def j43 (a:List qP) (d:Int) (i:Int) (b:(List qP)->Res):Res:=j0k d λr=>bif inb i (List.length a) then b (upd a i ((nth (0,0,0,eS,[],[],0,eS,[],[],eS,eS) a i).1,(nth (0,0,0,eS,[],[],0,eS,[],[],eS,eS) a i).2.1,(nth (0,0,0,eS,[],[],0,eS,[],[],eS,eS) a i).2.2.1,(nth (0,0,0,eS,[],[],0,eS,[],[],eS,eS) a i).2.2.2.1,(nth (0,0,0,eS,[],[],0,eS,[],[],eS,eS) a i).2.2.2.2.1,(nth (0,0,0,eS,[],[],0,eS,[],[],eS,eS) a i).2.2.2.2.2.1,(nth (0,0,0,eS,[],[],0,eS,[],[],eS,eS) a i).2.2.2.2.2.2.1,(nth (0,0,0,eS,[],[],0,eS,[],[],eS,eS) a i).2.2.2.2.2.2.2.1,(nth (0,0,0,eS,[],[],0,eS,[],[],eS,eS) a i).2.2.2.2.2.2.2.2.1,(nth (0,0,0,eS,[],[],0,eS,[],[],eS,eS) a i).2.2.2.2.2.2.2.2.2.1,r,(nth (0,0,0,eS,[],[],0,eS,[],[],eS,eS) a i).2.2.2.2.2.2.2.2.2.2.2)) else none
def j3m:Z1d Unit:=Nd 118 118 [.R 0 y20 .O,.I 1,.I 5] [] λb g f=>j43 b.1 b.2.1 b.2.2.1 (λd=>f .normal [(0,v1 y20 d .O),(1,vI b.2.1),(5,vI b.2.2.1)] [])
theorem jiQ:CN 1 55181310 Tryz.f45 j3m:=nK j0X [j0p,j0E,j0V,j1d,j27] oN ([0,1,5],[]) [] ([],[]) λ_ _ _=>by kernel_rfl
def j44 (a:List qP) (d:Int) (i:Int) (b:(List qP)->Res):Res:=j0k d λr=>bif inb i (List.length a) then b (upd a i ((nth (0,0,0,eS,[],[],0,eS,[],[],eS,eS) a i).1,(nth (0,0,0,eS,[],[],0,eS,[],[],eS,eS) a i).2.1,(nth (0,0,0,eS,[],[],0,eS,[],[],eS,eS) a i).2.2.1,(nth (0,0,0,eS,[],[],0,eS,[],[],eS,eS) a i).2.2.2.1,(nth (0,0,0,eS,[],[],0,eS,[],[],eS,eS) a i).2.2.2.2.1,(nth (0,0,0,eS,[],[],0,eS,[],[],eS,eS) a i).2.2.2.2.2.1,(nth (0,0,0,eS,[],[],0,eS,[],[],eS,eS) a i).2.2.2.2.2.2.1,(nth (0,0,0,eS,[],[],0,eS,[],[],eS,eS) a i).2.2.2.2.2.2.2.1,(nth (0,0,0,eS,[],[],0,eS,[],[],eS,eS) a i).2.2.2.2.2.2.2.2.1,(nth (0,0,0,eS,[],[],0,eS,[],[],eS,eS) a i).2.2.2.2.2.2.2.2.2.1,(nth (0,0,0,eS,[],[],0,eS,[],[],eS,eS) a i).2.2.2.2.2.2.2.2.2.2.1,r)) else none
def j5N:Z1d Unit:=Nd 118 118 [.R 0 y20 .O,.I 1,.I 5] [] λb g f=>j44 b.1 b.2.1 b.2.2.1 (λd=>f .normal [(0,v1 y20 d .O),(1,vI b.2.1),(5,vI b.2.2.1)] [])
theorem jiR:CN 1 220725246 Tryz.f45 j5N:=nK j0X [j0p,j0E,j0V,j1d,j27,j3m] oN ([0,1,5],[]) [] ([],[]) λ_ _ _=>by kernel_rfl
def j1C (a:List qP) (f:Int) (i:Int) (rec:(List qP)->Int->Int->Res) (y:(List qP)->Int->Res):Res:=bif decide (i<(nI (List.length a))) then bif inb i (List.length a) then bif inb i (List.length (upd a i (f,(nth (0,0,0,eS,[],[],0,eS,[],[],eS,eS) a i).2))) then j3Y (upd (upd a i (f,(nth (0,0,0,eS,[],[],0,eS,[],[],eS,eS) a i).2)) i ((nth (0,0,0,eS,[],[],0,eS,[],[],eS,eS) (upd a i (f,(nth (0,0,0,eS,[],[],0,eS,[],[],eS,eS) a i).2)) i).1,Z9K (f+1),(nth (0,0,0,eS,[],[],0,eS,[],[],eS,eS) (upd a i (f,(nth (0,0,0,eS,[],[],0,eS,[],[],eS,eS) a i).2)) i).2.2)) (Z9K ((Z9K (f+1))+1)) i λh=>j0k (Z9K ((Z9K ((Z9K (f+1))+1))+1)) λr=>bif inb i (List.length h) then j3Z (upd h i ((nth (0,0,0,eS,[],[],0,eS,[],[],eS,eS) h i).1,(nth (0,0,0,eS,[],[],0,eS,[],[],eS,eS) h i).2.1,(nth (0,0,0,eS,[],[],0,eS,[],[],eS,eS) h i).2.2.1,r,(nth (0,0,0,eS,[],[],0,eS,[],[],eS,eS) h i).2.2.2.2)) (Z9K ((Z9K ((Z9K ((Z9K (f+1))+1))+1))+1)) i λd j=>bif inb i (List.length d) then j1o (nth (0,0,0,eS,[],[],0,eS,[],[],eS,eS) d i).2.2.2.2.2.1 j λl m=>j40 (upd d i ((nth (0,0,0,eS,[],[],0,eS,[],[],eS,eS) d i).1,(nth (0,0,0,eS,[],[],0,eS,[],[],eS,eS) d i).2.1,(nth (0,0,0,eS,[],[],0,eS,[],[],eS,eS) d i).2.2.1,(nth (0,0,0,eS,[],[],0,eS,[],[],eS,eS) d i).2.2.2.1,(nth (0,0,0,eS,[],[],0,eS,[],[],eS,eS) d i).2.2.2.2.1,m,(nth (0,0,0,eS,[],[],0,eS,[],[],eS,eS) d i).2.2.2.2.2.2)) l i λb=>j0k (Z9K (l+1)) λz=>bif inb i (List.length b) then j41 (upd b i ((nth (0,0,0,eS,[],[],0,eS,[],[],eS,eS) b i).1,(nth (0,0,0,eS,[],[],0,eS,[],[],eS,eS) b i).2.1,(nth (0,0,0,eS,[],[],0,eS,[],[],eS,eS) b i).2.2.1,(nth (0,0,0,eS,[],[],0,eS,[],[],eS,eS) b i).2.2.2.1,(nth (0,0,0,eS,[],[],0,eS,[],[],eS,eS) b i).2.2.2.2.1,(nth (0,0,0,eS,[],[],0,eS,[],[],eS,eS) b i).2.2.2.2.2.1,(nth (0,0,0,eS,[],[],0,eS,[],[],eS,eS) b i).2.2.2.2.2.2.1,z,(nth (0,0,0,eS,[],[],0,eS,[],[],eS,eS) b i).2.2.2.2.2.2.2.2)) (Z9K ((Z9K (l+1))+1)) i λn k=>j42 n k i λp g=>j43 p g i λq=>j44 q (Z9K (g+1)) i λw=>rec w (Z9K ((Z9K (g+1))+1)) (Z9K (i+1)) else none else none else none else none else none else y a f
def j54:((List qP)×Int×Int)->((List qP)×Int×Int->Res)->(((List qP)->Int->Res))->Res:=λv rec q=>j1C v.1 v.2.1 v.2.2 (λa b i=>rec (a,b,i)) q
def jdN (n:Nat) (a:List qP) (d:Int) (i:Int) (b:(List qP)->Int->Res):Res:=Z1f (j54) n (a,d,i) (b)
def jd2:Z1d Unit:=NdL 118 118 [.R 0 y20 .O,.I 1,.I 5] [] (λb f=>(b.1,b.2.1,b.2.2.1)) (λb v=>(v.1,v.2.1,v.2.2,())) (λf v=>()) (λb f=>j54) λb f h=>((λg d=>h (.exit 0) [(0,v1 y20 g .O),(1,vI d)] []))
theorem jiK:CN 1 26 Tryz.f45 jd2:=lK j0X [j0p,j0E,j0V,j1d,j27,j3m,j5N] (oI 414 0 @jiL (oI 6654 1 @jiM (oI 26622 2 @jiN (oI 425982 3 @jiO (oI 851966 4 @jiP (oI 1703934 5 @jiQ (oI 6815742 6 @jiR oN))))))) ([],[]) [(0,[0,1],[])] ([],[]) λ_ _ _ _ _=>by delta j54 j1C j0p j7D j0E j58 j0V j1d j27 j3m j5N;refine gz j3Y λ_ b=>gz j0k λ_ d=>gz j3Z λ_ f=>gz j1o λ_ g=>gz j40 λ_ h=>gz j41 λ_ i=>gz j42 λ_ j=>gz j43 λ_ k=>gz j44 λ_ l=> ?_;rewrite [<-b,<-d,<-f,<-g,<-h,<-i,<-j,<-k,<-l];kernel_rfl
def j7d (a:List qP) (g:Int) (f:Int->(List qP)->Res):Res:=jdN Z1c a g 0 λd b=>f b d
def jaS:Sig Unit:=sg [.inout y20 false,.borrow tI false] [false] [(y20,some [.O]),(tI,none)] [] λb g k=>j7d b.1 b.2.1 (λf d=>k [wI f] [w1 y20 d .O] [])
theorem jkg:SO 45 jaS:=fK (np:=1) j0X [j0p,j0E,j0V,j1d,j27,j3m,j5N,jd2] (oI 26 7 @jiK oN) false Tryz.func45 λ_ _ _ _=>by kernel_rfl
end
end Go.PI.G
namespace Go.PI.G
noncomputable section
open Go Go.PI Go.Proofs
open Go.Code (pl pr)
theorem j2L:Fns Tryz.prog [(26,jcG),(28,j7e),(30,jcF),(37,j9x),(39,j4H),(41,j9w),(45,jaS),(48,jbS),(49,j8A),(50,j6e),(51,j58),(52,jbQ),(53,j8B)]:=(Za6 jmL (Za6 jmO (Za6 jmI (Za6 jcv (Za6 jcw (Za6 jcu (Za6 jkg (Za6 jlv (Za6 jln (Za6 jhC (Za6 jaq (Za6 jlt (Za6 jls Zas)))))))))))))
def j1j (i:List qP) (d:qB) (f:List qV) (b:Int) (w1:Bool) (m:Int) (q:List qV) (j:List qV) (g:Bool->Res):Res:=j1O i λr=>j0R f λk=>j2y r d k b λl n=>j1S l q λp=>bif !p then g false else bif !(n==w1) then g false else j3U j 1 λh=>bif decide (h<0) then g false else bif (h != m) then g false else g true
def j1c:Z1d Unit:=λσ k=>rdN σ 132<|rd1 σ 0 y20 .S λg=>rdS σ 1 λd=>rd1 σ 2 y3 .S λf=>rdI σ 3 λb=>rdT σ 10 (pB 10)<|rdO σ 11 λw1=>rdT σ 14 (pB 14)<|rdI σ 17 λm=>rdB σ 10 y3 [.O] λa j=>rdB σ 14 y3 [.O] λl h=>j1j g d f b w1 m j h (λi=>k .ret (mkS 132 132 [(8,vB i)] []))
theorem jeh:CN 0 33554431 Tryz.f10 j1c:=λp=>jiu follows j1v j2L p [] oN ([],[]) [] ([8],[]) λσ k _ h=>rN h λF h=>rV h λH B h=>rV h λg C h=>rV h λq D h=>rV h λf E h=>rT h λi h=>rV h λw1 j h=>rT h λl h=>rV h λm n h=>rB h λa J b h=>rB h λG I d h=>⟨_,ZaM (m:=132) F (sC B (sC C (sC D (sC E (sC i (sC j (sC l (sC n sN)))))))) (bC b (bC d bN)),.trans (by delta j1j j7e j4H j8A j6e j8B;refine gz j1O λ_ r=>gz j0R λ_ w=>gz j2y λ_ y=>gz j1S λ_ z=>gz j3U λ_ A=> ?_;rewrite [<-r,<-w,<-y,<-z,<-A];kernel_rfl) h⟩
def j1k (m:List qP) (d:qB) (g:List qV) (b:Int) (w1:Bool) (w:List qP) (y:List qV) (n:Bool) (l:List qV) (i:List qV) (f:Bool->Res):Res:=j7d w 1 λr z=>j1o y r λp A=>bif decide (p<0) then f false else j1S i l λq=>bif !q then f false else bif !(n==w1) then f false else j7X i 1 λj h=>j3U h 1 λk=>bif decide (k<0) then f false else bif (k != j) then f false else j1j m d g b w1 j l h λt=>f t
def j2e:Z1d Unit:=λσ k=>rdN σ 132<|rd1 σ 0 y20 .S λg=>rdS σ 1 λd=>rd1 σ 2 y3 .S λf=>rdI σ 3 λb=>rdT σ 10 (pB 10)<|rdO σ 11 λw1=>rd1 σ 12 y20 .O λm=>rd1 σ 13 y3 .O λn=>rdT σ 14 (pB 14)<|rdO σ 15 λi=>rdB σ 10 y3 [.O] λa l=>rdB σ 14 y3 [.O] λp h=>j1k g d f b w1 m n i l h (λj=>k .ret (mkS 132 132 [(8,vB j)] []))
theorem jei:CN 0 32767 Tryz.f10 j2e:=λr=>jiu follows j1v j2L r [j1c] (oI 2047 0 @jeh oN) ([],[]) [] ([8],[]) λσ k _ h=>rN h λI h=>rV h λK E h=>rV h λg F h=>rV h λw G h=>rV h λf H h=>rT h λi h=>rV h λw1 j h=>rV h λQ l h=>rV h λR n h=>rT h λp h=>rV h λM q h=>rB h λa P b h=>rB h λJ L d h=>⟨_,ZaM (m:=132) I (sC E (sC F (sC G (sC H (sC i (sC j (sC l (sC n (sC p (sC q sN)))))))))) (bC b (bC d bN)),.trans (by delta j1k jaS j58 j6e jbQ j8B j1c;refine gz j7d λ_ y=>gz j1o λ_ z=>gz j1S λ_ A=>gz j7X λ_ B=>gz j3U λ_ C=>gz j1j λ_ D=> ?_;rewrite [<-y,<-z,<-A,<-B,<-C,<-D];kernel_rfl) h⟩
def j1l (j:List qP) (d:qB) (f:List qV) (b:Int) (w1:Bool) (h:List qP) (i:List qV) (l:List qV) (g:Bool->Res):Res:=j2y h d i b λr k=>j1S r l λm=>bif !m then g false else bif !(k==w1) then g false else j1O j λn=>j9c h n λp=>bif !p then g false else j0R f λq=>j3u i q λw=>bif !w then g false else j1k j d f b w1 h i k l r λt=>g t
def j4D:Z1d Unit:=λσ k=>rdN σ 132<|rd1 σ 0 y20 .S λg=>rdS σ 1 λd=>rd1 σ 2 y3 .S λf=>rdI σ 3 λb=>rdT σ 10 (pB 10)<|rdO σ 11 λw1=>rd1 σ 12 y20 .O λj=>rd1 σ 13 y3 .O λl=>rdB σ 10 y3 [.O] λa i=>j1l g d f b w1 j l i (λh=>k .ret (mkS 132 132 [(8,vB h)] []))
theorem jej:CN 0 2047 Tryz.f10 j4D:=λn=>jiu follows j1v j2L n [j1c,j2e] (oI 31 1 @jei oN) ([],[]) [] ([8],[]) λσ k _ h=>rN h λG h=>rV h λH C h=>rV h λf D h=>rV h λp E h=>rV h λd F h=>rT h λg h=>rV h λw1 i h=>rV h λJ j h=>rV h λK l h=>rB h λa I b h=>⟨_,ZaM (m:=132) G (sC C (sC D (sC E (sC F (sC g (sC i (sC j (sC l sN)))))))) (bC b bN),.trans (by delta j1l j8A j6e j7e jcF j4H j9w j2e;refine gz j2y λ_ q=>gz j1S λ_ r=>gz j1O λ_ w=>gz j9c λ_ y=>gz j0R λ_ z=>gz j3u λ_ A=>gz j1k λ_ B=> ?_;rewrite [<-q,<-r,<-w,<-y,<-z,<-A,<-B];kernel_rfl) h⟩
def j2f (g:List qP) (b:qB) (d:List qV) (f:Int) (h:Bool->Res):Res:=bif decide ((nI (ByteArray.size b))>1048576) then h true else j9f g 1048576 λr=>bif decide (r<0) then h true else j3v d r λi=>bif decide (i<0) then h true else j1O g λj=>j0R d λk=>j6r j b k f λl m=>j1O g λn=>j0R d λp=>j1l g b d f m n p l λt=>h t
def j1E:Sig Unit:=⟨[.borrow y20 false,.borrow .str false,.borrow y3 false,.borrow tI false],[false],λvals ext k=>av vals y20 λg vals=>av vals .str λd vals=>av vals y3 λf vals=>av vals tI λb vals=>nl vals<|nl ext<|j2f g d f b (λh=>k [wB h] [] [])⟩
theorem jfF:Z17 Tryz.prog 10 j1E:=jrP (np:=0) follows j1v j2L [j1c,j2e,j4D] (oI 2047 2 @jej oN) false Tryz.func10 λ_ _ k _ h=>aV h λ_ _ _ _ _ h=>aV h λ_ _ _ _ _ h=>aV h λ_ _ _ _ _ h=>aV h λ_ _ _ _ _ h=>nL h λ_ h=>nL h λ_ h=>by subst_vars;exact .trans (by delta j2f jcG j9x j7e j4H jbS j4D;refine gz j9f λ_ b=>gz j3v λ_ d=>gz j1O λ_ f=>gz j0R λ_ g=>gz j6r λ_ i=>gz j1l λ_ j=> ?_;rewrite [<-b,<-d,<-f,<-g,<-i,<-j];kernel_rfl) h
end
end Go.PI.G
namespace Go.PI.G
open Go Go.PI
abbrev V:=Int×Int×ByteArray
theorem jcf (s:ByteArray):(Z1n s).length=s.size:=by unfold Z1n;simp
theorem j09 (a b:ByteArray):sEq a b=true↔a=b:=by
 unfold sEq
 rw [beq_iff_eq]
 constructor
 ·intro h
  rw [ByteArray.ext_iff]
  have d:a.toList=a.data.toList:=by rw [ByteArray.toList_eq]
  have f:b.toList=b.data.toList:=by rw [ByteArray.toList_eq]
  rw [d,f] at h
  exact Array.toList_inj.1 h
 ·rintro rfl;rfl
def joi (n:Int):Bool:=decide (-1099511627775<=n/\n<=1099511627775)
def j0s (v:V):Bool:=
 bif v.1==0 then (v.2.1==0)&&sEq v.2.2 eS
 else bif v.1==1 then ((v.2.1==0)||(v.2.1==1))&&sEq v.2.2 eS
 else bif v.1==2 then joi v.2.1&&sEq v.2.2 eS
 else bif v.1==3 then (v.2.1==0)&&decide (nI v.2.2.size<=30)
 else false
theorem jqB (x:Int):decide (0<=x/\x<=1)=((x==0)||(x==1)):=by
 by_cases h:0<=x/\x<=1
 ·rw [decide_eq_true h]
  have:x=0\/x=1:=by omega
  rcases this with rfl | rfl<;>rfl
 ·rw [decide_eq_false h]
  have b:(x==0)=false:=by simp;omega
  have d:(x==1)=false:=by simp;omega
  rw [b,d];rfl
theorem jgO {v:V} (h:j0s v=true):v=(0,0,eS)\/(∃ n,(n=0\/n=1)/\v=(1,n,eS))\/(∃ n,(-1099511627775<=n/\n<=1099511627775)/\v=(2,n,eS))\/∃ s:ByteArray,s.size<=30/\v=(3,0,s):=by
 obtain ⟨t,n,s⟩:=v
 unfold j0s at h
 simp only at h
 cases d:t==0
 ·cases f:t==1
  ·cases g:t==2
   ·cases i:t==3
    ·rw [d,f,g,i] at h;cases h
    ·rw [d,f,g,i] at h
     simp only [cond_false,cond_true,Bool.and_eq_true,beq_iff_eq,decide_eq_true_eq] at h i
     obtain ⟨rfl,h⟩:=h
     subst i
     exact .inr (.inr (.inr ⟨s,by unfold nI at h;omega,rfl⟩))
   ·rw [d,f,g] at h
    simp only [cond_false,cond_true,Bool.and_eq_true,beq_iff_eq] at h g
    obtain ⟨h,b⟩:=h
    rw [j09] at b
    subst b;subst g
    exact .inr (.inr (.inl ⟨n,of_decide_eq_true h,rfl⟩))
  ·rw [d,f] at h
   simp only [cond_false,cond_true,Bool.and_eq_true,Bool.or_eq_true,beq_iff_eq] at h f
   obtain ⟨h,b⟩:=h
   rw [j09] at b
   subst b;subst f
   exact .inr (.inl ⟨n,h,rfl⟩)
 ·rw [d] at h
  simp only [cond_true,Bool.and_eq_true,beq_iff_eq] at h d
  obtain ⟨h,b⟩:=h
  rw [j09] at b
  subst b;subst d;subst h
  exact .inl rfl
theorem jqS {v:V} (h:j0s v=true):v.2.2.size<=30:=by
 rcases jgO h with rfl | ⟨n,_,rfl⟩ | ⟨n,_,rfl⟩ | ⟨s,b,rfl⟩
 ·show (0:Nat)<=30;omega
 ·show (0:Nat)<=30;omega
 ·show (0:Nat)<=30;omega
 ·exact b
def be (n:Nat):Nat->List Int
 | 0=>[]
 | s+1=>((n / 256 ^ s % 256:Nat):Int)::be n s
theorem jqa (n:Nat):(s:Nat)->(be n s).length=s
 | 0=>rfl
 | s+1=>by simp [be,jqa n s]
noncomputable def wB (v:V):List Int:=
 bif v.1==1 then [1,v.2.1]
 else bif v.1==2 then 2::(bif decide (v.2.1<0) then 1 else 0)::be v.2.1.natAbs 6
 else bif v.1==3 then 3::nI v.2.2.size::Z1n v.2.2
 else [0]
theorem jsk {v:V} (h:j0s v=true):(wB v).length<=32:=by
 rcases jgO h with rfl | ⟨n,_,rfl⟩ | ⟨n,_,rfl⟩ | ⟨s,b,rfl⟩
 ·show (1:Nat)<=32;omega
 ·show (2:Nat)<=32;omega
 ·show (2::(bif decide (n<0) then 1 else 0)::be n.natAbs 6).length<=32
  simp [jqa]
 ·show (3::nI s.size::Z1n s).length<=32
  simp [jcf];omega
theorem jbz:(l:List V)->(∀ v∈l,j0s v=true)->(l.flatMap wB).length<=32 * l.length
 | [],_=>by simp
 | v::l,h=>by
  have d:=jsk (h v (by simp))
  have f:=jbz l λv b=>h v (List.mem_cons_of_mem _ b)
  simp only [List.flatMap_cons,List.length_append,List.length_cons]
  omega
end Go.PI.G
set_option linter.unusedSimpArgs false
namespace Go.PI.G
open Go Go.PI Go.Proofs
theorem j5n (x b d:Int) (k:Bool->Res):j0a x b d k=k (decide (b<=x/\x<=d)):=by
 unfold j0a
 by_cases h:x>=b
 ·rw [decide_eq_true h,cond_true]
  congr 1
  exact decide_eq_decide.2 (by omega)
 ·rw [decide_eq_false h,cond_false]
  congr 1
  exact (decide_eq_false (by omega)).symm
end Go.PI.G
namespace Go.PI.G
open Go Go.PI Go.Proofs
theorem jqw (n:Int) (k:Bool->Res):jfr n k=k (joi n):=j5n n _ _ k
theorem j8E (v:V) (k:Bool->Res):j1s v k=k (j0s v):=by
 unfold j1s j0s
 cases v.1==0
 ·cases v.1==1
  ·cases v.1==2
   ·cases v.1==3
    ·rfl
    ·cases v.2.1==0<;>rfl
   ·rw [cond_false,cond_false,cond_true,jqw]
    cases joi v.2.1<;>rfl
  ·cases v.2.1==0
   ·cases v.2.1==1<;>rfl
   ·rfl
 ·cases v.2.1==0<;>rfl
theorem j8q (v:V) (k:Bool->Res):j16 v k=k (j0s v):=by
 unfold j16 j0s
 simp only [j5n,jqB]
 cases v.1==0
 ·cases v.1==1
  ·cases v.1==2
   ·cases v.1==3
    ·rfl
    ·cases v.2.1==0<;>rfl
   ·rw [cond_false,cond_false,cond_true,cond_false,cond_false,cond_true]
    show (bif joi v.2.1 then _ else _)=_
    cases joi v.2.1<;>rfl
  ·cases v.2.1==0
   ·cases v.2.1==1<;>rfl
   ·rfl
 ·cases v.2.1==0<;>rfl
end Go.PI.G
namespace Go.PI.G
noncomputable section
open Go Go.PI
def msr:(τ:Ty)->El τ->Nat
 | .str,s=>ByteArray.size s
 | .slice e,l=>List.length (α:=El e) l+(List.map (msr e) l).sum
 | .pair a b,x=>msr a x.1+msr b x.2
 | .int _,_=>0
 | .bool,_=>0
 | .unit,_=>0
def wgt:(τ:Ty)->El τ->Nat
 | .str,_=>1
 | .slice e,l=>(List.map (wgt e) l).sum
 | .pair a b,x=>wgt a x.1+wgt b x.2
 | .int _,_=>1
 | .bool,_=>1
 | .unit,_=>0
def j6X:(τ:Ty)->El τ->Nat
 | .slice e,l=>(List.map (wgt e) l).sum
 | .pair a b,x=>j6X a x.1+j6X b x.2
 | .str,_=>0
 | .int _,_=>0
 | .bool,_=>0
 | .unit,_=>0
def j4B:Ty->Nat
 | .slice e=>j4B e
 | .pair a b=>j4B a+j4B b
 | .unit=>0
 | _=>1
theorem jlj {α:Type} (f g:α->Nat) (c:Nat) (h:∀ x,f x<=(g x+1) * c):(l:List α)->(l.map f).sum<=(l.length+(l.map g).sum) * c
 | []=>by simp
 | x::l=>by
  have b:=h x
  have d:=jlj f g c h l
  simp only [List.map_cons,List.sum_cons,List.length_cons]
  have:(l.length+1+(g x+(l.map g).sum)) * c=(g x+1) * c+(l.length+(l.map g).sum) * c:=by
   rw [<-Nat.add_mul];congr 1;omega
  omega
theorem jlm:(τ:Ty)->(x:El τ)->wgt τ x<=(msr τ x+1) * j4B τ
 | .str,_=>by simp [wgt,j4B]
 | .int _,_=>by simp [wgt,j4B]
 | .bool,_=>by simp [wgt,j4B]
 | .unit,_=>by simp [wgt]
 | .pair a b,x=>by
  have f:=jlm a x.1
  have h:=jlm b x.2
  simp only [wgt,msr,j4B,Nat.mul_add]
  have d:(msr a x.1+1) * j4B a<=(msr a x.1+msr b x.2+1) * j4B a:=Nat.mul_le_mul_right _ (by omega)
  have g:(msr b x.2+1) * j4B b<=(msr a x.1+msr b x.2+1) * j4B b:=Nat.mul_le_mul_right _ (by omega)
  omega
 | .slice e,l=>by
  have f:=jlj (wgt e) (msr e) (j4B e) (jlm e) l
  simp only [wgt,msr,j4B]
  have d:(List.length (α:=El e) l+(List.map (msr e) l).sum) * j4B e<=(List.length (α:=El e) l+(List.map (msr e) l).sum+1) * j4B e:=Nat.mul_le_mul_right _ (by omega)
  exact Nat.le_trans f d
theorem jft:(τ:Ty)->(x:El τ)->j6X τ x<=wgt τ x
 | .str,_=>Nat.zero_le _
 | .int _,_=>Nat.zero_le _
 | .bool,_=>Nat.zero_le _
 | .unit,_=>Nat.le_refl _
 | .pair a b,x=>Nat.add_le_add (jft a x.1) (jft b x.2)
 | .slice e,l=>Nat.le_refl _
theorem j4G {a b:Ty} {x:El (.pair a b)}:msr a x.1<=msr (.pair a b) x:=Nat.le_add_right _ _
theorem j03 {a b:Ty} {x:El (.pair a b)}:msr b x.2<=msr (.pair a b) x:=Nat.le_add_left _ _
def dgt (x:Int):ByteArray:=Z3B [wu8 (Z9K (48+x))]
theorem jdD (x:Int):(dgt x).size=1:=rfl
def jgr (n:Nat):ByteArray:=if h:n<10 then dgt n else jgr (n / 10)++dgt ((n % 10:Nat):Int)
termination_by n
decreasing_by omega
def mT (k:Int):ByteArray:=(⟨#[109]⟩:ByteArray)++jgr k.toNat
def mk:(τ:Ty)->El τ->Int->El τ
 | .str,_,k=>mT k
 | .slice e,l,k=>mkL (wgt e) (mk e) l k
 | .pair a b,x,k=>(mk a x.1 k,mk b x.2 (k+(wgt a x.1:Int)))
 | .int .u8,_,k=>wu8 k
 | .int _,_,k=>k
 | .bool,_,k=>(Int.tmod k 3==0)
 | .unit,x,_=>x
def mkT:(τ:Ty)->El τ->Int->El τ
 | .slice e,l,k=>mkL (wgt e) (mk e) l k
 | .pair a b,x,k=>(mkT a x.1 k,mkT b x.2 (k+(j6X a x.1:Int)))
 | .str,x,_=>x
 | .int _,x,_=>x
 | .bool,x,_=>x
 | .unit,x,_=>x
theorem jmo (e:Ty) (l:List (El e)):msr (.slice e) l=l.length+(l.map (msr e)).sum:=rfl
theorem j0v {e:Ty} {l:List (El e)} {n:Nat} (h:msr (.slice e) l<=n):l.length<=n:=by
 have:msr (.slice e) l=l.length+(l.map (msr e)).sum:=rfl
 omega
theorem j0S {e:Ty} {l:List (El e)} {n:Nat} (h:msr (.slice e) l<=n) {x:El e} (b:x∈l):msr e x<=n:=by
 have d:msr (.slice e) l=l.length+(l.map (msr e)).sum:=rfl
 have:=Z9H (msr e) l x b
 omega
theorem jir {τ:Ty} {x:El τ} (b:j4B τ<=200) (h:msr τ x<=1048576):wgt τ x<=209715400:=by
 have d:=jlm τ x
 have f:(msr τ x+1) * j4B τ<=1048577 * 200:=Nat.mul_le_mul (by omega) b
 omega
theorem j6Z (a b:Ty) (x:El (.pair a b)):wgt (.pair a b) x=wgt a x.1+wgt b x.2:=rfl
theorem j8J (k:IntKind) (x:El (.int k)):wgt (.int k) x=1:=rfl
theorem j6Y (x:El .bool):wgt .bool x=1:=rfl
theorem j8K (x:El .str):wgt .str x=1:=rfl
theorem j8z (a b:Ty) (x:El (.pair a b)) (k:Int):mk (.pair a b) x k=(mk a x.1 k,mk b x.2 (k+(wgt a x.1:Int))):=rfl
theorem j6L (e:Ty) (l:El (.slice e)) (k:Int):mk (.slice e) l k=mkL (wgt e) (mk e) l k:=rfl
theorem jaK (x:El (.int .i64)) (k:Int):mk (.int .i64) x k=k:=rfl
theorem jdf (x:El (.int .u8)) (k:Int):mk (.int .u8) x k=wu8 k:=rfl
theorem j8y (x:El .bool) (k:Int):mk .bool x k=(Int.tmod k 3==0):=rfl
theorem jaL (x:El .str) (k:Int):mk .str x k=mT k:=rfl
theorem jeC (e:Ty) (l:El (.slice e)) (k:Int):mkT (.slice e) l k=mkL (wgt e) (mk e) l k:=rfl
theorem jlM (i:IntKind) (x:El (.int i)) (k:Int):mkT (.int i) x k=x:=rfl
theorem jjA (x:El .bool) (k:Int):mkT .bool x k=x:=rfl
theorem jlN (x:El .str) (k:Int):mkT .str x k=x:=rfl
theorem jeQ (a b:Ty) (x:El (.pair a b)):j6X (.pair a b) x=j6X a x.1+j6X b x.2:=rfl
theorem j9X (i:IntKind) (x:El (.int i)):j6X (.int i) x=0:=rfl
theorem j8d (x:El .bool):j6X .bool x=0:=rfl
theorem j9Y (x:El .str):j6X .str x=0:=rfl
theorem jiv {α:Type} (z:α) (l:List α) (i:Nat) (v:α) (h:i<l.length):nth z (upd l (i:Int) v) (i:Int)=v:=by
 rw [ZaF,Zay _ _ _ (by simpa using h)];simp
theorem jiz {α:Type} (l:List α) (i:Int) (u v:α):upd (upd l i u) i v=upd l i v:=by
 unfold upd;simp
theorem jiy {α:Type} (l:List α) (i:Int) (v:α):(upd l i v).length=l.length:=by unfold upd;simp
end
end Go.PI.G
namespace Go.PI.G
open Go Go.PI
theorem jrC {left:Int} (h:0<=left):szR left 0=left:=by unfold szR;rw [if_pos (by omega)];omega
theorem jlk {left:Int} {n rest:Nat} {F:Int->Res} {k:Int->Res} (f:0<=left) (g:left<=1048576) (d:n<=maxLen) (b:(n:Int)<=left->F (left-n)=k (szR (left-n) rest)) :
  (bif decide (Z9K (left-nI n)<0) then k (-1) else F (Z9K (left-nI n)))=k (szR left (n+rest)):=by
 unfold maxLen at d
 rw [ZaH (by unfold nI;omega) (by unfold nI;omega)]
 unfold nI
 by_cases h:(n:Int)<=left
 ·rw [Za4 (by omega),cond_false,b h,Zak h]
 ·rw [Za5 (by omega),cond_true,Zal h]
theorem jgg {left:Int} {k:Int->Res} (b:0<=left):k left=k (szR left 0):=by rw [jrC b]
theorem j00 {i n:Nat} (h:i<n):inb (i:Int) n=true:=ZaK (by omega) (by omega)
theorem j01 {n:Int} (h: -9223372036854775808<=n/\n<9223372036854775808):Z9K n=n:=ZaH h.1 h.2
theorem jrG (n:Nat):Int.tdiv (n:Int) 10=((n / 10:Nat):Int):=by
 rw [Int.tdiv_eq_ediv_of_nonneg (by omega)];omega
theorem jrH (n:Nat):Int.tmod (n:Int) 10=((n % 10:Nat):Int):=by
 rw [Int.tmod_eq_emod_of_nonneg (by omega)];omega
theorem jlA {n:Nat} (h:n<10):jgr n=dgt n:=by rw [jgr,dif_pos h]
theorem jpr {n:Nat} (h:¬ n<10):jgr n=jgr (n / 10)++dgt ((n % 10:Nat):Int):=by rw [jgr,dif_neg h]
theorem jmj:∀ (d n:Nat),n<10 ^ (d+1)->(jgr n).size<=d+1
 | 0,n,h=>by rw [jlA (by omega),jdD];exact Nat.le_refl _
 | d+1,n,h=>by
  by_cases b:n<10
  ·rw [jlA b,jdD];omega
  ·rw [jpr b,ByteArray.size_append,jdD]
   have:n / 10<10 ^ (d+1):=Nat.div_lt_of_lt_mul (by rw [Nat.pow_succ] at h;omega)
   have:=jmj d (n / 10) this
   omega
theorem jsg (s:ByteArray):s++eS=s:=by
 show s++ByteArray.empty=s
 simp
end Go.PI.G
namespace Go.PI.G
noncomputable section
open Go Go.PI
abbrev C:=ByteArray×Int×Bool×Bool×V
abbrev T:=ByteArray×List C×List ByteArray
abbrev DB:=List T×List (List (List V))
abbrev yV:Ty:= .pair (.int .i64) (.pair (.int .i64) .str)
abbrev yC:Ty:= .pair .str (.pair (.int .i64) (.pair .bool (.pair .bool yV)))
abbrev yT:Ty:= .pair .str (.pair (.slice yC) (.slice .str))
abbrev yDB:Ty:= .pair (.slice yT) (.slice (.slice (.slice yV)))
abbrev zV:V:=(0,0,eS)
abbrev zC:C:=(eS,0,false,false,0,0,eS)
abbrev zT:T:=(eS,[],[])
theorem jd7 {α:Type} (p:α->Bool) (l:List α): -1<=Z9F p l/\Z9F p l<(l.length:Int):=by
 unfold Z9F
 cases h:l.findIdx? p with
 | none=>simp only [];omega
 | some i=>
  have:=(List.findIdx?_eq_some_iff_findIdx_eq.1 h).1
  simp only [];omega
theorem jd6 {α:Type} {f:Nat->α->Bool}:(l:List α)->(i:Nat)->Z71 f i l=false->∀ (j:Nat) (h:j<l.length),f (i+j) l[j]=false
 | [],_,_,j,h=>by simp at h
 | x::l,i,h,j,b=>by
  simp only [Z71,Bool.or_eq_false_iff] at h
  cases j with
  | zero=>simpa using h.1
  | succ j=>
   have:=jd6 l (i+1) h.2 j (by simpa using b)
   rw [show i+(j+1)=i+1+j by omega]
   simpa using this
def j0q (s:ByteArray):Bool:= !((Z1n s).any λb=>decide (b<97)||decide (b>122))&&(decide (1<=s.size)&&decide (s.size<=8))
def veq (a b:V):Bool:=(a.1==b.1)&&((a.2.1==b.2.1)&&sEq a.2.2 b.2.2)
theorem jgh (a b:V):veq a b=true↔a=b:=by
 obtain ⟨d,f,g⟩:=a
 obtain ⟨h,i,j⟩:=b
 unfold veq
 simp only [Bool.and_eq_true,beq_iff_eq,j09,Prod.mk.injEq]
def vlt (a b:V):Bool:=j0s a&&(j0s b&&(bif a.1 != b.1 then decide (a.1<b.1) else bif a.2.1 != b.2.1 then decide (a.2.1<b.2.1) else sLt a.2.2 b.2.2))
def jiw (v:V):Bool:=(v.1==0)&&((v.2.1==0)&&sEq v.2.2 eS)
def j13 (c:C):Bool:=j0q c.1&&(decide (1<=c.2.1/\c.2.1<=3)&&(j0s c.2.2.2.2&&(bif c.2.2.2.1 then (c.2.2.2.2.1==c.2.1)||((c.2.2.2.2.1==0)&& !c.2.2.1) else jiw c.2.2.2.2)))
def j02 (l:List C) (n:ByteArray):Int:=Z9F (λc=>sEq c.1 n) l
theorem j98 (l:List C) (n:ByteArray): -1<=j02 l n/\j02 l n<(l.length:Int):=jd7 _ _
theorem jqR:j0s (0,0,eS)=true:=by
 show (((0:Int)==0)&&sEq eS eS)=true
 rw [Zah];rfl
theorem jpS:jiw (0,0,eS)=true:=by
 show (((0:Int)==0)&&(((0:Int)==0)&&sEq eS eS))=true
 rw [Zah];rfl
def j1h (l:List C):Int->List ByteArray->Bool
 | _,[]=>true
 | b,k::ks=> !decide (j02 l k<=b)&&((nth zC l (j02 l k)).2.2.1&&j1h l (j02 l k) ks)
def j4P (l:List C):Bool:= !Z71 (λi c=> !j13 c||(j02 l c.1 != (i:Int))) 0 l
def j05 (t:T):Bool:=(j0q t.1&&(decide (1<=t.2.1.length)&&(decide (t.2.1.length<=8)&&decide (1<=t.2.2.length))))&&(j4P t.2.1&&j1h t.2.1 (-1) t.2.2)
def j04 (l:List T) (n:ByteArray):Int:=Z9F (λt=>sEq t.1 n) l
def j2m (c:List T):Bool:=decide (c.length<=6)&& !Z71 (λi t=> !j05 t||(decide (0<i)&&sGe (nth zT c ((i:Int)-1)).1 t.1)) 0 c
def j3K (c:C) (v:V):Bool:=j0s v&&((v.1==c.2.1)||((v.1==0)&& !c.2.2.1))
def j0r (l:List C) (r:List V):Bool:=decide (r.length=l.length)&& !Z71 (λi c=> !j3K c (nth zV r (i:Int))) 0 l
def j07 (t:T) (r:List V):List V:=t.2.2.map λk=>nth zV r (j02 t.2.1 k)
def klt:List V->List V->Bool
 | [],[]=>false
 | [],_::_=>true
 | _::_,[]=>false
 | x::xs,y::ys=>bif veq x y then klt xs ys else vlt x y
def j08 (t:T) (l:List (List V)):Bool:=j05 t&&(decide (l.length<=60)&& !Z71 (λi r=> !j0r t.2.1 r||(decide (0<i)&& !klt (j07 t (nth [] l ((i:Int)-1))) (j07 t r))) 0 l)
def dbB (d:DB):Bool:=j2m d.1&&(decide (d.2.length=d.1.length)&& !Z71 (λi t=> !j08 t (nth [] d.2 (i:Int))) 0 d.1)
theorem j1Z {t:T} (h:j05 t=true):j0q t.1=true/\1<=t.2.1.length/\t.2.1.length<=8/\1<=t.2.2.length/\j4P t.2.1=true/\j1h t.2.1 (-1) t.2.2=true:=by
 unfold j05 at h
 simp only [Bool.and_eq_true,decide_eq_true_eq] at h
 exact ⟨h.1.1,h.1.2.1,h.1.2.2.1,h.1.2.2.2,h.2.1,h.2.2⟩
theorem j1i {l:List C}:(ks:List ByteArray)->(b:Int)-> -1<=b->j1h l b ks=true->∀ k∈ks,0<=j02 l k/\j02 l k<(l.length:Int)
 | [],_,_,_,k,d=>by cases d
 | q::ks,b,i,h,k,d=>by
  simp only [j1h,Bool.and_eq_true,Bool.not_eq_true',decide_eq_false_iff_not] at h
  have f:=(jd7 (λc:C=>sEq c.1 q) l).2
  have g:0<=j02 l q:=by omega
  rcases List.mem_cons.1 d with rfl | d
  ·exact ⟨g,f⟩
  ·exact j1i ks (j02 l q) (by omega) h.2.2 k d
theorem jrZ {c:C} (h:j13 c=true):1<=c.2.1/\c.2.1<=3:=by
 unfold j13 at h
 simp only [Bool.and_eq_true,decide_eq_true_eq] at h
 exact h.2.1
theorem jmg {l:List C} (h:j4P l=true) (i:Nat) (b:i<l.length):j13 l[i]=true:=by
 unfold j4P at h
 have:=jd6 l 0 (by simpa using h) i b
 simp only [Bool.or_eq_false_iff,Bool.not_eq_false'] at this
 exact this.1
end
end Go.PI.G
namespace Go.PI.G
open Go Go.PI Go.Proofs
theorem jqb (s:ByteArray) (i:Nat) (h:i<(Z1n s).length):bt s (i:Int)=(Z1n s)[i]:=by
 have g:=jcf s
 have d:i<s.data.size:=by
  have:i<s.size:=by omega
  exact this
 have f:(Z1n s)[i]=((s.data.toList.map λb:UInt8=>(b.toNat:Int))[i]'(by simpa using d)):=rfl
 rw [f,List.getElem_map]
 unfold bt
 simp [Array.getElem?_eq_getElem d]
theorem jrM (s:ByteArray) (x:Bool) (k:Bool->Res):(bif x then k false else (bif decide ((nI (ByteArray.size s))>=1) then k (decide ((nI (ByteArray.size s))<=8)) else k false))=k (!x&&(decide (1<=s.size)&&decide (s.size<=8))):=by
 cases x
 ·unfold nI
  by_cases b:1<=s.size
  ·rw [cond_false,decide_eq_true (show (s.size:Int)>=1 by omega),cond_true,decide_eq_true b]
   congr 1
   by_cases d:s.size<=8
   ·rw [decide_eq_true (show (s.size:Int)<=8 by omega),decide_eq_true d];rfl
   ·rw [decide_eq_false (show ¬ (s.size:Int)<=8 by omega),decide_eq_false d];rfl
  ·rw [cond_false,decide_eq_false (show ¬ (s.size:Int)>=1 by omega),cond_false,decide_eq_false b];rfl
 ·rfl
theorem j5u (s:ByteArray) (h:s.size<=LIM) (k:Bool->Res):j0G s k=k (j0q s):=by
 unfold j0G jga
 have g:=jcf s
 have:=Za2 (Z1n s) (λi=>i) (λb=>decide (b<97)||decide (b>122)) (step:=j9R s) ((λ(_:Unit)=>bif decide ((nI (ByteArray.size s))>=1) then k (decide ((nI (ByteArray.size s))<=8)) else k false),(λ(_:Unit)=>k false)) (bif decide ((nI (ByteArray.size s))>=1) then k (decide ((nI (ByteArray.size s))<=8)) else k false) (k false) (by omega) (λi rec f=>by
  show j4i s _ _ _ _=_
  unfold j4i
  unfold LIM at h
  have d:i<s.size:=by omega
  rw [ZaQ d,cond_true,j00 d,cond_true,cond_true,jqb s i f,j01 (n:=(i:Int)+1) (by omega)]
  cases decide ((Z1n s)[i]<97)
  ·cases decide ((Z1n s)[i]>122)<;>rfl
  ·rfl) (λrec=>by
  show j4i s _ _ _ _=_
  unfold j4i
  rw [g,ZaP,cond_false])
 refine this.trans ?_
 exact jrM s _ k
theorem j5r (s:ByteArray) (h:s.size<=LIM) (k:Bool->Res):j0y s k=k (j0q s):=by
 unfold j0y jbD
 have j:=jcf s
 have:=Za2 (Z1n s) (λi=>i) (λb=>decide (b<97)||decide (b>122)) (step:=j6H s) ((λ(_:Unit)=>j0a (nI (ByteArray.size s)) 1 8 λ(r:Bool)=>k r),(λ(_:Unit)=>k false)) (j0a (nI (ByteArray.size s)) 1 8 λ(r:Bool)=>k r) (k false) (by omega) (λi rec g=>by
  show j3N s _ _ _ _=_
  unfold j3N
  unfold LIM at h
  have d:i<s.size:=by omega
  rw [ZaQ d,cond_true,j00 d,cond_true,cond_true,jqb s i g,j01 (n:=(i:Int)+1) (by omega)]
  cases decide ((Z1n s)[i]<97)
  ·cases decide ((Z1n s)[i]>122)<;>rfl
  ·rfl) (λrec=>by
  show j3N s _ _ _ _=_
  unfold j3N
  rw [j,ZaP,cond_false])
 refine this.trans ?_
 rw [j5n]
 have f:decide (1<=nI s.size/\nI s.size<=8)=(decide (1<=s.size)&&decide (s.size<=8)):=by
  rw [<-Bool.decide_and]
  exact decide_eq_decide.2 (by unfold nI;omega)
 rw [f]
 unfold j0q
 cases (Z1n s).any λb=>decide (b<97)||decide (b>122)<;>rfl
end Go.PI.G
namespace Go.PI.G
open Go Go.PI Go.Proofs
theorem jle (c:C) (h:c.1.size<=LIM) (k:Bool->Res):j5e c k=k (j13 c):=by
 obtain ⟨n,ty,w,r,d⟩:=c
 unfold j5e j13
 dsimp only at h ⊢
 rw [j5u n h,j8E]
 cases j0q n
 ·rfl
 ·rw [Bool.not_true,cond_false,Bool.true_and]
  by_cases p:1<=ty/\ty<=3
  ·rw [decide_eq_false (show ¬ ty<1 by omega),cond_false,decide_eq_false (show ¬ ty>3 by omega),cond_false,decide_eq_true p,Bool.true_and]
   cases r
   ·rw [Bool.not_false,cond_true,cond_false]
    have:j0s d=false->jiw d=false:=λj=>by
     cases i:jiw d with
     | false=>rfl
     | true=>
      unfold jiw at i
      simp only [Bool.and_eq_true,beq_iff_eq,j09] at i
      have:d=(0,0,eS):=by
       obtain ⟨a,b,c⟩:=d
       simp only at i
       rw [i.1,i.2.1,i.2.2]
      rw [this,jqR] at j
      cases j
    cases j:j0s d
    ·rw [Bool.false_and]
     exact congrArg k (this j)
    ·rfl
   ·rw [Bool.not_true,cond_false,cond_true]
    cases j:j0s d
    ·rfl
    ·rw [cond_true,Bool.true_and]
     have g:(d.1==0)=true->((d.1==0)&&((d.2.1==0)&&sEq d.2.2 eS))=true:=λf=>by
      rcases jgO j with rfl | ⟨m,_,rfl⟩ | ⟨m,_,rfl⟩ | ⟨m,_,rfl⟩
      ·exact jpS
      ·cases f
      ·cases f
      ·cases f
     cases f:d.1==0
     ·rw [Bool.false_and,cond_false]
      cases d.1==ty<;>rfl
     ·have:=g f
      rw [f] at this
      rw [this,cond_true,cond_true]
      have l:(d.1==ty)=false:=by
       simp only [beq_iff_eq] at f
       rw [f];simp;omega
      rw [l,Bool.false_or,Bool.true_and]
  ·rw [decide_eq_false p]
   by_cases q:ty<1
   ·rw [decide_eq_true q];rfl
   ·rw [decide_eq_false q,cond_false,decide_eq_true (show ty>3 by omega)];rfl
theorem jks (c:C) (h:c.1.size<=LIM) (k:Bool->Res):j4S c k=k (j13 c):=by
 obtain ⟨n,ty,f,d,b⟩:=c
 unfold j4S j13
 dsimp only at h ⊢
 rw [j5r n h,j5n,j8q]
 cases j0q n
 ·rfl
 ·cases decide (1<=ty/\ty<=3)
  ·rfl
  ·cases j0s b
   ·rfl
   ·cases d
    ·rfl
    ·cases b.1==ty
     ·cases b.1==0<;>rfl
     ·rfl
theorem j6D (t:T) (n:ByteArray) (h:t.2.1.length<=LIM) (k:Int->Res):j0K t n k=k (j02 t.2.1 n):=by
 unfold j0K jhh
 refine Z9S t.2.1 (λi=>i) (λc=>sEq c.1 n) (step:=jaY n t.2.1 (nI t.2.1.length)) _ k h (λi rec b=> ?_) (λrec=> ?_)
 ·show j5d n _ _ _ _ _ _=_
  unfold j5d
  unfold LIM at h
  rw [ZaQ b,cond_true,j00 b,cond_true,Zay _ _ _ b,j01 (n:=(i:Int)+1) (by omega)]
 ·show j5d n _ _ _ _ _ _=_
  unfold j5d
  rw [ZaP,cond_false]
theorem j7Q (t:T) (n:ByteArray) (h:t.2.1.length<=LIM) (k:Int->Res):j0f t n k=k (j02 t.2.1 n):=by
 unfold j0f j6P j8M
 refine Z9S t.2.1 (λi=>i) (λc=>sEq c.1 n) (step:=j3q t.2.1 n (nI t.2.1.length)) _ k h (λi rec b=> ?_) (λrec=> ?_)
 ·show j0Z _ n _ _ _ _ _=_
  unfold j0Z jff
  unfold LIM at h
  rw [ZaQ b,cond_true,j00 b,cond_true,Zay _ _ _ b,j01 (n:=(i:Int)+1) (by omega)]
 ·show j0Z _ n _ _ _ _ _=_
  unfold j0Z
  rw [ZaP,cond_false]
theorem j2O {t:T} (h:msr yT t<=1048576):t.1.size<=1048576/\t.2.1.length<=1048576/\t.2.2.length<=1048576/\(∀ c∈t.2.1,c.1.size<=1048576)/\∀ x∈t.2.2,x.size<=1048576:=by
 have i:msr yT t=t.1.size+(msr (.slice yC) t.2.1+msr (.slice .str) t.2.2):=rfl
 have b:msr (.slice yC) t.2.1<=1048576:=by omega
 have d:msr (.slice .str) t.2.2<=1048576:=by omega
 refine ⟨by omega,j0v b,j0v d,λc f=> ?_,λx g=>j0S d g⟩
 have:=j0S b f
 have j:msr yC c=c.1.size+msr (.pair (.int .i64) (.pair .bool (.pair .bool yV))) c.2:=rfl
 omega
noncomputable def tSm (t:T):Prop:=t.1.size<=1048576/\t.2.1.length<=1048576/\t.2.2.length<=1048576/\(∀ c∈t.2.1,c.1.size<=1048576)/\∀ x∈t.2.2,x.size<=1048576
theorem jnq (t:T) (h:tSm t) (a b:Unit->Res):j7K t.2.1 (nI t.2.1.length) t Z1c 0 a b=bif j4P t.2.1 then a () else b ():=by
 have f:=h
 obtain ⟨j,k,l,g,m⟩:=f
 unfold j7K
 have:=Z9P t.2.1 (λi=>i) (λi c=> !j13 c||(j02 t.2.1 c.1 != (i:Int))) (step:=j3e t.2.1 (nI t.2.1.length) t) (a,b) (a ()) (b ()) (by unfold LIM;omega) (λi rec d=>by
  show j23 _ _ t _ _ _ _=_
  unfold j23
  rw [ZaQ d,cond_true,j00 d,cond_true,Zay _ _ _ d,jle _ (by have:=g _ (List.getElem_mem d);unfold LIM;omega),j6D t _ (by unfold LIM;omega),j01 (n:=(i:Int)+1) (by omega)]
  cases j13 t.2.1[i]
  ·rfl
  ·cases j02 t.2.1 t.2.1[i].1 != (i:Int)<;>rfl) (λrec=>by
  show j23 _ _ t _ _ _ _=_
  unfold j23
  rw [ZaP,cond_false])
 refine this.trans ?_
 unfold j4P
 cases Z71 (λi c=> !j13 c||(j02 t.2.1 c.1 != (i:Int))) 0 t.2.1<;>rfl
theorem jmX (t:T) (h:tSm t) (a b:Unit->Res):j7x t.2.1 (nI t.2.1.length) t Z1c 0 a b=bif j4P t.2.1 then a () else b ():=by
 have f:=h
 obtain ⟨j,k,l,g,m⟩:=f
 unfold j7x
 have:=Z9P t.2.1 (λi=>i) (λi c=> !j13 c||(j02 t.2.1 c.1 != (i:Int))) (step:=j36 t.2.1 (nI t.2.1.length) t) (a,b) (a ()) (b ()) (by unfold LIM;omega) (λi rec d=>by
  show j21 _ _ t _ _ _ _=_
  unfold j21
  rw [ZaQ d,cond_true,j00 d,cond_true,Zay _ _ _ d,jks _ (by have:=g _ (List.getElem_mem d);unfold LIM;omega),j7Q t _ (by unfold LIM;omega),j01 (n:=(i:Int)+1) (by omega)]
  cases j13 t.2.1[i]
  ·rfl
  ·cases j02 t.2.1 t.2.1[i].1 != (i:Int)<;>rfl) (λrec=>by
  show j21 _ _ t _ _ _ _=_
  unfold j21
  rw [ZaP,cond_false])
 refine this.trans ?_
 unfold j4P
 cases Z71 (λi c=> !j13 c||(j02 t.2.1 c.1 != (i:Int))) 0 t.2.1<;>rfl
noncomputable def j8u (l:List C) (b:Int) (k:ByteArray):Except Unit Int:=bif decide (j02 l k<=b) then .error () else bif !(nth zC l (j02 l k)).2.2.1 then .error () else .ok (j02 l k)
theorem jhU (l:List C):(ks:List ByteArray)->(i:Nat)->(b:Int)->(∃ z,Z1S (λ_ b k=>j8u l b k) i ks b= .ok z/\j1h l b ks=true)\/(Z1S (λ_ b k=>j8u l b k) i ks b= .error ()/\j1h l b ks=false)
 | [],_,b=> .inl ⟨b,rfl,rfl⟩
 | k::ks,i,b=>by
  have d:=jhU l ks (i+1) (j02 l k)
  simp only [Z1S,j1h,j8u] at d ⊢
  cases decide (j02 l k<=b)
  ·cases (nth zC l (j02 l k)).2.2.1
   ·exact .inr ⟨rfl,rfl⟩
   ·exact d
  ·exact .inr ⟨rfl,rfl⟩
theorem jnr (t:T) (h:tSm t) (a b:Unit->Res):j7L t.2.2 (nI t.2.2.length) t Z1c (-1) 0 a b=bif j1h t.2.1 (-1) t.2.2 then a () else b ():=by
 have q:=h
 obtain ⟨w,y,A,B,C⟩:=q
 unfold j7L
 have:=Z3Z t.2.2 (λi d=>(d,i)) (λ_ d k=>j8u t.2.1 d k) (λ_ d=> -1<=d) (step:=j5B t.2.2 (nI t.2.2.length) t) (a,b) (λ_=>a ()) (λ_=>b ()) (-1) (by unfold LIM;omega) (by omega) (λi d m l p g=>by
  unfold j8u at g
  have:=(j98 t.2.1 t.2.2[i]).1
  cases f:decide (j02 t.2.1 t.2.2[i]<=d)
  ·rw [f,cond_false] at g
   cases j:(nth zC t.2.1 (j02 t.2.1 t.2.2[i])).2.2.1
   ·rw [j] at g;cases g
   ·rw [j] at g
    cases g
    exact this
  ·rw [f] at g;cases g) (λi d rec l p=>by
  show j3f _ _ t _ _ _ _ _=_
  unfold j3f
  dsimp only
  rw [ZaQ l,cond_true,j00 l,cond_true,Zay _ _ _ l,j6D t _ (by unfold LIM;omega),j01 (n:=(i:Int)+1) (by omega)]
  unfold j8u
  by_cases f:j02 t.2.1 t.2.2[i]<=d
  ·rw [decide_eq_true f];rfl
  ·have r:=(j98 t.2.1 t.2.2[i]).2
   rw [decide_eq_false f,cond_false,cond_false,ZaK (by omega) r,cond_true]
   cases (nth zC t.2.1 (j02 t.2.1 t.2.2[i])).2.2.1<;>rfl) (λd rec _=>by
  show j3f _ _ t _ _ _ _ _=_
  unfold j3f
  dsimp only
  rw [ZaP,cond_false])
 refine this.trans ?_
 rcases jhU t.2.1 t.2.2 0 (-1) with ⟨z,f,j⟩ | ⟨f,j⟩<;>rw [f,j]<;>rfl
theorem jmY (t:T) (h:tSm t) (a b:Unit->Res):j7y t.2.2 (nI t.2.2.length) t Z1c (-1) 0 a b=bif j1h t.2.1 (-1) t.2.2 then a () else b ():=by
 have q:=h
 obtain ⟨w,y,A,B,C⟩:=q
 unfold j7y
 have:=Z3Z t.2.2 (λi d=>(d,i)) (λ_ d k=>j8u t.2.1 d k) (λ_ d=> -1<=d) (step:=j5y t.2.2 (nI t.2.2.length) t) (a,b) (λ_=>a ()) (λ_=>b ()) (-1) (by unfold LIM;omega) (by omega) (λi d m l p g=>by
  unfold j8u at g
  have:=(j98 t.2.1 t.2.2[i]).1
  cases f:decide (j02 t.2.1 t.2.2[i]<=d)
  ·rw [f,cond_false] at g
   cases j:(nth zC t.2.1 (j02 t.2.1 t.2.2[i])).2.2.1
   ·rw [j] at g;cases g
   ·rw [j] at g
    cases g
    exact this
  ·rw [f] at g;cases g) (λi d rec l p=>by
  show j37 _ _ t _ _ _ _ _=_
  unfold j37
  dsimp only
  rw [ZaQ l,cond_true,j00 l,cond_true,Zay _ _ _ l,j7Q t _ (by unfold LIM;omega),j01 (n:=(i:Int)+1) (by omega)]
  unfold j8u
  by_cases f:j02 t.2.1 t.2.2[i]<=d
  ·rw [decide_eq_true f];rfl
  ·have r:=(j98 t.2.1 t.2.2[i]).2
   rw [decide_eq_false f,cond_false,cond_false,ZaK (by omega) r,cond_true]
   cases (nth zC t.2.1 (j02 t.2.1 t.2.2[i])).2.2.1<;>rfl) (λd rec _=>by
  show j37 _ _ t _ _ _ _ _=_
  unfold j37
  dsimp only
  rw [ZaP,cond_false])
 refine this.trans ?_
 rcases jhU t.2.1 t.2.2 0 (-1) with ⟨z,f,j⟩ | ⟨f,j⟩<;>rw [f,j]<;>rfl
theorem jrF (t:T) (k:Bool->Res):j5k t k=j0G t.1 λw=>k (!(w&&(decide (1<=t.2.1.length)&&(decide (t.2.1.length<=8)&&decide (1<=t.2.2.length))))):=by
 unfold j5k
 congr 1
 funext w
 unfold nI
 cases w
 ·rfl
 ·rw [Bool.not_true,cond_false,Bool.true_and]
  by_cases b:1<=t.2.1.length
  ·rw [decide_eq_false (show ¬ (t.2.1.length:Int)<1 by omega),cond_false,decide_eq_true b,Bool.true_and]
   by_cases d:t.2.1.length<=8
   ·rw [decide_eq_false (show ¬ (t.2.1.length:Int)>8 by omega),cond_false,decide_eq_true d,Bool.true_and]
    congr 1
    by_cases f:1<=t.2.2.length
    ·rw [decide_eq_false (show ¬ (t.2.2.length:Int)<1 by omega),decide_eq_true f];rfl
    ·rw [decide_eq_true (show (t.2.2.length:Int)<1 by omega),decide_eq_false f];rfl
   ·rw [decide_eq_true (show (t.2.1.length:Int)>8 by omega),decide_eq_false d];rfl
  ·rw [decide_eq_true (show (t.2.1.length:Int)<1 by omega),decide_eq_false b];rfl
theorem jjk (t:T) (h:tSm t) (k:Bool->Res):j0x t k=k (j05 t):=by
 have b:=h
 obtain ⟨d,f,g,i,j⟩:=b
 unfold j0x j05
 rw [jrF,j5u _ (by unfold LIM;omega),jnq t h,jnr t h]
 cases j0q t.1&&(decide (1<=t.2.1.length)&&(decide (t.2.1.length<=8)&&decide (1<=t.2.2.length)))
 ·rfl
 ·cases j4P t.2.1
  ·rfl
  ·cases j1h t.2.1 (-1) t.2.2<;>rfl
theorem jj6 (t:T) (h:tSm t) (k:Bool->Res):j0M t k=k (j05 t):=by
 have d:=h
 obtain ⟨g,i,j,l,m⟩:=d
 unfold j0M j05
 rw [j5r _ (by unfold LIM;omega),j5n,jmX t h,jmY t h]
 have b:decide (1<=nI t.2.1.length/\nI t.2.1.length<=8)=(decide (1<=t.2.1.length)&&decide (t.2.1.length<=8)):=by
  rw [<-Bool.decide_and]
  exact decide_eq_decide.2 (by unfold nI;omega)
 have f:decide (nI t.2.2.length>0)=decide (1<=t.2.2.length):=decide_eq_decide.2 (by unfold nI;omega)
 rw [b,f]
 cases j4P t.2.1
 ·rw [Bool.false_and,Bool.and_false];rfl
 ·cases j1h t.2.1 (-1) t.2.2
  ·rw [Bool.and_false,Bool.and_false];rfl
  ·cases j0q t.1
   ·rfl
   ·cases decide (1<=t.2.1.length)
    ·rfl
    ·cases decide (t.2.1.length<=8)
     ·rfl
     ·cases decide (1<=t.2.2.length)<;>rfl
theorem jdj (t:T) (h:msr yT t<=1048576) (k:Bool->Res):j0x t k=k (j05 t):=jjk t (j2O h) k
theorem jgv (t:T) (h:msr yT t<=1048576) (k:Bool->Res):j0M t k=k (j05 t):=jj6 t (j2O h) k
theorem jnN (c:List T) (i:Nat) (d:i<c.length) (b:c.length<=LIM) (x:Res) (y:Res):(bif decide ((i:Int)>0) then (bif inb (Z9K ((i:Int)-1)) c.length then (bif sGe (nth zT c (Z9K ((i:Int)-1))).1 c[i].1 then x else y) else none) else y) =
  bif (decide (0<i)&&sGe (nth zT c ((i:Int)-1)).1 c[i].1) then x else y:=by
 by_cases h:0<i
 ·unfold LIM at b
  rw [decide_eq_true (show (i:Int)>0 by omega),decide_eq_true h,cond_true,j01 (by omega),ZaK (by omega) (by omega),cond_true,Bool.true_and]
 ·rw [decide_eq_false (show ¬ (i:Int)>0 by omega),decide_eq_false h];rfl
end Go.PI.G
