/-
  Program's code interpreted over typed values; printed texts; plain laws. No conditions.
-/
import Derived.Test.YtiaipepkkjlccaaGreatWOd
import Derived.Test.YtiaipepkkjlccaaGreatWOg
set_option linter.unusedVariables false
set_option maxRecDepth 100000
namespace Go.PI.G
noncomputable section
open Go Go.PI Go.Proofs
open Go.Code (pl pr)
def jcT (d:List (List Int))(b:Bool->Res):Res:=b (decide ((nI d.length)<=30))
def jiF:Sig Unit:=sg [.look y30 true] [false] [(y30,none)] [] λd f k=>jcT d.1 (λb=>k [wB b] [] [])
theorem joG:SO 29 jiF:=fK (np:=0) Zar [] oN false Tryz.func29 λ_ _ _ _=>by kernel_rfl
def jcH (d:List (List Int))(b:Bool->Res):Res:=b (decide ((nI d.length)<=30))
def jii:Sig Unit:=sg [.look y30 true] [false] [(y30,none)] [] λd f k=>jcH d.1 (λb=>k [wB b] [] [])
theorem jol:SO 36 jii:=fK (np:=0) Zar [] oN false Tryz.func36 λ_ _ _ _=>by kernel_rfl
end
end Go.PI.G
namespace Go.PI.G
noncomputable section
open Go Go.PI Go.Proofs
open Go.Code (pl pr)
def j5Q (w:(List qP)×qL×(qD×Int×Int)×(qD×Int×Int)×List (List Int)×List Int)(b:Bool->Res):Res:=jaq w.1 λr=>bif r then jas w.2.1 λd=>bif d then j7Y w.2.2.1 λf=>bif f then j7Y w.2.2.2.1 λg=>bif g then jcT w.2.2.2.2.1 λh=>bif h then b (decide (w.2.2.2.1.2.1<=w.2.2.1.2.1)) else b false else b false else b false else b false else b false
def jfZ:Sig Unit:=sg [.look y36 true] [false] [(y36,none)] [] λd f k=>j5Q d.1 (λb=>k [wB b] [] [])
theorem jlS:SO 6 jfZ:=fK (np:=0) (Za5 joF (Za5 joH (Za5 joE (Za5 joG Zar)))) [] oN false Tryz.func6 λ_ _ _ _=>by delta j5Q jiE jiG jiD jiF;refine gz jaq λ_ b=>gz jas λ_ d=>gz j7Y λ_ f=>gz jcT λ_ g=> ?_;rewrite[<-b,<-d,<-f,<-g];kernel_rfl
def j5m (w:(List qP)×qL×(qD×Int×Int)×(qD×Int×Int)×List (List Int)×List Int)(b:Bool->Res):Res:=j9L w.1 λr=>bif r then j9M w.2.1 λd=>bif d then j61 w.2.2.1 λf=>bif f then j61 w.2.2.2.1 λg=>bif g then jcH w.2.2.2.2.1 λh=>bif h then b (decide (w.2.2.2.1.2.1<=w.2.2.1.2.1)) else b false else b false else b false else b false else b false
def jfQ:Sig Unit:=sg [.look y36 true] [false] [(y36,none)] [] λd f k=>j5m d.1 (λb=>k [wB b] [] [])
theorem jlz:SO 8 jfQ:=fK (np:=0) (Za5 jok (Za5 jom (Za5 joj (Za5 jol Zar)))) [] oN false Tryz.func8 λ_ _ _ _=>by delta j5m jih jij jig jii;refine gz j9L λ_ b=>gz j9M λ_ d=>gz j61 λ_ f=>gz jcH λ_ g=> ?_;rewrite[<-b,<-d,<-f,<-g];kernel_rfl
end
end Go.PI.G
namespace Go.PI.G
noncomputable section
open Go Go.PI Go.Proofs
open Go.Code (pl pr)
def ja6 (a:Int×Int×qB)(left:Int)(b:Int->Res):Res:=bif decide ((Z9J (left-(nI a.2.2.size)))<0) then b (-1) else b (Z9J (left-(nI a.2.2.size)))
def jpt:Sig Unit:=sg [.look y1 true,.look tI false] [false] [(y1,none),(tI,none)] [] λb f k=>ja6 b.1 b.2.1 (λd=>k [wI d] [] [])
theorem jd5:SO 164 jpt:=fK (np:=0) Zar [] oN false Tryz.func164 λ_ _ _ _=>by kernel_rfl
def jac (a:Int×Int×qB)(b:qV->Res):Res:=b (a.1,a.2.1,a.2.2)
def jpw:Sig Unit:=sg [.look y1 true] [true] [(y1,none)] [] λd f k=>jac d.1 (λb=>k [⟨y1,true,b,[]⟩] [] [])
theorem jd7:SO 171 jpw:=fK (np:=0) Zar [] oN false Tryz.func171 λ_ _ _ _=>by kernel_rfl
def j9Y (a:Int×Int×qB)(b:Int×Int×qB)(d:Bool->Res):Res:=bif (a.1 != b.1) then d false else bif (a.2.1 != b.2.1) then d false else bif sNe a.2.2 b.2.2 then d false else d true
def jpq:Sig Unit:=sg [.look y1 true,.look y1 true] [false] [(y1,none),(y1,none)] [] λb f k=>j9Y b.1 b.2.1 (λd=>k [wB d] [] [])
theorem jd3:SO 180 jpq:=fK (np:=0) Zar [] oN false Tryz.func180 λ_ _ _ _=>by kernel_rfl
end
end Go.PI.G
namespace Go.PI.G
noncomputable section
open Go Go.PI Go.Proofs
open Go.Code (pl pr)
def jcK (a:qB×Int×Bool×Bool×Int×Int×qB)(left:Int)(b:Int->Res):Res:=bif decide ((Z9J (left-(nI a.1.size)))<0) then b (-1) else ja6 a.2.2.2.2 (Z9J (left-(nI a.1.size))) λr=>bif decide (r<0) then b (-1) else b r
def jpr:Sig Unit:=sg [.look y6 true,.look tI false] [false] [(y6,none),(tI,none)] [] λb f k=>jcK b.1 b.2.1 (λd=>k [wI d] [] [])
theorem jhL:SO 210 jpr:=fK (np:=0) (Za5 jd5 Zar) [] oN false Tryz.func210 λ_ _ _ _=>by kernel_rfl
def jcM (a:qB×Int×Bool×Bool×Int×Int×qB)(b:qC->Res):Res:=jac a.2.2.2.2 λr=>b (a.1,a.2.1,a.2.2.1,a.2.2.2.1,r)
def jpu:Sig Unit:=sg [.look y6 true] [true] [(y6,none)] [] λd f k=>jcM d.1 (λb=>k [⟨y6,true,b,[]⟩] [] [])
theorem jhN:SO 213 jpu:=fK (np:=0) (Za5 jd7 Zar) [] oN false Tryz.func213 λ_ _ _ _=>by kernel_rfl
def jcI (a:qB×Int×Bool×Bool×Int×Int×qB)(b:qB×Int×Bool×Bool×Int×Int×qB)(d:Bool->Res):Res:=bif sNe a.1 b.1 then d false else bif (a.2.1 != b.2.1) then d false else bif !(a.2.2.1==b.2.2.1) then d false else bif !(a.2.2.2.1==b.2.2.2.1) then d false else j9Y a.2.2.2.2 b.2.2.2.2 λr=>bif !r then d false else d true
def jpo:Sig Unit:=sg [.look y6 true,.look y6 true] [false] [(y6,none),(y6,none)] [] λb f k=>jcI b.1 b.2.1 (λd=>k [wB d] [] [])
theorem jhJ:SO 222 jpo:=fK (np:=0) (Za5 jd3 Zar) [] oN false Tryz.func222 λ_ _ _ _=>by kernel_rfl
end
end Go.PI.G
namespace Go.PI.G
open Go Go.PI Go.Proofs
open Go.Code (pl pr)
end Go.PI.G
namespace Go.PI.G
noncomputable section
open Go Go.PI Go.Proofs
open Go.Code (pl pr)
def j3B (a:List qC)(left:Int)(i:Int)(rec:Int->Int->Res)(b:Int->Res)(d:Unit->Res):Res:=bif decide (i<(nI a.length)) then bif inb i a.length then jcK (nth (eS,0,false,false,0,0,eS) a i) left λr=>bif decide (r<0) then d () else rec r (Z9J (i+1)) else none else b left
def jdr (a:List qC):(Int×Int)->(Int×Int->Res)->((Int->Res)×(Unit->Res))->Res:=λv rec q=>j3B a v.1 v.2 (λleft i=>rec (left,i)) q.1 q.2
def jb5 (a:List qC)(n:Nat)(left:Int)(i:Int)(b:Int->Res)(d:Unit->Res):Res:=Z1e (jdr a) n (left,i) (b,d)
def jeG:Z1c Unit:=NdL 27 27 [.R 0 y7 .S,.I 1,.I 5] [] (λd f=>(d.2.1,d.2.2.1)) (λd v=>(d.1,v.1,v.2,())) (λf v=>()) (λd f=>jdr d.1) λd f g=>((λb=>g (.exit 0) [(1,vI b)] []),(λ_=>g .ret [(4,vI (-1))] []))
theorem jkV:CN 0 122 Tryz.f165 jeG:=lK (Za5 jhL Zar) [] oN ([],[]) [(0,[1],[])] ([4],[]) λ_ _ _ _ _=>by kernel_rfl
def j4T (a:List qC)(left:Int)(d:Int->Res):Res:=bif decide ((Z9J (left-(nI a.length)))<0) then d (-1) else jb5 a Z1b (Z9J (left-(nI a.length))) 0 (λb=>d b) (λ_=>d (-1))
def jcc:Sig Unit:=sg [.look y7 false,.look tI false] [false] [(y7,none),(tI,none)] [] λb f k=>j4T b.1 b.2.1 (λd=>k [wI d] [] [])
theorem jgX:SO 165 jcc:=fK (np:=0) (Za5 jhL Zar) [jeG] (oI 122 0 @jkV oN) false Tryz.func165 λ_ _ _ _=>by kernel_rfl
def j3F (a:List qC)(b:List qC)(i:Int)(rec:qE->Int->Res)(d:qE->Res):Res:=bif decide (i<(nI a.length)) then bif inb i a.length then jcM (nth (eS,0,false,false,0,0,eS) a i) λr=>bif inb i b.length then rec (upd b i r) (Z9J (i+1)) else none else none else d b
def j94 (a:List qC):(qE×Int)->(qE×Int->Res)->((qE->Res))->Res:=λv rec q=>j3F a v.1 v.2 (λb i=>rec (b,i)) q
def jm2 (a:List qC)(n:Nat)(b:List qC)(i:Int)(d:qE->Res):Res:=Z1e (j94 a) n (b,i) (d)
def jeK:Z1c Unit:=NdL 23 23 [.R 0 y7 .S,.R 3 y7 .O,.I 4] [] (λb f=>(b.2.1,b.2.2.1)) (λb v=>(b.1,v.1,v.2,())) (λf v=>()) (λb f=>j94 b.1) λb f g=>((λd=>g (.exit 0) [(3,v1 y7 d .O)] []))
theorem jkZ:CN 0 58 Tryz.f172 jeK:=lK (Za5 jhN Zar) [] oN ([],[]) [(0,[3],[])] ([],[]) λ_ _ _ _ _=>by kernel_rfl
def j4U (a:List qC)(d:qE->Res):Res:=bif Z9H (nI a.length) (nI a.length) then jm2 a Z1b (Z9g (nI a.length) (eS,0,false,false,0,0,eS)) 0 λb=>d b else none
def jcd:Sig Unit:=sg [.borrow y7 false] [false] [(y7,none)] [] λd f k=>j4U d.1 (λb=>k [w1 y7 b .O] [] [])
theorem jh1:SO 172 jcd:=fK (np:=0) (Za5 jhN Zar) [jeK] (oI 58 0 @jkZ oN) false Tryz.func172 λ_ _ _ _=>by kernel_rfl
def j3w (a:List qC)(b:List qC)(i:Int)(rec:Int->Res)(d:Unit->Res)(f:Unit->Res):Res:=bif decide (i<(nI a.length)) then bif inb i a.length then bif inb i b.length then jcI (nth (eS,0,false,false,0,0,eS) a i) (nth (eS,0,false,false,0,0,eS) b i) λr=>bif !r then f () else rec (Z9J (i+1)) else none else none else d ()
def jdl (a:List qC)(b:List qC):Int->(Int->Res)->((Unit->Res)×(Unit->Res))->Res:=λv rec q=>j3w a b v (λi=>rec (i)) q.1 q.2
def jfJ (a:List qC)(b:List qC)(n:Nat)(i:Int)(d:Unit->Res)(f:Unit->Res):Res:=Z1e (jdl a b) n (i) (d,f)
def jeB:Z1c Unit:=NdL 27 27 [.R 0 y7 .S,.R 1 y7 .S,.I 5] [] (λb d=>(b.2.2.1)) (λb v=>(b.1,b.2.1,v,())) (λd v=>()) (λb d=>jdl b.1 b.2.1) λb d f=>((λ_=>f (.exit 0) [] []),(λ_=>f .ret [(4,vB false)] []))
theorem jkQ:CN 0 58 Tryz.f181 jeB:=lK (Za5 jhJ Zar) [] oN ([],[]) [(0,[],[])] ([4],[]) λ_ _ _ _ _=>by kernel_rfl
def j4S (a:List qC)(b:List qC)(d:Bool->Res):Res:=bif ((nI a.length) != (nI b.length)) then d false else jfJ a b Z1b 0 (λ_=>d true) (λ_=>d false)
def jcb:Sig Unit:=sg [.look y7 false,.look y7 false] [false] [(y7,none),(y7,none)] [] λb f k=>j4S b.1 b.2.1 (λd=>k [wB d] [] [])
theorem jgT:SO 181 jcb:=fK (np:=0) (Za5 jhJ Zar) [jeB] (oI 58 0 @jkQ oN) false Tryz.func181 λ_ _ _ _=>by kernel_rfl
end
end Go.PI.G
namespace Go.PI.G
noncomputable section
open Go Go.PI Go.Proofs
open Go.Code (pl pr)
def j1O (a:qL)(left:Int)(i:Int)(rec:Int->Int->Res)(b:Int->Res)(d:Unit->Res):Res:=bif decide (i<(nI a.length)) then bif inb i a.length then bif decide ((Z9J (left-(nI (ByteArray.size (nth eS a i)))))<0) then d () else rec (Z9J (left-(nI (ByteArray.size (nth eS a i))))) (Z9J (i+1)) else none else b left
def jaQ (a:qL):(Int×Int)->(Int×Int->Res)->((Int->Res)×(Unit->Res))->Res:=λv rec q=>j1O a v.1 v.2 (λleft i=>rec (left,i)) q.1 q.2
def j8a (a:qL)(n:Nat)(left:Int)(i:Int)(b:Int->Res)(d:Unit->Res):Res:=Z1e (jaQ a) n (left,i) (b,d)
def jbY:Z1c Unit:=NdL 28 28 [.R 0 y8 .S,.I 1,.I 5] [] (λd f=>(d.2.1,d.2.2.1)) (λd v=>(d.1,v.1,v.2,())) (λf v=>()) (λd f=>jaQ d.1) λd f g=>((λb=>g (.exit 0) [(1,vI b)] []),(λ_=>g .ret [(4,vI (-1))] []))
theorem ji3:CN 0 122 Tryz.f40 jbY:=lK Zar [] oN ([],[]) [(0,[1],[])] ([4],[]) λ_ _ _ _ _=>by kernel_rfl
def j1g (a:qL)(left:Int)(d:Int->Res):Res:=bif decide ((Z9J (left-(nI a.length)))<0) then d (-1) else j8a a Z1b (Z9J (left-(nI a.length))) 0 (λb=>d b) (λ_=>d (-1))
def j9b:Sig Unit:=sg [.look y8 false,.look tI false] [false] [(y8,none),(tI,none)] [] λb f k=>j1g b.1 b.2.1 (λd=>k [wI d] [] [])
theorem j8V:SO 40 j9b:=fK (np:=0) Zar [jbY] (oI 122 0 @ji3 oN) false Tryz.func40 λ_ _ _ _=>by kernel_rfl
def j1P (a:qL)(b:qL)(i:Int)(rec:qL->Int->Res)(d:qL->Res):Res:=bif decide (i<(nI a.length)) then bif inb i a.length then bif inb i b.length then rec (upd b i (nth eS a i)) (Z9J (i+1)) else none else none else d b
def j6I (a:qL):(qL×Int)->(qL×Int->Res)->((qL->Res))->Res:=λv rec q=>j1P a v.1 v.2 (λb i=>rec (b,i)) q
def jiS (a:qL)(n:Nat)(b:qL)(i:Int)(d:qL->Res):Res:=Z1e (j6I a) n (b,i) (d)
def jbZ:Z1c Unit:=NdL 22 22 [.R 0 y8 .S,.R 3 y8 .O,.I 4] [] (λb f=>(b.2.1,b.2.2.1)) (λb v=>(b.1,v.1,v.2,())) (λf v=>()) (λb f=>j6I b.1) λb f g=>((λd=>g (.exit 0) [(3,v1 y8 d .O)] []))
theorem ji4:CN 0 58 Tryz.f44 jbZ:=lK Zar [] oN ([],[]) [(0,[3],[])] ([],[]) λ_ _ _ _ _=>by kernel_rfl
def j1h (a:qL)(d:qL->Res):Res:=bif Z9H (nI a.length) (nI a.length) then jiS a Z1b (Z9g (nI a.length) eS) 0 λb=>d b else none
def j9c:Sig Unit:=sg [.borrow y8 false] [false] [(y8,none)] [] λd f k=>j1h d.1 (λb=>k [w1 y8 b .O] [] [])
theorem j8W:SO 44 j9c:=fK (np:=0) Zar [jbZ] (oI 58 0 @ji4 oN) false Tryz.func44 λ_ _ _ _=>by kernel_rfl
def j1N (a:qL)(b:qL)(i:Int)(rec:Int->Res)(d:Unit->Res)(f:Unit->Res):Res:=bif decide (i<(nI a.length)) then bif inb i a.length then bif inb i b.length then bif sNe (nth eS a i) (nth eS b i) then f () else rec (Z9J (i+1)) else none else none else d ()
def jaP (a:qL)(b:qL):Int->(Int->Res)->((Unit->Res)×(Unit->Res))->Res:=λv rec q=>j1N a b v (λi=>rec (i)) q.1 q.2
def jcx (a:qL)(b:qL)(n:Nat)(i:Int)(d:Unit->Res)(f:Unit->Res):Res:=Z1e (jaP a b) n (i) (d,f)
def jbX:Z1c Unit:=NdL 26 26 [.R 0 y8 .S,.R 1 y8 .S,.I 5] [] (λb d=>(b.2.2.1)) (λb v=>(b.1,b.2.1,v,())) (λd v=>()) (λb d=>jaP b.1 b.2.1) λb d f=>((λ_=>f (.exit 0) [] []),(λ_=>f .ret [(4,vB false)] []))
theorem ji2:CN 0 58 Tryz.f49 jbX:=lK Zar [] oN ([],[]) [(0,[],[])] ([4],[]) λ_ _ _ _ _=>by kernel_rfl
def j1f (a:qL)(b:qL)(d:Bool->Res):Res:=bif ((nI a.length) != (nI b.length)) then d false else jcx a b Z1b 0 (λ_=>d true) (λ_=>d false)
def j9a:Sig Unit:=sg [.look y8 false,.look y8 false] [false] [(y8,none),(y8,none)] [] λb f k=>j1f b.1 b.2.1 (λd=>k [wB d] [] [])
theorem j8U:SO 49 j9a:=fK (np:=0) Zar [jbX] (oI 58 0 @ji2 oN) false Tryz.func49 λ_ _ _ _=>by kernel_rfl
end
end Go.PI.G
namespace Go.PI.G
noncomputable section
open Go Go.PI Go.Proofs
open Go.Code (pl pr)
def j7h (a:qB×qE×qL)(left:Int)(b:Int->Res):Res:=bif decide ((Z9J (left-(nI a.1.size)))<0) then b (-1) else j4T a.2.1 (Z9J (left-(nI a.1.size))) λr=>bif decide (r<0) then b (-1) else j1g a.2.2 r λd=>bif decide (d<0) then b (-1) else b d
def jmz:Sig Unit:=sg [.look y22 true,.look tI false] [false] [(y22,none),(tI,none)] [] λb f k=>j7h b.1 b.2.1 (λd=>k [wI d] [] [])
theorem jfq:SO 182 jmz:=fK (np:=0) (Za5 j8V (Za5 jgX Zar)) [] oN false Tryz.func182 λ_ _ _ _=>by delta j7h jcc j9b;refine gz j4T λ_ b=>gz j1g λ_ d=> ?_;rewrite[<-b,<-d];kernel_rfl
def j7j (a:qB×qE×qL)(b:qT->Res):Res:=j4U a.2.1 λr=>j1h a.2.2 λd=>b (a.1,r,d)
def jmC:Sig Unit:=sg [.borrow y22 true] [true] [(y22,none)] [] λd f k=>j7j d.1 (λb=>k [⟨y22,true,b,[.O,.O]⟩] [] [])
theorem jfr:SO 193 jmC:=fK (np:=0) (Za5 j8W (Za5 jh1 Zar)) [] oN false Tryz.func193 λ_ _ _ _=>by delta j7j jcd j9c;refine gz j4U λ_ b=>gz j1h λ_ d=> ?_;rewrite[<-b,<-d];kernel_rfl
def j7f (a:qB×qE×qL)(b:qB×qE×qL)(d:Bool->Res):Res:=bif sNe a.1 b.1 then d false else j4S a.2.1 b.2.1 λr=>bif !r then d false else j1f a.2.2 b.2.2 λf=>bif !f then d false else d true
def jmw:Sig Unit:=sg [.look y22 true,.look y22 true] [false] [(y22,none),(y22,none)] [] λb f k=>j7f b.1 b.2.1 (λd=>k [wB d] [] [])
theorem jfp:SO 208 jmw:=fK (np:=0) (Za5 j8U (Za5 jgT Zar)) [] oN false Tryz.func208 λ_ _ _ _=>by delta j7f jcb j9a;refine gz j4S λ_ b=>gz j1f λ_ d=> ?_;rewrite[<-b,<-d];kernel_rfl
end
end Go.PI.G
namespace Go.PI.G
noncomputable section
open Go Go.PI Go.Proofs
open Go.Code (pl pr)
def j2a (a:List qT)(left:Int)(i:Int)(rec:Int->Int->Res)(b:Int->Res)(d:Unit->Res):Res:=bif decide (i<(nI a.length)) then bif inb i a.length then j7h (nth (eS,[],[]) a i) left λr=>bif decide (r<0) then d () else rec r (Z9J (i+1)) else none else b left
def jbQ (a:List qT):(Int×Int)->(Int×Int->Res)->((Int->Res)×(Unit->Res))->Res:=λv rec q=>j2a a v.1 v.2 (λleft i=>rec (left,i)) q.1 q.2
def j93 (a:List qT)(n:Nat)(left:Int)(i:Int)(b:Int->Res)(d:Unit->Res):Res:=Z1e (jbQ a) n (left,i) (b,d)
def jcC:Z1c Unit:=NdL 27 27 [.R 0 y23 .S,.I 1,.I 5] [] (λd f=>(d.2.1,d.2.2.1)) (λd v=>(d.1,v.1,v.2,())) (λf v=>()) (λd f=>jbQ d.1) λd f g=>((λb=>g (.exit 0) [(1,vI b)] []),(λ_=>g .ret [(4,vI (-1))] []))
theorem jiX:CN 0 122 Tryz.f137 jcC:=lK (Za5 jfq Zar) [] oN ([],[]) [(0,[1],[])] ([4],[]) λ_ _ _ _ _=>by kernel_rfl
def j8J (a:List qT)(left:Int)(d:Int->Res):Res:=bif decide ((Z9J (left-(nI a.length)))<0) then d (-1) else j93 a Z1b (Z9J (left-(nI a.length))) 0 (λb=>d b) (λ_=>d (-1))
def jlk:Sig Unit:=sg [.look y23 false,.look tI false] [false] [(y23,none),(tI,none)] [] λb f k=>j8J b.1 b.2.1 (λd=>k [wI d] [] [])
theorem jkm:SO 137 jlk:=fK (np:=0) (Za5 jfq Zar) [jcC] (oI 122 0 @jiX oN) false Tryz.func137 λ_ _ _ _=>by kernel_rfl
def j2b (a:List qT)(b:List qT)(i:Int)(rec:qF->Int->Res)(d:qF->Res):Res:=bif decide (i<(nI a.length)) then bif inb i a.length then j7j (nth (eS,[],[]) a i) λr=>bif inb i b.length then rec (upd b i r) (Z9J (i+1)) else none else none else d b
def j7k (a:List qT):(qF×Int)->(qF×Int->Res)->((qF->Res))->Res:=λv rec q=>j2b a v.1 v.2 (λb i=>rec (b,i)) q
def jjx (a:List qT)(n:Nat)(b:List qT)(i:Int)(d:qF->Res):Res:=Z1e (j7k a) n (b,i) (d)
def jcD:Z1c Unit:=NdL 23 23 [.R 0 y23 .S,.R 3 y23 .O,.I 4] [] (λb f=>(b.2.1,b.2.2.1)) (λb v=>(b.1,v.1,v.2,())) (λf v=>()) (λb f=>j7k b.1) λb f g=>((λd=>g (.exit 0) [(3,v1 y23 d .O)] []))
theorem jiY:CN 0 58 Tryz.f148 jcD:=lK (Za5 jfr Zar) [] oN ([],[]) [(0,[3],[])] ([],[]) λ_ _ _ _ _=>by kernel_rfl
def j8K (a:List qT)(d:qF->Res):Res:=bif Z9H (nI a.length) (nI a.length) then jjx a Z1b (Z9g (nI a.length) (eS,[],[])) 0 λb=>d b else none
def jll:Sig Unit:=sg [.borrow y23 false] [false] [(y23,none)] [] λd f k=>j8K d.1 (λb=>k [w1 y23 b .O] [] [])
theorem jkn:SO 148 jll:=fK (np:=0) (Za5 jfr Zar) [jcD] (oI 58 0 @jiY oN) false Tryz.func148 λ_ _ _ _=>by kernel_rfl
def j29 (a:List qT)(b:List qT)(i:Int)(rec:Int->Res)(d:Unit->Res)(f:Unit->Res):Res:=bif decide (i<(nI a.length)) then bif inb i a.length then bif inb i b.length then j7f (nth (eS,[],[]) a i) (nth (eS,[],[]) b i) λr=>bif !r then f () else rec (Z9J (i+1)) else none else none else d ()
def jbO (a:List qT)(b:List qT):Int->(Int->Res)->((Unit->Res)×(Unit->Res))->Res:=λv rec q=>j29 a b v (λi=>rec (i)) q.1 q.2
def jdp (a:List qT)(b:List qT)(n:Nat)(i:Int)(d:Unit->Res)(f:Unit->Res):Res:=Z1e (jbO a b) n (i) (d,f)
def jcB:Z1c Unit:=NdL 27 27 [.R 0 y23 .S,.R 1 y23 .S,.I 5] [] (λb d=>(b.2.2.1)) (λb v=>(b.1,b.2.1,v,())) (λd v=>()) (λb d=>jbO b.1 b.2.1) λb d f=>((λ_=>f (.exit 0) [] []),(λ_=>f .ret [(4,vB false)] []))
theorem jiW:CN 0 58 Tryz.f161 jcB:=lK (Za5 jfp Zar) [] oN ([],[]) [(0,[],[])] ([4],[]) λ_ _ _ _ _=>by kernel_rfl
def j8I (a:List qT)(b:List qT)(d:Bool->Res):Res:=bif ((nI a.length) != (nI b.length)) then d false else jdp a b Z1b 0 (λ_=>d true) (λ_=>d false)
def jlj:Sig Unit:=sg [.look y23 false,.look y23 false] [false] [(y23,none),(y23,none)] [] λb f k=>j8I b.1 b.2.1 (λd=>k [wB d] [] [])
theorem jkl:SO 161 jlj:=fK (np:=0) (Za5 jfp Zar) [jcB] (oI 58 0 @jiW oN) false Tryz.func161 λ_ _ _ _=>by kernel_rfl
end
end Go.PI.G
namespace Go.PI.G
noncomputable section
open Go Go.PI Go.Proofs
open Go.Code (pl pr)
def ja0 (a:List qT)(left:Int)(b:Int->Res):Res:=j8J a left λr=>bif decide (r<0) then b (-1) else b r
def jiq:Sig Unit:=sg [.look y23 true,.look tI false] [false] [(y23,none),(tI,none)] [] λb f k=>ja0 b.1 b.2.1 (λd=>k [wI d] [] [])
theorem jou:SO 89 jiq:=fK (np:=0) (Za5 jkm Zar) [] oN false Tryz.func89 λ_ _ _ _=>by kernel_rfl
def ja8 (a:List qT)(b:qF->Res):Res:=j8K a λr=>b r
def jiw:Sig Unit:=sg [.borrow y23 true] [true] [(y23,none)] [] λd f k=>ja8 d.1 (λb=>k [⟨y23,true,b,[.O]⟩] [] [])
theorem joz:SO 100 jiw:=fK (np:=0) (Za5 jkn Zar) [] oN false Tryz.func100 λ_ _ _ _=>by kernel_rfl
def j9U (a:List qT)(b:List qT)(d:Bool->Res):Res:=j8I a b λr=>bif !r then d false else d true
def jik:Sig Unit:=sg [.look y23 true,.look y23 true] [false] [(y23,none),(y23,none)] [] λb f k=>j9U b.1 b.2.1 (λd=>k [wB d] [] [])
theorem jop:SO 111 jik:=fK (np:=0) (Za5 jkl Zar) [] oN false Tryz.func111 λ_ _ _ _=>by kernel_rfl
end
end Go.PI.G
namespace Go.PI.G
noncomputable section
open Go Go.PI Go.Proofs
open Go.Code (pl pr)
def j3E (a:List qV)(left:Int)(i:Int)(rec:Int->Int->Res)(b:Int->Res)(d:Unit->Res):Res:=bif decide (i<(nI a.length)) then bif inb i a.length then ja6 (nth (0,0,eS) a i) left λr=>bif decide (r<0) then d () else rec r (Z9J (i+1)) else none else b left
def jdu (a:List qV):(Int×Int)->(Int×Int->Res)->((Int->Res)×(Unit->Res))->Res:=λv rec q=>j3E a v.1 v.2 (λleft i=>rec (left,i)) q.1 q.2
def jb8 (a:List qV)(n:Nat)(left:Int)(i:Int)(b:Int->Res)(d:Unit->Res):Res:=Z1e (jdu a) n (left,i) (b,d)
def jeJ:Z1c Unit:=NdL 27 27 [.R 0 y2 .S,.I 1,.I 5] [] (λd f=>(d.2.1,d.2.2.1)) (λd v=>(d.1,v.1,v.2,())) (λf v=>()) (λd f=>jdu d.1) λd f g=>((λb=>g (.exit 0) [(1,vI b)] []),(λ_=>g .ret [(4,vI (-1))] []))
theorem jkY:CN 0 122 Tryz.f114 jeJ:=lK (Za5 jd5 Zar) [] oN ([],[]) [(0,[1],[])] ([4],[]) λ_ _ _ _ _=>by kernel_rfl
def j6B (a:List qV)(left:Int)(d:Int->Res):Res:=bif decide ((Z9J (left-(nI a.length)))<0) then d (-1) else jb8 a Z1b (Z9J (left-(nI a.length))) 0 (λb=>d b) (λ_=>d (-1))
def jhi:Sig Unit:=sg [.look y2 false,.look tI false] [false] [(y2,none),(tI,none)] [] λb f k=>j6B b.1 b.2.1 (λd=>k [wI d] [] [])
theorem jh0:SO 114 jhi:=fK (np:=0) (Za5 jd5 Zar) [jeJ] (oI 122 0 @jkY oN) false Tryz.func114 λ_ _ _ _=>by kernel_rfl
def j3J (a:List qV)(b:List qV)(i:Int)(rec:qW->Int->Res)(d:qW->Res):Res:=bif decide (i<(nI a.length)) then bif inb i a.length then jac (nth (0,0,eS) a i) λr=>bif inb i b.length then rec (upd b i r) (Z9J (i+1)) else none else none else d b
def j98 (a:List qV):(qW×Int)->(qW×Int->Res)->((qW->Res))->Res:=λv rec q=>j3J a v.1 v.2 (λb i=>rec (b,i)) q
def jm6 (a:List qV)(n:Nat)(b:List qV)(i:Int)(d:qW->Res):Res:=Z1e (j98 a) n (b,i) (d)
def jeO:Z1c Unit:=NdL 23 23 [.R 0 y2 .S,.R 3 y2 .O,.I 4] [] (λb f=>(b.2.1,b.2.2.1)) (λb v=>(b.1,v.1,v.2,())) (λf v=>()) (λb f=>j98 b.1) λb f g=>((λd=>g (.exit 0) [(3,v1 y2 d .O)] []))
theorem jl3:CN 0 58 Tryz.f123 jeO:=lK (Za5 jd7 Zar) [] oN ([],[]) [(0,[3],[])] ([],[]) λ_ _ _ _ _=>by kernel_rfl
def j6C (a:List qV)(d:qW->Res):Res:=bif Z9H (nI a.length) (nI a.length) then jm6 a Z1b (Z9g (nI a.length) (0,0,eS)) 0 λb=>d b else none
def jhl:Sig Unit:=sg [.borrow y2 false] [false] [(y2,none)] [] λd f k=>j6C d.1 (λb=>k [w1 y2 b .O] [] [])
theorem jh4:SO 123 jhl:=fK (np:=0) (Za5 jd7 Zar) [jeO] (oI 58 0 @jl3 oN) false Tryz.func123 λ_ _ _ _=>by kernel_rfl
def j3A (a:List qV)(b:List qV)(i:Int)(rec:Int->Res)(d:Unit->Res)(f:Unit->Res):Res:=bif decide (i<(nI a.length)) then bif inb i a.length then bif inb i b.length then j9Y (nth (0,0,eS) a i) (nth (0,0,eS) b i) λr=>bif !r then f () else rec (Z9J (i+1)) else none else none else d ()
def jdq (a:List qV)(b:List qV):Int->(Int->Res)->((Unit->Res)×(Unit->Res))->Res:=λv rec q=>j3A a b v (λi=>rec (i)) q.1 q.2
def jfN (a:List qV)(b:List qV)(n:Nat)(i:Int)(d:Unit->Res)(f:Unit->Res):Res:=Z1e (jdq a b) n (i) (d,f)
def jeF:Z1c Unit:=NdL 27 27 [.R 0 y2 .S,.R 1 y2 .S,.I 5] [] (λb d=>(b.2.2.1)) (λb v=>(b.1,b.2.1,v,())) (λd v=>()) (λb d=>jdq b.1 b.2.1) λb d f=>((λ_=>f (.exit 0) [] []),(λ_=>f .ret [(4,vB false)] []))
theorem jkU:CN 0 58 Tryz.f134 jeF:=lK (Za5 jd3 Zar) [] oN ([],[]) [(0,[],[])] ([4],[]) λ_ _ _ _ _=>by kernel_rfl
def j6A (a:List qV)(b:List qV)(d:Bool->Res):Res:=bif ((nI a.length) != (nI b.length)) then d false else jfN a b Z1b 0 (λ_=>d true) (λ_=>d false)
def jhf:Sig Unit:=sg [.look y2 false,.look y2 false] [false] [(y2,none),(y2,none)] [] λb f k=>j6A b.1 b.2.1 (λd=>k [wB d] [] [])
theorem jgW:SO 134 jhf:=fK (np:=0) (Za5 jd3 Zar) [jeF] (oI 58 0 @jkU oN) false Tryz.func134 λ_ _ _ _=>by kernel_rfl
end
end Go.PI.G
namespace Go.PI.G
noncomputable section
open Go Go.PI Go.Proofs
open Go.Code (pl pr)
def j7Q (a:List qV)(left:Int)(b:Int->Res):Res:=j6B a left λr=>bif decide (r<0) then b (-1) else b r
def jiv:Sig Unit:=sg [.look y2 true,.look tI false] [false] [(y2,none),(tI,none)] [] λb f k=>j7Q b.1 b.2.1 (λd=>k [wI d] [] [])
theorem jd4:SO 115 jiv:=fK (np:=0) (Za5 jh0 Zar) [] oN false Tryz.func115 λ_ _ _ _=>by kernel_rfl
def j7T (a:List qV)(b:qW->Res):Res:=j6C a λr=>b r
def jiB:Sig Unit:=sg [.borrow y2 true] [true] [(y2,none)] [] λd f k=>j7T d.1 (λb=>k [⟨y2,true,b,[.O]⟩] [] [])
theorem jd6:SO 124 jiB:=fK (np:=0) (Za5 jh4 Zar) [] oN false Tryz.func124 λ_ _ _ _=>by kernel_rfl
def j7N (a:List qV)(b:List qV)(d:Bool->Res):Res:=j6A a b λr=>bif !r then d false else d true
def jip:Sig Unit:=sg [.look y2 true,.look y2 true] [false] [(y2,none),(y2,none)] [] λb f k=>j7N b.1 b.2.1 (λd=>k [wB d] [] [])
theorem jd2:SO 135 jip:=fK (np:=0) (Za5 jgW Zar) [] oN false Tryz.func135 λ_ _ _ _=>by kernel_rfl
end
end Go.PI.G
namespace Go.PI.G
noncomputable section
open Go Go.PI Go.Proofs
open Go.Code (pl pr)
def j3D (a:List qW)(left:Int)(i:Int)(rec:Int->Int->Res)(b:Int->Res)(d:Unit->Res):Res:=bif decide (i<(nI a.length)) then bif inb i a.length then j7Q (nth [] a i) left λr=>bif decide (r<0) then d () else rec r (Z9J (i+1)) else none else b left
def jdt (a:List qW):(Int×Int)->(Int×Int->Res)->((Int->Res)×(Unit->Res))->Res:=λv rec q=>j3D a v.1 v.2 (λleft i=>rec (left,i)) q.1 q.2
def jb7 (a:List qW)(n:Nat)(left:Int)(i:Int)(b:Int->Res)(d:Unit->Res):Res:=Z1e (jdt a) n (left,i) (b,d)
def jeI:Z1c Unit:=NdL 27 27 [.R 0 y24 .S,.I 1,.I 5] [] (λd f=>(d.2.1,d.2.2.1)) (λd v=>(d.1,v.1,v.2,())) (λf v=>()) (λd f=>jdt d.1) λd f g=>((λb=>g (.exit 0) [(1,vI b)] []),(λ_=>g .ret [(4,vI (-1))] []))
theorem jkX:CN 0 122 Tryz.f183 jeI:=lK (Za5 jd4 Zar) [] oN ([],[]) [(0,[1],[])] ([4],[]) λ_ _ _ _ _=>by kernel_rfl
def jbD (a:List qW)(left:Int)(d:Int->Res):Res:=bif decide ((Z9J (left-(nI a.length)))<0) then d (-1) else jb7 a Z1b (Z9J (left-(nI a.length))) 0 (λb=>d b) (λ_=>d (-1))
def jo1:Sig Unit:=sg [.look y24 false,.look tI false] [false] [(y24,none),(tI,none)] [] λb f k=>jbD b.1 b.2.1 (λd=>k [wI d] [] [])
theorem jno:SO 183 jo1:=fK (np:=0) (Za5 jd4 Zar) [jeI] (oI 122 0 @jkX oN) false Tryz.func183 λ_ _ _ _=>by kernel_rfl
def j3I (a:List qW)(b:List qW)(i:Int)(rec:qR->Int->Res)(d:qR->Res):Res:=bif decide (i<(nI a.length)) then bif inb i a.length then j7T (nth [] a i) λr=>bif inb i b.length then rec (upd b i r) (Z9J (i+1)) else none else none else d b
def j97 (a:List qW):(qR×Int)->(qR×Int->Res)->((qR->Res))->Res:=λv rec q=>j3I a v.1 v.2 (λb i=>rec (b,i)) q
def jm5 (a:List qW)(n:Nat)(b:List qW)(i:Int)(d:qR->Res):Res:=Z1e (j97 a) n (b,i) (d)
def jeN:Z1c Unit:=NdL 23 23 [.R 0 y24 .S,.R 3 y24 .O,.I 4] [] (λb f=>(b.2.1,b.2.2.1)) (λb v=>(b.1,v.1,v.2,())) (λf v=>()) (λb f=>j97 b.1) λb f g=>((λd=>g (.exit 0) [(3,v1 y24 d .O)] []))
theorem jl2:CN 0 58 Tryz.f194 jeN:=lK (Za5 jd6 Zar) [] oN ([],[]) [(0,[3],[])] ([],[]) λ_ _ _ _ _=>by kernel_rfl
def jbG (a:List qW)(d:qR->Res):Res:=bif Z9H (nI a.length) (nI a.length) then jm5 a Z1b (Z9g (nI a.length) []) 0 λb=>d b else none
def jo5:Sig Unit:=sg [.borrow y24 false] [false] [(y24,none)] [] λd f k=>jbG d.1 (λb=>k [w1 y24 b .O] [] [])
theorem jns:SO 194 jo5:=fK (np:=0) (Za5 jd6 Zar) [jeN] (oI 58 0 @jl2 oN) false Tryz.func194 λ_ _ _ _=>by kernel_rfl
def j3z (a:List qW)(b:List qW)(i:Int)(rec:Int->Res)(d:Unit->Res)(f:Unit->Res):Res:=bif decide (i<(nI a.length)) then bif inb i a.length then bif inb i b.length then j7N (nth [] a i) (nth [] b i) λr=>bif !r then f () else rec (Z9J (i+1)) else none else none else d ()
def jdo (a:List qW)(b:List qW):Int->(Int->Res)->((Unit->Res)×(Unit->Res))->Res:=λv rec q=>j3z a b v (λi=>rec (i)) q.1 q.2
def jfM (a:List qW)(b:List qW)(n:Nat)(i:Int)(d:Unit->Res)(f:Unit->Res):Res:=Z1e (jdo a b) n (i) (d,f)
def jeE:Z1c Unit:=NdL 27 27 [.R 0 y24 .S,.R 1 y24 .S,.I 5] [] (λb d=>(b.2.2.1)) (λb v=>(b.1,b.2.1,v,())) (λd v=>()) (λb d=>jdo b.1 b.2.1) λb d f=>((λ_=>f (.exit 0) [] []),(λ_=>f .ret [(4,vB false)] []))
theorem jkT:CN 0 58 Tryz.f209 jeE:=lK (Za5 jd2 Zar) [] oN ([],[]) [(0,[],[])] ([4],[]) λ_ _ _ _ _=>by kernel_rfl
def jbA (a:List qW)(b:List qW)(d:Bool->Res):Res:=bif ((nI a.length) != (nI b.length)) then d false else jfM a b Z1b 0 (λ_=>d true) (λ_=>d false)
def jnX:Sig Unit:=sg [.look y24 false,.look y24 false] [false] [(y24,none),(y24,none)] [] λb f k=>jbA b.1 b.2.1 (λd=>k [wB d] [] [])
theorem jnk:SO 209 jnX:=fK (np:=0) (Za5 jd2 Zar) [jeE] (oI 58 0 @jkT oN) false Tryz.func209 λ_ _ _ _=>by kernel_rfl
end
end Go.PI.G
namespace Go.PI.G
noncomputable section
open Go Go.PI Go.Proofs
open Go.Code (pl pr)
def jbE (a:List qW)(left:Int)(b:Int->Res):Res:=jbD a left λr=>bif decide (r<0) then b (-1) else b r
def jo2:Sig Unit:=sg [.look y24 true,.look tI false] [false] [(y24,none),(tI,none)] [] λb f k=>jbE b.1 b.2.1 (λd=>k [wI d] [] [])
theorem jgZ:SO 138 jo2:=fK (np:=0) (Za5 jno Zar) [] oN false Tryz.func138 λ_ _ _ _=>by kernel_rfl
def jbH (a:List qW)(b:qR->Res):Res:=jbG a λr=>b r
def jo6:Sig Unit:=sg [.borrow y24 true] [true] [(y24,none)] [] λd f k=>jbH d.1 (λb=>k [⟨y24,true,b,[.O]⟩] [] [])
theorem jh3:SO 149 jo6:=fK (np:=0) (Za5 jns Zar) [] oN false Tryz.func149 λ_ _ _ _=>by kernel_rfl
def jbB (a:List qW)(b:List qW)(d:Bool->Res):Res:=jbA a b λr=>bif !r then d false else d true
def jnY:Sig Unit:=sg [.look y24 true,.look y24 true] [false] [(y24,none),(y24,none)] [] λb f k=>jbB b.1 b.2.1 (λd=>k [wB d] [] [])
theorem jgV:SO 162 jnY:=fK (np:=0) (Za5 jnk Zar) [] oN false Tryz.func162 λ_ _ _ _=>by kernel_rfl
end
end Go.PI.G
namespace Go.PI.G
noncomputable section
open Go Go.PI Go.Proofs
open Go.Code (pl pr)
def j2L (a:List qR)(left:Int)(i:Int)(rec:Int->Int->Res)(b:Int->Res)(d:Unit->Res):Res:=bif decide (i<(nI a.length)) then bif inb i a.length then jbE (nth [] a i) left λr=>bif decide (r<0) then d () else rec r (Z9J (i+1)) else none else b left
def jcz (a:List qR):(Int×Int)->(Int×Int->Res)->((Int->Res)×(Unit->Res))->Res:=λv rec q=>j2L a v.1 v.2 (λleft i=>rec (left,i)) q.1 q.2
def ja5 (a:List qR)(n:Nat)(left:Int)(i:Int)(b:Int->Res)(d:Unit->Res):Res:=Z1e (jcz a) n (left,i) (b,d)
def jdQ:Z1c Unit:=NdL 27 27 [.R 0 y25 .S,.I 1,.I 5] [] (λd f=>(d.2.1,d.2.2.1)) (λd v=>(d.1,v.1,v.2,())) (λf v=>()) (λd f=>jcz d.1) λd f g=>((λb=>g (.exit 0) [(1,vI b)] []),(λ_=>g .ret [(4,vI (-1))] []))
theorem jjR:CN 0 122 Tryz.f90 jdQ:=lK (Za5 jgZ Zar) [] oN ([],[]) [(0,[1],[])] ([4],[]) λ_ _ _ _ _=>by kernel_rfl
def j7g (a:List qR)(left:Int)(d:Int->Res):Res:=bif decide ((Z9J (left-(nI a.length)))<0) then d (-1) else ja5 a Z1b (Z9J (left-(nI a.length))) 0 (λb=>d b) (λ_=>d (-1))
def jfU:Sig Unit:=sg [.look y25 false,.look tI false] [false] [(y25,none),(tI,none)] [] λb f k=>j7g b.1 b.2.1 (λd=>k [wI d] [] [])
theorem jlJ:SO 90 jfU:=fK (np:=0) (Za5 jgZ Zar) [jdQ] (oI 122 0 @jjR oN) false Tryz.func90 λ_ _ _ _=>by kernel_rfl
def j2O (a:List qR)(b:List qR)(i:Int)(rec:qX->Int->Res)(d:qX->Res):Res:=bif decide (i<(nI a.length)) then bif inb i a.length then jbH (nth [] a i) λr=>bif inb i b.length then rec (upd b i r) (Z9J (i+1)) else none else none else d b
def j8d (a:List qR):(qX×Int)->(qX×Int->Res)->((qX->Res))->Res:=λv rec q=>j2O a v.1 v.2 (λb i=>rec (b,i)) q
def jkG (a:List qR)(n:Nat)(b:List qR)(i:Int)(d:qX->Res):Res:=Z1e (j8d a) n (b,i) (d)
def jdT:Z1c Unit:=NdL 23 23 [.R 0 y25 .S,.R 3 y25 .O,.I 4] [] (λb f=>(b.2.1,b.2.2.1)) (λb v=>(b.1,v.1,v.2,())) (λf v=>()) (λb f=>j8d b.1) λb f g=>((λd=>g (.exit 0) [(3,v1 y25 d .O)] []))
theorem jjU:CN 0 58 Tryz.f101 jdT:=lK (Za5 jh3 Zar) [] oN ([],[]) [(0,[3],[])] ([],[]) λ_ _ _ _ _=>by kernel_rfl
def j7i (a:List qR)(d:qX->Res):Res:=bif Z9H (nI a.length) (nI a.length) then jkG a Z1b (Z9g (nI a.length) []) 0 λb=>d b else none
def jfW:Sig Unit:=sg [.borrow y25 false] [false] [(y25,none)] [] λd f k=>j7i d.1 (λb=>k [w1 y25 b .O] [] [])
theorem jlN:SO 101 jfW:=fK (np:=0) (Za5 jh3 Zar) [jdT] (oI 58 0 @jjU oN) false Tryz.func101 λ_ _ _ _=>by kernel_rfl
def j2J (a:List qR)(b:List qR)(i:Int)(rec:Int->Res)(d:Unit->Res)(f:Unit->Res):Res:=bif decide (i<(nI a.length)) then bif inb i a.length then bif inb i b.length then jbB (nth [] a i) (nth [] b i) λr=>bif !r then f () else rec (Z9J (i+1)) else none else none else d ()
def jcw (a:List qR)(b:List qR):Int->(Int->Res)->((Unit->Res)×(Unit->Res))->Res:=λv rec q=>j2J a b v (λi=>rec (i)) q.1 q.2
def jem (a:List qR)(b:List qR)(n:Nat)(i:Int)(d:Unit->Res)(f:Unit->Res):Res:=Z1e (jcw a b) n (i) (d,f)
def jdO:Z1c Unit:=NdL 27 27 [.R 0 y25 .S,.R 1 y25 .S,.I 5] [] (λb d=>(b.2.2.1)) (λb v=>(b.1,b.2.1,v,())) (λd v=>()) (λb d=>jcw b.1 b.2.1) λb d f=>((λ_=>f (.exit 0) [] []),(λ_=>f .ret [(4,vB false)] []))
theorem jjP:CN 0 58 Tryz.f112 jdO:=lK (Za5 jgV Zar) [] oN ([],[]) [(0,[],[])] ([4],[]) λ_ _ _ _ _=>by kernel_rfl
def j7e (a:List qR)(b:List qR)(d:Bool->Res):Res:=bif ((nI a.length) != (nI b.length)) then d false else jem a b Z1b 0 (λ_=>d true) (λ_=>d false)
def jfS:Sig Unit:=sg [.look y25 false,.look y25 false] [false] [(y25,none),(y25,none)] [] λb f k=>j7e b.1 b.2.1 (λd=>k [wB d] [] [])
theorem jlF:SO 112 jfS:=fK (np:=0) (Za5 jgV Zar) [jdO] (oI 58 0 @jjP oN) false Tryz.func112 λ_ _ _ _=>by kernel_rfl
end
end Go.PI.G
namespace Go.PI.G
noncomputable section
open Go Go.PI Go.Proofs
open Go.Code (pl pr)
def jbP (a:qF×List qR)(left:Int)(b:Int->Res):Res:=ja0 a.1 left λr=>bif decide (r<0) then b (-1) else j7g a.2 r λd=>bif decide (d<0) then b (-1) else b d
def jqb:Sig Unit:=sg [.look y26 true,.look tI false] [false] [(y26,none),(tI,none)] [] λb f k=>jbP b.1 b.2.1 (λd=>k [wI d] [] [])
theorem jpT:SO 57 jqb:=fK (np:=0) (Za5 jou (Za5 jlJ Zar)) [] oN false Tryz.func57 λ_ _ _ _=>by delta jbP jiq jfU;refine gz ja0 λ_ b=>gz j7g λ_ d=> ?_;rewrite[<-b,<-d];kernel_rfl
def jbR (a:qF×List qR)(b:qD->Res):Res:=ja8 a.1 λr=>j7i a.2 λd=>b (r,d)
def jqc:Sig Unit:=sg [.borrow y26 true] [true] [(y26,none)] [] λd f k=>jbR d.1 (λb=>k [⟨y26,true,b,[.O,.O]⟩] [] [])
theorem jpU:SO 62 jqc:=fK (np:=0) (Za5 joz (Za5 jlN Zar)) [] oN false Tryz.func62 λ_ _ _ _=>by delta jbR jiw jfW;refine gz ja8 λ_ b=>gz j7i λ_ d=> ?_;rewrite[<-b,<-d];kernel_rfl
def jbN (a:qF×List qR)(b:qF×List qR)(d:Bool->Res):Res:=j9U a.1 b.1 λr=>bif !r then d false else j7e a.2 b.2 λf=>bif !f then d false else d true
def jqa:Sig Unit:=sg [.look y26 true,.look y26 true] [false] [(y26,none),(y26,none)] [] λb f k=>jbN b.1 b.2.1 (λd=>k [wB d] [] [])
theorem jpS:SO 69 jqa:=fK (np:=0) (Za5 jop (Za5 jlF Zar)) [] oN false Tryz.func69 λ_ _ _ _=>by delta jbN jik jfS;refine gz j9U λ_ b=>gz j7e λ_ d=> ?_;rewrite[<-b,<-d];kernel_rfl
end
end Go.PI.G
namespace Go.PI.G
noncomputable section
open Go Go.PI Go.Proofs
open Go.Code (pl pr)
def j7P (a:qD×Int×Int)(left:Int)(b:Int->Res):Res:=jbP a.1 left λr=>bif decide (r<0) then b (-1) else b r
def jis:Sig Unit:=sg [.look y28 true,.look tI false] [false] [(y28,none),(tI,none)] [] λb f k=>j7P b.1 b.2.1 (λd=>k [wI d] [] [])
theorem jow:SO 23 jis:=fK (np:=0) (Za5 jpT Zar) [] oN false Tryz.func23 λ_ _ _ _=>by kernel_rfl
def j7S (a:qD×Int×Int)(b:(qD×Int×Int)->Res):Res:=jbR a.1 λr=>b (r,a.2.1,a.2.2)
def jiy:Sig Unit:=sg [.borrow y28 true] [true] [(y28,none)] [] λd f k=>j7S d.1 (λb=>k [⟨y28,true,b,[.O,.O]⟩] [] [])
theorem joB:SO 30 jiy:=fK (np:=0) (Za5 jpU Zar) [] oN false Tryz.func30 λ_ _ _ _=>by kernel_rfl
def j7M (a:qD×Int×Int)(b:qD×Int×Int)(d:Bool->Res):Res:=jbN a.1 b.1 λr=>bif !r then d false else bif (a.2.1 != b.2.1) then d false else bif (a.2.2 != b.2.2) then d false else d true
def jim:Sig Unit:=sg [.look y28 true,.look y28 true] [false] [(y28,none),(y28,none)] [] λb f k=>j7M b.1 b.2.1 (λd=>k [wB d] [] [])
theorem jor:SO 37 jim:=fK (np:=0) (Za5 jpS Zar) [] oN false Tryz.func37 λ_ _ _ _=>by kernel_rfl
end
end Go.PI.G
namespace Go.PI.G
noncomputable section
open Go Go.PI Go.Proofs
open Go.Code (pl pr)
def j8w (a:List Int)(left:Int)(b:Int->Res):Res:=bif decide ((Z9J (left-(nI a.length)))<0) then b (-1) else b (Z9J (left-(nI a.length)))
def jhg:Sig Unit:=sg [.look y31 false,.look tI false] [false] [(y31,none),(tI,none)] [] λb f k=>j8w b.1 b.2.1 (λd=>k [wI d] [] [])
theorem jnm:SO 25 jhg:=fK (np:=0) Zar [] oN false Tryz.func25 λ_ _ _ _=>by kernel_rfl
def j3G (a:List Int)(b:List Int)(i:Int)(rec:(List Int)->Int->Res)(d:(List Int)->Res):Res:=bif decide (i<(nI a.length)) then bif inb i a.length then bif inb i b.length then rec (upd b i (nth 0 a i)) (Z9J (i+1)) else none else none else d b
def j95 (a:List Int):((List Int)×Int)->((List Int)×Int->Res)->(((List Int)->Res))->Res:=λv rec q=>j3G a v.1 v.2 (λb i=>rec (b,i)) q
def jm3 (a:List Int)(n:Nat)(b:List Int)(i:Int)(d:(List Int)->Res):Res:=Z1e (j95 a) n (b,i) (d)
def jeL:Z1c Unit:=NdL 22 22 [.R 0 y31 .S,.R 3 y31 .O,.I 4] [] (λb f=>(b.2.1,b.2.2.1)) (λb v=>(b.1,v.1,v.2,())) (λf v=>()) (λb f=>j95 b.1) λb f g=>((λd=>g (.exit 0) [(3,v1 y31 d .O)] []))
theorem jl0:CN 0 58 Tryz.f32 jeL:=lK Zar [] oN ([],[]) [(0,[3],[])] ([],[]) λ_ _ _ _ _=>by kernel_rfl
def j8z (a:List Int)(d:(List Int)->Res):Res:=bif Z9H (nI a.length) (nI a.length) then jm3 a Z1b (Z9g (nI a.length) 0) 0 λb=>d b else none
def jhj:Sig Unit:=sg [.borrow y31 false] [false] [(y31,none)] [] λd f k=>j8z d.1 (λb=>k [w1 y31 b .O] [] [])
theorem jnq:SO 32 jhj:=fK (np:=0) Zar [jeL] (oI 58 0 @jl0 oN) false Tryz.func32 λ_ _ _ _=>by kernel_rfl
def j3x (a:List Int)(b:List Int)(i:Int)(rec:Int->Res)(d:Unit->Res)(f:Unit->Res):Res:=bif decide (i<(nI a.length)) then bif inb i a.length then bif inb i b.length then bif ((nth 0 a i) != (nth 0 b i)) then f () else rec (Z9J (i+1)) else none else none else d ()
def jdm (a:List Int)(b:List Int):Int->(Int->Res)->((Unit->Res)×(Unit->Res))->Res:=λv rec q=>j3x a b v (λi=>rec (i)) q.1 q.2
def jfK (a:List Int)(b:List Int)(n:Nat)(i:Int)(d:Unit->Res)(f:Unit->Res):Res:=Z1e (jdm a b) n (i) (d,f)
def jeC:Z1c Unit:=NdL 26 26 [.R 0 y31 .S,.R 1 y31 .S,.I 5] [] (λb d=>(b.2.2.1)) (λb v=>(b.1,b.2.1,v,())) (λd v=>()) (λb d=>jdm b.1 b.2.1) λb d f=>((λ_=>f (.exit 0) [] []),(λ_=>f .ret [(4,vB false)] []))
theorem jkR:CN 0 58 Tryz.f39 jeC:=lK Zar [] oN ([],[]) [(0,[],[])] ([4],[]) λ_ _ _ _ _=>by kernel_rfl
def j8t (a:List Int)(b:List Int)(d:Bool->Res):Res:=bif ((nI a.length) != (nI b.length)) then d false else jfK a b Z1b 0 (λ_=>d true) (λ_=>d false)
def jhd:Sig Unit:=sg [.look y31 false,.look y31 false] [false] [(y31,none),(y31,none)] [] λb f k=>j8t b.1 b.2.1 (λd=>k [wB d] [] [])
theorem jni:SO 39 jhd:=fK (np:=0) Zar [jeC] (oI 58 0 @jkR oN) false Tryz.func39 λ_ _ _ _=>by kernel_rfl
end
end Go.PI.G
namespace Go.PI.G
noncomputable section
open Go Go.PI Go.Proofs
open Go.Code (pl pr)
def j9Z (a:List Int)(left:Int)(b:Int->Res):Res:=bif decide ((Z9J (left-(nI a.length)))<0) then b (-1) else b (Z9J (left-(nI a.length)))
def jmx:Sig Unit:=sg [.look y29 false,.look tI false] [false] [(y29,none),(tI,none)] [] λb f k=>j9Z b.1 b.2.1 (λd=>k [wI d] [] [])
theorem jlH:SO 139 jmx:=fK (np:=0) Zar [] oN false Tryz.func139 λ_ _ _ _=>by kernel_rfl
def j2M (a:List Int)(b:List Int)(i:Int)(rec:(List Int)->Int->Res)(d:(List Int)->Res):Res:=bif decide (i<(nI a.length)) then bif inb i a.length then bif inb i b.length then rec (upd b i (nth 0 a i)) (Z9J (i+1)) else none else none else d b
def j8b (a:List Int):((List Int)×Int)->((List Int)×Int->Res)->(((List Int)->Res))->Res:=λv rec q=>j2M a v.1 v.2 (λb i=>rec (b,i)) q
def jkE (a:List Int)(n:Nat)(b:List Int)(i:Int)(d:(List Int)->Res):Res:=Z1e (j8b a) n (b,i) (d)
def jdR:Z1c Unit:=NdL 22 22 [.R 0 y29 .S,.R 3 y29 .O,.I 4] [] (λb f=>(b.2.1,b.2.2.1)) (λb v=>(b.1,v.1,v.2,())) (λf v=>()) (λb f=>j8b b.1) λb f g=>((λd=>g (.exit 0) [(3,v1 y29 d .O)] []))
theorem jjS:CN 0 58 Tryz.f150 jdR:=lK Zar [] oN ([],[]) [(0,[3],[])] ([],[]) λ_ _ _ _ _=>by kernel_rfl
def ja7 (a:List Int)(d:(List Int)->Res):Res:=bif Z9H (nI a.length) (nI a.length) then jkE a Z1b (Z9g (nI a.length) 0) 0 λb=>d b else none
def jmA:Sig Unit:=sg [.borrow y29 false] [false] [(y29,none)] [] λd f k=>ja7 d.1 (λb=>k [w1 y29 b .O] [] [])
theorem jlL:SO 150 jmA:=fK (np:=0) Zar [jdR] (oI 58 0 @jjS oN) false Tryz.func150 λ_ _ _ _=>by kernel_rfl
def j2H (a:List Int)(b:List Int)(i:Int)(rec:Int->Res)(d:Unit->Res)(f:Unit->Res):Res:=bif decide (i<(nI a.length)) then bif inb i a.length then bif inb i b.length then bif ((nth 0 a i) != (nth 0 b i)) then f () else rec (Z9J (i+1)) else none else none else d ()
def jcu (a:List Int)(b:List Int):Int->(Int->Res)->((Unit->Res)×(Unit->Res))->Res:=λv rec q=>j2H a b v (λi=>rec (i)) q.1 q.2
def jek (a:List Int)(b:List Int)(n:Nat)(i:Int)(d:Unit->Res)(f:Unit->Res):Res:=Z1e (jcu a b) n (i) (d,f)
def jdM:Z1c Unit:=NdL 26 26 [.R 0 y29 .S,.R 1 y29 .S,.I 5] [] (λb d=>(b.2.2.1)) (λb v=>(b.1,b.2.1,v,())) (λd v=>()) (λb d=>jcu b.1 b.2.1) λb d f=>((λ_=>f (.exit 0) [] []),(λ_=>f .ret [(4,vB false)] []))
theorem jjN:CN 0 58 Tryz.f163 jdM:=lK Zar [] oN ([],[]) [(0,[],[])] ([4],[]) λ_ _ _ _ _=>by kernel_rfl
def j9T (a:List Int)(b:List Int)(d:Bool->Res):Res:=bif ((nI a.length) != (nI b.length)) then d false else jek a b Z1b 0 (λ_=>d true) (λ_=>d false)
def jmu:Sig Unit:=sg [.look y29 false,.look y29 false] [false] [(y29,none),(y29,none)] [] λb f k=>j9T b.1 b.2.1 (λd=>k [wB d] [] [])
theorem jlD:SO 163 jmu:=fK (np:=0) Zar [jdM] (oI 58 0 @jjN oN) false Tryz.func163 λ_ _ _ _=>by kernel_rfl
end
end Go.PI.G
namespace Go.PI.G
noncomputable section
open Go Go.PI Go.Proofs
open Go.Code (pl pr)
def jbC (a:List Int)(left:Int)(b:Int->Res):Res:=j9Z a left λr=>bif decide (r<0) then b (-1) else b r
def jo0:Sig Unit:=sg [.look y29 true,.look tI false] [false] [(y29,none),(tI,none)] [] λb f k=>jbC b.1 b.2.1 (λd=>k [wI d] [] [])
theorem jgY:SO 91 jo0:=fK (np:=0) (Za5 jlH Zar) [] oN false Tryz.func91 λ_ _ _ _=>by kernel_rfl
def jbF (a:List Int)(b:(List Int)->Res):Res:=ja7 a λr=>b r
def jo4:Sig Unit:=sg [.borrow y29 true] [true] [(y29,none)] [] λd f k=>jbF d.1 (λb=>k [⟨y29,true,b,[.O]⟩] [] [])
theorem jh2:SO 102 jo4:=fK (np:=0) (Za5 jlL Zar) [] oN false Tryz.func102 λ_ _ _ _=>by kernel_rfl
def jbz (a:List Int)(b:List Int)(d:Bool->Res):Res:=j9T a b λr=>bif !r then d false else d true
def jnW:Sig Unit:=sg [.look y29 true,.look y29 true] [false] [(y29,none),(y29,none)] [] λb f k=>jbz b.1 b.2.1 (λd=>k [wB d] [] [])
theorem jgU:SO 113 jnW:=fK (np:=0) (Za5 jlD Zar) [] oN false Tryz.func113 λ_ _ _ _=>by kernel_rfl
end
end Go.PI.G
namespace Go.PI.G
noncomputable section
open Go Go.PI Go.Proofs
open Go.Code (pl pr)
def j2K (a:List (List Int))(left:Int)(i:Int)(rec:Int->Int->Res)(b:Int->Res)(d:Unit->Res):Res:=bif decide (i<(nI a.length)) then bif inb i a.length then jbC (nth [] a i) left λr=>bif decide (r<0) then d () else rec r (Z9J (i+1)) else none else b left
def jcy (a:List (List Int)):(Int×Int)->(Int×Int->Res)->((Int->Res)×(Unit->Res))->Res:=λv rec q=>j2K a v.1 v.2 (λleft i=>rec (left,i)) q.1 q.2
def ja3 (a:List (List Int))(n:Nat)(left:Int)(i:Int)(b:Int->Res)(d:Unit->Res):Res:=Z1e (jcy a) n (left,i) (b,d)
def jdP:Z1c Unit:=NdL 27 27 [.R 0 y30 .S,.I 1,.I 5] [] (λd f=>(d.2.1,d.2.2.1)) (λd v=>(d.1,v.1,v.2,())) (λf v=>()) (λd f=>jcy d.1) λd f g=>((λb=>g (.exit 0) [(1,vI b)] []),(λ_=>g .ret [(4,vI (-1))] []))
theorem jjQ:CN 0 122 Tryz.f58 jdP:=lK (Za5 jgY Zar) [] oN ([],[]) [(0,[1],[])] ([4],[]) λ_ _ _ _ _=>by kernel_rfl
def ja2 (a:List (List Int))(left:Int)(d:Int->Res):Res:=bif decide ((Z9J (left-(nI a.length)))<0) then d (-1) else ja3 a Z1b (Z9J (left-(nI a.length))) 0 (λb=>d b) (λ_=>d (-1))
def jmy:Sig Unit:=sg [.look y30 false,.look tI false] [false] [(y30,none),(tI,none)] [] λb f k=>ja2 b.1 b.2.1 (λd=>k [wI d] [] [])
theorem jlI:SO 58 jmy:=fK (np:=0) (Za5 jgY Zar) [jdP] (oI 122 0 @jjQ oN) false Tryz.func58 λ_ _ _ _=>by kernel_rfl
def j2N (a:List (List Int))(b:List (List Int))(i:Int)(rec:(List (List Int))->Int->Res)(d:(List (List Int))->Res):Res:=bif decide (i<(nI a.length)) then bif inb i a.length then jbF (nth [] a i) λr=>bif inb i b.length then rec (upd b i r) (Z9J (i+1)) else none else none else d b
def j8c (a:List (List Int)):((List (List Int))×Int)->((List (List Int))×Int->Res)->(((List (List Int))->Res))->Res:=λv rec q=>j2N a v.1 v.2 (λb i=>rec (b,i)) q
def jkF (a:List (List Int))(n:Nat)(b:List (List Int))(i:Int)(d:(List (List Int))->Res):Res:=Z1e (j8c a) n (b,i) (d)
def jdS:Z1c Unit:=NdL 23 23 [.R 0 y30 .S,.R 3 y30 .O,.I 4] [] (λb f=>(b.2.1,b.2.2.1)) (λb v=>(b.1,v.1,v.2,())) (λf v=>()) (λb f=>j8c b.1) λb f g=>((λd=>g (.exit 0) [(3,v1 y30 d .O)] []))
theorem jjT:CN 0 58 Tryz.f63 jdS:=lK (Za5 jh2 Zar) [] oN ([],[]) [(0,[3],[])] ([],[]) λ_ _ _ _ _=>by kernel_rfl
def jaa (a:List (List Int))(d:(List (List Int))->Res):Res:=bif Z9H (nI a.length) (nI a.length) then jkF a Z1b (Z9g (nI a.length) []) 0 λb=>d b else none
def jmB:Sig Unit:=sg [.borrow y30 false] [false] [(y30,none)] [] λd f k=>jaa d.1 (λb=>k [w1 y30 b .O] [] [])
theorem jlM:SO 63 jmB:=fK (np:=0) (Za5 jh2 Zar) [jdS] (oI 58 0 @jjT oN) false Tryz.func63 λ_ _ _ _=>by kernel_rfl
def j2I (a:List (List Int))(b:List (List Int))(i:Int)(rec:Int->Res)(d:Unit->Res)(f:Unit->Res):Res:=bif decide (i<(nI a.length)) then bif inb i a.length then bif inb i b.length then jbz (nth [] a i) (nth [] b i) λr=>bif !r then f () else rec (Z9J (i+1)) else none else none else d ()
def jcv (a:List (List Int))(b:List (List Int)):Int->(Int->Res)->((Unit->Res)×(Unit->Res))->Res:=λv rec q=>j2I a b v (λi=>rec (i)) q.1 q.2
def jel (a:List (List Int))(b:List (List Int))(n:Nat)(i:Int)(d:Unit->Res)(f:Unit->Res):Res:=Z1e (jcv a b) n (i) (d,f)
def jdN:Z1c Unit:=NdL 27 27 [.R 0 y30 .S,.R 1 y30 .S,.I 5] [] (λb d=>(b.2.2.1)) (λb v=>(b.1,b.2.1,v,())) (λd v=>()) (λb d=>jcv b.1 b.2.1) λb d f=>((λ_=>f (.exit 0) [] []),(λ_=>f .ret [(4,vB false)] []))
theorem jjO:CN 0 58 Tryz.f70 jdN:=lK (Za5 jgU Zar) [] oN ([],[]) [(0,[],[])] ([4],[]) λ_ _ _ _ _=>by kernel_rfl
def j9W (a:List (List Int))(b:List (List Int))(d:Bool->Res):Res:=bif ((nI a.length) != (nI b.length)) then d false else jel a b Z1b 0 (λ_=>d true) (λ_=>d false)
def jmv:Sig Unit:=sg [.look y30 false,.look y30 false] [false] [(y30,none),(y30,none)] [] λb f k=>j9W b.1 b.2.1 (λd=>k [wB d] [] [])
theorem jlE:SO 70 jmv:=fK (np:=0) (Za5 jgU Zar) [jdN] (oI 58 0 @jjO oN) false Tryz.func70 λ_ _ _ _=>by kernel_rfl
end
end Go.PI.G
namespace Go.PI.G
noncomputable section
open Go Go.PI Go.Proofs
open Go.Code (pl pr)
def ja1 (a:List (List Int))(left:Int)(b:Int->Res):Res:=ja2 a left λr=>bif decide (r<0) then b (-1) else b r
def jit:Sig Unit:=sg [.look y30 true,.look tI false] [false] [(y30,none),(tI,none)] [] λb f k=>ja1 b.1 b.2.1 (λd=>k [wI d] [] [])
theorem jox:SO 24 jit:=fK (np:=0) (Za5 jlI Zar) [] oN false Tryz.func24 λ_ _ _ _=>by kernel_rfl
def ja9 (a:List (List Int))(b:(List (List Int))->Res):Res:=jaa a λr=>b r
def jiz:Sig Unit:=sg [.borrow y30 true] [true] [(y30,none)] [] λd f k=>ja9 d.1 (λb=>k [⟨y30,true,b,[.O]⟩] [] [])
theorem joC:SO 31 jiz:=fK (np:=0) (Za5 jlM Zar) [] oN false Tryz.func31 λ_ _ _ _=>by kernel_rfl
def j9V (a:List (List Int))(b:List (List Int))(d:Bool->Res):Res:=j9W a b λr=>bif !r then d false else d true
def jin:Sig Unit:=sg [.look y30 true,.look y30 true] [false] [(y30,none),(y30,none)] [] λb f k=>j9V b.1 b.2.1 (λd=>k [wB d] [] [])
theorem jos:SO 38 jin:=fK (np:=0) (Za5 jlE Zar) [] oN false Tryz.func38 λ_ _ _ _=>by kernel_rfl
end
end Go.PI.G
namespace Go.PI.G
noncomputable section
open Go Go.PI Go.Proofs
open Go.Code (pl pr)
def ja4 (a:qL)(left:Int)(b:Int->Res):Res:=j1g a left λr=>bif decide (r<0) then b (-1) else b r
def jiu:Sig Unit:=sg [.look y8 true,.look tI false] [false] [(y8,none),(tI,none)] [] λb f k=>ja4 b.1 b.2.1 (λd=>k [wI d] [] [])
theorem joy:SO 10 jiu:=fK (np:=0) (Za5 j8V Zar) [] oN false Tryz.func10 λ_ _ _ _=>by kernel_rfl
def jab (a:qL)(b:qL->Res):Res:=j1h a λr=>b r
def jiA:Sig Unit:=sg [.borrow y8 true] [true] [(y8,none)] [] λd f k=>jab d.1 (λb=>k [⟨y8,true,b,[.O]⟩] [] [])
theorem joD:SO 13 jiA:=fK (np:=0) (Za5 j8W Zar) [] oN false Tryz.func13 λ_ _ _ _=>by kernel_rfl
def j9X (a:qL)(b:qL)(d:Bool->Res):Res:=j1f a b λr=>bif !r then d false else d true
def jio:Sig Unit:=sg [.look y8 true,.look y8 true] [false] [(y8,none),(y8,none)] [] λb f k=>j9X b.1 b.2.1 (λd=>k [wB d] [] [])
theorem jot:SO 17 jio:=fK (np:=0) (Za5 j8U Zar) [] oN false Tryz.func17 λ_ _ _ _=>by kernel_rfl
end
end Go.PI.G
namespace Go.PI.G
noncomputable section
open Go Go.PI Go.Proofs
open Go.Code (pl pr)
def j7O (a:qG)(left:Int)(b:Int->Res):Res:=bif decide ((Z9J (left-(nI a.2.1.size)))<0) then b (-1) else j4T a.2.2.1 (Z9J (left-(nI a.2.1.size))) λr=>bif decide (r<0) then b (-1) else j1g a.2.2.2.1 r λd=>bif decide (d<0) then b (-1) else bif decide ((Z9J (d-(nI a.2.2.2.2.1.size)))<0) then b (-1) else bif decide ((Z9J ((Z9J (d-(nI a.2.2.2.2.1.size)))-(nI a.2.2.2.2.2.size)))<0) then b (-1) else b (Z9J ((Z9J (d-(nI a.2.2.2.2.1.size)))-(nI a.2.2.2.2.2.size)))
def jir:Sig Unit:=sg [.look y13 true,.look tI false] [false] [(y13,none),(tI,none)] [] λb f k=>j7O b.1 b.2.1 (λd=>k [wI d] [] [])
theorem jov:SO 116 jir:=fK (np:=0) (Za5 j8V (Za5 jgX Zar)) [] oN false Tryz.func116 λ_ _ _ _=>by delta j7O jcc j9b;refine gz j4T λ_ b=>gz j1g λ_ d=> ?_;rewrite[<-b,<-d];kernel_rfl
def j7R (a:qG)(b:qG->Res):Res:=j4U a.2.2.1 λr=>j1h a.2.2.2.1 λd=>b (a.1,a.2.1,r,d,a.2.2.2.2.1,a.2.2.2.2.2)
def jix:Sig Unit:=sg [.borrow y13 true] [true] [(y13,none)] [] λd f k=>j7R d.1 (λb=>k [⟨y13,true,b,[.O,.O]⟩] [] [])
theorem joA:SO 125 jix:=fK (np:=0) (Za5 j8W (Za5 jh1 Zar)) [] oN false Tryz.func125 λ_ _ _ _=>by delta j7R jcd j9c;refine gz j4U λ_ b=>gz j1h λ_ d=> ?_;rewrite[<-b,<-d];kernel_rfl
def j7L (a:qG)(b:qG)(d:Bool->Res):Res:=bif (a.1 != b.1) then d false else bif sNe a.2.1 b.2.1 then d false else j4S a.2.2.1 b.2.2.1 λr=>bif !r then d false else j1f a.2.2.2.1 b.2.2.2.1 λf=>bif !f then d false else bif sNe a.2.2.2.2.1 b.2.2.2.2.1 then d false else bif sNe a.2.2.2.2.2 b.2.2.2.2.2 then d false else d true
def jil:Sig Unit:=sg [.look y13 true,.look y13 true] [false] [(y13,none),(y13,none)] [] λb f k=>j7L b.1 b.2.1 (λd=>k [wB d] [] [])
theorem joq:SO 136 jil:=fK (np:=0) (Za5 j8U (Za5 jgT Zar)) [] oN false Tryz.func136 λ_ _ _ _=>by delta j7L jcb j9a;refine gz j4S λ_ b=>gz j1f λ_ d=> ?_;rewrite[<-b,<-d];kernel_rfl
end
end Go.PI.G
namespace Go.PI.G
noncomputable section
open Go Go.PI Go.Proofs
open Go.Code (pl pr)
def j8y (a:qS)(left:Int)(b:Int->Res):Res:=bif decide ((Z9J (left-(nI a.2.1.size)))<0) then b (-1) else j6B a.2.2.1 (Z9J (left-(nI a.2.1.size))) λr=>bif decide (r<0) then b (-1) else j7Q a.2.2.2.1 r λd=>bif decide (d<0) then b (-1) else j7O a.2.2.2.2 d λf=>bif decide (f<0) then b (-1) else b f
def jo3:Sig Unit:=sg [.look y17 true,.look tI false] [false] [(y17,none),(tI,none)] [] λb f k=>j8y b.1 b.2.1 (λd=>k [wI d] [] [])
theorem jnp:SO 71 jo3:=fK (np:=0) (Za5 jh0 (Za5 jd4 (Za5 jov Zar))) [] oN false Tryz.func71 λ_ _ _ _=>by delta j8y jhi jiv jir;refine gz j6B λ_ b=>gz j7Q λ_ d=>gz j7O λ_ f=> ?_;rewrite[<-b,<-d,<-f];kernel_rfl
def j8B (a:qS)(b:qS->Res):Res:=j6C a.2.2.1 λr=>j7T a.2.2.2.1 λd=>j7R a.2.2.2.2 λf=>b (a.1,a.2.1,r,d,f)
def jo7:Sig Unit:=sg [.borrow y17 true] [true] [(y17,none)] [] λd f k=>j8B d.1 (λb=>k [⟨y17,true,b,[.O,.O,.O,.O]⟩] [] [])
theorem jnt:SO 77 jo7:=fK (np:=0) (Za5 jh4 (Za5 jd6 (Za5 joA Zar))) [] oN false Tryz.func77 λ_ _ _ _=>by delta j8B jhl jiB jix;refine gz j6C λ_ b=>gz j7T λ_ d=>gz j7R λ_ f=> ?_;rewrite[<-b,<-d,<-f];kernel_rfl
def j8v (a:qS)(b:qS)(d:Bool->Res):Res:=bif (a.1 != b.1) then d false else bif sNe a.2.1 b.2.1 then d false else j6A a.2.2.1 b.2.2.1 λr=>bif !r then d false else j7N a.2.2.2.1 b.2.2.2.1 λf=>bif !f then d false else j7L a.2.2.2.2 b.2.2.2.2 λg=>bif !g then d false else d true
def jnZ:Sig Unit:=sg [.look y17 true,.look y17 true] [false] [(y17,none),(y17,none)] [] λb f k=>j8v b.1 b.2.1 (λd=>k [wB d] [] [])
theorem jnl:SO 85 jnZ:=fK (np:=0) (Za5 jgW (Za5 jd2 (Za5 joq Zar))) [] oN false Tryz.func85 λ_ _ _ _=>by delta j8v jhf jip jil;refine gz j6A λ_ b=>gz j7N λ_ d=>gz j7L λ_ f=> ?_;rewrite[<-b,<-d,<-f];kernel_rfl
end
end Go.PI.G
namespace Go.PI.G
noncomputable section
open Go Go.PI Go.Proofs
open Go.Code (pl pr)
def jcL (a:Int×Int×qS)(left:Int)(b:Int->Res):Res:=j8y a.2.2 left λr=>bif decide (r<0) then b (-1) else b r
def jps:Sig Unit:=sg [.look y19 true,.look tI false] [false] [(y19,none),(tI,none)] [] λb f k=>jcL b.1 b.2.1 (λd=>k [wI d] [] [])
theorem jhM:SO 41 jps:=fK (np:=0) (Za5 jnp Zar) [] oN false Tryz.func41 λ_ _ _ _=>by kernel_rfl
def jcN (a:Int×Int×qS)(b:qP->Res):Res:=j8B a.2.2 λr=>b (a.1,a.2.1,r)
def jpv:Sig Unit:=sg [.borrow y19 true] [true] [(y19,none)] [] λd f k=>jcN d.1 (λb=>k [⟨y19,true,b,[.O,.O,.O,.O]⟩] [] [])
theorem jhO:SO 45 jpv:=fK (np:=0) (Za5 jnt Zar) [] oN false Tryz.func45 λ_ _ _ _=>by kernel_rfl
def jcJ (a:Int×Int×qS)(b:Int×Int×qS)(d:Bool->Res):Res:=bif (a.1 != b.1) then d false else bif (a.2.1 != b.2.1) then d false else j8v a.2.2 b.2.2 λr=>bif !r then d false else d true
def jpp:Sig Unit:=sg [.look y19 true,.look y19 true] [false] [(y19,none),(y19,none)] [] λb f k=>jcJ b.1 b.2.1 (λd=>k [wB d] [] [])
theorem jhK:SO 50 jpp:=fK (np:=0) (Za5 jnl Zar) [] oN false Tryz.func50 λ_ _ _ _=>by kernel_rfl
end
end Go.PI.G
namespace Go.PI.G
noncomputable section
open Go Go.PI Go.Proofs
open Go.Code (pl pr)
def j3C (a:List qP)(left:Int)(i:Int)(rec:Int->Int->Res)(b:Int->Res)(d:Unit->Res):Res:=bif decide (i<(nI a.length)) then bif inb i a.length then jcL (nth (0,0,0,eS,[],[],0,eS,[],[],eS,eS) a i) left λr=>bif decide (r<0) then d () else rec r (Z9J (i+1)) else none else b left
def jds (a:List qP):(Int×Int)->(Int×Int->Res)->((Int->Res)×(Unit->Res))->Res:=λv rec q=>j3C a v.1 v.2 (λleft i=>rec (left,i)) q.1 q.2
def jb6 (a:List qP)(n:Nat)(left:Int)(i:Int)(b:Int->Res)(d:Unit->Res):Res:=Z1e (jds a) n (left,i) (b,d)
def jeH:Z1c Unit:=NdL 27 27 [.R 0 y20 .S,.I 1,.I 5] [] (λd f=>(d.2.1,d.2.2.1)) (λd v=>(d.1,v.1,v.2,())) (λf v=>()) (λd f=>jds d.1) λd f g=>((λb=>g (.exit 0) [(1,vI b)] []),(λ_=>g .ret [(4,vI (-1))] []))
theorem jkW:CN 0 122 Tryz.f11 jeH:=lK (Za5 jhM Zar) [] oN ([],[]) [(0,[1],[])] ([4],[]) λ_ _ _ _ _=>by kernel_rfl
def j8x (a:List qP)(left:Int)(d:Int->Res):Res:=bif decide ((Z9J (left-(nI a.length)))<0) then d (-1) else jb6 a Z1b (Z9J (left-(nI a.length))) 0 (λb=>d b) (λ_=>d (-1))
def jhh:Sig Unit:=sg [.look y20 false,.look tI false] [false] [(y20,none),(tI,none)] [] λb f k=>j8x b.1 b.2.1 (λd=>k [wI d] [] [])
theorem jnn:SO 11 jhh:=fK (np:=0) (Za5 jhM Zar) [jeH] (oI 122 0 @jkW oN) false Tryz.func11 λ_ _ _ _=>by kernel_rfl
def j3H (a:List qP)(b:List qP)(i:Int)(rec:(List qP)->Int->Res)(d:(List qP)->Res):Res:=bif decide (i<(nI a.length)) then bif inb i a.length then jcN (nth (0,0,0,eS,[],[],0,eS,[],[],eS,eS) a i) λr=>bif inb i b.length then rec (upd b i r) (Z9J (i+1)) else none else none else d b
def j96 (a:List qP):((List qP)×Int)->((List qP)×Int->Res)->(((List qP)->Res))->Res:=λv rec q=>j3H a v.1 v.2 (λb i=>rec (b,i)) q
def jm4 (a:List qP)(n:Nat)(b:List qP)(i:Int)(d:(List qP)->Res):Res:=Z1e (j96 a) n (b,i) (d)
def jeM:Z1c Unit:=NdL 23 23 [.R 0 y20 .S,.R 3 y20 .O,.I 4] [] (λb f=>(b.2.1,b.2.2.1)) (λb v=>(b.1,v.1,v.2,())) (λf v=>()) (λb f=>j96 b.1) λb f g=>((λd=>g (.exit 0) [(3,v1 y20 d .O)] []))
theorem jl1:CN 0 58 Tryz.f14 jeM:=lK (Za5 jhO Zar) [] oN ([],[]) [(0,[3],[])] ([],[]) λ_ _ _ _ _=>by kernel_rfl
def j8A (a:List qP)(d:(List qP)->Res):Res:=bif Z9H (nI a.length) (nI a.length) then jm4 a Z1b (Z9g (nI a.length) (0,0,0,eS,[],[],0,eS,[],[],eS,eS)) 0 λb=>d b else none
def jhk:Sig Unit:=sg [.borrow y20 false] [false] [(y20,none)] [] λd f k=>j8A d.1 (λb=>k [w1 y20 b .O] [] [])
theorem jnr:SO 14 jhk:=fK (np:=0) (Za5 jhO Zar) [jeM] (oI 58 0 @jl1 oN) false Tryz.func14 λ_ _ _ _=>by kernel_rfl
def j3y (a:List qP)(b:List qP)(i:Int)(rec:Int->Res)(d:Unit->Res)(f:Unit->Res):Res:=bif decide (i<(nI a.length)) then bif inb i a.length then bif inb i b.length then jcJ (nth (0,0,0,eS,[],[],0,eS,[],[],eS,eS) a i) (nth (0,0,0,eS,[],[],0,eS,[],[],eS,eS) b i) λr=>bif !r then f () else rec (Z9J (i+1)) else none else none else d ()
def jdn (a:List qP)(b:List qP):Int->(Int->Res)->((Unit->Res)×(Unit->Res))->Res:=λv rec q=>j3y a b v (λi=>rec (i)) q.1 q.2
def jfL (a:List qP)(b:List qP)(n:Nat)(i:Int)(d:Unit->Res)(f:Unit->Res):Res:=Z1e (jdn a b) n (i) (d,f)
def jeD:Z1c Unit:=NdL 27 27 [.R 0 y20 .S,.R 1 y20 .S,.I 5] [] (λb d=>(b.2.2.1)) (λb v=>(b.1,b.2.1,v,())) (λd v=>()) (λb d=>jdn b.1 b.2.1) λb d f=>((λ_=>f (.exit 0) [] []),(λ_=>f .ret [(4,vB false)] []))
theorem jkS:CN 0 58 Tryz.f18 jeD:=lK (Za5 jhK Zar) [] oN ([],[]) [(0,[],[])] ([4],[]) λ_ _ _ _ _=>by kernel_rfl
def j8u (a:List qP)(b:List qP)(d:Bool->Res):Res:=bif ((nI a.length) != (nI b.length)) then d false else jfL a b Z1b 0 (λ_=>d true) (λ_=>d false)
def jhe:Sig Unit:=sg [.look y20 false,.look y20 false] [false] [(y20,none),(y20,none)] [] λb f k=>j8u b.1 b.2.1 (λd=>k [wB d] [] [])
theorem jnj:SO 18 jhe:=fK (np:=0) (Za5 jhK Zar) [jeD] (oI 58 0 @jkS oN) false Tryz.func18 λ_ _ _ _=>by kernel_rfl
end
end Go.PI.G
namespace Go.PI.G
noncomputable section
open Go Go.PI Go.Proofs
open Go.Code (pl pr)
def j5r (a:(List qP)×qL×(qD×Int×Int)×(qD×Int×Int)×List (List Int)×List Int)(left:Int)(b:Int->Res):Res:=j8x a.1 left λr=>bif decide (r<0) then b (-1) else ja4 a.2.1 r λd=>bif decide (d<0) then b (-1) else j7P a.2.2.1 d λf=>bif decide (f<0) then b (-1) else j7P a.2.2.2.1 f λg=>bif decide (g<0) then b (-1) else ja1 a.2.2.2.2.1 g λh=>bif decide (h<0) then b (-1) else j8w a.2.2.2.2.2 h λi=>bif decide (i<0) then b (-1) else b i
def jfV:Sig Unit:=sg [.look y36 true,.look tI false] [false] [(y36,none),(tI,none)] [] λb f k=>j5r b.1 b.2.1 (λd=>k [wI d] [] [])
theorem jlK:SO 5 jfV:=fK (np:=0) (Za5 joy (Za5 jnn (Za5 jow (Za5 jox (Za5 jnm Zar))))) [] oN false Tryz.func5 λ_ _ _ _=>by delta j5r jhh jiu jis jit jhg;refine gz j8x λ_ b=>gz ja4 λ_ d=>gz j7P λ_ f=>gz ja1 λ_ g=>gz j8w λ_ h=> ?_;rewrite[<-b,<-d,<-f,<-g,<-h];kernel_rfl
def j2c (a:(List qP)×qL×(qD×Int×Int)×(qD×Int×Int)×List (List Int)×List Int)(b:((List qP)×qL×(qD×Int×Int)×(qD×Int×Int)×List (List Int)×List Int)->Res):Res:=j8A a.1 λr=>jab a.2.1 λd=>j7S a.2.2.1 λf=>j7S a.2.2.2.1 λg=>ja9 a.2.2.2.2.1 λh=>j8z a.2.2.2.2.2 λi=>b (r,d,f,g,h,i)
def jfX:Sig Unit:=sg [.borrow y36 true] [true] [(y36,none)] [] λd f k=>j2c d.1 (λb=>k [⟨y36,true,b,[.O,.O,.O,.O,.O,.O,.O,.O]⟩] [] [])
theorem jlO:SO 7 jfX:=fK (np:=0) (Za5 joD (Za5 jnr (Za5 joB (Za5 joC (Za5 jnq Zar))))) [] oN false Tryz.func7 λ_ _ _ _=>by delta j2c jhk jiA jiy jiz jhj;refine gz j8A λ_ b=>gz jab λ_ d=>gz j7S λ_ f=>gz ja9 λ_ g=>gz j8z λ_ h=> ?_;rewrite[<-b,<-d,<-f,<-g,<-h];kernel_rfl
def j5q (a:(List qP)×qL×(qD×Int×Int)×(qD×Int×Int)×List (List Int)×List Int)(b:(List qP)×qL×(qD×Int×Int)×(qD×Int×Int)×List (List Int)×List Int)(d:Bool->Res):Res:=j8u a.1 b.1 λr=>bif !r then d false else j9X a.2.1 b.2.1 λf=>bif !f then d false else j7M a.2.2.1 b.2.2.1 λg=>bif !g then d false else j7M a.2.2.2.1 b.2.2.2.1 λh=>bif !h then d false else j9V a.2.2.2.2.1 b.2.2.2.2.1 λi=>bif !i then d false else j8t a.2.2.2.2.2 b.2.2.2.2.2 λj=>bif !j then d false else d true
def jfT:Sig Unit:=sg [.look y36 true,.look y36 true] [false] [(y36,none),(y36,none)] [] λb f k=>j5q b.1 b.2.1 (λd=>k [wB d] [] [])
theorem jlG:SO 9 jfT:=fK (np:=0) (Za5 jot (Za5 jnj (Za5 jor (Za5 jos (Za5 jni Zar))))) [] oN false Tryz.func9 λ_ _ _ _=>by delta j5q jhe jio jim jin jhd;refine gz j8u λ_ b=>gz j9X λ_ d=>gz j7M λ_ f=>gz j9V λ_ g=>gz j8t λ_ h=> ?_;rewrite[<-b,<-d,<-f,<-g,<-h];kernel_rfl
end
end Go.PI.G
namespace Go.PI.G
open Go Go.PI Go.Proofs
open Go.Code (pl pr)
noncomputable def j1M (b:(List qP)×qL×(qD×Int×Int)×(qD×Int×Int)×List (List Int)×List Int)(d:Bool->Res):Res:=j5r b 1048576 λr=>bif decide (r<0) then d true else j2c b λg=>j5Q g λh=>j2c b λf=>j5m f λi=>bif !(i==h) then d false else j2c b λj=>j5q f j λk=>bif !k then d false else d true
noncomputable def j1i:Sig Unit:=⟨[.borrow y36 true],[false],λvals ext k=>av vals y36 λb vals=>nl vals<|nl ext<|j1M b (λd=>k [wB d] [] [])⟩
theorem jfo:Z16 Tryz.prog 3 j1i:=jtj (np:=0) follows j2t (Za5 jlK (Za5 jlS (Za5 jlO (Za5 jlz (Za5 jlG Zar))))) [] oN false Tryz.func3 λ_ _ k _ h=>aV h λ_ _ _ _ _ h=>nL h λ_ h=>nL h λ_ h=>by subst_vars;exact .trans (by delta j1M jfV jfX jfZ jfQ jfT;refine gz j5r λ_ b=>gz j2c λ_ d=>gz j5Q λ_ f=>gz j5m λ_ g=>gz j5q λ_ i=> ?_;rewrite[<-b,<-d,<-f,<-g,<-i];kernel_rfl) h
end Go.PI.G
